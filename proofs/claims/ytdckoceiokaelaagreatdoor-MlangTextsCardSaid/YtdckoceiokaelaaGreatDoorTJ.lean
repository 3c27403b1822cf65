/-
  Part TJ of the proof. What is proved by the whole: the statement that the claim names, with no condition. This part: lemmas.
-/
import Derived.Test.YtdckoceiokaelaaGreatDoorTI
set_option linter.unusedSimpArgs false
set_option linter.unusedVariables false

section
set_option linter.all false
set_option maxRecDepth 100000
set_option maxHeartbeats 4000000
namespace Go.Vm
open Go.Proofs
theorem sy_mval (z k:D)(l:List (List D)):sy.mval z k l=mval z k l:=rfl
theorem sy_mput (k x:D)(l:List (List D)):sy.mput k x l=mput k x l:=rfl
def encT (l:List ByteArray):List (List D):=l.map fun s=>[.str s, .int .i64 1]
theorem key_str (a b:ByteArray):keyIs (.str a) (.str b)=decide (a=b):=by
 show(a == b)=_
 have h:(a == b)=(a.data == b.data):=rfl
 rw[h,Bool.eq_iff_iff,beq_iff_eq,decide_eq_true_eq]
 exact⟨fun h=>by cases a;cases b;simp_all,fun h=>by rw[h]⟩
theorem midxT {x:ByteArray}: ∀ {l:List ByteArray},x ∉ l→midx (.str x) (encT l)=none
 | [],_=>rfl
 |y::l,h=>by
  have h1: ¬x=y:=fun e=>h (by rw[e];exact List.mem_cons_self)
  have h2:x ∉ l:=fun e=>h (List.mem_cons_of_mem _ e)
  show midx (.str x) ((D.str y::[.int .i64 1])::encT l)=none
  have hk:keyIs (.str x) (.str y)=false:=by rw[key_str];exact decF h1
  simp only [midx,hk,midxT h2];rfl
theorem mvalT {x:ByteArray}: ∀ {l:List ByteArray},x∈l→mval (.int .i64 0) (.str x) (encT l)= .int .i64 1
 |y::l,h=>by
  show mval (.int .i64 0) (.str x) ((D.str y::[.int .i64 1])::encT l)=_
  by_cases he:x=y
  ·have hk:keyIs (.str x) (.str y)=true:=by rw[key_str];exact decT he
   simp only [mval,mget,midx,hk];rfl
  ·have hm:x∈l:=by
    rcases List.mem_cons.1 h with e|e
    ·exact absurd e he
    ·exact e
   have ih:=mvalT hm
   have hk:keyIs (.str x) (.str y)=false:=by rw[key_str];exact decF he
   simp only [mval,mget,midx,hk]at ih ⊢
   rw[←ih]
   cases midx (.str x) (encT l)<;>rfl
theorem mvalT0 {x:ByteArray}{l:List ByteArray}(h:x ∉ l):mval (.int .i64 0) (.str x) (encT l)= .int .i64 0:=by
 unfold mval mget;rw[midxT h];rfl
theorem mputT {x:ByteArray}{l:List ByteArray}(h:x ∉ l):mput (.str x) (.int .i64 1) (encT l)=encT (l++[x]):=by
 unfold mput;rw[midxT h];simp [encT]
theorem nodup_snoc {l:List ByteArray}{i:Nat}{x:ByteArray}(h:l[i]? =some x)(hn:(l.take i).Nodup)(hx:x ∉ l.take i):(l.take (i+1)).Nodup:=by
 rw[List.take_add_one,h,Option.toList_some,List.nodup_append]
 exact⟨hn,by simp,fun a ha b hb=>by simp at hb;rw[hb];exact fun e=>hx (e▸ha)⟩
theorem nodup_not {l:List ByteArray}{i:Nat}{x:ByteArray}(h:l[i]? =some x)(hx:x∈l.take i): ¬l.Nodup:=by
 intro hn
 have hd:l=l.take i++l.drop i:=(List.take_append_drop i l).symm
 rw[hd,List.nodup_append]at hn
 refine hn.2.2 x hx x ?_ rfl
 have:(l.drop i)[0]? =some x:=by simpa using h
 exact List.mem_of_getElem? this
theorem c_iOnce (l:List ByteArray)(hl:l.length≤1000000):cF 28 [.d (.sl 1 (srows l))]=some (.val [.bool (decide l.Nodup)]):=by
 refine cOf (by kernel_rfl) rfl ?_
 rw[g28_eq]
 simp only [g28,go1,Nat.reduceAdd,Int.reduceEq,Int.reduceLT,Int.reduceLE,Int.reduceSub,Int.reduceAdd,srows_len]
 refine loopF_at (fun i:Nat=>[.sl 1 (srows l), .int .i64 (l.length:Int), .int .i64 (i:Int), .sl 2 (encT (l.take i))]) (fun i=>i≤l.length∧(l.take i).Nodup) (fun i=>l.length - i) (fun i hi=> ?_) 0 ⟨Nat.zero_le _,by simp⟩
 by_cases hlt:i < l.length
 ·have hx:=List.getElem?_eq_getElem hlt
  by_cases hm:l[i]∈l.take i
  ·right
   rw[decF (nodup_not hx hm)]
   simp only [go1,Nat.reduceAdd,Int.reduceEq,Int.reduceLT,Int.reduceLE,Int.reduceSub,Int.reduceAdd,srows_len,ilt_at hlt,inr_at hlt,srows_at hx,sy_mval,mvalT hm]
  ·left
   refine⟨i+1,?_,⟨hlt,nodup_snoc hx hi.2 hm⟩,by omega⟩
   have hw:IntKind.i64.wrap 1=1:=rfl
   simp only [go1,Nat.reduceAdd,Int.reduceEq,Int.reduceLT,Int.reduceLE,Int.reduceSub,Int.reduceAdd,srows_len,ilt_at hlt,inr_at hlt,srows_at hx,sy_mval,sy_mput,mvalT0 hm,hw,mputT hm,wrap_succ hlt (by omega)]
   rw[List.take_add_one,hx];rfl
 ·right
  have:i=l.length:=by omega
  subst this
  simp only [go1,Nat.reduceAdd,Int.reduceEq,Int.reduceLT,Int.reduceLE,Int.reduceSub,Int.reduceAdd,srows_len,ilt_self]
  rw[List.take_length]at hi
  rw[decT hi.2]
theorem rep_loop {α:Type}{b:List D→Option (List D ⊕ α)}{r:α}(n:Nat)(mk:Nat→List D)(hb: ∀i,i < n→b (mk i)=some (.inl (mk (i+1))))(hend:b (mk n)=some (.inr r)):loopF b (mk 0)=some r:=by
 refine loopF_at mk (fun i=>i≤n) (fun i=>n - i) (fun i hi=> ?_) 0 (Nat.zero_le _)
 by_cases h:i < n
 ·exact .inl ⟨i+1,hb i h,h,by omega⟩
 ·have:i=n:=by omega
  subst this
  exact .inr hend
theorem mem_take_at {l:List ByteArray}{i j:Nat}{y:ByteArray}(hj:j < i)(h:l[j]? =some y):y∈l.take i:=by
 refine List.mem_of_getElem? (i:=j) ?_
 rw[List.getElem?_take,if_pos hj,h]
theorem c_rOnce (l:List ByteArray)(hl:l.length≤1000000):cF 156 [.d (.sl 1 (srows l))]=some (.val [.bool (decide l.Nodup)]):=by
 refine cOf (by kernel_rfl) rfl ?_
 rw[g156_eq]
 simp only [g156,go1,Nat.reduceAdd,Int.reduceEq,Int.reduceLT,Int.reduceLE,Int.reduceSub,Int.reduceAdd]
 refine loopF_at (fun i:Nat=>[.sl 1 (srows l), .int .i64 (i:Int)]) (fun i=>i≤l.length∧(l.take i).Nodup) (fun i=>l.length - i) (fun i hi=> ?_) 0 ⟨Nat.zero_le _,by simp⟩
 by_cases hlt:i < l.length
 ·have hx:=List.getElem?_eq_getElem hlt
  simp only [go1,Nat.reduceAdd,Int.reduceEq,Int.reduceLT,Int.reduceLE,Int.reduceSub,Int.reduceAdd,srows_len,ilt_at hlt]
  by_cases hm:l[i]∈l.take i
  ·right
   rw[decF (nodup_not hx hm)]
   refine loopF_at (fun j:Nat=>[.sl 1 (srows l), .int .i64 (i:Int), .int .i64 (j:Int)]) (fun j=>j≤i∧ ∃k,j≤k∧k < i∧l[k]? =some l[i]) (fun j=>i - j) (fun j hj=> ?_) 0 ⟨Nat.zero_le _,?_⟩
   ·obtain⟨hj,k,hk1,hk2,hk3⟩:=hj
    have hjl:j < i:=by omega
    have hjl2:j < l.length:=by omega
    have hy:=List.getElem?_eq_getElem hjl2
    by_cases he:tb l[j]=tb l[i]
    ·right
     simp only [go1,Nat.reduceAdd,Int.reduceEq,Int.reduceLT,Int.reduceLE,Int.reduceSub,Int.reduceAdd,srows_len,ilt_at hjl,inr_at hlt,inr_at hjl2,srows_at hx,srows_at hy,seq_tb,decT he]
    ·left
     refine⟨j+1,?_,⟨hjl,k,?_,hk2,hk3⟩,by omega⟩
     ·simp only [go1,Nat.reduceAdd,Int.reduceEq,Int.reduceLT,Int.reduceLE,Int.reduceSub,Int.reduceAdd,srows_len,ilt_at hjl,inr_at hlt,inr_at hjl2,srows_at hx,srows_at hy,seq_tb,decF he,wrap_succ hjl (by omega)]
      rfl
     ·rcases Nat.lt_or_ge j k with h|h
      ·exact h
      ·have:j=k:=by omega
       subst this
       rw[hy]at hk3
       exact absurd (by rw[Option.some.inj hk3]) he
   ·obtain⟨k,hk⟩:=List.getElem?_of_mem hm
    rw[List.getElem?_take]at hk
    split at hk
    ·rename_i hki
     exact⟨k,Nat.zero_le _,hki,hk⟩
    ·cases hk
  ·left
   refine⟨i+1,?_,⟨hlt,nodup_snoc hx hi.2 hm⟩,by omega⟩
   refine rep_loop i (fun j=>[.sl 1 (srows l), .int .i64 (i:Int), .int .i64 (j:Int)]) (fun j hjl=> ?_) ?_
   ·have hjl2:j < l.length:=by omega
    have hy:=List.getElem?_eq_getElem hjl2
    have he: ¬tb l[j]=tb l[i]:=fun e=>hm (by rw[←tb_inj e];exact mem_take_at hjl hy)
    simp only [go1,Nat.reduceAdd,Int.reduceEq,Int.reduceLT,Int.reduceLE,Int.reduceSub,Int.reduceAdd,srows_len,ilt_at hjl,inr_at hlt,inr_at hjl2,srows_at hx,srows_at hy,seq_tb,decF he,wrap_succ hjl (by omega)]
    rfl
   ·simp only [go1,Nat.reduceAdd,Int.reduceEq,Int.reduceLT,Int.reduceLE,Int.reduceSub,Int.reduceAdd,ilt_self,wrap_succ hlt (by omega)]
    rfl
 ·right
  have:i=l.length:=by omega
  subst this
  simp only [go1,Nat.reduceAdd,Int.reduceEq,Int.reduceLT,Int.reduceLE,Int.reduceSub,Int.reduceAdd,srows_len,ilt_self]
  rw[List.take_length]at hi
  rw[decT hi.2]
theorem all_loop {τ α:Type}{b:List D→Option (List D ⊕ α)}{r0 r1:α}(p:τ→Bool)(l:List τ)(mk:Nat→List D)
  (hb: ∀i x,l[i]? =some x→b (mk i)=bif p x then some (.inl (mk (i+1)))else some (.inr r0))
  (hend:l.all p=true→b (mk l.length)=some (.inr r1)):loopF b (mk 0)=some (bif l.all p then r1 else r0):=by
 suffices ∀(rest:List τ) (i:Nat),l.drop i=rest→i≤l.length→(l.take i).all p=true→loopF b (mk i)=some (bif rest.all p then r1 else r0)from this l 0 rfl (Nat.zero_le _) rfl
 intro rest
 induction rest with
 |nil=>
  intro i hd hi ht
  have:i=l.length:=by have:=congrArg List.length hd;simp at this;omega
  subst this
  rw[List.take_length]at ht
  rw[loopF_eq,hend ht]
  rfl
 |cons x xs ih=>
  intro i hd hi ht
  have hx:l[i]? =some x:=by
   have:=congrArg (fun r=>r[0]?) hd
   simpa using this
  have hlt:i < l.length:=(List.getElem?_eq_some_iff.1 hx).1
  have hxs:l.drop (i+1)=xs:=by
   have:=congrArg List.tail hd
   simpa using this
  rw[loopF_eq,hb i x hx]
  cases hp:p x with
  |false=>simp [List.all_cons,hp]
  |true=>
   simp only [cond_true,List.all_cons,hp,Bool.true_and]
   refine ih (i+1) hxs hlt ?_
   rw[List.take_add_one,hx,List.all_append,ht]
   simp [hp]
theorem all_loop2 {τ α:Type}{b:List D→Option (List D ⊕ α)}{r0 r1 r:α}{ds:List D}(p:τ→Bool)(l:List τ)(mk:Nat→List D)(h0:mk 0=ds)
  (hb: ∀i x,l[i]? =some x→b (mk i)=bif p x then some (.inl (mk (i+1)))else some (.inr r0))
  (hend:l.all p=true→b (mk l.length)=some (.inr r1)) (hr:(bif l.all p then r1 else r0)=r):loopF b ds=some r:=by
 rw[←h0,all_loop p l mk hb hend,hr]
theorem row_of {l:List Ex}{i:Nat}{k n:Int}{s:ByteArray}{o:Int}{a:List ByteArray}{u:List Ex}(h:l[i]? =some (.mk k n s o a u)):sy.row (Ex.rows l) (i:Int)= [.int .i64 k, .int .i64 n, .str s, .int .i64 o, .sl 1 (srows a), .sl 6 (Ex.rows u)]:=xrow h
theorem u_len {l:List Ex}{i:Nat}{k n:Int}{s:ByteArray}{o:Int}{a:List ByteArray}{u:List Ex}(h:l[i]? =some (.mk k n s o a u))(hl:Ex.sizes l≤1000000):u.length≤1000000:=by
 have h1:=sizes_mem h
 have h2:=sizes_len u
 simp only [Ex.size]at h1
 omega
theorem c_eConst1 (k n:Int)(s:ByteArray)(o:Int)(a:List ByteArray)(u:List Ex)(hu:u.length≤1000000):cF 146 [kE k n s o (srows a) (Ex.rows u)]=some (.val [.bool (!litS (.mk k n s o a u))]):=by
 have h:=c_eliteral k n s o a u hu
 refine cOf (by kernel_rfl) rfl ?_
 rw[g146_eq]
 simp only [g146,go1,Nat.reduceAdd,Int.reduceEq,Int.reduceLT,Int.reduceLE,Int.reduceSub,Int.reduceAdd,h]
theorem c_xIdxEx (l:List Ex)(hl:Ex.sizes l≤1000000): ∃i:Int,cF 174 [.d (.sl 6 (Ex.rows l)), .fn 146 []]=some (.val [.int .i64 i])∧decide (0≤i)=l.any fun s=> !litS s:=by
 have hlen:=sizes_len l
 cases hall:l.any fun s=> !litS s with
 |false=>
  refine⟨-1,?_,rfl⟩
  refine cOf (by kernel_rfl) rfl ?_
  rw[g174_146_eq]
  simp only [g174_146,go1,Nat.reduceAdd,Int.reduceEq,Int.reduceLT,Int.reduceLE,Int.reduceSub,Int.reduceAdd,rows_len]
  refine loopF_at (fun i:Nat=>[.sl 6 (Ex.rows l), .int .i64 (l.length:Int), .int .i64 (i:Int)]) (fun i=>i≤l.length) (fun i=>l.length - i) (fun i hi=> ?_) 0 (Nat.zero_le _)
  by_cases hlt:i < l.length
  ·left
   refine⟨i+1,?_,hlt,by omega⟩
   have hx:=List.getElem?_eq_getElem hlt
   have h0:(!litS l[i])=false:=by
    have:=(List.any_eq_false.1 hall) l[i] (List.getElem_mem hlt)
    simpa using this
   generalize l[i]=e at hx h0
   obtain⟨k,n,s,o,a,u⟩:=e
   have h:=c_eConst1 k n s o a u (u_len hx hl)
   simp only [go1,Nat.reduceAdd,Int.reduceEq,Int.reduceLT,Int.reduceLE,Int.reduceSub,Int.reduceAdd,rows_len,ilt_at hlt,inr_at hlt,row_of hx,oE,h,h0,wrap_succ hlt (by omega)]
   rfl
  ·right
   have:i=l.length:=by omega
   subst this
   simp only [go1,Nat.reduceAdd,Int.reduceEq,Int.reduceLT,Int.reduceLE,Int.reduceSub,Int.reduceAdd,rows_len,ilt_self]
 |true=>
  have hj:=List.findIdx_lt_length_of_exists (List.any_eq_true.1 hall)
  refine⟨((l.findIdx fun s=> !litS s:Nat):Int),?_,decide_eq_true (Int.natCast_nonneg _)⟩
  have hpj:=List.findIdx_getElem (w:=hj)
  generalize hJ:(l.findIdx fun s=> !litS s)=j at hj hpj
  refine cOf (by kernel_rfl) rfl ?_
  rw[g174_146_eq]
  simp only [g174_146,go1,Nat.reduceAdd,Int.reduceEq,Int.reduceLT,Int.reduceLE,Int.reduceSub,Int.reduceAdd,rows_len]
  refine loopF_at (fun i:Nat=>[.sl 6 (Ex.rows l), .int .i64 (l.length:Int), .int .i64 (i:Int)]) (fun i=>i≤j) (fun i=>l.length - i) (fun i hi=> ?_) 0 (Nat.zero_le _)
  have hlt:i < l.length:=by omega
  have hx:=List.getElem?_eq_getElem hlt
  by_cases hij:i < j
  ·left
   refine⟨i+1,?_,hij,by omega⟩
   have h0:(!litS l[i])=false:=by
    have:=List.not_of_lt_findIdx (p:=fun s=> !litS s) (xs:=l) (i:=i) (by omega)
    simpa using this
   generalize l[i]=e at hx h0
   obtain⟨k,n,s,o,a,u⟩:=e
   have h:=c_eConst1 k n s o a u (u_len hx hl)
   simp only [go1,Nat.reduceAdd,Int.reduceEq,Int.reduceLT,Int.reduceLE,Int.reduceSub,Int.reduceAdd,rows_len,ilt_at hlt,inr_at hlt,row_of hx,oE,h,h0,wrap_succ hlt (by omega)]
   rfl
  ·right
   have:i=j:=by omega
   subst this
   have h0:(!litS l[i])=true:=hpj
   generalize l[i]=e at hx h0
   obtain⟨k,n,s,o,a,u⟩:=e
   have h:=c_eConst1 k n s o a u (u_len hx hl)
   simp only [go1,Nat.reduceAdd,Int.reduceEq,Int.reduceLT,Int.reduceLE,Int.reduceSub,Int.reduceAdd,rows_len,ilt_at hlt,inr_at hlt,row_of hx,oE,h,h0]
theorem c_xContEx (l:List Ex)(hl:Ex.sizes l≤1000000):cF 145 [.d (.sl 6 (Ex.rows l)), .fn 146 []]=some (.val [.bool (!l.all litS)]):=by
 obtain⟨i,h1,h2⟩:=c_xIdxEx l hl
 refine cOf (by kernel_rfl) rfl ?_
 rw[g145_146_eq]
 simp only [g145_146,go1,Nat.reduceAdd,Int.reduceEq,Int.reduceLT,Int.reduceLE,Int.reduceSub,Int.reduceAdd,h1]
 rw[h2,List.not_all_eq_any_not]
theorem c_eConst (k n:Int)(s:ByteArray)(o:Int)(a:List ByteArray)(u:List Ex)(hu:Ex.sizes u≤1000000):cF 103 [kE k n s o (srows a) (Ex.rows u)]=some (.val [.bool (constS (.mk k n s o a u))]):=by
 have hl:=sizes_len u
 have h1:=c_eliteral k n s o a u (by omega)
 have h2:=c_xContEx u hu
 refine cOf (by kernel_rfl) rfl ?_
 rw[g103_eq]
 simp only [g103,go1,Nat.reduceAdd,Int.reduceEq,Int.reduceLT,Int.reduceLE,Int.reduceSub,Int.reduceAdd,h1,h2]
 by_cases hk:k=14
 ·simp only [constS,decT hk,go1,Nat.reduceAdd,Int.reduceEq,Int.reduceLT,Int.reduceLE,Int.reduceSub,Int.reduceAdd,Bool.not_true,Bool.not_not]
 ·simp only [constS,decF hk,go1,Nat.reduceAdd,Int.reduceEq,Int.reduceLT,Int.reduceLE,Int.reduceSub,Int.reduceAdd,Bool.not_false]
theorem c_reConst (k n:Int)(s:ByteArray)(o:Int)(a:List ByteArray)(u:List Ex)(hu:Ex.sizes u≤1000000):cF 116 [kE k n s o (srows a) (Ex.rows u)]=some (.val [.bool (constS (.mk k n s o a u))]):=by
 have hl:=sizes_len u
 have h1:=c_rliteral k n s o a u (by omega)
 refine cOf (by kernel_rfl) rfl ?_
 rw[g116_eq]
 simp only [g116,go1,Nat.reduceAdd,Int.reduceEq,Int.reduceLT,Int.reduceLE,Int.reduceSub,Int.reduceAdd,h1]
 by_cases hk:k=14
 ·simp only [constS,decT hk,go1,Nat.reduceAdd,Int.reduceEq,Int.reduceLT,Int.reduceLE,Int.reduceSub,Int.reduceAdd,Bool.not_true]
  refine all_loop2 litS u (fun i:Nat=>[.int .i64 (i:Int), .int .i64 k, .int .i64 n, .str s, .int .i64 o, .sl 1 (srows a), .sl 6 (Ex.rows u)]) rfl (r0:= .val [.bool false]) (r1:= .val [.bool true]) (fun i e hx=> ?_) (fun _=> ?_) (by cases u.all litS<;>rfl)
  ·have hlt:=(List.getElem?_eq_some_iff.1 hx).1
   obtain⟨k2,n2,s2,o2,a2,u2⟩:=e
   have h:=c_rliteral k2 n2 s2 o2 a2 u2 (u_len hx hu)
   simp only [go1,Nat.reduceAdd,Int.reduceEq,Int.reduceLT,Int.reduceLE,Int.reduceSub,Int.reduceAdd,oE,rows_len,ilt_at hlt,inr_at hlt,row_of hx,h]
   cases litS (.mk k2 n2 s2 o2 a2 u2)with
   |true=>simp only [go1,Nat.reduceAdd,Int.reduceEq,Int.reduceLT,Int.reduceLE,Int.reduceSub,Int.reduceAdd,Bool.not_true,wrap_succ hlt (by omega)];rfl
   |false=>rfl
  ·simp only [go1,Nat.reduceAdd,Int.reduceEq,Int.reduceLT,Int.reduceLE,Int.reduceSub,Int.reduceAdd,oE,rows_len,ilt_self]
 ·simp only [constS,decF hk,go1,Nat.reduceAdd,Int.reduceEq,Int.reduceLT,Int.reduceLE,Int.reduceSub,Int.reduceAdd,Bool.not_false]
end Go.Vm
end

section
set_option linter.all false
set_option maxRecDepth 100000
set_option maxHeartbeats 4000000
namespace Go.Vm
open Go.Proofs
theorem arms_eq (k:Int)(a:List ByteArray):((!(decide ((if k=11 then(1:Int)else if k=12 then 6 else 0) < (a.length:Int)) || (decide (0 < (if k=11 then(1:Int)else if k=12 then 6 else 0))&&decide ((a.length:Int)=0))))&&(decide a.Nodup&&a.all armN))=armsB k a:=by
 unfold armsB
 by_cases h1:k=11
 ·subst h1
  match a with
  | []=>rfl
  | [x]=>simp
  |x::y::r=>
   have:decide ((1:Int) < ((x::y::r).length:Int))=true:=decide_eq_true (by simp only [List.length_cons];omega)
   have h2:decide ((x::y::r).length=1)=false:=decide_eq_false (by simp only [List.length_cons];omega)
   simp only [if_true,this,Bool.true_or,Bool.not_true,Bool.false_and,decide_true,cond_true,h2,Bool.and_false]
 ·by_cases h2:k=12
  ·subst h2
   have e1:decide ((6:Int) < (a.length:Int))= !decide (a.length≤6):=by rw[Bool.eq_iff_iff];simp;omega
   have e2:decide ((a.length:Int)=0)= !decide (1≤a.length):=by rw[Bool.eq_iff_iff];simp;try omega
   have e3:decide ((12:Int)=11)=false:=rfl
   have e4:decide ((0:Int) < 6)=true:=rfl
   simp only [if_neg h1,if_true,e1,e2,e3,e4,decide_true,cond_true,cond_false,Bool.true_and]
   cases decide (a.length≤6)<;>cases decide (1≤a.length)<;>cases decide a.Nodup<;>cases a.all armN<;>rfl
  ·have e4:decide ((0:Int) < 0)=false:=rfl
   simp only [if_neg h1,if_neg h2,decF h1,decF h2,cond_false,e4,Bool.false_and,Bool.or_false]
   match a with
   | []=>rfl
   |x::r=>
    have h3:decide ((0:Int) < ((x::r).length:Int))=true:=decide_eq_true (by simp only [List.length_cons];omega)
    have h4:decide ((x::r).length=0)=false:=rfl
    rw[h3,h4];try simp
theorem nlt (a b:Int):decide (a < b)= !decide (b≤a):=by
 rw[Bool.eq_iff_iff];simp
theorem c_epart (k n:Int)(s:ByteArray)(o:Int)(a:List ByteArray)(u:List Ex)(hs:s.size≤100000)(ha:a.length≤1000000)(hu:Ex.sizes u≤1000000):
  cF 56 [kE k n s o (srows a) (Ex.rows u)]=some (.val [.bool (partB (.mk k n s o a u))]):=by
 have h1:=c_eof k n s o a (Ex.rows u) hs
 have h2:=c_iOnce a ha
 have h3:=c_xContFn a ha
 have h4:=rows_len u
 have h5:=srows_len a
 simp only [partB]
 rw[←arms_eq]
 refine cOf (by kernel_rfl) rfl ?_
 rw[g56_eq]
 simp only [g56,go1,Nat.reduceAdd,Int.reduceEq,Int.reduceLT,Int.reduceLE,Int.reduceSub,Int.reduceAdd,h1,h2,h3,h4,h5]
 cases hk:kindB k with
 |false=>simp only [go1,Nat.reduceAdd,Int.reduceEq,Int.reduceLT,Int.reduceLE,Int.reduceSub,Int.reduceAdd,oQ];try rfl
 |true=>
  simp only [go1,Nat.reduceAdd,Int.reduceEq,Int.reduceLT,Int.reduceLE,Int.reduceSub,Int.reduceAdd,oQ,nlt,h2,h3]
  cases numB k n with
  |false=>simp only [go1,Nat.reduceAdd,Int.reduceEq,Int.reduceLT,Int.reduceLE,Int.reduceSub,Int.reduceAdd,Bool.not_false,Bool.not_true];try rfl
  |true=>
   cases nameB k s with
   |false=>simp only [go1,Nat.reduceAdd,Int.reduceEq,Int.reduceLT,Int.reduceLE,Int.reduceSub,Int.reduceAdd,Bool.not_false,Bool.not_true];try rfl
   |true=>
    cases opB_ k o with
    |false=>simp only [go1,Nat.reduceAdd,Int.reduceEq,Int.reduceLT,Int.reduceLE,Int.reduceSub,Int.reduceAdd,Bool.not_false,Bool.not_true];try rfl
    |true=>
     simp only [go1,Nat.reduceAdd,Int.reduceEq,Int.reduceLT,Int.reduceLE,Int.reduceSub,Int.reduceAdd,Bool.not_true]
     cases hlo:decide (loB k n a.length≤(u.length:Int))with
     |false=>simp only [go1,Nat.reduceAdd,Int.reduceEq,Int.reduceLT,Int.reduceLE,Int.reduceSub,Int.reduceAdd,Bool.not_false,Bool.not_true,Bool.true_or,Bool.false_and,Bool.and_false]
     |true=>
      generalize (if k=11 then(1:Int)else if k=12 then 6 else 0)=M
      generalize (!decide ((a.length:Int)≤M) || !decide (M≤0)&&decide ((a.length:Int)=0))=X
      cases decide ((u.length:Int)≤hiB k n a.length)with
      |false=>simp only [go1,Nat.reduceAdd,Int.reduceEq,Int.reduceLT,Int.reduceLE,Int.reduceSub,Int.reduceAdd,Bool.not_false,Bool.not_true,Bool.or_true,Bool.false_and,Bool.and_false]
      |true=>
       cases X with
       |true=>simp only [go1,Nat.reduceAdd,Int.reduceEq,Int.reduceLT,Int.reduceLE,Int.reduceSub,Int.reduceAdd,Bool.not_true,Bool.true_or,Bool.false_or,Bool.false_and]
       |false=>
        cases decide a.Nodup with
        |false=>simp only [go1,Nat.reduceAdd,Int.reduceEq,Int.reduceLT,Int.reduceLE,Int.reduceSub,Int.reduceAdd,Bool.not_true,Bool.not_false,Bool.or_true,Bool.or_false,Bool.false_or,Bool.false_and,Bool.true_and]
        |true=>
         cases a.all armN with
         |false=>simp only [go1,Nat.reduceAdd,Int.reduceEq,Int.reduceLT,Int.reduceLE,Int.reduceSub,Int.reduceAdd,Bool.not_true,Bool.not_false,Bool.or_true,Bool.or_false,Bool.false_or,Bool.false_and,Bool.true_and]
         |true=>
          simp only [go1,Nat.reduceAdd,Int.reduceEq,Int.reduceLT,Int.reduceLE,Int.reduceSub,Int.reduceAdd,Bool.not_true,Bool.not_false,Bool.or_true,Bool.or_false,Bool.false_or,Bool.false_and,Bool.true_and]
          by_cases h8:k=8
          ·subst h8
           match u,hlo,hu with
           | [],hlo,_=>cases hlo
           | .mk k2 n2 s2 o2 a2 u2::u,hlo,hu=>
             have hx:(Ex.mk k2 n2 s2 o2 a2 u2::u)[0]? =some (.mk k2 n2 s2 o2 a2 u2):=rfl
             have hc:=c_eConst k2 n2 s2 o2 a2 u2 (by simp only [Ex.sizes,Ex.size]at hu;omega)
             have hr:sy.row (Ex.rows (.mk k2 n2 s2 o2 a2 u2::u)) 0= [.int .i64 k2, .int .i64 n2, .str s2, .int .i64 o2, .sl 1 (srows a2), .sl 6 (Ex.rows u2)]:=row_of hx
             have hz:decide (((Ex.mk k2 n2 s2 o2 a2 u2::u).length:Int)≤0)=false:=decide_eq_false (by simp only [List.length_cons];omega)
             simp only [go1,Nat.reduceAdd,Int.reduceEq,Int.reduceLT,Int.reduceLE,Int.reduceSub,Int.reduceAdd,hz,hr,oE,hc,conB,decide_true,Bool.not_true,Bool.not_false]
          ·simp only [go1,Nat.reduceAdd,Int.reduceEq,Int.reduceLT,Int.reduceLE,Int.reduceSub,Int.reduceAdd,decF h8,conB,Bool.not_false]
end Go.Vm
end

section
set_option linter.all false
set_option maxRecDepth 100000
set_option maxHeartbeats 4000000
namespace Go.Vm
open Go.Proofs
theorem drop_at {l:List Nat}{f i:Nat}(hf:f≤i)(hi:i < l.length):l.drop f=(l.take i).drop f++l.getD i 0::l.drop (i+1):=by
 have h1:l=l.take i++l.getD i 0::l.drop (i+1):=by
  rw[List.getD_eq_getElem?_getD,List.getElem?_eq_getElem hi]
  simp only [Option.getD_some]
  rw[List.getElem_cons_drop hi,List.take_append_drop]
 conv=>lhs;rw[h1]
 rw[List.drop_append_of_le_length (by rw[List.length_take];omega)]
theorem take_drop_snoc {l:List Nat}{f i:Nat}(hf:f≤i)(hi:i < l.length):(l.take (i+1)).drop f=(l.take i).drop f++[l.getD i 0]:=by
 rw[List.take_add_one,List.getElem?_eq_getElem hi,List.getD_eq_getElem?_getD,List.getElem?_eq_getElem hi]
 simp only [Option.toList_some,Option.getD_some]
 rw[List.drop_append_of_le_length (by rw[List.length_take];omega)]
theorem c_rcut (s:ByteArray)(c:Nat)(hs:s.size≤100000): ∃l:List ByteArray,cF 61 [.d (.str s), .d (.int .u8 (c:Int))]=some (.own 9 1 (srows l))∧l.map tb=splitN c (tb s):=by
 have hl:=tb_len s
 suffices ∃p,cF 61 [.d (.str s), .d (.int .u8 (c:Int))]=some p∧ ∃l:List ByteArray,p= .own 9 1 (srows l)∧l.map tb=splitN c (tb s) by
  obtain⟨_,h,l,rfl,hl⟩:=this
  exact⟨l,h,hl⟩
 refine cOfP (by kernel_rfl) rfl ?_
 rw[g61_eq]
 simp only [g61,go1,Nat.reduceAdd,Int.reduceEq,Int.reduceLT,Int.reduceLE,Int.reduceSub,Int.reduceAdd]
 refine loopF_ex (fun x:List ByteArray × Nat × Nat=>[.str s, .int .u8 (c:Int), .int .i64 (x.2.1:Int), .int .i64 (x.2.2:Int), .sl 1 (srows x.1)])
  (fun x=>x.1.length≤x.2.2∧((x.2.2≤(tb s).length∧x.2.1≤x.2.2∧splitN c (tb s)=x.1.map tb++splitN c ((tb s).drop x.2.1)∧ ∀y∈((tb s).take x.2.2).drop x.2.1,y≠c)∨(x.2.2=(tb s).length+1∧x.1.map tb=splitN c (tb s)))) (fun x=>(tb s).length+1 - x.2.2) (fun x hx=> ?_) ([],0,0) ⟨Nat.le_refl _, .inl ⟨Nat.zero_le _,Nat.le_refl _,rfl,by simp⟩⟩
 obtain⟨done,f,i⟩:=x
 obtain⟨hd,hx⟩:=hx
 simp only at hd hx
 rcases hx with⟨hi,hf,h1,h2⟩|⟨hi,h1⟩
 ·have hw:IntKind.i64.wrap ((i:Int)+1)=((i+1:Nat):Int):=by rw[wrap_id (by omega) (by omega)];rfl
  have hfit:decide ((done.length+1)*(16+1)≤140737488355328)=true:=decT (by omega)
  by_cases hlt:i < (tb s).length
  ·simp only [go1,Nat.reduceAdd,Int.reduceEq,Int.reduceLT,Int.reduceLE,Int.reduceSub,Int.reduceAdd,size_tb,byte_tb,srows_len,hw]
   rw[decT (p:=(i:Int)≤((tb s).length:Int)) (by omega),decF (p:=(i:Int)=((tb s).length:Int)) (by omega),decT (p:=0≤(i:Int)∧(i:Int) < ((tb s).length:Int)) (by omega)]
   by_cases hc:(tb s).getD i 0=c
   ·left
    refine⟨(done++[s.extract (f:Int).toNat (i:Int).toNat],i+1,i+1),?_,⟨?_, .inl ⟨hlt,Nat.le_refl _,?_,?_⟩⟩,(by show(tb s).length+1 - (i+1) < (tb s).length+1 - i;omega)⟩
    ·rw[decT (p:=(((tb s).getD i 0:Nat):Int)=(c:Int)) (by omega),decT (p:=0≤(f:Int)∧(f:Int)≤(i:Int)∧(i:Int)≤((tb s).length:Int)) (by omega)]
     simp only [go1,Nat.reduceAdd,Int.reduceEq,Int.reduceLT,Int.reduceLE,Int.reduceSub,Int.reduceAdd,List.length_singleton,hfit,srows,List.map_append,List.map_cons,List.map_nil,srow]
    ·simp;omega
    ·simp only
     rw[h1,drop_at hf hlt,hc,splitN_mark c _ _ h2,List.map_append,List.map_cons,List.map_nil,tb_scut,Int.toNat_natCast,Int.toNat_natCast]
     simp
    ·intro y hy
     simp only at hy
     rw[List.drop_of_length_le (by rw[List.length_take];omega)]at hy
     simp at hy
   ·left
    refine⟨(done,f,i+1),?_,⟨(by show done.length≤i+1;omega), .inl ⟨hlt,(by show f≤i+1;omega),h1,?_⟩⟩,(by show(tb s).length+1 - (i+1) < (tb s).length+1 - i;omega)⟩
    ·rw[decF (p:=(((tb s).getD i 0:Nat):Int)=(c:Int)) (by omega)]
     simp only [go1,Nat.reduceAdd,Int.reduceEq,Int.reduceLT,Int.reduceLE,Int.reduceSub,Int.reduceAdd];try rfl
    ·intro y hy
     simp only at hy
     rw[take_drop_snoc hf hlt]at hy
     rcases List.mem_append.1 hy with hy|hy
     ·exact h2 y hy
     ·simp at hy;rw[hy];simpa using hc
  ·have hie:i=(tb s).length:=by omega
   left
   refine⟨(done++[s.extract (f:Int).toNat (i:Int).toNat],i+1,i+1),?_,⟨(by simp;omega), .inr ⟨(by show i+1=(tb s).length+1;omega),?_⟩⟩,(by show(tb s).length+1 - (i+1) < (tb s).length+1 - i;omega)⟩
   ·simp only [go1,Nat.reduceAdd,Int.reduceEq,Int.reduceLT,Int.reduceLE,Int.reduceSub,Int.reduceAdd,size_tb,srows_len,hw]
    rw[decT (p:=(i:Int)≤((tb s).length:Int)) (by omega),decT (p:=(i:Int)=((tb s).length:Int)) (by omega),decT (p:=0≤(f:Int)∧(f:Int)≤(i:Int)∧(i:Int)≤((tb s).length:Int)) (by omega)]
    simp only [go1,Nat.reduceAdd,Int.reduceEq,Int.reduceLT,Int.reduceLE,Int.reduceSub,Int.reduceAdd,List.length_singleton,hfit,srows,List.map_append,List.map_cons,List.map_nil,srow]
   ·simp only
    rw[hie,List.take_length]at h2
    rw[h1,splitN_none c _ h2,List.map_append,List.map_cons,List.map_nil,tb_scut,Int.toNat_natCast,Int.toNat_natCast,hie,List.take_length]
 ·right
  simp only [go1,Nat.reduceAdd,Int.reduceEq,Int.reduceLT,Int.reduceLE,Int.reduceSub,Int.reduceAdd,size_tb]
  rw[decF (p:=(i:Int)≤((tb s).length:Int)) (by omega)]
  exact⟨_,rfl,done,rfl,h1⟩
theorem num_split (l:List Nat):numN l=(!(decide (l.length < 1) || decide (3 < l.length) || decide (l.getD 0 0=48))&&l.all digitN):=by
 unfold numN
 by_cases h1:1≤l.length
 ·by_cases h3:l.length≤3
  ·rw[decT h1,decT h3,decF (p:=l.length < 1) (by omega),decF (p:=3 < l.length) (by omega)];simp
  ·rw[decT h1,decF h3,decF (p:=l.length < 1) (by omega),decT (p:=3 < l.length) (by omega)];simp
 ·rw[decF h1,decT (p:=l.length < 1) (by omega)];simp
theorem c_rPath (s:ByteArray)(hs:s.size≤100000):cF 30 [.d (.str s)]=some (.val [.bool (pathN (tb s))]):=by
 obtain⟨l,h,hl⟩:=c_rcut s 47 hs
 have hsz:=mem_size hl
 have hll:l.length≤100001:=by
  have:=congrArg List.length hl
  rw[List.length_map,splitN_len]at this
  have h2:(tb s).count 47≤(tb s).length:=List.count_le_length
  rw[tb_len]at h2
  omega
 unfold pathN
 rw[←hl,List.all_map]
 have h:cF 61 [.d (.str s), .d (.int .u8 47)]=_:=h
 refine cOf (by kernel_rfl) rfl ?_
 rw[g30_eq]
 simp only [g30,go1,Nat.reduceAdd,Int.reduceEq,Int.reduceLT,Int.reduceLE,Int.reduceSub,Int.reduceAdd,h]
 refine loopF_at (fun i:Nat=>[.sl 1 (srows l), .int .i64 (i:Int)]) (fun i=>i≤l.length∧(l.take i).all (partN ∘ tb)=true) (fun i=>l.length - i) (fun i hi=> ?_) 0 ⟨Nat.zero_le _,by simp⟩
 by_cases hlt:i < l.length
 ·have hx:=List.getElem?_eq_getElem hlt
  have hgd:l.getD i ByteArray.empty=l[i]:=by rw[List.getD_eq_getElem?_getD,hx];rfl
  have hxs:=Nat.le_trans (hsz _ (List.getElem_mem hlt)) hs
  generalize hxe:l[i]=x at hx hgd hxs
  obtain⟨ps,hp,hps⟩:=c_rcut x 46 hxs
  have hp:cF 61 [.d (.str x), .d (.int .u8 46)]=_:=hp
  have hbad:partN (tb x)=false→l.all (partN ∘ tb)=false:=fun hb=>all_false (d:=ByteArray.empty) hlt (by rw[hgd];exact hb)
  have hgood:partN (tb x)=true→(i+1≤l.length∧(l.take (i+1)).all (partN ∘ tb)=true):=fun hb=>⟨hlt,all_snoc (d:=ByteArray.empty) hlt hi.2 (by rw[hgd];exact hb)⟩
  have hpe:partN (tb x)=match ps.map tb with
   | [a]=>lowN a
   | [a,b]=>lowN a&&numN b
   |_=>false:=by rw[hps];rfl
  have hpl:=splitN_len 46 (tb x)
  rw[←hps,List.length_map]at hpl
  have hsub: ∀y∈ps,y.size≤100000:=by
   have key: ∀(t:List Nat),∀p∈splitN 46 t,p.length≤t.length:=by
    intro t
    induction t with
    |nil=>intro p hp;simp [splitN]at hp;simp [hp]
    |cons x xs ih=>
     intro p hp
     unfold splitN at hp
     split at hp
     ·rcases List.mem_cons.1 hp with rfl|hp
      ·simp
      ·have:=ih p hp;simp;omega
     ·split at hp
      ·simp at hp;simp [hp]
      ·rename_i q qs hq
       rcases List.mem_cons.1 hp with rfl|hp
       ·have:=ih q (by rw[hq];exact List.mem_cons_self);simp;omega
       ·have:=ih p (by rw[hq];exact List.mem_cons_of_mem _ hp);simp;omega
   intro y hy
   have:=key (tb x) (tb y) (by rw[←hps];exact List.mem_map_of_mem hy)
   rw[tb_len,tb_len]at this
   omega
  simp only [go1,Nat.reduceAdd,Int.reduceEq,Int.reduceLT,Int.reduceLE,Int.reduceSub,Int.reduceAdd,srows_len,ilt_at hlt,inr_at hlt,srows_at hx,hp]
  match ps,hpe,hpl,hsub with
  | [],_,hpl,_=>simp at hpl
  | [a],hpe,_,hsub=>
    have ha:=c_rLow a (hsub a List.mem_cons_self)
    simp only [List.map_cons,List.map_nil]at hpe
    simp only [List.length_singleton,srows,List.map_cons,List.map_nil,srow,sy_row,go1,Nat.reduceAdd,Int.reduceEq,Int.reduceLT,Int.reduceLE,Int.reduceSub,Int.reduceAdd,List.getD_cons_zero,Int.toNat_zero,ha,hpe.symm]
    cases hb:partN (tb x)with
    |false=>
     right
     rw[hbad hb];rfl
    |true=>
     left
     refine⟨i+1,?_,hgood hb,by omega⟩
     rw[wrap_succ hlt (by omega)];rfl
  | [a,b],hpe,_,hsub=>
    have ha:=c_rLow a (hsub a List.mem_cons_self)
    have hbl:=tb_len b
    have hbs:=hsub b (by simp)
    simp only [List.map_cons,List.map_nil]at hpe
    rw[num_split]at hpe
    have hr1:sy.row (srows [a,b]) 1= [.str b]:=rfl
    have hr0:sy.row (srows [a,b]) 0= [.str a]:=rfl
    simp only [List.length_cons,List.length_nil,hr0,hr1,go1,Nat.reduceAdd,Int.reduceEq,Int.reduceLT,Int.reduceLE,Int.reduceSub,Int.reduceAdd,ha,size_tb,byte_tb0]
    cases hla:lowN (tb a)with
    |false=>
     right
     rw[hla,Bool.false_and]at hpe
     rw[hbad hpe];rfl
    |true=>
     rw[hla,Bool.true_and]at hpe
     have e1:decide (((tb b).length:Int) < 1)=decide ((tb b).length < 1):=by rw[Bool.eq_iff_iff];simp only [decide_eq_true_eq];omega
     have e3:decide (3 < ((tb b).length:Int))=decide (3 < (tb b).length):=by rw[Bool.eq_iff_iff];simp only [decide_eq_true_eq];omega
     have e4:decide ((((tb b).getD 0 0:Nat):Int)=48)=decide ((tb b).getD 0 0=48):=by rw[Bool.eq_iff_iff];simp only [decide_eq_true_eq];omega
     simp only [go1,Nat.reduceAdd,Int.reduceEq,Int.reduceLT,Int.reduceLE,Int.reduceSub,Int.reduceAdd,e1,e3,e4]
     by_cases q1:(tb b).length < 1
     ·right
      rw[decT q1]at hpe ⊢
      rw[hbad (by rw[hpe];simp)];rfl
     by_cases q3:3 < (tb b).length
     ·right
      rw[decF q1,decT q3]at hpe ⊢
      rw[hbad (by rw[hpe];simp)];rfl
     rw[decF q1,decF q3]at hpe ⊢
     rw[decT (p:=0 < ((tb b).length:Int)) (by omega)]
     by_cases q4:(tb b).getD 0 0=48
     ·right
      rw[decT q4]at hpe ⊢
      rw[hbad (by rw[hpe];simp)];rfl
     rw[decF q4]at hpe ⊢
     simp only [go1,Nat.reduceAdd,Int.reduceEq,Int.reduceLT,Int.reduceLE,Int.reduceSub,Int.reduceAdd]at hpe ⊢
     cases had:(tb b).all digitN with
     |true=>
      left
      rw[had]at hpe
      refine⟨i+1,?_,hgood hpe,by omega⟩
      refine loopF_at (r:=Sum.inl [D.sl 1 (srows l),D.int .i64 ((i+1:Nat):Int)]) (fun k:Nat=>[.sl 1 (srows l), .int .i64 (i:Int), .str b, .int .i64 (k:Int)]) (fun k=>k≤(tb b).length) (fun k=>(tb b).length - k) (fun k hk=> ?_) 0 (Nat.zero_le _)
      by_cases hkl:k < (tb b).length
      ·left
       refine⟨k+1,?_,hkl,by omega⟩
       have hdg:digitN ((tb b).getD k 0)=true:=by
        rw[List.getD_eq_getElem?_getD,List.getElem?_eq_getElem hkl]
        exact List.all_eq_true.1 had _ (List.getElem_mem hkl)
       simp only [go1,Nat.reduceAdd,Int.reduceEq,Int.reduceLT,Int.reduceLE,Int.reduceSub,Int.reduceAdd,size_tb,ilt_at hkl,inr_at hkl,byte_tb,c_in,inI_digit,hdg,wrap_succ hkl (by omega)]
       try rfl
      ·right
       have:k=(tb b).length:=by omega
       subst this
       simp only [go1,Nat.reduceAdd,Int.reduceEq,Int.reduceLT,Int.reduceLE,Int.reduceSub,Int.reduceAdd,size_tb,ilt_self,wrap_succ hlt (by omega)]
       try rfl
     |false=>
      right
      rw[had]at hpe
      rw[hbad hpe]
      refine loopF_at (r:=Sum.inr (PRes.val [D.bool false])) (fun k:Nat=>[.sl 1 (srows l), .int .i64 (i:Int), .str b, .int .i64 (k:Int)]) (fun k=>k≤(tb b).length∧((tb b).take k).all digitN=true) (fun k=>(tb b).length - k) (fun k hk=> ?_) 0 ⟨Nat.zero_le _,by simp⟩
      by_cases hkl:k < (tb b).length
      ·cases hdg:digitN ((tb b).getD k 0)with
       |true=>
        left
        refine⟨k+1,?_,⟨hkl,all_snoc hkl hk.2 hdg⟩,by omega⟩
        simp only [go1,Nat.reduceAdd,Int.reduceEq,Int.reduceLT,Int.reduceLE,Int.reduceSub,Int.reduceAdd,size_tb,ilt_at hkl,inr_at hkl,byte_tb,c_in,inI_digit,hdg,wrap_succ hkl (by omega)]
        try rfl
       |false=>
        right
        simp only [go1,Nat.reduceAdd,Int.reduceEq,Int.reduceLT,Int.reduceLE,Int.reduceSub,Int.reduceAdd,size_tb,ilt_at hkl,inr_at hkl,byte_tb,c_in,inI_digit,hdg]
        try rfl
      ·exfalso
       have:k=(tb b).length:=by omega
       rw[this,List.take_length,had]at hk
       exact absurd hk.2 (by simp)
  |_::_::_::r,hpe,_,_=>
   right
   have:partN (tb x)=false:=hpe
   rw[hbad this]
   rw[decT (p:=2 < (((_::_::_::r:List ByteArray).length:Nat):Int)) (by simp;omega)]
   rfl
 ·right
  have:i=l.length:=by omega
  subst this
  simp only [go1,Nat.reduceAdd,Int.reduceEq,Int.reduceLT,Int.reduceLE,Int.reduceSub,Int.reduceAdd,srows_len,ilt_self]
  rw[List.take_length]at hi
  rw[hi.2]
theorem c_rnameG (s:ByteArray)(hs:s.size≤100000):cF 111 [.d (.str s), .d (.int .u8 65), .d (.int .u8 90)]=some (.val [.bool (nameN greatN (tb s))]):=by
 have hl:=tb_len s
 by_cases h1:1≤(tb s).length∧(tb s).length≤12
 ·have hc:=c_in (((tb s).getD 0 0:Nat):Int) 65 90
  rw[inI_great]at hc
  refine cOf (by kernel_rfl) rfl ?_
  rw[g111_eq]
  simp only [g111,go1,Nat.reduceAdd,Int.reduceEq,Int.reduceLT,Int.reduceLE,Int.reduceSub,Int.reduceAdd,size_tb,byte_tb0,hc]
  rw[decF (p:=((tb s).length:Int) < 1) (by omega),decF (p:=12 < ((tb s).length:Int)) (by omega),decT (p:=0 < ((tb s).length:Int)) (by omega)]
  cases hs0:greatN ((tb s).getD 0 0)with
  |false=>rw[nameN_first hs0];rfl
  |true=>
   simp only [go1,Nat.reduceAdd,Int.reduceEq,Int.reduceLT,Int.reduceLE,Int.reduceSub,Int.reduceAdd]
   refine loopF_at (fun p:Nat=>[.str s, .int .i64 (p:Int)]) (fun p=>p≤(tb s).length∧((tb s).take p).all innerN=true) (fun p=>(tb s).length - p) (fun p hp=> ?_) 0 ⟨Nat.zero_le _,by simp⟩
   by_cases hlt:p < (tb s).length
   ·have hi:=inner_def ((tb s).getD p 0)
    simp only [go1,Nat.reduceAdd,Int.reduceEq,Int.reduceLT,Int.reduceLE,Int.reduceSub,Int.reduceAdd,size_tb,ilt_at hlt,inr_at hlt,byte_tb,c_in,inI_small,inI_great,inI_digit,wrap_succ hlt (by omega)]
    cases hin:innerN ((tb s).getD p 0)with
    |false=>
     right
     rw[nameN_bad hlt hin]
     rw[hin]at hi
     have hi:=hi.symm
     simp only [Bool.or_eq_false_iff]at hi
     obtain⟨⟨⟨i1,i2⟩,i3⟩,i4⟩:=hi
     have i4': ¬(((tb s).getD p 0:Nat):Int)=95:=by
      have:=of_decide_eq_false i4;omega
     rw[decF i4']
     simp only [i1,i2,i3,go1,Nat.reduceAdd,Int.reduceEq,Int.reduceLT,Int.reduceLE,Int.reduceSub,Int.reduceAdd]
     try rfl
    |true=>
     left
     refine⟨p+1,?_,⟨hlt,all_snoc hlt hp.2 hin⟩,by omega⟩
     rw[hin]at hi
     cases i1:smallN ((tb s).getD p 0)<;>cases i2:greatN ((tb s).getD p 0)<;>cases i3:digitN ((tb s).getD p 0)<;>rw[i1,i2,i3]at hi<;>simp only [go1,Nat.reduceAdd,Int.reduceEq,Int.reduceLT,Int.reduceLE,Int.reduceSub,Int.reduceAdd]<;>(try rfl)
     all_goals
      simp only [Bool.or_self,Bool.false_or]at hi
      have i4:=of_decide_eq_true hi.symm
      rw[decT (p:=(((tb s).getD p 0:Nat):Int)=95) (by omega)]
      rfl
   ·right
    have:p=(tb s).length:=by omega
    subst this
    simp only [go1,Nat.reduceAdd,Int.reduceEq,Int.reduceLT,Int.reduceLE,Int.reduceSub,Int.reduceAdd,size_tb,ilt_self]
    rw[List.take_length]at hp
    unfold nameN
    rw[hp.2,hs0,decT h1.1,decT h1.2]
    rfl
 ·have hn:nameN greatN (tb s)=false:=by
   unfold nameN
   by_cases h:1≤(tb s).length
   ·rw[decF (p:=(tb s).length≤12) (by omega)];simp
   ·rw[decF h];simp
  rw[hn]
  refine cOf (by kernel_rfl) rfl ?_
  rw[g111_eq]
  simp only [g111,go1,Nat.reduceAdd,Int.reduceEq,Int.reduceLT,Int.reduceLE,Int.reduceSub,Int.reduceAdd,size_tb]
  by_cases h:1≤(tb s).length
  ·rw[decT (p:=12 < ((tb s).length:Int)) (by omega)];simp only [go1,Nat.reduceAdd,Int.reduceEq,Int.reduceLT,Int.reduceLE,Int.reduceSub,Int.reduceAdd];try rfl
  ·rw[decT (p:=((tb s).length:Int) < 1) (by omega)];simp only [go1,Nat.reduceAdd,Int.reduceEq,Int.reduceLT,Int.reduceLE,Int.reduceSub,Int.reduceAdd];try rfl
theorem c_rHigh (s:ByteArray)(hs:s.size≤100000):cF 88 [.d (.str s)]=some (.val [.bool (highN (tb s))]):=by
 have:=c_rnameG s hs
 refine cOf (by kernel_rfl) rfl ?_
 rw[g88_eq]
 simp only [g88,go1,Nat.reduceAdd,Int.reduceEq,Int.reduceLT,Int.reduceLE,Int.reduceSub,Int.reduceAdd,this]
 rfl
end Go.Vm
end

section
set_option linter.all false
set_option maxRecDepth 100000
set_option maxHeartbeats 4000000
namespace Go.Vm
open Go.Proofs
theorem or0 (o:Int):(!decide (0≤o) || !decide (o≤0))= !decide (o=0):=by
 rw[Bool.eq_iff_iff];simp;omega
theorem c_renumbers (k n:Int)(s:ByteArray)(o:Int)(a u:List (List D)):cF 112 [kE k n s o a u]=some (.val [.bool (opB_ k o&&numB k n)]):=by
 have key:k=5∨k=6∨k=1∨k=2∨k=13∨(k≠5∧k≠6∧k≠1∧k≠2∧k≠13):=by omega
 rcases key with rfl|rfl|rfl|rfl|rfl|⟨h1,h2,h3,h4,h5⟩
 all_goals refine cOf (by kernel_rfl) rfl ?_
 all_goals rw[g112_eq]
 all_goals simp only [g112,go1,Nat.reduceAdd,Int.reduceEq,Int.reduceLT,Int.reduceLE,Int.reduceSub,Int.reduceAdd,nlt,opB_,numB,decide_true,decide_false,Int.reduceEq,or0 o]
 ·cases decide (1≤o)<;>cases decide (o≤2)<;>rfl
 ·cases decide (3≤o)<;>cases decide (o≤16)<;>rfl
 ·cases decide (o=0)<;>rfl
 ·cases decide (o=0)<;>cases decide (n=0)<;>cases decide (n=1)<;>rfl
 ·cases decide (o=0)<;>cases decide (n=0)<;>cases decide (n=1)<;>rfl
 ·simp only [decF h1,decF h2,decF h3,decF h4,decF h5,go1,Nat.reduceAdd,Int.reduceEq,Int.reduceLT,Int.reduceLE,Int.reduceSub,Int.reduceAdd,or0 o,nlt,Bool.or_self]
  cases decide (o=0)<;>rfl
theorem c_renamed (k n:Int)(s:ByteArray)(o:Int)(a u:List (List D))(hs:s.size≤100000):cF 113 [kE k n s o a u]=some (.val [.bool (nameB k s)]):=by
 have q1:=c_rLow s hs
 have q2:=c_rHigh s hs
 have q3:=c_rPath s hs
 have key:k=3∨k=11∨k=12∨k=13∨k=4∨k=17∨(k≠3∧k≠11∧k≠12∧k≠13∧k≠4∧k≠17):=by omega
 rcases key with rfl|rfl|rfl|rfl|rfl|rfl|⟨h1,h2,h3,h4,h5,h6⟩
 all_goals refine cOf (by kernel_rfl) rfl ?_
 all_goals rw[g113_eq]
 all_goals simp only [g113,go1,Nat.reduceAdd,Int.reduceEq,Int.reduceLT,Int.reduceLE,Int.reduceSub,Int.reduceAdd,nameB,decide_true,decide_false,Int.reduceEq,q1,q2,q3,seq_tb]
 all_goals (try rfl)
 simp only [decF h1,decF h2,decF h3,decF h4,decF h5,decF h6,go1,Nat.reduceAdd,Int.reduceEq,Int.reduceLT,Int.reduceLE,Int.reduceSub,Int.reduceAdd,Bool.or_self]
 rfl
theorem c_rearm (s:ByteArray)(hs:s.size≤100000):cF 155 [.d (.str s)]=some (.val [.bool (armN s)]):=by
 have h:=c_rHigh s hs
 refine cOf (by kernel_rfl) rfl ?_
 rw[g155_eq]
 simp only [g155,go1,Nat.reduceAdd,Int.reduceEq,Int.reduceLT,Int.reduceLE,Int.reduceSub,Int.reduceAdd,h,seq_tb]
 unfold armN
 cases highN (tb s)<;>cases h1:decide (tb s=tb bTrue)<;>cases h2:decide (tb s=tb bFalse)<;>(unfold bTrue at h1;unfold bFalse at h2;simp only [go1,Nat.reduceAdd,Int.reduceEq,Int.reduceLT,Int.reduceLE,Int.reduceSub,Int.reduceAdd,h1,h2];try rfl)
theorem c_rearms (k n:Int)(s:ByteArray)(o:Int)(a:List ByteArray)(u:List (List D))(ha: ∀x∈a,x.size≤100000)(hl:a.length≤1000000):cF 114 [kE k n s o (srows a) u]=some (.val [.bool (armsB k a)]):=by
 have hO:=c_rOnce a hl
 refine cOf (by kernel_rfl) rfl ?_
 rw[g114_eq]
 simp only [g114,go1,Nat.reduceAdd,Int.reduceEq,Int.reduceLT,Int.reduceLE,Int.reduceSub,Int.reduceAdd,srows_len]
 refine all_loop2 armN a (fun i:Nat=>[.int .i64 (i:Int), .int .i64 k, .int .i64 n, .str s, .int .i64 o, .sl 1 (srows a), .sl 6 u]) rfl (r0:= .val [.bool false]) (r1:= .val [.bool (armsB k a)]) (fun i e hx=> ?_) (fun hall=> ?_) (by unfold armsB;cases a.all armN<;>rfl)
 ·have hlt:=(List.getElem?_eq_some_iff.1 hx).1
  have h:=c_rearm e (ha e (List.mem_of_getElem? hx))
  simp only [go1,Nat.reduceAdd,Int.reduceEq,Int.reduceLT,Int.reduceLE,Int.reduceSub,Int.reduceAdd,oE,srows_len,ilt_at hlt,inr_at hlt,srows_at hx,h]
  cases armN e with
  |true=>simp only [go1,Nat.reduceAdd,Int.reduceEq,Int.reduceLT,Int.reduceLE,Int.reduceSub,Int.reduceAdd,Bool.not_true,wrap_succ hlt (by omega)];rfl
  |false=>rfl
 ·simp only [go1,Nat.reduceAdd,Int.reduceEq,Int.reduceLT,Int.reduceLE,Int.reduceSub,Int.reduceAdd,oE,srows_len,ilt_self,hO,armsB,hall]
  have e1:decide ((a.length:Int)=1)=decide (a.length=1):=by rw[Bool.eq_iff_iff];simp;try omega
  have e2:decide ((a.length:Int)=0)=decide (a.length=0):=by rw[Bool.eq_iff_iff];simp;try omega
  have e3:decide ((1:Int)≤(a.length:Int))=decide (1≤a.length):=by rw[Bool.eq_iff_iff];simp;try omega
  have e4:decide ((a.length:Int)≤6)=decide (a.length≤6):=by rw[Bool.eq_iff_iff];simp;try omega
  rw[e1,e2,e3,e4]
  by_cases h1:k=11
  ·simp only [decT h1,go1,Nat.reduceAdd,Int.reduceEq,Int.reduceLT,Int.reduceLE,Int.reduceSub,Int.reduceAdd,Bool.true_and]
  ·by_cases h2:k=12
   ·simp only [decF h1,decT h2,go1,Nat.reduceAdd,Int.reduceEq,Int.reduceLT,Int.reduceLE,Int.reduceSub,Int.reduceAdd,Bool.true_and]
    cases decide (1≤a.length)<;>cases decide (a.length≤6)<;>rfl
   ·simp only [decF h1,decF h2,go1,Nat.reduceAdd,Int.reduceEq,Int.reduceLT,Int.reduceLE,Int.reduceSub,Int.reduceAdd,Bool.true_and]
theorem c_resubs (k n:Int)(s:ByteArray)(o:Int)(a:List ByteArray)(u:List (List D))(hn:k=13→n=0∨n=1):cF 115 [kE k n s o (srows a) u]=some (.val [.int .i64 (loB k n a.length), .int .i64 (hiB k n a.length)]):=by
 have h5:=srows_len a
 have key:(k=5∨k=10∨k=11∨k=6∨k=8∨k=9∨k=15∨k=7∨k=16∨k=12∨k=14)∨k=13∨(k≠5∧k≠10∧k≠11∧k≠6∧k≠8∧k≠9∧k≠15∧k≠7∧k≠16∧k≠12∧k≠14∧k≠13):=by omega
 rcases key with h|h|⟨h1,h2,h3,h4,h5,h6,h7,h8,h9,h10,h11,h12⟩
 ·rcases h with rfl|rfl|rfl|rfl|rfl|rfl|rfl|rfl|rfl|rfl|rfl
  all_goals refine cOf (by kernel_rfl) rfl ?_
  all_goals rw[g115_eq]
  all_goals simp only [g115,go1,Nat.reduceAdd,Int.reduceEq,Int.reduceLT,Int.reduceLE,Int.reduceSub,Int.reduceAdd,loB,hiB,decide_true,decide_false,Int.reduceEq,h5,or_self,or_true,true_or,if_true,if_false]
 ·subst h
  rcases hn rfl with rfl|rfl
  ·refine cOf (by kernel_rfl) rfl ?_
   rw[g115_eq]
   simp only [g115,go1,Nat.reduceAdd,Int.reduceEq,Int.reduceLT,Int.reduceLE,Int.reduceSub,Int.reduceAdd,loB,hiB]
   try rfl
  ·refine cOf (by kernel_rfl) rfl ?_
   rw[g115_eq]
   simp only [g115,go1,Nat.reduceAdd,Int.reduceEq,Int.reduceLT,Int.reduceLE,Int.reduceSub,Int.reduceAdd,loB,hiB]
   try rfl
 ·refine cOf (by kernel_rfl) rfl ?_
  rw[g115_eq]
  simp only [g115,go1,Nat.reduceAdd,Int.reduceEq,Int.reduceLT,Int.reduceLE,Int.reduceSub,Int.reduceAdd,decF h1,decF h2,decF h3,decF h4,decF h5,decF h6,decF h7,decF h8,decF h9,decF h10,decF h11,decF h12]
  simp only [loB,hiB,if_neg h1,if_neg h2,h1,h2,h3,h4,h5,h6,h7,h8,h9,h10,h11,h12,or_self,if_false]
theorem c_repart (k n:Int)(s:ByteArray)(o:Int)(a:List ByteArray)(u:List Ex)(hs:s.size≤100000)(ha: ∀x∈a,x.size≤100000)(hl:a.length≤1000000)(hu:Ex.sizes u≤1000000):
  cF 65 [kE k n s o (srows a) (Ex.rows u)]=some (.val [.bool (partB (.mk k n s o a u))]):=by
 have h1:=c_renumbers k n s o (srows a) (Ex.rows u)
 have h2:=c_renamed k n s o (srows a) (Ex.rows u) hs
 have h3:=c_rearms k n s o a (Ex.rows u) ha hl
 have h4:=rows_len u
 simp only [partB]
 refine cOf (by kernel_rfl) rfl ?_
 rw[g65_eq]
 simp only [g65,go1,Nat.reduceAdd,Int.reduceEq,Int.reduceLT,Int.reduceLE,Int.reduceSub,Int.reduceAdd,h1,h2,h3,h4]
 have hkk:(decide (k < 1) || decide (17 < k))= !kindB k:=by
  unfold kindB;rw[nlt,nlt];cases decide (1≤k)<;>cases decide (k≤17)<;>rfl
 cases hk:kindB k with
 |false=>
  rw[hk]at hkk
  cases g1:decide (k < 1)with
  |true=>simp only [go1,Nat.reduceAdd,Int.reduceEq,Int.reduceLT,Int.reduceLE,Int.reduceSub,Int.reduceAdd];try rfl
  |false=>
   rw[g1]at hkk
   have g2:decide (17 < k)=true:=by simpa using hkk
   simp only [go1,Nat.reduceAdd,Int.reduceEq,Int.reduceLT,Int.reduceLE,Int.reduceSub,Int.reduceAdd,g2];try rfl
 |true=>
  rw[hk]at hkk
  have g1:decide (k < 1)=false:=by cases g:decide (k < 1)with
   |true=>rw[g]at hkk;cases hkk
   |false=>rfl
  have g2:decide (17 < k)=false:=by rw[g1]at hkk;simpa using hkk
  simp only [go1,Nat.reduceAdd,Int.reduceEq,Int.reduceLT,Int.reduceLE,Int.reduceSub,Int.reduceAdd,g1,g2,h1,h2,h3,Bool.true_and]
  cases hN:numB k n with
  |false=>cases opB_ k o<;>(simp only [go1,Nat.reduceAdd,Int.reduceEq,Int.reduceLT,Int.reduceLE,Int.reduceSub,Int.reduceAdd,Bool.not_false,Bool.not_true,Bool.false_and,Bool.and_false,h2,h3];try rfl)
  |true=>
   cases opB_ k o with
   |false=>cases nameB k s<;>(simp only [go1,Nat.reduceAdd,Int.reduceEq,Int.reduceLT,Int.reduceLE,Int.reduceSub,Int.reduceAdd,Bool.not_false,Bool.not_true,Bool.false_and,Bool.and_false,h2,h3];try rfl)
   |true=>
    cases nameB k s with
    |false=>simp only [go1,Nat.reduceAdd,Int.reduceEq,Int.reduceLT,Int.reduceLE,Int.reduceSub,Int.reduceAdd,Bool.not_false,Bool.not_true,Bool.false_and,Bool.and_false,h2,h3,Bool.and_self];try rfl
    |true=>
     cases armsB k a with
     |false=>simp only [go1,Nat.reduceAdd,Int.reduceEq,Int.reduceLT,Int.reduceLE,Int.reduceSub,Int.reduceAdd,Bool.not_false,Bool.not_true,Bool.false_and,Bool.and_false,h2,h3,Bool.and_self];try rfl
     |true=>
      have h5:=c_resubs k n s o a (Ex.rows u) (fun h=>by
       subst h
       simp [numB]at hN
       exact hN)
      simp only [go1,Nat.reduceAdd,Int.reduceEq,Int.reduceLT,Int.reduceLE,Int.reduceSub,Int.reduceAdd,Bool.not_true,Bool.and_self,h2,h3,h5,Bool.true_and]
      cases hlo:decide (loB k n a.length≤(u.length:Int))with
      |false=>simp only [go1,Nat.reduceAdd,Int.reduceEq,Int.reduceLT,Int.reduceLE,Int.reduceSub,Int.reduceAdd,Bool.false_and];try rfl
      |true=>
       cases decide ((u.length:Int)≤hiB k n a.length)with
       |false=>simp only [go1,Nat.reduceAdd,Int.reduceEq,Int.reduceLT,Int.reduceLE,Int.reduceSub,Int.reduceAdd,Bool.false_and,Bool.true_and];try rfl
       |true=>
        simp only [go1,Nat.reduceAdd,Int.reduceEq,Int.reduceLT,Int.reduceLE,Int.reduceSub,Int.reduceAdd,Bool.true_and]
        by_cases h8:k=8
        ·subst h8
         match u,hlo,hu with
         | [],hlo,_=>cases hlo
         | .mk k2 n2 s2 o2 a2 u2::u,hlo,hu=>
           have hc:=c_reConst k2 n2 s2 o2 a2 u2 (by simp only [Ex.sizes,Ex.size]at hu;omega)
           have hr:sy.row (Ex.rows (.mk k2 n2 s2 o2 a2 u2::u)) 0= [.int .i64 k2, .int .i64 n2, .str s2, .int .i64 o2, .sl 1 (srows a2), .sl 6 (Ex.rows u2)]:=row_of (l:= .mk k2 n2 s2 o2 a2 u2::u) (i:=0) rfl
           have hz:decide ((0:Int) < ((Ex.mk k2 n2 s2 o2 a2 u2::u).length:Int))=true:=decide_eq_true (by simp only [List.length_cons];omega)
           have hz2:decide ((0:Int)≤0∧(0:Int) < ((Ex.mk k2 n2 s2 o2 a2 u2::u).length:Int))=true:=decide_eq_true ⟨by omega,by simp only [List.length_cons];omega⟩
           simp only [go1,Nat.reduceAdd,Int.reduceEq,Int.reduceLT,Int.reduceLE,Int.reduceSub,Int.reduceAdd,hz,hz2,hr,oE,hc,conB,decide_true,Bool.not_true,Bool.not_false]
        ·simp only [go1,Nat.reduceAdd,Int.reduceEq,Int.reduceLT,Int.reduceLE,Int.reduceSub,Int.reduceAdd,decF h8,conB,Bool.not_false]
end Go.Vm
end

section
set_option linter.all false
set_option maxRecDepth 100000
set_option maxHeartbeats 4000000
namespace Go.Vm
open Go.Proofs
noncomputable abbrev kW1 (k n:Int) (s:ByteArray) (o:Int) (a u:List (List D)) (m:Int):List V:=[.d (.int .i64 0), .d (.int .i64 2),kE k n s o a u, .yld 0 (rec0 53), .agg [.any, .any, .any, .ptr 1 0, .any, .any, .any, .any, .any, .any], .fn 3 [.d (.int .i64 m)]]
theorem decW1 (k n:Int)(s:ByteArray)(o:Int)(a u:List (List D))(m:Int):decB (kW1 k n s o a u m)=some (0,[kE k n s o a u, .yld 0 (rec0 53)],[.cells (.rcd .ready) [.any, .any, .any, .ptr 1 0, .any, .any, .any, .any, .any, .any], .cells (.ty 3) [.d (.int .i64 m)]]):=rfl
noncomputable abbrev kW2 (k n:Int) (s:ByteArray) (o:Int) (a u:List (List D)) (b:Bool):List V:=[.d (.int .i64 0), .d (.int .i64 2),kE k n s o a u, .yld 0 (rec0 25), .agg [.any, .any, .ptr 1 0, .any, .any, .any, .any, .any, .any, .any, .any, .any, .any, .any, .any, .any, .any, .any], .fn 4 [.d (.bool b)]]
theorem decW2 (k n:Int)(s:ByteArray)(o:Int)(a u:List (List D))(b:Bool):decB (kW2 k n s o a u b)=some (0,[kE k n s o a u, .yld 0 (rec0 25)],[.cells (.rcd .ready) [.any, .any, .ptr 1 0, .any, .any, .any, .any, .any, .any, .any, .any, .any, .any, .any, .any, .any, .any, .any], .cells (.ty 4) [.d (.bool b)]]):=rfl
theorem c_walk1: ∀(m:Nat) (k n:Int) (s:ByteArray) (o:Int) (a:List ByteArray) (u:List Ex) (c:Nat),(Ex.mk k n s o a u).size≤m→m≤1000000→c+m≤2000000→
  cF 1000098 (kW1 k n s o (srows a) (Ex.rows u) (c:Int))=some (.val [.bool false, .bool true, .int .i64 ((c+(Ex.mk k n s o a u).size:Nat):Int)])
 |0,k,n,s,o,a,u,c,h,_,_=>by simp only [Ex.size]at h;omega
 |m+1,k,n,s,o,a,u,c,h,hm,hc=>by
  have hz:Ex.sizes u≤m:=by simp only [Ex.size]at h;omega
  have hl:=sizes_len u
  refine cOfB (f:=98) (by kernel_rfl) (decW1 k n s o (srows a) (Ex.rows u) (c:Int)) (by kernel_rfl) rfl ?_
  rw[b98_53_eq]
  simp only [b98_53,go1,Nat.reduceAdd,Int.reduceEq,Int.reduceLT,Int.reduceLE,Int.reduceSub,Int.reduceAdd,rows_len,Bool.not_true,wrap_succ (i:=c) (n:=c+1) (by omega) (by omega)]
  refine loopF_at (fun i:Nat=>[.sl 6 (Ex.rows u), .int .i64 (u.length:Int), .int .i64 (i:Int), .int .i64 ((c+1+Ex.sizes (u.take i):Nat):Int)]) (fun i=>i≤u.length∧Ex.sizes (u.take i)≤m) (fun i=>u.length - i) (fun i hi=> ?_) 0 ⟨Nat.zero_le _,Nat.zero_le _⟩
  by_cases hlt:i < u.length
  ·left
   have hx:=List.getElem?_eq_getElem hlt
   have hd:Ex.sizes (u.take (i+1))=Ex.sizes (u.take i)+u[i].size:=by rw[List.take_add_one,hx];exact sizes_snoc _ _
   have hle:Ex.sizes (u.take (i+1))≤m:=by
    have:=sizes_app (u.take (i+1)) (u.drop (i+1));rw[List.take_append_drop]at this;omega
   refine⟨i+1,?_,⟨hlt,hle⟩,by omega⟩
   rw[hd]at hle ⊢
   generalize u[i]=e at hx hle ⊢
   have he:=sizes_mem hx
   obtain⟨k2,n2,s2,o2,a2,u2⟩:=e
   have h2:=c_walk1 (Ex.mk k2 n2 s2 o2 a2 u2).size k2 n2 s2 o2 a2 u2 (c+1+Ex.sizes (u.take i)) (Nat.le_refl _) (by omega) (by omega)
   simp only [go1,Nat.reduceAdd,Int.reduceEq,Int.reduceLT,Int.reduceLE,Int.reduceSub,Int.reduceAdd,rows_len,ilt_at hlt,inr_at hlt,row_of hx,oE,h2,wrap_succ hlt (by omega),Bool.not_true]
   rw[Nat.add_assoc (c+1)]
   rfl
  ·right
   have:i=u.length:=by omega
   subst this
   simp only [go1,Nat.reduceAdd,Int.reduceEq,Int.reduceLT,Int.reduceLE,Int.reduceSub,Int.reduceAdd,rows_len,ilt_self,List.take_length,Ex.size]
   rw[show c+1+Ex.sizes u=c+(Ex.sizes u+1) by omega]
 termination_by m=>m
 decreasing_by omega
mutual
def Ex.fine:Ex→Prop
 | .mk _ _ s _ a u=>(s.size≤100000∧(∀x∈a,x.size≤100000)∧a.length≤1000000)∧Ex.fines u
def Ex.fines:List Ex→Prop
 | []=>True
 |e::l=>e.fine∧Ex.fines l
end
mutual
theorem okS_fine: ∀e:Ex,e.okS→e.size≤1000000→e.fine
 | .mk k n s o a u,h,h2=>by
   have hl:=sizes_len u
   have h3:Ex.sizes u+1≤1000000:=h2
   obtain⟨q1,⟨q2,q3⟩,q4⟩:=h
   exact⟨⟨q1,q2,by omega⟩,okSs_fine u q4 (by omega)⟩
theorem okSs_fine: ∀u:List Ex,Ex.okSs u→Ex.sizes u≤1000000→Ex.fines u
 | [],_,_=>trivial
 |e::l,h,h2=>by
  have h3:e.size+Ex.sizes l≤1000000:=h2
  exact⟨okS_fine e h.1 (by omega),okSs_fine l h.2 (by omega)⟩
end
theorem fine_mem {e:Ex}: ∀ {l:List Ex} {i:Nat},l[i]? =some e→Ex.fines l→e.fine
 |x::l,0,h,h2=>by simp at h;subst h;exact h2.1
 |x::l,i+1,h,h2=>fine_mem (l:=l) (i:=i) (by simpa using h) h2.2
def ansR (b:Bool):Bool→PRes
 |true=> .val [.bool false, .bool true, .bool b]
 |false=> .val [.bool true, .bool false, .bool false]
theorem c_walk2: ∀(m:Nat) (k n:Int) (s:ByteArray) (o:Int) (a:List ByteArray) (u:List Ex) (b:Bool),(Ex.mk k n s o a u).size≤m→m≤1000000→(Ex.mk k n s o a u).fine→
  cF 1000098 (kW2 k n s o (srows a) (Ex.rows u) b)=some (ansR b (allB (.mk k n s o a u)))
 |0,k,n,s,o,a,u,b,h,_,_=>by simp only [Ex.size]at h;omega
 |m+1,k,n,s,o,a,u,b,h,hm,hf=>by
  have hz:Ex.sizes u≤m:=by simp only [Ex.size]at h;omega
  have hl:=sizes_len u
  obtain⟨⟨f1,f2,f3⟩,f4⟩:=hf
  have h1:=c_epart k n s o a u f1 f3 (by omega)
  refine cOfB (f:=98) (by kernel_rfl) (decW2 k n s o (srows a) (Ex.rows u) b) (by kernel_rfl) rfl ?_
  rw[b98_25_eq]
  simp only [b98_25,go1,Nat.reduceAdd,Int.reduceEq,Int.reduceLT,Int.reduceLE,Int.reduceSub,Int.reduceAdd,h1,allB]
  cases partB (.mk k n s o a u)with
  |false=>rfl
  |true=>
   simp only [go1,Nat.reduceAdd,Int.reduceEq,Int.reduceLT,Int.reduceLE,Int.reduceSub,Int.reduceAdd,Bool.not_true,Bool.true_and,rows_len]
   refine loopF_at (fun i:Nat=>[.sl 6 (Ex.rows u), .int .i64 (u.length:Int), .int .i64 (i:Int), .bool b]) (fun i=>i≤u.length∧allBs u=allBs (u.drop i)) (fun i=>u.length - i) (fun i hi=> ?_) 0 ⟨Nat.zero_le _,rfl⟩
   by_cases hlt:i < u.length
   ·have hx:=List.getElem?_eq_getElem hlt
    have hd:=List.drop_eq_getElem_cons hlt
    have hi2:=hi.2
    rw[hd]at hi2
    generalize u[i]=e at hx hi2
    have he:=sizes_mem hx
    have hfe:=fine_mem hx f4
    obtain⟨k2,n2,s2,o2,a2,u2⟩:=e
    have h2:=c_walk2 (Ex.mk k2 n2 s2 o2 a2 u2).size k2 n2 s2 o2 a2 u2 b (Nat.le_refl _) (by omega) hfe
    rw[hi2]
    simp only [allBs]
    cases hb:allB (.mk k2 n2 s2 o2 a2 u2)with
    |false=>
     right
     rw[hb]at h2
     simp only [ansR]at h2
     simp only [go1,Nat.reduceAdd,Int.reduceEq,Int.reduceLT,Int.reduceLE,Int.reduceSub,Int.reduceAdd,rows_len,ilt_at hlt,inr_at hlt,row_of hx,oE,h2,Bool.not_false,Bool.false_and,ansR]
    |true=>
     left
     rw[hb]at h2
     simp only [ansR]at h2
     refine⟨i+1,?_,⟨hlt,by simp only [Bool.true_and]⟩,by omega⟩
     simp only [go1,Nat.reduceAdd,Int.reduceEq,Int.reduceLT,Int.reduceLE,Int.reduceSub,Int.reduceAdd,rows_len,ilt_at hlt,inr_at hlt,row_of hx,oE,h2,wrap_succ hlt (by omega),Bool.not_true]
     rfl
   ·right
    have:i=u.length:=by omega
    subst this
    rw[hi.2,List.drop_length]
    simp only [go1,Nat.reduceAdd,Int.reduceEq,Int.reduceLT,Int.reduceLE,Int.reduceSub,Int.reduceAdd,rows_len,ilt_self,allBs,ansR]
 termination_by m=>m
 decreasing_by omega
theorem c_eSize (k n:Int)(s:ByteArray)(o:Int)(a:List ByteArray)(u:List Ex)(h:(Ex.mk k n s o a u).size≤1000000):cF 53 [kE k n s o (srows a) (Ex.rows u)]=some (.val [.int .i64 ((Ex.mk k n s o a u).size:Int)]):=by
 have h1:=c_walk1 1000000 k n s o a u 0 h (Nat.le_refl _) (by omega)
 rw[Nat.zero_add]at h1
 have h1:cF 1000098 (kW1 k n s o (srows a) (Ex.rows u) 0)=_:=h1
 refine cOf (by kernel_rfl) rfl ?_
 rw[g53_eq]
 simp only [g53,go1,Nat.reduceAdd,Int.reduceEq,Int.reduceLT,Int.reduceLE,Int.reduceSub,Int.reduceAdd,h1]
def smallB (e:Ex):Bool:=decide (e.size≤60)&&decide (e.depth≤12)
theorem c_eRight (k n:Int)(s:ByteArray)(o:Int)(a:List ByteArray)(u:List Ex)(h:(Ex.mk k n s o a u).size≤1000000)(hf:(Ex.mk k n s o a u).fine):cF 25 [kE k n s o (srows a) (Ex.rows u)]=some (.val [.bool (smallB (.mk k n s o a u)&&allB (.mk k n s o a u))]):=by
 have h1:=c_eSize k n s o a u h
 have h2:=c_eDepth 1000000 k n s o a u h (Nat.le_refl _)
 have h3:=c_walk2 1000000 k n s o a u false h (Nat.le_refl _) hf
 have e1:decide ((60:Int) < ((Ex.mk k n s o a u).size:Int))= !decide ((Ex.mk k n s o a u).size≤60):=by rw[Bool.eq_iff_iff];simp;try omega
 have e2:decide ((12:Int) < ((Ex.mk k n s o a u).depth:Int))= !decide ((Ex.mk k n s o a u).depth≤12):=by rw[Bool.eq_iff_iff];simp;try omega
 refine cOf (by kernel_rfl) rfl ?_
 rw[g25_eq]
 simp only [g25,go1,Nat.reduceAdd,Int.reduceEq,Int.reduceLT,Int.reduceLE,Int.reduceSub,Int.reduceAdd,h1,h2,h3,e1,e2]
 unfold smallB
 cases decide ((Ex.mk k n s o a u).size≤60)<;>cases decide ((Ex.mk k n s o a u).depth≤12)<;>cases allB (.mk k n s o a u)<;>rfl
end Go.Vm
end

section
set_option linter.all false
set_option maxRecDepth 100000
set_option maxHeartbeats 4000000
namespace Go.Vm
open Go.Proofs
mutual
def Ex.parts:Ex→List Ex
 | .mk k n s o a u=> .mk k n s o a u::Ex.partsL u
def Ex.partsL:List Ex→List Ex
 | []=>[]
 |e::l=>e.parts++Ex.partsL l
end
mutual
theorem parts_len: ∀e:Ex,e.parts.length=e.size
 | .mk k n s o a u=>by simp only [Ex.parts,Ex.size,List.length_cons,partsL_len u]
theorem partsL_len: ∀u:List Ex,(Ex.partsL u).length=Ex.sizes u
 | []=>rfl
 |e::l=>by simp only [Ex.partsL,Ex.sizes,List.length_append,parts_len e,partsL_len l]
end
mutual
theorem parts_all: ∀e:Ex,e.parts.all partB=allB e
 | .mk k n s o a u=>by simp only [Ex.parts,allB,List.all_cons,partsL_all u]
theorem partsL_all: ∀u:List Ex,(Ex.partsL u).all partB=allBs u
 | []=>rfl
 |e::l=>by simp only [Ex.partsL,allBs,List.all_append,parts_all e,partsL_all l]
end
mutual
theorem parts_fine: ∀e:Ex,e.fine→ ∀x∈e.parts,x.fine∧x.size≤e.size
 | .mk k n s o a u,h,x,hx=>by
   simp only [Ex.parts]at hx
   rcases List.mem_cons.1 hx with rfl|hx
   ·exact⟨h,Nat.le_refl _⟩
   ·have:=partsL_fine u h.2 x hx
    exact⟨this.1,by simp only [Ex.size];omega⟩
theorem partsL_fine: ∀u:List Ex,Ex.fines u→ ∀x∈Ex.partsL u,x.fine∧x.size≤Ex.sizes u
 | [],_,x,hx=>by cases hx
 |e::l,h,x,hx=>by
  simp only [Ex.partsL]at hx
  rcases List.mem_append.1 hx with hx|hx
  ·have:=parts_fine e h.1 x hx
   exact⟨this.1,by simp only [Ex.sizes];omega⟩
  ·have:=partsL_fine l h.2 x hx
   exact⟨this.1,by simp only [Ex.sizes];omega⟩
end
theorem partsL_app: ∀a b:List Ex,Ex.partsL (a++b)=Ex.partsL a++Ex.partsL b
 | [],b=>rfl
 |e::a,b=>by simp only [List.cons_append,Ex.partsL,partsL_app a b,List.append_assoc]
theorem rows_app: ∀a b:List Ex,Ex.rows (a++b)=Ex.rows a++Ex.rows b
 | [],b=>rfl
 |e::a,b=>by simp only [List.cons_append,Ex.rows,rows_app a b]
theorem c_reParts: ∀(m:Nat) (k n:Int) (s:ByteArray) (o:Int) (a:List ByteArray) (u:List Ex),(Ex.mk k n s o a u).size≤m→m≤1000000→
  cF 64 [kE k n s o (srows a) (Ex.rows u)]=some (.own 38 6 (Ex.rows (Ex.mk k n s o a u).parts))
 |0,k,n,s,o,a,u,h,_=>by simp only [Ex.size]at h;omega
 |m+1,k,n,s,o,a,u,h,hm=>by
  have hz:Ex.sizes u≤m:=by simp only [Ex.size]at h;omega
  have hl:=sizes_len u
  refine cOf (by kernel_rfl) rfl ?_
  rw[g64_eq]
  simp only [g64,go1,Nat.reduceAdd,Int.reduceEq,Int.reduceLT,Int.reduceLE,Int.reduceSub,Int.reduceAdd,rows_len]
  refine loopF_at (fun i:Nat=>[.int .i64 (i:Int), .int .i64 k, .int .i64 n, .str s, .int .i64 o, .sl 1 (srows a), .sl 6 (Ex.rows u), .sl 6 (Ex.rows (.mk k n s o a u::Ex.partsL (u.take i)))]) (fun i=>i≤u.length) (fun i=>u.length - i) (fun i hi=> ?_) 0 (Nat.zero_le _)
  by_cases hlt:i < u.length
  ·left
   refine⟨i+1,?_,hlt,by omega⟩
   have hx:=List.getElem?_eq_getElem hlt
   have hd:Ex.partsL (u.take (i+1))=Ex.partsL (u.take i)++u[i].parts:=by rw[List.take_add_one,hx,partsL_app];simp [Ex.partsL]
   have hsz:Ex.sizes (u.take i)≤Ex.sizes u:=by
    have:=sizes_app (u.take i) (u.drop i);rw[List.take_append_drop]at this;omega
   rw[hd]
   generalize u[i]=e at hx
   have he:=sizes_mem hx
   obtain⟨k2,n2,s2,o2,a2,u2⟩:=e
   have h2:=c_reParts (Ex.mk k2 n2 s2 o2 a2 u2).size k2 n2 s2 o2 a2 u2 (Nat.le_refl _) (by omega)
   have hf:decide (((Ex.rows (.mk k n s o a u::Ex.partsL (u.take i))).length+(Ex.rows (Ex.mk k2 n2 s2 o2 a2 u2).parts).length)*(88+1)≤140737488355328)=true:=by
    refine decide_eq_true ?_
    rw[rows_len,rows_len,List.length_cons,partsL_len,parts_len]
    omega
   simp only [go1,Nat.reduceAdd,Int.reduceEq,Int.reduceLT,Int.reduceLE,Int.reduceSub,Int.reduceAdd,rows_len,ilt_at hlt,inr_at hlt,row_of hx,oE,h2,wrap_succ hlt (by omega)]
   simp only [rows_len]at hf
   simp only [hf,go1,Nat.reduceAdd,Int.reduceEq,Int.reduceLT,Int.reduceLE,Int.reduceSub,Int.reduceAdd,rows_app,←List.cons_append]
   rfl
  ·right
   have:i=u.length:=by omega
   subst this
   simp only [go1,Nat.reduceAdd,Int.reduceEq,Int.reduceLT,Int.reduceLE,Int.reduceSub,Int.reduceAdd,oE,rows_len,ilt_self,List.take_length,Ex.parts]
 termination_by m=>m
 decreasing_by omega
theorem c_reRight (k n:Int)(s:ByteArray)(o:Int)(a:List ByteArray)(u:List Ex)(h:(Ex.mk k n s o a u).size≤1000000)(hf:(Ex.mk k n s o a u).fine):cF 31 [kE k n s o (srows a) (Ex.rows u)]=some (.val [.bool (smallB (.mk k n s o a u)&&allB (.mk k n s o a u))]):=by
 have h1:=c_rSize 1000000 k n s o a u h (Nat.le_refl _)
 have h2:=c_rDepth 1000000 k n s o a u h (Nat.le_refl _)
 have h3:=c_reParts 1000000 k n s o a u h (Nat.le_refl _)
 have e1:decide ((60:Int) < ((Ex.mk k n s o a u).size:Int))= !decide ((Ex.mk k n s o a u).size≤60):=by rw[Bool.eq_iff_iff];simp;try omega
 have e2:decide ((12:Int) < ((Ex.mk k n s o a u).depth:Int))= !decide ((Ex.mk k n s o a u).depth≤12):=by rw[Bool.eq_iff_iff];simp;try omega
 refine cOf (by kernel_rfl) rfl ?_
 rw[g31_eq]
 simp only [g31,go1,Nat.reduceAdd,Int.reduceEq,Int.reduceLT,Int.reduceLE,Int.reduceSub,Int.reduceAdd,h1,h2,h3,e1,e2]
 rw[←parts_all]
 have hlen:=parts_len (.mk k n s o a u)
 have hpf:=parts_fine _ hf
 generalize (Ex.mk k n s o a u).parts=ps at*
 have hloop: ∀b:List D→Option (List D ⊕ PRes),(∀(i:Nat) e,ps[i]? =some e→b [.sl 6 (Ex.rows ps), .int .i64 (i:Int)]=bif partB e then some (.inl [.sl 6 (Ex.rows ps), .int .i64 ((i+1:Nat):Int)])else some (.inr (.val [.bool false])))→b [.sl 6 (Ex.rows ps), .int .i64 (ps.length:Int)]=some (.inr (.val [.bool true]))→
     loopF b [.sl 6 (Ex.rows ps), .int .i64 0]=some (.val [.bool (ps.all partB)]):=fun b h1 h2=>
  all_loop2 partB ps (fun i:Nat=>[.sl 6 (Ex.rows ps), .int .i64 (i:Int)]) rfl (r0:= .val [.bool false]) (r1:= .val [.bool true]) h1 (fun _=>h2) (by cases ps.all partB<;>rfl)
 unfold smallB
 cases decide ((Ex.mk k n s o a u).size≤60)with
 |false=>rfl
 |true=>
  cases decide ((Ex.mk k n s o a u).depth≤12)with
  |false=>rfl
  |true=>
   simp only [go1,Nat.reduceAdd,Int.reduceEq,Int.reduceLT,Int.reduceLE,Int.reduceSub,Int.reduceAdd,Bool.not_true,Bool.and_self,Bool.true_and]
   refine hloop _ (fun i e hx=> ?_) ?_
   ·have hlt:=(List.getElem?_eq_some_iff.1 hx).1
    have hm:=hpf e (List.mem_of_getElem? hx)
    obtain⟨k2,n2,s2,o2,a2,u2⟩:=e
    obtain⟨⟨⟨f1,f2,f3⟩,f4⟩,f5⟩:=hm
    have hc:=c_repart k2 n2 s2 o2 a2 u2 f1 f2 f3 (by simp only [Ex.size]at f5 h;omega)
    simp only [go1,Nat.reduceAdd,Int.reduceEq,Int.reduceLT,Int.reduceLE,Int.reduceSub,Int.reduceAdd,rows_len,ilt_at hlt,inr_at hlt,row_of hx,oE,hc]
    cases partB (.mk k2 n2 s2 o2 a2 u2)with
    |true=>simp only [go1,Nat.reduceAdd,Int.reduceEq,Int.reduceLT,Int.reduceLE,Int.reduceSub,Int.reduceAdd,Bool.not_true,wrap_succ hlt (by omega)];rfl
    |false=>rfl
   ·simp only [go1,Nat.reduceAdd,Int.reduceEq,Int.reduceLT,Int.reduceLE,Int.reduceSub,Int.reduceAdd,rows_len,ilt_self]
end Go.Vm
end

section
set_option linter.all false
set_option maxRecDepth 100000
set_option maxHeartbeats 4000000
namespace Go.Vm
open Go.Proofs
end Go.Vm
end

section
set_option linter.all false
set_option maxRecDepth 100000
set_option maxHeartbeats 4000000
namespace Go.Vm
open Go.Proofs
end Go.Vm
end

section
set_option linter.all false
set_option maxRecDepth 100000
set_option maxHeartbeats 4000000
namespace Go.Vm
open Go.Proofs
def valN:Nat→List Nat→Nat
 |n,[]=>n
 |n,c::r=>valN (n*10+(c - 48)) r
end Go.Vm
end

section
set_option linter.all false
set_option maxRecDepth 100000
set_option maxHeartbeats 4000000
namespace Go.Vm
open Go.Proofs
end Go.Vm
end

section
set_option linter.all false
set_option maxRecDepth 100000
set_option maxHeartbeats 4000000
namespace Go.Vm
open Go.Proofs
end Go.Vm
end

section
set_option linter.all false
set_option maxRecDepth 100000
set_option maxHeartbeats 4000000
namespace Go.Vm
open Go.Proofs
end Go.Vm
end

section
set_option linter.all false
set_option maxRecDepth 100000
set_option maxHeartbeats 4000000
namespace Go.Vm
open Go.Proofs
end Go.Vm
end

section
set_option linter.all false
set_option maxRecDepth 100000
set_option maxHeartbeats 4000000
namespace Go.Vm
open Go.Proofs
theorem c_xQuote (s:ByteArray)(hs:s.size≤100000):cF 26 [.d (.str s)]=some (.val [.str (match pathN (tb s)with
  |true=>bs [39]++s++bs [39]
  |false=>bs [])]):=by
 have k:=c_Path s (by omega)
 have f1:sy.sfit (bs [39]) s=true:=decide_eq_true (by rw[←tb_len (bs [39]),tb_bs];simp;omega)
 have f2:sy.sfit (bs [39]++s) (bs [39])=true:=decide_eq_true (by rw[←tb_len,←tb_len,tb_app,tb_bs];simp [tb_len];omega)
 refine cOf (by kernel_rfl) rfl ?_
 rw[g26_eq]
 simp only [g26,go1,Nat.reduceAdd,Int.reduceEq,Int.reduceLT,Int.reduceLE,Int.reduceSub,Int.reduceAdd,k,f1,f2]
 cases pathN (tb s)<;>rfl
theorem c_rxQuote (s:ByteArray)(hs:s.size≤100000):cF 32 [.d (.str s)]=some (.val [.str (match pathN (tb s)with
  |true=>bs [39]++s++bs [39]
  |false=>bs [])]):=by
 have k:=c_rPath s (by omega)
 have f1:sy.sfit (bs [39]) s=true:=decide_eq_true (by rw[←tb_len (bs [39]),tb_bs];simp;omega)
 have f2:sy.sfit (bs [39]++s) (bs [39])=true:=decide_eq_true (by rw[←tb_len,←tb_len,tb_app,tb_bs];simp [tb_len];omega)
 refine cOf (by kernel_rfl) rfl ?_
 rw[g32_eq]
 simp only [g32,go1,Nat.reduceAdd,Int.reduceEq,Int.reduceLT,Int.reduceLE,Int.reduceSub,Int.reduceAdd,k,f1,f2]
 cases pathN (tb s)<;>rfl
end Go.Vm
end

section
set_option linter.all false
set_option maxRecDepth 100000
set_option maxHeartbeats 4000000
namespace Go.Vm
open Go.Proofs
theorem tkA_prop {l:List Tk}{Q:Tk→Prop}(h0:Q ⟨6,bs [],0,0⟩)(h: ∀t∈l,Q t)(j:Nat):Q (tkA l j):=by
 unfold tkA
 rw[List.getD_eq_getElem?_getD]
 cases hx:l[j]? with
 |none=>exact h0
 |some t=>exact h t (List.mem_of_getElem? hx)
theorem TS_of {l:List Tk}(h: ∀t∈l,t.s.size≤100000):TS l:=fun j=>tkA_prop (Q:=fun t=>t.s.size≤100000) (by decide) h j
theorem TOK_of {l:List Tk}(h: ∀t∈l,t.k=5→t.s.size≤2):TOK l:=fun j hj=>by
 have:=tkA_prop (Q:=fun t=>t.k=5→t.s.size≤2) (fun _=>by decide) h j hj
 refine⟨fun e=> ?_,fun e=> ?_⟩<;>(rw[e]at this;revert this;decide)
def okTok (l:List Tk)(i:Int):Bool:=decide (0≤i)&&(decide (i < (l.length:Int))&&decide ((tkA l (l.length - 1)).k=6))
theorem last_at {l:List Tk}(h:0 < l.length)(hl:l.length≤1000000):IntKind.i64.wrap ((l.length:Int) - 1)=((l.length - 1:Nat):Int):=by
 rw[wrap_id (by omega) (by omega)];omega
theorem c_ptokens (l:List Tk)(i:Int)(hl:l.length≤1000000):cF 82 [.d (.sl 4 (trows l)), .d (.int .i64 i)]=some (.val [.bool (okTok l i)]):=by
 refine cOf (by kernel_rfl) rfl ?_
 rw[g82_eq]
 simp only [g82,go1,Nat.reduceAdd,Int.reduceEq,Int.reduceLT,Int.reduceLE,Int.reduceSub,Int.reduceAdd,trows_len]
 unfold okTok
 cases h0:decide (0≤i)with
 |false=>rfl
 |true=>
  cases h1:decide (i < (l.length:Int))with
  |false=>rfl
  |true=>
   have h0:=of_decide_eq_true h0
   have h1:=of_decide_eq_true h1
   have hpos:0 < l.length:=by omega
   have hlt:l.length - 1 < l.length:=by omega
   have q1:=in_tk hlt
   have q2:=row_tk hlt
   rw[trows_len]at q1
   simp only [go1,Nat.reduceAdd,Int.reduceEq,Int.reduceLT,Int.reduceLE,Int.reduceSub,Int.reduceAdd,trows_len,last_at hpos hl,q1,q2,tkrow,Bool.true_and]
def encP:Ex × Int × Int→PRes
 |(.mk k n s o a u,p,r)=> .val [.int .i64 k, .int .i64 n, .str s, .int .i64 o, .sl 1 (srows a), .sl 6 (Ex.rows u), .int .i64 p, .int .i64 r]
def partS (l:List Tk)(i:Nat):Ex × Int × Int:=match readS l i with
 | .out=>(e0,(i:Int),1)
 | .bad j=>(e0,(j:Int),2)
 | .ok e j=>bif !smallB e then(e0,(i:Int),3)else bif !allB e then(e0,(i:Int),1)else(e,(j:Int),0)
theorem small_big (e:Ex):(decide ((12:Int) < (e.depth:Int)) || decide ((60:Int) < (e.size:Int)))= !smallB e:=by
 unfold smallB
 rw[nlt,nlt]
 have e1:decide ((e.depth:Int)≤12)=decide (e.depth≤12):=by rw[Bool.eq_iff_iff];simp;try omega
 have e2:decide ((e.size:Int)≤60)=decide (e.size≤60):=by rw[Bool.eq_iff_iff];simp;try omega
 rw[e1,e2]
 cases decide (e.depth≤12)<;>cases decide (e.size≤60)<;>rfl
theorem c_pread {l:List Tk}(hl:LOK l)(i:Nat)(hi:i < l.length):cF 83 [.d (.sl 4 (trows l)), .d (.int .i64 (i:Int))]=some (match readS l i with
  | .ok (.mk k n s o a u) j=> .val [.int .i64 k, .int .i64 n, .str s, .int .i64 o, .sl 1 (srows a), .sl 6 (Ex.rows u), .int .i64 (j:Int), .bool true]
  | .bad j=> .val [.int .i64 0, .int .i64 0, .str (bs []), .int .i64 0, .sl 1 [], .sl 6 [], .int .i64 (j:Int), .bool false]
  | .out=> .val []):=by
 have h:=c_parrow hl i hi
 have hne:=readS_ne hl i hi
 refine cOf (by kernel_rfl) rfl ?_
 rw[g83_eq]
 simp only [g83,go1,Nat.reduceAdd,Int.reduceEq,Int.reduceLT,Int.reduceLE,Int.reduceSub,Int.reduceAdd,h]
 cases hR:readS l i with
 |out=>exact(hne hR).elim
 |bad j=>rfl
 |ok e j=>obtain⟨k,n,s,o,a,u⟩:=e;rfl
theorem c_pPart {l:List Tk}(hl:LOK l)(ht:TS l)(i:Nat)(hi:i < l.length):cF 42 [.d (.sl 4 (trows l)), .d (.int .i64 (i:Int))]=some (encP (partS l i)):=by
 have hf:=hl.few
 have h1:=c_ptokens l (i:Int) hf
 have h0:okTok l (i:Int)=true:=by
  unfold okTok;rw[decT (by omega),decT (by omega),hl.last];rfl
 rw[h0]at h1
 have h2:=c_pread hl i hi
 have hne:=readS_ne hl i hi
 unfold partS
 refine cOf (by kernel_rfl) rfl ?_
 rw[g42_eq]
 simp only [g42,go1,Nat.reduceAdd,Int.reduceEq,Int.reduceLT,Int.reduceLE,Int.reduceSub,Int.reduceAdd,h1,h2,Bool.not_true]
 cases hR:readS l i with
 |out=>exact(hne hR).elim
 |bad j=>rfl
 |ok e j=>
  have hz:=readS_sz ht hR
  have hj:=((prs_HQ hl (fuel l)).pos .arrow i e j hi hR).2
  have hff:=okS_fine e hz.2 (by omega)
  have hsm:=small_big e
  obtain⟨k,n,s,o,a,u⟩:=e
  have k1:=c_eDepth 1000000 k n s o a u (by omega) (Nat.le_refl _)
  have k2:=c_eSize k n s o a u (by omega)
  have k3:=c_eRight k n s o a u (by omega) hff
  simp only [go1,Nat.reduceAdd,Int.reduceEq,Int.reduceLT,Int.reduceLE,Int.reduceSub,Int.reduceAdd,oE,k1,k2,k3,Bool.not_true]
  cases g1:decide ((12:Int) < ((Ex.mk k n s o a u).depth:Int))with
  |true=>
   rw[g1,Bool.true_or]at hsm
   simp only [go1,Nat.reduceAdd,Int.reduceEq,Int.reduceLT,Int.reduceLE,Int.reduceSub,Int.reduceAdd,←hsm]
   rfl
  |false=>
   cases g2:decide ((60:Int) < ((Ex.mk k n s o a u).size:Int))with
   |true=>
    rw[g1,g2,Bool.false_or]at hsm
    simp only [go1,Nat.reduceAdd,Int.reduceEq,Int.reduceLT,Int.reduceLE,Int.reduceSub,Int.reduceAdd,←hsm]
    rfl
   |false=>
    rw[g1,g2,Bool.false_or]at hsm
    have hsm2:smallB (.mk k n s o a u)=true:=by cases h:smallB (.mk k n s o a u)with
     |true=>rfl
     |false=>rw[h]at hsm;cases hsm
    simp only [go1,Nat.reduceAdd,Int.reduceEq,Int.reduceLT,Int.reduceLE,Int.reduceSub,Int.reduceAdd,←hsm,hsm2,Bool.true_and]
    cases allB (.mk k n s o a u)<;>(simp only [go1,Nat.reduceAdd,Int.reduceEq,Int.reduceLT,Int.reduceLE,Int.reduceSub,Int.reduceAdd,Bool.not_true,Bool.not_false];rfl)
end Go.Vm
end

section
set_option linter.all false
set_option maxRecDepth 100000
set_option maxHeartbeats 4000000
namespace Go.Vm
open Go.Proofs
structure T where
 k:Int
 b:List Nat
 n:Int
def tkT (t:Tk):T:=⟨t.k,tb t.s,t.n⟩
def T.w (t:T):List Nat:=if t.k=4 then 39::(t.b++[39])else t.b
def NumOK (b:List Nat)(n:Int):Prop:=b.all digitN=true∧0 < b.length∧(b.getD 0 0=48→b.length=1)∧valN 0 b < 9223372036854775808∧n=(valN 0 b:Int)
def T.OK (t:T):Prop:=
 (t.k=1∧(lowN t.b || wordN t.b)=true∧nameN smallN t.b=true∧t.n=0)∨(t.k=2∧highN t.b=true∧t.n=0)∨(t.k=3∧NumOK t.b t.n)∨(t.k=4∧pathN t.b=true∧(∀x∈t.b,x≠39)∧t.n=0)∨(t.k=5∧twoN.contains t.b=true∧t.n=0)∨(t.k=5∧ ∃c,oneN.contains c=true∧t.b= [c]∧t.n=0)
def ajB (t:T)(d:Nat):Bool:=if t.k=4 then true else if t.k=5 then(match t.b with
 | [c]=> !twoN.contains [c,d]&& !(decide (c=45)&&decide (d=45))
 |_=>true)else !innerN d
structure TokIs (s:ByteArray) (t:T):Prop where
 k:(nextT0 s).k=t.k
 b:tb (nextT0 s).s=t.b
 n:(nextT0 s).n=t.n
 w:(nextT0 s).w=t.w.length
 ok:(nextT0 s).ok=true
def render:List (Option T)→List Nat
 | []=>[]
 |none::r=>32::render r
 |some t::r=>t.w++render r
def hd (d:Nat)(r:List (Option T)):Nat:=(render r++[d]).getD 0 0
def chain (d:Nat):List (Option T)→Bool
 | []=>true
 |none::r=>chain d r
 |some t::r=>ajB t (hd d r)&&chain d r
theorem render_app: ∀x y:List (Option T),render (x++y)=render x++render y
 | [],y=>rfl
 |none::x,y=>by simp [render,render_app x y]
 |some t::x,y=>by simp [render,render_app x y]
end Go.Vm
end

section
set_option linter.all false
set_option maxRecDepth 100000
set_option maxHeartbeats 4000000
namespace Go.Vm
open Go.Proofs
abbrev Pc:=List (Option T)
def mk (c:Nat):Option T:=some ⟨5,[c],0⟩
def m2 (c d:Nat):Option T:=some ⟨5,[c,d],0⟩
def wd (b:List Nat):Option T:=some ⟨1,b,0⟩
def digN (n:Nat):List Nat:=if h:n < 10 then[48+n]else digN (n / 10)++[48+n % 10]
 termination_by n
 decreasing_by omega
def kNot:List Nat:=[110,111,116]
def kIf:List Nat:=[105,102]
def kThen:List Nat:=[116,104,101,110]
def kElse:List Nat:=[101,108,115,101]
def kFby:List Nat:=[102,98,121]
def kPre:List Nat:=[112,114,101]
def kWhen:List Nat:=[119,104,101,110]
def kMerge:List Nat:=[109,101,114,103,101]
def kEvery:List Nat:=[101,118,101,114,121]
def kWith:List Nat:=[119,105,116,104]
def kTrue:List Nat:=[116,114,117,101]
def kFalse:List Nat:=[102,97,108,115,101]
def opK (o:Nat):Option T:=some ⟨if 7≤o∧o≤10 then 1 else 5,tb (signB o),0⟩
def armP (a:ByteArray):Option T:=some ⟨if highN (tb a)then 2 else 1,tb a,0⟩
def onP (s a:ByteArray):Pc:=if tb a=kTrue then[wd (tb s)]else if tb a=kFalse then[wd kNot,none,wd (tb s)]else[armP a,mk 40,wd (tb s),mk 41]
def sepP:List Pc→Pc
 | []=>[]
 |x::r=>[mk 44,none]++x++sepP r
def listP:List Pc→Pc
 | []=>[]
 |x::r=>x++sepP r
def mergeP:List ByteArray→List Pc→Pc
 |a::ar,x::xs=>[none,mk 40,armP a,none,m2 45 62,none]++x++[mk 41]++mergeP ar xs
 |_,_=>[]
def leafP (k n:Int)(s:ByteArray):Pc:=if k=1 then[some ⟨3,digN n.toNat,n⟩]else if k=2 then[wd (if n=1 then kTrue else kFalse)]else if k=17 then[some ⟨4,tb s,0⟩]else if k=4 then[some ⟨2,tb s,0⟩]else[wd (tb s)]
def callP (n:Int)(s:ByteArray)(t:List Pc):Pc:=if n=1 then[mk 40,wd (tb s),mk 40]++listP (t.take (t.length - 1))++[mk 41,none,wd kEvery,none]++t.getD (t.length - 1) []++[mk 41]else[wd (tb s),mk 40]++listP t++[mk 41]
def pcK (k n:Int)(s:ByteArray)(o:Int)(a:List ByteArray)(t:List Pc):Pc:=
 if k=5 then(if o=1 then[mk 40,mk 45]++t.getD 0 []++[mk 41]else[mk 40,wd kNot,none]++t.getD 0 []++[mk 41])
 else if k=6 then[mk 40]++t.getD 0 []++[none,opK o.toNat,none]++t.getD 1 []++[mk 41]
 else if k=7 then[mk 40,wd kIf,none]++t.getD 0 []++[none,wd kThen,none]++t.getD 1 []++[none,wd kElse,none]++t.getD 2 []++[mk 41]
 else if k=8 then[mk 40]++t.getD 0 []++[none,wd kFby,none]++t.getD 1 []++[mk 41]
 else if k=9 then[mk 40]++t.getD 0 []++[none,m2 45 62,none]++t.getD 1 []++[mk 41]
 else if k=10 then[mk 40,wd kPre,none]++t.getD 0 []++[mk 41]
 else if k=11 then[mk 40]++t.getD 0 []++[none,wd kWhen,none]++onP s (a.getD 0 (bs []))++[mk 41]
 else if k=12 then[mk 40,wd kMerge,none,wd (tb s)]++mergeP a t++[mk 41]
 else if k=13 then callP n s t
 else if k=14 then[mk 91]++listP t++[mk 93]
 else if k=15 then t.getD 0 []++[mk 91]++t.getD 1 []++[mk 93]
 else if k=16 then[mk 40]++t.getD 0 []++[none,wd kWith,none,mk 91]++t.getD 1 []++[mk 93,none,mk 61,none]++t.getD 2 []++[mk 41]
 else leafP k n s
mutual
def pcs:Ex→Pc
 | .mk k n s o a u=>pcK k n s o a (pcsL u)
def pcsL:List Ex→List Pc
 | []=>[]
 |e::l=>pcs e::pcsL l
end
theorem pcsL_len: ∀u:List Ex,(pcsL u).length=u.length
 | []=>rfl
 |_::l=>by simp [pcsL,pcsL_len l]
mutual
def Ex.rng:Ex→Prop
 | .mk _ n _ _ _ u=>n < 9223372036854775808∧Ex.rngs u
def Ex.rngs:List Ex→Prop
 | []=>True
 |e::l=>e.rng∧Ex.rngs l
end
def stB (c:Nat):Bool:=smallN c || (greatN c || (digitN c || (decide (c=39) || (decide (c=40) || decide (c=91)))))
def edB (d:Nat):Bool:=decide (d=32) || (decide (d=41) || (decide (d=44) || (decide (d=91) || (decide (d=93) || (decide (d=59) || decide (d=0))))))
end Go.Vm
end

section
set_option linter.all false
set_option maxRecDepth 100000
set_option maxHeartbeats 4000000
namespace Go.Vm
open Go.Proofs
def okP:Pc→Prop
 | []=>True
 |none::r=>okP r
 |some t::r=>t.OK∧okP r
structure PV (p:Pc):Prop where
 ok:okP p
 ch: ∀d,edB d=true→chain d p=true
 st: ∀d,stB (hd d p)=true
end Go.Vm
end

section
set_option linter.all false
set_option maxRecDepth 100000
set_option maxHeartbeats 4000000
namespace Go.Vm
open Go.Proofs
theorem bs_sz (l:List UInt8):(bs l).size=l.length:=rfl
theorem sfT {a b:ByteArray}(h:a.size+b.size≤9223372036854775807):sy.sfit a b=true:=decide_eq_true h
theorem tb_bstr (c:Nat)(h:c < 256):tb (sy.bstr [[.int .u8 (c:Int)]])= [c]:=by
 show tb (bstrR [[.int .u8 (c:Int)]])= [c]
 unfold bstrR
 simp only [List.map_cons,List.map_nil,byN,Option.getD_some]
 unfold strOfNums
 show[(UInt8.ofNat (c:Int).toNat).toNat]= [c]
 rw[Int.toNat_natCast,UInt8.toNat_ofNat']
 simp;omega
theorem bstr_sz (c:Nat):(sy.bstr [[.int .u8 (c:Int)]]).size=1:=rfl
def tailD (q:Nat):List Nat:=if q=0 then[]else digN q
theorem digN_step (q:Nat)(h:0 < q):digN q=tailD (q / 10)++[48+q % 10]:=by
 rw[digN.eq_def]
 split
 ·rename_i h1
  unfold tailD
  rw[if_pos (by omega),Nat.mod_eq_of_lt h1];rfl
 ·unfold tailD
  rw[if_neg (by omega)]
theorem u64_id {a:Int}(h0:0≤a)(h:a < 18446744073709551616):IntKind.u64.wrap a=a:=by
 show a % _=a
 exact Int.emod_eq_of_lt h0 h
theorem u8_id {a:Int}(h0:0≤a)(h:a < 256):IntKind.u8.wrap a=a:=by
 show a % _=a
 exact Int.emod_eq_of_lt h0 h
theorem c_rDigits (n:Nat)(hn:n < 9223372036854775808): ∃s,cF 158 [.d (.int .i64 (n:Int))]=some (.val [.str s])∧tb s=digN n∧s.size≤100:=by
 have hx: ∃p,loopF (fun ds7=>
     (opI (sy.cell ds7 0) .i64).bind fun n8=>
     (opI (sy.cell ds7 1) .u64).bind fun n9=>
     (opS (sy.cell ds7 2)).bind fun s10=>
     cutO (
      bif (sy.ilt 0 n9)then some (.inl [(.bool true)])
      else some (.inl [(.bool (sy.seq s10 (bs [])))])) fun ds11=>
     (opB (sy.cell ds11 0)).bind fun b12=>
     bif b12 then
      bif (sy.bnot (sy.ieq 10 0))then
       bif (sy.isby [[(.int .u8 (sy.wrap .u8 (sy.wrap .u64 (sy.add 48 (sy.rem n9 10)))))]])then
        bif (sy.sfit (sy.bstr [[(.int .u8 (sy.wrap .u8 (sy.wrap .u64 (sy.add 48 (sy.rem n9 10)))))]]) s10)then
         bif (sy.bnot (sy.ieq 10 0))then
          some (.inl [(.int .i64 n8),(.int .u64 (sy.wrap .u64 (sy.quo n9 10))),(.str (sy.sapp (sy.bstr [[(.int .u8 (sy.wrap .u8 (sy.wrap .u64 (sy.add 48 (sy.rem n9 10)))))]]) s10))])
         else none
        else none
       else none
      else none
     else
      bif (sy.ilt n8 0)then
       bif (sy.sfit (bs [45]) s10)then some (.inr (PRes.val [(.str (sy.sapp (bs [45]) s10))]))else none
      else some (.inr (PRes.val [(.str s10)]))) [(.int .i64 (n:Int)),(.int .u64 (sy.wrap .u64 (n:Int))),(.str (bs []))]=some p∧ ∃s,p= .val [.str s]∧tb s=digN n∧s.size≤100:=by
  have e0:sy.wrap .u64 (n:Int)=(n:Int):=u64_id (by omega) (by omega)
  rw[e0]
  refine loopF_ex (fun x:Nat × ByteArray=>[.int .i64 (n:Int), .int .u64 (x.1:Int), .str x.2]) (fun x=>(x.2=bs []∧x.1=n∨0 < x.2.size∧digN n=tailD x.1++tb x.2)∧x.1 < 10 ^ (20 - x.2.size)∧x.2.size≤20) (fun x=>x.1*2+(if x.2.size=0 then 1 else 0)) (fun x hx=> ?_) (n,bs []) ⟨.inl ⟨rfl,rfl⟩,by show n < 10 ^ 20;omega,by show 0≤20;omega⟩
  obtain⟨q,s⟩:=x
  obtain⟨h1,h2,h3⟩:=hx
  simp only at h1 h2 h3 ⊢
  have hs0:(s.toList == (bs []).toList)=decide (s.size=0):=by
   rw[seq_tb]
   refine dec_iff ⟨fun h=> ?_,fun h=> ?_⟩
   ·have:=congrArg List.length h
    rw[tb_len]at this
    exact this
   ·exact List.length_eq_zero_iff.1 (by rw[tb_len];exact h)
  by_cases hq:0 < q∨s.size=0
  ·left
   have hqq:(q:Int) < 18446744073709551616:=by
    have:10 ^ (20 - s.size)≤10 ^ 20:=Nat.pow_le_pow_right (by omega) (by omega)
    have h20:(10:Nat) ^ 20=100000000000000000000:=by decide
    rcases h1 with⟨_,h⟩|⟨hp,_⟩
    ·omega
    ·have:10 ^ (20 - s.size)≤10 ^ 19:=Nat.pow_le_pow_right (by omega) (by omega)
     have h19:(10:Nat) ^ 19=10000000000000000000:=by decide
     omega
   have hr:sy.rem (q:Int) 10=((q % 10:Nat):Int):=by
    show Int.tmod (q:Int) 10=_
    rw[Int.tmod_eq_emod_of_nonneg (by omega)];omega
   have hd:sy.quo (q:Int) 10=((q / 10:Nat):Int):=by
    show Int.tdiv (q:Int) 10=_
    rw[Int.tdiv_eq_ediv_of_nonneg (by omega)];omega
   have hw:IntKind.u8.wrap (IntKind.u64.wrap (48+((q % 10:Nat):Int)))=((48+q % 10:Nat):Int):=by
    rw[u64_id (by omega) (by omega),u8_id (by omega) (by omega)];omega
   have hw2:IntKind.u64.wrap ((q / 10:Nat):Int)=((q / 10:Nat):Int):=u64_id (by omega) (by omega)
   have hby:sy.isby [[.int .u8 ((48+q % 10:Nat):Int)]]=true:=rfl
   have hsf:sy.sfit (sy.bstr [[.int .u8 ((48+q % 10:Nat):Int)]]) s=true:=sfT (by rw[bstr_sz];omega)
   have hb:(decide ((0:Int) < (q:Int)) || (s.toList == (bs []).toList))=true:=by
    rw[hs0]
    by_cases h:0 < q
    ·rw[decide_eq_true (by omega)];rfl
    ·rw[decide_eq_true (show s.size=0 by omega),Bool.or_true]
   refine⟨(q / 10,sy.bstr [[.int .u8 ((48+q % 10:Nat):Int)]]++s),?_,⟨.inr ⟨?_,?_⟩,?_,?_⟩,?_⟩
   ·simp only [go1,Option.bind_some,eq_self,cond_true,cond_false]
    rw[hb]
    simp only [go1,show decide ((10:Int)=0)=false from rfl,hr,hd,hw,hw2,hby,hsf]
   ·show 0 < (sy.bstr [[.int .u8 ((48+q % 10:Nat):Int)]]++s).size
    rw[ByteArray.size_append,bstr_sz];omega
   ·show digN n=tailD (q / 10)++tb (sy.bstr [[.int .u8 ((48+q % 10:Nat):Int)]]++s)
    rw[tb_app,tb_bstr _ (by omega)]
    rcases h1 with⟨hs,hqn⟩|⟨hp,he⟩
    ·subst hs
     subst hqn
     show digN q=tailD (q / 10)++([48+q % 10]++[])
     rw[List.append_nil]
     by_cases h0:0 < q
     ·exact digN_step q h0
     ·have:q=0:=by omega
      subst this
      rw[digN.eq_def,dif_pos (by omega)];rfl
    ·have h0:0 < q:=by omega
     rw[he]
     show tailD q++tb s=_
     rw[show tailD q=digN q by unfold tailD;rw[if_neg (by omega)],digN_step q h0,List.append_assoc]
   ·show q / 10 < 10 ^ (20 - (sy.bstr [[.int .u8 ((48+q % 10:Nat):Int)]]++s).size)
    rw[ByteArray.size_append,bstr_sz]
    by_cases h20:s.size=20
    ·rw[h20]at h2
     have:q < 1:=h2
     have:q=0:=by omega
     omega
    ·have e:20 - s.size=(20 - (1+s.size))+1:=by omega
     rw[e,Nat.pow_succ]at h2
     omega
   ·show(sy.bstr [[.int .u8 ((48+q % 10:Nat):Int)]]++s).size≤20
    rw[ByteArray.size_append,bstr_sz]
    by_cases h20:s.size=20
    ·rw[h20]at h2
     have:q < 1:=h2
     omega
    ·omega
   ·show q / 10*2+(if(sy.bstr [[.int .u8 ((48+q % 10:Nat):Int)]]++s).size=0 then 1 else 0) < q*2+(if s.size=0 then 1 else 0)
    rw[ByteArray.size_append,bstr_sz,if_neg (by omega)]
    split<;>omega
  ·right
   have hb:(decide ((0:Int) < (q:Int)) || (s.toList == (bs []).toList))=false:=by
    rw[hs0,decide_eq_false (by omega: ¬(0:Int) < (q:Int)),decide_eq_false (by omega: ¬s.size=0)];rfl
   have hn0:decide ((n:Int) < 0)=false:=decide_eq_false (by omega)
   refine⟨.val [.str s],?_,s,rfl,?_,by omega⟩
   ·simp only [go1,Option.bind_some,eq_self,cond_true,cond_false]
    rw[hb]
    simp only [go1,hn0]
   ·rcases h1 with⟨hs,_⟩|⟨hp,he⟩
    ·subst hs
     exact absurd (.inr rfl) hq
    ·have:q=0:=by omega
     subst this
     exact he.symm
 obtain⟨p,hp,s,rfl,h1,h2⟩:=hx
 refine⟨s,?_,h1,h2⟩
 have h0:decide ((n:Int) < 0)=false:=decide_eq_false (by omega)
 refine cOf (by kernel_rfl) rfl ?_
 rw[g158_eq]
 unfold g158
 rw[sy_ilt,h0]
 exact hp
theorem c_rSign (o:Nat)(h1:3≤o)(h2:o≤16):cF 117 [.d (.int .i64 (o:Int))]=some (.val [.str (signB o)]):=by
 refine cOf (by kernel_rfl) rfl ?_
 rw[g117_eq]
 match o,h1,h2 with
 |3,_,_|4,_,_|5,_,_|6,_,_|7,_,_|8,_,_|9,_,_|10,_,_|11,_,_|12,_,_|13,_,_|14,_,_|15,_,_|16,_,_=>rfl
 |o+17,_,h=>omega
theorem c_rOn (s a:ByteArray)(hs:s.size≤100000)(ha:a.size≤100000): ∃r,cF 118 [.d (.str s), .d (.str a)]=some (.val [.str r])∧tb r=render (onP s a)∧r.size≤300000:=by
 have e1:(a.toList == (bs [116,114,117,101]).toList)=decide (tb a=kTrue):=seq_tb _ _
 have e2:(a.toList == (bs [102,97,108,115,101]).toList)=decide (tb a=kFalse):=seq_tb _ _
 have s1:sy.sfit (bs [110,111,116,32]) s=true:=sfT (by simp only [bs_sz,List.length_cons,List.length_nil];omega)
 have s2:sy.sfit a (bs [40])=true:=sfT (by simp only [bs_sz,List.length_cons,List.length_nil];omega)
 have s3:sy.sfit (a++bs [40]) s=true:=sfT (by simp only [ByteArray.size_append,bs_sz,List.length_cons,List.length_nil];omega)
 have s4:sy.sfit (a++bs [40]++s) (bs [41])=true:=sfT (by simp only [ByteArray.size_append,bs_sz,List.length_cons,List.length_nil];omega)
 have core: ∃r,g118 sy eF s a=some (.val [.str r])∧tb r=render (onP s a)∧r.size≤300000:=by
  simp only [g118,go1,e1,e2,s1,s2,s3,s4]
  unfold onP
  by_cases h1:tb a=kTrue
  ·rw[if_pos h1,decide_eq_true h1]
   exact⟨s,rfl,(List.append_nil _).symm,by omega⟩
  ·rw[if_neg h1,decide_eq_false h1]
   by_cases h2:tb a=kFalse
   ·rw[if_pos h2,decide_eq_true h2]
    refine⟨_,rfl,?_,?_⟩
    ·rw[tb_app]
     show[110,111,116,32]++tb s=kNot++32::(tb s++[])
     rw[List.append_nil];rfl
    ·simp only [ByteArray.size_append,bs_sz,List.length_cons,List.length_nil];omega
   ·rw[if_neg h2,decide_eq_false h2]
    refine⟨_,rfl,?_,?_⟩
    ·rw[tb_app,tb_app,tb_app]
     have:T.w ⟨if highN (tb a)then 2 else 1,tb a,0⟩=tb a:=by
      unfold T.w
      rw[if_neg (by simp only;split<;>decide)]
     show tb a++[40]++tb s++[41]=T.w ⟨if highN (tb a)then 2 else 1,tb a,0⟩++([40]++(tb s++([41]++[])))
     rw[this]
     simp
    ·simp only [ByteArray.size_append,bs_sz,List.length_cons,List.length_nil];omega
 obtain⟨r,h1,h2⟩:=core
 exact⟨r,cOf (by kernel_rfl) rfl ((g118_eq _ _ _ _).trans h1),h2⟩
theorem c_rleaf (k n:Int)(s:ByteArray)(o:Int)(a u:List (List D))(h0:k=1→0≤n∧n < 9223372036854775808)(hs:s.size≤100000)(hk:k=1∨k=2∨k=3∨k=4∨k=17): ∃r,cF 121 [kE k n s o a u]=some (.val [.str r])∧tb r=render (leafP k n s)∧r.size≤300000:=by
 have s1:sy.sfit (bs [39]) s=true:=sfT (by simp only [bs_sz,List.length_cons,List.length_nil];omega)
 have s2:sy.sfit (bs [39]++s) (bs [39])=true:=sfT (by simp only [ByteArray.size_append,bs_sz,List.length_cons,List.length_nil];omega)
 have core: ∃r,g121 sy eF k n s o a u=some (.val [.str r])∧tb r=render (leafP k n s)∧r.size≤300000:=by
  rcases hk with rfl|rfl|rfl|rfl|rfl
  ·obtain⟨q1,q2⟩:=h0 rfl
   obtain⟨n,rfl⟩: ∃q:Nat,n=(q:Int):=⟨n.toNat,by omega⟩
   obtain⟨r,h1,h2,h3⟩:=c_rDigits n (by omega)
   refine⟨r,?_,?_,by omega⟩
   ·simp only [g121,go1,h1]
   ·rw[h2]
    show digN n=digN (n:Int).toNat++[]
    rw[List.append_nil,Int.toNat_natCast]
  ·simp only [g121,go1,show decide ((2:Int)=1)=false from rfl]
   by_cases hn:n=1
   ·rw[decide_eq_true hn]
    refine⟨_,rfl,?_,by decide⟩
    subst hn;rfl
   ·rw[decide_eq_false hn]
    refine⟨_,rfl,?_,by decide⟩
    unfold leafP
    rw[if_neg (by decide),if_pos rfl,if_neg hn];rfl
  ·exact⟨s,rfl,(List.append_nil _).symm,by omega⟩
  ·exact⟨s,rfl,(List.append_nil _).symm,by omega⟩
  ·simp only [g121,go1,show decide ((17:Int)=1)=false from rfl,show decide ((17:Int)=2)=false from rfl,s1,s2]
   refine⟨_,rfl,?_,?_⟩
   ·rw[tb_app,tb_app]
    show[39]++tb s++[39]=(39::(tb s++[39]))++[]
    simp
   ·simp only [ByteArray.size_append,bs_sz,List.length_cons,List.length_nil];omega
 obtain⟨r,h1,h2⟩:=core
 exact⟨r,cOf (by kernel_rfl) rfl ((g121_eq _ _ _ _ _ _ _ _).trans h1),h2⟩
def Txt (x:Ex):Prop:= ∀k n s o a u,x= .mk k n s o a u→ ∃r,cF 66 [kE k n s o (srows a) (Ex.rows u)]=some (.val [.str r])∧tb r=render (pcs x)∧r.size≤1000000*x.size
theorem render_seps: ∀(v:List Ex) (x:Ex),render (sepP (pcsL (v++[x])))=render (sepP (pcsL v))++[44,32]++render (pcs x)
 | [],x=>by
   show render ([mk 44,none]++pcs x++[])= []++[44,32]++render (pcs x)
   rw[List.append_nil];rfl
 |y::v,x=>by
  simp only [List.cons_append,pcsL,sepP,List.append_assoc,List.nil_append,render_app,render_seps v x]
  have: ∀z:Pc,render (mk 44::none::z)=44::32::render z:=fun z=>rfl
  simp only [this,render_app,render_seps v x,List.append_assoc,List.cons_append,List.nil_append]
theorem render_list (v:List Ex)(x:Ex)(h:v≠[]):render (listP (pcsL (v++[x])))=render (listP (pcsL v))++[44,32]++render (pcs x):=by
 match v,h with
 |y::v,_=>
  simp only [List.cons_append,pcsL,listP,render_app,render_seps v x,List.append_assoc]
theorem c_rlist (u:List Ex)(hz:Ex.sizes u≤1000)(hu: ∀x∈u,Txt x): ∃r,cF 120 [.d (.sl 6 (Ex.rows u))]=some (.val [.str r])∧tb r=render (listP (pcsL u))∧r.size≤1000002*Ex.sizes u:=by
 have hl:=sizes_len u
 have core: ∃p,g120 sy eF (Ex.rows u)=some p∧ ∃r,p= .val [.str r]∧tb r=render (listP (pcsL u))∧r.size≤1000002*Ex.sizes u:=by
  unfold g120
  refine loopF_ex (fun x:Nat × ByteArray=>[.sl 6 (Ex.rows u), .str x.2, .int .i64 (x.1:Int)]) (fun x=>x.1≤u.length∧tb x.2=render (listP (pcsL (u.take x.1)))∧x.2.size≤1000002*Ex.sizes (u.take x.1)) (fun x=>u.length - x.1) (fun x hx=> ?_) (0,bs []) ⟨Nat.zero_le _,by simp [listP,pcsL,render,tb_bs],by show 0≤_;omega⟩
  obtain⟨i,s⟩:=x
  obtain⟨h1,h2,h3⟩:=hx
  simp only at h1 h2 h3 ⊢
  by_cases hlt:i < u.length
  ·left
   have hx:=List.getElem?_eq_getElem hlt
   have ht:=hu u[i] (List.getElem_mem hlt)
   have htk:u.take (i+1)=u.take i++[u[i]]:=by rw[List.take_add_one,hx];rfl
   have hszs:Ex.sizes (u.take (i+1))≤Ex.sizes u:=by
    have:=sizes_app (u.take (i+1)) (u.drop (i+1))
    rw[List.take_append_drop]at this
    omega
   rw[htk,sizes_snoc]at hszs
   have he1:1≤u[i].size:=by
    cases hh:u[i]with
    |mk=>simp [Ex.size]
   generalize u[i]=e at hx ht htk hszs he1
   have hr:=xrow hx
   obtain⟨k2,n2,s2,o2,a2,u2⟩:=e
   obtain⟨t,h4,h5,h6⟩:=ht k2 n2 s2 o2 a2 u2 rfl
   have w1:IntKind.i64.wrap ((i:Int)+1)=((i+1:Nat):Int):=by rw[wrap_id (by omega) (by omega)];omega
   by_cases hi0:i=0
   ·subst hi0
    have hs0:s.size=0:=by
     have:Ex.sizes (u.take 0)=0:=by simp [Ex.sizes]
     omega
    refine⟨(1,s++t),?_,⟨hlt,?_,?_⟩,by simp only;omega⟩
    ·have sf:sy.sfit s t=true:=sfT (by omega)
     have l0:decide ((0:Int) < (u.length:Int))=true:=ilt_at hlt
     have i0:decide ((0:Int)≤0∧(0:Int) < (u.length:Int))=true:=inr_at hlt
     have hr:sy.row (Ex.rows u) 0=_:=hr
     have w1:IntKind.i64.wrap ((0:Int)+1)=((1:Nat):Int):=w1
     simp only [go1,rows_len,l0,i0,hr,Ex.row,oE,h4,Int.reduceLT,show((0:Nat):Int)=0 from rfl,Int.lt_irrefl,decide_false,sf,w1]
    ·simp only
     rw[tb_app,h2,h5,htk]
     simp [listP,pcsL,sepP,render]
    ·simp only
     rw[htk,sizes_snoc,ByteArray.size_append]
     omega
   ·have hne:u.take i≠[]:=by
     intro h
     have:=congrArg List.length h
     rw[List.length_take,List.length_nil]at this
     omega
    refine⟨(i+1,s++bs [44,32]++t),?_,⟨hlt,?_,?_⟩,by simp only;omega⟩
    ·have sf:sy.sfit s (bs [44,32])=true:=sfT (by simp only [bs_sz,List.length_cons,List.length_nil];omega)
     have sf2:sy.sfit (s++bs [44,32]) t=true:=sfT (by simp only [ByteArray.size_append,bs_sz,List.length_cons,List.length_nil];omega)
     have l0:=ilt_at hlt
     have i0:=inr_at hlt
     have z0:decide ((0:Int) < (i:Int))=true:=decide_eq_true (by omega)
     simp only [go1,rows_len,l0,i0,hr,Ex.row,oE,h4,z0,sf,sf2,w1]
    ·simp only
     rw[tb_app,tb_app,h2,h5,htk,render_list _ _ hne]
     rfl
    ·simp only
     rw[htk,sizes_snoc,ByteArray.size_append,ByteArray.size_append,bs_sz]
     simp only [List.length_cons,List.length_nil]
     omega
  ·right
   have:i=u.length:=by omega
   subst this
   rw[List.take_length]at h2 h3
   refine⟨_,?_,s,rfl,h2,h3⟩
   simp only [go1,rows_len,ilt_self]
 obtain⟨p,h1,r,rfl,h2⟩:=core
 exact⟨r,cOf (by kernel_rfl) rfl ((g120_eq _ _ _).trans h1),h2⟩
end Go.Vm
end

section
set_option linter.all false
set_option maxRecDepth 100000
set_option maxHeartbeats 4000000
namespace Go.Vm
open Go.Proofs
theorem rows_take (u:List Ex)(i:Nat):(Ex.rows u).take i=Ex.rows (u.take i):=by
 induction u generalizing i with
 |nil=>simp [Ex.rows]
 |cons e u ih=>
  cases i with
  |zero=>rfl
  |succ i=>simp only [Ex.rows,List.take_succ_cons,ih]
theorem cut0 (u:List Ex)(i:Nat):sy.cut (Ex.rows u) 0 (i:Int)=Ex.rows (u.take i):=by
 show((Ex.rows u).take (i:Int).toNat).drop (0:Int).toNat=_
 rw[Int.toNat_natCast,rows_take];rfl
theorem pcsL_snoc (x:Ex): ∀v:List Ex,pcsL (v++[x])=pcsL v++[pcs x]
 | []=>rfl
 |y::v=>by simp only [List.cons_append,pcsL,pcsL_snoc x v]
theorem c_rcall (n:Int)(s:ByteArray)(o:Int)(a:List ByteArray)(u:List Ex)(hz:Ex.sizes u≤1000)(hs:s.size≤100000)(hn:n=0∨n=1∧u≠[])(hu: ∀x∈u,Txt x): ∃r,cF 119 [kE 13 n s o (srows a) (Ex.rows u)]=some (.val [.str r])∧tb r=render (callP n s (pcsL u))∧r.size≤1000000*(Ex.sizes u+1):=by
 have hl:=sizes_len u
 have core: ∃r,g119 sy eF 13 n s o (srows a) (Ex.rows u)=some (.val [.str r])∧tb r=render (callP n s (pcsL u))∧r.size≤1000000*(Ex.sizes u+1):=by
  have f1:sy.sfit s (bs [40])=true:=sfT (by rw[bs_sz];simp only [List.length_cons,List.length_nil];omega)
  rcases hn with rfl|⟨rfl,hne⟩
  ·obtain⟨r,h1,h2,h3⟩:=c_rlist u hz hu
   have w0:IntKind.i64.wrap ((u.length:Int) - 0)=((u.length:Nat):Int):=by rw[wrap_id (by omega) (by omega)];omega
   have c0:decide ((0:Int)≤0∧(0:Int)≤(u.length:Int)∧(u.length:Int)≤(u.length:Int))=true:=decide_eq_true ⟨Int.le_refl _,by omega,Int.le_refl _⟩
   have c1:=cut0 u u.length
   rw[List.take_length]at c1
   have c1:((Ex.rows u).take (u.length:Int).toNat).drop (0:Int).toNat=Ex.rows u:=c1
   have f2:sy.sfit (s++bs [40]) r=true:=sfT (by simp only [ByteArray.size_append,bs_sz,List.length_cons,List.length_nil];omega)
   have f3:sy.sfit (s++bs [40]++r) (bs [41])=true:=sfT (by simp only [ByteArray.size_append,bs_sz,List.length_cons,List.length_nil];omega)
   refine⟨s++bs [40]++r++bs [41],?_,?_,?_⟩
   ·simp only [g119,go1,rows_len,f1,w0,c0,c1,h1,f2,f3,Int.reduceEq]
   ·have e:callP 0 s (pcsL u)= [wd (tb s),mk 40]++listP (pcsL u)++[mk 41]:=rfl
    rw[e]
    simp only [tb_app,h2,render_app]
    show tb s++[40]++render (listP (pcsL u))++[41]=tb s++[40]++render (listP (pcsL u))++[41]
    rfl
   ·simp only [ByteArray.size_append,bs_sz,List.length_cons,List.length_nil];omega
  ·obtain⟨v,x,rfl⟩: ∃v x,u=v++[x]:=⟨_,_,(List.dropLast_concat_getLast hne).symm⟩
   have hsz:=sizes_snoc x v
   have hx1:1≤x.size:=by cases x;simp [Ex.size]
   obtain⟨r,h1,h2,h3⟩:=c_rlist v (by omega) fun y hy=>hu y (by simp [hy])
   have hxt:=hu x (by simp)
   have hxr:(v++[x])[v.length]? =some x:=by simp
   have hr:=xrow hxr
   obtain⟨k2,n2,s2,o2,a2,u2⟩:=x
   obtain⟨t,h4,h5,h6⟩:=hxt k2 n2 s2 o2 a2 u2 rfl
   have hL:(v++[Ex.mk k2 n2 s2 o2 a2 u2]).length=v.length+1:=by simp
   rw[hL]at hl
   have w0:IntKind.i64.wrap (((v.length+1:Nat):Int) - 1)=(v.length:Int):=by rw[wrap_id (by omega) (by omega)];omega
   have c0:decide ((0:Int)≤0∧(0:Int)≤(v.length:Int)∧(v.length:Int)≤((v.length+1:Nat):Int))=true:=decide_eq_true ⟨Int.le_refl _,by omega,by omega⟩
   have c1:=cut0 (v++[Ex.mk k2 n2 s2 o2 a2 u2]) v.length
   rw[List.take_left]at c1
   have c1:((Ex.rows (v++[Ex.mk k2 n2 s2 o2 a2 u2])).take (v.length:Int).toNat).drop (0:Int).toNat=Ex.rows v:=c1
   have i0:decide ((0:Int)≤(v.length:Int)∧(v.length:Int) < ((v.length+1:Nat):Int))=true:=decide_eq_true ⟨by omega,by omega⟩
   have f2:sy.sfit (s++bs [40]) r=true:=sfT (by simp only [ByteArray.size_append,bs_sz,List.length_cons,List.length_nil];omega)
   have f3:sy.sfit (s++bs [40]++r) (bs [41])=true:=sfT (by simp only [ByteArray.size_append,bs_sz,List.length_cons,List.length_nil];omega)
   have f4:sy.sfit (bs [40]) (s++bs [40]++r++bs [41])=true:=sfT (by simp only [ByteArray.size_append,bs_sz,List.length_cons,List.length_nil];omega)
   have f5:sy.sfit (bs [40]++(s++bs [40]++r++bs [41])) (bs [32,101,118,101,114,121,32])=true:=sfT (by simp only [ByteArray.size_append,bs_sz,List.length_cons,List.length_nil];omega)
   have f6:sy.sfit (bs [40]++(s++bs [40]++r++bs [41])++bs [32,101,118,101,114,121,32]) t=true:=sfT (by simp only [ByteArray.size_append,bs_sz,List.length_cons,List.length_nil];omega)
   have f7:sy.sfit (bs [40]++(s++bs [40]++r++bs [41])++bs [32,101,118,101,114,121,32]++t) (bs [41])=true:=sfT (by simp only [ByteArray.size_append,bs_sz,List.length_cons,List.length_nil];omega)
   refine⟨bs [40]++(s++bs [40]++r++bs [41])++bs [32,101,118,101,114,121,32]++t++bs [41],?_,?_,?_⟩
   ·simp only [g119,go1,rows_len,hL,f1,w0,c0,c1,h1,f2,f3,f4,f5,i0,hr,Ex.row,h4,f6,f7]
   ·have e:callP 1 s (pcsL (v++[Ex.mk k2 n2 s2 o2 a2 u2]))= [mk 40,wd (tb s),mk 40]++listP (pcsL v)++[mk 41,none,wd kEvery,none]++pcs (Ex.mk k2 n2 s2 o2 a2 u2)++[mk 41]:=by
     rw[pcsL_snoc]
     show[mk 40,wd (tb s),mk 40]++listP ((pcsL v++[pcs (Ex.mk k2 n2 s2 o2 a2 u2)]).take ((pcsL v++[pcs (Ex.mk k2 n2 s2 o2 a2 u2)]).length - 1))++[mk 41,none,wd kEvery,none]++(pcsL v++[pcs (Ex.mk k2 n2 s2 o2 a2 u2)]).getD ((pcsL v++[pcs (Ex.mk k2 n2 s2 o2 a2 u2)]).length - 1) []++[mk 41]=_
     have t1:(pcsL v++[pcs (Ex.mk k2 n2 s2 o2 a2 u2)]).length - 1=(pcsL v).length:=by simp
     rw[t1,List.take_left,List.getD_eq_getElem?_getD,List.getElem?_concat_length]
     rfl
    rw[e]
    simp only [tb_app,h2,h5,render_app]
    have r1:render [mk 40,wd (tb s),mk 40]= [40]++(tb s++[40]):=rfl
    have r2:render [mk 41,none,wd kEvery,none]= [41]++[32,101,118,101,114,121,32]:=rfl
    have r3:render [mk 41]= [41]:=rfl
    have q1:tb (bs [40])= [40]:=rfl
    have q2:tb (bs [41])= [41]:=rfl
    have q3:tb (bs [32,101,118,101,114,121,32])= [32,101,118,101,114,121,32]:=rfl
    rw[r1,r2,r3,q1,q2,q3]
    simp only [List.append_assoc]
   ·simp only [ByteArray.size_append,bs_sz,List.length_cons,List.length_nil];omega
 obtain⟨r,h1,h2⟩:=core
 exact⟨r,cOf (by kernel_rfl) rfl ((g119_eq _ _ _ _ _ _ _ _).trans h1),h2⟩
def tot (ts:List ByteArray):Nat:=(ts.map ByteArray.size).sum
theorem tot_snoc (ts:List ByteArray)(t:ByteArray):tot (ts++[t])=tot ts+t.size:=by simp [tot]
structure TS' (u:List Ex) (ts:List ByteArray):Prop where
 m:ts.map tb=u.map fun x=>render (pcs x)
 z:tot ts≤1000000*Ex.sizes u
theorem TS'.l1 {x:Ex}{ts:List ByteArray}(h:TS' [x] ts): ∃t,ts= [t]∧tb t=render (pcs x)∧t.size≤1000000*x.size:=by
 have hl:ts.length=1:=by simpa using congrArg List.length h.m
 match ts,hl,h.m,h.z with
 | [t],_,m,z=>
   simp only [List.map_cons,List.map_nil,List.cons.injEq]at m
   simp [tot,Ex.sizes]at z
   exact⟨t,rfl,m.1,by omega⟩
theorem TS'.l2 {x y:Ex}{ts:List ByteArray}(h:TS' [x,y] ts): ∃t v,ts= [t,v]∧tb t=render (pcs x)∧tb v=render (pcs y)∧t.size+v.size≤1000000*(x.size+y.size):=by
 have hl:ts.length=2:=by simpa using congrArg List.length h.m
 match ts,hl,h.m,h.z with
 | [t,v],_,m,z=>
   simp only [List.map_cons,List.map_nil,List.cons.injEq]at m
   simp [tot,Ex.sizes]at z
   exact⟨t,v,rfl,m.1,m.2.1,by omega⟩
theorem TS'.l3 {x y z:Ex}{ts:List ByteArray}(h:TS' [x,y,z] ts): ∃t v w,ts= [t,v,w]∧tb t=render (pcs x)∧tb v=render (pcs y)∧tb w=render (pcs z)∧t.size+v.size+w.size≤1000000*(x.size+y.size+z.size):=by
 have hl:ts.length=3:=by simpa using congrArg List.length h.m
 match ts,hl,h.m,h.z with
 | [t,v,w],_,m,z=>
   simp only [List.map_cons,List.map_nil,List.cons.injEq]at m
   simp [tot,Ex.sizes]at z
   exact⟨t,v,w,rfl,m.1,m.2.1,m.2.2.1,by omega⟩
theorem merge_snoc (a:ByteArray)(x:Pc): ∀(ar:List ByteArray) (t:List Pc),ar.length=t.length→render (mergeP (ar++[a]) (t++[x]))=render (mergeP ar t)++[32,40]++tb a++[32,45,62,32]++render x++[41]
 | [],[],_=>by
   have hw:T.w ⟨if highN (tb a)then 2 else 1,tb a,0⟩=tb a:=by
    unfold T.w
    rw[if_neg (by simp only;split<;>decide)]
   have e:mergeP ([]++[a]) ([]++[x])= [none,mk 40,armP a,none,m2 45 62,none]++x++[mk 41]++mergeP [] []:=rfl
   have e2:mergeP [] []= []:=by unfold mergeP;rfl
   rw[e,e2]
   simp only [render_app,List.append_nil]
   have:render [none,mk 40,armP a,none,m2 45 62,none]= [32,40]++(T.w ⟨if highN (tb a)then 2 else 1,tb a,0⟩++[32,45,62,32]):=rfl
   rw[this,hw]
   show[32,40]++(tb a++[32,45,62,32])++render x++[41]= []++[32,40]++tb a++[32,45,62,32]++render x++[41]
   simp only [List.append_assoc,List.nil_append,List.append_nil]
 |b::ar,y::t,h=>by
  have ih:=merge_snoc a x ar t (by simpa using h)
  simp only [List.cons_append,mergeP]
  simp only [←List.cons_append,render_app,ih]
  simp only [List.append_assoc]
 | [],_::_,h=>by simp at h
 |_::_,[],h=>by simp at h
end Go.Vm
end

section
set_option linter.all false
set_option maxRecDepth 100000
set_option maxHeartbeats 4000000
namespace Go.Vm
open Go.Proofs
theorem c_rtext: ∀(m:Nat) (k n:Int) (s:ByteArray) (o:Int) (a:List ByteArray) (u:List Ex),(Ex.mk k n s o a u).size≤m→m≤1000→allB (.mk k n s o a u)=true→(Ex.mk k n s o a u).fine→(Ex.mk k n s o a u).rng→
  ∃r,cF 66 [kE k n s o (srows a) (Ex.rows u)]=some (.val [.str r])∧tb r=render (pcs (.mk k n s o a u))∧r.size≤1000000*(Ex.mk k n s o a u).size
 |0,k,n,s,o,a,u,h,_,_,_,_=>by simp only [Ex.size]at h;omega
 |m+1,k,n,s,o,a,u,h,hm,hall,hfine,hrng=>by
  have hz:Ex.sizes u≤m:=by simp only [Ex.size]at h;omega
  have hl:=sizes_len u
  obtain⟨⟨fs,fa,fal⟩,fu⟩:=hfine
  obtain⟨rn,ru⟩:=hrng
  simp only [allB,Bool.and_eq_true]at hall
  obtain⟨hpart,hu⟩:=hall
  have hT: ∀x∈u,Txt x:=fun x hx=>by
   rintro k2 n2 s2 o2 a2 u2 rfl
   obtain⟨i,hi⟩:=List.getElem?_of_mem hx
   have h1:=sizes_mem hi
   have h2:=fine_mem hi fu
   have h3:allB (.mk k2 n2 s2 o2 a2 u2)=true:=by
    have: ∀ {l:List Ex},allBs l=true→ ∀x∈l,allB x=true:=by
     intro l
     induction l with
     |nil=>intro _ x h;cases h
     |cons y l ih=>
      intro h x hx
      simp only [allBs,Bool.and_eq_true]at h
      rcases List.mem_cons.1 hx with rfl|hx
      ·exact h.1
      ·exact ih h.2 x hx
    exact this hu _ hx
   have h4:(Ex.mk k2 n2 s2 o2 a2 u2).rng:=by
    have: ∀ {l:List Ex},Ex.rngs l→ ∀x∈l,x.rng:=by
     intro l
     induction l with
     |nil=>intro _ x h;cases h
     |cons y l ih=>
      intro h x hx
      rcases List.mem_cons.1 hx with rfl|hx
      ·exact h.1
      ·exact ih h.2 x hx
    exact this ru _ hx
   exact c_rtext m k2 n2 s2 o2 a2 u2 (by omega) (by omega) h3 h2 h4
  have core: ∃p,g66 sy eF k n s o (srows a) (Ex.rows u)=some p∧ ∃r,p= .val [.str r]∧tb r=render (pcK k n s o a (pcsL u))∧r.size≤1000000*(Ex.sizes u+1):=by
   unfold g66
   refine loopF_ex (fun x:Nat × List ByteArray=>[.int .i64 (x.1:Int), .int .i64 k, .int .i64 n, .str s, .int .i64 o, .sl 1 (srows a), .sl 6 (Ex.rows u), .sl 1 (srows x.2)]) (fun x=>x.1≤u.length∧x.2.length=x.1∧TS' (u.take x.1) x.2) (fun x=>u.length - x.1) (fun x hx=> ?_) (0,[]) ⟨Nat.zero_le _,rfl,⟨by simp,by simp [tot]⟩⟩
   obtain⟨i,ts⟩:=x
   obtain⟨h1,hti,hts⟩:=hx
   simp only at h1 hti hts ⊢
   by_cases hlt:i < u.length
   ·left
    have hx:=List.getElem?_eq_getElem hlt
    have ht:=hT u[i] (List.getElem_mem hlt)
    have htk:u.take (i+1)=u.take i++[u[i]]:=by rw[List.take_add_one,hx];rfl
    generalize u[i]=e at hx ht htk
    have hr:=xrow hx
    obtain⟨k2,n2,s2,o2,a2,u2⟩:=e
    obtain⟨t,h4,h5,h6⟩:=ht k2 n2 s2 o2 a2 u2 rfl
    have w1:IntKind.i64.wrap ((i:Int)+1)=((i+1:Nat):Int):=by rw[wrap_id (by omega) (by omega)];omega
    have l0:=ilt_at hlt
    have i0:=inr_at hlt
    have fit:decide (((srows ts).length+[[D.str t]].length)*(16+1)≤140737488355328)=true:=decide_eq_true (by rw[srows_len];simp only [List.length_cons,List.length_nil];omega)
    refine⟨(i+1,ts++[t]),?_,⟨hlt,by simp [hti],?_,?_⟩,by simp only;omega⟩
    ·have e1:srows ts++[[D.str t]]=srows (ts++[t]):=by rw[←srows_app];rfl
     simp only [go1,rows_len,l0,i0,hr,Ex.row,oE,h4,fit,e1,w1]
    ·simp only
     rw[htk,List.map_append,List.map_append,hts.m]
     simp [h5]
    ·simp only
     rw[htk,tot_snoc,sizes_snoc]
     have:=hts.z
     omega
   ·right
    have:i=u.length:=by omega
    subst this
    rw[List.take_length]at hts
    have hpart0:=hpart
    unfold partB at hpart
    simp only [Bool.and_eq_true]at hpart
    obtain⟨hk,h1,h2,h3,h4,h5,h6,h7⟩:=hpart
    have h5:=of_decide_eq_true h5
    have h6:=of_decide_eq_true h6
    have l0:decide (((u.length:Nat):Int) < (u.length:Int))=false:=ilt_self _
    rcases kinds k hk with rfl|rfl|rfl|rfl|rfl|rfl|rfl|rfl|rfl|rfl|rfl|rfl|rfl|rfl|rfl|rfl|rfl
    · -- 1
      obtain⟨r,q1,q2,q3⟩:=c_rleaf 1 n s o (srows a) (Ex.rows u) (fun _=>⟨of_decide_eq_true h1,rn⟩) fs (by decide)
      refine⟨_,?_,r,rfl,q2,by omega⟩
      simp only [go1,oE,rows_len,l0,Int.reduceEq,q1]
    · -- 2
      obtain⟨r,q1,q2,q3⟩:=c_rleaf 2 n s o (srows a) (Ex.rows u) (fun h=>by cases h) fs (by decide)
      refine⟨_,?_,r,rfl,q2,by omega⟩
      simp only [go1,oE,rows_len,l0,Int.reduceEq,q1]
    · -- 3
      obtain⟨r,q1,q2,q3⟩:=c_rleaf 3 n s o (srows a) (Ex.rows u) (fun h=>by cases h) fs (by decide)
      refine⟨_,?_,r,rfl,q2,by omega⟩
      simp only [go1,oE,rows_len,l0,Int.reduceEq,q1]
    · -- 4
      obtain⟨r,q1,q2,q3⟩:=c_rleaf 4 n s o (srows a) (Ex.rows u) (fun h=>by cases h) fs (by decide)
      refine⟨_,?_,r,rfl,q2,by omega⟩
      simp only [go1,oE,rows_len,l0,Int.reduceEq,q1]
    · -- 5
      have hlu:u.length=1:=by simp [hiB,loB]at h5 h6;omega
      match u,hlu,hts,l0 with
      | [x],_,hts,l0=>
        obtain⟨t,rfl,q0,hb⟩:=hts.l1
        simp only [Ex.sizes]at hz ⊢
        have c0:sy.cell (sy.rown (srows [t]) 0) 0=some (.str t):=rfl
        have c0':sy.cell (sy.rown (srows [t]) (Int.toNat 0)) 0=some (.str t):=rfl
        have i0:decide ((0:Int)≤0∧(0:Int) < ((srows [t]).length:Int))=true:=rfl
        by_cases ho:o=1
        ·subst ho
         refine⟨_,?_,bs [40,45]++t++bs [41],rfl,?_,?_⟩
         ·simp (disch:=(simp only [ByteArray.size_append,bs_sz,List.length_cons,List.length_nil];omega)) only [go1,oE,rows_len,l0,sfT,Int.reduceEq,c0,c0',i0]
         ·show _=render ([mk 40,mk 45]++pcs x++[mk 41])
          simp only [tb_app,render_app,List.append_assoc,q0]
          rfl
         ·simp only [ByteArray.size_append,bs_sz,List.length_cons,List.length_nil]
          omega
        ·have e:pcK 5 n s o a (pcsL [x])= [mk 40,wd kNot,none]++pcs x++[mk 41]:=by unfold pcK;rw[if_pos rfl,if_neg ho];rfl
         rw[e]
         have ho:=decide_eq_false ho
         refine⟨_,?_,bs [40,110,111,116,32]++t++bs [41],rfl,?_,?_⟩
         ·simp (disch:=(simp only [ByteArray.size_append,bs_sz,List.length_cons,List.length_nil];omega)) only [go1,oE,rows_len,l0,sfT,Int.reduceEq,c0,c0',i0,ho]
         ·show _=render ([mk 40,wd kNot,none]++pcs x++[mk 41])
          simp only [tb_app,render_app,List.append_assoc,q0]
          rfl
         ·simp only [ByteArray.size_append,bs_sz,List.length_cons,List.length_nil]
          omega
    · -- 6
      have hlu:u.length=2:=by simp [hiB,loB]at h5 h6;omega
      match u,hlu,hts,l0 with
      | [x,y],_,hts,l0=>
        obtain⟨t,v,rfl,q0,q1,hb⟩:=hts.l2
        simp only [Ex.sizes]at hz ⊢
        have ho:3≤o∧o≤16:=by simpa [opB_]using h3
        obtain⟨o,rfl⟩: ∃q:Nat,o=(q:Int):=⟨o.toNat,by omega⟩
        have hsg:=c_rSign o (by omega) (by omega)
        have hss:(signB o).size≤3:=by
         have h1:3≤o:=by omega
         have h2:o≤16:=by omega
         match o,h1,h2 with
         |3,_,_|4,_,_|5,_,_|6,_,_|7,_,_|8,_,_|9,_,_|10,_,_|11,_,_|12,_,_|13,_,_|14,_,_|15,_,_|16,_,_=>decide
         |o+17,_,h=>omega
        have qx:render [none,opK o,none]= [32]++(tb (signB o)++[32]):=by
         show 32::(T.w ⟨if 7≤o∧o≤10 then 1 else 5,tb (signB o),0⟩++[32])=_
         unfold T.w
         rw[if_neg (by simp only;split<;>decide)]
         rfl
        have c0:sy.cell (sy.rown (srows [t,v]) 0) 0=some (.str t):=rfl
        have c0':sy.cell (sy.rown (srows [t,v]) (Int.toNat 0)) 0=some (.str t):=rfl
        have i0:decide ((0:Int)≤0∧(0:Int) < ((srows [t,v]).length:Int))=true:=rfl
        have c1:sy.cell (sy.rown (srows [t,v]) 1) 0=some (.str v):=rfl
        have c1':sy.cell (sy.rown (srows [t,v]) (Int.toNat 1)) 0=some (.str v):=rfl
        have i1:decide ((0:Int)≤1∧(1:Int) < ((srows [t,v]).length:Int))=true:=rfl
        refine⟨_,?_,bs [40]++t++bs [32]++signB o++bs [32]++v++bs [41],rfl,?_,?_⟩
        ·simp (disch:=(simp only [ByteArray.size_append,bs_sz,List.length_cons,List.length_nil];omega)) only [go1,oE,rows_len,l0,sfT,Int.reduceEq,c0,c0',i0,c1,c1',i1,hsg]
        ·show _=render ([mk 40]++pcs x++[none,opK o,none]++pcs y++[mk 41])
         simp only [tb_app,render_app,List.append_assoc,q0,q1,qx]
         rfl
        ·simp only [ByteArray.size_append,bs_sz,List.length_cons,List.length_nil]
         omega
    · -- 7
      have hlu:u.length=3:=by simp [hiB,loB]at h5 h6;omega
      match u,hlu,hts,l0 with
      | [x,y,z],_,hts,l0=>
        obtain⟨t,v,w,rfl,q0,q1,q2,hb⟩:=hts.l3
        simp only [Ex.sizes]at hz ⊢
        have c0:sy.cell (sy.rown (srows [t,v,w]) 0) 0=some (.str t):=rfl
        have c0':sy.cell (sy.rown (srows [t,v,w]) (Int.toNat 0)) 0=some (.str t):=rfl
        have i0:decide ((0:Int)≤0∧(0:Int) < ((srows [t,v,w]).length:Int))=true:=rfl
        have c1:sy.cell (sy.rown (srows [t,v,w]) 1) 0=some (.str v):=rfl
        have c1':sy.cell (sy.rown (srows [t,v,w]) (Int.toNat 1)) 0=some (.str v):=rfl
        have i1:decide ((0:Int)≤1∧(1:Int) < ((srows [t,v,w]).length:Int))=true:=rfl
        have c2:sy.cell (sy.rown (srows [t,v,w]) 2) 0=some (.str w):=rfl
        have c2':sy.cell (sy.rown (srows [t,v,w]) (Int.toNat 2)) 0=some (.str w):=rfl
        have i2:decide ((0:Int)≤2∧(2:Int) < ((srows [t,v,w]).length:Int))=true:=rfl
        refine⟨_,?_,bs [40,105,102,32]++t++bs [32,116,104,101,110,32]++v++bs [32,101,108,115,101,32]++w++bs [41],rfl,?_,?_⟩
        ·simp (disch:=(simp only [ByteArray.size_append,bs_sz,List.length_cons,List.length_nil];omega)) only [go1,oE,rows_len,l0,sfT,Int.reduceEq,c0,c0',i0,c1,c1',i1,c2,c2',i2]
        ·show _=render ([mk 40,wd kIf,none]++pcs x++[none,wd kThen,none]++pcs y++[none,wd kElse,none]++pcs z++[mk 41])
         simp only [tb_app,render_app,List.append_assoc,q0,q1,q2]
         rfl
        ·simp only [ByteArray.size_append,bs_sz,List.length_cons,List.length_nil]
         omega
    · -- 8
      have hlu:u.length=2:=by simp [hiB,loB]at h5 h6;omega
      match u,hlu,hts,l0 with
      | [x,y],_,hts,l0=>
        obtain⟨t,v,rfl,q0,q1,hb⟩:=hts.l2
        simp only [Ex.sizes]at hz ⊢
        have c0:sy.cell (sy.rown (srows [t,v]) 0) 0=some (.str t):=rfl
        have c0':sy.cell (sy.rown (srows [t,v]) (Int.toNat 0)) 0=some (.str t):=rfl
        have i0:decide ((0:Int)≤0∧(0:Int) < ((srows [t,v]).length:Int))=true:=rfl
        have c1:sy.cell (sy.rown (srows [t,v]) 1) 0=some (.str v):=rfl
        have c1':sy.cell (sy.rown (srows [t,v]) (Int.toNat 1)) 0=some (.str v):=rfl
        have i1:decide ((0:Int)≤1∧(1:Int) < ((srows [t,v]).length:Int))=true:=rfl
        refine⟨_,?_,bs [40]++t++bs [32,102,98,121,32]++v++bs [41],rfl,?_,?_⟩
        ·simp (disch:=(simp only [ByteArray.size_append,bs_sz,List.length_cons,List.length_nil];omega)) only [go1,oE,rows_len,l0,sfT,Int.reduceEq,c0,c0',i0,c1,c1',i1]
        ·show _=render ([mk 40]++pcs x++[none,wd kFby,none]++pcs y++[mk 41])
         simp only [tb_app,render_app,List.append_assoc,q0,q1]
         rfl
        ·simp only [ByteArray.size_append,bs_sz,List.length_cons,List.length_nil]
         omega
    · -- 9
      have hlu:u.length=2:=by simp [hiB,loB]at h5 h6;omega
      match u,hlu,hts,l0 with
      | [x,y],_,hts,l0=>
        obtain⟨t,v,rfl,q0,q1,hb⟩:=hts.l2
        simp only [Ex.sizes]at hz ⊢
        have c0:sy.cell (sy.rown (srows [t,v]) 0) 0=some (.str t):=rfl
        have c0':sy.cell (sy.rown (srows [t,v]) (Int.toNat 0)) 0=some (.str t):=rfl
        have i0:decide ((0:Int)≤0∧(0:Int) < ((srows [t,v]).length:Int))=true:=rfl
        have c1:sy.cell (sy.rown (srows [t,v]) 1) 0=some (.str v):=rfl
        have c1':sy.cell (sy.rown (srows [t,v]) (Int.toNat 1)) 0=some (.str v):=rfl
        have i1:decide ((0:Int)≤1∧(1:Int) < ((srows [t,v]).length:Int))=true:=rfl
        refine⟨_,?_,bs [40]++t++bs [32,45,62,32]++v++bs [41],rfl,?_,?_⟩
        ·simp (disch:=(simp only [ByteArray.size_append,bs_sz,List.length_cons,List.length_nil];omega)) only [go1,oE,rows_len,l0,sfT,Int.reduceEq,c0,c0',i0,c1,c1',i1]
        ·show _=render ([mk 40]++pcs x++[none,m2 45 62,none]++pcs y++[mk 41])
         simp only [tb_app,render_app,List.append_assoc,q0,q1]
         rfl
        ·simp only [ByteArray.size_append,bs_sz,List.length_cons,List.length_nil]
         omega
    · -- 10
      have hlu:u.length=1:=by simp [hiB,loB]at h5 h6;omega
      match u,hlu,hts,l0 with
      | [x],_,hts,l0=>
        obtain⟨t,rfl,q0,hb⟩:=hts.l1
        simp only [Ex.sizes]at hz ⊢
        have c0:sy.cell (sy.rown (srows [t]) 0) 0=some (.str t):=rfl
        have c0':sy.cell (sy.rown (srows [t]) (Int.toNat 0)) 0=some (.str t):=rfl
        have i0:decide ((0:Int)≤0∧(0:Int) < ((srows [t]).length:Int))=true:=rfl
        refine⟨_,?_,bs [40,112,114,101,32]++t++bs [41],rfl,?_,?_⟩
        ·simp (disch:=(simp only [ByteArray.size_append,bs_sz,List.length_cons,List.length_nil];omega)) only [go1,oE,rows_len,l0,sfT,Int.reduceEq,c0,c0',i0]
        ·show _=render ([mk 40,wd kPre,none]++pcs x++[mk 41])
         simp only [tb_app,render_app,List.append_assoc,q0]
         rfl
        ·simp only [ByteArray.size_append,bs_sz,List.length_cons,List.length_nil]
         omega
    · -- 11
      have hlu:u.length=1:=by simp [hiB,loB]at h5 h6;omega
      match u,hlu,hts,l0 with
      | [x],_,hts,l0=>
        obtain⟨t,rfl,q0,hb⟩:=hts.l1
        simp only [Ex.sizes]at hz ⊢
        have hla:a.length=1:=by
         unfold armsB at h4
         simp only [Bool.and_eq_true]at h4
         exact of_decide_eq_true h4.2
        obtain⟨ar,rfl⟩: ∃ar,a= [ar]:=List.length_eq_one_iff.1 hla
        obtain⟨g,g1,qx,g3⟩:=c_rOn s ar fs (fa ar (by simp))
        have ca:sy.cell (sy.row (srows [ar]) 0) 0=some (.str ar):=rfl
        have ia:decide ((0:Int)≤0∧(0:Int) < ((srows [ar]).length:Int))=true:=rfl
        have c0:sy.cell (sy.rown (srows [t]) 0) 0=some (.str t):=rfl
        have c0':sy.cell (sy.rown (srows [t]) (Int.toNat 0)) 0=some (.str t):=rfl
        have i0:decide ((0:Int)≤0∧(0:Int) < ((srows [t]).length:Int))=true:=rfl
        refine⟨_,?_,bs [40]++t++bs [32,119,104,101,110,32]++g++bs [41],rfl,?_,?_⟩
        ·simp (disch:=(simp only [ByteArray.size_append,bs_sz,List.length_cons,List.length_nil];omega)) only [go1,oE,rows_len,l0,sfT,Int.reduceEq,c0,c0',i0,ca,ia,g1]
        ·show _=render ([mk 40]++pcs x++[none,wd kWhen,none]++onP s ar++[mk 41])
         simp only [tb_app,render_app,List.append_assoc,q0,qx]
         rfl
        ·simp only [ByteArray.size_append,bs_sz,List.length_cons,List.length_nil]
         omega
    · -- 12
      have hla:a.length=u.length:=by simp [hiB,loB]at h5 h6;omega
      have f0:sy.sfit (bs [40,109,101,114,103,101,32]) s=true:=sfT (by simp only [ByteArray.size_append,bs_sz,List.length_cons,List.length_nil];omega)
      have tl:ts.length=u.length:=by simpa using congrArg List.length hts.m
      have k12: ∃p,loopF (fun ds39=>
        (opS (sy.cell ds39 0)).bind fun s40=>
        (opI (sy.cell ds39 1) .i64).bind fun n41=>
        oE sy ds39 2 fun n42 n43 s44 n45 l46 l47=>
        (opL (sy.cell ds39 8) 1).bind fun l48=>
        bif (sy.ilt n41 (sy.rlen l48))then
         bif (sy.sfit s40 (bs [32,40]))then
          bif (sy.inr n41 (sy.rlen l46))then
           (opS (sy.cell (sy.row l46 n41) 0)).bind fun s49=>
           bif (sy.sfit (sy.sapp s40 (bs [32,40])) s49)then
            bif (sy.sfit (sy.sapp (sy.sapp s40 (bs [32,40])) s49) (bs [32,45,62,32]))then
             bif (sy.inr n41 (sy.rlen l48))then
              (opS (sy.cell (sy.rown l48 (sy.nat n41)) 0)).bind fun s50=>
              bif (sy.sfit (sy.sapp (sy.sapp (sy.sapp s40 (bs [32,40])) s49) (bs [32,45,62,32])) s50)then
               bif (sy.sfit (sy.sapp (sy.sapp (sy.sapp (sy.sapp s40 (bs [32,40])) s49) (bs [32,45,62,32])) s50) (bs [41]))then
                some (.inl [(.str (sy.sapp (sy.sapp (sy.sapp (sy.sapp (sy.sapp s40 (bs [32,40])) s49) (bs [32,45,62,32])) s50) (bs [41]))),(.int .i64 (sy.wrap .i64 (sy.add n41 1))),(.int .i64 n42),(.int .i64 n43),(.str s44),(.int .i64 n45),(.sl 1 l46),(.sl 6 l47),(.sl 1 l48)])
               else
                none
              else
               none
             else
              none
            else
             none
           else
            none
          else
           none
         else
          none
        else
         bif (sy.sfit s40 (bs [41]))then
          some (.inr ((.inr (PRes.val [(.str (sy.sapp s40 (bs [41])))])):List D ⊕ PRes))
         else
          none
       ) [(.str (sy.sapp (bs [40,109,101,114,103,101,32]) s)),(.int .i64 0),(.int .i64 12),(.int .i64 n),(.str s),(.int .i64 o),(.sl 1 (srows a)),(.sl 6 (Ex.rows u)),(.sl 1 (srows ts))]=some p∧ ∃r,p= .inr (.val [.str r])∧tb r=render (pcK 12 n s o a (pcsL u))∧r.size≤1000000*(Ex.sizes u+1):=by
       refine loopF_ex (fun x:Nat × ByteArray=>[.str x.2, .int .i64 (x.1:Int), .int .i64 12, .int .i64 n, .str s, .int .i64 o, .sl 1 (srows a), .sl 6 (Ex.rows u), .sl 1 (srows ts)]) (fun x=>x.1≤u.length∧tb x.2= [40,109,101,114,103,101,32]++tb s++render (mergeP (a.take x.1) (pcsL (u.take x.1)))∧x.2.size≤100007+tot (ts.take x.1)+100010*x.1) (fun x=>u.length - x.1) (fun x hx=> ?_) (0,bs [40,109,101,114,103,101,32]++s) ⟨Nat.zero_le _,?_,?_⟩
       ·obtain⟨i,r⟩:=x
        obtain⟨g1,g2,g3⟩:=hx
        simp only at g1 g2 g3 ⊢
        by_cases hlt:i < u.length
        ·left
         have hla':i < a.length:=by omega
         have hlt':i < ts.length:=by omega
         have ha:=List.getElem?_eq_getElem hla'
         have ht:=List.getElem?_eq_getElem hlt'
         have hx:=List.getElem?_eq_getElem hlt
         have htx:tb ts[i]=render (pcs u[i]):=by
          have:=congrArg (fun l=>l[i]?) hts.m
          simp only [List.getElem?_map,ht,hx,Option.map_some,Option.some.injEq]at this
          exact this
         have az:a[i].size≤100000:=fa _ (List.getElem_mem hla')
         have tk1:ts.take (i+1)=ts.take i++[ts[i]]:=by rw[List.take_add_one,ht];rfl
         have tk2:a.take (i+1)=a.take i++[a[i]]:=by rw[List.take_add_one,ha];rfl
         have tk3:u.take (i+1)=u.take i++[u[i]]:=by rw[List.take_add_one,hx];rfl
         have tz:tot (ts.take i)+ts[i].size≤tot ts:=by
          have e:tot ts=tot (ts.take (i+1))+tot (ts.drop (i+1)):=by
           unfold tot
           rw[←List.sum_append,←List.map_append,List.take_append_drop]
          rw[tk1,tot_snoc]at e
          omega
         have ttz:=hts.z
         generalize a[i]=aa at ha az tk2
         generalize ts[i]=tt at ht htx tk1 tz
         generalize u[i]=xx at hx htx tk3
         have ca:=srows_at ha
         have ct:sy.cell (sy.rown (srows ts) i) 0=some (.str tt):=by
          show sy.cell ((srows ts).getD i []) 0=_
          rw[List.getD_eq_getElem?_getD]
          simp [srows,srow,ht]
          rfl
         have w1:IntKind.i64.wrap ((i:Int)+1)=((i+1:Nat):Int):=by rw[wrap_id (by omega) (by omega)];omega
         have l1:decide ((i:Int) < (ts.length:Int))=true:=ilt_at hlt'
         have i1:decide ((0:Int)≤(i:Int)∧(i:Int) < (ts.length:Int))=true:=inr_at hlt'
         have i2:decide ((0:Int)≤(i:Int)∧(i:Int) < (a.length:Int))=true:=inr_at hla'
         refine⟨(i+1,r++bs [32,40]++aa++bs [32,45,62,32]++tt++bs [41]),?_,⟨hlt,?_,?_⟩,by simp only;omega⟩
         ·simp (disch:=(simp only [ByteArray.size_append,bs_sz,List.length_cons,List.length_nil];omega)) only [go1,oE,srows_len,l1,i1,i2,ca,ct,w1,sfT,Int.toNat_natCast]
         ·simp only
          rw[tk2,tk3,pcsL_snoc,merge_snoc _ _ _ _ (by rw[pcsL_len,List.length_take,List.length_take];omega)]
          simp only [tb_app,g2,htx,List.append_assoc]
          rfl
         ·simp only
          rw[tk1,tot_snoc]
          simp only [ByteArray.size_append,bs_sz,List.length_cons,List.length_nil]
          omega
        ·right
         have:i=u.length:=by omega
         subst this
         have l1:decide (((u.length:Nat):Int) < (ts.length:Int))=false:=by rw[tl];exact ilt_self _
         have ttz:=hts.z
         rw[←tl,List.take_length]at g3
         rw[←hla,List.take_length,hla,List.take_length]at g2
         refine⟨_,?_,r++bs [41],rfl,?_,?_⟩
         ·simp (disch:=(simp only [ByteArray.size_append,bs_sz,List.length_cons,List.length_nil];omega)) only [go1,oE,srows_len,l1,sfT]
         ·show _=render ([mk 40,wd kMerge,none,wd (tb s)]++mergeP a (pcsL u)++[mk 41])
          simp only [tb_app,g2,render_app,List.append_assoc]
          have:render [mk 40,wd kMerge,none,wd (tb s)]= [40,109,101,114,103,101,32]++(tb s++[]):=rfl
          rw[this]
          simp only [List.append_assoc,List.append_nil]
          rfl
         ·simp only [ByteArray.size_append,bs_sz,List.length_cons,List.length_nil]
          have:1≤a.length:=by
           unfold armsB at h4
           simp only [Bool.and_eq_true]at h4
           have:=h4.2
           simp only [show decide ((12:Int)=11)=false from rfl,cond_false,decide_true,cond_true,Bool.and_eq_true]at this
           exact of_decide_eq_true this.1
          have:u.length≤6:=by
           unfold armsB at h4
           simp only [Bool.and_eq_true]at h4
           have:=h4.2
           simp only [show decide ((12:Int)=11)=false from rfl,cond_false,decide_true,cond_true,Bool.and_eq_true]at this
           have:=of_decide_eq_true this.2.1
           omega
          omega
       ·show tb (bs [40,109,101,114,103,101,32]++s)=_++_++render (mergeP (a.take 0) (pcsL (u.take 0)))
        have:mergeP (a.take 0) (pcsL (u.take 0))= []:=by unfold mergeP;rfl
        rw[this,tb_app]
        simp only [render,List.append_nil]
        rfl
       ·show(bs [40,109,101,114,103,101,32]++s).size≤_
        simp only [ByteArray.size_append,bs_sz,List.length_cons,List.length_nil]
        omega
      obtain⟨p,g1,r,rfl,g2,g3⟩:=k12
      refine⟨_,?_,r,rfl,g2,g3⟩
      simp only [go1,oE,rows_len,l0,Int.reduceEq,f0]
      simp only [sy_sapp]at g1
      first|exact g1|(simp only [go1,oE]at g1;exact g1)
    · -- 13
      have hn:n=0∨n=1:=by simpa [numB]using h1
      obtain⟨r,q1,q2,q3⟩:=c_rcall n s o a u (by omega) fs (by
       rcases hn with rfl|rfl
       ·exact .inl rfl
       ·refine .inr ⟨rfl,?_⟩
        rintro rfl
        simp [loB]at h5) hT
      refine⟨_,?_,r,rfl,q2,q3⟩
      simp only [go1,oE,rows_len,l0,Int.reduceEq,q1]
    · -- 14
      obtain⟨r,q1,q2,q3⟩:=c_rlist u (by omega) hT
      refine⟨_,?_,bs [91]++r++bs [93],rfl,?_,?_⟩
      ·simp (disch:=(simp only [ByteArray.size_append,bs_sz,List.length_cons,List.length_nil];omega)) only [go1,oE,rows_len,l0,Int.reduceEq,q1,sfT]
      ·show _=render ([mk 91]++listP (pcsL u)++[mk 93])
       simp only [tb_app,render_app,List.append_assoc,q2]
       rfl
      ·simp only [ByteArray.size_append,bs_sz,List.length_cons,List.length_nil]
       omega
    · -- 15
      have hlu:u.length=2:=by simp [hiB,loB]at h5 h6;omega
      match u,hlu,hts,l0 with
      | [x,y],_,hts,l0=>
        obtain⟨t,v,rfl,q0,q1,hb⟩:=hts.l2
        simp only [Ex.sizes]at hz ⊢
        have c0:sy.cell (sy.rown (srows [t,v]) 0) 0=some (.str t):=rfl
        have c0':sy.cell (sy.rown (srows [t,v]) (Int.toNat 0)) 0=some (.str t):=rfl
        have i0:decide ((0:Int)≤0∧(0:Int) < ((srows [t,v]).length:Int))=true:=rfl
        have c1:sy.cell (sy.rown (srows [t,v]) 1) 0=some (.str v):=rfl
        have c1':sy.cell (sy.rown (srows [t,v]) (Int.toNat 1)) 0=some (.str v):=rfl
        have i1:decide ((0:Int)≤1∧(1:Int) < ((srows [t,v]).length:Int))=true:=rfl
        refine⟨_,?_,t++bs [91]++v++bs [93],rfl,?_,?_⟩
        ·simp (disch:=(simp only [ByteArray.size_append,bs_sz,List.length_cons,List.length_nil];omega)) only [go1,oE,rows_len,l0,sfT,Int.reduceEq,c0,c0',i0,c1,c1',i1]
        ·show _=render (pcs x++[mk 91]++pcs y++[mk 93])
         simp only [tb_app,render_app,List.append_assoc,q0,q1]
         rfl
        ·simp only [ByteArray.size_append,bs_sz,List.length_cons,List.length_nil]
         omega
    · -- 16
      have hlu:u.length=3:=by simp [hiB,loB]at h5 h6;omega
      match u,hlu,hts,l0 with
      | [x,y,z],_,hts,l0=>
        obtain⟨t,v,w,rfl,q0,q1,q2,hb⟩:=hts.l3
        simp only [Ex.sizes]at hz ⊢
        have c0:sy.cell (sy.rown (srows [t,v,w]) 0) 0=some (.str t):=rfl
        have c0':sy.cell (sy.rown (srows [t,v,w]) (Int.toNat 0)) 0=some (.str t):=rfl
        have i0:decide ((0:Int)≤0∧(0:Int) < ((srows [t,v,w]).length:Int))=true:=rfl
        have c1:sy.cell (sy.rown (srows [t,v,w]) 1) 0=some (.str v):=rfl
        have c1':sy.cell (sy.rown (srows [t,v,w]) (Int.toNat 1)) 0=some (.str v):=rfl
        have i1:decide ((0:Int)≤1∧(1:Int) < ((srows [t,v,w]).length:Int))=true:=rfl
        have c2:sy.cell (sy.rown (srows [t,v,w]) 2) 0=some (.str w):=rfl
        have c2':sy.cell (sy.rown (srows [t,v,w]) (Int.toNat 2)) 0=some (.str w):=rfl
        have i2:decide ((0:Int)≤2∧(2:Int) < ((srows [t,v,w]).length:Int))=true:=rfl
        refine⟨_,?_,bs [40]++t++bs [32,119,105,116,104,32,91]++v++bs [93,32,61,32]++w++bs [41],rfl,?_,?_⟩
        ·simp (disch:=(simp only [ByteArray.size_append,bs_sz,List.length_cons,List.length_nil];omega)) only [go1,oE,rows_len,l0,sfT,Int.reduceEq,c0,c0',i0,c1,c1',i1,c2,c2',i2]
        ·show _=render ([mk 40]++pcs x++[none,wd kWith,none,mk 91]++pcs y++[mk 93,none,mk 61,none]++pcs z++[mk 41])
         simp only [tb_app,render_app,List.append_assoc,q0,q1,q2]
         rfl
        ·simp only [ByteArray.size_append,bs_sz,List.length_cons,List.length_nil]
         omega
    · -- 17
      obtain⟨r,q1,q2,q3⟩:=c_rleaf 17 n s o (srows a) (Ex.rows u) (fun h=>by cases h) fs (by decide)
      refine⟨_,?_,r,rfl,q2,by omega⟩
      simp only [go1,oE,rows_len,l0,Int.reduceEq,q1]
  obtain⟨p,h1,r,rfl,h2,h3⟩:=core
  refine⟨r,cOf (by kernel_rfl) rfl ((g66_eq _ _ _ _ _ _ _ _).trans h1),by rw[pcs];exact h2,?_⟩
  simp only [Ex.size]
  exact h3
end Go.Vm
end
