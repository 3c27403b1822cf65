/-
  Part UJ of the proof. What is proved by the whole: the statement that the claim names, with no condition. This part: lemmas.
-/
import Derived.Test.YtdckoceiokaelaaGreatDoorUI
set_option linter.unusedSimpArgs false
set_option linter.unusedVariables false

section
set_option linter.all false
set_option maxRecDepth 100000
set_option maxHeartbeats 4000000
namespace Go.Vm
open Go.Proofs
noncomputable abbrev kW1 (k n:Int) (s:ByteArray) (o:Int) (a u:List (List D)) (m:Int):List V:=[.d (.int .i64 0), .d (.int .i64 2),kE k n s o a u, .yld 0 (rec0 53), .agg [.any, .any, .any, .ptr 1 0, .any, .any, .any, .any, .any, .any], .fn 3 [.d (.int .i64 m)]]
theorem decW1 (k n:Int)(s:ByteArray)(o:Int)(a u:List (List D))(m:Int):decB (kW1 k n s o a u m)=some (0,[kE k n s o a u, .yld 0 (rec0 53)],[.cells (.rcd .ready) [.any, .any, .any, .ptr 1 0, .any, .any, .any, .any, .any, .any], .cells (.ty 3) [.d (.int .i64 m)]]):=rfl
noncomputable abbrev kW2 (k n:Int) (s:ByteArray) (o:Int) (a u:List (List D)) (b:Bool):List V:=[.d (.int .i64 0), .d (.int .i64 2),kE k n s o a u, .yld 0 (rec0 25), .agg [.any, .any, .ptr 1 0, .any, .any, .any, .any, .any, .any, .any, .any, .any, .any, .any, .any, .any, .any, .any], .fn 4 [.d (.bool b)]]
theorem decW2 (k n:Int)(s:ByteArray)(o:Int)(a u:List (List D))(b:Bool):decB (kW2 k n s o a u b)=some (0,[kE k n s o a u, .yld 0 (rec0 25)],[.cells (.rcd .ready) [.any, .any, .ptr 1 0, .any, .any, .any, .any, .any, .any, .any, .any, .any, .any, .any, .any, .any, .any, .any], .cells (.ty 4) [.d (.bool b)]]):=rfl
theorem c_walk1: ∀(m:Nat) (k n:Int) (s:ByteArray) (o:Int) (a:List ByteArray) (u:List Ex) (c:Nat),(Ex.mk k n s o a u).size≤m→m≤1000000→c+m≤2000000→
  cF 1000098 (kW1 k n s o (srows a) (Ex.rows u) (c:Int))=some (.val [.bool false, .bool true, .int .i64 ((c+(Ex.mk k n s o a u).size:Nat):Int)])
 |0,k,n,s,o,a,u,c,h,_,_=>by simp only [Ex.size]at h;omega
 |m+1,k,n,s,o,a,u,c,h,hm,hc=>by
  have hz:Ex.sizes u≤m:=by simp only [Ex.size]at h;omega
  have hl:=sizes_len u
  refine cOfB (f:=98) (by kernel_rfl) (decW1 k n s o (srows a) (Ex.rows u) (c:Int)) (by kernel_rfl) rfl ?_
  rw[b98_53_eq]
  simp only [b98_53,go1,Nat.reduceAdd,Int.reduceEq,Int.reduceLT,Int.reduceLE,Int.reduceSub,Int.reduceAdd,rows_len,Bool.not_true,wrap_succ (i:=c) (n:=c+1) (by omega) (by omega)]
  refine loopF_at (fun i:Nat=>[.sl 6 (Ex.rows u), .int .i64 (u.length:Int), .int .i64 (i:Int), .int .i64 ((c+1+Ex.sizes (u.take i):Nat):Int)]) (fun i=>i≤u.length∧Ex.sizes (u.take i)≤m) (fun i=>u.length - i) (fun i hi=> ?_) 0 ⟨Nat.zero_le _,Nat.zero_le _⟩
  by_cases hlt:i < u.length
  ·left
   have hx:=List.getElem?_eq_getElem hlt
   have hd:Ex.sizes (u.take (i+1))=Ex.sizes (u.take i)+u[i].size:=by rw[List.take_add_one,hx];exact sizes_snoc _ _
   have hle:Ex.sizes (u.take (i+1))≤m:=by
    have:=sizes_app (u.take (i+1)) (u.drop (i+1));rw[List.take_append_drop]at this;omega
   refine⟨i+1,?_,⟨hlt,hle⟩,by omega⟩
   rw[hd]at hle ⊢
   generalize u[i]=e at hx hle ⊢
   have he:=sizes_mem hx
   obtain⟨k2,n2,s2,o2,a2,u2⟩:=e
   have h2:=c_walk1 (Ex.mk k2 n2 s2 o2 a2 u2).size k2 n2 s2 o2 a2 u2 (c+1+Ex.sizes (u.take i)) (Nat.le_refl _) (by omega) (by omega)
   simp only [go1,Nat.reduceAdd,Int.reduceEq,Int.reduceLT,Int.reduceLE,Int.reduceSub,Int.reduceAdd,rows_len,ilt_at hlt,inr_at hlt,row_of hx,oE,h2,wrap_succ hlt (by omega),Bool.not_true]
   rw[Nat.add_assoc (c+1)]
   rfl
  ·right
   have:i=u.length:=by omega
   subst this
   simp only [go1,Nat.reduceAdd,Int.reduceEq,Int.reduceLT,Int.reduceLE,Int.reduceSub,Int.reduceAdd,rows_len,ilt_self,List.take_length,Ex.size]
   rw[show c+1+Ex.sizes u=c+(Ex.sizes u+1) by omega]
 termination_by m=>m
 decreasing_by omega
mutual
def Ex.fine:Ex→Prop
 | .mk _ _ s _ a u=>(s.size≤100000∧(∀x∈a,x.size≤100000)∧a.length≤1000000)∧Ex.fines u
def Ex.fines:List Ex→Prop
 | []=>True
 |e::l=>e.fine∧Ex.fines l
end
mutual
theorem okS_fine: ∀e:Ex,e.okS→e.size≤1000000→e.fine
 | .mk k n s o a u,h,h2=>by
   have hl:=sizes_len u
   have h3:Ex.sizes u+1≤1000000:=h2
   obtain⟨q1,⟨q2,q3⟩,q4⟩:=h
   exact⟨⟨q1,q2,by omega⟩,okSs_fine u q4 (by omega)⟩
theorem okSs_fine: ∀u:List Ex,Ex.okSs u→Ex.sizes u≤1000000→Ex.fines u
 | [],_,_=>trivial
 |e::l,h,h2=>by
  have h3:e.size+Ex.sizes l≤1000000:=h2
  exact⟨okS_fine e h.1 (by omega),okSs_fine l h.2 (by omega)⟩
end
theorem fine_mem {e:Ex}: ∀ {l:List Ex} {i:Nat},l[i]? =some e→Ex.fines l→e.fine
 |x::l,0,h,h2=>by simp at h;subst h;exact h2.1
 |x::l,i+1,h,h2=>fine_mem (l:=l) (i:=i) (by simpa using h) h2.2
def ansR (b:Bool):Bool→PRes
 |true=> .val [.bool false, .bool true, .bool b]
 |false=> .val [.bool true, .bool false, .bool false]
theorem c_walk2: ∀(m:Nat) (k n:Int) (s:ByteArray) (o:Int) (a:List ByteArray) (u:List Ex) (b:Bool),(Ex.mk k n s o a u).size≤m→m≤1000000→(Ex.mk k n s o a u).fine→
  cF 1000098 (kW2 k n s o (srows a) (Ex.rows u) b)=some (ansR b (allB (.mk k n s o a u)))
 |0,k,n,s,o,a,u,b,h,_,_=>by simp only [Ex.size]at h;omega
 |m+1,k,n,s,o,a,u,b,h,hm,hf=>by
  have hz:Ex.sizes u≤m:=by simp only [Ex.size]at h;omega
  have hl:=sizes_len u
  obtain⟨⟨f1,f2,f3⟩,f4⟩:=hf
  have h1:=c_epart k n s o a u f1 f3 (by omega)
  refine cOfB (f:=98) (by kernel_rfl) (decW2 k n s o (srows a) (Ex.rows u) b) (by kernel_rfl) rfl ?_
  rw[b98_25_eq]
  simp only [b98_25,go1,Nat.reduceAdd,Int.reduceEq,Int.reduceLT,Int.reduceLE,Int.reduceSub,Int.reduceAdd,h1,allB]
  cases partB (.mk k n s o a u)with
  |false=>rfl
  |true=>
   simp only [go1,Nat.reduceAdd,Int.reduceEq,Int.reduceLT,Int.reduceLE,Int.reduceSub,Int.reduceAdd,Bool.not_true,Bool.true_and,rows_len]
   refine loopF_at (fun i:Nat=>[.sl 6 (Ex.rows u), .int .i64 (u.length:Int), .int .i64 (i:Int), .bool b]) (fun i=>i≤u.length∧allBs u=allBs (u.drop i)) (fun i=>u.length - i) (fun i hi=> ?_) 0 ⟨Nat.zero_le _,rfl⟩
   by_cases hlt:i < u.length
   ·have hx:=List.getElem?_eq_getElem hlt
    have hd:=List.drop_eq_getElem_cons hlt
    have hi2:=hi.2
    rw[hd]at hi2
    generalize u[i]=e at hx hi2
    have he:=sizes_mem hx
    have hfe:=fine_mem hx f4
    obtain⟨k2,n2,s2,o2,a2,u2⟩:=e
    have h2:=c_walk2 (Ex.mk k2 n2 s2 o2 a2 u2).size k2 n2 s2 o2 a2 u2 b (Nat.le_refl _) (by omega) hfe
    rw[hi2]
    simp only [allBs]
    cases hb:allB (.mk k2 n2 s2 o2 a2 u2)with
    |false=>
     right
     rw[hb]at h2
     simp only [ansR]at h2
     simp only [go1,Nat.reduceAdd,Int.reduceEq,Int.reduceLT,Int.reduceLE,Int.reduceSub,Int.reduceAdd,rows_len,ilt_at hlt,inr_at hlt,row_of hx,oE,h2,Bool.not_false,Bool.false_and,ansR]
    |true=>
     left
     rw[hb]at h2
     simp only [ansR]at h2
     refine⟨i+1,?_,⟨hlt,by simp only [Bool.true_and]⟩,by omega⟩
     simp only [go1,Nat.reduceAdd,Int.reduceEq,Int.reduceLT,Int.reduceLE,Int.reduceSub,Int.reduceAdd,rows_len,ilt_at hlt,inr_at hlt,row_of hx,oE,h2,wrap_succ hlt (by omega),Bool.not_true]
     rfl
   ·right
    have:i=u.length:=by omega
    subst this
    rw[hi.2,List.drop_length]
    simp only [go1,Nat.reduceAdd,Int.reduceEq,Int.reduceLT,Int.reduceLE,Int.reduceSub,Int.reduceAdd,rows_len,ilt_self,allBs,ansR]
 termination_by m=>m
 decreasing_by omega
theorem c_eSize (k n:Int)(s:ByteArray)(o:Int)(a:List ByteArray)(u:List Ex)(h:(Ex.mk k n s o a u).size≤1000000):cF 53 [kE k n s o (srows a) (Ex.rows u)]=some (.val [.int .i64 ((Ex.mk k n s o a u).size:Int)]):=by
 have h1:=c_walk1 1000000 k n s o a u 0 h (Nat.le_refl _) (by omega)
 rw[Nat.zero_add]at h1
 have h1:cF 1000098 (kW1 k n s o (srows a) (Ex.rows u) 0)=_:=h1
 refine cOf (by kernel_rfl) rfl ?_
 rw[g53_eq]
 simp only [g53,go1,Nat.reduceAdd,Int.reduceEq,Int.reduceLT,Int.reduceLE,Int.reduceSub,Int.reduceAdd,h1]
def smallB (e:Ex):Bool:=decide (e.size≤60)&&decide (e.depth≤12)
theorem c_eRight (k n:Int)(s:ByteArray)(o:Int)(a:List ByteArray)(u:List Ex)(h:(Ex.mk k n s o a u).size≤1000000)(hf:(Ex.mk k n s o a u).fine):cF 25 [kE k n s o (srows a) (Ex.rows u)]=some (.val [.bool (smallB (.mk k n s o a u)&&allB (.mk k n s o a u))]):=by
 have h1:=c_eSize k n s o a u h
 have h2:=c_eDepth 1000000 k n s o a u h (Nat.le_refl _)
 have h3:=c_walk2 1000000 k n s o a u false h (Nat.le_refl _) hf
 have e1:decide ((60:Int) < ((Ex.mk k n s o a u).size:Int))= !decide ((Ex.mk k n s o a u).size≤60):=by rw[Bool.eq_iff_iff];simp;try omega
 have e2:decide ((12:Int) < ((Ex.mk k n s o a u).depth:Int))= !decide ((Ex.mk k n s o a u).depth≤12):=by rw[Bool.eq_iff_iff];simp;try omega
 refine cOf (by kernel_rfl) rfl ?_
 rw[g25_eq]
 simp only [g25,go1,Nat.reduceAdd,Int.reduceEq,Int.reduceLT,Int.reduceLE,Int.reduceSub,Int.reduceAdd,h1,h2,h3,e1,e2]
 unfold smallB
 cases decide ((Ex.mk k n s o a u).size≤60)<;>cases decide ((Ex.mk k n s o a u).depth≤12)<;>cases allB (.mk k n s o a u)<;>rfl
end Go.Vm
end

section
set_option linter.all false
set_option maxRecDepth 100000
set_option maxHeartbeats 4000000
namespace Go.Vm
open Go.Proofs
mutual
def Ex.parts:Ex→List Ex
 | .mk k n s o a u=> .mk k n s o a u::Ex.partsL u
def Ex.partsL:List Ex→List Ex
 | []=>[]
 |e::l=>e.parts++Ex.partsL l
end
mutual
theorem parts_len: ∀e:Ex,e.parts.length=e.size
 | .mk k n s o a u=>by simp only [Ex.parts,Ex.size,List.length_cons,partsL_len u]
theorem partsL_len: ∀u:List Ex,(Ex.partsL u).length=Ex.sizes u
 | []=>rfl
 |e::l=>by simp only [Ex.partsL,Ex.sizes,List.length_append,parts_len e,partsL_len l]
end
theorem partsL_app: ∀a b:List Ex,Ex.partsL (a++b)=Ex.partsL a++Ex.partsL b
 | [],b=>rfl
 |e::a,b=>by simp only [List.cons_append,Ex.partsL,partsL_app a b,List.append_assoc]
theorem rows_app: ∀a b:List Ex,Ex.rows (a++b)=Ex.rows a++Ex.rows b
 | [],b=>rfl
 |e::a,b=>by simp only [List.cons_append,Ex.rows,rows_app a b]
theorem c_reParts: ∀(m:Nat) (k n:Int) (s:ByteArray) (o:Int) (a:List ByteArray) (u:List Ex),(Ex.mk k n s o a u).size≤m→m≤1000000→
  cF 64 [kE k n s o (srows a) (Ex.rows u)]=some (.own 38 6 (Ex.rows (Ex.mk k n s o a u).parts))
 |0,k,n,s,o,a,u,h,_=>by simp only [Ex.size]at h;omega
 |m+1,k,n,s,o,a,u,h,hm=>by
  have hz:Ex.sizes u≤m:=by simp only [Ex.size]at h;omega
  have hl:=sizes_len u
  refine cOf (by kernel_rfl) rfl ?_
  rw[g64_eq]
  simp only [g64,go1,Nat.reduceAdd,Int.reduceEq,Int.reduceLT,Int.reduceLE,Int.reduceSub,Int.reduceAdd,rows_len]
  refine loopF_at (fun i:Nat=>[.int .i64 (i:Int), .int .i64 k, .int .i64 n, .str s, .int .i64 o, .sl 1 (srows a), .sl 6 (Ex.rows u), .sl 6 (Ex.rows (.mk k n s o a u::Ex.partsL (u.take i)))]) (fun i=>i≤u.length) (fun i=>u.length - i) (fun i hi=> ?_) 0 (Nat.zero_le _)
  by_cases hlt:i < u.length
  ·left
   refine⟨i+1,?_,hlt,by omega⟩
   have hx:=List.getElem?_eq_getElem hlt
   have hd:Ex.partsL (u.take (i+1))=Ex.partsL (u.take i)++u[i].parts:=by rw[List.take_add_one,hx,partsL_app];simp [Ex.partsL]
   have hsz:Ex.sizes (u.take i)≤Ex.sizes u:=by
    have:=sizes_app (u.take i) (u.drop i);rw[List.take_append_drop]at this;omega
   rw[hd]
   generalize u[i]=e at hx
   have he:=sizes_mem hx
   obtain⟨k2,n2,s2,o2,a2,u2⟩:=e
   have h2:=c_reParts (Ex.mk k2 n2 s2 o2 a2 u2).size k2 n2 s2 o2 a2 u2 (Nat.le_refl _) (by omega)
   have hf:decide (((Ex.rows (.mk k n s o a u::Ex.partsL (u.take i))).length+(Ex.rows (Ex.mk k2 n2 s2 o2 a2 u2).parts).length)*(88+1)≤140737488355328)=true:=by
    refine decide_eq_true ?_
    rw[rows_len,rows_len,List.length_cons,partsL_len,parts_len]
    omega
   simp only [go1,Nat.reduceAdd,Int.reduceEq,Int.reduceLT,Int.reduceLE,Int.reduceSub,Int.reduceAdd,rows_len,ilt_at hlt,inr_at hlt,row_of hx,oE,h2,wrap_succ hlt (by omega)]
   simp only [rows_len]at hf
   simp only [hf,go1,Nat.reduceAdd,Int.reduceEq,Int.reduceLT,Int.reduceLE,Int.reduceSub,Int.reduceAdd,rows_app,←List.cons_append]
   rfl
  ·right
   have:i=u.length:=by omega
   subst this
   simp only [go1,Nat.reduceAdd,Int.reduceEq,Int.reduceLT,Int.reduceLE,Int.reduceSub,Int.reduceAdd,oE,rows_len,ilt_self,List.take_length,Ex.parts]
 termination_by m=>m
 decreasing_by omega
theorem c_rNames (a:List ByteArray)(ha:a.length≤1000000):cF 48 [.d (.sl 1 (srows a)), .d (.sl 1 (srows a))]=some (.val [.bool true]):=by
 refine cOf (by kernel_rfl) rfl ?_
 rw[g48_eq]
 simp only [g48,go1,Nat.reduceAdd,Int.reduceEq,Int.reduceLT,Int.reduceLE,Int.reduceSub,Int.reduceAdd,srows_len]
 refine loopF_at (fun i:Nat=>[.sl 1 (srows a), .sl 1 (srows a), .int .i64 (i:Int)]) (fun i=>i≤a.length) (fun i=>a.length - i) (fun i hi=> ?_) 0 (Nat.zero_le _)
 by_cases hlt:i < a.length
 ·left
  refine⟨i+1,?_,hlt,by omega⟩
  have hx:=List.getElem?_eq_getElem hlt
  simp only [go1,Nat.reduceAdd,Int.reduceEq,Int.reduceLT,Int.reduceLE,Int.reduceSub,Int.reduceAdd,srows_len,ilt_at hlt,inr_at hlt,srows_at hx,seq_tb,decide_true,Bool.not_true,wrap_succ hlt (by omega)]
  rfl
 ·right
  have:i=a.length:=by omega
  subst this
  simp only [go1,Nat.reduceAdd,Int.reduceEq,Int.reduceLT,Int.reduceLE,Int.reduceSub,Int.reduceAdd,srows_len,ilt_self]
theorem c_reSame: ∀(m:Nat) (k n:Int) (s:ByteArray) (o:Int) (a:List ByteArray) (u:List Ex),(Ex.mk k n s o a u).size≤m→m≤1000000→(Ex.mk k n s o a u).fine→
  cF 22 [kE k n s o (srows a) (Ex.rows u),kE k n s o (srows a) (Ex.rows u)]=some (.val [.bool true])
 |0,k,n,s,o,a,u,h,_,_=>by simp only [Ex.size]at h;omega
 |m+1,k,n,s,o,a,u,h,hm,hf=>by
  have hz:Ex.sizes u≤m:=by simp only [Ex.size]at h;omega
  have hl:=sizes_len u
  obtain⟨⟨f1,f2,f3⟩,f4⟩:=hf
  have h1:=c_rNames a f3
  refine cOf (by kernel_rfl) rfl ?_
  rw[g22_eq]
  simp only [g22,go1,Nat.reduceAdd,Int.reduceEq,Int.reduceLT,Int.reduceLE,Int.reduceSub,Int.reduceAdd,rows_len,seq_tb,decide_true,Bool.not_true,h1]
  refine loopF_at (fun i:Nat=>[.int .i64 (i:Int), .int .i64 k, .int .i64 n, .str s, .int .i64 o, .sl 1 (srows a), .sl 6 (Ex.rows u), .int .i64 k, .int .i64 n, .str s, .int .i64 o, .sl 1 (srows a), .sl 6 (Ex.rows u)]) (fun i=>i≤u.length) (fun i=>u.length - i) (fun i hi=> ?_) 0 (Nat.zero_le _)
  by_cases hlt:i < u.length
  ·left
   refine⟨i+1,?_,hlt,by omega⟩
   have hx:=List.getElem?_eq_getElem hlt
   generalize u[i]=e at hx
   have he:=sizes_mem hx
   have hfe:=fine_mem hx f4
   obtain⟨k2,n2,s2,o2,a2,u2⟩:=e
   have h2:=c_reSame (Ex.mk k2 n2 s2 o2 a2 u2).size k2 n2 s2 o2 a2 u2 (Nat.le_refl _) (by omega) hfe
   simp only [go1,Nat.reduceAdd,Int.reduceEq,Int.reduceLT,Int.reduceLE,Int.reduceSub,Int.reduceAdd,rows_len,ilt_at hlt,inr_at hlt,row_of hx,oE,h2,wrap_succ hlt (by omega),Bool.not_true]
   rfl
  ·right
   have:i=u.length:=by omega
   subst this
   simp only [go1,Nat.reduceAdd,Int.reduceEq,Int.reduceLT,Int.reduceLE,Int.reduceSub,Int.reduceAdd,oE,rows_len,ilt_self]
 termination_by m=>m
 decreasing_by omega
end Go.Vm
end

section
set_option linter.all false
set_option maxRecDepth 100000
set_option maxHeartbeats 4000000
namespace Go.Vm
open Go.Proofs
end Go.Vm
end

section
set_option linter.all false
set_option maxRecDepth 100000
set_option maxHeartbeats 4000000
namespace Go.Vm
open Go.Proofs
theorem span_cons1 {p:Nat→Bool}{c:Nat}{r:List Nat}(h:p c=true):spanN p (c::r)=1+spanN p r:=by
 unfold spanN;rw[List.takeWhile_cons,if_pos h,List.length_cons];omega
theorem span_cons0 {p:Nat→Bool}{c:Nat}{r:List Nat}(h:p c=false):spanN p (c::r)=0:=by
 unfold spanN;rw[List.takeWhile_cons,h];rfl
end Go.Vm
end

section
set_option linter.all false
set_option maxRecDepth 100000
set_option maxHeartbeats 4000000
namespace Go.Vm
open Go.Proofs
theorem gap_blank {c:Nat}(r:List Nat)(hc:blankN c=true):gapN (c::r)=1+gapN r:=by
 have h1:=gapN.eq_def (c::r)
 have h2:=gapN.eq_def r
 have hs:spanN blankN (c::r)=1+spanN blankN r:=span_cons1 hc
 rw[hs]at h1
 have hd:(c::r).drop (1+spanN blankN r)=r.drop (spanN blankN r):=by rw[Nat.add_comm,List.drop_succ_cons]
 have hd2: ∀k,(c::r).drop (1+spanN blankN r+k)=r.drop (spanN blankN r+k):=fun k=>by
  rw[show 1+spanN blankN r+k=(spanN blankN r+k)+1 by omega,List.drop_succ_cons]
 rw[hd,hd2]at h1
 rw[h1,h2]
 split<;>omega
theorem span0 {p:Nat→Bool}{l:List Nat}(h:p (l.getD 0 0)=false):spanN p l=0:=by
 match l,h with
 | [],_=>rfl
 |c::r,h=>exact span_cons0 h
theorem gap_stop {l:List Nat}(hc:blankN (l.getD 0 0)=false)(hr:hasN remN l=false):gapN l=0:=by
 have h1:=gapN.eq_def l
 rw[span0 hc,List.drop_zero,hr]at h1
 simpa using h1
def valN:Nat→List Nat→Nat
 |n,[]=>n
 |n,c::r=>valN (n*10+(c - 48)) r
theorem valN_ge: ∀(l:List Nat) (n:Nat),n≤valN n l
 | [],n=>Nat.le_refl _
 |c::r,n=>by
  have:=valN_ge r (n*10+(c - 48))
  show n≤valN (n*10+(c - 48)) r
  omega
theorem parseM: ∀(l:List UInt8) (acc:Nat),(l.map UInt8.toNat).all digitN=true→acc≤18446744073709551615→
  Lib.parseUintM 18446744073709551615 acc l=if valN acc (l.map UInt8.toNat)≤18446744073709551615 then .ok (valN acc (l.map UInt8.toNat))else .range
 | [],acc,_,h=>by
   rw[Lib.parseUintM,List.map_nil]
   show _=if acc≤_ then _ else _
   rw[if_pos h];rfl
 |c::r,acc,hd,h=>by
  rw[List.map_cons,List.all_cons,Bool.and_eq_true]at hd
  obtain⟨h1,h2⟩:=hd
  have hc:48≤c.toNat∧c.toNat≤57:=by
   unfold digitN at h1
   simpa using h1
  rw[Lib.parseUintM,if_pos hc,List.map_cons]
  show _=if valN (acc*10+(c.toNat - 48)) (r.map UInt8.toNat)≤_ then Lib.NumEnd.ok (valN (acc*10+(c.toNat - 48)) (r.map UInt8.toNat))else _
  have hg:=valN_ge (r.map UInt8.toNat) (acc*10+(c.toNat - 48))
  by_cases h3:1844674407370955162≤acc
  ·rw[if_pos h3,if_neg (by omega)]
  ·rw[if_neg h3]
   by_cases h4:18446744073709551615 < acc*10+(c.toNat - 48)
   ·rw[if_pos h4,if_neg (by omega)]
   ·rw[if_neg h4]
    exact parseM r _ h2 (by omega)
theorem parse_digits (s:ByteArray)(hd:(tb s).all digitN=true)(hne:0 < (tb s).length):
  pokB s=decide (valN 0 (tb s) < 9223372036854775808)∧(valN 0 (tb s) < 9223372036854775808→pnumI s=(valN 0 (tb s):Int)):=by
 unfold pokB pnumI
 unfold tb at hd hne ⊢
 generalize s.data.toList=l at hd hne ⊢
 match l,hne with
 |c::r,_=>
  have hp:=parseM (c::r) 0 hd (by omega)
  rw[List.map_cons,List.all_cons,Bool.and_eq_true]at hd
  have hc:48≤c.toNat∧c.toNat≤57:=by
   have:=hd.1
   unfold digitN at this
   simpa using this
  have e1: ¬(c.toNat=43∨c.toNat=45):=by omega
  have e2: ¬c.toNat=45:=by omega
  generalize valN 0 ((c::r).map UInt8.toNat)=v at hp ⊢
  have hp2:Lib.parseUintB 64 (c::r)=if v≤18446744073709551615 then .ok v else .range:=by
   unfold Lib.parseUintB
   rw[if_neg (by simp)]
   exact hp
  unfold Lib.parseIntB
  simp only [if_neg e1,hp2]
  by_cases hv:v≤18446744073709551615
  ·rw[if_pos hv]
   simp only [e2,not_false_eq_true,true_and,if_false,false_and]
   by_cases hv2:9223372036854775808≤v
   ·have:(2:Nat) ^ (64 - 1)≤v:=hv2
    simp only [this,if_true]
    exact⟨by rw[decF (by omega)],fun h=>by omega⟩
   ·have: ¬(2:Nat) ^ (64 - 1)≤v:=hv2
    simp only [this,if_false]
    exact⟨by rw[decT (by omega)],fun _=>trivial⟩
  ·rw[if_neg hv]
   exact⟨by rw[decF (by omega)],fun h=>by omega⟩
end Go.Vm
end

section
set_option linter.all false
set_option maxRecDepth 100000
set_option maxHeartbeats 4000000
namespace Go.Vm
open Go.Proofs
end Go.Vm
end

section
set_option linter.all false
set_option maxRecDepth 100000
set_option maxHeartbeats 4000000
namespace Go.Vm
open Go.Proofs
theorem valN_app: ∀(l r:List Nat) (n:Nat),valN n (l++r)=valN (valN n l) r
 | [],_,_=>rfl
 |x::l,r,n=>valN_app l r (n*10+(x - 48))
end Go.Vm
end

section
set_option linter.all false
set_option maxRecDepth 100000
set_option maxHeartbeats 4000000
namespace Go.Vm
open Go.Proofs
end Go.Vm
end

section
set_option linter.all false
set_option maxRecDepth 100000
set_option maxHeartbeats 4000000
namespace Go.Vm
open Go.Proofs
end Go.Vm
end

section
set_option linter.all false
set_option maxRecDepth 100000
set_option maxHeartbeats 4000000
namespace Go.Vm
open Go.Proofs
theorem c_xQuote (s:ByteArray)(hs:s.size≤100000):cF 26 [.d (.str s)]=some (.val [.str (match pathN (tb s)with
  |true=>bs [39]++s++bs [39]
  |false=>bs [])]):=by
 have k:=c_Path s (by omega)
 have f1:sy.sfit (bs [39]) s=true:=decide_eq_true (by rw[←tb_len (bs [39]),tb_bs];simp;omega)
 have f2:sy.sfit (bs [39]++s) (bs [39])=true:=decide_eq_true (by rw[←tb_len,←tb_len,tb_app,tb_bs];simp [tb_len];omega)
 refine cOf (by kernel_rfl) rfl ?_
 rw[g26_eq]
 simp only [g26,go1,Nat.reduceAdd,Int.reduceEq,Int.reduceLT,Int.reduceLE,Int.reduceSub,Int.reduceAdd,k,f1,f2]
 cases pathN (tb s)<;>rfl
end Go.Vm
end

section
set_option linter.all false
set_option maxRecDepth 100000
set_option maxHeartbeats 4000000
namespace Go.Vm
open Go.Proofs
theorem ext_sz (s:ByteArray)(a b:Nat):(s.extract a b).size≤s.size:=by
 rw[ByteArray.size_extract];omega
theorem nextT0_s (s:ByteArray):(nextT0 s).s.size≤s.size:=by
 have h0:(bs []).size≤s.size:=Nat.zero_le _
 unfold nextT0
 simp only
 split
 ·unfold wordT
  simp only
  split<;>exact ext_sz _ _ _
 ·exact ext_sz _ _ _
 ·unfold pathT
  split
  ·exact h0
  ·exact ext_sz _ _ _
 ·unfold markT
  split
  ·exact ext_sz _ _ _
  ·exact ext_sz _ _ _
  ·exact h0
theorem nextT0_5 (s:ByteArray)(h:(nextT0 s).k=5):(nextT0 s).s.size≤2:=by
 unfold nextT0 at h ⊢
 simp only at h ⊢
 split at h
 ·rename_i hc;unfold wordT at h;simp only at h;split at h<;>cases h
 ·cases h
 ·unfold pathT at h
  split at h<;>cases h
 ·rename_i h1 h2 h3
  unfold markT at h ⊢
  split
  ·show(s.extract 0 2).size≤2
   rw[ByteArray.size_extract];omega
  ·show(s.extract 0 1).size≤2
   rw[ByteArray.size_extract];omega
  ·rename_i h4 h5
   rw[h4,h5]at h
   cases h
theorem lexS_tok (s:ByteArray): ∀(m a:Nat),(tb s).length - a≤m→(∀t∈(lexS s a).1,t.s.size≤s.size∧(t.k=5→t.s.size≤2))∧(lexS s a).1.length≤(tb s).length - a
 |m,a,hm=>by
  rw[lexS]
  split
  ·rename_i hp
   split
   ·rename_i h
    have ih:=lexS_tok s (m - 1) (a+gapN ((tb s).drop a)+(nextT0 (s.extract (a+gapN ((tb s).drop a)) (tb s).length)).w) (by omega)
    refine⟨fun t ht=> ?_,?_⟩
    ·rcases List.mem_cons.1 ht with rfl|ht
     ·exact⟨Nat.le_trans (nextT0_s _) (ext_sz _ _ _),fun h5=>nextT0_5 _ h5⟩
     ·exact ih.1 t ht
    ·simp only [List.length_cons]
     omega
   ·exact⟨(by simp),Nat.zero_le _⟩
  ·exact⟨(by simp),Nat.zero_le _⟩
 termination_by m a=>(tb s).length - a
 decreasing_by omega
def toksS (s:ByteArray):List Tk:=(lexS s 0).1++[endT s]
theorem toks_mem {s:ByteArray}(hs:s.size≤100000){t:Tk}(h:t∈toksS s):t.s.size≤100000∧(t.k=5→t.s.size≤2):=by
 rcases List.mem_append.1 h with h|h
 ·have:=(lexS_tok s _ 0 (Nat.le_refl _)).1 t h
  exact⟨by omega,this.2⟩
 ·rw[List.mem_singleton.1 h]
  exact⟨bs0_size,fun h=>by cases h⟩
theorem tkA_prop {l:List Tk}{Q:Tk→Prop}(h0:Q ⟨6,bs [],0,0⟩)(h: ∀t∈l,Q t)(j:Nat):Q (tkA l j):=by
 unfold tkA
 rw[List.getD_eq_getElem?_getD]
 cases hx:l[j]? with
 |none=>exact h0
 |some t=>exact h t (List.mem_of_getElem? hx)
theorem TS_of {l:List Tk}(h: ∀t∈l,t.s.size≤100000):TS l:=fun j=>tkA_prop (Q:=fun t=>t.s.size≤100000) (by decide) h j
theorem TOK_of {l:List Tk}(h: ∀t∈l,t.k=5→t.s.size≤2):TOK l:=fun j hj=>by
 have:=tkA_prop (Q:=fun t=>t.k=5→t.s.size≤2) (fun _=>by decide) h j hj
 refine⟨fun e=> ?_,fun e=> ?_⟩<;>(rw[e]at this;revert this;decide)
theorem LOK_toks (s:ByteArray)(hs:s.size≤100000):LOK (toksS s):=by
 have h:=(lexS_tok s _ 0 (Nat.le_refl _)).2
 have h2:(tb s).length≤100000:=by rw[tb_len];exact hs
 refine⟨by simp [toksS],?_,?_⟩
 ·simp [tkA,toksS,endT]
 ·simp only [toksS,List.length_append,List.length_cons,List.length_nil];omega
def okTok (l:List Tk)(i:Int):Bool:=decide (0≤i)&&(decide (i < (l.length:Int))&&decide ((tkA l (l.length - 1)).k=6))
theorem last_at {l:List Tk}(h:0 < l.length)(hl:l.length≤1000000):IntKind.i64.wrap ((l.length:Int) - 1)=((l.length - 1:Nat):Int):=by
 rw[wrap_id (by omega) (by omega)];omega
theorem c_ptokens (l:List Tk)(i:Int)(hl:l.length≤1000000):cF 82 [.d (.sl 4 (trows l)), .d (.int .i64 i)]=some (.val [.bool (okTok l i)]):=by
 refine cOf (by kernel_rfl) rfl ?_
 rw[g82_eq]
 simp only [g82,go1,Nat.reduceAdd,Int.reduceEq,Int.reduceLT,Int.reduceLE,Int.reduceSub,Int.reduceAdd,trows_len]
 unfold okTok
 cases h0:decide (0≤i)with
 |false=>rfl
 |true=>
  cases h1:decide (i < (l.length:Int))with
  |false=>rfl
  |true=>
   have h0:=of_decide_eq_true h0
   have h1:=of_decide_eq_true h1
   have hpos:0 < l.length:=by omega
   have hlt:l.length - 1 < l.length:=by omega
   have q1:=in_tk hlt
   have q2:=row_tk hlt
   rw[trows_len]at q1
   simp only [go1,Nat.reduceAdd,Int.reduceEq,Int.reduceLT,Int.reduceLE,Int.reduceSub,Int.reduceAdd,trows_len,last_at hpos hl,q1,q2,tkrow,Bool.true_and]
def encP:Ex × Int × Int→PRes
 |(.mk k n s o a u,p,r)=> .val [.int .i64 k, .int .i64 n, .str s, .int .i64 o, .sl 1 (srows a), .sl 6 (Ex.rows u), .int .i64 p, .int .i64 r]
def partS (l:List Tk)(i:Nat):Ex × Int × Int:=match readS l i with
 | .out=>(e0,(i:Int),1)
 | .bad j=>(e0,(j:Int),2)
 | .ok e j=>bif !smallB e then(e0,(i:Int),3)else bif !allB e then(e0,(i:Int),1)else(e,(j:Int),0)
theorem small_big (e:Ex):(decide ((12:Int) < (e.depth:Int)) || decide ((60:Int) < (e.size:Int)))= !smallB e:=by
 unfold smallB
 rw[nlt,nlt]
 have e1:decide ((e.depth:Int)≤12)=decide (e.depth≤12):=by rw[Bool.eq_iff_iff];simp;try omega
 have e2:decide ((e.size:Int)≤60)=decide (e.size≤60):=by rw[Bool.eq_iff_iff];simp;try omega
 rw[e1,e2]
 cases decide (e.depth≤12)<;>cases decide (e.size≤60)<;>rfl
theorem c_pread {l:List Tk}(hl:LOK l)(i:Nat)(hi:i < l.length):cF 83 [.d (.sl 4 (trows l)), .d (.int .i64 (i:Int))]=some (match readS l i with
  | .ok (.mk k n s o a u) j=> .val [.int .i64 k, .int .i64 n, .str s, .int .i64 o, .sl 1 (srows a), .sl 6 (Ex.rows u), .int .i64 (j:Int), .bool true]
  | .bad j=> .val [.int .i64 0, .int .i64 0, .str (bs []), .int .i64 0, .sl 1 [], .sl 6 [], .int .i64 (j:Int), .bool false]
  | .out=> .val []):=by
 have h:=c_parrow hl i hi
 have hne:=readS_ne hl i hi
 refine cOf (by kernel_rfl) rfl ?_
 rw[g83_eq]
 simp only [g83,go1,Nat.reduceAdd,Int.reduceEq,Int.reduceLT,Int.reduceLE,Int.reduceSub,Int.reduceAdd,h]
 cases hR:readS l i with
 |out=>exact(hne hR).elim
 |bad j=>rfl
 |ok e j=>obtain⟨k,n,s,o,a,u⟩:=e;rfl
theorem c_pPart {l:List Tk}(hl:LOK l)(ht:TS l)(i:Nat)(hi:i < l.length):cF 42 [.d (.sl 4 (trows l)), .d (.int .i64 (i:Int))]=some (encP (partS l i)):=by
 have hf:=hl.few
 have h1:=c_ptokens l (i:Int) hf
 have h0:okTok l (i:Int)=true:=by
  unfold okTok;rw[decT (by omega),decT (by omega),hl.last];rfl
 rw[h0]at h1
 have h2:=c_pread hl i hi
 have hne:=readS_ne hl i hi
 unfold partS
 refine cOf (by kernel_rfl) rfl ?_
 rw[g42_eq]
 simp only [g42,go1,Nat.reduceAdd,Int.reduceEq,Int.reduceLT,Int.reduceLE,Int.reduceSub,Int.reduceAdd,h1,h2,Bool.not_true]
 cases hR:readS l i with
 |out=>exact(hne hR).elim
 |bad j=>rfl
 |ok e j=>
  have hz:=readS_sz ht hR
  have hj:=((prs_HQ hl (fuel l)).pos .arrow i e j hi hR).2
  have hff:=okS_fine e hz.2 (by omega)
  have hsm:=small_big e
  obtain⟨k,n,s,o,a,u⟩:=e
  have k1:=c_eDepth 1000000 k n s o a u (by omega) (Nat.le_refl _)
  have k2:=c_eSize k n s o a u (by omega)
  have k3:=c_eRight k n s o a u (by omega) hff
  simp only [go1,Nat.reduceAdd,Int.reduceEq,Int.reduceLT,Int.reduceLE,Int.reduceSub,Int.reduceAdd,oE,k1,k2,k3,Bool.not_true]
  cases g1:decide ((12:Int) < ((Ex.mk k n s o a u).depth:Int))with
  |true=>
   rw[g1,Bool.true_or]at hsm
   simp only [go1,Nat.reduceAdd,Int.reduceEq,Int.reduceLT,Int.reduceLE,Int.reduceSub,Int.reduceAdd,←hsm]
   rfl
  |false=>
   cases g2:decide ((60:Int) < ((Ex.mk k n s o a u).size:Int))with
   |true=>
    rw[g1,g2,Bool.false_or]at hsm
    simp only [go1,Nat.reduceAdd,Int.reduceEq,Int.reduceLT,Int.reduceLE,Int.reduceSub,Int.reduceAdd,←hsm]
    rfl
   |false=>
    rw[g1,g2,Bool.false_or]at hsm
    have hsm2:smallB (.mk k n s o a u)=true:=by cases h:smallB (.mk k n s o a u)with
     |true=>rfl
     |false=>rw[h]at hsm;cases hsm
    simp only [go1,Nat.reduceAdd,Int.reduceEq,Int.reduceLT,Int.reduceLE,Int.reduceSub,Int.reduceAdd,←hsm,hsm2,Bool.true_and]
    cases allB (.mk k n s o a u)<;>(simp only [go1,Nat.reduceAdd,Int.reduceEq,Int.reduceLT,Int.reduceLE,Int.reduceSub,Int.reduceAdd,Bool.not_true,Bool.not_false];rfl)
end Go.Vm
end

section
set_option linter.all false
set_option maxRecDepth 100000
set_option maxHeartbeats 4000000
namespace Go.Vm
open Go.Proofs
structure T where
 k:Int
 b:List Nat
 n:Int
def tkT (t:Tk):T:=⟨t.k,tb t.s,t.n⟩
def T.w (t:T):List Nat:=if t.k=4 then 39::(t.b++[39])else t.b
def NumOK (b:List Nat)(n:Int):Prop:=b.all digitN=true∧0 < b.length∧(b.getD 0 0=48→b.length=1)∧valN 0 b < 9223372036854775808∧n=(valN 0 b:Int)
def T.OK (t:T):Prop:=
 (t.k=1∧(lowN t.b || wordN t.b)=true∧nameN smallN t.b=true∧t.n=0)∨(t.k=2∧highN t.b=true∧t.n=0)∨(t.k=3∧NumOK t.b t.n)∨(t.k=4∧pathN t.b=true∧(∀x∈t.b,x≠39)∧t.n=0)∨(t.k=5∧twoN.contains t.b=true∧t.n=0)∨(t.k=5∧ ∃c,oneN.contains c=true∧t.b= [c]∧t.n=0)
def ajB (t:T)(d:Nat):Bool:=if t.k=4 then true else if t.k=5 then(match t.b with
 | [c]=> !twoN.contains [c,d]&& !(decide (c=45)&&decide (d=45))
 |_=>true)else !innerN d
theorem span_app {p:Nat→Bool}: ∀(b r:List Nat),b.all p=true→p (r.getD 0 0)=false∨r= []→spanN p (b++r)=b.length
 | [],r,_,h=>by
   rcases h with h|rfl
   ·exact span0 h
   ·rfl
 |c::b,r,hb,h=>by
  simp only [List.all_cons,Bool.and_eq_true]at hb
  rw[List.cons_append,span_cons1 hb.1,span_app b r hb.2 h,List.length_cons];omega
theorem digit_inner {c:Nat}(h:digitN c=true):innerN c=true:=by unfold innerN;rw[h];simp
theorem not_digit {c:Nat}(h:innerN c=false):digitN c=false:=by
 cases hd:digitN c with
 |false=>rfl
 |true=>rw[digit_inner hd]at h;cases h
theorem small_bd {c:Nat}(h:smallN c=true):97≤c∧c≤122:=by unfold smallN at h;simpa using h
theorem great_bd {c:Nat}(h:greatN c=true):65≤c∧c≤90:=by unfold greatN at h;simpa using h
theorem digit_bd {c:Nat}(h:digitN c=true):48≤c∧c≤57:=by unfold digitN at h;simpa using h
theorem small_great {c:Nat}(h:smallN c=true):greatN c=false:=by have:=small_bd h;unfold greatN;simp;omega
theorem digit_small {c:Nat}(h:digitN c=true):smallN c=false:=by have:=digit_bd h;unfold smallN;simp;omega
theorem digit_great {c:Nat}(h:digitN c=true):greatN c=false:=by have:=digit_bd h;unfold greatN;simp;omega
theorem blank_no {c:Nat}(h:33≤c):blankN c=false:=by unfold blankN;simp;omega
theorem rem_no {c:Nat}{r:List Nat}(h:c≠45):hasN remN (c::r)=false:=by
 unfold hasN remN
 refine decide_eq_false fun e=>h ?_
 simp at e
 exact e.1
theorem name_parts {p:Nat→Bool}{b:List Nat}(h:nameN p b=true):0 < b.length∧p (b.getD 0 0)=true∧b.all innerN=true:=by
 unfold nameN at h
 simp only [Bool.and_eq_true,decide_eq_true_eq]at h
 exact⟨h.1.1.1,h.1.2,h.2⟩
theorem getD_app {b r:List Nat}(h:0 < b.length):(b++r).getD 0 0=b.getD 0 0:=by
 match b,h with
 |c::b,_=>rfl
theorem take_app0 (b r:List Nat):(b++r).take b.length=b:=by simp
structure TokIs (s:ByteArray) (t:T):Prop where
 k:(nextT0 s).k=t.k
 b:tb (nextT0 s).s=t.b
 n:(nextT0 s).n=t.n
 w:(nextT0 s).w=t.w.length
 ok:(nextT0 s).ok=true
theorem tok_word {s:ByteArray}{t:T}{r:List Nat}(hs:tb s=t.b++r)(hk:t.k=1∧nameN smallN t.b=true∧(lowN t.b || wordN t.b)=true∨t.k=2∧highN t.b=true)(hn:t.n=0)(hr:innerN (r.getD 0 0)=false):TokIs s t:=by
 obtain⟨k,b,n⟩:=t
 simp only at hs hk hn
 subst hn
 have hp:0 < b.length∧(smallN (b.getD 0 0)=true∧greatN (b.getD 0 0)=false∨greatN (b.getD 0 0)=true)∧b.all innerN=true:=by
  rcases hk with⟨_,h,_⟩|⟨_,h⟩
  ·have h:=name_parts h
   exact⟨h.1, .inl ⟨h.2.1,small_great h.2.1⟩,h.2.2⟩
  ·have h:=name_parts h
   exact⟨h.1, .inr h.2.1,h.2.2⟩
 have hsp:spanN innerN (tb s)=b.length:=by rw[hs];exact span_app b r hp.2.2 (.inl hr)
 have h0:(tb s).getD 0 0=b.getD 0 0:=by rw[hs,getD_app hp.1]
 have hw:nextT0 s=wordT s:=by
  unfold nextT0
  simp only [h0]
  rcases hp.2.1 with h|h
  ·rw[h.1];rfl
  ·rw[h,Bool.or_true]
 have he:tb (s.extract 0 b.length)=b:=by rw[tb_ext,List.drop_zero,hs,take_app0]
 have hwl:(T.w ⟨k,b,0⟩)=b:=by
  unfold T.w
  rw[if_neg]
  rcases hk with h|h<;>(simp only;omega)
 rcases hk with⟨h1,h2,h3⟩|⟨h1,h2⟩
 ·have hg:greatN (b.getD 0 0)=false:=by
   exact small_great (name_parts h2).2.1
  have e:wordT s=⟨1,s.extract 0 b.length,0,b.length,lowN b || wordN b⟩:=by unfold wordT;simp only [hsp,h0,hg,he]
  rw[e]at hw
  refine⟨?_,?_,?_,?_,?_⟩<;>rw[hw]
  ·exact h1.symm
  ·exact he
  ·rw[hwl]
  ·exact h3
 ·have hg:greatN (b.getD 0 0)=true:=(name_parts h2).2.1
  have e:wordT s=⟨2,s.extract 0 b.length,0,b.length,highN b⟩:=by unfold wordT;simp only [hsp,h0,hg,he]
  rw[e]at hw
  refine⟨?_,?_,?_,?_,?_⟩<;>rw[hw]
  ·exact h1.symm
  ·exact he
  ·rw[hwl]
  ·exact h2
theorem tok_num {s:ByteArray}{t:T}{r:List Nat}(hs:tb s=t.b++r)(hk:t.k=3)(hn:NumOK t.b t.n)(hr:innerN (r.getD 0 0)=false):TokIs s t:=by
 obtain⟨k,b,n⟩:=t
 simp only at hs hk hn
 obtain⟨hd,hl,h48,hv,hn⟩:=hn
 subst hk hn
 have hsp:spanN digitN (tb s)=b.length:=by rw[hs];exact span_app b r hd (.inl (not_digit hr))
 have h0:(tb s).getD 0 0=b.getD 0 0:=by rw[hs,getD_app hl]
 have hb:digitN (b.getD 0 0)=true:=by
  match b,hl with
  |c::b,_=>
   simp only [List.all_cons,Bool.and_eq_true]at hd
   exact hd.1
 have hbd:=digit_bd hb
 have he:tb (s.extract 0 b.length)=b:=by rw[tb_ext,List.drop_zero,hs,take_app0]
 have hw:nextT0 s=numberT s:=by
  unfold nextT0
  have h1:smallN (b.getD 0 0)=false:=digit_small hb
  have h2:greatN (b.getD 0 0)=false:=digit_great hb
  simp only [h0,h1,h2,hb,Bool.or_self]
 have hp:=parse_digits (s.extract 0 b.length) (by rw[he];exact hd) (by rw[he];exact hl)
 rw[he]at hp
 have e:numberT s=⟨3,s.extract 0 b.length,(valN 0 b:Int),b.length,true⟩:=by
  unfold numberT
  simp only [hsp,h0,hp.1,hp.2 hv,decide_eq_true hv,Bool.true_and]
  have:(!decide (b.getD 0 0=48) || decide (b.length=1))=true:=by
   by_cases h:b.getD 0 0=48
   ·rw[decide_eq_true (h48 h),Bool.or_true]
   ·rw[decide_eq_false h];rfl
  rw[this]
 rw[e]at hw
 refine⟨?_,?_,?_,?_,?_⟩<;>rw[hw]
 ·exact he
 ·rfl
theorem idx_app {c:Nat}: ∀(b r:List Nat),(∀x∈b,x≠c)→idxN c (b++c::r)=some b.length
 | [],r,_=>by simp [idxN]
 |x::b,r,h=>by
  have h1:x≠c:=h x List.mem_cons_self
  have h2:=idx_app b r fun y hy=>h y (List.mem_cons_of_mem _ hy)
  rw[List.cons_append,idxN]
  simp [h1,h2]
theorem tok_path {s:ByteArray}{t:T}{r:List Nat}(hs:tb s=39::(t.b++[39])++r)(hk:t.k=4)(hp:pathN t.b=true)(h39: ∀x∈t.b,x≠39)(hn:t.n=0):TokIs s t:=by
 obtain⟨k,b,n⟩:=t
 simp only at hs hk hp h39 hn
 subst hk hn
 have hs2:tb s=39::(b++39::r):=by rw[hs];simp
 have hw:nextT0 s=pathT s:=by
  unfold nextT0
  rw[hs2]
  rfl
 have he:tb (s.extract 1 (b.length+1))=b:=by
  rw[tb_ext,hs2]
  simp
 have e:pathT s=⟨4,s.extract 1 (b.length+1),0,b.length+2,true⟩:=by
  unfold pathT
  have:(tb s).drop 1=b++39::r:=by rw[hs2];rfl
  rw[this,idx_app b r h39]
  simp only [he,hp]
 rw[e]at hw
 refine⟨?_,?_,?_,?_,?_⟩<;>rw[hw]
 ·exact he
 ·unfold T.w;simp
theorem tok_two {s:ByteArray}{t:T}{r:List Nat}(hs:tb s=t.b++r)(hk:t.k=5)(hp:twoN.contains t.b=true)(hn:t.n=0):TokIs s t:=by
 obtain⟨k,b,n⟩:=t
 simp only at hs hk hp hn
 subst hk hn
 obtain⟨i,hi,he⟩:=two_in.1 hp
 have hb: ∃c d,b= [c,d]∧(smallN c || greatN c)=false∧digitN c=false∧decide (c=39)=false:=by
  match i,hi with
  |0,_|1,_|2,_|3,_|4,_=>exact⟨_,_,he,rfl,rfl,rfl⟩
 obtain⟨c,d,rfl,h1,h2,h3⟩:=hb
 have hw:nextT0 s=markT s:=by
  unfold nextT0
  rw[hs]
  show(match smallN c || greatN c,digitN c,decide (c=39)with
   |true,_,_=>wordT s
   |false,true,_=>numberT s
   |false,false,true=>pathT s
   |false,false,false=>markT s)=_
  rw[h1,h2,h3]
 have ht:(tb s).take 2= [c,d]:=by rw[hs];rfl
 have e:markT s=⟨5,s.extract 0 2,0,2,true⟩:=by
  unfold markT
  rw[ht,hp]
 rw[e]at hw
 refine⟨?_,?_,?_,?_,?_⟩<;>rw[hw]
 ·show tb (s.extract 0 2)=_
  rw[tb_ext,ht];rfl
 ·rfl
theorem tok_one {s:ByteArray}{t:T}{r:List Nat}{c:Nat}(hs:tb s=t.b++r)(hk:t.k=5)(hp:oneN.contains c=true)(hb:t.b= [c])(hn:t.n=0)(hr:twoN.contains [c,r.getD 0 0]=false):TokIs s t:=by
 obtain⟨k,b,n⟩:=t
 simp only at hs hk hb hn
 subst hk hn hb
 have hb:(smallN c || greatN c)=false∧digitN c=false∧decide (c=39)=false:=by
  have hm:=List.contains_iff_mem.1 hp
  unfold oneN at hm
  simp at hm
  rcases hm with h|h|h|h|h|h|h|h|h|h|h|h|h|h|h|h<;>(subst h;exact⟨rfl,rfl,rfl⟩)
 obtain⟨h1,h2,h3⟩:=hb
 have hw:nextT0 s=markT s:=by
  unfold nextT0
  rw[hs]
  show(match smallN c || greatN c,digitN c,decide (c=39)with
   |true,_,_=>wordT s
   |false,true,_=>numberT s
   |false,false,true=>pathT s
   |false,false,false=>markT s)=_
  rw[h1,h2,h3]
 have ht:twoN.contains ((tb s).take 2)=false:=by
  rw[hs]
  match r,hr with
  | [],_=>
    cases hx:twoN.contains (([c]++[]).take 2)with
    |false=>rfl
    |true=>
     obtain⟨i,hi,he⟩:=two_in.1 hx
     match i,hi,he with
     |0,_,he|1,_,he|2,_,he|3,_,he|4,_,he=>cases he
  |d::r,hr=>exact hr
 have e:markT s=⟨5,s.extract 0 1,0,1,true⟩:=by
  unfold markT
  have:(tb s).getD 0 0=c:=by rw[hs];rfl
  rw[ht,this,hp]
 rw[e]at hw
 refine⟨?_,?_,?_,?_,?_⟩<;>rw[hw]
 ·show tb (s.extract 0 1)=_
  rw[tb_ext,hs];rfl
 ·rfl
theorem tok_is {s:ByteArray}{t:T}{r:List Nat}(hs:tb s=t.w++r)(ht:t.OK)(hr:ajB t (r.getD 0 0)=true):TokIs s t∧gapN (tb s)=0∧0 < t.w.length:=by
 unfold T.w at hs ⊢
 rcases ht with⟨h1,h2,h3,h4⟩|⟨h1,h2,h3⟩|⟨h1,h2⟩|⟨h1,h2,h3,h4⟩|⟨h1,h2,h3⟩|⟨h1,c,h2,h3,h4⟩
 ·have hb:innerN (r.getD 0 0)=false:=by
   unfold ajB at hr;rw[if_neg (by omega),if_neg (by omega)]at hr;simpa using hr
  rw[if_neg (by omega)]at hs ⊢
  have hp:=name_parts h3
  have hs':=small_bd hp.2.1
  have h0:(tb s).getD 0 0=t.b.getD 0 0:=by rw[hs,getD_app hp.1]
  refine⟨tok_word hs (.inl ⟨h1,h3,h2⟩) h4 hb,gap_stop (by rw[h0];exact blank_no (by omega)) ?_,hp.1⟩
  rw[hs]
  match h:t.b,hp.1 with
  |c::b,_=>rw[h]at hs';exact rem_no (by have:97≤c:=hs'.1;omega)
 ·have hb:innerN (r.getD 0 0)=false:=by
   unfold ajB at hr;rw[if_neg (by omega),if_neg (by omega)]at hr;simpa using hr
  rw[if_neg (by omega)]at hs ⊢
  have hp:=name_parts h2
  have hs':=great_bd hp.2.1
  have h0:(tb s).getD 0 0=t.b.getD 0 0:=by rw[hs,getD_app hp.1]
  refine⟨tok_word hs (.inr ⟨h1,h2⟩) h3 hb,gap_stop (by rw[h0];exact blank_no (by omega)) ?_,hp.1⟩
  rw[hs]
  match h:t.b,hp.1 with
  |c::b,_=>rw[h]at hs';exact rem_no (by have:65≤c:=hs'.1;omega)
 ·have hb:innerN (r.getD 0 0)=false:=by
   unfold ajB at hr;rw[if_neg (by omega),if_neg (by omega)]at hr;simpa using hr
  rw[if_neg (by omega)]at hs ⊢
  refine⟨tok_num hs h1 h2 hb,?_,h2.2.1⟩
  obtain⟨hd,hl,_⟩:=h2
  rw[hs]
  match h:t.b,hl with
  |c::b,_=>
   rw[h]at hd
   simp only [List.all_cons,Bool.and_eq_true]at hd
   have:=digit_bd hd.1
   exact gap_stop (blank_no (by show 33≤c;omega)) (rem_no (by omega))
 ·rw[if_pos h1]at hs ⊢
  refine⟨tok_path hs h1 h2 h3 h4,?_,by simp⟩
  rw[hs]
  exact gap_stop rfl (rem_no (by decide))
 ·rw[if_neg (by omega)]at hs ⊢
  obtain⟨i,hi,he⟩:=two_in.1 h2
  refine⟨tok_two hs h1 h2 h3,?_,?_⟩
  ·rw[hs,he]
   match i,hi with
   |0,_|2,_|3,_|4,_=>exact gap_stop rfl (rem_no (by decide))
   |1,_=>exact gap_stop rfl rfl
  ·rw[he]
   match i,hi with
   |0,_|1,_|2,_|3,_|4,_=>decide
 ·have hb:twoN.contains [c,r.getD 0 0]=false∧(c=45→r.getD 0 0≠45):=by
   unfold ajB at hr;rw[if_neg (by omega),if_pos h1,h3]at hr
   simp only [Bool.and_eq_true,Bool.not_eq_true']at hr
   refine⟨hr.1,fun h e=> ?_⟩
   rw[e,h]at hr
   exact absurd hr.2 (by decide)
  rw[if_neg (by omega)]at hs ⊢
  refine⟨tok_one hs h1 h2 h3 h4 hb.1,?_,by rw[h3];exact Nat.one_pos⟩
  rw[hs,h3]
  have hm:=List.contains_iff_mem.1 h2
  have h33:33≤c:=by
   unfold oneN at hm
   simp at hm
   omega
  refine gap_stop (blank_no h33) ?_
  by_cases h45:c=45
  ·subst h45
   unfold hasN remN
   refine decide_eq_false fun e=> ?_
   match r,hb.2 rfl,e with
   |d::r,h,e=>
    simp at e
    exact h e
  ·exact rem_no h45
def render:List (Option T)→List Nat
 | []=>[]
 |none::r=>32::render r
 |some t::r=>t.w++render r
def hd (d:Nat)(r:List (Option T)):Nat:=(render r++[d]).getD 0 0
def chain (d:Nat):List (Option T)→Bool
 | []=>true
 |none::r=>chain d r
 |some t::r=>ajB t (hd d r)&&chain d r
theorem render_app: ∀x y:List (Option T),render (x++y)=render x++render y
 | [],y=>rfl
 |none::x,y=>by simp [render,render_app x y]
 |some t::x,y=>by simp [render,render_app x y]
theorem hd_app (d:Nat)(x y:List (Option T)):hd d (x++y)=hd (hd d y) x:=by
 unfold hd
 rw[render_app]
 match h:render x with
 | []=>
   match h2:render y with
   | []=>rfl
   |c::b=>rfl
 |c::b=>rfl
theorem chain_app (d:Nat): ∀x y:List (Option T),chain d (x++y)=(chain (hd d y) x&&chain d y)
 | [],y=>rfl
 |none::x,y=>chain_app d x y
 |some t::x,y=>by
  rw[List.cons_append,chain,chain,chain_app d x y,hd_app,Bool.and_assoc]
theorem drop_step {l x y:List Nat}{a:Nat}(h:l.drop a=x++y):l.drop (a+x.length)=y:=by
 rw[←List.drop_drop,h];simp
end Go.Vm
end

section
set_option linter.all false
set_option maxRecDepth 100000
set_option maxHeartbeats 4000000
namespace Go.Vm
open Go.Proofs
abbrev Pc:=List (Option T)
def mk (c:Nat):Option T:=some ⟨5,[c],0⟩
def m2 (c d:Nat):Option T:=some ⟨5,[c,d],0⟩
def wd (b:List Nat):Option T:=some ⟨1,b,0⟩
def digN (n:Nat):List Nat:=if h:n < 10 then[48+n]else digN (n / 10)++[48+n % 10]
 termination_by n
 decreasing_by omega
def kNot:List Nat:=[110,111,116]
def kIf:List Nat:=[105,102]
def kThen:List Nat:=[116,104,101,110]
def kElse:List Nat:=[101,108,115,101]
def kFby:List Nat:=[102,98,121]
def kPre:List Nat:=[112,114,101]
def kWhen:List Nat:=[119,104,101,110]
def kMerge:List Nat:=[109,101,114,103,101]
def kEvery:List Nat:=[101,118,101,114,121]
def kWith:List Nat:=[119,105,116,104]
def kTrue:List Nat:=[116,114,117,101]
def kFalse:List Nat:=[102,97,108,115,101]
def opK (o:Nat):Option T:=some ⟨if 7≤o∧o≤10 then 1 else 5,tb (signB o),0⟩
def armP (a:ByteArray):Option T:=some ⟨if highN (tb a)then 2 else 1,tb a,0⟩
def onP (s a:ByteArray):Pc:=if tb a=kTrue then[wd (tb s)]else if tb a=kFalse then[wd kNot,none,wd (tb s)]else[armP a,mk 40,wd (tb s),mk 41]
def sepP:List Pc→Pc
 | []=>[]
 |x::r=>[mk 44,none]++x++sepP r
def listP:List Pc→Pc
 | []=>[]
 |x::r=>x++sepP r
def mergeP:List ByteArray→List Pc→Pc
 |a::ar,x::xs=>[none,mk 40,armP a,none,m2 45 62,none]++x++[mk 41]++mergeP ar xs
 |_,_=>[]
def leafP (k n:Int)(s:ByteArray):Pc:=if k=1 then[some ⟨3,digN n.toNat,n⟩]else if k=2 then[wd (if n=1 then kTrue else kFalse)]else if k=17 then[some ⟨4,tb s,0⟩]else if k=4 then[some ⟨2,tb s,0⟩]else[wd (tb s)]
def callP (n:Int)(s:ByteArray)(t:List Pc):Pc:=if n=1 then[mk 40,wd (tb s),mk 40]++listP (t.take (t.length - 1))++[mk 41,none,wd kEvery,none]++t.getD (t.length - 1) []++[mk 41]else[wd (tb s),mk 40]++listP t++[mk 41]
def pcK (k n:Int)(s:ByteArray)(o:Int)(a:List ByteArray)(t:List Pc):Pc:=
 if k=5 then(if o=1 then[mk 40,mk 45]++t.getD 0 []++[mk 41]else[mk 40,wd kNot,none]++t.getD 0 []++[mk 41])
 else if k=6 then[mk 40]++t.getD 0 []++[none,opK o.toNat,none]++t.getD 1 []++[mk 41]
 else if k=7 then[mk 40,wd kIf,none]++t.getD 0 []++[none,wd kThen,none]++t.getD 1 []++[none,wd kElse,none]++t.getD 2 []++[mk 41]
 else if k=8 then[mk 40]++t.getD 0 []++[none,wd kFby,none]++t.getD 1 []++[mk 41]
 else if k=9 then[mk 40]++t.getD 0 []++[none,m2 45 62,none]++t.getD 1 []++[mk 41]
 else if k=10 then[mk 40,wd kPre,none]++t.getD 0 []++[mk 41]
 else if k=11 then[mk 40]++t.getD 0 []++[none,wd kWhen,none]++onP s (a.getD 0 (bs []))++[mk 41]
 else if k=12 then[mk 40,wd kMerge,none,wd (tb s)]++mergeP a t++[mk 41]
 else if k=13 then callP n s t
 else if k=14 then[mk 91]++listP t++[mk 93]
 else if k=15 then t.getD 0 []++[mk 91]++t.getD 1 []++[mk 93]
 else if k=16 then[mk 40]++t.getD 0 []++[none,wd kWith,none,mk 91]++t.getD 1 []++[mk 93,none,mk 61,none]++t.getD 2 []++[mk 41]
 else leafP k n s
mutual
def pcs:Ex→Pc
 | .mk k n s o a u=>pcK k n s o a (pcsL u)
def pcsL:List Ex→List Pc
 | []=>[]
 |e::l=>pcs e::pcsL l
end
theorem pcsL_len: ∀u:List Ex,(pcsL u).length=u.length
 | []=>rfl
 |_::l=>by simp [pcsL,pcsL_len l]
mutual
def Ex.rng:Ex→Prop
 | .mk _ n _ _ _ u=>n < 9223372036854775808∧Ex.rngs u
def Ex.rngs:List Ex→Prop
 | []=>True
 |e::l=>e.rng∧Ex.rngs l
end
def stB (c:Nat):Bool:=smallN c || (greatN c || (digitN c || (decide (c=39) || (decide (c=40) || decide (c=91)))))
def edB (d:Nat):Bool:=decide (d=32) || (decide (d=41) || (decide (d=44) || (decide (d=91) || (decide (d=93) || (decide (d=59) || decide (d=0))))))
theorem end_inner {d:Nat}(h:edB d=true):innerN d=false:=by
 unfold edB at h
 simp only [Bool.or_eq_true,decide_eq_true_eq]at h
 rcases h with h|h|h|h|h|h|h<;>(subst h;rfl)
theorem OK_mk {c:Nat}(h:oneN.contains c=true):T.OK ⟨5,[c],0⟩:= .inr (.inr (.inr (.inr (.inr ⟨rfl,c,h,rfl,rfl⟩))))
theorem OK_m2 {c d:Nat}(h:twoN.contains [c,d]=true):T.OK ⟨5,[c,d],0⟩:= .inr (.inr (.inr (.inr (.inl ⟨rfl,h,rfl⟩))))
theorem OK_wd {b:List Nat}(h:nameN smallN b=true)(h2:(lowN b || wordN b)=true):T.OK ⟨1,b,0⟩:= .inl ⟨rfl,h2,h,rfl⟩
theorem low_name {b:List Nat}(h:lowN b=true):nameN smallN b=true∧wordN b=false:=by
 unfold lowN at h
 simp only [Bool.and_eq_true,Bool.not_eq_true']at h
 exact h
theorem OK_low {b:List Nat}(h:lowN b=true):T.OK ⟨1,b,0⟩:=OK_wd (low_name h).1 (by rw[h];rfl)
theorem OK_high {b:List Nat}(h:highN b=true):T.OK ⟨2,b,0⟩:= .inr (.inl ⟨rfl,h,rfl⟩)
theorem split_in {c x:Nat}: ∀ {b:List Nat},x∈b→x=c∨ ∃p∈splitN c b,x∈p
 | [],h=>by cases h
 |y::b,h=>by
  unfold splitN
  by_cases hy:y=c
  ·rw[if_pos hy]
   rcases List.mem_cons.1 h with rfl|h
   ·exact .inl hy
   ·rcases split_in (c:=c) h with h|⟨p,hp,hx⟩
    ·exact .inl h
    ·exact .inr ⟨p,List.mem_cons_of_mem _ hp,hx⟩
  ·rw[if_neg hy]
   have hne:=splitN_ne c b
   rcases List.mem_cons.1 h with rfl|h
   ·right
    cases hs:splitN c b with
    |nil=>exact absurd hs hne
    |cons q qs=>exact⟨_,List.mem_cons_self,List.mem_cons_self⟩
   ·rcases split_in (c:=c) h with h|⟨p,hp,hx⟩
    ·exact .inl h
    ·right
     cases hs:splitN c b with
     |nil=>exact absurd hs hne
     |cons q qs=>
      rw[hs]at hp
      rcases List.mem_cons.1 hp with rfl|hp
      ·exact⟨_,List.mem_cons_self,List.mem_cons_of_mem _ hx⟩
      ·exact⟨p,List.mem_cons_of_mem _ hp,hx⟩
theorem inner39 {x:Nat}(h:innerN x=true):x≠39:=by rintro rfl;cases h
theorem low39 {b:List Nat}(h:lowN b=true): ∀x∈b,x≠39:=fun x hx=>inner39 (List.all_eq_true.1 (name_parts (low_name h).1).2.2 x hx)
theorem part39 {b:List Nat}(h:partN b=true): ∀x∈b,x≠39:=fun x hx=>by
 rcases split_in (c:=46) hx with rfl|⟨p,hp,hxp⟩
 ·decide
 ·unfold partN at h
  split at h
  ·rename_i q hq
   rw[hq]at hp
   rw[List.mem_singleton.1 hp]at hxp
   exact low39 h x hxp
  ·rename_i q r hq
   rw[hq]at hp
   simp only [Bool.and_eq_true]at h
   rcases List.mem_cons.1 hp with rfl|hp
   ·exact low39 h.1 x hxp
   ·rw[List.mem_singleton.1 hp]at hxp
    have h2:=h.2
    unfold numN at h2
    simp only [Bool.and_eq_true]at h2
    exact inner39 (digit_inner (List.all_eq_true.1 h2.2 x hxp))
  ·cases h
theorem path39 {b:List Nat}(h:pathN b=true): ∀x∈b,x≠39:=fun x hx=>by
 rcases split_in (c:=47) hx with rfl|⟨p,hp,hxp⟩
 ·decide
 ·exact part39 (List.all_eq_true.1 h p hp) x hxp
theorem OK_path {b:List Nat}(h:pathN b=true):T.OK ⟨4,b,0⟩:= .inr (.inr (.inr (.inl ⟨rfl,h,path39 h,rfl⟩)))
theorem digN_ok: ∀(m n:Nat),n≤m→(digN n).all digitN=true∧0 < (digN n).length∧((digN n).getD 0 0=48→(digN n).length=1)∧valN 0 (digN n)=n
 |m,n,hm=>by
  unfold digN
  split
  ·rename_i h
   refine⟨?_,by simp,by simp,?_⟩
   ·show(digitN (48+n)&&true)=true
    unfold digitN
    rw[decide_eq_true (by omega),decide_eq_true (by omega)];rfl
   ·show 0*10+(48+n - 48)=n
    omega
  ·rename_i h
   cases m with
   |zero=>omega
   |succ m=>
    obtain⟨h1,h2,h3,h4⟩:=digN_ok m (n / 10) (by omega)
    refine⟨?_,by simp,fun h0=> ?_,?_⟩
    ·rw[List.all_append,h1]
     show(true&&(digitN (48+n % 10)&&true))=true
     unfold digitN
     rw[decide_eq_true (by omega),decide_eq_true (by omega)];rfl
    ·rw[getD_app h2]at h0
     have h5:=h3 h0
     exfalso
     match hd:digN (n / 10),h5,h0,h4 with
     | [c],_,h0,h4=>
       simp only [List.getD_cons_zero]at h0
       subst h0
       have h4:0*10+(48 - 48)=n / 10:=h4
       omega
    ·rw[valN_app,h4]
     show n / 10*10+(48+n % 10 - 48)=n
     omega
theorem OK_num {n:Int}(h0:0≤n)(h1:n < 9223372036854775808):T.OK ⟨3,digN n.toNat,n⟩:=by
 obtain⟨h2,h3,h4,h5⟩:=digN_ok _ n.toNat (Nat.le_refl _)
 refine .inr (.inr (.inl ⟨rfl,h2,h3,h4,?_,?_⟩))
 ·show valN 0 (digN n.toNat) < _
  rw[h5];omega
 ·show n=(valN 0 (digN n.toNat):Int)
  rw[h5];omega
theorem OK_arm {a:ByteArray}(h:armN a=true):T.OK ⟨if highN (tb a)then 2 else 1,tb a,0⟩:=by
 unfold armN at h
 cases hh:highN (tb a)with
 |true=>rw[if_pos rfl];exact OK_high hh
 |false=>
  rw[hh,Bool.false_or]at h
  rw[if_neg (by decide)]
  rcases Bool.or_eq_true _ _▸h with h|h<;>(rw[of_decide_eq_true h];exact OK_wd rfl rfl)
theorem OK_op {o:Nat}(h1:3≤o)(h2:o≤16):T.OK ⟨if 7≤o∧o≤10 then 1 else 5,tb (signB o),0⟩:=by
 match o,h1,h2 with
 |3,_,_|4,_,_|5,_,_|6,_,_|11,_,_|13,_,_|15,_,_=>exact OK_mk rfl
 |7,_,_|8,_,_|9,_,_|10,_,_=>exact OK_wd rfl rfl
 |12,_,_|14,_,_|16,_,_=>exact OK_m2 rfl
 |o+17,_,h=>omega
theorem hd_some (d:Nat)(t:T)(r:Pc)(h:0 < t.w.length):hd d (some t::r)=t.w.getD 0 0:=by
 unfold hd
 rw[render,List.append_assoc,getD_app h]
theorem hd_none (d:Nat)(r:Pc):hd d (none::r)=32:=rfl
theorem hd_mk (d c:Nat)(r:Pc):hd d (mk c::r)=c:=rfl
theorem aj_path (b:List Nat)(d:Nat):ajB ⟨4,b,0⟩ d=true:=rfl
theorem aj_m2 (a b d:Nat):ajB ⟨5,[a,b],0⟩ d=true:=rfl
theorem aj_mk {c d:Nat}(h:c≠58∧c≠45∧c≠60∧c≠62):ajB ⟨5,[c],0⟩ d=true:=by
 show(!twoN.contains [c,d]&& !(decide (c=45)&&decide (d=45)))=true
 rw[decide_eq_false h.2.1]
 have:twoN.contains [c,d]=false:=by
  cases hx:twoN.contains [c,d]with
  |false=>rfl
  |true=>
   have:=List.contains_iff_mem.1 hx
   unfold twoN at this
   simp at this
   omega
 rw[this];rfl
theorem aj_mks {c d:Nat}(h:stB d=true∨d=32):ajB ⟨5,[c],0⟩ d=true:=by
 have hd:d≠61∧d≠62∧d≠45:=by
  rcases h with h|h
  ·refine⟨?_,?_,?_⟩<;>(rintro rfl;cases h)
  ·omega
 show(!twoN.contains [c,d]&& !(decide (c=45)&&decide (d=45)))=true
 rw[decide_eq_false hd.2.2,Bool.and_false]
 have:twoN.contains [c,d]=false:=by
  cases hx:twoN.contains [c,d]with
  |false=>rfl
  |true=>
   have:=List.contains_iff_mem.1 hx
   unfold twoN at this
   simp at this
   omega
 rw[this];rfl
end Go.Vm
end

section
set_option linter.all false
set_option maxRecDepth 100000
set_option maxHeartbeats 4000000
namespace Go.Vm
open Go.Proofs
def okP:Pc→Prop
 | []=>True
 |none::r=>okP r
 |some t::r=>t.OK∧okP r
theorem okP_app: ∀x y:Pc,okP (x++y)↔okP x∧okP y
 | [],y=>by simp [okP]
 |none::x,y=>by simp only [List.cons_append,okP,okP_app x y]
 |some t::x,y=>by simp only [List.cons_append,okP,okP_app x y,and_assoc]
theorem okP_iff: ∀ {x:Pc},okP x↔ ∀t,some t∈x→t.OK
 | []=>by simp [okP]
 |none::x=>by simp [okP,okP_iff (x:=x)]
 |some t::x=>by simp [okP,okP_iff (x:=x)]
structure PV (p:Pc):Prop where
 ok:okP p
 ch: ∀d,edB d=true→chain d p=true
 st: ∀d,stB (hd d p)=true
theorem ch_mk (d c:Nat)(r:Pc):chain d (mk c::r)=(ajB ⟨5,[c],0⟩ (hd d r)&&chain d r):=rfl
theorem ch_m2 (d a b:Nat)(r:Pc):chain d (m2 a b::r)=chain d r:=by
 show(ajB ⟨5,[a,b],0⟩ (hd d r)&&chain d r)=_
 rw[aj_m2,Bool.true_and]
theorem ch_wd (d:Nat)(b:List Nat)(r:Pc):chain d (wd b::r)=(!innerN (hd d r)&&chain d r):=rfl
theorem ch_none (d:Nat)(r:Pc):chain d (none::r)=chain d r:=rfl
theorem ch_nil (d:Nat):chain d []=true:=rfl
theorem ok_mk (c:Nat)(r:Pc)(h:oneN.contains c=true):okP (mk c::r)↔okP r:=⟨fun h=>h.2,fun h2=>⟨OK_mk h,h2⟩⟩
theorem ok_m2 (r:Pc):okP (m2 45 62::r)↔okP r:=⟨fun h=>h.2,fun h2=>⟨OK_m2 rfl,h2⟩⟩
theorem ok_none (r:Pc):okP (none::r)↔okP r:=Iff.rfl
theorem ok_wd (b:List Nat)(r:Pc)(h1:nameN smallN b=true)(h2:(lowN b || wordN b)=true):okP (wd b::r)↔okP r:=⟨fun h=>h.2,fun h3=>⟨OK_wd h1 h2,h3⟩⟩
theorem op32 {o:Nat}(h1:3≤o)(h2:o≤16)(d:Nat)(r:Pc):chain d (opK o::none::r)=chain d r∧(okP (opK o::r)↔okP r):=by
 refine⟨?_,fun h=>h.2,fun h=>⟨OK_op h1 h2,h⟩⟩
 show(ajB _ 32&&chain d r)=chain d r
 rw[show ajB ⟨if 7≤o∧o≤10 then 1 else 5,tb (signB o),0⟩ 32=true from by
  match o,h1,h2 with
  |3,_,_|4,_,_|5,_,_|6,_,_|11,_,_|13,_,_|15,_,_|7,_,_|8,_,_|9,_,_|10,_,_|12,_,_|14,_,_|16,_,_=>rfl
  |o+17,_,h=>omega,Bool.true_and]
theorem aj40 (d:Nat):ajB ⟨5,[40],0⟩ d=true:=aj_mk (by decide)
theorem aj41 (d:Nat):ajB ⟨5,[41],0⟩ d=true:=aj_mk (by decide)
theorem aj91 (d:Nat):ajB ⟨5,[91],0⟩ d=true:=aj_mk (by decide)
theorem aj93 (d:Nat):ajB ⟨5,[93],0⟩ d=true:=aj_mk (by decide)
theorem aj44 (d:Nat):ajB ⟨5,[44],0⟩ d=true:=aj_mk (by decide)
theorem aj61:ajB ⟨5,[61],0⟩ 32=true:=rfl
theorem in32:innerN 32=false:=rfl
theorem in40:innerN 40=false:=rfl
theorem wl_low {b:List Nat}(h:lowN b=true):(lowN b || wordN b)=true:=by rw[h];rfl
theorem low_st {b:List Nat}(h:lowN b=true)(d:Nat)(r:Pc):stB (hd d (wd b::r))=true:=by
 have hp:=name_parts (low_name h).1
 show stB (hd d (some ⟨1,b,0⟩::r))=true
 rw[hd_some _ _ _ (by show 0 < (T.w ⟨1,b,0⟩).length;exact hp.1)]
 show stB (b.getD 0 0)=true
 unfold stB;rw[hp.2.1];rfl
theorem high_st {b:List Nat}(h:highN b=true)(d:Nat)(r:Pc):stB (hd d (some ⟨2,b,0⟩::r))=true:=by
 have hp:=name_parts h
 rw[hd_some _ _ _ (by show 0 < (T.w ⟨2,b,0⟩).length;exact hp.1)]
 show stB (b.getD 0 0)=true
 unfold stB;rw[hp.2.1,Bool.true_or,Bool.or_true]
theorem num_st (m:Nat)(n:Int)(d:Nat)(r:Pc):stB (hd d (some ⟨3,digN m,n⟩::r))=true:=by
 obtain⟨h1,h2,h3,h4⟩:=digN_ok _ m (Nat.le_refl _)
 rw[hd_some _ _ _ (by show 0 < (T.w ⟨3,digN m,n⟩).length;exact h2)]
 show stB ((digN m).getD 0 0)=true
 have:digitN ((digN m).getD 0 0)=true:=by
  match hd:digN m,h2,h1 with
  |c::b,_,h1=>
   simp only [List.all_cons,Bool.and_eq_true]at h1
   exact h1.1
 unfold stB;rw[this,Bool.true_or,Bool.or_true,Bool.or_true]
theorem ch_path (b:List Nat)(d:Nat)(r:Pc):chain d (some ⟨4,b,0⟩::r)=chain d r:=by
 show(ajB ⟨4,b,0⟩ (hd d r)&&chain d r)=_
 rw[aj_path,Bool.true_and]
theorem ch_arm (a:ByteArray)(d:Nat)(r:Pc):chain d (armP a::r)=(!innerN (hd d r)&&chain d r):=by
 unfold armP
 split<;>rfl
theorem ok_arm {a:ByteArray}(h:armN a=true)(r:Pc):okP (armP a::r)↔okP r:=⟨fun h=>h.2,fun h2=>⟨OK_arm h,h2⟩⟩
theorem PV_seps: ∀ {t:List Pc},(∀p∈t,PV p)→okP (sepP t)∧ ∀d,edB d=true→chain d (sepP t)=true∧edB (hd d (sepP t))=true
 | [],_=>⟨trivial,fun d h=>⟨rfl,h⟩⟩
 |x::t,h=>by
  have hx:=h x List.mem_cons_self
  obtain⟨h1,h2⟩:=PV_seps fun p hp=>h p (List.mem_cons_of_mem _ hp)
  refine⟨?_,fun d hd'=> ?_⟩
  ·simp only [sepP,okP_app,List.cons_append,List.nil_append,ok_mk _ _ (show oneN.contains 44=true from rfl),ok_none]
   exact⟨hx.ok,h1⟩
  ·simp only [sepP,List.cons_append,List.nil_append,ch_mk,ch_none,chain_app,hd_app,aj44,Bool.true_and]
   rw[hx.ch _ (h2 d hd').2,(h2 d hd').1]
   exact⟨rfl,rfl⟩
theorem PV_list {t:List Pc}(h: ∀p∈t,PV p):okP (listP t)∧ ∀d,edB d=true→chain d (listP t)=true:=by
 match t,h with
 | [],_=>exact⟨trivial,fun d _=>rfl⟩
 |x::t,h=>
  have hx:=h x List.mem_cons_self
  obtain⟨h1,h2⟩:=PV_seps fun p hp=>h p (List.mem_cons_of_mem _ hp)
  refine⟨by simp only [listP,okP_app];exact⟨hx.ok,h1⟩,fun d hd'=> ?_⟩
  simp only [listP,chain_app]
  rw[hx.ch _ (h2 d hd').2,(h2 d hd').1];rfl
theorem PV_merge: ∀ {a:List ByteArray} {t:List Pc},a.all armN=true→(∀p∈t,PV p)→okP (mergeP a t)∧ ∀d,edB d=true→chain d (mergeP a t)=true∧edB (hd d (mergeP a t))=true
 | [],_,_,_=>⟨trivial,fun d h=>⟨by unfold mergeP;rfl,by unfold mergeP;exact h⟩⟩
 |_::_,[],_,_=>⟨trivial,fun d h=>⟨by unfold mergeP;rfl,by unfold mergeP;exact h⟩⟩
 |a::ar,x::t,ha,h=>by
  simp only [List.all_cons,Bool.and_eq_true]at ha
  have hx:=h x List.mem_cons_self
  obtain⟨h1,h2⟩:=PV_merge ha.2 fun p hp=>h p (List.mem_cons_of_mem _ hp)
  refine⟨?_,fun d hd'=> ?_⟩
  ·simp only [mergeP,okP_app,List.cons_append,List.nil_append,ok_mk _ _ (show oneN.contains 40=true from rfl),ok_mk _ _ (show oneN.contains 41=true from rfl),ok_none,ok_m2,ok_arm ha.1]
   exact⟨⟨hx.ok,trivial⟩,h1⟩
  ·simp only [mergeP,List.cons_append,List.nil_append,ch_mk,ch_none,ch_m2,ch_arm,chain_app,hd_app,hd_none,hd_mk,aj40,aj41,in32,Bool.true_and,Bool.not_false]
   rw[hx.ch _ rfl,(h2 d hd').1]
   exact⟨rfl,rfl⟩
theorem PV_on {s a:ByteArray}(hs:lowN (tb s)=true)(ha:armN a=true):okP (onP s a)∧chain 41 (onP s a)=true:=by
 unfold onP
 split
 ·exact⟨⟨OK_low hs,trivial⟩,rfl⟩
 ·split
  ·exact⟨⟨OK_wd rfl rfl,OK_low hs,trivial⟩,rfl⟩
  ·refine⟨⟨OK_arm ha,OK_mk rfl,OK_low hs,OK_mk rfl,trivial⟩,?_⟩
   rw[ch_arm];rfl
theorem all_arms {a:List ByteArray}{k:Int}(h:armsB k a=true):a.all armN=true:=by
 unfold armsB at h
 simp only [Bool.and_eq_true]at h
 exact h.1
theorem PV_pcs1 (k n:Int)(s:ByteArray)(o:Int)(a:List ByteArray)(u:List Ex)(t:List Pc)(hp:partB (.mk k n s o a u)=true)(hn:n < 9223372036854775808)(ht: ∀p∈t,PV p)(hl:t.length=u.length):PV (pcK k n s o a t):=by
 have g: ∀i,i < t.length→PV (t.getD i []):=fun i hi=>by
  rw[List.getD_eq_getElem?_getD,List.getElem?_eq_getElem hi]
  exact ht _ (List.getElem_mem hi)
 unfold partB at hp
 simp only [Bool.and_eq_true]at hp
 obtain⟨hk,h1,h2,h3,h4,h5,h6,h7⟩:=hp
 have h5:=of_decide_eq_true h5
 have h6:=of_decide_eq_true h6
 have o40: ∀r,okP (mk 40::r)↔okP r:=fun r=>ok_mk 40 r rfl
 have o41: ∀r,okP (mk 41::r)↔okP r:=fun r=>ok_mk 41 r rfl
 have o45: ∀r,okP (mk 45::r)↔okP r:=fun r=>ok_mk 45 r rfl
 have o91: ∀r,okP (mk 91::r)↔okP r:=fun r=>ok_mk 91 r rfl
 have o93: ∀r,okP (mk 93::r)↔okP r:=fun r=>ok_mk 93 r rfl
 have o61: ∀r,okP (mk 61::r)↔okP r:=fun r=>ok_mk 61 r rfl
 rcases kinds k hk with rfl|rfl|rfl|rfl|rfl|rfl|rfl|rfl|rfl|rfl|rfl|rfl|rfl|rfl|rfl|rfl|rfl
 ·have h1:0≤n:=of_decide_eq_true h1
  exact⟨⟨OK_num h1 hn,trivial⟩,fun d hd'=>by show(!innerN d&&true)=true;rw[end_inner hd'];rfl,fun d=>num_st _ _ _ _⟩
 ·refine⟨?_,fun d hd'=> ?_,fun d=> ?_⟩<;>simp only [pcK,leafP]<;>(by_cases hn1:n=1<;>simp only [hn1,if_true,if_false])
  ·exact⟨OK_wd rfl rfl,trivial⟩
  ·exact⟨OK_wd rfl rfl,trivial⟩
  ·show(!innerN d&&true)=true;rw[end_inner hd'];rfl
  ·show(!innerN d&&true)=true;rw[end_inner hd'];rfl
  ·rfl
  ·rfl
 ·exact⟨⟨OK_low h2,trivial⟩,fun d hd'=>by show(!innerN d&&true)=true;rw[end_inner hd'];rfl,fun d=>low_st h2 _ _⟩
 ·exact⟨⟨OK_high h2,trivial⟩,fun d hd'=>by show(!innerN d&&true)=true;rw[end_inner hd'];rfl,fun d=>high_st h2 _ _⟩
 ·have g0:=g 0 (by simp [loB]at h5;omega)
  by_cases ho:o=1
  ·have e:pcK 5 n s o a t= [mk 40,mk 45]++t.getD 0 []++[mk 41]:=by unfold pcK;rw[if_pos rfl,if_pos ho]
   rw[e]
   refine⟨?_,fun d hd'=> ?_,fun d=>rfl⟩
   ·simp only [okP_app,List.cons_append,List.nil_append,o40,o45,o41]
    exact⟨g0.ok,trivial⟩
   ·simp only [List.cons_append,List.nil_append,List.append_assoc,ch_mk,chain_app,hd_app,hd_mk,ch_nil,aj40,aj41,aj_mks (.inl (g0.st _)),g0.ch 41 rfl,Bool.and_self]
  ·have e:pcK 5 n s o a t= [mk 40,wd kNot,none]++t.getD 0 []++[mk 41]:=by unfold pcK;rw[if_pos rfl,if_neg ho]
   rw[e]
   refine⟨?_,fun d hd'=> ?_,fun d=>rfl⟩
   ·simp only [okP_app,List.cons_append,List.nil_append,o40,ok_wd kNot _ rfl rfl,ok_none,o41]
    exact⟨g0.ok,trivial⟩
   ·simp only [List.cons_append,List.nil_append,List.append_assoc,ch_mk,ch_wd,ch_none,chain_app,hd_app,hd_mk,hd_none,ch_nil,aj40,aj41,in32,g0.ch 41 rfl,Bool.and_self,Bool.not_false]
 ·have g0:=g 0 (by simp [loB]at h5;omega)
  have g1:=g 1 (by simp [loB]at h5;omega)
  have ho:3≤o∧o≤16:=by simpa [opB_]using h3
  have e:pcK 6 n s o a t= [mk 40]++t.getD 0 []++[none,opK o.toNat,none]++t.getD 1 []++[mk 41]:=rfl
  have q:=fun d r=>op32 (o:=o.toNat) (by omega) (by omega) d r
  have q1:=fun d r=>(q d r).1
  have q2:=fun r=>(q 0 r).2
  rw[e]
  refine⟨?_,fun d hd'=> ?_,fun d=>rfl⟩
  ·simp only [okP_app,List.cons_append,List.nil_append,o40,q2,ok_none,o41]
   exact⟨⟨⟨g0.ok,trivial⟩,g1.ok⟩,trivial⟩
  ·simp only [List.cons_append,List.nil_append,List.append_assoc,ch_mk,ch_none,q1,chain_app,hd_app,hd_mk,hd_none,ch_nil,aj40,aj41,g0.ch 32 rfl,g1.ch 41 rfl,Bool.and_self]
 ·have g0:=g 0 (by simp [loB]at h5;omega)
  have g1:=g 1 (by simp [loB]at h5;omega)
  have g2:=g 2 (by simp [loB]at h5;omega)
  have e:pcK 7 n s o a t= [mk 40,wd kIf,none]++t.getD 0 []++[none,wd kThen,none]++t.getD 1 []++[none,wd kElse,none]++t.getD 2 []++[mk 41]:=rfl
  rw[e]
  refine⟨?_,fun d hd'=> ?_,fun d=>rfl⟩
  ·simp only [okP_app,List.cons_append,List.nil_append,o40,ok_wd kIf _ rfl rfl,ok_wd kThen _ rfl rfl,ok_wd kElse _ rfl rfl,ok_none,o41]
   exact⟨⟨⟨⟨⟨g0.ok,trivial⟩,g1.ok⟩,trivial⟩,g2.ok⟩,trivial⟩
  ·simp only [List.cons_append,List.nil_append,List.append_assoc,ch_mk,ch_wd,ch_none,chain_app,hd_app,hd_mk,hd_none,ch_nil,aj40,aj41,in32,g0.ch 32 rfl,g1.ch 32 rfl,g2.ch 41 rfl,Bool.and_self,Bool.not_false]
 ·have g0:=g 0 (by simp [loB]at h5;omega)
  have g1:=g 1 (by simp [loB]at h5;omega)
  have e:pcK 8 n s o a t= [mk 40]++t.getD 0 []++[none,wd kFby,none]++t.getD 1 []++[mk 41]:=rfl
  rw[e]
  refine⟨?_,fun d hd'=> ?_,fun d=>rfl⟩
  ·simp only [okP_app,List.cons_append,List.nil_append,o40,ok_wd kFby _ rfl rfl,ok_none,o41]
   exact⟨⟨⟨g0.ok,trivial⟩,g1.ok⟩,trivial⟩
  ·simp only [List.cons_append,List.nil_append,List.append_assoc,ch_mk,ch_wd,ch_none,chain_app,hd_app,hd_mk,hd_none,ch_nil,aj40,aj41,in32,g0.ch 32 rfl,g1.ch 41 rfl,Bool.and_self,Bool.not_false]
 ·have g0:=g 0 (by simp [loB]at h5;omega)
  have g1:=g 1 (by simp [loB]at h5;omega)
  have e:pcK 9 n s o a t= [mk 40]++t.getD 0 []++[none,m2 45 62,none]++t.getD 1 []++[mk 41]:=rfl
  rw[e]
  refine⟨?_,fun d hd'=> ?_,fun d=>rfl⟩
  ·simp only [okP_app,List.cons_append,List.nil_append,o40,ok_m2,ok_none,o41]
   exact⟨⟨⟨g0.ok,trivial⟩,g1.ok⟩,trivial⟩
  ·simp only [List.cons_append,List.nil_append,List.append_assoc,ch_mk,ch_m2,ch_none,chain_app,hd_app,hd_mk,hd_none,ch_nil,aj40,aj41,in32,g0.ch 32 rfl,g1.ch 41 rfl,Bool.and_self,Bool.not_false]
 ·have g0:=g 0 (by simp [loB]at h5;omega)
  have e:pcK 10 n s o a t= [mk 40,wd kPre,none]++t.getD 0 []++[mk 41]:=rfl
  rw[e]
  refine⟨?_,fun d hd'=> ?_,fun d=>rfl⟩
  ·simp only [okP_app,List.cons_append,List.nil_append,o40,ok_wd kPre _ rfl rfl,ok_none,o41]
   exact⟨g0.ok,trivial⟩
  ·simp only [List.cons_append,List.nil_append,List.append_assoc,ch_mk,ch_wd,ch_none,chain_app,hd_app,hd_mk,hd_none,ch_nil,aj40,aj41,in32,g0.ch 41 rfl,Bool.and_self,Bool.not_false]
 ·have g0:=g 0 (by simp [loB]at h5;omega)
  have ha:=all_arms h4
  have hla:a.length=1:=by
   unfold armsB at h4
   simp only [Bool.and_eq_true]at h4
   exact of_decide_eq_true h4.2
  match a,hla,ha with
  | [ar],_,ha=>
    simp only [List.all_cons,List.all_nil,Bool.and_true]at ha
    obtain⟨w1,w2⟩:=PV_on (s:=s) h2 ha
    have e:pcK 11 n s o [ar] t= [mk 40]++t.getD 0 []++[none,wd kWhen,none]++onP s ar++[mk 41]:=rfl
    rw[e]
    refine⟨?_,fun d hd'=> ?_,fun d=>rfl⟩
    ·simp only [okP_app,List.cons_append,List.nil_append,o40,ok_wd kWhen _ rfl rfl,ok_none,o41]
     exact⟨⟨⟨g0.ok,trivial⟩,w1⟩,trivial⟩
    ·simp only [List.cons_append,List.nil_append,List.append_assoc,ch_mk,ch_wd,ch_none,chain_app,hd_app,hd_mk,hd_none,ch_nil,aj40,aj41,in32,g0.ch 32 rfl,w2,Bool.and_self,Bool.not_false]
 ·have ha:=all_arms h4
  obtain⟨m1,m3⟩:=PV_merge ha ht
  have e:pcK 12 n s o a t= [mk 40,wd kMerge,none,wd (tb s)]++mergeP a t++[mk 41]:=rfl
  rw[e]
  have h2:lowN (tb s)=true:=h2
  refine⟨?_,fun d hd'=> ?_,fun d=>rfl⟩
  ·simp only [okP_app,List.cons_append,List.nil_append,o40,ok_wd kMerge _ rfl rfl,ok_wd (tb s) _ (low_name h2).1 (wl_low h2),ok_none,o41]
   exact⟨m1,trivial⟩
  ·simp only [List.cons_append,List.nil_append,List.append_assoc,ch_mk,ch_wd,ch_none,chain_app,hd_app,hd_mk,hd_none,ch_nil,aj40,aj41,in32,(m3 41 rfl).1,end_inner (m3 41 rfl).2,Bool.and_self,Bool.not_false]
 ·have h2:lowN (tb s)=true:=h2
  have h1:n=0∨n=1:=by simpa [numB]using h1
  rcases h1 with rfl|rfl
  ·obtain⟨l1,l2⟩:=PV_list ht
   have e:pcK 13 0 s o a t= [wd (tb s),mk 40]++listP t++[mk 41]:=rfl
   rw[e]
   refine⟨?_,fun d hd'=> ?_,fun d=> ?_⟩
   ·simp only [okP_app,List.cons_append,List.nil_append,o40,ok_wd (tb s) _ (low_name h2).1 (wl_low h2),o41]
    exact⟨l1,trivial⟩
   ·simp only [List.cons_append,List.nil_append,List.append_assoc,ch_mk,ch_wd,chain_app,hd_app,hd_mk,ch_nil,aj40,aj41,in40,l2 41 rfl,Bool.and_self,Bool.not_false]
   ·simp only [List.cons_append,List.nil_append,List.append_assoc]
    exact low_st h2 _ _
  ·have hlt:0 < t.length:=by simp [loB]at h5;omega
   have g0:=g (t.length - 1) (by omega)
   obtain⟨l1,l2⟩:=PV_list (t:=t.take (t.length - 1)) fun p hp=>ht p (List.mem_of_mem_take hp)
   have e:pcK 13 1 s o a t= [mk 40,wd (tb s),mk 40]++listP (t.take (t.length - 1))++[mk 41,none,wd kEvery,none]++t.getD (t.length - 1) []++[mk 41]:=rfl
   rw[e]
   refine⟨?_,fun d hd'=> ?_,fun d=>rfl⟩
   ·simp only [okP_app,List.cons_append,List.nil_append,o40,ok_wd (tb s) _ (low_name h2).1 (wl_low h2),ok_wd kEvery _ rfl rfl,ok_none,o41]
    exact⟨⟨⟨l1,trivial⟩,g0.ok⟩,trivial⟩
   ·simp only [List.cons_append,List.nil_append,List.append_assoc,ch_mk,ch_wd,ch_none,chain_app,hd_app,hd_mk,hd_none,ch_nil,aj40,aj41,in40,in32,l2 41 rfl,g0.ch 41 rfl,Bool.and_self,Bool.not_false]
 ·obtain⟨l1,l2⟩:=PV_list ht
  have e:pcK 14 n s o a t= [mk 91]++listP t++[mk 93]:=rfl
  rw[e]
  refine⟨?_,fun d hd'=> ?_,fun d=>rfl⟩
  ·simp only [okP_app,List.cons_append,List.nil_append,o91,o93]
   exact⟨l1,trivial⟩
  ·simp only [List.cons_append,List.nil_append,List.append_assoc,ch_mk,chain_app,hd_app,hd_mk,ch_nil,aj91,aj93,l2 93 rfl,Bool.and_self]
 ·have g0:=g 0 (by simp [loB]at h5;omega)
  have g1:=g 1 (by simp [loB]at h5;omega)
  have e:pcK 15 n s o a t=t.getD 0 []++[mk 91]++t.getD 1 []++[mk 93]:=rfl
  rw[e]
  refine⟨?_,fun d hd'=> ?_,fun d=> ?_⟩
  ·simp only [okP_app,List.cons_append,List.nil_append,o91,o93]
   exact⟨⟨⟨g0.ok,trivial⟩,g1.ok⟩,trivial⟩
  ·simp only [List.cons_append,List.nil_append,List.append_assoc,ch_mk,chain_app,hd_app,hd_mk,ch_nil,aj91,aj93,g0.ch 91 rfl,g1.ch 93 rfl,Bool.and_self]
  ·simp only [List.append_assoc,hd_app]
   exact g0.st _
 ·have g0:=g 0 (by simp [loB]at h5;omega)
  have g1:=g 1 (by simp [loB]at h5;omega)
  have g2:=g 2 (by simp [loB]at h5;omega)
  have e:pcK 16 n s o a t= [mk 40]++t.getD 0 []++[none,wd kWith,none,mk 91]++t.getD 1 []++[mk 93,none,mk 61,none]++t.getD 2 []++[mk 41]:=rfl
  rw[e]
  refine⟨?_,fun d hd'=> ?_,fun d=>rfl⟩
  ·simp only [okP_app,List.cons_append,List.nil_append,o40,ok_wd kWith _ rfl rfl,ok_none,o41,o91,o93,o61]
   exact⟨⟨⟨⟨⟨g0.ok,trivial⟩,g1.ok⟩,trivial⟩,g2.ok⟩,trivial⟩
  ·simp only [List.cons_append,List.nil_append,List.append_assoc,ch_mk,ch_wd,ch_none,chain_app,hd_app,hd_mk,hd_none,ch_nil,aj40,aj41,aj91,aj93,aj61,in32,g0.ch 32 rfl,g1.ch 93 rfl,g2.ch 41 rfl,Bool.and_self,Bool.not_false]
 ·have h2:pathN (tb s)=true:=h2
  exact⟨⟨OK_path h2,trivial⟩,fun d hd'=>by show chain d (some ⟨4,tb s,0⟩::[])=true;rw[ch_path];rfl,fun d=>rfl⟩
mutual
theorem PV_pcs: ∀e:Ex,allB e=true→e.rng→PV (pcs e)
 | .mk k n s o a u,h,hr=>by
   simp only [allB,Bool.and_eq_true]at h
   rw[pcs]
   exact PV_pcs1 k n s o a u _ h.1 hr.1 (PV_pcsL u h.2 hr.2) (pcsL_len u)
theorem PV_pcsL: ∀u:List Ex,allBs u=true→Ex.rngs u→ ∀p∈pcsL u,PV p
 | [],_,_,p,h=>by cases h
 |e::u,h,hr,p,hp=>by
  simp only [allBs,Bool.and_eq_true]at h
  rcases List.mem_cons.1 hp with rfl|hp
  ·exact PV_pcs e h.1 hr.1
  ·exact PV_pcsL u h.2 hr.2 p hp
end
end Go.Vm
end

section
set_option linter.all false
set_option maxRecDepth 100000
set_option maxHeartbeats 4000000
namespace Go.Vm
open Go.Proofs
theorem bs_sz (l:List UInt8):(bs l).size=l.length:=rfl
theorem sfT {a b:ByteArray}(h:a.size+b.size≤9223372036854775807):sy.sfit a b=true:=decide_eq_true h
end Go.Vm
end

section
set_option linter.all false
set_option maxRecDepth 100000
set_option maxHeartbeats 4000000
namespace Go.Vm
open Go.Proofs
theorem pcsL_snoc (x:Ex): ∀v:List Ex,pcsL (v++[x])=pcsL v++[pcs x]
 | []=>rfl
 |y::v=>by simp only [List.cons_append,pcsL,pcsL_snoc x v]
def tot (ts:List ByteArray):Nat:=(ts.map ByteArray.size).sum
theorem tot_snoc (ts:List ByteArray)(t:ByteArray):tot (ts++[t])=tot ts+t.size:=by simp [tot]
structure TS' (u:List Ex) (ts:List ByteArray):Prop where
 m:ts.map tb=u.map fun x=>render (pcs x)
 z:tot ts≤1000000*Ex.sizes u
theorem TS'.l1 {x:Ex}{ts:List ByteArray}(h:TS' [x] ts): ∃t,ts= [t]∧tb t=render (pcs x)∧t.size≤1000000*x.size:=by
 have hl:ts.length=1:=by simpa using congrArg List.length h.m
 match ts,hl,h.m,h.z with
 | [t],_,m,z=>
   simp only [List.map_cons,List.map_nil,List.cons.injEq]at m
   simp [tot,Ex.sizes]at z
   exact⟨t,rfl,m.1,by omega⟩
theorem TS'.l2 {x y:Ex}{ts:List ByteArray}(h:TS' [x,y] ts): ∃t v,ts= [t,v]∧tb t=render (pcs x)∧tb v=render (pcs y)∧t.size+v.size≤1000000*(x.size+y.size):=by
 have hl:ts.length=2:=by simpa using congrArg List.length h.m
 match ts,hl,h.m,h.z with
 | [t,v],_,m,z=>
   simp only [List.map_cons,List.map_nil,List.cons.injEq]at m
   simp [tot,Ex.sizes]at z
   exact⟨t,v,rfl,m.1,m.2.1,by omega⟩
theorem TS'.l3 {x y z:Ex}{ts:List ByteArray}(h:TS' [x,y,z] ts): ∃t v w,ts= [t,v,w]∧tb t=render (pcs x)∧tb v=render (pcs y)∧tb w=render (pcs z)∧t.size+v.size+w.size≤1000000*(x.size+y.size+z.size):=by
 have hl:ts.length=3:=by simpa using congrArg List.length h.m
 match ts,hl,h.m,h.z with
 | [t,v,w],_,m,z=>
   simp only [List.map_cons,List.map_nil,List.cons.injEq]at m
   simp [tot,Ex.sizes]at z
   exact⟨t,v,w,rfl,m.1,m.2.1,m.2.2.1,by omega⟩
theorem merge_snoc (a:ByteArray)(x:Pc): ∀(ar:List ByteArray) (t:List Pc),ar.length=t.length→render (mergeP (ar++[a]) (t++[x]))=render (mergeP ar t)++[32,40]++tb a++[32,45,62,32]++render x++[41]
 | [],[],_=>by
   have hw:T.w ⟨if highN (tb a)then 2 else 1,tb a,0⟩=tb a:=by
    unfold T.w
    rw[if_neg (by simp only;split<;>decide)]
   have e:mergeP ([]++[a]) ([]++[x])= [none,mk 40,armP a,none,m2 45 62,none]++x++[mk 41]++mergeP [] []:=rfl
   have e2:mergeP [] []= []:=by unfold mergeP;rfl
   rw[e,e2]
   simp only [render_app,List.append_nil]
   have:render [none,mk 40,armP a,none,m2 45 62,none]= [32,40]++(T.w ⟨if highN (tb a)then 2 else 1,tb a,0⟩++[32,45,62,32]):=rfl
   rw[this,hw]
   show[32,40]++(tb a++[32,45,62,32])++render x++[41]= []++[32,40]++tb a++[32,45,62,32]++render x++[41]
   simp only [List.append_assoc,List.nil_append,List.append_nil]
 |b::ar,y::t,h=>by
  have ih:=merge_snoc a x ar t (by simpa using h)
  simp only [List.cons_append,mergeP]
  simp only [←List.cons_append,render_app,ih]
  simp only [List.append_assoc]
 | [],_::_,h=>by simp at h
 |_::_,[],h=>by simp at h
end Go.Vm
end

section
set_option linter.all false
set_option maxRecDepth 100000
set_option maxHeartbeats 4000000
namespace Go.Vm
open Go.Proofs
end Go.Vm
end

section
set_option maxRecDepth 1000000
set_option maxHeartbeats 0
namespace Go.Vm
open Go.Proofs
def g27 (A:Sy)(E:Env)(e_0:Int)(e_1:Int)(e_2:ByteArray)(e_3:Int)(e_4:List (List D))(e_5:List (List D)):Option PRes:=
 (E.call 25 [(kE e_0 e_1 e_2 e_3 e_4 e_5)]).bind fun p1=>
 (opB (A.cell p1.leaves 0)).bind fun b3=>
 bif (A.bnot b3)then
  some (.val [(.str (bs []))])
 else
  (E.call 57 [(kE e_0 e_1 e_2 e_3 e_4 e_5)]).bind fun p4=>
  (opS (A.cell p4.leaves 0)).bind fun s6=>
  some (.val [(.str s6)])
theorem g27_eq (A:Sy)(E:Env)(e_0:Int)(e_1:Int)(e_2:ByteArray)(e_3:Int)(e_4:List (List D))(e_5:List (List D)):(funT A Tryz.prog cs 27 [.agg [.d (.int .i64 e_0),V.d (.int .i64 e_1),V.d (.str e_2),V.d (.int .i64 e_3),V.d (.sl 1 e_4),V.d (.sl 6 e_5)]]).run E=g27 A E e_0 e_1 e_2 e_3 e_4 e_5:=by kernel_rfl
def g57 (A:Sy)(E:Env)(e_0:Int)(e_1:Int)(e_2:ByteArray)(e_3:Int)(e_4:List (List D))(e_5:List (List D)):Option PRes:=
 (E.call 104 [(.d (.sl 6 e_5))]).bind fun p1=>
 (opL (A.cell p1.leaves 0) 1).bind fun l3=>
 bif (A.ieq e_0 5)then
  bif (A.ieq e_3 1)then
   bif (A.inr 0 (A.rlen l3))then
    (opS (A.cell (A.row l3 0) 0)).bind fun s4=>
    (E.call 105 [(.d (.sl 1 [[(.str (bs [45]))],[(.str s4)]]))]).bind fun p5=>
    (opS (A.cell p5.leaves 0)).bind fun s7=>
    some (.val [(.str s7)])
   else
    none
  else
   bif (A.inr 0 (A.rlen l3))then
    (opS (A.cell (A.row l3 0) 0)).bind fun s8=>
    (E.call 105 [(.d (.sl 1 [[(.str (bs [110,111,116,32]))],[(.str s8)]]))]).bind fun p9=>
    (opS (A.cell p9.leaves 0)).bind fun s11=>
    some (.val [(.str s11)])
   else
    none
 else
  bif (A.ieq e_0 6)then
   bif (A.inr 0 (A.rlen l3))then
    (opS (A.cell (A.row l3 0) 0)).bind fun s12=>
    (E.call 106 [(.d (.int .i64 e_3))]).bind fun p13=>
    (opS (A.cell p13.leaves 0)).bind fun s15=>
    bif (A.inr 1 (A.rlen l3))then
     (opS (A.cell (A.row l3 1) 0)).bind fun s16=>
     (E.call 105 [(.d (.sl 1 [[(.str s12)],[(.str (bs [32]))],[(.str s15)],[(.str (bs [32]))],[(.str s16)]]))]).bind fun p17=>
     (opS (A.cell p17.leaves 0)).bind fun s19=>
     some (.val [(.str s19)])
    else
     none
   else
    none
  else
   bif (A.ieq e_0 7)then
    bif (A.inr 0 (A.rlen l3))then
     (opS (A.cell (A.row l3 0) 0)).bind fun s20=>
     bif (A.inr 1 (A.rlen l3))then
      (opS (A.cell (A.row l3 1) 0)).bind fun s21=>
      bif (A.inr 2 (A.rlen l3))then
       (opS (A.cell (A.row l3 2) 0)).bind fun s22=>
       (E.call 105 [(.d (.sl 1 [[(.str (bs [105,102,32]))],[(.str s20)],[(.str (bs [32,116,104,101,110,32]))],[(.str s21)],[(.str (bs [32,101,108,115,101,32]))],[(.str s22)]]))]).bind fun p23=>
       (opS (A.cell p23.leaves 0)).bind fun s25=>
       some (.val [(.str s25)])
      else
       none
     else
      none
    else
     none
   else
    bif (A.ieq e_0 8)then
     (E.call 107 [(kE e_0 e_1 e_2 e_3 e_4 e_5),(.d (.sl 1 l3))]).bind fun p26=>
     (opS (A.cell p26.leaves 0)).bind fun s28=>
     some (.val [(.str s28)])
    else
     bif (A.ieq e_0 9)then
      (E.call 107 [(kE e_0 e_1 e_2 e_3 e_4 e_5),(.d (.sl 1 l3))]).bind fun p29=>
      (opS (A.cell p29.leaves 0)).bind fun s31=>
      some (.val [(.str s31)])
     else
      bif (A.ieq e_0 10)then
       (E.call 107 [(kE e_0 e_1 e_2 e_3 e_4 e_5),(.d (.sl 1 l3))]).bind fun p32=>
       (opS (A.cell p32.leaves 0)).bind fun s34=>
       some (.val [(.str s34)])
      else
       bif (A.ieq e_0 11)then
        (E.call 107 [(kE e_0 e_1 e_2 e_3 e_4 e_5),(.d (.sl 1 l3))]).bind fun p35=>
        (opS (A.cell p35.leaves 0)).bind fun s37=>
        some (.val [(.str s37)])
       else
        bif (A.ieq e_0 12)then
         (E.call 107 [(kE e_0 e_1 e_2 e_3 e_4 e_5),(.d (.sl 1 l3))]).bind fun p38=>
         (opS (A.cell p38.leaves 0)).bind fun s40=>
         some (.val [(.str s40)])
        else
         bif (A.ieq e_0 13)then
          (E.call 107 [(kE e_0 e_1 e_2 e_3 e_4 e_5),(.d (.sl 1 l3))]).bind fun p41=>
          (opS (A.cell p41.leaves 0)).bind fun s43=>
          some (.val [(.str s43)])
         else
          bif (A.ieq e_0 14)then
           (E.call 29 [(.d (.sl 1 l3)),(.d (.str (bs [44,32])))]).bind fun p44=>
           (opS (A.cell p44.leaves 0)).bind fun s46=>
           bif (A.sfit (bs [91]) s46)then
            bif (A.sfit (A.sapp (bs [91]) s46) (bs [93]))then
             some (.val [(.str (A.sapp (A.sapp (bs [91]) s46) (bs [93])))])
            else
             none
           else
            none
          else
           bif (A.ieq e_0 15)then
            bif (A.inr 0 (A.rlen l3))then
             (opS (A.cell (A.row l3 0) 0)).bind fun s47=>
             bif (A.sfit s47 (bs [91]))then
              bif (A.inr 1 (A.rlen l3))then
               (opS (A.cell (A.row l3 1) 0)).bind fun s48=>
               bif (A.sfit (A.sapp s47 (bs [91])) s48)then
                bif (A.sfit (A.sapp (A.sapp s47 (bs [91])) s48) (bs [93]))then
                 some (.val [(.str (A.sapp (A.sapp (A.sapp s47 (bs [91])) s48) (bs [93])))])
                else
                 none
               else
                none
              else
               none
             else
              none
            else
             none
           else
            bif (A.ieq e_0 16)then
             bif (A.inr 0 (A.rlen l3))then
              (opS (A.cell (A.row l3 0) 0)).bind fun s49=>
              bif (A.inr 1 (A.rlen l3))then
               (opS (A.cell (A.row l3 1) 0)).bind fun s50=>
               bif (A.inr 2 (A.rlen l3))then
                (opS (A.cell (A.row l3 2) 0)).bind fun s51=>
                (E.call 105 [(.d (.sl 1 [[(.str s49)],[(.str (bs [32,119,105,116,104,32,91]))],[(.str s50)],[(.str (bs [93,32,61,32]))],[(.str s51)]]))]).bind fun p52=>
                (opS (A.cell p52.leaves 0)).bind fun s54=>
                some (.val [(.str s54)])
               else
                none
              else
               none
             else
              none
            else
             (E.call 108 [(kE e_0 e_1 e_2 e_3 e_4 e_5)]).bind fun p55=>
             (opS (A.cell p55.leaves 0)).bind fun s57=>
             some (.val [(.str s57)])
theorem g57_eq (A:Sy)(E:Env)(e_0:Int)(e_1:Int)(e_2:ByteArray)(e_3:Int)(e_4:List (List D))(e_5:List (List D)):(funT A Tryz.prog cs 57 [.agg [.d (.int .i64 e_0),V.d (.int .i64 e_1),V.d (.str e_2),V.d (.int .i64 e_3),V.d (.sl 1 e_4),V.d (.sl 6 e_5)]]).run E=g57 A E e_0 e_1 e_2 e_3 e_4 e_5:=by kernel_rfl
def g104 (A:Sy)(E:Env)(l_:List (List D)):Option PRes:=
 E.lp (fun ds1=>
  (opL (A.cell ds1 0) 6).bind fun l2=>
  (opI (A.cell ds1 1) .i64).bind fun n3=>
  (opI (A.cell ds1 2) .i64).bind fun n4=>
  (opL (A.cell ds1 3) 1).bind fun l5=>
  bif (A.ilt n4 n3)then
   bif (A.inr n4 (A.rlen l2))then
    oE A (A.row l2 n4) 0 fun n6 n7 s8 n9 l10 l11=>
    (E.call 57 [(kE n6 n7 s8 n9 l10 l11)]).bind fun p12=>
    (opS (A.cell p12.leaves 0)).bind fun s14=>
    bif (A.fits l5 [[(.str s14)]] 16)then
     some (.inl [(.sl 6 l2),(.int .i64 n3),(.int .i64 (A.wrap .i64 (A.add n4 1))),(.sl 1 (A.rapp l5 [[(.str s14)]]))])
    else
     none
   else
    none
  else
   some (.inr (.own 9 1 l5))
 ) [(.sl 6 l_),(.int .i64 (A.rlen l_)),(.int .i64 0),(.sl 1 [])]
theorem g104_eq (A:Sy)(E:Env)(l_:List (List D)):(funT A Tryz.prog cs 104 [.d (.sl 6 l_)]).run E=g104 A E l_:=by kernel_rfl
def g105 (A:Sy)(E:Env)(l_:List (List D)):Option PRes:=
 (E.call 29 [(.d (.sl 1 l_)),(.d (.str (bs [])))]).bind fun p1=>
 (opS (A.cell p1.leaves 0)).bind fun s3=>
 bif (A.sfit (bs [40]) s3)then
  bif (A.sfit (A.sapp (bs [40]) s3) (bs [41]))then
   some (.val [(.str (A.sapp (A.sapp (bs [40]) s3) (bs [41])))])
  else
   none
 else
  none
theorem g105_eq (A:Sy)(E:Env)(l_:List (List D)):(funT A Tryz.prog cs 105 [.d (.sl 1 l_)]).run E=g105 A E l_:=by kernel_rfl
def g108 (A:Sy)(E:Env)(e_0:Int)(e_1:Int)(e_2:ByteArray)(e_3:Int)(e_4:List (List D))(e_5:List (List D)):Option PRes:=
 bif (A.ieq e_0 1)then
  (E.call 151 [(.d (.int .i64 e_1)),(.d (.int .i64 10))]).bind fun p1=>
  (opS (A.cell p1.leaves 0)).bind fun s3=>
  some (.val [(.str s3)])
 else
  bif (A.ieq e_0 2)then
   (E.call 152 [(.d (.bool (A.bnot (A.ieq e_1 0))))]).bind fun p4=>
   (opS (A.cell p4.leaves 0)).bind fun s6=>
   some (.val [(.str s6)])
  else
   bif (A.ieq e_0 17)then
    (E.call 26 [(.d (.str e_2))]).bind fun p7=>
    (opS (A.cell p7.leaves 0)).bind fun s9=>
    some (.val [(.str s9)])
   else
    some (.val [(.str e_2)])
theorem g108_eq (A:Sy)(E:Env)(e_0:Int)(e_1:Int)(e_2:ByteArray)(e_3:Int)(e_4:List (List D))(e_5:List (List D)):(funT A Tryz.prog cs 108 [.agg [.d (.int .i64 e_0),V.d (.int .i64 e_1),V.d (.str e_2),V.d (.int .i64 e_3),V.d (.sl 1 e_4),V.d (.sl 6 e_5)]]).run E=g108 A E e_0 e_1 e_2 e_3 e_4 e_5:=by kernel_rfl
def g149 (A:Sy)(E:Env)(e_0:Int)(e_1:Int)(e_2:ByteArray)(e_3:Int)(e_4:List (List D))(e_5:List (List D))(t_:List (List D)):Option PRes:=
 E.lp (fun ds1=>
  (opL (A.cell ds1 0) 1).bind fun l2=>
  (opI (A.cell ds1 1) .i64).bind fun n3=>
  (opI (A.cell ds1 2) .i64).bind fun n4=>
  oE A ds1 3 fun n5 n6 s7 n8 l9 l10=>
  (opL (A.cell ds1 9) 1).bind fun l11=>
  bif (A.ilt n4 n3)then
   bif (A.inr n4 (A.rlen l2))then
    (opS (A.cell (A.row l2 n4) 0)).bind fun s12=>
    bif (A.inr n4 (A.rlen l9))then
     (opS (A.cell (A.row l9 n4) 0)).bind fun s13=>
     (E.call 105 [(.d (.sl 1 [[(.str s13)],[(.str (bs [32,45,62,32]))],[(.str s12)]]))]).bind fun p14=>
     (opS (A.cell p14.leaves 0)).bind fun s16=>
     bif (A.fits l11 [[(.str (bs [32]))],[(.str s16)]] 16)then
      some (.inl [(.sl 1 l2),(.int .i64 n3),(.int .i64 (A.wrap .i64 (A.add n4 1))),(.int .i64 n5),(.int .i64 n6),(.str s7),(.int .i64 n8),(.sl 1 l9),(.sl 6 l10),(.sl 1 (A.rapp l11 [[(.str (bs [32]))],[(.str s16)]]))])
     else
      none
    else
     none
   else
    none
  else
   (E.call 105 [(.d (.sl 1 l11))]).bind fun p17=>
   (opS (A.cell p17.leaves 0)).bind fun s19=>
   some (.inr (.val [(.str s19)]))
 ) [(.sl 1 t_),(.int .i64 (A.rlen t_)),(.int .i64 0),(.int .i64 e_0),(.int .i64 e_1),(.str e_2),(.int .i64 e_3),(.sl 1 e_4),(.sl 6 e_5),(.sl 1 [[(.str (bs [109,101,114,103,101,32]))],[(.str e_2)]])]
theorem g149_eq (A:Sy)(E:Env)(e_0:Int)(e_1:Int)(e_2:ByteArray)(e_3:Int)(e_4:List (List D))(e_5:List (List D))(t_:List (List D)):(funT A Tryz.prog cs 149 [.agg [.d (.int .i64 e_0),V.d (.int .i64 e_1),V.d (.str e_2),V.d (.int .i64 e_3),V.d (.sl 1 e_4),V.d (.sl 6 e_5)],V.d (.sl 1 t_)]).run E=g149 A E e_0 e_1 e_2 e_3 e_4 e_5 t_:=by kernel_rfl
def g150 (A:Sy)(E:Env)(e_0:Int)(e_1:Int)(e_2:ByteArray)(e_3:Int)(e_4:List (List D))(e_5:List (List D))(t_:List (List D)):Option PRes:=
 bif (A.cutok 0 (A.wrap .i64 (A.sub (A.rlen t_) e_1)) (A.rlen t_))then
  (E.call 29 [(.d (.sl 1 (A.cut t_ 0 (A.wrap .i64 (A.sub (A.rlen t_) e_1))))),(.d (.str (bs [44,32])))]).bind fun p1=>
  (opS (A.cell p1.leaves 0)).bind fun s3=>
  (E.call 105 [(.d (.sl 1 [[(.str s3)]]))]).bind fun p4=>
  (opS (A.cell p4.leaves 0)).bind fun s6=>
  bif (A.sfit e_2 s6)then
   bif (A.ieq e_1 0)then
    some (.val [(.str (A.sapp e_2 s6))])
   else
    bif (A.inr (A.wrap .i64 (A.sub (A.rlen t_) e_1)) (A.rlen t_))then
     (opS (A.cell (A.row t_ (A.wrap .i64 (A.sub (A.rlen t_) e_1))) 0)).bind fun s7=>
     (E.call 105 [(.d (.sl 1 [[(.str (A.sapp e_2 s6))],[(.str (bs [32,101,118,101,114,121,32]))],[(.str s7)]]))]).bind fun p8=>
     (opS (A.cell p8.leaves 0)).bind fun s10=>
     some (.val [(.str s10)])
    else
     none
  else
   none
 else
  none
theorem g150_eq (A:Sy)(E:Env)(e_0:Int)(e_1:Int)(e_2:ByteArray)(e_3:Int)(e_4:List (List D))(e_5:List (List D))(t_:List (List D)):(funT A Tryz.prog cs 150 [.agg [.d (.int .i64 e_0),V.d (.int .i64 e_1),V.d (.str e_2),V.d (.int .i64 e_3),V.d (.sl 1 e_4),V.d (.sl 6 e_5)],V.d (.sl 1 t_)]).run E=g150 A E e_0 e_1 e_2 e_3 e_4 e_5 t_:=by kernel_rfl
def g107 (A:Sy)(E:Env)(e_0:Int)(e_1:Int)(e_2:ByteArray)(e_3:Int)(e_4:List (List D))(e_5:List (List D))(t_:List (List D)):Option PRes:=
 bif (A.ieq e_0 8)then
  bif (A.inr 0 (A.rlen t_))then
   (opS (A.cell (A.row t_ 0) 0)).bind fun s1=>
   bif (A.inr 1 (A.rlen t_))then
    (opS (A.cell (A.row t_ 1) 0)).bind fun s2=>
    (E.call 105 [(.d (.sl 1 [[(.str s1)],[(.str (bs [32,102,98,121,32]))],[(.str s2)]]))]).bind fun p3=>
    (opS (A.cell p3.leaves 0)).bind fun s5=>
    some (.val [(.str s5)])
   else
    none
  else
   none
 else
  bif (A.ieq e_0 9)then
   bif (A.inr 0 (A.rlen t_))then
    (opS (A.cell (A.row t_ 0) 0)).bind fun s6=>
    bif (A.inr 1 (A.rlen t_))then
     (opS (A.cell (A.row t_ 1) 0)).bind fun s7=>
     (E.call 105 [(.d (.sl 1 [[(.str s6)],[(.str (bs [32,45,62,32]))],[(.str s7)]]))]).bind fun p8=>
     (opS (A.cell p8.leaves 0)).bind fun s10=>
     some (.val [(.str s10)])
    else
     none
   else
    none
  else
   bif (A.ieq e_0 10)then
    bif (A.inr 0 (A.rlen t_))then
     (opS (A.cell (A.row t_ 0) 0)).bind fun s11=>
     (E.call 105 [(.d (.sl 1 [[(.str (bs [112,114,101,32]))],[(.str s11)]]))]).bind fun p12=>
     (opS (A.cell p12.leaves 0)).bind fun s14=>
     some (.val [(.str s14)])
    else
     none
   else
    bif (A.ieq e_0 11)then
     bif (A.inr 0 (A.rlen t_))then
      (opS (A.cell (A.row t_ 0) 0)).bind fun s15=>
      bif (A.inr 0 (A.rlen e_4))then
       (opS (A.cell (A.row e_4 0) 0)).bind fun s16=>
       (E.call 148 [(.d (.str e_2)),(.d (.str s16))]).bind fun p17=>
       (opS (A.cell p17.leaves 0)).bind fun s19=>
       (E.call 105 [(.d (.sl 1 [[(.str s15)],[(.str (bs [32,119,104,101,110,32]))],[(.str s19)]]))]).bind fun p20=>
       (opS (A.cell p20.leaves 0)).bind fun s22=>
       some (.val [(.str s22)])
      else
       none
     else
      none
    else
     bif (A.ieq e_0 12)then
      (E.call 149 [(kE e_0 e_1 e_2 e_3 e_4 e_5),(.d (.sl 1 t_))]).bind fun p23=>
      (opS (A.cell p23.leaves 0)).bind fun s25=>
      some (.val [(.str s25)])
     else
      (E.call 150 [(kE e_0 e_1 e_2 e_3 e_4 e_5),(.d (.sl 1 t_))]).bind fun p26=>
      (opS (A.cell p26.leaves 0)).bind fun s28=>
      some (.val [(.str s28)])
theorem g107_eq (A:Sy)(E:Env)(e_0:Int)(e_1:Int)(e_2:ByteArray)(e_3:Int)(e_4:List (List D))(e_5:List (List D))(t_:List (List D)):(funT A Tryz.prog cs 107 [.agg [.d (.int .i64 e_0),V.d (.int .i64 e_1),V.d (.str e_2),V.d (.int .i64 e_3),V.d (.sl 1 e_4),V.d (.sl 6 e_5)],V.d (.sl 1 t_)]).run E=g107 A E e_0 e_1 e_2 e_3 e_4 e_5 t_:=by kernel_rfl
def g148 (A:Sy)(E:Env)(name_:ByteArray)(arm_:ByteArray):Option PRes:=
 bif (A.seq arm_ (bs [116,114,117,101]))then
  some (.val [(.str name_)])
 else
  bif (A.seq arm_ (bs [102,97,108,115,101]))then
   bif (A.sfit (bs [110,111,116,32]) name_)then
    some (.val [(.str (A.sapp (bs [110,111,116,32]) name_))])
   else
    none
  else
   bif (A.sfit arm_ (bs [40]))then
    bif (A.sfit (A.sapp arm_ (bs [40])) name_)then
     bif (A.sfit (A.sapp (A.sapp arm_ (bs [40])) name_) (bs [41]))then
      some (.val [(.str (A.sapp (A.sapp (A.sapp arm_ (bs [40])) name_) (bs [41])))])
     else
      none
    else
     none
   else
    none
theorem g148_eq (A:Sy)(E:Env)(name_:ByteArray)(arm_:ByteArray):(funT A Tryz.prog cs 148 [.d (.str name_),V.d (.str arm_)]).run E=g148 A E name_ arm_:=by kernel_rfl
def g12 (A:Sy)(E:Env)(l_:List (List D)):Option PRes:=
 E.lp (fun ds1=>
  (opL (A.cell ds1 0) 7).bind fun l2=>
  (opL (A.cell ds1 1) 7).bind fun l3=>
  (opI (A.cell ds1 2) .i64).bind fun n4=>
  (opI (A.cell ds1 3) .i64).bind fun n5=>
  (opL (A.cell ds1 4) 1).bind fun l6=>
  (opL (A.cell ds1 5) 1).bind fun l7=>
  bif (A.ilt n5 n4)then
   bif (A.inr n5 (A.rlen l3))then
    (opS (A.cell (A.row l3 n5) 0)).bind fun s8=>
    oE A (A.row l3 n5) 1 fun n9 n10 s11 n12 l13 l14=>
    (E.call 24 [(.d (.str s8))]).bind fun p15=>
    (opB (A.cell p15.leaves 0)).bind fun b17=>
    cutO (
     bif (A.bnot b17)then
      some (.inl [(.bool true)])
     else
      (E.call 25 [(kE n9 n10 s11 n12 l13 l14)]).bind fun p18=>
      (opB (A.cell p18.leaves 0)).bind fun b20=>
      some (.inl [(.bool (A.bnot b20))])
    ) fun ds21=>
    (opB (A.cell ds21 0)).bind fun b22=>
    bif b22 then
     some (.inr (.val [(.str (bs []))]))
    else
     (E.call 26 [(.d (.str s8))]).bind fun p23=>
     (opS (A.cell p23.leaves 0)).bind fun s25=>
     (E.call 27 [(kE n9 n10 s11 n12 l13 l14)]).bind fun p26=>
     (opS (A.cell p26.leaves 0)).bind fun s28=>
     bif (A.fits l6 [[(.str s25)],[(.str (bs [32,58,61,32]))],[(.str s28)],[(.str (bs [59,10]))]] 16)then
      bif (A.fits l7 [[(.str s8)]] 16)then
       some (.inl [(.sl 7 l2),(.sl 7 l3),(.int .i64 n4),(.int .i64 (A.wrap .i64 (A.add n5 1))),(.sl 1 (A.rapp l6 [[(.str s25)],[(.str (bs [32,58,61,32]))],[(.str s28)],[(.str (bs [59,10]))]])),(.sl 1 (A.rapp l7 [[(.str s8)]]))])
      else
       none
     else
      none
   else
    none
  else
   cutO (
    bif (A.ilt 40 (A.rlen l2))then
     some (.inl [(.bool true)])
    else
     (E.call 28 [(.d (.sl 1 l7))]).bind fun p29=>
     (opB (A.cell p29.leaves 0)).bind fun b31=>
     some (.inl [(.bool (A.bnot b31))])
   ) fun ds32=>
   (opB (A.cell ds32 0)).bind fun b33=>
   bif b33 then
    some (.inr (.val [(.str (bs []))]))
   else
    (E.call 29 [(.d (.sl 1 l6)),(.d (.str (bs [])))]).bind fun p34=>
    (opS (A.cell p34.leaves 0)).bind fun s36=>
    some (.inr (.val [(.str s36)]))
 ) [(.sl 7 l_),(.sl 7 l_),(.int .i64 (A.rlen l_)),(.int .i64 0),(.sl 1 []),(.sl 1 [])]
theorem g12_eq (A:Sy)(E:Env)(l_:List (List D)):(funT A Tryz.prog cs 12 [.d (.sl 7 l_)]).run E=g12 A E l_:=by kernel_rfl
def g11 (A:Sy)(E:Env)(l_:List (List D)):Option PRes:=
 E.lp (fun ds1=>
  (opL (A.cell ds1 0) 7).bind fun l2=>
  (opI (A.cell ds1 1) .i64).bind fun n3=>
  cutO (
   bif (A.ilt n3 (A.rlen l2))then
    some (.inl [(.bool (A.ilt n3 60))])
   else
    some (.inl [(.bool false)])
  ) fun ds4=>
  (opB (A.cell ds4 0)).bind fun b5=>
  bif b5 then
   bif (A.inr n3 (A.rlen l2))then
    (opS (A.cell (A.row l2 n3) 0)).bind fun s6=>
    cutO (
     bif (A.ilt 300 (A.slen s6))then
      some (.inl [(.bool true)])
     else
      bif (A.inr n3 (A.rlen l2))then
       oE A (A.skip 1 (A.row l2 n3)) 0 fun n7 n8 s9 n10 l11 l12=>
       (E.call 23 [(kE n7 n8 s9 n10 l11 l12)]).bind fun p13=>
       (opB (A.cell p13.leaves 0)).bind fun b15=>
       some (.inl [(.bool (A.bnot b15))])
      else
       none
    ) fun ds16=>
    (opB (A.cell ds16 0)).bind fun b17=>
    bif b17 then
     some (.inr (.val [(.bool false)]))
    else
     some (.inl [(.sl 7 l2),(.int .i64 (A.wrap .i64 (A.add n3 1)))])
   else
    none
  else
   some (.inr (.val [(.bool (A.ile (A.rlen l2) 50))]))
 ) [(.sl 7 l_),(.int .i64 0)]
theorem g11_eq (A:Sy)(E:Env)(l_:List (List D)):(funT A Tryz.prog cs 11 [.d (.sl 7 l_)]).run E=g11 A E l_:=by kernel_rfl
def g5 (A:Sy)(E:Env)(a_:List (List D))(b_:List (List D)):Option PRes:=
 (E.call 11 [(.d (.sl 7 a_))]).bind fun p1=>
 (opB (A.cell p1.leaves 0)).bind fun b3=>
 cutO (
  bif (A.bnot b3)then
   some (.inl [(.bool true)])
  else
   (E.call 11 [(.d (.sl 7 b_))]).bind fun p4=>
   (opB (A.cell p4.leaves 0)).bind fun b6=>
   some (.inl [(.bool (A.bnot b6))])
 ) fun ds7=>
 (opB (A.cell ds7 0)).bind fun b8=>
 bif b8 then
  (E.call 6 []).bind fun p9=>
  (opB (A.cell p9.leaves 0)).bind fun b11=>
  some (.val [(.bool b11)])
 else
  (E.call 12 [(.d (.sl 7 a_))]).bind fun p12=>
  (opS (A.cell p12.leaves 0)).bind fun s14=>
  (E.call 13 [(.d (.sl 7 a_))]).bind fun p15=>
  (opS (A.cell p15.leaves 0)).bind fun s17=>
  cutO (
   bif (A.seq s14 s17)then
    (E.call 14 [(.d (.sl 7 a_)),(.d (.sl 7 b_))]).bind fun p18=>
    (opB (A.cell p18.leaves 0)).bind fun b20=>
    (E.call 9 [(.d (.sl 7 a_)),(.d (.sl 7 b_))]).bind fun p21=>
    (opB (A.cell p21.leaves 0)).bind fun b23=>
    some (.inl [(.bool (A.beq b20 b23))])
   else
    some (.inl [(.bool false)])
  ) fun ds24=>
  (opB (A.cell ds24 0)).bind fun b25=>
  cutO (
   bif b25 then
    (E.call 6 []).bind fun p26=>
    (opB (A.cell p26.leaves 0)).bind fun b28=>
    some (.inl [(.bool b28)])
   else
    some (.inl [(.bool false)])
  ) fun ds29=>
  (opB (A.cell ds29 0)).bind fun b30=>
  some (.val [(.bool b30)])
def g4 (A:Sy)(E:Env)(l_:List (List D))(s_:ByteArray):Option PRes:=
 (E.call 11 [(.d (.sl 7 l_))]).bind fun p1=>
 (opB (A.cell p1.leaves 0)).bind fun b3=>
 cutO (
  bif (A.bnot b3)then
   some (.inl [(.bool true)])
  else
   some (.inl [(.bool (A.ilt 1500 (A.slen s_)))])
 ) fun ds4=>
 (opB (A.cell ds4 0)).bind fun b5=>
 bif b5 then
  (E.call 6 []).bind fun p6=>
  (opB (A.cell p6.leaves 0)).bind fun b8=>
  some (.val [(.bool b8)])
 else
  (E.call 12 [(.d (.sl 7 l_))]).bind fun p9=>
  (opS (A.cell p9.leaves 0)).bind fun s11=>
  cutO (
   bif (A.bnot (A.seq s11 (bs [])))then
    some (.inl [(.bool (A.ile (A.slen s11) 6000))])
   else
    some (.inl [(.bool false)])
  ) fun ds12=>
  (opB (A.cell ds12 0)).bind fun b13=>
  bif b13 then
   (E.call 7 [(.d (.str s11))]).bind fun p14=>
   (opL (A.cell p14.leaves 0) 7).bind fun l16=>
   (opI (A.cell p14.leaves 1) .i64).bind fun n17=>
   (opI (A.cell p14.leaves 2) .i64).bind fun n18=>
   (E.call 10 [(.d (.int .i64 n18))]).bind fun p19=>
   (opI (A.cell p19.leaves 0) .i64).bind fun n21=>
   cutO (
    bif (A.bnot (A.ieq n21 0))then
     some (.inl [(.bool true)])
    else
     some (.inl [(.bool (A.bnot (A.ieq n17 (A.slen s11))))])
   ) fun ds22=>
   (opB (A.cell ds22 0)).bind fun b23=>
   cutO (
    bif b23 then
     some (.inl [(.bool true)])
    else
     (E.call 9 [(.d (.sl 7 l_)),(.d (.sl 7 l16))]).bind fun p24=>
     (opB (A.cell p24.leaves 0)).bind fun b26=>
     some (.inl [(.bool (A.bnot b26))])
   ) fun ds27=>
   (opB (A.cell ds27 0)).bind fun b28=>
   bif b28 then
    some (.val [(.bool false)])
   else
    (E.call 7 [(.d (.str s_))]).bind fun p29=>
    (opL (A.cell p29.leaves 0) 7).bind fun l31=>
    (opI (A.cell p29.leaves 1) .i64).bind fun n32=>
    (opI (A.cell p29.leaves 2) .i64).bind fun n33=>
    (E.call 10 [(.d (.int .i64 n33))]).bind fun p34=>
    (opI (A.cell p34.leaves 0) .i64).bind fun n36=>
    bif (A.bnot (A.ieq n36 0))then
     cutO (
      bif (A.ieq (A.rlen l31) 0)then
       (E.call 6 []).bind fun p37=>
       (opB (A.cell p37.leaves 0)).bind fun b39=>
       some (.inl [(.bool b39)])
      else
       some (.inl [(.bool false)])
     ) fun ds40=>
     (opB (A.cell ds40 0)).bind fun b41=>
     some (.val [(.bool b41)])
    else
     (E.call 12 [(.d (.sl 7 l31))]).bind fun p42=>
     (opS (A.cell p42.leaves 0)).bind fun s44=>
     bif (A.ilt 6000 (A.slen s44))then
      (E.call 6 []).bind fun p45=>
      (opB (A.cell p45.leaves 0)).bind fun b47=>
      some (.val [(.bool b47)])
     else
      (E.call 7 [(.d (.str s44))]).bind fun p48=>
      (opL (A.cell p48.leaves 0) 7).bind fun l50=>
      (opI (A.cell p48.leaves 1) .i64).bind fun n51=>
      (opI (A.cell p48.leaves 2) .i64).bind fun n52=>
      (E.call 10 [(.d (.int .i64 n52))]).bind fun p53=>
      (opI (A.cell p53.leaves 0) .i64).bind fun n55=>
      cutO (
       bif (A.ieq n55 0)then
        some (.inl [(.bool (A.ieq n51 (A.slen s44)))])
       else
        some (.inl [(.bool false)])
      ) fun ds56=>
      (opB (A.cell ds56 0)).bind fun b57=>
      cutO (
       bif b57 then
        (E.call 9 [(.d (.sl 7 l50)),(.d (.sl 7 l31))]).bind fun p58=>
        (opB (A.cell p58.leaves 0)).bind fun b60=>
        some (.inl [(.bool b60)])
       else
        some (.inl [(.bool false)])
      ) fun ds61=>
      (opB (A.cell ds61 0)).bind fun b62=>
      cutO (
       bif b62 then
        (E.call 6 []).bind fun p63=>
        (opB (A.cell p63.leaves 0)).bind fun b65=>
        some (.inl [(.bool b65)])
       else
        some (.inl [(.bool false)])
      ) fun ds66=>
      (opB (A.cell ds66 0)).bind fun b67=>
      some (.val [(.bool b67)])
  else
   (E.call 7 [(.d (.str s_))]).bind fun p68=>
   (opL (A.cell p68.leaves 0) 7).bind fun l70=>
   (opI (A.cell p68.leaves 1) .i64).bind fun n71=>
   (opI (A.cell p68.leaves 2) .i64).bind fun n72=>
   (E.call 10 [(.d (.int .i64 n72))]).bind fun p73=>
   (opI (A.cell p73.leaves 0) .i64).bind fun n75=>
   bif (A.bnot (A.ieq n75 0))then
    cutO (
     bif (A.ieq (A.rlen l70) 0)then
      (E.call 6 []).bind fun p76=>
      (opB (A.cell p76.leaves 0)).bind fun b78=>
      some (.inl [(.bool b78)])
     else
      some (.inl [(.bool false)])
    ) fun ds79=>
    (opB (A.cell ds79 0)).bind fun b80=>
    some (.val [(.bool b80)])
   else
    (E.call 12 [(.d (.sl 7 l70))]).bind fun p81=>
    (opS (A.cell p81.leaves 0)).bind fun s83=>
    bif (A.ilt 6000 (A.slen s83))then
     (E.call 6 []).bind fun p84=>
     (opB (A.cell p84.leaves 0)).bind fun b86=>
     some (.val [(.bool b86)])
    else
     (E.call 7 [(.d (.str s83))]).bind fun p87=>
     (opL (A.cell p87.leaves 0) 7).bind fun l89=>
     (opI (A.cell p87.leaves 1) .i64).bind fun n90=>
     (opI (A.cell p87.leaves 2) .i64).bind fun n91=>
     (E.call 10 [(.d (.int .i64 n91))]).bind fun p92=>
     (opI (A.cell p92.leaves 0) .i64).bind fun n94=>
     cutO (
      bif (A.ieq n94 0)then
       some (.inl [(.bool (A.ieq n90 (A.slen s83)))])
      else
       some (.inl [(.bool false)])
     ) fun ds95=>
     (opB (A.cell ds95 0)).bind fun b96=>
     cutO (
      bif b96 then
       (E.call 9 [(.d (.sl 7 l89)),(.d (.sl 7 l70))]).bind fun p97=>
       (opB (A.cell p97.leaves 0)).bind fun b99=>
       some (.inl [(.bool b99)])
      else
       some (.inl [(.bool false)])
     ) fun ds100=>
     (opB (A.cell ds100 0)).bind fun b101=>
     cutO (
      bif b101 then
       (E.call 6 []).bind fun p102=>
       (opB (A.cell p102.leaves 0)).bind fun b104=>
       some (.inl [(.bool b104)])
      else
       some (.inl [(.bool false)])
     ) fun ds105=>
     (opB (A.cell ds105 0)).bind fun b106=>
     some (.val [(.bool b106)])
theorem g4_eq (A:Sy)(E:Env)(l_:List (List D))(s_:ByteArray):(funT A Tryz.prog cs 4 [.d (.sl 7 l_),V.d (.str s_)]).run E=g4 A E l_ s_:=by kernel_rfl
def g152 (A:Sy)(E:Env)(b_:Bool):Option PRes:=
 (E.call 176 [(.d (.bool b_))]).bind fun p1=>
 (opS (A.cell p1.leaves 0)).bind fun s3=>
 some (.val [(.str s3)])
theorem g152_eq (A:Sy)(E:Env)(b_:Bool):(funT A Tryz.prog cs 152 [.d (.bool b_)]).run E=g152 A E b_:=by kernel_rfl
def g151 (A:Sy)(E:Env)(i_:Int)(base_:Int):Option PRes:=
 (E.call 175 [(.d (.int .i64 i_)),(.d (.int .i64 base_))]).bind fun p1=>
 (opS (A.cell p1.leaves 0)).bind fun s3=>
 some (.val [(.str s3)])
theorem g151_eq (A:Sy)(E:Env)(i_:Int)(base_:Int):(funT A Tryz.prog cs 151 [.d (.int .i64 i_),V.d (.int .i64 base_)]).run E=g151 A E i_ base_:=by kernel_rfl
def g23 (A:Sy)(E:Env)(e_0:Int)(e_1:Int)(e_2:ByteArray)(e_3:Int)(e_4:List (List D))(e_5:List (List D)):Option PRes:=
 (E.call 49 [(kE e_0 e_1 e_2 e_3 e_4 e_5),(.d (.int .i64 200))]).bind fun p1=>
 (opI (A.cell p1.leaves 0) .i64).bind fun n3=>
 cutO (
  bif (A.ilt 0 n3)then
   (E.call 50 [(kE e_0 e_1 e_2 e_3 e_4 e_5)]).bind fun p4=>
   (opB (A.cell p4.leaves 0)).bind fun b6=>
   some (.inl [(.bool b6)])
  else
   some (.inl [(.bool false)])
 ) fun ds7=>
 (opB (A.cell ds7 0)).bind fun b8=>
 some (.val [(.bool b8)])
theorem g23_eq (A:Sy)(E:Env)(e_0:Int)(e_1:Int)(e_2:ByteArray)(e_3:Int)(e_4:List (List D))(e_5:List (List D)):(funT A Tryz.prog cs 23 [.agg [.d (.int .i64 e_0),V.d (.int .i64 e_1),V.d (.str e_2),V.d (.int .i64 e_3),V.d (.sl 1 e_4),V.d (.sl 6 e_5)]]).run E=g23 A E e_0 e_1 e_2 e_3 e_4 e_5:=by kernel_rfl
def g49 (A:Sy)(E:Env)(e_0:Int)(e_1:Int)(e_2:ByteArray)(e_3:Int)(e_4:List (List D))(e_5:List (List D))(left_:Int):Option PRes:=
 bif (A.ile left_ 0)then
  some (.val [(.int .i64 0)])
 else
  E.lp (fun ds1=>
   (opI (A.cell ds1 0) .i64).bind fun n2=>
   (opI (A.cell ds1 1) .i64).bind fun n3=>
   oE A ds1 2 fun n4 n5 s6 n7 l8 l9=>
   cutO (
    bif (A.ilt n3 (A.rlen l9))then
     some (.inl [(.bool (A.ilt 0 n2))])
    else
     some (.inl [(.bool false)])
   ) fun ds10=>
   (opB (A.cell ds10 0)).bind fun b11=>
   bif b11 then
    bif (A.inr n3 (A.rlen l9))then
     oE A (A.row l9 n3) 0 fun n12 n13 s14 n15 l16 l17=>
     (E.call 49 [(kE n12 n13 s14 n15 l16 l17),(.d (.int .i64 n2))]).bind fun p18=>
     (opI (A.cell p18.leaves 0) .i64).bind fun n20=>
     some (.inl [(.int .i64 n20),(.int .i64 (A.wrap .i64 (A.add n3 1))),(.int .i64 n4),(.int .i64 n5),(.str s6),(.int .i64 n7),(.sl 1 l8),(.sl 6 l9)])
    else
     none
   else
    some (.inr (.val [(.int .i64 n2)]))
  ) [(.int .i64 (A.wrap .i64 (A.sub left_ 1))),(.int .i64 0),(.int .i64 e_0),(.int .i64 e_1),(.str e_2),(.int .i64 e_3),(.sl 1 e_4),(.sl 6 e_5)]
theorem g49_eq (A:Sy)(E:Env)(e_0:Int)(e_1:Int)(e_2:ByteArray)(e_3:Int)(e_4:List (List D))(e_5:List (List D))(left_:Int):(funT A Tryz.prog cs 49 [.agg [.d (.int .i64 e_0),V.d (.int .i64 e_1),V.d (.str e_2),V.d (.int .i64 e_3),V.d (.sl 1 e_4),V.d (.sl 6 e_5)],V.d (.int .i64 left_)]).run E=g49 A E e_0 e_1 e_2 e_3 e_4 e_5 left_:=by kernel_rfl
def g50 (A:Sy)(E:Env)(e_0:Int)(e_1:Int)(e_2:ByteArray)(e_3:Int)(e_4:List (List D))(e_5:List (List D)):Option PRes:=
 (E.call 64 [(kE e_0 e_1 e_2 e_3 e_4 e_5)]).bind fun p1=>
 (opL (A.cell p1.leaves 0) 6).bind fun l3=>
 E.lp (fun ds4=>
  (opL (A.cell ds4 0) 6).bind fun l5=>
  (opI (A.cell ds4 1) .i64).bind fun n6=>
  bif (A.ilt n6 (A.rlen l5))then
   bif (A.inr n6 (A.rlen l5))then
    (opS (A.cell (A.skip 2 (A.row l5 n6)) 0)).bind fun s7=>
    cutO (
     bif (A.ilt 200 (A.slen s7))then
      some (.inl [(.bool true)])
     else
      bif (A.inr n6 (A.rlen l5))then
       (opL (A.cell (A.skip 4 (A.row l5 n6)) 0) 1).bind fun l8=>
       some (.inl [(.bool (A.ilt 20 (A.rlen l8)))])
      else
       none
    ) fun ds9=>
    (opB (A.cell ds9 0)).bind fun b10=>
    bif b10 then
     some (.inr (.val [(.bool false)]))
    else
     E.lp (fun ds11=>
      (opL (A.cell ds11 0) 6).bind fun l12=>
      (opI (A.cell ds11 1) .i64).bind fun n13=>
      (opI (A.cell ds11 2) .i64).bind fun n14=>
      bif (A.inr n13 (A.rlen l12))then
       (opL (A.cell (A.skip 4 (A.row l12 n13)) 0) 1).bind fun l15=>
       bif (A.ilt n14 (A.rlen l15))then
        bif (A.inr n13 (A.rlen l12))then
         (opL (A.cell (A.skip 4 (A.row l12 n13)) 0) 1).bind fun l16=>
         bif (A.inr n14 (A.rlen l16))then
          (opS (A.cell (A.row l16 n14) 0)).bind fun s17=>
          bif (A.ilt 100 (A.slen s17))then
           some (.inr (.inr (.val [(.bool false)])))
          else
           some (.inl [(.sl 6 l12),(.int .i64 n13),(.int .i64 (A.wrap .i64 (A.add n14 1)))])
         else
          none
        else
         none
       else
        some (.inr (.inl [(.sl 6 l12),(.int .i64 (A.wrap .i64 (A.add n13 1)))]))
      else
       none
     ) [(.sl 6 l5),(.int .i64 n6),(.int .i64 0)]
   else
    none
  else
   some (.inr (.val [(.bool true)]))
 ) [(.sl 6 l3),(.int .i64 0)]
theorem g50_eq (A:Sy)(E:Env)(e_0:Int)(e_1:Int)(e_2:ByteArray)(e_3:Int)(e_4:List (List D))(e_5:List (List D)):(funT A Tryz.prog cs 50 [.agg [.d (.int .i64 e_0),V.d (.int .i64 e_1),V.d (.str e_2),V.d (.int .i64 e_3),V.d (.sl 1 e_4),V.d (.sl 6 e_5)]]).run E=g50 A E e_0 e_1 e_2 e_3 e_4 e_5:=by kernel_rfl
def g176 (A:Sy)(E:Env)(b_:Bool):Option PRes:=
 bif b_ then
  some (.val [(.str (bs [116,114,117,101]))])
 else
  some (.val [(.str (bs [102,97,108,115,101]))])
theorem g176_eq (A:Sy)(E:Env)(b_:Bool):(funT A Tryz.prog cs 176 [.d (.bool b_)]).run E=g176 A E b_:=by kernel_rfl
end Go.Vm
end

section
set_option linter.all false
set_option maxRecDepth 100000
set_option maxHeartbeats 4000000
namespace Go.Vm
open Go.Proofs
theorem tb_mk (l:List UInt8):tb ⟨l.toArray⟩=l.map UInt8.toNat:=by simp [tb]
theorem join_flat0: ∀l:List (List UInt8),Lib.join l []=l.flatten
 | []=>rfl
 |x::r=>by
  rw[Lib.join_cons]
  unfold Lib.joinTail
  simp
theorem tb_join0 (l:List ByteArray):tb (joinB l (bs []))=(l.map tb).flatten:=by
 unfold joinB
 rw[show(bs []).data.toList= []from rfl,join_flat0,tb_mk,List.map_flatten,List.map_map]
 rfl
theorem sz_join0 (l:List ByteArray):(joinB l (bs [])).size=(l.map ByteArray.size).sum:=by
 rw[←tb_len,tb_join0,List.length_flatten,List.map_map]
 congr 1
 refine List.map_congr_left fun x _=> ?_
 exact tb_len x
theorem tail_seps {r:List ByteArray}{v:List Ex}(h:r.map tb=v.map fun x=>render (pcs x)):(Lib.joinTail [44,32] (r.map (·.data.toList))).map UInt8.toNat=render (sepP (pcsL v)):=by
 induction r generalizing v with
 |nil=>
  match v,h with
  | [],_=>rfl
 |cons t r ih=>
  match v,h with
  |x::v,h=>
   simp only [List.map_cons,List.cons.injEq]at h
   have ih:=ih h.2
   have e:Lib.joinTail [44,32] ((t::r).map (·.data.toList))= [44,32]++t.data.toList++Lib.joinTail [44,32] (r.map (·.data.toList)):=by
    unfold Lib.joinTail
    simp
   rw[e,List.map_append,List.map_append,ih]
   have: ∀z:Pc,render (mk 44::none::z)= [44,32]++render z:=fun z=>rfl
   simp only [pcsL,sepP,List.cons_append,List.nil_append,this,render_app,←h.1]
   rfl
theorem tb_joinC {ts:List ByteArray}{u:List Ex}(h:ts.map tb=u.map fun x=>render (pcs x)):tb (joinB ts (bs [44,32]))=render (listP (pcsL u)):=by
 match ts,u,h with
 | [],[],_=>rfl
 |t::r,x::v,h=>
  simp only [List.map_cons,List.cons.injEq]at h
  unfold joinB
  rw[tb_mk,List.map_cons,show(bs [44,32]).data.toList= [44,32]from rfl,Lib.join_cons,List.map_append,tail_seps h.2]
  simp only [pcsL,listP,render_app,←h.1]
  rfl
 | [],_::_,h=>cases h
 |_::_,[],h=>cases h
theorem dec_digN: ∀(m u:Nat),u≤m→(Lib.decDigits u).map UInt8.toNat=digN u
 |m,u,h=>by
  rw[Lib.decDigits,digN]
  by_cases h1:u < 10
  ·rw[dif_pos h1,dif_pos h1]
   have:(UInt8.ofNat (48+u)).toNat=48+u:=by rw[UInt8.toNat_ofNat'];omega
   rw[List.map_cons,List.map_nil,this]
  ·rw[dif_neg h1,dif_neg h1]
   cases m with
   |zero=>omega
   |succ m=>
    have:(UInt8.ofNat (48+u % 10)).toNat=48+u % 10:=by rw[UInt8.toNat_ofNat'];omega
    rw[List.map_append,dec_digN m (u / 10) (by omega),List.map_cons,List.map_nil,this]
theorem tb_itoa (n:Nat):tb ⟨(Lib.itoa (n:Int)).toArray⟩=digN n:=by
 rw[tb_mk]
 unfold Lib.itoa
 rw[if_neg (by omega),Int.toNat_natCast]
 exact dec_digN _ _ (Nat.le_refl _)
theorem digN_small: ∀(k n:Nat),1≤k→n < 10 ^ k→(digN n).length≤k
 |0,n,h,_=>by omega
 |k+1,n,_,h=>by
  rw[digN.eq_def]
  split
  ·simp
  ·rename_i h1
   have hk:1≤k:=by
    rcases Nat.eq_zero_or_pos k with h0|h0
    ·subst h0;omega
    ·exact h0
   have:=digN_small k (n / 10) hk (by rw[Nat.pow_succ]at h;omega)
   simp only [List.length_append,List.length_singleton];omega
theorem c_itoa (n:Nat)(h:n < 9223372036854775808): ∃r,cF 175 [.d (.int .i64 (n:Int)), .d (.int .i64 10)]=some (.val [.str r])∧tb r=digN n∧r.size≤100:=by
 refine⟨⟨(Lib.itoa (n:Int)).toArray⟩,callF_known ?_,tb_itoa n,?_⟩
 ·rw[show kn 175 [.d (.int .i64 (n:Int)), .d (.int .i64 10)]=knI [.d (.int .i64 (n:Int)), .d (.int .i64 10)]from rfl]
  simp only [knI]
  rw[decide_eq_true ⟨trivial,by omega,by omega⟩]
 ·rw[←tb_len,tb_itoa]
  have:=digN_small 19 n (by omega) (by have:(10:Nat) ^ 19=10000000000000000000:=by decide
                                       omega)
  omega
theorem c_join (l:List ByteArray)(sep:ByteArray)(hN:l.length≤140737488355328)(hl:(joinB l sep).size≤140737488355328):cF 29 [.d (.sl 1 (srows l)), .d (.str sep)]=some (.val [.str (joinB l sep)]):=by
 have hl:(Lib.join (l.map (·.data.toList)) sep.data.toList).length≤140737488355328:=by
  have:(joinB l sep).size=(Lib.join (l.map (·.data.toList)) sep.data.toList).length:=by
   show(Lib.join (l.map (·.data.toList)) sep.data.toList).toArray.size=_
   simp
  omega
 refine callF_known ?_
 rw[show kn 29 [.d (.sl 1 (srows l)), .d (.str sep)]=knJ [.d (.sl 1 (srows l)), .d (.str sep)]from rfl]
 simp only [knJ,unSr_srows]
 rw[decide_eq_true ⟨hN,hl⟩]
def roundB (l:List ByteArray):ByteArray:=bs [40]++joinB l (bs [])++bs [41]
theorem tot_len {l:List ByteArray}:(l.map ByteArray.size).sum=tot l:=rfl
theorem round_sz (l:List ByteArray):(roundB l).size=tot l+2:=by
 unfold roundB
 rw[ByteArray.size_append,ByteArray.size_append,sz_join0,tot_len]
 simp only [bs_sz,List.length_cons,List.length_nil];omega
theorem tb_round (l:List ByteArray):tb (roundB l)=40::((l.map tb).flatten++[41]):=by
 unfold roundB
 rw[tb_app,tb_app,tb_join0];rfl
theorem c_round (l:List ByteArray)(hN:l.length≤1000000)(hl:tot l≤100000000000):cF 105 [.d (.sl 1 (srows l))]=some (.val [.str (roundB l)]):=by
 have hs:(joinB l (bs [])).size≤100000000000:=by rw[sz_join0];exact hl
 have h1:=c_join l (bs []) (by omega) (by omega)
 have f1:sy.sfit (bs [40]) (joinB l (bs []))=true:=sfT (by rw[bs_sz];simp only [List.length_cons,List.length_nil];omega)
 have f2:sy.sfit (bs [40]++joinB l (bs [])) (bs [41])=true:=sfT (by simp only [ByteArray.size_append,bs_sz,List.length_cons,List.length_nil];omega)
 refine cOf (by kernel_rfl) rfl ?_
 rw[g105_eq]
 simp only [g105,go1,h1,f1,f2]
 rfl
theorem tot_cons (a:ByteArray)(l:List ByteArray):tot (a::l)=a.size+tot l:=by simp [tot]
theorem tot_nil:tot []=0:=rfl
end Go.Vm
end

section
set_option linter.all false
set_option maxRecDepth 100000
set_option maxHeartbeats 4000000
namespace Go.Vm
open Go.Proofs
theorem c_sOn (s a:ByteArray)(hs:s.size≤100000)(ha:a.size≤100000): ∃r,cF 148 [.d (.str s), .d (.str a)]=some (.val [.str r])∧tb r=render (onP s a)∧r.size≤300000:=by
 have e1:(a.toList == (bs [116,114,117,101]).toList)=decide (tb a=kTrue):=seq_tb _ _
 have e2:(a.toList == (bs [102,97,108,115,101]).toList)=decide (tb a=kFalse):=seq_tb _ _
 have s1:sy.sfit (bs [110,111,116,32]) s=true:=sfT (by simp only [bs_sz,List.length_cons,List.length_nil];omega)
 have s2:sy.sfit a (bs [40])=true:=sfT (by simp only [bs_sz,List.length_cons,List.length_nil];omega)
 have s3:sy.sfit (a++bs [40]) s=true:=sfT (by simp only [ByteArray.size_append,bs_sz,List.length_cons,List.length_nil];omega)
 have s4:sy.sfit (a++bs [40]++s) (bs [41])=true:=sfT (by simp only [ByteArray.size_append,bs_sz,List.length_cons,List.length_nil];omega)
 have core: ∃r,g148 sy eF s a=some (.val [.str r])∧tb r=render (onP s a)∧r.size≤300000:=by
  simp only [g148,go1,e1,e2,s1,s2,s3,s4]
  unfold onP
  by_cases h1:tb a=kTrue
  ·rw[if_pos h1,decide_eq_true h1]
   exact⟨s,rfl,(List.append_nil _).symm,by omega⟩
  ·rw[if_neg h1,decide_eq_false h1]
   by_cases h2:tb a=kFalse
   ·rw[if_pos h2,decide_eq_true h2]
    refine⟨_,rfl,?_,?_⟩
    ·rw[tb_app]
     show[110,111,116,32]++tb s=kNot++32::(tb s++[])
     rw[List.append_nil];rfl
    ·simp only [ByteArray.size_append,bs_sz,List.length_cons,List.length_nil];omega
   ·rw[if_neg h2,decide_eq_false h2]
    refine⟨_,rfl,?_,?_⟩
    ·rw[tb_app,tb_app,tb_app]
     have:T.w ⟨if highN (tb a)then 2 else 1,tb a,0⟩=tb a:=by
      unfold T.w
      rw[if_neg (by simp only;split<;>decide)]
     show tb a++[40]++tb s++[41]=T.w ⟨if highN (tb a)then 2 else 1,tb a,0⟩++([40]++(tb s++([41]++[])))
     rw[this]
     simp
    ·simp only [ByteArray.size_append,bs_sz,List.length_cons,List.length_nil];omega
 obtain⟨r,h1,h2⟩:=core
 exact⟨r,cOf (by kernel_rfl) rfl ((g148_eq _ _ _ _).trans h1),h2⟩
theorem c_scmp (o:Nat)(h1:11≤o)(h2:o≤16):cF 147 [.d (.int .i64 (o:Int))]=some (.val [.str (signB o)]):=by
 refine cOf (by kernel_rfl) rfl ?_
 rw[g147_eq]
 match o,h1,h2 with
 |11,_,_|12,_,_|13,_,_|14,_,_|15,_,_|16,_,_=>rfl
 |o+17,_,h=>omega
theorem c_sSign (o:Nat)(h1:3≤o)(h2:o≤16):cF 106 [.d (.int .i64 (o:Int))]=some (.val [.str (signB o)]):=by
 refine cOf (by kernel_rfl) rfl ?_
 rw[g106_eq]
 by_cases h:o < 11
 ·match o,h1,h with
  |3,_,_|4,_,_|5,_,_|6,_,_|7,_,_|8,_,_|9,_,_|10,_,_=>rfl
  |o+11,_,h=>omega
 ·have hc:=c_scmp o (by omega) h2
  have d: ∀k:Int,k < 11→decide ((o:Int)=k)=false:=fun k hk=>decide_eq_false (by omega)
  simp only [g106,go1,d 1 (by decide),d 2 (by decide),d 3 (by decide),d 4 (by decide),d 5 (by decide),d 6 (by decide),d 7 (by decide),d 8 (by decide),d 9 (by decide),d 10 (by decide),hc]
theorem c_sbool (b:Bool):cF 152 [.d (.bool b)]=some (.val [.str (bif b then bs [116,114,117,101]else bs [102,97,108,115,101])]):=by
 have h1:cF 176 [.d (.bool b)]=some (.val [.str (bif b then bs [116,114,117,101]else bs [102,97,108,115,101])]):=by
  refine cOf (by kernel_rfl) rfl ?_
  rw[g176_eq]
  cases b<;>rfl
 refine cOf (by kernel_rfl) rfl ?_
 rw[g152_eq]
 simp only [g152,go1,h1]
theorem c_sint (n:Nat)(h:n < 9223372036854775808): ∃r,cF 151 [.d (.int .i64 (n:Int)), .d (.int .i64 10)]=some (.val [.str r])∧tb r=digN n∧r.size≤100:=by
 obtain⟨r,h1,h2⟩:=c_itoa n h
 refine⟨r,?_,h2⟩
 refine cOf (by kernel_rfl) rfl ?_
 rw[g151_eq]
 simp only [g151,go1,h1]
theorem c_sleaf (k n:Int)(s:ByteArray)(o:Int)(a u:List (List D))(h0:k=1→0≤n∧n < 9223372036854775808)(hb:k=2→n=0∨n=1)(hs:s.size≤100000)(hp:k=17→pathN (tb s)=true)(hk:k=1∨k=2∨k=3∨k=4∨k=17): ∃r,cF 108 [kE k n s o a u]=some (.val [.str r])∧tb r=render (leafP k n s)∧r.size≤300000:=by
 have core: ∃r,g108 sy eF k n s o a u=some (.val [.str r])∧tb r=render (leafP k n s)∧r.size≤300000:=by
  rcases hk with rfl|rfl|rfl|rfl|rfl
  ·obtain⟨q1,q2⟩:=h0 rfl
   obtain⟨n,rfl⟩: ∃q:Nat,n=(q:Int):=⟨n.toNat,by omega⟩
   obtain⟨r,h1,h2,h3⟩:=c_sint n (by omega)
   refine⟨r,?_,?_,by omega⟩
   ·simp only [g108,go1,h1]
   ·rw[h2]
    show digN n=digN (n:Int).toNat++[]
    rw[List.append_nil,Int.toNat_natCast]
  ·rcases hb rfl with rfl|rfl
   ·have h1:=c_sbool false
    refine⟨bs [102,97,108,115,101],?_,rfl,by decide⟩
    simp only [g108,go1,show decide ((2:Int)=1)=false from rfl,h1]
   ·have h1:=c_sbool true
    refine⟨bs [116,114,117,101],?_,rfl,by decide⟩
    simp only [g108,go1,show decide ((2:Int)=1)=false from rfl,show decide ((1:Int)=0)=false from rfl,h1]
  ·exact⟨s,rfl,(List.append_nil _).symm,by omega⟩
  ·exact⟨s,rfl,(List.append_nil _).symm,by omega⟩
  ·have h1:=c_xQuote s (by omega)
   rw[hp rfl]at h1
   refine⟨bs [39]++s++bs [39],?_,?_,?_⟩
   ·simp only [g108,go1,show decide ((17:Int)=1)=false from rfl,show decide ((17:Int)=2)=false from rfl,h1]
   ·rw[tb_app,tb_app]
    show[39]++tb s++[39]=(39::(tb s++[39]))++[]
    simp
   ·simp only [ByteArray.size_append,bs_sz,List.length_cons,List.length_nil];omega
 obtain⟨r,h1,h2⟩:=core
 exact⟨r,cOf (by kernel_rfl) rfl ((g108_eq _ _ _ _ _ _ _ _).trans h1),h2⟩
def TxtS (x:Ex):Prop:= ∀k n s o a u,x= .mk k n s o a u→ ∃r,cF 57 [kE k n s o (srows a) (Ex.rows u)]=some (.val [.str r])∧tb r=render (pcs x)∧r.size≤1000000*x.size
theorem c_sall (u:List Ex)(hz:Ex.sizes u≤1000)(hu: ∀x∈u,TxtS x): ∃ts,cF 104 [.d (.sl 6 (Ex.rows u))]=some (.own 9 1 (srows ts))∧TS' u ts:=by
 have hl:=sizes_len u
 have core: ∃p,g104 sy eF (Ex.rows u)=some p∧ ∃ts,p= .own 9 1 (srows ts)∧TS' u ts:=by
  unfold g104
  rw[sy_rlen,rows_len]
  refine loopF_ex (fun x:Nat × List ByteArray=>[.sl 6 (Ex.rows u), .int .i64 (u.length:Int), .int .i64 (x.1:Int), .sl 1 (srows x.2)]) (fun x=>x.1≤u.length∧x.2.length=x.1∧TS' (u.take x.1) x.2) (fun x=>u.length - x.1) (fun x hx=> ?_) (0,[]) ⟨Nat.zero_le _,rfl,⟨by simp,by simp [tot]⟩⟩
  obtain⟨i,ts⟩:=x
  obtain⟨h1,hti,hts⟩:=hx
  simp only at h1 hti hts ⊢
  by_cases hlt:i < u.length
  ·left
   have hx:=List.getElem?_eq_getElem hlt
   have ht:=hu u[i] (List.getElem_mem hlt)
   have htk:u.take (i+1)=u.take i++[u[i]]:=by rw[List.take_add_one,hx];rfl
   generalize u[i]=e at hx ht htk
   have hr:=xrow hx
   obtain⟨k2,n2,s2,o2,a2,u2⟩:=e
   obtain⟨t,h4,h5,h6⟩:=ht k2 n2 s2 o2 a2 u2 rfl
   have w1:IntKind.i64.wrap ((i:Int)+1)=((i+1:Nat):Int):=by rw[wrap_id (by omega) (by omega)];omega
   have l0:=ilt_at hlt
   have i0:=inr_at hlt
   have fit:decide (((srows ts).length+[[D.str t]].length)*(16+1)≤140737488355328)=true:=decide_eq_true (by rw[srows_len];simp only [List.length_cons,List.length_nil];omega)
   refine⟨(i+1,ts++[t]),?_,⟨hlt,by simp [hti],?_,?_⟩,by simp only;omega⟩
   ·have e1:srows ts++[[D.str t]]=srows (ts++[t]):=by rw[←srows_app];rfl
    simp only [go1,oE,rows_len,l0,i0,hr,Ex.row,h4,fit,e1,w1]
   ·simp only
    rw[htk,List.map_append,List.map_append,hts.m]
    simp [h5]
   ·simp only
    rw[htk,tot_snoc,sizes_snoc]
    have:=hts.z
    omega
  ·right
   have:i=u.length:=by omega
   subst this
   rw[List.take_length]at hts
   refine⟨_,?_,ts,rfl,hts⟩
   simp only [go1,ilt_self]
 obtain⟨p,h1,ts,rfl,h2⟩:=core
 exact⟨ts,cOf (by kernel_rfl) rfl ((g104_eq _ _ _).trans h1),h2⟩
end Go.Vm
end

section
set_option linter.all false
set_option maxRecDepth 100000
set_option maxHeartbeats 4000000
namespace Go.Vm
open Go.Proofs
theorem c_sfl8 (n:Int)(s:ByteArray)(o:Int)(a:List ByteArray)(u:List Ex)(ts:List ByteArray)(hz:Ex.sizes u≤1000)(hts:TS' u ts)(hlu:u.length=2): ∃r,cF 107 [kE 8 n s o (srows a) (Ex.rows u), .d (.sl 1 (srows ts))]=some (.val [.str r])∧tb r=render (pcK 8 n s o a (pcsL u))∧r.size≤1000000*(Ex.sizes u+1):=by
 match u,hlu,hts with
 | [x,y],_,hts=>
   obtain⟨t,v,rfl,q0,q1,hb⟩:=hts.l2
   simp only [Ex.sizes]at hz ⊢
   have c0:sy.cell (sy.row (srows [t,v]) 0) 0=some (.str t):=rfl
   have i0:decide ((0:Int)≤0∧(0:Int) < ((srows [t,v]).length:Int))=true:=rfl
   have c1:sy.cell (sy.row (srows [t,v]) 1) 0=some (.str v):=rfl
   have i1:decide ((0:Int)≤1∧(1:Int) < ((srows [t,v]).length:Int))=true:=rfl
   have h:=c_round [t,bs [32,102,98,121,32],v] (by simp only [List.length_cons,List.length_nil];omega) (by(simp only [tot_cons,tot_nil,bs_sz,List.length_cons,List.length_nil];omega))
   have h:cF 105 [V.d (D.sl 1 [[D.str (t)],[D.str (bs [32,102,98,121,32])],[D.str (v)]])]=some (.val [.str (roundB [t,bs [32,102,98,121,32],v])]):=h
   refine⟨roundB [t,bs [32,102,98,121,32],v],?_,?_,?_⟩
   ·refine cOf (by kernel_rfl) rfl ?_
    rw[g107_eq]
    simp only [g107,go1,Int.reduceEq,c0,i0,c1,i1,h]
   ·rw[tb_round]
    show _=render ([mk 40]++pcs x++[none,wd kFby,none]++pcs y++[mk 41])
    simp only [List.map_cons,List.map_nil,List.flatten_cons,List.flatten_nil,List.append_nil,render_app,List.append_assoc,q0,q1]
    rfl
   ·rw[round_sz]
    simp only [tot_cons,tot_nil,bs_sz,List.length_cons,List.length_nil]
    omega
theorem c_sfl9 (n:Int)(s:ByteArray)(o:Int)(a:List ByteArray)(u:List Ex)(ts:List ByteArray)(hz:Ex.sizes u≤1000)(hts:TS' u ts)(hlu:u.length=2): ∃r,cF 107 [kE 9 n s o (srows a) (Ex.rows u), .d (.sl 1 (srows ts))]=some (.val [.str r])∧tb r=render (pcK 9 n s o a (pcsL u))∧r.size≤1000000*(Ex.sizes u+1):=by
 match u,hlu,hts with
 | [x,y],_,hts=>
   obtain⟨t,v,rfl,q0,q1,hb⟩:=hts.l2
   simp only [Ex.sizes]at hz ⊢
   have c0:sy.cell (sy.row (srows [t,v]) 0) 0=some (.str t):=rfl
   have i0:decide ((0:Int)≤0∧(0:Int) < ((srows [t,v]).length:Int))=true:=rfl
   have c1:sy.cell (sy.row (srows [t,v]) 1) 0=some (.str v):=rfl
   have i1:decide ((0:Int)≤1∧(1:Int) < ((srows [t,v]).length:Int))=true:=rfl
   have h:=c_round [t,bs [32,45,62,32],v] (by simp only [List.length_cons,List.length_nil];omega) (by(simp only [tot_cons,tot_nil,bs_sz,List.length_cons,List.length_nil];omega))
   have h:cF 105 [V.d (D.sl 1 [[D.str (t)],[D.str (bs [32,45,62,32])],[D.str (v)]])]=some (.val [.str (roundB [t,bs [32,45,62,32],v])]):=h
   refine⟨roundB [t,bs [32,45,62,32],v],?_,?_,?_⟩
   ·refine cOf (by kernel_rfl) rfl ?_
    rw[g107_eq]
    simp only [g107,go1,Int.reduceEq,c0,i0,c1,i1,h]
   ·rw[tb_round]
    show _=render ([mk 40]++pcs x++[none,m2 45 62,none]++pcs y++[mk 41])
    simp only [List.map_cons,List.map_nil,List.flatten_cons,List.flatten_nil,List.append_nil,render_app,List.append_assoc,q0,q1]
    rfl
   ·rw[round_sz]
    simp only [tot_cons,tot_nil,bs_sz,List.length_cons,List.length_nil]
    omega
theorem c_sfl10 (n:Int)(s:ByteArray)(o:Int)(a:List ByteArray)(u:List Ex)(ts:List ByteArray)(hz:Ex.sizes u≤1000)(hts:TS' u ts)(hlu:u.length=1): ∃r,cF 107 [kE 10 n s o (srows a) (Ex.rows u), .d (.sl 1 (srows ts))]=some (.val [.str r])∧tb r=render (pcK 10 n s o a (pcsL u))∧r.size≤1000000*(Ex.sizes u+1):=by
 match u,hlu,hts with
 | [x],_,hts=>
   obtain⟨t,rfl,q0,hb⟩:=hts.l1
   simp only [Ex.sizes]at hz ⊢
   have c0:sy.cell (sy.row (srows [t]) 0) 0=some (.str t):=rfl
   have i0:decide ((0:Int)≤0∧(0:Int) < ((srows [t]).length:Int))=true:=rfl
   have h:=c_round [bs [112,114,101,32],t] (by simp only [List.length_cons,List.length_nil];omega) (by(simp only [tot_cons,tot_nil,bs_sz,List.length_cons,List.length_nil];omega))
   have h:cF 105 [V.d (D.sl 1 [[D.str (bs [112,114,101,32])],[D.str (t)]])]=some (.val [.str (roundB [bs [112,114,101,32],t])]):=h
   refine⟨roundB [bs [112,114,101,32],t],?_,?_,?_⟩
   ·refine cOf (by kernel_rfl) rfl ?_
    rw[g107_eq]
    simp only [g107,go1,Int.reduceEq,c0,i0,h]
   ·rw[tb_round]
    show _=render ([mk 40,wd kPre,none]++pcs x++[mk 41])
    simp only [List.map_cons,List.map_nil,List.flatten_cons,List.flatten_nil,List.append_nil,render_app,List.append_assoc,q0]
    rfl
   ·rw[round_sz]
    simp only [tot_cons,tot_nil,bs_sz,List.length_cons,List.length_nil]
    omega
theorem c_sfl11 (n:Int)(s:ByteArray)(o:Int)(a:List ByteArray)(u:List Ex)(ts:List ByteArray)(hz:Ex.sizes u≤1000)(hts:TS' u ts)(hlu:u.length=1)(hla:a.length=1)(fs:s.size≤100000)(fa: ∀x∈a,x.size≤100000): ∃r,cF 107 [kE 11 n s o (srows a) (Ex.rows u), .d (.sl 1 (srows ts))]=some (.val [.str r])∧tb r=render (pcK 11 n s o a (pcsL u))∧r.size≤1000000*(Ex.sizes u+1):=by
 match u,hlu,hts with
 | [x],_,hts=>
   obtain⟨t,rfl,q0,hb⟩:=hts.l1
   simp only [Ex.sizes]at hz ⊢
   obtain⟨ar,rfl⟩: ∃ar,a= [ar]:=List.length_eq_one_iff.1 hla
   obtain⟨g,g1,qx,g3⟩:=c_sOn s ar fs (fa ar (by simp))
   have ca:sy.cell (sy.row (srows [ar]) 0) 0=some (.str ar):=rfl
   have ia:decide ((0:Int)≤0∧(0:Int) < ((srows [ar]).length:Int))=true:=rfl
   have c0:sy.cell (sy.row (srows [t]) 0) 0=some (.str t):=rfl
   have i0:decide ((0:Int)≤0∧(0:Int) < ((srows [t]).length:Int))=true:=rfl
   have h:=c_round [t,bs [32,119,104,101,110,32],g] (by simp only [List.length_cons,List.length_nil];omega) (by(simp only [tot_cons,tot_nil,bs_sz,List.length_cons,List.length_nil];omega))
   have h:cF 105 [V.d (D.sl 1 [[D.str (t)],[D.str (bs [32,119,104,101,110,32])],[D.str (g)]])]=some (.val [.str (roundB [t,bs [32,119,104,101,110,32],g])]):=h
   refine⟨roundB [t,bs [32,119,104,101,110,32],g],?_,?_,?_⟩
   ·refine cOf (by kernel_rfl) rfl ?_
    rw[g107_eq]
    simp only [g107,go1,Int.reduceEq,c0,i0,ca,ia,g1,h]
   ·rw[tb_round]
    show _=render ([mk 40]++pcs x++[none,wd kWhen,none]++onP s ar++[mk 41])
    simp only [List.map_cons,List.map_nil,List.flatten_cons,List.flatten_nil,List.append_nil,render_app,List.append_assoc,q0,qx]
    rfl
   ·rw[round_sz]
    simp only [tot_cons,tot_nil,bs_sz,List.length_cons,List.length_nil]
    omega
theorem c_smerge (n:Int)(s:ByteArray)(o:Int)(a:List ByteArray)(u:List Ex)(ts:List ByteArray)(hz:Ex.sizes u≤1000)(hts:TS' u ts)(hla:a.length=u.length)(hu6:u.length≤6)(fs:s.size≤100000)(fa: ∀x∈a,x.size≤100000): ∃r,cF 149 [kE 12 n s o (srows a) (Ex.rows u), .d (.sl 1 (srows ts))]=some (.val [.str r])∧tb r=render (pcK 12 n s o a (pcsL u))∧r.size≤1000000*(Ex.sizes u+1):=by
 have tl:ts.length=u.length:=by simpa using congrArg List.length hts.m
 have core: ∃p,g149 sy eF 12 n s o (srows a) (Ex.rows u) (srows ts)=some p∧ ∃r,p= .val [.str r]∧tb r=render (pcK 12 n s o a (pcsL u))∧r.size≤1000000*(Ex.sizes u+1):=by
  unfold g149
  rw[sy_rlen,srows_len]
  refine loopF_ex (fun x:Nat × List ByteArray=>[.sl 1 (srows ts), .int .i64 (ts.length:Int), .int .i64 (x.1:Int), .int .i64 12, .int .i64 n, .str s, .int .i64 o, .sl 1 (srows a), .sl 6 (Ex.rows u), .sl 1 (srows x.2)]) (fun x=>x.1≤u.length∧x.2.length=2+2*x.1∧(x.2.map tb).flatten= [109,101,114,103,101,32]++tb s++render (mergeP (a.take x.1) (pcsL (u.take x.1)))∧tot x.2≤100006+tot (ts.take x.1)+100007*x.1) (fun x=>u.length - x.1) (fun x hx=> ?_) (0,[bs [109,101,114,103,101,32],s]) ⟨Nat.zero_le _,rfl,?_,?_⟩
  ·obtain⟨i,L⟩:=x
   obtain⟨g1,g0,g2,g3⟩:=hx
   simp only at g1 g0 g2 g3 ⊢
   by_cases hlt:i < u.length
   ·left
    have hla':i < a.length:=by omega
    have hlt':i < ts.length:=by omega
    have ha:=List.getElem?_eq_getElem hla'
    have ht:=List.getElem?_eq_getElem hlt'
    have hx:=List.getElem?_eq_getElem hlt
    have htx:tb ts[i]=render (pcs u[i]):=by
     have:=congrArg (fun l=>l[i]?) hts.m
     simp only [List.getElem?_map,ht,hx,Option.map_some,Option.some.injEq]at this
     exact this
    have az:a[i].size≤100000:=fa _ (List.getElem_mem hla')
    have tk1:ts.take (i+1)=ts.take i++[ts[i]]:=by rw[List.take_add_one,ht];rfl
    have tk2:a.take (i+1)=a.take i++[a[i]]:=by rw[List.take_add_one,ha];rfl
    have tk3:u.take (i+1)=u.take i++[u[i]]:=by rw[List.take_add_one,hx];rfl
    have tz:tot (ts.take i)+ts[i].size≤tot ts:=by
     have e:tot ts=tot (ts.take (i+1))+tot (ts.drop (i+1)):=by
      unfold tot
      rw[←List.sum_append,←List.map_append,List.take_append_drop]
     rw[e,tk1,tot_snoc];omega
    have tz2:=hts.z
    generalize a[i]=aa at ha az tk2
    generalize ts[i]=tt at ht htx tk1 tz
    generalize u[i]=e at hx htx tk3
    have ca:=srows_at ha
    have ct:=srows_at ht
    have w1:IntKind.i64.wrap ((i:Int)+1)=((i+1:Nat):Int):=by rw[wrap_id (by omega) (by omega)];omega
    have l1:decide ((i:Int) < (ts.length:Int))=true:=ilt_at hlt'
    have i1:decide ((0:Int)≤(i:Int)∧(i:Int) < (ts.length:Int))=true:=inr_at hlt'
    have i2:decide ((0:Int)≤(i:Int)∧(i:Int) < (a.length:Int))=true:=inr_at hla'
    have h:=c_round [aa,bs [32,45,62,32],tt] (by simp only [List.length_cons,List.length_nil];omega) (by simp only [tot_cons,tot_nil,bs_sz,List.length_cons,List.length_nil];omega)
    have h:cF 105 [V.d (D.sl 1 [[D.str aa],[D.str (bs [32,45,62,32])],[D.str tt]])]=some (.val [.str (roundB [aa,bs [32,45,62,32],tt])]):=h
    have fit:decide (((srows L).length+[[D.str (bs [32])],[D.str (roundB [aa,bs [32,45,62,32],tt])]].length)*(16+1)≤140737488355328)=true:=decide_eq_true (by rw[srows_len];simp only [List.length_cons,List.length_nil];omega)
    have e1:srows L++[[D.str (bs [32])],[D.str (roundB [aa,bs [32,45,62,32],tt])]]=srows (L++[bs [32],roundB [aa,bs [32,45,62,32],tt]]):=by rw[←srows_app];rfl
    refine⟨(i+1,L++[bs [32],roundB [aa,bs [32,45,62,32],tt]]),?_,⟨hlt,?_,?_,?_⟩,by simp only;omega⟩
    ·simp only [go1,oE,srows_len,l1,i1,i2,ca,ct,w1,h,e1]
     rw[srows_len]at fit
     simp only [go1,fit]
    ·simp only [List.length_append,List.length_cons,List.length_nil,g0];omega
    ·simp only
     rw[tk2,tk3,pcsL_snoc,merge_snoc _ _ _ _ (by rw[pcsL_len,List.length_take,List.length_take];omega)]
     simp only [List.map_append,List.flatten_append,g2,List.map_cons,List.map_nil,List.flatten_cons,List.flatten_nil,tb_round,htx,List.append_assoc,List.append_nil]
     rfl
    ·simp only
     rw[tk1,tot_snoc]
     unfold tot at g3 ⊢
     simp only [List.map_append,List.sum_append,List.map_cons,List.map_nil,List.sum_cons,List.sum_nil,round_sz,tot_cons,tot_nil,bs_sz,List.length_cons,List.length_nil]
     omega
   ·right
    have:i=u.length:=by omega
    subst this
    have l1:decide (((u.length:Nat):Int) < (ts.length:Int))=false:=by rw[tl];exact ilt_self _
    have ttz:=hts.z
    rw[←tl,List.take_length]at g3
    rw[←hla,List.take_length,hla,List.take_length]at g2
    have h:=c_round L (by omega) (by omega)
    refine⟨_,?_,roundB L,rfl,?_,?_⟩
    ·simp only [go1,oE,l1,h]
    ·show _=render ([mk 40,wd kMerge,none,wd (tb s)]++mergeP a (pcsL u)++[mk 41])
     rw[tb_round,g2]
     simp only [render_app,List.append_assoc]
     have:render [mk 40,wd kMerge,none,wd (tb s)]= [40,109,101,114,103,101,32]++(tb s++[]):=rfl
     rw[this]
     simp only [List.append_assoc,List.append_nil]
     rfl
    ·rw[round_sz];omega
  ·show[109,101,114,103,101,32]++(tb s++[])=_++_++render (mergeP (a.take 0) (pcsL (u.take 0)))
   have:mergeP (a.take 0) (pcsL (u.take 0))= []:=by unfold mergeP;rfl
   rw[this]
   simp only [render,List.append_nil]
  ·simp only [tot_cons,tot_nil,bs_sz,List.length_cons,List.length_nil];omega
 obtain⟨p,h1,r,rfl,h2⟩:=core
 exact⟨r,cOf (by kernel_rfl) rfl ((g149_eq _ _ _ _ _ _ _ _ _).trans h1),h2⟩
theorem c_sfl12 (n:Int)(s:ByteArray)(o:Int)(a:List ByteArray)(u:List Ex)(ts:List ByteArray)(hz:Ex.sizes u≤1000)(hts:TS' u ts)(hla:a.length=u.length)(hu6:u.length≤6)(fs:s.size≤100000)(fa: ∀x∈a,x.size≤100000): ∃r,cF 107 [kE 12 n s o (srows a) (Ex.rows u), .d (.sl 1 (srows ts))]=some (.val [.str r])∧tb r=render (pcK 12 n s o a (pcsL u))∧r.size≤1000000*(Ex.sizes u+1):=by
 obtain⟨r,h,h2⟩:=c_smerge n s o a u ts hz hts hla hu6 fs fa
 refine⟨r,?_,h2⟩
 refine cOf (by kernel_rfl) rfl ?_
 rw[g107_eq]
 simp only [g107,go1,Int.reduceEq,h]
theorem sz_joinC (ts:List ByteArray):(joinB ts (bs [44,32])).size≤tot ts+2*ts.length:=by
 rw[←tb_len]
 unfold joinB
 rw[tb_mk,List.length_map]
 match ts with
 | []=>exact Nat.le_refl _
 |t::r=>
  rw[List.map_cons,Lib.join_cons,List.length_append]
  have key: ∀r:List ByteArray,(Lib.joinTail (bs [44,32]).data.toList (r.map (·.data.toList))).length=tot r+2*r.length:=by
   intro r
   induction r with
   |nil=>rfl
   |cons x r ih=>
    have e:Lib.joinTail (bs [44,32]).data.toList ((x::r).map (·.data.toList))= [44,32]++x.data.toList++Lib.joinTail (bs [44,32]).data.toList (r.map (·.data.toList)):=by
     unfold Lib.joinTail
     simp
     rfl
    have hx:x.data.toList.length=x.size:=by rw[←tb_len];simp [tb]
    rw[e,List.length_append,List.length_append,ih,tot_cons,hx]
    simp only [List.length_cons,List.length_nil];omega
  have ht:t.data.toList.length=t.size:=by rw[←tb_len];simp [tb]
  rw[key,tot_cons,ht]
  simp only [List.length_cons];omega
theorem srows_cut (l:List ByteArray)(i:Nat):sy.cut (srows l) 0 (i:Int)=srows (l.take i):=by
 show((srows l).take (i:Int).toNat).drop (0:Int).toNat=_
 rw[Int.toNat_natCast]
 show(srows l).take i=_
 unfold srows
 rw[List.map_take]
theorem TS'.take {u:List Ex}{ts:List ByteArray}(h:TS' u ts){v:List Ex}{x:Ex}(e:u=v++[x]): ∃ts' t,ts=ts'++[t]∧ts'.map tb=v.map (fun x=>render (pcs x))∧tb t=render (pcs x)∧tot ts'+t.size≤1000000*Ex.sizes u∧ts'.length=v.length:=by
 subst e
 have hm:=h.m
 have hl:ts.length=v.length+1:=by simpa using congrArg List.length hm
 have hne:ts≠[]:=by rintro rfl;simp at hl
 obtain⟨ts',t,rfl⟩: ∃ts' t,ts=ts'++[t]:=⟨_,_,(List.dropLast_concat_getLast hne).symm⟩
 have hz:=h.z
 rw[tot_snoc]at hz
 simp only [List.map_append,List.map_cons,List.map_nil]at hm
 have h2:=List.append_inj' hm rfl
 exact⟨ts',t,rfl,h2.1,by simpa using h2.2,hz,by simpa using hl⟩
theorem c_scall (n:Int)(s:ByteArray)(o:Int)(a:List ByteArray)(u:List Ex)(ts:List ByteArray)(hz:Ex.sizes u≤1000)(hts:TS' u ts)(fs:s.size≤100000)(hn:n=0∨n=1∧u≠[]): ∃r,cF 150 [kE 13 n s o (srows a) (Ex.rows u), .d (.sl 1 (srows ts))]=some (.val [.str r])∧tb r=render (callP n s (pcsL u))∧r.size≤1000000*(Ex.sizes u+1):=by
 have hl:=sizes_len u
 have tl:ts.length=u.length:=by simpa using congrArg List.length hts.m
 have hzz:=hts.z
 rcases hn with rfl|⟨rfl,hne⟩
 ·have hj:=sz_joinC ts
  have h1:=c_join ts (bs [44,32]) (by omega) (by omega)
  have h2:=c_round [joinB ts (bs [44,32])] (by simp) (by simp only [tot_cons,tot_nil];omega)
  have h2:cF 105 [V.d (D.sl 1 [[D.str (joinB ts (bs [44,32]))]])]=some (.val [.str (roundB [joinB ts (bs [44,32])])]):=h2
  have hr:(roundB [joinB ts (bs [44,32])]).size≤tot ts+2*ts.length+2:=by rw[round_sz];simp only [tot_cons,tot_nil];omega
  have f:sy.sfit s (roundB [joinB ts (bs [44,32])])=true:=sfT (by omega)
  have w0:IntKind.i64.wrap ((ts.length:Int) - 0)=((ts.length:Nat):Int):=by rw[wrap_id (by omega) (by omega)];omega
  have c0:decide ((0:Int)≤0∧(0:Int)≤(ts.length:Int)∧(ts.length:Int)≤(ts.length:Int))=true:=decide_eq_true ⟨Int.le_refl _,by omega,Int.le_refl _⟩
  have c1:=srows_cut ts ts.length
  rw[List.take_length]at c1
  have c1:((srows ts).take (ts.length:Int).toNat).drop (0:Int).toNat=srows ts:=c1
  refine⟨s++roundB [joinB ts (bs [44,32])],?_,?_,?_⟩
  ·refine cOf (by kernel_rfl) rfl ?_
   rw[g150_eq]
   simp only [g150,go1,srows_len,w0,c0,c1,h1,h2,f]
  ·have e:callP 0 s (pcsL u)= [wd (tb s),mk 40]++listP (pcsL u)++[mk 41]:=rfl
   rw[e,tb_app,tb_round]
   simp only [List.map_cons,List.map_nil,List.flatten_cons,List.flatten_nil,List.append_nil,render_app,tb_joinC hts.m]
   show tb s++40::(render (listP (pcsL u))++[41])=(tb s++[40])++render (listP (pcsL u))++[41]
   simp
  ·rw[ByteArray.size_append];omega
 ·obtain⟨v,x,rfl⟩: ∃v x,u=v++[x]:=⟨_,_,(List.dropLast_concat_getLast hne).symm⟩
  obtain⟨ts,t,rfl,m1,m2,m3,m4⟩:=hts.take rfl
  have hsz:=sizes_snoc x v
  have hlv:=sizes_len v
  have hx1:=(show 1≤x.size by cases x;simp [Ex.size])
  have hj:=sz_joinC ts
  have h1:=c_join ts (bs [44,32]) (by omega) (by omega)
  have h2:=c_round [joinB ts (bs [44,32])] (by simp) (by simp only [tot_cons,tot_nil];omega)
  have h2:cF 105 [V.d (D.sl 1 [[D.str (joinB ts (bs [44,32]))]])]=some (.val [.str (roundB [joinB ts (bs [44,32])])]):=h2
  have hr:(roundB [joinB ts (bs [44,32])]).size≤tot ts+2*ts.length+2:=by rw[round_sz];simp only [tot_cons,tot_nil];omega
  have f:sy.sfit s (roundB [joinB ts (bs [44,32])])=true:=sfT (by omega)
  have hL:(ts++[t]).length=ts.length+1:=by simp
  have w0:IntKind.i64.wrap (((ts.length+1:Nat):Int) - 1)=((ts.length:Nat):Int):=by rw[wrap_id (by omega) (by omega)];omega
  have c0:decide ((0:Int)≤0∧(0:Int)≤(ts.length:Int)∧(ts.length:Int)≤((ts.length+1:Nat):Int))=true:=decide_eq_true ⟨Int.le_refl _,by omega,by omega⟩
  have c1:=srows_cut (ts++[t]) ts.length
  rw[List.take_left]at c1
  have c1:((srows (ts++[t])).take (ts.length:Int).toNat).drop (0:Int).toNat=srows ts:=c1
  have i0:decide ((0:Int)≤(ts.length:Int)∧(ts.length:Int) < ((ts.length+1:Nat):Int))=true:=decide_eq_true ⟨by omega,by omega⟩
  have ct:=srows_at (show(ts++[t])[ts.length]? =some t by simp)
  have h3:=c_round [s++roundB [joinB ts (bs [44,32])],bs [32,101,118,101,114,121,32],t] (by simp) (by simp only [tot_cons,tot_nil,bs_sz,ByteArray.size_append,List.length_cons,List.length_nil];omega)
  have h3:cF 105 [V.d (D.sl 1 [[D.str (s++roundB [joinB ts (bs [44,32])])],[D.str (bs [32,101,118,101,114,121,32])],[D.str t]])]=some (.val [.str (roundB [s++roundB [joinB ts (bs [44,32])],bs [32,101,118,101,114,121,32],t])]):=h3
  refine⟨roundB [s++roundB [joinB ts (bs [44,32])],bs [32,101,118,101,114,121,32],t],?_,?_,?_⟩
  ·refine cOf (by kernel_rfl) rfl ?_
   rw[g150_eq]
   simp only [g150,go1,srows_len,hL,w0,c0,c1,h1,h2,f,i0,ct,h3,show decide ((1:Int)=0)=false from rfl]
  ·have e:callP 1 s (pcsL (v++[x]))= [mk 40,wd (tb s),mk 40]++listP (pcsL v)++[mk 41,none,wd kEvery,none]++pcs x++[mk 41]:=by
    rw[pcsL_snoc]
    show[mk 40,wd (tb s),mk 40]++listP ((pcsL v++[pcs x]).take ((pcsL v++[pcs x]).length - 1))++[mk 41,none,wd kEvery,none]++(pcsL v++[pcs x]).getD ((pcsL v++[pcs x]).length - 1) []++[mk 41]=_
    have t1:(pcsL v++[pcs x]).length - 1=(pcsL v).length:=by simp
    rw[t1,List.take_left,List.getD_eq_getElem?_getD,List.getElem?_concat_length]
    rfl
   rw[e,tb_round]
   simp only [List.map_cons,List.map_nil,List.flatten_cons,List.flatten_nil,List.append_nil,tb_app,tb_round,tb_joinC m1,m2,render_app]
   have r1:render [mk 40,wd (tb s),mk 40]= [40]++(tb s++[40]):=rfl
   have r2:render [mk 41,none,wd kEvery,none]= [41]++[32,101,118,101,114,121,32]:=rfl
   have r3:render [mk 41]= [41]:=rfl
   have q3:tb (bs [32,101,118,101,114,121,32])= [32,101,118,101,114,121,32]:=rfl
   rw[r1,r2,r3,q3]
   simp
  ·rw[round_sz]
   simp only [tot_cons,tot_nil,bs_sz,ByteArray.size_append,List.length_cons,List.length_nil]
   omega
theorem c_sfl13 (n:Int)(s:ByteArray)(o:Int)(a:List ByteArray)(u:List Ex)(ts:List ByteArray)(hz:Ex.sizes u≤1000)(hts:TS' u ts)(fs:s.size≤100000)(hn:n=0∨n=1∧u≠[]): ∃r,cF 107 [kE 13 n s o (srows a) (Ex.rows u), .d (.sl 1 (srows ts))]=some (.val [.str r])∧tb r=render (pcK 13 n s o a (pcsL u))∧r.size≤1000000*(Ex.sizes u+1):=by
 obtain⟨r,h,h2⟩:=c_scall n s o a u ts hz hts fs hn
 refine⟨r,?_,h2⟩
 refine cOf (by kernel_rfl) rfl ?_
 rw[g107_eq]
 simp only [g107,go1,Int.reduceEq,h]
end Go.Vm
end
