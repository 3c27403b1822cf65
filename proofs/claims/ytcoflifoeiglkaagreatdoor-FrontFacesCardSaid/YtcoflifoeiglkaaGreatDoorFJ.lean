/- Part FJ of the proof. What is proved by the whole: the statement that the claim names, with no condition. -/
import Derived.Test.YtcoflifoeiglkaaGreatDoorFI
set_option linter.all false
section
set_option maxRecDepth 100000
set_option maxHeartbeats 4000000
namespace Go.Vm
open Go.Proofs
noncomputable abbrev kW1 (k n:Int) (s:ByteArray) (o:Int) (a u:List (List D)) (m:Int):List V:=[.d (.int .i64 0), .d (.int .i64 2),kE k n s o a u, .yld 0 (rec0 195), .agg [.any, .any, .any, .ptr 1 0, .any, .any, .any, .any, .any, .any], .fn 3 [.d (.int .i64 m)]]
theorem decW1 (k n:Int)(s:ByteArray)(o:Int)(a u:List (List D))(m:Int):decB (kW1 k n s o a u m)=some (0,[kE k n s o a u, .yld 0 (rec0 195)],[.cells (.rcd .ready) [.any, .any, .any, .ptr 1 0, .any, .any, .any, .any, .any, .any], .cells (.ty 3) [.d (.int .i64 m)]]):=rfl
noncomputable abbrev kW2 (k n:Int) (s:ByteArray) (o:Int) (a u:List (List D)) (b:Bool):List V:=[.d (.int .i64 0), .d (.int .i64 2),kE k n s o a u, .yld 0 (rec0 160), .agg [.any, .any, .ptr 1 0, .any, .any, .any, .any, .any, .any, .any, .any, .any, .any, .any, .any, .any, .any, .any], .fn 4 [.d (.bool b)]]
theorem decW2 (k n:Int)(s:ByteArray)(o:Int)(a u:List (List D))(b:Bool):decB (kW2 k n s o a u b)=some (0,[kE k n s o a u, .yld 0 (rec0 160)],[.cells (.rcd .ready) [.any, .any, .ptr 1 0, .any, .any, .any, .any, .any, .any, .any, .any, .any, .any, .any, .any, .any, .any, .any], .cells (.ty 4) [.d (.bool b)]]):=rfl
theorem c_walk1: ∀(m:Nat) (k n:Int) (s:ByteArray) (o:Int) (a:List ByteArray) (u:List Ex) (c:Nat),(Ex.mk k n s o a u).size≤m→m≤1000000→c+m≤2000000→
  cF 1000233 (kW1 k n s o (srows a) (Ex.rows u) (c:Int))=some (.val [.bool false, .bool true, .int .i64 ((c+(Ex.mk k n s o a u).size:Nat):Int)])
 |0,k,n,s,o,a,u,c,h,_,_=>by simp only [Ex.size]at h;omega
 |m+1,k,n,s,o,a,u,c,h,hm,hc=>by
  have hz:Ex.sizes u≤m:=by simp only [Ex.size]at h;omega
  have hl:=sizes_len u
  refine cOfB (f:=233) (by kernel_rfl) (decW1 k n s o (srows a) (Ex.rows u) (c:Int)) (by kernel_rfl) rfl ?_
  rw[b233_195_eq]
  simp only [b233_195,go1,Nat.reduceAdd,Int.reduceEq,Int.reduceLT,Int.reduceLE,Int.reduceSub,Int.reduceAdd,rows_len,Bool.not_true,wrap_succ (i:=c) (n:=c+1) (by omega) (by omega)]
  refine loopF_at (fun i:Nat=>[.sl 6 (Ex.rows u), .int .i64 (u.length:Int), .int .i64 (i:Int), .int .i64 ((c+1+Ex.sizes (u.take i):Nat):Int)]) (fun i=>i≤u.length∧Ex.sizes (u.take i)≤m) (fun i=>u.length - i) (fun i hi=> ?_) 0 ⟨Nat.zero_le _,Nat.zero_le _⟩
  by_cases hlt:i < u.length
  ·left
   have hx:=List.getElem?_eq_getElem hlt
   have hd:Ex.sizes (u.take (i+1))=Ex.sizes (u.take i)+u[i].size:=by rw[List.take_add_one,hx];exact sizes_snoc _ _
   have hle:Ex.sizes (u.take (i+1))≤m:=by
    have:=sizes_app (u.take (i+1)) (u.drop (i+1));rw[List.take_append_drop]at this;omega
   refine⟨i+1,?_,⟨hlt,hle⟩,by omega⟩
   rw[hd]at hle ⊢
   generalize u[i]=e at hx hle ⊢
   have he:=sizes_mem hx
   obtain⟨k2,n2,s2,o2,a2,u2⟩:=e
   have h2:=c_walk1 (Ex.mk k2 n2 s2 o2 a2 u2).size k2 n2 s2 o2 a2 u2 (c+1+Ex.sizes (u.take i)) (Nat.le_refl _) (by omega) (by omega)
   simp only [go1,Nat.reduceAdd,Int.reduceEq,Int.reduceLT,Int.reduceLE,Int.reduceSub,Int.reduceAdd,rows_len,ilt_at hlt,inr_at hlt,row_of hx,oE,h2,wrap_succ hlt (by omega),Bool.not_true]
   rw[Nat.add_assoc (c+1)]
   rfl
  ·right
   have:i=u.length:=by omega
   subst this
   simp only [go1,Nat.reduceAdd,Int.reduceEq,Int.reduceLT,Int.reduceLE,Int.reduceSub,Int.reduceAdd,rows_len,ilt_self,List.take_length,Ex.size]
   rw[show c+1+Ex.sizes u=c+(Ex.sizes u+1) by omega]
 termination_by m=>m
 decreasing_by omega
mutual
def Ex.fine:Ex→Prop
 | .mk _ _ s _ a u=>(s.size≤100000∧(∀x∈a,x.size≤100000)∧a.length≤1000000)∧Ex.fines u
def Ex.fines:List Ex→Prop
 | []=>True
 |e::l=>e.fine∧Ex.fines l
end
mutual
theorem okS_fine: ∀e:Ex,e.okS→e.size≤1000000→e.fine
 | .mk k n s o a u,h,h2=>by
   have hl:=sizes_len u
   have h3:Ex.sizes u+1≤1000000:=h2
   obtain⟨q1,⟨q2,q3⟩,q4⟩:=h
   exact⟨⟨q1,q2,by omega⟩,okSs_fine u q4 (by omega)⟩
theorem okSs_fine: ∀u:List Ex,Ex.okSs u→Ex.sizes u≤1000000→Ex.fines u
 | [],_,_=>trivial
 |e::l,h,h2=>by
  have h3:e.size+Ex.sizes l≤1000000:=h2
  exact⟨okS_fine e h.1 (by omega),okSs_fine l h.2 (by omega)⟩
end
theorem fine_mem {e:Ex}: ∀ {l:List Ex} {i:Nat},l[i]? =some e→Ex.fines l→e.fine
 |x::l,0,h,h2=>by simp at h;subst h;exact h2.1
 |x::l,i+1,h,h2=>fine_mem (l:=l) (i:=i) (by simpa using h) h2.2
def ansR (b:Bool):Bool→PRes
 |true=> .val [.bool false, .bool true, .bool b]
 |false=> .val [.bool true, .bool false, .bool false]
theorem c_walk2: ∀(m:Nat) (k n:Int) (s:ByteArray) (o:Int) (a:List ByteArray) (u:List Ex) (b:Bool),(Ex.mk k n s o a u).size≤m→m≤1000000→(Ex.mk k n s o a u).fine→
  cF 1000233 (kW2 k n s o (srows a) (Ex.rows u) b)=some (ansR b (allB (.mk k n s o a u)))
 |0,k,n,s,o,a,u,b,h,_,_=>by simp only [Ex.size]at h;omega
 |m+1,k,n,s,o,a,u,b,h,hm,hf=>by
  have hz:Ex.sizes u≤m:=by simp only [Ex.size]at h;omega
  have hl:=sizes_len u
  obtain⟨⟨f1,f2,f3⟩,f4⟩:=hf
  have h1:=c_epart k n s o a u f1 f3 (by omega)
  refine cOfB (f:=233) (by kernel_rfl) (decW2 k n s o (srows a) (Ex.rows u) b) (by kernel_rfl) rfl ?_
  rw[b233_160_eq]
  simp only [b233_160,go1,Nat.reduceAdd,Int.reduceEq,Int.reduceLT,Int.reduceLE,Int.reduceSub,Int.reduceAdd,h1,allB]
  cases partB (.mk k n s o a u)with
  |false=>rfl
  |true=>
   simp only [go1,Nat.reduceAdd,Int.reduceEq,Int.reduceLT,Int.reduceLE,Int.reduceSub,Int.reduceAdd,Bool.not_true,Bool.true_and,rows_len]
   refine loopF_at (fun i:Nat=>[.sl 6 (Ex.rows u), .int .i64 (u.length:Int), .int .i64 (i:Int), .bool b]) (fun i=>i≤u.length∧allBs u=allBs (u.drop i)) (fun i=>u.length - i) (fun i hi=> ?_) 0 ⟨Nat.zero_le _,rfl⟩
   by_cases hlt:i < u.length
   ·have hx:=List.getElem?_eq_getElem hlt
    have hd:=List.drop_eq_getElem_cons hlt
    have hi2:=hi.2
    rw[hd]at hi2
    generalize u[i]=e at hx hi2
    have he:=sizes_mem hx
    have hfe:=fine_mem hx f4
    obtain⟨k2,n2,s2,o2,a2,u2⟩:=e
    have h2:=c_walk2 (Ex.mk k2 n2 s2 o2 a2 u2).size k2 n2 s2 o2 a2 u2 b (Nat.le_refl _) (by omega) hfe
    rw[hi2]
    simp only [allBs]
    cases hb:allB (.mk k2 n2 s2 o2 a2 u2)with
    |false=>
     right
     rw[hb]at h2
     simp only [ansR]at h2
     simp only [go1,Nat.reduceAdd,Int.reduceEq,Int.reduceLT,Int.reduceLE,Int.reduceSub,Int.reduceAdd,rows_len,ilt_at hlt,inr_at hlt,row_of hx,oE,h2,Bool.not_false,Bool.false_and,ansR]
    |true=>
     left
     rw[hb]at h2
     simp only [ansR]at h2
     refine⟨i+1,?_,⟨hlt,by simp only [Bool.true_and]⟩,by omega⟩
     simp only [go1,Nat.reduceAdd,Int.reduceEq,Int.reduceLT,Int.reduceLE,Int.reduceSub,Int.reduceAdd,rows_len,ilt_at hlt,inr_at hlt,row_of hx,oE,h2,wrap_succ hlt (by omega),Bool.not_true]
     rfl
   ·right
    have:i=u.length:=by omega
    subst this
    rw[hi.2,List.drop_length]
    simp only [go1,Nat.reduceAdd,Int.reduceEq,Int.reduceLT,Int.reduceLE,Int.reduceSub,Int.reduceAdd,rows_len,ilt_self,allBs,ansR]
 termination_by m=>m
 decreasing_by omega
theorem c_eSize (k n:Int)(s:ByteArray)(o:Int)(a:List ByteArray)(u:List Ex)(h:(Ex.mk k n s o a u).size≤1000000):cF 195 [kE k n s o (srows a) (Ex.rows u)]=some (.val [.int .i64 ((Ex.mk k n s o a u).size:Int)]):=by
 have h1:=c_walk1 1000000 k n s o a u 0 h (Nat.le_refl _) (by omega)
 rw[Nat.zero_add]at h1
 have h1:cF 1000233 (kW1 k n s o (srows a) (Ex.rows u) 0)=_:=h1
 refine cOf (by kernel_rfl) rfl ?_
 rw[g195_eq]
 simp only [g195,go1,Nat.reduceAdd,Int.reduceEq,Int.reduceLT,Int.reduceLE,Int.reduceSub,Int.reduceAdd,h1]
def smallB (e:Ex):Bool:=decide (e.size≤60)&&decide (e.depth≤12)
theorem c_eRight (k n:Int)(s:ByteArray)(o:Int)(a:List ByteArray)(u:List Ex)(h:(Ex.mk k n s o a u).size≤1000000)(hf:(Ex.mk k n s o a u).fine):cF 160 [kE k n s o (srows a) (Ex.rows u)]=some (.val [.bool (smallB (.mk k n s o a u)&&allB (.mk k n s o a u))]):=by
 have h1:=c_eSize k n s o a u h
 have h2:=c_eDepth 1000000 k n s o a u h (Nat.le_refl _)
 have h3:=c_walk2 1000000 k n s o a u false h (Nat.le_refl _) hf
 have e1:decide ((60:Int) < ((Ex.mk k n s o a u).size:Int))= !decide ((Ex.mk k n s o a u).size≤60):=by rw[Bool.eq_iff_iff];simp;try omega
 have e2:decide ((12:Int) < ((Ex.mk k n s o a u).depth:Int))= !decide ((Ex.mk k n s o a u).depth≤12):=by rw[Bool.eq_iff_iff];simp;try omega
 refine cOf (by kernel_rfl) rfl ?_
 rw[g160_eq]
 simp only [g160,go1,Nat.reduceAdd,Int.reduceEq,Int.reduceLT,Int.reduceLE,Int.reduceSub,Int.reduceAdd,h1,h2,h3,e1,e2]
 unfold smallB
 cases decide ((Ex.mk k n s o a u).size≤60)<;>cases decide ((Ex.mk k n s o a u).depth≤12)<;>cases allB (.mk k n s o a u)<;>rfl
mutual
def Ex.parts:Ex→List Ex
 | .mk k n s o a u=> .mk k n s o a u::Ex.partsL u
def Ex.partsL:List Ex→List Ex
 | []=>[]
 |e::l=>e.parts++Ex.partsL l
end
mutual
theorem parts_len: ∀e:Ex,e.parts.length=e.size
 | .mk k n s o a u=>by simp only [Ex.parts,Ex.size,List.length_cons,partsL_len u]
theorem partsL_len: ∀u:List Ex,(Ex.partsL u).length=Ex.sizes u
 | []=>rfl
 |e::l=>by simp only [Ex.partsL,Ex.sizes,List.length_append,parts_len e,partsL_len l]
end
theorem partsL_app: ∀a b:List Ex,Ex.partsL (a++b)=Ex.partsL a++Ex.partsL b
 | [],b=>rfl
 |e::a,b=>by simp only [List.cons_append,Ex.partsL,partsL_app a b,List.append_assoc]
theorem rows_app: ∀a b:List Ex,Ex.rows (a++b)=Ex.rows a++Ex.rows b
 | [],b=>rfl
 |e::a,b=>by simp only [List.cons_append,Ex.rows,rows_app a b]
theorem c_reParts: ∀(m:Nat) (k n:Int) (s:ByteArray) (o:Int) (a:List ByteArray) (u:List Ex),(Ex.mk k n s o a u).size≤m→m≤1000000→
  cF 81 [kE k n s o (srows a) (Ex.rows u)]=some (.own 62 6 (Ex.rows (Ex.mk k n s o a u).parts))
 |0,k,n,s,o,a,u,h,_=>by simp only [Ex.size]at h;omega
 |m+1,k,n,s,o,a,u,h,hm=>by
  have hz:Ex.sizes u≤m:=by simp only [Ex.size]at h;omega
  have hl:=sizes_len u
  refine cOf (by kernel_rfl) rfl ?_
  rw[g81_eq]
  simp only [g81,go1,Nat.reduceAdd,Int.reduceEq,Int.reduceLT,Int.reduceLE,Int.reduceSub,Int.reduceAdd,rows_len]
  refine loopF_at (fun i:Nat=>[.int .i64 (i:Int), .int .i64 k, .int .i64 n, .str s, .int .i64 o, .sl 1 (srows a), .sl 6 (Ex.rows u), .sl 6 (Ex.rows (.mk k n s o a u::Ex.partsL (u.take i)))]) (fun i=>i≤u.length) (fun i=>u.length - i) (fun i hi=> ?_) 0 (Nat.zero_le _)
  by_cases hlt:i < u.length
  ·left
   refine⟨i+1,?_,hlt,by omega⟩
   have hx:=List.getElem?_eq_getElem hlt
   have hd:Ex.partsL (u.take (i+1))=Ex.partsL (u.take i)++u[i].parts:=by rw[List.take_add_one,hx,partsL_app];simp [Ex.partsL]
   have hsz:Ex.sizes (u.take i)≤Ex.sizes u:=by
    have:=sizes_app (u.take i) (u.drop i);rw[List.take_append_drop]at this;omega
   rw[hd]
   generalize u[i]=e at hx
   have he:=sizes_mem hx
   obtain⟨k2,n2,s2,o2,a2,u2⟩:=e
   have h2:=c_reParts (Ex.mk k2 n2 s2 o2 a2 u2).size k2 n2 s2 o2 a2 u2 (Nat.le_refl _) (by omega)
   have hf:decide (((Ex.rows (.mk k n s o a u::Ex.partsL (u.take i))).length+(Ex.rows (Ex.mk k2 n2 s2 o2 a2 u2).parts).length)*(88+1)≤140737488355328)=true:=by
    refine decide_eq_true ?_
    rw[rows_len,rows_len,List.length_cons,partsL_len,parts_len]
    omega
   simp only [go1,Nat.reduceAdd,Int.reduceEq,Int.reduceLT,Int.reduceLE,Int.reduceSub,Int.reduceAdd,rows_len,ilt_at hlt,inr_at hlt,row_of hx,oE,h2,wrap_succ hlt (by omega)]
   simp only [rows_len]at hf
   simp only [hf,go1,Nat.reduceAdd,Int.reduceEq,Int.reduceLT,Int.reduceLE,Int.reduceSub,Int.reduceAdd,rows_app,←List.cons_append]
   rfl
  ·right
   have:i=u.length:=by omega
   subst this
   simp only [go1,Nat.reduceAdd,Int.reduceEq,Int.reduceLT,Int.reduceLE,Int.reduceSub,Int.reduceAdd,oE,rows_len,ilt_self,List.take_length,Ex.parts]
 termination_by m=>m
 decreasing_by omega


theorem ext_sz (s:ByteArray)(a b:Nat):(s.extract a b).size≤s.size:=by
 rw[ByteArray.size_extract];omega
theorem nextT0_s (s:ByteArray):(nextT0 s).s.size≤s.size:=by
 have h0:(bs []).size≤s.size:=Nat.zero_le _
 unfold nextT0
 simp only
 split
 ·unfold wordT
  simp only
  split<;>exact ext_sz _ _ _
 ·exact ext_sz _ _ _
 ·unfold pathT
  split
  ·exact h0
  ·exact ext_sz _ _ _
 ·unfold markT
  split
  ·exact ext_sz _ _ _
  ·exact ext_sz _ _ _
  ·exact h0
theorem nextT0_5 (s:ByteArray)(h:(nextT0 s).k=5):(nextT0 s).s.size≤2:=by
 unfold nextT0 at h ⊢
 simp only at h ⊢
 split at h
 ·rename_i hc;unfold wordT at h;simp only at h;split at h<;>cases h
 ·cases h
 ·unfold pathT at h
  split at h<;>cases h
 ·rename_i h1 h2 h3
  unfold markT at h ⊢
  split
  ·show(s.extract 0 2).size≤2
   rw[ByteArray.size_extract];omega
  ·show(s.extract 0 1).size≤2
   rw[ByteArray.size_extract];omega
  ·rename_i h4 h5
   rw[h4,h5]at h
   cases h
theorem lexS_tok (s:ByteArray): ∀(m a:Nat),(tb s).length - a≤m→(∀t∈(lexS s a).1,t.s.size≤s.size∧(t.k=5→t.s.size≤2))∧(lexS s a).1.length≤(tb s).length - a
 |m,a,hm=>by
  rw[lexS]
  split
  ·rename_i hp
   split
   ·rename_i h
    have ih:=lexS_tok s (m - 1) (a+gapN ((tb s).drop a)+(nextT0 (s.extract (a+gapN ((tb s).drop a)) (tb s).length)).w) (by omega)
    refine⟨fun t ht=> ?_,?_⟩
    ·rcases List.mem_cons.1 ht with rfl|ht
     ·exact⟨Nat.le_trans (nextT0_s _) (ext_sz _ _ _),fun h5=>nextT0_5 _ h5⟩
     ·exact ih.1 t ht
    ·simp only [List.length_cons]
     omega
   ·exact⟨(by simp),Nat.zero_le _⟩
  ·exact⟨(by simp),Nat.zero_le _⟩
 termination_by m a=>(tb s).length - a
 decreasing_by omega
def toksS (s:ByteArray):List Tk:=(lexS s 0).1++[endT s]
theorem toks_mem {s:ByteArray}(hs:s.size≤100000){t:Tk}(h:t∈toksS s):t.s.size≤100000∧(t.k=5→t.s.size≤2):=by
 rcases List.mem_append.1 h with h|h
 ·have:=(lexS_tok s _ 0 (Nat.le_refl _)).1 t h
  exact⟨by omega,this.2⟩
 ·rw[List.mem_singleton.1 h]
  exact⟨bs0_size,fun h=>by cases h⟩
theorem tkA_prop {l:List Tk}{Q:Tk→Prop}(h0:Q ⟨6,bs [],0,0⟩)(h: ∀t∈l,Q t)(j:Nat):Q (tkA l j):=by
 unfold tkA
 rw[List.getD_eq_getElem?_getD]
 cases hx:l[j]? with
 |none=>exact h0
 |some t=>exact h t (List.mem_of_getElem? hx)
theorem TS_of {l:List Tk}(h: ∀t∈l,t.s.size≤100000):TS l:=fun j=>tkA_prop (Q:=fun t=>t.s.size≤100000) (by decide) h j
theorem LOK_toks (s:ByteArray)(hs:s.size≤100000):LOK (toksS s):=by
 have h:=(lexS_tok s _ 0 (Nat.le_refl _)).2
 have h2:(tb s).length≤100000:=by rw[tb_len];exact hs
 refine⟨by simp [toksS],?_,?_⟩
 ·simp [tkA,toksS,endT]
 ·simp only [toksS,List.length_append,List.length_cons,List.length_nil];omega
def okTok (l:List Tk)(i:Int):Bool:=decide (0≤i)&&(decide (i < (l.length:Int))&&decide ((tkA l (l.length - 1)).k=6))
theorem last_at {l:List Tk}(h:0 < l.length)(hl:l.length≤1000000):IntKind.i64.wrap ((l.length:Int) - 1)=((l.length - 1:Nat):Int):=by
 rw[wrap_id (by omega) (by omega)];omega
theorem c_ptokens (l:List Tk)(i:Int)(hl:l.length≤1000000):cF 230 [.d (.sl 4 (trows l)), .d (.int .i64 i)]=some (.val [.bool (okTok l i)]):=by
 refine cOf (by kernel_rfl) rfl ?_
 rw[g230_eq]
 simp only [g230,go1,Nat.reduceAdd,Int.reduceEq,Int.reduceLT,Int.reduceLE,Int.reduceSub,Int.reduceAdd,trows_len]
 unfold okTok
 cases h0:decide (0≤i)with
 |false=>rfl
 |true=>
  cases h1:decide (i < (l.length:Int))with
  |false=>rfl
  |true=>
   have h0:=of_decide_eq_true h0
   have h1:=of_decide_eq_true h1
   have hpos:0 < l.length:=by omega
   have hlt:l.length - 1 < l.length:=by omega
   have q1:=in_tk hlt
   have q2:=row_tk hlt
   rw[trows_len]at q1
   simp only [go1,Nat.reduceAdd,Int.reduceEq,Int.reduceLT,Int.reduceLE,Int.reduceSub,Int.reduceAdd,trows_len,last_at hpos hl,q1,q2,tkrow,Bool.true_and]
def encP:Ex × Int × Int→PRes
 |(.mk k n s o a u,p,r)=> .val [.int .i64 k, .int .i64 n, .str s, .int .i64 o, .sl 1 (srows a), .sl 6 (Ex.rows u), .int .i64 p, .int .i64 r]
def partS (l:List Tk)(i:Nat):Ex × Int × Int:=match readS l i with
 | .out=>(e0,(i:Int),1)
 | .bad j=>(e0,(j:Int),2)
 | .ok e j=>bif !smallB e then(e0,(i:Int),3)else bif !allB e then(e0,(i:Int),1)else(e,(j:Int),0)
theorem small_big (e:Ex):(decide ((12:Int) < (e.depth:Int)) || decide ((60:Int) < (e.size:Int)))= !smallB e:=by
 unfold smallB
 rw[nlt,nlt]
 have e1:decide ((e.depth:Int)≤12)=decide (e.depth≤12):=by rw[Bool.eq_iff_iff];simp;try omega
 have e2:decide ((e.size:Int)≤60)=decide (e.size≤60):=by rw[Bool.eq_iff_iff];simp;try omega
 rw[e1,e2]
 cases decide (e.depth≤12)<;>cases decide (e.size≤60)<;>rfl
theorem c_pread {l:List Tk}(hl:LOK l)(i:Nat)(hi:i < l.length):cF 231 [.d (.sl 4 (trows l)), .d (.int .i64 (i:Int))]=some (match readS l i with
  | .ok (.mk k n s o a u) j=> .val [.int .i64 k, .int .i64 n, .str s, .int .i64 o, .sl 1 (srows a), .sl 6 (Ex.rows u), .int .i64 (j:Int), .bool true]
  | .bad j=> .val [.int .i64 0, .int .i64 0, .str (bs []), .int .i64 0, .sl 1 [], .sl 6 [], .int .i64 (j:Int), .bool false]
  | .out=> .val []):=by
 have h:=c_parrow hl i hi
 have hne:=readS_ne hl i hi
 refine cOf (by kernel_rfl) rfl ?_
 rw[g231_eq]
 simp only [g231,go1,Nat.reduceAdd,Int.reduceEq,Int.reduceLT,Int.reduceLE,Int.reduceSub,Int.reduceAdd,h]
 cases hR:readS l i with
 |out=>exact(hne hR).elim
 |bad j=>rfl
 |ok e j=>obtain⟨k,n,s,o,a,u⟩:=e;rfl
theorem c_pPart {l:List Tk}(hl:LOK l)(ht:TS l)(i:Nat)(hi:i < l.length):cF 191 [.d (.sl 4 (trows l)), .d (.int .i64 (i:Int))]=some (encP (partS l i)):=by
 have hf:=hl.few
 have h1:=c_ptokens l (i:Int) hf
 have h0:okTok l (i:Int)=true:=by
  unfold okTok;rw[decT (by omega),decT (by omega),hl.last];rfl
 rw[h0]at h1
 have h2:=c_pread hl i hi
 have hne:=readS_ne hl i hi
 unfold partS
 refine cOf (by kernel_rfl) rfl ?_
 rw[g191_eq]
 simp only [g191,go1,Nat.reduceAdd,Int.reduceEq,Int.reduceLT,Int.reduceLE,Int.reduceSub,Int.reduceAdd,h1,h2,Bool.not_true]
 cases hR:readS l i with
 |out=>exact(hne hR).elim
 |bad j=>rfl
 |ok e j=>
  have hz:=readS_sz ht hR
  have hj:=((prs_HQ hl (fuel l)).pos .arrow i e j hi hR).2
  have hff:=okS_fine e hz.2 (by omega)
  have hsm:=small_big e
  obtain⟨k,n,s,o,a,u⟩:=e
  have k1:=c_eDepth 1000000 k n s o a u (by omega) (Nat.le_refl _)
  have k2:=c_eSize k n s o a u (by omega)
  have k3:=c_eRight k n s o a u (by omega) hff
  simp only [go1,Nat.reduceAdd,Int.reduceEq,Int.reduceLT,Int.reduceLE,Int.reduceSub,Int.reduceAdd,oE,k1,k2,k3,Bool.not_true]
  cases g1:decide ((12:Int) < ((Ex.mk k n s o a u).depth:Int))with
  |true=>
   rw[g1,Bool.true_or]at hsm
   simp only [go1,Nat.reduceAdd,Int.reduceEq,Int.reduceLT,Int.reduceLE,Int.reduceSub,Int.reduceAdd,←hsm]
   rfl
  |false=>
   cases g2:decide ((60:Int) < ((Ex.mk k n s o a u).size:Int))with
   |true=>
    rw[g1,g2,Bool.false_or]at hsm
    simp only [go1,Nat.reduceAdd,Int.reduceEq,Int.reduceLT,Int.reduceLE,Int.reduceSub,Int.reduceAdd,←hsm]
    rfl
   |false=>
    rw[g1,g2,Bool.false_or]at hsm
    have hsm2:smallB (.mk k n s o a u)=true:=by cases h:smallB (.mk k n s o a u)with
     |true=>rfl
     |false=>rw[h]at hsm;cases hsm
    simp only [go1,Nat.reduceAdd,Int.reduceEq,Int.reduceLT,Int.reduceLE,Int.reduceSub,Int.reduceAdd,←hsm,hsm2,Bool.true_and]
    cases allB (.mk k n s o a u)<;>(simp only [go1,Nat.reduceAdd,Int.reduceEq,Int.reduceLT,Int.reduceLE,Int.reduceSub,Int.reduceAdd,Bool.not_true,Bool.not_false];rfl)
def encW:ByteArray × ByteArray × Int × Bool→PRes
 |(a,b,p,ok)=> .val [.str a, .str b, .int .i64 p, .bool ok]
def whenP (l:List Tk)(i:Nat):ByteArray × ByteArray × Int × Bool:=match whenS l i with
 | .ok w j=>(w.1,w.2,(j:Int),true)
 | .bad j=>(bs [],bs [],(j:Int),false)
 | .out=>(bs [],bs [],0,false)
theorem c_pcond {l:List Tk}(hl:LOK l)(i:Nat)(hi:i < l.length):cF 264 [.d (.sl 4 (trows l)), .d (.int .i64 (i:Int))]=some (encW (whenP l i)):=by
 have h:=c_pwhen l hl i hi
 unfold whenP
 refine cOf (by kernel_rfl) rfl ?_
 rw[g264_eq]
 simp only [g264,go1,Nat.reduceAdd,Int.reduceEq,Int.reduceLT,Int.reduceLE,Int.reduceSub,Int.reduceAdd,h]
 cases hR:whenS l i with
 |out=>exact(whenS_ne hl (prs_HQ hl 0) i hR).elim
 |bad j=>rfl
 |ok e j=>rfl
theorem c_pWhen {l:List Tk}(hl:LOK l)(i:Nat)(hi:i < l.length):cF 229 [.d (.sl 4 (trows l)), .d (.int .i64 (i:Int))]=some (encW (whenP l i)):=by
 have hf:=hl.few
 have h1:=c_ptokens l (i:Int) hf
 have h0:okTok l (i:Int)=true:=by
  unfold okTok;rw[decT (by omega),decT (by omega),hl.last];rfl
 rw[h0]at h1
 have h2:=c_pcond hl i hi
 refine cOf (by kernel_rfl) rfl ?_
 rw[g229_eq]
 simp only [g229,go1,Nat.reduceAdd,Int.reduceEq,Int.reduceLT,Int.reduceLE,Int.reduceSub,Int.reduceAdd,h1,h2,Bool.not_true]
 unfold whenP
 cases whenS l i<;>rfl
end Go.Vm
end
section
namespace Go.Vm
theorem rapp_srows (es:List ByteArray)(s:ByteArray):sy.rapp (srows es) [[.str s]]=srows (es++[s]):=by rw[←srows_app];rfl
end Go.Vm
end
section
set_option maxRecDepth 100000
set_option maxHeartbeats 4000000
namespace Go.Vm
open Go.Proofs
inductive Rc (α:Type) where
 |ok (a:α) (j:Nat)
 |bad (p:Nat) (c:Int)
abbrev RM (α:Type):=Nat→Rc α
def RM.bind {α β:Type}(m:RM α)(k:α→RM β):RM β:=fun i=>match m i with
 | .ok a j=>k a j
 | .bad p c=> .bad p c
def RM.ret {α:Type}(a:α):RM α:=fun i=> .ok a i
structure St where
 i:Nat
 b:Bool
 a:Int
 w:Int
structure Post {α:Type} (F:Int→St→Nat→Int→Prop) (l:List Tk) (m:RM α) (s:St) (v:α) (s':St):Prop where
 le:s.i≤s'.i
 lt:s'.i < l.length
 bad:s.b=false→s'=s
 good:s.b=true→match m s.i with
  | .ok u j=>v=u∧s'=⟨j,true,s.a,s.w⟩
  | .bad p c=>s'.b=false∧F s.a s' p c
section
variable {α β : Type} {F : Int → St → Nat → Int → Prop} {l : List Tk} {m : RM α} {k : α → RM β} {s s1 s2 : St} {v : α} {u : β}
theorem Post.bind (h1:Post F l m s v s1)(h2:Post F l (k v) s1 u s2):Post F l (m.bind k) s u s2:=by
 refine⟨Nat.le_trans h1.le h2.le,h2.lt,fun hb=> ?_,fun hb=> ?_⟩
 ·have e:=h1.bad hb
  subst e
  exact h2.bad hb
 ·have g:=h1.good hb
  unfold RM.bind
  cases hm:m s.i with
  |ok a j=>
   rw[hm]at g
   obtain⟨rfl,rfl⟩:=g
   exact h2.good rfl
  |bad p c=>
   rw[hm]at g
   have e:=h2.bad g.1
   subst e
   exact g
theorem Post.ret (hs:s.i < l.length):Post F l (RM.ret v) s v s:=by
 refine⟨Nat.le_refl _,hs,fun _=>rfl,fun hb=> ?_⟩
 obtain⟨i,b,a,w⟩:=s
 cases hb
 exact⟨rfl,rfl⟩
theorem Post.map {f:α→β}(h:Post F l m s v s1):Post F l (m.bind fun x=>RM.ret (f x)) s (f v) s1:=h.bind (Post.ret h.lt)
theorem Post.of {m':RM α}(h:Post F l m s v s1)(e:s.b=true→m' s.i=m s.i):Post F l m' s v s1:=
 ⟨h.le,h.lt,h.bad,fun hb=>by rw[e hb];exact h.good hb⟩
end
def FP (l:List Tk):Int→St→Nat→Int→Prop:=fun _ s p c=>s.a=(tkA l p).a∧s.w=c
abbrev PostP {α:Type}(l:List Tk)(m:RM α)(s:St)(v:α)(s':St):Prop:=Post (FP l) l m s v s'
def stD (l:List Tk)(en:List (List D))(s:St):List D:=[.sl 4 (trows l), .int .i64 (s.i:Int), .bool s.b, .int .i64 s.a, .int .i64 s.w, .sl 2 en]
section
variable (l w a en : List (List D)) (i x y e : Int) (s : ByteArray) (b k : Bool)
theorem dcR:decB (kR l i en b x y)=some (0,[.ptr 0 0],[.cells (.ty 85) [.d (.sl 4 l), .d (.int .i64 i), .own 1, .ifo 89 b [.int .i64 x, .int .i64 y]], .arr 49 2 en]):=rfl
theorem dcRS:decB (kRS s l i en b x y)=some (0,[.ptr 0 0, .d (.str s)],[.cells (.ty 85) [.d (.sl 4 l), .d (.int .i64 i), .own 1, .ifo 89 b [.int .i64 x, .int .i64 y]], .arr 49 2 en]):=rfl
theorem dcRI:decB (kRI e l i en b x y)=some (0,[.ptr 0 0, .d (.int .i64 e)],[.cells (.ty 85) [.d (.sl 4 l), .d (.int .i64 i), .own 1, .ifo 89 b [.int .i64 x, .int .i64 y]], .arr 49 2 en]):=rfl
theorem dcRB:decB (kRB k l i en b x y)=some (0,[.ptr 0 0, .d (.bool k)],[.cells (.ty 85) [.d (.sl 4 l), .d (.int .i64 i), .own 1, .ifo 89 b [.int .i64 x, .int .i64 y]], .arr 49 2 en]):=rfl
theorem dcRF (p c:Int):decB (kRF p c l i en b x y)=some (0,[.ptr 0 0, .d (.int .i64 p), .d (.int .i64 c)],[.cells (.ty 85) [.d (.sl 4 l), .d (.int .i64 i), .own 1, .ifo 89 b [.int .i64 x, .int .i64 y]], .arr 49 2 en]):=rfl
theorem dcRN:decB (kRN w l i en b x y)=some (0,[.ptr 0 0, .own 1],[.cells (.ty 85) [.d (.sl 4 l), .d (.int .i64 i), .own 2, .ifo 89 b [.int .i64 x, .int .i64 y]], .arr 9 1 w, .arr 49 2 en]):=rfl
theorem dcQ:decB (qR l i b en e)=some (0,[.ptr 0 0],[.cells (.ty 900063) [.ptr 1 0, .own 2, .d (.int .i64 e)], .cells (.ty 900061) [.d (.sl 4 l), .d (.int .i64 i), .d (.bool b)], .arr 49 2 en]):=rfl
theorem dcQB:decB (qRB k l i b en e)=some (0,[.ptr 0 0, .d (.bool k)],[.cells (.ty 900063) [.ptr 1 0, .own 2, .d (.int .i64 e)], .cells (.ty 900061) [.d (.sl 4 l), .d (.int .i64 i), .d (.bool b)], .arr 49 2 en]):=rfl
end
theorem cOfBX {ρ:Type}{f k:FuncId}{pn:Nat}{xs key:List V}{hs:List Box}{c:ρ→PRes}{Q:ρ→Prop}(hg:goodF Tryz.prog k=false)(hd:decB key=some (pn,xs,hs))(hk:Nat.beq k (bkey f)=true)(hn:kn k key=none)(h: ∃x,(funB sy Tryz.prog cs f pn xs hs).run eF=some (c x)∧Q x): ∃x,cF k key=some (c x)∧Q x:=
 h.imp fun _ h=>⟨cOfB hg hd hk hn h.1,h.2⟩
theorem loop_ex {σ ρ α:Type}{b:List D→Option (List D ⊕ α)}{c:ρ→α}(mk:σ→List D)(I:σ→Prop)(μ:σ→Nat)(Q:σ→ρ→Prop)
  (h: ∀x,I x→(∃y,b (mk x)=some (.inl (mk y))∧I y∧μ y < μ x∧ ∀r,Q y r→Q x r)∨ ∃r,b (mk x)=some (.inr (c r))∧Q x r) (x:σ) (hx:I x): ∃r,loopF b (mk x)=some (c r)∧Q x r:=by
 generalize hn:μ x=n
 induction n using Nat.strongRecOn generalizing x with
 |_ n ih=>
  rcases h x hx with⟨y,h1,h2,h3,h4⟩|⟨r,h1,h2⟩
  ·obtain⟨r,h5,h6⟩:=ih (μ y) (hn▸h3) y h2 rfl
   refine⟨r,?_,h4 r h6⟩
   rw[loopF_eq,h1];exact h5
  ·exact⟨r,by rw[loopF_eq,h1],h2⟩
def tkR (l:List Tk)(x:ByteArray):RM Bool:=fun i=>match isT l i x with
 |true=> .ok true (i+1)
 |false=> .ok false i
def failR {α:Type}(p:Nat)(c:Int):RM α:=fun _=> .bad p c
def tokR (l:List Tk)(k:Int):RM Tk:=fun i=>match decide ((tkA l i).k=k)&& !(decide (k=1)&&wordN (tb (tkA l i).s))with
 |true=> .ok (tkA l i) (i+1)
 |false=> .bad i 2
def needR (l:List Tk)(ws:List ByteArray):RM Unit:=fun i=>match needS l ws i with
 | .ok _ j=> .ok () j
 | .bad p=> .bad p 2
 | .out=> .bad 0 2
theorem post_bad {α:Type}{F:Int→St→Nat→Int→Prop}{l:List Tk}{m:RM α}{s:St}{v:α}(h:s.i < l.length)(hb:s.b=false):Post F l m s v s:=
 ⟨Nat.le_refl _,h,fun _=>rfl,fun h=>by rw[hb]at h;cases h⟩
section
variable {l : List Tk} (hl : LOK l) (en : List (List D)) (s : St) (hs : s.i < l.length)
include hl hs
theorem c_rtake (x:ByteArray): ∃v s',cF 1000051 (kRS x (trows l) (s.i:Int) en s.b s.a s.w)=some (.val (.bool v::stD l en s'))∧PostP l (tkR l x) s v s'∧(v=true→s.b=true∧s'.i=s.i+1):=by
 have hf:=hl.few
 have h1:=in_tk hs
 have h2:=row_tk hs
 have e0:IntKind.i64.wrap ((s.i:Int)+0)=(s.i:Int):=by rw[Int.add_zero];exact wrap_id (by omega) (by omega)
 have e1:IntKind.i64.wrap ((s.i:Int)+1)=((s.i+1:Nat):Int):=by rw[wrap_succ (n:=l.length) hs (by omega)];rfl
 have e2:decide (((trows l).length:Int)≤(s.i:Int))=false:=decF (by rw[trows_len];omega)
 obtain⟨i,b,a,w⟩:=s
 simp only at hs h1 h2 e0 e1 e2
 cases b with
 |false=>
  refine⟨false,⟨i,false,a,w⟩,?_,post_bad hs rfl,fun h=>(by cases h)⟩
  refine cOfB (f:=51) (by kernel_rfl) (by with_reducible first|exact dcR .. |exact dcRS .. |exact dcRI .. |exact dcRB .. |exact dcRF .. |exact dcRN .. |exact dcQ .. |exact dcQB ..) (by kernel_rfl) rfl ?_
  rw[b51_eq]
  simp only [b51,oV,oW,oD,oE,oP,oR,oT,stD,List.cons_append,List.nil_append,go1,Nat.reduceAdd,Int.reduceEq,Int.reduceLT,Int.reduceLE,Int.reduceSub,Int.reduceAdd,Bool.not_false]
 |true=>
  cases hT:isT l i x with
  |true=>
   refine⟨true,⟨i+1,true,a,w⟩,?_,⟨Nat.le_succ _,hl.next hs (isT_k hT),fun h=>(by cases h),fun _=> ?_⟩,fun _=>⟨rfl,rfl⟩⟩
   ·refine cOfB (f:=51) (by kernel_rfl) (by with_reducible first|exact dcR .. |exact dcRS .. |exact dcRI .. |exact dcRB .. |exact dcRF .. |exact dcRN .. |exact dcQ .. |exact dcQB ..) (by kernel_rfl) rfl ?_
    rw[b51_eq]
    simp only [b51,oV,oW,oD,oE,oP,oR,oT,stD,List.cons_append,List.nil_append,go1,Nat.reduceAdd,Int.reduceEq,Int.reduceLT,Int.reduceLE,Int.reduceSub,Int.reduceAdd,Bool.not_true,e0,e1,e2,h1,h2,tkrow,seq_tb]
    rw[←show isT l i x=(decide (tb (tkA l i).s=tb x)&&(decide ((tkA l i).k=1) || decide ((tkA l i).k=5)))from rfl,hT];rfl
   ·simp only [tkR,hT];exact⟨trivial,trivial⟩
  |false=>
   refine⟨false,⟨i,true,a,w⟩,?_,⟨Nat.le_refl _,hs,fun h=>(by cases h),fun _=> ?_⟩,fun h=>(by cases h)⟩
   ·refine cOfB (f:=51) (by kernel_rfl) (by with_reducible first|exact dcR .. |exact dcRS .. |exact dcRI .. |exact dcRB .. |exact dcRF .. |exact dcRN .. |exact dcQ .. |exact dcQB ..) (by kernel_rfl) rfl ?_
    rw[b51_eq]
    simp only [b51,oV,oW,oD,oE,oP,oR,oT,stD,List.cons_append,List.nil_append,go1,Nat.reduceAdd,Int.reduceEq,Int.reduceLT,Int.reduceLE,Int.reduceSub,Int.reduceAdd,Bool.not_true,e0,e1,e2,h1,h2,tkrow,seq_tb]
    rw[←show isT l i x=(decide (tb (tkA l i).s=tb x)&&(decide ((tkA l i).k=1) || decide ((tkA l i).k=5)))from rfl,hT];rfl
   ·simp only [tkR,hT];exact⟨trivial,trivial⟩
theorem c_rfail (p:Nat)(hp:p < l.length)(c:Int): ∃s',cF 1000056 (kRF (p:Int) c (trows l) (s.i:Int) en s.b s.a s.w)=some (.val (stD l en s'))∧PostP l (failR p c) s () s'∧s'.b=false∧s'.i=s.i:=by
 have h1:=in_tk hp
 have h2:=row_tk hp
 obtain⟨i,b,a,w⟩:=s
 simp only at hs
 cases b with
 |false=>
  refine⟨⟨i,false,a,w⟩,?_,post_bad hs rfl,rfl,rfl⟩
  refine cOfB (f:=56) (by kernel_rfl) (by with_reducible first|exact dcR .. |exact dcRS .. |exact dcRI .. |exact dcRB .. |exact dcRF .. |exact dcRN .. |exact dcQ .. |exact dcQB ..) (by kernel_rfl) rfl ?_
  rw[b56_eq]
  simp only [b56,oV,oW,oD,oE,oP,oR,oT,stD,List.cons_append,List.nil_append,go1,Nat.reduceAdd,Int.reduceEq,Int.reduceLT,Int.reduceLE,Int.reduceSub,Int.reduceAdd]
 |true=>
  refine⟨⟨i,false,(tkA l p).a,c⟩,?_,⟨Nat.le_refl _,hs,fun h=>(by cases h),fun _=>⟨rfl,rfl,rfl⟩⟩,rfl,rfl⟩
  refine cOfB (f:=56) (by kernel_rfl) (by with_reducible first|exact dcR .. |exact dcRS .. |exact dcRI .. |exact dcRB .. |exact dcRF .. |exact dcRN .. |exact dcQ .. |exact dcQB ..) (by kernel_rfl) rfl ?_
  rw[b56_eq]
  simp only [b56,oV,oW,oD,oE,oP,oR,oT,stD,List.cons_append,List.nil_append,go1,Nat.reduceAdd,Int.reduceEq,Int.reduceLT,Int.reduceLE,Int.reduceSub,Int.reduceAdd,h1,h2,tkrow]
  rfl
theorem c_rof (k:Nat)(hk:k < 6): ∃v s',cF 1000094 (kRI (k:Int) (trows l) (s.i:Int) en s.b s.a s.w)=some (.val (tkrow v++stD l en s'))∧PostP l (tokR l (k:Int)) s v s':=by
 have hf:=hl.few
 have h1:=in_tk hs
 have h2:=row_tk hs
 have h3:=c_Word (tkA l s.i).s
 have e1:IntKind.i64.wrap ((s.i:Int)+1)=((s.i+1:Nat):Int):=by rw[wrap_succ (n:=l.length) hs (by omega)];rfl
 obtain⟨s',hf1,hp1,hp2,hp3⟩:=c_rfail hl en s hs s.i hs 2
 cases hb:s.b with
 |false=>
  rw[hb]at hf1
  refine⟨⟨0,bs [],0,0⟩,s',?_,?_⟩
  ·refine cOfB (f:=94) (by kernel_rfl) (by with_reducible first|exact dcR .. |exact dcRS .. |exact dcRI .. |exact dcRB .. |exact dcRF .. |exact dcRN .. |exact dcQ .. |exact dcQB ..) (by kernel_rfl) rfl ?_
   rw[b94_eq]
   simp only [b94,oV,oW,oD,oE,oP,oR,oT,stD,List.cons_append,List.nil_append,go1,Nat.reduceAdd,Int.reduceEq,Int.reduceLT,Int.reduceLE,Int.reduceSub,Int.reduceAdd,h1,h2,tkrow,h3,Bool.not_false,hf1]
   rfl
  ·have e:=hp1.bad hb
   subst e
   exact post_bad hs hb
 |true=>
  rw[hb]at hf1
  cases hT:decide ((tkA l s.i).k=(k:Int))&& !(decide ((k:Int)=1)&&wordN (tb (tkA l s.i).s))with
  |true=>
   refine⟨tkA l s.i,⟨s.i+1,true,s.a,s.w⟩,?_,?_⟩
   ·refine cOfB (f:=94) (by kernel_rfl) (by with_reducible first|exact dcR .. |exact dcRS .. |exact dcRI .. |exact dcRB .. |exact dcRF .. |exact dcRN .. |exact dcQ .. |exact dcQB ..) (by kernel_rfl) rfl ?_
    rw[b94_eq]
    simp only [b94,oV,oW,oD,oE,oP,oR,oT,stD,List.cons_append,List.nil_append,go1,Nat.reduceAdd,Int.reduceEq,Int.reduceLT,Int.reduceLE,Int.reduceSub,Int.reduceAdd,h1,h2,tkrow,h3,Bool.not_true,hf1,e1]
    revert hT
    cases decide ((tkA l s.i).k=(k:Int))<;>cases decide ((k:Int)=1)<;>cases wordN (tb (tkA l s.i).s)<;>intro hT<;>first|(cases hT;done)|rfl
   ·have hk6:(tkA l s.i).k≠6:=by
     simp only [Bool.and_eq_true,decide_eq_true_eq]at hT
     omega
    refine⟨Nat.le_succ _,hl.next hs hk6,fun h=>(by rw[hb]at h;cases h),fun _=> ?_⟩
    unfold tokR
    rw[hT]
    exact⟨rfl,rfl⟩
  |false=>
   refine⟨⟨0,bs [],0,0⟩,s',?_,?_⟩
   ·refine cOfB (f:=94) (by kernel_rfl) (by with_reducible first|exact dcR .. |exact dcRS .. |exact dcRI .. |exact dcRB .. |exact dcRF .. |exact dcRN .. |exact dcQ .. |exact dcQB ..) (by kernel_rfl) rfl ?_
    rw[b94_eq]
    simp only [b94,oV,oW,oD,oE,oP,oR,oT,stD,List.cons_append,List.nil_append,go1,Nat.reduceAdd,Int.reduceEq,Int.reduceLT,Int.reduceLE,Int.reduceSub,Int.reduceAdd,h1,h2,tkrow,h3,Bool.not_true,hf1,e1]
    revert hT
    cases decide ((tkA l s.i).k=(k:Int))<;>cases decide ((k:Int)=1)<;>cases wordN (tb (tkA l s.i).s)<;>intro hT<;>first|(cases hT;done)|rfl|(simp only [go1,Nat.reduceAdd,Int.reduceEq,Int.reduceLT,Int.reduceLE,Int.reduceSub,Int.reduceAdd,Bool.not_true,Bool.not_false,hf1];done)
   ·refine⟨hp1.le,hp1.lt,hp1.bad,fun h=> ?_⟩
    have g:=hp1.good h
    unfold tokR
    rw[hT]
    exact g
theorem c_rneed (ws:List ByteArray)(hw:ws.length≤1000): ∃s',cF 1000095 (kRN (srows ws) (trows l) (s.i:Int) en s.b s.a s.w)=some (.val [.sl 4 (trows l), .int .i64 (s'.i:Int), .bool s'.b, .int .i64 s'.a, .int .i64 s'.w, .sl 1 (srows ws), .sl 2 en])∧PostP l (needR l ws) s () s':=by
 refine cOfBX (f:=95) (by kernel_rfl) (by with_reducible first|exact dcR .. |exact dcRS .. |exact dcRI .. |exact dcRB .. |exact dcRF .. |exact dcRN .. |exact dcQ .. |exact dcQB ..) (by kernel_rfl) rfl ?_
 rw[b95_eq]
 simp only [b95,oV,oW,oD,oE,oP,oR,oT,stD,List.cons_append,List.nil_append,go1,Nat.reduceAdd,Int.reduceEq,Int.reduceLT,Int.reduceLE,Int.reduceSub,Int.reduceAdd]
 have e1:(srows ws).length=ws.length:=srows_len ws
 refine loop_ex (σ:=Nat × St) (ρ:=St) (fun x=>[.int .i64 ((srows ws).length:Int), .int .i64 (x.1:Int), .sl 4 (trows l), .int .i64 (x.2.i:Int), .bool x.2.b, .int .i64 x.2.a, .int .i64 x.2.w, .sl 1 (srows ws), .sl 2 en]) (fun x=>x.1≤ws.length∧x.2.i < l.length) (fun x=>ws.length - x.1) (fun x y=>PostP l (needR l (ws.drop x.1)) x.2 () y) ?_ (0,s) ⟨Nat.zero_le _,hs⟩
 rintro⟨k,s⟩ ⟨hk,hs⟩
 simp only at hk hs ⊢
 by_cases hlt:k < ws.length
 ·left
  have e3:sy.rown (srows ws) k= [.str ws[k]]:=by
   show(srows ws).getD k []=_
   rw[List.getD_eq_getElem?_getD];simp [srows,srow,hlt]
  obtain⟨v,s1,h1,r1,_⟩:=c_rtake hl en s hs ws[k]
  have e2:needR l (ws.drop k)=(tkR l ws[k]).bind fun v=>match v with
      |true=>needR l (ws.drop (k+1))
      |false=>fun i=> .bad i 2:=by
   funext i
   unfold needR RM.bind tkR
   rw[List.drop_eq_getElem_cons hlt,needS]
   cases isT l i ws[k]<;>rfl
  cases v with
  |true=>
   refine⟨(k+1,s1),?_,⟨hlt,r1.lt⟩,by simp only;omega,fun y hy=> ?_⟩
   ·simp only [go1,Nat.reduceAdd,Int.reduceEq,Int.reduceLT,Int.reduceLE,Int.reduceSub,Int.reduceAdd,oV,oR,stD,e1,ilt_at hlt,inr_at hlt,Int.toNat_natCast,e3,h1,Bool.not_true]
    rw[wrap_succ hlt (by omega)];rfl
   ·rw[e2]
    exact r1.bind hy
  |false=>
   obtain⟨s2,h2,r2,_,_⟩:=c_rfail hl en s1 r1.lt s1.i r1.lt 2
   refine⟨(k+1,s2),?_,⟨hlt,r2.lt⟩,by simp only;omega,fun y hy=> ?_⟩
   ·simp only [go1,Nat.reduceAdd,Int.reduceEq,Int.reduceLT,Int.reduceLE,Int.reduceSub,Int.reduceAdd,oV,oR,stD,e1,ilt_at hlt,inr_at hlt,Int.toNat_natCast,e3,h1,h2,Bool.not_false]
    rw[wrap_succ hlt (by omega)];rfl
   ·rw[e2]
    refine r1.bind ⟨Nat.le_trans r2.le hy.le,hy.lt,fun hb=> ?_,fun hb=> ?_⟩
    ·have e:=r2.bad hb
     subst e
     exact hy.bad hb
    ·have g:=r2.good hb
     have e:=hy.bad g.1
     subst e
     exact g
 ·right
  have:k=ws.length:=by omega
  subst this
  refine⟨s,?_,?_⟩
  ·simp only [go1,Nat.reduceAdd,Int.reduceEq,Int.reduceLT,Int.reduceLE,Int.reduceSub,Int.reduceAdd,oV,oR,stD,e1,ilt_self]
  ·rw[List.drop_length]
   exact Post.ret hs
end
def namesL (l:List Tk)(k:Int):Nat→List ByteArray→RM (List ByteArray)
 |0,acc=>RM.ret acc
 |n+1,acc=>(tkR l (bs [44])).bind fun v=>match v with
  |true=>(tokR l k).bind fun t=>namesL l k n (acc++[t.s])
  |false=>RM.ret acc
def namesR (l:List Tk)(k:Int):RM (List ByteArray):=(tokR l k).bind fun t=>namesL l k l.length [t.s]
theorem srows_snoc (acc:List ByteArray)(x:ByteArray):srows (acc++[x])=srows acc++[[.str x]]:=by simp [srows,srow]
section
variable {l : List Tk} (hl : LOK l) (en : List (List D)) (s : St) (hs : s.i < l.length)
include hl hs
theorem c_rnames (k:Nat)(hk:k < 6): ∃x:List ByteArray × St,cF 1000096 (kRI (k:Int) (trows l) (s.i:Int) en s.b s.a s.w)=some (.val (.sl 1 (srows x.1)::stD l en x.2))∧PostP l (namesR l (k:Int)) s x.1 x.2:=by
 have hf:=hl.few
 obtain⟨t,s0,h0,r0⟩:=c_rof hl en s hs k hk
 refine cOfBX (f:=96) (by kernel_rfl) (by with_reducible first|exact dcR .. |exact dcRS .. |exact dcRI .. |exact dcRB .. |exact dcRF .. |exact dcRN .. |exact dcQ .. |exact dcQB ..) (by kernel_rfl) rfl ?_
 rw[b96_eq]
 simp only [b96,oV,oW,oD,oE,oP,oR,oT,stD,List.cons_append,List.nil_append,go1,Nat.reduceAdd,Int.reduceEq,Int.reduceLT,Int.reduceLE,Int.reduceSub,Int.reduceAdd,h0,tkrow]
 refine(loop_ex (σ:=Nat × List ByteArray × St) (ρ:=List ByteArray × St) (c:=fun x=>PRes.val [.sl 1 (srows x.1), .sl 4 (trows l), .int .i64 (x.2.i:Int), .bool x.2.b, .int .i64 x.2.a, .int .i64 x.2.w, .sl 2 en]) (fun x=>[.int .i64 (k:Int), .sl 4 (trows l), .int .i64 (x.2.2.i:Int), .bool x.2.2.b, .int .i64 x.2.2.a, .int .i64 x.2.2.w, .sl 2 en, .sl 1 (srows x.2.1)])
  (fun x=>l.length - x.2.2.i≤x.1∧x.2.1.length≤x.2.2.i+1∧x.2.2.i < l.length) (fun x=>x.1) (fun x y=>PostP l (namesL l k x.1 x.2.1) x.2.2 y.1 y.2) ?_ (l.length,[t.s],s0) ⟨by simp only;omega,by simp,r0.lt⟩).imp fun x h=>⟨h.1,r0.bind h.2⟩
 rintro⟨n,acc,s⟩ ⟨hn,ha,hs⟩
 simp only at hn ha hs ⊢
 obtain⟨v,s1,h1,r1,hv⟩:=c_rtake hl en s hs (bs [44])
 obtain⟨n,rfl⟩: ∃m,n=m+1:=⟨n - 1,by omega⟩
 cases v with
 |true=>
  left
  obtain⟨_,hi⟩:=hv rfl
  obtain⟨t,s2,h2,r2⟩:=c_rof hl en s1 r1.lt k hk
  refine⟨(n,acc++[t.s],s2),?_,⟨?_,?_,r2.lt⟩,Nat.lt_succ_self _,fun y hy=>r1.bind (r2.bind hy)⟩
  ·simp only [go1,Nat.reduceAdd,Int.reduceEq,Int.reduceLT,Int.reduceLE,Int.reduceSub,Int.reduceAdd,oV,oT,stD,List.cons_append,List.nil_append,h1,h2,tkrow]
   have e:=fitsR (srows acc) [[.str t.s]] 16 (by rw[srows_len];simp only [List.length_cons,List.length_nil];omega)
   simp only [go1,Nat.reduceAdd,Int.reduceEq,Int.reduceLT,Int.reduceLE,Int.reduceSub,Int.reduceAdd,e,rapp_srows]
   rw[srows_snoc]
  ·have:=r2.le;simp only;omega
  ·have:=r2.le;simp only [List.length_append,List.length_cons,List.length_nil];omega
 |false=>
  right
  refine⟨(acc,s1),?_,r1.bind (Post.ret r1.lt)⟩
  simp only [go1,Nat.reduceAdd,Int.reduceEq,Int.reduceLT,Int.reduceLE,Int.reduceSub,Int.reduceAdd,oV,oT,stD,List.cons_append,List.nil_append,h1]
end
abbrev En:=ByteArray × List ByteArray
def erow (e:En):List D:=[.str e.1, .sl 1 (srows e.2)]
def erows (l:List En):List (List D):=l.map erow
theorem erows_len (l:List En):(erows l).length=l.length:=by simp [erows]
def enumR (l:List Tk):RM En:=(tokR l 1).bind fun t=>(needR l [bs [123]]).bind fun _=>(namesR l 2).bind fun cs=>(needR l [bs [125],bs [59]]).bind fun _=>RM.ret (t.s,cs)
section
variable {l : List Tk} (hl : LOK l) (en : List (List D)) (s : St) (hs : s.i < l.length)
include hl hs
theorem c_renum: ∃x:En × St,cF 1000052 (kR (trows l) (s.i:Int) en s.b s.a s.w)=some (.val (erow x.1++stD l en x.2))∧PostP l (enumR l) s x.1 x.2:=by
 obtain⟨t,s1,h1,r1⟩:=c_rof hl en s hs 1 (by omega)
 obtain⟨s2,h2,r2⟩:=c_rneed hl en s1 r1.lt [bs [123]] (by simp)
 obtain⟨⟨cs,s3⟩,h3,r3⟩:=c_rnames hl en s2 r2.lt 2 (by omega)
 simp only at h3 r3
 obtain⟨s4,h4,r4⟩:=c_rneed hl en s3 r3.lt [bs [125],bs [59]] (by simp)
 rw[←srow1]at h2
 rw[←srow2]at h4
 refine⟨((t.s,cs),s4),?_,r1.bind (r2.bind (r3.bind (r4.bind (Post.ret r4.lt))))⟩
 have h1:cF 1000094 (kRI 1 (trows l) (s.i:Int) en s.b s.a s.w)=_:=h1
 have h3:cF 1000096 (kRI 2 (trows l) (s2.i:Int) en s2.b s2.a s2.w)=_:=h3
 refine cOfB (f:=52) (by kernel_rfl) (by with_reducible first|exact dcR .. |exact dcRS .. |exact dcRI .. |exact dcRB .. |exact dcRF .. |exact dcRN .. |exact dcQ .. |exact dcQB ..) (by kernel_rfl) rfl ?_
 rw[b52_eq]
 simp only [b52,oV,oW,oD,oE,oP,oR,oT,stD,List.cons_append,List.nil_append,go1,Nat.reduceAdd,Int.reduceEq,Int.reduceLT,Int.reduceLE,Int.reduceSub,Int.reduceAdd,h1,h2,h3,h4,tkrow,erow]
end
def idxE (ens:List En)(nm:ByteArray):Option Nat:=ens.findIdx? fun e=>decide (tb e.1=tb nm)
def baseK (ens:List En)(t:Tk):RM (Int × Int):=match idxE ens t.s with
 |some x=>RM.ret (3,(x:Int))
 |none=>fun j=> .bad (j - 1) 2
def baseR (l:List Tk)(ens:List En):RM (Int × Int):=(tkR l (bs [105,110,116])).bind fun v=>match v with
 |true=>RM.ret (1,0)
 |false=>(tkR l (bs [98,111,111,108])).bind fun v=>match v with
  |true=>RM.ret (2,0)
  |false=>(tokR l 1).bind (baseK ens)
theorem tokR_ok {l:List Tk}{k:Int}{i j:Nat}{t:Tk}(h:tokR l k i= .ok t j):t=tkA l i∧j=i+1:=by
 unfold tokR at h
 split at h
 ·cases h;exact⟨rfl,rfl⟩
 ·cases h
section
variable {l : List Tk} (hl : LOK l) (ens : List En) (hE : ens.length ≤ 1000000) (s : St) (hs : s.i < l.length)
include hl hs
theorem post_back {α:Type}{k:Int}{t:Tk}{s1 s2:St}{u:α}(r:PostP l (tokR l k) s t s1)(f:PostP l (failR (α:=Unit) s.i 2) s1 () s2):PostP l (fun j=> .bad (j - 1) 2:RM α) s1 u s2:=by
 refine⟨f.le,f.lt,f.bad,fun hb=> ?_⟩
 have g:=f.good hb
 have hb0:s.b=true:=by
  cases h:s.b with
  |true=>rfl
  |false=>have e:=r.bad h;rw[e,h]at hb;cases hb
 have g1:=r.good hb0
 cases hm:tokR l k s.i with
 |ok a j=>
  rw[hm]at g1
  obtain⟨_,e⟩:=g1
  have ej:=(tokR_ok hm).2
  have:s1.i - 1=s.i:=by rw[e,ej];simp
  rw[this]
  exact g
 |bad p c=>
  rw[hm]at g1
  rw[g1.1]at hb;cases hb
include hE
theorem c_rbase: ∃x:(Int × Int) × St,cF 1000228 (kR (trows l) (s.i:Int) (erows ens) s.b s.a s.w)=some (.val (.int .i64 x.1.1:: .int .i64 x.1.2:: .int .i64 0::stD l (erows ens) x.2))∧PostP l (baseR l ens) s x.1 x.2:=by
 have hf:=hl.few
 obtain⟨v,s1,h1,r1,_⟩:=c_rtake hl (erows ens) s hs (bs [105,110,116])
 cases v with
 |true=>
  refine⟨((1,0),s1),?_,r1.bind (Post.ret r1.lt)⟩
  refine cOfB (f:=228) (by kernel_rfl) (by with_reducible first|exact dcR .. |exact dcRS .. |exact dcRI .. |exact dcRB .. |exact dcRF .. |exact dcRN .. |exact dcQ .. |exact dcQB ..) (by kernel_rfl) rfl ?_
  rw[b228_eq]
  simp only [b228,oV,oW,oD,oE,oP,oR,oT,stD,List.cons_append,List.nil_append,go1,Nat.reduceAdd,Int.reduceEq,Int.reduceLT,Int.reduceLE,Int.reduceSub,Int.reduceAdd,h1]
 |false=>
  obtain⟨v,s2,h2,r2,_⟩:=c_rtake hl (erows ens) s1 r1.lt (bs [98,111,111,108])
  cases v with
  |true=>
   refine⟨((2,0),s2),?_,r1.bind (r2.bind (Post.ret r2.lt))⟩
   refine cOfB (f:=228) (by kernel_rfl) (by with_reducible first|exact dcR .. |exact dcRS .. |exact dcRI .. |exact dcRB .. |exact dcRF .. |exact dcRN .. |exact dcQ .. |exact dcQB ..) (by kernel_rfl) rfl ?_
   rw[b228_eq]
   simp only [b228,oV,oW,oD,oE,oP,oR,oT,stD,List.cons_append,List.nil_append,go1,Nat.reduceAdd,Int.reduceEq,Int.reduceLT,Int.reduceLE,Int.reduceSub,Int.reduceAdd,h1,h2]
  |false=>
   obtain⟨t,s3,h3,r3⟩:=c_rof hl (erows ens) s2 r2.lt 1 (by omega)
   have h3:cF 1000094 (kRI 1 (trows l) (s2.i:Int) (erows ens) s2.b s2.a s2.w)=_:=h3
   obtain⟨s4,h4,r4,_⟩:=c_rfail hl (erows ens) s3 r3.lt s2.i r2.lt 2
   have hback:=post_back (u:=((0,0):Int × Int)) hl s2 r2.lt r3 r4
   refine cOfBX (f:=228) (by kernel_rfl) (by with_reducible first|exact dcR .. |exact dcRS .. |exact dcRI .. |exact dcRB .. |exact dcRF .. |exact dcRN .. |exact dcQ .. |exact dcQB ..) (by kernel_rfl) rfl ?_
   rw[b228_eq]
   simp only [b228,oV,oW,oD,oE,oP,oR,oT,stD,List.cons_append,List.nil_append,go1,Nat.reduceAdd,Int.reduceEq,Int.reduceLT,Int.reduceLE,Int.reduceSub,Int.reduceAdd,h1,h2,h3,tkrow]
   refine(loop_ex (σ:=Nat) (ρ:=(Int × Int) × St) (c:=fun x=>PRes.val [.int .i64 x.1.1, .int .i64 x.1.2, .int .i64 0, .sl 4 (trows l), .int .i64 (x.2.i:Int), .bool x.2.b, .int .i64 x.2.a, .int .i64 x.2.w, .sl 2 (erows ens)]) (fun k=>[.int .i64 ((erows ens).length:Int), .int .i64 (k:Int), .sl 4 (trows l), .int .i64 (s3.i:Int), .bool s3.b, .int .i64 s3.a, .int .i64 s3.w, .sl 2 (erows ens), .int .i64 0, .int .i64 0, .int .i64 0, .str t.s])
    (fun k=>k≤ens.length∧ ∀(j:Nat) (h:j < ens.length),j < k→decide (tb ens[j].1=tb t.s)=false) (fun k=>ens.length - k) (fun _ y=>PostP l (baseK ens t) s3 y.1 y.2) ?_ 0 ⟨Nat.zero_le _,fun j _ h=>(by omega)⟩).imp fun x h=>⟨h.1,r1.bind (r2.bind (r3.bind h.2))⟩
   rintro k ⟨hk,hi⟩
   by_cases hlt:k < ens.length
   ·have e3:sy.rown (erows ens) k= [.str ens[k].1, .sl 1 (srows ens[k].2)]:=by
     show(erows ens).getD k []=_
     rw[List.getD_eq_getElem?_getD];simp [erows,erow,hlt]
    have e4:decide ((k:Int) < 0)=false:=decF (by omega)
    cases hp:decide (tb ens[k].1=tb t.s)with
    |true=>
     right
     refine⟨((3,(k:Int)),s3),?_,?_⟩
     ·simp only [go1,Nat.reduceAdd,Int.reduceEq,Int.reduceLT,Int.reduceLE,Int.reduceSub,Int.reduceAdd,oV,erows_len,ilt_at hlt,inr_at hlt,hlt,decide_true,Int.toNat_natCast,e3,seq_tb,hp,e4]
     ·have e:idxE ens t.s=some k:=List.findIdx?_eq_some_iff_getElem.2 ⟨hlt,hp,fun j hj=>by rw[hi j (by omega) hj];simp⟩
      unfold baseK
      rw[e]
      exact Post.ret r3.lt
    |false=>
     left
     refine⟨k+1,?_,⟨hlt,fun j h hj=> ?_⟩,by omega,fun _ h=>h⟩
     ·simp only [go1,Nat.reduceAdd,Int.reduceEq,Int.reduceLT,Int.reduceLE,Int.reduceSub,Int.reduceAdd,oV,erows_len,ilt_at hlt,inr_at hlt,hlt,decide_true,Int.toNat_natCast,e3,seq_tb,hp]
      rw[wrap_succ hlt (by omega)];rfl
     ·by_cases e:j=k
      ·subst e;exact hp
      ·exact hi j h (by omega)
   ·right
    have:k=ens.length:=by omega
    subst this
    refine⟨((0,0),s4),?_,?_⟩
    ·simp only [go1,Nat.reduceAdd,Int.reduceEq,Int.reduceLT,Int.reduceLE,Int.reduceSub,Int.reduceAdd,oV,erows_len,ilt_self,h4,stD]
    ·have e:idxE ens t.s=none:=List.findIdx?_eq_none_iff.2 fun x hx=>by
      obtain⟨j,hj,rfl⟩:=List.getElem_of_mem hx
      exact hi j hj hj
     unfold baseK
     rw[e]
     exact hback
end
def Ib (b:Nat)(l:List Tk)(i:Nat):Prop:=b≤i∧i < l.length
def Gd {α:Type}(b:Nat)(l:List Tk):Rs α→Prop
 | .out=>True
 | .ok _ j=>Ib b l j
 | .bad j=>Ib b l j
section
variable {l : List Tk} {b : Nat}
theorem gd_bind {α β:Type}{r:Rs α}{f:α→Nat→Rs β}(h:Gd b l r)(h2: ∀a k,Ib b l k→Gd b l (f a k)):Gd b l (r.bind f):=by
 cases r with
 |ok a k=>exact h2 a k h
 |bad k=>exact h
 |out=>trivial
theorem gd_iter {σ ρ:Type}{st:σ→σ ⊕ Rs ρ}(P:σ→Prop)(h: ∀x,P x→(∃y,st x= .inl y∧P y)∨ ∃r,st x= .inr r∧Gd b l r): ∀(n:Nat) (x:σ),P x→Gd b l (iterS st n x)
 |0,_,_=>trivial
 |n+1,x,hx=>by
  unfold iterS
  rcases h x hx with⟨y,h1,h2⟩|⟨r,h1,h2⟩
  ·rw[h1];exact gd_iter P h n y h2
  ·rw[h1];exact h2
variable (hl : LOK l)
include hl
theorem nk {i:Nat}(hi:Ib b l i)(h:(tkA l i).k≠6):Ib b l (i+1):=⟨Nat.le_succ_of_le hi.1,hl.next hi.2 h⟩
theorem nx {i:Nat}{w:ByteArray}(hi:Ib b l i)(h:isT l i w=true):Ib b l (i+1):=nk hl hi (isT_k h)
theorem gd_name {i:Nat}(hi:Ib b l i):Gd b l (nameS l i):=by
 cases h:nameS l i with
 |ok n j=>exact⟨by have:=nameS_le h;have:=hi.1;omega,nameS_lt hl hi.2 h⟩
 |out=>trivial
 |bad j=>
  unfold nameS at h
  split at h<;>cases h
  exact hi
theorem gd_arm {i:Nat}(hi:Ib b l i):Gd b l (armS l i):=by
 cases h:armS l i with
 |ok n j=>exact⟨by unfold armS at h;split at h<;>cases h;have:=hi.1;omega,armS_lt hl hi.2 h⟩
 |out=>trivial
 |bad j=>
  unfold armS at h
  split at h<;>cases h
  exact hi
theorem gd_need: ∀(w:List ByteArray) {i:Nat},Ib b l i→Gd b l (needS l w i)
 | [],i,hi=>hi
 |x::w,i,hi=>by
  unfold needS
  split
  ·rename_i h;exact gd_need w (nx hl hi h)
  ·exact hi
theorem gd_when {i:Nat}(hi:Ib b l i):Gd b l (whenS l i):=by
 unfold whenS
 split
 ·rename_i h
  exact gd_bind (gd_name hl (nx hl hi h)) fun _ _ hk=>hk
 ·split
  ·exact gd_bind (gd_name hl hi) fun _ _ hk=>hk
  ·exact gd_bind (gd_arm hl hi) fun _ _ hk=>gd_bind (gd_need hl _ hk) fun _ _ hk=>gd_bind (gd_name hl hk) fun _ _ hk=>gd_bind (gd_need hl _ hk) fun _ _ hk=>hk
variable {n : Nat} {p : PR} (hp : ∀ nt i, Ib b l i → Gd b l (p nt i))
include hp
theorem gd_left (side:Nt)(a m:Nat){i:Nat}(hi:Ib b l i):Gd b l (leftS l n p side a m i):=by
 refine gd_bind (hp _ _ hi) fun e k hk=>gd_iter (fun x=>Ib b l x.2) (fun x hx=> ?_) n (e,k) hk
 obtain⟨e2,i2⟩:=x
 rw[leftT]
 split
 ·exact .inr ⟨_,rfl,hx⟩
 ·rename_i o ho
  have h3:=hp side (i2+1) (nk hl hx (opS_spec ho).1)
  split
  ·rename_i hq;rw[hq]at h3;exact .inl ⟨_,rfl,h3⟩
  ·rename_i hq;rw[hq]at h3;exact .inr ⟨_,rfl,h3⟩
  ·exact .inr ⟨_,rfl,trivial⟩
theorem gd_list (en:ByteArray){i:Nat}(hi:Ib b l i):Gd b l (listS l n p en i):=by
 refine gd_bind (hp _ _ hi) fun e k hk=>gd_iter (fun x=>Ib b l x.2) (fun x hx=> ?_) n ([e],k) hk
 obtain⟨e2,i2⟩:=x
 rw[listT]
 split
 ·rename_i ht
  have h3:=hp .arrow (i2+1) (nx hl hx ht)
  split
  ·rename_i hq;rw[hq]at h3;exact .inl ⟨_,rfl,h3⟩
  ·rename_i hq;rw[hq]at h3;exact .inr ⟨_,rfl,h3⟩
  ·exact .inr ⟨_,rfl,trivial⟩
 ·exact .inr ⟨_,rfl,gd_bind (gd_need hl _ hx) fun _ _ hk=>hk⟩
theorem gd_post {i:Nat}(hi:Ib b l i):Gd b l (postS l n p i):=by
 refine gd_bind (hp _ _ hi) fun e k hk=>gd_iter (fun x=>Ib b l x.2) (fun x hx=> ?_) n (e,k) hk
 obtain⟨e2,i2⟩:=x
 rw[postT]
 split
 ·rename_i ht
  have h3:Gd b l (((p .arrow (i2+1)).bind fun a j=>(needS l [bs [93]] j).bind fun _ j=> .ok a j:Rs Ex)):=gd_bind (hp .arrow _ (nx hl hx ht)) fun _ _ hk=>gd_bind (gd_need hl _ hk) fun _ _ hk=>hk
  split
  ·rename_i hq;rw[hq]at h3;exact .inl ⟨_,rfl,h3⟩
  ·rename_i hq;rw[hq]at h3;exact .inr ⟨_,rfl,h3⟩
  ·exact .inr ⟨_,rfl,trivial⟩
 ·split
  ·rename_i ht
   have h3:=gd_when hl (nx hl hx ht)
   split
   ·rename_i hq;rw[hq]at h3;exact .inl ⟨_,rfl,h3⟩
   ·rename_i hq;rw[hq]at h3;exact .inr ⟨_,rfl,h3⟩
   ·exact .inr ⟨_,rfl,trivial⟩
  ·exact .inr ⟨_,rfl,hx⟩
theorem gd_callU (nm:ByteArray)(es:List Ex){i:Nat}(hi:Ib b l i):Gd b l (callU l p nm es i):=by
 unfold callU
 split
 ·rename_i ht;exact gd_bind (hp _ _ (nx hl hi ht)) fun _ _ hk=>hk
 ·exact hi
theorem gd_merge {i:Nat}(hi:Ib b l i):Gd b l (mergeS l n p i):=by
 refine gd_bind (gd_name hl hi) fun _ _ hk=>gd_bind (gd_need hl _ hk) fun _ _ hk=>gd_bind (gd_iter (fun x=>Ib b l x.2.2.1) (fun x hx=> ?_) n _ hk) fun _ _ hk=>hk
 obtain⟨ar,es,i2,b⟩:=x
 cases b with
 |false=>exact .inr ⟨_,rfl,hx⟩
 |true=>
  rw[mergeT]
  have h3:Gd b l ((armS l i2).bind fun a j=>(needS l [bs [45,62]] j).bind fun _ j=>(p .arrow j).bind fun e j=>(needS l [bs [41]] j).bind fun _ j=> .ok (a,e) j:Rs (ByteArray × Ex)):=gd_bind (gd_arm hl hx) fun _ _ hk=>gd_bind (gd_need hl _ hk) fun _ _ hk=>gd_bind (hp _ _ hk) fun _ _ hk=>gd_bind (gd_need hl _ hk) fun _ _ hk=>hk
  split
  ·rename_i hq
   rw[hq]at h3
   split
   ·rename_i ht;exact .inl ⟨_,rfl,nx hl h3 ht⟩
   ·exact .inl ⟨_,rfl,h3⟩
  ·rename_i hq;rw[hq]at h3;exact .inr ⟨_,rfl,h3⟩
  ·exact .inr ⟨_,rfl,trivial⟩
theorem gd_word {i:Nat}(hi:Ib b l i):Gd b l (wordS l n p i):=by
 unfold wordS
 split
 ·rename_i ht;exact nx hl hi ht
 split
 ·rename_i ht;exact nx hl hi ht
 split
 ·rename_i ht;exact gd_bind (gd_list hl hp _ (nx hl hi ht)) fun _ _ hk=>hk
 split
 ·rename_i ht
  unfold roundS
  refine gd_bind (hp _ _ (nx hl hi ht)) fun _ j hk=> ?_
  split
  ·rename_i ht
   exact gd_bind (gd_need hl _ (nx hl hk ht)) fun _ _ hk=>gd_bind (hp _ _ hk) fun _ _ hk=>gd_bind (gd_need hl _ hk) fun _ _ hk=>gd_bind (hp _ _ hk) fun _ _ hk=>gd_bind (gd_need hl _ hk) fun _ _ hk=>hk
  ·exact gd_bind (gd_need hl _ hk) fun _ _ hk=>hk
 split
 ·rename_i ht;exact gd_merge hl hp (nx hl hi ht)
 split
 ·rename_i ht
  exact gd_bind (hp _ _ (nx hl hi ht)) fun _ _ hk=>gd_bind (gd_need hl _ hk) fun _ _ hk=>gd_bind (hp _ _ hk) fun _ _ hk=>gd_bind (gd_need hl _ hk) fun _ _ hk=>gd_bind (hp _ _ hk) fun _ _ hk=>hk
 ·refine gd_bind (gd_name hl hi) fun _ j hk=> ?_
  split
  ·rename_i ht
   have hj:=nx hl hk ht
   unfold callS
   split
   ·rename_i ht;exact gd_callU hl hp _ _ (nx hl hj ht)
   ·exact gd_bind (gd_list hl hp _ hj) fun _ _ hk=>gd_callU hl hp _ _ hk
  ·exact hk
theorem gd_step (nt:Nt){i:Nat}(hi:Ib b l i):Gd b l (ntS l n p nt i):=by
 cases nt with
 |or=>exact gd_left hl hp _ _ _ hi
 |and=>exact gd_left hl hp _ _ _ hi
 |sum=>exact gd_left hl hp _ _ _ hi
 |prod=>exact gd_left hl hp _ _ _ hi
 |post=>exact gd_post hl hp hi
 |arrow=>
  refine gd_bind (hp _ _ hi) fun _ j hk=> ?_
  split
  ·rename_i ht;exact gd_bind (hp _ _ (nx hl hk ht)) fun _ _ hk=>hk
  ·exact hk
 |fby=>
  refine gd_bind (hp _ _ hi) fun _ j hk=> ?_
  split
  ·rename_i ht;exact gd_bind (hp _ _ (nx hl hk ht)) fun _ _ hk=>hk
  ·exact hk
 |cmp=>
  refine gd_bind (hp _ _ hi) fun _ j hk=> ?_
  split
  ·exact hk
  ·rename_i o ho;exact gd_bind (hp _ _ (nk hl hk (opS_spec ho).1)) fun _ _ hk=>hk
 |un=>
  show Gd b l (unS l p i)
  unfold unS
  split
  ·rename_i ht;exact gd_bind (hp _ _ (nx hl hi ht)) fun _ _ hk=>hk
  split
  ·rename_i ht;exact gd_bind (hp _ _ (nx hl hi ht)) fun _ _ hk=>hk
  split
  ·rename_i ht;exact gd_bind (hp _ _ (nx hl hi ht)) fun _ _ hk=>hk
  ·exact hp _ _ hi
 |atom=>
  show Gd b l (atomS l n p i)
  have ne: ∀k:Int,decide ((tkA l i).k=k)=true→k≠6→Ib b l (i+1):=fun k h hk=>nk hl hi (by rw[of_decide_eq_true h];exact hk)
  unfold atomS
  split
  ·rename_i ht;exact ne _ ht (by decide)
  split
  ·rename_i ht;exact ne _ ht (by decide)
  split
  ·rename_i ht;exact ne _ ht (by decide)
  ·exact gd_word hl hp hi
end
theorem gd_prs {l:List Tk}{b:Nat}(hl:LOK l): ∀(n:Nat) (nt:Nt) (i:Nat),Ib b l i→Gd b l (prs l n nt i)
 |0,_,_,_=>trivial
 |n+1,nt,i,hi=>gd_step hl (gd_prs hl n) nt hi
theorem readS_gd {l:List Tk}(hl:LOK l){i:Nat}(hi:i < l.length){j:Nat}(h:readS l i= .bad j):i≤j∧j < l.length:=by
 have:=gd_prs (b:=i) hl (fuel l) .arrow i ⟨Nat.le_refl _,hi⟩
 unfold readS at h
 rw[h]at this
 exact this
section
variable {α : Type}
theorem hC {f:FuncId}{k:List V}{p:PRes}(h:cF f k=some p)(K:PRes→Option α):(eF.call f k).bind K=K p:=by rw[show eF.call f k=cF f k from rfl,h];rfl
theorem hB0 (v:Bool)(r:List D)(K:Bool→Option α):(opB (sy.cell (PRes.val (.bool v::r)).leaves 0)).bind K=K v:=rfl
theorem hI0 (v:Int)(r:List D)(K:Int→Option α):(opI (sy.cell (PRes.val (.int .i64 v::r)).leaves 0) .i64).bind K=K v:=rfl
theorem hI1 (d:D)(v:Int)(r:List D)(K:Int→Option α):(opI (sy.cell (PRes.val (d:: .int .i64 v::r)).leaves 1) .i64).bind K=K v:=rfl
theorem hI2 (d e:D)(v:Int)(r:List D)(K:Int→Option α):(opI (sy.cell (PRes.val (d::e:: .int .i64 v::r)).leaves 2) .i64).bind K=K v:=rfl
theorem hI3 (d e f:D)(v:Int)(r:List D)(K:Int→Option α):(opI (sy.cell (PRes.val (d::e::f:: .int .i64 v::r)).leaves 3) .i64).bind K=K v:=rfl
theorem hI4 (d e f g:D)(v:Int)(r:List D)(K:Int→Option α):(opI (sy.cell (PRes.val (d::e::f::g:: .int .i64 v::r)).leaves 4) .i64).bind K=K v:=rfl
theorem hL0 (k:Nat)(v:List (List D))(r:List D)(K:List (List D)→Option α):(opL (sy.cell (PRes.val (.sl k v::r)).leaves 0) k).bind K=K v:=by
 show(opL (some (.sl k v)) k).bind K=K v
 unfold opL;simp
theorem hS0 (v:ByteArray)(r:List D)(K:ByteArray→Option α):(opS (sy.cell (PRes.val (.str v::r)).leaves 0)).bind K=K v:=rfl
theorem hS1 (d:D)(v:ByteArray)(r:List D)(K:ByteArray→Option α):(opS (sy.cell (PRes.val (d:: .str v::r)).leaves 1)).bind K=K v:=rfl
variable (l : List Tk) (en : List (List D)) (s : St) (K : List (List D) → Int → Bool → Int → Int → List (List D) → Option α)
theorem hV0:oV sy (PRes.val (stD l en s)).leaves 0 K=K (trows l) (s.i:Int) s.b s.a s.w en:=rfl
theorem hV1 (d:D):oV sy (PRes.val (d::stD l en s)).leaves 1 K=K (trows l) (s.i:Int) s.b s.a s.w en:=rfl
theorem hV2 (d e:D):oV sy (PRes.val (d::e::stD l en s)).leaves 2 K=K (trows l) (s.i:Int) s.b s.a s.w en:=rfl
theorem hV3 (d e f:D):oV sy (PRes.val (d::e::f::stD l en s)).leaves 3 K=K (trows l) (s.i:Int) s.b s.a s.w en:=rfl
theorem hV4 (t:Tk):oV sy (PRes.val (tkrow t++stD l en s)).leaves 4 K=K (trows l) (s.i:Int) s.b s.a s.w en:=rfl
theorem hT4 (t:Tk)(r:List D)(K:Int→ByteArray→Int→Int→Option α):oT sy (PRes.val (tkrow t++r)).leaves 0 K=K t.k t.s t.n t.a:=rfl
theorem hN0 (a b:List (List D))(i x y:Int)(q:Bool)(r:List D)(K:List (List D)→Int→Bool→Option α):oR sy (PRes.val (.sl 4 a:: .int .i64 i:: .bool q::r)).leaves 0 K=K a i q:=rfl
theorem hN5 (d e f g h:D)(k:Nat)(v:List (List D))(r:List D)(K:List (List D)→Option α):(opL (sy.cell (PRes.val (d::e::f::g::h:: .sl k v::r)).leaves 5) k).bind K=K v:=by
 show(opL (some (.sl k v)) k).bind K=K v
 unfold opL;simp
theorem hN6 (d e f g h i:D)(k:Nat)(v:List (List D))(r:List D)(K:List (List D)→Option α):(opL (sy.cell (PRes.val (d::e::f::g::h::i:: .sl k v::r)).leaves 6) k).bind K=K v:=by
 show(opL (some (.sl k v)) k).bind K=K v
 unfold opL;simp
theorem hNt {β:Type}(a b:β):cond (sy.bnot true) a b=b:=rfl
theorem hNf {β:Type}(a b:β):cond (sy.bnot false) a b=a:=rfl
theorem hCt {β:Type}(a b:β):cond true a b=a:=rfl
theorem hCf {β:Type}(a b:β):cond false a b=b:=rfl
theorem hXt {β:Type}{c:Bool}(h:c=true)(a b:β):cond c a b=a:=by rw[h];rfl
theorem hXf {β:Type}{c:Bool}(h:c=false)(a b:β):cond c a b=b:=by rw[h];rfl
theorem hKt {ρ:Type}(c a b:Bool)(K:List D→Option ρ):cutO (cond c (some (.inl [.bool a])) (some (.inl [.bool b]))) K=K [.bool (cond c a b)]:=by cases c<;>rfl
theorem hB (v:Bool)(K:Bool→Option α):(opB (sy.cell [.bool v] 0)).bind K=K v:=rfl
end
def tyR (l:List Tk)(ens:List En):RM (Int × Int × Int):=(baseR l ens).bind fun b=>(tkR l (bs [91])).bind fun v=>match v with
 |false=>RM.ret (b.1,b.2,0)
 |true=>(tokR l 3).bind fun t=>match decide (t.n < 1) || decide (8 < t.n)with
  |true=>fun j=> .bad (j - 1) 2
  |false=>(needR l [bs [93]]).bind fun _=>RM.ret (b.1,b.2,t.n)
def whenR (l:List Tk):RM (ByteArray × ByteArray):=fun i=>match whenS l i with
 | .ok w j=> .ok w j
 | .bad j=> .bad j 2
 | .out=> .bad 0 2
structure Dc where
 n:ByteArray
 k:Int
 e:Int
 c:Int
 o:ByteArray
 q:ByteArray
def drow (d:Dc):List D:=[.str d.n, .int .i64 d.k, .int .i64 d.e, .int .i64 d.c, .str d.o, .str d.q]
def drows (l:List Dc):List (List D):=l.map drow
theorem drows_len (l:List Dc):(drows l).length=l.length:=by simp [drows]
theorem drows_snoc (l:List Dc)(d:Dc):drows (l++[d])=drows l++[drow d]:=by simp [drows]
def declR (l:List Tk)(ens:List En):RM Dc:=(tokR l 1).bind fun t=>(needR l [bs [58]]).bind fun _=>(tyR l ens).bind fun y=>(tkR l (bs [119,104,101,110])).bind fun v=>match v with
 |true=>(whenR l).bind fun w=>RM.ret ⟨t.s,y.1,y.2.1,y.2.2,w.1,w.2⟩
 |false=>RM.ret ⟨t.s,y.1,y.2.1,y.2.2,bs [],bs []⟩
section
variable {l : List Tk} (hl : LOK l) (ens : List En) (hE : ens.length ≤ 1000000) (s : St) (hs : s.i < l.length)
include hl hs
theorem c_rwhen (hb:s.b=true)(en:List (List D)): ∃x:(ByteArray × ByteArray) × St,cF 1000190 (kR (trows l) (s.i:Int) en s.b s.a s.w)=some (.val (.str x.1.1:: .str x.1.2::stD l en x.2))∧PostP l (whenR l) s x.1 x.2:=by
 have h1:=c_pWhen hl s.i hs
 cases hR:whenS l s.i with
 |out=>exact(whenS_ne hl (prs_HQ hl 0) s.i hR).elim
 |bad j=>
  have hg:=gd_when (b:=s.i) hl ⟨Nat.le_refl _,hs⟩
  rw[hR]at hg
  have hj:j < l.length:=hg.2
  obtain⟨s1,h2,r2,_⟩:=c_rfail hl en s hs j hj 2
  refine⟨((bs [],bs []),s1),?_,⟨r2.le,r2.lt,r2.bad,fun h=> ?_⟩⟩
  ·unfold whenP at h1
   rw[hR]at h1
   simp only [encW]at h1
   refine cOfB (f:=190) (by kernel_rfl) (by with_reducible first|exact dcR .. |exact dcRS .. |exact dcRI .. |exact dcRB .. |exact dcRF .. |exact dcRN .. |exact dcQ .. |exact dcQB ..) (by kernel_rfl) rfl ?_
   rw[b190_eq]
   simp only [b190,oV,oW,oD,oE,oP,oR,oT,stD,List.cons_append,List.nil_append,go1,Nat.reduceAdd,Int.reduceEq,Int.reduceLT,Int.reduceLE,Int.reduceSub,Int.reduceAdd,h1,h2,Bool.not_false]
  ·have g:=r2.good h
   unfold whenR
   rw[hR]
   exact g
 |ok w j=>
  refine⟨(w,⟨j,true,s.a,s.w⟩),?_,⟨whenS_le hl (prs_HQ hl 0) hR,whenS_lt hl hs hR,fun h=>(by rw[hb]at h;cases h),fun h=> ?_⟩⟩
  ·unfold whenP at h1
   rw[hR]at h1
   simp only [encW]at h1
   refine cOfB (f:=190) (by kernel_rfl) (by with_reducible first|exact dcR .. |exact dcRS .. |exact dcRI .. |exact dcRB .. |exact dcRF .. |exact dcRN .. |exact dcQ .. |exact dcQB ..) (by kernel_rfl) rfl ?_
   rw[b190_eq]
   simp only [b190,oV,oW,oD,oE,oP,oR,oT,stD,List.cons_append,List.nil_append,go1,Nat.reduceAdd,Int.reduceEq,Int.reduceLT,Int.reduceLE,Int.reduceSub,Int.reduceAdd,h1,Bool.not_true]
   rw[hb]
  ·unfold whenR
   rw[hR]
   exact⟨rfl,rfl⟩
include hE
theorem c_rty: ∃x:(Int × Int × Int) × St,cF 1000189 (kR (trows l) (s.i:Int) (erows ens) s.b s.a s.w)=some (.val (.int .i64 x.1.1:: .int .i64 x.1.2.1:: .int .i64 x.1.2.2::stD l (erows ens) x.2))∧PostP l (tyR l ens) s x.1 x.2:=by
 obtain⟨⟨b,s1⟩,h1,r1⟩:=c_rbase hl ens hE s hs
 simp only at h1 r1
 obtain⟨v,s2,h2,r2,_⟩:=c_rtake hl (erows ens) s1 r1.lt (bs [91])
 cases v with
 |false=>
  refine⟨((b.1,b.2,0),s2),?_,r1.bind (r2.bind (Post.ret r2.lt))⟩
  refine cOfB (f:=189) (by kernel_rfl) (by with_reducible first|exact dcR .. |exact dcRS .. |exact dcRI .. |exact dcRB .. |exact dcRF .. |exact dcRN .. |exact dcQ .. |exact dcQB ..) (by kernel_rfl) rfl ?_
  rw[b189_eq]
  unfold b189
  simp only [↓hB0, ↓hI0, ↓hI1, ↓hI2, ↓hI3, ↓hI4, ↓hL0, ↓hS0, ↓hS1, ↓hV0, ↓hV1, ↓hV2, ↓hV3, ↓hV4, ↓hT4, ↓hN0, ↓hN5, ↓hN6, ↓hNt, ↓hNf, ↓hCt, ↓hCf, ↓hKt, ↓hB, ↓hC h1, ↓hC h2]
  rfl
 |true=>
  obtain⟨t,s3,h3,r3⟩:=c_rof hl (erows ens) s2 r2.lt 3 (by omega)
  have h3:cF 1000094 (kRI 3 (trows l) (s2.i:Int) (erows ens) s2.b s2.a s2.w)=_:=h3
  obtain⟨s4,h4,r4,_⟩:=c_rfail hl (erows ens) s3 r3.lt s2.i r2.lt 2
  have hback:=post_back (u:=((b.1,b.2,0):Int × Int × Int)) hl s2 r2.lt r3 r4
  obtain⟨s5,h5,r5⟩:=c_rneed hl (erows ens) s3 r3.lt [bs [93]] (by simp)
  rw[←srow1]at h5
  cases hc:decide (t.n < 1) || decide (8 < t.n)with
  |true=>
   refine⟨((b.1,b.2,0),s4),?_,r1.bind (r2.bind (r3.bind ?_))⟩
   ·have hx:cond (sy.ilt t.n 1) true (sy.ilt 8 t.n)=true:=by
     show cond (decide (t.n < 1)) true (decide (8 < t.n))=true
     revert hc;cases decide (t.n < 1)<;>cases decide (8 < t.n)<;>intro hc<;>first|rfl|cases hc
    refine cOfB (f:=189) (by kernel_rfl) (by with_reducible first|exact dcR .. |exact dcRS .. |exact dcRI .. |exact dcRB .. |exact dcRF .. |exact dcRN .. |exact dcQ .. |exact dcQB ..) (by kernel_rfl) rfl ?_
    rw[b189_eq]
    unfold b189
    simp only [↓hB0, ↓hI0, ↓hI1, ↓hI2, ↓hI3, ↓hI4, ↓hL0, ↓hS0, ↓hS1, ↓hV0, ↓hV1, ↓hV2, ↓hV3, ↓hV4, ↓hT4, ↓hN0, ↓hN5, ↓hN6, ↓hNt, ↓hNf, ↓hCt, ↓hCf, ↓hKt, ↓hB, ↓hC h1, ↓hC h2, ↓hC h3, ↓hC h4, ↓hXt hx]
    rfl
   ·simp only [hc];exact hback
  |false=>
   refine⟨((b.1,b.2,t.n),s5),?_,r1.bind (r2.bind (r3.bind ?_))⟩
   ·have hx:cond (sy.ilt t.n 1) true (sy.ilt 8 t.n)=false:=by
     show cond (decide (t.n < 1)) true (decide (8 < t.n))=false
     revert hc;cases decide (t.n < 1)<;>cases decide (8 < t.n)<;>intro hc<;>first|rfl|cases hc
    refine cOfB (f:=189) (by kernel_rfl) (by with_reducible first|exact dcR .. |exact dcRS .. |exact dcRI .. |exact dcRB .. |exact dcRF .. |exact dcRN .. |exact dcQ .. |exact dcQB ..) (by kernel_rfl) rfl ?_
    rw[b189_eq]
    unfold b189
    simp only [↓hB0, ↓hI0, ↓hI1, ↓hI2, ↓hI3, ↓hI4, ↓hL0, ↓hS0, ↓hS1, ↓hV0, ↓hV1, ↓hV2, ↓hV3, ↓hV4, ↓hT4, ↓hN0, ↓hN5, ↓hN6, ↓hNt, ↓hNf, ↓hCt, ↓hCf, ↓hKt, ↓hB, ↓hC h1, ↓hC h2, ↓hC h3, ↓hC h5, ↓hXf hx]
    rfl
   ·simp only [hc];exact r5.bind (Post.ret r5.lt)
theorem c_rdecl: ∃x:Dc × St,cF 1000146 (kR (trows l) (s.i:Int) (erows ens) s.b s.a s.w)=some (.val (drow x.1++stD l (erows ens) x.2))∧PostP l (declR l ens) s x.1 x.2:=by
 obtain⟨t,s1,h1,r1⟩:=c_rof hl (erows ens) s hs 1 (by omega)
 have h1:cF 1000094 (kRI 1 (trows l) (s.i:Int) (erows ens) s.b s.a s.w)=_:=h1
 obtain⟨s2,h2,r2⟩:=c_rneed hl (erows ens) s1 r1.lt [bs [58]] (by simp)
 rw[←srow1]at h2
 obtain⟨⟨y,s3⟩,h3,r3⟩:=c_rty hl ens hE s2 r2.lt
 simp only at h3 r3
 obtain⟨v,s4,h4,r4,hv⟩:=c_rtake hl (erows ens) s3 r3.lt (bs [119,104,101,110])
 cases v with
 |true=>
  have hb:s4.b=true:=by
   have g:=r4.good (hv rfl).1
   cases hm:tkR l (bs [119,104,101,110]) s3.i with
   |ok a j=>rw[hm]at g;rw[g.2]
   |bad p c=>unfold tkR at hm;split at hm<;>cases hm
  obtain⟨⟨w,s5⟩,h5,r5⟩:=c_rwhen hl s4 r4.lt hb (erows ens)
  simp only at h5 r5
  refine⟨(⟨t.s,y.1,y.2.1,y.2.2,w.1,w.2⟩,s5),?_,r1.bind (r2.bind (r3.bind (r4.bind (r5.bind (Post.ret r5.lt)))))⟩
  refine cOfB (f:=146) (by kernel_rfl) (by with_reducible first|exact dcR .. |exact dcRS .. |exact dcRI .. |exact dcRB .. |exact dcRF .. |exact dcRN .. |exact dcQ .. |exact dcQB ..) (by kernel_rfl) rfl ?_
  rw[b146_eq]
  unfold b146
  simp only [↓hB0, ↓hI0, ↓hI1, ↓hI2, ↓hI3, ↓hI4, ↓hL0, ↓hS0, ↓hS1, ↓hV0, ↓hV1, ↓hV2, ↓hV3, ↓hV4, ↓hT4, ↓hN0, ↓hN5, ↓hN6, ↓hNt, ↓hNf, ↓hCt, ↓hCf, ↓hKt, ↓hB, ↓hC h1, ↓hC h2, ↓hC h3, ↓hC h4, ↓hC h5]
  rfl
 |false=>
  refine⟨(⟨t.s,y.1,y.2.1,y.2.2,bs [],bs []⟩,s4),?_,r1.bind (r2.bind (r3.bind (r4.bind (Post.ret r4.lt))))⟩
  refine cOfB (f:=146) (by kernel_rfl) (by with_reducible first|exact dcR .. |exact dcRS .. |exact dcRI .. |exact dcRB .. |exact dcRF .. |exact dcRN .. |exact dcQ .. |exact dcQB ..) (by kernel_rfl) rfl ?_
  rw[b146_eq]
  unfold b146
  simp only [↓hB0, ↓hI0, ↓hI1, ↓hI2, ↓hI3, ↓hI4, ↓hL0, ↓hS0, ↓hS1, ↓hV0, ↓hV1, ↓hV2, ↓hV3, ↓hV4, ↓hT4, ↓hN0, ↓hN5, ↓hN6, ↓hNt, ↓hNf, ↓hCt, ↓hCf, ↓hKt, ↓hB, ↓hC h1, ↓hC h2, ↓hC h3, ↓hC h4]
  rfl
end
def exprR (l:List Tk):RM Ex:=fun i=>match readS l i with
 | .out=> .bad i 1
 | .bad j=> .bad j 2
 | .ok e j=>bif !smallB e then .bad i 3 else bif !allB e then .bad i 1 else .ok e j
structure Eqn where
 ns:List ByteArray
 e:Ex
def qrow (q:Eqn):List D:= .sl 1 (srows q.ns)::q.e.row
def qrows (l:List Eqn):List (List D):=l.map qrow
theorem qrows_len (l:List Eqn):(qrows l).length=l.length:=by simp [qrows]
theorem qrows_snoc (l:List Eqn)(d:Eqn):qrows (l++[d])=qrows l++[qrow d]:=by simp [qrows]
def eqR (l:List Tk):RM Eqn:=(namesR l 1).bind fun ns=>(needR l [bs [61]]).bind fun _=>(exprR l).bind fun e=>(needR l [bs [59]]).bind fun _=>RM.ret ⟨ns,e⟩
theorem exprR_part {l:List Tk}(hl:LOK l){i:Nat}(hi:i < l.length):(∃e j,exprR l i= .ok e j∧partS l i=(e,(j:Int),0)∧i≤j∧j < l.length)∨ ∃p c,exprR l i= .bad p c∧partS l i=(e0,(p:Int),c)∧i≤p∧p < l.length∧c≠0:=by
 unfold exprR partS
 cases hR:readS l i with
 |out=>exact .inr ⟨i,1,rfl,rfl,Nat.le_refl _,hi,by decide⟩
 |bad j=>exact .inr ⟨j,2,rfl,rfl,(readS_gd hl hi hR).1,(readS_gd hl hi hR).2,by decide⟩
 |ok e j=>
  have h:=(prs_HQ hl (fuel l)).pos _ _ _ _ hi hR
  simp only
  cases smallB e with
  |false=>exact .inr ⟨i,3,rfl,rfl,Nat.le_refl _,hi,by decide⟩
  |true=>
   cases allB e with
   |false=>exact .inr ⟨i,1,rfl,rfl,Nat.le_refl _,hi,by decide⟩
   |true=>exact .inl ⟨e,j,rfl,rfl,by omega,h.2⟩
theorem hEm {α:Type}(k n o:Int)(q:ByteArray)(a:List ByteArray)(u:List Ex)(r:List D)(K:Int→Int→ByteArray→Int→List (List D)→List (List D)→Option α):oE sy (PRes.val ((Ex.mk k n q o a u).row++r)).leaves 0 K=K k n q o (srows a) (Ex.rows u):=rfl
theorem hE6 {α:Type}(k n o v:Int)(q:ByteArray)(a:List ByteArray)(u:List Ex)(r:List D)(K:Int→Option α):(opI (sy.cell (PRes.val ((Ex.mk k n q o a u).row++ .int .i64 v::r)).leaves 6) .i64).bind K=K v:=rfl
theorem hE7 {α:Type}(k n o v:Int)(d:D)(q:ByteArray)(a:List ByteArray)(u:List Ex)(r:List D)(K:Int→Option α):(opI (sy.cell (PRes.val ((Ex.mk k n q o a u).row++d:: .int .i64 v::r)).leaves 7) .i64).bind K=K v:=rfl
theorem hV6 {α:Type}(l:List Tk)(en:List (List D))(s:St)(k n o:Int)(q:ByteArray)(a:List ByteArray)(u:List Ex)(K:List (List D)→Int→Bool→Int→Int→List (List D)→Option α):oV sy (PRes.val ((Ex.mk k n q o a u).row++stD l en s)).leaves 6 K=K (trows l) (s.i:Int) s.b s.a s.w en:=rfl
section
variable {l : List Tk} (hl : LOK l) (ht : TS l) (en : List (List D)) (s : St) (hs : s.i < l.length)
include hl hs ht
theorem c_rexpr: ∃x:Ex × St,cF 1000147 (kR (trows l) (s.i:Int) en s.b s.a s.w)=some (.val (x.1.row++stD l en x.2))∧PostP l (exprR l) s x.1 x.2:=by
 cases hb:s.b with
 |false=>
  refine⟨(e0,s),?_,post_bad hs hb⟩
  refine cOfB (f:=147) (by kernel_rfl) (by with_reducible first|exact dcR .. |exact dcRS .. |exact dcRI .. |exact dcRB .. |exact dcRF .. |exact dcRN .. |exact dcQ .. |exact dcQB ..) (by kernel_rfl) rfl ?_
  rw[b147_eq]
  unfold b147
  simp only [↓hB0, ↓hI0, ↓hI1, ↓hI2, ↓hI3, ↓hI4, ↓hL0, ↓hS0, ↓hS1, ↓hV0, ↓hV1, ↓hV2, ↓hV3, ↓hV4, ↓hT4, ↓hN0, ↓hN5, ↓hN6, ↓hNt, ↓hNf, ↓hCt, ↓hCf, ↓hKt, ↓hB]
  rw[←hb];rfl
 |true=>
  have h1:=c_pPart hl ht s.i hs
  rcases exprR_part hl hs with⟨e,j,hR,hP,hij,hj⟩|⟨p,c,hR,hP,_,hp,hc⟩
  ·rw[hP]at h1
   obtain⟨k,n,q,o,a,u⟩:=e
   refine⟨(.mk k n q o a u,⟨j,true,s.a,s.w⟩),?_,⟨hij,hj,fun h=>(by rw[hb]at h;cases h),fun _=>by rw[hR];exact⟨rfl,rfl⟩⟩⟩
   refine cOfB (f:=147) (by kernel_rfl) (by with_reducible first|exact dcR .. |exact dcRS .. |exact dcRI .. |exact dcRB .. |exact dcRF .. |exact dcRN .. |exact dcQ .. |exact dcQB ..) (by kernel_rfl) rfl ?_
   rw[b147_eq]
   unfold b147
   simp only [↓hB0, ↓hI0, ↓hI1, ↓hI2, ↓hI3, ↓hI4, ↓hL0, ↓hS0, ↓hS1, ↓hV0, ↓hV1, ↓hV2, ↓hV3, ↓hV4, ↓hT4, ↓hN0, ↓hN5, ↓hN6, ↓hNt, ↓hNf, ↓hCt, ↓hCf, ↓hKt, ↓hB, ↓hC h1]
   rfl
  ·rw[hP]at h1
   obtain⟨s1,h2,r2,_⟩:=c_rfail hl en s hs p hp c
   rw[hb]at h2
   have hx:sy.bnot (sy.ieq c 0)=true:=by
    show(!decide (c=0))=true
    rw[decF hc];rfl
   refine⟨(e0,s1),?_,⟨r2.le,r2.lt,r2.bad,fun h=>by rw[hR];exact r2.good h⟩⟩
   have h1:cF 191 [.d (.sl 4 (trows l)), .d (.int .i64 (s.i:Int))]=some (.val ((Ex.mk 0 0 (bs []) 0 [] []).row++[.int .i64 (p:Int), .int .i64 c])):=h1
   refine cOfB (f:=147) (by kernel_rfl) (by with_reducible first|exact dcR .. |exact dcRS .. |exact dcRI .. |exact dcRB .. |exact dcRF .. |exact dcRN .. |exact dcQ .. |exact dcQB ..) (by kernel_rfl) rfl ?_
   rw[b147_eq]
   unfold b147
   simp only [↓hB0, ↓hI0, ↓hI1, ↓hI2, ↓hI3, ↓hI4, ↓hL0, ↓hS0, ↓hS1, ↓hV0, ↓hV1, ↓hV2, ↓hV3, ↓hV4, ↓hT4, ↓hN0, ↓hN5, ↓hN6, ↓hNt, ↓hNf, ↓hCt, ↓hCf, ↓hKt, ↓hB, ↓hC h1, ↓hC h2, ↓hEm, ↓hE6, ↓hE7, ↓hXt hx]
   rfl
theorem c_req: ∃x:Eqn × St,cF 1000098 (kR (trows l) (s.i:Int) en s.b s.a s.w)=some (.val (qrow x.1++stD l en x.2))∧PostP l (eqR l) s x.1 x.2:=by
 obtain⟨⟨ns,s1⟩,h1,r1⟩:=c_rnames hl en s hs 1 (by omega)
 simp only at h1 r1
 have h1:cF 1000096 (kRI 1 (trows l) (s.i:Int) en s.b s.a s.w)=_:=h1
 obtain⟨s2,h2,r2⟩:=c_rneed hl en s1 r1.lt [bs [61]] (by simp)
 rw[←srow1]at h2
 obtain⟨⟨e,s3⟩,h3,r3⟩:=c_rexpr hl ht en s2 r2.lt
 simp only at h3 r3
 obtain⟨s4,h4,r4⟩:=c_rneed hl en s3 r3.lt [bs [59]] (by simp)
 rw[←srow1]at h4
 refine⟨(⟨ns,e⟩,s4),?_,r1.bind (r2.bind (r3.bind (r4.bind (Post.ret r4.lt))))⟩
 obtain⟨k,n,q,o,a,u⟩:=e
 refine cOfB (f:=98) (by kernel_rfl) (by with_reducible first|exact dcR .. |exact dcRS .. |exact dcRI .. |exact dcRB .. |exact dcRF .. |exact dcRN .. |exact dcQ .. |exact dcQB ..) (by kernel_rfl) rfl ?_
 rw[b98_eq]
 unfold b98
 simp only [↓hB0, ↓hI0, ↓hI1, ↓hI2, ↓hI3, ↓hI4, ↓hL0, ↓hS0, ↓hS1, ↓hV0, ↓hV1, ↓hV2, ↓hV3, ↓hV4, ↓hT4, ↓hN0, ↓hN5, ↓hN6, ↓hNt, ↓hNf, ↓hCt, ↓hCf, ↓hKt, ↓hB, ↓hC h1, ↓hC h2, ↓hC h3, ↓hC h4, ↓hEm, ↓hV6]
 rfl
end
def bLet:ByteArray:=bs [108,101,116]
def moreR (l:List Tk)(last:Bool):RM Bool:=fun i=>match isT l i (bs [59])&& !(last&&isT l (i+1) bLet)with
 |true=> .ok true (i+1)
 |false=> .ok false i
def declsL (l:List Tk)(ens:List En)(last:Bool):Nat→List Dc→RM (List Dc)
 |0,acc=>RM.ret acc
 |n+1,acc=>(moreR l last).bind fun v=>match v with
  |true=>(declR l ens).bind fun d=>declsL l ens last n (acc++[d])
  |false=>RM.ret acc
def declsR (l:List Tk)(ens:List En)(last:Bool):RM (List Dc):=(declR l ens).bind fun d=>declsL l ens last l.length [d]
theorem hIs {α:Type}{l:List Tk}{j:Int}{i:Nat}(hj:j=(i:Int))(hi:i < l.length)(x:ByteArray)(K:List D→Option α):
  ((opI (sy.cell (sy.row (trows l) j) 0) .i64).bind fun n1=>(opS (sy.cell (sy.row (trows l) j) 1)).bind fun s2=>(opI (sy.cell (sy.row (trows l) j) 2) .i64).bind fun n3=>(opI (sy.cell (sy.row (trows l) j) 3) .i64).bind fun n4=>
    cutO (cond (sy.seq s2 x) (cond (sy.ieq n1 1) (some (.inl [.bool true])) (some (.inl [.bool (sy.ieq n1 5)]))) (some (.inl [.bool false]))) K)=K [.bool (isT l i x)]:=by
 subst hj
 rw[row_tk hi]
 show cutO (cond ((tkA l i).s.toList == x.toList) (cond (decide ((tkA l i).k=1)) (some (.inl [.bool true])) (some (.inl [.bool (decide ((tkA l i).k=5))]))) (some (.inl [.bool false]))) K=_
 rw[seq_tb]
 unfold isT
 cases decide (tb (tkA l i).s=tb x)<;>cases decide ((tkA l i).k=1)<;>rfl
theorem hD0 {α:Type}(d:Dc)(r:List D)(K:ByteArray→Int→Int→Int→ByteArray→ByteArray→Option α):oD sy (PRes.val (drow d++r)).leaves 0 K=K d.n d.k d.e d.c d.o d.q:=rfl
theorem hVd {α:Type}(l:List Tk)(en:List (List D))(s:St)(d:Dc)(K:List (List D)→Int→Bool→Int→Int→List (List D)→Option α):oV sy (PRes.val (drow d++stD l en s)).leaves 6 K=K (trows l) (s.i:Int) s.b s.a s.w en:=rfl
theorem lB {α:Type}(v:Bool)(r:List D)(K:Bool→Option α):(opB (sy.cell (.bool v::r) 0)).bind K=K v:=rfl
theorem lV {α:Type}(v:D)(l:List Tk)(en:List (List D))(s:St)(r:List D)(K:List (List D)→Int→Bool→Int→Int→List (List D)→Option α):oV sy (v::(stD l en s++r)) 1 K=K (trows l) (s.i:Int) s.b s.a s.w en:=rfl
theorem lL {α:Type}(v:D)(l:List Tk)(en:List (List D))(s:St)(k:Nat)(x:List (List D))(r:List D)(K:List (List D)→Option α):(opL (sy.cell (v::(stD l en s++ .sl k x::r)) 7) k).bind K=K x:=by
 show(opL (some (.sl k x)) k).bind K=K x
 unfold opL;simp
section
variable {l : List Tk} (hl : LOK l) (ens : List En) (hE : ens.length ≤ 1000000) (s : St) (hs : s.i < l.length)
include hl hs hE
theorem c_rdecls (f:Bool): ∃x:List Dc × St,cF 1000097 (kRB f (trows l) (s.i:Int) (erows ens) s.b s.a s.w)=some (.val (.sl 6 (drows x.1)::stD l (erows ens) x.2))∧PostP l (declsR l ens f) s x.1 x.2:=by
 have hf:=hl.few
 obtain⟨⟨d,s0⟩,h0,r0⟩:=c_rdecl hl ens hE s hs
 simp only at h0 r0
 refine cOfBX (f:=97) (by kernel_rfl) (by with_reducible first|exact dcRB ..) (by kernel_rfl) rfl ?_
 rw[b97_eq]
 unfold b97
 simp only [↓hC h0, ↓hD0, ↓hVd]
 rw[eF_lp]
 refine(loop_ex (σ:=Nat × List Dc × St) (ρ:=List Dc × St) (c:=fun x=>PRes.val (.sl 6 (drows x.1)::stD l (erows ens) x.2)) (fun x=> .bool f::(stD l (erows ens) x.2.2++[.sl 6 (drows x.2.1)]))
  (fun x=>l.length - x.2.2.i≤x.1∧x.2.1.length≤x.2.2.i+1∧x.2.2.i < l.length) (fun x=>x.1) (fun x y=>PostP l (declsL l ens f x.1 x.2.1) x.2.2 y.1 y.2) ?_ (l.length,[d],s0) ⟨by simp only;omega,by simp,r0.lt⟩).imp fun x h=>⟨h.1,r0.bind h.2⟩
 rintro⟨n,acc,s⟩ ⟨hn,ha,hs⟩
 simp only at hn ha hs ⊢
 obtain⟨n,rfl⟩: ∃m,n=m+1:=⟨n - 1,by omega⟩
 cases hb:s.b with
 |false=>
  right
  refine⟨(acc,s),?_,post_bad hs hb⟩
  simp only [↓lB, ↓lV, ↓lL, ↓hXf hb]
  rfl
 |true=>
  have e0:sy.wrap .i64 (sy.add (s.i:Int) 0)=(s.i:Int):=by
   show IntKind.i64.wrap ((s.i:Int)+0)=_
   rw[Int.add_zero];exact wrap_id (by omega) (by omega)
  have e1:sy.wrap .i64 (sy.add (s.i:Int) 1)=((s.i+1:Nat):Int):=by
   show IntKind.i64.wrap ((s.i:Int)+1)=_
   rw[wrap_succ (n:=l.length) hs (by omega)];rfl
  have c0:sy.ile (sy.rlen (trows l)) (sy.wrap .i64 (sy.add (s.i:Int) 0))=false:=by
   rw[e0];exact decF (by show ¬((trows l).length:Int)≤_;rw[trows_len];omega)
  have d0:sy.inr (sy.wrap .i64 (sy.add (s.i:Int) 0)) (sy.rlen (trows l))=true:=by rw[e0];exact in_tk hs
  cases hT:isT l s.i (bs [59])with
  |false=>
   right
   refine⟨(acc,s),?_,?_⟩
   ·simp only [↓lB, ↓lV, ↓lL, ↓hXt hb, ↓hXf c0, ↓hXt d0, ↓hIs e0 hs, ↓hB,hT, ↓hCf]
    rfl
   ·have hm:moreR l f s.i= .ok false s.i:=by unfold moreR;rw[hT];rfl
    refine⟨Nat.le_refl _,hs,fun _=>rfl,fun _=> ?_⟩
    unfold declsL RM.bind
    rw[hm]
    obtain⟨i,b,a,w⟩:=s
    cases hb
    exact⟨rfl,rfl⟩
  |true=>
   have hi1:s.i+1 < l.length:=hl.next hs (isT_k hT)
   have c1:sy.ile (sy.rlen (trows l)) (sy.wrap .i64 (sy.add (s.i:Int) 1))=false:=by
    rw[e1];exact decF (by show ¬((trows l).length:Int)≤_;rw[trows_len];omega)
   have d1:sy.inr (sy.wrap .i64 (sy.add (s.i:Int) 1)) (sy.rlen (trows l))=true:=by rw[e1];exact in_tk hi1
   by_cases hstop:(f&&isT l (s.i+1) bLet)=true
   ·right
    have hff:f=true:=by cases f<;>simp_all
    subst hff
    have hL:isT l (s.i+1) (bs [108,101,116])=true:=by simpa [bLet]using hstop
    refine⟨(acc,s),?_,?_⟩
    ·simp only [↓lB, ↓lV, ↓lL, ↓hXt hb, ↓hXf c0, ↓hXt d0, ↓hIs e0 hs, ↓hB,hT, ↓hCt, ↓hXf c1, ↓hXt d1, ↓hIs e1 hi1,hL, ↓hNt]
     rfl
    ·have hm:moreR l true s.i= .ok false s.i:=by unfold moreR;rw[hT];simp only [bLet,hL];rfl
     refine⟨Nat.le_refl _,hs,fun _=>rfl,fun _=> ?_⟩
     unfold declsL RM.bind
     rw[hm]
     obtain⟨i,b,a,w⟩:=s
     cases hb
     exact⟨rfl,rfl⟩
   ·left
    obtain⟨s1,h1,r1⟩:=c_rneed hl (erows ens) s hs [bs [59]] (by simp)
    rw[←srow1]at h1
    obtain⟨⟨d2,s2⟩,h2,r2⟩:=c_rdecl hl ens hE s1 r1.lt
    simp only at h2 r2
    have hm:moreR l f s.i= .ok true (s.i+1):=by
     unfold moreR;rw[hT]
     cases h:(f&&isT l (s.i+1) bLet)with
     |true=>exact(hstop h).elim
     |false=>rfl
    have hnd:needR l [bs [59]] s.i= .ok () (s.i+1):=by simp [needR,needS,hT]
    have g:=r1.good hb
    rw[hnd]at g
    have rm:PostP l (moreR l f) s true s1:=⟨r1.le,r1.lt,r1.bad,fun _=>by rw[hm];exact⟨rfl,g.2⟩⟩
    have hs1:s1.i=s.i+1:=by rw[g.2]
    have hfit:sy.fits (drows acc) [drow d2] 72=true:=fitsR (drows acc) [drow d2] 72 (by rw[drows_len];simp only [List.length_cons,List.length_nil];omega)
    refine⟨(n,acc++[d2],s2),?_,⟨?_,?_,r2.lt⟩,Nat.lt_succ_self _,fun y hy=>rm.bind (r2.bind hy)⟩
    ·have fin:sy.rapp (drows acc) [drow d2]=drows (acc++[d2]):=by rw[drows_snoc];rfl
     cases f with
     |false=>
      simp only [↓lB, ↓lV, ↓lL, ↓hXt hb, ↓hXf c0, ↓hXt d0, ↓hIs e0 hs, ↓hB,hT, ↓hCt, ↓hCf, ↓hNf, ↓hC h1, ↓hN0, ↓hI3, ↓hI4, ↓hN5, ↓hN6, ↓hC h2, ↓hD0, ↓hVd]
      rw[←fin]
      exact hXt hfit _ _
     |true=>
      have hL:isT l (s.i+1) (bs [108,101,116])=false:=by
       cases h:isT l (s.i+1) (bs [108,101,116])with
       |true=>exact(hstop (by simpa [bLet]using h)).elim
       |false=>rfl
      simp only [↓lB, ↓lV, ↓lL, ↓hXt hb, ↓hXf c0, ↓hXt d0, ↓hIs e0 hs, ↓hB,hT, ↓hCt, ↓hXf c1, ↓hXt d1, ↓hIs e1 hi1,hL, ↓hNf, ↓hC h1, ↓hN0, ↓hI3, ↓hI4, ↓hN5, ↓hN6, ↓hC h2, ↓hD0, ↓hVd]
      rw[←fin]
      exact hXt hfit _ _
    ·have:=r2.le;simp only;omega
    ·have:=r2.le;simp only [List.length_append,List.length_cons,List.length_nil];omega
end
structure Nd where
 n:ByteArray
 ins:List Dc
 outs:List Dc
 vars:List Dc
 eqs:List Eqn
def nrow (n:Nd):List D:=[.str n.n, .sl 6 (drows n.ins), .sl 6 (drows n.outs), .sl 6 (drows n.vars), .sl 7 (qrows n.eqs)]
def nrows (l:List Nd):List (List D):=l.map nrow
theorem nrows_len (l:List Nd):(nrows l).length=l.length:=by simp [nrows]
theorem nrows_snoc (l:List Nd)(d:Nd):nrows (l++[d])=nrows l++[nrow d]:=by simp [nrows]
def insR (l:List Tk)(ens:List En):RM (List Dc):=(tkR l (bs [41])).bind fun v=>match v with
 |false=>(declsR l ens false).bind fun d=>(needR l [bs [41]]).bind fun _=>RM.ret d
 |true=>RM.ret []
def varsR (l:List Tk)(ens:List En):RM (List Dc):=(tkR l (bs [118,97,114])).bind fun v=>match v with
 |true=>(declsR l ens true).bind fun d=>(needR l [bs [59]]).bind fun _=>RM.ret d
 |false=>RM.ret []
def eqsL (l:List Tk):Nat→List Eqn→RM (List Eqn)
 |0,acc=>RM.ret acc
 |n+1,acc=>(tkR l (bs [116,101,108])).bind fun v=>match v with
  |true=>RM.ret acc
  |false=>(eqR l).bind fun q=>eqsL l n (acc++[q])
def nodeR (l:List Tk)(ens:List En):RM Nd:=(tokR l 1).bind fun t=>(needR l [bs [40]]).bind fun _=>(insR l ens).bind fun i=>(needR l [bs [114,101,116,117,114,110,115],bs [40]]).bind fun _=>(declsR l ens false).bind fun o=>(needR l [bs [41]]).bind fun _=>(varsR l ens).bind fun w=>(needR l [bLet]).bind fun _=>(eqsL l l.length []).bind fun q=>RM.ret ⟨t.s,i,o,w,q⟩
theorem cut_step {ρ τ α:Type}{X:Option (List D ⊕ α)}{K:List D→Option α}{cc:τ→α}{R:τ→Prop}(c:ρ→List D)(Q:ρ→Prop)(h: ∃y,X=some (.inl (c y))∧Q y)(hK: ∀y,Q y→ ∃x,K (c y)=some (cc x)∧R x): ∃x,cutO X K=some (cc x)∧R x:=by
 obtain⟨y,rfl,hy⟩:=h
 exact hK y hy
theorem bind_ok {α β:Type}{m:RM α}{k:α→RM β}{i j:Nat}{b:β}(h:m.bind k i= .ok b j): ∃a x,m i= .ok a x∧k a x= .ok b j:=by
 unfold RM.bind at h
 split at h
 ·rename_i a x hm;exact⟨a,x,hm,h⟩
 ·cases h
theorem tkR_ok {l:List Tk}{w:ByteArray}{i j:Nat}{v:Bool}(h:tkR l w i= .ok v j):i≤j:=by
 unfold tkR at h;split at h<;>cases h<;>omega
theorem needR_ok {l:List Tk}{w:List ByteArray}{i j:Nat}{v:Unit}(h:needR l w i= .ok v j):i≤j:=by
 unfold needR at h
 split at h
 ·rename_i hn;cases h;exact needS_le hn
 ·cases h
 ·cases h
theorem namesL_ok {l:List Tk}{k:Int}: ∀(n:Nat) (acc:List ByteArray) {i j:Nat} {r:List ByteArray},namesL l k n acc i= .ok r j→i≤j
 |0,acc,i,j,r,h=>by cases h;exact Nat.le_refl _
 |n+1,acc,i,j,r,h=>by
  unfold namesL at h
  obtain⟨v,x,h1,h2⟩:=bind_ok h
  have:=tkR_ok h1
  cases v with
  |true=>
   obtain⟨t,y,h3,h4⟩:=bind_ok h2
   have:=(tokR_ok h3).2
   have:=namesL_ok n _ h4
   omega
  |false=>cases h2;omega
theorem eqR_pos {l:List Tk}(ht:TS l){i j:Nat}{q:Eqn}(h:eqR l i= .ok q j):i < j:=by
 unfold eqR at h
 obtain⟨ns,x,h1,h⟩:=bind_ok h
 obtain⟨_,y,h2,h⟩:=bind_ok h
 obtain⟨e,z,h3,h⟩:=bind_ok h
 obtain⟨_,u,h4,h⟩:=bind_ok h
 cases h
 unfold namesR at h1
 obtain⟨t,a,h5,h6⟩:=bind_ok h1
 have:=(tokR_ok h5).2
 have:=namesL_ok _ _ h6
 have:=needR_ok h2
 have:=needR_ok h4
 have h7:y≤z:=by
  unfold exprR at h3
  split at h3
  ·cases h3
  ·cases h3
  ·rename_i e2 j2 hR
   revert h3
   cases smallB e2<;>cases allB e2<;>intro h3<;>first|(cases h3;done)|skip
   cases h3
   have:=(readS_sz ht hR).1
   omega
 omega
section
variable {α : Type} (l : List Tk) (en : List (List D)) (s : St) (r : List D) (d e f g : D) (k : Nat) (x : List (List D)) (K : List (List D) → Option α)
theorem lV0 (K:List (List D)→Int→Bool→Int→Int→List (List D)→Option α):oV sy (stD l en s++r) 0 K=K (trows l) (s.i:Int) s.b s.a s.w en:=(rfl)
theorem lS6 (x:ByteArray)(K:ByteArray→Option α):(opS (sy.cell (stD l en s++ .str x::r) 6)).bind K=K x:=(rfl)
theorem lS7 (x:ByteArray)(K:ByteArray→Option α):(opS (sy.cell (stD l en s++d:: .str x::r) 7)).bind K=K x:=(rfl)
theorem opL_eq:(opL (some (.sl k x)) k).bind K=K x:=by unfold opL;simp
theorem lL8:(opL (sy.cell (stD l en s++d::e:: .sl k x::r) 8) k).bind K=K x:=opL_eq k x K
theorem lL9:(opL (sy.cell (stD l en s++d::e::f:: .sl k x::r) 9) k).bind K=K x:=opL_eq k x K
theorem lL10:(opL (sy.cell (stD l en s++d::e::f::g:: .sl k x::r) 10) k).bind K=K x:=opL_eq k x K
theorem lL11 (h:D):(opL (sy.cell (stD l en s++d::e::f::g::h:: .sl k x::r) 11) k).bind K=K x:=opL_eq k x K
end
theorem hQ0 {α:Type}(q:Eqn)(r:List D)(K:List (List D)→Option α):(opL (sy.cell (PRes.val (qrow q++r)).leaves 0) 1).bind K=K (srows q.ns):=by
 show(opL (some (.sl 1 (srows q.ns))) 1).bind K=_
 unfold opL;simp
theorem hQ1 {α:Type}(k n o:Int)(q:ByteArray)(a ns:List ByteArray)(u:List Ex)(r:List D)(K:Int→Int→ByteArray→Int→List (List D)→List (List D)→Option α):oE sy (PRes.val (qrow ⟨ns,Ex.mk k n q o a u⟩++r)).leaves 1 K=K k n q o (srows a) (Ex.rows u):=rfl
theorem hQ7 {α:Type}(l:List Tk)(en:List (List D))(s:St)(q:Eqn)(K:List (List D)→Int→Bool→Int→Int→List (List D)→Option α):oV sy (PRes.val (qrow q++stD l en s)).leaves 7 K=K (trows l) (s.i:Int) s.b s.a s.w en:=by
 obtain⟨ns,e⟩:=q
 obtain⟨k,m,y,o,a,u⟩:=e
 rfl
section
variable {l : List Tk} (hl : LOK l) (ht : TS l) (ens : List En) (hE : ens.length ≤ 1000000) (s : St) (hs : s.i < l.length)
include hl ht hE hs
theorem c_rnode: ∃x:Nd × St,cF 1000053 (kR (trows l) (s.i:Int) (erows ens) s.b s.a s.w)=some (.val (nrow x.1++stD l (erows ens) x.2))∧PostP l (nodeR l ens) s x.1 x.2:=by
 have hf:=hl.few
 obtain⟨t,s1,h1,r1⟩:=c_rof hl (erows ens) s hs 1 (by omega)
 have h1:cF 1000094 (kRI 1 (trows l) (s.i:Int) (erows ens) s.b s.a s.w)=_:=h1
 obtain⟨s2,h2,r2⟩:=c_rneed hl (erows ens) s1 r1.lt [bs [40]] (by simp)
 rw[←srow1]at h2
 refine cOfBX (f:=53) (by kernel_rfl) (by with_reducible first|exact dcR ..) (by kernel_rfl) rfl ?_
 rw[b53_eq]
 unfold b53
 simp only [↓hC h1, ↓hT4, ↓hV4, ↓hC h2, ↓hN0, ↓hI3, ↓hI4, ↓hN5, ↓hN6]
 refine cut_step (ρ:=List Dc × St) (fun y=>stD l (erows ens) y.2++[.str (bs []), .str t.s, .sl 6 (drows y.1)]) (fun y=>PostP l (insR l ens) s2 y.1 y.2) ?_ ?_
 ·obtain⟨v,s3,h3,r3,_⟩:=c_rtake hl (erows ens) s2 r2.lt (bs [41])
  cases v with
  |true=>
   refine⟨([],s3),?_,r3.bind (Post.ret r3.lt)⟩
   simp only [↓hC h3, ↓hB0, ↓hV1, ↓hNt]
   rfl
  |false=>
   obtain⟨⟨ds,s4⟩,h4,r4⟩:=c_rdecls hl ens hE s3 r3.lt false
   simp only at h4 r4
   obtain⟨s5,h5,r5⟩:=c_rneed hl (erows ens) s4 r4.lt [bs [41]] (by simp)
   rw[←srow1]at h5
   refine⟨(ds,s5),?_,r3.bind (r4.bind (r5.bind (Post.ret r5.lt)))⟩
   simp only [↓hC h3, ↓hB0, ↓hV1, ↓hNf, ↓hC h4, ↓hL0, ↓hC h5, ↓hN0, ↓hI3, ↓hI4, ↓hN5, ↓hN6]
   rfl
 ·rintro⟨ins,s3⟩ r3
  simp only at r3 ⊢
  obtain⟨s4,h4,r4⟩:=c_rneed hl (erows ens) s3 r3.lt [bs [114,101,116,117,114,110,115],bs [40]] (by simp)
  rw[←srow2]at h4
  obtain⟨⟨os,s5⟩,h5,r5⟩:=c_rdecls hl ens hE s4 r4.lt false
  simp only at h5 r5
  obtain⟨s6,h6,r6⟩:=c_rneed hl (erows ens) s5 r5.lt [bs [41]] (by simp)
  rw[←srow1]at h6
  simp only [↓lV0, ↓lS6, ↓lS7, ↓lL8, ↓hC h4, ↓hN0, ↓hI3, ↓hI4, ↓hN5, ↓hN6, ↓hC h5, ↓hL0, ↓hV1, ↓hC h6]
  refine cut_step (ρ:=List Dc × St) (fun y=>stD l (erows ens) y.2++[.str (bs []), .str t.s, .sl 6 (drows ins), .sl 6 (drows os), .sl 6 (drows y.1)]) (fun y=>PostP l (varsR l ens) s6 y.1 y.2) ?_ ?_
  ·obtain⟨v,s7,h7,r7,_⟩:=c_rtake hl (erows ens) s6 r6.lt (bs [118,97,114])
   cases v with
   |false=>
    refine⟨([],s7),?_,r7.bind (Post.ret r7.lt)⟩
    simp only [↓hC h7, ↓hB0, ↓hV1, ↓hCf]
    rfl
   |true=>
    obtain⟨⟨ds,s8⟩,h8,r8⟩:=c_rdecls hl ens hE s7 r7.lt true
    simp only at h8 r8
    obtain⟨s9,h9,r9⟩:=c_rneed hl (erows ens) s8 r8.lt [bs [59]] (by simp)
    rw[←srow1]at h9
    refine⟨(ds,s9),?_,r7.bind (r8.bind (r9.bind (Post.ret r9.lt)))⟩
    simp only [↓hC h7, ↓hB0, ↓hV1, ↓hCt, ↓hC h8, ↓hL0, ↓hC h9, ↓hN0, ↓hI3, ↓hI4, ↓hN5, ↓hN6]
    rfl
  ·rintro⟨vs,s7⟩ r7
   simp only at r7 ⊢
   obtain⟨s8,h8,r8⟩:=c_rneed hl (erows ens) s7 r7.lt [bs [108,101,116]] (by simp)
   rw[←srow1]at h8
   simp only [↓lV0, ↓lS6, ↓lS7, ↓lL8, ↓lL9, ↓lL10, ↓hC h8, ↓hN0, ↓hI3, ↓hI4, ↓hN5, ↓hN6]
   rw[eF_lp]
   refine(loop_ex (σ:=Nat × List Eqn × St) (ρ:=List Eqn × St) (c:=fun x=>PRes.val (.str t.s:: .sl 6 (drows ins):: .sl 6 (drows os):: .sl 6 (drows vs):: .sl 7 (qrows x.1)::stD l (erows ens) x.2))
    (fun x=>stD l (erows ens) x.2.2++[.str (bs []), .str t.s, .sl 6 (drows ins), .sl 6 (drows os), .sl 6 (drows vs), .sl 7 (qrows x.2.1)])
    (fun x=>(x.2.2.b=true→l.length - x.2.2.i≤x.1∧x.2.1.length≤x.2.2.i)∧x.2.1.length≤x.2.2.i+1∧x.2.2.i < l.length) (fun x=>x.1) (fun x y=>PostP l (eqsL l x.1 x.2.1) x.2.2 y.1 y.2) ?_ (l.length,[],s8) ⟨fun _=>⟨by simp only;omega,by simp⟩,by simp,r8.lt⟩).elim fun x h=>⟨(⟨t.s,ins,os,vs,x.1⟩,x.2),h.1,r1.bind (r2.bind (r3.bind (r4.bind (r5.bind (r6.bind (r7.bind (r8.bind (h.2.bind (Post.ret h.2.lt)))))))))⟩
   rintro⟨n,acc,s⟩ ⟨hn,ha,hs⟩
   simp only at hn ha hs ⊢
   cases hb:s.b with
   |false=>
    right
    refine⟨(acc,s),?_,post_bad hs hb⟩
    simp only [↓lV0, ↓lS6, ↓lS7, ↓lL8, ↓lL9, ↓lL10, ↓lL11, ↓hXf hb]
    rfl
   |true=>
    obtain⟨hn1,hn2⟩:=hn hb
    obtain⟨n,rfl⟩: ∃m,n=m+1:=⟨n - 1,by omega⟩
    obtain⟨v,s1,h1,r1,_⟩:=c_rtake hl (erows ens) s hs (bs [116,101,108])
    cases v with
    |true=>
     right
     refine⟨(acc,s1),?_,r1.bind (Post.ret r1.lt)⟩
     simp only [↓lV0, ↓lS6, ↓lS7, ↓lL8, ↓lL9, ↓lL10, ↓lL11, ↓hXt hb, ↓hC h1, ↓hB0, ↓hV1, ↓hNt]
     rfl
    |false=>
     left
     obtain⟨⟨q,s2⟩,h2,r2⟩:=c_req hl ht (erows ens) s1 r1.lt
     simp only at h2 r2
     have hfit:sy.fits (qrows acc) [qrow q] 112=true:=fitsR (qrows acc) [qrow q] 112 (by rw[qrows_len];simp only [List.length_cons,List.length_nil];omega)
     have fin:sy.rapp (qrows acc) [qrow q]=qrows (acc++[q]):=by rw[qrows_snoc];rfl
     have hb1:s1.b=true:=by
      have g:=r1.good hb
      cases hm:tkR l (bs [116,101,108]) s.i with
      |ok a j=>rw[hm]at g;rw[g.2]
      |bad p c=>unfold tkR at hm;split at hm<;>cases hm
     refine⟨(n,acc++[q],s2),?_,⟨fun hb2=> ?_,?_,r2.lt⟩,Nat.lt_succ_self _,fun y hy=>r1.bind (r2.bind hy)⟩
     ·obtain⟨ns,e⟩:=q
      obtain⟨k,m,y,o,a,u⟩:=e
      simp only [↓lV0, ↓lS6, ↓lS7, ↓lL8, ↓lL9, ↓lL10, ↓lL11, ↓hXt hb, ↓hC h1, ↓hB0, ↓hV1, ↓hNf, ↓hC h2, ↓hQ0, ↓hQ1, ↓hQ7]
      rw[←fin]
      exact hXt hfit _ _
     ·have g:=r2.good hb1
      cases hm:eqR l s1.i with
      |ok w j=>
       rw[hm]at g
       have hp:=eqR_pos ht hm
       have e:=r1.le
       have:s2.i=j:=by rw[g.2]
       simp only [List.length_append,List.length_cons,List.length_nil]
       omega
      |bad p c=>rw[hm]at g;rw[g.1]at hb2;cases hb2
     ·have e1:=r1.le
      have e2:=r2.le
      simp only [List.length_append,List.length_cons,List.length_nil]
      omega
end
end Go.Vm
end
section
set_option maxRecDepth 1000000
set_option maxHeartbeats 0
namespace Go.Vm
open Go.Proofs
noncomputable section
def g102 (A:Sy)(E:Env)(l_:List (List D)):Option PRes:=bif (A.ilt 4 (A.rlen l_))then some (.val [(.bool true)]) else E.lp (fun ds1=>(opL (A.cell ds1 0) 2).bind fun l2=>(opI (A.cell ds1 1) .i64).bind fun n3=>(opI (A.cell ds1 2) .i64).bind fun n4=>bif (A.ilt n4 n3)then bif (A.inr n4 (A.rlen l2))then (opS (A.cell (A.row l2 n4) 0)).bind fun s5=>(opL (A.cell (A.row l2 n4) 1) 1).bind fun l6=>bif (A.ilt 6 (A.rlen l6))then some (.inr (.val [(.bool (A.ile 0 n4))])) else some (.inl [(.sl 2 l2),(.int .i64 n3),(.int .i64 (A.wrap .i64 (A.add n4 1)))]) else none else some (.inr (.val [(.bool (A.ile 0 (-1)))]))) [(.sl 2 l_),(.int .i64 (A.rlen l_)),(.int .i64 0)]
theorem g102_eq (A:Sy)(E:Env)(l_:List (List D)):(funT A Tryz.prog cs 102 [.d (.sl 2 l_)]).run E=g102 A E l_:=by kernel_rfl
def g61 (A:Sy)(E:Env)(l_:List (List D)):Option PRes:=(E.call 102 [(.d (.sl 2 l_))]).bind fun p1=>(opB (A.cell p1.leaves 0)).bind fun b3=>bif b3 then some (.val [(.int .i64 4)]) else E.lp (fun ds4=>(opL (A.cell ds4 0) 2).bind fun l5=>(opL (A.cell ds4 1) 2).bind fun l6=>(opI (A.cell ds4 2) .i64).bind fun n7=>(opI (A.cell ds4 3) .i64).bind fun n8=>(opL (A.cell ds4 4) 1).bind fun l9=>(opL (A.cell ds4 5) 1).bind fun l10=>(opB (A.cell ds4 6)).bind fun b11=>bif (A.ilt n8 n7)then bif (A.inr n8 (A.rlen l6))then (opS (A.cell (A.row l6 n8) 0)).bind fun s12=>(opL (A.cell (A.row l6 n8) 1) 1).bind fun l13=>bif (A.fits l9 [[(.str s12)]] 16)then cutO (bif b11 then (E.call 103 [(.d (.str s12))]).bind fun p14=>(opB (A.cell p14.leaves 0)).bind fun b16=>some (.inl [(.bool b16)]) else some (.inl [(.bool false)])) fun ds17=>(opB (A.cell ds17 0)).bind fun b18=>cutO (bif b18 then some (.inl [(.bool (A.ilt 0 (A.rlen l13)))]) else some (.inl [(.bool false)])) fun ds19=>(opB (A.cell ds19 0)).bind fun b20=>some (.inl [(.sl 2 l5),(.sl 2 l6),(.int .i64 n7),(.int .i64 (A.wrap .i64 (A.add n8 1))),(.sl 1 (A.rapp l9 [[(.str s12)]])),(.sl 1 l10),(.bool b20)]) else none else none else E.lp (fun ds21=>(opL (A.cell ds21 0) 2).bind fun l22=>(opI (A.cell ds21 1) .i64).bind fun n23=>(opI (A.cell ds21 2) .i64).bind fun n24=>(opL (A.cell ds21 3) 1).bind fun l25=>(opL (A.cell ds21 4) 1).bind fun l26=>(opB (A.cell ds21 5)).bind fun b27=>(opL (A.cell ds21 6) 2).bind fun l28=>(opL (A.cell ds21 7) 2).bind fun l29=>(opL (A.cell ds21 8) 2).bind fun l30=>(opI (A.cell ds21 9) .i64).bind fun n31=>(opI (A.cell ds21 10) .i64).bind fun n32=>(opB (A.cell ds21 11)).bind fun b33=>(opL (A.cell ds21 12) 2).bind fun l34=>bif (A.ilt n24 n23)then bif (A.inr n24 (A.rlen l22))then (opS (A.cell (A.row l22 n24) 0)).bind fun s35=>(opL (A.cell (A.row l22 n24) 1) 1).bind fun l36=>E.lp (fun ds37=>(opI (A.cell ds37 0) .i64).bind fun n38=>(opL (A.cell ds37 1) 2).bind fun l39=>(opI (A.cell ds37 2) .i64).bind fun n40=>(opI (A.cell ds37 3) .i64).bind fun n41=>(opL (A.cell ds37 4) 1).bind fun l42=>(opI (A.cell ds37 5) .i64).bind fun n43=>(opI (A.cell ds37 6) .i64).bind fun n44=>(opL (A.cell ds37 7) 1).bind fun l45=>(opL (A.cell ds37 8) 1).bind fun l46=>(opB (A.cell ds37 9)).bind fun b47=>(opL (A.cell ds37 10) 2).bind fun l48=>(opL (A.cell ds37 11) 2).bind fun l49=>(opL (A.cell ds37 12) 2).bind fun l50=>(opI (A.cell ds37 13) .i64).bind fun n51=>(opI (A.cell ds37 14) .i64).bind fun n52=>(opB (A.cell ds37 15)).bind fun b53=>(opL (A.cell ds37 16) 2).bind fun l54=>bif (A.ilt n44 n43)then bif (A.inr n44 (A.rlen l42))then (opS (A.cell (A.row l42 n44) 0)).bind fun s55=>bif (A.fits l46 [[(.str s55)]] 16)then cutO (bif b47 then (E.call 105 [(.d (.str s55))]).bind fun p56=>(opB (A.cell p56.leaves 0)).bind fun b58=>some (.inl [(.bool b58)]) else some (.inl [(.bool false)])) fun ds59=>(opB (A.cell ds59 0)).bind fun b60=>bif (A.bnot true)then bif (A.bnot b60)then some (.inr (.inr (.inr (.val [(.int .i64 1)])))) else (E.call 68 [(.d (.sl 1 l45))]).bind fun p61=>(opB (A.cell p61.leaves 0)).bind fun b63=>cutO (bif (A.bnot b63)then some (.inl [(.bool true)]) else (E.call 68 [(.d (.sl 1 (A.rapp l46 [[(.str s55)]])))]).bind fun p64=>(opB (A.cell p64.leaves 0)).bind fun b66=>some (.inl [(.bool (A.bnot b66))])) fun ds67=>(opB (A.cell ds67 0)).bind fun b68=>bif b68 then some (.inr (.inr (.inr (.val [(.int .i64 6)])))) else some (.inr (.inr (.inr (.val [(.int .i64 0)])))) else some (.inl [(.int .i64 n38),(.sl 2 l39),(.int .i64 n40),(.int .i64 n41),(.sl 1 l42),(.int .i64 n43),(.int .i64 (A.wrap .i64 (A.add n44 1))),(.sl 1 l45),(.sl 1 (A.rapp l46 [[(.str s55)]])),(.bool b60),(.sl 2 l48),(.sl 2 l49),(.sl 2 l50),(.int .i64 n51),(.int .i64 n52),(.bool b53),(.sl 2 l54)]) else none else none else some (.inr (.inl [(.sl 2 l39),(.int .i64 n40),(.int .i64 (A.wrap .i64 (A.add n41 1))),(.sl 1 l45),(.sl 1 l46),(.bool b47),(.sl 2 l48),(.sl 2 l49),(.sl 2 l50),(.int .i64 n51),(.int .i64 n52),(.bool b53),(.sl 2 l54)]))) [(.int .i64 n24),(.sl 2 l22),(.int .i64 n23),(.int .i64 n24),(.sl 1 l36),(.int .i64 (A.rlen l36)),(.int .i64 0),(.sl 1 l25),(.sl 1 l26),(.bool b27),(.sl 2 l28),(.sl 2 l29),(.sl 2 l30),(.int .i64 n31),(.int .i64 n32),(.bool b33),(.sl 2 l34)]
 else none else bif (A.bnot b27)then some (.inr (.inr (.val [(.int .i64 1)]))) else (E.call 68 [(.d (.sl 1 l25))]).bind fun p69=>(opB (A.cell p69.leaves 0)).bind fun b71=>cutO (bif (A.bnot b71)then some (.inl [(.bool true)]) else (E.call 68 [(.d (.sl 1 l26))]).bind fun p72=>(opB (A.cell p72.leaves 0)).bind fun b74=>some (.inl [(.bool (A.bnot b74))])) fun ds75=>(opB (A.cell ds75 0)).bind fun b76=>bif b76 then some (.inr (.inr (.val [(.int .i64 6)]))) else some (.inr (.inr (.val [(.int .i64 0)])))) [(.sl 2 l5),(.int .i64 (A.rlen l5)),(.int .i64 0),(.sl 1 l9),(.sl 1 l10),(.bool b11),(.sl 2 l5),(.sl 2 l5),(.sl 2 l6),(.int .i64 n7),(.int .i64 n8),(.bool false),(.sl 2 l5)]) [(.sl 2 l_),(.sl 2 l_),(.int .i64 (A.rlen l_)),(.int .i64 0),(.sl 1 []),(.sl 1 []),(.bool true)]
theorem g61_eq (A:Sy)(E:Env)(l_:List (List D)):(funT A Tryz.prog cs 61 [.d (.sl 2 l_)]).run E=g61 A E l_:=by kernel_rfl
def g156 (A:Sy)(E:Env)(l_:List (List D))(t_0 t_1 t_2:Int):Option PRes:=cutO (bif (A.ilt t_2 0)then some (.inl [(.bool true)]) else some (.inl [(.bool (A.ilt 8 t_2))])) fun ds1=>(opB (A.cell ds1 0)).bind fun b2=>bif b2 then some (.val [(.bool false)]) else bif (A.ieq t_0 1)then some (.val [(.bool (A.ieq t_1 0))]) else bif (A.ieq t_0 2)then some (.val [(.bool (A.ieq t_1 0))]) else bif (A.ieq t_0 3)then cutO (bif (A.ile 0 t_1)then some (.inl [(.bool (A.ilt t_1 (A.rlen l_)))]) else some (.inl [(.bool false)])) fun ds3=>(opB (A.cell ds3 0)).bind fun b4=>some (.val [(.bool b4)]) else some (.val [(.bool false)])
theorem g156_eq (A:Sy)(E:Env)(l_:List (List D))(t_0 t_1 t_2:Int):(funT A Tryz.prog cs 156 [.d (.sl 2 l_),V.agg [.d (.int .i64 t_0),V.d (.int .i64 t_1),V.d (.int .i64 t_2)]]).run E=g156 A E l_ t_0 t_1 t_2:=by kernel_rfl
def g157 (A:Sy)(E:Env)(s_:ByteArray):Option PRes:=(E.call 105 [(.d (.str s_))]).bind fun p1=>(opB (A.cell p1.leaves 0)).bind fun b3=>cutO (bif b3 then some (.inl [(.bool true)]) else some (.inl [(.bool (A.seq s_ (bs [116,114,117,101])))])) fun ds4=>(opB (A.cell ds4 0)).bind fun b5=>cutO (bif b5 then some (.inl [(.bool true)]) else some (.inl [(.bool (A.seq s_ (bs [102,97,108,115,101])))])) fun ds6=>(opB (A.cell ds6 0)).bind fun b7=>some (.val [(.bool b7)])
theorem g157_eq (A:Sy)(E:Env)(s_:ByteArray):(funT A Tryz.prog cs 157 [.d (.str s_)]).run E=g157 A E s_:=by kernel_rfl
def g108 (A:Sy)(E:Env)(n_0:ByteArray)(n_1 n_2 n_3 n_4:List (List D)):Option PRes:=(E.call 158 [(.d (.sl 1 [[(.sl 6 n_1)],[(.sl 6 n_2)],[(.sl 6 n_3)]]))]).bind fun p1=>(opL (A.cell p1.leaves 0) 6).bind fun l3=>some (.val [(.sl 6 l3)])
theorem g108_eq (A:Sy)(E:Env)(n_0:ByteArray)(n_1 n_2 n_3 n_4:List (List D)):(funT A Tryz.prog cs 108 [.agg [.d (.str n_0),V.d (.sl 6 n_1),V.d (.sl 6 n_2),V.d (.sl 6 n_3),V.d (.sl 7 n_4)]]).run E=g108 A E n_0 n_1 n_2 n_3 n_4:=by kernel_rfl
def g158 (A:Sy)(E:Env)(slices_:List (List D)):Option PRes:=E.lp (fun ds1=>(opL (A.cell ds1 0) 1).bind fun l2=>(opI (A.cell ds1 1) .i64).bind fun n3=>(opL (A.cell ds1 2) 1).bind fun l4=>(opI (A.cell ds1 3) .i64).bind fun n5=>(opI (A.cell ds1 4) .i64).bind fun n6=>bif (A.ilt n6 n5)then bif (A.inr n6 (A.rlen l4))then (opL (A.cell (A.row l4 n6) 0) 6).bind fun l7=>bif (A.ilt (A.wrap .i64 (A.add n3 (A.rlen l7))) 0)then none else some (.inl [(.sl 1 l2),(.int .i64 (A.wrap .i64 (A.add n3 (A.rlen l7)))),(.sl 1 l4),(.int .i64 n5),(.int .i64 (A.wrap .i64 (A.add n6 1)))]) else none else (opM (E.call 194 [.nils,(.d (.int .i64 n3))]) 70 6).bind fun r8=>E.lp (fun ds9=>(opL (A.cell ds9 0) 1).bind fun l10=>(opI (A.cell ds9 1) .i64).bind fun n11=>(opI (A.cell ds9 2) .i64).bind fun n12=>(opL (A.cell ds9 3) 6).bind fun l13=>bif (A.ilt n12 n11)then bif (A.inr n12 (A.rlen l10))then (opL (A.cell (A.row l10 n12) 0) 6).bind fun l14=>bif (A.fits l13 l14 72)then some (.inl [(.sl 1 l10),(.int .i64 n11),(.int .i64 (A.wrap .i64 (A.add n12 1))),(.sl 6 (A.rapp l13 l14))]) else none else none else some (.inr (.inr (.own 70 6 l13)))) [(.sl 1 l2),(.int .i64 (A.rlen l2)),(.int .i64 0),(.sl 6 r8)]) [(.sl 1 slices_),(.int .i64 0),(.sl 1 slices_),(.int .i64 (A.rlen slices_)),(.int .i64 0)]
theorem g158_eq (A:Sy)(E:Env)(slices_:List (List D)):(funT A Tryz.prog cs 158 [.d (.sl 1 slices_)]).run E=g158 A E slices_:=by kernel_rfl
def g111 (A:Sy)(E:Env)(x_0:List (List D))(x_1 x_2:Int)(x_3:ByteArray)(x_4:Int)(x_5 x_6:List (List D)):Option PRes:=cutO (bif (A.ieq (A.rlen x_0) 0)then some (.inl [(.bool true)]) else (E.call 160 [(kE x_1 x_2 x_3 x_4 x_5 x_6)]).bind fun p1=>(opB (A.cell p1.leaves 0)).bind fun b3=>some (.inl [(.bool (A.bnot b3))])) fun ds4=>(opB (A.cell ds4 0)).bind fun b5=>cutO (bif b5 then some (.inl [(.bool true)]) else bif (A.ilt 1 (A.rlen x_0))then some (.inl [(.bool (A.bnot (A.ieq x_1 13)))]) else some (.inl [(.bool false)])) fun ds6=>(opB (A.cell ds6 0)).bind fun b7=>bif b7 then some (.val [(.bool false)]) else E.lp (fun ds8=>(opL (A.cell ds8 0) 1).bind fun l9=>(opI (A.cell ds8 1) .i64).bind fun n10=>(opI (A.cell ds8 2) .i64).bind fun n11=>(opL (A.cell ds8 3) 1).bind fun l12=>oE A ds8 4 fun n13 n14 s15 n16 l17 l18=>bif (A.ilt n11 n10)then bif (A.inr n11 (A.rlen l9))then (opS (A.cell (A.row l9 n11) 0)).bind fun s19=>(E.call 103 [(.d (.str s19))]).bind fun p20=>(opB (A.cell p20.leaves 0)).bind fun b22=>bif (A.bnot b22)then some (.inr (.val [(.bool (A.bnot (A.ile 0 n11)))])) else some (.inl [(.sl 1 l9),(.int .i64 n10),(.int .i64 (A.wrap .i64 (A.add n11 1))),(.sl 1 l12),(.int .i64 n13),(.int .i64 n14),(.str s15),(.int .i64 n16),(.sl 1 l17),(.sl 6 l18)]) else none else some (.inr (.val [(.bool (A.bnot (A.ile 0 (-1))))]))) [(.sl 1 x_0),(.int .i64 (A.rlen x_0)),(.int .i64 0),(.sl 1 x_0),(.int .i64 x_1),(.int .i64 x_2),(.str x_3),(.int .i64 x_4),(.sl 1 x_5),(.sl 6 x_6)]
theorem g111_eq (A:Sy)(E:Env)(x_0:List (List D))(x_1 x_2:Int)(x_3:ByteArray)(x_4:Int)(x_5 x_6:List (List D)):(funT A Tryz.prog cs 111 [.agg [.d (.sl 1 x_0),V.d (.int .i64 x_1),V.d (.int .i64 x_2),V.d (.str x_3),V.d (.int .i64 x_4),V.d (.sl 1 x_5),V.d (.sl 6 x_6)]]).run E=g111 A E x_0 x_1 x_2 x_3 x_4 x_5 x_6:=by kernel_rfl
def g65 (A:Sy)(E:Env)(l_:List (List D))(n_0:ByteArray)(n_1 n_2 n_3 n_4:List (List D)):Option PRes:=(E.call 108 [(.agg [(.d (.str n_0)),(.d (.sl 6 n_1)),(.d (.sl 6 n_2)),(.d (.sl 6 n_3)),(.d (.sl 7 n_4))])]).bind fun p1=>(opL (A.cell p1.leaves 0) 6).bind fun l3=>E.lp (fun ds4=>(opL (A.cell ds4 0) 6).bind fun l5=>(opI (A.cell ds4 1) .i64).bind fun n6=>(opI (A.cell ds4 2) .i64).bind fun n7=>(opS (A.cell ds4 3)).bind fun s8=>(opL (A.cell ds4 4) 6).bind fun l9=>(opL (A.cell ds4 5) 6).bind fun l10=>(opL (A.cell ds4 6) 6).bind fun l11=>(opL (A.cell ds4 7) 7).bind fun l12=>(opL (A.cell ds4 8) 2).bind fun l13=>bif (A.ilt n7 n6)then bif (A.inr n7 (A.rlen l5))then oD A (A.row l5 n7) 0 fun s14 n15 n16 n17 s18 s19=>cutO (bif (A.seq s18 (bs []))then some (.inl [(.bool (A.seq s19 (bs [])))]) else some (.inl [(.bool false)])) fun ds20=>(opB (A.cell ds20 0)).bind fun b21=>(E.call 103 [(.d (.str s14))]).bind fun p22=>(opB (A.cell p22.leaves 0)).bind fun b24=>cutO (bif b24 then (E.call 156 [(.d (.sl 2 l13)),(.agg [(.d (.int .i64 n15)),(.d (.int .i64 n16)),(.d (.int .i64 n17))])]).bind fun p25=>(opB (A.cell p25.leaves 0)).bind fun b27=>some (.inl [(.bool b27)]) else some (.inl [(.bool false)])) fun ds28=>(opB (A.cell ds28 0)).bind fun b29=>cutO (bif b29 then bif b21 then some (.inl [(.bool true)]) else (E.call 103 [(.d (.str s18))]).bind fun p30=>(opB (A.cell p30.leaves 0)).bind fun b32=>bif b32 then (E.call 157 [(.d (.str s19))]).bind fun p33=>(opB (A.cell p33.leaves 0)).bind fun b35=>some (.inl [(.bool b35)]) else some (.inl [(.bool false)]) else some (.inl [(.bool false)])) fun ds36=>(opB (A.cell ds36 0)).bind fun b37=>bif (A.bnot b37)then some (.inr (.val [(.bool false)])) else some (.inl [(.sl 6 l5),(.int .i64 n6),(.int .i64 (A.wrap .i64 (A.add n7 1))),(.str s8),(.sl 6 l9),(.sl 6 l10),(.sl 6 l11),(.sl 7 l12),(.sl 2 l13)]) else none else cutO (E.lp (fun ds38=>(opL (A.cell ds38 0) 6).bind fun l39=>(opI (A.cell ds38 1) .i64).bind fun n40=>(opI (A.cell ds38 2) .i64).bind fun n41=>(opS (A.cell ds38 3)).bind fun s42=>(opL (A.cell ds38 4) 6).bind fun l43=>(opL (A.cell ds38 5) 6).bind fun l44=>(opL (A.cell ds38 6) 6).bind fun l45=>(opL (A.cell ds38 7) 7).bind fun l46=>(opL (A.cell ds38 8) 2).bind fun l47=>bif (A.ilt n41 n40)then bif (A.inr n41 (A.rlen l39))then oD A (A.row l39 n41) 0 fun s48 n49 n50 n51 s52 s53=>bif (A.bnot (A.seq s52 (bs [])))then bif (A.ile 0 n41)then some (.inr (.inl [(.bool true),(.str s42),(.sl 6 l43),(.sl 6 l44),(.sl 6 l45),(.sl 7 l46)])) else E.lp (fun ds54=>(opL (A.cell ds54 0) 6).bind fun l55=>(opI (A.cell ds54 1) .i64).bind fun n56=>(opI (A.cell ds54 2) .i64).bind fun n57=>(opS (A.cell ds54 3)).bind fun s58=>(opL (A.cell ds54 4) 6).bind fun l59=>(opL (A.cell ds54 5) 6).bind fun l60=>(opL (A.cell ds54 6) 6).bind fun l61=>(opL (A.cell ds54 7) 7).bind fun l62=>(opL (A.cell ds54 8) 2).bind fun l63=>bif (A.ilt n57 n56)then bif (A.inr n57 (A.rlen l55))then oD A (A.row l55 n57) 0 fun s64 n65 n66 n67 s68 s69=>bif (A.bnot (A.seq s68 (bs [])))then some (.inr (.inr (.inl [(.bool (A.ile 0 n57)),(.str s58),(.sl 6 l59),(.sl 6 l60),(.sl 6 l61),(.sl 7 l62)]))) else some (.inl [(.sl 6 l55),(.int .i64 n56),(.int .i64 (A.wrap .i64 (A.add n57 1))),(.str s58),(.sl 6 l59),(.sl 6 l60),(.sl 6 l61),(.sl 7 l62),(.sl 2 l63)]) else none else some (.inr (.inr (.inl [(.bool (A.ile 0 (-1))),(.str s58),(.sl 6 l59),(.sl 6 l60),(.sl 6 l61),(.sl 7 l62)])))) [(.sl 6 l44),(.int .i64 (A.rlen l44)),(.int .i64 0),(.str s42),(.sl 6 l43),(.sl 6 l44),(.sl 6 l45),(.sl 7 l46),(.sl 2 l47)] else some (.inl [(.sl 6 l39),(.int .i64 n40),(.int .i64 (A.wrap .i64 (A.add n41 1))),(.str s42),(.sl 6 l43),(.sl 6 l44),(.sl 6 l45),(.sl 7 l46),(.sl 2 l47)]) else none else bif (A.ile 0 (-1))then some (.inr (.inl [(.bool true),(.str s42),(.sl 6 l43),(.sl 6 l44),(.sl 6 l45),(.sl 7 l46)])) else E.lp (fun ds70=>(opL (A.cell ds70 0) 6).bind fun l71=>(opI (A.cell ds70 1) .i64).bind fun n72=>(opI (A.cell ds70 2) .i64).bind fun n73=>(opS (A.cell ds70 3)).bind fun s74=>
 (opL (A.cell ds70 4) 6).bind fun l75=>(opL (A.cell ds70 5) 6).bind fun l76=>(opL (A.cell ds70 6) 6).bind fun l77=>(opL (A.cell ds70 7) 7).bind fun l78=>(opL (A.cell ds70 8) 2).bind fun l79=>bif (A.ilt n73 n72)then bif (A.inr n73 (A.rlen l71))then oD A (A.row l71 n73) 0 fun s80 n81 n82 n83 s84 s85=>bif (A.bnot (A.seq s84 (bs [])))then some (.inr (.inr (.inl [(.bool (A.ile 0 n73)),(.str s74),(.sl 6 l75),(.sl 6 l76),(.sl 6 l77),(.sl 7 l78)]))) else some (.inl [(.sl 6 l71),(.int .i64 n72),(.int .i64 (A.wrap .i64 (A.add n73 1))),(.str s74),(.sl 6 l75),(.sl 6 l76),(.sl 6 l77),(.sl 7 l78),(.sl 2 l79)]) else none else some (.inr (.inr (.inl [(.bool (A.ile 0 (-1))),(.str s74),(.sl 6 l75),(.sl 6 l76),(.sl 6 l77),(.sl 7 l78)])))) [(.sl 6 l44),(.int .i64 (A.rlen l44)),(.int .i64 0),(.str s42),(.sl 6 l43),(.sl 6 l44),(.sl 6 l45),(.sl 7 l46),(.sl 2 l47)]) [(.sl 6 l9),(.int .i64 (A.rlen l9)),(.int .i64 0),(.str s8),(.sl 6 l9),(.sl 6 l10),(.sl 6 l11),(.sl 7 l12),(.sl 2 l13)]) fun ds86=>(opB (A.cell ds86 0)).bind fun b87=>(opS (A.cell ds86 1)).bind fun s88=>(opL (A.cell ds86 2) 6).bind fun l89=>(opL (A.cell ds86 3) 6).bind fun l90=>(opL (A.cell ds86 4) 6).bind fun l91=>(opL (A.cell ds86 5) 7).bind fun l92=>bif b87 then some (.inr (.val [(.bool false)])) else E.lp (fun ds93=>(opL (A.cell ds93 0) 7).bind fun l94=>(opI (A.cell ds93 1) .i64).bind fun n95=>(opI (A.cell ds93 2) .i64).bind fun n96=>(opS (A.cell ds93 3)).bind fun s97=>(opL (A.cell ds93 4) 6).bind fun l98=>(opL (A.cell ds93 5) 6).bind fun l99=>(opL (A.cell ds93 6) 6).bind fun l100=>(opL (A.cell ds93 7) 7).bind fun l101=>bif (A.ilt n96 n95)then bif (A.inr n96 (A.rlen l94))then (opL (A.cell (A.row l94 n96) 0) 1).bind fun l102=>oE A (A.row l94 n96) 1 fun n103 n104 s105 n106 l107 l108=>(E.call 111 [(.agg [(.d (.sl 1 l102)),(.d (.int .i64 n103)),(.d (.int .i64 n104)),(.d (.str s105)),(.d (.int .i64 n106)),(.d (.sl 1 l107)),(.d (.sl 6 l108))])]).bind fun p109=>(opB (A.cell p109.leaves 0)).bind fun b111=>bif (A.bnot b111)then some (.inr (.inr (.val [(.bool false)]))) else some (.inl [(.sl 7 l94),(.int .i64 n95),(.int .i64 (A.wrap .i64 (A.add n96 1))),(.str s97),(.sl 6 l98),(.sl 6 l99),(.sl 6 l100),(.sl 7 l101)]) else none else (E.call 103 [(.d (.str s97))]).bind fun p112=>(opB (A.cell p112.leaves 0)).bind fun b114=>cutO (bif b114 then some (.inl [(.bool (A.ilt 0 (A.rlen l99)))]) else some (.inl [(.bool false)])) fun ds115=>(opB (A.cell ds115 0)).bind fun b116=>some (.inr (.inr (.val [(.bool b116)])))) [(.sl 7 l92),(.int .i64 (A.rlen l92)),(.int .i64 0),(.str s88),(.sl 6 l89),(.sl 6 l90),(.sl 6 l91),(.sl 7 l92)]) [(.sl 6 l3),(.int .i64 (A.rlen l3)),(.int .i64 0),(.str n_0),(.sl 6 n_1),(.sl 6 n_2),(.sl 6 n_3),(.sl 7 n_4),(.sl 2 l_)]
theorem g65_eq (A:Sy)(E:Env)(l_:List (List D))(n_0:ByteArray)(n_1 n_2 n_3 n_4:List (List D)):(funT A Tryz.prog cs 65 [.d (.sl 2 l_),V.agg [.d (.str n_0),V.d (.sl 6 n_1),V.d (.sl 6 n_2),V.d (.sl 6 n_3),V.d (.sl 7 n_4)]]).run E=g65 A E l_ n_0 n_1 n_2 n_3 n_4:=by kernel_rfl
def g67 (A:Sy)(E:Env)(n_0:ByteArray)(n_1 n_2 n_3 n_4:List (List D)):Option PRes:=(E.call 108 [(.agg [(.d (.str n_0)),(.d (.sl 6 n_1)),(.d (.sl 6 n_2)),(.d (.sl 6 n_3)),(.d (.sl 7 n_4))])]).bind fun p1=>(opL (A.cell p1.leaves 0) 6).bind fun l3=>E.lp (fun ds4=>(opL (A.cell ds4 0) 6).bind fun l5=>(opI (A.cell ds4 1) .i64).bind fun n6=>(opI (A.cell ds4 2) .i64).bind fun n7=>(opL (A.cell ds4 3) 1).bind fun l8=>bif (A.ilt n7 n6)then bif (A.inr n7 (A.rlen l5))then oD A (A.row l5 n7) 0 fun s9 n10 n11 n12 s13 s14=>bif (A.fits l8 [[(.str s9)]] 16)then some (.inl [(.sl 6 l5),(.int .i64 n6),(.int .i64 (A.wrap .i64 (A.add n7 1))),(.sl 1 (A.rapp l8 [[(.str s9)]]))]) else none else none else (E.call 68 [(.d (.sl 1 l8))]).bind fun p15=>(opB (A.cell p15.leaves 0)).bind fun b17=>some (.inr (.val [(.bool b17)]))) [(.sl 6 l3),(.int .i64 (A.rlen l3)),(.int .i64 0),(.sl 1 [])]
theorem g67_eq (A:Sy)(E:Env)(n_0:ByteArray)(n_1 n_2 n_3 n_4:List (List D)):(funT A Tryz.prog cs 67 [.agg [.d (.str n_0),V.d (.sl 6 n_1),V.d (.sl 6 n_2),V.d (.sl 6 n_3),V.d (.sl 7 n_4)]]).run E=g67 A E n_0 n_1 n_2 n_3 n_4:=by kernel_rfl
def g33 (A:Sy)(E:Env)(p_0 p_1:List (List D)):Option PRes:=(E.call 61 [(.d (.sl 2 p_0))]).bind fun p1=>(opI (A.cell p1.leaves 0) .i64).bind fun n3=>bif (A.bnot (A.ieq n3 0))then some (.val [(.int .i64 n3)]) else E.lp (fun ds4=>(opL (A.cell ds4 0) 5).bind fun l5=>(opI (A.cell ds4 1) .i64).bind fun n6=>(opI (A.cell ds4 2) .i64).bind fun n7=>(opL (A.cell ds4 3) 2).bind fun l8=>(opL (A.cell ds4 4) 5).bind fun l9=>(opL (A.cell ds4 5) 1).bind fun l10=>bif (A.ilt n7 n6)then bif (A.inr n7 (A.rlen l5))then (opS (A.cell (A.row l5 n7) 0)).bind fun s11=>(opL (A.cell (A.row l5 n7) 1) 6).bind fun l12=>(opL (A.cell (A.row l5 n7) 2) 6).bind fun l13=>(opL (A.cell (A.row l5 n7) 3) 6).bind fun l14=>(opL (A.cell (A.row l5 n7) 4) 7).bind fun l15=>bif (A.fits l10 [[(.str s11)]] 16)then some (.inl [(.sl 5 l5),(.int .i64 n6),(.int .i64 (A.wrap .i64 (A.add n7 1))),(.sl 2 l8),(.sl 5 l9),(.sl 1 (A.rapp l10 [[(.str s11)]]))]) else none else none else bif (A.ieq (A.rlen l9) 0)then some (.inr (.val [(.int .i64 5)])) else cutO (bif (A.ilt 6 (A.rlen l9))then some (.inl [(.bool true),(.sl 2 l8),(.sl 5 l9),(.sl 1 l10)]) else E.lp (fun ds16=>(opL (A.cell ds16 0) 5).bind fun l17=>(opI (A.cell ds16 1) .i64).bind fun n18=>(opI (A.cell ds16 2) .i64).bind fun n19=>(opL (A.cell ds16 3) 2).bind fun l20=>(opL (A.cell ds16 4) 5).bind fun l21=>(opL (A.cell ds16 5) 1).bind fun l22=>(opL (A.cell ds16 6) 2).bind fun l23=>(opL (A.cell ds16 7) 5).bind fun l24=>bif (A.ilt n19 n18)then bif (A.inr n19 (A.rlen l17))then (opS (A.cell (A.row l17 n19) 0)).bind fun s25=>(opL (A.cell (A.row l17 n19) 1) 6).bind fun l26=>(opL (A.cell (A.row l17 n19) 2) 6).bind fun l27=>(opL (A.cell (A.row l17 n19) 3) 6).bind fun l28=>(opL (A.cell (A.row l17 n19) 4) 7).bind fun l29=>cutO (bif (A.ilt 6 (A.rlen l26))then some (.inl [(.bool true)]) else some (.inl [(.bool (A.ilt 6 (A.rlen l27)))])) fun ds30=>(opB (A.cell ds30 0)).bind fun b31=>cutO (bif b31 then some (.inl [(.bool true)]) else some (.inl [(.bool (A.ilt 12 (A.rlen l28)))])) fun ds32=>(opB (A.cell ds32 0)).bind fun b33=>cutO (bif b33 then some (.inl [(.bool true)]) else some (.inl [(.bool (A.ilt 18 (A.rlen l29)))])) fun ds34=>(opB (A.cell ds34 0)).bind fun b35=>bif b35 then some (.inr (.inl [(.bool (A.ile 0 n19)),(.sl 2 l20),(.sl 5 l21),(.sl 1 l22)])) else some (.inl [(.sl 5 l17),(.int .i64 n18),(.int .i64 (A.wrap .i64 (A.add n19 1))),(.sl 2 l20),(.sl 5 l21),(.sl 1 l22),(.sl 2 l23),(.sl 5 l24)]) else none else some (.inr (.inl [(.bool (A.ile 0 (-1))),(.sl 2 l20),(.sl 5 l21),(.sl 1 l22)]))) [(.sl 5 l9),(.int .i64 (A.rlen l9)),(.int .i64 0),(.sl 2 l8),(.sl 5 l9),(.sl 1 l10),(.sl 2 l8),(.sl 5 l9)]) fun ds36=>(opB (A.cell ds36 0)).bind fun b37=>(opL (A.cell ds36 1) 2).bind fun l38=>(opL (A.cell ds36 2) 5).bind fun l39=>(opL (A.cell ds36 3) 1).bind fun l40=>bif b37 then some (.inr (.val [(.int .i64 4)])) else cutO (E.lp (fun ds41=>(opL (A.cell ds41 0) 5).bind fun l42=>(opI (A.cell ds41 1) .i64).bind fun n43=>(opI (A.cell ds41 2) .i64).bind fun n44=>(opL (A.cell ds41 3) 2).bind fun l45=>(opL (A.cell ds41 4) 5).bind fun l46=>(opL (A.cell ds41 5) 1).bind fun l47=>(opL (A.cell ds41 6) 2).bind fun l48=>(opL (A.cell ds41 7) 5).bind fun l49=>bif (A.ilt n44 n43)then bif (A.inr n44 (A.rlen l42))then (opS (A.cell (A.row l42 n44) 0)).bind fun s50=>(opL (A.cell (A.row l42 n44) 1) 6).bind fun l51=>(opL (A.cell (A.row l42 n44) 2) 6).bind fun l52=>(opL (A.cell (A.row l42 n44) 3) 6).bind fun l53=>(opL (A.cell (A.row l42 n44) 4) 7).bind fun l54=>(E.call 65 [(.d (.sl 2 l45)),(.agg [(.d (.str s50)),(.d (.sl 6 l51)),(.d (.sl 6 l52)),(.d (.sl 6 l53)),(.d (.sl 7 l54))])]).bind fun p55=>(opB (A.cell p55.leaves 0)).bind fun b57=>bif (A.bnot b57)then some (.inr (.inl [(.bool (A.ile 0 n44)),(.sl 2 l45),(.sl 5 l46),(.sl 1 l47)])) else some (.inl [(.sl 5 l42),(.int .i64 n43),(.int .i64 (A.wrap .i64 (A.add n44 1))),(.sl 2 l45),(.sl 5 l46),(.sl 1 l47),(.sl 2 l48),(.sl 5 l49)]) else none else some (.inr (.inl [(.bool (A.ile 0 (-1))),(.sl 2 l45),(.sl 5 l46),(.sl 1 l47)]))
 ) [(.sl 5 l39),(.int .i64 (A.rlen l39)),(.int .i64 0),(.sl 2 l38),(.sl 5 l39),(.sl 1 l40),(.sl 2 l38),(.sl 5 l39)]) fun ds58=>(opB (A.cell ds58 0)).bind fun b59=>(opL (A.cell ds58 1) 2).bind fun l60=>(opL (A.cell ds58 2) 5).bind fun l61=>(opL (A.cell ds58 3) 1).bind fun l62=>bif b59 then some (.inr (.val [(.int .i64 1)])) else cutO (E.lp (fun ds63=>(opL (A.cell ds63 0) 5).bind fun l64=>(opI (A.cell ds63 1) .i64).bind fun n65=>(opI (A.cell ds63 2) .i64).bind fun n66=>(opL (A.cell ds63 3) 2).bind fun l67=>(opL (A.cell ds63 4) 5).bind fun l68=>(opL (A.cell ds63 5) 1).bind fun l69=>(opL (A.cell ds63 6) 2).bind fun l70=>(opL (A.cell ds63 7) 5).bind fun l71=>bif (A.ilt n66 n65)then bif (A.inr n66 (A.rlen l64))then (opS (A.cell (A.row l64 n66) 0)).bind fun s72=>(opL (A.cell (A.row l64 n66) 1) 6).bind fun l73=>(opL (A.cell (A.row l64 n66) 2) 6).bind fun l74=>(opL (A.cell (A.row l64 n66) 3) 6).bind fun l75=>(opL (A.cell (A.row l64 n66) 4) 7).bind fun l76=>(E.call 67 [(.agg [(.d (.str s72)),(.d (.sl 6 l73)),(.d (.sl 6 l74)),(.d (.sl 6 l75)),(.d (.sl 7 l76))])]).bind fun p77=>(opB (A.cell p77.leaves 0)).bind fun b79=>bif (A.bnot b79)then cutO (bif (A.ile 0 n66)then some (.inl [(.bool true)]) else (E.call 68 [(.d (.sl 1 l69))]).bind fun p80=>(opB (A.cell p80.leaves 0)).bind fun b82=>some (.inl [(.bool (A.bnot b82))])) fun ds83=>(opB (A.cell ds83 0)).bind fun b84=>some (.inr (.inl [(.bool b84),(.sl 2 l67),(.sl 5 l68),(.sl 1 l69)])) else some (.inl [(.sl 5 l64),(.int .i64 n65),(.int .i64 (A.wrap .i64 (A.add n66 1))),(.sl 2 l67),(.sl 5 l68),(.sl 1 l69),(.sl 2 l70),(.sl 5 l71)]) else none else cutO (bif (A.ile 0 (-1))then some (.inl [(.bool true)]) else (E.call 68 [(.d (.sl 1 l69))]).bind fun p85=>(opB (A.cell p85.leaves 0)).bind fun b87=>some (.inl [(.bool (A.bnot b87))])) fun ds88=>(opB (A.cell ds88 0)).bind fun b89=>some (.inr (.inl [(.bool b89),(.sl 2 l67),(.sl 5 l68),(.sl 1 l69)]))) [(.sl 5 l61),(.int .i64 (A.rlen l61)),(.int .i64 0),(.sl 2 l60),(.sl 5 l61),(.sl 1 l62),(.sl 2 l60),(.sl 5 l61)]) fun ds90=>(opB (A.cell ds90 0)).bind fun b91=>(opL (A.cell ds90 1) 2).bind fun l92=>(opL (A.cell ds90 2) 5).bind fun l93=>(opL (A.cell ds90 3) 1).bind fun l94=>bif b91 then some (.inr (.val [(.int .i64 6)])) else some (.inr (.val [(.int .i64 0)]))) [(.sl 5 p_1),(.int .i64 (A.rlen p_1)),(.int .i64 0),(.sl 2 p_0),(.sl 5 p_1),(.sl 1 [])]
theorem g33_eq (A:Sy)(E:Env)(p_0 p_1:List (List D)):(funT A Tryz.prog cs 33 [.agg [.d (.sl 2 p_0),V.d (.sl 5 p_1)]]).run E=g33 A E p_0 p_1:=by kernel_rfl
end
end Go.Vm
end
section
set_option maxRecDepth 100000
set_option maxHeartbeats 4000000
namespace Go.Vm
open Go.Proofs
def greatE (l:List En):Bool:=decide (4 < (l.length:Int)) || l.any fun e=>decide (6 < (e.2.length:Int))
def ctorsE (l:List En):List ByteArray:=l.flatMap (·.2)
def lowE (l:List En):Bool:=l.all fun e=>lowN (tb e.1)&&decide (0 < (e.2.length:Int))
def highE (l:List ByteArray):Bool:=l.all fun c=>highN (tb c)
def enumsN (l:List En):Int:=bif greatE l then 4 else bif !(lowE l&&highE (ctorsE l))then 1 else bif !(decide (l.map (·.1)).Nodup) || !(decide (ctorsE l).Nodup)then 6 else 0
def allD (n:Nd):List Dc:=n.ins++n.outs++n.vars
def tyB (ens:List En)(k e c:Int):Bool:= !(decide (c < 0) || decide (8 < c))&&(bif decide (k=1)then decide (e=0)else bif decide (k=2)then decide (e=0)else decide (k=3)&&(decide (0≤e)&&decide (e < (ens.length:Int))))
def bareB (d:Dc):Bool:=decide (tb d.o=tb (bs []))&&decide (tb d.q=tb (bs []))
def declB (ens:List En)(d:Dc):Bool:=(lowN (tb d.n)&&tyB ens d.k d.e d.c)&&(bareB d || (lowN (tb d.o)&&armN d.q))
def Ex.k:Ex→Int| .mk k _ _ _ _ _=>k
def eqB (x:Eqn):Bool:= !(decide ((x.ns.length:Int)=0))&&(smallB x.e&&allB x.e)&& !(decide (1 < (x.ns.length:Int))&& !decide (x.e.k=13))&&x.ns.all fun s=>lowN (tb s)
def noOn (l:List Dc):Bool:=l.all fun d=>decide (tb d.o=tb (bs []))
def nodeB (ens:List En)(n:Nd):Bool:=(allD n).all (declB ens)&&(noOn n.ins&&(noOn n.outs&&(n.eqs.all eqB&&(lowN (tb n.n)&&decide (0 < (n.outs.length:Int))))))
def greatB (n:Nd):Bool:=decide (6 < (n.ins.length:Int)) || (decide (6 < (n.outs.length:Int)) || (decide (12 < (n.vars.length:Int)) || decide (18 < (n.eqs.length:Int))))
def onceB (n:Nd):Bool:=decide ((allD n).map (·.n)).Nodup
def chkS (ens:List En)(nds:List Nd):Int:=bif !decide (enumsN ens=0)then enumsN ens else bif decide ((nds.length:Int)=0)then 5 else bif decide (6 < (nds.length:Int)) || nds.any greatB then 4 else bif !(nds.all (nodeB ens))then 1 else bif !(nds.all onceB) || !decide (nds.map (·.n)).Nodup then 6 else 0
theorem nrow_at {l:List Nd}{i:Nat}{x:Nd}(h:l[i]? =some x):sy.row (nrows l) (i:Int)=nrow x:=by
 rw[sy_row,Int.toNat_natCast,List.getD_eq_getElem?_getD]
 unfold nrows
 rw[List.getElem?_map,h];rfl
theorem drow_at {l:List Dc}{i:Nat}{x:Dc}(h:l[i]? =some x):sy.row (drows l) (i:Int)=drow x:=by
 rw[sy_row,Int.toNat_natCast,List.getD_eq_getElem?_getD]
 unfold drows
 rw[List.getElem?_map,h];rfl
theorem qrow_at {l:List Eqn}{i:Nat}{x:Eqn}(h:l[i]? =some x):sy.row (qrows l) (i:Int)=qrow x:=by
 rw[sy_row,Int.toNat_natCast,List.getD_eq_getElem?_getD]
 unfold qrows
 rw[List.getElem?_map,h];rfl
theorem enm_at {l:List En}{i:Nat}{x:En}(h:l[i]? =some x):sy.row (erows l) (i:Int)= [.str x.1, .sl 1 (srows x.2)]:=by
 rw[sy_row,Int.toNat_natCast,List.getD_eq_getElem?_getD]
 unfold erows
 rw[List.getElem?_map,h];rfl
theorem rep_loop2 {α:Type}{b:List D→Option (List D ⊕ α)}{r:α}{ds:List D}(n:Nat)(mk:Nat→List D)(h0:ds=mk 0)(hb: ∀i,i < n→b (mk i)=some (.inl (mk (i+1))))(hend:b (mk n)=some (.inr r)):loopF b ds=some r:=by
 rw[h0];exact rep_loop n mk hb hend
theorem great_bd {l:List En}(h:greatE l=false):l.length≤4∧ ∀e∈l,e.2.length≤6:=by
 unfold greatE at h
 rw[Bool.or_eq_false_iff]at h
 refine⟨by have:=of_decide_eq_false h.1;omega,fun e he=> ?_⟩
 have:=List.any_eq_false.1 h.2 e he
 simp at this
 omega
theorem ctorsE_take {l:List En}{i:Nat}{x:En}(h:l[i]? =some x):ctorsE (l.take (i+1))=ctorsE (l.take i)++x.2:=by
 rw[List.take_add_one,h];simp [ctorsE]
theorem lowE_take {l:List En}{i:Nat}{x:En}(h:l[i]? =some x):lowE (l.take (i+1))=(lowE (l.take i)&&(lowN (tb x.1)&&decide (0 < (x.2.length:Int)))):=by
 rw[List.take_add_one,h];simp [lowE]
theorem highE_app (a b:List ByteArray):highE (a++b)=(highE a&&highE b):=by simp [highE]
theorem highE_take {l:List ByteArray}{i:Nat}{x:ByteArray}(h:l[i]? =some x):highE (l.take (i+1))=(highE (l.take i)&&highN (tb x)):=by
 rw[List.take_add_one,h];simp [highE]
theorem names_take {l:List En}{i:Nat}{x:En}(h:l[i]? =some x):(l.take (i+1)).map (·.1)=(l.take i).map (·.1)++[x.1]:=by
 rw[List.take_add_one,h,List.map_append];rfl
theorem ctorsE_bd: ∀ {l:List En},(∀e∈l,e.2.length≤6)→(ctorsE l).length≤6*l.length
 | [],_=>by simp [ctorsE]
 |x::l,h=>by
  have h1:=h x List.mem_cons_self
  have h2:=ctorsE_bd (l:=l) fun e he=>h e (List.mem_cons_of_mem _ he)
  unfold ctorsE at*
  simp only [List.flatMap_cons,List.length_append,List.length_cons]
  omega
theorem ctorsE_tbd {l:List En}(i:Nat):(ctorsE (l.take i)).length≤(ctorsE l).length:=by
 have h:ctorsE l=ctorsE (l.take i)++ctorsE (l.drop i):=by
  unfold ctorsE
  rw[←List.flatMap_append,List.take_append_drop]
 rw[h,List.length_append];omega
theorem c_tyGreat (l:List En)(hl:l.length≤1000000):cF 102 [.d (.sl 2 (erows l))]=some (.val [.bool (greatE l)]):=by
 unfold greatE
 refine cOf (by kernel_rfl) rfl ?_
 rw[g102_eq]
 simp only [g102,go1,Nat.reduceAdd,Int.reduceEq,Int.reduceLT,Int.reduceLE,Int.reduceSub,Int.reduceAdd,erows_len]
 cases decide (4 < (l.length:Int))with
 |true=>rfl
 |false=>
  simp only [go1,Nat.reduceAdd,Int.reduceEq,Int.reduceLT,Int.reduceLE,Int.reduceSub,Int.reduceAdd]
  refine all_loop2 (r0:=PRes.val [.bool true]) (r1:=PRes.val [.bool false]) (fun e:En=> !decide (6 < (e.2.length:Int))) l (fun i=>[.sl 2 (erows l), .int .i64 (l.length:Int), .int .i64 (i:Int)]) rfl (fun i x hx=> ?_) (fun _=> ?_) ?_
  ·have hlt:=(List.getElem?_eq_some_iff.1 hx).1
   simp only [go1,Nat.reduceAdd,Int.reduceEq,Int.reduceLT,Int.reduceLE,Int.reduceSub,Int.reduceAdd,erows_len,srows_len,ilt_at hlt,inr_at hlt,enm_at hx,wrap_succ hlt (by omega),decT (Int.natCast_nonneg i)]
   cases decide (6 < (x.2.length:Int))<;>rfl
  ·simp only [go1,Nat.reduceAdd,Int.reduceEq,Int.reduceLT,Int.reduceLE,Int.reduceSub,Int.reduceAdd,erows_len,ilt_self];try rfl
  ·rw[List.any_eq_not_all_not]
   cases List.all l _<;>rfl
theorem c_tyEnums (l:List En)(hl:l.length≤1000000):cF 61 [.d (.sl 2 (erows l))]=some (.val [.int .i64 (enumsN l)]):=by
 have hg:=c_tyGreat l hl
 unfold enumsN
 cases hG:greatE l with
 |true=>
  rw[hG]at hg
  refine cOf (by kernel_rfl) rfl ?_
  rw[g61_eq]
  simp only [g61,go1,Nat.reduceAdd,Int.reduceEq,Int.reduceLT,Int.reduceLE,Int.reduceSub,Int.reduceAdd,hg]
 |false=>
  rw[hG]at hg
  obtain⟨h4,h6⟩:=great_bd hG
  have hcb:=ctorsE_bd h6
  have hO1:=c_iOnce (l.map (·.1)) (by simp;omega)
  have hO2:=c_iOnce (ctorsE l) (by omega)
  refine cOf (by kernel_rfl) rfl ?_
  rw[g61_eq]
  simp only [g61,go1,Nat.reduceAdd,Int.reduceEq,Int.reduceLT,Int.reduceLE,Int.reduceSub,Int.reduceAdd,hg,erows_len]
  refine rep_loop2 l.length (fun i=>[.sl 2 (erows l), .sl 2 (erows l), .int .i64 (l.length:Int), .int .i64 (i:Int), .sl 1 (srows ((l.take i).map (·.1))), .sl 1 [], .bool (lowE (l.take i))]) rfl (fun i hlt=> ?_) ?_
  ·have hx:=List.getElem?_eq_getElem hlt
   have hL:=c_Low l[i].1
   have hf:=fitsR (srows ((l.take i).map (·.1))) [[.str l[i].1]] 16 (by rw[srows_len,List.length_map,List.length_take];simp only [List.length_cons,List.length_nil];omega)
   rw[names_take hx,srows_snoc,lowE_take hx]
   simp only [go1,Nat.reduceAdd,Int.reduceEq,Int.reduceLT,Int.reduceLE,Int.reduceSub,Int.reduceAdd,erows_len,srows_len,ilt_at hlt,inr_at hlt,enm_at hx,hL,List.length_cons,List.length_nil,wrap_succ hlt (by omega)]at hf ⊢
   rw[hf]
   cases lowE (l.take i)<;>cases lowN (tb l[i].1)<;>rfl
  ·simp only [go1,Nat.reduceAdd,Int.reduceEq,Int.reduceLT,Int.reduceLE,Int.reduceSub,Int.reduceAdd,erows_len,ilt_self,List.take_length]
   refine rep_loop2 l.length (fun i=>[.sl 2 (erows l), .int .i64 (l.length:Int), .int .i64 (i:Int), .sl 1 (srows (l.map (·.1))), .sl 1 (srows (ctorsE (l.take i))), .bool (highE (ctorsE (l.take i))&&lowE l), .sl 2 (erows l), .sl 2 (erows l), .sl 2 (erows l), .int .i64 (l.length:Int), .int .i64 (l.length:Int), .bool false, .sl 2 (erows l)]) rfl (fun i hlt=> ?_) ?_
   ·have hx:=List.getElem?_eq_getElem hlt
    have hci:=h6 _ (List.getElem_mem hlt)
    have hb1:=ctorsE_tbd (l:=l) i
    rw[ctorsE_take hx]
    simp only [go1,Nat.reduceAdd,Int.reduceEq,Int.reduceLT,Int.reduceLE,Int.reduceSub,Int.reduceAdd,erows_len,srows_len,ilt_at hlt,inr_at hlt,enm_at hx]
    refine rep_loop2 l[i].2.length (fun j=>[.int .i64 (i:Int), .sl 2 (erows l), .int .i64 (l.length:Int), .int .i64 (i:Int), .sl 1 (srows l[i].2), .int .i64 (l[i].2.length:Int), .int .i64 (j:Int), .sl 1 (srows (l.map (·.1))), .sl 1 (srows (ctorsE (l.take i)++l[i].2.take j)), .bool (highE (ctorsE (l.take i)++l[i].2.take j)&&lowE l), .sl 2 (erows l), .sl 2 (erows l), .sl 2 (erows l), .int .i64 (l.length:Int), .int .i64 (l.length:Int), .bool false, .sl 2 (erows l)]) (by simp only [List.take_zero,List.append_nil];rfl) (fun j hj=> ?_) ?_
    ·have hy:=List.getElem?_eq_getElem hj
     have hH:=c_High l[i].2[j]
     have hf:=fitsR (srows (ctorsE (l.take i)++l[i].2.take j)) [[.str l[i].2[j]]] 16 (by rw[srows_len,List.length_append,List.length_take];simp only [List.length_cons,List.length_nil];omega)
     rw[highE_app _ (l[i].2.take (j+1)),highE_take hy,←Bool.and_assoc,←highE_app,List.take_add_one,hy,Option.toList_some,←List.append_assoc,srows_snoc]
     simp only [go1,Nat.reduceAdd,Int.reduceEq,Int.reduceLT,Int.reduceLE,Int.reduceSub,Int.reduceAdd,srows_len,ilt_at hj,inr_at hj,srows_at hy,hH,List.length_cons,List.length_nil,wrap_succ hj (by omega)]at hf ⊢
     rw[hf]
     cases highE (ctorsE (l.take i)++l[i].2.take j)<;>cases lowE l<;>cases highN (tb l[i].2[j])<;>rfl
    ·simp only [go1,Nat.reduceAdd,Int.reduceEq,Int.reduceLT,Int.reduceLE,Int.reduceSub,Int.reduceAdd,ilt_self,List.take_length,wrap_succ hlt (by omega)]
     rfl
   ·simp only [go1,Nat.reduceAdd,Int.reduceEq,Int.reduceLT,Int.reduceLE,Int.reduceSub,Int.reduceAdd,ilt_self,List.take_length,hO1,hO2]
    rw[Bool.and_comm (lowE l)]
    cases highE (ctorsE l)&&lowE l
    ·rfl
    ·cases decide (l.map (·.1)).Nodup<;>cases decide (ctorsE l).Nodup<;>rfl
theorem c_grow (n:Int)(h:0≤n∧n≤1000000):cF 194 [V.nils, .d (.int .i64 n)]=some (.own 70 6 []):=by
 refine callF_known ?_
 show(match decide (0≤n∧n≤1000000)with
  |true=>some (PRes.own 70 6 [])
  |false=>none)=_
 rw[decT h]
theorem drows_app (a b:List Dc):drows a++drows b=drows (a++b):=by simp [drows]
def crows (L:List (List Dc)):List (List D):=L.map fun d=>[.sl 6 (drows d)]
theorem crow_at {l:List (List Dc)}{i:Nat}{x:List Dc}(h:l[i]? =some x):sy.row (crows l) (i:Int)= [.sl 6 (drows x)]:=by
 rw[sy_row,Int.toNat_natCast,List.getD_eq_getElem?_getD]
 unfold crows
 rw[List.getElem?_map,h];rfl
theorem c_concat (L:List (List Dc))(h:L.flatten.length≤1000000)(hL:L.length≤1000):cF 158 [.d (.sl 1 (crows L))]=some (.own 70 6 (drows L.flatten)):=by
 have hg:=c_grow (L.flatten.length:Int) (by omega)
 have hc:(crows L).length=L.length:=by simp [crows]
 have hs: ∀i (hi:i < L.length),(L.take (i+1)).flatten=(L.take i).flatten++L[i]:=fun i hi=>by
  rw[List.take_add_one,List.getElem?_eq_getElem hi,Option.toList_some,List.flatten_append,List.flatten_cons,List.flatten_nil,List.append_nil]
 have hb: ∀i,(L.take i).flatten.length≤1000000:=fun i=>by
  have e:L.flatten.length=(L.take i).flatten.length+(L.drop i).flatten.length:=by
   rw[←List.length_append,←List.flatten_append,List.take_append_drop]
  omega
 refine cOf (by kernel_rfl) rfl ?_
 rw[g158_eq]
 simp only [g158,go1,Nat.reduceAdd,Int.reduceEq,Int.reduceLT,Int.reduceLE,Int.reduceSub,Int.reduceAdd,hc]
 refine rep_loop2 L.length (fun i=>[.sl 1 (crows L), .int .i64 ((L.take i).flatten.length:Int), .sl 1 (crows L), .int .i64 (L.length:Int), .int .i64 (i:Int)]) rfl (fun i hlt=> ?_) ?_
 ·have hx:=List.getElem?_eq_getElem hlt
  have h1:=hb (i+1)
  have w:IntKind.i64.wrap (((L.take i).flatten.length:Int)+((drows L[i]).length:Int))=((L.take (i+1)).flatten.length:Int):=by
   rw[hs i hlt,List.length_append]at h1 ⊢
   rw[drows_len];rw[wrap_id (by omega) (by omega)];omega
  simp only [go1,Nat.reduceAdd,Int.reduceEq,Int.reduceLT,Int.reduceLE,Int.reduceSub,Int.reduceAdd,hc,ilt_at hlt,inr_at hlt,crow_at hx,w,decF (p:=((L.take (i+1)).flatten.length:Int) < 0) (by omega),wrap_succ hlt (by omega)]
  rfl
 ·simp only [go1,Nat.reduceAdd,Int.reduceEq,Int.reduceLT,Int.reduceLE,Int.reduceSub,Int.reduceAdd,ilt_self,List.take_length,hg,hc]
  refine rep_loop2 L.length (fun i=>[.sl 1 (crows L), .int .i64 (L.length:Int), .int .i64 (i:Int), .sl 6 (drows (L.take i).flatten)]) rfl (fun i hlt=> ?_) ?_
  ·have hx:=List.getElem?_eq_getElem hlt
   have h1:=hb (i+1)
   rw[hs i hlt,List.length_append]at h1
   have hf:=fitsR (drows (L.take i).flatten) (drows L[i]) 72 (by rw[drows_len,drows_len];omega)
   rw[hs i hlt,←drows_app]
   simp only [go1,Nat.reduceAdd,Int.reduceEq,Int.reduceLT,Int.reduceLE,Int.reduceSub,Int.reduceAdd]at hf
   simp only [go1,Nat.reduceAdd,Int.reduceEq,Int.reduceLT,Int.reduceLE,Int.reduceSub,Int.reduceAdd,hc,ilt_at hlt,inr_at hlt,crow_at hx,hf,wrap_succ hlt (by omega)]
   rfl
  ·simp only [go1,Nat.reduceAdd,Int.reduceEq,Int.reduceLT,Int.reduceLE,Int.reduceSub,Int.reduceAdd,ilt_self,List.take_length]
theorem c_all (n:Nd)(h:(allD n).length≤1000000):cF 108 [.agg [.d (.str n.n), .d (.sl 6 (drows n.ins)), .d (.sl 6 (drows n.outs)), .d (.sl 6 (drows n.vars)), .d (.sl 7 (qrows n.eqs))]]=some (.val [.sl 6 (drows (allD n))]):=by
 have e:[n.ins,n.outs,n.vars].flatten=allD n:=by simp [allD]
 have h1:=c_concat [n.ins,n.outs,n.vars] (by rw[e];exact h) (by simp)
 rw[e]at h1
 have h1:cF 158 [.d (.sl 1 [[.sl 6 (drows n.ins)],[.sl 6 (drows n.outs)],[.sl 6 (drows n.vars)]])]=_:=h1
 refine cOf (by kernel_rfl) rfl ?_
 rw[g108_eq]
 simp only [g108,go1,Nat.reduceAdd,Int.reduceEq,Int.reduceLT,Int.reduceLE,Int.reduceSub,Int.reduceAdd,h1]
theorem c_once (n:Nd)(h:(allD n).length≤1000000):cF 67 [.agg [.d (.str n.n), .d (.sl 6 (drows n.ins)), .d (.sl 6 (drows n.outs)), .d (.sl 6 (drows n.vars)), .d (.sl 7 (qrows n.eqs))]]=some (.val [.bool (onceB n)]):=by
 have h1:=c_all n h
 have h2:=c_iOnce ((allD n).map (·.n)) (by rw[List.length_map];exact h)
 unfold onceB
 generalize allD n=l at h h1 h2 ⊢
 refine cOf (by kernel_rfl) rfl ?_
 rw[g67_eq]
 simp only [g67,go1,Nat.reduceAdd,Int.reduceEq,Int.reduceLT,Int.reduceLE,Int.reduceSub,Int.reduceAdd,h1,drows_len]
 refine rep_loop2 l.length (fun i=>[.sl 6 (drows l), .int .i64 (l.length:Int), .int .i64 (i:Int), .sl 1 (srows ((l.take i).map (·.n)))]) rfl (fun i hlt=> ?_) ?_
 ·have hx:=List.getElem?_eq_getElem hlt
  have hf:=fitsR (srows ((l.take i).map (·.n))) [[.str l[i].n]] 16 (by rw[srows_len,List.length_map,List.length_take];simp only [List.length_cons,List.length_nil];omega)
  rw[List.take_add_one,hx,Option.toList_some,List.map_append,List.map_cons,List.map_nil,srows_snoc]
  simp only [go1,Nat.reduceAdd,Int.reduceEq,Int.reduceLT,Int.reduceLE,Int.reduceSub,Int.reduceAdd,List.length_cons,List.length_nil]at hf
  simp only [go1,Nat.reduceAdd,Int.reduceEq,Int.reduceLT,Int.reduceLE,Int.reduceSub,Int.reduceAdd,oD,drow,drows_len,ilt_at hlt,inr_at hlt,drow_at hx,hf,List.length_cons,List.length_nil,wrap_succ hlt (by omega)]
  rfl
 ·simp only [go1,Nat.reduceAdd,Int.reduceEq,Int.reduceLT,Int.reduceLE,Int.reduceSub,Int.reduceAdd,ilt_self,List.take_length,h2]
theorem c_tyRight (ens:List En)(k e c:Int):cF 156 [.d (.sl 2 (erows ens)), .agg [.d (.int .i64 k), .d (.int .i64 e), .d (.int .i64 c)]]=some (.val [.bool (tyB ens k e c)]):=by
 unfold tyB
 refine cOf (by kernel_rfl) rfl ?_
 rw[g156_eq]
 simp only [g156,go1,Nat.reduceAdd,Int.reduceEq,Int.reduceLT,Int.reduceLE,Int.reduceSub,Int.reduceAdd,erows_len]
 cases decide (c < 0)<;>cases decide (8 < c)<;>cases decide (k=1)<;>cases decide (k=2)<;>cases decide (k=3)<;>cases decide (0≤e)<;>rfl
theorem c_arm (s:ByteArray):cF 157 [.d (.str s)]=some (.val [.bool (armN s)]):=by
 have h:=c_High s
 unfold armN
 refine cOf (by kernel_rfl) rfl ?_
 rw[g157_eq]
 simp only [g157,go1,Nat.reduceAdd,Int.reduceEq,Int.reduceLT,Int.reduceLE,Int.reduceSub,Int.reduceAdd,h,seq_tb]
 rw[show tb bTrue=tb (bs [116,114,117,101])from rfl,show tb bFalse=tb (bs [102,97,108,115,101])from rfl]
 cases highN (tb s)<;>cases decide (tb s=tb (bs [116,114,117,101]))<;>rfl
theorem cut_inl {α:Type}{X:Option (List D ⊕ α)}{L:List D}{K:List D→Option α}(h:X=some (.inl L)):cutO X K=K L:=by rw[h];rfl
abbrev nV (n:Nd):V:= .agg [.d (.str n.n), .d (.sl 6 (drows n.ins)), .d (.sl 6 (drows n.outs)), .d (.sl 6 (drows n.vars)), .d (.sl 7 (qrows n.eqs))]
structure EqOK (x:Eqn):Prop where
 ns:x.ns.length≤1000000
 sz:x.e.size≤1000000
 fn:x.e.fine
 st: ∀s∈x.ns,s.size≤100000
structure DcOK (d:Dc):Prop where
 n:d.n.size≤100000
 o:d.o.size≤100000
 q:d.q.size≤100000
structure NdOK (n:Nd):Prop where
 al:(allD n).length≤1000000
 eq:n.eqs.length≤1000000
 eo: ∀x∈n.eqs,EqOK x
 dc: ∀d∈allD n,DcOK d
 nm:n.n.size≤100000
theorem c_equation (ns:List ByteArray)(k m:Int)(s:ByteArray)(o:Int)(a:List ByteArray)(u:List Ex)(h:EqOK ⟨ns, .mk k m s o a u⟩):cF 111 [.agg [.d (.sl 1 (srows ns)), .d (.int .i64 k), .d (.int .i64 m), .d (.str s), .d (.int .i64 o), .d (.sl 1 (srows a)), .d (.sl 6 (Ex.rows u))]]=some (.val [.bool (eqB ⟨ns, .mk k m s o a u⟩)]):=by
 have h1:=c_eRight k m s o a u h.sz h.fn
 have hl:ns.length≤1000000:=h.ns
 have eE:eqB ⟨ns, .mk k m s o a u⟩=(!(decide ((ns.length:Int)=0))&&(smallB (.mk k m s o a u)&&allB (.mk k m s o a u))&& !(decide (1 < (ns.length:Int))&& !decide (k=13))&&ns.all fun s=>lowN (tb s)):=rfl
 rw[eE]
 refine cOf (by kernel_rfl) rfl ?_
 rw[g111_eq]
 simp only [g111,go1,Nat.reduceAdd,Int.reduceEq,Int.reduceLT,Int.reduceLE,Int.reduceSub,Int.reduceAdd,srows_len,h1]
 cases hz:decide ((ns.length:Int)=0)with
 |true=>rfl
 |false=>
  cases hr:smallB (.mk k m s o a u)&&allB (.mk k m s o a u)with
  |false=>rfl
  |true=>
   cases hm:decide (1 < (ns.length:Int))&& !decide (k=13)with
   |true=>
    have:decide (1 < (ns.length:Int))=true∧decide (k=13)=false:=by
     revert hm;cases decide (1 < (ns.length:Int))<;>cases decide (k=13)<;>simp
    simp only [go1,Nat.reduceAdd,Int.reduceEq,Int.reduceLT,Int.reduceLE,Int.reduceSub,Int.reduceAdd,this.1,this.2,Bool.not_true,Bool.not_false]
   |false=>
    have e: ∀(K:List D→Option PRes),cutO (bif decide (1 < (ns.length:Int))then some (.inl [.bool (!decide (k=13))])else some (.inl [.bool false])) K=K [.bool false]:=by
     revert hm;cases decide (1 < (ns.length:Int))<;>cases decide (k=13)<;>intro hm K<;>first|rfl|cases hm
    simp only [go1,Nat.reduceAdd,Int.reduceEq,Int.reduceLT,Int.reduceLE,Int.reduceSub,Int.reduceAdd,Bool.not_true,Bool.not_false,e]
    refine all_loop2 (r0:=PRes.val [.bool false]) (r1:=PRes.val [.bool true]) (fun s:ByteArray=>lowN (tb s)) ns (fun i=>[.sl 1 (srows ns), .int .i64 (ns.length:Int), .int .i64 (i:Int), .sl 1 (srows ns), .int .i64 k, .int .i64 m, .str s, .int .i64 o, .sl 1 (srows a), .sl 6 (Ex.rows u)]) rfl (fun i x hx=> ?_) (fun _=> ?_) ?_
    ·have hlt:=(List.getElem?_eq_some_iff.1 hx).1
     have hL:=c_Low x
     simp only [go1,Nat.reduceAdd,Int.reduceEq,Int.reduceLT,Int.reduceLE,Int.reduceSub,Int.reduceAdd,oE,srows_len,ilt_at hlt,inr_at hlt,srows_at hx,hL,wrap_succ hlt (by omega),decT (Int.natCast_nonneg i)]
     cases lowN (tb x)<;>rfl
    ·simp only [go1,Nat.reduceAdd,Int.reduceEq,Int.reduceLT,Int.reduceLE,Int.reduceSub,Int.reduceAdd,oE,ilt_self];try rfl
    ·cases List.all ns _<;>rfl
theorem c_right (ens:List En)(n:Nd)(h:NdOK n):cF 65 [.d (.sl 2 (erows ens)),nV n]=some (.val [.bool (nodeB ens n)]):=by
 have h1:=c_all n h.al
 have hal:=h.al
 have hdl:n.ins.length≤1000000∧n.outs.length≤1000000:=by
  unfold allD at hal;simp only [List.length_append]at hal;omega
 have heo:=h.eo
 have heq:=h.eq
 obtain⟨nm,ins,outs,vars,eqs⟩:=n
 unfold nodeB
 generalize allD ⟨nm,ins,outs,vars,eqs⟩=l at hal h1 ⊢
 simp only at h1 hdl heo heq ⊢
 refine cOf (by kernel_rfl) rfl ?_
 rw[g65_eq]
 simp only [g65,go1,Nat.reduceAdd,Int.reduceEq,Int.reduceLT,Int.reduceLE,Int.reduceSub,Int.reduceAdd,h1,drows_len]
 have hnm:=c_Low nm
 refine all_loop2 (r0:=PRes.val [.bool false]) (r1:=PRes.val [.bool (noOn ins&&(noOn outs&&(eqs.all eqB&&(lowN (tb nm)&&decide (0 < (outs.length:Int))))))]) (declB ens) l (fun i=>[.sl 6 (drows l), .int .i64 (l.length:Int), .int .i64 (i:Int), .str nm, .sl 6 (drows ins), .sl 6 (drows outs), .sl 6 (drows vars), .sl 7 (qrows eqs), .sl 2 (erows ens)]) rfl (fun i x hx=> ?_) (fun _=> ?_) ?_
 ·have hlt:=(List.getElem?_eq_some_iff.1 hx).1
  have c1:=c_Low x.n
  have c2:=c_tyRight ens x.k x.e x.c
  have c3:=c_Low x.o
  have c4:=c_arm x.q
  unfold declB bareB
  simp only [go1,Nat.reduceAdd,Int.reduceEq,Int.reduceLT,Int.reduceLE,Int.reduceSub,Int.reduceAdd,oD,drow,drows_len,ilt_at hlt,inr_at hlt,drow_at hx,c1,c2,c3,c4,seq_tb,wrap_succ hlt (by omega)]
  cases lowN (tb x.n)<;>cases tyB ens x.k x.e x.c<;>cases decide (tb x.o=tb (bs []))<;>cases decide (tb x.q=tb (bs []))<;>cases lowN (tb x.o)<;>cases armN x.q<;>first|rfl|(simp only [go1,Nat.reduceAdd,Int.reduceEq,Int.reduceLT,Int.reduceLE,Int.reduceSub,Int.reduceAdd,c2,c3,c4];rfl)
 ·simp only [go1,Nat.reduceAdd,Int.reduceEq,Int.reduceLT,Int.reduceLE,Int.reduceSub,Int.reduceAdd,ilt_self,drows_len]
  have hin: ∀(L:List Dc) (hL:L.length≤1000000),True:=fun _ _=>trivial
  refine(cut_inl (L:=[.bool (!(noOn ins&&noOn outs)), .str nm, .sl 6 (drows ins), .sl 6 (drows outs), .sl 6 (drows vars), .sl 7 (qrows eqs)]) ?_).trans ?_
  ·refine all_loop2 (r0:=Sum.inl [.bool true, .str nm, .sl 6 (drows ins), .sl 6 (drows outs), .sl 6 (drows vars), .sl 7 (qrows eqs)]) (r1:=Sum.inl [.bool (!noOn outs), .str nm, .sl 6 (drows ins), .sl 6 (drows outs), .sl 6 (drows vars), .sl 7 (qrows eqs)]) (fun d:Dc=>decide (tb d.o=tb (bs []))) ins (fun i=>[.sl 6 (drows ins), .int .i64 (ins.length:Int), .int .i64 (i:Int), .str nm, .sl 6 (drows ins), .sl 6 (drows outs), .sl 6 (drows vars), .sl 7 (qrows eqs), .sl 2 (erows ens)]) rfl (fun i x hx=> ?_) (fun _=> ?_) ?_
   ·have hlt:=(List.getElem?_eq_some_iff.1 hx).1
    simp only [go1,Nat.reduceAdd,Int.reduceEq,Int.reduceLT,Int.reduceLE,Int.reduceSub,Int.reduceAdd,oD,drow,drows_len,ilt_at hlt,inr_at hlt,drow_at hx,seq_tb,wrap_succ hlt (by omega),decT (Int.natCast_nonneg i)]
    cases decide (tb x.o=tb (bs []))<;>rfl
   ·simp only [go1,Nat.reduceAdd,Int.reduceEq,Int.reduceLT,Int.reduceLE,Int.reduceSub,Int.reduceAdd,ilt_self,drows_len]
    refine all_loop2 (r0:=Sum.inr (Sum.inl [.bool true, .str nm, .sl 6 (drows ins), .sl 6 (drows outs), .sl 6 (drows vars), .sl 7 (qrows eqs)])) (r1:=Sum.inr (Sum.inl [.bool false, .str nm, .sl 6 (drows ins), .sl 6 (drows outs), .sl 6 (drows vars), .sl 7 (qrows eqs)])) (fun d:Dc=>decide (tb d.o=tb (bs []))) outs (fun i=>[.sl 6 (drows outs), .int .i64 (outs.length:Int), .int .i64 (i:Int), .str nm, .sl 6 (drows ins), .sl 6 (drows outs), .sl 6 (drows vars), .sl 7 (qrows eqs), .sl 2 (erows ens)]) rfl (fun i x hx=> ?_) (fun _=> ?_) ?_
    ·have hlt:=(List.getElem?_eq_some_iff.1 hx).1
     simp only [go1,Nat.reduceAdd,Int.reduceEq,Int.reduceLT,Int.reduceLE,Int.reduceSub,Int.reduceAdd,oD,drow,drows_len,ilt_at hlt,inr_at hlt,drow_at hx,seq_tb,wrap_succ hlt (by omega),decT (Int.natCast_nonneg i)]
     cases decide (tb x.o=tb (bs []))<;>rfl
    ·simp only [go1,Nat.reduceAdd,Int.reduceEq,Int.reduceLT,Int.reduceLE,Int.reduceSub,Int.reduceAdd,ilt_self,drows_len];try rfl
    ·unfold noOn;cases List.all outs _<;>rfl
   ·unfold noOn;cases List.all ins _<;>cases List.all outs _<;>rfl
  ·simp only [go1,Nat.reduceAdd,Int.reduceEq,Int.reduceLT,Int.reduceLE,Int.reduceSub,Int.reduceAdd]
   cases hio:noOn ins&&noOn outs with
   |false=>
    simp only [go1,Nat.reduceAdd,Int.reduceEq,Int.reduceLT,Int.reduceLE,Int.reduceSub,Int.reduceAdd,Bool.not_false]
    revert hio;cases noOn ins<;>cases noOn outs<;>simp
   |true=>
    have:noOn ins=true∧noOn outs=true:=by revert hio;cases noOn ins<;>cases noOn outs<;>simp
    rw[this.1,this.2]
    simp only [go1,Nat.reduceAdd,Int.reduceEq,Int.reduceLT,Int.reduceLE,Int.reduceSub,Int.reduceAdd,Bool.not_true,Bool.true_and,qrows_len]
    refine all_loop2 (r0:=Sum.inr (PRes.val [.bool false])) (r1:=Sum.inr (PRes.val [.bool (lowN (tb nm)&&decide (0 < (outs.length:Int)))])) eqB eqs (fun i=>[.sl 7 (qrows eqs), .int .i64 (eqs.length:Int), .int .i64 (i:Int), .str nm, .sl 6 (drows ins), .sl 6 (drows outs), .sl 6 (drows vars), .sl 7 (qrows eqs)]) rfl (fun i x hx=> ?_) (fun _=> ?_) ?_
    ·have hlt:=(List.getElem?_eq_some_iff.1 hx).1
     have hok:=heo x (List.mem_of_getElem? hx)
     have hr:=qrow_at hx
     obtain⟨ns,e⟩:=x
     obtain⟨k,m,y,o,a,u⟩:=e
     have c1:=c_equation ns k m y o a u hok
     have hr':sy.row (qrows eqs) (i:Int)= [.sl 1 (srows ns), .int .i64 k, .int .i64 m, .str y, .int .i64 o, .sl 1 (srows a), .sl 6 (Ex.rows u)]:=hr
     simp only [go1,Nat.reduceAdd,Int.reduceEq,Int.reduceLT,Int.reduceLE,Int.reduceSub,Int.reduceAdd,oE,qrows_len,ilt_at hlt,inr_at hlt,hr',c1,wrap_succ hlt (by omega)]
     cases eqB ⟨ns, .mk k m y o a u⟩<;>rfl
    ·simp only [go1,Nat.reduceAdd,Int.reduceEq,Int.reduceLT,Int.reduceLE,Int.reduceSub,Int.reduceAdd,ilt_self,hnm,drows_len]
     try (cases lowN (tb nm)<;>rfl)
    ·cases List.all eqs _<;>rfl
 ·cases List.all l _<;>rfl
theorem c_check (ens:List En)(nds:List Nd)(hE:ens.length≤1000000)(hN:nds.length≤1000000)(h: ∀n∈nds,NdOK n):cF 33 [.agg [.d (.sl 2 (erows ens)), .d (.sl 5 (nrows nds))]]=some (.val [.int .i64 (chkS ens nds)]):=by
 have h1:=c_tyEnums ens hE
 have hO:=c_iOnce (nds.map (·.n)) (by rw[List.length_map];exact hN)
 unfold chkS
 refine cOf (by kernel_rfl) rfl ?_
 rw[g33_eq]
 simp only [g33,go1,Nat.reduceAdd,Int.reduceEq,Int.reduceLT,Int.reduceLE,Int.reduceSub,Int.reduceAdd,h1]
 cases he:decide (enumsN ens=0)with
 |false=>simp only [go1,Nat.reduceAdd,Int.reduceEq,Int.reduceLT,Int.reduceLE,Int.reduceSub,Int.reduceAdd,Bool.not_false]
 |true=>
  simp only [go1,Nat.reduceAdd,Int.reduceEq,Int.reduceLT,Int.reduceLE,Int.reduceSub,Int.reduceAdd,Bool.not_true,nrows_len]
  refine rep_loop2 nds.length (fun i=>[.sl 5 (nrows nds), .int .i64 (nds.length:Int), .int .i64 (i:Int), .sl 2 (erows ens), .sl 5 (nrows nds), .sl 1 (srows ((nds.take i).map (·.n)))]) rfl (fun i hlt=> ?_) ?_
  ·have hx:=List.getElem?_eq_getElem hlt
   have hf:=fitsR (srows ((nds.take i).map (·.n))) [[.str nds[i].n]] 16 (by rw[srows_len,List.length_map,List.length_take];simp only [List.length_cons,List.length_nil];omega)
   rw[List.take_add_one,hx,Option.toList_some,List.map_append,List.map_cons,List.map_nil,srows_snoc]
   simp only [go1,Nat.reduceAdd,Int.reduceEq,Int.reduceLT,Int.reduceLE,Int.reduceSub,Int.reduceAdd,List.length_cons,List.length_nil]at hf
   simp only [go1,Nat.reduceAdd,Int.reduceEq,Int.reduceLT,Int.reduceLE,Int.reduceSub,Int.reduceAdd,nrow,nrows_len,ilt_at hlt,inr_at hlt,nrow_at hx,hf,List.length_cons,List.length_nil,wrap_succ hlt (by omega)]
   rfl
  ·simp only [go1,Nat.reduceAdd,Int.reduceEq,Int.reduceLT,Int.reduceLE,Int.reduceSub,Int.reduceAdd,ilt_self,List.take_length,nrows_len]
   cases hz:decide ((nds.length:Int)=0)with
   |true=>rfl
   |false=>
    simp only [go1,Nat.reduceAdd,Int.reduceEq,Int.reduceLT,Int.reduceLE,Int.reduceSub,Int.reduceAdd]
    refine(cut_inl (L:=[.bool (decide (6 < (nds.length:Int)) || nds.any greatB), .sl 2 (erows ens), .sl 5 (nrows nds), .sl 1 (srows (nds.map (·.n)))]) ?_).trans ?_
    ·cases h6:decide (6 < (nds.length:Int))with
     |true=>rfl
     |false=>
      simp only [go1,Nat.reduceAdd,Int.reduceEq,Int.reduceLT,Int.reduceLE,Int.reduceSub,Int.reduceAdd,nrows_len]
      refine all_loop2 (r0:=Sum.inl [.bool true, .sl 2 (erows ens), .sl 5 (nrows nds), .sl 1 (srows (nds.map (·.n)))]) (r1:=Sum.inl [.bool false, .sl 2 (erows ens), .sl 5 (nrows nds), .sl 1 (srows (nds.map (·.n)))]) (fun n=> !greatB n) nds (fun i=>[.sl 5 (nrows nds), .int .i64 (nds.length:Int), .int .i64 (i:Int), .sl 2 (erows ens), .sl 5 (nrows nds), .sl 1 (srows (nds.map (·.n))), .sl 2 (erows ens), .sl 5 (nrows nds)]) rfl (fun i x hx=> ?_) (fun _=> ?_) ?_
      ·have hlt:=(List.getElem?_eq_some_iff.1 hx).1
       unfold greatB
       simp only [go1,Nat.reduceAdd,Int.reduceEq,Int.reduceLT,Int.reduceLE,Int.reduceSub,Int.reduceAdd,nrow,nrows_len,drows_len,qrows_len,ilt_at hlt,inr_at hlt,nrow_at hx,wrap_succ hlt (by omega),decT (Int.natCast_nonneg i)]
       cases decide (6 < (x.ins.length:Int))<;>cases decide (6 < (x.outs.length:Int))<;>cases decide (12 < (x.vars.length:Int))<;>cases decide (18 < (x.eqs.length:Int))<;>rfl
      ·simp only [go1,Nat.reduceAdd,Int.reduceEq,Int.reduceLT,Int.reduceLE,Int.reduceSub,Int.reduceAdd,ilt_self,nrows_len];try rfl
      ·rw[List.any_eq_not_all_not];cases List.all nds _<;>rfl
    ·simp only [go1,Nat.reduceAdd,Int.reduceEq,Int.reduceLT,Int.reduceLE,Int.reduceSub,Int.reduceAdd]
     cases hg:decide (6 < (nds.length:Int)) || nds.any greatB with
     |true=>rfl
     |false=>
      simp only [go1,Nat.reduceAdd,Int.reduceEq,Int.reduceLT,Int.reduceLE,Int.reduceSub,Int.reduceAdd,nrows_len]
      refine(cut_inl (L:=[.bool (!nds.all (nodeB ens)), .sl 2 (erows ens), .sl 5 (nrows nds), .sl 1 (srows (nds.map (·.n)))]) ?_).trans ?_
      ·refine all_loop2 (r0:=Sum.inl [.bool true, .sl 2 (erows ens), .sl 5 (nrows nds), .sl 1 (srows (nds.map (·.n)))]) (r1:=Sum.inl [.bool false, .sl 2 (erows ens), .sl 5 (nrows nds), .sl 1 (srows (nds.map (·.n)))]) (nodeB ens) nds (fun i=>[.sl 5 (nrows nds), .int .i64 (nds.length:Int), .int .i64 (i:Int), .sl 2 (erows ens), .sl 5 (nrows nds), .sl 1 (srows (nds.map (·.n))), .sl 2 (erows ens), .sl 5 (nrows nds)]) rfl (fun i x hx=> ?_) (fun _=> ?_) ?_
       ·have hlt:=(List.getElem?_eq_some_iff.1 hx).1
        have c1:=c_right ens x (h x (List.mem_of_getElem? hx))
        simp only [go1,Nat.reduceAdd,Int.reduceEq,Int.reduceLT,Int.reduceLE,Int.reduceSub,Int.reduceAdd,nrow,nrows_len,ilt_at hlt,inr_at hlt,nrow_at hx,c1,wrap_succ hlt (by omega),decT (Int.natCast_nonneg i)]
        cases nodeB ens x<;>rfl
       ·simp only [go1,Nat.reduceAdd,Int.reduceEq,Int.reduceLT,Int.reduceLE,Int.reduceSub,Int.reduceAdd,ilt_self,nrows_len];try rfl
       ·cases List.all nds _<;>rfl
      ·simp only [go1,Nat.reduceAdd,Int.reduceEq,Int.reduceLT,Int.reduceLE,Int.reduceSub,Int.reduceAdd]
       cases hr:nds.all (nodeB ens)with
       |false=>rfl
       |true=>
        simp only [go1,Nat.reduceAdd,Int.reduceEq,Int.reduceLT,Int.reduceLE,Int.reduceSub,Int.reduceAdd,Bool.not_true,nrows_len]
        refine(cut_inl (L:=[.bool (!nds.all onceB || !decide (nds.map (·.n)).Nodup), .sl 2 (erows ens), .sl 5 (nrows nds), .sl 1 (srows (nds.map (·.n)))]) ?_).trans ?_
        ·refine all_loop2 (r0:=Sum.inl [.bool true, .sl 2 (erows ens), .sl 5 (nrows nds), .sl 1 (srows (nds.map (·.n)))]) (r1:=Sum.inl [.bool (!decide (nds.map (·.n)).Nodup), .sl 2 (erows ens), .sl 5 (nrows nds), .sl 1 (srows (nds.map (·.n)))]) onceB nds (fun i=>[.sl 5 (nrows nds), .int .i64 (nds.length:Int), .int .i64 (i:Int), .sl 2 (erows ens), .sl 5 (nrows nds), .sl 1 (srows (nds.map (·.n))), .sl 2 (erows ens), .sl 5 (nrows nds)]) rfl (fun i x hx=> ?_) (fun _=> ?_) ?_
         ·have hlt:=(List.getElem?_eq_some_iff.1 hx).1
          have c1:=c_once x (h x (List.mem_of_getElem? hx)).al
          simp only [go1,Nat.reduceAdd,Int.reduceEq,Int.reduceLT,Int.reduceLE,Int.reduceSub,Int.reduceAdd,nrow,nrows_len,ilt_at hlt,inr_at hlt,nrow_at hx,c1,wrap_succ hlt (by omega),decT (Int.natCast_nonneg i)]
          cases onceB x<;>rfl
         ·simp only [go1,Nat.reduceAdd,Int.reduceEq,Int.reduceLT,Int.reduceLE,Int.reduceSub,Int.reduceAdd,ilt_self,nrows_len,hO];try rfl
         ·cases List.all nds _<;>rfl
        ·simp only [go1,Nat.reduceAdd,Int.reduceEq,Int.reduceLT,Int.reduceLE,Int.reduceSub,Int.reduceAdd]
         cases !nds.all onceB || !decide (nds.map (·.n)).Nodup<;>rfl
end Go.Vm
end
section
namespace Go.Vm
structure EnOK (e:En):Prop where
 n:e.1.size≤100000
 c: ∀x∈e.2,x.size≤100000
theorem RM.assoc {α β γ:Type}(m:RM α)(f:α→RM β)(g:β→RM γ):(m.bind f).bind g=m.bind fun x=>(f x).bind g:=by
 funext i
 unfold RM.bind
 cases m i<;>rfl
theorem Post.assoc {α β γ:Type}{F:Int→St→Nat→Int→Prop}{l:List Tk}{m:RM α}{f:α→RM β}{g:β→RM γ}{s s':St}{v:γ}(h:Post F l (m.bind fun x=>(f x).bind g) s v s'):Post F l ((m.bind f).bind g) s v s':=by
 rw[RM.assoc];exact h
end Go.Vm
end
