/-
  Part J of the proof. What is proved by the whole: the statement that the claim names, with no condition. This part: lemmas.
-/
import Derived.Test.YtdckoceiokaelaaGreatDoorI
set_option linter.unusedSimpArgs false
set_option linter.unusedVariables false

section
set_option linter.all false
set_option maxRecDepth 100000
set_option maxHeartbeats 4000000
namespace Go.Vm
open Go.Proofs
theorem cOfBQ {f k:FuncId}{pn:Nat}{xs key:List V}{hs:List Box}{Q:PRes→Prop}(hg:goodF Tryz.prog k=false)(hd:decB key=some (pn,xs,hs))(hk:Nat.beq k (bkey f)=true)(hn:kn k key=none)(h: ∃p,(funB sy Tryz.prog cs f pn xs hs).run eF=some p∧Q p): ∃p,cF k key=some p∧Q p:=
 h.imp fun _ h=>⟨cOfB hg hd hk hn h.1,h.2⟩
def valR {α:Type}(c:α→List D)(l:List Tk)(a:α)(j:Nat)(b:Bool):PRes:= .val (c a++[.sl 4 (trows l), .int .i64 (j:Int), .bool b])
def QR {α:Type}(c:α→List D)(l:List Tk):Rs α→PRes→Prop
 | .ok a j,r=>r=valR c l a j false
 | .bad j,r=>j < l.length∧ ∃a,r=valR c l a j true
 | .out,_=>False
theorem QR_cases {α:Type}{c:α→List D}{l:List Tk}{R:Rs α}{x:Option PRes}(h: ∃r,x=some r∧QR c l R r):(∃a j,R= .ok a j∧x=some (valR c l a j false))∨(∃a j,R= .bad j∧j < l.length∧x=some (valR c l a j true)):=by
 obtain⟨r,hx,hq⟩:=h
 cases R with
 |ok a j=>exact .inl ⟨a,j,rfl,by rw[hx,show r=_ from hq]⟩
 |bad j=>obtain⟨hj,a,rfl⟩:=hq;exact .inr ⟨a,j,rfl,hj,hx⟩
 |out=>exact hq.elim
section
variable (l : List Tk) (hl : LOK l) (i : Nat) (hi : i < l.length)
include hl hi
theorem q_take (b:Bool)(s:ByteArray):cF 1000092 (rS s (trows l) (i:Int) b)=some (match !b&&isT l i s with
  |true=> .val [.bool true, .sl 4 (trows l), .int .i64 ((i+1:Nat):Int), .bool b]
  |false=> .val [.bool false, .sl 4 (trows l), .int .i64 (i:Int), .bool b]):=by
 have hf:=hl.few
 have h1:=in_tk hi
 have h2:=row_tk hi
 refine cOfB (f:=92) (by kernel_rfl) (by with_reducible first|exact dec1 _ _|exact dec2 _ _ _|exact dec3 _ _|exact dec4 _ _ _|exact dec5 _ _ _ _|exact dec6 _ _ _|exact dec7 _ _ _|exact dec8 _ _ _ _|exact dec9 _ _ _ _ _) (by kernel_rfl) rfl ?_
 rw[b92_eq]
 simp only [b92,oE,oP,oR,oT,go1,Nat.reduceAdd,Int.reduceEq,Int.reduceLT,Int.reduceLE,Int.reduceSub,Int.reduceAdd,h1,h2,tkrow,seq_tb]
 have e:isT l i s=(decide (tb (tkA l i).s=tb s)&&(decide ((tkA l i).k=1) || decide ((tkA l i).k=5))):=rfl
 rw[e]
 have w:=wrap_succ (i:=i) (n:=l.length) hi (by omega)
 cases b<;>cases decide (tb (tkA l i).s=tb s)<;>cases decide ((tkA l i).k=1)<;>cases decide ((tkA l i).k=5)<;>simp only [go1,Nat.reduceAdd,Int.reduceEq,Int.reduceLT,Int.reduceLE,Int.reduceSub,Int.reduceAdd,Bool.not_true,Bool.not_false,Bool.and_true,Bool.and_false,Bool.or_true,Bool.or_false,Bool.true_and,Bool.false_and,w]<;>rfl
theorem q_tbad (s:ByteArray):cF 1000092 (rS s (trows l) (i:Int) true)=some (.val [.bool false, .sl 4 (trows l), .int .i64 (i:Int), .bool true]):=q_take l hl i hi true s
theorem q_tok (s:ByteArray):cF 1000092 (rS s (trows l) (i:Int) false)=some (match isT l i s with
  |true=> .val [.bool true, .sl 4 (trows l), .int .i64 ((i+1:Nat):Int), .bool false]
  |false=> .val [.bool false, .sl 4 (trows l), .int .i64 (i:Int), .bool false]):=q_take l hl i hi false s
theorem q_nbad (s:ByteArray):cF 1000225 (rS s (trows l) (i:Int) true)=some (.val [.sl 4 (trows l), .int .i64 (i:Int), .bool true]):=by
 have h:=q_tbad l hl i hi s
 refine cOfB (f:=225) (by kernel_rfl) (by with_reducible first|exact dec1 _ _|exact dec2 _ _ _|exact dec3 _ _|exact dec4 _ _ _|exact dec5 _ _ _ _|exact dec6 _ _ _|exact dec7 _ _ _|exact dec8 _ _ _ _|exact dec9 _ _ _ _ _) (by kernel_rfl) rfl ?_
 rw[b225_eq]
 simp only [b225,oE,oP,oR,oT,go1,Nat.reduceAdd,Int.reduceEq,Int.reduceLT,Int.reduceLE,Int.reduceSub,Int.reduceAdd,h]
 try rfl
theorem q_nok (s:ByteArray):cF 1000225 (rS s (trows l) (i:Int) false)=some (match isT l i s with
  |true=> .val [.sl 4 (trows l), .int .i64 ((i+1:Nat):Int), .bool false]
  |false=> .val [.sl 4 (trows l), .int .i64 (i:Int), .bool true]):=by
 have h:=q_tok l hl i hi s
 refine cOfB (f:=225) (by kernel_rfl) (by with_reducible first|exact dec1 _ _|exact dec2 _ _ _|exact dec3 _ _|exact dec4 _ _ _|exact dec5 _ _ _ _|exact dec6 _ _ _|exact dec7 _ _ _|exact dec8 _ _ _ _|exact dec9 _ _ _ _ _) (by kernel_rfl) rfl ?_
 rw[b225_eq]
 simp only [b225,oE,oP,oR,oT,go1,Nat.reduceAdd,Int.reduceEq,Int.reduceLT,Int.reduceLE,Int.reduceSub,Int.reduceAdd,h]
 cases isT l i s<;>rfl
theorem q_mbad:cF 1000232 (rP (trows l) (i:Int) true)=some (valR sD l (bs []) i true):=by
 have h1:=in_tk hi
 have h2:=row_tk hi
 refine cOfB (f:=232) (by kernel_rfl) (by with_reducible first|exact dec1 _ _|exact dec2 _ _ _|exact dec3 _ _|exact dec4 _ _ _|exact dec5 _ _ _ _|exact dec6 _ _ _|exact dec7 _ _ _|exact dec8 _ _ _ _|exact dec9 _ _ _ _ _) (by kernel_rfl) rfl ?_
 rw[b232_eq]
 simp only [b232,oE,oP,oR,oT,go1,Nat.reduceAdd,Int.reduceEq,Int.reduceLT,Int.reduceLE,Int.reduceSub,Int.reduceAdd,h1,h2,tkrow]
 try rfl
theorem q_mok:cF 1000232 (rP (trows l) (i:Int) false)=some (match nameS l i with
  | .ok s j=>valR sD l s j false
  |_=>valR sD l (bs []) i true):=by
 have hf:=hl.few
 have h1:=in_tk hi
 have h2:=row_tk hi
 have h3:=c_rWord (tkA l i).s
 have w:=wrap_succ (i:=i) (n:=l.length) hi (by omega)
 refine cOfB (f:=232) (by kernel_rfl) (by with_reducible first|exact dec1 _ _|exact dec2 _ _ _|exact dec3 _ _|exact dec4 _ _ _|exact dec5 _ _ _ _|exact dec6 _ _ _|exact dec7 _ _ _|exact dec8 _ _ _ _|exact dec9 _ _ _ _ _) (by kernel_rfl) rfl ?_
 rw[b232_eq]
 simp only [b232,oE,oP,oR,oT,go1,Nat.reduceAdd,Int.reduceEq,Int.reduceLT,Int.reduceLE,Int.reduceSub,Int.reduceAdd,h1,h2,tkrow,h3]
 unfold nameS
 cases decide ((tkA l i).k=1)<;>cases wordN (tb (tkA l i).s)<;>simp only [go1,Nat.reduceAdd,Int.reduceEq,Int.reduceLT,Int.reduceLE,Int.reduceSub,Int.reduceAdd,Bool.not_true,Bool.not_false,w]<;>rfl
theorem q_aok:cF 1000234 (rP (trows l) (i:Int) false)=some (match armS l i with
  | .ok s j=>valR sD l s j false
  |_=>valR sD l (bs []) i true):=by
 have hf:=hl.few
 have h1:=in_tk hi
 have h2:=row_tk hi
 have h3:=q_tok l hl i hi (bs [116,114,117,101])
 have h4:=q_tok l hl i hi (bs [102,97,108,115,101])
 have w:=wrap_succ (i:=i) (n:=l.length) hi (by omega)
 refine cOfB (f:=234) (by kernel_rfl) (by with_reducible first|exact dec1 _ _|exact dec2 _ _ _|exact dec3 _ _|exact dec4 _ _ _|exact dec5 _ _ _ _|exact dec6 _ _ _|exact dec7 _ _ _|exact dec8 _ _ _ _|exact dec9 _ _ _ _ _) (by kernel_rfl) rfl ?_
 rw[b234_eq]
 simp only [b234,oE,oP,oR,oT,go1,Nat.reduceAdd,Int.reduceEq,Int.reduceLT,Int.reduceLE,Int.reduceSub,Int.reduceAdd,h3]
 unfold armS armedB
 cases t1:isT l i (bs [116,114,117,101])with
 |true=>
  have e:(tkA l i).s=bs [116,114,117,101]:=by
   unfold isT at t1
   simp only [Bool.and_eq_true,decide_eq_true_eq]at t1
   exact tb_inj t1.1
  rw[show isT l i bTrue=true from t1,Bool.true_or,Bool.or_true,e]
  rfl
 |false=>
  rw[show isT l i bTrue=false from t1,Bool.false_or]
  simp only [go1,Nat.reduceAdd,Int.reduceEq,Int.reduceLT,Int.reduceLE,Int.reduceSub,Int.reduceAdd,h4]
  cases t2:isT l i (bs [102,97,108,115,101])with
  |true=>
   have e:(tkA l i).s=bs [102,97,108,115,101]:=by
    unfold isT at t2
    simp only [Bool.and_eq_true,decide_eq_true_eq]at t2
    exact tb_inj t2.1
   rw[show isT l i bFalse=true from t2,Bool.or_true,e]
   rfl
  |false=>
   rw[show isT l i bFalse=false from t2,Bool.or_false]
   simp only [go1,Nat.reduceAdd,Int.reduceEq,Int.reduceLT,Int.reduceLE,Int.reduceSub,Int.reduceAdd,h1,h2,tkrow]
   cases decide ((tkA l i).k=2)<;>simp only [go1,Nat.reduceAdd,Int.reduceEq,Int.reduceLT,Int.reduceLE,Int.reduceSub,Int.reduceAdd,Bool.not_true,Bool.not_false,w]<;>rfl
end
end Go.Vm
end

section
set_option linter.all false
set_option maxRecDepth 100000
set_option maxHeartbeats 4000000
namespace Go.Vm
open Go.Proofs
def iR (a m:Nat):List (List D):=(List.range m).map fun k=>[D.int .i64 ((a+k:Nat):Int)]
def sR (a m:Nat):List (List D):=(List.range m).map fun k=>[D.str (signB (a+k))]
section
variable (l : List Tk) (hl : LOK l) (i : Nat) (hi : i < l.length)
include hl hi
theorem q_sign (a m:Nat)(hm:m≤16)(b:Bool):cF 1000169 (rO (iR a m) (sR a m) (trows l) (i:Int) b)=some (match b,opSg l i a m with
  |false,some o=> .val [.int .i64 (o:Int), .sl 4 (trows l), .int .i64 ((i+1:Nat):Int), .bool b, .sl 1 (iR a m), .sl 1 (sR a m)]
  |_,_=> .val [.int .i64 0, .sl 4 (trows l), .int .i64 (i:Int), .bool b, .sl 1 (iR a m), .sl 1 (sR a m)]):=by
 refine cOfB (f:=169) (by kernel_rfl) (by with_reducible first|exact dec1 _ _|exact dec2 _ _ _|exact dec3 _ _|exact dec4 _ _ _|exact dec5 _ _ _ _|exact dec6 _ _ _|exact dec7 _ _ _|exact dec8 _ _ _ _|exact dec9 _ _ _ _ _) (by kernel_rfl) rfl ?_
 rw[b169_eq]
 simp only [b169,oE,oP,oR,oT,go1,Nat.reduceAdd,Int.reduceEq,Int.reduceLT,Int.reduceLE,Int.reduceSub,Int.reduceAdd]
 have e1:(iR a m).length=m:=by simp [iR]
 have e2:(sR a m).length=m:=by simp [sR]
 refine loopF_at (fun x:Nat=>[.int .i64 (x:Int), .sl 4 (trows l), .int .i64 (i:Int), .bool b, .sl 1 (iR a m), .sl 1 (sR a m)]) (fun x=>x≤m∧(b=false→opSg l i (a+x) (m - x)=opSg l i a m)) (fun x=>m - x) (fun x hx=> ?_) 0 ⟨Nat.zero_le _,fun _=>rfl⟩
 obtain⟨h1,h2⟩:=hx
 by_cases hlt:x < m
 ·have e3:sy.rown (sR a m) x= [.str (signB (a+x))]:=by
   show(sR a m).getD x []=_
   rw[List.getD_eq_getElem?_getD];simp [sR,hlt]
  have e4:sy.rown (iR a m) x= [.int .i64 ((a+x:Nat):Int)]:=by
   show(iR a m).getD x []=_
   rw[List.getD_eq_getElem?_getD];simp [iR,hlt]
  have e5:=q_take l hl i hi b (signB (a+x))
  have w:=wrap_succ (i:=x) (n:=m) hlt (by omega)
  simp only [go1,Nat.reduceAdd,Int.reduceEq,Int.reduceLT,Int.reduceLE,Int.reduceSub,Int.reduceAdd,e1,e2,ilt_at hlt,inr_at hlt,Int.toNat_natCast,e3,e4,e5,w]
  cases b with
  |true=>
   left
   refine⟨x+1,?_,⟨hlt,fun h=>by cases h⟩,by omega⟩
   simp only [go1,Nat.reduceAdd,Int.reduceEq,Int.reduceLT,Int.reduceLE,Int.reduceSub,Int.reduceAdd,Bool.not_true,Bool.false_and];rfl
  |false=>
   have h2:=h2 rfl
   rw[show m - x=(m - x - 1)+1 by omega,opSg]at h2
   simp only [Bool.not_false,Bool.true_and]
   cases ht:isT l i (signB (a+x))with
   |true=>
    right
    rw[ht]at h2
    simp only [go1,Nat.reduceAdd,Int.reduceEq,Int.reduceLT,Int.reduceLE,Int.reduceSub,Int.reduceAdd]
    rw[←h2]
   |false=>
    left
    rw[ht]at h2
    refine⟨x+1,?_,⟨hlt,fun _=>by rw[←h2];exact congrArg (opSg l i (a+x+1)) (by omega)⟩,by omega⟩
    simp only [go1,Nat.reduceAdd,Int.reduceEq,Int.reduceLT,Int.reduceLE,Int.reduceSub,Int.reduceAdd];rfl
 ·right
  have:x=m:=by omega
  subst this
  simp only [go1,Nat.reduceAdd,Int.reduceEq,Int.reduceLT,Int.reduceLE,Int.reduceSub,Int.reduceAdd,e1,ilt_self]
  cases b with
  |true=>rfl
  |false=>
   have h2:=h2 rfl
   rw[Nat.sub_self,opSg]at h2
   rw[←h2]
end
theorem q_wtail {l:List Tk}(hl:LOK l){i:Nat}(hi:i < l.length)(ha:armedB l i=true): ∃r,((cF 1000234 (rP (trows l) (i:Int) false)).bind fun p17=>(opS (sy.cell p17.leaves 0)).bind fun s19=>
  (opL (sy.cell p17.leaves 1) 4).bind fun l20=>(opI (sy.cell p17.leaves 2) .i64).bind fun n21=>(opB (sy.cell p17.leaves 3)).bind fun b22=>
  (cF 1000225 (rS (bs [40]) l20 n21 b22)).bind fun p23=>
  (opL (sy.cell p23.leaves 0) 4).bind fun l25=>(opI (sy.cell p23.leaves 1) .i64).bind fun n26=>(opB (sy.cell p23.leaves 2)).bind fun b27=>
  (cF 1000232 (rP l25 n26 b27)).bind fun p28=>
  (opS (sy.cell p28.leaves 0)).bind fun s30=>
  (opL (sy.cell p28.leaves 1) 4).bind fun l31=>(opI (sy.cell p28.leaves 2) .i64).bind fun n32=>(opB (sy.cell p28.leaves 3)).bind fun b33=>
  (cF 1000225 (rS (bs [41]) l31 n32 b33)).bind fun p34=>
  (opL (sy.cell p34.leaves 0) 4).bind fun l36=>(opI (sy.cell p34.leaves 1) .i64).bind fun n37=>(opB (sy.cell p34.leaves 2)).bind fun b38=>
  some (PRes.val [.str s30, .str s19, .sl 4 l36, .int .i64 n37, .bool b38]))=some r∧QR wD l ((armS l i).bind fun a j=>(needS l [bs [40]] j).bind fun _ j=>(nameS l j).bind fun n j=>(needS l [bs [41]] j).bind fun _ j=> .ok (n,a) j) r:=by
 rw[q_aok l hl i hi]
 cases hr:armS l i with
 |out=>exact(armS_no hr).elim
 |bad j=>
  have:j=i:=by unfold armS at hr;split at hr<;>cases hr;rfl
  subst this
  simp only [valR,sD,go1,Nat.reduceAdd,Int.reduceEq,Int.reduceLT,Int.reduceLE,Int.reduceSub,Int.reduceAdd,List.cons_append,List.nil_append,q_nbad l hl j hi,q_mbad l hl j hi,some_and]
  exact⟨hi,(_,_),rfl⟩
 |ok a j=>
  have hj:=armS_lt hl hi hr
  simp only [valR,sD,go1,Nat.reduceAdd,Int.reduceEq,Int.reduceLT,Int.reduceLE,Int.reduceSub,Int.reduceAdd,List.cons_append,List.nil_append,q_nok l hl j hj,Rs.bind_ok,needS]
  cases t1:isT l j (bs [40])with
  |false=>
   simp only [valR,sD,go1,Nat.reduceAdd,Int.reduceEq,Int.reduceLT,Int.reduceLE,Int.reduceSub,Int.reduceAdd,List.cons_append,List.nil_append,q_nbad l hl j hj,q_mbad l hl j hj,some_and]
   exact⟨hj,(_,_),rfl⟩
  |true=>
   have hk:=hl.next hj (isT_k t1)
   simp only [valR,sD,go1,Nat.reduceAdd,Int.reduceEq,Int.reduceLT,Int.reduceLE,Int.reduceSub,Int.reduceAdd,List.cons_append,List.nil_append,q_mok l hl (j+1) hk,Rs.bind_ok]
   cases hr2:nameS l (j+1)with
   |out=>exact(nameS_no hr2).elim
   |bad k=>
    have:k=j+1:=by unfold nameS at hr2;split at hr2<;>cases hr2;rfl
    subst this
    simp only [valR,sD,go1,Nat.reduceAdd,Int.reduceEq,Int.reduceLT,Int.reduceLE,Int.reduceSub,Int.reduceAdd,List.cons_append,List.nil_append,q_nbad l hl (j+1) hk,some_and]
    exact⟨hk,(_,_),rfl⟩
   |ok n k=>
    have hm:=nameS_lt hl hk hr2
    simp only [valR,sD,go1,Nat.reduceAdd,Int.reduceEq,Int.reduceLT,Int.reduceLE,Int.reduceSub,Int.reduceAdd,List.cons_append,List.nil_append,q_nok l hl k hm,Rs.bind_ok]
    cases t2:isT l k (bs [41])with
    |false=>simp only [go1,Nat.reduceAdd,Int.reduceEq,Int.reduceLT,Int.reduceLE,Int.reduceSub,Int.reduceAdd,some_and];exact⟨hm,(_,_),rfl⟩
    |true=>simp only [go1,Nat.reduceAdd,Int.reduceEq,Int.reduceLT,Int.reduceLE,Int.reduceSub,Int.reduceAdd,some_and];rfl
theorem q_when {l:List Tk}(hl:LOK l){i:Nat}(hi:i < l.length): ∃r,cF 1000226 (rP (trows l) (i:Int) false)=some r∧QR wD l (whenS l i) r:=by
 have h1:=q_tok l hl i hi (bs [110,111,116])
 have h2:=in_tk hi
 have h3:=row_tk hi
 refine cOfBQ (f:=226) (by kernel_rfl) (by with_reducible first|exact dec7 _ _ _|exact dec8 _ _ _ _|exact dec9 _ _ _ _ _) (by kernel_rfl) rfl ?_
 rw[b226_eq]
 simp only [b226,oE,oP,oR,oT,some_and,go1,Nat.reduceAdd,Int.reduceEq,Int.reduceLT,Int.reduceLE,Int.reduceSub,Int.reduceAdd,h1]
 unfold whenS
 cases ht:isT l i (bs [110,111,116])with
 |true=>
  have hj:=hl.next hi (isT_k ht)
  simp only [valR,sD,go1,Nat.reduceAdd,Int.reduceEq,Int.reduceLT,Int.reduceLE,Int.reduceSub,Int.reduceAdd,List.cons_append,List.nil_append,q_mok l hl (i+1) hj]
  cases hr:nameS l (i+1)with
  |out=>exact(nameS_no hr).elim
  |bad k=>
   have:k=i+1:=by unfold nameS at hr;split at hr<;>cases hr;rfl
   subst this
   simp only [valR,sD,go1,Nat.reduceAdd,Int.reduceEq,Int.reduceLT,Int.reduceLE,Int.reduceSub,Int.reduceAdd,List.cons_append,List.nil_append,some_and]
   exact⟨hj,(_,_),rfl⟩
  |ok n k=>simp only [valR,sD,go1,Nat.reduceAdd,Int.reduceEq,Int.reduceLT,Int.reduceLE,Int.reduceSub,Int.reduceAdd,List.cons_append,List.nil_append,some_and];rfl
 |false=>
  simp only [go1,Nat.reduceAdd,Int.reduceEq,Int.reduceLT,Int.reduceLE,Int.reduceSub,Int.reduceAdd,h2,h3,tkrow,seq_tb,Bool.not_false]
  rw[←show isT l i bTrue=(decide (tb (tkA l i).s=tb (bs [116,114,117,101]))&&(decide ((tkA l i).k=1) || decide ((tkA l i).k=5)))from rfl,←show isT l i bFalse=(decide (tb (tkA l i).s=tb (bs [102,97,108,115,101]))&&(decide ((tkA l i).k=1) || decide ((tkA l i).k=5)))from rfl]
  have tail:=q_wtail hl hi
  unfold armedB at tail ⊢
  cases hk:decide ((tkA l i).k=2)with
  |true=>rw[hk]at tail;simp only [go1,Nat.reduceAdd,Int.reduceEq,Int.reduceLT,Int.reduceLE,Int.reduceSub,Int.reduceAdd,Bool.true_or];exact tail rfl
  |false=>
   rw[hk]at tail
   simp only [go1,Nat.reduceAdd,Int.reduceEq,Int.reduceLT,Int.reduceLE,Int.reduceSub,Int.reduceAdd,Bool.false_or]at tail ⊢
   cases t1:isT l i bTrue with
   |true=>rw[t1]at tail;simp only [go1,Nat.reduceAdd,Int.reduceEq,Int.reduceLT,Int.reduceLE,Int.reduceSub,Int.reduceAdd,Bool.true_or];exact tail rfl
   |false=>
    rw[t1]at tail
    simp only [go1,Nat.reduceAdd,Int.reduceEq,Int.reduceLT,Int.reduceLE,Int.reduceSub,Int.reduceAdd,Bool.false_or]at tail ⊢
    cases t2:isT l i bFalse with
    |true=>rw[t2]at tail;simp only [go1,Nat.reduceAdd,Int.reduceEq,Int.reduceLT,Int.reduceLE,Int.reduceSub,Int.reduceAdd];exact tail rfl
    |false=>
     simp only [valR,sD,go1,Nat.reduceAdd,Int.reduceEq,Int.reduceLT,Int.reduceLE,Int.reduceSub,Int.reduceAdd,List.cons_append,List.nil_append,q_mok l hl i hi]
     cases hr:nameS l i with
     |out=>exact(nameS_no hr).elim
     |bad k=>
      have:k=i:=by unfold nameS at hr;split at hr<;>cases hr;rfl
      subst this
      simp only [valR,sD,go1,Nat.reduceAdd,Int.reduceEq,Int.reduceLT,Int.reduceLE,Int.reduceSub,Int.reduceAdd,List.cons_append,List.nil_append,some_and]
      exact⟨hi,(_,_),rfl⟩
     |ok n k=>simp only [valR,sD,go1,Nat.reduceAdd,Int.reduceEq,Int.reduceLT,Int.reduceLE,Int.reduceSub,Int.reduceAdd,List.cons_append,List.nil_append,some_and];rfl
end Go.Vm
end

section
set_option linter.all false
set_option maxRecDepth 100000
set_option maxHeartbeats 4000000
namespace Go.Vm
open Go.Proofs
def keyR:Nt→FuncId
 | .arrow=>1000045
 | .fby=>1000091
 | .or=>1000133
 | .and=>1000168
 | .cmp=>1000189
 | .sum=>1000206
 | .prod=>1000216
 | .un=>1000220
 | .post=>1000222
 | .atom=>1000224
structure HR (l:List Tk) (p:PR):Prop where
 c: ∀nt i,i < l.length→p nt i≠ .out→ ∃r,cF (keyR nt) (rP (trows l) (i:Int) false)=some r∧QR Ex.row l (p nt i) r
 lt: ∀nt i e j,i < l.length→p nt i= .ok e j→j < l.length
 gt: ∀nt i e j,i < l.length→p nt i= .ok e j→i < j
theorem c_qbin (o:Nat)(a b:Ex): ∀k n s o1 ar su k2 n2 s2 o2 ar2 su2,a= .mk k n s o1 ar su→b= .mk k2 n2 s2 o2 ar2 su2→
  cF 170 [.d (.int .i64 (o:Int)), .agg [.d (.int .i64 k), .d (.int .i64 n), .d (.str s), .d (.int .i64 o1), .d (.sl 1 (srows ar)), .d (.sl 6 (Ex.rows su))], .agg [.d (.int .i64 k2), .d (.int .i64 n2), .d (.str s2), .d (.int .i64 o2), .d (.sl 1 (srows ar2)), .d (.sl 6 (Ex.rows su2))]]=some (.val (binE o a b).row):=by
 rintro k n s o1 ar su k2 n2 s2 o2 ar2 su2 rfl rfl
 refine cOf (by kernel_rfl) rfl ?_
 rw[g170_eq]
 simp only [g170,go1,Nat.reduceAdd,Int.reduceEq,Int.reduceLT,Int.reduceLE,Int.reduceSub,Int.reduceAdd]
 rfl
theorem q_abad0 (l:List Tk)(i:Int):cF 1000045 (rP (trows l) i true)=some (.val (e0.row++[.sl 4 (trows l), .int .i64 i, .bool true])):=by
 refine cOfB (f:=45) (by kernel_rfl) (by with_reducible first|exact dec1 _ _|exact dec2 _ _ _|exact dec3 _ _|exact dec4 _ _ _|exact dec5 _ _ _ _|exact dec6 _ _ _|exact dec7 _ _ _|exact dec8 _ _ _ _|exact dec9 _ _ _ _ _) (by kernel_rfl) rfl ?_
 rw[b45_eq]
 simp only [b45,oE,oP,oR,oT,go1,Nat.reduceAdd,Int.reduceEq,Int.reduceLT,Int.reduceLE,Int.reduceSub,Int.reduceAdd]
 rfl
theorem r_qor {l:List Tk}(hl:LOK l){n:Nat}{p:PR}(hp:HR l p)(i:Nat)(hi:i < l.length)(hne:leftS l n p .and 9 2 i≠ .out): ∃r,cF 1000133 (rP (trows l) (i:Int) false)=some r∧QR Ex.row l (leftS l n p .and 9 2 i) r:=by
 have lp: ∀(e:Ex) (j:Nat) (b:Bool) (R:Rs Ex),R≠ .out→(b=false→iterS (leftT l p .and 9 2) n (e,j)=R)→(b=true→R= .bad j)→j < l.length→cF 1000168 (rP (trows l) (i:Int) false)=some (valR Ex.row l e j b)→ ∃r,cF 1000133 (rP (trows l) (i:Int) false)=some r∧QR Ex.row l R r:=by
  intro e j b R hne hR hb hj h1
  have e0: ∃k0 n0 s0 o0 a0 u0,e= .mk k0 n0 s0 o0 a0 u0:=by obtain⟨k0,n0,s0,o0,a0,u0⟩:=e;exact⟨_,_,_,_,_,_,rfl⟩
  obtain⟨k0,n0,s0,o0,a0,u0,rfl⟩:=e0
  refine cOfBQ (f:=133) (by kernel_rfl) (by with_reducible first|exact dec7 _ _ _|exact dec8 _ _ _ _|exact dec9 _ _ _ _ _) (by kernel_rfl) rfl ?_
  rw[b133_eq]
  simp only [b133,oE,oP,oR,oT,some_and,go1,Nat.reduceAdd,Int.reduceEq,Int.reduceLT,Int.reduceLE,Int.reduceSub,Int.reduceAdd,h1,valR,Ex.row,List.cons_append,List.nil_append]
  refine loopF_ex (fun x:Nat × Ex × Nat × Bool=>[.sl 4 (trows l), .int .i64 (x.2.2.1:Int), .bool x.2.2.2, .int .i64 0, .int .i64 0, .str (bs []), .int .i64 0]++x.2.1.row) (fun x=>(x.2.2.2=false→iterS (leftT l p .and 9 2) x.1 (x.2.1,x.2.2.1)=R)∧(x.2.2.2=true→R= .bad x.2.2.1)∧x.2.2.1 < l.length) (fun x=>2*x.1+(match x.2.2.2 with|true=>0|false=>1)) (fun x hx=> ?_) (n, .mk k0 n0 s0 o0 a0 u0,j,b) ⟨hR,hb,hj⟩
  obtain⟨n1,⟨k1,m1,s1,o1,a1,u1⟩,i1,b1⟩:=x
  obtain⟨hx,hxb,hi1⟩:=hx
  simp only at hx hxb hi1 ⊢
  simp only [Ex.row,go1,Nat.reduceAdd,Int.reduceEq,Int.reduceLT,Int.reduceLE,Int.reduceSub,Int.reduceAdd,List.cons_append,List.nil_append]
  cases b1 with
  |true=>
   right
   simp only [go1,Nat.reduceAdd,Int.reduceEq,Int.reduceLT,Int.reduceLE,Int.reduceSub,Int.reduceAdd,Bool.not_true]
   refine⟨_,rfl,?_⟩
   rw[hxb rfl]
   exact⟨hi1, .mk k1 m1 s1 o1 a1 u1,rfl⟩
  |false=>
   have hx:=hx rfl
   cases n1 with
   |zero=>exact(hne hx.symm).elim
   |succ n1=>
    have h2:cF 1000169 (rO [[.int .i64 9],[.int .i64 10]] [[.str (bs [111,114])],[.str (bs [120,111,114])]] (trows l) (i1:Int) false)=_:=q_sign l hl i1 hi1 9 2 (by omega) false
    simp only [Bool.not_false,h2,go1,Nat.reduceAdd,Int.reduceEq,Int.reduceLT,Int.reduceLE,Int.reduceSub,Int.reduceAdd]
    rw[iterS,leftT]at hx
    cases ho:opSg l i1 9 2 with
    |none=>
     right
     rw[ho]at hx
     refine⟨_,rfl,?_⟩
     rw[←hx];rfl
    |some o=>
     rw[ho]at hx
     simp only at hx
     have ho':=opS_spec ho
     have hi2:=hl.next hi1 ho'.1
     have hq:p .and (i1+1)≠ .out:=fun e=>hne (by rw[e]at hx;exact hx.symm)
     simp only [go1,Nat.reduceAdd,Int.reduceEq,Int.reduceLT,Int.reduceLE,Int.reduceSub,Int.reduceAdd,decF (p:=(o:Int)=0) (by omega)]
     rcases QR_cases (hp.c .and (i1+1) hi2 hq)with⟨e2,j2,hr2,h3⟩|⟨e2,j2,hr2,hj2,h3⟩
     ·left
      rw[hr2]at hx
      have h3:cF 1000168 (rP (trows l) ((i1+1:Nat):Int) false)=_:=h3
      obtain⟨k3,n3,s3,o3,a3,u3⟩:=e2
      have h4:=c_qbin o _ _ k1 m1 s1 o1 a1 u1 k3 n3 s3 o3 a3 u3 rfl rfl
      refine⟨(n1,binE o (.mk k1 m1 s1 o1 a1 u1) (.mk k3 n3 s3 o3 a3 u3),j2,false),?_,⟨fun _=>hx,fun h=>(by cases h),hp.lt _ _ _ _ hi2 hr2⟩,by simp only;omega⟩
      simp only [h3,valR,Ex.row,go1,Nat.reduceAdd,Int.reduceEq,Int.reduceLT,Int.reduceLE,Int.reduceSub,Int.reduceAdd,List.cons_append,List.nil_append,h4,binE]
     ·left
      rw[hr2]at hx
      have h3:cF 1000168 (rP (trows l) ((i1+1:Nat):Int) false)=_:=h3
      obtain⟨k3,n3,s3,o3,a3,u3⟩:=e2
      have h4:=c_qbin o _ _ k1 m1 s1 o1 a1 u1 k3 n3 s3 o3 a3 u3 rfl rfl
      refine⟨(n1,binE o (.mk k1 m1 s1 o1 a1 u1) (.mk k3 n3 s3 o3 a3 u3),j2,true),?_,⟨fun h=>(by cases h),fun _=>hx.symm,hj2⟩,by simp only;omega⟩
      simp only [h3,valR,Ex.row,go1,Nat.reduceAdd,Int.reduceEq,Int.reduceLT,Int.reduceLE,Int.reduceSub,Int.reduceAdd,List.cons_append,List.nil_append,h4,binE]
 unfold leftS at hne ⊢
 rcases QR_cases (hp.c .and i hi (ne_bind hne))with⟨e,j,hr,h1⟩|⟨e,j,hr,hj,h1⟩
 ·rw[hr,Rs.bind_ok]at hne ⊢
  exact lp e j false _ hne (fun _=>rfl) (fun h=>by cases h) (hp.lt _ _ _ _ hi hr) h1
 ·rw[hr,Rs.bind_bad]at hne ⊢
  exact lp e j true _ hne (fun h=>by cases h) (fun _=>rfl) hj h1
theorem r_qsum {l:List Tk}(hl:LOK l){n:Nat}{p:PR}(hp:HR l p)(i:Nat)(hi:i < l.length)(hne:leftS l n p .prod 3 2 i≠ .out): ∃r,cF 1000206 (rP (trows l) (i:Int) false)=some r∧QR Ex.row l (leftS l n p .prod 3 2 i) r:=by
 have lp: ∀(e:Ex) (j:Nat) (b:Bool) (R:Rs Ex),R≠ .out→(b=false→iterS (leftT l p .prod 3 2) n (e,j)=R)→(b=true→R= .bad j)→j < l.length→cF 1000216 (rP (trows l) (i:Int) false)=some (valR Ex.row l e j b)→ ∃r,cF 1000206 (rP (trows l) (i:Int) false)=some r∧QR Ex.row l R r:=by
  intro e j b R hne hR hb hj h1
  have e0: ∃k0 n0 s0 o0 a0 u0,e= .mk k0 n0 s0 o0 a0 u0:=by obtain⟨k0,n0,s0,o0,a0,u0⟩:=e;exact⟨_,_,_,_,_,_,rfl⟩
  obtain⟨k0,n0,s0,o0,a0,u0,rfl⟩:=e0
  refine cOfBQ (f:=206) (by kernel_rfl) (by with_reducible first|exact dec7 _ _ _|exact dec8 _ _ _ _|exact dec9 _ _ _ _ _) (by kernel_rfl) rfl ?_
  rw[b206_eq]
  simp only [b206,oE,oP,oR,oT,some_and,go1,Nat.reduceAdd,Int.reduceEq,Int.reduceLT,Int.reduceLE,Int.reduceSub,Int.reduceAdd,h1,valR,Ex.row,List.cons_append,List.nil_append]
  refine loopF_ex (fun x:Nat × Ex × Nat × Bool=>[.sl 4 (trows l), .int .i64 (x.2.2.1:Int), .bool x.2.2.2, .int .i64 0, .int .i64 0, .str (bs []), .int .i64 0]++x.2.1.row) (fun x=>(x.2.2.2=false→iterS (leftT l p .prod 3 2) x.1 (x.2.1,x.2.2.1)=R)∧(x.2.2.2=true→R= .bad x.2.2.1)∧x.2.2.1 < l.length) (fun x=>2*x.1+(match x.2.2.2 with|true=>0|false=>1)) (fun x hx=> ?_) (n, .mk k0 n0 s0 o0 a0 u0,j,b) ⟨hR,hb,hj⟩
  obtain⟨n1,⟨k1,m1,s1,o1,a1,u1⟩,i1,b1⟩:=x
  obtain⟨hx,hxb,hi1⟩:=hx
  simp only at hx hxb hi1 ⊢
  simp only [Ex.row,go1,Nat.reduceAdd,Int.reduceEq,Int.reduceLT,Int.reduceLE,Int.reduceSub,Int.reduceAdd,List.cons_append,List.nil_append]
  cases b1 with
  |true=>
   right
   simp only [go1,Nat.reduceAdd,Int.reduceEq,Int.reduceLT,Int.reduceLE,Int.reduceSub,Int.reduceAdd,Bool.not_true]
   refine⟨_,rfl,?_⟩
   rw[hxb rfl]
   exact⟨hi1, .mk k1 m1 s1 o1 a1 u1,rfl⟩
  |false=>
   have hx:=hx rfl
   cases n1 with
   |zero=>exact(hne hx.symm).elim
   |succ n1=>
    have h2:cF 1000169 (rO [[.int .i64 3],[.int .i64 4]] [[.str (bs [43])],[.str (bs [45])]] (trows l) (i1:Int) false)=_:=q_sign l hl i1 hi1 3 2 (by omega) false
    simp only [Bool.not_false,h2,go1,Nat.reduceAdd,Int.reduceEq,Int.reduceLT,Int.reduceLE,Int.reduceSub,Int.reduceAdd]
    rw[iterS,leftT]at hx
    cases ho:opSg l i1 3 2 with
    |none=>
     right
     rw[ho]at hx
     refine⟨_,rfl,?_⟩
     rw[←hx];rfl
    |some o=>
     rw[ho]at hx
     simp only at hx
     have ho':=opS_spec ho
     have hi2:=hl.next hi1 ho'.1
     have hq:p .prod (i1+1)≠ .out:=fun e=>hne (by rw[e]at hx;exact hx.symm)
     simp only [go1,Nat.reduceAdd,Int.reduceEq,Int.reduceLT,Int.reduceLE,Int.reduceSub,Int.reduceAdd,decF (p:=(o:Int)=0) (by omega)]
     rcases QR_cases (hp.c .prod (i1+1) hi2 hq)with⟨e2,j2,hr2,h3⟩|⟨e2,j2,hr2,hj2,h3⟩
     ·left
      rw[hr2]at hx
      have h3:cF 1000216 (rP (trows l) ((i1+1:Nat):Int) false)=_:=h3
      obtain⟨k3,n3,s3,o3,a3,u3⟩:=e2
      have h4:=c_qbin o _ _ k1 m1 s1 o1 a1 u1 k3 n3 s3 o3 a3 u3 rfl rfl
      refine⟨(n1,binE o (.mk k1 m1 s1 o1 a1 u1) (.mk k3 n3 s3 o3 a3 u3),j2,false),?_,⟨fun _=>hx,fun h=>(by cases h),hp.lt _ _ _ _ hi2 hr2⟩,by simp only;omega⟩
      simp only [h3,valR,Ex.row,go1,Nat.reduceAdd,Int.reduceEq,Int.reduceLT,Int.reduceLE,Int.reduceSub,Int.reduceAdd,List.cons_append,List.nil_append,h4,binE]
     ·left
      rw[hr2]at hx
      have h3:cF 1000216 (rP (trows l) ((i1+1:Nat):Int) false)=_:=h3
      obtain⟨k3,n3,s3,o3,a3,u3⟩:=e2
      have h4:=c_qbin o _ _ k1 m1 s1 o1 a1 u1 k3 n3 s3 o3 a3 u3 rfl rfl
      refine⟨(n1,binE o (.mk k1 m1 s1 o1 a1 u1) (.mk k3 n3 s3 o3 a3 u3),j2,true),?_,⟨fun h=>(by cases h),fun _=>hx.symm,hj2⟩,by simp only;omega⟩
      simp only [h3,valR,Ex.row,go1,Nat.reduceAdd,Int.reduceEq,Int.reduceLT,Int.reduceLE,Int.reduceSub,Int.reduceAdd,List.cons_append,List.nil_append,h4,binE]
 unfold leftS at hne ⊢
 rcases QR_cases (hp.c .prod i hi (ne_bind hne))with⟨e,j,hr,h1⟩|⟨e,j,hr,hj,h1⟩
 ·rw[hr,Rs.bind_ok]at hne ⊢
  exact lp e j false _ hne (fun _=>rfl) (fun h=>by cases h) (hp.lt _ _ _ _ hi hr) h1
 ·rw[hr,Rs.bind_bad]at hne ⊢
  exact lp e j true _ hne (fun h=>by cases h) (fun _=>rfl) hj h1
theorem r_qprod {l:List Tk}(hl:LOK l){n:Nat}{p:PR}(hp:HR l p)(i:Nat)(hi:i < l.length)(hne:leftS l n p .un 5 3 i≠ .out): ∃r,cF 1000216 (rP (trows l) (i:Int) false)=some r∧QR Ex.row l (leftS l n p .un 5 3 i) r:=by
 have lp: ∀(e:Ex) (j:Nat) (b:Bool) (R:Rs Ex),R≠ .out→(b=false→iterS (leftT l p .un 5 3) n (e,j)=R)→(b=true→R= .bad j)→j < l.length→cF 1000220 (rP (trows l) (i:Int) false)=some (valR Ex.row l e j b)→ ∃r,cF 1000216 (rP (trows l) (i:Int) false)=some r∧QR Ex.row l R r:=by
  intro e j b R hne hR hb hj h1
  have e0: ∃k0 n0 s0 o0 a0 u0,e= .mk k0 n0 s0 o0 a0 u0:=by obtain⟨k0,n0,s0,o0,a0,u0⟩:=e;exact⟨_,_,_,_,_,_,rfl⟩
  obtain⟨k0,n0,s0,o0,a0,u0,rfl⟩:=e0
  refine cOfBQ (f:=216) (by kernel_rfl) (by with_reducible first|exact dec7 _ _ _|exact dec8 _ _ _ _|exact dec9 _ _ _ _ _) (by kernel_rfl) rfl ?_
  rw[b216_eq]
  simp only [b216,oE,oP,oR,oT,some_and,go1,Nat.reduceAdd,Int.reduceEq,Int.reduceLT,Int.reduceLE,Int.reduceSub,Int.reduceAdd,h1,valR,Ex.row,List.cons_append,List.nil_append]
  refine loopF_ex (fun x:Nat × Ex × Nat × Bool=>[.sl 4 (trows l), .int .i64 (x.2.2.1:Int), .bool x.2.2.2, .int .i64 0, .int .i64 0, .str (bs []), .int .i64 0]++x.2.1.row) (fun x=>(x.2.2.2=false→iterS (leftT l p .un 5 3) x.1 (x.2.1,x.2.2.1)=R)∧(x.2.2.2=true→R= .bad x.2.2.1)∧x.2.2.1 < l.length) (fun x=>2*x.1+(match x.2.2.2 with|true=>0|false=>1)) (fun x hx=> ?_) (n, .mk k0 n0 s0 o0 a0 u0,j,b) ⟨hR,hb,hj⟩
  obtain⟨n1,⟨k1,m1,s1,o1,a1,u1⟩,i1,b1⟩:=x
  obtain⟨hx,hxb,hi1⟩:=hx
  simp only at hx hxb hi1 ⊢
  simp only [Ex.row,go1,Nat.reduceAdd,Int.reduceEq,Int.reduceLT,Int.reduceLE,Int.reduceSub,Int.reduceAdd,List.cons_append,List.nil_append]
  cases b1 with
  |true=>
   right
   simp only [go1,Nat.reduceAdd,Int.reduceEq,Int.reduceLT,Int.reduceLE,Int.reduceSub,Int.reduceAdd,Bool.not_true]
   refine⟨_,rfl,?_⟩
   rw[hxb rfl]
   exact⟨hi1, .mk k1 m1 s1 o1 a1 u1,rfl⟩
  |false=>
   have hx:=hx rfl
   cases n1 with
   |zero=>exact(hne hx.symm).elim
   |succ n1=>
    have h2:cF 1000169 (rO [[.int .i64 5],[.int .i64 6],[.int .i64 7]] [[.str (bs [42])],[.str (bs [47])],[.str (bs [109,111,100])]] (trows l) (i1:Int) false)=_:=q_sign l hl i1 hi1 5 3 (by omega) false
    simp only [Bool.not_false,h2,go1,Nat.reduceAdd,Int.reduceEq,Int.reduceLT,Int.reduceLE,Int.reduceSub,Int.reduceAdd]
    rw[iterS,leftT]at hx
    cases ho:opSg l i1 5 3 with
    |none=>
     right
     rw[ho]at hx
     refine⟨_,rfl,?_⟩
     rw[←hx];rfl
    |some o=>
     rw[ho]at hx
     simp only at hx
     have ho':=opS_spec ho
     have hi2:=hl.next hi1 ho'.1
     have hq:p .un (i1+1)≠ .out:=fun e=>hne (by rw[e]at hx;exact hx.symm)
     simp only [go1,Nat.reduceAdd,Int.reduceEq,Int.reduceLT,Int.reduceLE,Int.reduceSub,Int.reduceAdd,decF (p:=(o:Int)=0) (by omega)]
     rcases QR_cases (hp.c .un (i1+1) hi2 hq)with⟨e2,j2,hr2,h3⟩|⟨e2,j2,hr2,hj2,h3⟩
     ·left
      rw[hr2]at hx
      have h3:cF 1000220 (rP (trows l) ((i1+1:Nat):Int) false)=_:=h3
      obtain⟨k3,n3,s3,o3,a3,u3⟩:=e2
      have h4:=c_qbin o _ _ k1 m1 s1 o1 a1 u1 k3 n3 s3 o3 a3 u3 rfl rfl
      refine⟨(n1,binE o (.mk k1 m1 s1 o1 a1 u1) (.mk k3 n3 s3 o3 a3 u3),j2,false),?_,⟨fun _=>hx,fun h=>(by cases h),hp.lt _ _ _ _ hi2 hr2⟩,by simp only;omega⟩
      simp only [h3,valR,Ex.row,go1,Nat.reduceAdd,Int.reduceEq,Int.reduceLT,Int.reduceLE,Int.reduceSub,Int.reduceAdd,List.cons_append,List.nil_append,h4,binE]
     ·left
      rw[hr2]at hx
      have h3:cF 1000220 (rP (trows l) ((i1+1:Nat):Int) false)=_:=h3
      obtain⟨k3,n3,s3,o3,a3,u3⟩:=e2
      have h4:=c_qbin o _ _ k1 m1 s1 o1 a1 u1 k3 n3 s3 o3 a3 u3 rfl rfl
      refine⟨(n1,binE o (.mk k1 m1 s1 o1 a1 u1) (.mk k3 n3 s3 o3 a3 u3),j2,true),?_,⟨fun h=>(by cases h),fun _=>hx.symm,hj2⟩,by simp only;omega⟩
      simp only [h3,valR,Ex.row,go1,Nat.reduceAdd,Int.reduceEq,Int.reduceLT,Int.reduceLE,Int.reduceSub,Int.reduceAdd,List.cons_append,List.nil_append,h4,binE]
 unfold leftS at hne ⊢
 rcases QR_cases (hp.c .un i hi (ne_bind hne))with⟨e,j,hr,h1⟩|⟨e,j,hr,hj,h1⟩
 ·rw[hr,Rs.bind_ok]at hne ⊢
  exact lp e j false _ hne (fun _=>rfl) (fun h=>by cases h) (hp.lt _ _ _ _ hi hr) h1
 ·rw[hr,Rs.bind_bad]at hne ⊢
  exact lp e j true _ hne (fun h=>by cases h) (fun _=>rfl) hj h1
theorem r_qfby {l:List Tk}(hl:LOK l){p:PR}(hp:HR l p)(i:Nat)(hi:i < l.length)(hne:fbyS l p i≠ .out): ∃r,cF 1000091 (rP (trows l) (i:Int) false)=some r∧QR Ex.row l (fbyS l p i) r:=by
 rcases QR_cases (hp.c .or i hi (ne_bind hne))with⟨⟨k0,n0,s0,o0,a0,u0⟩,j,hr,h1⟩|⟨⟨k0,n0,s0,o0,a0,u0⟩,j,hr,hj,h1⟩
 ·have h1:cF 1000133 (rP (trows l) (i:Int) false)=_:=h1
  have hj:=hp.lt _ _ _ _ hi hr
  refine cOfBQ (f:=91) (by kernel_rfl) (by with_reducible first|exact dec7 _ _ _|exact dec8 _ _ _ _|exact dec9 _ _ _ _ _) (by kernel_rfl) rfl ?_
  rw[b91_eq]
  simp only [b91,oE,oR,go1,Nat.reduceAdd,Int.reduceEq,Int.reduceLT,Int.reduceLE,Int.reduceSub,Int.reduceAdd,Nat.reduceAdd,h1,valR,Ex.row,List.cons_append,List.nil_append,q_tok l hl j hj]
  unfold fbyS at hne ⊢
  rw[hr,Rs.bind_ok]at hne ⊢
  cases ht:isT l j (bs [102,98,121])with
  |false=>simp only [go1,Nat.reduceAdd,Int.reduceEq,Int.reduceLT,Int.reduceLE,Int.reduceSub,Int.reduceAdd,some_and];rfl
  |true=>
   rw[ht]at hne
   have hj2:=hl.next hj (isT_k ht)
   rcases QR_cases (hp.c .fby (j+1) hj2 (ne_bind hne))with⟨⟨k2,n2,s2,o2,a2,u2⟩,k,hr2,h3⟩|⟨⟨k2,n2,s2,o2,a2,u2⟩,k,hr2,hk,h3⟩
   ·have h3:cF 1000091 (rP (trows l) ((j+1:Nat):Int) false)=_:=h3
    simp only [go1,Nat.reduceAdd,Int.reduceEq,Int.reduceLT,Int.reduceLE,Int.reduceSub,Int.reduceAdd,h3,valR,Ex.row,List.cons_append,List.nil_append,some_and,hr2,Rs.bind_ok]
    rfl
   ·have h3:cF 1000091 (rP (trows l) ((j+1:Nat):Int) false)=_:=h3
    simp only [go1,Nat.reduceAdd,Int.reduceEq,Int.reduceLT,Int.reduceLE,Int.reduceSub,Int.reduceAdd,h3,valR,Ex.row,List.cons_append,List.nil_append,some_and,hr2,Rs.bind_bad]
    exact⟨hk,ex 8 [.mk k0 n0 s0 o0 a0 u0, .mk k2 n2 s2 o2 a2 u2],rfl⟩
 ·have h1:cF 1000133 (rP (trows l) (i:Int) false)=_:=h1
  refine cOfBQ (f:=91) (by kernel_rfl) (by with_reducible first|exact dec7 _ _ _|exact dec8 _ _ _ _|exact dec9 _ _ _ _ _) (by kernel_rfl) rfl ?_
  rw[b91_eq]
  simp only [b91,oE,oR,some_and,go1,Nat.reduceAdd,Int.reduceEq,Int.reduceLT,Int.reduceLE,Int.reduceSub,Int.reduceAdd,Nat.reduceAdd,h1,valR,Ex.row,List.cons_append,List.nil_append,q_tbad l hl j hj]
  unfold fbyS
  rw[hr,Rs.bind_bad]
  exact⟨hj, .mk k0 n0 s0 o0 a0 u0,rfl⟩
theorem r_qArrow {l:List Tk}(hl:LOK l){p:PR}(hp:HR l p)(i:Nat)(hi:i < l.length)(hne:arrowS l p i≠ .out): ∃r,cF 1000045 (rP (trows l) (i:Int) false)=some r∧QR Ex.row l (arrowS l p i) r:=by
 rcases QR_cases (hp.c .fby i hi (ne_bind hne))with⟨⟨k0,n0,s0,o0,a0,u0⟩,j,hr,h1⟩|⟨⟨k0,n0,s0,o0,a0,u0⟩,j,hr,hj,h1⟩
 ·have h1:cF 1000091 (rP (trows l) (i:Int) false)=_:=h1
  have hj:=hp.lt _ _ _ _ hi hr
  refine cOfBQ (f:=45) (by kernel_rfl) (by with_reducible first|exact dec7 _ _ _|exact dec8 _ _ _ _|exact dec9 _ _ _ _ _) (by kernel_rfl) rfl ?_
  rw[b45_eq]
  simp only [b45,oE,oR,go1,Nat.reduceAdd,Int.reduceEq,Int.reduceLT,Int.reduceLE,Int.reduceSub,Int.reduceAdd,Nat.reduceAdd,h1,valR,Ex.row,List.cons_append,List.nil_append,q_tok l hl j hj]
  unfold arrowS at hne ⊢
  rw[hr,Rs.bind_ok]at hne ⊢
  cases ht:isT l j (bs [45,62])with
  |false=>simp only [go1,Nat.reduceAdd,Int.reduceEq,Int.reduceLT,Int.reduceLE,Int.reduceSub,Int.reduceAdd,some_and];rfl
  |true=>
   rw[ht]at hne
   have hj2:=hl.next hj (isT_k ht)
   rcases QR_cases (hp.c .arrow (j+1) hj2 (ne_bind hne))with⟨⟨k2,n2,s2,o2,a2,u2⟩,k,hr2,h3⟩|⟨⟨k2,n2,s2,o2,a2,u2⟩,k,hr2,hk,h3⟩
   ·have h3:cF 1000045 (rP (trows l) ((j+1:Nat):Int) false)=_:=h3
    simp only [go1,Nat.reduceAdd,Int.reduceEq,Int.reduceLT,Int.reduceLE,Int.reduceSub,Int.reduceAdd,h3,valR,Ex.row,List.cons_append,List.nil_append,some_and,hr2,Rs.bind_ok]
    rfl
   ·have h3:cF 1000045 (rP (trows l) ((j+1:Nat):Int) false)=_:=h3
    simp only [go1,Nat.reduceAdd,Int.reduceEq,Int.reduceLT,Int.reduceLE,Int.reduceSub,Int.reduceAdd,h3,valR,Ex.row,List.cons_append,List.nil_append,some_and,hr2,Rs.bind_bad]
    exact⟨hk,ex 9 [.mk k0 n0 s0 o0 a0 u0, .mk k2 n2 s2 o2 a2 u2],rfl⟩
 ·have h1:cF 1000091 (rP (trows l) (i:Int) false)=_:=h1
  refine cOfBQ (f:=45) (by kernel_rfl) (by with_reducible first|exact dec7 _ _ _|exact dec8 _ _ _ _|exact dec9 _ _ _ _ _) (by kernel_rfl) rfl ?_
  rw[b45_eq]
  simp only [b45,oE,oR,some_and,go1,Nat.reduceAdd,Int.reduceEq,Int.reduceLT,Int.reduceLE,Int.reduceSub,Int.reduceAdd,Nat.reduceAdd,h1,valR,Ex.row,List.cons_append,List.nil_append,q_tbad l hl j hj]
  unfold arrowS
  rw[hr,Rs.bind_bad]
  exact⟨hj, .mk k0 n0 s0 o0 a0 u0,rfl⟩
theorem r_qcmp {l:List Tk}(hl:LOK l){p:PR}(hp:HR l p)(i:Nat)(hi:i < l.length)(hne:cmpS l p i≠ .out): ∃r,cF 1000189 (rP (trows l) (i:Int) false)=some r∧QR Ex.row l (cmpS l p i) r:=by
 have sg: ∀j,j < l.length→ ∀b,cF 1000169 (rO [[.int .i64 11],[.int .i64 12],[.int .i64 13],[.int .i64 14],[.int .i64 15],[.int .i64 16]] [[.str (bs [61])],[.str (bs [60,62])],[.str (bs [60])],[.str (bs [60,61])],[.str (bs [62])],[.str (bs [62,61])]] (trows l) (j:Int) b)=_:=fun j hj b=>q_sign l hl j hj 11 6 (by omega) b
 rcases QR_cases (hp.c .sum i hi (ne_bind hne))with⟨⟨k0,n0,s0,o0,a0,u0⟩,j,hr,h1⟩|⟨⟨k0,n0,s0,o0,a0,u0⟩,j,hr,hj,h1⟩
 ·have h1:cF 1000206 (rP (trows l) (i:Int) false)=_:=h1
  have hj:=hp.lt _ _ _ _ hi hr
  refine cOfBQ (f:=189) (by kernel_rfl) (by with_reducible first|exact dec7 _ _ _|exact dec8 _ _ _ _|exact dec9 _ _ _ _ _) (by kernel_rfl) rfl ?_
  rw[b189_eq]
  simp only [b189,oE,oR,go1,Nat.reduceAdd,Int.reduceEq,Int.reduceLT,Int.reduceLE,Int.reduceSub,Int.reduceAdd,Nat.reduceAdd,h1,valR,Ex.row,List.cons_append,List.nil_append,sg j hj false]
  unfold cmpS at hne ⊢
  rw[hr,Rs.bind_ok]at hne ⊢
  cases ho:opSg l j 11 6 with
  |none=>simp only [go1,Nat.reduceAdd,Int.reduceEq,Int.reduceLT,Int.reduceLE,Int.reduceSub,Int.reduceAdd,Int.reduceLT,some_and];rfl
  |some o=>
   rw[ho]at hne
   have ho':=opS_spec ho
   have hj2:=hl.next hj ho'.1
   rcases QR_cases (hp.c .sum (j+1) hj2 (ne_bind hne))with⟨⟨k2,n2,s2,o2,a2,u2⟩,k,hr2,h3⟩|⟨⟨k2,n2,s2,o2,a2,u2⟩,k,hr2,hk,h3⟩
   ·have h3:cF 1000206 (rP (trows l) ((j+1:Nat):Int) false)=_:=h3
    have h4:=c_qbin o _ _ k0 n0 s0 o0 a0 u0 k2 n2 s2 o2 a2 u2 rfl rfl
    simp only [go1,Nat.reduceAdd,Int.reduceEq,Int.reduceLT,Int.reduceLE,Int.reduceSub,Int.reduceAdd,decT (p:=(0:Int) < (o:Int)) (by omega),h3,valR,Ex.row,List.cons_append,List.nil_append,some_and,hr2,Rs.bind_ok,h4,binE]
    rfl
   ·have h3:cF 1000206 (rP (trows l) ((j+1:Nat):Int) false)=_:=h3
    have h4:=c_qbin o _ _ k0 n0 s0 o0 a0 u0 k2 n2 s2 o2 a2 u2 rfl rfl
    simp only [go1,Nat.reduceAdd,Int.reduceEq,Int.reduceLT,Int.reduceLE,Int.reduceSub,Int.reduceAdd,decT (p:=(0:Int) < (o:Int)) (by omega),h3,valR,Ex.row,List.cons_append,List.nil_append,some_and,hr2,Rs.bind_bad,h4,binE]
    exact⟨hk,binE o (.mk k0 n0 s0 o0 a0 u0) (.mk k2 n2 s2 o2 a2 u2),rfl⟩
 ·have h1:cF 1000206 (rP (trows l) (i:Int) false)=_:=h1
  refine cOfBQ (f:=189) (by kernel_rfl) (by with_reducible first|exact dec7 _ _ _|exact dec8 _ _ _ _|exact dec9 _ _ _ _ _) (by kernel_rfl) rfl ?_
  rw[b189_eq]
  simp only [b189,oE,oR,some_and,go1,Nat.reduceAdd,Int.reduceEq,Int.reduceLT,Int.reduceLE,Int.reduceSub,Int.reduceAdd,Nat.reduceAdd,Int.reduceLT,h1,valR,Ex.row,List.cons_append,List.nil_append,sg j hj true]
  unfold cmpS
  rw[hr,Rs.bind_bad]
  exact⟨hj, .mk k0 n0 s0 o0 a0 u0,rfl⟩
theorem r_qun {l:List Tk}(hl:LOK l){p:PR}(hp:HR l p)(i:Nat)(hi:i < l.length)(hne:unS l p i≠ .out): ∃r,cF 1000220 (rP (trows l) (i:Int) false)=some r∧QR Ex.row l (unS l p i) r:=by
 have h0:=q_tok l hl i hi
 refine cOfBQ (f:=220) (by kernel_rfl) (by with_reducible first|exact dec7 _ _ _|exact dec8 _ _ _ _|exact dec9 _ _ _ _ _) (by kernel_rfl) rfl ?_
 rw[b220_eq]
 simp only [b220,oE,oR,go1,Nat.reduceAdd,Int.reduceEq,Int.reduceLT,Int.reduceLE,Int.reduceSub,Int.reduceAdd,Nat.reduceAdd,h0]
 unfold unS at hne ⊢
 cases t1:isT l i (bs [45])with
 |true=>
  rw[t1]at hne
  rcases QR_cases (hp.c .un (i+1) (hl.next hi (isT_k t1)) (ne_bind hne))with⟨⟨k2,n2,s2,o2,a2,u2⟩,k,hr2,h3⟩|⟨⟨k2,n2,s2,o2,a2,u2⟩,k,hr2,hk,h3⟩
  ·have h3:cF 1000220 (rP (trows l) ((i+1:Nat):Int) false)=_:=h3
   simp only [go1,Nat.reduceAdd,Int.reduceEq,Int.reduceLT,Int.reduceLE,Int.reduceSub,Int.reduceAdd,h3,valR,Ex.row,List.cons_append,List.nil_append,some_and,hr2,Rs.bind_ok];rfl
  ·have h3:cF 1000220 (rP (trows l) ((i+1:Nat):Int) false)=_:=h3
   simp only [go1,Nat.reduceAdd,Int.reduceEq,Int.reduceLT,Int.reduceLE,Int.reduceSub,Int.reduceAdd,h3,valR,Ex.row,List.cons_append,List.nil_append,some_and,hr2,Rs.bind_bad]
   exact⟨hk, .mk 5 0 (bs []) 1 [] [.mk k2 n2 s2 o2 a2 u2],rfl⟩
 |false=>
  rw[t1]at hne
  simp only [go1,Nat.reduceAdd,Int.reduceEq,Int.reduceLT,Int.reduceLE,Int.reduceSub,Int.reduceAdd,h0]at hne ⊢
  cases t2:isT l i (bs [110,111,116])with
  |true=>
   rw[t2]at hne
   rcases QR_cases (hp.c .un (i+1) (hl.next hi (isT_k t2)) (ne_bind hne))with⟨⟨k2,n2,s2,o2,a2,u2⟩,k,hr2,h3⟩|⟨⟨k2,n2,s2,o2,a2,u2⟩,k,hr2,hk,h3⟩
   ·have h3:cF 1000220 (rP (trows l) ((i+1:Nat):Int) false)=_:=h3
    simp only [go1,Nat.reduceAdd,Int.reduceEq,Int.reduceLT,Int.reduceLE,Int.reduceSub,Int.reduceAdd,h3,valR,Ex.row,List.cons_append,List.nil_append,some_and,hr2,Rs.bind_ok];rfl
   ·have h3:cF 1000220 (rP (trows l) ((i+1:Nat):Int) false)=_:=h3
    simp only [go1,Nat.reduceAdd,Int.reduceEq,Int.reduceLT,Int.reduceLE,Int.reduceSub,Int.reduceAdd,h3,valR,Ex.row,List.cons_append,List.nil_append,some_and,hr2,Rs.bind_bad]
    exact⟨hk, .mk 5 0 (bs []) 2 [] [.mk k2 n2 s2 o2 a2 u2],rfl⟩
  |false=>
   rw[t2]at hne
   simp only [go1,Nat.reduceAdd,Int.reduceEq,Int.reduceLT,Int.reduceLE,Int.reduceSub,Int.reduceAdd,h0]at hne ⊢
   cases t3:isT l i (bs [112,114,101])with
   |true=>
    rw[t3]at hne
    rcases QR_cases (hp.c .un (i+1) (hl.next hi (isT_k t3)) (ne_bind hne))with⟨⟨k2,n2,s2,o2,a2,u2⟩,k,hr2,h3⟩|⟨⟨k2,n2,s2,o2,a2,u2⟩,k,hr2,hk,h3⟩
    ·have h3:cF 1000220 (rP (trows l) ((i+1:Nat):Int) false)=_:=h3
     simp only [go1,Nat.reduceAdd,Int.reduceEq,Int.reduceLT,Int.reduceLE,Int.reduceSub,Int.reduceAdd,h3,valR,Ex.row,List.cons_append,List.nil_append,some_and,hr2,Rs.bind_ok];rfl
    ·have h3:cF 1000220 (rP (trows l) ((i+1:Nat):Int) false)=_:=h3
     simp only [go1,Nat.reduceAdd,Int.reduceEq,Int.reduceLT,Int.reduceLE,Int.reduceSub,Int.reduceAdd,h3,valR,Ex.row,List.cons_append,List.nil_append,some_and,hr2,Rs.bind_bad]
     exact⟨hk,ex 10 [.mk k2 n2 s2 o2 a2 u2],rfl⟩
   |false=>
    rw[t3]at hne
    rcases QR_cases (hp.c .post i hi hne)with⟨⟨k2,n2,s2,o2,a2,u2⟩,k,hr2,h3⟩|⟨⟨k2,n2,s2,o2,a2,u2⟩,k,hr2,hk,h3⟩
    ·have h3:cF 1000222 (rP (trows l) (i:Int) false)=_:=h3
     simp only [go1,Nat.reduceAdd,Int.reduceEq,Int.reduceLT,Int.reduceLE,Int.reduceSub,Int.reduceAdd,h3,valR,Ex.row,List.cons_append,List.nil_append,some_and,hr2];rfl
    ·have h3:cF 1000222 (rP (trows l) (i:Int) false)=_:=h3
     simp only [go1,Nat.reduceAdd,Int.reduceEq,Int.reduceLT,Int.reduceLE,Int.reduceSub,Int.reduceAdd,h3,valR,Ex.row,List.cons_append,List.nil_append,some_and,hr2]
     exact⟨hk, .mk k2 n2 s2 o2 a2 u2,rfl⟩
theorem r_qand {l:List Tk}(hl:LOK l){n:Nat}{p:PR}(hp:HR l p)(i:Nat)(hi:i < l.length)(hne:leftS l n p .cmp 8 1 i≠ .out): ∃r,cF 1000168 (rP (trows l) (i:Int) false)=some r∧QR Ex.row l (leftS l n p .cmp 8 1 i) r:=by
 have lp: ∀(e:Ex) (j:Nat) (b:Bool) (R:Rs Ex),R≠ .out→(b=false→iterS (leftT l p .cmp 8 1) n (e,j)=R)→(b=true→R= .bad j)→j < l.length→cF 1000189 (rP (trows l) (i:Int) false)=some (valR Ex.row l e j b)→ ∃r,cF 1000168 (rP (trows l) (i:Int) false)=some r∧QR Ex.row l R r:=by
  intro e j b R hne hR hb hj h1
  have e0: ∃k0 n0 s0 o0 a0 u0,e= .mk k0 n0 s0 o0 a0 u0:=by obtain⟨k0,n0,s0,o0,a0,u0⟩:=e;exact⟨_,_,_,_,_,_,rfl⟩
  obtain⟨k0,n0,s0,o0,a0,u0,rfl⟩:=e0
  refine cOfBQ (f:=168) (by kernel_rfl) (by with_reducible first|exact dec7 _ _ _|exact dec8 _ _ _ _|exact dec9 _ _ _ _ _) (by kernel_rfl) rfl ?_
  rw[b168_eq]
  simp only [b168,oE,oR,oT,go1,Nat.reduceAdd,Int.reduceEq,Int.reduceLT,Int.reduceLE,Int.reduceSub,Int.reduceAdd,Nat.reduceAdd,h1,valR,Ex.row,List.cons_append,List.nil_append]
  refine loopF_ex (fun x:Nat × Ex × Nat × Bool=>[.sl 4 (trows l), .int .i64 (x.2.2.1:Int), .bool x.2.2.2, .int .i64 0, .int .i64 0, .str (bs []), .int .i64 0]++x.2.1.row) (fun x=>(x.2.2.2=false→iterS (leftT l p .cmp 8 1) x.1 (x.2.1,x.2.2.1)=R)∧(x.2.2.2=true→R= .bad x.2.2.1)∧x.2.2.1 < l.length) (fun x=>2*x.1+(match x.2.2.2 with|true=>0|false=>1)) (fun x hx=> ?_) (n, .mk k0 n0 s0 o0 a0 u0,j,b) ⟨hR,hb,hj⟩
  obtain⟨n1,⟨k1,m1,s1,o1,a1,u1⟩,i1,b1⟩:=x
  obtain⟨hx,hxb,hi1⟩:=hx
  simp only at hx hxb hi1 ⊢
  simp only [Ex.row,go1,Nat.reduceAdd,Int.reduceEq,Int.reduceLT,Int.reduceLE,Int.reduceSub,Int.reduceAdd,List.cons_append,List.nil_append]
  cases b1 with
  |true=>
   right
   simp only [go1,Nat.reduceAdd,Int.reduceEq,Int.reduceLT,Int.reduceLE,Int.reduceSub,Int.reduceAdd,q_tbad l hl i1 hi1]
   refine⟨_,rfl,?_⟩
   rw[hxb rfl]
   exact⟨hi1, .mk k1 m1 s1 o1 a1 u1,rfl⟩
  |false=>
   have hx:=hx rfl
   cases n1 with
   |zero=>exact(hne hx.symm).elim
   |succ n1=>
    simp only [q_tok l hl i1 hi1,go1,Nat.reduceAdd,Int.reduceEq,Int.reduceLT,Int.reduceLE,Int.reduceSub,Int.reduceAdd]
    rw[iterS,leftT,opSg,show signB 8=bs [97,110,100]from rfl]at hx
    cases ht:isT l i1 (bs [97,110,100])with
    |false=>
     right
     rw[ht]at hx
     refine⟨_,rfl,?_⟩
     rw[←hx];rfl
    |true=>
     rw[ht]at hx
     simp only at hx
     have hi2:=hl.next hi1 (isT_k ht)
     have hq:p .cmp (i1+1)≠ .out:=fun e=>hne (by rw[e]at hx;exact hx.symm)
     rcases QR_cases (hp.c .cmp (i1+1) hi2 hq)with⟨e2,j2,hr2,h3⟩|⟨e2,j2,hr2,hj2,h3⟩
     ·left
      rw[hr2]at hx
      have h3:cF 1000189 (rP (trows l) ((i1+1:Nat):Int) false)=_:=h3
      obtain⟨k3,n3,s3,o3,a3,u3⟩:=e2
      have h4:cF 170 [.d (.int .i64 8),_,_]=_:=c_qbin 8 _ _ k1 m1 s1 o1 a1 u1 k3 n3 s3 o3 a3 u3 rfl rfl
      refine⟨(n1,binE 8 (.mk k1 m1 s1 o1 a1 u1) (.mk k3 n3 s3 o3 a3 u3),j2,false),?_,⟨fun _=>hx,fun h=>(by cases h),hp.lt _ _ _ _ hi2 hr2⟩,by simp only;omega⟩
      simp only [h3,valR,Ex.row,go1,Nat.reduceAdd,Int.reduceEq,Int.reduceLT,Int.reduceLE,Int.reduceSub,Int.reduceAdd,List.cons_append,List.nil_append,h4,binE]
     ·left
      rw[hr2]at hx
      have h3:cF 1000189 (rP (trows l) ((i1+1:Nat):Int) false)=_:=h3
      obtain⟨k3,n3,s3,o3,a3,u3⟩:=e2
      have h4:cF 170 [.d (.int .i64 8),_,_]=_:=c_qbin 8 _ _ k1 m1 s1 o1 a1 u1 k3 n3 s3 o3 a3 u3 rfl rfl
      refine⟨(n1,binE 8 (.mk k1 m1 s1 o1 a1 u1) (.mk k3 n3 s3 o3 a3 u3),j2,true),?_,⟨fun h=>(by cases h),fun _=>hx.symm,hj2⟩,by simp only;omega⟩
      simp only [h3,valR,Ex.row,go1,Nat.reduceAdd,Int.reduceEq,Int.reduceLT,Int.reduceLE,Int.reduceSub,Int.reduceAdd,List.cons_append,List.nil_append,h4,binE]
 unfold leftS at hne ⊢
 rcases QR_cases (hp.c .cmp i hi (ne_bind hne))with⟨e,j,hr,h1⟩|⟨e,j,hr,hj,h1⟩
 ·rw[hr,Rs.bind_ok]at hne ⊢
  exact lp e j false _ hne (fun _=>rfl) (fun h=>by cases h) (hp.lt _ _ _ _ hi hr) h1
 ·rw[hr,Rs.bind_bad]at hne ⊢
  exact lp e j true _ hne (fun h=>by cases h) (fun _=>rfl) hj h1
end Go.Vm
end

section
set_option linter.all false
set_option maxRecDepth 100000
set_option maxHeartbeats 4000000
namespace Go.Vm
open Go.Proofs
theorem bd {x:Option PRes}{p:PRes}(h:x=some p){β:Type}(f:PRes→Option β):x.bind f=f p:=by rw[h];rfl
section
variable {β : Type} (k n o i : Int) (s : ByteArray) (a u L : List (List D)) (b : Bool) (ds : List D)
theorem oE_E (K:Int→Int→ByteArray→Int→List (List D)→List (List D)→Option β):oE sy (PRes.val (.int .i64 k:: .int .i64 n:: .str s:: .int .i64 o:: .sl 1 a:: .sl 6 u::ds)).leaves 0 K=K k n s o a u:=rfl
theorem oR_E (x0 x1 x2 x3 x4 x5:D)(K:List (List D)→Int→Bool→Option β):oR sy (PRes.val (x0::x1::x2::x3::x4::x5:: .sl 4 L:: .int .i64 i:: .bool b::ds)).leaves 6 K=K L i b:=rfl
theorem oR_N (K:List (List D)→Int→Bool→Option β):oR sy (PRes.val (.sl 4 L:: .int .i64 i:: .bool b::ds)).leaves 0 K=K L i b:=rfl
theorem oR_T (x0:D)(K:List (List D)→Int→Bool→Option β):oR sy (PRes.val (x0:: .sl 4 L:: .int .i64 i:: .bool b::ds)).leaves 1 K=K L i b:=rfl
theorem oB_T (f:Bool→Option β):(opB (sy.cell (PRes.val (.bool b::ds)).leaves 0)).bind f=f b:=rfl
theorem oS_T (f:ByteArray→Option β):(opS (sy.cell (PRes.val (.str s::ds)).leaves 0)).bind f=f s:=rfl
end
theorem vE (l:List Tk)(k n:Int)(s:ByteArray)(o:Int)(a:List ByteArray)(u:List Ex)(j:Nat)(b:Bool):valR Ex.row l (.mk k n s o a u) j b=PRes.val (.int .i64 k:: .int .i64 n:: .str s:: .int .i64 o:: .sl 1 (srows a):: .sl 6 (Ex.rows u):: .sl 4 (trows l):: .int .i64 (j:Int):: .bool b::[]):=rfl
theorem q_ab1 (l:List Tk)(i:Int):cF 1000045 (rP (trows l) i true)=some (.val [.int .i64 0, .int .i64 0, .str (bs []), .int .i64 0, .sl 1 (srows []), .sl 6 (Ex.rows []), .sl 4 (trows l), .int .i64 i, .bool true]):=q_abad0 l i
section
variable {l : List Tk} (hl : LOK l) {n : Nat} {p : PR} (hp : HR l p)
include hl hp
theorem r_qpost (i:Nat)(hi:i < l.length)(hne:postS l n p i≠ .out): ∃r,cF 1000222 (rP (trows l) (i:Int) false)=some r∧QR Ex.row l (postS l n p i) r:=by
 have lp: ∀(e:Ex) (j:Nat) (b:Bool) (R:Rs Ex),R≠ .out→(b=false→iterS (postT l p) n (e,j)=R)→(b=true→R= .bad j)→j < l.length→cF 1000224 (rP (trows l) (i:Int) false)=some (valR Ex.row l e j b)→ ∃r,cF 1000222 (rP (trows l) (i:Int) false)=some r∧QR Ex.row l R r:=by
  intro e j b R hne hR hb hj h1
  have e0: ∃k0 n0 s0 o0 a0 u0,e= .mk k0 n0 s0 o0 a0 u0:=by obtain⟨k0,n0,s0,o0,a0,u0⟩:=e;exact⟨_,_,_,_,_,_,rfl⟩
  obtain⟨k0,n0,s0,o0,a0,u0,rfl⟩:=e0
  refine cOfBQ (f:=222) (by kernel_rfl) (by with_reducible first|exact dec7 _ _ _|exact dec8 _ _ _ _|exact dec9 _ _ _ _ _) (by kernel_rfl) rfl ?_
  rw[b222_eq]
  simp only [b222,oE,oP,oR,oT,some_and,go1,Nat.reduceAdd,Int.reduceEq,Int.reduceLT,Int.reduceLE,Int.reduceSub,Int.reduceAdd,h1,valR,Ex.row,List.cons_append,List.nil_append,srow1]
  refine loopF_ex (fun x:Nat × Ex × Nat × Bool=>[.sl 4 (trows l), .int .i64 (x.2.2.1:Int), .bool x.2.2.2, .int .i64 0, .int .i64 0, .str (bs []), .int .i64 0]++x.2.1.row) (fun x=>(x.2.2.2=false→iterS (postT l p) x.1 (x.2.1,x.2.2.1)=R)∧(x.2.2.2=true→R= .bad x.2.2.1)∧x.2.2.1 < l.length) (fun x=>2*x.1+(match x.2.2.2 with|true=>0|false=>1)) (fun x hx=> ?_) (n, .mk k0 n0 s0 o0 a0 u0,j,b) ⟨hR,hb,hj⟩
  obtain⟨n1,⟨k1,m1,s1,o1,a1,u1⟩,i1,b1⟩:=x
  obtain⟨hx,hxb,hi1⟩:=hx
  simp only at hx hxb hi1 ⊢
  simp only [Ex.row,go1,Nat.reduceAdd,Int.reduceEq,Int.reduceLT,Int.reduceLE,Int.reduceSub,Int.reduceAdd,List.cons_append,List.nil_append]
  cases b1 with
  |true=>
   right
   simp only [go1,Nat.reduceAdd,Int.reduceEq,Int.reduceLT,Int.reduceLE,Int.reduceSub,Int.reduceAdd,Bool.not_true]
   refine⟨_,rfl,?_⟩
   rw[hxb rfl]
   exact⟨hi1, .mk k1 m1 s1 o1 a1 u1,rfl⟩
  |false=>
   have hx:=hx rfl
   cases n1 with
   |zero=>exact(hne hx.symm).elim
   |succ n1=>
    simp only [Bool.not_false,go1,Nat.reduceAdd,Int.reduceEq,Int.reduceLT,Int.reduceLE,Int.reduceSub,Int.reduceAdd,q_tok l hl i1 hi1]
    rw[iterS,postT]at hx
    cases ht:isT l i1 (bs [91])with
    |true=>
     have hi2:=hl.next hi1 (isT_k ht)
     rw[ht]at hx
     simp only at hx
     have hq:p .arrow (i1+1)≠ .out:=fun e=>hne (by rw[e]at hx;exact hx.symm)
     left
     rcases QR_cases (hp.c .arrow (i1+1) hi2 hq)with⟨e2,j2,hr2,h3⟩|⟨e2,j2,hr2,hj2,h3⟩
     ·have h3:cF 1000045 (rP (trows l) ((i1+1:Nat):Int) false)=_:=h3
      have hj2:=hp.lt _ _ _ _ hi2 hr2
      rw[hr2,Rs.bind_ok,needS]at hx
      obtain⟨k3,n3,s3,o3,a3,u3⟩:=e2
      simp only [go1,Nat.reduceAdd,Int.reduceEq,Int.reduceLT,Int.reduceLE,Int.reduceSub,Int.reduceAdd,h3,valR,Ex.row,List.cons_append,List.nil_append,q_nok l hl j2 hj2]
      cases ht2:isT l j2 (bs [93])with
      |true=>
       rw[ht2]at hx
       exact⟨(n1,ex 15 [.mk k1 m1 s1 o1 a1 u1, .mk k3 n3 s3 o3 a3 u3],j2+1,false),rfl,⟨fun _=>hx,fun h=>(by cases h),hl.next hj2 (isT_k ht2)⟩,by simp only;omega⟩
      |false=>
       rw[ht2]at hx
       exact⟨(n1,ex 15 [.mk k1 m1 s1 o1 a1 u1, .mk k3 n3 s3 o3 a3 u3],j2,true),rfl,⟨fun h=>(by cases h),fun _=>hx.symm,hj2⟩,by simp only;omega⟩
     ·have h3:cF 1000045 (rP (trows l) ((i1+1:Nat):Int) false)=_:=h3
      rw[hr2,Rs.bind_bad]at hx
      obtain⟨k3,n3,s3,o3,a3,u3⟩:=e2
      simp only [go1,Nat.reduceAdd,Int.reduceEq,Int.reduceLT,Int.reduceLE,Int.reduceSub,Int.reduceAdd,h3,valR,Ex.row,List.cons_append,List.nil_append,q_nbad l hl j2 hj2]
      exact⟨(n1,ex 15 [.mk k1 m1 s1 o1 a1 u1, .mk k3 n3 s3 o3 a3 u3],j2,true),rfl,⟨fun h=>(by cases h),fun _=>hx.symm,hj2⟩,by simp only;omega⟩
    |false=>
     rw[ht]at hx
     simp only [go1,Nat.reduceAdd,Int.reduceEq,Int.reduceLT,Int.reduceLE,Int.reduceSub,Int.reduceAdd,q_tok l hl i1 hi1]at hx ⊢
     cases ht2:isT l i1 (bs [119,104,101,110])with
     |false=>
      right
      rw[ht2]at hx
      refine⟨_,rfl,?_⟩
      rw[←hx];rfl
     |true=>
      left
      have hi2:=hl.next hi1 (isT_k ht2)
      rw[ht2]at hx
      simp only [go1,Nat.reduceAdd,Int.reduceEq,Int.reduceLT,Int.reduceLE,Int.reduceSub,Int.reduceAdd,Bool.not_true]at hx ⊢
      rcases QR_cases (q_when hl hi2)with⟨⟨w1,w2⟩,j2,hr2,h3⟩|⟨⟨w1,w2⟩,j2,hr2,hj2,h3⟩
      ·rw[hr2]at hx
       simp only [go1,Nat.reduceAdd,Int.reduceEq,Int.reduceLT,Int.reduceLE,Int.reduceSub,Int.reduceAdd,h3,valR,wD,List.cons_append,List.nil_append]
       exact⟨(n1, .mk 11 0 w1 0 [w2] [.mk k1 m1 s1 o1 a1 u1],j2,false),rfl,⟨fun _=>hx,fun h=>(by cases h),whenS_lt hl hi2 hr2⟩,by simp only;omega⟩
      ·rw[hr2]at hx
       simp only [go1,Nat.reduceAdd,Int.reduceEq,Int.reduceLT,Int.reduceLE,Int.reduceSub,Int.reduceAdd,h3,valR,wD,List.cons_append,List.nil_append]
       exact⟨(n1, .mk 11 0 w1 0 [w2] [.mk k1 m1 s1 o1 a1 u1],j2,true),rfl,⟨fun h=>(by cases h),fun _=>hx.symm,hj2⟩,by simp only;omega⟩
 unfold postS at hne ⊢
 rcases QR_cases (hp.c .atom i hi (ne_bind hne))with⟨e,j,hr,h1⟩|⟨e,j,hr,hj,h1⟩
 ·rw[hr,Rs.bind_ok]at hne ⊢
  exact lp e j false _ hne (fun _=>rfl) (fun h=>by cases h) (hp.lt _ _ _ _ hi hr) h1
 ·rw[hr,Rs.bind_bad]at hne ⊢
  exact lp e j true _ hne (fun h=>by cases h) (fun _=>rfl) hj h1
theorem r_qround (i:Nat)(hi:i < l.length)(hne:roundS l p i≠ .out): ∃r,cF 1000230 (rP (trows l) (i:Int) false)=some r∧QR Ex.row l (roundS l p i) r:=by
 refine cOfBQ (f:=230) (by kernel_rfl) (dec7 _ _ _) (by kernel_rfl) rfl ?_
 rw[b230_eq]
 unfold roundS at hne ⊢
 rcases QR_cases (hp.c .arrow i hi (ne_bind hne))with⟨⟨k0,n0,s0,o0,a0,u0⟩,j,hr,h1⟩|⟨⟨k0,n0,s0,o0,a0,u0⟩,j,hr,hj,h1⟩
 ·have h1:cF 1000045 (rP (trows l) (i:Int) false)=_:=h1
  have hj:=hp.lt _ _ _ _ hi hr
  rw[hr,Rs.bind_ok]at hne ⊢
  rw[vE]at h1
  simp only [b230,eF_call, ↓bd h1, ↓oE_E, ↓oR_E, ↓oR_N, ↓oR_T, ↓oB_T, ↓cond_true, ↓cond_false,vE,some_and, ↓bd (q_tok l hl j hj _)]
  cases ht:isT l j (bs [119,105,116,104])with
  |false=>
   simp only [↓oE_E, ↓oR_E, ↓oR_N, ↓oR_T, ↓oB_T, ↓cond_true, ↓cond_false,vE,some_and, ↓bd (q_nok l hl j hj _),needS]
   cases ht2:isT l j (bs [41])with
   |true=>simp only [↓oE_E, ↓oR_E, ↓oR_N, ↓oR_T, ↓oB_T, ↓cond_true, ↓cond_false,vE,some_and];rfl
   |false=>simp only [↓oE_E, ↓oR_E, ↓oR_N, ↓oR_T, ↓oB_T, ↓cond_true, ↓cond_false,vE,some_and];exact⟨hj, .mk k0 n0 s0 o0 a0 u0,rfl⟩
  |true=>
   rw[ht]at hne
   have hk:=hl.next hj (isT_k ht)
   simp only [↓oE_E, ↓oR_E, ↓oR_N, ↓oR_T, ↓oB_T, ↓cond_true, ↓cond_false,vE,some_and, ↓bd (q_nok l hl (j+1) hk _),needS]at hne ⊢
   cases t1:isT l (j+1) (bs [91])with
   |false=>
    simp only [↓oE_E, ↓oR_E, ↓oR_N, ↓oR_T, ↓oB_T, ↓cond_true, ↓cond_false,vE,some_and, ↓bd (q_ab1 l _), ↓bd (q_nbad l hl (j+1) hk _)]
    exact⟨hk,ex 16 [.mk k0 n0 s0 o0 a0 u0,e0,e0],rfl⟩
   |true=>
    rw[t1]at hne
    have hk2:=hl.next hk (isT_k t1)
    rw[Rs.bind_ok]at hne
    rcases QR_cases (hp.c .arrow (j+1+1) hk2 (ne_bind hne))with⟨⟨k2,n2,s2,o2,a2,u2⟩,m,hr2,h3⟩|⟨⟨k2,n2,s2,o2,a2,u2⟩,m,hr2,hm,h3⟩
    ·have h3:cF 1000045 (rP (trows l) ((j+1+1:Nat):Int) false)=_:=h3
     have hm:=hp.lt _ _ _ _ hk2 hr2
     rw[hr2,Rs.bind_ok]at hne
     rw[vE]at h3
     simp only [↓bd h3, ↓oE_E, ↓oR_E, ↓oR_N, ↓oR_T, ↓oB_T, ↓cond_true, ↓cond_false,vE,some_and, ↓bd (q_nok l hl m hm _),Rs.bind_ok,hr2]
     cases t2:isT l m (bs [93])with
     |false=>
      simp only [↓oE_E, ↓oR_E, ↓oR_N, ↓oR_T, ↓oB_T, ↓cond_true, ↓cond_false,vE,some_and, ↓bd (q_ab1 l _), ↓bd (q_nbad l hl m hm _)]
      exact⟨hm,ex 16 [.mk k0 n0 s0 o0 a0 u0, .mk k2 n2 s2 o2 a2 u2,e0],rfl⟩
     |true=>
      rw[t2]at hne
      have hm1:=hl.next hm (isT_k t2)
      simp only [↓oE_E, ↓oR_E, ↓oR_N, ↓oR_T, ↓oB_T, ↓cond_true, ↓cond_false,vE,some_and, ↓bd (q_nok l hl (m+1) hm1 _)]at hne ⊢
      cases t3:isT l (m+1) (bs [61])with
      |false=>
       simp only [↓oE_E, ↓oR_E, ↓oR_N, ↓oR_T, ↓oB_T, ↓cond_true, ↓cond_false,vE,some_and, ↓bd (q_ab1 l _), ↓bd (q_nbad l hl (m+1) hm1 _)]
       exact⟨hm1,ex 16 [.mk k0 n0 s0 o0 a0 u0, .mk k2 n2 s2 o2 a2 u2,e0],rfl⟩
      |true=>
       rw[t3]at hne
       have hm2:=hl.next hm1 (isT_k t3)
       rw[Rs.bind_ok]at hne
       rcases QR_cases (hp.c .arrow (m+1+1) hm2 (ne_bind hne))with⟨⟨k5,n5,s5,o5,a5,u5⟩,z,hr5,h5⟩|⟨⟨k5,n5,s5,o5,a5,u5⟩,z,hr5,hz,h5⟩
       ·have h5:cF 1000045 (rP (trows l) ((m+1+1:Nat):Int) false)=_:=h5
        have hz:=hp.lt _ _ _ _ hm2 hr5
        rw[vE]at h5
        simp only [↓bd h5, ↓oE_E, ↓oR_E, ↓oR_N, ↓oR_T, ↓oB_T, ↓cond_true, ↓cond_false,vE,some_and, ↓bd (q_nok l hl z hz _),Rs.bind_ok,hr5]
        cases t4:isT l z (bs [41])with
        |true=>simp only [↓oE_E, ↓oR_E, ↓oR_N, ↓oR_T, ↓oB_T, ↓cond_true, ↓cond_false,vE,some_and];rfl
        |false=>simp only [↓oE_E, ↓oR_E, ↓oR_N, ↓oR_T, ↓oB_T, ↓cond_true, ↓cond_false,vE,some_and];exact⟨hz,ex 16 [.mk k0 n0 s0 o0 a0 u0, .mk k2 n2 s2 o2 a2 u2, .mk k5 n5 s5 o5 a5 u5],rfl⟩
       ·have h5:cF 1000045 (rP (trows l) ((m+1+1:Nat):Int) false)=_:=h5
        rw[vE]at h5
        simp only [↓bd h5, ↓oE_E, ↓oR_E, ↓oR_N, ↓oR_T, ↓oB_T, ↓cond_true, ↓cond_false,vE,some_and, ↓bd (q_nbad l hl z hz _),Rs.bind_ok,Rs.bind_bad,hr5]
        exact⟨hz,ex 16 [.mk k0 n0 s0 o0 a0 u0, .mk k2 n2 s2 o2 a2 u2, .mk k5 n5 s5 o5 a5 u5],rfl⟩
    ·have h3:cF 1000045 (rP (trows l) ((j+1+1:Nat):Int) false)=_:=h3
     rw[vE]at h3
     simp only [↓bd h3, ↓oE_E, ↓oR_E, ↓oR_N, ↓oR_T, ↓oB_T, ↓cond_true, ↓cond_false,vE,some_and, ↓bd (q_nbad l hl m hm _), ↓bd (q_ab1 l _),Rs.bind_ok,Rs.bind_bad,hr2]
     exact⟨hm,ex 16 [.mk k0 n0 s0 o0 a0 u0, .mk k2 n2 s2 o2 a2 u2,e0],rfl⟩
 ·have h1:cF 1000045 (rP (trows l) (i:Int) false)=_:=h1
  rw[hr,Rs.bind_bad]
  rw[vE]at h1
  simp only [b230,eF_call, ↓bd h1, ↓oE_E, ↓oR_E, ↓oR_N, ↓oR_T, ↓oB_T, ↓cond_true, ↓cond_false,vE,some_and, ↓bd (q_tbad l hl j hj _), ↓bd (q_nbad l hl j hj _)]
  exact⟨hj, .mk k0 n0 s0 o0 a0 u0,rfl⟩
end
end Go.Vm
end

section
set_option linter.all false
set_option maxRecDepth 100000
set_option maxHeartbeats 4000000
namespace Go.Vm
open Go.Proofs
section
variable {β : Type} (n i a1 a2 a3 : Int) (s s2 : ByteArray) (L u : List (List D)) (b : Bool) (ds : List D) (x0 x1 x2 x3 x4 x5 x6 x7 x8 x9 y0 y1 y2 y3 : D)
theorem oR_S (K:List (List D)→Int→Bool→Option β):oR sy (PRes.val (x0:: .sl 4 L:: .int .i64 i:: .bool b::ds)).leaves 1 K=K L i b:=rfl
theorem oS_L (f:ByteArray→Option β):(opS (sy.cell (.str s::ds) 0)).bind f=f s:=rfl
theorem oR_L1 (K:List (List D)→Int→Bool→Option β):oR sy (x0:: .sl 4 L:: .int .i64 i:: .bool b::ds) 1 K=K L i b:=rfl
theorem oI_L4 (f:Int→Option β):(opI (sy.cell (x0::x1::x2::x3:: .int .i64 n::ds) 4) .i64).bind f=f n:=rfl
theorem oT_L5 (K:Int→ByteArray→Int→Int→Option β):oT sy (x0::x1::x2::x3::x4:: .int .i64 a1:: .str s:: .int .i64 a2:: .int .i64 a3::ds) 5 K=K a1 s a2 a3:=rfl
theorem oI_L9 (f:Int→Option β):(opI (sy.cell (x0::x1::x2::x3::x4::x5::x6::x7::x8:: .int .i64 n::ds) 9) .i64).bind f=f n:=rfl
theorem oS_L10 (f:ByteArray→Option β):(opS (sy.cell (x0::x1::x2::x3::x4::x5::x6::x7::x8::x9:: .str s::ds) 10)).bind f=f s:=rfl
theorem oI_L11 (f:Int→Option β):(opI (sy.cell (x0::x1::x2::x3::x4::x5::x6::x7::x8::x9::y0:: .int .i64 n::ds) 11) .i64).bind f=f n:=rfl
theorem oL_L12 (f:List (List D)→Option β):(opL (sy.cell (x0::x1::x2::x3::x4::x5::x6::x7::x8::x9::y0::y1:: .sl 6 u::ds) 12) 6).bind f=f u:=rfl
theorem oL1_L12 (f:List (List D)→Option β):(opL (sy.cell (x0::x1::x2::x3::x4::x5::x6::x7::x8::x9::y0::y1:: .sl 1 u::ds) 12) 1).bind f=f u:=rfl
theorem oL_L13 (f:List (List D)→Option β):(opL (sy.cell (x0::x1::x2::x3::x4::x5::x6::x7::x8::x9::y0::y1::y2:: .sl 6 u::ds) 13) 6).bind f=f u:=rfl
theorem oL_L14 (f:List (List D)→Option β):(opL (sy.cell (x0::x1::x2::x3::x4::x5::x6::x7::x8::x9::y0::y1::y2::y3:: .sl 6 u::ds) 14) 6).bind f=f u:=rfl
theorem oR_M (K:List (List D)→Int→Bool→Option β):oR sy (.sl 4 L:: .int .i64 i:: .bool b::ds) 0 K=K L i b:=rfl
theorem oI_M3 (f:Int→Option β):(opI (sy.cell (x0::x1::x2:: .int .i64 n::ds) 3) .i64).bind f=f n:=rfl
theorem oT_M4 (K:Int→ByteArray→Int→Int→Option β):oT sy (x0::x1::x2::x3:: .int .i64 a1:: .str s:: .int .i64 a2:: .int .i64 a3::ds) 4 K=K a1 s a2 a3:=rfl
theorem oI_M8 (f:Int→Option β):(opI (sy.cell (x0::x1::x2::x3::x4::x5::x6::x7:: .int .i64 n::ds) 8) .i64).bind f=f n:=rfl
theorem oS_M9 (f:ByteArray→Option β):(opS (sy.cell (x0::x1::x2::x3::x4::x5::x6::x7::x8:: .str s::ds) 9)).bind f=f s:=rfl
theorem oI_M10 (f:Int→Option β):(opI (sy.cell (x0::x1::x2::x3::x4::x5::x6::x7::x8::x9:: .int .i64 n::ds) 10) .i64).bind f=f n:=rfl
theorem oL_M11 (f:List (List D)→Option β):(opL (sy.cell (x0::x1::x2::x3::x4::x5::x6::x7::x8::x9::y0:: .sl 1 u::ds) 11) 1).bind f=f u:=rfl
theorem oL_M12 (f:List (List D)→Option β):(opL (sy.cell (x0::x1::x2::x3::x4::x5::x6::x7::x8::x9::y0::y1:: .sl 6 u::ds) 12) 6).bind f=f u:=rfl
end
section
variable {β : Type} (i : Int) (L : List (List D)) (b : Bool) (ds : List D) (x0 x1 x2 x3 x4 x5 x6 : D)
theorem oB_6 (f:Bool→Option β):(opB (sy.cell (PRes.val (x0::x1::x2::x3::x4::x5:: .bool b::ds)).leaves 6)).bind f=f b:=rfl
theorem oR_7 (K:List (List D)→Int→Bool→Option β):oR sy (PRes.val (x0::x1::x2::x3::x4::x5::x6:: .sl 4 L:: .int .i64 i:: .bool b::ds)).leaves 7 K=K L i b:=rfl
end
theorem vS (l:List Tk)(s:ByteArray)(j:Nat)(b:Bool):valR sD l s j b=PRes.val (.str s:: .sl 4 (trows l):: .int .i64 (j:Int):: .bool b::[]):=rfl
theorem fitE {l:List Tk}(hl:LOK l){es:List Ex}{i:Nat}(he:es.length≤i)(hi:i < l.length)(r:List D):sy.fits (Ex.rows es) [r] 88=true:=by
 have:=hl.few
 show decide (((Ex.rows es).length+[r].length)*(88+1)≤140737488355328)=true
 rw[rows_len]
 exact decide_eq_true (by simp only [List.length_cons,List.length_nil];omega)
theorem fitS {l:List Tk}(hl:LOK l){es:List ByteArray}{i:Nat}(he:es.length≤i)(hi:i < l.length)(r:List D):sy.fits (srows es) [r] 16=true:=by
 have:=hl.few
 show decide (((srows es).length+[r].length)*(16+1)≤140737488355328)=true
 rw[srows_len]
 exact decide_eq_true (by simp only [List.length_cons,List.length_nil];omega)
theorem rapp_rows (es:List Ex)(k n:Int)(s:ByteArray)(o:Int)(a:List ByteArray)(u:List Ex):sy.rapp (Ex.rows es) [[.int .i64 k, .int .i64 n, .str s, .int .i64 o, .sl 1 (srows a), .sl 6 (Ex.rows u)]]=Ex.rows (es++[.mk k n s o a u]):=(rows_snoc (.mk k n s o a u) es).symm
theorem rapp_srows (es:List ByteArray)(s:ByteArray):sy.rapp (srows es) [[.str s]]=srows (es++[s]):=by rw[←srows_app];rfl
theorem QR_any {α:Type}{c:α→List D}{l:List Tk}{R:Rs α}{x:Option PRes}(h: ∃r,x=some r∧QR c l R r): ∃a j b,x=some (valR c l a j b)∧(b=false→R= .ok a j)∧(b=true→R= .bad j∧j < l.length):=by
 rcases QR_cases h with⟨a,j,h1,h2⟩|⟨a,j,h1,hj,h2⟩
 ·exact⟨a,j,false,h2,fun _=>h1,fun h=>by cases h⟩
 ·exact⟨a,j,true,h2,(fun h=>by cases h),fun _=>⟨h1,hj⟩⟩
section
variable {l : List Tk} (hl : LOK l) {n : Nat} {p : PR} (hp : HR l p)
include hl hp
theorem r_callU {β:Type}(f:PRes→β)(nm:ByteArray)(es:List Ex)(j:Nat)(b:Bool)(hj:j < l.length)(he:es.length≤j)(hne:b=false→callU l p nm es j≠ .out):
  ∃r,((cF 1000092 (rS (bs [101,118,101,114,121]) (trows l) (j:Int) b)).bind fun p54=>(opB (sy.cell p54.leaves 0)).bind fun b56=>oR sy p54.leaves 1 fun l57 n58 b59=>
   bif b56 then(cF 1000222 (rP l57 n58 b59)).bind fun p60=>oE sy p60.leaves 0 fun n62 n63 s64 n65 l66 l67=>oR sy p60.leaves 6 fun l68 n69 b70=>
    bif sy.fits (Ex.rows es) [[.int .i64 n62, .int .i64 n63, .str s64, .int .i64 n65, .sl 1 l66, .sl 6 l67]] 88 then
     some (f (PRes.val [.int .i64 13, .int .i64 1, .str nm, .int .i64 0, .sl 1 [], .sl 6 (sy.rapp (Ex.rows es) [[.int .i64 n62, .int .i64 n63, .str s64, .int .i64 n65, .sl 1 l66, .sl 6 l67]]), .sl 4 l68, .int .i64 n69, .bool b70]))
    else none
   else some (f (PRes.val [.int .i64 13, .int .i64 0, .str nm, .int .i64 0, .sl 1 [], .sl 6 (Ex.rows es), .sl 4 l57, .int .i64 n58, .bool b59])))=some (f r)∧(b=false→QR Ex.row l (callU l p nm es j) r)∧(b=true→r=valR Ex.row l (.mk 13 0 nm 0 [] es) j true):=by
 cases b with
 |true=>
  simp only [↓bd (q_tbad l hl j hj _), ↓oE_E, ↓oR_E, ↓oR_N, ↓oR_T, ↓oB_T, ↓oS_T, ↓oR_S, ↓cond_true, ↓cond_false, ↓Bool.not_true, ↓Bool.not_false,vE,vS,some_and]
  exact⟨_,rfl,fun h=>(by cases h),fun _=>rfl⟩
 |false=>
  have hne:=hne rfl
  unfold callU at hne ⊢
  simp only [↓bd (q_tok l hl j hj _)]
  cases ht:isT l j (bs [101,118,101,114,121])with
  |false=>
   simp only [↓oE_E, ↓oR_E, ↓oR_N, ↓oR_T, ↓oB_T, ↓oS_T, ↓oR_S, ↓cond_true, ↓cond_false, ↓Bool.not_true, ↓Bool.not_false,vE,vS,some_and]
   exact⟨_,rfl,fun _=>rfl,fun h=>(by cases h)⟩
  |true=>
   rw[ht]at hne
   have hj1:=hl.next hj (isT_k ht)
   rcases QR_cases (hp.c .post (j+1) hj1 (ne_bind hne))with⟨⟨k2,n2,s2,o2,a2,u2⟩,m,hr2,h3⟩|⟨⟨k2,n2,s2,o2,a2,u2⟩,m,hr2,hm,h3⟩
   ·have h3:cF 1000222 (rP (trows l) ((j+1:Nat):Int) false)=_:=h3
    rw[vE]at h3
    simp only [↓oE_E, ↓oR_E, ↓oR_N, ↓oR_T, ↓oB_T, ↓oS_T, ↓oR_S, ↓cond_true, ↓cond_false, ↓Bool.not_true, ↓Bool.not_false,vE,vS,some_and, ↓bd h3,fitE hl he hj,rapp_rows,hr2,Rs.bind_ok]
    exact⟨_,rfl,fun _=>rfl,fun h=>(by cases h)⟩
   ·have h3:cF 1000222 (rP (trows l) ((j+1:Nat):Int) false)=_:=h3
    rw[vE]at h3
    simp only [↓oE_E, ↓oR_E, ↓oR_N, ↓oR_T, ↓oB_T, ↓oS_T, ↓oR_S, ↓cond_true, ↓cond_false, ↓Bool.not_true, ↓Bool.not_false,vE,vS,some_and, ↓bd h3,fitE hl he hj,rapp_rows,hr2,Rs.bind_bad]
    exact⟨_,rfl,fun _=>⟨hm, .mk 13 1 nm 0 [] (es++[.mk k2 n2 s2 o2 a2 u2]),rfl⟩,fun h=>(by cases h)⟩
theorem r_qcall (nm:ByteArray)(i:Nat)(hi:i < l.length)(hne:callS l n p nm i≠ .out): ∃r,cF 1000233 (rS nm (trows l) (i:Int) false)=some r∧QR Ex.row l (callS l n p nm i) r:=by
 refine cOfBQ (f:=233) (by kernel_rfl) (dec8 _ _ _ _) (by kernel_rfl) rfl ?_
 rw[b233_eq]
 simp only [b233,eF_call,eF_lp, ↓bd (q_tok l hl i hi _)]
 unfold callS at hne ⊢
 cases ht:isT l i (bs [41])with
 |true=>
  rw[ht]at hne
  have hi1:=hl.next hi (isT_k ht)
  simp only [↓oE_E, ↓oR_E, ↓oR_N, ↓oR_T, ↓oB_T, ↓oS_T, ↓oR_S, ↓cond_true, ↓cond_false, ↓Bool.not_true, ↓Bool.not_false,vE,vS,some_and]at hne ⊢
  obtain⟨r,h1,h2,_⟩:=r_callU hl hp (fun x=>x) nm [] (i+1) false hi1 (Nat.zero_le _) (fun _=>hne)
  exact⟨r,h1,h2 rfl⟩
 |false=>
  rw[ht]at hne
  simp only [↓oE_E, ↓oR_E, ↓oR_N, ↓oR_T, ↓oB_T, ↓oS_T, ↓oR_S, ↓cond_true, ↓cond_false, ↓Bool.not_true, ↓Bool.not_false,vE,vS,some_and]at hne ⊢
  obtain⟨e,j,b,h1,hok,hbad⟩:=QR_any (hp.c .arrow i hi (ne_bind (ne_bind hne)))
  have h1:cF 1000045 (rP (trows l) (i:Int) false)=_:=h1
  have hj:j < l.length:=by
   cases b with
   |false=>exact hp.lt _ _ _ _ hi (hok rfl)
   |true=>exact(hbad rfl).2
  have hj1:b=false→1≤j:=fun hb=>by have:=hp.gt _ _ _ _ hi (hok hb);omega
  generalize hL:listS l n p (bs [41]) i=R at hne ⊢
  have hR:b=false→iterS (listT l p (bs [41])) n ([e],j)=R:=fun hb=>by rw[←hL,listS,hok hb];rfl
  have hb:b=true→R= .bad j:=fun hb=>by rw[←hL,listS,(hbad hb).1];rfl
  obtain⟨k0,n0,s0,o0,a0,u0⟩:=e
  rw[vE]at h1
  simp only [↓bd h1, ↓oE_E, ↓oR_E, ↓oR_N, ↓oR_T, ↓oB_T, ↓oS_T, ↓oR_S, ↓cond_true, ↓cond_false, ↓Bool.not_true, ↓Bool.not_false,vE,vS,some_and]
  refine loopF_ex (fun x:Nat × List Ex × Nat × Bool=>[.str (bs [41]), .sl 4 (trows l), .int .i64 (x.2.2.1:Int), .bool x.2.2.2, .int .i64 0, .int .i64 0, .str (bs []), .int .i64 0, .int .i64 13, .int .i64 0, .str nm, .int .i64 0, .sl 6 (Ex.rows x.2.1)]) (fun x=>(x.2.2.2=false→iterS (listT l p (bs [41])) x.1 (x.2.1,x.2.2.1)=R)∧(x.2.2.2=true→R= .bad x.2.2.1)∧x.2.2.1 < l.length∧(x.2.2.2=false→x.2.1.length≤x.2.2.1)) (fun x=>2*x.1+(match x.2.2.2 with|true=>0|false=>1)) (fun x hx=> ?_) (n,[.mk k0 n0 s0 o0 a0 u0],j,b) ⟨hR,hb,hj,hj1⟩
  obtain⟨n1,es,i1,b1⟩:=x
  obtain⟨hx,hxb,hi1,hel⟩:=hx
  simp only at hx hxb hi1 hel ⊢
  simp only [↓oS_L, ↓oR_L1, ↓oI_L4, ↓oT_L5, ↓oI_L9, ↓oS_L10, ↓oI_L11, ↓oL_L12, ↓oL1_L12, ↓oL_L13, ↓oL_L14]
  cases b1 with
  |true=>
   right
   simp only [↓bd (q_tbad l hl i1 hi1 _), ↓bd (q_nbad l hl i1 hi1 _), ↓oE_E, ↓oR_E, ↓oR_N, ↓oR_T, ↓oB_T, ↓oS_T, ↓oR_S, ↓cond_true, ↓cond_false, ↓Bool.not_true, ↓Bool.not_false,vE,vS,some_and]
   rw[hxb rfl]
   exact⟨_,rfl,hi1, .mk 13 0 nm 0 [] es,rfl⟩
  |false=>
   have hx:=hx rfl
   have hel:=hel rfl
   cases n1 with
   |zero=>exact(hne (by rw[←hx];rfl)).elim
   |succ n1=>
    simp only [↓bd (q_tok l hl i1 hi1 _)]
    rw[iterS,listT]at hx
    cases ht2:isT l i1 (bs [44])with
    |true=>
     left
     have hi2:=hl.next hi1 (isT_k ht2)
     rw[ht2]at hx
     simp only at hx
     have hq2:p .arrow (i1+1)≠ .out:=fun e=>hne (by rw[e]at hx;rw[←hx];rfl)
     rcases QR_cases (hp.c .arrow (i1+1) hi2 hq2)with⟨⟨k2,n2,s2,o2,a2,u2⟩,m,hr2,h3⟩|⟨⟨k2,n2,s2,o2,a2,u2⟩,m,hr2,hm,h3⟩
     ·have h3:cF 1000045 (rP (trows l) ((i1+1:Nat):Int) false)=_:=h3
      have hm:=hp.lt _ _ _ _ hi2 hr2
      have hg:=hp.gt _ _ _ _ hi2 hr2
      rw[vE]at h3
      rw[hr2]at hx
      simp only [↓oE_E, ↓oR_E, ↓oR_N, ↓oR_T, ↓oB_T, ↓oS_T, ↓oR_S, ↓cond_true, ↓cond_false, ↓Bool.not_true, ↓Bool.not_false,vE,vS,some_and, ↓bd h3,fitE hl hel hi1,rapp_rows]
      exact⟨(n1,es++[.mk k2 n2 s2 o2 a2 u2],m,false),rfl,⟨fun _=>hx,fun h=>(by cases h),hm,fun _=>by simp only [List.length_append,List.length_cons,List.length_nil];omega⟩,by simp only;omega⟩
     ·have h3:cF 1000045 (rP (trows l) ((i1+1:Nat):Int) false)=_:=h3
      rw[vE]at h3
      rw[hr2]at hx
      simp only [↓oE_E, ↓oR_E, ↓oR_N, ↓oR_T, ↓oB_T, ↓oS_T, ↓oR_S, ↓cond_true, ↓cond_false, ↓Bool.not_true, ↓Bool.not_false,vE,vS,some_and, ↓bd h3,fitE hl hel hi1,rapp_rows]
      exact⟨(n1,es++[.mk k2 n2 s2 o2 a2 u2],m,true),rfl,⟨fun h=>(by cases h),fun _=>hx.symm,hm,fun h=>(by cases h)⟩,by simp only;omega⟩
    |false=>
     right
     rw[ht2,needS]at hx
     simp only [↓oE_E, ↓oR_E, ↓oR_N, ↓oR_T, ↓oB_T, ↓oS_T, ↓oR_S, ↓cond_true, ↓cond_false, ↓Bool.not_true, ↓Bool.not_false,vE,vS,some_and, ↓bd (q_nok l hl i1 hi1 _)]at hx ⊢
     cases ht3:isT l i1 (bs [41])with
     |false=>
      rw[ht3,Rs.bind_bad]at hx
      simp only [↓oE_E, ↓oR_E, ↓oR_N, ↓oR_T, ↓oB_T, ↓oS_T, ↓oR_S, ↓cond_true, ↓cond_false, ↓Bool.not_true, ↓Bool.not_false,vE,vS,some_and, ↓bd (q_tbad l hl i1 hi1 _)]
      rw[←hx]
      exact⟨_,rfl,hi1, .mk 13 0 nm 0 [] es,rfl⟩
     |true=>
      have hi2:=hl.next hi1 (isT_k ht3)
      rw[ht3,needS,Rs.bind_ok]at hx
      rw[←hx,Rs.bind_ok]at hne ⊢
      simp only [↓oE_E, ↓oR_E, ↓oR_N, ↓oR_T, ↓oB_T, ↓oS_T, ↓oR_S, ↓cond_true, ↓cond_false, ↓Bool.not_true, ↓Bool.not_false,vE,vS,some_and]
      obtain⟨r,h1,h2,_⟩:=r_callU hl hp (Sum.inr (α:=List D)) nm es (i1+1) false hi2 (by omega) (fun _=>hne)
      exact⟨r,h1,h2 rfl⟩
theorem q_nn (i:Nat)(hi:i < l.length): ∃(nm:ByteArray) (j:Nat) (b:Bool),(∀ {β:Type} (K:ByteArray→List (List D)→Int→Bool→Option β),((cF 1000232 (rP (trows l) (i:Int) false)).bind fun p1=>(opS (sy.cell p1.leaves 0)).bind fun s3=>oR sy p1.leaves 1 fun l4 n5 b6=>
  (cF 1000225 (rS (bs [40]) l4 n5 b6)).bind fun p7=>oR sy p7.leaves 0 fun l9 n10 b11=>K s3 l9 n10 b11)=K nm (trows l) (j:Int) b)∧j < l.length∧(b=false→ ∃k,nameS l i= .ok nm k∧needS l [bs [40]] k= .ok () j)∧(b=true→(nameS l i= .bad j)∨ ∃nm' k,nameS l i= .ok nm' k∧needS l [bs [40]] k= .bad j):=by
 have h1:=q_mok l hl i hi
 cases hr:nameS l i with
 |out=>exact(nameS_no hr).elim
 |bad j=>
  have:j=i:=by unfold nameS at hr;split at hr<;>cases hr;rfl
  subst this
  rw[hr]at h1
  refine⟨bs [],j,true,fun K=> ?_,hi,fun h=>(by cases h),fun _=> .inl rfl⟩
  simp only [↓bd h1, ↓bd (q_nbad l hl j hi _), ↓oE_E, ↓oR_E, ↓oR_N, ↓oR_T, ↓oB_T, ↓oS_T, ↓oR_S, ↓cond_true, ↓cond_false, ↓Bool.not_true, ↓Bool.not_false,vE,vS,some_and]
 |ok nm k=>
  have hk:=nameS_lt hl hi hr
  rw[hr]at h1
  have h2:=q_nok l hl k hk (bs [40])
  cases ht:isT l k (bs [40])with
  |true=>
   rw[ht]at h2
   refine⟨nm,k+1,false,fun K=> ?_,hl.next hk (isT_k ht),fun _=>⟨k,rfl,by simp only [needS,ht]⟩,fun h=>by cases h⟩
   simp only [↓bd h1, ↓bd h2, ↓oE_E, ↓oR_E, ↓oR_N, ↓oR_T, ↓oB_T, ↓oS_T, ↓oR_S, ↓cond_true, ↓cond_false, ↓Bool.not_true, ↓Bool.not_false,vE,vS,some_and]
  |false=>
   rw[ht]at h2
   refine⟨nm,k,true,fun K=> ?_,hk,fun h=>(by cases h),fun _=> .inr ⟨nm,k,rfl,by simp only [needS,ht]⟩⟩
   simp only [↓bd h1, ↓bd h2, ↓oE_E, ↓oR_E, ↓oR_N, ↓oR_T, ↓oB_T, ↓oS_T, ↓oR_S, ↓cond_true, ↓cond_false, ↓Bool.not_true, ↓Bool.not_false,vE,vS,some_and]
theorem r_qmerge (i:Nat)(hi:i < l.length)(hne:mergeS l n p i≠ .out): ∃r,cF 1000231 (rP (trows l) (i:Int) false)=some r∧QR Ex.row l (mergeS l n p i) r:=by
 refine cOfBQ (f:=231) (by kernel_rfl) (dec7 _ _ _) (by kernel_rfl) rfl ?_
 rw[b231_eq]
 obtain⟨nm,j,b,hK,hj,hok,hbad⟩:=q_nn hl hp i hi
 simp only [b231,eF_call,eF_lp,hK]
 obtain⟨R,hRe,hR,hb⟩: ∃R:Rs (List ByteArray × List Ex),mergeS l n p i=R.bind (fun q j=> .ok (.mk 12 0 nm 0 q.1 q.2) j)∧(b=false→iterS (mergeT l p) n ([],[],j,true)=R)∧(b=true→R= .bad j):=by
  cases b with
  |false=>
   obtain⟨k,h1,h2⟩:=hok rfl
   refine⟨_,?_,fun _=>rfl,fun h=>by cases h⟩
   rw[mergeS,h1,Rs.bind_ok,h2,Rs.bind_ok]
  |true=>
   refine⟨.bad j,?_,fun h=>(by cases h),fun _=>rfl⟩
   rcases hbad rfl with h1|⟨nm',k,h1,h2⟩
   ·rw[mergeS,h1];rfl
   ·rw[mergeS,h1,Rs.bind_ok,h2];rfl
 rw[hRe]at hne ⊢
 refine loopF_ex (fun x:Nat × List ByteArray × List Ex × Nat × Bool=>[.sl 4 (trows l), .int .i64 (x.2.2.2.1:Int), .bool x.2.2.2.2, .int .i64 0, .int .i64 0, .str (bs []), .int .i64 0, .int .i64 12, .int .i64 0, .str nm, .int .i64 0, .sl 1 (srows x.2.1), .sl 6 (Ex.rows x.2.2.1)]) (fun x=>(x.2.2.2.2=false→iterS (mergeT l p) x.1 (x.2.1,x.2.2.1,x.2.2.2.1,true)=R)∧(x.2.2.2.2=true→R= .bad x.2.2.2.1)∧x.2.2.2.1 < l.length∧x.2.1.length≤x.2.2.2.1∧x.2.2.1.length≤x.2.2.2.1) (fun x=>x.1) (fun x hx=> ?_) (n,[],[],j,b) ⟨hR,hb,hj,Nat.zero_le _,Nat.zero_le _⟩
 obtain⟨n1,ar,es,i1,b1⟩:=x
 obtain⟨hx,hxb,hi1,hal,hel⟩:=hx
 simp only at hx hxb hi1 hel hal ⊢
 simp only [↓oR_M, ↓oI_M3, ↓oT_M4, ↓oI_M8, ↓oS_M9, ↓oI_M10, ↓oL_M11, ↓oL_M12]
 cases b1 with
 |true=>
  right
  (try simp only [↓oE_E, ↓oR_E, ↓oR_N, ↓oR_T, ↓oB_T, ↓oS_T, ↓oR_S, ↓cond_true, ↓cond_false, ↓Bool.not_true, ↓Bool.not_false,vE,vS,some_and])
  rw[hxb rfl]
  exact⟨_,rfl,hi1, .mk 12 0 nm 0 ar es,rfl⟩
 |false=>
  have hx:=hx rfl
  cases n1 with
  |zero=>exact(hne (by rw[←hx];rfl)).elim
  |succ n1=>
   have h1:=q_aok l hl i1 hi1
   rw[iterS,mergeT]at hx
   cases hr:armS l i1 with
   |out=>exact(armS_no hr).elim
   |bad k=>
    have:k=i1:=by unfold armS at hr;split at hr<;>cases hr;rfl
    subst this
    rw[hr]at h1 hx
    right
    simp only [↓oE_E, ↓oR_E, ↓oR_N, ↓oR_T, ↓oB_T, ↓oS_T, ↓oR_S, ↓cond_true, ↓cond_false, ↓Bool.not_true, ↓Bool.not_false,vE,vS,some_and, ↓bd h1,fitS hl hal hi1, ↓bd (q_nbad l hl k hi1 _), ↓bd (q_ab1 l _), ↓bd (q_tbad l hl k hi1 _),fitE hl hel hi1]
    rw[←hx]
    exact⟨_,rfl,hi1, .mk 12 0 nm 0 (ar++[bs []]) (es++[e0]),by rw[vE,←rapp_srows];unfold e0;rw[←rapp_rows]⟩
   |ok a k=>
    have hk:=armS_lt hl hi1 hr
    rw[hr]at h1 hx
    rw[Rs.bind_ok,needS]at hx
    simp only [↓oE_E, ↓oR_E, ↓oR_N, ↓oR_T, ↓oB_T, ↓oS_T, ↓oR_S, ↓cond_true, ↓cond_false, ↓Bool.not_true, ↓Bool.not_false,vE,vS,some_and, ↓bd h1,fitS hl hal hi1, ↓bd (q_nok l hl k hk _)]
    cases t1:isT l k (bs [45,62])with
    |false=>
     rw[t1]at hx
     right
     simp only [↓oE_E, ↓oR_E, ↓oR_N, ↓oR_T, ↓oB_T, ↓oS_T, ↓oR_S, ↓cond_true, ↓cond_false, ↓Bool.not_true, ↓Bool.not_false,vE,vS,some_and, ↓bd (q_nbad l hl k hk _), ↓bd (q_ab1 l _), ↓bd (q_tbad l hl k hk _),fitE hl hel hi1]
     rw[←hx]
     exact⟨_,rfl,hk, .mk 12 0 nm 0 (ar++[a]) (es++[e0]),by rw[vE,←rapp_srows];unfold e0;rw[←rapp_rows]⟩
    |true=>
     have hk1:=hl.next hk (isT_k t1)
     rw[t1,needS,Rs.bind_ok]at hx
     have hq:p .arrow (k+1)≠ .out:=fun e=>hne (by rw[e]at hx;rw[←hx];rfl)
     rcases QR_cases (hp.c .arrow (k+1) hk1 hq)with⟨⟨k2,n2,s2,o2,a2,u2⟩,m,hr2,h3⟩|⟨⟨k2,n2,s2,o2,a2,u2⟩,m,hr2,hm,h3⟩
     ·have h3:cF 1000045 (rP (trows l) ((k+1:Nat):Int) false)=_:=h3
      have hm:=hp.lt _ _ _ _ hk1 hr2
      have hg:=hp.gt _ _ _ _ hk1 hr2
      have:=armS_le hr
      rw[vE]at h3
      rw[hr2,Rs.bind_ok,needS]at hx
      simp only [↓oE_E, ↓oR_E, ↓oR_N, ↓oR_T, ↓oB_T, ↓oS_T, ↓oR_S, ↓cond_true, ↓cond_false, ↓Bool.not_true, ↓Bool.not_false,vE,vS,some_and, ↓bd h3,fitE hl hel hi1, ↓bd (q_nok l hl m hm _),rapp_rows,rapp_srows]
      cases t2:isT l m (bs [41])with
      |false=>
       rw[t2]at hx
       right
       simp only [↓oE_E, ↓oR_E, ↓oR_N, ↓oR_T, ↓oB_T, ↓oS_T, ↓oR_S, ↓cond_true, ↓cond_false, ↓Bool.not_true, ↓Bool.not_false,vE,vS,some_and, ↓bd (q_tbad l hl m hm _)]
       rw[←hx]
       exact⟨_,rfl,hm, .mk 12 0 nm 0 (ar++[a]) (es++[.mk k2 n2 s2 o2 a2 u2]),rfl⟩
      |true=>
       have hm1:=hl.next hm (isT_k t2)
       rw[t2,needS,Rs.bind_ok]at hx
       simp only [↓oE_E, ↓oR_E, ↓oR_N, ↓oR_T, ↓oB_T, ↓oS_T, ↓oR_S, ↓cond_true, ↓cond_false, ↓Bool.not_true, ↓Bool.not_false,vE,vS,some_and, ↓bd (q_tok l hl (m+1) hm1 _)]at hx ⊢
       cases t3:isT l (m+1) (bs [40])with
       |true=>
        left
        rw[t3]at hx
        simp only [↓oE_E, ↓oR_E, ↓oR_N, ↓oR_T, ↓oB_T, ↓oS_T, ↓oR_S, ↓cond_true, ↓cond_false, ↓Bool.not_true, ↓Bool.not_false,vE,vS,some_and]
        exact⟨(n1,ar++[a],es++[.mk k2 n2 s2 o2 a2 u2],m+1+1,false),rfl,⟨fun _=>hx,fun h=>(by cases h),hl.next hm1 (isT_k t3),by simp only [List.length_append,List.length_cons,List.length_nil];omega,by simp only [List.length_append,List.length_cons,List.length_nil];omega⟩,Nat.lt_succ_self _⟩
       |false=>
        right
        rw[t3]at hx
        simp only [↓oE_E, ↓oR_E, ↓oR_N, ↓oR_T, ↓oB_T, ↓oS_T, ↓oR_S, ↓cond_true, ↓cond_false, ↓Bool.not_true, ↓Bool.not_false,vE,vS,some_and]
        cases n1 with
        |zero=>exact(hne (by rw[←hx];rfl)).elim
        |succ n2'=>
         simp only at hx
         rw[iterS,mergeT]at hx
         rw[←hx]
         exact⟨_,rfl,rfl⟩
     ·have h3:cF 1000045 (rP (trows l) ((k+1:Nat):Int) false)=_:=h3
      rw[vE]at h3
      rw[hr2,Rs.bind_bad]at hx
      right
      simp only [↓oE_E, ↓oR_E, ↓oR_N, ↓oR_T, ↓oB_T, ↓oS_T, ↓oR_S, ↓cond_true, ↓cond_false, ↓Bool.not_true, ↓Bool.not_false,vE,vS,some_and, ↓bd h3,fitE hl hel hi1, ↓bd (q_nbad l hl m hm _), ↓bd (q_tbad l hl m hm _),rapp_rows,rapp_srows]
      rw[←hx]
      exact⟨_,rfl,hm, .mk 12 0 nm 0 (ar++[a]) (es++[.mk k2 n2 s2 o2 a2 u2]),rfl⟩
theorem q_plain (hT: ∀j,(tkA l j).k=5→(tkA l j).s≠bTrue∧(tkA l j).s≠bFalse)(i:Nat)(hi:i < l.length):cF 1000228 (rP (trows l) (i:Int) false)=some (match decide ((tkA l i).k=3),decide ((tkA l i).k=2),decide ((tkA l i).k=4),isT l i bTrue,isT l i bFalse with
  |true,_,_,_,_=> .val [.int .i64 1, .int .i64 (tkA l i).n, .str (bs []), .int .i64 0, .sl 1 [], .sl 6 [], .bool true, .sl 4 (trows l), .int .i64 ((i+1:Nat):Int), .bool false]
  |_,true,_,_,_=> .val [.int .i64 4, .int .i64 0, .str (tkA l i).s, .int .i64 0, .sl 1 [], .sl 6 [], .bool true, .sl 4 (trows l), .int .i64 ((i+1:Nat):Int), .bool false]
  |_,_,true,_,_=> .val [.int .i64 17, .int .i64 0, .str (tkA l i).s, .int .i64 0, .sl 1 [], .sl 6 [], .bool true, .sl 4 (trows l), .int .i64 ((i+1:Nat):Int), .bool false]
  |_,_,_,true,_=> .val [.int .i64 2, .int .i64 1, .str (bs []), .int .i64 0, .sl 1 [], .sl 6 [], .bool true, .sl 4 (trows l), .int .i64 ((i+1:Nat):Int), .bool false]
  |_,_,_,_,true=> .val [.int .i64 2, .int .i64 0, .str (bs []), .int .i64 0, .sl 1 [], .sl 6 [], .bool true, .sl 4 (trows l), .int .i64 ((i+1:Nat):Int), .bool false]
  |_,_,_,_,_=> .val [.int .i64 0, .int .i64 0, .str (bs []), .int .i64 0, .sl 1 [], .sl 6 [], .bool false, .sl 4 (trows l), .int .i64 (i:Int), .bool false]):=by
 have hf:=hl.few
 have h1:=in_tk hi
 have h2:=row_tk hi
 have w:=wrap_succ (i:=i) (n:=l.length) hi (by omega)
 refine cOfB (f:=228) (by kernel_rfl) (by with_reducible first|exact dec1 _ _|exact dec2 _ _ _|exact dec3 _ _|exact dec4 _ _ _|exact dec5 _ _ _ _|exact dec6 _ _ _|exact dec7 _ _ _|exact dec8 _ _ _ _|exact dec9 _ _ _ _ _) (by kernel_rfl) rfl ?_
 rw[b228_eq]
 simp only [b228,oE,oP,oR,oT,go1,Nat.reduceAdd,Int.reduceEq,Int.reduceLT,Int.reduceLE,Int.reduceSub,Int.reduceAdd,h1,h2,tkrow,seq_tb,w]
 have e1:isT l i bTrue=(decide ((tkA l i).k=1)&&decide (tb (tkA l i).s=tb (bs [116,114,117,101]))):=by
  unfold isT bTrue
  cases h5:decide ((tkA l i).k=5)with
  |true=>
   have h5:=of_decide_eq_true h5
   have: ¬tb (tkA l i).s=tb (bs [116,114,117,101]):=fun e=>(hT i h5).1 (tb_inj e)
   rw[decF this,Bool.false_and,Bool.and_false]
  |false=>rw[Bool.or_false,Bool.and_comm]
 have e2:isT l i bFalse=(decide ((tkA l i).k=1)&&decide (tb (tkA l i).s=tb (bs [102,97,108,115,101]))):=by
  unfold isT bFalse
  cases h5:decide ((tkA l i).k=5)with
  |true=>
   have h5:=of_decide_eq_true h5
   have: ¬tb (tkA l i).s=tb (bs [102,97,108,115,101]):=fun e=>(hT i h5).2 (tb_inj e)
   rw[decF this,Bool.false_and,Bool.and_false]
  |false=>rw[Bool.or_false,Bool.and_comm]
 rw[e1,e2]
 cases decide ((tkA l i).k=3)<;>cases decide ((tkA l i).k=2)<;>cases decide ((tkA l i).k=4)<;>cases decide ((tkA l i).k=1)<;>cases decide (tb (tkA l i).s=tb (bs [116,114,117,101]))<;>cases decide (tb (tkA l i).s=tb (bs [102,97,108,115,101]))<;>rfl
theorem r_qatom (hT: ∀j,(tkA l j).k=5→(tkA l j).s≠bTrue∧(tkA l j).s≠bFalse)(i:Nat)(hi:i < l.length)(hne:atomS l n p i≠ .out): ∃r,cF 1000224 (rP (trows l) (i:Int) false)=some r∧QR Ex.row l (atomS l n p i) r:=by
 refine cOfBQ (f:=224) (by kernel_rfl) (dec7 _ _ _) (by kernel_rfl) rfl ?_
 rw[b224_eq]
 have hP:=q_plain hl hp hT i hi
 unfold atomS at hne ⊢
 cases c3:decide ((tkA l i).k=3)with
 |true=>
  rw[c3]at hP
  simp only [b224,eF_call, ↓oE_E, ↓oR_E, ↓oR_N, ↓oR_T, ↓oB_T, ↓oS_T, ↓oR_S, ↓cond_true, ↓cond_false, ↓Bool.not_true, ↓Bool.not_false,vE,vS,some_and, ↓bd hP, ↓oB_6, ↓oR_7]
  rfl
 |false=>
  cases c2:decide ((tkA l i).k=2)with
  |true=>
   rw[c3,c2]at hP
   simp only [b224,eF_call, ↓oE_E, ↓oR_E, ↓oR_N, ↓oR_T, ↓oB_T, ↓oS_T, ↓oR_S, ↓cond_true, ↓cond_false, ↓Bool.not_true, ↓Bool.not_false,vE,vS,some_and, ↓bd hP, ↓oB_6, ↓oR_7]
   rfl
  |false=>
   cases c4:decide ((tkA l i).k=4)with
   |true=>
    rw[c3,c2,c4]at hP
    simp only [b224,eF_call, ↓oE_E, ↓oR_E, ↓oR_N, ↓oR_T, ↓oB_T, ↓oS_T, ↓oR_S, ↓cond_true, ↓cond_false, ↓Bool.not_true, ↓Bool.not_false,vE,vS,some_and, ↓bd hP, ↓oB_6, ↓oR_7]
    rfl
   |false=>
    simp only [c3,c2,c4]at hne
    unfold wordS at hne ⊢
    cases t1:isT l i bTrue with
    |true=>
     rw[c3,c2,c4,t1]at hP
     simp only [b224,eF_call, ↓oE_E, ↓oR_E, ↓oR_N, ↓oR_T, ↓oB_T, ↓oS_T, ↓oR_S, ↓cond_true, ↓cond_false, ↓Bool.not_true, ↓Bool.not_false,vE,vS,some_and, ↓bd hP, ↓oB_6, ↓oR_7]
     rfl
    |false=>
     cases t2:isT l i bFalse with
     |true=>
      rw[c3,c2,c4,t1,t2]at hP
      simp only [b224,eF_call, ↓oE_E, ↓oR_E, ↓oR_N, ↓oR_T, ↓oB_T, ↓oS_T, ↓oR_S, ↓cond_true, ↓cond_false, ↓Bool.not_true, ↓Bool.not_false,vE,vS,some_and, ↓bd hP, ↓oB_6, ↓oR_7]
      rfl
     |false=>
      rw[c3,c2,c4,t1,t2]at hP
      simp only [t1,t2]at hne
      simp only [b224,eF_call,eF_lp, ↓oE_E, ↓oR_E, ↓oR_N, ↓oR_T, ↓oB_T, ↓oS_T, ↓oR_S, ↓cond_true, ↓cond_false, ↓Bool.not_true, ↓Bool.not_false,vE,vS,some_and, ↓bd hP, ↓oB_6, ↓oR_7, ↓bd (q_tok l hl i hi _)]
      cases t3:isT l i (bs [91])with
      |true=>
       have hi1:=hl.next hi (isT_k t3)
       simp only [t3]at hne
       simp only [↓oE_E, ↓oR_E, ↓oR_N, ↓oR_T, ↓oB_T, ↓oS_T, ↓oR_S, ↓cond_true, ↓cond_false, ↓Bool.not_true, ↓Bool.not_false,vE,vS,some_and]
       obtain⟨e,j,b,h1,hok,hbad⟩:=QR_any (hp.c .arrow (i+1) hi1 (ne_bind (ne_bind hne)))
       have h1:cF 1000045 (rP (trows l) ((i+1:Nat):Int) false)=_:=h1
       have hj:j < l.length:=by
        cases b with
        |false=>exact hp.lt _ _ _ _ hi1 (hok rfl)
        |true=>exact(hbad rfl).2
       have hj1:b=false→1≤j:=fun hb=>by have:=hp.gt _ _ _ _ hi1 (hok hb);omega
       generalize hL:listS l n p (bs [93]) (i+1)=R at hne ⊢
       have hR:b=false→iterS (listT l p (bs [93])) n ([e],j)=R:=fun hb=>by rw[←hL,listS,hok hb];rfl
       have hb:b=true→R= .bad j:=fun hb=>by rw[←hL,listS,(hbad hb).1];rfl
       obtain⟨k0,n0,s0,o0,a0,u0⟩:=e
       rw[vE]at h1
       simp only [↓bd h1, ↓oE_E, ↓oR_E, ↓oR_N, ↓oR_T, ↓oB_T, ↓oS_T, ↓oR_S, ↓cond_true, ↓cond_false, ↓Bool.not_true, ↓Bool.not_false,vE,vS,some_and]
       refine loopF_ex (fun x:Nat × List Ex × Nat × Bool=>[.str (bs [93]), .sl 4 (trows l), .int .i64 (x.2.2.1:Int), .bool x.2.2.2, .int .i64 0, .int .i64 0, .str (bs []), .int .i64 0, .int .i64 0, .int .i64 0, .str (bs []), .int .i64 0, .sl 1 [], .sl 6 [], .sl 6 (Ex.rows x.2.1)]) (fun x=>(x.2.2.2=false→iterS (listT l p (bs [93])) x.1 (x.2.1,x.2.2.1)=R)∧(x.2.2.2=true→R= .bad x.2.2.1)∧x.2.2.1 < l.length∧(x.2.2.2=false→x.2.1.length≤x.2.2.1)) (fun x=>2*x.1+(match x.2.2.2 with|true=>0|false=>1)) (fun x hx=> ?_) (n,[.mk k0 n0 s0 o0 a0 u0],j,b) ⟨hR,hb,hj,hj1⟩
       obtain⟨n1,es,i1,b1⟩:=x
       obtain⟨hx,hxb,hi1,hel⟩:=hx
       simp only at hx hxb hi1 hel ⊢
       simp only [↓oS_L, ↓oR_L1, ↓oI_L4, ↓oT_L5, ↓oI_L9, ↓oS_L10, ↓oI_L11, ↓oL_L12, ↓oL1_L12, ↓oL_L13, ↓oL_L14]
       cases b1 with
       |true=>
        right
        simp only [↓bd (q_tbad l hl i1 hi1 _), ↓bd (q_nbad l hl i1 hi1 _), ↓oE_E, ↓oR_E, ↓oR_N, ↓oR_T, ↓oB_T, ↓oS_T, ↓oR_S, ↓cond_true, ↓cond_false, ↓Bool.not_true, ↓Bool.not_false,vE,vS,some_and]
        rw[hxb rfl]
        exact⟨_,rfl,hi1,ex 14 es,rfl⟩
       |false=>
        have hx:=hx rfl
        have hel:=hel rfl
        cases n1 with
        |zero=>exact(hne (by rw[←hx];rfl)).elim
        |succ n1=>
         simp only [↓bd (q_tok l hl i1 hi1 _)]
         rw[iterS,listT]at hx
         cases ht2:isT l i1 (bs [44])with
         |true=>
          left
          have hi2:=hl.next hi1 (isT_k ht2)
          rw[ht2]at hx
          simp only at hx
          have hq2:p .arrow (i1+1)≠ .out:=fun e=>hne (by rw[e]at hx;rw[←hx];rfl)
          rcases QR_cases (hp.c .arrow (i1+1) hi2 hq2)with⟨⟨k2,n2,s2,o2,a2,u2⟩,m,hr2,h3⟩|⟨⟨k2,n2,s2,o2,a2,u2⟩,m,hr2,hm,h3⟩
          ·have h3:cF 1000045 (rP (trows l) ((i1+1:Nat):Int) false)=_:=h3
           have hm:=hp.lt _ _ _ _ hi2 hr2
           have hg:=hp.gt _ _ _ _ hi2 hr2
           rw[vE]at h3
           rw[hr2]at hx
           simp only [↓oE_E, ↓oR_E, ↓oR_N, ↓oR_T, ↓oB_T, ↓oS_T, ↓oR_S, ↓cond_true, ↓cond_false, ↓Bool.not_true, ↓Bool.not_false,vE,vS,some_and, ↓bd h3,fitE hl hel hi1,rapp_rows]
           exact⟨(n1,es++[.mk k2 n2 s2 o2 a2 u2],m,false),rfl,⟨fun _=>hx,fun h=>(by cases h),hm,fun _=>by simp only [List.length_append,List.length_cons,List.length_nil];omega⟩,by simp only;omega⟩
          ·have h3:cF 1000045 (rP (trows l) ((i1+1:Nat):Int) false)=_:=h3
           rw[vE]at h3
           rw[hr2]at hx
           simp only [↓oE_E, ↓oR_E, ↓oR_N, ↓oR_T, ↓oB_T, ↓oS_T, ↓oR_S, ↓cond_true, ↓cond_false, ↓Bool.not_true, ↓Bool.not_false,vE,vS,some_and, ↓bd h3,fitE hl hel hi1,rapp_rows]
           exact⟨(n1,es++[.mk k2 n2 s2 o2 a2 u2],m,true),rfl,⟨fun h=>(by cases h),fun _=>hx.symm,hm,fun h=>(by cases h)⟩,by simp only;omega⟩
         |false=>
          right
          rw[ht2,needS]at hx
          simp only [↓oE_E, ↓oR_E, ↓oR_N, ↓oR_T, ↓oB_T, ↓oS_T, ↓oR_S, ↓cond_true, ↓cond_false, ↓Bool.not_true, ↓Bool.not_false,vE,vS,some_and, ↓bd (q_nok l hl i1 hi1 _)]at hx ⊢
          cases ht3:isT l i1 (bs [93])with
          |false=>
           rw[ht3,Rs.bind_bad]at hx
           simp only [↓oE_E, ↓oR_E, ↓oR_N, ↓oR_T, ↓oB_T, ↓oS_T, ↓oR_S, ↓cond_true, ↓cond_false, ↓Bool.not_true, ↓Bool.not_false,vE,vS,some_and]
           rw[←hx]
           exact⟨_,rfl,hi1,ex 14 es,rfl⟩
          |true=>
           rw[ht3,needS,Rs.bind_ok]at hx
           rw[←hx,Rs.bind_ok]at hne ⊢
           simp only [↓oE_E, ↓oR_E, ↓oR_N, ↓oR_T, ↓oB_T, ↓oS_T, ↓oR_S, ↓cond_true, ↓cond_false, ↓Bool.not_true, ↓Bool.not_false,vE,vS,some_and]
           exact⟨_,rfl,rfl⟩
      |false=>
       simp only [t3]at hne
       simp only [↓oE_E, ↓oR_E, ↓oR_N, ↓oR_T, ↓oB_T, ↓oS_T, ↓oR_S, ↓cond_true, ↓cond_false, ↓Bool.not_true, ↓Bool.not_false,vE,vS,some_and, ↓bd (q_tok l hl i hi _)]
       cases t4:isT l i (bs [40])with
       |true=>
        have hi1:=hl.next hi (isT_k t4)
        simp only [t4]at hne
        obtain⟨⟨k2,n2,s2,o2,a2,u2⟩,j,b,h3,hok,hbad⟩:=QR_any (r_qround hl hp (i+1) hi1 hne)
        rw[vE]at h3
        simp only [↓oE_E, ↓oR_E, ↓oR_N, ↓oR_T, ↓oB_T, ↓oS_T, ↓oR_S, ↓cond_true, ↓cond_false, ↓Bool.not_true, ↓Bool.not_false,vE,vS,some_and, ↓bd h3]
        cases b with
        |false=>rw[hok rfl];rfl
        |true=>rw[(hbad rfl).1];exact⟨(hbad rfl).2, .mk k2 n2 s2 o2 a2 u2,rfl⟩
       |false=>
        simp only [t4]at hne
        simp only [↓oE_E, ↓oR_E, ↓oR_N, ↓oR_T, ↓oB_T, ↓oS_T, ↓oR_S, ↓cond_true, ↓cond_false, ↓Bool.not_true, ↓Bool.not_false,vE,vS,some_and, ↓bd (q_tok l hl i hi _)]
        cases t5:isT l i (bs [109,101,114,103,101])with
        |true=>
         have hi1:=hl.next hi (isT_k t5)
         simp only [t5]at hne
         obtain⟨⟨k2,n2,s2,o2,a2,u2⟩,j,b,h3,hok,hbad⟩:=QR_any (r_qmerge hl hp (i+1) hi1 hne)
         rw[vE]at h3
         simp only [↓oE_E, ↓oR_E, ↓oR_N, ↓oR_T, ↓oB_T, ↓oS_T, ↓oR_S, ↓cond_true, ↓cond_false, ↓Bool.not_true, ↓Bool.not_false,vE,vS,some_and, ↓bd h3]
         cases b with
         |false=>rw[hok rfl];rfl
         |true=>rw[(hbad rfl).1];exact⟨(hbad rfl).2, .mk k2 n2 s2 o2 a2 u2,rfl⟩
        |false=>
         simp only [t5]at hne
         simp only [↓oE_E, ↓oR_E, ↓oR_N, ↓oR_T, ↓oB_T, ↓oS_T, ↓oR_S, ↓cond_true, ↓cond_false, ↓Bool.not_true, ↓Bool.not_false,vE,vS,some_and, ↓bd (q_tok l hl i hi _)]
         cases t6:isT l i (bs [105,102])with
         |true=>
          have hi1:=hl.next hi (isT_k t6)
          simp only [t6]at hne
          simp only [↓oE_E, ↓oR_E, ↓oR_N, ↓oR_T, ↓oB_T, ↓oS_T, ↓oR_S, ↓cond_true, ↓cond_false, ↓Bool.not_true, ↓Bool.not_false,vE,vS,some_and]
          unfold choiceS at hne ⊢
          obtain⟨⟨k0,n0,s0,o0,a0,u0⟩,j,b,h1,hok,hbad⟩:=QR_any (hp.c .arrow (i+1) hi1 (ne_bind hne))
          have h1:cF 1000045 (rP (trows l) ((i+1:Nat):Int) false)=_:=h1
          rw[vE]at h1
          simp only [↓bd h1, ↓oE_E, ↓oR_E, ↓oR_N, ↓oR_T, ↓oB_T, ↓oS_T, ↓oR_S, ↓cond_true, ↓cond_false, ↓Bool.not_true, ↓Bool.not_false,vE,vS,some_and]
          cases b with
          |true=>
           obtain⟨hb,hj⟩:=hbad rfl
           rw[hb,Rs.bind_bad]
           simp only [↓oE_E, ↓oR_E, ↓oR_N, ↓oR_T, ↓oB_T, ↓oS_T, ↓oR_S, ↓cond_true, ↓cond_false, ↓Bool.not_true, ↓Bool.not_false,vE,vS,some_and, ↓bd (q_nbad l hl j hj _), ↓bd (q_ab1 l _)]
           exact⟨hj,ex 7 [.mk k0 n0 s0 o0 a0 u0,e0,e0],rfl⟩
          |false=>
           have hr:=hok rfl
           have hj:=hp.lt _ _ _ _ hi1 hr
           rw[hr,Rs.bind_ok,needS]at hne
           rw[hr,Rs.bind_ok,needS]
           simp only [↓oE_E, ↓oR_E, ↓oR_N, ↓oR_T, ↓oB_T, ↓oS_T, ↓oR_S, ↓cond_true, ↓cond_false, ↓Bool.not_true, ↓Bool.not_false,vE,vS,some_and, ↓bd (q_nok l hl j hj _)]
           cases t7:isT l j (bs [116,104,101,110])with
           |false=>
            simp only [↓oE_E, ↓oR_E, ↓oR_N, ↓oR_T, ↓oB_T, ↓oS_T, ↓oR_S, ↓cond_true, ↓cond_false, ↓Bool.not_true, ↓Bool.not_false,vE,vS,some_and, ↓bd (q_nbad l hl j hj _), ↓bd (q_ab1 l _)]
            exact⟨hj,ex 7 [.mk k0 n0 s0 o0 a0 u0,e0,e0],rfl⟩
           |true=>
            have hj1:=hl.next hj (isT_k t7)
            rw[t7,needS,Rs.bind_ok]at hne
            obtain⟨⟨k2,n2,s2,o2,a2,u2⟩,m,b,h2,hok,hbad⟩:=QR_any (hp.c .arrow (j+1) hj1 (ne_bind hne))
            have h2:cF 1000045 (rP (trows l) ((j+1:Nat):Int) false)=_:=h2
            rw[vE]at h2
            simp only [↓oE_E, ↓oR_E, ↓oR_N, ↓oR_T, ↓oB_T, ↓oS_T, ↓oR_S, ↓cond_true, ↓cond_false, ↓Bool.not_true, ↓Bool.not_false,vE,vS,some_and, ↓bd h2,needS,Rs.bind_ok]
            cases b with
            |true=>
             obtain⟨hb,hm⟩:=hbad rfl
             rw[hb,Rs.bind_bad]
             simp only [↓oE_E, ↓oR_E, ↓oR_N, ↓oR_T, ↓oB_T, ↓oS_T, ↓oR_S, ↓cond_true, ↓cond_false, ↓Bool.not_true, ↓Bool.not_false,vE,vS,some_and, ↓bd (q_nbad l hl m hm _), ↓bd (q_ab1 l _)]
             exact⟨hm,ex 7 [.mk k0 n0 s0 o0 a0 u0, .mk k2 n2 s2 o2 a2 u2,e0],rfl⟩
            |false=>
             have hr:=hok rfl
             have hm:=hp.lt _ _ _ _ hj1 hr
             rw[hr,Rs.bind_ok,needS]at hne
             rw[hr,Rs.bind_ok]
             simp only [↓oE_E, ↓oR_E, ↓oR_N, ↓oR_T, ↓oB_T, ↓oS_T, ↓oR_S, ↓cond_true, ↓cond_false, ↓Bool.not_true, ↓Bool.not_false,vE,vS,some_and, ↓bd (q_nok l hl m hm _)]
             cases t8:isT l m (bs [101,108,115,101])with
             |false=>
              simp only [↓oE_E, ↓oR_E, ↓oR_N, ↓oR_T, ↓oB_T, ↓oS_T, ↓oR_S, ↓cond_true, ↓cond_false, ↓Bool.not_true, ↓Bool.not_false,vE,vS,some_and, ↓bd (q_ab1 l _)]
              exact⟨hm,ex 7 [.mk k0 n0 s0 o0 a0 u0, .mk k2 n2 s2 o2 a2 u2,e0],rfl⟩
             |true=>
              have hm1:=hl.next hm (isT_k t8)
              rw[t8,needS,Rs.bind_ok]at hne
              obtain⟨⟨k3,n3,s3,o3,a3,u3⟩,z,b,h3,hok,hbad⟩:=QR_any (hp.c .arrow (m+1) hm1 (ne_bind hne))
              have h3:cF 1000045 (rP (trows l) ((m+1:Nat):Int) false)=_:=h3
              rw[vE]at h3
              simp only [↓oE_E, ↓oR_E, ↓oR_N, ↓oR_T, ↓oB_T, ↓oS_T, ↓oR_S, ↓cond_true, ↓cond_false, ↓Bool.not_true, ↓Bool.not_false,vE,vS,some_and, ↓bd h3,Rs.bind_ok]
              cases b with
              |true=>
               obtain⟨hb,hz⟩:=hbad rfl
               rw[hb,Rs.bind_bad]
               exact⟨hz,ex 7 [.mk k0 n0 s0 o0 a0 u0, .mk k2 n2 s2 o2 a2 u2, .mk k3 n3 s3 o3 a3 u3],rfl⟩
              |false=>rw[hok rfl];rfl
         |false=>
          simp only [t6]at hne
          have k1:=q_mok l hl i hi
          simp only [↓oE_E, ↓oR_E, ↓oR_N, ↓oR_T, ↓oB_T, ↓oS_T, ↓oR_S, ↓cond_true, ↓cond_false, ↓Bool.not_true, ↓Bool.not_false,vE,vS,some_and]
          cases hr:nameS l i with
          |out=>exact(nameS_no hr).elim
          |bad k=>
           have:k=i:=by unfold nameS at hr;split at hr<;>cases hr;rfl
           subst this
           rw[hr]at k1
           simp only [↓oE_E, ↓oR_E, ↓oR_N, ↓oR_T, ↓oB_T, ↓oS_T, ↓oR_S, ↓cond_true, ↓cond_false, ↓Bool.not_true, ↓Bool.not_false,vE,vS,some_and, ↓bd k1, ↓bd (q_tbad l hl k hi _)]
           exact⟨hi, .mk 3 0 (bs []) 0 [] [],rfl⟩
          |ok nm k=>
           have hk:=nameS_lt hl hi hr
           rw[hr]at k1
           rw[hr,Rs.bind_ok]at hne
           simp only [↓oE_E, ↓oR_E, ↓oR_N, ↓oR_T, ↓oB_T, ↓oS_T, ↓oR_S, ↓cond_true, ↓cond_false, ↓Bool.not_true, ↓Bool.not_false,vE,vS,some_and, ↓bd k1, ↓bd (q_tok l hl k hk _),Rs.bind_ok]
           cases t7:isT l k (bs [40])with
           |false=>simp only [↓oE_E, ↓oR_E, ↓oR_N, ↓oR_T, ↓oB_T, ↓oS_T, ↓oR_S, ↓cond_true, ↓cond_false, ↓Bool.not_true, ↓Bool.not_false,vE,vS,some_and];rfl
           |true=>
            simp only [t7]at hne
            obtain⟨⟨k2,n2,s2,o2,a2,u2⟩,j,b,h3,hok,hbad⟩:=QR_any (r_qcall hl hp nm (k+1) (hl.next hk (isT_k t7)) hne)
            rw[vE]at h3
            simp only [↓oE_E, ↓oR_E, ↓oR_N, ↓oR_T, ↓oB_T, ↓oS_T, ↓oR_S, ↓cond_true, ↓cond_false, ↓Bool.not_true, ↓Bool.not_false,vE,vS,some_and, ↓bd h3]
            cases b with
            |false=>rw[hok rfl];rfl
            |true=>rw[(hbad rfl).1];exact⟨(hbad rfl).2, .mk k2 n2 s2 o2 a2 u2,rfl⟩
end
def TOK (l:List Tk):Prop:= ∀j,(tkA l j).k=5→(tkA l j).s≠bTrue∧(tkA l j).s≠bFalse
theorem prs_HR {l:List Tk}(hl:LOK l)(hT:TOK l): ∀n,HR l (prs l n)
 |0=>⟨fun nt i hi h=>(h rfl).elim,fun nt i e j hi h=>(by cases h),fun nt i e j hi h=>(by cases h)⟩
 |n+1=>by
  have ih:=prs_HR hl hT n
  refine⟨fun nt i hi h=> ?_,fun nt i e j hi h=>(step_pos hl (prs_HQ hl n) nt i e j hi h).2,fun nt i e j hi h=>(step_pos hl (prs_HQ hl n) nt i e j hi h).1⟩
  cases nt with
  |arrow=>exact r_qArrow hl ih i hi h
  |fby=>exact r_qfby hl ih i hi h
  |or=>exact r_qor hl ih i hi h
  |and=>exact r_qand hl ih i hi h
  |cmp=>exact r_qcmp hl ih i hi h
  |sum=>exact r_qsum hl ih i hi h
  |prod=>exact r_qprod hl ih i hi h
  |un=>exact r_qun hl ih i hi h
  |post=>exact r_qpost hl ih i hi h
  |atom=>exact r_qatom hl ih hT i hi h
theorem c_qArrow {l:List Tk}(hl:LOK l)(hT:TOK l)(i:Nat)(hi:i < l.length): ∃r,cF 1000045 (rP (trows l) (i:Int) false)=some r∧QR Ex.row l (readS l i) r:=(prs_HR hl hT (fuel l)).c .arrow i hi (readS_ne hl i hi)
end Go.Vm
end

section
set_option linter.all false
set_option maxRecDepth 100000
set_option maxHeartbeats 4000000
namespace Go.Vm
open Go.Proofs
mutual
def Ex.size:Ex→Nat
 | .mk _ _ _ _ _ l=>Ex.sizes l+1
def Ex.sizes:List Ex→Nat
 | []=>0
 |e::l=>e.size+Ex.sizes l
end
mutual
def Ex.okS:Ex→Prop
 | .mk _ _ s _ a l=>s.size≤100000∧((∀x∈a,x.size≤100000)∧a.length≤l.length)∧Ex.okSs l
def Ex.okSs:List Ex→Prop
 | []=>True
 |e::l=>e.okS∧Ex.okSs l
end
theorem sizes_app: ∀a b:List Ex,Ex.sizes (a++b)=Ex.sizes a+Ex.sizes b
 | [],b=>by simp [Ex.sizes]
 |e::a,b=>by simp [Ex.sizes,sizes_app a b];omega
theorem okSs_app: ∀a b:List Ex,Ex.okSs (a++b)↔Ex.okSs a∧Ex.okSs b
 | [],b=>by simp [Ex.okSs]
 |e::a,b=>by simp [Ex.okSs,okSs_app a b,and_assoc]
theorem bs0_size:(bs []).size≤100000:=by decide
def TS (l:List Tk):Prop:= ∀j,(tkA l j).s.size≤100000
def HS (p:PR):Prop:= ∀nt i e j,p nt i= .ok e j→i+e.size≤j∧e.okS
section
variable {l : List Tk} (ht : TS l) {n : Nat} {p : PR} (hp : HS p)
include ht hp
theorem nameS_sz {i j:Nat}{a:ByteArray}(h:nameS l i= .ok a j):a.size≤100000:=by
 unfold nameS at h;split at h<;>cases h;exact ht _
theorem armS_sz {i j:Nat}{a:ByteArray}(h:armS l i= .ok a j):a.size≤100000:=by
 unfold armS at h;split at h<;>cases h;exact ht _
theorem whenS_sz {i j:Nat}{w:ByteArray × ByteArray}(h:whenS l i= .ok w j):i+1≤j∧w.1.size≤100000∧w.2.size≤100000:=by
 have b1:bTrue.size≤100000:=by decide
 have b2:bFalse.size≤100000:=by decide
 unfold whenS at h
 split at h
 ·obtain⟨a,k,h1,h⟩:=bind_inv h
  have:=nameS_le h1;have:=nameS_sz ht hp h1
  cases h;exact⟨by omega,by assumption,b2⟩
 ·split at h
  ·obtain⟨a,k,h1,h⟩:=bind_inv h
   have:=nameS_le h1;have:=nameS_sz ht hp h1
   cases h;exact⟨by omega,by assumption,b1⟩
  ·obtain⟨a,k,h1,h⟩:=bind_inv h
   obtain⟨_,k2,h2,h⟩:=bind_inv h
   obtain⟨_,k3,h3,h⟩:=bind_inv h
   obtain⟨_,k4,h4,h⟩:=bind_inv h
   have:=armS_le h1;have:=needS_le h2;have:=nameS_le h3;have:=needS_le h4
   have q1:=armS_sz ht hp h1;have q2:=nameS_sz ht hp h3
   cases h;exact⟨by omega,q2,q1⟩
theorem left_sz (side:Nt)(a m i:Nat)(e:Ex)(j:Nat)(h:leftS l n p side a m i= .ok e j):i+e.size≤j∧e.okS:=by
 unfold leftS at h
 obtain⟨e1,k,h1,h⟩:=bind_inv h
 refine iterS_inv (fun x:Ex × Nat=>i+x.1.size≤x.2∧x.1.okS) (fun r j=>i+r.size≤j∧r.okS) (fun x y hx hs=> ?_) (fun x r j hx hs=> ?_) n (e1,k) e j (hp _ _ _ _ h1) h
 ·obtain⟨e2,i2⟩:=x
  rw[leftT]at hs
  split at hs
  ·cases hs
  ·split at hs<;>cases hs
   have:=hp _ _ _ _ ‹_›
   (simp only [binE,ex,Ex.size,Ex.sizes,Ex.okS,Ex.okSs,sizes_app,okSs_app]at*;refine⟨by omega,?_⟩;simp_all [bs0_size])
 ·obtain⟨e2,i2⟩:=x
  rw[leftT]at hs
  split at hs
  ·cases hs;exact hx
  ·split at hs<;>cases hs
theorem list_sz (en:ByteArray)(i:Nat)(e:List Ex)(j:Nat)(h:listS l n p en i= .ok e j):i+Ex.sizes e≤j∧Ex.okSs e:=by
 unfold listS at h
 obtain⟨e1,k,h1,h⟩:=bind_inv h
 have h0:=hp _ _ _ _ h1
 refine iterS_inv (fun x:List Ex × Nat=>i+Ex.sizes x.1≤x.2∧Ex.okSs x.1) (fun r j=>i+Ex.sizes r≤j∧Ex.okSs r) (fun x y hx hs=> ?_) (fun x r j hx hs=> ?_) n ([e1],k) e j (by(simp only [binE,ex,Ex.size,Ex.sizes,Ex.okS,Ex.okSs,sizes_app,okSs_app]at*;refine⟨by omega,?_⟩;simp_all [bs0_size])) h
 ·obtain⟨e2,i2⟩:=x
  rw[listT]at hs
  split at hs
  ·split at hs<;>cases hs
   have:=hp _ _ _ _ ‹_›
   (simp only [binE,ex,Ex.size,Ex.sizes,Ex.okS,Ex.okSs,sizes_app,okSs_app]at*;refine⟨by omega,?_⟩;simp_all [bs0_size])
  ·cases hs
 ·obtain⟨e2,i2⟩:=x
  rw[listT]at hs
  split at hs
  ·split at hs<;>cases hs
  ·obtain⟨_,k2,h2,h⟩:=bind_inv (Sum.inr.inj hs)
   have:=needS_le h2
   cases h
   (simp only [binE,ex,Ex.size,Ex.sizes,Ex.okS,Ex.okSs,sizes_app,okSs_app]at*;refine⟨by omega,?_⟩;simp_all [bs0_size])
theorem post_sz (i:Nat)(e:Ex)(j:Nat)(h:postS l n p i= .ok e j):i+e.size≤j∧e.okS:=by
 unfold postS at h
 obtain⟨e1,k,h1,h⟩:=bind_inv h
 refine iterS_inv (fun x:Ex × Nat=>i+x.1.size≤x.2∧x.1.okS) (fun r j=>i+r.size≤j∧r.okS) (fun x y hx hs=> ?_) (fun x r j hx hs=> ?_) n (e1,k) e j (hp _ _ _ _ h1) h
 ·obtain⟨e2,i2⟩:=x
  rw[postT]at hs
  split at hs
  ·split at hs<;>cases hs
   obtain⟨_,k2,h2,h⟩:=bind_inv ‹_›
   obtain⟨_,k3,h3,h⟩:=bind_inv h
   have:=hp _ _ _ _ h2
   have:=needS_le h3
   cases h
   (simp only [binE,ex,Ex.size,Ex.sizes,Ex.okS,Ex.okSs,sizes_app,okSs_app]at*;refine⟨by omega,?_⟩;simp_all [bs0_size])
  ·split at hs
   ·split at hs<;>cases hs
    have:=whenS_sz ht hp ‹_›
    (simp only [binE,ex,Ex.size,Ex.sizes,Ex.okS,Ex.okSs,sizes_app,okSs_app]at*;refine⟨by omega,?_⟩;simp_all [bs0_size])
   ·cases hs
 ·obtain⟨e2,i2⟩:=x
  rw[postT]at hs
  split at hs
  ·split at hs<;>cases hs
  ·split at hs
   ·split at hs<;>cases hs
   ·cases hs;exact hx
theorem callU_sz (nm:ByteArray)(es:List Ex)(i:Nat)(e:Ex)(j:Nat)(hn:nm.size≤100000)(he:Ex.okSs es)(h:callU l p nm es i= .ok e j):i+e.size≤j+Ex.sizes es+1∧e.okS:=by
 unfold callU at h
 split at h
 ·obtain⟨_,k2,h2,h⟩:=bind_inv h
  have:=hp _ _ _ _ h2
  cases h
  (simp only [binE,ex,Ex.size,Ex.sizes,Ex.okS,Ex.okSs,sizes_app,okSs_app]at*;refine⟨by omega,?_⟩;simp_all [bs0_size])
 ·cases h
  (simp only [binE,ex,Ex.size,Ex.sizes,Ex.okS,Ex.okSs,sizes_app,okSs_app]at*;refine⟨by omega,?_⟩;simp_all [bs0_size])
theorem word_sz (i:Nat)(e:Ex)(j:Nat)(h:wordS l n p i= .ok e j):i+e.size≤j∧e.okS:=by
 unfold wordS at h
 split at h
 ·cases h;(simp only [binE,ex,Ex.size,Ex.sizes,Ex.okS,Ex.okSs,sizes_app,okSs_app]at*;refine⟨by omega,?_⟩;simp_all [bs0_size])
 split at h
 ·cases h;(simp only [binE,ex,Ex.size,Ex.sizes,Ex.okS,Ex.okSs,sizes_app,okSs_app]at*;refine⟨by omega,?_⟩;simp_all [bs0_size])
 split at h
 ·obtain⟨_,k2,h2,h⟩:=bind_inv h
  have:=list_sz ht hp _ _ _ _ h2
  cases h
  (simp only [binE,ex,Ex.size,Ex.sizes,Ex.okS,Ex.okSs,sizes_app,okSs_app]at*;refine⟨by omega,?_⟩;simp_all [bs0_size])
 split at h
 ·unfold roundS at h
  obtain⟨_,k1,h1,h⟩:=bind_inv h
  have:=hp _ _ _ _ h1
  split at h
  ·obtain⟨_,k2,h2,h⟩:=bind_inv h
   obtain⟨_,k3,h3,h⟩:=bind_inv h
   obtain⟨_,k4,h4,h⟩:=bind_inv h
   obtain⟨_,k5,h5,h⟩:=bind_inv h
   obtain⟨_,k6,h6,h⟩:=bind_inv h
   have:=needS_le h2;have:=hp _ _ _ _ h3;have:=needS_le h4;have:=hp _ _ _ _ h5;have:=needS_le h6
   cases h
   (simp only [binE,ex,Ex.size,Ex.sizes,Ex.okS,Ex.okSs,sizes_app,okSs_app]at*;refine⟨by omega,?_⟩;simp_all [bs0_size])
  ·obtain⟨_,k2,h2,h⟩:=bind_inv h
   have:=needS_le h2
   cases h
   (simp only [binE,ex,Ex.size,Ex.sizes,Ex.okS,Ex.okSs,sizes_app,okSs_app]at*;refine⟨by omega,?_⟩;simp_all [bs0_size])
 split at h
 ·unfold mergeS at h
  obtain⟨nm,k1,h1,h⟩:=bind_inv h
  obtain⟨_,k2,h2,h⟩:=bind_inv h
  obtain⟨q,k3,h3,h⟩:=bind_inv h
  have q1:=nameS_sz ht hp h1
  have:=nameS_le h1;have:=needS_le h2
  have key:=iterS_inv (fun x:List ByteArray × List Ex × Nat × Bool=>k2+Ex.sizes x.2.1≤x.2.2.1∧Ex.okSs x.2.1∧(∀y∈x.1,y.size≤100000)∧x.1.length=x.2.1.length) (fun r j=>k2+Ex.sizes r.2≤j∧Ex.okSs r.2∧(∀y∈r.1,y.size≤100000)∧r.1.length=r.2.length) (fun x y hx hs=> ?_) (fun x r j hx hs=> ?_) n ([],[],k2,true) q k3 (by simp [Ex.sizes,Ex.okSs]) h3
  ·cases h
   obtain⟨w1,w2,w3,w4⟩:=key
   refine⟨?_,q1,⟨w3,Nat.le_of_eq w4⟩,w2⟩
   simp only [Ex.size]
   omega
  ·obtain⟨ar,es,i2,b⟩:=x
   obtain⟨w1,w2,w3,w4⟩:=hx
   cases b with
   |false=>cases hs
   |true=>
    rw[mergeT]at hs
    split at hs
    ·obtain⟨a,g1,r1,r⟩:=bind_inv ‹_›
     obtain⟨_,g2,r2,r⟩:=bind_inv r
     obtain⟨e2,g3,r3,r⟩:=bind_inv r
     obtain⟨_,g4,r4,r⟩:=bind_inv r
     have:=armS_le r1;have:=needS_le r2;have z:=hp _ _ _ _ r3;have:=needS_le r4
     have q2:=armS_sz ht hp r1
     cases r
     split at hs<;>cases hs<;>
     (refine⟨?_,(okSs_app _ _).2 ⟨w2,z.2,trivial⟩,fun y hy=> ?_,by simp only [List.length_append,List.length_cons,List.length_nil]at w4 ⊢;omega⟩
      ·simp only [sizes_app,Ex.sizes]at w1 ⊢;omega
      ·rcases List.mem_append.1 hy with hy|hy
       ·exact w3 y hy
       ·rw[List.mem_singleton.1 hy];exact q2)
    ·cases hs
    ·cases hs
  ·obtain⟨ar,es,i2,b⟩:=x
   cases b with
   |false=>cases hs;exact hx
   |true=>
    rw[mergeT]at hs
    split at hs
    ·split at hs<;>cases hs
    ·cases hs
    ·cases hs
 split at h
 ·unfold choiceS at h
  obtain⟨_,k1,h1,h⟩:=bind_inv h
  obtain⟨_,k2,h2,h⟩:=bind_inv h
  obtain⟨_,k3,h3,h⟩:=bind_inv h
  obtain⟨_,k4,h4,h⟩:=bind_inv h
  obtain⟨_,k5,h5,h⟩:=bind_inv h
  have:=hp _ _ _ _ h1;have:=needS_le h2;have:=hp _ _ _ _ h3;have:=needS_le h4;have:=hp _ _ _ _ h5
  cases h
  (simp only [binE,ex,Ex.size,Ex.sizes,Ex.okS,Ex.okSs,sizes_app,okSs_app]at*;refine⟨by omega,?_⟩;simp_all [bs0_size])
 ·obtain⟨nm,k1,h1,h⟩:=bind_inv h
  have q1:=nameS_sz ht hp h1
  have:=nameS_le h1
  split at h
  ·unfold callS at h
   split at h
   ·have:=callU_sz ht hp _ [] _ _ _ q1 trivial h
    (simp only [binE,ex,Ex.size,Ex.sizes,Ex.okS,Ex.okSs,sizes_app,okSs_app]at*;refine⟨by omega,?_⟩;simp_all [bs0_size])
   ·obtain⟨es,k2,h2,h⟩:=bind_inv h
    have q2:=list_sz ht hp _ _ _ _ h2
    have:=callU_sz ht hp _ _ _ _ _ q1 q2.2 h
    exact⟨by omega,this.2⟩
  ·cases h
   (simp only [binE,ex,Ex.size,Ex.sizes,Ex.okS,Ex.okSs,sizes_app,okSs_app]at*;refine⟨by omega,?_⟩;simp_all [bs0_size])
theorem step_sz (nt:Nt)(i:Nat)(e:Ex)(j:Nat)(h:ntS l n p nt i= .ok e j):i+e.size≤j∧e.okS:=by
 cases nt with
 |or=>exact left_sz ht hp _ _ _ _ _ _ h
 |and=>exact left_sz ht hp _ _ _ _ _ _ h
 |sum=>exact left_sz ht hp _ _ _ _ _ _ h
 |prod=>exact left_sz ht hp _ _ _ _ _ _ h
 |post=>exact post_sz ht hp _ _ _ h
 |arrow=>
  obtain⟨_,k1,h1,h⟩:=bind_inv (show arrowS l p i= .ok e j from h)
  have:=hp _ _ _ _ h1
  split at h
  ·obtain⟨_,k2,h2,h⟩:=bind_inv h
   have:=hp _ _ _ _ h2
   cases h
   (simp only [binE,ex,Ex.size,Ex.sizes,Ex.okS,Ex.okSs,sizes_app,okSs_app]at*;refine⟨by omega,?_⟩;simp_all [bs0_size])
  ·cases h;exact this
 |fby=>
  obtain⟨_,k1,h1,h⟩:=bind_inv (show fbyS l p i= .ok e j from h)
  have:=hp _ _ _ _ h1
  split at h
  ·obtain⟨_,k2,h2,h⟩:=bind_inv h
   have:=hp _ _ _ _ h2
   cases h
   (simp only [binE,ex,Ex.size,Ex.sizes,Ex.okS,Ex.okSs,sizes_app,okSs_app]at*;refine⟨by omega,?_⟩;simp_all [bs0_size])
  ·cases h;exact this
 |cmp=>
  obtain⟨_,k1,h1,h⟩:=bind_inv (show cmpS l p i= .ok e j from h)
  have:=hp _ _ _ _ h1
  split at h
  ·cases h;exact this
  ·obtain⟨_,k2,h2,h⟩:=bind_inv h
   have:=hp _ _ _ _ h2
   cases h
   (simp only [binE,ex,Ex.size,Ex.sizes,Ex.okS,Ex.okSs,sizes_app,okSs_app]at*;refine⟨by omega,?_⟩;simp_all [bs0_size])
 |un=>
  have h:unS l p i= .ok e j:=h
  unfold unS at h
  split at h
  ·obtain⟨_,k2,h2,h⟩:=bind_inv h
   have:=hp _ _ _ _ h2
   cases h
   (simp only [binE,ex,Ex.size,Ex.sizes,Ex.okS,Ex.okSs,sizes_app,okSs_app]at*;refine⟨by omega,?_⟩;simp_all [bs0_size])
  split at h
  ·obtain⟨_,k2,h2,h⟩:=bind_inv h
   have:=hp _ _ _ _ h2
   cases h
   (simp only [binE,ex,Ex.size,Ex.sizes,Ex.okS,Ex.okSs,sizes_app,okSs_app]at*;refine⟨by omega,?_⟩;simp_all [bs0_size])
  split at h
  ·obtain⟨_,k2,h2,h⟩:=bind_inv h
   have:=hp _ _ _ _ h2
   cases h
   (simp only [binE,ex,Ex.size,Ex.sizes,Ex.okS,Ex.okSs,sizes_app,okSs_app]at*;refine⟨by omega,?_⟩;simp_all [bs0_size])
  ·exact hp _ _ _ _ h
 |atom=>
  have h:atomS l n p i= .ok e j:=h
  have:=ht i
  unfold atomS at h
  split at h
  ·cases h;(simp only [binE,ex,Ex.size,Ex.sizes,Ex.okS,Ex.okSs,sizes_app,okSs_app]at*;refine⟨by omega,?_⟩;simp_all [bs0_size])
  split at h
  ·cases h;(simp only [binE,ex,Ex.size,Ex.sizes,Ex.okS,Ex.okSs,sizes_app,okSs_app]at*;refine⟨by omega,?_⟩;simp_all [bs0_size])
  split at h
  ·cases h;(simp only [binE,ex,Ex.size,Ex.sizes,Ex.okS,Ex.okSs,sizes_app,okSs_app]at*;refine⟨by omega,?_⟩;simp_all [bs0_size])
  ·exact word_sz ht hp _ _ _ h
end
theorem prs_HS {l:List Tk}(ht:TS l): ∀n,HS (prs l n)
 |0=>fun nt i e j h=>by cases h
 |n+1=>fun nt i e j h=>step_sz ht (prs_HS ht n) nt i e j h
theorem readS_sz {l:List Tk}(ht:TS l){i j:Nat}{e:Ex}(h:readS l i= .ok e j):i+e.size≤j∧e.okS:=prs_HS ht _ _ _ _ _ h
end Go.Vm
end

section
set_option linter.all false
set_option maxRecDepth 100000
set_option maxHeartbeats 4000000
namespace Go.Vm
open Go.Proofs
mutual
def Ex.depth:Ex→Nat
 | .mk _ _ _ _ _ l=>Ex.depths l+1
def Ex.depths:List Ex→Nat
 | []=>0
 |e::l=>max e.depth (Ex.depths l)
end
theorem depths_snoc (e:Ex): ∀l:List Ex,Ex.depths (l++[e])=max (Ex.depths l) e.depth
 | []=>by simp [Ex.depths]
 |x::l=>by simp only [List.cons_append,Ex.depths,depths_snoc e l];omega
theorem sizes_mem {e:Ex}: ∀ {l:List Ex} {i:Nat},l[i]? =some e→e.size≤Ex.sizes l
 |x::l,0,h=>by simp at h;subst h;simp only [Ex.sizes];omega
 |x::l,i+1,h=>by have:=sizes_mem (l:=l) (i:=i) (by simpa using h);simp only [Ex.sizes];omega
theorem sizes_len: ∀l:List Ex,l.length≤Ex.sizes l
 | []=>Nat.le_refl _
 | .mk k n s o a u::l=>by have:=sizes_len l;simp only [Ex.sizes,Ex.size,List.length_cons];omega
theorem xrow: ∀ {l:List Ex} {i:Nat} {e:Ex},l[i]? =some e→sy.row (Ex.rows l) (i:Int)=e.row:=by
 intro l i e h
 show(Ex.rows l).getD (i:Int).toNat []=_
 rw[Int.toNat_natCast]
 induction l generalizing i with
 |nil=>cases h
 |cons x l ih=>
  cases i with
  |zero=>simp at h;subst h;rfl
  |succ i=>exact ih (by simpa using h)
mutual
theorem depth_le: ∀e:Ex,e.depth≤e.size
 | .mk _ _ _ _ _ l=>by have:=depths_le l;simp only [Ex.depth,Ex.size];omega
theorem depths_le: ∀l:List Ex,Ex.depths l≤Ex.sizes l
 | []=>Nat.le_refl _
 |e::l=>by have:=depth_le e;have:=depths_le l;simp only [Ex.depths,Ex.sizes];omega
end
theorem imax_nat (a b:Nat):max (a:Int) (b:Int)=((max a b:Nat):Int):=by omega
theorem c_eDepth: ∀(m:Nat) (k n:Int) (s:ByteArray) (o:Int) (a:List ByteArray) (u:List Ex),(Ex.mk k n s o a u).size≤m→m≤1000000→cF 54 [kE k n s o (srows a) (Ex.rows u)]=some (.val [.int .i64 ((Ex.mk k n s o a u).depth:Int)])
 |0,k,n,s,o,a,u,h,_=>by simp only [Ex.size]at h;omega
 |m+1,k,n,s,o,a,u,h,hm=>by
  have hz:Ex.sizes u≤m:=by simp only [Ex.size]at h;omega
  have hl:=sizes_len u
  refine cOf (by kernel_rfl) rfl ?_
  rw[g54_eq]
  simp only [g54,go1,Nat.reduceAdd,Int.reduceEq,Int.reduceLT,Int.reduceLE,Int.reduceSub,Int.reduceAdd,rows_len]
  refine loopF_at (fun i:Nat=>[.int .i64 (Ex.depths (u.take i):Int), .sl 6 (Ex.rows u), .int .i64 (u.length:Int), .int .i64 (i:Int)]) (fun i=>i≤u.length) (fun i=>u.length - i) (fun i hi=> ?_) 0 (Nat.zero_le _)
  by_cases hlt:i < u.length
  ·left
   refine⟨i+1,?_,hlt,by omega⟩
   have hx:=List.getElem?_eq_getElem hlt
   have hd:Ex.depths (u.take (i+1))=max (Ex.depths (u.take i)) u[i].depth:=by rw[List.take_add_one,hx];exact depths_snoc _ _
   rw[hd]
   generalize u[i]=e at hx
   have he:=sizes_mem hx
   have hr:=xrow hx
   obtain⟨k2,n2,s2,o2,a2,u2⟩:=e
   have h2:=c_eDepth m k2 n2 s2 o2 a2 u2 (by omega) (by omega)
   simp only [go1,Nat.reduceAdd,Int.reduceEq,Int.reduceLT,Int.reduceLE,Int.reduceSub,Int.reduceAdd,rows_len,ilt_at hlt,inr_at hlt,hr,Ex.row,oE,h2,wrap_succ hlt (by omega),imax_nat]
   rfl
  ·right
   have:i=u.length:=by omega
   subst this
   have:=depths_le u
   simp only [go1,Nat.reduceAdd,Int.reduceEq,Int.reduceLT,Int.reduceLE,Int.reduceSub,Int.reduceAdd,rows_len,ilt_self,List.take_length,Ex.depth]
   rw[wrap_succ (n:=Ex.depths u+1) (by omega) (by omega)]
   rfl
theorem c_rDepth: ∀(m:Nat) (k n:Int) (s:ByteArray) (o:Int) (a:List ByteArray) (u:List Ex),(Ex.mk k n s o a u).size≤m→m≤1000000→cF 46 [kE k n s o (srows a) (Ex.rows u)]=some (.val [.int .i64 ((Ex.mk k n s o a u).depth:Int)])
 |0,k,n,s,o,a,u,h,_=>by simp only [Ex.size]at h;omega
 |m+1,k,n,s,o,a,u,h,hm=>by
  have hz:Ex.sizes u≤m:=by simp only [Ex.size]at h;omega
  have hl:=sizes_len u
  refine cOf (by kernel_rfl) rfl ?_
  rw[g46_eq]
  simp only [g46,go1,Nat.reduceAdd,Int.reduceEq,Int.reduceLT,Int.reduceLE,Int.reduceSub,Int.reduceAdd,rows_len]
  refine loopF_at (fun i:Nat=>[.int .i64 (Ex.depths (u.take i):Int), .int .i64 (i:Int), .int .i64 k, .int .i64 n, .str s, .int .i64 o, .sl 1 (srows a), .sl 6 (Ex.rows u)]) (fun i=>i≤u.length) (fun i=>u.length - i) (fun i hi=> ?_) 0 (Nat.zero_le _)
  by_cases hlt:i < u.length
  ·left
   refine⟨i+1,?_,hlt,by omega⟩
   have hx:=List.getElem?_eq_getElem hlt
   have hd:Ex.depths (u.take (i+1))=max (Ex.depths (u.take i)) u[i].depth:=by rw[List.take_add_one,hx];exact depths_snoc _ _
   rw[hd]
   generalize u[i]=e at hx
   have he:=sizes_mem hx
   have hr:=xrow hx
   obtain⟨k2,n2,s2,o2,a2,u2⟩:=e
   have h2:=c_rDepth m k2 n2 s2 o2 a2 u2 (by omega) (by omega)
   simp only [go1,Nat.reduceAdd,Int.reduceEq,Int.reduceLT,Int.reduceLE,Int.reduceSub,Int.reduceAdd,rows_len,ilt_at hlt,inr_at hlt,hr,Ex.row,oE,h2,wrap_succ hlt (by omega),imax_nat]
   rfl
  ·right
   have:i=u.length:=by omega
   subst this
   have:=depths_le u
   simp only [go1,Nat.reduceAdd,Int.reduceEq,Int.reduceLT,Int.reduceLE,Int.reduceSub,Int.reduceAdd,oE,rows_len,ilt_self,List.take_length,Ex.depth]
   rw[wrap_succ (n:=Ex.depths u+1) (by omega) (by omega)]
   rfl
theorem sizes_snoc (e:Ex)(l:List Ex):Ex.sizes (l++[e])=Ex.sizes l+e.size:=by rw[sizes_app];simp [Ex.sizes]
theorem c_rSize: ∀(m:Nat) (k n:Int) (s:ByteArray) (o:Int) (a:List ByteArray) (u:List Ex),(Ex.mk k n s o a u).size≤m→m≤1000000→cF 47 [kE k n s o (srows a) (Ex.rows u)]=some (.val [.int .i64 ((Ex.mk k n s o a u).size:Int)])
 |0,k,n,s,o,a,u,h,_=>by simp only [Ex.size]at h;omega
 |m+1,k,n,s,o,a,u,h,hm=>by
  have hz:Ex.sizes u≤m:=by simp only [Ex.size]at h;omega
  have hl:=sizes_len u
  refine cOf (by kernel_rfl) rfl ?_
  rw[g47_eq]
  simp only [g47,go1,Nat.reduceAdd,Int.reduceEq,Int.reduceLT,Int.reduceLE,Int.reduceSub,Int.reduceAdd,rows_len]
  refine loopF_at (fun i:Nat=>[.int .i64 ((Ex.sizes (u.take i)+1:Nat):Int), .int .i64 (i:Int), .int .i64 k, .int .i64 n, .str s, .int .i64 o, .sl 1 (srows a), .sl 6 (Ex.rows u)]) (fun i=>i≤u.length∧Ex.sizes (u.take i)≤m) (fun i=>u.length - i) (fun i hi=> ?_) 0 ⟨Nat.zero_le _,Nat.zero_le _⟩
  by_cases hlt:i < u.length
  ·left
   have hx:=List.getElem?_eq_getElem hlt
   have hd:Ex.sizes (u.take (i+1))=Ex.sizes (u.take i)+u[i].size:=by rw[List.take_add_one,hx];exact sizes_snoc _ _
   have hle:Ex.sizes (u.take (i+1))≤m:=by
    have:=sizes_app (u.take (i+1)) (u.drop (i+1));rw[List.take_append_drop]at this;omega
   refine⟨i+1,?_,⟨hlt,hle⟩,by omega⟩
   rw[hd]at hle ⊢
   generalize u[i]=e at hx hle ⊢
   have he:=sizes_mem hx
   have hr:=xrow hx
   obtain⟨k2,n2,s2,o2,a2,u2⟩:=e
   have h2:=c_rSize m k2 n2 s2 o2 a2 u2 (by omega) (by omega)
   simp only [go1,Nat.reduceAdd,Int.reduceEq,Int.reduceLT,Int.reduceLE,Int.reduceSub,Int.reduceAdd,rows_len,ilt_at hlt,inr_at hlt,hr,Ex.row,oE,h2,wrap_succ hlt (by omega)]
   rw[wrap_id (by omega) (by omega)]
   congr 5;omega
  ·right
   have:i=u.length:=by omega
   subst this
   simp only [go1,Nat.reduceAdd,Int.reduceEq,Int.reduceLT,Int.reduceLE,Int.reduceSub,Int.reduceAdd,oE,rows_len,ilt_self,List.take_length,Ex.size]
end Go.Vm
end

section
set_option linter.all false
set_option maxRecDepth 100000
set_option maxHeartbeats 4000000
namespace Go.Vm
open Go.Proofs
def armN (s:ByteArray):Bool:=highN (tb s) || (decide (tb s=tb bTrue) || decide (tb s=tb bFalse))
def litS:Ex→Bool
 | .mk k _ _ o _ u=>bif decide (k=5)then decide (o=1)&&(match u with
   | [.mk k2 _ _ _ _ _]=>decide (k2=1)
   |_=>false)else decide (k=1) || (decide (k=2) || decide (k=4))
def constS:Ex→Bool
 | .mk k n s o a u=>bif decide (k=14)then u.all litS else litS (.mk k n s o a u)
def opB_ (k o:Int):Bool:=bif decide (k=5)then decide (1≤o)&&decide (o≤2)else bif decide (k=6)then decide (3≤o)&&decide (o≤16)else decide (o=0)
def numB (k n:Int):Bool:=bif decide (k=1)then decide (0≤n)else bif decide (k=2) || decide (k=13)then decide (n=0) || decide (n=1)else decide (n=0)
def nameB (k:Int)(s:ByteArray):Bool:=bif decide (k=3) || (decide (k=11) || (decide (k=12) || decide (k=13)))then lowN (tb s)else bif decide (k=4)then highN (tb s)else bif decide (k=17)then pathN (tb s)else decide (tb s= [])
def armsB (k:Int)(a:List ByteArray):Bool:=a.all armN&&(bif decide (k=11)then decide (a.length=1)else bif decide (k=12)then decide (1≤a.length)&&(decide (a.length≤6)&&decide a.Nodup)else decide (a.length=0))
def loB (k n:Int)(la:Nat):Int:=if k=5∨k=10∨k=11∨k=14 then 1 else if k=6∨k=8∨k=9∨k=15 then 2 else if k=7∨k=16 then 3 else if k=12 then la else if k=13 then n else 0
def hiB (k n:Int)(la:Nat):Int:=if k=14 then 8 else if k=13 then(if n=0 then 6 else 7)else loB k n la
def conB (k:Int)(u:List Ex):Bool:=bif decide (k=8)then(match u with
 |e::_=>constS e
 | []=>false)else true
def kindB (k:Int):Bool:=decide (1≤k)&&decide (k≤17)
def partB:Ex→Bool
 | .mk k n s o a u=>kindB k&&(numB k n&&(nameB k s&&(opB_ k o&&(armsB k a&&(decide (loB k n a.length≤(u.length:Int))&&(decide ((u.length:Int)≤hiB k n a.length)&&conB k u))))))
mutual
def allB:Ex→Bool
 | .mk k n s o a u=>partB (.mk k n s o a u)&&allBs u
def allBs:List Ex→Bool
 | []=>true
 |e::l=>allB e&&allBs l
end
theorem kinds (k:Int)(h:kindB k=true):k=1∨k=2∨k=3∨k=4∨k=5∨k=6∨k=7∨k=8∨k=9∨k=10∨k=11∨k=12∨k=13∨k=14∨k=15∨k=16∨k=17:=by
 unfold kindB at h
 simp at h
 omega
theorem kindB_no {k:Int}(h:kindB k=false):k≠1∧k≠2∧k≠3∧k≠4∧k≠5∧k≠6∧k≠7∧k≠8∧k≠9∧k≠10∧k≠11∧k≠12∧k≠13∧k≠14∧k≠15∧k≠16∧k≠17:=by
 unfold kindB at h
 simp at h
 omega
theorem or12 (o:Int):(decide (o=1) || decide (o=2))=(decide (1≤o)&&decide (o≤2)):=by
 rw[Bool.eq_iff_iff]
 simp
 omega
theorem c_enothing (k n:Int)(s:ByteArray)(o:Int)(a u:List (List D))(m:Int):cF 142 [kE k n s o a u, .d (.int .i64 m)]=some (.val [.bool (decide (n=0)), .bool (decide (tb s= [])), .bool (decide (o=0)), .int .i64 m, .int .i64 m, .int .i64 0]):=by
 refine cOf (by kernel_rfl) rfl ?_
 rw[g142_eq]
 simp only [g142,go1,Nat.reduceAdd,Int.reduceEq,Int.reduceLT,Int.reduceLE,Int.reduceSub,Int.reduceAdd,seq_tb]
 rfl
theorem c_eleaf (k n:Int)(s:ByteArray)(o:Int)(a u:List (List D))(hk:k=1∨k=2∨k=3∨k=4∨k=17)(hs:s.size≤100000):cF 141 [kE k n s o a u]=some (.val [.bool (numB k n), .bool (nameB k s), .bool (opB_ k o), .int .i64 0, .int .i64 0, .int .i64 0]):=by
 have h1:=c_enothing k n s o a u 0
 have h2:=c_Low s
 have h3:=c_High s
 have h4:=c_Path s hs
 refine cOf (by kernel_rfl) rfl ?_
 rw[g141_eq]
 simp only [g141,go1,Nat.reduceAdd,Int.reduceEq,Int.reduceLT,Int.reduceLE,Int.reduceSub,Int.reduceAdd,h1,h2,h3,h4,oQ]
 rcases hk with rfl|rfl|rfl|rfl|rfl<;>simp only [go1,Nat.reduceAdd,Int.reduceEq,Int.reduceLT,Int.reduceLE,Int.reduceSub,Int.reduceAdd,numB,nameB,opB_,decide_true,decide_false,Int.reduceEq,cond_true,cond_false,Bool.or_true,Bool.or_false,Bool.false_or,Bool.true_or]
theorem c_eof (k n:Int)(s:ByteArray)(o:Int)(a:List ByteArray)(u:List (List D))(hs:s.size≤100000):cF 99 [kE k n s o (srows a) u]=some (match kindB k with
  |true=> .val [.bool (numB k n), .bool (nameB k s), .bool (opB_ k o), .int .i64 (loB k n a.length), .int .i64 (hiB k n a.length), .int .i64 (if k=11 then 1 else if k=12 then 6 else 0), .bool true]
  |false=> .val [.bool false, .bool false, .bool false, .int .i64 0, .int .i64 0, .int .i64 0, .bool false]):=by
 have h1:=c_enothing k n s o (srows a) u
 have h2:=c_Low s
 have h5:=srows_len a
 cases hk:kindB k with
 |true=>
  rcases kinds k hk with h|h|h|h|h|h|h|h|h|h|h|h|h|h|h|h|h
  all_goals (first|(have h3:=c_eleaf k n s o (srows a) u (by omega) hs;subst h)|(subst h;have h3:=True.intro))
  all_goals
   refine cOf (by kernel_rfl) rfl ?_
   rw[g99_eq]
   simp only [↓g99, ↓h1, ↓h2, ↓h3, ↓h5,oQ,loB,hiB,go1,Nat.reduceAdd,Int.reduceEq,Int.reduceLT,Int.reduceLE,Int.reduceSub,Int.reduceAdd,h1,h2,h3,h5,numB,nameB,opB_,Int.reduceEq,or_self,or_true,true_or,if_true,if_false,decide_true,decide_false,cond_true,cond_false]
  ·rw[or12]
  ·by_cases hn:n=0
   ·subst hn;rfl
   ·simp only [decF hn,cond_false,Bool.false_or,if_neg hn]
 |false=>
  obtain⟨q1,q2,q3,q4,q5,q6,q7,q8,q9,q10,q11,q12,q13,q14,q15,q16,q17⟩:=kindB_no hk
  refine cOf (by kernel_rfl) rfl ?_
  rw[g99_eq]
  simp only [g99,go1,Nat.reduceAdd,Int.reduceEq,Int.reduceLT,Int.reduceLE,Int.reduceSub,Int.reduceAdd]
  simp only [decF q1,decF q2,decF q3,decF q4,decF q5,decF q6,decF q7,decF q8,decF q9,decF q10,decF q11,decF q12,decF q13,decF q14,decF q15,decF q16,decF q17,go1,Nat.reduceAdd,Int.reduceEq,Int.reduceLT,Int.reduceLE,Int.reduceSub,Int.reduceAdd]
theorem c_earm (s:ByteArray):cF 102 [.d (.str s)]=some (.val [.bool (armN s)]):=by
 have h:=c_High s
 refine cOf (by kernel_rfl) rfl ?_
 rw[g102_eq]
 simp only [g102,go1,Nat.reduceAdd,Int.reduceEq,Int.reduceLT,Int.reduceLE,Int.reduceSub,Int.reduceAdd,h,seq_tb]
 unfold armN
 cases highN (tb s)<;>cases h1:decide (tb s=tb bTrue)<;>cases h2:decide (tb s=tb bFalse)<;>(unfold bTrue at h1;unfold bFalse at h2;simp only [go1,Nat.reduceAdd,Int.reduceEq,Int.reduceLT,Int.reduceLE,Int.reduceSub,Int.reduceAdd,h1,h2];try rfl)
theorem c_epart1 (s:ByteArray):cF 101 [.d (.str s)]=some (.val [.bool (!armN s)]):=by
 have h:=c_earm s
 refine cOf (by kernel_rfl) rfl ?_
 rw[g101_eq]
 simp only [g101,go1,Nat.reduceAdd,Int.reduceEq,Int.reduceLT,Int.reduceLE,Int.reduceSub,Int.reduceAdd,h]
theorem c_xIdxFn (a:List ByteArray)(ha:a.length≤1000000): ∃i:Int,cF 143 [.d (.sl 1 (srows a)), .fn 101 []]=some (.val [.int .i64 i])∧decide (0≤i)=a.any fun s=> !armN s:=by
 cases hall:a.any fun s=> !armN s with
 |false=>
  refine⟨-1,?_,rfl⟩
  refine cOf (by kernel_rfl) rfl ?_
  rw[g143_101_eq]
  simp only [g143_101,go1,Nat.reduceAdd,Int.reduceEq,Int.reduceLT,Int.reduceLE,Int.reduceSub,Int.reduceAdd,srows_len]
  refine loopF_at (fun i:Nat=>[.sl 1 (srows a), .int .i64 (a.length:Int), .int .i64 (i:Int)]) (fun i=>i≤a.length) (fun i=>a.length - i) (fun i hi=> ?_) 0 (Nat.zero_le _)
  by_cases hlt:i < a.length
  ·left
   refine⟨i+1,?_,hlt,by omega⟩
   have hx:=List.getElem?_eq_getElem hlt
   have h:=c_epart1 a[i]
   have h0:(!armN a[i])=false:=by
    have:=(List.any_eq_false.1 hall) a[i] (List.getElem_mem hlt)
    simpa using this
   simp only [go1,Nat.reduceAdd,Int.reduceEq,Int.reduceLT,Int.reduceLE,Int.reduceSub,Int.reduceAdd,srows_len,ilt_at hlt,inr_at hlt,srows_at hx,h,h0,wrap_succ hlt (by omega)]
   rfl
  ·right
   have:i=a.length:=by omega
   subst this
   simp only [go1,Nat.reduceAdd,Int.reduceEq,Int.reduceLT,Int.reduceLE,Int.reduceSub,Int.reduceAdd,srows_len,ilt_self]
 |true=>
  have hj:=List.findIdx_lt_length_of_exists (List.any_eq_true.1 hall)
  refine⟨((a.findIdx fun s=> !armN s:Nat):Int),?_,decide_eq_true (Int.natCast_nonneg _)⟩
  have hpj:=List.findIdx_getElem (w:=hj)
  generalize hJ:(a.findIdx fun s=> !armN s)=j at hj hpj
  refine cOf (by kernel_rfl) rfl ?_
  rw[g143_101_eq]
  simp only [g143_101,go1,Nat.reduceAdd,Int.reduceEq,Int.reduceLT,Int.reduceLE,Int.reduceSub,Int.reduceAdd,srows_len]
  refine loopF_at (fun i:Nat=>[.sl 1 (srows a), .int .i64 (a.length:Int), .int .i64 (i:Int)]) (fun i=>i≤j) (fun i=>a.length - i) (fun i hi=> ?_) 0 (Nat.zero_le _)
  have hlt:i < a.length:=by omega
  have hx:=List.getElem?_eq_getElem hlt
  have h:=c_epart1 a[i]
  by_cases hij:i < j
  ·left
   refine⟨i+1,?_,hij,by omega⟩
   have h0:(!armN a[i])=false:=by
    have:=List.not_of_lt_findIdx (p:=fun s=> !armN s) (xs:=a) (i:=i) (by omega)
    simpa using this
   simp only [go1,Nat.reduceAdd,Int.reduceEq,Int.reduceLT,Int.reduceLE,Int.reduceSub,Int.reduceAdd,srows_len,ilt_at hlt,inr_at hlt,srows_at hx,h,h0,wrap_succ hlt (by omega)]
   rfl
  ·right
   have:i=j:=by omega
   subst this
   have h0:(!armN a[i])=true:=hpj
   simp only [go1,Nat.reduceAdd,Int.reduceEq,Int.reduceLT,Int.reduceLE,Int.reduceSub,Int.reduceAdd,srows_len,ilt_at hlt,inr_at hlt,srows_at hx,h,h0]
theorem c_xContFn (a:List ByteArray)(ha:a.length≤1000000):cF 100 [.d (.sl 1 (srows a)), .fn 101 []]=some (.val [.bool (!a.all armN)]):=by
 obtain⟨i,h1,h2⟩:=c_xIdxFn a ha
 refine cOf (by kernel_rfl) rfl ?_
 rw[g100_101_eq]
 simp only [g100_101,go1,Nat.reduceAdd,Int.reduceEq,Int.reduceLT,Int.reduceLE,Int.reduceSub,Int.reduceAdd,h1]
 rw[h2,List.not_all_eq_any_not]
theorem c_eliteral (k n:Int)(s:ByteArray)(o:Int)(a:List ByteArray)(u:List Ex)(hu:u.length≤1000000):cF 144 [kE k n s o (srows a) (Ex.rows u)]=some (.val [.bool (litS (.mk k n s o a u))]):=by
 have h1:=rows_len u
 refine cOf (by kernel_rfl) rfl ?_
 rw[g144_eq]
 simp only [g144,go1,Nat.reduceAdd,Int.reduceEq,Int.reduceLT,Int.reduceLE,Int.reduceSub,Int.reduceAdd,h1]
 unfold litS
 by_cases k5:k=5
 ·subst k5
  simp only [go1,Nat.reduceAdd,Int.reduceEq,Int.reduceLT,Int.reduceLE,Int.reduceSub,Int.reduceAdd,decide_true,decide_false,Int.reduceEq]
  match u with
  | []=>cases decide (o=1)<;>rfl
  | [.mk k2 n2 s2 o2 a2 u2]=>cases decide (o=1)<;>rfl
  |e1::e2::u=>
   have:decide ((((e1::e2::u).length:Nat):Int)=1)=false:=decide_eq_false (by simp only [List.length_cons];omega)
   simp only [go1,Nat.reduceAdd,Int.reduceEq,Int.reduceLT,Int.reduceLE,Int.reduceSub,Int.reduceAdd,this];try (cases decide (o=1)<;>rfl)
 ·simp only [go1,Nat.reduceAdd,Int.reduceEq,Int.reduceLT,Int.reduceLE,Int.reduceSub,Int.reduceAdd,decF k5]
  cases decide (k=1)<;>cases decide (k=2)<;>cases decide (k=4)<;>rfl
theorem c_rliteral (k n:Int)(s:ByteArray)(o:Int)(a:List ByteArray)(u:List Ex)(hu:u.length≤1000000):cF 157 [kE k n s o (srows a) (Ex.rows u)]=some (.val [.bool (litS (.mk k n s o a u))]):=by
 have h1:=rows_len u
 refine cOf (by kernel_rfl) rfl ?_
 rw[g157_eq]
 simp only [g157,go1,Nat.reduceAdd,Int.reduceEq,Int.reduceLT,Int.reduceLE,Int.reduceSub,Int.reduceAdd,h1]
 unfold litS
 by_cases k5:k=5
 ·subst k5
  simp only [go1,Nat.reduceAdd,Int.reduceEq,Int.reduceLT,Int.reduceLE,Int.reduceSub,Int.reduceAdd,decide_true,decide_false,Int.reduceEq]
  match u with
  | []=>cases decide (o=1)<;>rfl
  | [.mk k2 n2 s2 o2 a2 u2]=>cases decide (o=1)<;>rfl
  |e1::e2::u=>
   have:decide ((((e1::e2::u).length:Nat):Int)=1)=false:=decide_eq_false (by simp only [List.length_cons];omega)
   simp only [go1,Nat.reduceAdd,Int.reduceEq,Int.reduceLT,Int.reduceLE,Int.reduceSub,Int.reduceAdd,this];try (cases decide (o=1)<;>rfl)
 ·simp only [go1,Nat.reduceAdd,Int.reduceEq,Int.reduceLT,Int.reduceLE,Int.reduceSub,Int.reduceAdd,decF k5]
  cases decide (k=1)<;>cases decide (k=2)<;>cases decide (k=4)<;>rfl
end Go.Vm
end

section
set_option linter.all false
set_option maxRecDepth 100000
set_option maxHeartbeats 4000000
namespace Go.Vm
open Go.Proofs
theorem sy_mval (z k:D)(l:List (List D)):sy.mval z k l=mval z k l:=rfl
theorem sy_mput (k x:D)(l:List (List D)):sy.mput k x l=mput k x l:=rfl
def encT (l:List ByteArray):List (List D):=l.map fun s=>[.str s, .int .i64 1]
theorem key_str (a b:ByteArray):keyIs (.str a) (.str b)=decide (a=b):=by
 show(a == b)=_
 have h:(a == b)=(a.data == b.data):=rfl
 rw[h,Bool.eq_iff_iff,beq_iff_eq,decide_eq_true_eq]
 exact⟨fun h=>by cases a;cases b;simp_all,fun h=>by rw[h]⟩
theorem midxT {x:ByteArray}: ∀ {l:List ByteArray},x ∉ l→midx (.str x) (encT l)=none
 | [],_=>rfl
 |y::l,h=>by
  have h1: ¬x=y:=fun e=>h (by rw[e];exact List.mem_cons_self)
  have h2:x ∉ l:=fun e=>h (List.mem_cons_of_mem _ e)
  show midx (.str x) ((D.str y::[.int .i64 1])::encT l)=none
  have hk:keyIs (.str x) (.str y)=false:=by rw[key_str];exact decF h1
  simp only [midx,hk,midxT h2];rfl
theorem mvalT {x:ByteArray}: ∀ {l:List ByteArray},x∈l→mval (.int .i64 0) (.str x) (encT l)= .int .i64 1
 |y::l,h=>by
  show mval (.int .i64 0) (.str x) ((D.str y::[.int .i64 1])::encT l)=_
  by_cases he:x=y
  ·have hk:keyIs (.str x) (.str y)=true:=by rw[key_str];exact decT he
   simp only [mval,mget,midx,hk];rfl
  ·have hm:x∈l:=by
    rcases List.mem_cons.1 h with e|e
    ·exact absurd e he
    ·exact e
   have ih:=mvalT hm
   have hk:keyIs (.str x) (.str y)=false:=by rw[key_str];exact decF he
   simp only [mval,mget,midx,hk]at ih ⊢
   rw[←ih]
   cases midx (.str x) (encT l)<;>rfl
theorem mvalT0 {x:ByteArray}{l:List ByteArray}(h:x ∉ l):mval (.int .i64 0) (.str x) (encT l)= .int .i64 0:=by
 unfold mval mget;rw[midxT h];rfl
theorem mputT {x:ByteArray}{l:List ByteArray}(h:x ∉ l):mput (.str x) (.int .i64 1) (encT l)=encT (l++[x]):=by
 unfold mput;rw[midxT h];simp [encT]
theorem nodup_snoc {l:List ByteArray}{i:Nat}{x:ByteArray}(h:l[i]? =some x)(hn:(l.take i).Nodup)(hx:x ∉ l.take i):(l.take (i+1)).Nodup:=by
 rw[List.take_add_one,h,Option.toList_some,List.nodup_append]
 exact⟨hn,by simp,fun a ha b hb=>by simp at hb;rw[hb];exact fun e=>hx (e▸ha)⟩
theorem nodup_not {l:List ByteArray}{i:Nat}{x:ByteArray}(h:l[i]? =some x)(hx:x∈l.take i): ¬l.Nodup:=by
 intro hn
 have hd:l=l.take i++l.drop i:=(List.take_append_drop i l).symm
 rw[hd,List.nodup_append]at hn
 refine hn.2.2 x hx x ?_ rfl
 have:(l.drop i)[0]? =some x:=by simpa using h
 exact List.mem_of_getElem? this
theorem c_iOnce (l:List ByteArray)(hl:l.length≤1000000):cF 28 [.d (.sl 1 (srows l))]=some (.val [.bool (decide l.Nodup)]):=by
 refine cOf (by kernel_rfl) rfl ?_
 rw[g28_eq]
 simp only [g28,go1,Nat.reduceAdd,Int.reduceEq,Int.reduceLT,Int.reduceLE,Int.reduceSub,Int.reduceAdd,srows_len]
 refine loopF_at (fun i:Nat=>[.sl 1 (srows l), .int .i64 (l.length:Int), .int .i64 (i:Int), .sl 2 (encT (l.take i))]) (fun i=>i≤l.length∧(l.take i).Nodup) (fun i=>l.length - i) (fun i hi=> ?_) 0 ⟨Nat.zero_le _,by simp⟩
 by_cases hlt:i < l.length
 ·have hx:=List.getElem?_eq_getElem hlt
  by_cases hm:l[i]∈l.take i
  ·right
   rw[decF (nodup_not hx hm)]
   simp only [go1,Nat.reduceAdd,Int.reduceEq,Int.reduceLT,Int.reduceLE,Int.reduceSub,Int.reduceAdd,srows_len,ilt_at hlt,inr_at hlt,srows_at hx,sy_mval,mvalT hm]
  ·left
   refine⟨i+1,?_,⟨hlt,nodup_snoc hx hi.2 hm⟩,by omega⟩
   have hw:IntKind.i64.wrap 1=1:=rfl
   simp only [go1,Nat.reduceAdd,Int.reduceEq,Int.reduceLT,Int.reduceLE,Int.reduceSub,Int.reduceAdd,srows_len,ilt_at hlt,inr_at hlt,srows_at hx,sy_mval,sy_mput,mvalT0 hm,hw,mputT hm,wrap_succ hlt (by omega)]
   rw[List.take_add_one,hx];rfl
 ·right
  have:i=l.length:=by omega
  subst this
  simp only [go1,Nat.reduceAdd,Int.reduceEq,Int.reduceLT,Int.reduceLE,Int.reduceSub,Int.reduceAdd,srows_len,ilt_self]
  rw[List.take_length]at hi
  rw[decT hi.2]
theorem rep_loop {α:Type}{b:List D→Option (List D ⊕ α)}{r:α}(n:Nat)(mk:Nat→List D)(hb: ∀i,i < n→b (mk i)=some (.inl (mk (i+1))))(hend:b (mk n)=some (.inr r)):loopF b (mk 0)=some r:=by
 refine loopF_at mk (fun i=>i≤n) (fun i=>n - i) (fun i hi=> ?_) 0 (Nat.zero_le _)
 by_cases h:i < n
 ·exact .inl ⟨i+1,hb i h,h,by omega⟩
 ·have:i=n:=by omega
  subst this
  exact .inr hend
theorem mem_take_at {l:List ByteArray}{i j:Nat}{y:ByteArray}(hj:j < i)(h:l[j]? =some y):y∈l.take i:=by
 refine List.mem_of_getElem? (i:=j) ?_
 rw[List.getElem?_take,if_pos hj,h]
theorem c_rOnce (l:List ByteArray)(hl:l.length≤1000000):cF 156 [.d (.sl 1 (srows l))]=some (.val [.bool (decide l.Nodup)]):=by
 refine cOf (by kernel_rfl) rfl ?_
 rw[g156_eq]
 simp only [g156,go1,Nat.reduceAdd,Int.reduceEq,Int.reduceLT,Int.reduceLE,Int.reduceSub,Int.reduceAdd]
 refine loopF_at (fun i:Nat=>[.sl 1 (srows l), .int .i64 (i:Int)]) (fun i=>i≤l.length∧(l.take i).Nodup) (fun i=>l.length - i) (fun i hi=> ?_) 0 ⟨Nat.zero_le _,by simp⟩
 by_cases hlt:i < l.length
 ·have hx:=List.getElem?_eq_getElem hlt
  simp only [go1,Nat.reduceAdd,Int.reduceEq,Int.reduceLT,Int.reduceLE,Int.reduceSub,Int.reduceAdd,srows_len,ilt_at hlt]
  by_cases hm:l[i]∈l.take i
  ·right
   rw[decF (nodup_not hx hm)]
   refine loopF_at (fun j:Nat=>[.sl 1 (srows l), .int .i64 (i:Int), .int .i64 (j:Int)]) (fun j=>j≤i∧ ∃k,j≤k∧k < i∧l[k]? =some l[i]) (fun j=>i - j) (fun j hj=> ?_) 0 ⟨Nat.zero_le _,?_⟩
   ·obtain⟨hj,k,hk1,hk2,hk3⟩:=hj
    have hjl:j < i:=by omega
    have hjl2:j < l.length:=by omega
    have hy:=List.getElem?_eq_getElem hjl2
    by_cases he:tb l[j]=tb l[i]
    ·right
     simp only [go1,Nat.reduceAdd,Int.reduceEq,Int.reduceLT,Int.reduceLE,Int.reduceSub,Int.reduceAdd,srows_len,ilt_at hjl,inr_at hlt,inr_at hjl2,srows_at hx,srows_at hy,seq_tb,decT he]
    ·left
     refine⟨j+1,?_,⟨hjl,k,?_,hk2,hk3⟩,by omega⟩
     ·simp only [go1,Nat.reduceAdd,Int.reduceEq,Int.reduceLT,Int.reduceLE,Int.reduceSub,Int.reduceAdd,srows_len,ilt_at hjl,inr_at hlt,inr_at hjl2,srows_at hx,srows_at hy,seq_tb,decF he,wrap_succ hjl (by omega)]
      rfl
     ·rcases Nat.lt_or_ge j k with h|h
      ·exact h
      ·have:j=k:=by omega
       subst this
       rw[hy]at hk3
       exact absurd (by rw[Option.some.inj hk3]) he
   ·obtain⟨k,hk⟩:=List.getElem?_of_mem hm
    rw[List.getElem?_take]at hk
    split at hk
    ·rename_i hki
     exact⟨k,Nat.zero_le _,hki,hk⟩
    ·cases hk
  ·left
   refine⟨i+1,?_,⟨hlt,nodup_snoc hx hi.2 hm⟩,by omega⟩
   refine rep_loop i (fun j=>[.sl 1 (srows l), .int .i64 (i:Int), .int .i64 (j:Int)]) (fun j hjl=> ?_) ?_
   ·have hjl2:j < l.length:=by omega
    have hy:=List.getElem?_eq_getElem hjl2
    have he: ¬tb l[j]=tb l[i]:=fun e=>hm (by rw[←tb_inj e];exact mem_take_at hjl hy)
    simp only [go1,Nat.reduceAdd,Int.reduceEq,Int.reduceLT,Int.reduceLE,Int.reduceSub,Int.reduceAdd,srows_len,ilt_at hjl,inr_at hlt,inr_at hjl2,srows_at hx,srows_at hy,seq_tb,decF he,wrap_succ hjl (by omega)]
    rfl
   ·simp only [go1,Nat.reduceAdd,Int.reduceEq,Int.reduceLT,Int.reduceLE,Int.reduceSub,Int.reduceAdd,ilt_self,wrap_succ hlt (by omega)]
    rfl
 ·right
  have:i=l.length:=by omega
  subst this
  simp only [go1,Nat.reduceAdd,Int.reduceEq,Int.reduceLT,Int.reduceLE,Int.reduceSub,Int.reduceAdd,srows_len,ilt_self]
  rw[List.take_length]at hi
  rw[decT hi.2]
theorem all_loop {τ α:Type}{b:List D→Option (List D ⊕ α)}{r0 r1:α}(p:τ→Bool)(l:List τ)(mk:Nat→List D)
  (hb: ∀i x,l[i]? =some x→b (mk i)=bif p x then some (.inl (mk (i+1)))else some (.inr r0))
  (hend:l.all p=true→b (mk l.length)=some (.inr r1)):loopF b (mk 0)=some (bif l.all p then r1 else r0):=by
 suffices ∀(rest:List τ) (i:Nat),l.drop i=rest→i≤l.length→(l.take i).all p=true→loopF b (mk i)=some (bif rest.all p then r1 else r0)from this l 0 rfl (Nat.zero_le _) rfl
 intro rest
 induction rest with
 |nil=>
  intro i hd hi ht
  have:i=l.length:=by have:=congrArg List.length hd;simp at this;omega
  subst this
  rw[List.take_length]at ht
  rw[loopF_eq,hend ht]
  rfl
 |cons x xs ih=>
  intro i hd hi ht
  have hx:l[i]? =some x:=by
   have:=congrArg (fun r=>r[0]?) hd
   simpa using this
  have hlt:i < l.length:=(List.getElem?_eq_some_iff.1 hx).1
  have hxs:l.drop (i+1)=xs:=by
   have:=congrArg List.tail hd
   simpa using this
  rw[loopF_eq,hb i x hx]
  cases hp:p x with
  |false=>simp [List.all_cons,hp]
  |true=>
   simp only [cond_true,List.all_cons,hp,Bool.true_and]
   refine ih (i+1) hxs hlt ?_
   rw[List.take_add_one,hx,List.all_append,ht]
   simp [hp]
theorem all_loop2 {τ α:Type}{b:List D→Option (List D ⊕ α)}{r0 r1 r:α}{ds:List D}(p:τ→Bool)(l:List τ)(mk:Nat→List D)(h0:mk 0=ds)
  (hb: ∀i x,l[i]? =some x→b (mk i)=bif p x then some (.inl (mk (i+1)))else some (.inr r0))
  (hend:l.all p=true→b (mk l.length)=some (.inr r1)) (hr:(bif l.all p then r1 else r0)=r):loopF b ds=some r:=by
 rw[←h0,all_loop p l mk hb hend,hr]
theorem row_of {l:List Ex}{i:Nat}{k n:Int}{s:ByteArray}{o:Int}{a:List ByteArray}{u:List Ex}(h:l[i]? =some (.mk k n s o a u)):sy.row (Ex.rows l) (i:Int)= [.int .i64 k, .int .i64 n, .str s, .int .i64 o, .sl 1 (srows a), .sl 6 (Ex.rows u)]:=xrow h
theorem u_len {l:List Ex}{i:Nat}{k n:Int}{s:ByteArray}{o:Int}{a:List ByteArray}{u:List Ex}(h:l[i]? =some (.mk k n s o a u))(hl:Ex.sizes l≤1000000):u.length≤1000000:=by
 have h1:=sizes_mem h
 have h2:=sizes_len u
 simp only [Ex.size]at h1
 omega
theorem c_eConst1 (k n:Int)(s:ByteArray)(o:Int)(a:List ByteArray)(u:List Ex)(hu:u.length≤1000000):cF 146 [kE k n s o (srows a) (Ex.rows u)]=some (.val [.bool (!litS (.mk k n s o a u))]):=by
 have h:=c_eliteral k n s o a u hu
 refine cOf (by kernel_rfl) rfl ?_
 rw[g146_eq]
 simp only [g146,go1,Nat.reduceAdd,Int.reduceEq,Int.reduceLT,Int.reduceLE,Int.reduceSub,Int.reduceAdd,h]
theorem c_xIdxEx (l:List Ex)(hl:Ex.sizes l≤1000000): ∃i:Int,cF 174 [.d (.sl 6 (Ex.rows l)), .fn 146 []]=some (.val [.int .i64 i])∧decide (0≤i)=l.any fun s=> !litS s:=by
 have hlen:=sizes_len l
 cases hall:l.any fun s=> !litS s with
 |false=>
  refine⟨-1,?_,rfl⟩
  refine cOf (by kernel_rfl) rfl ?_
  rw[g174_146_eq]
  simp only [g174_146,go1,Nat.reduceAdd,Int.reduceEq,Int.reduceLT,Int.reduceLE,Int.reduceSub,Int.reduceAdd,rows_len]
  refine loopF_at (fun i:Nat=>[.sl 6 (Ex.rows l), .int .i64 (l.length:Int), .int .i64 (i:Int)]) (fun i=>i≤l.length) (fun i=>l.length - i) (fun i hi=> ?_) 0 (Nat.zero_le _)
  by_cases hlt:i < l.length
  ·left
   refine⟨i+1,?_,hlt,by omega⟩
   have hx:=List.getElem?_eq_getElem hlt
   have h0:(!litS l[i])=false:=by
    have:=(List.any_eq_false.1 hall) l[i] (List.getElem_mem hlt)
    simpa using this
   generalize l[i]=e at hx h0
   obtain⟨k,n,s,o,a,u⟩:=e
   have h:=c_eConst1 k n s o a u (u_len hx hl)
   simp only [go1,Nat.reduceAdd,Int.reduceEq,Int.reduceLT,Int.reduceLE,Int.reduceSub,Int.reduceAdd,rows_len,ilt_at hlt,inr_at hlt,row_of hx,oE,h,h0,wrap_succ hlt (by omega)]
   rfl
  ·right
   have:i=l.length:=by omega
   subst this
   simp only [go1,Nat.reduceAdd,Int.reduceEq,Int.reduceLT,Int.reduceLE,Int.reduceSub,Int.reduceAdd,rows_len,ilt_self]
 |true=>
  have hj:=List.findIdx_lt_length_of_exists (List.any_eq_true.1 hall)
  refine⟨((l.findIdx fun s=> !litS s:Nat):Int),?_,decide_eq_true (Int.natCast_nonneg _)⟩
  have hpj:=List.findIdx_getElem (w:=hj)
  generalize hJ:(l.findIdx fun s=> !litS s)=j at hj hpj
  refine cOf (by kernel_rfl) rfl ?_
  rw[g174_146_eq]
  simp only [g174_146,go1,Nat.reduceAdd,Int.reduceEq,Int.reduceLT,Int.reduceLE,Int.reduceSub,Int.reduceAdd,rows_len]
  refine loopF_at (fun i:Nat=>[.sl 6 (Ex.rows l), .int .i64 (l.length:Int), .int .i64 (i:Int)]) (fun i=>i≤j) (fun i=>l.length - i) (fun i hi=> ?_) 0 (Nat.zero_le _)
  have hlt:i < l.length:=by omega
  have hx:=List.getElem?_eq_getElem hlt
  by_cases hij:i < j
  ·left
   refine⟨i+1,?_,hij,by omega⟩
   have h0:(!litS l[i])=false:=by
    have:=List.not_of_lt_findIdx (p:=fun s=> !litS s) (xs:=l) (i:=i) (by omega)
    simpa using this
   generalize l[i]=e at hx h0
   obtain⟨k,n,s,o,a,u⟩:=e
   have h:=c_eConst1 k n s o a u (u_len hx hl)
   simp only [go1,Nat.reduceAdd,Int.reduceEq,Int.reduceLT,Int.reduceLE,Int.reduceSub,Int.reduceAdd,rows_len,ilt_at hlt,inr_at hlt,row_of hx,oE,h,h0,wrap_succ hlt (by omega)]
   rfl
  ·right
   have:i=j:=by omega
   subst this
   have h0:(!litS l[i])=true:=hpj
   generalize l[i]=e at hx h0
   obtain⟨k,n,s,o,a,u⟩:=e
   have h:=c_eConst1 k n s o a u (u_len hx hl)
   simp only [go1,Nat.reduceAdd,Int.reduceEq,Int.reduceLT,Int.reduceLE,Int.reduceSub,Int.reduceAdd,rows_len,ilt_at hlt,inr_at hlt,row_of hx,oE,h,h0]
theorem c_xContEx (l:List Ex)(hl:Ex.sizes l≤1000000):cF 145 [.d (.sl 6 (Ex.rows l)), .fn 146 []]=some (.val [.bool (!l.all litS)]):=by
 obtain⟨i,h1,h2⟩:=c_xIdxEx l hl
 refine cOf (by kernel_rfl) rfl ?_
 rw[g145_146_eq]
 simp only [g145_146,go1,Nat.reduceAdd,Int.reduceEq,Int.reduceLT,Int.reduceLE,Int.reduceSub,Int.reduceAdd,h1]
 rw[h2,List.not_all_eq_any_not]
theorem c_eConst (k n:Int)(s:ByteArray)(o:Int)(a:List ByteArray)(u:List Ex)(hu:Ex.sizes u≤1000000):cF 103 [kE k n s o (srows a) (Ex.rows u)]=some (.val [.bool (constS (.mk k n s o a u))]):=by
 have hl:=sizes_len u
 have h1:=c_eliteral k n s o a u (by omega)
 have h2:=c_xContEx u hu
 refine cOf (by kernel_rfl) rfl ?_
 rw[g103_eq]
 simp only [g103,go1,Nat.reduceAdd,Int.reduceEq,Int.reduceLT,Int.reduceLE,Int.reduceSub,Int.reduceAdd,h1,h2]
 by_cases hk:k=14
 ·simp only [constS,decT hk,go1,Nat.reduceAdd,Int.reduceEq,Int.reduceLT,Int.reduceLE,Int.reduceSub,Int.reduceAdd,Bool.not_true,Bool.not_not]
 ·simp only [constS,decF hk,go1,Nat.reduceAdd,Int.reduceEq,Int.reduceLT,Int.reduceLE,Int.reduceSub,Int.reduceAdd,Bool.not_false]
theorem c_reConst (k n:Int)(s:ByteArray)(o:Int)(a:List ByteArray)(u:List Ex)(hu:Ex.sizes u≤1000000):cF 116 [kE k n s o (srows a) (Ex.rows u)]=some (.val [.bool (constS (.mk k n s o a u))]):=by
 have hl:=sizes_len u
 have h1:=c_rliteral k n s o a u (by omega)
 refine cOf (by kernel_rfl) rfl ?_
 rw[g116_eq]
 simp only [g116,go1,Nat.reduceAdd,Int.reduceEq,Int.reduceLT,Int.reduceLE,Int.reduceSub,Int.reduceAdd,h1]
 by_cases hk:k=14
 ·simp only [constS,decT hk,go1,Nat.reduceAdd,Int.reduceEq,Int.reduceLT,Int.reduceLE,Int.reduceSub,Int.reduceAdd,Bool.not_true]
  refine all_loop2 litS u (fun i:Nat=>[.int .i64 (i:Int), .int .i64 k, .int .i64 n, .str s, .int .i64 o, .sl 1 (srows a), .sl 6 (Ex.rows u)]) rfl (r0:= .val [.bool false]) (r1:= .val [.bool true]) (fun i e hx=> ?_) (fun _=> ?_) (by cases u.all litS<;>rfl)
  ·have hlt:=(List.getElem?_eq_some_iff.1 hx).1
   obtain⟨k2,n2,s2,o2,a2,u2⟩:=e
   have h:=c_rliteral k2 n2 s2 o2 a2 u2 (u_len hx hu)
   simp only [go1,Nat.reduceAdd,Int.reduceEq,Int.reduceLT,Int.reduceLE,Int.reduceSub,Int.reduceAdd,oE,rows_len,ilt_at hlt,inr_at hlt,row_of hx,h]
   cases litS (.mk k2 n2 s2 o2 a2 u2)with
   |true=>simp only [go1,Nat.reduceAdd,Int.reduceEq,Int.reduceLT,Int.reduceLE,Int.reduceSub,Int.reduceAdd,Bool.not_true,wrap_succ hlt (by omega)];rfl
   |false=>rfl
  ·simp only [go1,Nat.reduceAdd,Int.reduceEq,Int.reduceLT,Int.reduceLE,Int.reduceSub,Int.reduceAdd,oE,rows_len,ilt_self]
 ·simp only [constS,decF hk,go1,Nat.reduceAdd,Int.reduceEq,Int.reduceLT,Int.reduceLE,Int.reduceSub,Int.reduceAdd,Bool.not_false]
end Go.Vm
end
