/- Part FI of the proof. What is proved by the whole: the statement that the claim names, with no condition. -/
import Derived.Test.YtcoflifoeiglkaaGreatDoorFH
set_option linter.all false
section
set_option maxRecDepth 100000
set_option maxHeartbeats 4000000
namespace Go.Vm
open Go.Proofs
theorem cOfB {f k:FuncId}{pn:Nat}{xs key:List V}{hs:List Box}{p:PRes}(hg:goodF Tryz.prog k=false)(hd:decB key=some (pn,xs,hs))(hk:Nat.beq k (bkey f)=true)(hn:kn k key=none)(h:(funB sy Tryz.prog cs f pn xs hs).run eF=some p):cF k key=some p:=by
 have:=Nat.eq_of_beq_eq_true hk
 subst this
 exact callF_ofB hg hn hd h
section
variable (l w a : List (List D)) (i x y : Int) (s : ByteArray) (b : Bool)
theorem dec1:decB (kP 352 l i)=some (352,[.ptr 0 0],[.cells (.ty 328) [.d (.sl 4 l), .d (.int .i64 i)]]):=rfl
theorem dec2:decB (kS 352 s l i)=some (352,[.ptr 0 0, .d (.str s)],[.cells (.ty 328) [.d (.sl 4 l), .d (.int .i64 i)]]):=rfl
theorem dec3:decB (kP 0 l i)=some (0,[.ptr 0 0],[.cells (.ty 328) [.d (.sl 4 l), .d (.int .i64 i)]]):=rfl
theorem dec4:decB (kS 0 s l i)=some (0,[.ptr 0 0, .d (.str s)],[.cells (.ty 328) [.d (.sl 4 l), .d (.int .i64 i)]]):=rfl
theorem dec5:decB (kO x y l i)=some (0,[.ptr 0 0, .d (.int .i64 x), .d (.int .i64 y)],[.cells (.ty 328) [.d (.sl 4 l), .d (.int .i64 i)]]):=rfl
theorem dec6:decB (kN w l i)=some (352,[.ptr 0 0, .own 1],[.cells (.ty 328) [.d (.sl 4 l), .d (.int .i64 i)], .arr 9 1 w]):=rfl
theorem dec7:decB (rP l i b)=some (0,[.ptr 0 0],[.cells (.ty 900061) [.d (.sl 4 l), .d (.int .i64 i), .d (.bool b)]]):=rfl
theorem dec8:decB (rS s l i b)=some (0,[.ptr 0 0, .d (.str s)],[.cells (.ty 900061) [.d (.sl 4 l), .d (.int .i64 i), .d (.bool b)]]):=rfl
theorem dec9:decB (rO a w l i b)=some (0,[.ptr 0 0, .own 1, .own 2],[.cells (.ty 900061) [.d (.sl 4 l), .d (.int .i64 i), .d (.bool b)], .arr 3 1 a, .arr 9 1 w]):=rfl
end
inductive Ex where
 |mk (k n:Int) (s:ByteArray) (o:Int) (a:List ByteArray) (l:List Ex)
mutual
def Ex.row:Ex→List D
 | .mk k n s o a l=>[.int .i64 k, .int .i64 n, .str s, .int .i64 o, .sl 1 (srows a), .sl 6 (Ex.rows l)]
def Ex.rows:List Ex→List (List D)
 | []=>[]
 |e::l=>e.row::Ex.rows l
end
def e0:Ex:= .mk 0 0 (bs []) 0 [] []
inductive Rs (α:Type) where
 |out
 |ok (a:α) (i:Nat)
 |bad (i:Nat)
def Rs.bind {α β:Type}:Rs α→(α→Nat→Rs β)→Rs β
 | .out,_=> .out
 | .bad i,_=> .bad i
 | .ok a i,f=>f a i
theorem Rs.bind_ok {α β:Type}(a:α)(i:Nat)(f:α→Nat→Rs β):(Rs.ok a i).bind f=f a i:=rfl
def encR {α:Type}(c:α→List D)(l:List Tk):Rs α→PRes
 | .ok a i=> .val (.bool false::(c a++[.sl 4 (trows l), .int .i64 (i:Int)]))
 | .bad i=> .val [.bool true, .int .i64 (i:Int), .sl 4 (trows l), .int .i64 (i:Int)]
 | .out=> .val []
def tkA (l:List Tk)(i:Nat):Tk:=l.getD i ⟨6,bs [],0,0⟩
def isT (l:List Tk)(i:Nat)(s:ByteArray):Bool:=decide (tb (tkA l i).s=tb s)&&(decide ((tkA l i).k=1) || decide ((tkA l i).k=5))
theorem row_tk {l:List Tk}{i:Nat}(h:i < l.length):sy.row (trows l) (i:Int)=tkrow (tkA l i):=by
 unfold tkA
 rw[List.getD_eq_getElem?_getD,List.getElem?_eq_getElem h,Option.getD_some]
 show(trows l).getD (i:Int).toNat []=_
 rw[Int.toNat_natCast,List.getD_eq_getElem?_getD]
 simp [trows,h]
theorem in_tk {l:List Tk}{i:Nat}(h:i < l.length):decide (0≤(i:Int)∧(i:Int) < ((trows l).length:Int))=true:=by
 rw[trows_len];exact inr_at h
structure LOK (l:List Tk):Prop where
 pos:0 < l.length
 last:(tkA l (l.length - 1)).k=6
 few:l.length≤1000000
theorem LOK.next {l:List Tk}(h:LOK l){i:Nat}(hi:i < l.length)(hk:(tkA l i).k≠6):i+1 < l.length:=by
 by_cases he:i=l.length - 1
 ·subst he;exact(hk h.last).elim
 ·omega
theorem isT_k {l:List Tk}{i:Nat}{s:ByteArray}(h:isT l i s=true):(tkA l i).k≠6:=by
 unfold isT at h
 simp only [Bool.and_eq_true,Bool.or_eq_true,decide_eq_true_eq]at h
 omega
theorem c_take (l:List Tk)(hl:LOK l)(i:Nat)(hi:i < l.length)(s:ByteArray):cF 1000286 (kS 0 s (trows l) (i:Int))=some (.val (match isT l i s with
  |true=>[.bool true, .sl 4 (trows l), .int .i64 ((i+1:Nat):Int)]
  |false=>[.bool false, .sl 4 (trows l), .int .i64 (i:Int)])):=by
 have hf:=hl.few
 have h1:=in_tk hi
 have h2:=row_tk hi
 refine cOfB (f:=286) (by kernel_rfl) (by with_reducible first|exact dec1 _ _|exact dec2 _ _ _|exact dec3 _ _|exact dec4 _ _ _|exact dec5 _ _ _ _|exact dec6 _ _ _|exact dec7 _ _ _|exact dec8 _ _ _ _|exact dec9 _ _ _ _ _) (by kernel_rfl) rfl ?_
 rw[b286_eq]
 simp only [b286,oE,oP,oR,oT,go1,Nat.reduceAdd,Int.reduceEq,Int.reduceLT,Int.reduceLE,Int.reduceSub,Int.reduceAdd,h1,h2,tkrow,seq_tb]
 rw[←show isT l i s=(decide (tb (tkA l i).s=tb s)&&(decide ((tkA l i).k=1) || decide ((tkA l i).k=5)))from rfl]
 cases isT l i s with
 |true=>simp only [go1,Nat.reduceAdd,Int.reduceEq,Int.reduceLT,Int.reduceLE,Int.reduceSub,Int.reduceAdd,Bool.not_true];rw[wrap_succ (n:=l.length) hi (by omega)];rfl
 |false=>rfl
def bTrue:ByteArray:=bs [116,114,117,101]
def bFalse:ByteArray:=bs [102,97,108,115,101]
def armedB (l:List Tk)(i:Nat):Bool:=decide ((tkA l i).k=2) || (isT l i bTrue || isT l i bFalse)
theorem c_armed (l:List Tk)(i:Nat)(hi:i < l.length):cF 1000299 (kP 0 (trows l) (i:Int))=some (.val [.bool (armedB l i), .sl 4 (trows l), .int .i64 (i:Int)]):=by
 have h1:=in_tk hi
 have h2:=row_tk hi
 refine cOfB (f:=299) (by kernel_rfl) (by with_reducible first|exact dec1 _ _|exact dec2 _ _ _|exact dec3 _ _|exact dec4 _ _ _|exact dec5 _ _ _ _|exact dec6 _ _ _|exact dec7 _ _ _|exact dec8 _ _ _ _|exact dec9 _ _ _ _ _) (by kernel_rfl) rfl ?_
 rw[b299_eq]
 simp only [b299,oE,oP,oR,oT,go1,Nat.reduceAdd,Int.reduceEq,Int.reduceLT,Int.reduceLE,Int.reduceSub,Int.reduceAdd,h1,h2,tkrow,seq_tb]
 unfold armedB
 rw[←show isT l i bTrue=(decide (tb (tkA l i).s=tb (bs [116,114,117,101]))&&(decide ((tkA l i).k=1) || decide ((tkA l i).k=5)))from rfl,←show isT l i bFalse=(decide (tb (tkA l i).s=tb (bs [102,97,108,115,101]))&&(decide ((tkA l i).k=1) || decide ((tkA l i).k=5)))from rfl]
 cases decide ((tkA l i).k=2)<;>cases isT l i bTrue<;>cases isT l i bFalse<;>rfl
def sD (s:ByteArray):List D:=[.str s]
def nameS (l:List Tk)(i:Nat):Rs ByteArray:=match decide ((tkA l i).k=1)&& !wordN (tb (tkA l i).s)with
 |true=> .ok (tkA l i).s (i+1)
 |false=> .bad i
theorem c_pname (l:List Tk)(hl:LOK l)(i:Nat)(hi:i < l.length):cF 1000298 (kP 352 (trows l) (i:Int))=some (encR sD l (nameS l i)):=by
 have hf:=hl.few
 have h1:=in_tk hi
 have h2:=row_tk hi
 have h3:=c_Word (tkA l i).s
 refine cOfB (f:=298) (by kernel_rfl) (by with_reducible first|exact dec1 _ _|exact dec2 _ _ _|exact dec3 _ _|exact dec4 _ _ _|exact dec5 _ _ _ _|exact dec6 _ _ _|exact dec7 _ _ _|exact dec8 _ _ _ _|exact dec9 _ _ _ _ _) (by kernel_rfl) rfl ?_
 rw[b298_eq]
 simp only [b298,oE,oP,oR,oT,go1,Nat.reduceAdd,Int.reduceEq,Int.reduceLT,Int.reduceLE,Int.reduceSub,Int.reduceAdd,h1,h2,tkrow,h3]
 unfold nameS
 cases decide ((tkA l i).k=1)<;>cases wordN (tb (tkA l i).s)<;>simp only [go1,Nat.reduceAdd,Int.reduceEq,Int.reduceLT,Int.reduceLE,Int.reduceSub,Int.reduceAdd,Bool.not_true,Bool.not_false]<;>(try rfl)
 rw[wrap_succ (n:=l.length) hi (by omega)];rfl
def armS (l:List Tk)(i:Nat):Rs ByteArray:=match armedB l i with
 |true=> .ok (tkA l i).s (i+1)
 |false=> .bad i
theorem c_parm (l:List Tk)(hl:LOK l)(i:Nat)(hi:i < l.length):cF 1000300 (kP 352 (trows l) (i:Int))=some (encR sD l (armS l i)):=by
 have hf:=hl.few
 have h1:=in_tk hi
 have h2:=row_tk hi
 have h3:=c_armed l i hi
 refine cOfB (f:=300) (by kernel_rfl) (by with_reducible first|exact dec1 _ _|exact dec2 _ _ _|exact dec3 _ _|exact dec4 _ _ _|exact dec5 _ _ _ _|exact dec6 _ _ _|exact dec7 _ _ _|exact dec8 _ _ _ _|exact dec9 _ _ _ _ _) (by kernel_rfl) rfl ?_
 rw[b300_eq]
 simp only [b300,oE,oP,oR,oT,go1,Nat.reduceAdd,Int.reduceEq,Int.reduceLT,Int.reduceLE,Int.reduceSub,Int.reduceAdd,h1,h2,tkrow,h3]
 unfold armS
 cases armedB l i<;>simp only [go1,Nat.reduceAdd,Int.reduceEq,Int.reduceLT,Int.reduceLE,Int.reduceSub,Int.reduceAdd,Bool.not_true,Bool.not_false,h1,h2,tkrow]<;>(try rfl)
 rw[wrap_succ (n:=l.length) hi (by omega)];rfl
def needS (l:List Tk):List ByteArray→Nat→Rs Unit
 | [],i=> .ok () i
 |w::ws,i=>match isT l i w with
  |true=>needS l ws (i+1)
  |false=> .bad i
def encN (l:List Tk)(w:List ByteArray):Rs Unit→PRes
 | .ok _ i=> .val [.bool false, .sl 4 (trows l), .int .i64 (i:Int), .sl 1 (srows w)]
 | .bad i=> .val [.bool true, .int .i64 (i:Int), .sl 4 (trows l), .int .i64 (i:Int), .sl 1 (srows w)]
 | .out=> .val []
theorem c_pneed (l:List Tk)(hl:LOK l)(w:List ByteArray)(hw:w.length≤1000)(i:Nat)(hi:i < l.length):cF 1000301 (kN (srows w) (trows l) (i:Int))=some (encN l w (needS l w i)):=by
 refine cOfB (f:=301) (by kernel_rfl) (by with_reducible first|exact dec1 _ _|exact dec2 _ _ _|exact dec3 _ _|exact dec4 _ _ _|exact dec5 _ _ _ _|exact dec6 _ _ _|exact dec7 _ _ _|exact dec8 _ _ _ _|exact dec9 _ _ _ _ _) (by kernel_rfl) rfl ?_
 rw[b301_eq]
 simp only [b301,oE,oP,oR,oT,go1,Nat.reduceAdd,Int.reduceEq,Int.reduceLT,Int.reduceLE,Int.reduceSub,Int.reduceAdd]
 refine loopF_at (fun x:Nat × Nat=>[.int .i64 ((srows w).length:Int), .int .i64 (x.1:Int), .sl 4 (trows l), .int .i64 (x.2:Int), .sl 1 (srows w)]) (fun x=>needS l (w.drop x.1) x.2=needS l w i∧x.1≤w.length∧x.2 < l.length) (fun x=>w.length - x.1) (fun x hx=> ?_) (0,i) ⟨rfl,Nat.zero_le _,hi⟩
 obtain⟨k,j⟩:=x
 obtain⟨h1,h2,h3⟩:=hx
 simp only at h1 h2 h3 ⊢
 by_cases hlt:k < w.length
 ·have e1:(srows w).length=w.length:=srows_len w
  have e2:=c_take l hl j h3 w[k]
  have e3:sy.rown (srows w) k= [.str w[k]]:=by
   show(srows w).getD k []=_
   rw[List.getD_eq_getElem?_getD];simp [srows,srow,hlt]
  rw[List.drop_eq_getElem_cons hlt,needS]at h1
  simp only [go1,Nat.reduceAdd,Int.reduceEq,Int.reduceLT,Int.reduceLE,Int.reduceSub,Int.reduceAdd,e1,ilt_at hlt,inr_at hlt,Int.toNat_natCast,e3,e2]
  cases ht:isT l j w[k]with
  |true=>
   left
   rw[ht]at h1
   refine⟨(k+1,j+1),?_,⟨h1,hlt,hl.next h3 (isT_k ht)⟩,by simp only;omega⟩
   simp only [go1,Nat.reduceAdd,Int.reduceEq,Int.reduceLT,Int.reduceLE,Int.reduceSub,Int.reduceAdd,Bool.not_true]
   rw[wrap_succ hlt (by omega)];rfl
  |false=>
   right
   rw[ht]at h1
   simp only [go1,Nat.reduceAdd,Int.reduceEq,Int.reduceLT,Int.reduceLE,Int.reduceSub,Int.reduceAdd,Bool.not_false]
   rw[←h1];rfl
 ·right
  have e1:(srows w).length=w.length:=srows_len w
  have:k=w.length:=by omega
  subst this
  simp only [go1,Nat.reduceAdd,Int.reduceEq,Int.reduceLT,Int.reduceLE,Int.reduceSub,Int.reduceAdd,e1,ilt_self]
  rw[←h1,List.drop_length];rfl
def signB (o:Nat):ByteArray:=match o with
 |1|4=>bs [45]
 |2=>bs [110,111,116]
 |3=>bs [43]
 |5=>bs [42]
 |6=>bs [47]
 |7=>bs [109,111,100]
 |8=>bs [97,110,100]
 |9=>bs [111,114]
 |10=>bs [120,111,114]
 |11=>bs [61]
 |12=>bs [60,62]
 |13=>bs [60]
 |14=>bs [60,61]
 |15=>bs [62]
 |16=>bs [62,61]
 |_=>bs []
theorem c_sign (o:Nat)(h:o≤16):cF 325 [.d (.int .i64 (o:Int))]=some (.val [.str (signB o)]):=by
 have h2:cF 327 [.d (.int .i64 (o:Int))]=some (.val [.str (match decide (11≤o)with
  |true=>signB o
  |false=>bs [])]):=by
  refine cOf (by kernel_rfl) rfl ?_
  rw[g327_eq]
  simp only [g327,go1,Nat.reduceAdd,Int.reduceEq,Int.reduceLT,Int.reduceLE,Int.reduceSub,Int.reduceAdd]
  match o,h with
  |0,_|1,_|2,_|3,_|4,_|5,_|6,_|7,_|8,_|9,_|10,_|11,_|12,_|13,_|14,_|15,_|16,_=>rfl
  |o+17,h=>omega
 refine cOf (by kernel_rfl) rfl ?_
 rw[g325_eq]
 simp only [g325,go1,Nat.reduceAdd,Int.reduceEq,Int.reduceLT,Int.reduceLE,Int.reduceSub,Int.reduceAdd,h2]
 match o,h with
 |0,_|1,_|2,_|3,_|4,_|5,_|6,_|7,_|8,_|9,_|10,_|11,_|12,_|13,_|14,_|15,_|16,_=>rfl
 |o+17,h=>omega
def opSg (l:List Tk)(i:Nat):Nat→Nat→Option Nat
 |_,0=>none
 |a,n+1=>match isT l i (signB a)with
  |true=>some a
  |false=>opSg l i (a+1) n
theorem opS_spec {l:List Tk}{i:Nat}: ∀ {n a o:Nat},opSg l i a n=some o→(tkA l i).k≠6∧a≤o∧o < a+n
 |0,_,_,h=>by cases h
 |n+1,a,o,h=>by
  unfold opSg at h
  split at h
  ·rename_i ht;cases h;exact⟨isT_k ht,by omega,by omega⟩
  ·have:=opS_spec h;exact⟨this.1,by omega,by omega⟩
theorem c_pop (l:List Tk)(hl:LOK l)(i:Nat)(hi:i < l.length)(a n:Nat)(hn:a+n≤16):cF 1000321 (kO (a:Int) ((a+n:Nat):Int) (trows l) (i:Int))=some (.val (match opSg l i a (n+1)with
  |some o=>[.int .i64 (o:Int), .bool true, .sl 4 (trows l), .int .i64 ((i+1:Nat):Int)]
  |none=>[.int .i64 0, .bool false, .sl 4 (trows l), .int .i64 (i:Int)])):=by
 refine cOfB (f:=321) (by kernel_rfl) (by with_reducible first|exact dec1 _ _|exact dec2 _ _ _|exact dec3 _ _|exact dec4 _ _ _|exact dec5 _ _ _ _|exact dec6 _ _ _|exact dec7 _ _ _|exact dec8 _ _ _ _|exact dec9 _ _ _ _ _) (by kernel_rfl) rfl ?_
 rw[b321_eq]
 simp only [b321,oE,oP,oR,oT,go1,Nat.reduceAdd,Int.reduceEq,Int.reduceLT,Int.reduceLE,Int.reduceSub,Int.reduceAdd]
 refine loopF_at (fun x:Nat=>[.int .i64 ((a+n:Nat):Int), .int .i64 (x:Int), .sl 4 (trows l), .int .i64 (i:Int)]) (fun x=>opSg l i x (a+n+1 - x)=opSg l i a (n+1)∧x≤a+n+1) (fun x=>a+n+1 - x) (fun x hx=> ?_) a ⟨by rw[show a+n+1 - a=n+1 by omega],by omega⟩
 obtain⟨h1,h2⟩:=hx
 by_cases hlt:x≤a+n
 ·have e1:=c_sign x (by omega)
  have e2:=c_take l hl i hi (signB x)
  rw[show a+n+1 - x=(a+n - x)+1 by omega,opSg]at h1
  simp only [go1,Nat.reduceAdd,Int.reduceEq,Int.reduceLT,Int.reduceLE,Int.reduceSub,Int.reduceAdd,decT (p:=(x:Int)≤((a+n:Nat):Int)) (by omega),e1,e2]
  cases ht:isT l i (signB x)with
  |true=>
   right
   rw[ht]at h1
   simp only [go1,Nat.reduceAdd,Int.reduceEq,Int.reduceLT,Int.reduceLE,Int.reduceSub,Int.reduceAdd]
   rw[←h1]
  |false=>
   left
   rw[ht]at h1
   refine⟨x+1,?_,⟨by rw[show a+n+1 - (x+1)=a+n - x by omega];exact h1,by omega⟩,by omega⟩
   simp only [go1,Nat.reduceAdd,Int.reduceEq,Int.reduceLT,Int.reduceLE,Int.reduceSub,Int.reduceAdd]
   rw[wrap_succ (i:=x) (n:=x+1) (by omega) (by omega)];rfl
 ·right
  simp only [go1,Nat.reduceAdd,Int.reduceEq,Int.reduceLT,Int.reduceLE,Int.reduceSub,Int.reduceAdd,decF (p:=(x:Int)≤((a+n:Nat):Int)) (by omega)]
  rw[←h1,show a+n+1 - x=0 by omega];rfl
def whenS (l:List Tk)(i:Nat):Rs (ByteArray × ByteArray):=match isT l i (bs [110,111,116])with
 |true=>(nameS l (i+1)).bind fun n j=> .ok (n,bFalse) j
 |false=>match armedB l i with
  |false=>(nameS l i).bind fun n j=> .ok (n,bTrue) j
  |true=>(armS l i).bind fun a j=>(needS l [bs [40]] j).bind fun _ j=>(nameS l j).bind fun n j=>(needS l [bs [41]] j).bind fun _ j=> .ok (n,a) j
def wD (x:ByteArray × ByteArray):List D:=[.str x.1, .str x.2]
theorem nameS_lt {l:List Tk}(hl:LOK l){i j:Nat}{n:ByteArray}(hi:i < l.length)(h:nameS l i= .ok n j):j < l.length:=by
 unfold nameS at h
 split at h
 ·rename_i hc
  simp only [Bool.and_eq_true,decide_eq_true_eq]at hc
  cases h;exact hl.next hi (by omega)
 ·cases h
theorem armS_lt {l:List Tk}(hl:LOK l){i j:Nat}{n:ByteArray}(hi:i < l.length)(h:armS l i= .ok n j):j < l.length:=by
 unfold armS at h
 split at h
 ·rename_i hc
  cases h
  unfold armedB at hc
  simp only [Bool.or_eq_true,decide_eq_true_eq]at hc
  rcases hc with hc|hc|hc
  ·exact hl.next hi (by omega)
  ·exact hl.next hi (isT_k hc)
  ·exact hl.next hi (isT_k hc)
 ·cases h
theorem needS_lt {l:List Tk}(hl:LOK l){u:Unit}: ∀ {w:List ByteArray} {i j:Nat},i < l.length→needS l w i= .ok u j→j < l.length
 | [],i,j,hi,h=>by cases h;exact hi
 |x::w,i,j,hi,h=>by
  unfold needS at h
  split at h
  ·rename_i hc;exact needS_lt hl (hl.next hi (isT_k hc)) h
  ·cases h
theorem nameS_no {l:List Tk}{i:Nat}(h:nameS l i= .out):False:=by unfold nameS at h;split at h<;>cases h
theorem armS_no {l:List Tk}{i:Nat}(h:armS l i= .out):False:=by unfold armS at h;split at h<;>cases h
theorem needS_no {l:List Tk}: ∀ {w:List ByteArray} {i:Nat},needS l w i= .out→False
 | [],i,h=>by cases h
 |x::w,i,h=>by
  unfold needS at h
  split at h
  ·exact needS_no h
  ·cases h
theorem whenS_lt {l:List Tk}(hl:LOK l){i j:Nat}{w:ByteArray × ByteArray}(hi:i < l.length)(h:whenS l i= .ok w j):j < l.length:=by
 unfold whenS at h
 split at h
 ·rename_i ht
  cases hr:nameS l (i+1)with
  |ok n k=>rw[hr]at h;cases h;exact nameS_lt hl (hl.next hi (isT_k ht)) hr
  |_=>rw[hr]at h;cases h
 ·split at h
  ·cases hr:nameS l i with
   |ok n k=>rw[hr]at h;cases h;exact nameS_lt hl hi hr
   |_=>rw[hr]at h;cases h
  ·cases hr:armS l i with
   |ok a k=>
    rw[hr,Rs.bind_ok]at h
    have hk:=armS_lt hl hi hr
    cases hr2:needS l [bs [40]] k with
    |ok u m=>
     rw[hr2,Rs.bind_ok]at h
     have hm:=needS_lt hl hk hr2
     cases hr3:nameS l m with
     |ok n q=>
      rw[hr3,Rs.bind_ok]at h
      have hq:=nameS_lt hl hm hr3
      cases hr4:needS l [bs [41]] q with
      |ok u2 z=>rw[hr4]at h;cases h;exact needS_lt hl hq hr4
      |_=>rw[hr4]at h;cases h
     |_=>rw[hr3]at h;cases h
    |_=>rw[hr2]at h;cases h
   |_=>rw[hr]at h;cases h
theorem srow1 (s:ByteArray):[[D.str s]]=srows [s]:=rfl
theorem srow2 (s t:ByteArray):[[D.str s],[D.str t]]=srows [s,t]:=rfl
theorem c_pwhen (l:List Tk)(hl:LOK l)(i:Nat)(hi:i < l.length):cF 1000284 (kP 352 (trows l) (i:Int))=some (encR wD l (whenS l i)):=by
 have h1:=c_take l hl i hi (bs [110,111,116])
 have h2:=c_armed l i hi
 refine cOfB (f:=284) (by kernel_rfl) (by with_reducible first|exact dec1 _ _|exact dec2 _ _ _|exact dec3 _ _|exact dec4 _ _ _|exact dec5 _ _ _ _|exact dec6 _ _ _|exact dec7 _ _ _|exact dec8 _ _ _ _|exact dec9 _ _ _ _ _) (by kernel_rfl) rfl ?_
 rw[b284_eq]
 simp only [b284,oE,oP,oR,oT,go1,Nat.reduceAdd,Int.reduceEq,Int.reduceLT,Int.reduceLE,Int.reduceSub,Int.reduceAdd,h1,srow1]
 unfold whenS
 cases ht:isT l i (bs [110,111,116])with
 |true=>
  have hj:=hl.next hi (isT_k ht)
  have h3:=c_pname l hl (i+1) hj
  simp only [go1,Nat.reduceAdd,Int.reduceEq,Int.reduceLT,Int.reduceLE,Int.reduceSub,Int.reduceAdd,h3]
  cases hr:nameS l (i+1)<;>first|rfl|exact(nameS_no hr).elim
 |false=>
  simp only [go1,Nat.reduceAdd,Int.reduceEq,Int.reduceLT,Int.reduceLE,Int.reduceSub,Int.reduceAdd,h2]
  cases ha:armedB l i with
  |false=>
   have h3:=c_pname l hl i hi
   simp only [go1,Nat.reduceAdd,Int.reduceEq,Int.reduceLT,Int.reduceLE,Int.reduceSub,Int.reduceAdd,Bool.not_false,h3]
   cases hr:nameS l i<;>first|rfl|exact(nameS_no hr).elim
  |true=>
   have h3:=c_parm l hl i hi
   simp only [go1,Nat.reduceAdd,Int.reduceEq,Int.reduceLT,Int.reduceLE,Int.reduceSub,Int.reduceAdd,Bool.not_true,h3]
   cases hr:armS l i with
   |out=>exact(armS_no hr).elim
   |bad j=>rfl
   |ok a j=>
    have hj:=armS_lt hl hi hr
    have h4:=c_pneed l hl [bs [40]] (by simp) j hj
    simp only [encR,sD,go1,Nat.reduceAdd,Int.reduceEq,Int.reduceLT,Int.reduceLE,Int.reduceSub,Int.reduceAdd,List.cons_append,List.nil_append,h4,Rs.bind_ok]
    cases hr2:needS l [bs [40]] j with
    |out=>exact(needS_no hr2).elim
    |bad k=>rfl
    |ok u k=>
     have hk:=needS_lt hl hj hr2
     have h5:=c_pname l hl k hk
     simp only [encN,go1,Nat.reduceAdd,Int.reduceEq,Int.reduceLT,Int.reduceLE,Int.reduceSub,Int.reduceAdd,h5,Rs.bind_ok]
     cases hr3:nameS l k with
     |out=>exact(nameS_no hr3).elim
     |bad m=>rfl
     |ok n m=>
      have hm:=nameS_lt hl hk hr3
      have h6:=c_pneed l hl [bs [41]] (by simp) m hm
      simp only [encR,sD,go1,Nat.reduceAdd,Int.reduceEq,Int.reduceLT,Int.reduceLE,Int.reduceSub,Int.reduceAdd,List.cons_append,List.nil_append,h6,Rs.bind_ok]
      cases hr4:needS l [bs [41]] m<;>first|rfl|exact(needS_no hr4).elim
inductive Nt where
 |arrow|fby|or|and|cmp|sum|prod|un|post|atom
def iterS {σ ρ:Type}(st:σ→σ ⊕ Rs ρ):Nat→σ→Rs ρ
 |0,_=> .out
 |n+1,x=>match st x with
  | .inl y=>iterS st n y
  | .inr r=>r
def ex (k:Int)(l:List Ex):Ex:= .mk k 0 (bs []) 0 [] l
def binE (o:Nat)(a b:Ex):Ex:= .mk 6 0 (bs []) (o:Int) [] [a,b]
abbrev PR:=Nt→Nat→Rs Ex
section
variable (l : List Tk) (n : Nat) (p : PR)
def listT (en:ByteArray):List Ex × Nat→(List Ex × Nat) ⊕ Rs (List Ex)
 |(es,i)=>match isT l i (bs [44])with
  |true=>match p .arrow (i+1)with
   | .ok e j=> .inl (es++[e],j)
   | .bad j=> .inr (.bad j)
   | .out=> .inr .out
  |false=> .inr ((needS l [en] i).bind fun _ j=> .ok es j)
def listS (en:ByteArray)(i:Nat):Rs (List Ex):=(p .arrow i).bind fun e j=>iterS (listT l p en) n ([e],j)
def callU (nm:ByteArray)(es:List Ex)(j:Nat):Rs Ex:=match isT l j (bs [101,118,101,114,121])with
 |true=>(p .post (j+1)).bind fun e k=> .ok (.mk 13 1 nm 0 [] (es++[e])) k
 |false=> .ok (.mk 13 0 nm 0 [] es) j
def callS (nm:ByteArray)(i:Nat):Rs Ex:=match isT l i (bs [41])with
 |true=>callU l p nm [] (i+1)
 |false=>(listS l n p (bs [41]) i).bind (callU l p nm)
def mergeT:List ByteArray × List Ex × Nat × Bool→(List ByteArray × List Ex × Nat × Bool) ⊕ Rs (List ByteArray × List Ex)
 |(ar,es,i,false)=> .inr (.ok (ar,es) i)
 |(ar,es,i,true)=>match ((armS l i).bind fun a j=>(needS l [bs [45,62]] j).bind fun _ j=>(p .arrow j).bind fun e j=>(needS l [bs [41]] j).bind fun _ j=> .ok (a,e) j:Rs (ByteArray × Ex))with
  | .ok (a,e) j=>match isT l j (bs [40])with
    |true=> .inl (ar++[a],es++[e],j+1,true)
    |false=> .inl (ar++[a],es++[e],j,false)
  | .bad j=> .inr (.bad j)
  | .out=> .inr .out
def mergeS (i:Nat):Rs Ex:=(nameS l i).bind fun nm j=>(needS l [bs [40]] j).bind fun _ j=>(iterS (mergeT l p) n ([],[],j,true)).bind fun q j=> .ok (.mk 12 0 nm 0 q.1 q.2) j
def roundS (i:Nat):Rs Ex:=(p .arrow i).bind fun e j=>match isT l j (bs [119,105,116,104])with
 |true=>(needS l [bs [91]] (j+1)).bind fun _ j=>(p .arrow j).bind fun a j=>(needS l [bs [93],bs [61]] j).bind fun _ j=>(p .arrow j).bind fun b j=>(needS l [bs [41]] j).bind fun _ j=> .ok (ex 16 [e,a,b]) j
 |false=>(needS l [bs [41]] j).bind fun _ j=> .ok e j
def choiceS (i:Nat):Rs Ex:=(p .arrow i).bind fun a j=>(needS l [bs [116,104,101,110]] j).bind fun _ j=>(p .arrow j).bind fun b j=>(needS l [bs [101,108,115,101]] j).bind fun _ j=>(p .arrow j).bind fun c j=> .ok (ex 7 [a,b,c]) j
def wordS (i:Nat):Rs Ex:=
 match isT l i bTrue with
 |true=> .ok (.mk 2 1 (bs []) 0 [] []) (i+1)
 |false=>match isT l i bFalse with
  |true=> .ok (ex 2 []) (i+1)
  |false=>match isT l i (bs [91])with
   |true=>(listS l n p (bs [93]) (i+1)).bind fun es j=> .ok (ex 14 es) j
   |false=>match isT l i (bs [40])with
    |true=>roundS l p (i+1)
    |false=>match isT l i (bs [109,101,114,103,101])with
     |true=>mergeS l n p (i+1)
     |false=>match isT l i (bs [105,102])with
      |true=>choiceS l p (i+1)
      |false=>(nameS l i).bind fun nm j=>match isT l j (bs [40])with
       |true=>callS l n p nm (j+1)
       |false=> .ok (.mk 3 0 nm 0 [] []) j
def atomS (i:Nat):Rs Ex:=match decide ((tkA l i).k=3)with
 |true=> .ok (.mk 1 (tkA l i).n (bs []) 0 [] []) (i+1)
 |false=>match decide ((tkA l i).k=2)with
  |true=> .ok (.mk 4 0 (tkA l i).s 0 [] []) (i+1)
  |false=>match decide ((tkA l i).k=4)with
   |true=> .ok (.mk 17 0 (tkA l i).s 0 [] []) (i+1)
   |false=>wordS l n p i
def postT:Ex × Nat→(Ex × Nat) ⊕ Rs Ex
 |(e,i)=>match isT l i (bs [91])with
  |true=>match ((p .arrow (i+1)).bind fun a j=>(needS l [bs [93]] j).bind fun _ j=> .ok a j:Rs Ex)with
   | .ok a j=> .inl (ex 15 [e,a],j)
   | .bad j=> .inr (.bad j)
   | .out=> .inr .out
  |false=>match isT l i (bs [119,104,101,110])with
   |true=>match whenS l (i+1)with
    | .ok w j=> .inl (.mk 11 0 w.1 0 [w.2] [e],j)
    | .bad j=> .inr (.bad j)
    | .out=> .inr .out
   |false=> .inr (.ok e i)
def postS (i:Nat):Rs Ex:=(p .atom i).bind fun e j=>iterS (postT l p) n (e,j)
def unS (i:Nat):Rs Ex:=match isT l i (bs [45])with
 |true=>(p .un (i+1)).bind fun e j=> .ok (.mk 5 0 (bs []) 1 [] [e]) j
 |false=>match isT l i (bs [110,111,116])with
  |true=>(p .un (i+1)).bind fun e j=> .ok (.mk 5 0 (bs []) 2 [] [e]) j
  |false=>match isT l i (bs [112,114,101])with
   |true=>(p .un (i+1)).bind fun e j=> .ok (ex 10 [e]) j
   |false=>p .post i
def leftT (side:Nt)(a m:Nat):Ex × Nat→(Ex × Nat) ⊕ Rs Ex
 |(e,i)=>match opSg l i a m with
  |none=> .inr (.ok e i)
  |some o=>match p side (i+1)with
   | .ok e2 j=> .inl (binE o e e2,j)
   | .bad j=> .inr (.bad j)
   | .out=> .inr .out
def leftS (side:Nt)(a m i:Nat):Rs Ex:=(p side i).bind fun e j=>iterS (leftT l p side a m) n (e,j)
def cmpS (i:Nat):Rs Ex:=(p .sum i).bind fun e j=>match opSg l j 11 6 with
 |none=> .ok e j
 |some o=>(p .sum (j+1)).bind fun e2 k=> .ok (binE o e e2) k
def fbyS (i:Nat):Rs Ex:=(p .or i).bind fun e j=>match isT l j (bs [102,98,121])with
 |true=>(p .fby (j+1)).bind fun e2 k=> .ok (ex 8 [e,e2]) k
 |false=> .ok e j
def arrowS (i:Nat):Rs Ex:=(p .fby i).bind fun e j=>match isT l j (bs [45,62])with
 |true=>(p .arrow (j+1)).bind fun e2 k=> .ok (ex 9 [e,e2]) k
 |false=> .ok e j
def ntS:Nt→Nat→Rs Ex
 | .arrow,i=>arrowS l p i
 | .fby,i=>fbyS l p i
 | .or,i=>leftS l n p .and 9 2 i
 | .and,i=>leftS l n p .cmp 8 1 i
 | .cmp,i=>cmpS l p i
 | .sum,i=>leftS l n p .prod 3 2 i
 | .prod,i=>leftS l n p .un 5 3 i
 | .un,i=>unS l p i
 | .post,i=>postS l n p i
 | .atom,i=>atomS l n p i
end
def prs (l:List Tk):Nat→PR
 |0,_,_=> .out
 |n+1,nt,i=>ntS l n (prs l n) nt i
def keyA:Nt→FuncId
 | .arrow=>1000266
 | .fby=>1000285
 | .or=>1000302
 | .and=>1000315
 | .cmp=>1000323
 | .sum=>1000326
 | .prod=>1000328
 | .un=>1000329
 | .post=>1000330
 | .atom=>1000331
structure HP (l:List Tk) (p:PR):Prop where
 c: ∀nt i,i < l.length→p nt i≠ .out→cF (keyA nt) (kP 352 (trows l) (i:Int))=some (encR Ex.row l (p nt i))
 lt: ∀nt i e j,i < l.length→p nt i= .ok e j→j < l.length
 gt: ∀nt i e j,i < l.length→p nt i= .ok e j→i < j
theorem ne_bind {α β:Type}{r:Rs α}{f:α→Nat→Rs β}(h:r.bind f≠ .out):r≠ .out:=fun e=>h (by rw[e];rfl)
theorem c_pbin (o:Nat)(a b:Ex): ∀k n s o1 ar su k2 n2 s2 o2 ar2 su2,a= .mk k n s o1 ar su→b= .mk k2 n2 s2 o2 ar2 su2→
  cF 322 [.d (.int .i64 (o:Int)), .agg [.d (.int .i64 k), .d (.int .i64 n), .d (.str s), .d (.int .i64 o1), .d (.sl 1 (srows ar)), .d (.sl 6 (Ex.rows su))], .agg [.d (.int .i64 k2), .d (.int .i64 n2), .d (.str s2), .d (.int .i64 o2), .d (.sl 1 (srows ar2)), .d (.sl 6 (Ex.rows su2))]]=some (.val (binE o a b).row):=by
 rintro k n s o1 ar su k2 n2 s2 o2 ar2 su2 rfl rfl
 refine cOf (by kernel_rfl) rfl ?_
 rw[g322_eq]
 simp only [g322,go1,Nat.reduceAdd,Int.reduceEq,Int.reduceLT,Int.reduceLE,Int.reduceSub,Int.reduceAdd]
 rfl
theorem fitsR (a b:List (List D))(k:Nat)(h:(a.length+b.length)*(k+1)≤140737488355328):decide ((a.length+b.length)*(k+1)≤140737488355328)=true:=decide_eq_true h
theorem a_por {l:List Tk}(hl:LOK l){n:Nat}{p:PR}(hp:HP l p)(i:Nat)(hi:i < l.length)(hne:leftS l n p .and 9 2 i≠ .out):cF 1000302 (kP 352 (trows l) (i:Int))=some (encR Ex.row l (leftS l n p .and 9 2 i)):=by
 have h1:cF 1000315 (kP 352 (trows l) (i:Int))=_:=hp.c .and i hi (ne_bind hne)
 refine cOfB (f:=302) (by kernel_rfl) (by with_reducible first|exact dec1 _ _|exact dec2 _ _ _|exact dec3 _ _|exact dec4 _ _ _|exact dec5 _ _ _ _|exact dec6 _ _ _|exact dec7 _ _ _|exact dec8 _ _ _ _|exact dec9 _ _ _ _ _) (by kernel_rfl) rfl ?_
 rw[b302_eq]
 simp only [b302,oE,oP,oR,oT,go1,Nat.reduceAdd,Int.reduceEq,Int.reduceLT,Int.reduceLE,Int.reduceSub,Int.reduceAdd,h1]
 unfold leftS at hne ⊢
 cases hr:p .and i with
 |out=>rw[hr]at hne;exact(hne rfl).elim
 |bad j=>rfl
 |ok e j=>
  have hj:=hp.lt _ _ _ _ hi hr
  rw[hr]at hne
  rw[Rs.bind_ok]at hne ⊢
  obtain⟨k0,n0,s0,o0,a0,u0⟩:=e
  simp only [encR,Ex.row,go1,Nat.reduceAdd,Int.reduceEq,Int.reduceLT,Int.reduceLE,Int.reduceSub,Int.reduceAdd,List.cons_append,List.nil_append]
  generalize hR:iterS (leftT l p .and 9 2) n (.mk k0 n0 s0 o0 a0 u0,j)=R at hne ⊢
  refine loopF_at (fun x:Nat × Ex × Nat=>[.int .i64 9, .int .i64 10, .sl 4 (trows l), .int .i64 (x.2.2:Int), .int .i64 0, .int .i64 0, .str (bs []), .int .i64 0, .int .i64 0, .int .i64 0, .str (bs []), .int .i64 0]++x.2.1.row) (fun x=>iterS (leftT l p .and 9 2) x.1 (x.2.1,x.2.2)=R∧x.2.2 < l.length) (fun x=>x.1) (fun x hx=> ?_) (n, .mk k0 n0 s0 o0 a0 u0,j) ⟨hR,hj⟩
  obtain⟨n1,⟨k1,m1,s1,o1,a1,u1⟩,i1⟩:=x
  obtain⟨hx,hi1⟩:=hx
  simp only at hx hi1 ⊢
  cases n1 with
  |zero=>exact(hne hx.symm).elim
  |succ n1=>
   have h2:=c_pop l hl i1 hi1 9 1 (by omega)
   simp only [Ex.row,go1,Nat.reduceAdd,Int.reduceEq,Int.reduceLT,Int.reduceLE,Int.reduceSub,Int.reduceAdd,List.cons_append,List.nil_append]
   have h2:cF 1000321 (kO 9 10 (trows l) (i1:Int))=_:=h2
   simp only [h2,go1,Nat.reduceAdd,Int.reduceEq,Int.reduceLT,Int.reduceLE,Int.reduceSub,Int.reduceAdd]
   rw[iterS,leftT]at hx
   cases ho:opSg l i1 9 2 with
   |none=>right;rw[ho]at hx;rw[←hx];rfl
   |some o=>
    rw[ho]at hx
    simp only at hx
    have ho':=opS_spec ho
    have hi2:=hl.next hi1 ho'.1
    have hq:p .and (i1+1)≠ .out:=fun e=>hne (by rw[e]at hx;exact hx.symm)
    have h3:cF 1000315 (kP 352 (trows l) ((i1+1:Nat):Int))=_:=hp.c .and (i1+1) hi2 hq
    simp only [go1,Nat.reduceAdd,Int.reduceEq,Int.reduceLT,Int.reduceLE,Int.reduceSub,Int.reduceAdd,Bool.not_true,h3]
    cases hr2:p .and (i1+1)with
    |out=>exact(hq hr2).elim
    |bad j2=>right;rw[hr2]at hx;rw[←hx];rfl
    |ok e2 j2=>
     left
     rw[hr2]at hx
     obtain⟨k3,n3,s3,o3,a3,u3⟩:=e2
     have h4:=c_pbin o _ _ k1 m1 s1 o1 a1 u1 k3 n3 s3 o3 a3 u3 rfl rfl
     refine⟨(n1,binE o (.mk k1 m1 s1 o1 a1 u1) (.mk k3 n3 s3 o3 a3 u3),j2),?_,⟨hx,hp.lt _ _ _ _ hi2 hr2⟩,Nat.lt_succ_self _⟩
     simp only [encR,Ex.row,go1,Nat.reduceAdd,Int.reduceEq,Int.reduceLT,Int.reduceLE,Int.reduceSub,Int.reduceAdd,List.cons_append,List.nil_append,h4,binE]
theorem a_pand {l:List Tk}(hl:LOK l){n:Nat}{p:PR}(hp:HP l p)(i:Nat)(hi:i < l.length)(hne:leftS l n p .cmp 8 1 i≠ .out):cF 1000315 (kP 352 (trows l) (i:Int))=some (encR Ex.row l (leftS l n p .cmp 8 1 i)):=by
 have h1:cF 1000323 (kP 352 (trows l) (i:Int))=_:=hp.c .cmp i hi (ne_bind hne)
 refine cOfB (f:=315) (by kernel_rfl) (by with_reducible first|exact dec1 _ _|exact dec2 _ _ _|exact dec3 _ _|exact dec4 _ _ _|exact dec5 _ _ _ _|exact dec6 _ _ _|exact dec7 _ _ _|exact dec8 _ _ _ _|exact dec9 _ _ _ _ _) (by kernel_rfl) rfl ?_
 rw[b315_eq]
 simp only [b315,oE,oP,oR,oT,go1,Nat.reduceAdd,Int.reduceEq,Int.reduceLT,Int.reduceLE,Int.reduceSub,Int.reduceAdd,h1]
 unfold leftS at hne ⊢
 cases hr:p .cmp i with
 |out=>rw[hr]at hne;exact(hne rfl).elim
 |bad j=>rfl
 |ok e j=>
  have hj:=hp.lt _ _ _ _ hi hr
  rw[hr]at hne
  rw[Rs.bind_ok]at hne ⊢
  obtain⟨k0,n0,s0,o0,a0,u0⟩:=e
  simp only [encR,Ex.row,go1,Nat.reduceAdd,Int.reduceEq,Int.reduceLT,Int.reduceLE,Int.reduceSub,Int.reduceAdd,List.cons_append,List.nil_append]
  generalize hR:iterS (leftT l p .cmp 8 1) n (.mk k0 n0 s0 o0 a0 u0,j)=R at hne ⊢
  refine loopF_at (fun x:Nat × Ex × Nat=>[.int .i64 8, .int .i64 8, .sl 4 (trows l), .int .i64 (x.2.2:Int), .int .i64 0, .int .i64 0, .str (bs []), .int .i64 0, .int .i64 0, .int .i64 0, .str (bs []), .int .i64 0]++x.2.1.row) (fun x=>iterS (leftT l p .cmp 8 1) x.1 (x.2.1,x.2.2)=R∧x.2.2 < l.length) (fun x=>x.1) (fun x hx=> ?_) (n, .mk k0 n0 s0 o0 a0 u0,j) ⟨hR,hj⟩
  obtain⟨n1,⟨k1,m1,s1,o1,a1,u1⟩,i1⟩:=x
  obtain⟨hx,hi1⟩:=hx
  simp only at hx hi1 ⊢
  cases n1 with
  |zero=>exact(hne hx.symm).elim
  |succ n1=>
   have h2:=c_pop l hl i1 hi1 8 0 (by omega)
   simp only [Ex.row,go1,Nat.reduceAdd,Int.reduceEq,Int.reduceLT,Int.reduceLE,Int.reduceSub,Int.reduceAdd,List.cons_append,List.nil_append]
   have h2:cF 1000321 (kO 8 8 (trows l) (i1:Int))=_:=h2
   simp only [h2,go1,Nat.reduceAdd,Int.reduceEq,Int.reduceLT,Int.reduceLE,Int.reduceSub,Int.reduceAdd]
   rw[iterS,leftT]at hx
   cases ho:opSg l i1 8 1 with
   |none=>right;rw[ho]at hx;rw[←hx];rfl
   |some o=>
    rw[ho]at hx
    simp only at hx
    have ho':=opS_spec ho
    have hi2:=hl.next hi1 ho'.1
    have hq:p .cmp (i1+1)≠ .out:=fun e=>hne (by rw[e]at hx;exact hx.symm)
    have h3:cF 1000323 (kP 352 (trows l) ((i1+1:Nat):Int))=_:=hp.c .cmp (i1+1) hi2 hq
    simp only [go1,Nat.reduceAdd,Int.reduceEq,Int.reduceLT,Int.reduceLE,Int.reduceSub,Int.reduceAdd,Bool.not_true,h3]
    cases hr2:p .cmp (i1+1)with
    |out=>exact(hq hr2).elim
    |bad j2=>right;rw[hr2]at hx;rw[←hx];rfl
    |ok e2 j2=>
     left
     rw[hr2]at hx
     obtain⟨k3,n3,s3,o3,a3,u3⟩:=e2
     have h4:=c_pbin o _ _ k1 m1 s1 o1 a1 u1 k3 n3 s3 o3 a3 u3 rfl rfl
     refine⟨(n1,binE o (.mk k1 m1 s1 o1 a1 u1) (.mk k3 n3 s3 o3 a3 u3),j2),?_,⟨hx,hp.lt _ _ _ _ hi2 hr2⟩,Nat.lt_succ_self _⟩
     simp only [encR,Ex.row,go1,Nat.reduceAdd,Int.reduceEq,Int.reduceLT,Int.reduceLE,Int.reduceSub,Int.reduceAdd,List.cons_append,List.nil_append,h4,binE]
theorem a_psum {l:List Tk}(hl:LOK l){n:Nat}{p:PR}(hp:HP l p)(i:Nat)(hi:i < l.length)(hne:leftS l n p .prod 3 2 i≠ .out):cF 1000326 (kP 352 (trows l) (i:Int))=some (encR Ex.row l (leftS l n p .prod 3 2 i)):=by
 have h1:cF 1000328 (kP 352 (trows l) (i:Int))=_:=hp.c .prod i hi (ne_bind hne)
 refine cOfB (f:=326) (by kernel_rfl) (by with_reducible first|exact dec1 _ _|exact dec2 _ _ _|exact dec3 _ _|exact dec4 _ _ _|exact dec5 _ _ _ _|exact dec6 _ _ _|exact dec7 _ _ _|exact dec8 _ _ _ _|exact dec9 _ _ _ _ _) (by kernel_rfl) rfl ?_
 rw[b326_eq]
 simp only [b326,oE,oP,oR,oT,go1,Nat.reduceAdd,Int.reduceEq,Int.reduceLT,Int.reduceLE,Int.reduceSub,Int.reduceAdd,h1]
 unfold leftS at hne ⊢
 cases hr:p .prod i with
 |out=>rw[hr]at hne;exact(hne rfl).elim
 |bad j=>rfl
 |ok e j=>
  have hj:=hp.lt _ _ _ _ hi hr
  rw[hr]at hne
  rw[Rs.bind_ok]at hne ⊢
  obtain⟨k0,n0,s0,o0,a0,u0⟩:=e
  simp only [encR,Ex.row,go1,Nat.reduceAdd,Int.reduceEq,Int.reduceLT,Int.reduceLE,Int.reduceSub,Int.reduceAdd,List.cons_append,List.nil_append]
  generalize hR:iterS (leftT l p .prod 3 2) n (.mk k0 n0 s0 o0 a0 u0,j)=R at hne ⊢
  refine loopF_at (fun x:Nat × Ex × Nat=>[.int .i64 3, .int .i64 4, .sl 4 (trows l), .int .i64 (x.2.2:Int), .int .i64 0, .int .i64 0, .str (bs []), .int .i64 0, .int .i64 0, .int .i64 0, .str (bs []), .int .i64 0]++x.2.1.row) (fun x=>iterS (leftT l p .prod 3 2) x.1 (x.2.1,x.2.2)=R∧x.2.2 < l.length) (fun x=>x.1) (fun x hx=> ?_) (n, .mk k0 n0 s0 o0 a0 u0,j) ⟨hR,hj⟩
  obtain⟨n1,⟨k1,m1,s1,o1,a1,u1⟩,i1⟩:=x
  obtain⟨hx,hi1⟩:=hx
  simp only at hx hi1 ⊢
  cases n1 with
  |zero=>exact(hne hx.symm).elim
  |succ n1=>
   have h2:=c_pop l hl i1 hi1 3 1 (by omega)
   simp only [Ex.row,go1,Nat.reduceAdd,Int.reduceEq,Int.reduceLT,Int.reduceLE,Int.reduceSub,Int.reduceAdd,List.cons_append,List.nil_append]
   have h2:cF 1000321 (kO 3 4 (trows l) (i1:Int))=_:=h2
   simp only [h2,go1,Nat.reduceAdd,Int.reduceEq,Int.reduceLT,Int.reduceLE,Int.reduceSub,Int.reduceAdd]
   rw[iterS,leftT]at hx
   cases ho:opSg l i1 3 2 with
   |none=>right;rw[ho]at hx;rw[←hx];rfl
   |some o=>
    rw[ho]at hx
    simp only at hx
    have ho':=opS_spec ho
    have hi2:=hl.next hi1 ho'.1
    have hq:p .prod (i1+1)≠ .out:=fun e=>hne (by rw[e]at hx;exact hx.symm)
    have h3:cF 1000328 (kP 352 (trows l) ((i1+1:Nat):Int))=_:=hp.c .prod (i1+1) hi2 hq
    simp only [go1,Nat.reduceAdd,Int.reduceEq,Int.reduceLT,Int.reduceLE,Int.reduceSub,Int.reduceAdd,Bool.not_true,h3]
    cases hr2:p .prod (i1+1)with
    |out=>exact(hq hr2).elim
    |bad j2=>right;rw[hr2]at hx;rw[←hx];rfl
    |ok e2 j2=>
     left
     rw[hr2]at hx
     obtain⟨k3,n3,s3,o3,a3,u3⟩:=e2
     have h4:=c_pbin o _ _ k1 m1 s1 o1 a1 u1 k3 n3 s3 o3 a3 u3 rfl rfl
     refine⟨(n1,binE o (.mk k1 m1 s1 o1 a1 u1) (.mk k3 n3 s3 o3 a3 u3),j2),?_,⟨hx,hp.lt _ _ _ _ hi2 hr2⟩,Nat.lt_succ_self _⟩
     simp only [encR,Ex.row,go1,Nat.reduceAdd,Int.reduceEq,Int.reduceLT,Int.reduceLE,Int.reduceSub,Int.reduceAdd,List.cons_append,List.nil_append,h4,binE]
theorem a_pprod {l:List Tk}(hl:LOK l){n:Nat}{p:PR}(hp:HP l p)(i:Nat)(hi:i < l.length)(hne:leftS l n p .un 5 3 i≠ .out):cF 1000328 (kP 352 (trows l) (i:Int))=some (encR Ex.row l (leftS l n p .un 5 3 i)):=by
 have h1:cF 1000329 (kP 352 (trows l) (i:Int))=_:=hp.c .un i hi (ne_bind hne)
 refine cOfB (f:=328) (by kernel_rfl) (by with_reducible first|exact dec1 _ _|exact dec2 _ _ _|exact dec3 _ _|exact dec4 _ _ _|exact dec5 _ _ _ _|exact dec6 _ _ _|exact dec7 _ _ _|exact dec8 _ _ _ _|exact dec9 _ _ _ _ _) (by kernel_rfl) rfl ?_
 rw[b328_eq]
 simp only [b328,oE,oP,oR,oT,go1,Nat.reduceAdd,Int.reduceEq,Int.reduceLT,Int.reduceLE,Int.reduceSub,Int.reduceAdd,h1]
 unfold leftS at hne ⊢
 cases hr:p .un i with
 |out=>rw[hr]at hne;exact(hne rfl).elim
 |bad j=>rfl
 |ok e j=>
  have hj:=hp.lt _ _ _ _ hi hr
  rw[hr]at hne
  rw[Rs.bind_ok]at hne ⊢
  obtain⟨k0,n0,s0,o0,a0,u0⟩:=e
  simp only [encR,Ex.row,go1,Nat.reduceAdd,Int.reduceEq,Int.reduceLT,Int.reduceLE,Int.reduceSub,Int.reduceAdd,List.cons_append,List.nil_append]
  generalize hR:iterS (leftT l p .un 5 3) n (.mk k0 n0 s0 o0 a0 u0,j)=R at hne ⊢
  refine loopF_at (fun x:Nat × Ex × Nat=>[.int .i64 5, .int .i64 7, .sl 4 (trows l), .int .i64 (x.2.2:Int), .int .i64 0, .int .i64 0, .str (bs []), .int .i64 0, .int .i64 0, .int .i64 0, .str (bs []), .int .i64 0]++x.2.1.row) (fun x=>iterS (leftT l p .un 5 3) x.1 (x.2.1,x.2.2)=R∧x.2.2 < l.length) (fun x=>x.1) (fun x hx=> ?_) (n, .mk k0 n0 s0 o0 a0 u0,j) ⟨hR,hj⟩
  obtain⟨n1,⟨k1,m1,s1,o1,a1,u1⟩,i1⟩:=x
  obtain⟨hx,hi1⟩:=hx
  simp only at hx hi1 ⊢
  cases n1 with
  |zero=>exact(hne hx.symm).elim
  |succ n1=>
   have h2:=c_pop l hl i1 hi1 5 2 (by omega)
   simp only [Ex.row,go1,Nat.reduceAdd,Int.reduceEq,Int.reduceLT,Int.reduceLE,Int.reduceSub,Int.reduceAdd,List.cons_append,List.nil_append]
   have h2:cF 1000321 (kO 5 7 (trows l) (i1:Int))=_:=h2
   simp only [h2,go1,Nat.reduceAdd,Int.reduceEq,Int.reduceLT,Int.reduceLE,Int.reduceSub,Int.reduceAdd]
   rw[iterS,leftT]at hx
   cases ho:opSg l i1 5 3 with
   |none=>right;rw[ho]at hx;rw[←hx];rfl
   |some o=>
    rw[ho]at hx
    simp only at hx
    have ho':=opS_spec ho
    have hi2:=hl.next hi1 ho'.1
    have hq:p .un (i1+1)≠ .out:=fun e=>hne (by rw[e]at hx;exact hx.symm)
    have h3:cF 1000329 (kP 352 (trows l) ((i1+1:Nat):Int))=_:=hp.c .un (i1+1) hi2 hq
    simp only [go1,Nat.reduceAdd,Int.reduceEq,Int.reduceLT,Int.reduceLE,Int.reduceSub,Int.reduceAdd,Bool.not_true,h3]
    cases hr2:p .un (i1+1)with
    |out=>exact(hq hr2).elim
    |bad j2=>right;rw[hr2]at hx;rw[←hx];rfl
    |ok e2 j2=>
     left
     rw[hr2]at hx
     obtain⟨k3,n3,s3,o3,a3,u3⟩:=e2
     have h4:=c_pbin o _ _ k1 m1 s1 o1 a1 u1 k3 n3 s3 o3 a3 u3 rfl rfl
     refine⟨(n1,binE o (.mk k1 m1 s1 o1 a1 u1) (.mk k3 n3 s3 o3 a3 u3),j2),?_,⟨hx,hp.lt _ _ _ _ hi2 hr2⟩,Nat.lt_succ_self _⟩
     simp only [encR,Ex.row,go1,Nat.reduceAdd,Int.reduceEq,Int.reduceLT,Int.reduceLE,Int.reduceSub,Int.reduceAdd,List.cons_append,List.nil_append,h4,binE]
theorem a_pfby {l:List Tk}(hl:LOK l){p:PR}(hp:HP l p)(i:Nat)(hi:i < l.length)(hne:fbyS l p i≠ .out):cF 1000285 (kP 352 (trows l) (i:Int))=some (encR Ex.row l (fbyS l p i)):=by
 have h1:cF 1000302 (kP 352 (trows l) (i:Int))=_:=hp.c .or i hi (ne_bind hne)
 refine cOfB (f:=285) (by kernel_rfl) (by with_reducible first|exact dec1 _ _|exact dec2 _ _ _|exact dec3 _ _|exact dec4 _ _ _|exact dec5 _ _ _ _|exact dec6 _ _ _|exact dec7 _ _ _|exact dec8 _ _ _ _|exact dec9 _ _ _ _ _) (by kernel_rfl) rfl ?_
 rw[b285_eq]
 simp only [b285,oE,oP,oR,oT,go1,Nat.reduceAdd,Int.reduceEq,Int.reduceLT,Int.reduceLE,Int.reduceSub,Int.reduceAdd,h1]
 unfold fbyS at hne ⊢
 cases hr:p .or i with
 |out=>rw[hr]at hne;exact(hne rfl).elim
 |bad j=>rfl
 |ok e j=>
  have hj:=hp.lt _ _ _ _ hi hr
  rw[hr]at hne
  rw[Rs.bind_ok]at hne ⊢
  obtain⟨k0,n0,s0,o0,a0,u0⟩:=e
  have h2:=c_take l hl j hj (bs [102,98,121])
  simp only [encR,Ex.row,go1,Nat.reduceAdd,Int.reduceEq,Int.reduceLT,Int.reduceLE,Int.reduceSub,Int.reduceAdd,List.cons_append,List.nil_append,h2]
  cases ht:isT l j (bs [102,98,121])with
  |false=>rfl
  |true=>
   rw[ht]at hne
   simp only at hne ⊢
   have hj2:=hl.next hj (isT_k ht)
   have h3:cF 1000285 (kP 352 (trows l) ((j+1:Nat):Int))=_:=hp.c .fby (j+1) hj2 (ne_bind hne)
   simp only [go1,Nat.reduceAdd,Int.reduceEq,Int.reduceLT,Int.reduceLE,Int.reduceSub,Int.reduceAdd,h3]
   cases hr2:p .fby (j+1)with
   |out=>rw[hr2]at hne;exact(hne rfl).elim
   |bad k=>rfl
   |ok e2 k=>
    obtain⟨k2,n2,s2,o2,a2,u2⟩:=e2
    rfl
theorem a_parrow {l:List Tk}(hl:LOK l){p:PR}(hp:HP l p)(i:Nat)(hi:i < l.length)(hne:arrowS l p i≠ .out):cF 1000266 (kP 352 (trows l) (i:Int))=some (encR Ex.row l (arrowS l p i)):=by
 have h1:cF 1000285 (kP 352 (trows l) (i:Int))=_:=hp.c .fby i hi (ne_bind hne)
 refine cOfB (f:=266) (by kernel_rfl) (by with_reducible first|exact dec1 _ _|exact dec2 _ _ _|exact dec3 _ _|exact dec4 _ _ _|exact dec5 _ _ _ _|exact dec6 _ _ _|exact dec7 _ _ _|exact dec8 _ _ _ _|exact dec9 _ _ _ _ _) (by kernel_rfl) rfl ?_
 rw[b266_eq]
 simp only [b266,oE,oP,oR,oT,go1,Nat.reduceAdd,Int.reduceEq,Int.reduceLT,Int.reduceLE,Int.reduceSub,Int.reduceAdd,h1]
 unfold arrowS at hne ⊢
 cases hr:p .fby i with
 |out=>rw[hr]at hne;exact(hne rfl).elim
 |bad j=>rfl
 |ok e j=>
  have hj:=hp.lt _ _ _ _ hi hr
  rw[hr]at hne
  rw[Rs.bind_ok]at hne ⊢
  obtain⟨k0,n0,s0,o0,a0,u0⟩:=e
  have h2:=c_take l hl j hj (bs [45,62])
  simp only [encR,Ex.row,go1,Nat.reduceAdd,Int.reduceEq,Int.reduceLT,Int.reduceLE,Int.reduceSub,Int.reduceAdd,List.cons_append,List.nil_append,h2]
  cases ht:isT l j (bs [45,62])with
  |false=>rfl
  |true=>
   rw[ht]at hne
   simp only at hne ⊢
   have hj2:=hl.next hj (isT_k ht)
   have h3:cF 1000266 (kP 352 (trows l) ((j+1:Nat):Int))=_:=hp.c .arrow (j+1) hj2 (ne_bind hne)
   simp only [go1,Nat.reduceAdd,Int.reduceEq,Int.reduceLT,Int.reduceLE,Int.reduceSub,Int.reduceAdd,h3]
   cases hr2:p .arrow (j+1)with
   |out=>rw[hr2]at hne;exact(hne rfl).elim
   |bad k=>rfl
   |ok e2 k=>
    obtain⟨k2,n2,s2,o2,a2,u2⟩:=e2
    rfl
theorem a_pcmp {l:List Tk}(hl:LOK l){p:PR}(hp:HP l p)(i:Nat)(hi:i < l.length)(hne:cmpS l p i≠ .out):cF 1000323 (kP 352 (trows l) (i:Int))=some (encR Ex.row l (cmpS l p i)):=by
 have h1:cF 1000326 (kP 352 (trows l) (i:Int))=_:=hp.c .sum i hi (ne_bind hne)
 refine cOfB (f:=323) (by kernel_rfl) (by with_reducible first|exact dec1 _ _|exact dec2 _ _ _|exact dec3 _ _|exact dec4 _ _ _|exact dec5 _ _ _ _|exact dec6 _ _ _|exact dec7 _ _ _|exact dec8 _ _ _ _|exact dec9 _ _ _ _ _) (by kernel_rfl) rfl ?_
 rw[b323_eq]
 simp only [b323,oE,oP,oR,oT,go1,Nat.reduceAdd,Int.reduceEq,Int.reduceLT,Int.reduceLE,Int.reduceSub,Int.reduceAdd,h1]
 unfold cmpS at hne ⊢
 cases hr:p .sum i with
 |out=>rw[hr]at hne;exact(hne rfl).elim
 |bad j=>rfl
 |ok e j=>
  have hj:=hp.lt _ _ _ _ hi hr
  rw[hr]at hne
  rw[Rs.bind_ok]at hne ⊢
  obtain⟨k0,n0,s0,o0,a0,u0⟩:=e
  have h2:=c_pop l hl j hj 11 5 (by omega)
  have h2:cF 1000321 (kO 11 16 (trows l) (j:Int))=_:=h2
  simp only [encR,Ex.row,go1,Nat.reduceAdd,Int.reduceEq,Int.reduceLT,Int.reduceLE,Int.reduceSub,Int.reduceAdd,List.cons_append,List.nil_append,h2]
  cases ho:opSg l j 11 6 with
  |none=>rfl
  |some o=>
   rw[ho]at hne
   simp only at hne ⊢
   have hj2:=hl.next hj (opS_spec ho).1
   have h3:cF 1000326 (kP 352 (trows l) ((j+1:Nat):Int))=_:=hp.c .sum (j+1) hj2 (ne_bind hne)
   simp only [go1,Nat.reduceAdd,Int.reduceEq,Int.reduceLT,Int.reduceLE,Int.reduceSub,Int.reduceAdd,h3]
   cases hr2:p .sum (j+1)with
   |out=>rw[hr2]at hne;exact(hne rfl).elim
   |bad k=>rfl
   |ok e2 k=>
    obtain⟨k2,n2,s2,o2,a2,u2⟩:=e2
    have h4:=c_pbin o _ _ k0 n0 s0 o0 a0 u0 k2 n2 s2 o2 a2 u2 rfl rfl
    simp only [encR,Ex.row,go1,Nat.reduceAdd,Int.reduceEq,Int.reduceLT,Int.reduceLE,Int.reduceSub,Int.reduceAdd,List.cons_append,List.nil_append,h4,binE]
    rfl
theorem a_pun {l:List Tk}(hl:LOK l){p:PR}(hp:HP l p)(i:Nat)(hi:i < l.length)(hne:unS l p i≠ .out):cF 1000329 (kP 352 (trows l) (i:Int))=some (encR Ex.row l (unS l p i)):=by
 have h1:=c_take l hl i hi (bs [45])
 have h2:=c_take l hl i hi (bs [110,111,116])
 have h3:=c_take l hl i hi (bs [112,114,101])
 refine cOfB (f:=329) (by kernel_rfl) (by with_reducible first|exact dec1 _ _|exact dec2 _ _ _|exact dec3 _ _|exact dec4 _ _ _|exact dec5 _ _ _ _|exact dec6 _ _ _|exact dec7 _ _ _|exact dec8 _ _ _ _|exact dec9 _ _ _ _ _) (by kernel_rfl) rfl ?_
 rw[b329_eq]
 simp only [b329,oE,oP,oR,oT,go1,Nat.reduceAdd,Int.reduceEq,Int.reduceLT,Int.reduceLE,Int.reduceSub,Int.reduceAdd,h1]
 unfold unS at hne ⊢
 cases t1:isT l i (bs [45])with
 |true=>
  rw[t1]at hne
  simp only at hne ⊢
  have h4:cF 1000329 (kP 352 (trows l) ((i+1:Nat):Int))=_:=hp.c .un (i+1) (hl.next hi (isT_k t1)) (ne_bind hne)
  simp only [go1,Nat.reduceAdd,Int.reduceEq,Int.reduceLT,Int.reduceLE,Int.reduceSub,Int.reduceAdd,h4]
  cases hr:p .un (i+1)with
  |out=>rw[hr]at hne;exact(hne rfl).elim
  |bad j=>rfl
  |ok e j=>obtain⟨k0,n0,s0,o0,a0,u0⟩:=e;rfl
 |false=>
  rw[t1]at hne
  simp only [go1,Nat.reduceAdd,Int.reduceEq,Int.reduceLT,Int.reduceLE,Int.reduceSub,Int.reduceAdd,h2]at hne ⊢
  cases t2:isT l i (bs [110,111,116])with
  |true=>
   rw[t2]at hne
   simp only at hne ⊢
   have h4:cF 1000329 (kP 352 (trows l) ((i+1:Nat):Int))=_:=hp.c .un (i+1) (hl.next hi (isT_k t2)) (ne_bind hne)
   simp only [go1,Nat.reduceAdd,Int.reduceEq,Int.reduceLT,Int.reduceLE,Int.reduceSub,Int.reduceAdd,h4]
   cases hr:p .un (i+1)with
   |out=>rw[hr]at hne;exact(hne rfl).elim
   |bad j=>rfl
   |ok e j=>obtain⟨k0,n0,s0,o0,a0,u0⟩:=e;rfl
  |false=>
   rw[t2]at hne
   simp only [go1,Nat.reduceAdd,Int.reduceEq,Int.reduceLT,Int.reduceLE,Int.reduceSub,Int.reduceAdd,h3]at hne ⊢
   cases t3:isT l i (bs [112,114,101])with
   |true=>
    rw[t3]at hne
    simp only at hne ⊢
    have h4:cF 1000329 (kP 352 (trows l) ((i+1:Nat):Int))=_:=hp.c .un (i+1) (hl.next hi (isT_k t3)) (ne_bind hne)
    simp only [go1,Nat.reduceAdd,Int.reduceEq,Int.reduceLT,Int.reduceLE,Int.reduceSub,Int.reduceAdd,h4]
    cases hr:p .un (i+1)with
    |out=>rw[hr]at hne;exact(hne rfl).elim
    |bad j=>rfl
    |ok e j=>obtain⟨k0,n0,s0,o0,a0,u0⟩:=e;rfl
   |false=>
    rw[t3]at hne
    simp only at hne ⊢
    have h4:cF 1000330 (kP 352 (trows l) (i:Int))=_:=hp.c .post i hi hne
    simp only [go1,Nat.reduceAdd,Int.reduceEq,Int.reduceLT,Int.reduceLE,Int.reduceSub,Int.reduceAdd,h4]
    cases hr:p .post i with
    |out=>exact(hne hr).elim
    |bad j=>rfl
    |ok e j=>obtain⟨k0,n0,s0,o0,a0,u0⟩:=e;rfl
theorem rows_snoc (e:Ex): ∀es:List Ex,Ex.rows (es++[e])=Ex.rows es++[e.row]
 | []=>rfl
 |a::es=>by show a.row::Ex.rows (es++[e])=_;rw[rows_snoc e es];rfl
theorem rows_len: ∀es:List Ex,(Ex.rows es).length=es.length
 | []=>rfl
 |a::es=>by show(a.row::Ex.rows es).length=_;rw[List.length_cons,rows_len es];rfl
theorem srowC (s:ByteArray)(w:List ByteArray):[D.str s]::srows w=srows (s::w):=rfl
theorem needS_le {l:List Tk}{u:Unit}: ∀ {w:List ByteArray} {i j:Nat},needS l w i= .ok u j→i≤j
 | [],i,j,h=>by cases h;exact Nat.le_refl _
 |x::w,i,j,h=>by
  unfold needS at h
  split at h
  ·have:=needS_le h;omega
  ·cases h
theorem armS_le {l:List Tk}{i j:Nat}{a:ByteArray}(h:armS l i= .ok a j):j=i+1:=by
 unfold armS at h;split at h<;>cases h;rfl
theorem nameS_le {l:List Tk}{i j:Nat}{a:ByteArray}(h:nameS l i= .ok a j):j=i+1:=by
 unfold nameS at h;split at h<;>cases h;rfl
section
variable {l : List Tk} (hl : LOK l) {n : Nat} {p : PR} (hp : HP l p)
include hl hp
theorem a_ppost (i:Nat)(hi:i < l.length)(hne:postS l n p i≠ .out):cF 1000330 (kP 352 (trows l) (i:Int))=some (encR Ex.row l (postS l n p i)):=by
 have h1:cF 1000331 (kP 352 (trows l) (i:Int))=_:=hp.c .atom i hi (ne_bind hne)
 refine cOfB (f:=330) (by kernel_rfl) (by with_reducible first|exact dec1 _ _|exact dec2 _ _ _|exact dec3 _ _|exact dec4 _ _ _|exact dec5 _ _ _ _|exact dec6 _ _ _|exact dec7 _ _ _|exact dec8 _ _ _ _|exact dec9 _ _ _ _ _) (by kernel_rfl) rfl ?_
 rw[b330_eq]
 simp only [b330,oE,oP,oR,oT,go1,Nat.reduceAdd,Int.reduceEq,Int.reduceLT,Int.reduceLE,Int.reduceSub,Int.reduceAdd,h1,srow1]
 unfold postS at hne ⊢
 cases hr:p .atom i with
 |out=>rw[hr]at hne;exact(hne rfl).elim
 |bad j=>rfl
 |ok e j=>
  have hj:=hp.lt _ _ _ _ hi hr
  rw[hr]at hne
  rw[Rs.bind_ok]at hne ⊢
  generalize hR:iterS (postT l p) n (e,j)=R at hne ⊢
  have e0: ∃k0 n0 s0 o0 a0 u0,e= .mk k0 n0 s0 o0 a0 u0:=by obtain⟨k0,n0,s0,o0,a0,u0⟩:=e;exact⟨_,_,_,_,_,_,rfl⟩
  obtain⟨k0,n0,s0,o0,a0,u0,rfl⟩:=e0
  simp only [encR,Ex.row,go1,Nat.reduceAdd,Int.reduceEq,Int.reduceLT,Int.reduceLE,Int.reduceSub,Int.reduceAdd,List.cons_append,List.nil_append]
  refine loopF_at (fun x:Nat × Ex × Nat=>[.sl 4 (trows l), .int .i64 (x.2.2:Int), .int .i64 0, .int .i64 0, .str (bs []), .int .i64 0]++x.2.1.row) (fun x=>iterS (postT l p) x.1 (x.2.1,x.2.2)=R∧x.2.2 < l.length) (fun x=>x.1) (fun x hx=> ?_) (n, .mk k0 n0 s0 o0 a0 u0,j) ⟨hR,hj⟩
  obtain⟨n1,⟨k1,m1,s1,o1,a1,u1⟩,i1⟩:=x
  obtain⟨hx,hi1⟩:=hx
  simp only at hx hi1 ⊢
  cases n1 with
  |zero=>exact(hne hx.symm).elim
  |succ n1=>
   have h2:=c_take l hl i1 hi1 (bs [91])
   have h3:=c_take l hl i1 hi1 (bs [119,104,101,110])
   rw[iterS,postT]at hx
   simp only [Ex.row,go1,Nat.reduceAdd,Int.reduceEq,Int.reduceLT,Int.reduceLE,Int.reduceSub,Int.reduceAdd,List.cons_append,List.nil_append,h2]
   cases ht:isT l i1 (bs [91])with
   |true=>
    have hi2:=hl.next hi1 (isT_k ht)
    rw[ht]at hx
    simp only at hx
    have hq:p .arrow (i1+1)≠ .out:=fun e=>hne (by rw[e]at hx;exact hx.symm)
    have h4:cF 1000266 (kP 352 (trows l) ((i1+1:Nat):Int))=_:=hp.c .arrow (i1+1) hi2 hq
    simp only [go1,Nat.reduceAdd,Int.reduceEq,Int.reduceLT,Int.reduceLE,Int.reduceSub,Int.reduceAdd,h4]
    cases hr2:p .arrow (i1+1)with
    |out=>exact(hq hr2).elim
    |bad j2=>right;rw[hr2]at hx;rw[←hx];rfl
    |ok e2 j2=>
     have hj2:=hp.lt _ _ _ _ hi2 hr2
     obtain⟨k3,n3,s3,o3,a3,u3⟩:=e2
     have h5:=c_pneed l hl [bs [93]] (by simp) j2 hj2
     simp only [encR,Ex.row,go1,Nat.reduceAdd,Int.reduceEq,Int.reduceLT,Int.reduceLE,Int.reduceSub,Int.reduceAdd,List.cons_append,List.nil_append,h5]
     rw[hr2,Rs.bind_ok]at hx
     cases hr3:needS l [bs [93]] j2 with
     |out=>exact(needS_no hr3).elim
     |bad j3=>right;rw[hr3]at hx;rw[←hx];rfl
     |ok u j3=>
      left
      rw[hr3]at hx
      exact⟨(n1,ex 15 [.mk k1 m1 s1 o1 a1 u1, .mk k3 n3 s3 o3 a3 u3],j3),rfl,⟨hx,needS_lt hl hj2 hr3⟩,Nat.lt_succ_self _⟩
   |false=>
    rw[ht]at hx
    simp only [go1,Nat.reduceAdd,Int.reduceEq,Int.reduceLT,Int.reduceLE,Int.reduceSub,Int.reduceAdd,h3]at hx ⊢
    cases ht2:isT l i1 (bs [119,104,101,110])with
    |true=>
     have hi2:=hl.next hi1 (isT_k ht2)
     have h4:=c_pwhen l hl (i1+1) hi2
     rw[ht2]at hx
     simp only [go1,Nat.reduceAdd,Int.reduceEq,Int.reduceLT,Int.reduceLE,Int.reduceSub,Int.reduceAdd,h4]at hx ⊢
     cases hr2:whenS l (i1+1)with
     |out=>rw[hr2]at hx;exact(hne hx.symm).elim
     |bad j2=>right;rw[hr2]at hx;rw[←hx];rfl
     |ok w j2=>
      left
      rw[hr2]at hx
      obtain⟨w1,w2⟩:=w
      exact⟨(n1, .mk 11 0 w1 0 [w2] [.mk k1 m1 s1 o1 a1 u1],j2),rfl,⟨hx,whenS_lt hl hi2 hr2⟩,Nat.lt_succ_self _⟩
    |false=>
     right
     rw[ht2]at hx
     rw[←hx]
     rfl
theorem a_pround (i:Nat)(hi:i < l.length)(hne:roundS l p i≠ .out):cF 1000334 (kP 352 (trows l) (i:Int))=some (encR Ex.row l (roundS l p i)):=by
 have h1:cF 1000266 (kP 352 (trows l) (i:Int))=_:=hp.c .arrow i hi (ne_bind hne)
 refine cOfB (f:=334) (by kernel_rfl) (by with_reducible first|exact dec1 _ _|exact dec2 _ _ _|exact dec3 _ _|exact dec4 _ _ _|exact dec5 _ _ _ _|exact dec6 _ _ _|exact dec7 _ _ _|exact dec8 _ _ _ _|exact dec9 _ _ _ _ _) (by kernel_rfl) rfl ?_
 rw[b334_eq]
 simp only [b334,oE,oP,oR,oT,go1,Nat.reduceAdd,Int.reduceEq,Int.reduceLT,Int.reduceLE,Int.reduceSub,Int.reduceAdd,h1,srow1,srowC]
 unfold roundS at hne ⊢
 cases hr:p .arrow i with
 |out=>rw[hr]at hne;exact(hne rfl).elim
 |bad j=>rfl
 |ok e j=>
  have hj:=hp.lt _ _ _ _ hi hr
  rw[hr]at hne
  rw[Rs.bind_ok]at hne ⊢
  obtain⟨k0,n0,s0,o0,a0,u0⟩:=e
  have h2:=c_take l hl j hj (bs [119,105,116,104])
  simp only [encR,Ex.row,go1,Nat.reduceAdd,Int.reduceEq,Int.reduceLT,Int.reduceLE,Int.reduceSub,Int.reduceAdd,List.cons_append,List.nil_append,h2]
  cases ht:isT l j (bs [119,105,116,104])with
  |false=>
   have h3:=c_pneed l hl [bs [41]] (by simp) j hj
   simp only [go1,Nat.reduceAdd,Int.reduceEq,Int.reduceLT,Int.reduceLE,Int.reduceSub,Int.reduceAdd,h3]
   cases hr2:needS l [bs [41]] j<;>first|rfl|exact(needS_no hr2).elim
  |true=>
   rw[ht]at hne
   simp only at hne ⊢
   have hj1:=hl.next hj (isT_k ht)
   have h3:=c_pneed l hl [bs [91]] (by simp) (j+1) hj1
   simp only [go1,Nat.reduceAdd,Int.reduceEq,Int.reduceLT,Int.reduceLE,Int.reduceSub,Int.reduceAdd,h3]
   cases hr2:needS l [bs [91]] (j+1)with
   |out=>exact(needS_no hr2).elim
   |bad k=>rfl
   |ok u k=>
    have hk:=needS_lt hl hj1 hr2
    rw[hr2,Rs.bind_ok]at hne
    have h4:cF 1000266 (kP 352 (trows l) (k:Int))=_:=hp.c .arrow k hk (ne_bind hne)
    simp only [encN,go1,Nat.reduceAdd,Int.reduceEq,Int.reduceLT,Int.reduceLE,Int.reduceSub,Int.reduceAdd,h4,Rs.bind_ok]
    cases hr3:p .arrow k with
    |out=>rw[hr3]at hne;exact(hne rfl).elim
    |bad m=>rfl
    |ok a m=>
     have hm:=hp.lt _ _ _ _ hk hr3
     rw[hr3,Rs.bind_ok]at hne
     obtain⟨k1,n1,s1,o1,a1,u1⟩:=a
     have h5:=c_pneed l hl [bs [93],bs [61]] (by simp) m hm
     simp only [encR,Ex.row,go1,Nat.reduceAdd,Int.reduceEq,Int.reduceLT,Int.reduceLE,Int.reduceSub,Int.reduceAdd,List.cons_append,List.nil_append,h5,Rs.bind_ok]
     cases hr4:needS l [bs [93],bs [61]] m with
     |out=>exact(needS_no hr4).elim
     |bad q=>rfl
     |ok u2 q=>
      have hq:=needS_lt hl hm hr4
      rw[hr4,Rs.bind_ok]at hne
      have h6:cF 1000266 (kP 352 (trows l) (q:Int))=_:=hp.c .arrow q hq (ne_bind hne)
      simp only [encN,go1,Nat.reduceAdd,Int.reduceEq,Int.reduceLT,Int.reduceLE,Int.reduceSub,Int.reduceAdd,h6,Rs.bind_ok]
      cases hr5:p .arrow q with
      |out=>rw[hr5]at hne;exact(hne rfl).elim
      |bad m=>rfl
      |ok b z=>
       have hz:=hp.lt _ _ _ _ hq hr5
       obtain⟨k2,n2,s2,o2,a2,u2⟩:=b
       have h7:=c_pneed l hl [bs [41]] (by simp) z hz
       simp only [encR,Ex.row,go1,Nat.reduceAdd,Int.reduceEq,Int.reduceLT,Int.reduceLE,Int.reduceSub,Int.reduceAdd,List.cons_append,List.nil_append,h7,Rs.bind_ok]
       cases hr6:needS l [bs [41]] z<;>first|rfl|exact(needS_no hr6).elim
theorem a_pchoice (i:Nat)(hi:i < l.length)(hne:choiceS l p i≠ .out):cF 1000336 (kP 352 (trows l) (i:Int))=some (encR Ex.row l (choiceS l p i)):=by
 have h1:cF 1000266 (kP 352 (trows l) (i:Int))=_:=hp.c .arrow i hi (ne_bind hne)
 refine cOfB (f:=336) (by kernel_rfl) (by with_reducible first|exact dec1 _ _|exact dec2 _ _ _|exact dec3 _ _|exact dec4 _ _ _|exact dec5 _ _ _ _|exact dec6 _ _ _|exact dec7 _ _ _|exact dec8 _ _ _ _|exact dec9 _ _ _ _ _) (by kernel_rfl) rfl ?_
 rw[b336_eq]
 simp only [b336,oE,oP,oR,oT,go1,Nat.reduceAdd,Int.reduceEq,Int.reduceLT,Int.reduceLE,Int.reduceSub,Int.reduceAdd,h1,srow1]
 unfold choiceS at hne ⊢
 cases hr:p .arrow i with
 |out=>rw[hr]at hne;exact(hne rfl).elim
 |bad j=>rfl
 |ok e j=>
  have hj:=hp.lt _ _ _ _ hi hr
  rw[hr]at hne
  rw[Rs.bind_ok]at hne ⊢
  obtain⟨k0,n0,s0,o0,a0,u0⟩:=e
  have h3:=c_pneed l hl [bs [116,104,101,110]] (by simp) j hj
  simp only [encR,Ex.row,go1,Nat.reduceAdd,Int.reduceEq,Int.reduceLT,Int.reduceLE,Int.reduceSub,Int.reduceAdd,List.cons_append,List.nil_append,h3]
  cases hr2:needS l [bs [116,104,101,110]] j with
  |out=>exact(needS_no hr2).elim
  |bad k=>rfl
  |ok u k=>
   have hk:=needS_lt hl hj hr2
   rw[hr2,Rs.bind_ok]at hne
   have h4:cF 1000266 (kP 352 (trows l) (k:Int))=_:=hp.c .arrow k hk (ne_bind hne)
   simp only [encN,go1,Nat.reduceAdd,Int.reduceEq,Int.reduceLT,Int.reduceLE,Int.reduceSub,Int.reduceAdd,h4,Rs.bind_ok]
   cases hr3:p .arrow k with
   |out=>rw[hr3]at hne;exact(hne rfl).elim
   |bad m=>rfl
   |ok a m=>
    have hm:=hp.lt _ _ _ _ hk hr3
    rw[hr3,Rs.bind_ok]at hne
    obtain⟨k1,n1,s1,o1,a1,u1⟩:=a
    have h5:=c_pneed l hl [bs [101,108,115,101]] (by simp) m hm
    simp only [encR,Ex.row,go1,Nat.reduceAdd,Int.reduceEq,Int.reduceLT,Int.reduceLE,Int.reduceSub,Int.reduceAdd,List.cons_append,List.nil_append,h5,Rs.bind_ok]
    cases hr4:needS l [bs [101,108,115,101]] m with
    |out=>exact(needS_no hr4).elim
    |bad q=>rfl
    |ok u2 q=>
     have hq:=needS_lt hl hm hr4
     rw[hr4,Rs.bind_ok]at hne
     have h6:cF 1000266 (kP 352 (trows l) (q:Int))=_:=hp.c .arrow q hq (ne_bind hne)
     simp only [encN,go1,Nat.reduceAdd,Int.reduceEq,Int.reduceLT,Int.reduceLE,Int.reduceSub,Int.reduceAdd,h6,Rs.bind_ok]
     cases hr5:p .arrow q with
     |out=>rw[hr5]at hne;exact(hne rfl).elim
     |bad m=>rfl
     |ok b z=>obtain⟨k2,n2,s2,o2,a2,u2⟩:=b;rfl
theorem lenfit {es:List Ex}{i:Nat}(he:es.length≤i)(hi:i < l.length)(r:List D):decide (((Ex.rows es).length+[r].length)*(88+1)≤140737488355328)=true:=by
 have:=hl.few
 rw[rows_len]
 exact decide_eq_true (by simp only [List.length_cons,List.length_nil];omega)
theorem a_callU {β:Type}(f:PRes→β)(nm:ByteArray)(es:List Ex)(j:Nat)(hj:j < l.length)(he:es.length≤j)(hne:callU l p nm es j≠ .out):
  ((cF 1000286 (kS 0 (bs [101,118,101,114,121]) (trows l) (j:Int))).bind fun p62=>(opB (sy.cell p62.leaves 0)).bind fun b64=>(opL (sy.cell p62.leaves 1) 4).bind fun l65=>(opI (sy.cell p62.leaves 2) .i64).bind fun n66=>
    bif b64 then(cF 1000330 (kP 352 l65 n66)).bind fun p67=>(opB (sy.cell p67.leaves 0)).bind fun b69=>
     bif b69 then(opI (sy.cell p67.leaves 1) .i64).bind fun n70=>(opL (sy.cell p67.leaves 2) 4).bind fun l71=>(opI (sy.cell p67.leaves 3) .i64).bind fun n72=>some (f (PRes.val [.bool true, .int .i64 n70, .sl 4 l71, .int .i64 n72]))
     else(opI (sy.cell p67.leaves 1) .i64).bind fun n73=>(opI (sy.cell p67.leaves 2) .i64).bind fun n74=>(opS (sy.cell p67.leaves 3)).bind fun s75=>(opI (sy.cell p67.leaves 4) .i64).bind fun n76=>(opL (sy.cell p67.leaves 5) 1).bind fun l77=>(opL (sy.cell p67.leaves 6) 6).bind fun l78=>
      (opL (sy.cell p67.leaves 7) 4).bind fun l79=>(opI (sy.cell p67.leaves 8) .i64).bind fun n80=>
       bif decide (((Ex.rows es).length+[[D.int .i64 n73, .int .i64 n74, .str s75, .int .i64 n76, .sl 1 l77, .sl 6 l78]].length)*(88+1)≤140737488355328)then
        some (f (PRes.val [.bool false, .int .i64 13, .int .i64 1, .str nm, .int .i64 0, .sl 1 [], .sl 6 (Ex.rows es++[[.int .i64 n73, .int .i64 n74, .str s75, .int .i64 n76, .sl 1 l77, .sl 6 l78]]), .sl 4 l79, .int .i64 n80]))
       else none
    else some (f (PRes.val [.bool false, .int .i64 13, .int .i64 0, .str nm, .int .i64 0, .sl 1 [], .sl 6 (Ex.rows es), .sl 4 l65, .int .i64 n66])))=some (f (encR Ex.row l (callU l p nm es j))):=by
 have h1:=c_take l hl j hj (bs [101,118,101,114,121])
 unfold callU at hne ⊢
 rw[h1]
 cases ht:isT l j (bs [101,118,101,114,121])with
 |false=>simp only [go1,Nat.reduceAdd,Int.reduceEq,Int.reduceLT,Int.reduceLE,Int.reduceSub,Int.reduceAdd];rfl
 |true=>
  rw[ht]at hne
  simp only at hne
  have hj1:=hl.next hj (isT_k ht)
  have h2:cF 1000330 (kP 352 (trows l) ((j+1:Nat):Int))=_:=hp.c .post (j+1) hj1 (ne_bind hne)
  simp only [go1,Nat.reduceAdd,Int.reduceEq,Int.reduceLT,Int.reduceLE,Int.reduceSub,Int.reduceAdd,h2]
  cases hr:p .post (j+1)with
  |out=>rw[hr]at hne;exact(hne rfl).elim
  |bad k=>rfl
  |ok e k=>
   obtain⟨k0,n0,s0,o0,a0,u0⟩:=e
   have h3:=lenfit hl hp he hj (Ex.row (.mk k0 n0 s0 o0 a0 u0))
   simp only [Ex.row]at h3
   simp only [encR,Ex.row,go1,Nat.reduceAdd,Int.reduceEq,Int.reduceLT,Int.reduceLE,Int.reduceSub,Int.reduceAdd,List.cons_append,List.nil_append,h3,Rs.bind_ok,rows_snoc]
   rfl
theorem a_pcall (nm:ByteArray)(i:Nat)(hi:i < l.length)(hne:callS l n p nm i≠ .out):cF 1000337 (kS 352 nm (trows l) (i:Int))=some (encR Ex.row l (callS l n p nm i)):=by
 have h1:=c_take l hl i hi (bs [41])
 refine cOfB (f:=337) (by kernel_rfl) (by with_reducible first|exact dec1 _ _|exact dec2 _ _ _|exact dec3 _ _|exact dec4 _ _ _|exact dec5 _ _ _ _|exact dec6 _ _ _|exact dec7 _ _ _|exact dec8 _ _ _ _|exact dec9 _ _ _ _ _) (by kernel_rfl) rfl ?_
 rw[b337_eq]
 simp only [b337,oE,oP,oR,oT,go1,Nat.reduceAdd,Int.reduceEq,Int.reduceLT,Int.reduceLE,Int.reduceSub,Int.reduceAdd,h1,srow1]
 unfold callS at hne ⊢
 cases ht:isT l i (bs [41])with
 |true=>
  rw[ht]at hne
  simp only [go1,Nat.reduceAdd,Int.reduceEq,Int.reduceLT,Int.reduceLE,Int.reduceSub,Int.reduceAdd,Bool.not_true]at hne ⊢
  have:=a_callU hl hp (fun x=>x) nm [] (i+1) (hl.next hi (isT_k ht)) (Nat.zero_le _) hne
  exact this
 |false=>
  rw[ht]at hne
  simp only [go1,Nat.reduceAdd,Int.reduceEq,Int.reduceLT,Int.reduceLE,Int.reduceSub,Int.reduceAdd,Bool.not_false]at hne ⊢
  have hq:p .arrow i≠ .out:=ne_bind (ne_bind hne)
  have h2:cF 1000266 (kP 352 (trows l) (i:Int))=_:=hp.c .arrow i hi hq
  unfold listS at hne ⊢
  rw[h2]
  cases hr:p .arrow i with
  |out=>exact(hq hr).elim
  |bad j=>rfl
  |ok e j=>
   have hj:=hp.lt _ _ _ _ hi hr
   have hg:=hp.gt _ _ _ _ hi hr
   rw[hr]at hne
   rw[Rs.bind_ok]at hne ⊢
   generalize hR:iterS (listT l p (bs [41])) n ([e],j)=R at hne ⊢
   have e0: ∃k0 n0 s0 o0 a0 u0,e= .mk k0 n0 s0 o0 a0 u0:=by obtain⟨k0,n0,s0,o0,a0,u0⟩:=e;exact⟨_,_,_,_,_,_,rfl⟩
   obtain⟨k0,n0,s0,o0,a0,u0,rfl⟩:=e0
   simp only [encR,Ex.row,go1,Nat.reduceAdd,Int.reduceEq,Int.reduceLT,Int.reduceLE,Int.reduceSub,Int.reduceAdd,List.cons_append,List.nil_append]
   refine loopF_at (fun x:Nat × List Ex × Nat=>[.str (bs [41]), .sl 4 (trows l), .int .i64 (x.2.2:Int), .int .i64 0, .int .i64 0, .str (bs []), .int .i64 0, .int .i64 13, .int .i64 0, .str nm, .int .i64 0, .sl 6 (Ex.rows x.2.1)]) (fun x=>iterS (listT l p (bs [41])) x.1 (x.2.1,x.2.2)=R∧x.2.2 < l.length∧x.2.1.length≤x.2.2) (fun x=>x.1) (fun x hx=> ?_) (n,[.mk k0 n0 s0 o0 a0 u0],j) ⟨hR,hj,by simp only [List.length_cons,List.length_nil];omega⟩
   obtain⟨n1,es,i1⟩:=x
   obtain⟨hx,hi1,hel⟩:=hx
   simp only at hx hi1 hel ⊢
   cases n1 with
   |zero=>exact(hne (by rw[←hx];rfl)).elim
   |succ n1=>
    have h3:=c_take l hl i1 hi1 (bs [44])
    rw[iterS,listT]at hx
    simp only [go1,Nat.reduceAdd,Int.reduceEq,Int.reduceLT,Int.reduceLE,Int.reduceSub,Int.reduceAdd,h3]
    cases ht2:isT l i1 (bs [44])with
    |true=>
     have hi2:=hl.next hi1 (isT_k ht2)
     rw[ht2]at hx
     simp only at hx
     have hq2:p .arrow (i1+1)≠ .out:=fun e=>hne (by rw[e]at hx;rw[←hx];rfl)
     have h4:cF 1000266 (kP 352 (trows l) ((i1+1:Nat):Int))=_:=hp.c .arrow (i1+1) hi2 hq2
     simp only [go1,Nat.reduceAdd,Int.reduceEq,Int.reduceLT,Int.reduceLE,Int.reduceSub,Int.reduceAdd,h4]
     cases hr2:p .arrow (i1+1)with
     |out=>exact(hq2 hr2).elim
     |bad j2=>right;rw[hr2]at hx;rw[←hx];rfl
     |ok e2 j2=>
      left
      have hj2:=hp.lt _ _ _ _ hi2 hr2
      have hg2:=hp.gt _ _ _ _ hi2 hr2
      rw[hr2]at hx
      obtain⟨k3,n3,s3,o3,a3,u3⟩:=e2
      have h5:=lenfit hl hp hel hi1 (Ex.row (.mk k3 n3 s3 o3 a3 u3))
      simp only [Ex.row]at h5
      refine⟨(n1,es++[.mk k3 n3 s3 o3 a3 u3],j2),?_,⟨hx,hj2,by simp only [List.length_append,List.length_cons,List.length_nil];omega⟩,Nat.lt_succ_self _⟩
      simp only [encR,Ex.row,go1,Nat.reduceAdd,Int.reduceEq,Int.reduceLT,Int.reduceLE,Int.reduceSub,Int.reduceAdd,List.cons_append,List.nil_append,h5,rows_snoc]
    |false=>
     right
     rw[ht2]at hx
     simp only [go1,Nat.reduceAdd,Int.reduceEq,Int.reduceLT,Int.reduceLE,Int.reduceSub,Int.reduceAdd]at hx ⊢
     have h4:=c_pneed l hl [bs [41]] (by simp) i1 hi1
     simp only [h4,go1,Nat.reduceAdd,Int.reduceEq,Int.reduceLT,Int.reduceLE,Int.reduceSub,Int.reduceAdd]
     cases hr3:needS l [bs [41]] i1 with
     |out=>exact(needS_no hr3).elim
     |bad j3=>rw[hr3]at hx;rw[←hx];rfl
     |ok u j3=>
      rw[hr3,Rs.bind_ok]at hx
      rw[←hx,Rs.bind_ok]at hne ⊢
      have hj3:=needS_lt hl hi1 hr3
      have:=a_callU hl hp (Sum.inr (α:=List D)) nm es j3 hj3 (by have:=needS_le hr3;omega) hne
      simp only [encN,go1,Nat.reduceAdd,Int.reduceEq,Int.reduceLT,Int.reduceLE,Int.reduceSub,Int.reduceAdd]
      exact this
theorem a_pmerge (i:Nat)(hi:i < l.length)(hne:mergeS l n p i≠ .out):cF 1000335 (kP 352 (trows l) (i:Int))=some (encR Ex.row l (mergeS l n p i)):=by
 have h1:=c_pname l hl i hi
 refine cOfB (f:=335) (by kernel_rfl) (by with_reducible first|exact dec1 _ _|exact dec2 _ _ _|exact dec3 _ _|exact dec4 _ _ _|exact dec5 _ _ _ _|exact dec6 _ _ _|exact dec7 _ _ _|exact dec8 _ _ _ _|exact dec9 _ _ _ _ _) (by kernel_rfl) rfl ?_
 rw[b335_eq]
 simp only [b335,oE,oP,oR,oT,go1,Nat.reduceAdd,Int.reduceEq,Int.reduceLT,Int.reduceLE,Int.reduceSub,Int.reduceAdd,h1,srow1]
 unfold mergeS at hne ⊢
 cases hr:nameS l i with
 |out=>exact(nameS_no hr).elim
 |bad j=>rfl
 |ok nm j=>
  have hj:=nameS_lt hl hi hr
  rw[hr,Rs.bind_ok]at hne
  have h2:=c_pneed l hl [bs [40]] (by simp) j hj
  simp only [encR,sD,go1,Nat.reduceAdd,Int.reduceEq,Int.reduceLT,Int.reduceLE,Int.reduceSub,Int.reduceAdd,List.cons_append,List.nil_append,h2,Rs.bind_ok]
  cases hr2:needS l [bs [40]] j with
  |out=>exact(needS_no hr2).elim
  |bad k=>rfl
  |ok u k=>
   have hk:=needS_lt hl hj hr2
   rw[hr2,Rs.bind_ok]at hne
   rw[Rs.bind_ok]
   generalize hR:iterS (mergeT l p) n ([],[],k,true)=R at hne ⊢
   simp only [encN,go1,Nat.reduceAdd,Int.reduceEq,Int.reduceLT,Int.reduceLE,Int.reduceSub,Int.reduceAdd]
   refine loopF_at (fun x:Nat × List ByteArray × List Ex × Nat × Bool=>[.bool x.2.2.2.2, .sl 4 (trows l), .int .i64 (x.2.2.2.1:Int), .int .i64 0, .int .i64 0, .str (bs []), .int .i64 0, .int .i64 12, .int .i64 0, .str nm, .int .i64 0, .sl 1 (srows x.2.1), .sl 6 (Ex.rows x.2.2.1)]) (fun x=>iterS (mergeT l p) x.1 (x.2.1,x.2.2.1,x.2.2.2.1,x.2.2.2.2)=R∧x.2.2.2.1 < l.length∧x.2.2.1.length≤x.2.2.2.1∧x.2.1.length≤x.2.2.2.1) (fun x=>x.1) (fun x hx=> ?_) (n,[],[],k,true) ⟨hR,hk,Nat.zero_le _,Nat.zero_le _⟩
   obtain⟨n1,ar,es,i1,ag⟩:=x
   obtain⟨hx,hi1,hel,hal⟩:=hx
   simp only at hx hi1 hel hal ⊢
   cases n1 with
   |zero=>exact(hne (by rw[←hx];rfl)).elim
   |succ n1=>
    cases ag with
    |false=>
     right
     rw[iterS,mergeT]at hx
     simp only [go1,Nat.reduceAdd,Int.reduceEq,Int.reduceLT,Int.reduceLE,Int.reduceSub,Int.reduceAdd]
     rw[←hx];rfl
    |true=>
     rw[iterS,mergeT]at hx
     have h3:=c_parm l hl i1 hi1
     simp only [go1,Nat.reduceAdd,Int.reduceEq,Int.reduceLT,Int.reduceLE,Int.reduceSub,Int.reduceAdd,h3]
     cases hr3:armS l i1 with
     |out=>exact(armS_no hr3).elim
     |bad j2=>right;rw[hr3]at hx;rw[←hx];rfl
     |ok a j2=>
      have hj2:=armS_lt hl hi1 hr3
      rw[hr3,Rs.bind_ok]at hx
      have h4:=c_pneed l hl [bs [45,62]] (by simp) j2 hj2
      have hf:=hl.few
      have f1:decide (((srows ar).length+[[D.str a]].length)*(16+1)≤140737488355328)=true:=by
       rw[srows_len];exact decide_eq_true (by simp only [List.length_cons,List.length_nil];omega)
      have f1:decide (((srows ar).length+(srows [a]).length)*(16+1)≤140737488355328)=true:=f1
      simp only [encR,sD,go1,Nat.reduceAdd,Int.reduceEq,Int.reduceLT,Int.reduceLE,Int.reduceSub,Int.reduceAdd,List.cons_append,List.nil_append,srow1,f1,h4]
      cases hr4:needS l [bs [45,62]] j2 with
      |out=>exact(needS_no hr4).elim
      |bad j3=>right;rw[hr4]at hx;rw[←hx];rfl
      |ok u2 j3=>
       have hj3:=needS_lt hl hj2 hr4
       rw[hr4,Rs.bind_ok]at hx
       have hq:p .arrow j3≠ .out:=fun e=>hne (by rw[e]at hx;rw[←hx];rfl)
       have h5:cF 1000266 (kP 352 (trows l) (j3:Int))=_:=hp.c .arrow j3 hj3 hq
       simp only [encN,go1,Nat.reduceAdd,Int.reduceEq,Int.reduceLT,Int.reduceLE,Int.reduceSub,Int.reduceAdd,h5]
       cases hr5:p .arrow j3 with
       |out=>exact(hq hr5).elim
       |bad j4=>right;rw[hr5]at hx;rw[←hx];rfl
       |ok e j4=>
        have hj4:=hp.lt _ _ _ _ hj3 hr5
        have hg:=hp.gt _ _ _ _ hj3 hr5
        have l1:=armS_le hr3
        have l2:=needS_le hr4
        rw[hr5,Rs.bind_ok]at hx
        obtain⟨k3,n3,s3,o3,a3,u3⟩:=e
        have h6:=c_pneed l hl [bs [41]] (by simp) j4 hj4
        have f2:=lenfit hl hp hel hi1 (Ex.row (.mk k3 n3 s3 o3 a3 u3))
        simp only [Ex.row]at f2
        simp only [encR,Ex.row,go1,Nat.reduceAdd,Int.reduceEq,Int.reduceLT,Int.reduceLE,Int.reduceSub,Int.reduceAdd,List.cons_append,List.nil_append,f2,h6]
        cases hr6:needS l [bs [41]] j4 with
        |out=>exact(needS_no hr6).elim
        |bad j5=>right;rw[hr6]at hx;rw[←hx];rfl
        |ok u3' j5=>
         have hj5:=needS_lt hl hj4 hr6
         have l3:=needS_le hr6
         rw[hr6,Rs.bind_ok]at hx
         simp only at hx
         have h7:=c_take l hl j5 hj5 (bs [40])
         simp only [encN,go1,Nat.reduceAdd,Int.reduceEq,Int.reduceLT,Int.reduceLE,Int.reduceSub,Int.reduceAdd,h7]
         left
         cases ht:isT l j5 (bs [40])with
         |true=>
          rw[ht]at hx
          refine⟨(n1,ar++[a],es++[.mk k3 n3 s3 o3 a3 u3],j5+1,true),?_,⟨hx,hl.next hj5 (isT_k ht),by simp only [List.length_append,List.length_cons,List.length_nil];omega,by simp only [List.length_append,List.length_cons,List.length_nil];omega⟩,Nat.lt_succ_self _⟩
          simp only [go1,Nat.reduceAdd,Int.reduceEq,Int.reduceLT,Int.reduceLE,Int.reduceSub,Int.reduceAdd,rows_snoc,srows_app,Ex.row]
         |false=>
          rw[ht]at hx
          refine⟨(n1,ar++[a],es++[.mk k3 n3 s3 o3 a3 u3],j5,false),?_,⟨hx,hj5,by simp only [List.length_append,List.length_cons,List.length_nil];omega,by simp only [List.length_append,List.length_cons,List.length_nil];omega⟩,Nat.lt_succ_self _⟩
          simp only [go1,Nat.reduceAdd,Int.reduceEq,Int.reduceLT,Int.reduceLE,Int.reduceSub,Int.reduceAdd,rows_snoc,srows_app,Ex.row]
theorem a_pword (i:Nat)(hi:i < l.length)(hne:wordS l n p i≠ .out):cF 1000332 (kP 352 (trows l) (i:Int))=some (encR Ex.row l (wordS l n p i)):=by
 have h1:=c_take l hl i hi (bs [116,114,117,101])
 have h2:=c_take l hl i hi (bs [102,97,108,115,101])
 have h3:=c_take l hl i hi (bs [91])
 have h4:=c_take l hl i hi (bs [40])
 have h5:=c_take l hl i hi (bs [109,101,114,103,101])
 have h6:=c_take l hl i hi (bs [105,102])
 refine cOfB (f:=332) (by kernel_rfl) (by with_reducible first|exact dec1 _ _|exact dec2 _ _ _|exact dec3 _ _|exact dec4 _ _ _|exact dec5 _ _ _ _|exact dec6 _ _ _|exact dec7 _ _ _|exact dec8 _ _ _ _|exact dec9 _ _ _ _ _) (by kernel_rfl) rfl ?_
 rw[b332_eq]
 simp only [b332,oE,oP,oR,oT,go1,Nat.reduceAdd,Int.reduceEq,Int.reduceLT,Int.reduceLE,Int.reduceSub,Int.reduceAdd,h1,srow1]
 unfold wordS at hne ⊢
 cases t1:isT l i (bs [116,114,117,101])with
 |true=>rw[show isT l i bTrue=true from t1];rfl
 |false=>
  rw[show isT l i bTrue=false from t1]at hne ⊢
  simp only [go1,Nat.reduceAdd,Int.reduceEq,Int.reduceLT,Int.reduceLE,Int.reduceSub,Int.reduceAdd,h2]at hne ⊢
  cases t2:isT l i (bs [102,97,108,115,101])with
  |true=>rw[show isT l i bFalse=true from t2];rfl
  |false=>
   rw[show isT l i bFalse=false from t2]at hne ⊢
   simp only [go1,Nat.reduceAdd,Int.reduceEq,Int.reduceLT,Int.reduceLE,Int.reduceSub,Int.reduceAdd,h3]at hne ⊢
   cases t3:isT l i (bs [91])with
   |true=>
    have hi1:=hl.next hi (isT_k t3)
    rw[t3]at hne
    simp only [go1,Nat.reduceAdd,Int.reduceEq,Int.reduceLT,Int.reduceLE,Int.reduceSub,Int.reduceAdd]at hne ⊢
    have hq:p .arrow (i+1)≠ .out:=ne_bind (ne_bind hne)
    have k2:cF 1000266 (kP 352 (trows l) ((i+1:Nat):Int))=_:=hp.c .arrow (i+1) hi1 hq
    unfold listS at hne ⊢
    rw[k2]
    cases hr:p .arrow (i+1)with
    |out=>exact(hq hr).elim
    |bad j=>rfl
    |ok e j=>
     have hj:=hp.lt _ _ _ _ hi1 hr
     have hg:=hp.gt _ _ _ _ hi1 hr
     rw[hr]at hne
     rw[Rs.bind_ok]at hne ⊢
     generalize hR:iterS (listT l p (bs [93])) n ([e],j)=R at hne ⊢
     have e0: ∃k0 n0 s0 o0 a0 u0,e= .mk k0 n0 s0 o0 a0 u0:=by obtain⟨k0,n0,s0,o0,a0,u0⟩:=e;exact⟨_,_,_,_,_,_,rfl⟩
     obtain⟨k0,n0,s0,o0,a0,u0,rfl⟩:=e0
     simp only [encR,Ex.row,go1,Nat.reduceAdd,Int.reduceEq,Int.reduceLT,Int.reduceLE,Int.reduceSub,Int.reduceAdd,List.cons_append,List.nil_append]
     refine loopF_at (fun x:Nat × List Ex × Nat=>[.str (bs [93]), .sl 4 (trows l), .int .i64 (x.2.2:Int), .int .i64 0, .int .i64 0, .str (bs []), .int .i64 0, .sl 6 (Ex.rows x.2.1)]) (fun x=>iterS (listT l p (bs [93])) x.1 (x.2.1,x.2.2)=R∧x.2.2 < l.length∧x.2.1.length≤x.2.2) (fun x=>x.1) (fun x hx=> ?_) (n,[.mk k0 n0 s0 o0 a0 u0],j) ⟨hR,hj,by simp only [List.length_cons,List.length_nil];omega⟩
     obtain⟨n1,es,i1⟩:=x
     obtain⟨hx,hi1,hel⟩:=hx
     simp only at hx hi1 hel ⊢
     cases n1 with
     |zero=>exact(hne (by rw[←hx];rfl)).elim
     |succ n1=>
      have h3:=c_take l hl i1 hi1 (bs [44])
      rw[iterS,listT]at hx
      simp only [go1,Nat.reduceAdd,Int.reduceEq,Int.reduceLT,Int.reduceLE,Int.reduceSub,Int.reduceAdd,h3]
      cases ht2:isT l i1 (bs [44])with
      |true=>
       have hi2:=hl.next hi1 (isT_k ht2)
       rw[ht2]at hx
       simp only at hx
       have hq2:p .arrow (i1+1)≠ .out:=fun e=>hne (by rw[e]at hx;rw[←hx];rfl)
       have h4:cF 1000266 (kP 352 (trows l) ((i1+1:Nat):Int))=_:=hp.c .arrow (i1+1) hi2 hq2
       simp only [go1,Nat.reduceAdd,Int.reduceEq,Int.reduceLT,Int.reduceLE,Int.reduceSub,Int.reduceAdd,h4]
       cases hr2:p .arrow (i1+1)with
       |out=>exact(hq2 hr2).elim
       |bad j2=>right;rw[hr2]at hx;rw[←hx];rfl
       |ok e2 j2=>
        left
        have hj2:=hp.lt _ _ _ _ hi2 hr2
        have hg2:=hp.gt _ _ _ _ hi2 hr2
        rw[hr2]at hx
        obtain⟨k3,n3,s3,o3,a3,u3⟩:=e2
        have h5:=lenfit hl hp hel hi1 (Ex.row (.mk k3 n3 s3 o3 a3 u3))
        simp only [Ex.row]at h5
        refine⟨(n1,es++[.mk k3 n3 s3 o3 a3 u3],j2),?_,⟨hx,hj2,by simp only [List.length_append,List.length_cons,List.length_nil];omega⟩,Nat.lt_succ_self _⟩
        simp only [encR,Ex.row,go1,Nat.reduceAdd,Int.reduceEq,Int.reduceLT,Int.reduceLE,Int.reduceSub,Int.reduceAdd,List.cons_append,List.nil_append,h5,rows_snoc]
      |false=>
       right
       rw[ht2]at hx
       simp only [go1,Nat.reduceAdd,Int.reduceEq,Int.reduceLT,Int.reduceLE,Int.reduceSub,Int.reduceAdd]at hx ⊢
       have h4:=c_pneed l hl [bs [93]] (by simp) i1 hi1
       simp only [h4,go1,Nat.reduceAdd,Int.reduceEq,Int.reduceLT,Int.reduceLE,Int.reduceSub,Int.reduceAdd]
       cases hr3:needS l [bs [93]] i1 with
       |out=>exact(needS_no hr3).elim
       |bad j3=>rw[hr3]at hx;rw[←hx];rfl
       |ok u j3=>rw[hr3,Rs.bind_ok]at hx;rw[←hx];rfl
   |false=>
    rw[t3]at hne
    simp only [go1,Nat.reduceAdd,Int.reduceEq,Int.reduceLT,Int.reduceLE,Int.reduceSub,Int.reduceAdd,h4]at hne ⊢
    cases t4:isT l i (bs [40])with
    |true=>
     have hi1:=hl.next hi (isT_k t4)
     rw[t4]at hne
     simp only [go1,Nat.reduceAdd,Int.reduceEq,Int.reduceLT,Int.reduceLE,Int.reduceSub,Int.reduceAdd]at hne ⊢
     have k2:=a_pround hl hp (i+1) hi1 hne
     rw[k2]
     cases hr:roundS l p (i+1)with
     |out=>exact(hne hr).elim
     |bad j=>rfl
     |ok e j=>obtain⟨k0,n0,s0,o0,a0,u0⟩:=e;rfl
    |false=>
     rw[t4]at hne
     simp only [go1,Nat.reduceAdd,Int.reduceEq,Int.reduceLT,Int.reduceLE,Int.reduceSub,Int.reduceAdd,h5]at hne ⊢
     cases t5:isT l i (bs [109,101,114,103,101])with
     |true=>
      have hi1:=hl.next hi (isT_k t5)
      rw[t5]at hne
      simp only [go1,Nat.reduceAdd,Int.reduceEq,Int.reduceLT,Int.reduceLE,Int.reduceSub,Int.reduceAdd]at hne ⊢
      have k2:=a_pmerge hl hp (i+1) hi1 hne
      rw[k2]
      cases hr:mergeS l n p (i+1)with
      |out=>exact(hne hr).elim
      |bad j=>rfl
      |ok e j=>obtain⟨k0,n0,s0,o0,a0,u0⟩:=e;rfl
     |false=>
      rw[t5]at hne
      simp only [go1,Nat.reduceAdd,Int.reduceEq,Int.reduceLT,Int.reduceLE,Int.reduceSub,Int.reduceAdd,h6]at hne ⊢
      cases t6:isT l i (bs [105,102])with
      |true=>
       have hi1:=hl.next hi (isT_k t6)
       rw[t6]at hne
       simp only [go1,Nat.reduceAdd,Int.reduceEq,Int.reduceLT,Int.reduceLE,Int.reduceSub,Int.reduceAdd]at hne ⊢
       have k2:=a_pchoice hl hp (i+1) hi1 hne
       rw[k2]
       cases hr:choiceS l p (i+1)with
       |out=>exact(hne hr).elim
       |bad j=>rfl
       |ok e j=>obtain⟨k0,n0,s0,o0,a0,u0⟩:=e;rfl
      |false=>
       rw[t6]at hne
       have k1:=c_pname l hl i hi
       simp only [go1,Nat.reduceAdd,Int.reduceEq,Int.reduceLT,Int.reduceLE,Int.reduceSub,Int.reduceAdd,k1]at hne ⊢
       cases hr:nameS l i with
       |out=>exact(nameS_no hr).elim
       |bad j=>rfl
       |ok nm j=>
        have hj:=nameS_lt hl hi hr
        rw[hr,Rs.bind_ok]at hne
        have k2:=c_take l hl j hj (bs [40])
        simp only [encR,sD,go1,Nat.reduceAdd,Int.reduceEq,Int.reduceLT,Int.reduceLE,Int.reduceSub,Int.reduceAdd,List.cons_append,List.nil_append,k2,Rs.bind_ok]
        cases t7:isT l j (bs [40])with
        |false=>rfl
        |true=>
         rw[t7]at hne
         simp only [go1,Nat.reduceAdd,Int.reduceEq,Int.reduceLT,Int.reduceLE,Int.reduceSub,Int.reduceAdd]at hne ⊢
         have k3:=a_pcall hl hp nm (j+1) (hl.next hj (isT_k t7)) hne
         rw[k3]
         cases hr2:callS l n p nm (j+1)with
         |out=>exact(hne hr2).elim
         |bad k=>rfl
         |ok e k=>obtain⟨k0,n0,s0,o0,a0,u0⟩:=e;rfl
theorem a_patom (i:Nat)(hi:i < l.length)(hne:atomS l n p i≠ .out):cF 1000331 (kP 352 (trows l) (i:Int))=some (encR Ex.row l (atomS l n p i)):=by
 have hf:=hl.few
 have h1:=in_tk hi
 have h2:=row_tk hi
 refine cOfB (f:=331) (by kernel_rfl) (by with_reducible first|exact dec1 _ _|exact dec2 _ _ _|exact dec3 _ _|exact dec4 _ _ _|exact dec5 _ _ _ _|exact dec6 _ _ _|exact dec7 _ _ _|exact dec8 _ _ _ _|exact dec9 _ _ _ _ _) (by kernel_rfl) rfl ?_
 rw[b331_eq]
 simp only [b331,oE,oP,oR,oT,go1,Nat.reduceAdd,Int.reduceEq,Int.reduceLT,Int.reduceLE,Int.reduceSub,Int.reduceAdd,h1,h2,tkrow]
 unfold atomS at hne ⊢
 have w:=wrap_succ (i:=i) (n:=l.length) hi (by omega)
 cases q3:decide ((tkA l i).k=3)with
 |true=>simp only [go1,Nat.reduceAdd,Int.reduceEq,Int.reduceLT,Int.reduceLE,Int.reduceSub,Int.reduceAdd,w];rfl
 |false=>
  cases q2:decide ((tkA l i).k=2)with
  |true=>simp only [go1,Nat.reduceAdd,Int.reduceEq,Int.reduceLT,Int.reduceLE,Int.reduceSub,Int.reduceAdd,w];rfl
  |false=>
   cases q4:decide ((tkA l i).k=4)with
   |true=>simp only [go1,Nat.reduceAdd,Int.reduceEq,Int.reduceLT,Int.reduceLE,Int.reduceSub,Int.reduceAdd,w];rfl
   |false=>
    rw[q3,q2,q4]at hne
    have k2:=a_pword hl hp i hi hne
    simp only [go1,Nat.reduceAdd,Int.reduceEq,Int.reduceLT,Int.reduceLE,Int.reduceSub,Int.reduceAdd,k2]
    cases hr:wordS l n p i with
    |out=>exact(hne hr).elim
    |bad j=>rfl
    |ok e j=>obtain⟨k0,n0,s0,o0,a0,u0⟩:=e;rfl
end
theorem bind_inv {α β:Type}{r:Rs α}{f:α→Nat→Rs β}{b:β}{j:Nat}(h:r.bind f= .ok b j): ∃a k,r= .ok a k∧f a k= .ok b j:=by
 cases r with
 |ok a k=>exact⟨a,k,rfl,h⟩
 |_=>cases h
theorem bind_ne {α β:Type}{r:Rs α}{f:α→Nat→Rs β}(h1:r≠ .out)(h2: ∀a k,r= .ok a k→f a k≠ .out):r.bind f≠ .out:=by
 cases r with
 |ok a k=>exact h2 a k rfl
 |bad i=>exact nofun
 |out=>exact(h1 rfl).elim
theorem iterS_inv {σ ρ:Type}{st:σ→σ ⊕ Rs ρ}(P:σ→Prop)(Q:ρ→Nat→Prop)(h1: ∀x y,P x→st x= .inl y→P y)(h2: ∀x r j,P x→st x= .inr (.ok r j)→Q r j): ∀(n:Nat) (x:σ) (r:ρ) (j:Nat),P x→iterS st n x= .ok r j→Q r j
 |0,_,_,_,_,h=>by cases h
 |n+1,x,r,j,hx,h=>by
  unfold iterS at h
  cases hs:st x with
  |inl y=>rw[hs]at h;exact iterS_inv P Q h1 h2 n y r j (h1 x y hx hs) h
  |inr q=>rw[hs]at h;simp only at h;subst h;exact h2 x r j hx hs
theorem iterS_ne {σ ρ:Type}{st:σ→σ ⊕ Rs ρ}(P:σ→Prop)(m:σ→Nat)(h1: ∀x y,P x→st x= .inl y→P y∧m y < m x)(h2: ∀x,P x→st x≠ .inr .out): ∀(n:Nat) (x:σ),P x→m x < n→iterS st n x≠ .out
 |0,_,_,h=>by omega
 |n+1,x,hx,h=>by
  unfold iterS
  cases hs:st x with
  |inl y=>
   have:=h1 x y hx hs
   exact iterS_ne P m h1 h2 n y this.1 (by omega)
  |inr q=>exact fun e=>h2 x hx (by rw[hs];exact congrArg _ e)
def lvl:Nt→Nat
 | .arrow=>10| .fby=>9| .or=>8| .and=>7| .cmp=>6| .sum=>5| .prod=>4| .un=>3| .post=>2| .atom=>1
def Mn (l:List Tk)(nt:Nt)(i:Nat):Nat:=20*(l.length - i)+lvl nt
structure HQ (l:List Tk) (n:Nat) (p:PR):Prop where
 pos: ∀nt i e j,i < l.length→p nt i= .ok e j→i < j∧j < l.length
 ne: ∀nt i,i < l.length→Mn l nt i≤n→p nt i≠ .out
section
variable {l : List Tk} (hl : LOK l) {n : Nat} {p : PR} (hp : HQ l n p)
include hl hp
theorem needS_pos {w:List ByteArray}{i j:Nat}{u:Unit}(hi:i < l.length)(h:needS l w i= .ok u j):i≤j∧j < l.length:=⟨needS_le h,needS_lt hl hi h⟩
theorem nameS_pos {i j:Nat}{u:ByteArray}(hi:i < l.length)(h:nameS l i= .ok u j):i < j∧j < l.length:=⟨by rw[nameS_le h];omega,nameS_lt hl hi h⟩
theorem whenS_le {i j:Nat}{w:ByteArray × ByteArray}(h:whenS l i= .ok w j):i≤j:=by
 unfold whenS at h
 split at h
 ·obtain⟨a,k,h1,h2⟩:=bind_inv h
  cases h2;have:=nameS_le h1;omega
 ·split at h
  ·obtain⟨a,k,h1,h2⟩:=bind_inv h
   cases h2;have:=nameS_le h1;omega
  ·obtain⟨a,k,h1,h⟩:=bind_inv h
   obtain⟨_,k2,h2,h⟩:=bind_inv h
   obtain⟨_,k3,h3,h⟩:=bind_inv h
   obtain⟨_,k4,h4,h⟩:=bind_inv h
   cases h
   have:=armS_le h1;have:=needS_le h2;have:=nameS_le h3;have:=needS_le h4
   omega
theorem whenS_ne (i:Nat):whenS l i≠ .out:=by
 unfold whenS
 split
 ·exact bind_ne (fun e=>nameS_no e) fun _ _ _=>nofun
 ·split
  ·exact bind_ne (fun e=>nameS_no e) fun _ _ _=>nofun
  ·exact bind_ne (fun e=>armS_no e) fun _ _ _=>bind_ne (fun e=>needS_no e) fun _ _ _=>bind_ne (fun e=>nameS_no e) fun _ _ _=>bind_ne (fun e=>needS_no e) fun _ _ _=>nofun
theorem left_pos (side:Nt)(a m i:Nat)(e:Ex)(j:Nat)(hi:i < l.length)(h:leftS l n p side a m i= .ok e j):i < j∧j < l.length:=by
 unfold leftS at h
 obtain⟨e1,k,h1,h⟩:=bind_inv h
 have hk:=hp.pos _ _ _ _ hi h1
 refine iterS_inv (fun x:Ex × Nat=>i < x.2∧x.2 < l.length) (fun _ j=>i < j∧j < l.length) (fun x y hx hs=> ?_) (fun x r j hx hs=> ?_) n (e1,k) e j hk h
 ·obtain⟨e2,i2⟩:=x
  rw[leftT]at hs
  split at hs
  ·cases hs
  ·rename_i o ho
   split at hs
   ·rename_i e3 j3 h3
    cases hs
    have:=hp.pos _ _ _ _ (hl.next hx.2 (opS_spec ho).1) h3
    exact⟨by have:=hx.1;show i < j3;omega,this.2⟩
   ·cases hs
   ·cases hs
 ·obtain⟨e2,i2⟩:=x
  rw[leftT]at hs
  split at hs
  ·cases hs;exact hx
  ·split at hs<;>cases hs
theorem left_ne (side nt:Nt)(hs:lvl side < lvl nt)(h10:lvl side≤10)(a m i:Nat)(hi:i < l.length)(hM:Mn l nt i≤n+1):leftS l n p side a m i≠ .out:=by
 unfold Mn at hM
 refine bind_ne (hp.ne _ _ hi (by unfold Mn;omega)) fun e k h1=> ?_
 have hk:=hp.pos _ _ _ _ hi h1
 refine iterS_ne (fun x:Ex × Nat=>i < x.2∧x.2 < l.length) (fun x=>l.length - x.2) (fun x y hx hs=> ?_) (fun x hx hs=> ?_) n (e,k) hk (by simp only;omega)
 ·obtain⟨e2,i2⟩:=x
  obtain⟨hx1,hx2⟩:=hx
  simp only at hx1 hx2
  rw[leftT]at hs
  split at hs
  ·cases hs
  ·rename_i o ho
   split at hs
   ·rename_i e3 j3 h3
    cases hs
    have:=hp.pos _ _ _ _ (hl.next hx2 (opS_spec ho).1) h3
    simp only;omega
   ·cases hs
   ·cases hs
 ·obtain⟨e2,i2⟩:=x
  obtain⟨hx1,hx2⟩:=hx
  simp only at hx1 hx2
  rw[leftT]at hs
  split at hs
  ·cases hs
  ·rename_i o ho
   split at hs
   ·cases hs
   ·cases hs
   ·rename_i h3
    exact hp.ne _ _ (hl.next hx2 (opS_spec ho).1) (by unfold Mn;omega) h3
theorem post_pos (i:Nat)(e:Ex)(j:Nat)(hi:i < l.length)(h:postS l n p i= .ok e j):i < j∧j < l.length:=by
 unfold postS at h
 obtain⟨e1,k,h1,h⟩:=bind_inv h
 have hk:=hp.pos _ _ _ _ hi h1
 refine iterS_inv (fun x:Ex × Nat=>i < x.2∧x.2 < l.length) (fun _ j=>i < j∧j < l.length) (fun x y hx hs=> ?_) (fun x r j hx hs=> ?_) n (e1,k) e j hk h
 ·obtain⟨e2,i2⟩:=x
  obtain⟨hx1,hx2⟩:=hx
  simp only at hx1 hx2
  rw[postT]at hs
  split at hs
  ·rename_i ht
   split at hs
   ·rename_i a j3 h3
    cases hs
    obtain⟨a2,k2,h4,h5⟩:=bind_inv h3
    obtain⟨u,k3,h6,h7⟩:=bind_inv h5
    cases h7
    have q1:=hp.pos _ _ _ _ (hl.next hx2 (isT_k ht)) h4
    have q2:=needS_pos hl hp q1.2 h6
    simp only;omega
   ·cases hs
   ·cases hs
  ·split at hs
   ·rename_i ht
    split at hs
    ·rename_i w j3 h3
     cases hs
     have:=whenS_lt hl (hl.next hx2 (isT_k ht)) h3
     have:=whenS_le hl hp h3
     simp only;omega
    ·cases hs
    ·cases hs
   ·cases hs
 ·obtain⟨e2,i2⟩:=x
  rw[postT]at hs
  split at hs
  ·split at hs<;>cases hs
  ·split at hs
   ·split at hs<;>cases hs
   ·cases hs;exact hx
theorem post_ne (i:Nat)(hi:i < l.length)(hM:Mn l .post i≤n+1):postS l n p i≠ .out:=by
 simp only [Mn,lvl]at hM
 refine bind_ne (hp.ne _ _ hi (by simp only [Mn,lvl];omega)) fun e k h1=> ?_
 have hk:=hp.pos _ _ _ _ hi h1
 refine iterS_ne (fun x:Ex × Nat=>i < x.2∧x.2 < l.length) (fun x=>l.length - x.2) (fun x y hx hs=> ?_) (fun x hx hs=> ?_) n (e,k) hk (by simp only;omega)
 ·obtain⟨e2,i2⟩:=x
  obtain⟨hx1,hx2⟩:=hx
  simp only at hx1 hx2
  rw[postT]at hs
  split at hs
  ·rename_i ht
   split at hs
   ·rename_i a j3 h3
    cases hs
    obtain⟨a2,k2,h4,h5⟩:=bind_inv h3
    obtain⟨u,k3,h6,h7⟩:=bind_inv h5
    cases h7
    have q1:=hp.pos _ _ _ _ (hl.next hx2 (isT_k ht)) h4
    have q2:=needS_pos hl hp q1.2 h6
    simp only;omega
   ·cases hs
   ·cases hs
  ·split at hs
   ·rename_i ht
    split at hs
    ·rename_i w j3 h3
     cases hs
     have:=whenS_lt hl (hl.next hx2 (isT_k ht)) h3
     have:=whenS_le hl hp h3
     simp only;omega
    ·cases hs
    ·cases hs
   ·cases hs
 ·obtain⟨e2,i2⟩:=x
  obtain⟨hx1,hx2⟩:=hx
  simp only at hx1 hx2
  rw[postT]at hs
  split at hs
  ·rename_i ht
   split at hs
   ·cases hs
   ·cases hs
   ·rename_i h3
    exact absurd h3 (bind_ne (hp.ne .arrow _ (hl.next hx2 (isT_k ht)) (by simp only [Mn,lvl];omega)) (fun _ _ _=>bind_ne (fun e=>needS_no e) fun _ _ _=>nofun))
  ·split at hs
   ·split at hs
    ·cases hs
    ·cases hs
    ·rename_i h3;exact whenS_ne hl hp _ h3
   ·cases hs
theorem list_pos (en:ByteArray)(i:Nat)(e:List Ex)(j:Nat)(hi:i < l.length)(h:listS l n p en i= .ok e j):i < j∧j < l.length:=by
 unfold listS at h
 obtain⟨e1,k,h1,h⟩:=bind_inv h
 have hk:=hp.pos _ _ _ _ hi h1
 refine iterS_inv (fun x:List Ex × Nat=>i < x.2∧x.2 < l.length) (fun _ j=>i < j∧j < l.length) (fun x y hx hs=> ?_) (fun x r j hx hs=> ?_) n ([e1],k) e j hk h
 ·obtain⟨e2,i2⟩:=x
  obtain⟨hx1,hx2⟩:=hx
  simp only at hx1 hx2
  rw[listT]at hs
  split at hs
  ·rename_i ht
   split at hs
   ·rename_i a j3 h3
    cases hs
    have q1:=hp.pos _ _ _ _ (hl.next hx2 (isT_k ht)) h3
    simp only;omega
   ·cases hs
   ·cases hs
  ·cases hs
 ·obtain⟨e2,i2⟩:=x
  obtain⟨hx1,hx2⟩:=hx
  simp only at hx1 hx2
  rw[listT]at hs
  split at hs
  ·split at hs<;>cases hs
  ·have hs:=Sum.inr.inj hs
   obtain⟨u,k3,h6,h7⟩:=bind_inv hs
   cases h7
   have q2:=needS_pos hl hp hx2 h6
   omega
theorem list_ne (en:ByteArray)(i:Nat)(hi:i < l.length)(hM:20*(l.length - i)+10≤n):listS l n p en i≠ .out:=by
 refine bind_ne (hp.ne _ _ hi (by simp only [Mn,lvl];omega)) fun e k h1=> ?_
 have hk:=hp.pos _ _ _ _ hi h1
 refine iterS_ne (fun x:List Ex × Nat=>i < x.2∧x.2 < l.length) (fun x=>l.length - x.2) (fun x y hx hs=> ?_) (fun x hx hs=> ?_) n ([e],k) hk (by simp only;omega)
 ·obtain⟨e2,i2⟩:=x
  obtain⟨hx1,hx2⟩:=hx
  simp only at hx1 hx2
  rw[listT]at hs
  split at hs
  ·rename_i ht
   split at hs
   ·rename_i a j3 h3
    cases hs
    have q1:=hp.pos _ _ _ _ (hl.next hx2 (isT_k ht)) h3
    simp only;omega
   ·cases hs
   ·cases hs
  ·cases hs
 ·obtain⟨e2,i2⟩:=x
  obtain⟨hx1,hx2⟩:=hx
  simp only at hx1 hx2
  rw[listT]at hs
  split at hs
  ·rename_i ht
   split at hs
   ·cases hs
   ·cases hs
   ·rename_i h3
    exact hp.ne _ _ (hl.next hx2 (isT_k ht)) (by simp only [Mn,lvl];omega) h3
  ·exact absurd (Sum.inr.inj hs) (bind_ne (fun e=>needS_no e) (fun _ _ _=>nofun))
theorem round_pos (i:Nat)(e:Ex)(j:Nat)(hi:i < l.length)(h:roundS l p i= .ok e j):i < j∧j < l.length:=by
 unfold roundS at h
 obtain⟨e1,k,h1,h⟩:=bind_inv h
 have hk:=hp.pos _ _ _ _ hi h1
 split at h
 ·rename_i ht
  have hk1:=hl.next hk.2 (isT_k ht)
  obtain⟨_,k2,h2,h⟩:=bind_inv h
  have q2:=needS_pos hl hp hk1 h2
  obtain⟨_,k3,h3,h⟩:=bind_inv h
  have q3:=hp.pos _ _ _ _ q2.2 h3
  obtain⟨_,k4,h4,h⟩:=bind_inv h
  have q4:=needS_pos hl hp q3.2 h4
  obtain⟨_,k5,h5,h⟩:=bind_inv h
  have q5:=hp.pos _ _ _ _ q4.2 h5
  obtain⟨_,k6,h6,h⟩:=bind_inv h
  have q6:=needS_pos hl hp q5.2 h6
  cases h;omega
 ·obtain⟨_,k2,h2,h⟩:=bind_inv h
  have q2:=needS_pos hl hp hk.2 h2
  cases h;omega
theorem round_ne (i:Nat)(hi:i < l.length)(hM:20*(l.length - i)+10≤n):roundS l p i≠ .out:=by
 refine bind_ne (hp.ne _ _ hi (by simp only [Mn,lvl];omega)) fun e k h1=> ?_
 have hk:=hp.pos _ _ _ _ hi h1
 split
 ·rename_i ht
  have hk1:=hl.next hk.2 (isT_k ht)
  refine bind_ne (fun e=>needS_no e) fun _ k2 h2=> ?_
  have q2:=needS_pos hl hp hk1 h2
  refine bind_ne (hp.ne _ _ q2.2 (by simp only [Mn,lvl];omega)) fun _ k3 h3=> ?_
  have q3:=hp.pos _ _ _ _ q2.2 h3
  refine bind_ne (fun e=>needS_no e) fun _ k4 h4=> ?_
  have q4:=needS_pos hl hp q3.2 h4
  refine bind_ne (hp.ne _ _ q4.2 (by simp only [Mn,lvl];omega)) fun _ k5 h5=> ?_
  exact bind_ne (fun e=>needS_no e) fun _ _ _=>nofun
 ·exact bind_ne (fun e=>needS_no e) fun _ _ _=>nofun
theorem choice_pos (i:Nat)(e:Ex)(j:Nat)(hi:i < l.length)(h:choiceS l p i= .ok e j):i < j∧j < l.length:=by
 unfold choiceS at h
 obtain⟨e1,k,h1,h⟩:=bind_inv h
 have hk:=hp.pos _ _ _ _ hi h1
 obtain⟨_,k2,h2,h⟩:=bind_inv h
 have q2:=needS_pos hl hp hk.2 h2
 obtain⟨_,k3,h3,h⟩:=bind_inv h
 have q3:=hp.pos _ _ _ _ q2.2 h3
 obtain⟨_,k4,h4,h⟩:=bind_inv h
 have q4:=needS_pos hl hp q3.2 h4
 obtain⟨_,k5,h5,h⟩:=bind_inv h
 have q5:=hp.pos _ _ _ _ q4.2 h5
 cases h;omega
theorem choice_ne (i:Nat)(hi:i < l.length)(hM:20*(l.length - i)+10≤n):choiceS l p i≠ .out:=by
 refine bind_ne (hp.ne _ _ hi (by simp only [Mn,lvl];omega)) fun e k h1=> ?_
 have hk:=hp.pos _ _ _ _ hi h1
 refine bind_ne (fun e=>needS_no e) fun _ k2 h2=> ?_
 have q2:=needS_pos hl hp hk.2 h2
 refine bind_ne (hp.ne _ _ q2.2 (by simp only [Mn,lvl];omega)) fun _ k3 h3=> ?_
 have q3:=hp.pos _ _ _ _ q2.2 h3
 refine bind_ne (fun e=>needS_no e) fun _ k4 h4=> ?_
 have q4:=needS_pos hl hp q3.2 h4
 exact bind_ne (hp.ne _ _ q4.2 (by simp only [Mn,lvl];omega)) fun _ k5 h5=>nofun
theorem mstep_pos {i j:Nat}{q:ByteArray × Ex}(hi:i < l.length)(h:((armS l i).bind fun a j=>(needS l [bs [45,62]] j).bind fun _ j=>(p .arrow j).bind fun e j=>(needS l [bs [41]] j).bind fun _ j=> .ok (a,e) j:Rs (ByteArray × Ex))= .ok q j):i < j∧j < l.length:=by
 obtain⟨_,k,h1,h⟩:=bind_inv h
 have q1:=armS_lt hl hi h1
 have:=armS_le h1
 obtain⟨_,k2,h2,h⟩:=bind_inv h
 have q2:=needS_pos hl hp q1 h2
 obtain⟨_,k3,h3,h⟩:=bind_inv h
 have q3:=hp.pos _ _ _ _ q2.2 h3
 obtain⟨_,k4,h4,h⟩:=bind_inv h
 have q4:=needS_pos hl hp q3.2 h4
 cases h;omega
theorem merge_pos (i:Nat)(e:Ex)(j:Nat)(hi:i < l.length)(h:mergeS l n p i= .ok e j):i < j∧j < l.length:=by
 unfold mergeS at h
 obtain⟨nm,k,h1,h⟩:=bind_inv h
 have hk:=nameS_pos hl hp hi h1
 obtain⟨_,k2,h2,h⟩:=bind_inv h
 have q2:=needS_pos hl hp hk.2 h2
 obtain⟨q,k3,h3,h⟩:=bind_inv h
 cases h
 refine iterS_inv (fun x:List ByteArray × List Ex × Nat × Bool=>i < x.2.2.1∧x.2.2.1 < l.length) (fun _ j=>i < j∧j < l.length) (fun x y hx hs=> ?_) (fun x r j hx hs=> ?_) n ([],[],k2,true) q j ⟨by simp only;omega,q2.2⟩ h3
 ·obtain⟨ar,es,i2,ag⟩:=x
  obtain⟨hx1,hx2⟩:=hx
  simp only at hx1 hx2
  cases ag with
  |false=>rw[mergeT]at hs;cases hs
  |true=>
   rw[mergeT]at hs
   split at hs
   ·rename_i a e3 j3 h4
    have q4:=mstep_pos hl hp hx2 h4
    split at hs
    ·rename_i ht
     cases hs
     have:=hl.next q4.2 (isT_k ht)
     simp only;omega
    ·cases hs;simp only;omega
   ·cases hs
   ·cases hs
 ·obtain⟨ar,es,i2,ag⟩:=x
  cases ag with
  |false=>rw[mergeT]at hs;cases hs;exact hx
  |true=>
   rw[mergeT]at hs
   split at hs
   ·split at hs<;>cases hs
   ·cases hs
   ·cases hs
theorem merge_ne (i:Nat)(hi:i < l.length)(hM:20*(l.length - i)+10≤n):mergeS l n p i≠ .out:=by
 refine bind_ne (fun e=>nameS_no e) fun nm k h1=> ?_
 have hk:=nameS_pos hl hp hi h1
 refine bind_ne (fun e=>needS_no e) fun _ k2 h2=> ?_
 have q2:=needS_pos hl hp hk.2 h2
 refine bind_ne ?_ fun _ _ _=>nofun
 refine iterS_ne (fun x:List ByteArray × List Ex × Nat × Bool=>i < x.2.2.1∧x.2.2.1 < l.length) (fun x=>2*(l.length - x.2.2.1)+(match x.2.2.2 with|true=>1|false=>0)) (fun x y hx hs=> ?_) (fun x hx hs=> ?_) n ([],[],k2,true) ⟨by simp only;omega,q2.2⟩ (by simp only;omega)
 ·obtain⟨ar,es,i2,ag⟩:=x
  obtain⟨hx1,hx2⟩:=hx
  simp only at hx1 hx2
  cases ag with
  |false=>rw[mergeT]at hs;cases hs
  |true=>
   rw[mergeT]at hs
   split at hs
   ·rename_i a e3 j3 h4
    have q4:=mstep_pos hl hp hx2 h4
    split at hs
    ·rename_i ht
     cases hs
     have:=hl.next q4.2 (isT_k ht)
     simp only;omega
    ·cases hs;simp only;omega
   ·cases hs
   ·cases hs
 ·obtain⟨ar,es,i2,ag⟩:=x
  obtain⟨hx1,hx2⟩:=hx
  simp only at hx1 hx2
  cases ag with
  |false=>rw[mergeT]at hs;cases hs
  |true=>
   rw[mergeT]at hs
   split at hs
   ·split at hs<;>cases hs
   ·cases hs
   ·rename_i h4
    refine absurd h4 (bind_ne (fun e=>armS_no e) fun _ k1 h5=>bind_ne (fun e=>needS_no e) fun _ k2 h6=> ?_)
    have a1:=armS_lt hl hx2 h5
    have a2:=armS_le h5
    have a3:=needS_pos hl hp a1 h6
    exact bind_ne (hp.ne _ _ a3.2 (by simp only [Mn,lvl];omega)) fun _ _ _=>bind_ne (fun e=>needS_no e) fun _ _ _=>nofun
theorem callU_pos (nm:ByteArray)(es:List Ex)(i:Nat)(e:Ex)(j:Nat)(hi:i < l.length)(h:callU l p nm es i= .ok e j):i≤j∧j < l.length:=by
 unfold callU at h
 split at h
 ·rename_i ht
  obtain⟨e1,k,h1,h⟩:=bind_inv h
  have hk:=hp.pos _ _ _ _ (hl.next hi (isT_k ht)) h1
  cases h;omega
 ·cases h;omega
theorem callU_ne (nm:ByteArray)(es:List Ex)(i:Nat)(hi:i < l.length)(hM:20*(l.length - i)≤n+10):callU l p nm es i≠ .out:=by
 unfold callU
 split
 ·rename_i ht
  have:=hl.next hi (isT_k ht)
  exact bind_ne (hp.ne _ _ this (by simp only [Mn,lvl];omega)) fun _ _ _=>nofun
 ·exact nofun
theorem call_pos (nm:ByteArray)(i:Nat)(e:Ex)(j:Nat)(hi:i < l.length)(h:callS l n p nm i= .ok e j):i < j∧j < l.length:=by
 unfold callS at h
 split at h
 ·rename_i ht
  have:=callU_pos hl hp nm [] (i+1) e j (hl.next hi (isT_k ht)) h
  omega
 ·obtain⟨es,k,h1,h⟩:=bind_inv h
  have q:=list_pos hl hp _ _ _ _ hi h1
  have:=callU_pos hl hp nm es k e j q.2 h
  omega
theorem call_ne (nm:ByteArray)(i:Nat)(hi:i < l.length)(hM:20*(l.length - i)+10≤n):callS l n p nm i≠ .out:=by
 unfold callS
 split
 ·rename_i ht
  exact callU_ne hl hp nm [] (i+1) (hl.next hi (isT_k ht)) (by omega)
 ·refine bind_ne (list_ne hl hp _ _ hi hM) fun es k h1=> ?_
  have q:=list_pos hl hp _ _ _ _ hi h1
  exact callU_ne hl hp nm es k q.2 (by omega)
theorem word_pos (i:Nat)(e:Ex)(j:Nat)(hi:i < l.length)(h:wordS l n p i= .ok e j):i < j∧j < l.length:=by
 unfold wordS at h
 split at h
 ·rename_i ht;cases h;exact⟨Nat.lt_succ_self _,hl.next hi (isT_k ht)⟩
 split at h
 ·rename_i ht;cases h;exact⟨Nat.lt_succ_self _,hl.next hi (isT_k ht)⟩
 split at h
 ·rename_i ht
  obtain⟨es,k,h1,h⟩:=bind_inv h
  cases h
  have:=list_pos hl hp _ _ _ _ (hl.next hi (isT_k ht)) h1
  omega
 split at h
 ·rename_i ht;have:=round_pos hl hp _ _ _ (hl.next hi (isT_k ht)) h;omega
 split at h
 ·rename_i ht;have:=merge_pos hl hp _ _ _ (hl.next hi (isT_k ht)) h;omega
 split at h
 ·rename_i ht;have:=choice_pos hl hp _ _ _ (hl.next hi (isT_k ht)) h;omega
 obtain⟨nm,k,h1,h⟩:=bind_inv h
 have hk:=nameS_pos hl hp hi h1
 split at h
 ·rename_i ht;have:=call_pos hl hp _ _ _ _ (hl.next hk.2 (isT_k ht)) h;omega
 ·cases h;exact hk
theorem word_ne (i:Nat)(hi:i < l.length)(hM:20*(l.length - i)≤n):wordS l n p i≠ .out:=by
 unfold wordS
 split
 ·exact nofun
 split
 ·exact nofun
 split
 ·rename_i ht
  have:=hl.next hi (isT_k ht)
  exact bind_ne (list_ne hl hp _ _ this (by omega)) fun _ _ _=>nofun
 split
 ·rename_i ht;have:=hl.next hi (isT_k ht);exact round_ne hl hp _ this (by omega)
 split
 ·rename_i ht;have:=hl.next hi (isT_k ht);exact merge_ne hl hp _ this (by omega)
 split
 ·rename_i ht;have:=hl.next hi (isT_k ht);exact choice_ne hl hp _ this (by omega)
 refine bind_ne (fun e=>nameS_no e) fun nm k h1=> ?_
 have hk:=nameS_pos hl hp hi h1
 split
 ·rename_i ht;have:=hl.next hk.2 (isT_k ht);exact call_ne hl hp _ _ this (by omega)
 ·exact nofun
theorem step_pos (nt:Nt)(i:Nat)(e:Ex)(j:Nat)(hi:i < l.length)(h:ntS l n p nt i= .ok e j):i < j∧j < l.length:=by
 cases nt with
 |or=>exact left_pos hl hp _ _ _ _ _ _ hi h
 |and=>exact left_pos hl hp _ _ _ _ _ _ hi h
 |sum=>exact left_pos hl hp _ _ _ _ _ _ hi h
 |prod=>exact left_pos hl hp _ _ _ _ _ _ hi h
 |post=>exact post_pos hl hp _ _ _ hi h
 |arrow=>
  rw[ntS,arrowS]at h
  obtain⟨e1,k,h1,h⟩:=bind_inv h
  have hk:=hp.pos _ _ _ _ hi h1
  split at h
  ·rename_i ht
   obtain⟨e2,k2,h2,h⟩:=bind_inv h
   have:=hp.pos _ _ _ _ (hl.next hk.2 (isT_k ht)) h2
   cases h;omega
  ·cases h;exact hk
 |fby=>
  rw[ntS,fbyS]at h
  obtain⟨e1,k,h1,h⟩:=bind_inv h
  have hk:=hp.pos _ _ _ _ hi h1
  split at h
  ·rename_i ht
   obtain⟨e2,k2,h2,h⟩:=bind_inv h
   have:=hp.pos _ _ _ _ (hl.next hk.2 (isT_k ht)) h2
   cases h;omega
  ·cases h;exact hk
 |cmp=>
  rw[ntS,cmpS]at h
  obtain⟨e1,k,h1,h⟩:=bind_inv h
  have hk:=hp.pos _ _ _ _ hi h1
  split at h
  ·cases h;exact hk
  ·rename_i o ho
   obtain⟨e2,k2,h2,h⟩:=bind_inv h
   have:=hp.pos _ _ _ _ (hl.next hk.2 (opS_spec ho).1) h2
   cases h;omega
 |un=>
  rw[ntS,unS]at h
  split at h
  ·rename_i ht
   obtain⟨e2,k2,h2,h⟩:=bind_inv h
   have:=hp.pos _ _ _ _ (hl.next hi (isT_k ht)) h2
   cases h;omega
  split at h
  ·rename_i ht
   obtain⟨e2,k2,h2,h⟩:=bind_inv h
   have:=hp.pos _ _ _ _ (hl.next hi (isT_k ht)) h2
   cases h;omega
  split at h
  ·rename_i ht
   obtain⟨e2,k2,h2,h⟩:=bind_inv h
   have:=hp.pos _ _ _ _ (hl.next hi (isT_k ht)) h2
   cases h;omega
  ·exact hp.pos _ _ _ _ hi h
 |atom=>
  rw[ntS,atomS]at h
  split at h
  ·rename_i hk;have hk:=of_decide_eq_true hk;cases h;exact⟨Nat.lt_succ_self _,hl.next hi (by omega)⟩
  split at h
  ·rename_i hk;have hk:=of_decide_eq_true hk;cases h;exact⟨Nat.lt_succ_self _,hl.next hi (by omega)⟩
  split at h
  ·rename_i hk;have hk:=of_decide_eq_true hk;cases h;exact⟨Nat.lt_succ_self _,hl.next hi (by omega)⟩
  exact word_pos hl hp _ _ _ hi h
theorem step_ne (nt:Nt)(i:Nat)(hi:i < l.length)(hM:Mn l nt i≤n+1):ntS l n p nt i≠ .out:=by
 cases nt with
 |or=>exact left_ne hl hp .and .or (by decide) (by decide) _ _ _ hi hM
 |and=>exact left_ne hl hp .cmp .and (by decide) (by decide) _ _ _ hi hM
 |sum=>exact left_ne hl hp .prod .sum (by decide) (by decide) _ _ _ hi hM
 |prod=>exact left_ne hl hp .un .prod (by decide) (by decide) _ _ _ hi hM
 |post=>exact post_ne hl hp _ hi hM
 |arrow=>
  rw[ntS,arrowS]
  simp only [Mn,lvl]at hM
  refine bind_ne (hp.ne _ _ hi (by simp only [Mn,lvl];omega)) fun e k h1=> ?_
  have hk:=hp.pos _ _ _ _ hi h1
  split
  ·rename_i ht
   have:=hl.next hk.2 (isT_k ht)
   exact bind_ne (hp.ne _ _ this (by simp only [Mn,lvl];omega)) fun _ _ _=>nofun
  ·exact nofun
 |fby=>
  rw[ntS,fbyS]
  simp only [Mn,lvl]at hM
  refine bind_ne (hp.ne _ _ hi (by simp only [Mn,lvl];omega)) fun e k h1=> ?_
  have hk:=hp.pos _ _ _ _ hi h1
  split
  ·rename_i ht
   have:=hl.next hk.2 (isT_k ht)
   exact bind_ne (hp.ne _ _ this (by simp only [Mn,lvl];omega)) fun _ _ _=>nofun
  ·exact nofun
 |cmp=>
  rw[ntS,cmpS]
  simp only [Mn,lvl]at hM
  refine bind_ne (hp.ne _ _ hi (by simp only [Mn,lvl];omega)) fun e k h1=> ?_
  have hk:=hp.pos _ _ _ _ hi h1
  split
  ·exact nofun
  ·rename_i o ho
   have:=hl.next hk.2 (opS_spec ho).1
   exact bind_ne (hp.ne _ _ this (by simp only [Mn,lvl];omega)) fun _ _ _=>nofun
 |un=>
  rw[ntS,unS]
  simp only [Mn,lvl]at hM
  split
  ·rename_i ht
   have:=hl.next hi (isT_k ht)
   exact bind_ne (hp.ne _ _ this (by simp only [Mn,lvl];omega)) fun _ _ _=>nofun
  split
  ·rename_i ht
   have:=hl.next hi (isT_k ht)
   exact bind_ne (hp.ne _ _ this (by simp only [Mn,lvl];omega)) fun _ _ _=>nofun
  split
  ·rename_i ht
   have:=hl.next hi (isT_k ht)
   exact bind_ne (hp.ne _ _ this (by simp only [Mn,lvl];omega)) fun _ _ _=>nofun
  ·exact hp.ne _ _ hi (by simp only [Mn,lvl];omega)
 |atom=>
  rw[ntS,atomS]
  simp only [Mn,lvl]at hM
  split
  ·exact nofun
  split
  ·exact nofun
  split
  ·exact nofun
  exact word_ne hl hp _ hi (by omega)
end
theorem prs_HQ {l:List Tk}(hl:LOK l): ∀n,HQ l n (prs l n)
 |0=>⟨fun nt i e j hi h=>(by cases h),fun nt i hi h=>(by cases nt<;>simp only [Mn,lvl]at h<;>omega)⟩
 |n+1=>⟨fun nt i e j hi h=>step_pos hl (prs_HQ hl n) nt i e j hi h,fun nt i hi h=>step_ne hl (prs_HQ hl n) nt i hi h⟩
theorem prs_HP {l:List Tk}(hl:LOK l): ∀n,HP l (prs l n)
 |0=>⟨fun nt i hi h=>(h rfl).elim,fun nt i e j hi h=>(by cases h),fun nt i e j hi h=>(by cases h)⟩
 |n+1=>by
  have ih:=prs_HP hl n
  refine⟨fun nt i hi h=> ?_,fun nt i e j hi h=>(step_pos hl (prs_HQ hl n) nt i e j hi h).2,fun nt i e j hi h=>(step_pos hl (prs_HQ hl n) nt i e j hi h).1⟩
  cases nt with
  |arrow=>exact a_parrow hl ih i hi h
  |fby=>exact a_pfby hl ih i hi h
  |or=>exact a_por hl ih i hi h
  |and=>exact a_pand hl ih i hi h
  |cmp=>exact a_pcmp hl ih i hi h
  |sum=>exact a_psum hl ih i hi h
  |prod=>exact a_pprod hl ih i hi h
  |un=>exact a_pun hl ih i hi h
  |post=>exact a_ppost hl ih i hi h
  |atom=>exact a_patom hl ih i hi h
def fuel (l:List Tk):Nat:=20*l.length+10
def readS (l:List Tk)(i:Nat):Rs Ex:=prs l (fuel l) .arrow i
theorem readS_ne {l:List Tk}(hl:LOK l)(i:Nat)(hi:i < l.length):readS l i≠ .out:=(prs_HQ hl (fuel l)).ne .arrow i hi (by simp only [Mn,lvl,fuel];omega)
theorem c_parrow {l:List Tk}(hl:LOK l)(i:Nat)(hi:i < l.length):cF 1000266 (kP 352 (trows l) (i:Int))=some (encR Ex.row l (readS l i)):=(prs_HP hl (fuel l)).c .arrow i hi (readS_ne hl i hi)
mutual
def Ex.size:Ex→Nat
 | .mk _ _ _ _ _ l=>Ex.sizes l+1
def Ex.sizes:List Ex→Nat
 | []=>0
 |e::l=>e.size+Ex.sizes l
end
mutual
def Ex.okS:Ex→Prop
 | .mk _ _ s _ a l=>s.size≤100000∧((∀x∈a,x.size≤100000)∧a.length≤l.length)∧Ex.okSs l
def Ex.okSs:List Ex→Prop
 | []=>True
 |e::l=>e.okS∧Ex.okSs l
end
theorem sizes_app: ∀a b:List Ex,Ex.sizes (a++b)=Ex.sizes a+Ex.sizes b
 | [],b=>by simp [Ex.sizes]
 |e::a,b=>by simp [Ex.sizes,sizes_app a b];omega
theorem okSs_app: ∀a b:List Ex,Ex.okSs (a++b)↔Ex.okSs a∧Ex.okSs b
 | [],b=>by simp [Ex.okSs]
 |e::a,b=>by simp [Ex.okSs,okSs_app a b,and_assoc]
theorem bs0_size:(bs []).size≤100000:=by decide
def TS (l:List Tk):Prop:= ∀j,(tkA l j).s.size≤100000
def HS (p:PR):Prop:= ∀nt i e j,p nt i= .ok e j→i+e.size≤j∧e.okS
section
variable {l : List Tk} (ht : TS l) {n : Nat} {p : PR} (hp : HS p)
include ht hp
theorem nameS_sz {i j:Nat}{a:ByteArray}(h:nameS l i= .ok a j):a.size≤100000:=by
 unfold nameS at h;split at h<;>cases h;exact ht _
theorem armS_sz {i j:Nat}{a:ByteArray}(h:armS l i= .ok a j):a.size≤100000:=by
 unfold armS at h;split at h<;>cases h;exact ht _
theorem whenS_sz {i j:Nat}{w:ByteArray × ByteArray}(h:whenS l i= .ok w j):i+1≤j∧w.1.size≤100000∧w.2.size≤100000:=by
 have b1:bTrue.size≤100000:=by decide
 have b2:bFalse.size≤100000:=by decide
 unfold whenS at h
 split at h
 ·obtain⟨a,k,h1,h⟩:=bind_inv h
  have:=nameS_le h1;have:=nameS_sz ht hp h1
  cases h;exact⟨by omega,by assumption,b2⟩
 ·split at h
  ·obtain⟨a,k,h1,h⟩:=bind_inv h
   have:=nameS_le h1;have:=nameS_sz ht hp h1
   cases h;exact⟨by omega,by assumption,b1⟩
  ·obtain⟨a,k,h1,h⟩:=bind_inv h
   obtain⟨_,k2,h2,h⟩:=bind_inv h
   obtain⟨_,k3,h3,h⟩:=bind_inv h
   obtain⟨_,k4,h4,h⟩:=bind_inv h
   have:=armS_le h1;have:=needS_le h2;have:=nameS_le h3;have:=needS_le h4
   have q1:=armS_sz ht hp h1;have q2:=nameS_sz ht hp h3
   cases h;exact⟨by omega,q2,q1⟩
theorem left_sz (side:Nt)(a m i:Nat)(e:Ex)(j:Nat)(h:leftS l n p side a m i= .ok e j):i+e.size≤j∧e.okS:=by
 unfold leftS at h
 obtain⟨e1,k,h1,h⟩:=bind_inv h
 refine iterS_inv (fun x:Ex × Nat=>i+x.1.size≤x.2∧x.1.okS) (fun r j=>i+r.size≤j∧r.okS) (fun x y hx hs=> ?_) (fun x r j hx hs=> ?_) n (e1,k) e j (hp _ _ _ _ h1) h
 ·obtain⟨e2,i2⟩:=x
  rw[leftT]at hs
  split at hs
  ·cases hs
  ·split at hs<;>cases hs
   have:=hp _ _ _ _ ‹_›
   (simp only [binE,ex,Ex.size,Ex.sizes,Ex.okS,Ex.okSs,sizes_app,okSs_app]at*;refine⟨by omega,?_⟩;simp_all [bs0_size])
 ·obtain⟨e2,i2⟩:=x
  rw[leftT]at hs
  split at hs
  ·cases hs;exact hx
  ·split at hs<;>cases hs
theorem list_sz (en:ByteArray)(i:Nat)(e:List Ex)(j:Nat)(h:listS l n p en i= .ok e j):i+Ex.sizes e≤j∧Ex.okSs e:=by
 unfold listS at h
 obtain⟨e1,k,h1,h⟩:=bind_inv h
 have h0:=hp _ _ _ _ h1
 refine iterS_inv (fun x:List Ex × Nat=>i+Ex.sizes x.1≤x.2∧Ex.okSs x.1) (fun r j=>i+Ex.sizes r≤j∧Ex.okSs r) (fun x y hx hs=> ?_) (fun x r j hx hs=> ?_) n ([e1],k) e j (by(simp only [binE,ex,Ex.size,Ex.sizes,Ex.okS,Ex.okSs,sizes_app,okSs_app]at*;refine⟨by omega,?_⟩;simp_all [bs0_size])) h
 ·obtain⟨e2,i2⟩:=x
  rw[listT]at hs
  split at hs
  ·split at hs<;>cases hs
   have:=hp _ _ _ _ ‹_›
   (simp only [binE,ex,Ex.size,Ex.sizes,Ex.okS,Ex.okSs,sizes_app,okSs_app]at*;refine⟨by omega,?_⟩;simp_all [bs0_size])
  ·cases hs
 ·obtain⟨e2,i2⟩:=x
  rw[listT]at hs
  split at hs
  ·split at hs<;>cases hs
  ·obtain⟨_,k2,h2,h⟩:=bind_inv (Sum.inr.inj hs)
   have:=needS_le h2
   cases h
   (simp only [binE,ex,Ex.size,Ex.sizes,Ex.okS,Ex.okSs,sizes_app,okSs_app]at*;refine⟨by omega,?_⟩;simp_all [bs0_size])
theorem post_sz (i:Nat)(e:Ex)(j:Nat)(h:postS l n p i= .ok e j):i+e.size≤j∧e.okS:=by
 unfold postS at h
 obtain⟨e1,k,h1,h⟩:=bind_inv h
 refine iterS_inv (fun x:Ex × Nat=>i+x.1.size≤x.2∧x.1.okS) (fun r j=>i+r.size≤j∧r.okS) (fun x y hx hs=> ?_) (fun x r j hx hs=> ?_) n (e1,k) e j (hp _ _ _ _ h1) h
 ·obtain⟨e2,i2⟩:=x
  rw[postT]at hs
  split at hs
  ·split at hs<;>cases hs
   obtain⟨_,k2,h2,h⟩:=bind_inv ‹_›
   obtain⟨_,k3,h3,h⟩:=bind_inv h
   have:=hp _ _ _ _ h2
   have:=needS_le h3
   cases h
   (simp only [binE,ex,Ex.size,Ex.sizes,Ex.okS,Ex.okSs,sizes_app,okSs_app]at*;refine⟨by omega,?_⟩;simp_all [bs0_size])
  ·split at hs
   ·split at hs<;>cases hs
    have:=whenS_sz ht hp ‹_›
    (simp only [binE,ex,Ex.size,Ex.sizes,Ex.okS,Ex.okSs,sizes_app,okSs_app]at*;refine⟨by omega,?_⟩;simp_all [bs0_size])
   ·cases hs
 ·obtain⟨e2,i2⟩:=x
  rw[postT]at hs
  split at hs
  ·split at hs<;>cases hs
  ·split at hs
   ·split at hs<;>cases hs
   ·cases hs;exact hx
theorem callU_sz (nm:ByteArray)(es:List Ex)(i:Nat)(e:Ex)(j:Nat)(hn:nm.size≤100000)(he:Ex.okSs es)(h:callU l p nm es i= .ok e j):i+e.size≤j+Ex.sizes es+1∧e.okS:=by
 unfold callU at h
 split at h
 ·obtain⟨_,k2,h2,h⟩:=bind_inv h
  have:=hp _ _ _ _ h2
  cases h
  (simp only [binE,ex,Ex.size,Ex.sizes,Ex.okS,Ex.okSs,sizes_app,okSs_app]at*;refine⟨by omega,?_⟩;simp_all [bs0_size])
 ·cases h
  (simp only [binE,ex,Ex.size,Ex.sizes,Ex.okS,Ex.okSs,sizes_app,okSs_app]at*;refine⟨by omega,?_⟩;simp_all [bs0_size])
theorem word_sz (i:Nat)(e:Ex)(j:Nat)(h:wordS l n p i= .ok e j):i+e.size≤j∧e.okS:=by
 unfold wordS at h
 split at h
 ·cases h;(simp only [binE,ex,Ex.size,Ex.sizes,Ex.okS,Ex.okSs,sizes_app,okSs_app]at*;refine⟨by omega,?_⟩;simp_all [bs0_size])
 split at h
 ·cases h;(simp only [binE,ex,Ex.size,Ex.sizes,Ex.okS,Ex.okSs,sizes_app,okSs_app]at*;refine⟨by omega,?_⟩;simp_all [bs0_size])
 split at h
 ·obtain⟨_,k2,h2,h⟩:=bind_inv h
  have:=list_sz ht hp _ _ _ _ h2
  cases h
  (simp only [binE,ex,Ex.size,Ex.sizes,Ex.okS,Ex.okSs,sizes_app,okSs_app]at*;refine⟨by omega,?_⟩;simp_all [bs0_size])
 split at h
 ·unfold roundS at h
  obtain⟨_,k1,h1,h⟩:=bind_inv h
  have:=hp _ _ _ _ h1
  split at h
  ·obtain⟨_,k2,h2,h⟩:=bind_inv h
   obtain⟨_,k3,h3,h⟩:=bind_inv h
   obtain⟨_,k4,h4,h⟩:=bind_inv h
   obtain⟨_,k5,h5,h⟩:=bind_inv h
   obtain⟨_,k6,h6,h⟩:=bind_inv h
   have:=needS_le h2;have:=hp _ _ _ _ h3;have:=needS_le h4;have:=hp _ _ _ _ h5;have:=needS_le h6
   cases h
   (simp only [binE,ex,Ex.size,Ex.sizes,Ex.okS,Ex.okSs,sizes_app,okSs_app]at*;refine⟨by omega,?_⟩;simp_all [bs0_size])
  ·obtain⟨_,k2,h2,h⟩:=bind_inv h
   have:=needS_le h2
   cases h
   (simp only [binE,ex,Ex.size,Ex.sizes,Ex.okS,Ex.okSs,sizes_app,okSs_app]at*;refine⟨by omega,?_⟩;simp_all [bs0_size])
 split at h
 ·unfold mergeS at h
  obtain⟨nm,k1,h1,h⟩:=bind_inv h
  obtain⟨_,k2,h2,h⟩:=bind_inv h
  obtain⟨q,k3,h3,h⟩:=bind_inv h
  have q1:=nameS_sz ht hp h1
  have:=nameS_le h1;have:=needS_le h2
  have key:=iterS_inv (fun x:List ByteArray × List Ex × Nat × Bool=>k2+Ex.sizes x.2.1≤x.2.2.1∧Ex.okSs x.2.1∧(∀y∈x.1,y.size≤100000)∧x.1.length=x.2.1.length) (fun r j=>k2+Ex.sizes r.2≤j∧Ex.okSs r.2∧(∀y∈r.1,y.size≤100000)∧r.1.length=r.2.length) (fun x y hx hs=> ?_) (fun x r j hx hs=> ?_) n ([],[],k2,true) q k3 (by simp [Ex.sizes,Ex.okSs]) h3
  ·cases h
   obtain⟨w1,w2,w3,w4⟩:=key
   refine⟨?_,q1,⟨w3,Nat.le_of_eq w4⟩,w2⟩
   simp only [Ex.size]
   omega
  ·obtain⟨ar,es,i2,b⟩:=x
   obtain⟨w1,w2,w3,w4⟩:=hx
   cases b with
   |false=>cases hs
   |true=>
    rw[mergeT]at hs
    split at hs
    ·obtain⟨a,g1,r1,r⟩:=bind_inv ‹_›
     obtain⟨_,g2,r2,r⟩:=bind_inv r
     obtain⟨e2,g900003,r3,r⟩:=bind_inv r
     obtain⟨_,g900004,r4,r⟩:=bind_inv r
     have:=armS_le r1;have:=needS_le r2;have z:=hp _ _ _ _ r3;have:=needS_le r4
     have q2:=armS_sz ht hp r1
     cases r
     split at hs<;>cases hs<;>
     (refine⟨?_,(okSs_app _ _).2 ⟨w2,z.2,trivial⟩,fun y hy=> ?_,by simp only [List.length_append,List.length_cons,List.length_nil]at w4 ⊢;omega⟩
      ·simp only [sizes_app,Ex.sizes]at w1 ⊢;omega
      ·rcases List.mem_append.1 hy with hy|hy
       ·exact w3 y hy
       ·rw[List.mem_singleton.1 hy];exact q2)
    ·cases hs
    ·cases hs
  ·obtain⟨ar,es,i2,b⟩:=x
   cases b with
   |false=>cases hs;exact hx
   |true=>
    rw[mergeT]at hs
    split at hs
    ·split at hs<;>cases hs
    ·cases hs
    ·cases hs
 split at h
 ·unfold choiceS at h
  obtain⟨_,k1,h1,h⟩:=bind_inv h
  obtain⟨_,k2,h2,h⟩:=bind_inv h
  obtain⟨_,k3,h3,h⟩:=bind_inv h
  obtain⟨_,k4,h4,h⟩:=bind_inv h
  obtain⟨_,k5,h5,h⟩:=bind_inv h
  have:=hp _ _ _ _ h1;have:=needS_le h2;have:=hp _ _ _ _ h3;have:=needS_le h4;have:=hp _ _ _ _ h5
  cases h
  (simp only [binE,ex,Ex.size,Ex.sizes,Ex.okS,Ex.okSs,sizes_app,okSs_app]at*;refine⟨by omega,?_⟩;simp_all [bs0_size])
 ·obtain⟨nm,k1,h1,h⟩:=bind_inv h
  have q1:=nameS_sz ht hp h1
  have:=nameS_le h1
  split at h
  ·unfold callS at h
   split at h
   ·have:=callU_sz ht hp _ [] _ _ _ q1 trivial h
    (simp only [binE,ex,Ex.size,Ex.sizes,Ex.okS,Ex.okSs,sizes_app,okSs_app]at*;refine⟨by omega,?_⟩;simp_all [bs0_size])
   ·obtain⟨es,k2,h2,h⟩:=bind_inv h
    have q2:=list_sz ht hp _ _ _ _ h2
    have:=callU_sz ht hp _ _ _ _ _ q1 q2.2 h
    exact⟨by omega,this.2⟩
  ·cases h
   (simp only [binE,ex,Ex.size,Ex.sizes,Ex.okS,Ex.okSs,sizes_app,okSs_app]at*;refine⟨by omega,?_⟩;simp_all [bs0_size])
theorem step_sz (nt:Nt)(i:Nat)(e:Ex)(j:Nat)(h:ntS l n p nt i= .ok e j):i+e.size≤j∧e.okS:=by
 cases nt with
 |or=>exact left_sz ht hp _ _ _ _ _ _ h
 |and=>exact left_sz ht hp _ _ _ _ _ _ h
 |sum=>exact left_sz ht hp _ _ _ _ _ _ h
 |prod=>exact left_sz ht hp _ _ _ _ _ _ h
 |post=>exact post_sz ht hp _ _ _ h
 |arrow=>
  obtain⟨_,k1,h1,h⟩:=bind_inv (show arrowS l p i= .ok e j from h)
  have:=hp _ _ _ _ h1
  split at h
  ·obtain⟨_,k2,h2,h⟩:=bind_inv h
   have:=hp _ _ _ _ h2
   cases h
   (simp only [binE,ex,Ex.size,Ex.sizes,Ex.okS,Ex.okSs,sizes_app,okSs_app]at*;refine⟨by omega,?_⟩;simp_all [bs0_size])
  ·cases h;exact this
 |fby=>
  obtain⟨_,k1,h1,h⟩:=bind_inv (show fbyS l p i= .ok e j from h)
  have:=hp _ _ _ _ h1
  split at h
  ·obtain⟨_,k2,h2,h⟩:=bind_inv h
   have:=hp _ _ _ _ h2
   cases h
   (simp only [binE,ex,Ex.size,Ex.sizes,Ex.okS,Ex.okSs,sizes_app,okSs_app]at*;refine⟨by omega,?_⟩;simp_all [bs0_size])
  ·cases h;exact this
 |cmp=>
  obtain⟨_,k1,h1,h⟩:=bind_inv (show cmpS l p i= .ok e j from h)
  have:=hp _ _ _ _ h1
  split at h
  ·cases h;exact this
  ·obtain⟨_,k2,h2,h⟩:=bind_inv h
   have:=hp _ _ _ _ h2
   cases h
   (simp only [binE,ex,Ex.size,Ex.sizes,Ex.okS,Ex.okSs,sizes_app,okSs_app]at*;refine⟨by omega,?_⟩;simp_all [bs0_size])
 |un=>
  have h:unS l p i= .ok e j:=h
  unfold unS at h
  split at h
  ·obtain⟨_,k2,h2,h⟩:=bind_inv h
   have:=hp _ _ _ _ h2
   cases h
   (simp only [binE,ex,Ex.size,Ex.sizes,Ex.okS,Ex.okSs,sizes_app,okSs_app]at*;refine⟨by omega,?_⟩;simp_all [bs0_size])
  split at h
  ·obtain⟨_,k2,h2,h⟩:=bind_inv h
   have:=hp _ _ _ _ h2
   cases h
   (simp only [binE,ex,Ex.size,Ex.sizes,Ex.okS,Ex.okSs,sizes_app,okSs_app]at*;refine⟨by omega,?_⟩;simp_all [bs0_size])
  split at h
  ·obtain⟨_,k2,h2,h⟩:=bind_inv h
   have:=hp _ _ _ _ h2
   cases h
   (simp only [binE,ex,Ex.size,Ex.sizes,Ex.okS,Ex.okSs,sizes_app,okSs_app]at*;refine⟨by omega,?_⟩;simp_all [bs0_size])
  ·exact hp _ _ _ _ h
 |atom=>
  have h:atomS l n p i= .ok e j:=h
  have:=ht i
  unfold atomS at h
  split at h
  ·cases h;(simp only [binE,ex,Ex.size,Ex.sizes,Ex.okS,Ex.okSs,sizes_app,okSs_app]at*;refine⟨by omega,?_⟩;simp_all [bs0_size])
  split at h
  ·cases h;(simp only [binE,ex,Ex.size,Ex.sizes,Ex.okS,Ex.okSs,sizes_app,okSs_app]at*;refine⟨by omega,?_⟩;simp_all [bs0_size])
  split at h
  ·cases h;(simp only [binE,ex,Ex.size,Ex.sizes,Ex.okS,Ex.okSs,sizes_app,okSs_app]at*;refine⟨by omega,?_⟩;simp_all [bs0_size])
  ·exact word_sz ht hp _ _ _ h
end
theorem prs_HS {l:List Tk}(ht:TS l): ∀n,HS (prs l n)
 |0=>fun nt i e j h=>by cases h
 |n+1=>fun nt i e j h=>step_sz ht (prs_HS ht n) nt i e j h
theorem readS_sz {l:List Tk}(ht:TS l){i j:Nat}{e:Ex}(h:readS l i= .ok e j):i+e.size≤j∧e.okS:=prs_HS ht _ _ _ _ _ h
mutual
def Ex.depth:Ex→Nat
 | .mk _ _ _ _ _ l=>Ex.depths l+1
def Ex.depths:List Ex→Nat
 | []=>0
 |e::l=>max e.depth (Ex.depths l)
end
theorem depths_snoc (e:Ex): ∀l:List Ex,Ex.depths (l++[e])=max (Ex.depths l) e.depth
 | []=>by simp [Ex.depths]
 |x::l=>by simp only [List.cons_append,Ex.depths,depths_snoc e l];omega
theorem sizes_mem {e:Ex}: ∀ {l:List Ex} {i:Nat},l[i]? =some e→e.size≤Ex.sizes l
 |x::l,0,h=>by simp at h;subst h;simp only [Ex.sizes];omega
 |x::l,i+1,h=>by have:=sizes_mem (l:=l) (i:=i) (by simpa using h);simp only [Ex.sizes];omega
theorem sizes_len: ∀l:List Ex,l.length≤Ex.sizes l
 | []=>Nat.le_refl _
 | .mk k n s o a u::l=>by have:=sizes_len l;simp only [Ex.sizes,Ex.size,List.length_cons];omega
theorem xrow: ∀ {l:List Ex} {i:Nat} {e:Ex},l[i]? =some e→sy.row (Ex.rows l) (i:Int)=e.row:=by
 intro l i e h
 show(Ex.rows l).getD (i:Int).toNat []=_
 rw[Int.toNat_natCast]
 induction l generalizing i with
 |nil=>cases h
 |cons x l ih=>
  cases i with
  |zero=>simp at h;subst h;rfl
  |succ i=>exact ih (by simpa using h)
mutual
theorem depth_le: ∀e:Ex,e.depth≤e.size
 | .mk _ _ _ _ _ l=>by have:=depths_le l;simp only [Ex.depth,Ex.size];omega
theorem depths_le: ∀l:List Ex,Ex.depths l≤Ex.sizes l
 | []=>Nat.le_refl _
 |e::l=>by have:=depth_le e;have:=depths_le l;simp only [Ex.depths,Ex.sizes];omega
end
theorem imax_nat (a b:Nat):max (a:Int) (b:Int)=((max a b:Nat):Int):=by omega
theorem c_eDepth: ∀(m:Nat) (k n:Int) (s:ByteArray) (o:Int) (a:List ByteArray) (u:List Ex),(Ex.mk k n s o a u).size≤m→m≤1000000→cF 196 [kE k n s o (srows a) (Ex.rows u)]=some (.val [.int .i64 ((Ex.mk k n s o a u).depth:Int)])
 |0,k,n,s,o,a,u,h,_=>by simp only [Ex.size]at h;omega
 |m+1,k,n,s,o,a,u,h,hm=>by
  have hz:Ex.sizes u≤m:=by simp only [Ex.size]at h;omega
  have hl:=sizes_len u
  refine cOf (by kernel_rfl) rfl ?_
  rw[g196_eq]
  simp only [g196,go1,Nat.reduceAdd,Int.reduceEq,Int.reduceLT,Int.reduceLE,Int.reduceSub,Int.reduceAdd,rows_len]
  refine loopF_at (fun i:Nat=>[.int .i64 (Ex.depths (u.take i):Int), .sl 6 (Ex.rows u), .int .i64 (u.length:Int), .int .i64 (i:Int)]) (fun i=>i≤u.length) (fun i=>u.length - i) (fun i hi=> ?_) 0 (Nat.zero_le _)
  by_cases hlt:i < u.length
  ·left
   refine⟨i+1,?_,hlt,by omega⟩
   have hx:=List.getElem?_eq_getElem hlt
   have hd:Ex.depths (u.take (i+1))=max (Ex.depths (u.take i)) u[i].depth:=by rw[List.take_add_one,hx];exact depths_snoc _ _
   rw[hd]
   generalize u[i]=e at hx
   have he:=sizes_mem hx
   have hr:=xrow hx
   obtain⟨k2,n2,s2,o2,a2,u2⟩:=e
   have h2:=c_eDepth m k2 n2 s2 o2 a2 u2 (by omega) (by omega)
   simp only [go1,Nat.reduceAdd,Int.reduceEq,Int.reduceLT,Int.reduceLE,Int.reduceSub,Int.reduceAdd,rows_len,ilt_at hlt,inr_at hlt,hr,Ex.row,oE,h2,wrap_succ hlt (by omega),imax_nat]
   rfl
  ·right
   have:i=u.length:=by omega
   subst this
   have:=depths_le u
   simp only [go1,Nat.reduceAdd,Int.reduceEq,Int.reduceLT,Int.reduceLE,Int.reduceSub,Int.reduceAdd,rows_len,ilt_self,List.take_length,Ex.depth]
   rw[wrap_succ (n:=Ex.depths u+1) (by omega) (by omega)]
   rfl
theorem sizes_snoc (e:Ex)(l:List Ex):Ex.sizes (l++[e])=Ex.sizes l+e.size:=by rw[sizes_app];simp [Ex.sizes]
def armN (s:ByteArray):Bool:=highN (tb s) || (decide (tb s=tb bTrue) || decide (tb s=tb bFalse))
def litS:Ex→Bool
 | .mk k _ _ o _ u=>bif decide (k=5)then decide (o=1)&&(match u with
   | [.mk k2 _ _ _ _ _]=>decide (k2=1)
   |_=>false)else decide (k=1) || (decide (k=2) || decide (k=4))
def constS:Ex→Bool
 | .mk k n s o a u=>bif decide (k=14)then u.all litS else litS (.mk k n s o a u)
def opB_ (k o:Int):Bool:=bif decide (k=5)then decide (1≤o)&&decide (o≤2)else bif decide (k=6)then decide (3≤o)&&decide (o≤16)else decide (o=0)
def numB (k n:Int):Bool:=bif decide (k=1)then decide (0≤n)else bif decide (k=2) || decide (k=13)then decide (n=0) || decide (n=1)else decide (n=0)
def nameB (k:Int)(s:ByteArray):Bool:=bif decide (k=3) || (decide (k=11) || (decide (k=12) || decide (k=13)))then lowN (tb s)else bif decide (k=4)then highN (tb s)else bif decide (k=17)then pathN (tb s)else decide (tb s= [])
def armsB (k:Int)(a:List ByteArray):Bool:=a.all armN&&(bif decide (k=11)then decide (a.length=1)else bif decide (k=12)then decide (1≤a.length)&&(decide (a.length≤6)&&decide a.Nodup)else decide (a.length=0))
def loB (k n:Int)(la:Nat):Int:=if k=5∨k=10∨k=11∨k=14 then 1 else if k=6∨k=8∨k=9∨k=15 then 2 else if k=7∨k=16 then 3 else if k=12 then la else if k=13 then n else 0
def hiB (k n:Int)(la:Nat):Int:=if k=14 then 8 else if k=13 then(if n=0 then 6 else 7)else loB k n la
def conB (k:Int)(u:List Ex):Bool:=bif decide (k=8)then(match u with
 |e::_=>constS e
 | []=>false)else true
def kindB (k:Int):Bool:=decide (1≤k)&&decide (k≤17)
def partB:Ex→Bool
 | .mk k n s o a u=>kindB k&&(numB k n&&(nameB k s&&(opB_ k o&&(armsB k a&&(decide (loB k n a.length≤(u.length:Int))&&(decide ((u.length:Int)≤hiB k n a.length)&&conB k u))))))
mutual
def allB:Ex→Bool
 | .mk k n s o a u=>partB (.mk k n s o a u)&&allBs u
def allBs:List Ex→Bool
 | []=>true
 |e::l=>allB e&&allBs l
end
theorem kinds (k:Int)(h:kindB k=true):k=1∨k=2∨k=3∨k=4∨k=5∨k=6∨k=7∨k=8∨k=9∨k=10∨k=11∨k=12∨k=13∨k=14∨k=15∨k=16∨k=17:=by
 unfold kindB at h
 simp at h
 omega
theorem kindB_no {k:Int}(h:kindB k=false):k≠1∧k≠2∧k≠3∧k≠4∧k≠5∧k≠6∧k≠7∧k≠8∧k≠9∧k≠10∧k≠11∧k≠12∧k≠13∧k≠14∧k≠15∧k≠16∧k≠17:=by
 unfold kindB at h
 simp at h
 omega
theorem or12 (o:Int):(decide (o=1) || decide (o=2))=(decide (1≤o)&&decide (o≤2)):=by
 rw[Bool.eq_iff_iff]
 simp
 omega
theorem c_enothing (k n:Int)(s:ByteArray)(o:Int)(a u:List (List D))(m:Int):cF 268 [kE k n s o a u, .d (.int .i64 m)]=some (.val [.bool (decide (n=0)), .bool (decide (tb s= [])), .bool (decide (o=0)), .int .i64 m, .int .i64 m, .int .i64 0]):=by
 refine cOf (by kernel_rfl) rfl ?_
 rw[g268_eq]
 simp only [g268,go1,Nat.reduceAdd,Int.reduceEq,Int.reduceLT,Int.reduceLE,Int.reduceSub,Int.reduceAdd,seq_tb]
 rfl
theorem c_eleaf (k n:Int)(s:ByteArray)(o:Int)(a u:List (List D))(hk:k=1∨k=2∨k=3∨k=4∨k=17)(hs:s.size≤100000):cF 267 [kE k n s o a u]=some (.val [.bool (numB k n), .bool (nameB k s), .bool (opB_ k o), .int .i64 0, .int .i64 0, .int .i64 0]):=by
 have h1:=c_enothing k n s o a u 0
 have h2:=c_Low s
 have h3:=c_High s
 have h4:=c_Path s hs
 refine cOf (by kernel_rfl) rfl ?_
 rw[g267_eq]
 simp only [g267,go1,Nat.reduceAdd,Int.reduceEq,Int.reduceLT,Int.reduceLE,Int.reduceSub,Int.reduceAdd,h1,h2,h3,h4,oQ]
 rcases hk with rfl|rfl|rfl|rfl|rfl<;>simp only [go1,Nat.reduceAdd,Int.reduceEq,Int.reduceLT,Int.reduceLE,Int.reduceSub,Int.reduceAdd,numB,nameB,opB_,decide_true,decide_false,Int.reduceEq,cond_true,cond_false,Bool.or_true,Bool.or_false,Bool.false_or,Bool.true_or]
theorem c_eof (k n:Int)(s:ByteArray)(o:Int)(a:List ByteArray)(u:List (List D))(hs:s.size≤100000):cF 234 [kE k n s o (srows a) u]=some (match kindB k with
  |true=> .val [.bool (numB k n), .bool (nameB k s), .bool (opB_ k o), .int .i64 (loB k n a.length), .int .i64 (hiB k n a.length), .int .i64 (if k=11 then 1 else if k=12 then 6 else 0), .bool true]
  |false=> .val [.bool false, .bool false, .bool false, .int .i64 0, .int .i64 0, .int .i64 0, .bool false]):=by
 have h1:=c_enothing k n s o (srows a) u
 have h2:=c_Low s
 have h5:=srows_len a
 cases hk:kindB k with
 |true=>
  rcases kinds k hk with h|h|h|h|h|h|h|h|h|h|h|h|h|h|h|h|h
  all_goals (first|(have h3:=c_eleaf k n s o (srows a) u (by omega) hs;subst h)|(subst h;have h3:=True.intro))
  all_goals
   refine cOf (by kernel_rfl) rfl ?_
   rw[g234_eq]
   simp only [↓g234, ↓h1, ↓h2, ↓h3, ↓h5,oQ,loB,hiB,go1,Nat.reduceAdd,Int.reduceEq,Int.reduceLT,Int.reduceLE,Int.reduceSub,Int.reduceAdd,h1,h2,h3,h5,numB,nameB,opB_,Int.reduceEq,or_self,or_true,true_or,if_true,if_false,decide_true,decide_false,cond_true,cond_false]
  ·rw[or12]
  ·by_cases hn:n=0
   ·subst hn;rfl
   ·simp only [decF hn,cond_false,Bool.false_or,if_neg hn]
 |false=>
  obtain⟨q1,q2,q3,q4,q5,q6,q7,q8,q9,q10,q11,q12,q13,q14,q15,q16,q17⟩:=kindB_no hk
  refine cOf (by kernel_rfl) rfl ?_
  rw[g234_eq]
  simp only [g234,go1,Nat.reduceAdd,Int.reduceEq,Int.reduceLT,Int.reduceLE,Int.reduceSub,Int.reduceAdd]
  simp only [decF q1,decF q2,decF q3,decF q4,decF q5,decF q6,decF q7,decF q8,decF q9,decF q10,decF q11,decF q12,decF q13,decF q14,decF q15,decF q16,decF q17,go1,Nat.reduceAdd,Int.reduceEq,Int.reduceLT,Int.reduceLE,Int.reduceSub,Int.reduceAdd]
theorem c_earm (s:ByteArray):cF 236 [.d (.str s)]=some (.val [.bool (armN s)]):=by
 have h:=c_High s
 refine cOf (by kernel_rfl) rfl ?_
 rw[g236_eq]
 simp only [g236,go1,Nat.reduceAdd,Int.reduceEq,Int.reduceLT,Int.reduceLE,Int.reduceSub,Int.reduceAdd,h,seq_tb]
 unfold armN
 cases highN (tb s)<;>cases h1:decide (tb s=tb bTrue)<;>cases h2:decide (tb s=tb bFalse)<;>(unfold bTrue at h1;unfold bFalse at h2;simp only [go1,Nat.reduceAdd,Int.reduceEq,Int.reduceLT,Int.reduceLE,Int.reduceSub,Int.reduceAdd,h1,h2];try rfl)
theorem c_epart1 (s:ByteArray):cF 235 [.d (.str s)]=some (.val [.bool (!armN s)]):=by
 have h:=c_earm s
 refine cOf (by kernel_rfl) rfl ?_
 rw[g235_eq]
 simp only [g235,go1,Nat.reduceAdd,Int.reduceEq,Int.reduceLT,Int.reduceLE,Int.reduceSub,Int.reduceAdd,h]
theorem c_xContFn (a:List ByteArray)(ha:a.length≤1000000):cF 161 [.d (.sl 1 (srows a)), .fn 235 []]=some (.val [.bool (!a.all armN)]):=by
 rw[List.not_all_eq_any_not]
 cases hall:a.any fun s=> !armN s with
 |false=>
  refine cOf (by kernel_rfl) rfl ?_
  rw[g161_235_eq]
  simp only [g161_235,go1,Nat.reduceAdd,Int.reduceEq,Int.reduceLT,Int.reduceLE,Int.reduceSub,Int.reduceAdd,srows_len]
  refine loopF_at (fun i:Nat=>[.sl 1 (srows a), .int .i64 (a.length:Int), .int .i64 (i:Int)]) (fun i=>i≤a.length) (fun i=>a.length - i) (fun i hi=> ?_) 0 (Nat.zero_le _)
  by_cases hlt:i < a.length
  ·left
   refine⟨i+1,?_,hlt,by omega⟩
   have hx:=List.getElem?_eq_getElem hlt
   have h:=c_epart1 a[i]
   have h0:(!armN a[i])=false:=by
    have:=(List.any_eq_false.1 hall) a[i] (List.getElem_mem hlt)
    simpa using this
   simp only [go1,Nat.reduceAdd,Int.reduceEq,Int.reduceLT,Int.reduceLE,Int.reduceSub,Int.reduceAdd,srows_len,ilt_at hlt,inr_at hlt,srows_at hx,h,h0,wrap_succ hlt (by omega)]
   rfl
  ·right
   have:i=a.length:=by omega
   subst this
   simp only [go1,Nat.reduceAdd,Int.reduceEq,Int.reduceLT,Int.reduceLE,Int.reduceSub,Int.reduceAdd,srows_len,ilt_self]
 |true=>
  have hj:=List.findIdx_lt_length_of_exists (List.any_eq_true.1 hall)
  have hpj:=List.findIdx_getElem (w:=hj)
  generalize hJ:(a.findIdx fun s=> !armN s)=j at hj hpj
  refine cOf (by kernel_rfl) rfl ?_
  rw[g161_235_eq]
  simp only [g161_235,go1,Nat.reduceAdd,Int.reduceEq,Int.reduceLT,Int.reduceLE,Int.reduceSub,Int.reduceAdd,srows_len]
  refine loopF_at (fun i:Nat=>[.sl 1 (srows a), .int .i64 (a.length:Int), .int .i64 (i:Int)]) (fun i=>i≤j) (fun i=>a.length - i) (fun i hi=> ?_) 0 (Nat.zero_le _)
  have hlt:i < a.length:=by omega
  have hx:=List.getElem?_eq_getElem hlt
  have h:=c_epart1 a[i]
  by_cases hij:i < j
  ·left
   refine⟨i+1,?_,hij,by omega⟩
   have h0:(!armN a[i])=false:=by
    have:=List.not_of_lt_findIdx (p:=fun s=> !armN s) (xs:=a) (i:=i) (by omega)
    simpa using this
   simp only [go1,Nat.reduceAdd,Int.reduceEq,Int.reduceLT,Int.reduceLE,Int.reduceSub,Int.reduceAdd,srows_len,ilt_at hlt,inr_at hlt,srows_at hx,h,h0,wrap_succ hlt (by omega)]
   rfl
  ·right
   have:i=j:=by omega
   subst this
   have h0:(!armN a[i])=true:=hpj
   simp only [go1,Nat.reduceAdd,Int.reduceEq,Int.reduceLT,Int.reduceLE,Int.reduceSub,Int.reduceAdd,srows_len,ilt_at hlt,inr_at hlt,srows_at hx,h,h0,decT (Int.natCast_nonneg i)]
theorem c_eliteral (k n:Int)(s:ByteArray)(o:Int)(a:List ByteArray)(u:List Ex)(hu:u.length≤1000000):cF 269 [kE k n s o (srows a) (Ex.rows u)]=some (.val [.bool (litS (.mk k n s o a u))]):=by
 have h1:=rows_len u
 refine cOf (by kernel_rfl) rfl ?_
 rw[g269_eq]
 simp only [g269,go1,Nat.reduceAdd,Int.reduceEq,Int.reduceLT,Int.reduceLE,Int.reduceSub,Int.reduceAdd,h1]
 unfold litS
 by_cases k5:k=5
 ·subst k5
  simp only [go1,Nat.reduceAdd,Int.reduceEq,Int.reduceLT,Int.reduceLE,Int.reduceSub,Int.reduceAdd,decide_true,decide_false,Int.reduceEq]
  match u with
  | []=>cases decide (o=1)<;>rfl
  | [.mk k2 n2 s2 o2 a2 u2]=>cases decide (o=1)<;>rfl
  |e1::e2::u=>
   have:decide ((((e1::e2::u).length:Nat):Int)=1)=false:=decide_eq_false (by simp only [List.length_cons];omega)
   simp only [go1,Nat.reduceAdd,Int.reduceEq,Int.reduceLT,Int.reduceLE,Int.reduceSub,Int.reduceAdd,this];try (cases decide (o=1)<;>rfl)
 ·simp only [go1,Nat.reduceAdd,Int.reduceEq,Int.reduceLT,Int.reduceLE,Int.reduceSub,Int.reduceAdd,decF k5]
  cases decide (k=1)<;>cases decide (k=2)<;>cases decide (k=4)<;>rfl
theorem sy_mval (z k:D)(l:List (List D)):sy.mval z k l=mval z k l:=rfl
theorem sy_mput (k x:D)(l:List (List D)):sy.mput k x l=mput k x l:=rfl
def encT (l:List ByteArray):List (List D):=l.map fun s=>[.str s, .int .i64 1]
theorem key_str (a b:ByteArray):keyIs (.str a) (.str b)=decide (a=b):=by
 show(a == b)=_
 have h:(a == b)=(a.data == b.data):=rfl
 rw[h,Bool.eq_iff_iff,beq_iff_eq,decide_eq_true_eq]
 exact⟨fun h=>by cases a;cases b;simp_all,fun h=>by rw[h]⟩
theorem midxT {x:ByteArray}: ∀ {l:List ByteArray},x ∉ l→midx (.str x) (encT l)=none
 | [],_=>rfl
 |y::l,h=>by
  have h1: ¬x=y:=fun e=>h (by rw[e];exact List.mem_cons_self)
  have h2:x ∉ l:=fun e=>h (List.mem_cons_of_mem _ e)
  show midx (.str x) ((D.str y::[.int .i64 1])::encT l)=none
  have hk:keyIs (.str x) (.str y)=false:=by rw[key_str];exact decF h1
  simp only [midx,hk,midxT h2];rfl
theorem mvalT {x:ByteArray}: ∀ {l:List ByteArray},x∈l→mval (.int .i64 0) (.str x) (encT l)= .int .i64 1
 |y::l,h=>by
  show mval (.int .i64 0) (.str x) ((D.str y::[.int .i64 1])::encT l)=_
  by_cases he:x=y
  ·have hk:keyIs (.str x) (.str y)=true:=by rw[key_str];exact decT he
   simp only [mval,mget,midx,hk];rfl
  ·have hm:x∈l:=by
    rcases List.mem_cons.1 h with e|e
    ·exact absurd e he
    ·exact e
   have ih:=mvalT hm
   have hk:keyIs (.str x) (.str y)=false:=by rw[key_str];exact decF he
   simp only [mval,mget,midx,hk]at ih ⊢
   rw[←ih]
   cases midx (.str x) (encT l)<;>rfl
theorem mvalT0 {x:ByteArray}{l:List ByteArray}(h:x ∉ l):mval (.int .i64 0) (.str x) (encT l)= .int .i64 0:=by
 unfold mval mget;rw[midxT h];rfl
theorem mputT {x:ByteArray}{l:List ByteArray}(h:x ∉ l):mput (.str x) (.int .i64 1) (encT l)=encT (l++[x]):=by
 unfold mput;rw[midxT h];simp [encT]
theorem nodup_snoc {l:List ByteArray}{i:Nat}{x:ByteArray}(h:l[i]? =some x)(hn:(l.take i).Nodup)(hx:x ∉ l.take i):(l.take (i+1)).Nodup:=by
 rw[List.take_add_one,h,Option.toList_some,List.nodup_append]
 exact⟨hn,by simp,fun a ha b hb=>by simp at hb;rw[hb];exact fun e=>hx (e▸ha)⟩
theorem nodup_not {l:List ByteArray}{i:Nat}{x:ByteArray}(h:l[i]? =some x)(hx:x∈l.take i): ¬l.Nodup:=by
 intro hn
 have hd:l=l.take i++l.drop i:=(List.take_append_drop i l).symm
 rw[hd,List.nodup_append]at hn
 refine hn.2.2 x hx x ?_ rfl
 have:(l.drop i)[0]? =some x:=by simpa using h
 exact List.mem_of_getElem? this
theorem c_iOnce (l:List ByteArray)(hl:l.length≤1000000):cF 68 [.d (.sl 1 (srows l))]=some (.val [.bool (decide l.Nodup)]):=by
 refine cOf (by kernel_rfl) rfl ?_
 rw[g68_eq]
 simp only [g68,go1,Nat.reduceAdd,Int.reduceEq,Int.reduceLT,Int.reduceLE,Int.reduceSub,Int.reduceAdd,srows_len]
 refine loopF_at (fun i:Nat=>[.sl 1 (srows l), .int .i64 (l.length:Int), .int .i64 (i:Int), .sl 2 (encT (l.take i))]) (fun i=>i≤l.length∧(l.take i).Nodup) (fun i=>l.length - i) (fun i hi=> ?_) 0 ⟨Nat.zero_le _,by simp⟩
 by_cases hlt:i < l.length
 ·have hx:=List.getElem?_eq_getElem hlt
  by_cases hm:l[i]∈l.take i
  ·right
   rw[decF (nodup_not hx hm)]
   simp only [go1,Nat.reduceAdd,Int.reduceEq,Int.reduceLT,Int.reduceLE,Int.reduceSub,Int.reduceAdd,srows_len,ilt_at hlt,inr_at hlt,srows_at hx,sy_mval,mvalT hm]
  ·left
   refine⟨i+1,?_,⟨hlt,nodup_snoc hx hi.2 hm⟩,by omega⟩
   have hw:IntKind.i64.wrap 1=1:=rfl
   simp only [go1,Nat.reduceAdd,Int.reduceEq,Int.reduceLT,Int.reduceLE,Int.reduceSub,Int.reduceAdd,srows_len,ilt_at hlt,inr_at hlt,srows_at hx,sy_mval,sy_mput,mvalT0 hm,hw,mputT hm,wrap_succ hlt (by omega)]
   rw[List.take_add_one,hx];rfl
 ·right
  have:i=l.length:=by omega
  subst this
  simp only [go1,Nat.reduceAdd,Int.reduceEq,Int.reduceLT,Int.reduceLE,Int.reduceSub,Int.reduceAdd,srows_len,ilt_self]
  rw[List.take_length]at hi
  rw[decT hi.2]
theorem rep_loop {α:Type}{b:List D→Option (List D ⊕ α)}{r:α}(n:Nat)(mk:Nat→List D)(hb: ∀i,i < n→b (mk i)=some (.inl (mk (i+1))))(hend:b (mk n)=some (.inr r)):loopF b (mk 0)=some r:=by
 refine loopF_at mk (fun i=>i≤n) (fun i=>n - i) (fun i hi=> ?_) 0 (Nat.zero_le _)
 by_cases h:i < n
 ·exact .inl ⟨i+1,hb i h,h,by omega⟩
 ·have:i=n:=by omega
  subst this
  exact .inr hend
theorem all_loop {τ α:Type}{b:List D→Option (List D ⊕ α)}{r0 r1:α}(p:τ→Bool)(l:List τ)(mk:Nat→List D)
  (hb: ∀i x,l[i]? =some x→b (mk i)=bif p x then some (.inl (mk (i+1)))else some (.inr r0))
  (hend:l.all p=true→b (mk l.length)=some (.inr r1)):loopF b (mk 0)=some (bif l.all p then r1 else r0):=by
 suffices ∀(rest:List τ) (i:Nat),l.drop i=rest→i≤l.length→(l.take i).all p=true→loopF b (mk i)=some (bif rest.all p then r1 else r0)from this l 0 rfl (Nat.zero_le _) rfl
 intro rest
 induction rest with
 |nil=>
  intro i hd hi ht
  have:i=l.length:=by have:=congrArg List.length hd;simp at this;omega
  subst this
  rw[List.take_length]at ht
  rw[loopF_eq,hend ht]
  rfl
 |cons x xs ih=>
  intro i hd hi ht
  have hx:l[i]? =some x:=by
   have:=congrArg (fun r=>r[0]?) hd
   simpa using this
  have hlt:i < l.length:=(List.getElem?_eq_some_iff.1 hx).1
  have hxs:l.drop (i+1)=xs:=by
   have:=congrArg List.tail hd
   simpa using this
  rw[loopF_eq,hb i x hx]
  cases hp:p x with
  |false=>simp [List.all_cons,hp]
  |true=>
   simp only [cond_true,List.all_cons,hp,Bool.true_and]
   refine ih (i+1) hxs hlt ?_
   rw[List.take_add_one,hx,List.all_append,ht]
   simp [hp]
theorem all_loop2 {τ α:Type}{b:List D→Option (List D ⊕ α)}{r0 r1 r:α}{ds:List D}(p:τ→Bool)(l:List τ)(mk:Nat→List D)(h0:mk 0=ds)
  (hb: ∀i x,l[i]? =some x→b (mk i)=bif p x then some (.inl (mk (i+1)))else some (.inr r0))
  (hend:l.all p=true→b (mk l.length)=some (.inr r1)) (hr:(bif l.all p then r1 else r0)=r):loopF b ds=some r:=by
 rw[←h0,all_loop p l mk hb hend,hr]
theorem row_of {l:List Ex}{i:Nat}{k n:Int}{s:ByteArray}{o:Int}{a:List ByteArray}{u:List Ex}(h:l[i]? =some (.mk k n s o a u)):sy.row (Ex.rows l) (i:Int)= [.int .i64 k, .int .i64 n, .str s, .int .i64 o, .sl 1 (srows a), .sl 6 (Ex.rows u)]:=xrow h
theorem u_len {l:List Ex}{i:Nat}{k n:Int}{s:ByteArray}{o:Int}{a:List ByteArray}{u:List Ex}(h:l[i]? =some (.mk k n s o a u))(hl:Ex.sizes l≤1000000):u.length≤1000000:=by
 have h1:=sizes_mem h
 have h2:=sizes_len u
 simp only [Ex.size]at h1
 omega
theorem c_eConst1 (k n:Int)(s:ByteArray)(o:Int)(a:List ByteArray)(u:List Ex)(hu:u.length≤1000000):cF 270 [kE k n s o (srows a) (Ex.rows u)]=some (.val [.bool (!litS (.mk k n s o a u))]):=by
 have h:=c_eliteral k n s o a u hu
 refine cOf (by kernel_rfl) rfl ?_
 rw[g270_eq]
 simp only [g270,go1,Nat.reduceAdd,Int.reduceEq,Int.reduceLT,Int.reduceLE,Int.reduceSub,Int.reduceAdd,h]
theorem c_xContEx (l:List Ex)(hl:Ex.sizes l≤1000000):cF 250 [.d (.sl 6 (Ex.rows l)), .fn 270 []]=some (.val [.bool (!l.all litS)]):=by
 rw[List.not_all_eq_any_not]
 have hlen:=sizes_len l
 cases hall:l.any fun s=> !litS s with
 |false=>
  refine cOf (by kernel_rfl) rfl ?_
  rw[g250_270_eq]
  simp only [g250_270,go1,Nat.reduceAdd,Int.reduceEq,Int.reduceLT,Int.reduceLE,Int.reduceSub,Int.reduceAdd,rows_len]
  refine loopF_at (fun i:Nat=>[.sl 6 (Ex.rows l), .int .i64 (l.length:Int), .int .i64 (i:Int)]) (fun i=>i≤l.length) (fun i=>l.length - i) (fun i hi=> ?_) 0 (Nat.zero_le _)
  by_cases hlt:i < l.length
  ·left
   refine⟨i+1,?_,hlt,by omega⟩
   have hx:=List.getElem?_eq_getElem hlt
   have h0:(!litS l[i])=false:=by
    have:=(List.any_eq_false.1 hall) l[i] (List.getElem_mem hlt)
    simpa using this
   generalize l[i]=e at hx h0
   obtain⟨k,n,s,o,a,u⟩:=e
   have h:=c_eConst1 k n s o a u (u_len hx hl)
   simp only [go1,Nat.reduceAdd,Int.reduceEq,Int.reduceLT,Int.reduceLE,Int.reduceSub,Int.reduceAdd,rows_len,ilt_at hlt,inr_at hlt,row_of hx,oE,h,h0,wrap_succ hlt (by omega)]
   rfl
  ·right
   have:i=l.length:=by omega
   subst this
   simp only [go1,Nat.reduceAdd,Int.reduceEq,Int.reduceLT,Int.reduceLE,Int.reduceSub,Int.reduceAdd,rows_len,ilt_self]
 |true=>
  have hj:=List.findIdx_lt_length_of_exists (List.any_eq_true.1 hall)
  have hpj:=List.findIdx_getElem (w:=hj)
  generalize hJ:(l.findIdx fun s=> !litS s)=j at hj hpj
  refine cOf (by kernel_rfl) rfl ?_
  rw[g250_270_eq]
  simp only [g250_270,go1,Nat.reduceAdd,Int.reduceEq,Int.reduceLT,Int.reduceLE,Int.reduceSub,Int.reduceAdd,rows_len]
  refine loopF_at (fun i:Nat=>[.sl 6 (Ex.rows l), .int .i64 (l.length:Int), .int .i64 (i:Int)]) (fun i=>i≤j) (fun i=>l.length - i) (fun i hi=> ?_) 0 (Nat.zero_le _)
  have hlt:i < l.length:=by omega
  have hx:=List.getElem?_eq_getElem hlt
  by_cases hij:i < j
  ·left
   refine⟨i+1,?_,hij,by omega⟩
   have h0:(!litS l[i])=false:=by
    have:=List.not_of_lt_findIdx (p:=fun s=> !litS s) (xs:=l) (i:=i) (by omega)
    simpa using this
   generalize l[i]=e at hx h0
   obtain⟨k,n,s,o,a,u⟩:=e
   have h:=c_eConst1 k n s o a u (u_len hx hl)
   simp only [go1,Nat.reduceAdd,Int.reduceEq,Int.reduceLT,Int.reduceLE,Int.reduceSub,Int.reduceAdd,rows_len,ilt_at hlt,inr_at hlt,row_of hx,oE,h,h0,wrap_succ hlt (by omega)]
   rfl
  ·right
   have:i=j:=by omega
   subst this
   have h0:(!litS l[i])=true:=hpj
   generalize l[i]=e at hx h0
   obtain⟨k,n,s,o,a,u⟩:=e
   have h:=c_eConst1 k n s o a u (u_len hx hl)
   simp only [go1,Nat.reduceAdd,Int.reduceEq,Int.reduceLT,Int.reduceLE,Int.reduceSub,Int.reduceAdd,rows_len,ilt_at hlt,inr_at hlt,row_of hx,oE,h,h0,show decide ((0:Int)≤(i:Int))=true from decide_eq_true (Int.natCast_nonneg _)]
theorem c_eConst (k n:Int)(s:ByteArray)(o:Int)(a:List ByteArray)(u:List Ex)(hu:Ex.sizes u≤1000000):cF 237 [kE k n s o (srows a) (Ex.rows u)]=some (.val [.bool (constS (.mk k n s o a u))]):=by
 have hl:=sizes_len u
 have h1:=c_eliteral k n s o a u (by omega)
 have h2:=c_xContEx u hu
 refine cOf (by kernel_rfl) rfl ?_
 rw[g237_eq]
 simp only [g237,go1,Nat.reduceAdd,Int.reduceEq,Int.reduceLT,Int.reduceLE,Int.reduceSub,Int.reduceAdd,h1,h2]
 by_cases hk:k=14
 ·simp only [constS,decT hk,go1,Nat.reduceAdd,Int.reduceEq,Int.reduceLT,Int.reduceLE,Int.reduceSub,Int.reduceAdd,Bool.not_true,Bool.not_not]
 ·simp only [constS,decF hk,go1,Nat.reduceAdd,Int.reduceEq,Int.reduceLT,Int.reduceLE,Int.reduceSub,Int.reduceAdd,Bool.not_false]
theorem arms_eq (k:Int)(a:List ByteArray):((!(decide ((if k=11 then(1:Int)else if k=12 then 6 else 0) < (a.length:Int)) || (decide (0 < (if k=11 then(1:Int)else if k=12 then 6 else 0))&&decide ((a.length:Int)=0))))&&(decide a.Nodup&&a.all armN))=armsB k a:=by
 unfold armsB
 by_cases h1:k=11
 ·subst h1
  match a with
  | []=>rfl
  | [x]=>simp
  |x::y::r=>
   have:decide ((1:Int) < ((x::y::r).length:Int))=true:=decide_eq_true (by simp only [List.length_cons];omega)
   have h2:decide ((x::y::r).length=1)=false:=decide_eq_false (by simp only [List.length_cons];omega)
   simp only [if_true,this,Bool.true_or,Bool.not_true,Bool.false_and,decide_true,cond_true,h2,Bool.and_false]
 ·by_cases h2:k=12
  ·subst h2
   have e1:decide ((6:Int) < (a.length:Int))= !decide (a.length≤6):=by rw[Bool.eq_iff_iff];simp;omega
   have e2:decide ((a.length:Int)=0)= !decide (1≤a.length):=by rw[Bool.eq_iff_iff];simp;try omega
   have e3:decide ((12:Int)=11)=false:=rfl
   have e4:decide ((0:Int) < 6)=true:=rfl
   simp only [if_neg h1,if_true,e1,e2,e3,e4,decide_true,cond_true,cond_false,Bool.true_and]
   cases decide (a.length≤6)<;>cases decide (1≤a.length)<;>cases decide a.Nodup<;>cases a.all armN<;>rfl
  ·have e4:decide ((0:Int) < 0)=false:=rfl
   simp only [if_neg h1,if_neg h2,decF h1,decF h2,cond_false,e4,Bool.false_and,Bool.or_false]
   match a with
   | []=>rfl
   |x::r=>
    have h3:decide ((0:Int) < ((x::r).length:Int))=true:=decide_eq_true (by simp only [List.length_cons];omega)
    have h4:decide ((x::r).length=0)=false:=rfl
    rw[h3,h4];try simp
theorem nlt (a b:Int):decide (a < b)= !decide (b≤a):=by
 rw[Bool.eq_iff_iff];simp
theorem c_epart (k n:Int)(s:ByteArray)(o:Int)(a:List ByteArray)(u:List Ex)(hs:s.size≤100000)(ha:a.length≤1000000)(hu:Ex.sizes u≤1000000):
  cF 198 [kE k n s o (srows a) (Ex.rows u)]=some (.val [.bool (partB (.mk k n s o a u))]):=by
 have h1:=c_eof k n s o a (Ex.rows u) hs
 have h2:=c_iOnce a ha
 have h3:=c_xContFn a ha
 have h4:=rows_len u
 have h5:=srows_len a
 simp only [partB]
 rw[←arms_eq]
 refine cOf (by kernel_rfl) rfl ?_
 rw[g198_eq]
 simp only [g198,go1,Nat.reduceAdd,Int.reduceEq,Int.reduceLT,Int.reduceLE,Int.reduceSub,Int.reduceAdd,h1,h2,h3,h4,h5]
 cases hk:kindB k with
 |false=>simp only [go1,Nat.reduceAdd,Int.reduceEq,Int.reduceLT,Int.reduceLE,Int.reduceSub,Int.reduceAdd,oQ];try rfl
 |true=>
  simp only [go1,Nat.reduceAdd,Int.reduceEq,Int.reduceLT,Int.reduceLE,Int.reduceSub,Int.reduceAdd,oQ,nlt,h2,h3]
  cases numB k n with
  |false=>simp only [go1,Nat.reduceAdd,Int.reduceEq,Int.reduceLT,Int.reduceLE,Int.reduceSub,Int.reduceAdd,Bool.not_false,Bool.not_true];try rfl
  |true=>
   cases nameB k s with
   |false=>simp only [go1,Nat.reduceAdd,Int.reduceEq,Int.reduceLT,Int.reduceLE,Int.reduceSub,Int.reduceAdd,Bool.not_false,Bool.not_true];try rfl
   |true=>
    cases opB_ k o with
    |false=>simp only [go1,Nat.reduceAdd,Int.reduceEq,Int.reduceLT,Int.reduceLE,Int.reduceSub,Int.reduceAdd,Bool.not_false,Bool.not_true];try rfl
    |true=>
     simp only [go1,Nat.reduceAdd,Int.reduceEq,Int.reduceLT,Int.reduceLE,Int.reduceSub,Int.reduceAdd,Bool.not_true]
     cases hlo:decide (loB k n a.length≤(u.length:Int))with
     |false=>simp only [go1,Nat.reduceAdd,Int.reduceEq,Int.reduceLT,Int.reduceLE,Int.reduceSub,Int.reduceAdd,Bool.not_false,Bool.not_true,Bool.true_or,Bool.false_and,Bool.and_false]
     |true=>
      generalize (if k=11 then(1:Int)else if k=12 then 6 else 0)=M
      generalize (!decide ((a.length:Int)≤M) || !decide (M≤0)&&decide ((a.length:Int)=0))=X
      cases decide ((u.length:Int)≤hiB k n a.length)with
      |false=>simp only [go1,Nat.reduceAdd,Int.reduceEq,Int.reduceLT,Int.reduceLE,Int.reduceSub,Int.reduceAdd,Bool.not_false,Bool.not_true,Bool.or_true,Bool.false_and,Bool.and_false]
      |true=>
       cases X with
       |true=>simp only [go1,Nat.reduceAdd,Int.reduceEq,Int.reduceLT,Int.reduceLE,Int.reduceSub,Int.reduceAdd,Bool.not_true,Bool.true_or,Bool.false_or,Bool.false_and]
       |false=>
        cases decide a.Nodup with
        |false=>simp only [go1,Nat.reduceAdd,Int.reduceEq,Int.reduceLT,Int.reduceLE,Int.reduceSub,Int.reduceAdd,Bool.not_true,Bool.not_false,Bool.or_true,Bool.or_false,Bool.false_or,Bool.false_and,Bool.true_and]
        |true=>
         cases a.all armN with
         |false=>simp only [go1,Nat.reduceAdd,Int.reduceEq,Int.reduceLT,Int.reduceLE,Int.reduceSub,Int.reduceAdd,Bool.not_true,Bool.not_false,Bool.or_true,Bool.or_false,Bool.false_or,Bool.false_and,Bool.true_and]
         |true=>
          simp only [go1,Nat.reduceAdd,Int.reduceEq,Int.reduceLT,Int.reduceLE,Int.reduceSub,Int.reduceAdd,Bool.not_true,Bool.not_false,Bool.or_true,Bool.or_false,Bool.false_or,Bool.false_and,Bool.true_and]
          by_cases h8:k=8
          ·subst h8
           match u,hlo,hu with
           | [],hlo,_=>cases hlo
           | .mk k2 n2 s2 o2 a2 u2::u,hlo,hu=>
             have hx:(Ex.mk k2 n2 s2 o2 a2 u2::u)[0]? =some (.mk k2 n2 s2 o2 a2 u2):=rfl
             have hc:=c_eConst k2 n2 s2 o2 a2 u2 (by simp only [Ex.sizes,Ex.size]at hu;omega)
             have hr:sy.row (Ex.rows (.mk k2 n2 s2 o2 a2 u2::u)) 0= [.int .i64 k2, .int .i64 n2, .str s2, .int .i64 o2, .sl 1 (srows a2), .sl 6 (Ex.rows u2)]:=row_of hx
             have hz:decide (((Ex.mk k2 n2 s2 o2 a2 u2::u).length:Int)≤0)=false:=decide_eq_false (by simp only [List.length_cons];omega)
             simp only [go1,Nat.reduceAdd,Int.reduceEq,Int.reduceLT,Int.reduceLE,Int.reduceSub,Int.reduceAdd,hz,hr,oE,hc,conB,decide_true,Bool.not_true,Bool.not_false]
          ·simp only [go1,Nat.reduceAdd,Int.reduceEq,Int.reduceLT,Int.reduceLE,Int.reduceSub,Int.reduceAdd,decF h8,conB,Bool.not_false]



end Go.Vm
end
