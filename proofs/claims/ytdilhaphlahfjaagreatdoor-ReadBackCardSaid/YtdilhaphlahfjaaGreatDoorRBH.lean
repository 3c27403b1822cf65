/- Part RBH of the proof. What is proved by the whole: the statement that the claim names, with no condition. -/
import Derived.Test.YtdilhaphlahfjaaGreatDoorRBG
set_option linter.all false
section
set_option maxRecDepth 100000
set_option maxHeartbeats 4000000
namespace Go.Vm
open Go.Proofs
def k1u {f k:FuncId}{pn:Nat}{xs key:List V}{hs:List Box}{p:PRes}(hg:x4g Tryz.prog k=false)(hd:y2d key=some (pn,xs,hs))(hk:Nat.beq k (z1g f)=true)(hn:kn k key=none)(h:fB sy eF f pn xs hs=some p):cF k key=some p:=by
 have:=Nat.eq_of_beq_eq_true hk;subst this;exact v7c hg hn hd h
section
variable (l w a : LL) (i x y : Int) (s : BA) (b : Bool)
def dec1:y2d (kP 285 l i)=some (285,[.ptr 0 0],[.cells (.ty 266) [.d (.sl 4 l), .d (.int .i64 i)]]):=rfl
def dec2:y2d (kS 285 s l i)=some (285,[.ptr 0 0, .d (.str s)],[.cells (.ty 266) [.d (.sl 4 l), .d (.int .i64 i)]]):=rfl
def dec3:y2d (kP 0 l i)=some (0,[.ptr 0 0],[.cells (.ty 266) [.d (.sl 4 l), .d (.int .i64 i)]]):=rfl
def dec4:y2d (kS 0 s l i)=some (0,[.ptr 0 0, .d (.str s)],[.cells (.ty 266) [.d (.sl 4 l), .d (.int .i64 i)]]):=rfl
def dec5:y2d (kO x y l i)=some (0,[.ptr 0 0, .d (.int .i64 x), .d (.int .i64 y)],[.cells (.ty 266) [.d (.sl 4 l), .d (.int .i64 i)]]):=rfl
def dec6:y2d (kN w l i)=some (285,[.ptr 0 0, .own 1],[.cells (.ty 266) [.d (.sl 4 l), .d (.int .i64 i)], .arr 9 1 w]):=rfl
def dec7:y2d (rP l i b)=some (0,[.ptr 0 0],[.cells (.ty 61) [.d (.sl 4 l), .d (.int .i64 i), .d (.bool b)]]):=rfl
def dec8:y2d (rS s l i b)=some (0,[.ptr 0 0, .d (.str s)],[.cells (.ty 61) [.d (.sl 4 l), .d (.int .i64 i), .d (.bool b)]]):=rfl
def dec9:y2d (rO a w l i b)=some (0,[.ptr 0 0, .own 1, .own 2],[.cells (.ty 61) [.d (.sl 4 l), .d (.int .i64 i), .d (.bool b)], .arr 3 1 a, .arr 9 1 w]):=rfl
end
def cBp (f:FuncId){k:FuncId}{pn:Nat}{xs key:List V}{hs:List Box}{p:PRes}(hn:kn k key=none)(h:fB sy eF f pn xs hs=some p)(hg:x4g Tryz.prog k=false:=by kernel_rfl)(hd:y2d key=some (pn,xs,hs):=by with_reducible first|exact dec1 _ _|exact dec2 _ _ _|exact dec3 _ _|exact dec4 _ _ _|exact dec5 _ _ _ _|exact dec6 _ _ _|exact dec7 _ _ _|exact dec8 _ _ _ _|exact dec9 _ _ _ _ _)(hk:Nat.beq k (z1g f)=true:=by kernel_rfl):cF k key=some p:=k1u hg hd hk hn h
inductive Ex where
 |mk (k n:Int) (s:BA) (o:Int) (a:List BA) (l:List Ex)
mutual
def Ex.row:Ex->List D
 | .mk k n s o a l=>[.int .i64 k, .int .i64 n, .str s, .int .i64 o, .sl 1 (x0b a), .sl 6 (Ex.rows l)]
def Ex.rows:List Ex->LL
 | []=>[]
 |e::l=>e.row::Ex.rows l
end
def e0:Ex:= .mk 0 0 (bs []) 0 [] []
inductive Rs (α:Type) where
 |out
 |ok (a:α) (i:Nat)
 |bad (i:Nat)
def Rs.bind {α β:Type}:Rs α->(α->Nat->Rs β)->Rs β
 | .out,_=> .out
 | .bad i,_=> .bad i
 | .ok a i,f=>f a i
def Rs.bind_ok {α β:Type}(a:α)(i:Nat)(f:α->Nat->Rs β):(Rs.ok a i).bind f=f a i:=rfl
def x6e {α:Type}(c:α->List D)(l:List Tk):Rs α->PRes
 | .ok a i=> .val (.bool false::(c a++[.sl 4 (x0i l), .int .i64 (i:Int)]))
 | .bad i=> .val [.bool true, .int .i64 (i:Int), .sl 4 (x0i l), .int .i64 (i:Int)]
 | .out=> .val []
def tkA (l:List Tk)(i:Nat):Tk:=l.getD i ⟨6,bs [],0,0⟩
def isT (l:List Tk)(i:Nat)(s:BA):Bool:=decide (tb (tkA l i).s=tb s)&&(decide ((tkA l i).k=1) || decide ((tkA l i).k=5))
def y0p {l:List Tk}{i:Nat}(h:i < l.length):sy.row (x0i l) (i:Int)=x7x (tkA l i):=by
 unfold tkA;rw[a0i,a0a h,Option.getD_some];show(x0i l).getD (i:Int).toNat []=_;rw[a0n,a0i];simp[x0i,h]
def y6o {l:List Tk}{i:Nat}(h:i < l.length):decide (0<=(i:Int)/\(i:Int) < ((x0i l).length:Int))=true:=by
 rw[x6u];exact x0k h
structure LOK (l:List Tk):Prop where
 pos:0 < l.length
 last:(tkA l (l.length - 1)).k=6
 few:l.length<=1000000
def LOK.next {l:List Tk}(h:LOK l){i:Nat}(hi:i < l.length)(hk:(tkA l i).k≠6):i+1 < l.length:=by
 by_cases he:i=l.length - 1
 ·subst he;exact(hk h.last).elim
 ·omega
def x1m {l:List Tk}{i:Nat}{s:BA}(h:isT l i s=true):(tkA l i).k≠6:=by
 unfold isT at h;simp only[a0g,Bool.or_eq_true,a0u]at h;omega
def x4a (l:List Tk)(hl:LOK l)(i:Nat)(hi:i < l.length)(s:BA):cF 1000243 (kS 0 s (x0i l) (i:Int))=some (.val (match isT l i s with
  |true=>[.bool true, .sl 4 (x0i l), .int .i64 ((i+1:Nat):Int)]
  |false=>[.bool false, .sl 4 (x0i l), .int .i64 (i:Int)])):=by
 have hf:=hl.few;have h1:=y6o hi;have h2:=y0p hi;refine cBp 243 rfl ?_;rw[q4u];simp only[b243,oT,go1,h1,h2,x7x,x2f];rw[<-show isT l i s=(decide (tb (tkA l i).s=tb s)&&(decide ((tkA l i).k=1) || decide ((tkA l i).k=5)))from rfl]
 cases isT l i s with
 |true=>simp only[go1];rw[x0e (n:=l.length) hi (by omega)];rfl
 |false=>rfl
def x6f:BA:=bs [116,114,117,101]
def x3q:BA:=bs [102,97,108,115,101]
def y1f (l:List Tk)(i:Nat):Bool:=decide ((tkA l i).k=2) || (isT l i x6f || isT l i x3q)
def v7z (l:List Tk)(i:Nat)(hi:i < l.length):cF 1000249 (kP 0 (x0i l) (i:Int))=some (.val [.bool (y1f l i), .sl 4 (x0i l), .int .i64 (i:Int)]):=by
 have h1:=y6o hi;have h2:=y0p hi;refine cBp 249 rfl ?_;rw[q4s];simp only[b249,oT,go1,h1,h2,x7x,x2f];unfold y1f;rw[<-show isT l i x6f=(decide (tb (tkA l i).s=tb (bs [116,114,117,101]))&&(decide ((tkA l i).k=1) || decide ((tkA l i).k=5)))from rfl,<-show isT l i x3q=(decide (tb (tkA l i).s=tb (bs [102,97,108,115,101]))&&(decide ((tkA l i).k=1) || decide ((tkA l i).k=5)))from rfl]
 cases decide ((tkA l i).k=2)<;>cases isT l i x6f<;>cases isT l i x3q<;>rfl
def sD (s:BA):List D:=[.str s]
def x4l (l:List Tk)(i:Nat):Rs BA:=match decide ((tkA l i).k=1)&& !x4r (tb (tkA l i).s)with
 |true=> .ok (tkA l i).s (i+1)
 |false=> .bad i
def z1b (l:List Tk)(hl:LOK l)(i:Nat)(hi:i < l.length):cF 1000248 (kP 285 (x0i l) (i:Int))=some (x6e sD l (x4l l i)):=by
 have hf:=hl.few;have h1:=y6o hi;have h2:=y0p hi;have h3:=u7t (tkA l i).s;refine cBp 248 rfl ?_;rw[q4t];simp only[b248,oT,go1,h1,h2,x7x,h3];unfold x4l;cases decide ((tkA l i).k=1)<;>cases x4r (tb (tkA l i).s)<;>simp only[go1]<;>(try rfl)
 rw[x0e (n:=l.length) hi (by omega)];rfl
def z1j (l:List Tk)(i:Nat):Rs BA:=match y1f l i with
 |true=> .ok (tkA l i).s (i+1)
 |false=> .bad i
def w5u (l:List Tk)(hl:LOK l)(i:Nat)(hi:i < l.length):cF 1000250 (kP 285 (x0i l) (i:Int))=some (x6e sD l (z1j l i)):=by
 have hf:=hl.few;have h1:=y6o hi;have h2:=y0p hi;have h3:=v7z l i hi;refine cBp 250 rfl ?_;rw[q4r];simp only[b250,oP,oT,go1,Nat.reduceAdd,h1,h2,x7x,h3];unfold z1j;cases y1f l i<;>simp only[go1]<;>(try rfl)
 rw[x0e (n:=l.length) hi (by omega)];rfl
def x2b (l:List Tk):List BA->Nat->Rs Unit
 | [],i=> .ok () i
 |w::ws,i=>match isT l i w with
  |true=>x2b l ws (i+1)
  |false=> .bad i
def v9f (l:List Tk)(w:List BA):Rs Unit->PRes
 | .ok _ i=> .val [.bool false, .sl 4 (x0i l), .int .i64 (i:Int), .sl 1 (x0b w)]
 | .bad i=> .val [.bool true, .int .i64 (i:Int), .sl 4 (x0i l), .int .i64 (i:Int), .sl 1 (x0b w)]
 | .out=> .val []
def x5c (l:List Tk)(hl:LOK l)(w:List BA)(hw:w.length<=1000)(i:Nat)(hi:i < l.length):cF 1000251 (kN (x0b w) (x0i l) (i:Int))=some (v9f l w (x2b l w i)):=by
 refine cBp 251 rfl ?_;rw[q4q];simp only[b251,oP,go1,Nat.reduceAdd];refine x0v (fun x:Nat × Nat=>[.int .i64 ((x0b w).length:Int), .int .i64 (x.1:Int), .sl 4 (x0i l), .int .i64 (x.2:Int), .sl 1 (x0b w)]) (fun x=>x2b l (w.drop x.1) x.2=x2b l w i/\x.1<=w.length/\x.2 < l.length) (fun x=>w.length - x.1) (fun x hx=> ?_) (0,i) ⟨rfl,a0t _,hi⟩
 obtain⟨k,j⟩:=x;obtain⟨h1,h2,h3⟩:=hx;simp only at h1 h2 h3 ⊢
 by_cases hlt:k < w.length
 ·have e1:(x0b w).length=w.length:=x0c w;have e2:=x4a l hl j h3 w[k];have e3:sy.rown (x0b w) k= [.str w[k]]:=by
   show(x0b w).getD k []=_;rw[a0i];simp[x0b,v9y,hlt]
  rw[List.drop_eq_getElem_cons hlt,x2b]at h1;simp only[go1,e1,x0l hlt,x0k hlt,a0n,e3,e2];cases ht:isT l j w[k]with
  |true=>
   left
   rw[ht]at h1;refine⟨(k+1,j+1),?_,⟨h1,hlt,hl.next h3 (x1m ht)⟩,by simp only;omega⟩
   simp only[go1];rw[x0e hlt (by omega)];rfl
  |false=>
   right
   rw[ht]at h1;simp only[go1];rw[<-h1];rfl
 ·right
  have e1:(x0b w).length=w.length:=x0c w;have:k=w.length:=by omega
  subst this;simp only[go1,e1,x0g];rw[<-h1,List.drop_length];rfl
def y0n (o:Nat):BA:=match o with
 |1|4=>bs [45]
 |2=>bs [110,111,116]
 |3=>bs [43]
 |5=>bs [42]
 |6=>bs [47]
 |7=>bs [109,111,100]
 |8=>bs [97,110,100]
 |9=>bs [111,114]
 |10=>bs [120,111,114]
 |11=>bs [61]
 |12=>bs [60,62]
 |13=>bs [60]
 |14=>bs [60,61]
 |15=>bs [62]
 |16=>bs [62,61]
 |_=>bs []
def k1i (o:Nat)(h:o<=16):cF 275 [.d (.int .i64 (o:Int))]=some (.val [.str (y0n o)]):=by
 have h2:cF 278 [.d (.int .i64 (o:Int))]=some (.val [.str (match decide (11<=o)with
  |true=>y0n o
  |false=>bs [])]):=by
  refine cO rfl ?_;rw[w8z];simp only[k8q,go1]
  match o,h with
  |0,_|1,_|2,_|3,_|4,_|5,_|6,_|7,_|8,_|9,_|10,_|11,_|12,_|13,_|14,_|15,_|16,_=>rfl
  |o+17,h=>omega
 refine cO rfl ?_;rw[w9a];simp only[k8r,go1,h2]
 match o,h with
 |0,_|1,_|2,_|3,_|4,_|5,_|6,_|7,_|8,_|9,_|10,_|11,_|12,_|13,_|14,_|15,_|16,_=>rfl
 |o+17,h=>omega
def z4y (l:List Tk)(i:Nat):Nat->Nat->Option Nat
 |_,0=>none
 |a,n+1=>match isT l i (y0n a)with
  |true=>some a
  |false=>z4y l i (a+1) n
def x4d {l:List Tk}{i:Nat}: ∀ {n a o:Nat},z4y l i a n=some o->(tkA l i).k≠6/\a<=o/\o < a+n
 |0,_,_,h=>by cases h
 |n+1,a,o,h=>by
  unfold z4y at h;split at h
  ·rename_i ht;cases h;exact⟨x1m ht,by omega,by omega⟩
  ·have:=x4d h;exact⟨this.1,by omega,by omega⟩
def v7u (l:List Tk)(hl:LOK l)(i:Nat)(hi:i < l.length)(a n:Nat)(hn:a+n<=16):cF 1000269 (kO (a:Int) ((a+n:Nat):Int) (x0i l) (i:Int))=some (.val (match z4y l i a (n+1)with
  |some o=>[.int .i64 (o:Int), .bool true, .sl 4 (x0i l), .int .i64 ((i+1:Nat):Int)]
  |none=>[.int .i64 0, .bool false, .sl 4 (x0i l), .int .i64 (i:Int)])):=by
 refine cBp 269 rfl ?_;rw[q4n];simp only[b269,oP,go1,Nat.reduceAdd];refine x0v (fun x:Nat=>[.int .i64 ((a+n:Nat):Int), .int .i64 (x:Int), .sl 4 (x0i l), .int .i64 (i:Int)]) (fun x=>z4y l i x (a+n+1 - x)=z4y l i a (n+1)/\x<=a+n+1) (fun x=>a+n+1 - x) (fun x hx=> ?_) a ⟨by rw[show a+n+1 - a=n+1 by omega],by omega⟩
 obtain⟨h1,h2⟩:=hx
 by_cases hlt:x<=a+n
 ·have e1:=k1i x (by omega)
  have e2:=x4a l hl i hi (y0n x);rw[show a+n+1 - x=(a+n - x)+1 by omega,z4y]at h1
  simp only[go1,x2p (p:=(x:Int)<=((a+n:Nat):Int)) (by omega),e1,e2]
  cases ht:isT l i (y0n x)with
  |true=>
   right
   rw[ht]at h1;simp only[go1];rw[<-h1]
  |false=>
   left
   rw[ht]at h1;refine⟨x+1,?_,⟨by rw[show a+n+1 - (x+1)=a+n - x by omega];exact h1,by omega⟩,by omega⟩
   simp only[go1];rw[x0e (i:=x) (n:=x+1) (by omega) (by omega)];rfl
 ·right
  simp only[go1,x1p (p:=(x:Int)<=((a+n:Nat):Int)) (by omega)]
  rw[<-h1,show a+n+1 - x=0 by omega];rfl
def x6j (l:List Tk)(i:Nat):Rs (BA × BA):=match isT l i (bs [110,111,116])with
 |true=>(x4l l (i+1)).bind fun n j=> .ok (n,x3q) j
 |false=>match y1f l i with
  |false=>(x4l l i).bind fun n j=> .ok (n,x6f) j
  |true=>(z1j l i).bind fun a j=>(x2b l [bs [40]] j).bind fun _ j=>(x4l l j).bind fun n j=>(x2b l [bs [41]] j).bind fun _ j=> .ok (n,a) j
def wD (x:BA × BA):List D:=[.str x.1, .str x.2]
def x7m {l:List Tk}(hl:LOK l){i j:Nat}{n:BA}(hi:i < l.length)(h:x4l l i= .ok n j):j < l.length:=by
 unfold x4l at h;split at h
 ·rename_i hc;simp only[a0g,a0u]at hc;cases h;exact hl.next hi (by omega)
 ·cases h
def y5f {l:List Tk}(hl:LOK l){i j:Nat}{n:BA}(hi:i < l.length)(h:z1j l i= .ok n j):j < l.length:=by
 unfold z1j at h;split at h
 ·rename_i hc;cases h;unfold y1f at hc;simp only[Bool.or_eq_true,a0u]at hc;rcases hc with hc|hc|hc
  ·exact hl.next hi (by omega)
  ·exact hl.next hi (x1m hc)
  ·exact hl.next hi (x1m hc)
 ·cases h
def x3p {l:List Tk}(hl:LOK l){u:Unit}: ∀ {w:List BA} {i j:Nat},i < l.length->x2b l w i= .ok u j->j < l.length
 | [],i,j,hi,h=>by cases h;exact hi
 |x::w,i,j,hi,h=>by
  unfold x2b at h;split at h
  ·rename_i hc;exact x3p hl (hl.next hi (x1m hc)) h
  ·cases h
def x5s {l:List Tk}{i:Nat}(h:x4l l i= .out):False:=by unfold x4l at h;split at h<;>cases h
def z6n {l:List Tk}{i:Nat}(h:z1j l i= .out):False:=by unfold z1j at h;split at h<;>cases h
def x1h {l:List Tk}: ∀ {w:List BA} {i:Nat},x2b l w i= .out->False
 | [],i,h=>by cases h
 |x::w,i,h=>by
  unfold x2b at h;split at h
  ·exact x1h h
  ·cases h
def y6v {l:List Tk}(hl:LOK l){i j:Nat}{w:BA × BA}(hi:i < l.length)(h:x6j l i= .ok w j):j < l.length:=by
 unfold x6j at h;split at h
 ·rename_i ht;cases hr:x4l l (i+1)with
  |ok n k=>rw[hr]at h;cases h;exact x7m hl (hl.next hi (x1m ht)) hr
  |_=>rw[hr]at h;cases h
 ·split at h
  ·cases hr:x4l l i with
   |ok n k=>rw[hr]at h;cases h;exact x7m hl hi hr
   |_=>rw[hr]at h;cases h
  ·cases hr:z1j l i with
   |ok a k=>
    rw[hr,Rs.bind_ok]at h;have hk:=y5f hl hi hr;cases hr2:x2b l [bs [40]] k with
    |ok u m=>
     rw[hr2,Rs.bind_ok]at h;have hm:=x3p hl hk hr2;cases hr3:x4l l m with
     |ok n q=>
      rw[hr3,Rs.bind_ok]at h;have hq:=x7m hl hm hr3;cases hr4:x2b l [bs [41]] q with
      |ok u2 z=>rw[hr4]at h;cases h;exact x3p hl hq hr4
      |_=>rw[hr4]at h;cases h
     |_=>rw[hr3]at h;cases h
    |_=>rw[hr2]at h;cases h
   |_=>rw[hr]at h;cases h
def y0d (s:BA):[[D.str s]]=x0b [s]:=rfl
def q7c (s t:BA):[[D.str s],[D.str t]]=x0b [s,t]:=rfl
def v7t (l:List Tk)(hl:LOK l)(i:Nat)(hi:i < l.length):cF 1000241 (kP 285 (x0i l) (i:Int))=some (x6e wD l (x6j l i)):=by
 have h1:=x4a l hl i hi (bs [110,111,116]);have h2:=v7z l i hi;refine cBp 241 rfl ?_;rw[q4w];simp only[b241,oP,go1,Nat.reduceAdd,h1,y0d];unfold x6j;cases ht:isT l i (bs [110,111,116])with
 |true=>
  have hj:=hl.next hi (x1m ht);have h3:=z1b l hl (i+1) hj;simp only[go1,h3];cases hr:x4l l (i+1)<;>first|rfl|exact(x5s hr).elim
 |false=>
  simp only[go1,h2];cases ha:y1f l i with
  |false=>
   have h3:=z1b l hl i hi;simp only[go1,h3];cases hr:x4l l i<;>first|rfl|exact(x5s hr).elim
  |true=>
   have h3:=w5u l hl i hi;simp only[go1,h3];cases hr:z1j l i with
   |out=>exact(z6n hr).elim
   |bad j=>rfl
   |ok a j=>
    have hj:=y5f hl hi hr;have h4:=x5c l hl [bs [40]] (by simp) j hj
    simp only[x6e,sD,go1,a0d,a0h,h4,Rs.bind_ok];cases hr2:x2b l [bs [40]] j with
    |out=>exact(x1h hr2).elim
    |bad k=>rfl
    |ok u k=>
     have hk:=x3p hl hj hr2;have h5:=z1b l hl k hk;simp only[v9f,go1,h5,Rs.bind_ok];cases hr3:x4l l k with
     |out=>exact(x5s hr3).elim
     |bad m=>rfl
     |ok n m=>
      have hm:=x7m hl hk hr3;have h6:=x5c l hl [bs [41]] (by simp) m hm
      simp only[x6e,sD,go1,a0d,a0h,h6,Rs.bind_ok];cases hr4:x2b l [bs [41]] m<;>first|rfl|exact(x1h hr4).elim
inductive Nt where
 |arrow|fby|or|and|cmp|sum|prod|un|post|atom
def x2k {σ B:Type}(st:σ->σ ⊕ Rs B):Nat->σ->Rs B
 |0,_=> .out
 |n+1,x=>match st x with
  | .inl y=>x2k st n y
  | .inr r=>r
def ex (k:Int)(l:List Ex):Ex:= .mk k 0 (bs []) 0 [] l
def x9u (o:Nat)(a b:Ex):Ex:= .mk 6 0 (bs []) (o:Int) [] [a,b]
abbrev PR:=Nt->Nat->Rs Ex
section
variable (l : List Tk) (n : Nat) (p : PR)
def y0x (en:BA):List Ex × Nat->(List Ex × Nat) ⊕ Rs (List Ex)
 |(es,i)=>match isT l i (bs [44])with
  |true=>match p .arrow (i+1)with
   | .ok e j=> .inl (es++[e],j)
   | .bad j=> .inr (.bad j)
   | .out=> .inr .out
  |false=> .inr ((x2b l [en] i).bind fun _ j=> .ok es j)
def y4t (en:BA)(i:Nat):Rs (List Ex):=(p .arrow i).bind fun e j=>x2k (y0x l p en) n ([e],j)
def y1w (nm:BA)(es:List Ex)(j:Nat):Rs Ex:=match isT l j (bs [101,118,101,114,121])with
 |true=>(p .post (j+1)).bind fun e k=> .ok (.mk 13 1 nm 0 [] (es++[e])) k
 |false=> .ok (.mk 13 0 nm 0 [] es) j
def y3x (nm:BA)(i:Nat):Rs Ex:=match isT l i (bs [41])with
 |true=>y1w l p nm [] (i+1)
 |false=>(y4t l n p (bs [41]) i).bind (y1w l p nm)
def x4o:List BA × List Ex × Nat × Bool->(List BA × List Ex × Nat × Bool) ⊕ Rs (List BA × List Ex)
 |(ar,es,i,false)=> .inr (.ok (ar,es) i)
 |(ar,es,i,true)=>match ((z1j l i).bind fun a j=>(x2b l [bs [45,62]] j).bind fun _ j=>(p .arrow j).bind fun e j=>(x2b l [bs [41]] j).bind fun _ j=> .ok (a,e) j:Rs (BA × Ex))with
  | .ok (a,e) j=>match isT l j (bs [40])with
    |true=> .inl (ar++[a],es++[e],j+1,true)
    |false=> .inl (ar++[a],es++[e],j,false)
  | .bad j=> .inr (.bad j)
  | .out=> .inr .out
def y0a (i:Nat):Rs Ex:=(x4l l i).bind fun nm j=>(x2b l [bs [40]] j).bind fun _ j=>(x2k (x4o l p) n ([],[],j,true)).bind fun q j=> .ok (.mk 12 0 nm 0 q.1 q.2) j
def x8m (i:Nat):Rs Ex:=(p .arrow i).bind fun e j=>match isT l j (bs [119,105,116,104])with
 |true=>(x2b l [bs [91]] (j+1)).bind fun _ j=>(p .arrow j).bind fun a j=>(x2b l [bs [93],bs [61]] j).bind fun _ j=>(p .arrow j).bind fun b j=>(x2b l [bs [41]] j).bind fun _ j=> .ok (ex 16 [e,a,b]) j
 |false=>(x2b l [bs [41]] j).bind fun _ j=> .ok e j
def x7g (i:Nat):Rs Ex:=(p .arrow i).bind fun a j=>(x2b l [bs [116,104,101,110]] j).bind fun _ j=>(p .arrow j).bind fun b j=>(x2b l [bs [101,108,115,101]] j).bind fun _ j=>(p .arrow j).bind fun c j=> .ok (ex 7 [a,b,c]) j
def x7w (i:Nat):Rs Ex:=
 match isT l i x6f with
 |true=> .ok (.mk 2 1 (bs []) 0 [] []) (i+1)
 |false=>match isT l i x3q with
  |true=> .ok (ex 2 []) (i+1)
  |false=>match isT l i (bs [91])with
   |true=>(y4t l n p (bs [93]) (i+1)).bind fun es j=> .ok (ex 14 es) j
   |false=>match isT l i (bs [40])with
    |true=>x8m l p (i+1)
    |false=>match isT l i (bs [109,101,114,103,101])with
     |true=>y0a l n p (i+1)
     |false=>match isT l i (bs [105,102])with
      |true=>x7g l p (i+1)
      |false=>(x4l l i).bind fun nm j=>match isT l j (bs [40])with
       |true=>y3x l n p nm (j+1)
       |false=> .ok (.mk 3 0 nm 0 [] []) j
def x8h (i:Nat):Rs Ex:=match decide ((tkA l i).k=3)with
 |true=> .ok (.mk 1 (tkA l i).n (bs []) 0 [] []) (i+1)
 |false=>match decide ((tkA l i).k=2)with
  |true=> .ok (.mk 4 0 (tkA l i).s 0 [] []) (i+1)
  |false=>match decide ((tkA l i).k=4)with
   |true=> .ok (.mk 17 0 (tkA l i).s 0 [] []) (i+1)
   |false=>x7w l n p i
def y0e:Ex × Nat->(Ex × Nat) ⊕ Rs Ex
 |(e,i)=>match isT l i (bs [91])with
  |true=>match ((p .arrow (i+1)).bind fun a j=>(x2b l [bs [93]] j).bind fun _ j=> .ok a j:Rs Ex)with
   | .ok a j=> .inl (ex 15 [e,a],j)
   | .bad j=> .inr (.bad j)
   | .out=> .inr .out
  |false=>match isT l i (bs [119,104,101,110])with
   |true=>match x6j l (i+1)with
    | .ok w j=> .inl (.mk 11 0 w.1 0 [w.2] [e],j)
    | .bad j=> .inr (.bad j)
    | .out=> .inr .out
   |false=> .inr (.ok e i)
def y1t (i:Nat):Rs Ex:=(p .atom i).bind fun e j=>x2k (y0e l p) n (e,j)
def unS (i:Nat):Rs Ex:=match isT l i (bs [45])with
 |true=>(p .un (i+1)).bind fun e j=> .ok (.mk 5 0 (bs []) 1 [] [e]) j
 |false=>match isT l i (bs [110,111,116])with
  |true=>(p .un (i+1)).bind fun e j=> .ok (.mk 5 0 (bs []) 2 [] [e]) j
  |false=>match isT l i (bs [112,114,101])with
   |true=>(p .un (i+1)).bind fun e j=> .ok (ex 10 [e]) j
   |false=>p .post i
def x7d (side:Nt)(a m:Nat):Ex × Nat->(Ex × Nat) ⊕ Rs Ex
 |(e,i)=>match z4y l i a m with
  |none=> .inr (.ok e i)
  |some o=>match p side (i+1)with
   | .ok e2 j=> .inl (x9u o e e2,j)
   | .bad j=> .inr (.bad j)
   | .out=> .inr .out
def x5v (side:Nt)(a m i:Nat):Rs Ex:=(p side i).bind fun e j=>x2k (x7d l p side a m) n (e,j)
def v6x (i:Nat):Rs Ex:=(p .sum i).bind fun e j=>match z4y l j 11 6 with
 |none=> .ok e j
 |some o=>(p .sum (j+1)).bind fun e2 k=> .ok (x9u o e e2) k
def v6f (i:Nat):Rs Ex:=(p .or i).bind fun e j=>match isT l j (bs [102,98,121])with
 |true=>(p .fby (j+1)).bind fun e2 k=> .ok (ex 8 [e,e2]) k
 |false=> .ok e j
def y1d (i:Nat):Rs Ex:=(p .fby i).bind fun e j=>match isT l j (bs [45,62])with
 |true=>(p .arrow (j+1)).bind fun e2 k=> .ok (ex 9 [e,e2]) k
 |false=> .ok e j
def ntS:Nt->Nat->Rs Ex
 | .arrow,i=>y1d l p i
 | .fby,i=>v6f l p i
 | .or,i=>x5v l n p .and 9 2 i
 | .and,i=>x5v l n p .cmp 8 1 i
 | .cmp,i=>v6x l p i
 | .sum,i=>x5v l n p .prod 3 2 i
 | .prod,i=>x5v l n p .un 5 3 i
 | .un,i=>unS l p i
 | .post,i=>y1t l n p i
 | .atom,i=>x8h l n p i
end
def prs (l:List Tk):Nat->PR
 |0,_,_=> .out
 |n+1,nt,i=>ntS l n (prs l n) nt i
def keyA:Nt->FuncId
 | .arrow=>1000228
 | .fby=>1000242
 | .or=>1000252
 | .and=>1000262
 | .cmp=>1000271
 | .sum=>1000276
 | .prod=>1000279
 | .un=>1000281
 | .post=>1000287
 | .atom=>1000288
structure HP (l:List Tk) (p:PR):Prop where
 c: ∀nt i,i < l.length->p nt i≠ .out->cF (keyA nt) (kP 285 (x0i l) (i:Int))=some (x6e Ex.row l (p nt i))
 lt: ∀nt i e j,i < l.length->p nt i= .ok e j->j < l.length
 gt: ∀nt i e j,i < l.length->p nt i= .ok e j->i < j
def x2n {α β:Type}{r:Rs α}{f:α->Nat->Rs β}(h:r.bind f≠ .out):r≠ .out:=fun e=>h (by rw[e];rfl)
def u0t (o:Nat)(a b:Ex): ∀k n s o1 ar su k2 n2 s2 o2 ar2 su2,a= .mk k n s o1 ar su->b= .mk k2 n2 s2 o2 ar2 su2->
  cF 270 [.d (.int .i64 (o:Int)), .agg [.d (.int .i64 k), .d (.int .i64 n), .d (.str s), .d (.int .i64 o1), .d (.sl 1 (x0b ar)), .d (.sl 6 (Ex.rows su))], .agg [.d (.int .i64 k2), .d (.int .i64 n2), .d (.str s2), .d (.int .i64 o2), .d (.sl 1 (x0b ar2)), .d (.sl 6 (Ex.rows su2))]]=some (.val (x9u o a b).row):=by
 rintro k n s o1 ar su k2 n2 s2 o2 ar2 su2 rfl rfl
 refine cO rfl ?_;rw[w9b];simp only[k8s];rfl
def y0z (a b:LL)(k:Nat)(h:(a.length+b.length)*(k+1)<=140737488355328):decide ((a.length+b.length)*(k+1)<=140737488355328)=true:=a0o h
def k7j {l:List Tk}(hl:LOK l){n:Nat}{p:PR}(hp:HP l p)(i:Nat)(hi:i < l.length)(hne:x5v l n p .and 9 2 i≠ .out):cF 1000252 (kP 285 (x0i l) (i:Int))=some (x6e Ex.row l (x5v l n p .and 9 2 i)):=by
 have h1:cF 1000262 (kP 285 (x0i l) (i:Int))=_:=hp.c .and i hi (x2n hne);refine cBp 252 rfl ?_;rw[q4p];simp only[b252,oE,oP,oT,go1,Nat.reduceAdd,h1];unfold x5v at hne ⊢;cases hr:p .and i with
 |out=>rw[hr]at hne;exact(hne rfl).elim
 |bad j=>rfl
 |ok e j=>
  have hj:=hp.lt _ _ _ _ hi hr;rw[hr]at hne;rw[Rs.bind_ok]at hne ⊢;obtain⟨k0,n0,s0,o0,a0,u0⟩:=e;simp only[x6e,Ex.row,go1,a0d,a0h];generalize hR:x2k (x7d l p .and 9 2) n (.mk k0 n0 s0 o0 a0 u0,j)=R at hne ⊢;refine x0v (fun x:Nat × Ex × Nat=>[.int .i64 9, .int .i64 10, .sl 4 (x0i l), .int .i64 (x.2.2:Int), .int .i64 0, .int .i64 0, .str (bs []), .int .i64 0, .int .i64 0, .int .i64 0, .str (bs []), .int .i64 0]++x.2.1.row) (fun x=>x2k (x7d l p .and 9 2) x.1 (x.2.1,x.2.2)=R/\x.2.2 < l.length) (fun x=>x.1) (fun x hx=> ?_) (n, .mk k0 n0 s0 o0 a0 u0,j) ⟨hR,hj⟩
  obtain⟨n1,⟨k1,m1,s1,o1,a1,u1⟩,i1⟩:=x;obtain⟨hx,hi1⟩:=hx;simp only at hx hi1 ⊢;cases n1 with
  |zero=>exact(hne hx.symm).elim
  |succ n1=>
   have h2:=v7u l hl i1 hi1 9 1 (by omega)
   simp only[Ex.row,go1,a0d,a0h];have h2:cF 1000269 (kO 9 10 (x0i l) (i1:Int))=_:=h2;simp only[h2,go1,Nat.reduceAdd];rw[x2k,x7d]at hx;cases ho:z4y l i1 9 2 with
   |none=>right;rw[ho]at hx;rw[<-hx];rfl
   |some o=>
    rw[ho]at hx;simp only at hx;have ho':=x4d ho;have hi2:=hl.next hi1 ho'.1;have hq:p .and (i1+1)≠ .out:=fun e=>hne (by rw[e]at hx;exact hx.symm)
    have h3:cF 1000262 (kP 285 (x0i l) ((i1+1:Nat):Int))=_:=hp.c .and (i1+1) hi2 hq;simp only[go1,h3];cases hr2:p .and (i1+1)with
    |out=>exact(hq hr2).elim
    |bad j2=>right;rw[hr2]at hx;rw[<-hx];rfl
    |ok e2 j2=>
     left
     rw[hr2]at hx;obtain⟨k3,n3,s3,o3,a3,u3⟩:=e2;have h4:=u0t o _ _ k1 m1 s1 o1 a1 u1 k3 n3 s3 o3 a3 u3 rfl rfl;refine⟨(n1,x9u o (.mk k1 m1 s1 o1 a1 u1) (.mk k3 n3 s3 o3 a3 u3),j2),?_,⟨hx,hp.lt _ _ _ _ hi2 hr2⟩,a1m _⟩;simp only[x6e,Ex.row,go1,a0d,a0h,h4,x9u]
def k2r {l:List Tk}(hl:LOK l){n:Nat}{p:PR}(hp:HP l p)(i:Nat)(hi:i < l.length)(hne:x5v l n p .cmp 8 1 i≠ .out):cF 1000262 (kP 285 (x0i l) (i:Int))=some (x6e Ex.row l (x5v l n p .cmp 8 1 i)):=by
 have h1:cF 1000271 (kP 285 (x0i l) (i:Int))=_:=hp.c .cmp i hi (x2n hne);refine cBp 262 rfl ?_;rw[q4o];simp only[b262,oE,oP,oT,go1,Nat.reduceAdd,h1];unfold x5v at hne ⊢;cases hr:p .cmp i with
 |out=>rw[hr]at hne;exact(hne rfl).elim
 |bad j=>rfl
 |ok e j=>
  have hj:=hp.lt _ _ _ _ hi hr;rw[hr]at hne;rw[Rs.bind_ok]at hne ⊢;obtain⟨k0,n0,s0,o0,a0,u0⟩:=e;simp only[x6e,Ex.row,go1,a0d,a0h];generalize hR:x2k (x7d l p .cmp 8 1) n (.mk k0 n0 s0 o0 a0 u0,j)=R at hne ⊢;refine x0v (fun x:Nat × Ex × Nat=>[.int .i64 8, .int .i64 8, .sl 4 (x0i l), .int .i64 (x.2.2:Int), .int .i64 0, .int .i64 0, .str (bs []), .int .i64 0, .int .i64 0, .int .i64 0, .str (bs []), .int .i64 0]++x.2.1.row) (fun x=>x2k (x7d l p .cmp 8 1) x.1 (x.2.1,x.2.2)=R/\x.2.2 < l.length) (fun x=>x.1) (fun x hx=> ?_) (n, .mk k0 n0 s0 o0 a0 u0,j) ⟨hR,hj⟩
  obtain⟨n1,⟨k1,m1,s1,o1,a1,u1⟩,i1⟩:=x;obtain⟨hx,hi1⟩:=hx;simp only at hx hi1 ⊢;cases n1 with
  |zero=>exact(hne hx.symm).elim
  |succ n1=>
   have h2:=v7u l hl i1 hi1 8 0 (by omega)
   simp only[Ex.row,go1,a0d,a0h];have h2:cF 1000269 (kO 8 8 (x0i l) (i1:Int))=_:=h2;simp only[h2,go1];rw[x2k,x7d]at hx;cases ho:z4y l i1 8 1 with
   |none=>right;rw[ho]at hx;rw[<-hx];rfl
   |some o=>
    rw[ho]at hx;simp only at hx;have ho':=x4d ho;have hi2:=hl.next hi1 ho'.1;have hq:p .cmp (i1+1)≠ .out:=fun e=>hne (by rw[e]at hx;exact hx.symm)
    have h3:cF 1000271 (kP 285 (x0i l) ((i1+1:Nat):Int))=_:=hp.c .cmp (i1+1) hi2 hq;simp only[go1,h3];cases hr2:p .cmp (i1+1)with
    |out=>exact(hq hr2).elim
    |bad j2=>right;rw[hr2]at hx;rw[<-hx];rfl
    |ok e2 j2=>
     left
     rw[hr2]at hx;obtain⟨k3,n3,s3,o3,a3,u3⟩:=e2;have h4:=u0t o _ _ k1 m1 s1 o1 a1 u1 k3 n3 s3 o3 a3 u3 rfl rfl;refine⟨(n1,x9u o (.mk k1 m1 s1 o1 a1 u1) (.mk k3 n3 s3 o3 a3 u3),j2),?_,⟨hx,hp.lt _ _ _ _ hi2 hr2⟩,a1m _⟩;simp only[x6e,Ex.row,go1,a0d,a0h,h4,x9u]
def k2o {l:List Tk}(hl:LOK l){n:Nat}{p:PR}(hp:HP l p)(i:Nat)(hi:i < l.length)(hne:x5v l n p .prod 3 2 i≠ .out):cF 1000276 (kP 285 (x0i l) (i:Int))=some (x6e Ex.row l (x5v l n p .prod 3 2 i)):=by
 have h1:cF 1000279 (kP 285 (x0i l) (i:Int))=_:=hp.c .prod i hi (x2n hne);refine cBp 276 rfl ?_;rw[q4l];simp only[b276,oE,oP,oT,go1,Nat.reduceAdd,h1];unfold x5v at hne ⊢;cases hr:p .prod i with
 |out=>rw[hr]at hne;exact(hne rfl).elim
 |bad j=>rfl
 |ok e j=>
  have hj:=hp.lt _ _ _ _ hi hr;rw[hr]at hne;rw[Rs.bind_ok]at hne ⊢;obtain⟨k0,n0,s0,o0,a0,u0⟩:=e;simp only[x6e,Ex.row,go1,a0d,a0h];generalize hR:x2k (x7d l p .prod 3 2) n (.mk k0 n0 s0 o0 a0 u0,j)=R at hne ⊢;refine x0v (fun x:Nat × Ex × Nat=>[.int .i64 3, .int .i64 4, .sl 4 (x0i l), .int .i64 (x.2.2:Int), .int .i64 0, .int .i64 0, .str (bs []), .int .i64 0, .int .i64 0, .int .i64 0, .str (bs []), .int .i64 0]++x.2.1.row) (fun x=>x2k (x7d l p .prod 3 2) x.1 (x.2.1,x.2.2)=R/\x.2.2 < l.length) (fun x=>x.1) (fun x hx=> ?_) (n, .mk k0 n0 s0 o0 a0 u0,j) ⟨hR,hj⟩
  obtain⟨n1,⟨k1,m1,s1,o1,a1,u1⟩,i1⟩:=x;obtain⟨hx,hi1⟩:=hx;simp only at hx hi1 ⊢;cases n1 with
  |zero=>exact(hne hx.symm).elim
  |succ n1=>
   have h2:=v7u l hl i1 hi1 3 1 (by omega)
   simp only[Ex.row,go1,a0d,a0h];have h2:cF 1000269 (kO 3 4 (x0i l) (i1:Int))=_:=h2;simp only[h2,go1,Nat.reduceAdd];rw[x2k,x7d]at hx;cases ho:z4y l i1 3 2 with
   |none=>right;rw[ho]at hx;rw[<-hx];rfl
   |some o=>
    rw[ho]at hx;simp only at hx;have ho':=x4d ho;have hi2:=hl.next hi1 ho'.1;have hq:p .prod (i1+1)≠ .out:=fun e=>hne (by rw[e]at hx;exact hx.symm)
    have h3:cF 1000279 (kP 285 (x0i l) ((i1+1:Nat):Int))=_:=hp.c .prod (i1+1) hi2 hq;simp only[go1,h3];cases hr2:p .prod (i1+1)with
    |out=>exact(hq hr2).elim
    |bad j2=>right;rw[hr2]at hx;rw[<-hx];rfl
    |ok e2 j2=>
     left
     rw[hr2]at hx;obtain⟨k3,n3,s3,o3,a3,u3⟩:=e2;have h4:=u0t o _ _ k1 m1 s1 o1 a1 u1 k3 n3 s3 o3 a3 u3 rfl rfl;refine⟨(n1,x9u o (.mk k1 m1 s1 o1 a1 u1) (.mk k3 n3 s3 o3 a3 u3),j2),?_,⟨hx,hp.lt _ _ _ _ hi2 hr2⟩,a1m _⟩;simp only[x6e,Ex.row,go1,a0d,a0h,h4,x9u]
def q5e {l:List Tk}(hl:LOK l){n:Nat}{p:PR}(hp:HP l p)(i:Nat)(hi:i < l.length)(hne:x5v l n p .un 5 3 i≠ .out):cF 1000279 (kP 285 (x0i l) (i:Int))=some (x6e Ex.row l (x5v l n p .un 5 3 i)):=by
 have h1:cF 1000281 (kP 285 (x0i l) (i:Int))=_:=hp.c .un i hi (x2n hne);refine cBp 279 rfl ?_;rw[q4k];simp only[b279,oE,oP,oT,go1,Nat.reduceAdd,h1];unfold x5v at hne ⊢;cases hr:p .un i with
 |out=>rw[hr]at hne;exact(hne rfl).elim
 |bad j=>rfl
 |ok e j=>
  have hj:=hp.lt _ _ _ _ hi hr;rw[hr]at hne;rw[Rs.bind_ok]at hne ⊢;obtain⟨k0,n0,s0,o0,a0,u0⟩:=e;simp only[x6e,Ex.row,go1,a0d,a0h];generalize hR:x2k (x7d l p .un 5 3) n (.mk k0 n0 s0 o0 a0 u0,j)=R at hne ⊢;refine x0v (fun x:Nat × Ex × Nat=>[.int .i64 5, .int .i64 7, .sl 4 (x0i l), .int .i64 (x.2.2:Int), .int .i64 0, .int .i64 0, .str (bs []), .int .i64 0, .int .i64 0, .int .i64 0, .str (bs []), .int .i64 0]++x.2.1.row) (fun x=>x2k (x7d l p .un 5 3) x.1 (x.2.1,x.2.2)=R/\x.2.2 < l.length) (fun x=>x.1) (fun x hx=> ?_) (n, .mk k0 n0 s0 o0 a0 u0,j) ⟨hR,hj⟩
  obtain⟨n1,⟨k1,m1,s1,o1,a1,u1⟩,i1⟩:=x;obtain⟨hx,hi1⟩:=hx;simp only at hx hi1 ⊢;cases n1 with
  |zero=>exact(hne hx.symm).elim
  |succ n1=>
   have h2:=v7u l hl i1 hi1 5 2 (by omega)
   simp only[Ex.row,go1,a0d,a0h];have h2:cF 1000269 (kO 5 7 (x0i l) (i1:Int))=_:=h2;simp only[h2,go1,Nat.reduceAdd];rw[x2k,x7d]at hx;cases ho:z4y l i1 5 3 with
   |none=>right;rw[ho]at hx;rw[<-hx];rfl
   |some o=>
    rw[ho]at hx;simp only at hx;have ho':=x4d ho;have hi2:=hl.next hi1 ho'.1;have hq:p .un (i1+1)≠ .out:=fun e=>hne (by rw[e]at hx;exact hx.symm)
    have h3:cF 1000281 (kP 285 (x0i l) ((i1+1:Nat):Int))=_:=hp.c .un (i1+1) hi2 hq;simp only[go1,h3];cases hr2:p .un (i1+1)with
    |out=>exact(hq hr2).elim
    |bad j2=>right;rw[hr2]at hx;rw[<-hx];rfl
    |ok e2 j2=>
     left
     rw[hr2]at hx;obtain⟨k3,n3,s3,o3,a3,u3⟩:=e2;have h4:=u0t o _ _ k1 m1 s1 o1 a1 u1 k3 n3 s3 o3 a3 u3 rfl rfl;refine⟨(n1,x9u o (.mk k1 m1 s1 o1 a1 u1) (.mk k3 n3 s3 o3 a3 u3),j2),?_,⟨hx,hp.lt _ _ _ _ hi2 hr2⟩,a1m _⟩;simp only[x6e,Ex.row,go1,a0d,a0h,h4,x9u]
def k2p {l:List Tk}(hl:LOK l){p:PR}(hp:HP l p)(i:Nat)(hi:i < l.length)(hne:v6f l p i≠ .out):cF 1000242 (kP 285 (x0i l) (i:Int))=some (x6e Ex.row l (v6f l p i)):=by
 have h1:cF 1000252 (kP 285 (x0i l) (i:Int))=_:=hp.c .or i hi (x2n hne);refine cBp 242 rfl ?_;rw[q4v];simp only[b242,oE,oP,go1,Nat.reduceAdd,h1];unfold v6f at hne ⊢;cases hr:p .or i with
 |out=>rw[hr]at hne;exact(hne rfl).elim
 |bad j=>rfl
 |ok e j=>
  have hj:=hp.lt _ _ _ _ hi hr;rw[hr]at hne;rw[Rs.bind_ok]at hne ⊢;obtain⟨k0,n0,s0,o0,a0,u0⟩:=e;have h2:=x4a l hl j hj (bs [102,98,121]);simp only[x6e,Ex.row,go1,a0d,a0h,h2];cases ht:isT l j (bs [102,98,121])with
  |false=>rfl
  |true=>
   rw[ht]at hne;simp only at hne ⊢;have hj2:=hl.next hj (x1m ht);have h3:cF 1000242 (kP 285 (x0i l) ((j+1:Nat):Int))=_:=hp.c .fby (j+1) hj2 (x2n hne);simp only[go1,h3];cases hr2:p .fby (j+1)with
   |out=>rw[hr2]at hne;exact(hne rfl).elim
   |bad k=>rfl
   |ok e2 k=>
    obtain⟨k2,n2,s2,o2,a2,u2⟩:=e2;rfl
def w3s {l:List Tk}(hl:LOK l){p:PR}(hp:HP l p)(i:Nat)(hi:i < l.length)(hne:y1d l p i≠ .out):cF 1000228 (kP 285 (x0i l) (i:Int))=some (x6e Ex.row l (y1d l p i)):=by
 have h1:cF 1000242 (kP 285 (x0i l) (i:Int))=_:=hp.c .fby i hi (x2n hne);refine cBp 228 rfl ?_;rw[q4x];simp only[b228,oE,oP,go1,Nat.reduceAdd,h1];unfold y1d at hne ⊢;cases hr:p .fby i with
 |out=>rw[hr]at hne;exact(hne rfl).elim
 |bad j=>rfl
 |ok e j=>
  have hj:=hp.lt _ _ _ _ hi hr;rw[hr]at hne;rw[Rs.bind_ok]at hne ⊢;obtain⟨k0,n0,s0,o0,a0,u0⟩:=e;have h2:=x4a l hl j hj (bs [45,62]);simp only[x6e,Ex.row,go1,a0d,a0h,h2];cases ht:isT l j (bs [45,62])with
  |false=>rfl
  |true=>
   rw[ht]at hne;simp only at hne ⊢;have hj2:=hl.next hj (x1m ht);have h3:cF 1000228 (kP 285 (x0i l) ((j+1:Nat):Int))=_:=hp.c .arrow (j+1) hj2 (x2n hne);simp only[go1,h3];cases hr2:p .arrow (j+1)with
   |out=>rw[hr2]at hne;exact(hne rfl).elim
   |bad k=>rfl
   |ok e2 k=>
    obtain⟨k2,n2,s2,o2,a2,u2⟩:=e2;rfl
def k2q {l:List Tk}(hl:LOK l){p:PR}(hp:HP l p)(i:Nat)(hi:i < l.length)(hne:v6x l p i≠ .out):cF 1000271 (kP 285 (x0i l) (i:Int))=some (x6e Ex.row l (v6x l p i)):=by
 have h1:cF 1000276 (kP 285 (x0i l) (i:Int))=_:=hp.c .sum i hi (x2n hne);refine cBp 271 rfl ?_;rw[q4m];simp only[b271,oE,oP,go1,Nat.reduceAdd,h1];unfold v6x at hne ⊢;cases hr:p .sum i with
 |out=>rw[hr]at hne;exact(hne rfl).elim
 |bad j=>rfl
 |ok e j=>
  have hj:=hp.lt _ _ _ _ hi hr;rw[hr]at hne;rw[Rs.bind_ok]at hne ⊢;obtain⟨k0,n0,s0,o0,a0,u0⟩:=e;have h2:=v7u l hl j hj 11 5 (by omega)
  have h2:cF 1000269 (kO 11 16 (x0i l) (j:Int))=_:=h2;simp only[x6e,Ex.row,go1,Nat.reduceAdd,a0d,a0h,h2];cases ho:z4y l j 11 6 with
  |none=>rfl
  |some o=>
   rw[ho]at hne;simp only at hne ⊢;have hj2:=hl.next hj (x4d ho).1;have h3:cF 1000276 (kP 285 (x0i l) ((j+1:Nat):Int))=_:=hp.c .sum (j+1) hj2 (x2n hne);simp only[go1,h3];cases hr2:p .sum (j+1)with
   |out=>rw[hr2]at hne;exact(hne rfl).elim
   |bad k=>rfl
   |ok e2 k=>
    obtain⟨k2,n2,s2,o2,a2,u2⟩:=e2;have h4:=u0t o _ _ k0 n0 s0 o0 a0 u0 k2 n2 s2 o2 a2 u2 rfl rfl;simp only[x6e,Ex.row,go1,a0d,a0h,h4,x9u];rfl
def k7i {l:List Tk}(hl:LOK l){p:PR}(hp:HP l p)(i:Nat)(hi:i < l.length)(hne:unS l p i≠ .out):cF 1000281 (kP 285 (x0i l) (i:Int))=some (x6e Ex.row l (unS l p i)):=by
 have h1:=x4a l hl i hi (bs [45]);have h2:=x4a l hl i hi (bs [110,111,116]);have h3:=x4a l hl i hi (bs [112,114,101]);refine cBp 281 rfl ?_;rw[q4j];simp only[b281,oE,oP,go1,Nat.reduceAdd,h1];unfold unS at hne ⊢;cases t1:isT l i (bs [45])with
 |true=>
  rw[t1]at hne;simp only at hne ⊢;have h4:cF 1000281 (kP 285 (x0i l) ((i+1:Nat):Int))=_:=hp.c .un (i+1) (hl.next hi (x1m t1)) (x2n hne);simp only[go1,h4];cases hr:p .un (i+1)with
  |out=>rw[hr]at hne;exact(hne rfl).elim
  |bad j=>rfl
  |ok e j=>obtain⟨k0,n0,s0,o0,a0,u0⟩:=e;rfl
 |false=>
  rw[t1]at hne;simp only[go1,h2]at hne ⊢;cases t2:isT l i (bs [110,111,116])with
  |true=>
   rw[t2]at hne;simp only at hne ⊢;have h4:cF 1000281 (kP 285 (x0i l) ((i+1:Nat):Int))=_:=hp.c .un (i+1) (hl.next hi (x1m t2)) (x2n hne);simp only[go1,h4];cases hr:p .un (i+1)with
   |out=>rw[hr]at hne;exact(hne rfl).elim
   |bad j=>rfl
   |ok e j=>obtain⟨k0,n0,s0,o0,a0,u0⟩:=e;rfl
  |false=>
   rw[t2]at hne;simp only[go1,h3]at hne ⊢;cases t3:isT l i (bs [112,114,101])with
   |true=>
    rw[t3]at hne;simp only at hne ⊢;have h4:cF 1000281 (kP 285 (x0i l) ((i+1:Nat):Int))=_:=hp.c .un (i+1) (hl.next hi (x1m t3)) (x2n hne);simp only[go1,h4];cases hr:p .un (i+1)with
    |out=>rw[hr]at hne;exact(hne rfl).elim
    |bad j=>rfl
    |ok e j=>obtain⟨k0,n0,s0,o0,a0,u0⟩:=e;rfl
   |false=>
    rw[t3]at hne;simp only at hne ⊢;have h4:cF 1000287 (kP 285 (x0i l) (i:Int))=_:=hp.c .post i hi hne;simp only[go1,h4];cases hr:p .post i with
    |out=>exact(hne hr).elim
    |bad j=>rfl
    |ok e j=>obtain⟨k0,n0,s0,o0,a0,u0⟩:=e;rfl
theorem x8l (e:Ex): ∀es:List Ex,Ex.rows (es++[e])=Ex.rows es++[e.row]
 | []=>rfl
 |a::es=>by show a.row::Ex.rows (es++[e])=_;rw[x8l e es];rfl
theorem x0h: ∀es:List Ex,(Ex.rows es).length=es.length
 | []=>rfl
 |a::es=>by show(a.row::Ex.rows es).length=_;rw[a0b,x0h es];rfl
theorem k4b (s:BA)(w:List BA):[D.str s]::x0b w=x0b (s::w):=rfl
theorem x2h {l:List Tk}{u:Unit}: ∀ {w:List BA} {i j:Nat},x2b l w i= .ok u j->i<=j
 | [],i,j,h=>by cases h;exact a0q _
 |x::w,i,j,h=>by
  unfold x2b at h;split at h
  ·have:=x2h h;omega
  ·cases h
theorem y5g {l:List Tk}{i j:Nat}{a:BA}(h:z1j l i= .ok a j):j=i+1:=by
 unfold z1j at h;split at h<;>cases h;rfl
theorem x5t {l:List Tk}{i j:Nat}{a:BA}(h:x4l l i= .ok a j):j=i+1:=by
 unfold x4l at h;split at h<;>cases h;rfl
section
variable {l : List Tk} (hl : LOK l) {n : Nat} {p : PR} (hp : HP l p)
include hl hp
theorem q5f (i:Nat)(hi:i < l.length)(hne:y1t l n p i≠ .out):cF 1000287 (kP 285 (x0i l) (i:Int))=some (x6e Ex.row l (y1t l n p i)):=by
 have h1:cF 1000288 (kP 285 (x0i l) (i:Int))=_:=hp.c .atom i hi (x2n hne);refine cBp 287 rfl ?_;rw[q4i];simp only[b287,oE,oP,oT,go1,Nat.reduceAdd,h1,y0d];unfold y1t at hne ⊢;cases hr:p .atom i with
 |out=>rw[hr]at hne;exact(hne rfl).elim
 |bad j=>rfl
 |ok e j=>
  have hj:=hp.lt _ _ _ _ hi hr;rw[hr]at hne;rw[Rs.bind_ok]at hne ⊢;generalize hR:x2k (y0e l p) n (e,j)=R at hne ⊢;have e0: ∃k0 n0 s0 o0 a0 u0,e= .mk k0 n0 s0 o0 a0 u0:=by obtain⟨k0,n0,s0,o0,a0,u0⟩:=e;exact⟨_,_,_,_,_,_,rfl⟩
  obtain⟨k0,n0,s0,o0,a0,u0,rfl⟩:=e0;simp only[x6e,Ex.row,go1,a0d,a0h];refine x0v (fun x:Nat × Ex × Nat=>[.sl 4 (x0i l), .int .i64 (x.2.2:Int), .int .i64 0, .int .i64 0, .str (bs []), .int .i64 0]++x.2.1.row) (fun x=>x2k (y0e l p) x.1 (x.2.1,x.2.2)=R/\x.2.2 < l.length) (fun x=>x.1) (fun x hx=> ?_) (n, .mk k0 n0 s0 o0 a0 u0,j) ⟨hR,hj⟩
  obtain⟨n1,⟨k1,m1,s1,o1,a1,u1⟩,i1⟩:=x;obtain⟨hx,hi1⟩:=hx;simp only at hx hi1 ⊢;cases n1 with
  |zero=>exact(hne hx.symm).elim
  |succ n1=>
   have h2:=x4a l hl i1 hi1 (bs [91]);have h3:=x4a l hl i1 hi1 (bs [119,104,101,110]);rw[x2k,y0e]at hx;simp only[Ex.row,go1,a0d,a0h,h2];cases ht:isT l i1 (bs [91])with
   |true=>
    have hi2:=hl.next hi1 (x1m ht);rw[ht]at hx;simp only at hx;have hq:p .arrow (i1+1)≠ .out:=fun e=>hne (by rw[e]at hx;exact hx.symm)
    have h4:cF 1000228 (kP 285 (x0i l) ((i1+1:Nat):Int))=_:=hp.c .arrow (i1+1) hi2 hq;simp only[go1,h4];cases hr2:p .arrow (i1+1)with
    |out=>exact(hq hr2).elim
    |bad j2=>right;rw[hr2]at hx;rw[<-hx];rfl
    |ok e2 j2=>
     have hj2:=hp.lt _ _ _ _ hi2 hr2;obtain⟨k3,n3,s3,o3,a3,u3⟩:=e2;have h5:=x5c l hl [bs [93]] (by simp) j2 hj2
     simp only[x6e,Ex.row,go1,a0d,a0h,h5];rw[hr2,Rs.bind_ok]at hx;cases hr3:x2b l [bs [93]] j2 with
     |out=>exact(x1h hr3).elim
     |bad j3=>right;rw[hr3]at hx;rw[<-hx];rfl
     |ok u j3=>
      left
      rw[hr3]at hx;exact⟨(n1,ex 15 [.mk k1 m1 s1 o1 a1 u1, .mk k3 n3 s3 o3 a3 u3],j3),rfl,⟨hx,x3p hl hj2 hr3⟩,a1m _⟩
   |false=>
    rw[ht]at hx;simp only[go1,h3]at hx ⊢;cases ht2:isT l i1 (bs [119,104,101,110])with
    |true=>
     have hi2:=hl.next hi1 (x1m ht2);have h4:=v7t l hl (i1+1) hi2;rw[ht2]at hx;simp only[go1,h4]at hx ⊢;cases hr2:x6j l (i1+1)with
     |out=>rw[hr2]at hx;exact(hne hx.symm).elim
     |bad j2=>right;rw[hr2]at hx;rw[<-hx];rfl
     |ok w j2=>
      left
      rw[hr2]at hx;obtain⟨w1,w2⟩:=w;exact⟨(n1, .mk 11 0 w1 0 [w2] [.mk k1 m1 s1 o1 a1 u1],j2),rfl,⟨hx,y6v hl hi2 hr2⟩,a1m _⟩
    |false=>
     right
     rw[ht2]at hx;rw[<-hx];rfl
theorem w3q (i:Nat)(hi:i < l.length)(hne:x8m l p i≠ .out):cF 1000291 (kP 285 (x0i l) (i:Int))=some (x6e Ex.row l (x8m l p i)):=by
 have h1:cF 1000228 (kP 285 (x0i l) (i:Int))=_:=hp.c .arrow i hi (x2n hne);refine cBp 291 rfl ?_;rw[q4f];simp only[b291,oE,oP,go1,Nat.reduceAdd,h1,y0d,k4b];unfold x8m at hne ⊢;cases hr:p .arrow i with
 |out=>rw[hr]at hne;exact(hne rfl).elim
 |bad j=>rfl
 |ok e j=>
  have hj:=hp.lt _ _ _ _ hi hr;rw[hr]at hne;rw[Rs.bind_ok]at hne ⊢;obtain⟨k0,n0,s0,o0,a0,u0⟩:=e;have h2:=x4a l hl j hj (bs [119,105,116,104]);simp only[x6e,Ex.row,go1,a0d,a0h,h2];cases ht:isT l j (bs [119,105,116,104])with
  |false=>
   have h3:=x5c l hl [bs [41]] (by simp) j hj
   simp only[go1,h3];cases hr2:x2b l [bs [41]] j<;>first|rfl|exact(x1h hr2).elim
  |true=>
   rw[ht]at hne;simp only at hne ⊢;have hj1:=hl.next hj (x1m ht);have h3:=x5c l hl [bs [91]] (by simp) (j+1) hj1
   simp only[go1,h3];cases hr2:x2b l [bs [91]] (j+1)with
   |out=>exact(x1h hr2).elim
   |bad k=>rfl
   |ok u k=>
    have hk:=x3p hl hj1 hr2;rw[hr2,Rs.bind_ok]at hne;have h4:cF 1000228 (kP 285 (x0i l) (k:Int))=_:=hp.c .arrow k hk (x2n hne);simp only[v9f,go1,h4,Rs.bind_ok];cases hr3:p .arrow k with
    |out=>rw[hr3]at hne;exact(hne rfl).elim
    |bad m=>rfl
    |ok a m=>
     have hm:=hp.lt _ _ _ _ hk hr3;rw[hr3,Rs.bind_ok]at hne;obtain⟨k1,n1,s1,o1,a1,u1⟩:=a;have h5:=x5c l hl [bs [93],bs [61]] (by simp) m hm
     simp only[x6e,Ex.row,go1,a0d,a0h,h5,Rs.bind_ok];cases hr4:x2b l [bs [93],bs [61]] m with
     |out=>exact(x1h hr4).elim
     |bad q=>rfl
     |ok u2 q=>
      have hq:=x3p hl hm hr4;rw[hr4,Rs.bind_ok]at hne;have h6:cF 1000228 (kP 285 (x0i l) (q:Int))=_:=hp.c .arrow q hq (x2n hne);simp only[v9f,go1,h6,Rs.bind_ok];cases hr5:p .arrow q with
      |out=>rw[hr5]at hne;exact(hne rfl).elim
      |bad m=>rfl
      |ok b z=>
       have hz:=hp.lt _ _ _ _ hq hr5;obtain⟨k2,n2,s2,o2,a2,u2⟩:=b;have h7:=x5c l hl [bs [41]] (by simp) z hz
       simp only[x6e,Ex.row,go1,a0d,a0h,h7,Rs.bind_ok];cases hr6:x2b l [bs [41]] z<;>first|rfl|exact(x1h hr6).elim
theorem v8t (i:Nat)(hi:i < l.length)(hne:x7g l p i≠ .out):cF 1000293 (kP 285 (x0i l) (i:Int))=some (x6e Ex.row l (x7g l p i)):=by
 have h1:cF 1000228 (kP 285 (x0i l) (i:Int))=_:=hp.c .arrow i hi (x2n hne);refine cBp 293 rfl ?_;rw[q4d];simp only[b293,oE,oP,go1,Nat.reduceAdd,h1,y0d];unfold x7g at hne ⊢;cases hr:p .arrow i with
 |out=>rw[hr]at hne;exact(hne rfl).elim
 |bad j=>rfl
 |ok e j=>
  have hj:=hp.lt _ _ _ _ hi hr;rw[hr]at hne;rw[Rs.bind_ok]at hne ⊢;obtain⟨k0,n0,s0,o0,a0,u0⟩:=e;have h3:=x5c l hl [bs [116,104,101,110]] (by simp) j hj
  simp only[x6e,Ex.row,go1,a0d,a0h,h3];cases hr2:x2b l [bs [116,104,101,110]] j with
  |out=>exact(x1h hr2).elim
  |bad k=>rfl
  |ok u k=>
   have hk:=x3p hl hj hr2;rw[hr2,Rs.bind_ok]at hne;have h4:cF 1000228 (kP 285 (x0i l) (k:Int))=_:=hp.c .arrow k hk (x2n hne);simp only[v9f,go1,h4,Rs.bind_ok];cases hr3:p .arrow k with
   |out=>rw[hr3]at hne;exact(hne rfl).elim
   |bad m=>rfl
   |ok a m=>
    have hm:=hp.lt _ _ _ _ hk hr3;rw[hr3,Rs.bind_ok]at hne;obtain⟨k1,n1,s1,o1,a1,u1⟩:=a;have h5:=x5c l hl [bs [101,108,115,101]] (by simp) m hm
    simp only[x6e,Ex.row,go1,a0d,a0h,h5,Rs.bind_ok];cases hr4:x2b l [bs [101,108,115,101]] m with
    |out=>exact(x1h hr4).elim
    |bad q=>rfl
    |ok u2 q=>
     have hq:=x3p hl hm hr4;rw[hr4,Rs.bind_ok]at hne;have h6:cF 1000228 (kP 285 (x0i l) (q:Int))=_:=hp.c .arrow q hq (x2n hne);simp only[v9f,go1,h6,Rs.bind_ok];cases hr5:p .arrow q with
     |out=>rw[hr5]at hne;exact(hne rfl).elim
     |bad m=>rfl
     |ok b z=>obtain⟨k2,n2,s2,o2,a2,u2⟩:=b;rfl
theorem u6e {es:List Ex}{i:Nat}(he:es.length<=i)(hi:i < l.length)(r:List D):decide (((Ex.rows es).length+[r].length)*(88+1)<=140737488355328)=true:=by
 have:=hl.few;rw[x0h];exact a0o (by simp only[a0b,a0e];omega)
theorem v8u {β:Type}(f:PRes->β)(nm:BA)(es:List Ex)(j:Nat)(hj:j < l.length)(he:es.length<=j)(hne:y1w l p nm es j≠ .out):
  ((cF 1000243 (kS 0 (bs [101,118,101,114,121]) (x0i l) (j:Int))).bind fun p62=>(opB (sy.cell p62.leaves 0)).bind fun b64=>(opL (sy.cell p62.leaves 1) 4).bind fun l65=>(opI (sy.cell p62.leaves 2) .i64).bind fun n66=>
    bif b64 then(cF 1000287 (kP 285 l65 n66)).bind fun p67=>(opB (sy.cell p67.leaves 0)).bind fun b69=>
     bif b69 then(opI (sy.cell p67.leaves 1) .i64).bind fun n70=>(opL (sy.cell p67.leaves 2) 4).bind fun l71=>(opI (sy.cell p67.leaves 3) .i64).bind fun n72=>some (f (PRes.val [.bool true, .int .i64 n70, .sl 4 l71, .int .i64 n72]))
     else(opI (sy.cell p67.leaves 1) .i64).bind fun n73=>(opI (sy.cell p67.leaves 2) .i64).bind fun n74=>(opS (sy.cell p67.leaves 3)).bind fun s75=>(opI (sy.cell p67.leaves 4) .i64).bind fun n76=>(opL (sy.cell p67.leaves 5) 1).bind fun l77=>(opL (sy.cell p67.leaves 6) 6).bind fun l78=>
      (opL (sy.cell p67.leaves 7) 4).bind fun l79=>(opI (sy.cell p67.leaves 8) .i64).bind fun n80=>
       bif decide (((Ex.rows es).length+[[D.int .i64 n73, .int .i64 n74, .str s75, .int .i64 n76, .sl 1 l77, .sl 6 l78]].length)*(88+1)<=140737488355328)then
        some (f (PRes.val [.bool false, .int .i64 13, .int .i64 1, .str nm, .int .i64 0, .sl 1 [], .sl 6 (Ex.rows es++[[.int .i64 n73, .int .i64 n74, .str s75, .int .i64 n76, .sl 1 l77, .sl 6 l78]]), .sl 4 l79, .int .i64 n80]))
       else none
    else some (f (PRes.val [.bool false, .int .i64 13, .int .i64 0, .str nm, .int .i64 0, .sl 1 [], .sl 6 (Ex.rows es), .sl 4 l65, .int .i64 n66])))=some (f (x6e Ex.row l (y1w l p nm es j))):=by
 have h1:=x4a l hl j hj (bs [101,118,101,114,121]);unfold y1w at hne ⊢;rw[h1];cases ht:isT l j (bs [101,118,101,114,121])with
 |false=>simp only[go1,Nat.reduceAdd];rfl
 |true=>
  rw[ht]at hne;simp only at hne;have hj1:=hl.next hj (x1m ht);have h2:cF 1000287 (kP 285 (x0i l) ((j+1:Nat):Int))=_:=hp.c .post (j+1) hj1 (x2n hne);simp only[go1,Nat.reduceAdd,h2];cases hr:p .post (j+1)with
  |out=>rw[hr]at hne;exact(hne rfl).elim
  |bad k=>rfl
  |ok e k=>
   obtain⟨k0,n0,s0,o0,a0,u0⟩:=e;have h3:=u6e hl hp he hj (Ex.row (.mk k0 n0 s0 o0 a0 u0));simp only[Ex.row]at h3;simp only[x6e,Ex.row,go1,a0d,a0h,h3,Rs.bind_ok,x8l];rfl
theorem q5g (nm:BA)(i:Nat)(hi:i < l.length)(hne:y3x l n p nm i≠ .out):cF 1000294 (kS 285 nm (x0i l) (i:Int))=some (x6e Ex.row l (y3x l n p nm i)):=by
 have h1:=x4a l hl i hi (bs [41]);refine cBp 294 rfl ?_;rw[q4c];simp only[b294,oE,oP,oT,go1,Nat.reduceAdd,h1,y0d];unfold y3x at hne ⊢;cases ht:isT l i (bs [41])with
 |true=>
  rw[ht]at hne;simp only[go1]at hne ⊢;have:=v8u hl hp (fun x=>x) nm [] (i+1) (hl.next hi (x1m ht)) (a0t _) hne
  exact this
 |false=>
  rw[ht]at hne;simp only[go1]at hne ⊢;have hq:p .arrow i≠ .out:=x2n (x2n hne);have h2:cF 1000228 (kP 285 (x0i l) (i:Int))=_:=hp.c .arrow i hi hq;unfold y4t at hne ⊢;rw[h2];cases hr:p .arrow i with
  |out=>exact(hq hr).elim
  |bad j=>rfl
  |ok e j=>
   have hj:=hp.lt _ _ _ _ hi hr;have hg:=hp.gt _ _ _ _ hi hr;rw[hr]at hne;rw[Rs.bind_ok]at hne ⊢;generalize hR:x2k (y0x l p (bs [41])) n ([e],j)=R at hne ⊢;have e0: ∃k0 n0 s0 o0 a0 u0,e= .mk k0 n0 s0 o0 a0 u0:=by obtain⟨k0,n0,s0,o0,a0,u0⟩:=e;exact⟨_,_,_,_,_,_,rfl⟩
   obtain⟨k0,n0,s0,o0,a0,u0,rfl⟩:=e0;simp only[x6e,Ex.row,go1,a0d,a0h];refine x0v (fun x:Nat × List Ex × Nat=>[.str (bs [41]), .sl 4 (x0i l), .int .i64 (x.2.2:Int), .int .i64 0, .int .i64 0, .str (bs []), .int .i64 0, .int .i64 13, .int .i64 0, .str nm, .int .i64 0, .sl 6 (Ex.rows x.2.1)]) (fun x=>x2k (y0x l p (bs [41])) x.1 (x.2.1,x.2.2)=R/\x.2.2 < l.length/\x.2.1.length<=x.2.2) (fun x=>x.1) (fun x hx=> ?_) (n,[.mk k0 n0 s0 o0 a0 u0],j) ⟨hR,hj,by simp only[a0b,a0e];omega⟩
   obtain⟨n1,es,i1⟩:=x;obtain⟨hx,hi1,hel⟩:=hx;simp only at hx hi1 hel ⊢;cases n1 with
   |zero=>exact(hne (by rw[<-hx];rfl)).elim
   |succ n1=>
    have h3:=x4a l hl i1 hi1 (bs [44]);rw[x2k,y0x]at hx;simp only[go1,h3];cases ht2:isT l i1 (bs [44])with
    |true=>
     have hi2:=hl.next hi1 (x1m ht2);rw[ht2]at hx;simp only at hx;have hq2:p .arrow (i1+1)≠ .out:=fun e=>hne (by rw[e]at hx;rw[<-hx];rfl)
     have h4:cF 1000228 (kP 285 (x0i l) ((i1+1:Nat):Int))=_:=hp.c .arrow (i1+1) hi2 hq2;simp only[go1,h4];cases hr2:p .arrow (i1+1)with
     |out=>exact(hq2 hr2).elim
     |bad j2=>right;rw[hr2]at hx;rw[<-hx];rfl
     |ok e2 j2=>
      left
      have hj2:=hp.lt _ _ _ _ hi2 hr2;have hg2:=hp.gt _ _ _ _ hi2 hr2;rw[hr2]at hx;obtain⟨k3,n3,s3,o3,a3,u3⟩:=e2;have h5:=u6e hl hp hel hi1 (Ex.row (.mk k3 n3 s3 o3 a3 u3));simp only[Ex.row]at h5;refine⟨(n1,es++[.mk k3 n3 s3 o3 a3 u3],j2),?_,⟨hx,hj2,by simp only[a0j,a0b,a0e];omega⟩,a1m _⟩
      simp only[x6e,Ex.row,go1,a0d,a0h,h5,x8l]
    |false=>
     right
     rw[ht2]at hx;simp only[go1]at hx ⊢;have h4:=x5c l hl [bs [41]] (by simp) i1 hi1
     simp only[h4,go1];cases hr3:x2b l [bs [41]] i1 with
     |out=>exact(x1h hr3).elim
     |bad j3=>rw[hr3]at hx;rw[<-hx];rfl
     |ok u j3=>
      rw[hr3,Rs.bind_ok]at hx;rw[<-hx,Rs.bind_ok]at hne ⊢;have hj3:=x3p hl hi1 hr3;have:=v8u hl hp (Sum.inr (α:=List D)) nm es j3 hj3 (by have:=x2h hr3;omega) hne
      simp only[v9f,go1];exact this
theorem w3r (i:Nat)(hi:i < l.length)(hne:y0a l n p i≠ .out):cF 1000292 (kP 285 (x0i l) (i:Int))=some (x6e Ex.row l (y0a l n p i)):=by
 have h1:=z1b l hl i hi;refine cBp 292 rfl ?_;rw[q4e];simp only[b292,oE,oP,oT,go1,Nat.reduceAdd,h1,y0d];unfold y0a at hne ⊢;cases hr:x4l l i with
 |out=>exact(x5s hr).elim
 |bad j=>rfl
 |ok nm j=>
  have hj:=x7m hl hi hr;rw[hr,Rs.bind_ok]at hne;have h2:=x5c l hl [bs [40]] (by simp) j hj
  simp only[x6e,sD,go1,a0d,a0h,h2,Rs.bind_ok];cases hr2:x2b l [bs [40]] j with
  |out=>exact(x1h hr2).elim
  |bad k=>rfl
  |ok u k=>
   have hk:=x3p hl hj hr2;rw[hr2,Rs.bind_ok]at hne;rw[Rs.bind_ok];generalize hR:x2k (x4o l p) n ([],[],k,true)=R at hne ⊢;simp only[v9f,go1];refine x0v (fun x:Nat × List BA × List Ex × Nat × Bool=>[.bool x.2.2.2.2, .sl 4 (x0i l), .int .i64 (x.2.2.2.1:Int), .int .i64 0, .int .i64 0, .str (bs []), .int .i64 0, .int .i64 12, .int .i64 0, .str nm, .int .i64 0, .sl 1 (x0b x.2.1), .sl 6 (Ex.rows x.2.2.1)]) (fun x=>x2k (x4o l p) x.1 (x.2.1,x.2.2.1,x.2.2.2.1,x.2.2.2.2)=R/\x.2.2.2.1 < l.length/\x.2.2.1.length<=x.2.2.2.1/\x.2.1.length<=x.2.2.2.1) (fun x=>x.1) (fun x hx=> ?_) (n,[],[],k,true) ⟨hR,hk,a0t _,a0t _⟩
   obtain⟨n1,ar,es,i1,ag⟩:=x;obtain⟨hx,hi1,hel,hal⟩:=hx;simp only at hx hi1 hel hal ⊢;cases n1 with
   |zero=>exact(hne (by rw[<-hx];rfl)).elim
   |succ n1=>
    cases ag with
    |false=>
     right
     rw[x2k,x4o]at hx;simp only[go1];rw[<-hx];rfl
    |true=>
     rw[x2k,x4o]at hx;have h3:=w5u l hl i1 hi1;simp only[go1,h3];cases hr3:z1j l i1 with
     |out=>exact(z6n hr3).elim
     |bad j2=>right;rw[hr3]at hx;rw[<-hx];rfl
     |ok a j2=>
      have hj2:=y5f hl hi1 hr3;rw[hr3,Rs.bind_ok]at hx;have h4:=x5c l hl [bs [45,62]] (by simp) j2 hj2
      have hf:=hl.few;have f1:decide (((x0b ar).length+[[D.str a]].length)*(16+1)<=140737488355328)=true:=by
       rw[x0c];exact a0o (by simp only[a0b,a0e];omega)
      have f1:decide (((x0b ar).length+(x0b [a]).length)*(16+1)<=140737488355328)=true:=f1;simp only[x6e,sD,go1,a0d,a0h,f1,h4];cases hr4:x2b l [bs [45,62]] j2 with
      |out=>exact(x1h hr4).elim
      |bad j3=>right;rw[hr4]at hx;rw[<-hx];rfl
      |ok u2 j3=>
       have hj3:=x3p hl hj2 hr4;rw[hr4,Rs.bind_ok]at hx;have hq:p .arrow j3≠ .out:=fun e=>hne (by rw[e]at hx;rw[<-hx];rfl)
       have h5:cF 1000228 (kP 285 (x0i l) (j3:Int))=_:=hp.c .arrow j3 hj3 hq;simp only[v9f,go1,h5];cases hr5:p .arrow j3 with
       |out=>exact(hq hr5).elim
       |bad j4=>right;rw[hr5]at hx;rw[<-hx];rfl
       |ok e j4=>
        have hj4:=hp.lt _ _ _ _ hj3 hr5;have hg:=hp.gt _ _ _ _ hj3 hr5;have l1:=y5g hr3;have l2:=x2h hr4;rw[hr5,Rs.bind_ok]at hx;obtain⟨k3,n3,s3,o3,a3,u3⟩:=e;have h6:=x5c l hl [bs [41]] (by simp) j4 hj4
        have f2:=u6e hl hp hel hi1 (Ex.row (.mk k3 n3 s3 o3 a3 u3));simp only[Ex.row]at f2;simp only[x6e,Ex.row,go1,a0d,a0h,f2,h6];cases hr6:x2b l [bs [41]] j4 with
        |out=>exact(x1h hr6).elim
        |bad j5=>right;rw[hr6]at hx;rw[<-hx];rfl
        |ok u3' j5=>
         have hj5:=x3p hl hj4 hr6;have l3:=x2h hr6;rw[hr6,Rs.bind_ok]at hx;simp only at hx;have h7:=x4a l hl j5 hj5 (bs [40]);simp only[v9f,go1,h7]
         left
         cases ht:isT l j5 (bs [40])with
         |true=>
          rw[ht]at hx;refine⟨(n1,ar++[a],es++[.mk k3 n3 s3 o3 a3 u3],j5+1,true),?_,⟨hx,hl.next hj5 (x1m ht),by simp only[a0j,a0b,a0e];omega,by simp only[a0j,a0b,a0e];omega⟩,a1m _⟩
          simp only[go1,x8l,y2x,Ex.row]
         |false=>
          rw[ht]at hx;refine⟨(n1,ar++[a],es++[.mk k3 n3 s3 o3 a3 u3],j5,false),?_,⟨hx,hj5,by simp only[a0j,a0b,a0e];omega,by simp only[a0j,a0b,a0e];omega⟩,a1m _⟩
          simp only[go1,x8l,y2x,Ex.row]
theorem q5d (i:Nat)(hi:i < l.length)(hne:x7w l n p i≠ .out):cF 1000289 (kP 285 (x0i l) (i:Int))=some (x6e Ex.row l (x7w l n p i)):=by
 have h1:=x4a l hl i hi (bs [116,114,117,101]);have h2:=x4a l hl i hi (bs [102,97,108,115,101]);have h3:=x4a l hl i hi (bs [91]);have h4:=x4a l hl i hi (bs [40]);have h5:=x4a l hl i hi (bs [109,101,114,103,101]);have h6:=x4a l hl i hi (bs [105,102]);refine cBp 289 rfl ?_;rw[q4g];simp only[b289,oE,oP,go1,Nat.reduceAdd,h1,y0d];unfold x7w at hne ⊢;cases t1:isT l i (bs [116,114,117,101])with
 |true=>rw[show isT l i x6f=true from t1];rfl
 |false=>
  rw[show isT l i x6f=false from t1]at hne ⊢;simp only[go1,h2]at hne ⊢;cases t2:isT l i (bs [102,97,108,115,101])with
  |true=>rw[show isT l i x3q=true from t2];rfl
  |false=>
   rw[show isT l i x3q=false from t2]at hne ⊢;simp only[go1,h3]at hne ⊢;cases t3:isT l i (bs [91])with
   |true=>
    have hi1:=hl.next hi (x1m t3);rw[t3]at hne;simp only[go1]at hne ⊢;have hq:p .arrow (i+1)≠ .out:=x2n (x2n hne);have k2:cF 1000228 (kP 285 (x0i l) ((i+1:Nat):Int))=_:=hp.c .arrow (i+1) hi1 hq;unfold y4t at hne ⊢;rw[k2];cases hr:p .arrow (i+1)with
    |out=>exact(hq hr).elim
    |bad j=>rfl
    |ok e j=>
     have hj:=hp.lt _ _ _ _ hi1 hr;have hg:=hp.gt _ _ _ _ hi1 hr;rw[hr]at hne;rw[Rs.bind_ok]at hne ⊢;generalize hR:x2k (y0x l p (bs [93])) n ([e],j)=R at hne ⊢;have e0: ∃k0 n0 s0 o0 a0 u0,e= .mk k0 n0 s0 o0 a0 u0:=by obtain⟨k0,n0,s0,o0,a0,u0⟩:=e;exact⟨_,_,_,_,_,_,rfl⟩
     obtain⟨k0,n0,s0,o0,a0,u0,rfl⟩:=e0;simp only[x6e,Ex.row,go1,a0d,a0h];refine x0v (fun x:Nat × List Ex × Nat=>[.str (bs [93]), .sl 4 (x0i l), .int .i64 (x.2.2:Int), .int .i64 0, .int .i64 0, .str (bs []), .int .i64 0, .sl 6 (Ex.rows x.2.1)]) (fun x=>x2k (y0x l p (bs [93])) x.1 (x.2.1,x.2.2)=R/\x.2.2 < l.length/\x.2.1.length<=x.2.2) (fun x=>x.1) (fun x hx=> ?_) (n,[.mk k0 n0 s0 o0 a0 u0],j) ⟨hR,hj,by simp only[a0b,a0e];omega⟩
     obtain⟨n1,es,i1⟩:=x;obtain⟨hx,hi1,hel⟩:=hx;simp only at hx hi1 hel ⊢;cases n1 with
     |zero=>exact(hne (by rw[<-hx];rfl)).elim
     |succ n1=>
      have h3:=x4a l hl i1 hi1 (bs [44]);rw[x2k,y0x]at hx;simp only[go1,h3];cases ht2:isT l i1 (bs [44])with
      |true=>
       have hi2:=hl.next hi1 (x1m ht2);rw[ht2]at hx;simp only at hx;have hq2:p .arrow (i1+1)≠ .out:=fun e=>hne (by rw[e]at hx;rw[<-hx];rfl)
       have h4:cF 1000228 (kP 285 (x0i l) ((i1+1:Nat):Int))=_:=hp.c .arrow (i1+1) hi2 hq2;simp only[go1,h4];cases hr2:p .arrow (i1+1)with
       |out=>exact(hq2 hr2).elim
       |bad j2=>right;rw[hr2]at hx;rw[<-hx];rfl
       |ok e2 j2=>
        left
        have hj2:=hp.lt _ _ _ _ hi2 hr2;have hg2:=hp.gt _ _ _ _ hi2 hr2;rw[hr2]at hx;obtain⟨k3,n3,s3,o3,a3,u3⟩:=e2;have h5:=u6e hl hp hel hi1 (Ex.row (.mk k3 n3 s3 o3 a3 u3));simp only[Ex.row]at h5;refine⟨(n1,es++[.mk k3 n3 s3 o3 a3 u3],j2),?_,⟨hx,hj2,by simp only[a0j,a0b,a0e];omega⟩,a1m _⟩
        simp only[x6e,Ex.row,go1,a0d,a0h,h5,x8l]
      |false=>
       right
       rw[ht2]at hx;simp only[go1]at hx ⊢;have h4:=x5c l hl [bs [93]] (by simp) i1 hi1
       simp only[h4,go1];cases hr3:x2b l [bs [93]] i1 with
       |out=>exact(x1h hr3).elim
       |bad j3=>rw[hr3]at hx;rw[<-hx];rfl
       |ok u j3=>rw[hr3,Rs.bind_ok]at hx;rw[<-hx];rfl
   |false=>
    rw[t3]at hne;simp only[go1,h4]at hne ⊢;cases t4:isT l i (bs [40])with
    |true=>
     have hi1:=hl.next hi (x1m t4);rw[t4]at hne;simp only[go1]at hne ⊢;have k2:=w3q hl hp (i+1) hi1 hne;rw[k2];cases hr:x8m l p (i+1)with
     |out=>exact(hne hr).elim
     |bad j=>rfl
     |ok e j=>obtain⟨k0,n0,s0,o0,a0,u0⟩:=e;rfl
    |false=>
     rw[t4]at hne;simp only[go1,h5]at hne ⊢;cases t5:isT l i (bs [109,101,114,103,101])with
     |true=>
      have hi1:=hl.next hi (x1m t5);rw[t5]at hne;simp only[go1]at hne ⊢;have k2:=w3r hl hp (i+1) hi1 hne;rw[k2];cases hr:y0a l n p (i+1)with
      |out=>exact(hne hr).elim
      |bad j=>rfl
      |ok e j=>obtain⟨k0,n0,s0,o0,a0,u0⟩:=e;rfl
     |false=>
      rw[t5]at hne;simp only[go1,h6]at hne ⊢;cases t6:isT l i (bs [105,102])with
      |true=>
       have hi1:=hl.next hi (x1m t6);rw[t6]at hne;simp only[go1]at hne ⊢;have k2:=v8t hl hp (i+1) hi1 hne;rw[k2];cases hr:x7g l p (i+1)with
       |out=>exact(hne hr).elim
       |bad j=>rfl
       |ok e j=>obtain⟨k0,n0,s0,o0,a0,u0⟩:=e;rfl
      |false=>
       rw[t6]at hne;have k1:=z1b l hl i hi;simp only[go1,k1]at hne ⊢;cases hr:x4l l i with
       |out=>exact(x5s hr).elim
       |bad j=>rfl
       |ok nm j=>
        have hj:=x7m hl hi hr;rw[hr,Rs.bind_ok]at hne;have k2:=x4a l hl j hj (bs [40]);simp only[x6e,sD,go1,a0d,a0h,k2,Rs.bind_ok];cases t7:isT l j (bs [40])with
        |false=>rfl
        |true=>
         rw[t7]at hne;simp only[go1]at hne ⊢;have k3:=q5g hl hp nm (j+1) (hl.next hj (x1m t7)) hne;rw[k3];cases hr2:y3x l n p nm (j+1)with
         |out=>exact(hne hr2).elim
         |bad k=>rfl
         |ok e k=>obtain⟨k0,n0,s0,o0,a0,u0⟩:=e;rfl
theorem q5h (i:Nat)(hi:i < l.length)(hne:x8h l n p i≠ .out):cF 1000288 (kP 285 (x0i l) (i:Int))=some (x6e Ex.row l (x8h l n p i)):=by
 have hf:=hl.few;have h1:=y6o hi;have h2:=y0p hi;refine cBp 288 rfl ?_;rw[q4h];simp only[b288,oE,oP,oT,go1,Nat.reduceAdd,h1,h2,x7x];unfold x8h at hne ⊢;have w:=x0e (i:=i) (n:=l.length) hi (by omega)
 cases q3:decide ((tkA l i).k=3)with
 |true=>simp only[go1,w];rfl
 |false=>
  cases q2:decide ((tkA l i).k=2)with
  |true=>simp only[go1,w];rfl
  |false=>
   cases q4:decide ((tkA l i).k=4)with
   |true=>simp only[go1,w];rfl
   |false=>
    rw[q3,q2,q4]at hne;have k2:=q5d hl hp i hi hne;simp only[go1,k2];cases hr:x7w l n p i with
    |out=>exact(hne hr).elim
    |bad j=>rfl
    |ok e j=>obtain⟨k0,n0,s0,o0,a0,u0⟩:=e;rfl
end
theorem x0d {α β:Type}{r:Rs α}{f:α->Nat->Rs β}{b:β}{j:Nat}(h:r.bind f= .ok b j): ∃a k,r= .ok a k/\f a k= .ok b j:=by
 cases r with
 |ok a k=>exact⟨a,k,rfl,h⟩
 |_=>cases h
theorem x1b {α β:Type}{r:Rs α}{f:α->Nat->Rs β}(h1:r≠ .out)(h2: ∀a k,r= .ok a k->f a k≠ .out):r.bind f≠ .out:=by
 cases r with
 |ok a k=>exact h2 a k rfl
 |bad i=>exact nofun
 |out=>exact(h1 rfl).elim
theorem x4x {σ B:Type}{st:σ->σ ⊕ Rs B}(P:σ->Prop)(Q:B->Nat->Prop)(h1: ∀x y,P x->st x= .inl y->P y)(h2: ∀x r j,P x->st x= .inr (.ok r j)->Q r j): ∀(n:Nat) (x:σ) (r:B) (j:Nat),P x->x2k st n x= .ok r j->Q r j
 |0,_,_,_,_,h=>by cases h
 |n+1,x,r,j,hx,h=>by
  unfold x2k at h;cases hs:st x with
  |inl y=>rw[hs]at h;exact x4x P Q h1 h2 n y r j (h1 x y hx hs) h
  |inr q=>rw[hs]at h;simp only at h;subst h;exact h2 x r j hx hs
theorem y3n {σ B:Type}{st:σ->σ ⊕ Rs B}(P:σ->Prop)(m:σ->Nat)(h1: ∀x y,P x->st x= .inl y->P y/\m y < m x)(h2: ∀x,P x->st x≠ .inr .out): ∀(n:Nat) (x:σ),P x->m x < n->x2k st n x≠ .out
 |0,_,_,h=>by omega
 |n+1,x,hx,h=>by
  unfold x2k;cases hs:st x with
  |inl y=>
   have:=h1 x y hx hs;exact y3n P m h1 h2 n y this.1 (by omega)
  |inr q=>exact fun e=>h2 x hx (by rw[hs];exact congrArg _ e)
def lvl:Nt->Nat
 | .arrow=>10| .fby=>9| .or=>8| .and=>7| .cmp=>6| .sum=>5| .prod=>4| .un=>3| .post=>2| .atom=>1
def Mn (l:List Tk)(nt:Nt)(i:Nat):Nat:=20*(l.length - i)+lvl nt
structure HQ (l:List Tk) (n:Nat) (p:PR):Prop where
 pos: ∀nt i e j,i < l.length->p nt i= .ok e j->i < j/\j < l.length
 ne: ∀nt i,i < l.length->Mn l nt i<=n->p nt i≠ .out
section
variable {l : List Tk} (hl : LOK l) {n : Nat} {p : PR} (hp : HQ l n p)
include hl hp
theorem x2d {w:List BA}{i j:Nat}{u:Unit}(hi:i < l.length)(h:x2b l w i= .ok u j):i<=j/\j < l.length:=⟨x2h h,x3p hl hi h⟩
theorem y3g {i j:Nat}{u:BA}(hi:i < l.length)(h:x4l l i= .ok u j):i < j/\j < l.length:=⟨by rw[x5t h];omega,x7m hl hi h⟩
theorem z4f {i j:Nat}{w:BA × BA}(h:x6j l i= .ok w j):i<=j:=by
 unfold x6j at h;split at h
 ·obtain⟨a,k,h1,h2⟩:=x0d h;cases h2;have:=x5t h1;omega
 ·split at h
  ·obtain⟨a,k,h1,h2⟩:=x0d h;cases h2;have:=x5t h1;omega
  ·obtain⟨a,k,h1,h⟩:=x0d h;obtain⟨_,k2,h2,h⟩:=x0d h;obtain⟨_,k3,h3,h⟩:=x0d h;obtain⟨_,k4,h4,h⟩:=x0d h;cases h;have:=y5g h1;have:=x2h h2;have:=x5t h3;have:=x2h h4;omega
theorem z4e (i:Nat):x6j l i≠ .out:=by
 unfold x6j;split
 ·exact x1b (fun e=>x5s e) fun _ _ _=>nofun
 ·split
  ·exact x1b (fun e=>x5s e) fun _ _ _=>nofun
  ·exact x1b (fun e=>z6n e) fun _ _ _=>x1b (fun e=>x1h e) fun _ _ _=>x1b (fun e=>x5s e) fun _ _ _=>x1b (fun e=>x1h e) fun _ _ _=>nofun
theorem y7g (side:Nt)(a m i:Nat)(e:Ex)(j:Nat)(hi:i < l.length)(h:x5v l n p side a m i= .ok e j):i < j/\j < l.length:=by
 unfold x5v at h;obtain⟨e1,k,h1,h⟩:=x0d h;have hk:=hp.pos _ _ _ _ hi h1;refine x4x (fun x:Ex × Nat=>i < x.2/\x.2 < l.length) (fun _ j=>i < j/\j < l.length) (fun x y hx hs=> ?_) (fun x r j hx hs=> ?_) n (e1,k) e j hk h
 ·obtain⟨e2,i2⟩:=x;rw[x7d]at hs;split at hs
  ·cases hs
  ·rename_i o ho;split at hs
   ·rename_i e3 j3 h3;cases hs;have:=hp.pos _ _ _ _ (hl.next hx.2 (x4d ho).1) h3;exact⟨by have:=hx.1;show i < j3;omega,this.2⟩
   ·cases hs
   ·cases hs
 ·obtain⟨e2,i2⟩:=x;rw[x7d]at hs;split at hs
  ·cases hs;exact hx
  ·split at hs<;>cases hs
theorem z5j (side nt:Nt)(hs:lvl side < lvl nt)(h10:lvl side<=10)(a m i:Nat)(hi:i < l.length)(hM:Mn l nt i<=n+1):x5v l n p side a m i≠ .out:=by
 unfold Mn at hM;refine x1b (hp.ne _ _ hi (by unfold Mn;omega)) fun e k h1=> ?_
 have hk:=hp.pos _ _ _ _ hi h1;refine y3n (fun x:Ex × Nat=>i < x.2/\x.2 < l.length) (fun x=>l.length - x.2) (fun x y hx hs=> ?_) (fun x hx hs=> ?_) n (e,k) hk (by simp only;omega)
 ·obtain⟨e2,i2⟩:=x;obtain⟨hx1,hx2⟩:=hx;simp only at hx1 hx2;rw[x7d]at hs;split at hs
  ·cases hs
  ·rename_i o ho;split at hs
   ·rename_i e3 j3 h3;cases hs;have:=hp.pos _ _ _ _ (hl.next hx2 (x4d ho).1) h3;simp only;omega
   ·cases hs
   ·cases hs
 ·obtain⟨e2,i2⟩:=x;obtain⟨hx1,hx2⟩:=hx;simp only at hx1 hx2;rw[x7d]at hs;split at hs
  ·cases hs
  ·rename_i o ho;split at hs
   ·cases hs
   ·cases hs
   ·rename_i h3;exact hp.ne _ _ (hl.next hx2 (x4d ho).1) (by unfold Mn;omega) h3
theorem w0i (i:Nat)(e:Ex)(j:Nat)(hi:i < l.length)(h:y1t l n p i= .ok e j):i < j/\j < l.length:=by
 unfold y1t at h;obtain⟨e1,k,h1,h⟩:=x0d h;have hk:=hp.pos _ _ _ _ hi h1;refine x4x (fun x:Ex × Nat=>i < x.2/\x.2 < l.length) (fun _ j=>i < j/\j < l.length) (fun x y hx hs=> ?_) (fun x r j hx hs=> ?_) n (e1,k) e j hk h
 ·obtain⟨e2,i2⟩:=x;obtain⟨hx1,hx2⟩:=hx;simp only at hx1 hx2;rw[y0e]at hs;split at hs
  ·rename_i ht;split at hs
   ·rename_i a j3 h3;cases hs;obtain⟨a2,k2,h4,h5⟩:=x0d h3;obtain⟨u,k3,h6,h7⟩:=x0d h5;cases h7;have q1:=hp.pos _ _ _ _ (hl.next hx2 (x1m ht)) h4;have q2:=x2d hl hp q1.2 h6;simp only;omega
   ·cases hs
   ·cases hs
  ·split at hs
   ·rename_i ht;split at hs
    ·rename_i w j3 h3;cases hs;have:=y6v hl (hl.next hx2 (x1m ht)) h3;have:=z4f hl hp h3;simp only;omega
    ·cases hs
    ·cases hs
   ·cases hs
 ·obtain⟨e2,i2⟩:=x;rw[y0e]at hs;split at hs
  ·split at hs<;>cases hs
  ·split at hs
   ·split at hs<;>cases hs
   ·cases hs;exact hx
theorem w7q (i:Nat)(hi:i < l.length)(hM:Mn l .post i<=n+1):y1t l n p i≠ .out:=by
 simp only[Mn,lvl]at hM;refine x1b (hp.ne _ _ hi (by simp only[Mn,lvl];omega)) fun e k h1=> ?_
 have hk:=hp.pos _ _ _ _ hi h1;refine y3n (fun x:Ex × Nat=>i < x.2/\x.2 < l.length) (fun x=>l.length - x.2) (fun x y hx hs=> ?_) (fun x hx hs=> ?_) n (e,k) hk (by simp only;omega)
 ·obtain⟨e2,i2⟩:=x;obtain⟨hx1,hx2⟩:=hx;simp only at hx1 hx2;rw[y0e]at hs;split at hs
  ·rename_i ht;split at hs
   ·rename_i a j3 h3;cases hs;obtain⟨a2,k2,h4,h5⟩:=x0d h3;obtain⟨u,k3,h6,h7⟩:=x0d h5;cases h7;have q1:=hp.pos _ _ _ _ (hl.next hx2 (x1m ht)) h4;have q2:=x2d hl hp q1.2 h6;simp only;omega
   ·cases hs
   ·cases hs
  ·split at hs
   ·rename_i ht;split at hs
    ·rename_i w j3 h3;cases hs;have:=y6v hl (hl.next hx2 (x1m ht)) h3;have:=z4f hl hp h3;simp only;omega
    ·cases hs
    ·cases hs
   ·cases hs
 ·obtain⟨e2,i2⟩:=x;obtain⟨hx1,hx2⟩:=hx;simp only at hx1 hx2;rw[y0e]at hs;split at hs
  ·rename_i ht;split at hs
   ·cases hs
   ·cases hs
   ·rename_i h3;exact absurd h3 (x1b (hp.ne .arrow _ (hl.next hx2 (x1m ht)) (by simp only[Mn,lvl];omega)) (fun _ _ _=>x1b (fun e=>x1h e) fun _ _ _=>nofun))
  ·split at hs
   ·split at hs
    ·cases hs
    ·cases hs
    ·rename_i h3;exact z4e hl hp _ h3
   ·cases hs
theorem z5g (en:BA)(i:Nat)(e:List Ex)(j:Nat)(hi:i < l.length)(h:y4t l n p en i= .ok e j):i < j/\j < l.length:=by
 unfold y4t at h;obtain⟨e1,k,h1,h⟩:=x0d h;have hk:=hp.pos _ _ _ _ hi h1;refine x4x (fun x:List Ex × Nat=>i < x.2/\x.2 < l.length) (fun _ j=>i < j/\j < l.length) (fun x y hx hs=> ?_) (fun x r j hx hs=> ?_) n ([e1],k) e j hk h
 ·obtain⟨e2,i2⟩:=x;obtain⟨hx1,hx2⟩:=hx;simp only at hx1 hx2;rw[y0x]at hs;split at hs
  ·rename_i ht;split at hs
   ·rename_i a j3 h3;cases hs;have q1:=hp.pos _ _ _ _ (hl.next hx2 (x1m ht)) h3;simp only;omega
   ·cases hs
   ·cases hs
  ·cases hs
 ·obtain⟨e2,i2⟩:=x;obtain⟨hx1,hx2⟩:=hx;simp only at hx1 hx2;rw[y0x]at hs;split at hs
  ·split at hs<;>cases hs
  ·have hs:=Sum.inr.inj hs;obtain⟨u,k3,h6,h7⟩:=x0d hs;cases h7;have q2:=x2d hl hp hx2 h6;omega
theorem v4n (en:BA)(i:Nat)(hi:i < l.length)(hM:20*(l.length - i)+10<=n):y4t l n p en i≠ .out:=by
 refine x1b (hp.ne _ _ hi (by simp only[Mn,lvl];omega)) fun e k h1=> ?_
 have hk:=hp.pos _ _ _ _ hi h1;refine y3n (fun x:List Ex × Nat=>i < x.2/\x.2 < l.length) (fun x=>l.length - x.2) (fun x y hx hs=> ?_) (fun x hx hs=> ?_) n ([e],k) hk (by simp only;omega)
 ·obtain⟨e2,i2⟩:=x;obtain⟨hx1,hx2⟩:=hx;simp only at hx1 hx2;rw[y0x]at hs;split at hs
  ·rename_i ht;split at hs
   ·rename_i a j3 h3;cases hs;have q1:=hp.pos _ _ _ _ (hl.next hx2 (x1m ht)) h3;simp only;omega
   ·cases hs
   ·cases hs
  ·cases hs
 ·obtain⟨e2,i2⟩:=x;obtain⟨hx1,hx2⟩:=hx;simp only at hx1 hx2;rw[y0x]at hs;split at hs
  ·rename_i ht;split at hs
   ·cases hs
   ·cases hs
   ·rename_i h3;exact hp.ne _ _ (hl.next hx2 (x1m ht)) (by simp only[Mn,lvl];omega) h3
  ·exact absurd (Sum.inr.inj hs) (x1b (fun e=>x1h e) (fun _ _ _=>nofun))
theorem v2x (i:Nat)(e:Ex)(j:Nat)(hi:i < l.length)(h:x8m l p i= .ok e j):i < j/\j < l.length:=by
 unfold x8m at h;obtain⟨e1,k,h1,h⟩:=x0d h;have hk:=hp.pos _ _ _ _ hi h1;split at h
 ·rename_i ht;have hk1:=hl.next hk.2 (x1m ht);obtain⟨_,k2,h2,h⟩:=x0d h;have q2:=x2d hl hp hk1 h2;obtain⟨_,k3,h3,h⟩:=x0d h;have q3:=hp.pos _ _ _ _ q2.2 h3;obtain⟨_,k4,h4,h⟩:=x0d h;have q4:=x2d hl hp q3.2 h4;obtain⟨_,k5,h5,h⟩:=x0d h;have q5:=hp.pos _ _ _ _ q4.2 h5;obtain⟨_,k6,h6,h⟩:=x0d h;have q6:=x2d hl hp q5.2 h6;cases h;omega
 ·obtain⟨_,k2,h2,h⟩:=x0d h;have q2:=x2d hl hp hk.2 h2;cases h;omega
theorem w0c (i:Nat)(hi:i < l.length)(hM:20*(l.length - i)+10<=n):x8m l p i≠ .out:=by
 refine x1b (hp.ne _ _ hi (by simp only[Mn,lvl];omega)) fun e k h1=> ?_
 have hk:=hp.pos _ _ _ _ hi h1;split
 ·rename_i ht;have hk1:=hl.next hk.2 (x1m ht);refine x1b (fun e=>x1h e) fun _ k2 h2=> ?_
  have q2:=x2d hl hp hk1 h2;refine x1b (hp.ne _ _ q2.2 (by simp only[Mn,lvl];omega)) fun _ k3 h3=> ?_
  have q3:=hp.pos _ _ _ _ q2.2 h3;refine x1b (fun e=>x1h e) fun _ k4 h4=> ?_
  have q4:=x2d hl hp q3.2 h4;refine x1b (hp.ne _ _ q4.2 (by simp only[Mn,lvl];omega)) fun _ k5 h5=> ?_
  exact x1b (fun e=>x1h e) fun _ _ _=>nofun
 ·exact x1b (fun e=>x1h e) fun _ _ _=>nofun
theorem v0l (i:Nat)(e:Ex)(j:Nat)(hi:i < l.length)(h:x7g l p i= .ok e j):i < j/\j < l.length:=by
 unfold x7g at h;obtain⟨e1,k,h1,h⟩:=x0d h;have hk:=hp.pos _ _ _ _ hi h1;obtain⟨_,k2,h2,h⟩:=x0d h;have q2:=x2d hl hp hk.2 h2;obtain⟨_,k3,h3,h⟩:=x0d h;have q3:=hp.pos _ _ _ _ q2.2 h3;obtain⟨_,k4,h4,h⟩:=x0d h;have q4:=x2d hl hp q3.2 h4;obtain⟨_,k5,h5,h⟩:=x0d h;have q5:=hp.pos _ _ _ _ q4.2 h5;cases h;omega
theorem v6y (i:Nat)(hi:i < l.length)(hM:20*(l.length - i)+10<=n):x7g l p i≠ .out:=by
 refine x1b (hp.ne _ _ hi (by simp only[Mn,lvl];omega)) fun e k h1=> ?_
 have hk:=hp.pos _ _ _ _ hi h1;refine x1b (fun e=>x1h e) fun _ k2 h2=> ?_
 have q2:=x2d hl hp hk.2 h2;refine x1b (hp.ne _ _ q2.2 (by simp only[Mn,lvl];omega)) fun _ k3 h3=> ?_
 have q3:=hp.pos _ _ _ _ q2.2 h3;refine x1b (fun e=>x1h e) fun _ k4 h4=> ?_
 have q4:=x2d hl hp q3.2 h4;exact x1b (hp.ne _ _ q4.2 (by simp only[Mn,lvl];omega)) fun _ k5 h5=>nofun
theorem z8k {i j:Nat}{q:BA × Ex}(hi:i < l.length)(h:((z1j l i).bind fun a j=>(x2b l [bs [45,62]] j).bind fun _ j=>(p .arrow j).bind fun e j=>(x2b l [bs [41]] j).bind fun _ j=> .ok (a,e) j:Rs (BA × Ex))= .ok q j):i < j/\j < l.length:=by
 obtain⟨_,k,h1,h⟩:=x0d h;have q1:=y5f hl hi h1;have:=y5g h1;obtain⟨_,k2,h2,h⟩:=x0d h;have q2:=x2d hl hp q1 h2;obtain⟨_,k3,h3,h⟩:=x0d h;have q3:=hp.pos _ _ _ _ q2.2 h3;obtain⟨_,k4,h4,h⟩:=x0d h;have q4:=x2d hl hp q3.2 h4;cases h;omega
theorem v4g (i:Nat)(e:Ex)(j:Nat)(hi:i < l.length)(h:y0a l n p i= .ok e j):i < j/\j < l.length:=by
 unfold y0a at h;obtain⟨nm,k,h1,h⟩:=x0d h;have hk:=y3g hl hp hi h1;obtain⟨_,k2,h2,h⟩:=x0d h;have q2:=x2d hl hp hk.2 h2;obtain⟨q,k3,h3,h⟩:=x0d h;cases h;refine x4x (fun x:List BA × List Ex × Nat × Bool=>i < x.2.2.1/\x.2.2.1 < l.length) (fun _ j=>i < j/\j < l.length) (fun x y hx hs=> ?_) (fun x r j hx hs=> ?_) n ([],[],k2,true) q j ⟨by simp only;omega,q2.2⟩ h3
 ·obtain⟨ar,es,i2,ag⟩:=x;obtain⟨hx1,hx2⟩:=hx;simp only at hx1 hx2;cases ag with
  |false=>rw[x4o]at hs;cases hs
  |true=>
   rw[x4o]at hs;split at hs
   ·rename_i a e3 j3 h4;have q4:=z8k hl hp hx2 h4;split at hs
    ·rename_i ht;cases hs;have:=hl.next q4.2 (x1m ht);simp only;omega
    ·cases hs;simp only;omega
   ·cases hs
   ·cases hs
 ·obtain⟨ar,es,i2,ag⟩:=x;cases ag with
  |false=>rw[x4o]at hs;cases hs;exact hx
  |true=>
   rw[x4o]at hs;split at hs
   ·split at hs<;>cases hs
   ·cases hs
   ·cases hs
theorem w0z (i:Nat)(hi:i < l.length)(hM:20*(l.length - i)+10<=n):y0a l n p i≠ .out:=by
 refine x1b (fun e=>x5s e) fun nm k h1=> ?_
 have hk:=y3g hl hp hi h1;refine x1b (fun e=>x1h e) fun _ k2 h2=> ?_
 have q2:=x2d hl hp hk.2 h2;refine x1b ?_ fun _ _ _=>nofun
 refine y3n (fun x:List BA × List Ex × Nat × Bool=>i < x.2.2.1/\x.2.2.1 < l.length) (fun x=>2*(l.length - x.2.2.1)+(match x.2.2.2 with|true=>1|false=>0)) (fun x y hx hs=> ?_) (fun x hx hs=> ?_) n ([],[],k2,true) ⟨by simp only;omega,q2.2⟩ (by simp only;omega)
 ·obtain⟨ar,es,i2,ag⟩:=x;obtain⟨hx1,hx2⟩:=hx;simp only at hx1 hx2;cases ag with
  |false=>rw[x4o]at hs;cases hs
  |true=>
   rw[x4o]at hs;split at hs
   ·rename_i a e3 j3 h4;have q4:=z8k hl hp hx2 h4;split at hs
    ·rename_i ht;cases hs;have:=hl.next q4.2 (x1m ht);simp only;omega
    ·cases hs;simp only;omega
   ·cases hs
   ·cases hs
 ·obtain⟨ar,es,i2,ag⟩:=x;obtain⟨hx1,hx2⟩:=hx;simp only at hx1 hx2;cases ag with
  |false=>rw[x4o]at hs;cases hs
  |true=>
   rw[x4o]at hs;split at hs
   ·split at hs<;>cases hs
   ·cases hs
   ·rename_i h4;refine absurd h4 (x1b (fun e=>z6n e) fun _ k1 h5=>x1b (fun e=>x1h e) fun _ k2 h6=> ?_)
    have a1:=y5f hl hx2 h5;have a2:=y5g h5;have a3:=x2d hl hp a1 h6;exact x1b (hp.ne _ _ a3.2 (by simp only[Mn,lvl];omega)) fun _ _ _=>x1b (fun e=>x1h e) fun _ _ _=>nofun
theorem u0n (nm:BA)(es:List Ex)(i:Nat)(e:Ex)(j:Nat)(hi:i < l.length)(h:y1w l p nm es i= .ok e j):i<=j/\j < l.length:=by
 unfold y1w at h;split at h
 ·rename_i ht;obtain⟨e1,k,h1,h⟩:=x0d h;have hk:=hp.pos _ _ _ _ (hl.next hi (x1m ht)) h1;cases h;omega
 ·cases h;omega
theorem u7j (nm:BA)(es:List Ex)(i:Nat)(hi:i < l.length)(hM:20*(l.length - i)<=n+10):y1w l p nm es i≠ .out:=by
 unfold y1w;split
 ·rename_i ht;have:=hl.next hi (x1m ht);exact x1b (hp.ne _ _ this (by simp only[Mn,lvl];omega)) fun _ _ _=>nofun
 ·exact nofun
theorem w2h (nm:BA)(i:Nat)(e:Ex)(j:Nat)(hi:i < l.length)(h:y3x l n p nm i= .ok e j):i < j/\j < l.length:=by
 unfold y3x at h;split at h
 ·rename_i ht;have:=u0n hl hp nm [] (i+1) e j (hl.next hi (x1m ht)) h;omega
 ·obtain⟨es,k,h1,h⟩:=x0d h;have q:=z5g hl hp _ _ _ _ hi h1;have:=u0n hl hp nm es k e j q.2 h;omega
theorem q2j (nm:BA)(i:Nat)(hi:i < l.length)(hM:20*(l.length - i)+10<=n):y3x l n p nm i≠ .out:=by
 unfold y3x;split
 ·rename_i ht;exact u7j hl hp nm [] (i+1) (hl.next hi (x1m ht)) (by omega)
 ·refine x1b (v4n hl hp _ _ hi hM) fun es k h1=> ?_
  have q:=z5g hl hp _ _ _ _ hi h1;exact u7j hl hp nm es k q.2 (by omega)
theorem v9i (i:Nat)(e:Ex)(j:Nat)(hi:i < l.length)(h:x7w l n p i= .ok e j):i < j/\j < l.length:=by
 unfold x7w at h;split at h
 ·rename_i ht;cases h;exact⟨a1m _,hl.next hi (x1m ht)⟩
 split at h
 ·rename_i ht;cases h;exact⟨a1m _,hl.next hi (x1m ht)⟩
 split at h
 ·rename_i ht;obtain⟨es,k,h1,h⟩:=x0d h;cases h;have:=z5g hl hp _ _ _ _ (hl.next hi (x1m ht)) h1;omega
 split at h
 ·rename_i ht;have:=v2x hl hp _ _ _ (hl.next hi (x1m ht)) h;omega
 split at h
 ·rename_i ht;have:=v4g hl hp _ _ _ (hl.next hi (x1m ht)) h;omega
 split at h
 ·rename_i ht;have:=v0l hl hp _ _ _ (hl.next hi (x1m ht)) h;omega
 obtain⟨nm,k,h1,h⟩:=x0d h;have hk:=y3g hl hp hi h1;split at h
 ·rename_i ht;have:=w2h hl hp _ _ _ _ (hl.next hk.2 (x1m ht)) h;omega
 ·cases h;exact hk
theorem w6k (i:Nat)(hi:i < l.length)(hM:20*(l.length - i)<=n):x7w l n p i≠ .out:=by
 unfold x7w;split
 ·exact nofun
 split
 ·exact nofun
 split
 ·rename_i ht;have:=hl.next hi (x1m ht);exact x1b (v4n hl hp _ _ this (by omega)) fun _ _ _=>nofun
 split
 ·rename_i ht;have:=hl.next hi (x1m ht);exact w0c hl hp _ this (by omega)
 split
 ·rename_i ht;have:=hl.next hi (x1m ht);exact w0z hl hp _ this (by omega)
 split
 ·rename_i ht;have:=hl.next hi (x1m ht);exact v6y hl hp _ this (by omega)
 refine x1b (fun e=>x5s e) fun nm k h1=> ?_
 have hk:=y3g hl hp hi h1;split
 ·rename_i ht;have:=hl.next hk.2 (x1m ht);exact q2j hl hp _ _ this (by omega)
 ·exact nofun
theorem z4k (nt:Nt)(i:Nat)(e:Ex)(j:Nat)(hi:i < l.length)(h:ntS l n p nt i= .ok e j):i < j/\j < l.length:=by
 cases nt with
 |or=>exact y7g hl hp _ _ _ _ _ _ hi h
 |and=>exact y7g hl hp _ _ _ _ _ _ hi h
 |sum=>exact y7g hl hp _ _ _ _ _ _ hi h
 |prod=>exact y7g hl hp _ _ _ _ _ _ hi h
 |post=>exact w0i hl hp _ _ _ hi h
 |arrow=>
  rw[ntS,y1d]at h;obtain⟨e1,k,h1,h⟩:=x0d h;have hk:=hp.pos _ _ _ _ hi h1;split at h
  ·rename_i ht;obtain⟨e2,k2,h2,h⟩:=x0d h;have:=hp.pos _ _ _ _ (hl.next hk.2 (x1m ht)) h2;cases h;omega
  ·cases h;exact hk
 |fby=>
  rw[ntS,v6f]at h;obtain⟨e1,k,h1,h⟩:=x0d h;have hk:=hp.pos _ _ _ _ hi h1;split at h
  ·rename_i ht;obtain⟨e2,k2,h2,h⟩:=x0d h;have:=hp.pos _ _ _ _ (hl.next hk.2 (x1m ht)) h2;cases h;omega
  ·cases h;exact hk
 |cmp=>
  rw[ntS,v6x]at h;obtain⟨e1,k,h1,h⟩:=x0d h;have hk:=hp.pos _ _ _ _ hi h1;split at h
  ·cases h;exact hk
  ·rename_i o ho;obtain⟨e2,k2,h2,h⟩:=x0d h;have:=hp.pos _ _ _ _ (hl.next hk.2 (x4d ho).1) h2;cases h;omega
 |un=>
  rw[ntS,unS]at h;split at h
  ·rename_i ht;obtain⟨e2,k2,h2,h⟩:=x0d h;have:=hp.pos _ _ _ _ (hl.next hi (x1m ht)) h2;cases h;omega
  split at h
  ·rename_i ht;obtain⟨e2,k2,h2,h⟩:=x0d h;have:=hp.pos _ _ _ _ (hl.next hi (x1m ht)) h2;cases h;omega
  split at h
  ·rename_i ht;obtain⟨e2,k2,h2,h⟩:=x0d h;have:=hp.pos _ _ _ _ (hl.next hi (x1m ht)) h2;cases h;omega
  ·exact hp.pos _ _ _ _ hi h
 |atom=>
  rw[ntS,x8h]at h;split at h
  ·rename_i hk;have hk:=a0f hk;cases h;exact⟨a1m _,hl.next hi (by omega)⟩
  split at h
  ·rename_i hk;have hk:=a0f hk;cases h;exact⟨a1m _,hl.next hi (by omega)⟩
  split at h
  ·rename_i hk;have hk:=a0f hk;cases h;exact⟨a1m _,hl.next hi (by omega)⟩
  exact v9i hl hp _ _ _ hi h
theorem w7g (nt:Nt)(i:Nat)(hi:i < l.length)(hM:Mn l nt i<=n+1):ntS l n p nt i≠ .out:=by
 cases nt with
 |or=>exact z5j hl hp .and .or (by decide) (by decide) _ _ _ hi hM
 |and=>exact z5j hl hp .cmp .and (by decide) (by decide) _ _ _ hi hM
 |sum=>exact z5j hl hp .prod .sum (by decide) (by decide) _ _ _ hi hM
 |prod=>exact z5j hl hp .un .prod (by decide) (by decide) _ _ _ hi hM
 |post=>exact w7q hl hp _ hi hM
 |arrow=>
  rw[ntS,y1d];simp only[Mn,lvl]at hM;refine x1b (hp.ne _ _ hi (by simp only[Mn,lvl];omega)) fun e k h1=> ?_
  have hk:=hp.pos _ _ _ _ hi h1;split
  ·rename_i ht;have:=hl.next hk.2 (x1m ht);exact x1b (hp.ne _ _ this (by simp only[Mn,lvl];omega)) fun _ _ _=>nofun
  ·exact nofun
 |fby=>
  rw[ntS,v6f];simp only[Mn,lvl]at hM;refine x1b (hp.ne _ _ hi (by simp only[Mn,lvl];omega)) fun e k h1=> ?_
  have hk:=hp.pos _ _ _ _ hi h1;split
  ·rename_i ht;have:=hl.next hk.2 (x1m ht);exact x1b (hp.ne _ _ this (by simp only[Mn,lvl];omega)) fun _ _ _=>nofun
  ·exact nofun
 |cmp=>
  rw[ntS,v6x];simp only[Mn,lvl]at hM;refine x1b (hp.ne _ _ hi (by simp only[Mn,lvl];omega)) fun e k h1=> ?_
  have hk:=hp.pos _ _ _ _ hi h1;split
  ·exact nofun
  ·rename_i o ho;have:=hl.next hk.2 (x4d ho).1;exact x1b (hp.ne _ _ this (by simp only[Mn,lvl];omega)) fun _ _ _=>nofun
 |un=>
  rw[ntS,unS];simp only[Mn,lvl]at hM;split
  ·rename_i ht;have:=hl.next hi (x1m ht);exact x1b (hp.ne _ _ this (by simp only[Mn,lvl];omega)) fun _ _ _=>nofun
  split
  ·rename_i ht;have:=hl.next hi (x1m ht);exact x1b (hp.ne _ _ this (by simp only[Mn,lvl];omega)) fun _ _ _=>nofun
  split
  ·rename_i ht;have:=hl.next hi (x1m ht);exact x1b (hp.ne _ _ this (by simp only[Mn,lvl];omega)) fun _ _ _=>nofun
  ·exact hp.ne _ _ hi (by simp only[Mn,lvl];omega)
 |atom=>
  rw[ntS,x8h];simp only[Mn,lvl]at hM;split
  ·exact nofun
  split
  ·exact nofun
  split
  ·exact nofun
  exact w6k hl hp _ hi (by omega)
end
theorem y2b {l:List Tk}(hl:LOK l): ∀n,HQ l n (prs l n)
 |0=>⟨fun nt i e j hi h=>(by cases h),fun nt i hi h=>(by cases nt<;>simp only[Mn,lvl]at h<;>omega)⟩
 |n+1=>⟨fun nt i e j hi h=>z4k hl (y2b hl n) nt i e j hi h,fun nt i hi h=>w7g hl (y2b hl n) nt i hi h⟩
theorem w4n {l:List Tk}(hl:LOK l): ∀n,HP l (prs l n)
 |0=>⟨fun nt i hi h=>(h rfl).elim,fun nt i e j hi h=>(by cases h),fun nt i e j hi h=>(by cases h)⟩
 |n+1=>by
  have ih:=w4n hl n;refine⟨fun nt i hi h=> ?_,fun nt i e j hi h=>(z4k hl (y2b hl n) nt i e j hi h).2,fun nt i e j hi h=>(z4k hl (y2b hl n) nt i e j hi h).1⟩
  cases nt with
  |arrow=>exact w3s hl ih i hi h
  |fby=>exact k2p hl ih i hi h
  |or=>exact k7j hl ih i hi h
  |and=>exact k2r hl ih i hi h
  |cmp=>exact k2q hl ih i hi h
  |sum=>exact k2o hl ih i hi h
  |prod=>exact q5e hl ih i hi h
  |un=>exact k7i hl ih i hi h
  |post=>exact q5f hl ih i hi h
  |atom=>exact q5h hl ih i hi h
def fuel (l:List Tk):Nat:=20*l.length+10
def y4l (l:List Tk)(i:Nat):Rs Ex:=prs l (fuel l) .arrow i
theorem z4q {l:List Tk}(hl:LOK l)(i:Nat)(hi:i < l.length):y4l l i≠ .out:=(y2b hl (fuel l)).ne .arrow i hi (by simp only[Mn,lvl,fuel];omega)
theorem w2w {l:List Tk}(hl:LOK l)(i:Nat)(hi:i < l.length):cF 1000228 (kP 285 (x0i l) (i:Int))=some (x6e Ex.row l (y4l l i)):=(w4n hl (fuel l)).c .arrow i hi (z4q hl i hi)
end Go.Vm
end
section
set_option maxRecDepth 1000000
set_option maxHeartbeats 0
namespace Go.Vm
open Go.Proofs
noncomputable section
variable (A : Sy) (E : Env)
def k3q (toks:LL)(at_:Int)(bad:Bool):Option PRes:=zC E 1000019 (rS (bs [110,111,116]) toks at_ bad) fun p1=>yB A p1 0 fun b3=>oR A p1.leaves 1 fun l4 n5 b6=>bif b3 then zC E 1000058 (rP l4 n5 b6) fun p7=>yS A p7 0 fun s9=>oR A p7.leaves 1 fun l10 n11 b12=>vL [.str s9, .str (bs [102,97,108,115,101]), .sl 4 l10,nI n11, .bool b12] else iT (A.inr n5 (A.rlen l4)) <| oT A (A.row l4 n5) 0 fun n13 s14 n15 n16=>bif (A.ieq n13 2)then zC E 1000149 (rP l4 n5 b6) fun p17=>yS A p17 0 fun s19=>oR A p17.leaves 1 fun l20 n21 b22=>zC E 1000059 (rS (bs [40]) l20 n21 b22) fun p23=>oR A p23.leaves 0 fun l25 n26 b27=>zC E 1000058 (rP l25 n26 b27) fun p28=>yS A p28 0 fun s30=>oR A p28.leaves 1 fun l31 n32 b33=>zC E 1000059 (rS (bs [41]) l31 n32 b33) fun p34=>oR A p34.leaves 0 fun l36 n37 b38=>vL [.str s30, .str s19, .sl 4 l36,nI n37, .bool b38] else iT (A.inr n5 (A.rlen l4)) <| oT A (A.row l4 n5) 0 fun n39 s40 n41 n42=>x0u (bif (A.bnot b6)then vB (A.seq s40 (bs [116,114,117,101])) else vB false) fun ds43=>zB A ds43 0 fun b44=>x0u (bif b44 then bif (A.ieq n39 1)then vB true else vB (A.ieq n39 5) else vB false) fun ds45=>zB A ds45 0 fun b46=>bif b46 then zC E 1000149 (rP l4 n5 b6) fun p47=>yS A p47 0 fun s49=>oR A p47.leaves 1 fun l50 n51 b52=>zC E 1000059 (rS (bs [40]) l50 n51 b52) fun p53=>oR A p53.leaves 0 fun l55 n56 b57=>zC E 1000058 (rP l55 n56 b57) fun p58=>yS A p58 0 fun s60=>oR A p58.leaves 1 fun l61 n62 b63=>zC E 1000059 (rS (bs [41]) l61 n62 b63) fun p64=>oR A p64.leaves 0 fun l66 n67 b68=>vL [.str s60, .str s49, .sl 4 l66,nI n67, .bool b68] else iT (A.inr n5 (A.rlen l4)) <| oT A (A.row l4 n5) 0 fun n69 s70 n71 n72=>x0u (bif (A.bnot b6)then vB (A.seq s70 (bs [102,97,108,115,101])) else vB false) fun ds73=>zB A ds73 0 fun b74=>x0u (bif b74 then bif (A.ieq n69 1)then vB true else vB (A.ieq n69 5) else vB false) fun ds75=>zB A ds75 0 fun b76=>bif b76 then zC E 1000149 (rP l4 n5 b6) fun p77=>yS A p77 0 fun s79=>oR A p77.leaves 1 fun l80 n81 b82=>zC E 1000059 (rS (bs [40]) l80 n81 b82) fun p83=>oR A p83.leaves 0 fun l85 n86 b87=>zC E 1000058 (rP l85 n86 b87) fun p88=>yS A p88 0 fun s90=>oR A p88.leaves 1 fun l91 n92 b93=>zC E 1000059 (rS (bs [41]) l91 n92 b93) fun p94=>oR A p94.leaves 0 fun l96 n97 b98=>vL [.str s90, .str s79, .sl 4 l96,nI n97, .bool b98] else zC E 1000058 (rP l4 n5 b6) fun p99=>yS A p99 0 fun s101=>oR A p99.leaves 1 fun l102 n103 b104=>vL [.str s101, .str (bs [116,114,117,101]), .sl 4 l102,nI n103, .bool b104]
def b58 (toks:LL)(at_:Int)(bad:Bool):Option PRes:=iT (A.inr at_ (A.rlen toks)) <| oT A (A.row toks at_) 0 fun n1 s2 n3 n4=>x0u (bif bad then vB true else vB (A.bnot (A.ieq n1 1))) fun ds5=>zB A ds5 0 fun b6=>x0u (bif b6 then vB true else zC E 108 [.d (.str s2)] fun p7=>yB A p7 0 fun b9=>vB b9) fun ds10=>zB A ds10 0 fun b11=>bif b11 then vL [.str (bs []), .sl 4 toks,nI at_, .bool true] else vL [.str s2, .sl 4 toks,nI (zW A (A.add at_ 1)), .bool bad]
def b149 (toks:LL)(at_:Int)(bad:Bool):Option PRes:=zC E 1000019 (rS (bs [116,114,117,101]) toks at_ bad) fun p1=>yB A p1 0 fun b3=>oR A p1.leaves 1 fun l4 n5 b6=>bif b3 then vL [.str (bs [116,114,117,101]), .sl 4 l4,nI n5, .bool b6] else zC E 1000019 (rS (bs [102,97,108,115,101]) l4 n5 b6) fun p7=>yB A p7 0 fun b9=>oR A p7.leaves 1 fun l10 n11 b12=>bif b9 then vL [.str (bs [102,97,108,115,101]), .sl 4 l10,nI n11, .bool b12] else iT (A.inr n11 (A.rlen l10)) <| oT A (A.row l10 n11) 0 fun n13 s14 n15 n16=>x0u (bif b12 then vB true else vB (A.bnot (A.ieq n13 2))) fun ds17=>zB A ds17 0 fun b18=>bif b18 then vL [.str (bs []), .sl 4 l10,nI n11, .bool true] else vL [.str s14, .sl 4 l10,nI (zW A (A.add n11 1)), .bool b12]
def b19 (A:Sy)(E:Env)(toks:LL)(at_:Int)(bad:Bool)(s_:BA):Option PRes:=iT (A.inr at_ (A.rlen toks)) <| oT A (A.row toks at_) 0 fun n1 s2 n3 n4=>x0u (bif (A.bnot bad)then vB (A.seq s2 s_) else vB false) fun ds5=>zB A ds5 0 fun b6=>x0u (bif b6 then bif (A.ieq n1 1)then vB true else vB (A.ieq n1 5) else vB false) fun ds7=>zB A ds7 0 fun b8=>bif b8 then vL [.bool true, .sl 4 toks,nI (zW A (A.add at_ 1)), .bool bad] else vL [.bool false, .sl 4 toks,nI at_, .bool bad]
def b59 (toks:LL)(at_:Int)(bad:Bool)(s_:BA):Option PRes:=zC E 1000019 (rS s_ toks at_ bad) fun p1=>yB A p1 0 fun b3=>oR A p1.leaves 1 fun l4 n5 b6=>bif (A.bnot b3)then vL [.sl 4 l4,nI n5, .bool true] else vL [.sl 4 l4,nI n5, .bool b6]
end
end Go.Vm
end
section
set_option maxRecDepth 100000
set_option maxHeartbeats 4000000
namespace Go.Vm
open Go.Proofs
def y5d (s:BA)(i:Nat):(s.data.getD ((i:Nat):Int).toNat 0).toNat=(tb s).getD i 0:=by rw[y2f,a0n]
def z6j (s:BA):(s.data.getD (Int.toNat 0) 0).toNat=(tb s).getD 0 0:=by rw[y2f];rfl
def q3f (n a b:Int):cF 153 [.d (.int .u8 n), .d (.int .u8 a), .d (.int .u8 b)]=some (.val [.bool (inI a b n)]):=by
 refine cO rfl ?_;rw[q0m];simp only[k9x,go1];rfl
def q2v (s:BA):cF 108 [.d (.str s)]=some (.val [.bool (x4r (tb s))]):=by
 have h65:cF 147 []=some (.own 9 1 (x0b x8k)):=by
  refine cO rfl ?_;rw[q0p];simp only[g147];rfl
 rw[z6r];refine cO rfl ?_;rw[q1j];simp only[g108,go1,h65];refine x0v (fun i:Nat=>[.str s, .sl 1 (x0b x8k), .int .i64 (i:Int)]) (fun i=>i<=x8k.length/\(x8k.take i).any (fun w=>decide (tb s=tb w))=false) (fun i=>x8k.length - i) (fun i hi=> ?_) 0 ⟨a0t _,by simp⟩
 have hwl:x8k.length=24:=rfl
 by_cases hlt:i < x8k.length
 ·have hx:=a0a hlt;simp only[go1,x0c,x0l hlt,x0k hlt,x1j hx,x2f,x0e hlt (by omega)]
  by_cases he:tb x8k[i]=tb s
  ·right
   rw[x2p he,List.any_eq_true.2 ⟨x8k[i],a1i hlt,x2p he.symm⟩];rfl
  ·left
   refine⟨i+1,?_,⟨hlt,?_⟩,by omega⟩
   ·rw[x1p he];rfl
   ·rw[a1d,List.any_append,hi.2,hx];simp;exact fun e=>he e.symm
 ·right
  have:i=x8k.length:=by omega
  subst this;simp only[go1,x0c,x0g];rw[a0r]at hi;rw[hi.2]
def q2o (s:BA)(hs:s.size<=100000):cF 115 [.d (.str s), .d (.int .u8 97), .d (.int .u8 122)]=some (.val [.bool (x6c x1u (tb s))]):=by
 have hl:=x2i s
 by_cases h1:1<=(tb s).length/\(tb s).length<=12
 ·have hc:=q3f (((tb s).getD 0 0:Nat):Int) 97 122;rw[x8v]at hc;refine cO rfl ?_;rw[z5t];simp only[k0m,go1,Int.reduceLE,x1r,z6j,hc];rw[x1p (p:=((tb s).length:Int) < 1) (by omega),x1p (p:=12 < ((tb s).length:Int)) (by omega),x2p (p:=0 < ((tb s).length:Int)) (by omega)]
  cases hs0:x1u ((tb s).getD 0 0)with
  |false=>rw[x9n hs0];rfl
  |true=>
   simp only[go1];refine x0v (fun p:Nat=>[.str s, .int .i64 (p:Int)]) (fun p=>p<=(tb s).length/\((tb s).take p).all x0w=true) (fun p=>(tb s).length - p) (fun p hp=> ?_) 0 ⟨a0t _,by simp⟩
   by_cases hlt:p < (tb s).length
   ·have hi:=y3o ((tb s).getD p 0);simp only[go1,x0l hlt,x0k hlt,y5d,q3f,x8v,x8w,x4y,x0e hlt (by omega)]
    cases hin:x0w ((tb s).getD p 0)with
    |false=>
     right
     rw[x8u hlt hin];rw[hin]at hi;have hi:=hi.symm;simp only[Bool.or_eq_false_iff]at hi;obtain⟨⟨⟨i1,i2⟩,i3⟩,i4⟩:=hi;have i4': ¬(((tb s).getD p 0:Nat):Int)=95:=by
      have:=of_decide_eq_false i4;omega
     rw[x1p i4'];simp only[i1,i2,i3,go1]
     try rfl
    |true=>
     left
     refine⟨p+1,?_,⟨hlt,x4j hlt hp.2 hin⟩,by omega⟩
     rw[hin]at hi;cases i1:x1u ((tb s).getD p 0)<;>cases i2:x1y ((tb s).getD p 0)<;>cases i3:x0x ((tb s).getD p 0)<;>rw[i1,i2,i3]at hi<;>simp only[go1]<;>(try rfl)
     all_goals
      simp only[Bool.or_self,a1e]at hi;have i4:=a0f hi.symm;rw[x2p (p:=(((tb s).getD p 0:Nat):Int)=95) (by omega)]
      rfl
   ·right
    have:p=(tb s).length:=by omega
    subst this;simp only[go1,x0g];rw[a0r]at hp;unfold x6c;rw[hp.2,hs0,x2p h1.1,x2p h1.2];rfl
 ·have hn:x6c x1u (tb s)=false:=by
   unfold x6c
   by_cases h:1<=(tb s).length
   ·rw[x1p (p:=(tb s).length<=12) (by omega)];simp
   ·rw[x1p h];simp
  rw[hn];refine cO rfl ?_;rw[z5t];simp only[k0m,go1,Int.reduceLE,x1r]
  by_cases h:1<=(tb s).length
  ·rw[x2p (p:=12 < ((tb s).length:Int)) (by omega)];simp only[go1];try rfl
  ·rw[x2p (p:=((tb s).length:Int) < 1) (by omega)];simp only[go1];try rfl
def y6d (s:BA)(hs:s.size<=100000):cF 68 [.d (.str s)]=some (.val [.bool (x3r (tb s))]):=by
 have h1:=q2o s hs;have h2:=q2v s;refine cO rfl ?_;rw[q9k];simp only[g68,go1,h1,h2];rfl
def k8c {α:Type}(c:α->List D)(l:List Tk)(a:α)(j:Nat)(b:Bool):PRes:= .val (c a++[.sl 4 (x0i l), .int .i64 (j:Int), .bool b])
def QR {α:Type}(c:α->List D)(l:List Tk):Rs α->PRes->Prop
 | .ok a j,r=>r=k8c c l a j false
 | .bad j,r=>j < l.length/\ ∃a,r=k8c c l a j true
 | .out,_=>False
section
variable (l : List Tk) (hl : LOK l) (i : Nat) (hi : i < l.length)
include hl hi
end
section
variable (l : List Tk) (hl : LOK l) (i : Nat) (hi : i < l.length)
include hl hi
end
def keyR:Nt->FuncId
 | .arrow=>1000150
 | .fby=>1000181
 | .or=>1000211
 | .and=>1000234
 | .cmp=>1000245
 | .sum=>1000254
 | .prod=>1000263
 | .un=>1000272
 | .post=>1000277
 | .atom=>1000280
structure HR (l:List Tk) (p:PR):Prop where
 c: ∀nt i,i < l.length->p nt i≠ .out-> ∃r,cF (keyR nt) (rP (x0i l) (i:Int) false)=some r/\QR Ex.row l (p nt i) r
 lt: ∀nt i e j,i < l.length->p nt i= .ok e j->j < l.length
 gt: ∀nt i e j,i < l.length->p nt i= .ok e j->i < j
section
variable {β : Type} (k n o i : Int) (s : BA) (a u L : LL) (b : Bool) (ds : List D)
end
section
variable {l : List Tk} (hl : LOK l) {n : Nat} {p : PR} (hp : HR l p)
include hl hp
end
section
variable {β : Type} (n i a1 a2 a3 : Int) (s s2 : BA) (L u : LL) (b : Bool) (ds : List D) (x0 x1 x2 x3 x4 x5 x6 x7 x8 x9 y0 y1 y2 y3 : D)
end
section
variable {β : Type} (i : Int) (L : LL) (b : Bool) (ds : List D) (x0 x1 x2 x3 x4 x5 x6 : D)
end
section
variable {l : List Tk} (hl : LOK l) {n : Nat} {p : PR} (hp : HR l p)
include hl hp
end
def TOK (l:List Tk):Prop:= ∀j,(tkA l j).k=5->(tkA l j).s≠x6f/\(tkA l j).s≠x3q
mutual
def Ex.size:Ex->Nat
 | .mk _ _ _ _ _ l=>Ex.j0a l+1
def Ex.j0a:List Ex->Nat
 | []=>0
 |e::l=>e.size+Ex.j0a l
end
mutual
def Ex.okS:Ex->Prop
 | .mk _ _ s _ a l=>s.size<=100000/\((∀x∈a,x.size<=100000)/\a.length<=l.length)/\Ex.j0m l
def Ex.j0m:List Ex->Prop
 | []=>True
 |e::l=>e.okS/\Ex.j0m l
end
theorem x4u: ∀a b:List Ex,Ex.j0a (a++b)=Ex.j0a a+Ex.j0a b
 | [],b=>by simp[Ex.j0a]
 |e::a,b=>by simp[Ex.j0a,x4u a b];omega
theorem y7c: ∀a b:List Ex,Ex.j0m (a++b)↔Ex.j0m a/\Ex.j0m b
 | [],b=>by simp[Ex.j0m]
 |e::a,b=>by simp[Ex.j0m,y7c a b,and_assoc]
theorem x3j:(bs []).size<=100000:=by decide
def TS (l:List Tk):Prop:= ∀j,(tkA l j).s.size<=100000
def HS (p:PR):Prop:= ∀nt i e j,p nt i= .ok e j->i+e.size<=j/\e.okS
section
variable {l : List Tk} (ht : TS l) {n : Nat} {p : PR} (hp : HS p)
include ht hp
theorem y3f {i j:Nat}{a:BA}(h:x4l l i= .ok a j):a.size<=100000:=by
 unfold x4l at h;split at h<;>cases h;exact ht _
theorem v8r {i j:Nat}{a:BA}(h:z1j l i= .ok a j):a.size<=100000:=by
 unfold z1j at h;split at h<;>cases h;exact ht _
theorem u4m {i j:Nat}{w:BA × BA}(h:x6j l i= .ok w j):i+1<=j/\w.1.size<=100000/\w.2.size<=100000:=by
 have b1:x6f.size<=100000:=by decide
 have b2:x3q.size<=100000:=by decide
 unfold x6j at h;split at h
 ·obtain⟨a,k,h1,h⟩:=x0d h;have:=x5t h1;have:=y3f ht hp h1;cases h;exact⟨by omega,by assumption,b2⟩
 ·split at h
  ·obtain⟨a,k,h1,h⟩:=x0d h;have:=x5t h1;have:=y3f ht hp h1;cases h;exact⟨by omega,by assumption,b1⟩
  ·obtain⟨a,k,h1,h⟩:=x0d h;obtain⟨_,k2,h2,h⟩:=x0d h;obtain⟨_,k3,h3,h⟩:=x0d h;obtain⟨_,k4,h4,h⟩:=x0d h;have:=y5g h1;have:=x2h h2;have:=x5t h3;have:=x2h h4;have q1:=v8r ht hp h1;have q2:=y3f ht hp h3;cases h;exact⟨by omega,q2,q1⟩
theorem z5i (side:Nt)(a m i:Nat)(e:Ex)(j:Nat)(h:x5v l n p side a m i= .ok e j):i+e.size<=j/\e.okS:=by
 unfold x5v at h;obtain⟨e1,k,h1,h⟩:=x0d h;refine x4x (fun x:Ex × Nat=>i+x.1.size<=x.2/\x.1.okS) (fun r j=>i+r.size<=j/\r.okS) (fun x y hx hs=> ?_) (fun x r j hx hs=> ?_) n (e1,k) e j (hp _ _ _ _ h1) h
 ·obtain⟨e2,i2⟩:=x;rw[x7d]at hs;split at hs
  ·cases hs
  ·split at hs<;>cases hs
   have:=hp _ _ _ _ ‹_›
   (simp only[x9u,Ex.size,Ex.j0a,Ex.okS,Ex.j0m]at*;refine⟨by omega,?_⟩;simp_all [x3j])
 ·obtain⟨e2,i2⟩:=x;rw[x7d]at hs;split at hs
  ·cases hs;exact hx
  ·split at hs<;>cases hs
theorem v4l (en:BA)(i:Nat)(e:List Ex)(j:Nat)(h:y4t l n p en i= .ok e j):i+Ex.j0a e<=j/\Ex.j0m e:=by
 unfold y4t at h;obtain⟨e1,k,h1,h⟩:=x0d h;have h0:=hp _ _ _ _ h1;refine x4x (fun x:List Ex × Nat=>i+Ex.j0a x.1<=x.2/\Ex.j0m x.1) (fun r j=>i+Ex.j0a r<=j/\Ex.j0m r) (fun x y hx hs=> ?_) (fun x r j hx hs=> ?_) n ([e1],k) e j (by(simp only[x9u,Ex.j0a,Ex.j0m]at*;refine⟨by omega,?_⟩;simp_all [])) h
 ·obtain⟨e2,i2⟩:=x;rw[y0x]at hs;split at hs
  ·split at hs<;>cases hs
   have:=hp _ _ _ _ ‹_›
   (simp only[x9u,Ex.j0a,Ex.j0m,x4u,y7c]at*;refine⟨by omega,?_⟩;simp_all [])
  ·cases hs
 ·obtain⟨e2,i2⟩:=x;rw[y0x]at hs;split at hs
  ·split at hs<;>cases hs
  ·obtain⟨_,k2,h2,h⟩:=x0d (Sum.inr.inj hs);have:=x2h h2;cases h
   (simp only[]at*;refine⟨by omega,?_⟩;simp_all [])
theorem w7p (i:Nat)(e:Ex)(j:Nat)(h:y1t l n p i= .ok e j):i+e.size<=j/\e.okS:=by
 unfold y1t at h;obtain⟨e1,k,h1,h⟩:=x0d h;refine x4x (fun x:Ex × Nat=>i+x.1.size<=x.2/\x.1.okS) (fun r j=>i+r.size<=j/\r.okS) (fun x y hx hs=> ?_) (fun x r j hx hs=> ?_) n (e1,k) e j (hp _ _ _ _ h1) h
 ·obtain⟨e2,i2⟩:=x;rw[y0e]at hs;split at hs
  ·split at hs<;>cases hs
   obtain⟨_,k2,h2,h⟩:=x0d ‹_›;obtain⟨_,k3,h3,h⟩:=x0d h;have:=hp _ _ _ _ h2;have:=x2h h3;cases h
   (simp only[x9u,ex,Ex.size,Ex.j0a,Ex.okS,Ex.j0m]at*;refine⟨by omega,?_⟩;simp_all [x3j])
  ·split at hs
   ·split at hs<;>cases hs
    have:=u4m ht hp ‹_›
    (simp only[x9u,Ex.size,Ex.j0a,Ex.okS,Ex.j0m]at*;refine⟨by omega,?_⟩;simp_all [])
   ·cases hs
 ·obtain⟨e2,i2⟩:=x;rw[y0e]at hs;split at hs
  ·split at hs<;>cases hs
  ·split at hs
   ·split at hs<;>cases hs
   ·cases hs;exact hx
theorem u7i (nm:BA)(es:List Ex)(i:Nat)(e:Ex)(j:Nat)(hn:nm.size<=100000)(he:Ex.j0m es)(h:y1w l p nm es i= .ok e j):i+e.size<=j+Ex.j0a es+1/\e.okS:=by
 unfold y1w at h;split at h
 ·obtain⟨_,k2,h2,h⟩:=x0d h;have:=hp _ _ _ _ h2;cases h
  (simp only[x9u,Ex.size,Ex.j0a,Ex.okS,Ex.j0m,x4u,y7c]at*;refine⟨by omega,?_⟩;simp_all [])
 ·cases h
  (simp only[x9u,Ex.size,Ex.okS]at*;refine⟨by omega,?_⟩;simp_all [])
theorem w6j (i:Nat)(e:Ex)(j:Nat)(h:x7w l n p i= .ok e j):i+e.size<=j/\e.okS:=by
 unfold x7w at h;split at h
 ·cases h;(simp only[x9u,Ex.size,Ex.j0a,Ex.okS,Ex.j0m]at*;refine⟨by omega,?_⟩;simp_all [x3j])
 split at h
 ·cases h;(simp only[x9u,ex,Ex.size,Ex.j0a,Ex.okS,Ex.j0m]at*;refine⟨by omega,?_⟩;simp_all [x3j])
 split at h
 ·obtain⟨_,k2,h2,h⟩:=x0d h;have:=v4l ht hp _ _ _ _ h2;cases h
  (simp only[x9u,ex,Ex.size,Ex.okS]at*;refine⟨by omega,?_⟩;simp_all [x3j])
 split at h
 ·unfold x8m at h;obtain⟨_,k1,h1,h⟩:=x0d h;have:=hp _ _ _ _ h1;split at h
  ·obtain⟨_,k2,h2,h⟩:=x0d h;obtain⟨_,k3,h3,h⟩:=x0d h;obtain⟨_,k4,h4,h⟩:=x0d h;obtain⟨_,k5,h5,h⟩:=x0d h;obtain⟨_,k6,h6,h⟩:=x0d h;have:=x2h h2;have:=hp _ _ _ _ h3;have:=x2h h4;have:=hp _ _ _ _ h5;have:=x2h h6;cases h
   (simp only[x9u,ex,Ex.size,Ex.j0a,Ex.okS,Ex.j0m]at*;refine⟨by omega,?_⟩;simp_all [x3j])
  ·obtain⟨_,k2,h2,h⟩:=x0d h;have:=x2h h2;cases h
   (simp only[x9u,ex]at*;refine⟨by omega,?_⟩;simp_all [])
 split at h
 ·unfold y0a at h;obtain⟨nm,k1,h1,h⟩:=x0d h;obtain⟨_,k2,h2,h⟩:=x0d h;obtain⟨q,k3,h3,h⟩:=x0d h;have q1:=y3f ht hp h1;have:=x5t h1;have:=x2h h2;have key:=x4x (fun x:List BA × List Ex × Nat × Bool=>k2+Ex.j0a x.2.1<=x.2.2.1/\Ex.j0m x.2.1/\(∀y∈x.1,y.size<=100000)/\x.1.length=x.2.1.length) (fun r j=>k2+Ex.j0a r.2<=j/\Ex.j0m r.2/\(∀y∈r.1,y.size<=100000)/\r.1.length=r.2.length) (fun x y hx hs=> ?_) (fun x r j hx hs=> ?_) n ([],[],k2,true) q k3 (by simp[Ex.j0a,Ex.j0m]) h3
  ·cases h;obtain⟨w1,w2,w3,w4⟩:=key;refine⟨?_,q1,⟨w3,Nat.le_of_eq w4⟩,w2⟩;simp only[Ex.size];omega
  ·obtain⟨ar,es,i2,b⟩:=x;obtain⟨w1,w2,w3,w4⟩:=hx;cases b with
   |false=>cases hs
   |true=>
    rw[x4o]at hs;split at hs
    ·obtain⟨a,g1,r1,r⟩:=x0d ‹_›;obtain⟨_,g2,r2,r⟩:=x0d r;obtain⟨e2,g3,r3,r⟩:=x0d r;obtain⟨_,g4,r4,r⟩:=x0d r;have:=y5g r1;have:=x2h r2;have z:=hp _ _ _ _ r3;have:=x2h r4;have q2:=v8r ht hp r1;cases r;split at hs<;>cases hs<;>
     (refine⟨?_,(y7c _ _).2 ⟨w2,z.2,trivial⟩,fun y hy=> ?_,by simp only[a0j,a0b,a0e]at w4 ⊢;omega⟩
      ·simp only[x4u,Ex.j0a]at w1 ⊢;omega
      ·rcases a1k.1 hy with hy|hy
       ·exact w3 y hy
       ·rw[a1h.1 hy];exact q2)
    ·cases hs
    ·cases hs
  ·obtain⟨ar,es,i2,b⟩:=x;cases b with
   |false=>cases hs;exact hx
   |true=>
    rw[x4o]at hs;split at hs
    ·split at hs<;>cases hs
    ·cases hs
    ·cases hs
 split at h
 ·unfold x7g at h;obtain⟨_,k1,h1,h⟩:=x0d h;obtain⟨_,k2,h2,h⟩:=x0d h;obtain⟨_,k3,h3,h⟩:=x0d h;obtain⟨_,k4,h4,h⟩:=x0d h;obtain⟨_,k5,h5,h⟩:=x0d h;have:=hp _ _ _ _ h1;have:=x2h h2;have:=hp _ _ _ _ h3;have:=x2h h4;have:=hp _ _ _ _ h5;cases h
  (simp only[x9u,ex,Ex.size,Ex.j0a,Ex.okS,Ex.j0m]at*;refine⟨by omega,?_⟩;simp_all [x3j])
 ·obtain⟨nm,k1,h1,h⟩:=x0d h;have q1:=y3f ht hp h1;have:=x5t h1;split at h
  ·unfold y3x at h;split at h
   ·have:=u7i ht hp _ [] _ _ _ q1 trivial h
    (simp only[x9u,Ex.j0a]at*;refine⟨by omega,?_⟩;simp_all [])
   ·obtain⟨es,k2,h2,h⟩:=x0d h;have q2:=v4l ht hp _ _ _ _ h2;have:=u7i ht hp _ _ _ _ _ q1 q2.2 h;exact⟨by omega,this.2⟩
  ·cases h
   (simp only[x9u,Ex.size,Ex.j0a,Ex.okS,Ex.j0m]at*;refine⟨by omega,?_⟩;simp_all [])
theorem w7f (nt:Nt)(i:Nat)(e:Ex)(j:Nat)(h:ntS l n p nt i= .ok e j):i+e.size<=j/\e.okS:=by
 cases nt with
 |or=>exact z5i ht hp _ _ _ _ _ _ h
 |and=>exact z5i ht hp _ _ _ _ _ _ h
 |sum=>exact z5i ht hp _ _ _ _ _ _ h
 |prod=>exact z5i ht hp _ _ _ _ _ _ h
 |post=>exact w7p ht hp _ _ _ h
 |arrow=>
  obtain⟨_,k1,h1,h⟩:=x0d (show y1d l p i= .ok e j from h);have:=hp _ _ _ _ h1;split at h
  ·obtain⟨_,k2,h2,h⟩:=x0d h;have:=hp _ _ _ _ h2;cases h
   (simp only[x9u,ex,Ex.size,Ex.j0a,Ex.okS,Ex.j0m]at*;refine⟨by omega,?_⟩;simp_all [x3j])
  ·cases h;exact this
 |fby=>
  obtain⟨_,k1,h1,h⟩:=x0d (show v6f l p i= .ok e j from h);have:=hp _ _ _ _ h1;split at h
  ·obtain⟨_,k2,h2,h⟩:=x0d h;have:=hp _ _ _ _ h2;cases h
   (simp only[x9u,ex,Ex.size,Ex.j0a,Ex.okS,Ex.j0m]at*;refine⟨by omega,?_⟩;simp_all [x3j])
  ·cases h;exact this
 |cmp=>
  obtain⟨_,k1,h1,h⟩:=x0d (show v6x l p i= .ok e j from h);have:=hp _ _ _ _ h1;split at h
  ·cases h;exact this
  ·obtain⟨_,k2,h2,h⟩:=x0d h;have:=hp _ _ _ _ h2;cases h
   (simp only[x9u,Ex.size,Ex.j0a,Ex.okS,Ex.j0m]at*;refine⟨by omega,?_⟩;simp_all [x3j])
 |un=>
  have h:unS l p i= .ok e j:=h;unfold unS at h;split at h
  ·obtain⟨_,k2,h2,h⟩:=x0d h;have:=hp _ _ _ _ h2;cases h
   (simp only[x9u,Ex.size,Ex.j0a,Ex.okS,Ex.j0m]at*;refine⟨by omega,?_⟩;simp_all [x3j])
  split at h
  ·obtain⟨_,k2,h2,h⟩:=x0d h;have:=hp _ _ _ _ h2;cases h
   (simp only[x9u,Ex.size,Ex.j0a,Ex.okS,Ex.j0m]at*;refine⟨by omega,?_⟩;simp_all [x3j])
  split at h
  ·obtain⟨_,k2,h2,h⟩:=x0d h;have:=hp _ _ _ _ h2;cases h
   (simp only[x9u,ex,Ex.size,Ex.j0a,Ex.okS,Ex.j0m]at*;refine⟨by omega,?_⟩;simp_all [x3j])
  ·exact hp _ _ _ _ h
 |atom=>
  have h:x8h l n p i= .ok e j:=h;have:=ht i;unfold x8h at h;split at h
  ·cases h;(simp only[x9u,Ex.size,Ex.j0a,Ex.okS,Ex.j0m]at*;refine⟨by omega,?_⟩;simp_all [x3j])
  split at h
  ·cases h;(simp only[x9u,Ex.size,Ex.j0a,Ex.okS,Ex.j0m]at*;refine⟨by omega,?_⟩;simp_all [])
  split at h
  ·cases h;(simp only[x9u,Ex.size,Ex.j0a,Ex.okS,Ex.j0m]at*;refine⟨by omega,?_⟩;simp_all [])
  ·exact w6j ht hp _ _ _ h
end
theorem v3n {l:List Tk}(ht:TS l): ∀n,HS (prs l n)
 |0=>fun nt i e j h=>by cases h
 |n+1=>fun nt i e j h=>w7f ht (v3n ht n) nt i e j h
theorem z4p {l:List Tk}(ht:TS l){i j:Nat}{e:Ex}(h:y4l l i= .ok e j):i+e.size<=j/\e.okS:=v3n ht _ _ _ _ _ h
mutual
def Ex.depth:Ex->Nat
 | .mk _ _ _ _ _ l=>Ex.j0j l+1
def Ex.j0j:List Ex->Nat
 | []=>0
 |e::l=>max e.depth (Ex.j0j l)
end
def y2n (e:Ex): ∀l:List Ex,Ex.j0j (l++[e])=max (Ex.j0j l) e.depth
 | []=>by simp[Ex.j0j]
 |x::l=>by simp only[a0d,Ex.j0j,y2n e l];omega
def x3u {e:Ex}: ∀ {l:List Ex} {i:Nat},l[i]? =some e->e.size<=Ex.j0a l
 |x::l,0,h=>by simp at h;subst h;simp only[Ex.j0a];omega
 |x::l,i+1,h=>by have:=x3u (l:=l) (i:=i) (by simpa using h);simp only[Ex.j0a];omega
def x2j: ∀l:List Ex,l.length<=Ex.j0a l
 | []=>a0q _
 | .mk k n s o a u::l=>by have:=x2j l;simp only[Ex.j0a,Ex.size,a0b];omega
def v9h: ∀ {l:List Ex} {i:Nat} {e:Ex},l[i]? =some e->sy.row (Ex.rows l) (i:Int)=e.row:=by
 intro l i e h;show(Ex.rows l).getD (i:Int).toNat []=_;rw[a0n]
 induction l generalizing i with
 |nil=>cases h
 |cons x l ih=>
  cases i with
  |zero=>simp at h;subst h;rfl
  |succ i=>exact ih (by simpa using h)
mutual
def w1z: ∀e:Ex,e.depth<=e.size
 | .mk _ _ _ _ _ l=>by have:=y3v l;simp only[Ex.depth,Ex.size];omega
def y3v: ∀l:List Ex,Ex.j0j l<=Ex.j0a l
 | []=>a0q _
 |e::l=>by have:=w1z e;have:=y3v l;simp only[Ex.j0j,Ex.j0a];omega
end
def u6l (a b:Nat):max (a:Int) (b:Int)=((max a b:Nat):Int):=by omega
def z6h: ∀(m:Nat) (k n:Int) (s:BA) (o:Int) (a:List BA) (u:List Ex),(Ex.mk k n s o a u).size<=m->m<=1000000->cF 176 [kE k n s o (x0b a) (Ex.rows u)]=some (.val [.int .i64 ((Ex.mk k n s o a u).depth:Int)])
 |0,k,n,s,o,a,u,h,_=>by simp only[Ex.size]at h;omega
 |m+1,k,n,s,o,a,u,h,hm=>by
  have hz:Ex.j0a u<=m:=by simp only[Ex.size]at h;omega
  have hl:=x2j u;refine cO rfl ?_;rw[w9z];simp only[k9q,go1,x0h];refine x0v (fun i:Nat=>[.int .i64 (Ex.j0j (u.take i):Int), .sl 6 (Ex.rows u), .int .i64 (u.length:Int), .int .i64 (i:Int)]) (fun i=>i<=u.length) (fun i=>u.length - i) (fun i hi=> ?_) 0 (a0t _)
  by_cases hlt:i < u.length
  ·left
   refine⟨i+1,?_,hlt,by omega⟩
   have hx:=a0a hlt;have hd:Ex.j0j (u.take (i+1))=max (Ex.j0j (u.take i)) u[i].depth:=by rw[a1d,hx];exact y2n _ _
   rw[hd];generalize u[i]=e at hx;have he:=x3u hx;have hr:=v9h hx;obtain⟨k2,n2,s2,o2,a2,u2⟩:=e;have h2:=z6h m k2 n2 s2 o2 a2 u2 (by omega) (by omega)
   simp only[go1,x0h,x0l hlt,x0k hlt,hr,Ex.row,oE,h2,x0e hlt (by omega),u6l]
   rfl
  ·right
   have:i=u.length:=by omega
   subst this;have:=y3v u;simp only[go1,x0g,a0r,Ex.depth];rw[x0e (n:=Ex.j0j u+1) (by omega) (by omega)]
   rfl
def u7q: ∀(m:Nat) (k n:Int) (s:BA) (o:Int) (a:List BA) (u:List Ex),(Ex.mk k n s o a u).size<=m->m<=1000000->cF 151 [kE k n s o (x0b a) (Ex.rows u)]=some (.val [.int .i64 ((Ex.mk k n s o a u).depth:Int)])
 |0,k,n,s,o,a,u,h,_=>by simp only[Ex.size]at h;omega
 |m+1,k,n,s,o,a,u,h,hm=>by
  have hz:Ex.j0a u<=m:=by simp only[Ex.size]at h;omega
  have hl:=x2j u;refine cO rfl ?_;rw[q0o];simp only[k9z,go1];refine x0v (fun i:Nat=>[.int .i64 (Ex.j0j (u.take i):Int), .int .i64 (i:Int), .int .i64 k, .int .i64 n, .str s, .int .i64 o, .sl 1 (x0b a), .sl 6 (Ex.rows u)]) (fun i=>i<=u.length) (fun i=>u.length - i) (fun i hi=> ?_) 0 (a0t _)
  by_cases hlt:i < u.length
  ·left
   refine⟨i+1,?_,hlt,by omega⟩
   have hx:=a0a hlt;have hd:Ex.j0j (u.take (i+1))=max (Ex.j0j (u.take i)) u[i].depth:=by rw[a1d,hx];exact y2n _ _
   rw[hd];generalize u[i]=e at hx;have he:=x3u hx;have hr:=v9h hx;obtain⟨k2,n2,s2,o2,a2,u2⟩:=e;have h2:=u7q m k2 n2 s2 o2 a2 u2 (by omega) (by omega)
   simp only[go1,Nat.reduceAdd,x0h,x0l hlt,x0k hlt,hr,Ex.row,oE,h2,x0e hlt (by omega),u6l]
   rfl
  ·right
   have:i=u.length:=by omega
   subst this;have:=y3v u;simp only[go1,Nat.reduceAdd,oE,x0h,x0g,a0r,Ex.depth];rw[x0e (n:=Ex.j0j u+1) (by omega) (by omega)]
   rfl
def x4n (e:Ex)(l:List Ex):Ex.j0a (l++[e])=Ex.j0a l+e.size:=by rw[x4u];simp[Ex.j0a]
def v7r: ∀(m:Nat) (k n:Int) (s:BA) (o:Int) (a:List BA) (u:List Ex),(Ex.mk k n s o a u).size<=m->m<=1000000->cF 152 [kE k n s o (x0b a) (Ex.rows u)]=some (.val [.int .i64 ((Ex.mk k n s o a u).size:Int)])
 |0,k,n,s,o,a,u,h,_=>by simp only[Ex.size]at h;omega
 |m+1,k,n,s,o,a,u,h,hm=>by
  have hz:Ex.j0a u<=m:=by simp only[Ex.size]at h;omega
  have hl:=x2j u;refine cO rfl ?_;rw[q0n];simp only[k9y,go1];refine x0v (fun i:Nat=>[.int .i64 ((Ex.j0a (u.take i)+1:Nat):Int), .int .i64 (i:Int), .int .i64 k, .int .i64 n, .str s, .int .i64 o, .sl 1 (x0b a), .sl 6 (Ex.rows u)]) (fun i=>i<=u.length/\Ex.j0a (u.take i)<=m) (fun i=>u.length - i) (fun i hi=> ?_) 0 ⟨a0t _,a0t _⟩
  by_cases hlt:i < u.length
  ·left
   have hx:=a0a hlt;have hd:Ex.j0a (u.take (i+1))=Ex.j0a (u.take i)+u[i].size:=by rw[a1d,hx];exact x4n _ _
   have hle:Ex.j0a (u.take (i+1))<=m:=by
    have:=x4u (u.take (i+1)) (u.drop (i+1));rw[a1w]at this;omega
   refine⟨i+1,?_,⟨hlt,hle⟩,by omega⟩
   rw[hd]at hle ⊢;generalize u[i]=e at hx hle ⊢;have he:=x3u hx;have hr:=v9h hx;obtain⟨k2,n2,s2,o2,a2,u2⟩:=e;have h2:=v7r m k2 n2 s2 o2 a2 u2 (by omega) (by omega)
   simp only[go1,Nat.reduceAdd,x0h,x0l hlt,x0k hlt,hr,Ex.row,oE,h2,x0e hlt (by omega)]
   rw[x0p (by omega) (by omega)]
   congr 5;omega
  ·right
   have:i=u.length:=by omega
   subst this;simp only[go1,Nat.reduceAdd,oE,x0h,x0g,a0r,Ex.size]
def x9a (s:BA):Bool:=x3h (tb s) || (decide (tb s=tb x6f) || decide (tb s=tb x3q))
def z5f:Ex->Bool
 | .mk k _ _ o _ u=>bif decide (k=5)then decide (o=1)&&(match u with
   | [.mk k2 _ _ _ _ _]=>decide (k2=1)
   |_=>false)else decide (k=1) || (decide (k=2) || decide (k=4))
def z0u:Ex->Bool
 | .mk k n s o a u=>bif decide (k=14)then u.all z5f else z5f (.mk k n s o a u)
def u2g (k o:Int):Bool:=bif decide (k=5)then decide (1<=o)&&decide (o<=2)else bif decide (k=6)then decide (3<=o)&&decide (o<=16)else decide (o=0)
def u2k (k n:Int):Bool:=bif decide (k=1)then decide (0<=n)else bif decide (k=2) || decide (k=13)then decide (n=0) || decide (n=1)else decide (n=0)
def y9d (k:Int)(s:BA):Bool:=bif decide (k=3) || (decide (k=11) || (decide (k=12) || decide (k=13)))then x3r (tb s)else bif decide (k=4)then x3h (tb s)else bif decide (k=17)then y8u (tb s)else decide (tb s= [])
def y1e (k:Int)(a:List BA):Bool:=a.all x9a&&(bif decide (k=11)then decide (a.length=1)else bif decide (k=12)then decide (1<=a.length)&&(decide (a.length<=6)&&decide a.Nodup)else decide (a.length=0))
def loB (k n:Int)(la:Nat):Int:=if k=5\/k=10\/k=11\/k=14 then 1 else if k=6\/k=8\/k=9\/k=15 then 2 else if k=7\/k=16 then 3 else if k=12 then la else if k=13 then n else 0
def hiB (k n:Int)(la:Nat):Int:=if k=14 then 8 else if k=13 then(if n=0 then 6 else 7)else loB k n la
def k1d (k:Int)(u:List Ex):Bool:=bif decide (k=8)then(match u with
 |e::_=>z0u e
 | []=>false)else true
def y9g (k:Int):Bool:=decide (1<=k)&&decide (k<=17)
def y0f:Ex->Bool
 | .mk k n s o a u=>y9g k&&(u2k k n&&(y9d k s&&(u2g k o&&(y1e k a&&(decide (loB k n a.length<=(u.length:Int))&&(decide ((u.length:Int)<=hiB k n a.length)&&k1d k u))))))
mutual
def y1y:Ex->Bool
 | .mk k n s o a u=>y0f (.mk k n s o a u)&&y4a u
def y4a:List Ex->Bool
 | []=>true
 |e::l=>y1y e&&y4a l
end
def w1d (k:Int)(h:y9g k=true):k=1\/k=2\/k=3\/k=4\/k=5\/k=6\/k=7\/k=8\/k=9\/k=10\/k=11\/k=12\/k=13\/k=14\/k=15\/k=16\/k=17:=by
 unfold y9g at h;simp at h;omega
def w1e {k:Int}(h:y9g k=false):k≠1/\k≠2/\k≠3/\k≠4/\k≠5/\k≠6/\k≠7/\k≠8/\k≠9/\k≠10/\k≠11/\k≠12/\k≠13/\k≠14/\k≠15/\k≠16/\k≠17:=by
 unfold y9g at h;simp at h;omega
def or12 (o:Int):(decide (o=1) || decide (o=2))=(decide (1<=o)&&decide (o<=2)):=by
 rw[a1g];simp;omega
def z3z (k n:Int)(s:BA)(o:Int)(a u:LL)(m:Int):cF 230 [kE k n s o a u, .d (.int .i64 m)]=some (.val [.bool (decide (n=0)), .bool (decide (tb s= [])), .bool (decide (o=0)), .int .i64 m, .int .i64 m, .int .i64 0]):=by
 refine cO rfl ?_;rw[w9e];simp only[k8v,go1,x2f];rfl
def q3i (k n:Int)(s:BA)(o:Int)(a u:LL)(hk:k=1\/k=2\/k=3\/k=4\/k=17)(hs:s.size<=100000):cF 229 [kE k n s o a u]=some (.val [.bool (u2k k n), .bool (y9d k s), .bool (u2g k o), .int .i64 0, .int .i64 0, .int .i64 0]):=by
 have h1:=z3z k n s o a u 0;have h2:=z6i s;have h3:=u0u s;have h4:=w5w s hs;refine cO rfl ?_;rw[w9f];simp only[k8w,go1,h1,h2,h3,h4,oQ];rcases hk with rfl|rfl|rfl|rfl|rfl<;>simp only[go1,Int.reduceEq,u2k,y9d,u2g,Int.reduceEq]
def k6q (k n:Int)(s:BA)(o:Int)(a:List BA)(u:LL)(hs:s.size<=100000):cF 207 [kE k n s o (x0b a) u]=some (match y9g k with
  |true=> .val [.bool (u2k k n), .bool (y9d k s), .bool (u2g k o), .int .i64 (loB k n a.length), .int .i64 (hiB k n a.length), .int .i64 (if k=11 then 1 else if k=12 then 6 else 0), .bool true]
  |false=> .val [.bool false, .bool false, .bool false, .int .i64 0, .int .i64 0, .int .i64 0, .bool false]):=by
 have h1:=z3z k n s o (x0b a) u;have h2:=z6i s;have h5:=x0c a;cases hk:y9g k with
 |true=>
  rcases w1d k hk with h|h|h|h|h|h|h|h|h|h|h|h|h|h|h|h|h
  all_goals (first|(have h3:=q3i k n s o (x0b a) u (by omega) hs;subst h)|(subst h;have h3:=True.intro))
  all_goals
   refine cO rfl ?_;rw[v5u];simp only[↓k5o, ↓h1, ↓h2, ↓h3, ↓h5,oQ,loB,hiB,go1,Int.reduceEq,u2k,y9d,u2g,Int.reduceEq,or_self,or_true,true_or,if_true,if_false]
  ·rw[or12]
  ·by_cases hn:n=0
   ·subst hn;rfl
   ·simp only[x1p hn,cond_false,a1e,if_neg hn]
 |false=>
  obtain⟨q1,q2,q3,q4,q5,q6,q7,q8,q9,q10,q11,q12,q13,q14,q15,q16,q17⟩:=w1e hk;refine cO rfl ?_;rw[v5u];simp only[k5o,go1];simp only[x1p q1,x1p q2,x1p q3,x1p q4,x1p q5,x1p q6,x1p q7,x1p q8,x1p q9,x1p q10,x1p q11,x1p q12,x1p q13,x1p q14,x1p q15,x1p q16,x1p q17,go1]
def k1r (s:BA):cF 209 [.d (.str s)]=some (.val [.bool (x9a s)]):=by
 have h:=u0u s;refine cO rfl ?_;rw[w9l];simp only[k9c,go1,h,x2f];unfold x9a;cases x3h (tb s)<;>cases h1:decide (tb s=tb x6f)<;>cases h2:decide (tb s=tb x3q)<;>(unfold x6f at h1;unfold x3q at h2;simp only[go1,h1,h2];try rfl)
def u7r (s:BA):cF 208 [.d (.str s)]=some (.val [.bool (!x9a s)]):=by
 have h:=k1r s;refine cO rfl ?_;rw[w9m];simp only[k9d,go1,h]
def v7f (a:List BA)(ha:a.length<=1000000):cF 144 [.d (.sl 1 (x0b a)), .fn 208 []]=some (.val [.bool (!a.all x9a)]):=by
 rw[List.not_all_eq_any_not];cases hall:a.any fun s=> !x9a s with
 |false=>
  refine cO rfl ?_;rw[z0f];simp only[z5s,go1,Int.reduceLE,x0c];refine x0v (fun i:Nat=>[.sl 1 (x0b a), .int .i64 (a.length:Int), .int .i64 (i:Int)]) (fun i=>i<=a.length) (fun i=>a.length - i) (fun i hi=> ?_) 0 (a0t _)
  by_cases hlt:i < a.length
  ·left
   refine⟨i+1,?_,hlt,by omega⟩
   have hx:=a0a hlt;have h:=u7r a[i];have h0:(!x9a a[i])=false:=by
    have:=(List.any_eq_false.1 hall) a[i] (a1i hlt)
    simpa using this
   simp only[go1,x0c,x0l hlt,x0k hlt,x1j hx,h,h0,x0e hlt (by omega)]
   rfl
  ·right
   have:i=a.length:=by omega
   subst this;simp only[go1,x0g]
 |true=>
  have hj:=List.findIdx_lt_length_of_exists (List.any_eq_true.1 hall);have hpj:=List.findIdx_getElem (w:=hj);generalize hJ:(a.findIdx fun s=> !x9a s)=j at hj hpj
  refine cO rfl ?_;rw[z0f];simp only[z5s,go1,Int.reduceLE,x0c];refine x0v (fun i:Nat=>[.sl 1 (x0b a), .int .i64 (a.length:Int), .int .i64 (i:Int)]) (fun i=>i<=j) (fun i=>a.length - i) (fun i hi=> ?_) 0 (a0t _)
  have hlt:i < a.length:=by omega
  have hx:=a0a hlt;have h:=u7r a[i]
  by_cases hij:i < j
  ·left
   refine⟨i+1,?_,hij,by omega⟩
   have h0:(!x9a a[i])=false:=by
    have:=List.not_of_lt_findIdx (p:=fun s=> !x9a s) (xs:=a) (i:=i) (by omega)
    simpa using this
   simp only[go1,x0c,x0l hlt,x0k hlt,x1j hx,h,h0,x0e hlt (by omega)]
   rfl
  ·right
   have:i=j:=by omega
   subst this;have h0:(!x9a a[i])=true:=hpj;simp only[go1,x0c,x0l hlt,x0k hlt,x1j hx,h,h0,x2p (a2h i)]
def z4a (k n:Int)(s:BA)(o:Int)(a:List BA)(u:List Ex)(hu:u.length<=1000000):cF 231 [kE k n s o (x0b a) (Ex.rows u)]=some (.val [.bool (z5f (.mk k n s o a u))]):=by
 have h1:=x0h u;refine cO rfl ?_;rw[w9d];simp only[k8u,go1,Int.reduceLE,h1];unfold z5f
 by_cases k5:k=5
 ·subst k5;simp only[go1,Int.reduceEq,Int.reduceEq]
  match u with
  | []=>cases decide (o=1)<;>rfl
  | [.mk k2 n2 s2 o2 a2 u2]=>cases decide (o=1)<;>rfl
  |e1::e2::u=>
   have:decide ((((e1::e2::u).length:Nat):Int)=1)=false:=decide_eq_false (by simp only[a0b];omega)
   simp only[go1,this];try (cases decide (o=1)<;>rfl)
 ·simp only[go1,x1p k5];cases decide (k=1)<;>cases decide (k=2)<;>cases decide (k=4)<;>rfl
def z3w (k n:Int)(s:BA)(o:Int)(a:List BA)(u:List Ex)(hu:u.length<=1000000):cF 213 [kE k n s o (x0b a) (Ex.rows u)]=some (.val [.bool (z5f (.mk k n s o a u))]):=by
 have h1:=x0h u;refine cO rfl ?_;rw[w9i];simp only[k8z,go1,Int.reduceLE,h1];unfold z5f
 by_cases k5:k=5
 ·subst k5;simp only[go1,Int.reduceEq,Int.reduceEq]
  match u with
  | []=>cases decide (o=1)<;>rfl
  | [.mk k2 n2 s2 o2 a2 u2]=>cases decide (o=1)<;>rfl
  |e1::e2::u=>
   have:decide ((((e1::e2::u).length:Nat):Int)=1)=false:=decide_eq_false (by simp only[a0b];omega)
   simp only[go1,this];try (cases decide (o=1)<;>rfl)
 ·simp only[go1,x1p k5];cases decide (k=1)<;>cases decide (k=2)<;>cases decide (k=4)<;>rfl
def v2c (z k:D)(l:LL):sy.mval z k l=mval z k l:=rfl
def w7c (k x:D)(l:LL):sy.mput k x l=mput k x l:=rfl
def v9e (l:List BA):LL:=l.map fun s=>[.str s, .int .i64 1]
def u2t (a b:BA):z1w (.str a) (.str b)=decide (a=b):=by
 show(a == b)=_;have h:(a == b)=(a.data == b.data):=rfl;rw[h,a1g,beq_iff_eq,a0u];exact⟨fun h=>by cases a;cases b;simp_all,fun h=>by rw[h]⟩
def w7z {x:BA}: ∀ {l:List BA},x ∉ l->z8l (.str x) (v9e l)=none
 | [],_=>rfl
 |y::l,h=>by
  have h1: ¬x=y:=fun e=>h (by rw[e];exact a0v)
  have h2:x ∉ l:=fun e=>h (a0w _ e)
  show z8l (.str x) ((D.str y::[.int .i64 1])::v9e l)=none;have hk:z1w (.str x) (.str y)=false:=by rw[u2t];exact x1p h1
  simp only[z8l,hk,w7z h2];rfl
def q8d {x:BA}: ∀ {l:List BA},x∈l->mval (.int .i64 0) (.str x) (v9e l)= .int .i64 1
 |y::l,h=>by
  show mval (.int .i64 0) (.str x) ((D.str y::[.int .i64 1])::v9e l)=_
  by_cases he:x=y
  ·have hk:z1w (.str x) (.str y)=true:=by rw[u2t];exact x2p he
   simp only[mval,q6b,z8l,hk];rfl
  ·have hm:x∈l:=by
    rcases a1n.1 h with e|e
    ·exact absurd e he
    ·exact e
   have ih:=q8d hm;have hk:z1w (.str x) (.str y)=false:=by rw[u2t];exact x1p he
   simp only[mval,q6b,z8l,hk]at ih ⊢;rw[<-ih];cases z8l (.str x) (v9e l)<;>rfl
def q8c {x:BA}{l:List BA}(h:x ∉ l):mval (.int .i64 0) (.str x) (v9e l)= .int .i64 0:=by
 unfold mval q6b;rw[w7z h];rfl
def k4y {x:BA}{l:List BA}(h:x ∉ l):mput (.str x) (.int .i64 1) (v9e l)=v9e (l++[x]):=by
 unfold mput;rw[w7z h];simp[v9e]
def z3d {l:List BA}{i:Nat}{x:BA}(h:l[i]? =some x)(hn:(l.take i).Nodup)(hx:x ∉ l.take i):(l.take (i+1)).Nodup:=by
 rw[a1d,h,a2g,List.nodup_append];exact⟨hn,by simp,fun a ha b hb=>by simp at hb;rw[hb];exact fun e=>hx (e▸ha)⟩
def z8d {l:List BA}{i:Nat}{x:BA}(h:l[i]? =some x)(hx:x∈l.take i): ¬l.Nodup:=by
 intro hn;have hd:l=l.take i++l.drop i:=(a1w i l).symm;rw[hd,List.nodup_append]at hn;refine hn.2.2 x hx x ?_ rfl;have:(l.drop i)[0]? =some x:=by simpa using h
 exact a0p this
def z1d (l:List BA)(hl:l.length<=1000000):cF 54 [.d (.sl 1 (x0b l))]=some (.val [.bool (decide l.Nodup)]):=by
 refine cO rfl ?_;rw[q9q];simp only[g54,go1,x0c];refine x0v (fun i:Nat=>[.sl 1 (x0b l), .int .i64 (l.length:Int), .int .i64 (i:Int), .sl 2 (v9e (l.take i))]) (fun i=>i<=l.length/\(l.take i).Nodup) (fun i=>l.length - i) (fun i hi=> ?_) 0 ⟨a0t _,by simp⟩
 by_cases hlt:i < l.length
 ·have hx:=a0a hlt
  by_cases hm:l[i]∈l.take i
  ·right
   rw[x1p (z8d hx hm)];simp only[go1,Int.reduceLT,Int.reduceAdd,x0c,x0l hlt,x0k hlt,x1j hx,v2c,q8d hm]
  ·left
   refine⟨i+1,?_,⟨hlt,z3d hx hi.2 hm⟩,by omega⟩
   have hw:IntKind.i64.wrap 1=1:=rfl;simp only[go1,Int.reduceLT,Int.reduceAdd,x0c,x0l hlt,x0k hlt,x1j hx,v2c,w7c,q8c hm,hw,k4y hm,x0e hlt (by omega)]
   rw[a1d,hx];rfl
 ·right
  have:i=l.length:=by omega
  subst this;simp only[go1,x0g];rw[a0r]at hi;rw[x2p hi.2]
def u5g {α:Type}{b:List D->Option (List D ⊕ α)}{r:α}(n:Nat)(mk:Nat->List D)(hb: ∀i,i < n->b (mk i)=some (.inl (mk (i+1))))(hend:b (mk n)=some (.inr r)):x6d b (mk 0)=some r:=by
 refine x0v mk (fun i=>i<=n) (fun i=>n - i) (fun i hi=> ?_) 0 (a0t _)
 by_cases h:i < n
 ·exact .inl ⟨i+1,hb i h,h,by omega⟩
 ·have:i=n:=by omega
  subst this;exact .inr hend
def u2n {l:List BA}{i j:Nat}{y:BA}(hj:j < i)(h:l[j]? =some y):y∈l.take i:=by
 refine a0p (i:=j) ?_;rw[a1t,if_pos hj,h]
def z1a (l:List BA)(hl:l.length<=1000000):cF 30 [.d (.sl 1 (x0b l))]=some (.val [.bool (decide l.Nodup)]):=by
 refine cO rfl ?_;rw[q9z];simp only[g30,go1];refine x0v (fun i:Nat=>[.sl 1 (x0b l), .int .i64 (i:Int)]) (fun i=>i<=l.length/\(l.take i).Nodup) (fun i=>l.length - i) (fun i hi=> ?_) 0 ⟨a0t _,by simp⟩
 by_cases hlt:i < l.length
 ·have hx:=a0a hlt;simp only[go1,x0c,x0l hlt]
  by_cases hm:l[i]∈l.take i
  ·right
   rw[x1p (z8d hx hm)];refine x0v (fun j:Nat=>[.sl 1 (x0b l), .int .i64 (i:Int), .int .i64 (j:Int)]) (fun j=>j<=i/\ ∃k,j<=k/\k < i/\l[k]? =some l[i]) (fun j=>i - j) (fun j hj=> ?_) 0 ⟨a0t _,?_⟩
   ·obtain⟨hj,k,hk1,hk2,hk3⟩:=hj;have hjl:j < i:=by omega
    have hjl2:j < l.length:=by omega
    have hy:=a0a hjl2
    by_cases he:tb l[j]=tb l[i]
    ·right
     simp only[go1,x0c,x0l hjl,x0k hlt,x0k hjl2,x1j hx,x1j hy,x2f,x2p he]
    ·left
     refine⟨j+1,?_,⟨hjl,k,?_,hk2,hk3⟩,by omega⟩
     ·simp only[go1,x0c,x0l hjl,x0k hlt,x0k hjl2,x1j hx,x1j hy,x2f,x1p he,x0e hjl (by omega)]
      rfl
     ·rcases Nat.lt_or_ge j k with h|h
      ·exact h
      ·have:j=k:=by omega
       subst this;rw[hy]at hk3;exact absurd (by rw[Option.some.inj hk3]) he
   ·obtain⟨k,hk⟩:=List.getElem?_of_mem hm;rw[a1t]at hk;split at hk
    ·rename_i hki;exact⟨k,a0t _,hki,hk⟩
    ·cases hk
  ·left
   refine⟨i+1,?_,⟨hlt,z3d hx hi.2 hm⟩,by omega⟩
   refine u5g i (fun j=>[.sl 1 (x0b l), .int .i64 (i:Int), .int .i64 (j:Int)]) (fun j hjl=> ?_) ?_
   ·have hjl2:j < l.length:=by omega
    have hy:=a0a hjl2;have he: ¬tb l[j]=tb l[i]:=fun e=>hm (by rw[<-x3f e];exact u2n hjl hy)
    simp only[go1,x0c,x0l hjl,x0k hlt,x0k hjl2,x1j hx,x1j hy,x2f,x1p he,x0e hjl (by omega)]
    rfl
   ·simp only[go1,x0g,x0e hlt (by omega)]
    rfl
 ·right
  have:i=l.length:=by omega
  subst this;simp only[go1,x0c,x0g];rw[a0r]at hi;rw[x2p hi.2]
def w3o {τ α:Type}{b:List D->Option (List D ⊕ α)}{r0 r1:α}(p:τ->Bool)(l:List τ)(mk:Nat->List D)
  (hb: ∀i x,l[i]? =some x->b (mk i)=bif p x then some (.inl (mk (i+1)))else some (.inr r0))
  (hend:l.all p=true->b (mk l.length)=some (.inr r1)):x6d b (mk 0)=some (bif l.all p then r1 else r0):=by
 suffices ∀(rest:List τ) (i:Nat),l.drop i=rest->i<=l.length->(l.take i).all p=true->x6d b (mk i)=some (bif rest.all p then r1 else r0)from this l 0 rfl (a0t _) rfl
 intro rest
 induction rest with
 |nil=>
  intro i hd hi ht;have:i=l.length:=by have:=congrArg List.length hd;simp at this;omega
  subst this;rw[a0r]at ht;rw[x9o,hend ht];rfl
 |cons x xs ih=>
  intro i hd hi ht;have hx:l[i]? =some x:=by
   have:=congrArg (fun r=>r[0]?) hd
   simpa using this
  have hlt:i < l.length:=(a0c.1 hx).1;have hxs:l.drop (i+1)=xs:=by
   have:=congrArg List.tail hd
   simpa using this
  rw[x9o,hb i x hx];cases hp:p x with
  |false=>simp[a1p,hp]
  |true=>
   simp only[cond_true,a1p,hp,a2j];refine ih (i+1) hxs hlt ?_;rw[a1d,hx,List.all_append,ht];simp[hp]
def x2e {τ α:Type}{b:List D->Option (List D ⊕ α)}{r0 r1 r:α}{ds:List D}(p:τ->Bool)(l:List τ)(mk:Nat->List D)(h0:mk 0=ds)
  (hb: ∀i x,l[i]? =some x->b (mk i)=bif p x then some (.inl (mk (i+1)))else some (.inr r0))
  (hend:l.all p=true->b (mk l.length)=some (.inr r1)) (hr:(bif l.all p then r1 else r0)=r):x6d b ds=some r:=by
 rw[<-h0,w3o p l mk hb hend,hr]
def x9x {l:List Ex}{i:Nat}{k n:Int}{s:BA}{o:Int}{a:List BA}{u:List Ex}(h:l[i]? =some (.mk k n s o a u)):sy.row (Ex.rows l) (i:Int)= [.int .i64 k, .int .i64 n, .str s, .int .i64 o, .sl 1 (x0b a), .sl 6 (Ex.rows u)]:=v9h h
def v9o {l:List Ex}{i:Nat}{k n:Int}{s:BA}{o:Int}{a:List BA}{u:List Ex}(h:l[i]? =some (.mk k n s o a u))(hl:Ex.j0a l<=1000000):u.length<=1000000:=by
 have h1:=x3u h;have h2:=x2j u;simp only[Ex.size]at h1;omega
def z1e (k n:Int)(s:BA)(o:Int)(a:List BA)(u:List Ex)(hu:u.length<=1000000):cF 233 [kE k n s o (x0b a) (Ex.rows u)]=some (.val [.bool (!z5f (.mk k n s o a u))]):=by
 have h:=z4a k n s o a u hu;refine cO rfl ?_;rw[w9c];simp only[k8t,go1,h]
def w2l (l:List Ex)(hl:Ex.j0a l<=1000000): ∃i:Int,cF 244 [.d (.sl 6 (Ex.rows l)), .fn 233 []]=some (.val [.int .i64 i])/\decide (0<=i)=l.any fun s=> !z5f s:=by
 have hlen:=x2j l;cases hall:l.any fun s=> !z5f s with
 |false=>
  refine⟨-1,?_,rfl⟩;refine cO rfl ?_;rw[z0e];simp only[z5q,go1,x0h];refine x0v (fun i:Nat=>[.sl 6 (Ex.rows l), .int .i64 (l.length:Int), .int .i64 (i:Int)]) (fun i=>i<=l.length) (fun i=>l.length - i) (fun i hi=> ?_) 0 (a0t _)
  by_cases hlt:i < l.length
  ·left
   refine⟨i+1,?_,hlt,by omega⟩
   have hx:=a0a hlt;have h0:(!z5f l[i])=false:=by
    have:=(List.any_eq_false.1 hall) l[i] (a1i hlt)
    simpa using this
   generalize l[i]=e at hx h0;obtain⟨k,n,s,o,a,u⟩:=e;have h:=z1e k n s o a u (v9o hx hl);simp only[go1,x0h,x0l hlt,x0k hlt,x9x hx,oE,h,h0,x0e hlt (by omega)]
   rfl
  ·right
   have:i=l.length:=by omega
   subst this;simp only[go1,x0g]
 |true=>
  have hj:=List.findIdx_lt_length_of_exists (List.any_eq_true.1 hall);refine⟨((l.findIdx fun s=> !z5f s:Nat):Int),?_,a0o (a2h _)⟩
  have hpj:=List.findIdx_getElem (w:=hj);generalize hJ:(l.findIdx fun s=> !z5f s)=j at hj hpj
  refine cO rfl ?_;rw[z0e];simp only[z5q,go1,x0h];refine x0v (fun i:Nat=>[.sl 6 (Ex.rows l), .int .i64 (l.length:Int), .int .i64 (i:Int)]) (fun i=>i<=j) (fun i=>l.length - i) (fun i hi=> ?_) 0 (a0t _)
  have hlt:i < l.length:=by omega
  have hx:=a0a hlt
  by_cases hij:i < j
  ·left
   refine⟨i+1,?_,hij,by omega⟩
   have h0:(!z5f l[i])=false:=by
    have:=List.not_of_lt_findIdx (p:=fun s=> !z5f s) (xs:=l) (i:=i) (by omega)
    simpa using this
   generalize l[i]=e at hx h0;obtain⟨k,n,s,o,a,u⟩:=e;have h:=z1e k n s o a u (v9o hx hl);simp only[go1,x0h,x0l hlt,x0k hlt,x9x hx,oE,h,h0,x0e hlt (by omega)]
   rfl
  ·right
   have:i=j:=by omega
   subst this;have h0:(!z5f l[i])=true:=hpj;generalize l[i]=e at hx h0;obtain⟨k,n,s,o,a,u⟩:=e;have h:=z1e k n s o a u (v9o hx hl);simp only[go1,x0h,x0l hlt,x0k hlt,x9x hx,oE,h,h0]
def v7g (l:List Ex)(hl:Ex.j0a l<=1000000):cF 232 [.d (.sl 6 (Ex.rows l)), .fn 233 []]=some (.val [.bool (!l.all z5f)]):=by
 obtain⟨i,h1,h2⟩:=w2l l hl;refine cO rfl ?_;rw[u3h];simp only[u6p,go1,h1];rw[h2,List.not_all_eq_any_not]
def w2z (k n:Int)(s:BA)(o:Int)(a:List BA)(u:List Ex)(hu:Ex.j0a u<=1000000):cF 210 [kE k n s o (x0b a) (Ex.rows u)]=some (.val [.bool (z0u (.mk k n s o a u))]):=by
 have hl:=x2j u;have h1:=z4a k n s o a u (by omega)
 have h2:=v7g u hu;refine cO rfl ?_;rw[w9k];simp only[k9b,go1,h1,h2]
 by_cases hk:k=14
 ·simp only[z0u,x2p hk,go1]
 ·simp only[z0u,x1p hk,go1]
def v7p (k n:Int)(s:BA)(o:Int)(a:List BA)(u:List Ex)(hu:Ex.j0a u<=1000000):cF 186 [kE k n s o (x0b a) (Ex.rows u)]=some (.val [.bool (z0u (.mk k n s o a u))]):=by
 have hl:=x2j u;have h1:=z3w k n s o a u (by omega)
 refine cO rfl ?_;rw[w9t];simp only[k9k,go1,h1]
 by_cases hk:k=14
 ·simp only[z0u,x2p hk,go1];refine x2e z5f u (fun i:Nat=>[.int .i64 (i:Int), .int .i64 k, .int .i64 n, .str s, .int .i64 o, .sl 1 (x0b a), .sl 6 (Ex.rows u)]) rfl (r0:= .val [.bool false]) (r1:= .val [.bool true]) (fun i e hx=> ?_) (fun _=> ?_) (by cases u.all z5f<;>rfl)
  ·have hlt:=(a0c.1 hx).1;obtain⟨k2,n2,s2,o2,a2,u2⟩:=e;have h:=z3w k2 n2 s2 o2 a2 u2 (v9o hx hu);simp only[go1,Nat.reduceAdd,oE,x0h,x0l hlt,x0k hlt,x9x hx,h];cases z5f (.mk k2 n2 s2 o2 a2 u2)with
   |true=>simp only[go1,x0e hlt (by omega)];rfl
   |false=>rfl
  ·simp only[go1,Nat.reduceAdd,oE,x0h,x0g]
 ·simp only[z0u,x1p hk,go1]
def q4z (k:Int)(a:List BA):((!(decide ((if k=11 then(1:Int)else if k=12 then 6 else 0) < (a.length:Int)) || (decide (0 < (if k=11 then(1:Int)else if k=12 then 6 else 0))&&decide ((a.length:Int)=0))))&&(decide a.Nodup&&a.all x9a))=y1e k a:=by
 unfold y1e
 by_cases h1:k=11
 ·subst h1
  match a with
  | []=>rfl
  | [x]=>simp
  |x::y::r=>
   have:decide ((1:Int) < ((x::y::r).length:Int))=true:=a0o (by simp only[a0b];omega)
   have h2:decide ((x::y::r).length=1)=false:=decide_eq_false (by simp only[a0b];omega)
   simp only[if_true,this,a1r,Bool.not_true,Bool.false_and,decide_true,cond_true,h2,Bool.and_false]
 ·by_cases h2:k=12
  ·subst h2;have e1:decide ((6:Int) < (a.length:Int))= !decide (a.length<=6):=by rw[a1g];simp;omega
   have e2:decide ((a.length:Int)=0)= !decide (1<=a.length):=by rw[a1g];simp;try omega
   have e3:decide ((12:Int)=11)=false:=rfl;have e4:decide ((0:Int) < 6)=true:=rfl;simp only[if_neg h1,if_true,e1,e2,e3,e4,decide_true,cond_true,cond_false,a2j];cases decide (a.length<=6)<;>cases decide (1<=a.length)<;>cases decide a.Nodup<;>cases a.all x9a<;>rfl
  ·have e4:decide ((0:Int) < 0)=false:=rfl;simp only[if_neg h1,if_neg h2,x1p h1,x1p h2,cond_false,e4,Bool.false_and,Bool.or_false]
   match a with
   | []=>rfl
   |x::r=>
    have h3:decide ((0:Int) < ((x::r).length:Int))=true:=a0o (by simp only[a0b];omega)
    have h4:decide ((x::r).length=0)=false:=rfl;rw[h3,h4];try simp
def nlt (a b:Int):decide (a < b)= !decide (b<=a):=by
 rw[a1g];simp
def q3h (k n:Int)(s:BA)(o:Int)(a:List BA)(u:List Ex)(hs:s.size<=100000)(ha:a.length<=1000000)(hu:Ex.j0a u<=1000000):
  cF 178 [kE k n s o (x0b a) (Ex.rows u)]=some (.val [.bool (y0f (.mk k n s o a u))]):=by
 have h1:=k6q k n s o a (Ex.rows u) hs;have h2:=z1d a ha;have h3:=v7f a ha;have h4:=x0h u;have h5:=x0c a;simp only[y0f];rw[<-q4z];refine cO rfl ?_;rw[w9y];simp only[k9p,go1,Int.reduceLE,h1,h2,h3,h4,h5];cases hk:y9g k with
 |false=>simp only[go1,oQ];try rfl
 |true=>
  simp only[go1,oQ,nlt];cases u2k k n with
  |false=>simp only[go1];try rfl
  |true=>
   cases y9d k s with
   |false=>simp only[go1];try rfl
   |true=>
    cases u2g k o with
    |false=>simp only[go1];try rfl
    |true=>
     simp only[go1];cases hlo:decide (loB k n a.length<=(u.length:Int))with
     |false=>simp only[go1]
     |true=>
      generalize (if k=11 then(1:Int)else if k=12 then 6 else 0)=M;generalize (!decide ((a.length:Int)<=M) || !decide (M<=0)&&decide ((a.length:Int)=0))=X
      cases decide ((u.length:Int)<=hiB k n a.length)with
      |false=>simp only[go1]
      |true=>
       cases X with
       |true=>simp only[go1]
       |false=>
        cases decide a.Nodup with
        |false=>simp only[go1]
        |true=>
         cases a.all x9a with
         |false=>simp only[go1]
         |true=>
          simp only[go1]
          by_cases h8:k=8
          ·subst h8
           match u,hlo,hu with
           | [],hlo,_=>cases hlo
           | .mk k2 n2 s2 o2 a2 u2::u,hlo,hu=>
             have hx:(Ex.mk k2 n2 s2 o2 a2 u2::u)[0]? =some (.mk k2 n2 s2 o2 a2 u2):=rfl;have hc:=w2z k2 n2 s2 o2 a2 u2 (by simp only[Ex.j0a,Ex.size]at hu;omega)
             have hr:sy.row (Ex.rows (.mk k2 n2 s2 o2 a2 u2::u)) 0= [.int .i64 k2, .int .i64 n2, .str s2, .int .i64 o2, .sl 1 (x0b a2), .sl 6 (Ex.rows u2)]:=x9x hx;have hz:decide (((Ex.mk k2 n2 s2 o2 a2 u2::u).length:Int)<=0)=false:=decide_eq_false (by simp only[a0b];omega)
             simp only[go1,hz,hr,oE,hc,k1d]
          ·simp only[go1,x1p h8,k1d]
def q2b {l:List Nat}{f i:Nat}(hf:f<=i)(hi:i < l.length):l.drop f=(l.take i).drop f++l.getD i 0::l.drop (i+1):=by
 have h1:l=l.take i++l.getD i 0::l.drop (i+1):=by
  rw[a0i,a0a hi];simp only[Option.getD_some];rw[List.getElem_cons_drop hi,a1w]
 conv=>lhs;rw[h1]
 rw[List.drop_append_of_le_length (by rw[a1q];omega)]
def z1s {l:List Nat}{f i:Nat}(hf:f<=i)(hi:i < l.length):(l.take (i+1)).drop f=(l.take i).drop f++[l.getD i 0]:=by
 rw[a1d,a0a hi,a0i,a0a hi];simp only[a2g,Option.getD_some];rw[List.drop_append_of_le_length (by rw[a1q];omega)]
def w5t (s:BA)(c:Nat)(hs:s.size<=100000): ∃l:List BA,cF 180 [.d (.str s), .d (.int .u8 (c:Int))]=some (.own 9 1 (x0b l))/\l.map tb=x1n c (tb s):=by
 have hl:=x2i s
 suffices ∃p,cF 180 [.d (.str s), .d (.int .u8 (c:Int))]=some p/\ ∃l:List BA,p= .own 9 1 (x0b l)/\l.map tb=x1n c (tb s) by
  obtain⟨_,h,l,rfl,hl⟩:=this;exact⟨l,h,hl⟩
 refine k6v (by kernel_rfl) rfl ?_
 rw[w9x];simp only[k9o,go1,Nat.reduceAdd];refine x2l (fun x:List BA × Nat × Nat=>[.str s, .int .u8 (c:Int), .int .i64 (x.2.1:Int), .int .i64 (x.2.2:Int), .sl 1 (x0b x.1)])
  (fun x=>x.1.length<=x.2.2/\((x.2.2<=(tb s).length/\x.2.1<=x.2.2/\x1n c (tb s)=x.1.map tb++x1n c ((tb s).drop x.2.1)/\ ∀y∈((tb s).take x.2.2).drop x.2.1,y≠c)\/(x.2.2=(tb s).length+1/\x.1.map tb=x1n c (tb s)))) (fun x=>(tb s).length+1 - x.2.2) (fun x hx=> ?_) ([],0,0) ⟨a0q _, .inl ⟨a0t _,a0q _,rfl,by simp⟩⟩
 obtain⟨done,f,i⟩:=x;obtain⟨hd,hx⟩:=hx;simp only at hd hx;rcases hx with⟨hi,hf,h1,h2⟩|⟨hi,h1⟩
 ·have hw:IntKind.i64.wrap ((i:Int)+1)=((i+1:Nat):Int):=by rw[x0p (by omega) (by omega)];rfl
  have hfit:decide ((done.length+1)*(16+1)<=140737488355328)=true:=x2p (by omega)
  by_cases hlt:i < (tb s).length
  ·simp only[go1,x1r,y5d,x0c,hw];rw[x2p (p:=(i:Int)<=((tb s).length:Int)) (by omega),x1p (p:=(i:Int)=((tb s).length:Int)) (by omega),x2p (p:=0<=(i:Int)/\(i:Int) < ((tb s).length:Int)) (by omega)]
   by_cases hc:(tb s).getD i 0=c
   ·left
    refine⟨(done++[s.extract (f:Int).toNat (i:Int).toNat],i+1,i+1),?_,⟨?_, .inl ⟨hlt,a0q _,?_,?_⟩⟩,(by show(tb s).length+1 - (i+1) < (tb s).length+1 - i;omega)⟩
    ·rw[x2p (p:=(((tb s).getD i 0:Nat):Int)=(c:Int)) (by omega),x2p (p:=0<=(f:Int)/\(f:Int)<=(i:Int)/\(i:Int)<=((tb s).length:Int)) (by omega)]
     simp only[go1,List.length_singleton,hfit,x0b,List.map_append,a1o,a1x,v9y]
    ·simp;omega
    ·simp only;rw[h1,q2b hf hlt,hc,x9f c _ _ h2,List.map_append,a1o,a1x,x7y,a0n,a0n];simp
    ·intro y hy;simp only at hy;rw[List.drop_of_length_le (by rw[a1q];omega)]at hy
     simp at hy
   ·left
    refine⟨(done,f,i+1),?_,⟨(by show done.length<=i+1;omega), .inl ⟨hlt,(by show f<=i+1;omega),h1,?_⟩⟩,(by show(tb s).length+1 - (i+1) < (tb s).length+1 - i;omega)⟩
    ·rw[x1p (p:=(((tb s).getD i 0:Nat):Int)=(c:Int)) (by omega)]
     simp only[go1];try rfl
    ·intro y hy;simp only at hy;rw[z1s hf hlt]at hy;rcases a1k.1 hy with hy|hy
     ·exact h2 y hy
     ·simp at hy;rw[hy];simpa using hc
  ·have hie:i=(tb s).length:=by omega
   left
   refine⟨(done++[s.extract (f:Int).toNat (i:Int).toNat],i+1,i+1),?_,⟨(by simp;omega), .inr ⟨(by show i+1=(tb s).length+1;omega),?_⟩⟩,(by show(tb s).length+1 - (i+1) < (tb s).length+1 - i;omega)⟩
   ·simp only[go1,x1r,x0c,hw];rw[x2p (p:=(i:Int)<=((tb s).length:Int)) (by omega),x2p (p:=(i:Int)=((tb s).length:Int)) (by omega),x2p (p:=0<=(f:Int)/\(f:Int)<=(i:Int)/\(i:Int)<=((tb s).length:Int)) (by omega)]
    simp only[go1,List.length_singleton,hfit,x0b,List.map_append,a1o,a1x,v9y]
   ·simp only;rw[hie,a0r]at h2;rw[h1,x9e c _ h2,List.map_append,a1o,a1x,x7y,a0n,a0n,hie,a0r]
 ·right
  simp only[go1,x1r];rw[x1p (p:=(i:Int)<=((tb s).length:Int)) (by omega)]
  exact⟨_,rfl,done,rfl,h1⟩
def v4c (l:List Nat):u5s l=(!(decide (l.length < 1) || decide (3 < l.length) || decide (l.getD 0 0=48))&&l.all x0x):=by
 unfold u5s
 by_cases h1:1<=l.length
 ·by_cases h3:l.length<=3
  ·rw[x2p h1,x2p h3,x1p (p:=l.length < 1) (by omega),x1p (p:=3 < l.length) (by omega)];simp
  ·rw[x2p h1,x1p h3,x1p (p:=l.length < 1) (by omega),x2p (p:=3 < l.length) (by omega)];simp
 ·rw[x1p h1,x2p (p:=l.length < 1) (by omega)];simp
def q2x (s:BA)(hs:s.size<=100000):cF 146 [.d (.str s)]=some (.val [.bool (y8u (tb s))]):=by
 obtain⟨l,h,hl⟩:=w5t s 47 hs;have hsz:=u6a hl;have hll:l.length<=100001:=by
  have:=congrArg List.length hl;rw[a1f,y1i]at this;have h2:(tb s).count 47<=(tb s).length:=List.count_le_length;rw[x2i]at h2;omega
 unfold y8u;rw[<-hl,List.all_map];have h:cF 180 [.d (.str s), .d (.int .u8 47)]=_:=h;refine cO rfl ?_;rw[q0q];simp only[g146,go1,Int.reduceLE,h];refine x0v (fun i:Nat=>[.sl 1 (x0b l), .int .i64 (i:Int)]) (fun i=>i<=l.length/\(l.take i).all (y0s ∘ tb)=true) (fun i=>l.length - i) (fun i hi=> ?_) 0 ⟨a0t _,by simp⟩
 by_cases hlt:i < l.length
 ·have hx:=a0a hlt;have hgd:l.getD i ByteArray.empty=l[i]:=by rw[a0i,hx];rfl
  have hxs:=a1a (hsz _ (a1i hlt)) hs;generalize hxe:l[i]=x at hx hgd hxs;obtain⟨ps,hp,hps⟩:=w5t x 46 hxs;have hp:cF 180 [.d (.str x), .d (.int .u8 46)]=_:=hp;have hbad:y0s (tb x)=false->l.all (y0s ∘ tb)=false:=fun hb=>y3z (d:=ByteArray.empty) hlt (by rw[hgd];exact hb)
  have hgood:y0s (tb x)=true->(i+1<=l.length/\(l.take (i+1)).all (y0s ∘ tb)=true):=fun hb=>⟨hlt,x4j (d:=ByteArray.empty) hlt hi.2 (by rw[hgd];exact hb)⟩
  have hpe:y0s (tb x)=match ps.map tb with
   | [a]=>x3r a
   | [a,b]=>x3r a&&u5s b
   |_=>false:=by rw[hps];rfl
  have hpl:=y1i 46 (tb x);rw[<-hps,a1f]at hpl;have hsub: ∀y∈ps,y.size<=100000:=by
   have key: ∀(t:List Nat),∀p∈x1n 46 t,p.length<=t.length:=by
    intro t
    induction t with
    |nil=>intro p hp;simp[x1n]at hp;simp[hp]
    |cons x xs ih=>
     intro p hp;unfold x1n at hp;split at hp
     ·rcases a1n.1 hp with rfl|hp
      ·simp
      ·have:=ih p hp;simp;omega
     ·split at hp
      ·simp at hp;simp[hp]
      ·rename_i q qs hq;rcases a1n.1 hp with rfl|hp
       ·have:=ih q (by rw[hq];exact a0v);simp;omega
       ·have:=ih p (by rw[hq];exact a0w _ hp);simp;omega
   intro y hy;have:=key (tb x) (tb y) (by rw[<-hps];exact List.mem_map_of_mem hy)
   rw[x2i,x2i]at this;omega
  simp only[go1,x0c,x0l hlt,x0k hlt,x1j hx,hp]
  match ps,hpe,hpl,hsub with
  | [],_,hpl,_=>simp at hpl
  | [a],hpe,_,hsub=>
    have ha:=y6d a (hsub a a0v);simp only[a1o,a1x]at hpe;simp only[List.length_singleton,x0b,a1o,a1x,v9y,y5l,go1,List.getD_cons_zero,Int.toNat_zero,ha,hpe.symm];cases hb:y0s (tb x)with
    |false=>
     right
     rw[hbad hb];rfl
    |true=>
     left
     refine⟨i+1,?_,hgood hb,by omega⟩
     rw[x0e hlt (by omega)];rfl
  | [a,b],hpe,_,hsub=>
    have ha:=y6d a (hsub a a0v);have hbl:=x2i b;have hbs:=hsub b (by simp)
    simp only[a1o,a1x]at hpe;rw[v4c]at hpe;have hr1:sy.row (x0b [a,b]) 1= [.str b]:=rfl;have hr0:sy.row (x0b [a,b]) 0= [.str a]:=rfl;simp only[a0b,a0e,hr0,hr1,go1,Nat.reduceAdd,ha,x1r,z6j];cases hla:x3r (tb a)with
    |false=>
     right
     rw[hla,Bool.false_and]at hpe;rw[hbad hpe];rfl
    |true=>
     rw[hla,a2j]at hpe;have e1:decide (((tb b).length:Int) < 1)=decide ((tb b).length < 1):=by rw[a1g];simp only[a0u];omega
     have e3:decide (3 < ((tb b).length:Int))=decide (3 < (tb b).length):=by rw[a1g];simp only[a0u];omega
     have e4:decide ((((tb b).getD 0 0:Nat):Int)=48)=decide ((tb b).getD 0 0=48):=by rw[a1g];simp only[a0u];omega
     simp only[go1,e1,e3,e4]
     by_cases q1:(tb b).length < 1
     ·right
      rw[x2p q1]at hpe ⊢;rw[hbad (by rw[hpe];simp)];rfl
     by_cases q3:3 < (tb b).length
     ·right
      rw[x1p q1,x2p q3]at hpe ⊢;rw[hbad (by rw[hpe];simp)];rfl
     rw[x1p q1,x1p q3]at hpe ⊢;rw[x2p (p:=0 < ((tb b).length:Int)) (by omega)]
     by_cases q4:(tb b).getD 0 0=48
     ·right
      rw[x2p q4]at hpe ⊢;rw[hbad (by rw[hpe];simp)];rfl
     rw[x1p q4]at hpe ⊢;simp only[go1]at hpe ⊢;cases had:(tb b).all x0x with
     |true=>
      left
      rw[had]at hpe;refine⟨i+1,?_,hgood hpe,by omega⟩
      refine x0v (r:=Sum.inl [D.sl 1 (x0b l),D.int .i64 ((i+1:Nat):Int)]) (fun k:Nat=>[.sl 1 (x0b l), .int .i64 (i:Int), .str b, .int .i64 (k:Int)]) (fun k=>k<=(tb b).length) (fun k=>(tb b).length - k) (fun k hk=> ?_) 0 (a0t _)
      by_cases hkl:k < (tb b).length
      ·left
       refine⟨k+1,?_,hkl,by omega⟩
       have hdg:x0x ((tb b).getD k 0)=true:=by
        rw[a0i,a0a hkl];exact a0l.1 had _ (a1i hkl)
       simp only[go1,x0l hkl,x0k hkl,y5d,q3f,x4y,hdg,x0e hkl (by omega)]
       try rfl
      ·right
       have:k=(tb b).length:=by omega
       subst this;simp only[go1,x0g,x0e hlt (by omega)]
       try rfl
     |false=>
      right
      rw[had]at hpe;rw[hbad hpe];refine x0v (r:=Sum.inr (PRes.val [D.bool false])) (fun k:Nat=>[.sl 1 (x0b l), .int .i64 (i:Int), .str b, .int .i64 (k:Int)]) (fun k=>k<=(tb b).length/\((tb b).take k).all x0x=true) (fun k=>(tb b).length - k) (fun k hk=> ?_) 0 ⟨a0t _,by simp⟩
      by_cases hkl:k < (tb b).length
      ·cases hdg:x0x ((tb b).getD k 0)with
       |true=>
        left
        refine⟨k+1,?_,⟨hkl,x4j hkl hk.2 hdg⟩,by omega⟩
        simp only[go1,x0l hkl,x0k hkl,y5d,q3f,x4y,hdg,x0e hkl (by omega)]
        try rfl
       |false=>
        right
        simp only[go1,x0l hkl,x0k hkl,y5d,q3f,x4y,hdg]
        try rfl
      ·exfalso;have:k=(tb b).length:=by omega
       rw[this,a0r,had]at hk;exact absurd hk.2 (by simp)
  |_::_::_::r,hpe,_,_=>
   right
   have:y0s (tb x)=false:=hpe;rw[hbad this];rw[x2p (p:=2 < (((_::_::_::r:List BA).length:Nat):Int)) (by simp;omega)]
   rfl
 ·right
  have:i=l.length:=by omega
  subst this;simp only[go1,x0c,x0g];rw[a0r]at hi;rw[hi.2]
def w2q (s:BA)(hs:s.size<=100000):cF 115 [.d (.str s), .d (.int .u8 65), .d (.int .u8 90)]=some (.val [.bool (x6c x1y (tb s))]):=by
 have hl:=x2i s
 by_cases h1:1<=(tb s).length/\(tb s).length<=12
 ·have hc:=q3f (((tb s).getD 0 0:Nat):Int) 65 90;rw[x8w]at hc;refine cO rfl ?_;rw[z5t];simp only[k0m,go1,Int.reduceLE,x1r,z6j,hc];rw[x1p (p:=((tb s).length:Int) < 1) (by omega),x1p (p:=12 < ((tb s).length:Int)) (by omega),x2p (p:=0 < ((tb s).length:Int)) (by omega)]
  cases hs0:x1y ((tb s).getD 0 0)with
  |false=>rw[x9n hs0];rfl
  |true=>
   simp only[go1];refine x0v (fun p:Nat=>[.str s, .int .i64 (p:Int)]) (fun p=>p<=(tb s).length/\((tb s).take p).all x0w=true) (fun p=>(tb s).length - p) (fun p hp=> ?_) 0 ⟨a0t _,by simp⟩
   by_cases hlt:p < (tb s).length
   ·have hi:=y3o ((tb s).getD p 0);simp only[go1,x0l hlt,x0k hlt,y5d,q3f,x8v,x8w,x4y,x0e hlt (by omega)]
    cases hin:x0w ((tb s).getD p 0)with
    |false=>
     right
     rw[x8u hlt hin];rw[hin]at hi;have hi:=hi.symm;simp only[Bool.or_eq_false_iff]at hi;obtain⟨⟨⟨i1,i2⟩,i3⟩,i4⟩:=hi;have i4': ¬(((tb s).getD p 0:Nat):Int)=95:=by
      have:=of_decide_eq_false i4;omega
     rw[x1p i4'];simp only[i1,i2,i3,go1]
     try rfl
    |true=>
     left
     refine⟨p+1,?_,⟨hlt,x4j hlt hp.2 hin⟩,by omega⟩
     rw[hin]at hi;cases i1:x1u ((tb s).getD p 0)<;>cases i2:x1y ((tb s).getD p 0)<;>cases i3:x0x ((tb s).getD p 0)<;>rw[i1,i2,i3]at hi<;>simp only[go1]<;>(try rfl)
     all_goals
      simp only[Bool.or_self,a1e]at hi;have i4:=a0f hi.symm;rw[x2p (p:=(((tb s).getD p 0:Nat):Int)=95) (by omega)]
      rfl
   ·right
    have:p=(tb s).length:=by omega
    subst this;simp only[go1,x0g];rw[a0r]at hp;unfold x6c;rw[hp.2,hs0,x2p h1.1,x2p h1.2];rfl
 ·have hn:x6c x1y (tb s)=false:=by
   unfold x6c
   by_cases h:1<=(tb s).length
   ·rw[x1p (p:=(tb s).length<=12) (by omega)];simp
   ·rw[x1p h];simp
  rw[hn];refine cO rfl ?_;rw[z5t];simp only[k0m,go1,Int.reduceLE,x1r]
  by_cases h:1<=(tb s).length
  ·rw[x2p (p:=12 < ((tb s).length:Int)) (by omega)];simp only[go1];try rfl
  ·rw[x2p (p:=((tb s).length:Int) < 1) (by omega)];simp only[go1];try rfl
def z6f (s:BA)(hs:s.size<=100000):cF 69 [.d (.str s)]=some (.val [.bool (x3h (tb s))]):=by
 have:=w2q s hs;refine cO rfl ?_;rw[q9j];simp only[g69,go1,this];rfl
def or0 (o:Int):(!decide (0<=o) || !decide (o<=0))= !decide (o=0):=by
 rw[a1g];simp;omega
def u3y (k n:Int)(s:BA)(o:Int)(a u:LL):cF 182 [kE k n s o a u]=some (.val [.bool (u2g k o&&u2k k n)]):=by
 have key:k=5\/k=6\/k=1\/k=2\/k=13\/(k≠5/\k≠6/\k≠1/\k≠2/\k≠13):=by omega
 rcases key with rfl|rfl|rfl|rfl|rfl|⟨h1,h2,h3,h4,h5⟩
 all_goals refine cO rfl ?_
 all_goals rw[w9w]
 all_goals simp only[k9n,go1,Int.reduceEq,nlt,u2g,u2k,Int.reduceEq,or0 o]
 ·cases decide (1<=o)<;>cases decide (o<=2)<;>rfl
 ·cases decide (3<=o)<;>cases decide (o<=16)<;>rfl
 ·cases decide (o=0)<;>rfl
 ·cases decide (o=0)<;>cases decide (n=0)<;>cases decide (n=1)<;>rfl
 ·cases decide (o=0)<;>cases decide (n=0)<;>cases decide (n=1)<;>rfl
 ·simp only[x1p h1,x1p h2,x1p h3,x1p h4,x1p h5,go1,Bool.or_self];cases decide (o=0)<;>rfl
def v7o (k n:Int)(s:BA)(o:Int)(a u:LL)(hs:s.size<=100000):cF 183 [kE k n s o a u]=some (.val [.bool (y9d k s)]):=by
 have q1:=y6d s hs;have q2:=z6f s hs;have q3:=q2x s hs;have key:k=3\/k=11\/k=12\/k=13\/k=4\/k=17\/(k≠3/\k≠11/\k≠12/\k≠13/\k≠4/\k≠17):=by omega
 rcases key with rfl|rfl|rfl|rfl|rfl|rfl|⟨h1,h2,h3,h4,h5,h6⟩
 all_goals refine cO rfl ?_
 all_goals rw[w9v]
 all_goals simp only[k9m,go1,Int.reduceEq,y9d,Int.reduceEq,q1,q2,q3,x2f]
 all_goals (try rfl)
 simp only[x1p h1,x1p h2,x1p h3,x1p h4,x1p h5,x1p h6,go1,Bool.or_self];rfl
def q2s (s:BA)(hs:s.size<=100000):cF 212 [.d (.str s)]=some (.val [.bool (x9a s)]):=by
 have h:=z6f s hs;refine cO rfl ?_;rw[w9j];simp only[k9a,go1,h,x2f];unfold x9a;cases x3h (tb s)<;>cases h1:decide (tb s=tb x6f)<;>cases h2:decide (tb s=tb x3q)<;>(unfold x6f at h1;unfold x3q at h2;simp only[go1,h1,h2];try rfl)
def w2t (k n:Int)(s:BA)(o:Int)(a:List BA)(u:LL)(ha: ∀x∈a,x.size<=100000)(hl:a.length<=1000000):cF 184 [kE k n s o (x0b a) u]=some (.val [.bool (y1e k a)]):=by
 have hO:=z1a a hl;refine cO rfl ?_;rw[w9u];simp only[k9l,go1];refine x2e x9a a (fun i:Nat=>[.int .i64 (i:Int), .int .i64 k, .int .i64 n, .str s, .int .i64 o, .sl 1 (x0b a), .sl 6 u]) rfl (r0:= .val [.bool false]) (r1:= .val [.bool (y1e k a)]) (fun i e hx=> ?_) (fun hall=> ?_) (by unfold y1e;cases a.all x9a<;>rfl)
 ·have hlt:=(a0c.1 hx).1;have h:=q2s e (ha e (a0p hx));simp only[go1,Nat.reduceAdd,oE,x0c,x0l hlt,x0k hlt,x1j hx,h];cases x9a e with
  |true=>simp only[go1,x0e hlt (by omega)];rfl
  |false=>rfl
 ·simp only[go1,Nat.reduceAdd,oE,x0c,x0g,hO,y1e,hall];have e1:decide ((a.length:Int)=1)=decide (a.length=1):=by rw[a1g];simp;try omega
  have e2:decide ((a.length:Int)=0)=decide (a.length=0):=by rw[a1g];simp;try omega
  have e3:decide ((1:Int)<=(a.length:Int))=decide (1<=a.length):=by rw[a1g];simp;try omega
  have e4:decide ((a.length:Int)<=6)=decide (a.length<=6):=by rw[a1g];simp;try omega
  rw[e1,e2,e3,e4]
  by_cases h1:k=11
  ·simp only[x2p h1,go1]
  ·by_cases h2:k=12
   ·simp only[x1p h1,x2p h2,go1];cases decide (1<=a.length)<;>cases decide (a.length<=6)<;>rfl
   ·simp only[x1p h1,x1p h2,go1]
def w2r (k n:Int)(s:BA)(o:Int)(a:List BA)(u:LL)(hn:k=13->n=0\/n=1):cF 185 [kE k n s o (x0b a) u]=some (.val [.int .i64 (loB k n a.length), .int .i64 (hiB k n a.length)]):=by
 have h5:=x0c a;have key:(k=5\/k=10\/k=11\/k=6\/k=8\/k=9\/k=15\/k=7\/k=16\/k=12\/k=14)\/k=13\/(k≠5/\k≠10/\k≠11/\k≠6/\k≠8/\k≠9/\k≠15/\k≠7/\k≠16/\k≠12/\k≠14/\k≠13):=by omega
 rcases key with h|h|⟨h1,h2,h3,h4,h5,h6,h7,h8,h9,h10,h11,h12⟩
 ·rcases h with rfl|rfl|rfl|rfl|rfl|rfl|rfl|rfl|rfl|rfl|rfl
  all_goals refine cO rfl ?_
  all_goals rw[z5r]
  all_goals simp only[k0f,go1,Int.reduceEq,loB,hiB,Int.reduceEq,h5,or_self,or_true,true_or,if_true,if_false]
 ·subst h;rcases hn rfl with rfl|rfl
  ·refine cO rfl ?_;rw[z5r];simp only[k0f,go1,Int.reduceEq,Int.reduceAdd,loB,hiB]
   try rfl
  ·refine cO rfl ?_;rw[z5r];simp only[k0f,go1,Int.reduceEq,Int.reduceAdd,loB,hiB]
   try rfl
 ·refine cO rfl ?_;rw[z5r];simp only[k0f,go1,x1p h1,x1p h2,x1p h3,x1p h4,x1p h5,x1p h6,x1p h7,x1p h8,x1p h9,x1p h10,x1p h11,x1p h12];simp only[loB,hiB,h1,h2,h3,h4,h5,h6,h7,h8,h9,h10,h11,h12,or_self,if_false]
def w2s (k n:Int)(s:BA)(o:Int)(a:List BA)(u:List Ex)(hs:s.size<=100000)(ha: ∀x∈a,x.size<=100000)(hl:a.length<=1000000)(hu:Ex.j0a u<=1000000):
  cF 154 [kE k n s o (x0b a) (Ex.rows u)]=some (.val [.bool (y0f (.mk k n s o a u))]):=by
 have h1:=u3y k n s o (x0b a) (Ex.rows u);have h2:=v7o k n s o (x0b a) (Ex.rows u) hs;have h3:=w2t k n s o a (Ex.rows u) ha hl;have h4:=x0h u;simp only[y0f];refine cO rfl ?_;rw[q0l];simp only[k9w,go1,Int.reduceLE,h1,h2,h3,h4];have hkk:(decide (k < 1) || decide (17 < k))= !y9g k:=by
  unfold y9g;rw[nlt,nlt];cases decide (1<=k)<;>cases decide (k<=17)<;>rfl
 cases hk:y9g k with
 |false=>
  rw[hk]at hkk;cases g1:decide (k < 1)with
  |true=>simp only[go1];try rfl
  |false=>
   rw[g1]at hkk;have g2:decide (17 < k)=true:=by simpa using hkk
   simp only[go1,g2];try rfl
 |true=>
  rw[hk]at hkk;have g1:decide (k < 1)=false:=by cases g:decide (k < 1)with
   |true=>rw[g]at hkk;cases hkk
   |false=>rfl
  have g2:decide (17 < k)=false:=by rw[g1]at hkk;simpa using hkk
  simp only[go1,g1,g2];cases hN:u2k k n with
  |false=>cases u2g k o<;>(simp only[go1];try rfl)
  |true=>
   cases u2g k o with
   |false=>cases y9d k s<;>(simp only[go1];try rfl)
   |true=>
    cases y9d k s with
    |false=>simp only[go1,Bool.and_self];try rfl
    |true=>
     cases y1e k a with
     |false=>simp only[go1,Bool.and_self];try rfl
     |true=>
      have h5:=w2r k n s o a (Ex.rows u) (fun h=>by
       subst h;simp[u2k]at hN;exact hN)
      simp only[go1,Bool.and_self,h5];cases hlo:decide (loB k n a.length<=(u.length:Int))with
      |false=>simp only[go1];try rfl
      |true=>
       cases decide ((u.length:Int)<=hiB k n a.length)with
       |false=>simp only[go1];try rfl
       |true=>
        simp only[go1]
        by_cases h8:k=8
        ·subst h8
         match u,hlo,hu with
         | [],hlo,_=>cases hlo
         | .mk k2 n2 s2 o2 a2 u2::u,hlo,hu=>
           have hc:=v7p k2 n2 s2 o2 a2 u2 (by simp only[Ex.j0a,Ex.size]at hu;omega)
           have hr:sy.row (Ex.rows (.mk k2 n2 s2 o2 a2 u2::u)) 0= [.int .i64 k2, .int .i64 n2, .str s2, .int .i64 o2, .sl 1 (x0b a2), .sl 6 (Ex.rows u2)]:=x9x (l:= .mk k2 n2 s2 o2 a2 u2::u) (i:=0) rfl;have hz:decide ((0:Int) < ((Ex.mk k2 n2 s2 o2 a2 u2::u).length:Int))=true:=a0o (by simp only[a0b];omega)
           have hz2:decide ((0:Int)<=0/\(0:Int) < ((Ex.mk k2 n2 s2 o2 a2 u2::u).length:Int))=true:=a0o ⟨by omega,by simp only[a0b];omega⟩
           simp only[go1,hz,hr,oE,hc,k1d]
        ·simp only[go1,x1p h8,k1d]
end Go.Vm
end
