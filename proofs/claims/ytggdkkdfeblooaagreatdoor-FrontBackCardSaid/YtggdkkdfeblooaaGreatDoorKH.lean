/- Part KH of the proof. What is proved by the whole: the statement that the claim names, with no condition. -/
import Derived.Test.YtggdkkdfeblooaaGreatDoorKG
set_option linter.all false
section
set_option maxRecDepth 100000
set_option maxHeartbeats 4000000
namespace Go.Vm
open Go.Proofs
def q8x {f k:FuncId}{pn:Nat}{xs key:List V}{hs:List Box}{p:PRes}(hg:x4o Tryz.prog k=false)(hd:y0d key=some (pn,xs,hs))(hk:Nat.beq k (y8m f)=true)(hn:kn k key=none)(h:fB sy eF f pn xs hs=some p):cF k key=some p:=by
 have:=Nat.eq_of_beq_eq_true hk;subst this;exact u2w hg hn hd h
section
variable (l w a : LL) (i x y : Int) (s : BA) (b : Bool)
def dec1:y0d (kP 339 l i)=some (339,[.ptr 0 0],[.cells (.ty 315) [.d (.sl 4 l), .d (.int .i64 i)]]):=rfl
def dec2:y0d (kS 339 s l i)=some (339,[.ptr 0 0, .d (.str s)],[.cells (.ty 315) [.d (.sl 4 l), .d (.int .i64 i)]]):=rfl
def dec3:y0d (kP 0 l i)=some (0,[.ptr 0 0],[.cells (.ty 315) [.d (.sl 4 l), .d (.int .i64 i)]]):=rfl
def dec4:y0d (kS 0 s l i)=some (0,[.ptr 0 0, .d (.str s)],[.cells (.ty 315) [.d (.sl 4 l), .d (.int .i64 i)]]):=rfl
def dec5:y0d (kO x y l i)=some (0,[.ptr 0 0, .d (.int .i64 x), .d (.int .i64 y)],[.cells (.ty 315) [.d (.sl 4 l), .d (.int .i64 i)]]):=rfl
def dec6:y0d (kN w l i)=some (339,[.ptr 0 0, .own 1],[.cells (.ty 315) [.d (.sl 4 l), .d (.int .i64 i)], .arr 9 1 w]):=rfl
def dec7:y0d (rP l i b)=some (0,[.ptr 0 0],[.cells (.ty 9900061) [.d (.sl 4 l), .d (.int .i64 i), .d (.bool b)]]):=rfl
def dec8:y0d (rS s l i b)=some (0,[.ptr 0 0, .d (.str s)],[.cells (.ty 9900061) [.d (.sl 4 l), .d (.int .i64 i), .d (.bool b)]]):=rfl
def dec9:y0d (rO a w l i b)=some (0,[.ptr 0 0, .own 1, .own 2],[.cells (.ty 9900061) [.d (.sl 4 l), .d (.int .i64 i), .d (.bool b)], .arr 3 1 a, .arr 9 1 w]):=rfl
end
def cBp (f:FuncId){k:FuncId}{pn:Nat}{xs key:List V}{hs:List Box}{p:PRes}(hn:kn k key=none)(h:fB sy eF f pn xs hs=some p)(hg:x4o Tryz.prog k=false:=by kernel_rfl)(hd:y0d key=some (pn,xs,hs):=by with_reducible first|exact dec1 _ _|exact dec2 _ _ _|exact dec3 _ _|exact dec4 _ _ _|exact dec5 _ _ _ _|exact dec6 _ _ _|exact dec7 _ _ _|exact dec8 _ _ _ _|exact dec9 _ _ _ _ _)(hk:Nat.beq k (y8m f)=true:=by kernel_rfl):cF k key=some p:=q8x hg hd hk hn h
inductive Ex where
 |mk (k n:Int) (s:BA) (o:Int) (a:List BA) (l:List Ex)
mutual
def Ex.row:Ex->List D
 | .mk k n s o a l=>[.int .i64 k, .int .i64 n, .str s, .int .i64 o, .sl 1 (x0b a), .sl 6 (Ex.rows l)]
def Ex.rows:List Ex->LL
 | []=>[]
 |e::l=>e.row::Ex.rows l
end
def e0:Ex:= .mk 0 0 (bs []) 0 [] []
inductive Rs (α:Type) where
 |out
 |ok (a:α) (i:Nat)
 |bad (i:Nat)
def Rs.bind {α β:Type}:Rs α->(α->Nat->Rs β)->Rs β
 | .out,_=> .out
 | .bad i,_=> .bad i
 | .ok a i,f=>f a i
def Rs.bind_ok {α β:Type}(a:α)(i:Nat)(f:α->Nat->Rs β):(Rs.ok a i).bind f=f a i:=rfl
def x6z {α:Type}(c:α->List D)(l:List Tk):Rs α->PRes
 | .ok a i=> .val (.bool false::(c a++[.sl 4 (x0n l), .int .i64 (i:Int)]))
 | .bad i=> .val [.bool true, .int .i64 (i:Int), .sl 4 (x0n l), .int .i64 (i:Int)]
 | .out=> .val []
def tkA (l:List Tk)(i:Nat):Tk:=l.getD i ⟨6,bs [],0,0⟩
def isT (l:List Tk)(i:Nat)(s:BA):Bool:=decide (tb (tkA l i).s=tb s)&&(decide ((tkA l i).k=1) || decide ((tkA l i).k=5))
def y1w {l:List Tk}{i:Nat}(h:i < l.length):sy.row (x0n l) (i:Int)=x8q (tkA l i):=by
 unfold tkA;rw[a0i,a0b h,Option.getD_some];show(x0n l).getD (i:Int).toNat []=_;rw[a0m,a0i];simp[x0n,h]
def y8i {l:List Tk}{i:Nat}(h:i < l.length):decide (0<=(i:Int)/\(i:Int) < ((x0n l).length:Int))=true:=by
 rw[x7r];exact x0g h
structure LOK (l:List Tk):Prop where
 pos:0 < l.length
 last:(tkA l (l.length - 1)).k=6
 few:l.length<=1000000
def LOK.next {l:List Tk}(h:LOK l){i:Nat}(hi:i < l.length)(hk:(tkA l i).k≠6):i+1 < l.length:=by
 by_cases he:i=l.length - 1
 ·subst he;exact(hk h.last).elim
 ·omega
def x1s {l:List Tk}{i:Nat}{s:BA}(h:isT l i s=true):(tkA l i).k≠6:=by
 unfold isT at h;simp only[a0g,Bool.or_eq_true,a0p]at h;omega
def x4j (l:List Tk)(hl:LOK l)(i:Nat)(hi:i < l.length)(s:BA):cF 1000272 (kS 0 s (x0n l) (i:Int))=some (.val (match isT l i s with
  |true=>[.bool true, .sl 4 (x0n l), .int .i64 ((i+1:Nat):Int)]
  |false=>[.bool false, .sl 4 (x0n l), .int .i64 (i:Int)])):=by
 have hf:=hl.few;have h1:=y8i hi;have h2:=y1w hi;refine cBp 272 rfl ?_;rw[(b272 ..).2];simp only[b272,oT,go1,h1,h2,x8q,x1v];rw[<-show isT l i s=(decide (tb (tkA l i).s=tb s)&&(decide ((tkA l i).k=1) || decide ((tkA l i).k=5)))from rfl]
 cases isT l i s with
 |true=>simp only[go1];rw[x0a (n:=l.length) hi (by omega)];rfl
 |false=>rfl
def x7k:BA:=bs [116,114,117,101]
def x4k:BA:=bs [102,97,108,115,101]
def y2m (l:List Tk)(i:Nat):Bool:=decide ((tkA l i).k=2) || (isT l i x7k || isT l i x4k)
def w1l (l:List Tk)(i:Nat)(hi:i < l.length):cF 1000285 (kP 0 (x0n l) (i:Int))=some (.val [.bool (y2m l i), .sl 4 (x0n l), .int .i64 (i:Int)]):=by
 have h1:=y8i hi;have h2:=y1w hi;refine cBp 285 rfl ?_;rw[(b285 ..).2];simp only[b285,oT,go1,h1,h2,x8q,x1v];unfold y2m;rw[<-show isT l i x7k=(decide (tb (tkA l i).s=tb (bs [116,114,117,101]))&&(decide ((tkA l i).k=1) || decide ((tkA l i).k=5)))from rfl,<-show isT l i x4k=(decide (tb (tkA l i).s=tb (bs [102,97,108,115,101]))&&(decide ((tkA l i).k=1) || decide ((tkA l i).k=5)))from rfl]
 cases decide ((tkA l i).k=2)<;>cases isT l i x7k<;>cases isT l i x4k<;>rfl
def sD (s:BA):List D:=[.str s]
def x4x (l:List Tk)(i:Nat):Rs BA:=match decide ((tkA l i).k=1)&& !x5h (tb (tkA l i).s)with
 |true=> .ok (tkA l i).s (i+1)
 |false=> .bad i
def z2v (l:List Tk)(hl:LOK l)(i:Nat)(hi:i < l.length):cF 1000284 (kP 339 (x0n l) (i:Int))=some (x6z sD l (x4x l i)):=by
 have hf:=hl.few;have h1:=y8i hi;have h2:=y1w hi;have h3:=v0i (tkA l i).s;refine cBp 284 rfl ?_;rw[(b284 ..).2];simp only[b284,oT,go1,h1,h2,x8q,h3];unfold x4x;cases decide ((tkA l i).k=1)<;>cases x5h (tb (tkA l i).s)<;>simp only[go1]<;>(try rfl)
 rw[x0a (n:=l.length) hi (by omega)];rfl
def z3d (l:List Tk)(i:Nat):Rs BA:=match y2m l i with
 |true=> .ok (tkA l i).s (i+1)
 |false=> .bad i
def q0f (l:List Tk)(hl:LOK l)(i:Nat)(hi:i < l.length):cF 1000286 (kP 339 (x0n l) (i:Int))=some (x6z sD l (z3d l i)):=by
 have hf:=hl.few;have h1:=y8i hi;have h2:=y1w hi;have h3:=w1l l i hi;refine cBp 286 rfl ?_;rw[(b286 ..).2];simp only[b286,oP,oT,go1,Nat.reduceAdd,h1,h2,x8q,h3];unfold z3d;cases y2m l i<;>simp only[go1]<;>(try rfl)
 rw[x0a (n:=l.length) hi (by omega)];rfl
def x2i (l:List Tk):List BA->Nat->Rs Unit
 | [],i=> .ok () i
 |w::ws,i=>match isT l i w with
  |true=>x2i l ws (i+1)
  |false=> .bad i
def w2u (l:List Tk)(w:List BA):Rs Unit->PRes
 | .ok _ i=> .val [.bool false, .sl 4 (x0n l), .int .i64 (i:Int), .sl 1 (x0b w)]
 | .bad i=> .val [.bool true, .int .i64 (i:Int), .sl 4 (x0n l), .int .i64 (i:Int), .sl 1 (x0b w)]
 | .out=> .val []
def x5u (l:List Tk)(hl:LOK l)(w:List BA)(hw:w.length<=1000)(i:Nat)(hi:i < l.length):cF 1000287 (kN (x0b w) (x0n l) (i:Int))=some (w2u l w (x2i l w i)):=by
 refine cBp 287 rfl ?_;rw[(b287 ..).2];simp only[b287,oP,go1,Nat.reduceAdd];refine x0w (fun x:Nat × Nat=>[.int .i64 ((x0b w).length:Int), .int .i64 (x.1:Int), .sl 4 (x0n l), .int .i64 (x.2:Int), .sl 1 (x0b w)]) (fun x=>x2i l (w.drop x.1) x.2=x2i l w i/\x.1<=w.length/\x.2 < l.length) (fun x=>w.length - x.1) (fun x hx=> ?_) (0,i) ⟨rfl,a0w _,hi⟩
 obtain⟨k,j⟩:=x;obtain⟨h1,h2,h3⟩:=hx;simp only at h1 h2 h3 ⊢
 by_cases hlt:k < w.length
 ·have e1:(x0b w).length=w.length:=x0e w;have e2:=x4j l hl j h3 w[k];have e3:sy.rown (x0b w) k= [.str w[k]]:=by
   show(x0b w).getD k []=_;rw[a0i];simp[x0b,w2l,hlt]
  rw[List.drop_eq_getElem_cons hlt,x2i]at h1;simp only[go1,e1,x0i hlt,x0g hlt,a0m,e3,e2];cases ht:isT l j w[k]with
  |true=>
   left
   rw[ht]at h1;refine⟨(k+1,j+1),?_,⟨h1,hlt,hl.next h3 (x1s ht)⟩,by simp only;omega⟩
   simp only[go1];rw[x0a hlt (by omega)];rfl
  |false=>
   right
   rw[ht]at h1;simp only[go1];rw[<-h1];rfl
 ·right
  have e1:(x0b w).length=w.length:=x0e w;have:k=w.length:=by omega
  subst this;simp only[go1,e1,x0f];rw[<-h1,List.drop_length];rfl
def y1t (o:Nat):BA:=match o with
 |1|4=>bs [45]
 |2=>bs [110,111,116]
 |3=>bs [43]
 |5=>bs [42]
 |6=>bs [47]
 |7=>bs [109,111,100]
 |8=>bs [97,110,100]
 |9=>bs [111,114]
 |10=>bs [120,111,114]
 |11=>bs [61]
 |12=>bs [60,62]
 |13=>bs [60]
 |14=>bs [60,61]
 |15=>bs [62]
 |16=>bs [62,61]
 |_=>bs []
def k5z (o:Nat)(h:o<=16):cF 311 [.d (.int .i64 (o:Int))]=some (.val [.str (y1t o)]):=by
 have h2:cF 313 [.d (.int .i64 (o:Int))]=some (.val [.str (match decide (11<=o)with
  |true=>y1t o
  |false=>bs [])]):=by
  refine cO rfl ?_;rw[(g313 ..).2];simp only[g313,go1]
  match o,h with
  |0,_|1,_|2,_|3,_|4,_|5,_|6,_|7,_|8,_|9,_|10,_|11,_|12,_|13,_|14,_|15,_|16,_=>rfl
  |o+17,h=>omega
 refine cO rfl ?_;rw[(g311 ..).2];simp only[g311,go1,h2]
 match o,h with
 |0,_|1,_|2,_|3,_|4,_|5,_|6,_|7,_|8,_|9,_|10,_|11,_|12,_|13,_|14,_|15,_|16,_=>rfl
 |o+17,h=>omega
def z6y (l:List Tk)(i:Nat):Nat->Nat->Option Nat
 |_,0=>none
 |a,n+1=>match isT l i (y1t a)with
  |true=>some a
  |false=>z6y l i (a+1) n
def x4m {l:List Tk}{i:Nat}: ∀ {n a o:Nat},z6y l i a n=some o->(tkA l i).k≠6/\a<=o/\o < a+n
 |0,_,_,h=>by cases h
 |n+1,a,o,h=>by
  unfold z6y at h;split at h
  ·rename_i ht;cases h;exact⟨x1s ht,by omega,by omega⟩
  ·have:=x4m h;exact⟨this.1,by omega,by omega⟩
def w1h (l:List Tk)(hl:LOK l)(i:Nat)(hi:i < l.length)(a n:Nat)(hn:a+n<=16):cF 1000307 (kO (a:Int) ((a+n:Nat):Int) (x0n l) (i:Int))=some (.val (match z6y l i a (n+1)with
  |some o=>[.int .i64 (o:Int), .bool true, .sl 4 (x0n l), .int .i64 ((i+1:Nat):Int)]
  |none=>[.int .i64 0, .bool false, .sl 4 (x0n l), .int .i64 (i:Int)])):=by
 refine cBp 307 rfl ?_;rw[(b307 ..).2];simp only[b307,oP,go1,Nat.reduceAdd];refine x0w (fun x:Nat=>[.int .i64 ((a+n:Nat):Int), .int .i64 (x:Int), .sl 4 (x0n l), .int .i64 (i:Int)]) (fun x=>z6y l i x (a+n+1 - x)=z6y l i a (n+1)/\x<=a+n+1) (fun x=>a+n+1 - x) (fun x hx=> ?_) a ⟨by rw[show a+n+1 - a=n+1 by omega],by omega⟩
 obtain⟨h1,h2⟩:=hx
 by_cases hlt:x<=a+n
 ·have e1:=k5z x (by omega)
  have e2:=x4j l hl i hi (y1t x);rw[show a+n+1 - x=(a+n - x)+1 by omega,z6y]at h1
  simp only[go1,x1y (p:=(x:Int)<=((a+n:Nat):Int)) (by omega),e1,e2]
  cases ht:isT l i (y1t x)with
  |true=>
   right
   rw[ht]at h1;simp only[go1];rw[<-h1]
  |false=>
   left
   rw[ht]at h1;refine⟨x+1,?_,⟨by rw[show a+n+1 - (x+1)=a+n - x by omega];exact h1,by omega⟩,by omega⟩
   simp only[go1];rw[x0a (i:=x) (n:=x+1) (by omega) (by omega)];rfl
 ·right
  simp only[go1,x1j (p:=(x:Int)<=((a+n:Nat):Int)) (by omega)]
  rw[<-h1,show a+n+1 - x=0 by omega];rfl
def x7e (l:List Tk)(i:Nat):Rs (BA × BA):=match isT l i (bs [110,111,116])with
 |true=>(x4x l (i+1)).bind fun n j=> .ok (n,x4k) j
 |false=>match y2m l i with
  |false=>(x4x l i).bind fun n j=> .ok (n,x7k) j
  |true=>(z3d l i).bind fun a j=>(x2i l [bs [40]] j).bind fun _ j=>(x4x l j).bind fun n j=>(x2i l [bs [41]] j).bind fun _ j=> .ok (n,a) j
def wD (x:BA × BA):List D:=[.str x.1, .str x.2]
def x8j {l:List Tk}(hl:LOK l){i j:Nat}{n:BA}(hi:i < l.length)(h:x4x l i= .ok n j):j < l.length:=by
 unfold x4x at h;split at h
 ·rename_i hc;simp only[a0g,a0p]at hc;cases h;exact hl.next hi (by omega)
 ·cases h
def y7c {l:List Tk}(hl:LOK l){i j:Nat}{n:BA}(hi:i < l.length)(h:z3d l i= .ok n j):j < l.length:=by
 unfold z3d at h;split at h
 ·rename_i hc;cases h;unfold y2m at hc;simp only[Bool.or_eq_true,a0p]at hc;rcases hc with hc|hc|hc
  ·exact hl.next hi (by omega)
  ·exact hl.next hi (x1s hc)
  ·exact hl.next hi (x1s hc)
 ·cases h
def x4a {l:List Tk}(hl:LOK l){u:Unit}: ∀ {w:List BA} {i j:Nat},i < l.length->x2i l w i= .ok u j->j < l.length
 | [],i,j,hi,h=>by cases h;exact hi
 |x::w,i,j,hi,h=>by
  unfold x2i at h;split at h
  ·rename_i hc;exact x4a hl (hl.next hi (x1s hc)) h
  ·cases h
def x6m {l:List Tk}{i:Nat}(h:x4x l i= .out):False:=by unfold x4x at h;split at h<;>cases h
def z8o {l:List Tk}{i:Nat}(h:z3d l i= .out):False:=by unfold z3d at h;split at h<;>cases h
def x1o {l:List Tk}: ∀ {w:List BA} {i:Nat},x2i l w i= .out->False
 | [],i,h=>by cases h
 |x::w,i,h=>by
  unfold x2i at h;split at h
  ·exact x1o h
  ·cases h
def y8q {l:List Tk}(hl:LOK l){i j:Nat}{w:BA × BA}(hi:i < l.length)(h:x7e l i= .ok w j):j < l.length:=by
 unfold x7e at h;split at h
 ·rename_i ht;cases hr:x4x l (i+1)with
  |ok n k=>rw[hr]at h;cases h;exact x8j hl (hl.next hi (x1s ht)) hr
  |_=>rw[hr]at h;cases h
 ·split at h
  ·cases hr:x4x l i with
   |ok n k=>rw[hr]at h;cases h;exact x8j hl hi hr
   |_=>rw[hr]at h;cases h
  ·cases hr:z3d l i with
   |ok a k=>
    rw[hr,Rs.bind_ok]at h;have hk:=y7c hl hi hr;cases hr2:x2i l [bs [40]] k with
    |ok u m=>
     rw[hr2,Rs.bind_ok]at h;have hm:=x4a hl hk hr2;cases hr3:x4x l m with
     |ok n q=>
      rw[hr3,Rs.bind_ok]at h;have hq:=x8j hl hm hr3;cases hr4:x2i l [bs [41]] q with
      |ok u2 z=>rw[hr4]at h;cases h;exact x4a hl hq hr4
      |_=>rw[hr4]at h;cases h
     |_=>rw[hr3]at h;cases h
    |_=>rw[hr2]at h;cases h
   |_=>rw[hr]at h;cases h
def y1j (s:BA):[[D.str s]]=x0b [s]:=rfl
def k0n (s t:BA):[[D.str s],[D.str t]]=x0b [s,t]:=rfl
def w1g (l:List Tk)(hl:LOK l)(i:Nat)(hi:i < l.length):cF 1000270 (kP 339 (x0n l) (i:Int))=some (x6z wD l (x7e l i)):=by
 have h1:=x4j l hl i hi (bs [110,111,116]);have h2:=w1l l i hi;refine cBp 270 rfl ?_;rw[(b270 ..).2];simp only[b270,oP,go1,Nat.reduceAdd,h1,y1j];unfold x7e;cases ht:isT l i (bs [110,111,116])with
 |true=>
  have hj:=hl.next hi (x1s ht);have h3:=z2v l hl (i+1) hj;simp only[go1,h3];cases hr:x4x l (i+1)<;>first|rfl|exact(x6m hr).elim
 |false=>
  simp only[go1,h2];cases ha:y2m l i with
  |false=>
   have h3:=z2v l hl i hi;simp only[go1,h3];cases hr:x4x l i<;>first|rfl|exact(x6m hr).elim
  |true=>
   have h3:=q0f l hl i hi;simp only[go1,h3];cases hr:z3d l i with
   |out=>exact(z8o hr).elim
   |bad j=>rfl
   |ok a j=>
    have hj:=y7c hl hi hr;have h4:=x5u l hl [bs [40]] (by simp) j hj
    simp only[x6z,sD,go1,a0f,a0h,h4,Rs.bind_ok];cases hr2:x2i l [bs [40]] j with
    |out=>exact(x1o hr2).elim
    |bad k=>rfl
    |ok u k=>
     have hk:=x4a hl hj hr2;have h5:=z2v l hl k hk;simp only[w2u,go1,h5,Rs.bind_ok];cases hr3:x4x l k with
     |out=>exact(x6m hr3).elim
     |bad m=>rfl
     |ok n m=>
      have hm:=x8j hl hk hr3;have h6:=x5u l hl [bs [41]] (by simp) m hm
      simp only[x6z,sD,go1,a0f,a0h,h6,Rs.bind_ok];cases hr4:x2i l [bs [41]] m<;>first|rfl|exact(x1o hr4).elim
inductive Nt where
 |arrow|fby|or|and|cmp|sum|prod|un|post|atom
def x2o {σ ρ:Type}(st:σ->σ ⊕ Rs ρ):Nat->σ->Rs ρ
 |0,_=> .out
 |n+1,x=>match st x with
  | .inl y=>x2o st n y
  | .inr r=>r
def ex (k:Int)(l:List Ex):Ex:= .mk k 0 (bs []) 0 [] l
def x5e (o:Nat)(a b:Ex):Ex:= .mk 6 0 (bs []) (o:Int) [] [a,b]
abbrev PR:=Nt->Nat->Rs Ex
section
variable (l : List Tk) (n : Nat) (p : PR)
def y0v (en:BA):List Ex × Nat->(List Ex × Nat) ⊕ Rs (List Ex)
 |(es,i)=>match isT l i (bs [44])with
  |true=>match p .arrow (i+1)with
   | .ok e j=> .inl (es++[e],j)
   | .bad j=> .inr (.bad j)
   | .out=> .inr .out
  |false=> .inr ((x2i l [en] i).bind fun _ j=> .ok es j)
def y3t (en:BA)(i:Nat):Rs (List Ex):=(p .arrow i).bind fun e j=>x2o (y0v l p en) n ([e],j)
def y1n (nm:BA)(es:List Ex)(j:Nat):Rs Ex:=match isT l j (bs [101,118,101,114,121])with
 |true=>(p .post (j+1)).bind fun e k=> .ok (.mk 13 1 nm 0 [] (es++[e])) k
 |false=> .ok (.mk 13 0 nm 0 [] es) j
def y3z (nm:BA)(i:Nat):Rs Ex:=match isT l i (bs [41])with
 |true=>y1n l p nm [] (i+1)
 |false=>(y3t l n p (bs [41]) i).bind (y1n l p nm)
def x4q:List BA × List Ex × Nat × Bool->(List BA × List Ex × Nat × Bool) ⊕ Rs (List BA × List Ex)
 |(ar,es,i,false)=> .inr (.ok (ar,es) i)
 |(ar,es,i,true)=>match ((z3d l i).bind fun a j=>(x2i l [bs [45,62]] j).bind fun _ j=>(p .arrow j).bind fun e j=>(x2i l [bs [41]] j).bind fun _ j=> .ok (a,e) j:Rs (BA × Ex))with
  | .ok (a,e) j=>match isT l j (bs [40])with
    |true=> .inl (ar++[a],es++[e],j+1,true)
    |false=> .inl (ar++[a],es++[e],j,false)
  | .bad j=> .inr (.bad j)
  | .out=> .inr .out
def x9v (i:Nat):Rs Ex:=(x4x l i).bind fun nm j=>(x2i l [bs [40]] j).bind fun _ j=>(x2o (x4q l p) n ([],[],j,true)).bind fun q j=> .ok (.mk 12 0 nm 0 q.1 q.2) j
def x8i (i:Nat):Rs Ex:=(p .arrow i).bind fun e j=>match isT l j (bs [119,105,116,104])with
 |true=>(x2i l [bs [91]] (j+1)).bind fun _ j=>(p .arrow j).bind fun a j=>(x2i l [bs [93],bs [61]] j).bind fun _ j=>(p .arrow j).bind fun b j=>(x2i l [bs [41]] j).bind fun _ j=> .ok (ex 16 [e,a,b]) j
 |false=>(x2i l [bs [41]] j).bind fun _ j=> .ok e j
def x7a (i:Nat):Rs Ex:=(p .arrow i).bind fun a j=>(x2i l [bs [116,104,101,110]] j).bind fun _ j=>(p .arrow j).bind fun b j=>(x2i l [bs [101,108,115,101]] j).bind fun _ j=>(p .arrow j).bind fun c j=> .ok (ex 7 [a,b,c]) j
def x7q (i:Nat):Rs Ex:=
 match isT l i x7k with
 |true=> .ok (.mk 2 1 (bs []) 0 [] []) (i+1)
 |false=>match isT l i x4k with
  |true=> .ok (ex 2 []) (i+1)
  |false=>match isT l i (bs [91])with
   |true=>(y3t l n p (bs [93]) (i+1)).bind fun es j=> .ok (ex 14 es) j
   |false=>match isT l i (bs [40])with
    |true=>x8i l p (i+1)
    |false=>match isT l i (bs [109,101,114,103,101])with
     |true=>x9v l n p (i+1)
     |false=>match isT l i (bs [105,102])with
      |true=>x7a l p (i+1)
      |false=>(x4x l i).bind fun nm j=>match isT l j (bs [40])with
       |true=>y3z l n p nm (j+1)
       |false=> .ok (.mk 3 0 nm 0 [] []) j
def x8e (i:Nat):Rs Ex:=match decide ((tkA l i).k=3)with
 |true=> .ok (.mk 1 (tkA l i).n (bs []) 0 [] []) (i+1)
 |false=>match decide ((tkA l i).k=2)with
  |true=> .ok (.mk 4 0 (tkA l i).s 0 [] []) (i+1)
  |false=>match decide ((tkA l i).k=4)with
   |true=> .ok (.mk 17 0 (tkA l i).s 0 [] []) (i+1)
   |false=>x7q l n p i
def x9n:Ex × Nat->(Ex × Nat) ⊕ Rs Ex
 |(e,i)=>match isT l i (bs [91])with
  |true=>match ((p .arrow (i+1)).bind fun a j=>(x2i l [bs [93]] j).bind fun _ j=> .ok a j:Rs Ex)with
   | .ok a j=> .inl (ex 15 [e,a],j)
   | .bad j=> .inr (.bad j)
   | .out=> .inr .out
  |false=>match isT l i (bs [119,104,101,110])with
   |true=>match x7e l (i+1)with
    | .ok w j=> .inl (.mk 11 0 w.1 0 [w.2] [e],j)
    | .bad j=> .inr (.bad j)
    | .out=> .inr .out
   |false=> .inr (.ok e i)
def y1k (i:Nat):Rs Ex:=(p .atom i).bind fun e j=>x2o (x9n l p) n (e,j)
def unS (i:Nat):Rs Ex:=match isT l i (bs [45])with
 |true=>(p .un (i+1)).bind fun e j=> .ok (.mk 5 0 (bs []) 1 [] [e]) j
 |false=>match isT l i (bs [110,111,116])with
  |true=>(p .un (i+1)).bind fun e j=> .ok (.mk 5 0 (bs []) 2 [] [e]) j
  |false=>match isT l i (bs [112,114,101])with
   |true=>(p .un (i+1)).bind fun e j=> .ok (ex 10 [e]) j
   |false=>p .post i
def x6y (side:Nt)(a m:Nat):Ex × Nat->(Ex × Nat) ⊕ Rs Ex
 |(e,i)=>match z6y l i a m with
  |none=> .inr (.ok e i)
  |some o=>match p side (i+1)with
   | .ok e2 j=> .inl (x5e o e e2,j)
   | .bad j=> .inr (.bad j)
   | .out=> .inr .out
def x5w (side:Nt)(a m i:Nat):Rs Ex:=(p side i).bind fun e j=>x2o (x6y l p side a m) n (e,j)
def v4i (i:Nat):Rs Ex:=(p .sum i).bind fun e j=>match z6y l j 11 6 with
 |none=> .ok e j
 |some o=>(p .sum (j+1)).bind fun e2 k=> .ok (x5e o e e2) k
def v4g (i:Nat):Rs Ex:=(p .or i).bind fun e j=>match isT l j (bs [102,98,121])with
 |true=>(p .fby (j+1)).bind fun e2 k=> .ok (ex 8 [e,e2]) k
 |false=> .ok e j
def y1i (i:Nat):Rs Ex:=(p .fby i).bind fun e j=>match isT l j (bs [45,62])with
 |true=>(p .arrow (j+1)).bind fun e2 k=> .ok (ex 9 [e,e2]) k
 |false=> .ok e j
def ntS:Nt->Nat->Rs Ex
 | .arrow,i=>y1i l p i
 | .fby,i=>v4g l p i
 | .or,i=>x5w l n p .and 9 2 i
 | .and,i=>x5w l n p .cmp 8 1 i
 | .cmp,i=>v4i l p i
 | .sum,i=>x5w l n p .prod 3 2 i
 | .prod,i=>x5w l n p .un 5 3 i
 | .un,i=>unS l p i
 | .post,i=>y1k l n p i
 | .atom,i=>x8e l n p i
end
def prs (l:List Tk):Nat->PR
 |0,_,_=> .out
 |n+1,nt,i=>ntS l n (prs l n) nt i
def keyA:Nt->FuncId
 | .arrow=>1000252
 | .fby=>1000271
 | .or=>1000288
 | .and=>1000301
 | .cmp=>1000309
 | .sum=>1000312
 | .prod=>1000314
 | .un=>1000315
 | .post=>1000316
 | .atom=>1000317
structure HP (l:List Tk) (p:PR):Prop where
 c: ∀nt i,i < l.length->p nt i≠ .out->cF (keyA nt) (kP 339 (x0n l) (i:Int))=some (x6z Ex.row l (p nt i))
 lt: ∀nt i e j,i < l.length->p nt i= .ok e j->j < l.length
 gt: ∀nt i e j,i < l.length->p nt i= .ok e j->i < j
def x2q {α β:Type}{r:Rs α}{f:α->Nat->Rs β}(h:r.bind f≠ .out):r≠ .out:=fun e=>h (by rw[e];rfl)
def u3b (o:Nat)(a b:Ex): ∀k n s o1 ar su k2 n2 s2 o2 ar2 su2,a= .mk k n s o1 ar su->b= .mk k2 n2 s2 o2 ar2 su2->
  cF 308 [.d (.int .i64 (o:Int)), .agg [.d (.int .i64 k), .d (.int .i64 n), .d (.str s), .d (.int .i64 o1), .d (.sl 1 (x0b ar)), .d (.sl 6 (Ex.rows su))], .agg [.d (.int .i64 k2), .d (.int .i64 n2), .d (.str s2), .d (.int .i64 o2), .d (.sl 1 (x0b ar2)), .d (.sl 6 (Ex.rows su2))]]=some (.val (x5e o a b).row):=by
 rintro k n s o1 ar su k2 n2 s2 o2 ar2 su2 rfl rfl
 refine cO rfl ?_;rw[(g308 ..).2];simp only[g308];rfl
def x6e (a b:LL)(k:Nat)(h:(a.length+b.length)*(k+1)<=140737488355328):decide ((a.length+b.length)*(k+1)<=140737488355328)=true:=a0s h
def a_por {l:List Tk}(hl:LOK l){n:Nat}{p:PR}(hp:HP l p)(i:Nat)(hi:i < l.length)(hne:x5w l n p .and 9 2 i≠ .out):cF 1000288 (kP 339 (x0n l) (i:Int))=some (x6z Ex.row l (x5w l n p .and 9 2 i)):=by
 have h1:cF 1000301 (kP 339 (x0n l) (i:Int))=_:=hp.c .and i hi (x2q hne);refine cBp 288 rfl ?_;rw[(b288 ..).2];simp only[b288,oE,oP,oT,go1,Nat.reduceAdd,h1];unfold x5w at hne ⊢;cases hr:p .and i with
 |out=>rw[hr]at hne;exact(hne rfl).elim
 |bad j=>rfl
 |ok e j=>
  have hj:=hp.lt _ _ _ _ hi hr;rw[hr]at hne;rw[Rs.bind_ok]at hne ⊢;obtain⟨k0,n0,s0,o0,a0,u0⟩:=e;simp only[x6z,Ex.row,go1,a0f,a0h];generalize hR:x2o (x6y l p .and 9 2) n (.mk k0 n0 s0 o0 a0 u0,j)=R at hne ⊢;refine x0w (fun x:Nat × Ex × Nat=>[.int .i64 9, .int .i64 10, .sl 4 (x0n l), .int .i64 (x.2.2:Int), .int .i64 0, .int .i64 0, .str (bs []), .int .i64 0, .int .i64 0, .int .i64 0, .str (bs []), .int .i64 0]++x.2.1.row) (fun x=>x2o (x6y l p .and 9 2) x.1 (x.2.1,x.2.2)=R/\x.2.2 < l.length) (fun x=>x.1) (fun x hx=> ?_) (n, .mk k0 n0 s0 o0 a0 u0,j) ⟨hR,hj⟩
  obtain⟨n1,⟨k1,m1,s1,o1,a1,u1⟩,i1⟩:=x;obtain⟨hx,hi1⟩:=hx;simp only at hx hi1 ⊢;cases n1 with
  |zero=>exact(hne hx.symm).elim
  |succ n1=>
   have h2:=w1h l hl i1 hi1 9 1 (by omega)
   simp only[Ex.row,go1,a0f,a0h];have h2:cF 1000307 (kO 9 10 (x0n l) (i1:Int))=_:=h2;simp only[h2,go1,Nat.reduceAdd];rw[x2o,x6y]at hx;cases ho:z6y l i1 9 2 with
   |none=>right;rw[ho]at hx;rw[<-hx];rfl
   |some o=>
    rw[ho]at hx;simp only at hx;have ho':=x4m ho;have hi2:=hl.next hi1 ho'.1;have hq:p .and (i1+1)≠ .out:=fun e=>hne (by rw[e]at hx;exact hx.symm)
    have h3:cF 1000301 (kP 339 (x0n l) ((i1+1:Nat):Int))=_:=hp.c .and (i1+1) hi2 hq;simp only[go1,h3];cases hr2:p .and (i1+1)with
    |out=>exact(hq hr2).elim
    |bad j2=>right;rw[hr2]at hx;rw[<-hx];rfl
    |ok e2 j2=>
     left
     rw[hr2]at hx;obtain⟨k3,n3,s3,o3,a3,u3⟩:=e2;have h4:=u3b o _ _ k1 m1 s1 o1 a1 u1 k3 n3 s3 o3 a3 u3 rfl rfl;refine⟨(n1,x5e o (.mk k1 m1 s1 o1 a1 u1) (.mk k3 n3 s3 o3 a3 u3),j2),?_,⟨hx,hp.lt _ _ _ _ hi2 hr2⟩,a1p _⟩;simp only[x6z,Ex.row,go1,a0f,a0h,h4,x5e]
def k7a {l:List Tk}(hl:LOK l){n:Nat}{p:PR}(hp:HP l p)(i:Nat)(hi:i < l.length)(hne:x5w l n p .cmp 8 1 i≠ .out):cF 1000301 (kP 339 (x0n l) (i:Int))=some (x6z Ex.row l (x5w l n p .cmp 8 1 i)):=by
 have h1:cF 1000309 (kP 339 (x0n l) (i:Int))=_:=hp.c .cmp i hi (x2q hne);refine cBp 301 rfl ?_;rw[(b301 ..).2];simp only[b301,oE,oP,oT,go1,Nat.reduceAdd,h1];unfold x5w at hne ⊢;cases hr:p .cmp i with
 |out=>rw[hr]at hne;exact(hne rfl).elim
 |bad j=>rfl
 |ok e j=>
  have hj:=hp.lt _ _ _ _ hi hr;rw[hr]at hne;rw[Rs.bind_ok]at hne ⊢;obtain⟨k0,n0,s0,o0,a0,u0⟩:=e;simp only[x6z,Ex.row,go1,a0f,a0h];generalize hR:x2o (x6y l p .cmp 8 1) n (.mk k0 n0 s0 o0 a0 u0,j)=R at hne ⊢;refine x0w (fun x:Nat × Ex × Nat=>[.int .i64 8, .int .i64 8, .sl 4 (x0n l), .int .i64 (x.2.2:Int), .int .i64 0, .int .i64 0, .str (bs []), .int .i64 0, .int .i64 0, .int .i64 0, .str (bs []), .int .i64 0]++x.2.1.row) (fun x=>x2o (x6y l p .cmp 8 1) x.1 (x.2.1,x.2.2)=R/\x.2.2 < l.length) (fun x=>x.1) (fun x hx=> ?_) (n, .mk k0 n0 s0 o0 a0 u0,j) ⟨hR,hj⟩
  obtain⟨n1,⟨k1,m1,s1,o1,a1,u1⟩,i1⟩:=x;obtain⟨hx,hi1⟩:=hx;simp only at hx hi1 ⊢;cases n1 with
  |zero=>exact(hne hx.symm).elim
  |succ n1=>
   have h2:=w1h l hl i1 hi1 8 0 (by omega)
   simp only[Ex.row,go1,a0f,a0h];have h2:cF 1000307 (kO 8 8 (x0n l) (i1:Int))=_:=h2;simp only[h2,go1];rw[x2o,x6y]at hx;cases ho:z6y l i1 8 1 with
   |none=>right;rw[ho]at hx;rw[<-hx];rfl
   |some o=>
    rw[ho]at hx;simp only at hx;have ho':=x4m ho;have hi2:=hl.next hi1 ho'.1;have hq:p .cmp (i1+1)≠ .out:=fun e=>hne (by rw[e]at hx;exact hx.symm)
    have h3:cF 1000309 (kP 339 (x0n l) ((i1+1:Nat):Int))=_:=hp.c .cmp (i1+1) hi2 hq;simp only[go1,h3];cases hr2:p .cmp (i1+1)with
    |out=>exact(hq hr2).elim
    |bad j2=>right;rw[hr2]at hx;rw[<-hx];rfl
    |ok e2 j2=>
     left
     rw[hr2]at hx;obtain⟨k3,n3,s3,o3,a3,u3⟩:=e2;have h4:=u3b o _ _ k1 m1 s1 o1 a1 u1 k3 n3 s3 o3 a3 u3 rfl rfl;refine⟨(n1,x5e o (.mk k1 m1 s1 o1 a1 u1) (.mk k3 n3 s3 o3 a3 u3),j2),?_,⟨hx,hp.lt _ _ _ _ hi2 hr2⟩,a1p _⟩;simp only[x6z,Ex.row,go1,a0f,a0h,h4,x5e]
def k6x {l:List Tk}(hl:LOK l){n:Nat}{p:PR}(hp:HP l p)(i:Nat)(hi:i < l.length)(hne:x5w l n p .prod 3 2 i≠ .out):cF 1000312 (kP 339 (x0n l) (i:Int))=some (x6z Ex.row l (x5w l n p .prod 3 2 i)):=by
 have h1:cF 1000314 (kP 339 (x0n l) (i:Int))=_:=hp.c .prod i hi (x2q hne);refine cBp 312 rfl ?_;rw[(b312 ..).2];simp only[b312,oE,oP,oT,go1,Nat.reduceAdd,h1];unfold x5w at hne ⊢;cases hr:p .prod i with
 |out=>rw[hr]at hne;exact(hne rfl).elim
 |bad j=>rfl
 |ok e j=>
  have hj:=hp.lt _ _ _ _ hi hr;rw[hr]at hne;rw[Rs.bind_ok]at hne ⊢;obtain⟨k0,n0,s0,o0,a0,u0⟩:=e;simp only[x6z,Ex.row,go1,a0f,a0h];generalize hR:x2o (x6y l p .prod 3 2) n (.mk k0 n0 s0 o0 a0 u0,j)=R at hne ⊢;refine x0w (fun x:Nat × Ex × Nat=>[.int .i64 3, .int .i64 4, .sl 4 (x0n l), .int .i64 (x.2.2:Int), .int .i64 0, .int .i64 0, .str (bs []), .int .i64 0, .int .i64 0, .int .i64 0, .str (bs []), .int .i64 0]++x.2.1.row) (fun x=>x2o (x6y l p .prod 3 2) x.1 (x.2.1,x.2.2)=R/\x.2.2 < l.length) (fun x=>x.1) (fun x hx=> ?_) (n, .mk k0 n0 s0 o0 a0 u0,j) ⟨hR,hj⟩
  obtain⟨n1,⟨k1,m1,s1,o1,a1,u1⟩,i1⟩:=x;obtain⟨hx,hi1⟩:=hx;simp only at hx hi1 ⊢;cases n1 with
  |zero=>exact(hne hx.symm).elim
  |succ n1=>
   have h2:=w1h l hl i1 hi1 3 1 (by omega)
   simp only[Ex.row,go1,a0f,a0h];have h2:cF 1000307 (kO 3 4 (x0n l) (i1:Int))=_:=h2;simp only[h2,go1,Nat.reduceAdd];rw[x2o,x6y]at hx;cases ho:z6y l i1 3 2 with
   |none=>right;rw[ho]at hx;rw[<-hx];rfl
   |some o=>
    rw[ho]at hx;simp only at hx;have ho':=x4m ho;have hi2:=hl.next hi1 ho'.1;have hq:p .prod (i1+1)≠ .out:=fun e=>hne (by rw[e]at hx;exact hx.symm)
    have h3:cF 1000314 (kP 339 (x0n l) ((i1+1:Nat):Int))=_:=hp.c .prod (i1+1) hi2 hq;simp only[go1,h3];cases hr2:p .prod (i1+1)with
    |out=>exact(hq hr2).elim
    |bad j2=>right;rw[hr2]at hx;rw[<-hx];rfl
    |ok e2 j2=>
     left
     rw[hr2]at hx;obtain⟨k3,n3,s3,o3,a3,u3⟩:=e2;have h4:=u3b o _ _ k1 m1 s1 o1 a1 u1 k3 n3 s3 o3 a3 u3 rfl rfl;refine⟨(n1,x5e o (.mk k1 m1 s1 o1 a1 u1) (.mk k3 n3 s3 o3 a3 u3),j2),?_,⟨hx,hp.lt _ _ _ _ hi2 hr2⟩,a1p _⟩;simp only[x6z,Ex.row,go1,a0f,a0h,h4,x5e]
def q7o {l:List Tk}(hl:LOK l){n:Nat}{p:PR}(hp:HP l p)(i:Nat)(hi:i < l.length)(hne:x5w l n p .un 5 3 i≠ .out):cF 1000314 (kP 339 (x0n l) (i:Int))=some (x6z Ex.row l (x5w l n p .un 5 3 i)):=by
 have h1:cF 1000315 (kP 339 (x0n l) (i:Int))=_:=hp.c .un i hi (x2q hne);refine cBp 314 rfl ?_;rw[(b314 ..).2];simp only[b314,oE,oP,oT,go1,Nat.reduceAdd,h1];unfold x5w at hne ⊢;cases hr:p .un i with
 |out=>rw[hr]at hne;exact(hne rfl).elim
 |bad j=>rfl
 |ok e j=>
  have hj:=hp.lt _ _ _ _ hi hr;rw[hr]at hne;rw[Rs.bind_ok]at hne ⊢;obtain⟨k0,n0,s0,o0,a0,u0⟩:=e;simp only[x6z,Ex.row,go1,a0f,a0h];generalize hR:x2o (x6y l p .un 5 3) n (.mk k0 n0 s0 o0 a0 u0,j)=R at hne ⊢;refine x0w (fun x:Nat × Ex × Nat=>[.int .i64 5, .int .i64 7, .sl 4 (x0n l), .int .i64 (x.2.2:Int), .int .i64 0, .int .i64 0, .str (bs []), .int .i64 0, .int .i64 0, .int .i64 0, .str (bs []), .int .i64 0]++x.2.1.row) (fun x=>x2o (x6y l p .un 5 3) x.1 (x.2.1,x.2.2)=R/\x.2.2 < l.length) (fun x=>x.1) (fun x hx=> ?_) (n, .mk k0 n0 s0 o0 a0 u0,j) ⟨hR,hj⟩
  obtain⟨n1,⟨k1,m1,s1,o1,a1,u1⟩,i1⟩:=x;obtain⟨hx,hi1⟩:=hx;simp only at hx hi1 ⊢;cases n1 with
  |zero=>exact(hne hx.symm).elim
  |succ n1=>
   have h2:=w1h l hl i1 hi1 5 2 (by omega)
   simp only[Ex.row,go1,a0f,a0h];have h2:cF 1000307 (kO 5 7 (x0n l) (i1:Int))=_:=h2;simp only[h2,go1,Nat.reduceAdd];rw[x2o,x6y]at hx;cases ho:z6y l i1 5 3 with
   |none=>right;rw[ho]at hx;rw[<-hx];rfl
   |some o=>
    rw[ho]at hx;simp only at hx;have ho':=x4m ho;have hi2:=hl.next hi1 ho'.1;have hq:p .un (i1+1)≠ .out:=fun e=>hne (by rw[e]at hx;exact hx.symm)
    have h3:cF 1000315 (kP 339 (x0n l) ((i1+1:Nat):Int))=_:=hp.c .un (i1+1) hi2 hq;simp only[go1,h3];cases hr2:p .un (i1+1)with
    |out=>exact(hq hr2).elim
    |bad j2=>right;rw[hr2]at hx;rw[<-hx];rfl
    |ok e2 j2=>
     left
     rw[hr2]at hx;obtain⟨k3,n3,s3,o3,a3,u3⟩:=e2;have h4:=u3b o _ _ k1 m1 s1 o1 a1 u1 k3 n3 s3 o3 a3 u3 rfl rfl;refine⟨(n1,x5e o (.mk k1 m1 s1 o1 a1 u1) (.mk k3 n3 s3 o3 a3 u3),j2),?_,⟨hx,hp.lt _ _ _ _ hi2 hr2⟩,a1p _⟩;simp only[x6z,Ex.row,go1,a0f,a0h,h4,x5e]
def k6y {l:List Tk}(hl:LOK l){p:PR}(hp:HP l p)(i:Nat)(hi:i < l.length)(hne:v4g l p i≠ .out):cF 1000271 (kP 339 (x0n l) (i:Int))=some (x6z Ex.row l (v4g l p i)):=by
 have h1:cF 1000288 (kP 339 (x0n l) (i:Int))=_:=hp.c .or i hi (x2q hne);refine cBp 271 rfl ?_;rw[(b271 ..).2];simp only[b271,oE,oP,go1,Nat.reduceAdd,h1];unfold v4g at hne ⊢;cases hr:p .or i with
 |out=>rw[hr]at hne;exact(hne rfl).elim
 |bad j=>rfl
 |ok e j=>
  have hj:=hp.lt _ _ _ _ hi hr;rw[hr]at hne;rw[Rs.bind_ok]at hne ⊢;obtain⟨k0,n0,s0,o0,a0,u0⟩:=e;have h2:=x4j l hl j hj (bs [102,98,121]);simp only[x6z,Ex.row,go1,a0f,a0h,h2];cases ht:isT l j (bs [102,98,121])with
  |false=>rfl
  |true=>
   rw[ht]at hne;simp only at hne ⊢;have hj2:=hl.next hj (x1s ht);have h3:cF 1000271 (kP 339 (x0n l) ((j+1:Nat):Int))=_:=hp.c .fby (j+1) hj2 (x2q hne);simp only[go1,h3];cases hr2:p .fby (j+1)with
   |out=>rw[hr2]at hne;exact(hne rfl).elim
   |bad k=>rfl
   |ok e2 k=>
    obtain⟨k2,n2,s2,o2,a2,u2⟩:=e2;rfl
def w7o {l:List Tk}(hl:LOK l){p:PR}(hp:HP l p)(i:Nat)(hi:i < l.length)(hne:y1i l p i≠ .out):cF 1000252 (kP 339 (x0n l) (i:Int))=some (x6z Ex.row l (y1i l p i)):=by
 have h1:cF 1000271 (kP 339 (x0n l) (i:Int))=_:=hp.c .fby i hi (x2q hne);refine cBp 252 rfl ?_;rw[(b252 ..).2];simp only[b252,oE,oP,go1,Nat.reduceAdd,h1];unfold y1i at hne ⊢;cases hr:p .fby i with
 |out=>rw[hr]at hne;exact(hne rfl).elim
 |bad j=>rfl
 |ok e j=>
  have hj:=hp.lt _ _ _ _ hi hr;rw[hr]at hne;rw[Rs.bind_ok]at hne ⊢;obtain⟨k0,n0,s0,o0,a0,u0⟩:=e;have h2:=x4j l hl j hj (bs [45,62]);simp only[x6z,Ex.row,go1,a0f,a0h,h2];cases ht:isT l j (bs [45,62])with
  |false=>rfl
  |true=>
   rw[ht]at hne;simp only at hne ⊢;have hj2:=hl.next hj (x1s ht);have h3:cF 1000252 (kP 339 (x0n l) ((j+1:Nat):Int))=_:=hp.c .arrow (j+1) hj2 (x2q hne);simp only[go1,h3];cases hr2:p .arrow (j+1)with
   |out=>rw[hr2]at hne;exact(hne rfl).elim
   |bad k=>rfl
   |ok e2 k=>
    obtain⟨k2,n2,s2,o2,a2,u2⟩:=e2;rfl
def k6z {l:List Tk}(hl:LOK l){p:PR}(hp:HP l p)(i:Nat)(hi:i < l.length)(hne:v4i l p i≠ .out):cF 1000309 (kP 339 (x0n l) (i:Int))=some (x6z Ex.row l (v4i l p i)):=by
 have h1:cF 1000312 (kP 339 (x0n l) (i:Int))=_:=hp.c .sum i hi (x2q hne);refine cBp 309 rfl ?_;rw[(b309 ..).2];simp only[b309,oE,oP,go1,Nat.reduceAdd,h1];unfold v4i at hne ⊢;cases hr:p .sum i with
 |out=>rw[hr]at hne;exact(hne rfl).elim
 |bad j=>rfl
 |ok e j=>
  have hj:=hp.lt _ _ _ _ hi hr;rw[hr]at hne;rw[Rs.bind_ok]at hne ⊢;obtain⟨k0,n0,s0,o0,a0,u0⟩:=e;have h2:=w1h l hl j hj 11 5 (by omega)
  have h2:cF 1000307 (kO 11 16 (x0n l) (j:Int))=_:=h2;simp only[x6z,Ex.row,go1,Nat.reduceAdd,a0f,a0h,h2];cases ho:z6y l j 11 6 with
  |none=>rfl
  |some o=>
   rw[ho]at hne;simp only at hne ⊢;have hj2:=hl.next hj (x4m ho).1;have h3:cF 1000312 (kP 339 (x0n l) ((j+1:Nat):Int))=_:=hp.c .sum (j+1) hj2 (x2q hne);simp only[go1,h3];cases hr2:p .sum (j+1)with
   |out=>rw[hr2]at hne;exact(hne rfl).elim
   |bad k=>rfl
   |ok e2 k=>
    obtain⟨k2,n2,s2,o2,a2,u2⟩:=e2;have h4:=u3b o _ _ k0 n0 s0 o0 a0 u0 k2 n2 s2 o2 a2 u2 rfl rfl;simp only[x6z,Ex.row,go1,a0f,a0h,h4,x5e];rfl
def a_pun {l:List Tk}(hl:LOK l){p:PR}(hp:HP l p)(i:Nat)(hi:i < l.length)(hne:unS l p i≠ .out):cF 1000315 (kP 339 (x0n l) (i:Int))=some (x6z Ex.row l (unS l p i)):=by
 have h1:=x4j l hl i hi (bs [45]);have h2:=x4j l hl i hi (bs [110,111,116]);have h3:=x4j l hl i hi (bs [112,114,101]);refine cBp 315 rfl ?_;rw[(b315 ..).2];simp only[b315,oE,oP,go1,Nat.reduceAdd,h1];unfold unS at hne ⊢;cases t1:isT l i (bs [45])with
 |true=>
  rw[t1]at hne;simp only at hne ⊢;have h4:cF 1000315 (kP 339 (x0n l) ((i+1:Nat):Int))=_:=hp.c .un (i+1) (hl.next hi (x1s t1)) (x2q hne);simp only[go1,h4];cases hr:p .un (i+1)with
  |out=>rw[hr]at hne;exact(hne rfl).elim
  |bad j=>rfl
  |ok e j=>obtain⟨k0,n0,s0,o0,a0,u0⟩:=e;rfl
 |false=>
  rw[t1]at hne;simp only[go1,h2]at hne ⊢;cases t2:isT l i (bs [110,111,116])with
  |true=>
   rw[t2]at hne;simp only at hne ⊢;have h4:cF 1000315 (kP 339 (x0n l) ((i+1:Nat):Int))=_:=hp.c .un (i+1) (hl.next hi (x1s t2)) (x2q hne);simp only[go1,h4];cases hr:p .un (i+1)with
   |out=>rw[hr]at hne;exact(hne rfl).elim
   |bad j=>rfl
   |ok e j=>obtain⟨k0,n0,s0,o0,a0,u0⟩:=e;rfl
  |false=>
   rw[t2]at hne;simp only[go1,h3]at hne ⊢;cases t3:isT l i (bs [112,114,101])with
   |true=>
    rw[t3]at hne;simp only at hne ⊢;have h4:cF 1000315 (kP 339 (x0n l) ((i+1:Nat):Int))=_:=hp.c .un (i+1) (hl.next hi (x1s t3)) (x2q hne);simp only[go1,h4];cases hr:p .un (i+1)with
    |out=>rw[hr]at hne;exact(hne rfl).elim
    |bad j=>rfl
    |ok e j=>obtain⟨k0,n0,s0,o0,a0,u0⟩:=e;rfl
   |false=>
    rw[t3]at hne;simp only at hne ⊢;have h4:cF 1000316 (kP 339 (x0n l) (i:Int))=_:=hp.c .post i hi hne;simp only[go1,h4];cases hr:p .post i with
    |out=>exact(hne hr).elim
    |bad j=>rfl
    |ok e j=>obtain⟨k0,n0,s0,o0,a0,u0⟩:=e;rfl
theorem x9h (e:Ex): ∀es:List Ex,Ex.rows (es++[e])=Ex.rows es++[e.row]
 | []=>rfl
 |a::es=>by show a.row::Ex.rows (es++[e])=_;rw[x9h e es];rfl
theorem x0h: ∀es:List Ex,(Ex.rows es).length=es.length
 | []=>rfl
 |a::es=>by show(a.row::Ex.rows es).length=_;rw[a0a,x0h es];rfl
theorem k9a (s:BA)(w:List BA):[D.str s]::x0b w=x0b (s::w):=rfl
theorem x1m {l:List Tk}{u:Unit}: ∀ {w:List BA} {i j:Nat},x2i l w i= .ok u j->i<=j
 | [],i,j,h=>by cases h;exact a0q _
 |x::w,i,j,h=>by
  unfold x2i at h;split at h
  ·have:=x1m h;omega
  ·cases h
theorem y7d {l:List Tk}{i j:Nat}{a:BA}(h:z3d l i= .ok a j):j=i+1:=by
 unfold z3d at h;split at h<;>cases h;rfl
theorem x4u {l:List Tk}{i j:Nat}{a:BA}(h:x4x l i= .ok a j):j=i+1:=by
 unfold x4x at h;split at h<;>cases h;rfl
section
variable {l : List Tk} (hl : LOK l) {n : Nat} {p : PR} (hp : HP l p)
include hl hp
theorem q7p (i:Nat)(hi:i < l.length)(hne:y1k l n p i≠ .out):cF 1000316 (kP 339 (x0n l) (i:Int))=some (x6z Ex.row l (y1k l n p i)):=by
 have h1:cF 1000317 (kP 339 (x0n l) (i:Int))=_:=hp.c .atom i hi (x2q hne);refine cBp 316 rfl ?_;rw[(b316 ..).2];simp only[b316,oE,oP,oT,go1,Nat.reduceAdd,h1,y1j];unfold y1k at hne ⊢;cases hr:p .atom i with
 |out=>rw[hr]at hne;exact(hne rfl).elim
 |bad j=>rfl
 |ok e j=>
  have hj:=hp.lt _ _ _ _ hi hr;rw[hr]at hne;rw[Rs.bind_ok]at hne ⊢;generalize hR:x2o (x9n l p) n (e,j)=R at hne ⊢;have e0: ∃k0 n0 s0 o0 a0 u0,e= .mk k0 n0 s0 o0 a0 u0:=by obtain⟨k0,n0,s0,o0,a0,u0⟩:=e;exact⟨_,_,_,_,_,_,rfl⟩
  obtain⟨k0,n0,s0,o0,a0,u0,rfl⟩:=e0;simp only[x6z,Ex.row,go1,a0f,a0h];refine x0w (fun x:Nat × Ex × Nat=>[.sl 4 (x0n l), .int .i64 (x.2.2:Int), .int .i64 0, .int .i64 0, .str (bs []), .int .i64 0]++x.2.1.row) (fun x=>x2o (x9n l p) x.1 (x.2.1,x.2.2)=R/\x.2.2 < l.length) (fun x=>x.1) (fun x hx=> ?_) (n, .mk k0 n0 s0 o0 a0 u0,j) ⟨hR,hj⟩
  obtain⟨n1,⟨k1,m1,s1,o1,a1,u1⟩,i1⟩:=x;obtain⟨hx,hi1⟩:=hx;simp only at hx hi1 ⊢;cases n1 with
  |zero=>exact(hne hx.symm).elim
  |succ n1=>
   have h2:=x4j l hl i1 hi1 (bs [91]);have h3:=x4j l hl i1 hi1 (bs [119,104,101,110]);rw[x2o,x9n]at hx;simp only[Ex.row,go1,a0f,a0h,h2];cases ht:isT l i1 (bs [91])with
   |true=>
    have hi2:=hl.next hi1 (x1s ht);rw[ht]at hx;simp only at hx;have hq:p .arrow (i1+1)≠ .out:=fun e=>hne (by rw[e]at hx;exact hx.symm)
    have h4:cF 1000252 (kP 339 (x0n l) ((i1+1:Nat):Int))=_:=hp.c .arrow (i1+1) hi2 hq;simp only[go1,h4];cases hr2:p .arrow (i1+1)with
    |out=>exact(hq hr2).elim
    |bad j2=>right;rw[hr2]at hx;rw[<-hx];rfl
    |ok e2 j2=>
     have hj2:=hp.lt _ _ _ _ hi2 hr2;obtain⟨k3,n3,s3,o3,a3,u3⟩:=e2;have h5:=x5u l hl [bs [93]] (by simp) j2 hj2
     simp only[x6z,Ex.row,go1,a0f,a0h,h5];rw[hr2,Rs.bind_ok]at hx;cases hr3:x2i l [bs [93]] j2 with
     |out=>exact(x1o hr3).elim
     |bad j3=>right;rw[hr3]at hx;rw[<-hx];rfl
     |ok u j3=>
      left
      rw[hr3]at hx;exact⟨(n1,ex 15 [.mk k1 m1 s1 o1 a1 u1, .mk k3 n3 s3 o3 a3 u3],j3),rfl,⟨hx,x4a hl hj2 hr3⟩,a1p _⟩
   |false=>
    rw[ht]at hx;simp only[go1,h3]at hx ⊢;cases ht2:isT l i1 (bs [119,104,101,110])with
    |true=>
     have hi2:=hl.next hi1 (x1s ht2);have h4:=w1g l hl (i1+1) hi2;rw[ht2]at hx;simp only[go1,h4]at hx ⊢;cases hr2:x7e l (i1+1)with
     |out=>rw[hr2]at hx;exact(hne hx.symm).elim
     |bad j2=>right;rw[hr2]at hx;rw[<-hx];rfl
     |ok w j2=>
      left
      rw[hr2]at hx;obtain⟨w1,w2⟩:=w;exact⟨(n1, .mk 11 0 w1 0 [w2] [.mk k1 m1 s1 o1 a1 u1],j2),rfl,⟨hx,y8q hl hi2 hr2⟩,a1p _⟩
    |false=>
     right
     rw[ht2]at hx;rw[<-hx];rfl
theorem w7m (i:Nat)(hi:i < l.length)(hne:x8i l p i≠ .out):cF 1000320 (kP 339 (x0n l) (i:Int))=some (x6z Ex.row l (x8i l p i)):=by
 have h1:cF 1000252 (kP 339 (x0n l) (i:Int))=_:=hp.c .arrow i hi (x2q hne);refine cBp 320 rfl ?_;rw[(b320 ..).2];simp only[b320,oE,oP,go1,Nat.reduceAdd,h1,y1j,k9a];unfold x8i at hne ⊢;cases hr:p .arrow i with
 |out=>rw[hr]at hne;exact(hne rfl).elim
 |bad j=>rfl
 |ok e j=>
  have hj:=hp.lt _ _ _ _ hi hr;rw[hr]at hne;rw[Rs.bind_ok]at hne ⊢;obtain⟨k0,n0,s0,o0,a0,u0⟩:=e;have h2:=x4j l hl j hj (bs [119,105,116,104]);simp only[x6z,Ex.row,go1,a0f,a0h,h2];cases ht:isT l j (bs [119,105,116,104])with
  |false=>
   have h3:=x5u l hl [bs [41]] (by simp) j hj
   simp only[go1,h3];cases hr2:x2i l [bs [41]] j<;>first|rfl|exact(x1o hr2).elim
  |true=>
   rw[ht]at hne;simp only at hne ⊢;have hj1:=hl.next hj (x1s ht);have h3:=x5u l hl [bs [91]] (by simp) (j+1) hj1
   simp only[go1,h3];cases hr2:x2i l [bs [91]] (j+1)with
   |out=>exact(x1o hr2).elim
   |bad k=>rfl
   |ok u k=>
    have hk:=x4a hl hj1 hr2;rw[hr2,Rs.bind_ok]at hne;have h4:cF 1000252 (kP 339 (x0n l) (k:Int))=_:=hp.c .arrow k hk (x2q hne);simp only[w2u,go1,h4,Rs.bind_ok];cases hr3:p .arrow k with
    |out=>rw[hr3]at hne;exact(hne rfl).elim
    |bad m=>rfl
    |ok a m=>
     have hm:=hp.lt _ _ _ _ hk hr3;rw[hr3,Rs.bind_ok]at hne;obtain⟨k1,n1,s1,o1,a1,u1⟩:=a;have h5:=x5u l hl [bs [93],bs [61]] (by simp) m hm
     simp only[x6z,Ex.row,go1,a0f,a0h,h5,Rs.bind_ok];cases hr4:x2i l [bs [93],bs [61]] m with
     |out=>exact(x1o hr4).elim
     |bad q=>rfl
     |ok u2 q=>
      have hq:=x4a hl hm hr4;rw[hr4,Rs.bind_ok]at hne;have h6:cF 1000252 (kP 339 (x0n l) (q:Int))=_:=hp.c .arrow q hq (x2q hne);simp only[w2u,go1,h6,Rs.bind_ok];cases hr5:p .arrow q with
      |out=>rw[hr5]at hne;exact(hne rfl).elim
      |bad m=>rfl
      |ok b z=>
       have hz:=hp.lt _ _ _ _ hq hr5;obtain⟨k2,n2,s2,o2,a2,u2⟩:=b;have h7:=x5u l hl [bs [41]] (by simp) z hz
       simp only[x6z,Ex.row,go1,a0f,a0h,h7,Rs.bind_ok];cases hr6:x2i l [bs [41]] z<;>first|rfl|exact(x1o hr6).elim
theorem w2d (i:Nat)(hi:i < l.length)(hne:x7a l p i≠ .out):cF 1000322 (kP 339 (x0n l) (i:Int))=some (x6z Ex.row l (x7a l p i)):=by
 have h1:cF 1000252 (kP 339 (x0n l) (i:Int))=_:=hp.c .arrow i hi (x2q hne);refine cBp 322 rfl ?_;rw[(b322 ..).2];simp only[b322,oE,oP,go1,Nat.reduceAdd,h1,y1j];unfold x7a at hne ⊢;cases hr:p .arrow i with
 |out=>rw[hr]at hne;exact(hne rfl).elim
 |bad j=>rfl
 |ok e j=>
  have hj:=hp.lt _ _ _ _ hi hr;rw[hr]at hne;rw[Rs.bind_ok]at hne ⊢;obtain⟨k0,n0,s0,o0,a0,u0⟩:=e;have h3:=x5u l hl [bs [116,104,101,110]] (by simp) j hj
  simp only[x6z,Ex.row,go1,a0f,a0h,h3];cases hr2:x2i l [bs [116,104,101,110]] j with
  |out=>exact(x1o hr2).elim
  |bad k=>rfl
  |ok u k=>
   have hk:=x4a hl hj hr2;rw[hr2,Rs.bind_ok]at hne;have h4:cF 1000252 (kP 339 (x0n l) (k:Int))=_:=hp.c .arrow k hk (x2q hne);simp only[w2u,go1,h4,Rs.bind_ok];cases hr3:p .arrow k with
   |out=>rw[hr3]at hne;exact(hne rfl).elim
   |bad m=>rfl
   |ok a m=>
    have hm:=hp.lt _ _ _ _ hk hr3;rw[hr3,Rs.bind_ok]at hne;obtain⟨k1,n1,s1,o1,a1,u1⟩:=a;have h5:=x5u l hl [bs [101,108,115,101]] (by simp) m hm
    simp only[x6z,Ex.row,go1,a0f,a0h,h5,Rs.bind_ok];cases hr4:x2i l [bs [101,108,115,101]] m with
    |out=>exact(x1o hr4).elim
    |bad q=>rfl
    |ok u2 q=>
     have hq:=x4a hl hm hr4;rw[hr4,Rs.bind_ok]at hne;have h6:cF 1000252 (kP 339 (x0n l) (q:Int))=_:=hp.c .arrow q hq (x2q hne);simp only[w2u,go1,h6,Rs.bind_ok];cases hr5:p .arrow q with
     |out=>rw[hr5]at hne;exact(hne rfl).elim
     |bad m=>rfl
     |ok b z=>obtain⟨k2,n2,s2,o2,a2,u2⟩:=b;rfl
theorem u8x {es:List Ex}{i:Nat}(he:es.length<=i)(hi:i < l.length)(r:List D):decide (((Ex.rows es).length+[r].length)*(88+1)<=140737488355328)=true:=by
 have:=hl.few;rw[x0h];exact a0s (by simp only[a0a,a0d];omega)
theorem w2e {β:Type}(f:PRes->β)(nm:BA)(es:List Ex)(j:Nat)(hj:j < l.length)(he:es.length<=j)(hne:y1n l p nm es j≠ .out):
  ((cF 1000272 (kS 0 (bs [101,118,101,114,121]) (x0n l) (j:Int))).bind fun p62=>(opB (sy.cell p62.leaves 0)).bind fun b64=>(opL (sy.cell p62.leaves 1) 4).bind fun l65=>(opI (sy.cell p62.leaves 2) .i64).bind fun n66=>
    bif b64 then(cF 1000316 (kP 339 l65 n66)).bind fun p67=>(opB (sy.cell p67.leaves 0)).bind fun b69=>
     bif b69 then(opI (sy.cell p67.leaves 1) .i64).bind fun n70=>(opL (sy.cell p67.leaves 2) 4).bind fun l71=>(opI (sy.cell p67.leaves 3) .i64).bind fun n72=>some (f (PRes.val [.bool true, .int .i64 n70, .sl 4 l71, .int .i64 n72]))
     else(opI (sy.cell p67.leaves 1) .i64).bind fun n73=>(opI (sy.cell p67.leaves 2) .i64).bind fun n74=>(opS (sy.cell p67.leaves 3)).bind fun s75=>(opI (sy.cell p67.leaves 4) .i64).bind fun n76=>(opL (sy.cell p67.leaves 5) 1).bind fun l77=>(opL (sy.cell p67.leaves 6) 6).bind fun l78=>
      (opL (sy.cell p67.leaves 7) 4).bind fun l79=>(opI (sy.cell p67.leaves 8) .i64).bind fun n80=>
       bif decide (((Ex.rows es).length+[[D.int .i64 n73, .int .i64 n74, .str s75, .int .i64 n76, .sl 1 l77, .sl 6 l78]].length)*(88+1)<=140737488355328)then
        some (f (PRes.val [.bool false, .int .i64 13, .int .i64 1, .str nm, .int .i64 0, .sl 1 [], .sl 6 (Ex.rows es++[[.int .i64 n73, .int .i64 n74, .str s75, .int .i64 n76, .sl 1 l77, .sl 6 l78]]), .sl 4 l79, .int .i64 n80]))
       else none
    else some (f (PRes.val [.bool false, .int .i64 13, .int .i64 0, .str nm, .int .i64 0, .sl 1 [], .sl 6 (Ex.rows es), .sl 4 l65, .int .i64 n66])))=some (f (x6z Ex.row l (y1n l p nm es j))):=by
 have h1:=x4j l hl j hj (bs [101,118,101,114,121]);unfold y1n at hne ⊢;rw[h1];cases ht:isT l j (bs [101,118,101,114,121])with
 |false=>simp only[go1,Nat.reduceAdd];rfl
 |true=>
  rw[ht]at hne;simp only at hne;have hj1:=hl.next hj (x1s ht);have h2:cF 1000316 (kP 339 (x0n l) ((j+1:Nat):Int))=_:=hp.c .post (j+1) hj1 (x2q hne);simp only[go1,Nat.reduceAdd,h2];cases hr:p .post (j+1)with
  |out=>rw[hr]at hne;exact(hne rfl).elim
  |bad k=>rfl
  |ok e k=>
   obtain⟨k0,n0,s0,o0,a0,u0⟩:=e;have h3:=u8x hl hp he hj (Ex.row (.mk k0 n0 s0 o0 a0 u0));simp only[Ex.row]at h3;simp only[x6z,Ex.row,go1,a0f,a0h,h3,Rs.bind_ok,x9h];rfl
theorem q7q (nm:BA)(i:Nat)(hi:i < l.length)(hne:y3z l n p nm i≠ .out):cF 1000323 (kS 339 nm (x0n l) (i:Int))=some (x6z Ex.row l (y3z l n p nm i)):=by
 have h1:=x4j l hl i hi (bs [41]);refine cBp 323 rfl ?_;rw[(b323 ..).2];simp only[b323,oE,oP,oT,go1,Nat.reduceAdd,h1,y1j];unfold y3z at hne ⊢;cases ht:isT l i (bs [41])with
 |true=>
  rw[ht]at hne;simp only[go1]at hne ⊢;have:=w2e hl hp (fun x=>x) nm [] (i+1) (hl.next hi (x1s ht)) (a0w _) hne
  exact this
 |false=>
  rw[ht]at hne;simp only[go1]at hne ⊢;have hq:p .arrow i≠ .out:=x2q (x2q hne);have h2:cF 1000252 (kP 339 (x0n l) (i:Int))=_:=hp.c .arrow i hi hq;unfold y3t at hne ⊢;rw[h2];cases hr:p .arrow i with
  |out=>exact(hq hr).elim
  |bad j=>rfl
  |ok e j=>
   have hj:=hp.lt _ _ _ _ hi hr;have hg:=hp.gt _ _ _ _ hi hr;rw[hr]at hne;rw[Rs.bind_ok]at hne ⊢;generalize hR:x2o (y0v l p (bs [41])) n ([e],j)=R at hne ⊢;have e0: ∃k0 n0 s0 o0 a0 u0,e= .mk k0 n0 s0 o0 a0 u0:=by obtain⟨k0,n0,s0,o0,a0,u0⟩:=e;exact⟨_,_,_,_,_,_,rfl⟩
   obtain⟨k0,n0,s0,o0,a0,u0,rfl⟩:=e0;simp only[x6z,Ex.row,go1,a0f,a0h];refine x0w (fun x:Nat × List Ex × Nat=>[.str (bs [41]), .sl 4 (x0n l), .int .i64 (x.2.2:Int), .int .i64 0, .int .i64 0, .str (bs []), .int .i64 0, .int .i64 13, .int .i64 0, .str nm, .int .i64 0, .sl 6 (Ex.rows x.2.1)]) (fun x=>x2o (y0v l p (bs [41])) x.1 (x.2.1,x.2.2)=R/\x.2.2 < l.length/\x.2.1.length<=x.2.2) (fun x=>x.1) (fun x hx=> ?_) (n,[.mk k0 n0 s0 o0 a0 u0],j) ⟨hR,hj,by simp only[a0a,a0d];omega⟩
   obtain⟨n1,es,i1⟩:=x;obtain⟨hx,hi1,hel⟩:=hx;simp only at hx hi1 hel ⊢;cases n1 with
   |zero=>exact(hne (by rw[<-hx];rfl)).elim
   |succ n1=>
    have h3:=x4j l hl i1 hi1 (bs [44]);rw[x2o,y0v]at hx;simp only[go1,h3];cases ht2:isT l i1 (bs [44])with
    |true=>
     have hi2:=hl.next hi1 (x1s ht2);rw[ht2]at hx;simp only at hx;have hq2:p .arrow (i1+1)≠ .out:=fun e=>hne (by rw[e]at hx;rw[<-hx];rfl)
     have h4:cF 1000252 (kP 339 (x0n l) ((i1+1:Nat):Int))=_:=hp.c .arrow (i1+1) hi2 hq2;simp only[go1,h4];cases hr2:p .arrow (i1+1)with
     |out=>exact(hq2 hr2).elim
     |bad j2=>right;rw[hr2]at hx;rw[<-hx];rfl
     |ok e2 j2=>
      left
      have hj2:=hp.lt _ _ _ _ hi2 hr2;have hg2:=hp.gt _ _ _ _ hi2 hr2;rw[hr2]at hx;obtain⟨k3,n3,s3,o3,a3,u3⟩:=e2;have h5:=u8x hl hp hel hi1 (Ex.row (.mk k3 n3 s3 o3 a3 u3));simp only[Ex.row]at h5;refine⟨(n1,es++[.mk k3 n3 s3 o3 a3 u3],j2),?_,⟨hx,hj2,by simp only[a0k,a0a,a0d];omega⟩,a1p _⟩
      simp only[x6z,Ex.row,go1,a0f,a0h,h5,x9h]
    |false=>
     right
     rw[ht2]at hx;simp only[go1]at hx ⊢;have h4:=x5u l hl [bs [41]] (by simp) i1 hi1
     simp only[h4,go1];cases hr3:x2i l [bs [41]] i1 with
     |out=>exact(x1o hr3).elim
     |bad j3=>rw[hr3]at hx;rw[<-hx];rfl
     |ok u j3=>
      rw[hr3,Rs.bind_ok]at hx;rw[<-hx,Rs.bind_ok]at hne ⊢;have hj3:=x4a hl hi1 hr3;have:=w2e hl hp (Sum.inr (α:=List D)) nm es j3 hj3 (by have:=x1m hr3;omega) hne
      simp only[w2u,go1];exact this
theorem w7n (i:Nat)(hi:i < l.length)(hne:x9v l n p i≠ .out):cF 1000321 (kP 339 (x0n l) (i:Int))=some (x6z Ex.row l (x9v l n p i)):=by
 have h1:=z2v l hl i hi;refine cBp 321 rfl ?_;rw[(b321 ..).2];simp only[b321,oE,oP,oT,go1,Nat.reduceAdd,h1,y1j];unfold x9v at hne ⊢;cases hr:x4x l i with
 |out=>exact(x6m hr).elim
 |bad j=>rfl
 |ok nm j=>
  have hj:=x8j hl hi hr;rw[hr,Rs.bind_ok]at hne;have h2:=x5u l hl [bs [40]] (by simp) j hj
  simp only[x6z,sD,go1,a0f,a0h,h2,Rs.bind_ok];cases hr2:x2i l [bs [40]] j with
  |out=>exact(x1o hr2).elim
  |bad k=>rfl
  |ok u k=>
   have hk:=x4a hl hj hr2;rw[hr2,Rs.bind_ok]at hne;rw[Rs.bind_ok];generalize hR:x2o (x4q l p) n ([],[],k,true)=R at hne ⊢;simp only[w2u,go1];refine x0w (fun x:Nat × List BA × List Ex × Nat × Bool=>[.bool x.2.2.2.2, .sl 4 (x0n l), .int .i64 (x.2.2.2.1:Int), .int .i64 0, .int .i64 0, .str (bs []), .int .i64 0, .int .i64 12, .int .i64 0, .str nm, .int .i64 0, .sl 1 (x0b x.2.1), .sl 6 (Ex.rows x.2.2.1)]) (fun x=>x2o (x4q l p) x.1 (x.2.1,x.2.2.1,x.2.2.2.1,x.2.2.2.2)=R/\x.2.2.2.1 < l.length/\x.2.2.1.length<=x.2.2.2.1/\x.2.1.length<=x.2.2.2.1) (fun x=>x.1) (fun x hx=> ?_) (n,[],[],k,true) ⟨hR,hk,a0w _,a0w _⟩
   obtain⟨n1,ar,es,i1,ag⟩:=x;obtain⟨hx,hi1,hel,hal⟩:=hx;simp only at hx hi1 hel hal ⊢;cases n1 with
   |zero=>exact(hne (by rw[<-hx];rfl)).elim
   |succ n1=>
    cases ag with
    |false=>
     right
     rw[x2o,x4q]at hx;simp only[go1];rw[<-hx];rfl
    |true=>
     rw[x2o,x4q]at hx;have h3:=q0f l hl i1 hi1;simp only[go1,h3];cases hr3:z3d l i1 with
     |out=>exact(z8o hr3).elim
     |bad j2=>right;rw[hr3]at hx;rw[<-hx];rfl
     |ok a j2=>
      have hj2:=y7c hl hi1 hr3;rw[hr3,Rs.bind_ok]at hx;have h4:=x5u l hl [bs [45,62]] (by simp) j2 hj2
      have hf:=hl.few;have f1:decide (((x0b ar).length+[[D.str a]].length)*(16+1)<=140737488355328)=true:=by
       rw[x0e];exact a0s (by simp only[a0a,a0d];omega)
      have f1:decide (((x0b ar).length+(x0b [a]).length)*(16+1)<=140737488355328)=true:=f1;simp only[x6z,sD,go1,a0f,a0h,f1,h4];cases hr4:x2i l [bs [45,62]] j2 with
      |out=>exact(x1o hr4).elim
      |bad j3=>right;rw[hr4]at hx;rw[<-hx];rfl
      |ok u2 j3=>
       have hj3:=x4a hl hj2 hr4;rw[hr4,Rs.bind_ok]at hx;have hq:p .arrow j3≠ .out:=fun e=>hne (by rw[e]at hx;rw[<-hx];rfl)
       have h5:cF 1000252 (kP 339 (x0n l) (j3:Int))=_:=hp.c .arrow j3 hj3 hq;simp only[w2u,go1,h5];cases hr5:p .arrow j3 with
       |out=>exact(hq hr5).elim
       |bad j4=>right;rw[hr5]at hx;rw[<-hx];rfl
       |ok e j4=>
        have hj4:=hp.lt _ _ _ _ hj3 hr5;have hg:=hp.gt _ _ _ _ hj3 hr5;have l1:=y7d hr3;have l2:=x1m hr4;rw[hr5,Rs.bind_ok]at hx;obtain⟨k3,n3,s3,o3,a3,u3⟩:=e;have h6:=x5u l hl [bs [41]] (by simp) j4 hj4
        have f2:=u8x hl hp hel hi1 (Ex.row (.mk k3 n3 s3 o3 a3 u3));simp only[Ex.row]at f2;simp only[x6z,Ex.row,go1,a0f,a0h,f2,h6];cases hr6:x2i l [bs [41]] j4 with
        |out=>exact(x1o hr6).elim
        |bad j5=>right;rw[hr6]at hx;rw[<-hx];rfl
        |ok u3' j5=>
         have hj5:=x4a hl hj4 hr6;have l3:=x1m hr6;rw[hr6,Rs.bind_ok]at hx;simp only at hx;have h7:=x4j l hl j5 hj5 (bs [40]);simp only[w2u,go1,h7]
         left
         cases ht:isT l j5 (bs [40])with
         |true=>
          rw[ht]at hx;refine⟨(n1,ar++[a],es++[.mk k3 n3 s3 o3 a3 u3],j5+1,true),?_,⟨hx,hl.next hj5 (x1s ht),by simp only[a0k,a0a,a0d];omega,by simp only[a0k,a0a,a0d];omega⟩,a1p _⟩
          simp only[go1,x9h,y4h,Ex.row]
         |false=>
          rw[ht]at hx;refine⟨(n1,ar++[a],es++[.mk k3 n3 s3 o3 a3 u3],j5,false),?_,⟨hx,hj5,by simp only[a0k,a0a,a0d];omega,by simp only[a0k,a0a,a0d];omega⟩,a1p _⟩
          simp only[go1,x9h,y4h,Ex.row]
theorem q7n (i:Nat)(hi:i < l.length)(hne:x7q l n p i≠ .out):cF 1000318 (kP 339 (x0n l) (i:Int))=some (x6z Ex.row l (x7q l n p i)):=by
 have h1:=x4j l hl i hi (bs [116,114,117,101]);have h2:=x4j l hl i hi (bs [102,97,108,115,101]);have h3:=x4j l hl i hi (bs [91]);have h4:=x4j l hl i hi (bs [40]);have h5:=x4j l hl i hi (bs [109,101,114,103,101]);have h6:=x4j l hl i hi (bs [105,102]);refine cBp 318 rfl ?_;rw[(b318 ..).2];simp only[b318,oE,oP,go1,Nat.reduceAdd,h1,y1j];unfold x7q at hne ⊢;cases t1:isT l i (bs [116,114,117,101])with
 |true=>rw[show isT l i x7k=true from t1];rfl
 |false=>
  rw[show isT l i x7k=false from t1]at hne ⊢;simp only[go1,h2]at hne ⊢;cases t2:isT l i (bs [102,97,108,115,101])with
  |true=>rw[show isT l i x4k=true from t2];rfl
  |false=>
   rw[show isT l i x4k=false from t2]at hne ⊢;simp only[go1,h3]at hne ⊢;cases t3:isT l i (bs [91])with
   |true=>
    have hi1:=hl.next hi (x1s t3);rw[t3]at hne;simp only[go1]at hne ⊢;have hq:p .arrow (i+1)≠ .out:=x2q (x2q hne);have k2:cF 1000252 (kP 339 (x0n l) ((i+1:Nat):Int))=_:=hp.c .arrow (i+1) hi1 hq;unfold y3t at hne ⊢;rw[k2];cases hr:p .arrow (i+1)with
    |out=>exact(hq hr).elim
    |bad j=>rfl
    |ok e j=>
     have hj:=hp.lt _ _ _ _ hi1 hr;have hg:=hp.gt _ _ _ _ hi1 hr;rw[hr]at hne;rw[Rs.bind_ok]at hne ⊢;generalize hR:x2o (y0v l p (bs [93])) n ([e],j)=R at hne ⊢;have e0: ∃k0 n0 s0 o0 a0 u0,e= .mk k0 n0 s0 o0 a0 u0:=by obtain⟨k0,n0,s0,o0,a0,u0⟩:=e;exact⟨_,_,_,_,_,_,rfl⟩
     obtain⟨k0,n0,s0,o0,a0,u0,rfl⟩:=e0;simp only[x6z,Ex.row,go1,a0f,a0h];refine x0w (fun x:Nat × List Ex × Nat=>[.str (bs [93]), .sl 4 (x0n l), .int .i64 (x.2.2:Int), .int .i64 0, .int .i64 0, .str (bs []), .int .i64 0, .sl 6 (Ex.rows x.2.1)]) (fun x=>x2o (y0v l p (bs [93])) x.1 (x.2.1,x.2.2)=R/\x.2.2 < l.length/\x.2.1.length<=x.2.2) (fun x=>x.1) (fun x hx=> ?_) (n,[.mk k0 n0 s0 o0 a0 u0],j) ⟨hR,hj,by simp only[a0a,a0d];omega⟩
     obtain⟨n1,es,i1⟩:=x;obtain⟨hx,hi1,hel⟩:=hx;simp only at hx hi1 hel ⊢;cases n1 with
     |zero=>exact(hne (by rw[<-hx];rfl)).elim
     |succ n1=>
      have h3:=x4j l hl i1 hi1 (bs [44]);rw[x2o,y0v]at hx;simp only[go1,h3];cases ht2:isT l i1 (bs [44])with
      |true=>
       have hi2:=hl.next hi1 (x1s ht2);rw[ht2]at hx;simp only at hx;have hq2:p .arrow (i1+1)≠ .out:=fun e=>hne (by rw[e]at hx;rw[<-hx];rfl)
       have h4:cF 1000252 (kP 339 (x0n l) ((i1+1:Nat):Int))=_:=hp.c .arrow (i1+1) hi2 hq2;simp only[go1,h4];cases hr2:p .arrow (i1+1)with
       |out=>exact(hq2 hr2).elim
       |bad j2=>right;rw[hr2]at hx;rw[<-hx];rfl
       |ok e2 j2=>
        left
        have hj2:=hp.lt _ _ _ _ hi2 hr2;have hg2:=hp.gt _ _ _ _ hi2 hr2;rw[hr2]at hx;obtain⟨k3,n3,s3,o3,a3,u3⟩:=e2;have h5:=u8x hl hp hel hi1 (Ex.row (.mk k3 n3 s3 o3 a3 u3));simp only[Ex.row]at h5;refine⟨(n1,es++[.mk k3 n3 s3 o3 a3 u3],j2),?_,⟨hx,hj2,by simp only[a0k,a0a,a0d];omega⟩,a1p _⟩
        simp only[x6z,Ex.row,go1,a0f,a0h,h5,x9h]
      |false=>
       right
       rw[ht2]at hx;simp only[go1]at hx ⊢;have h4:=x5u l hl [bs [93]] (by simp) i1 hi1
       simp only[h4,go1];cases hr3:x2i l [bs [93]] i1 with
       |out=>exact(x1o hr3).elim
       |bad j3=>rw[hr3]at hx;rw[<-hx];rfl
       |ok u j3=>rw[hr3,Rs.bind_ok]at hx;rw[<-hx];rfl
   |false=>
    rw[t3]at hne;simp only[go1,h4]at hne ⊢;cases t4:isT l i (bs [40])with
    |true=>
     have hi1:=hl.next hi (x1s t4);rw[t4]at hne;simp only[go1]at hne ⊢;have k2:=w7m hl hp (i+1) hi1 hne;rw[k2];cases hr:x8i l p (i+1)with
     |out=>exact(hne hr).elim
     |bad j=>rfl
     |ok e j=>obtain⟨k0,n0,s0,o0,a0,u0⟩:=e;rfl
    |false=>
     rw[t4]at hne;simp only[go1,h5]at hne ⊢;cases t5:isT l i (bs [109,101,114,103,101])with
     |true=>
      have hi1:=hl.next hi (x1s t5);rw[t5]at hne;simp only[go1]at hne ⊢;have k2:=w7n hl hp (i+1) hi1 hne;rw[k2];cases hr:x9v l n p (i+1)with
      |out=>exact(hne hr).elim
      |bad j=>rfl
      |ok e j=>obtain⟨k0,n0,s0,o0,a0,u0⟩:=e;rfl
     |false=>
      rw[t5]at hne;simp only[go1,h6]at hne ⊢;cases t6:isT l i (bs [105,102])with
      |true=>
       have hi1:=hl.next hi (x1s t6);rw[t6]at hne;simp only[go1]at hne ⊢;have k2:=w2d hl hp (i+1) hi1 hne;rw[k2];cases hr:x7a l p (i+1)with
       |out=>exact(hne hr).elim
       |bad j=>rfl
       |ok e j=>obtain⟨k0,n0,s0,o0,a0,u0⟩:=e;rfl
      |false=>
       rw[t6]at hne;have k1:=z2v l hl i hi;simp only[go1,k1]at hne ⊢;cases hr:x4x l i with
       |out=>exact(x6m hr).elim
       |bad j=>rfl
       |ok nm j=>
        have hj:=x8j hl hi hr;rw[hr,Rs.bind_ok]at hne;have k2:=x4j l hl j hj (bs [40]);simp only[x6z,sD,go1,a0f,a0h,k2,Rs.bind_ok];cases t7:isT l j (bs [40])with
        |false=>rfl
        |true=>
         rw[t7]at hne;simp only[go1]at hne ⊢;have k3:=q7q hl hp nm (j+1) (hl.next hj (x1s t7)) hne;rw[k3];cases hr2:y3z l n p nm (j+1)with
         |out=>exact(hne hr2).elim
         |bad k=>rfl
         |ok e k=>obtain⟨k0,n0,s0,o0,a0,u0⟩:=e;rfl
theorem q7r (i:Nat)(hi:i < l.length)(hne:x8e l n p i≠ .out):cF 1000317 (kP 339 (x0n l) (i:Int))=some (x6z Ex.row l (x8e l n p i)):=by
 have hf:=hl.few;have h1:=y8i hi;have h2:=y1w hi;refine cBp 317 rfl ?_;rw[(b317 ..).2];simp only[b317,oE,oP,oT,go1,Nat.reduceAdd,h1,h2,x8q];unfold x8e at hne ⊢;have w:=x0a (i:=i) (n:=l.length) hi (by omega)
 cases q3:decide ((tkA l i).k=3)with
 |true=>simp only[go1,w];rfl
 |false=>
  cases q2:decide ((tkA l i).k=2)with
  |true=>simp only[go1,w];rfl
  |false=>
   cases q4:decide ((tkA l i).k=4)with
   |true=>simp only[go1,w];rfl
   |false=>
    rw[q3,q2,q4]at hne;have k2:=q7n hl hp i hi hne;simp only[go1,k2];cases hr:x7q l n p i with
    |out=>exact(hne hr).elim
    |bad j=>rfl
    |ok e j=>obtain⟨k0,n0,s0,o0,a0,u0⟩:=e;rfl
end
theorem x0d {α β:Type}{r:Rs α}{f:α->Nat->Rs β}{b:β}{j:Nat}(h:r.bind f= .ok b j): ∃a k,r= .ok a k/\f a k= .ok b j:=by
 cases r with
 |ok a k=>exact⟨a,k,rfl,h⟩
 |_=>cases h
theorem x1g {α β:Type}{r:Rs α}{f:α->Nat->Rs β}(h1:r≠ .out)(h2: ∀a k,r= .ok a k->f a k≠ .out):r.bind f≠ .out:=by
 cases r with
 |ok a k=>exact h2 a k rfl
 |bad i=>exact nofun
 |out=>exact(h1 rfl).elim
theorem x3m {σ ρ:Type}{st:σ->σ ⊕ Rs ρ}(P:σ->Prop)(Q:ρ->Nat->Prop)(h1: ∀x y,P x->st x= .inl y->P y)(h2: ∀x r j,P x->st x= .inr (.ok r j)->Q r j): ∀(n:Nat) (x:σ) (r:ρ) (j:Nat),P x->x2o st n x= .ok r j->Q r j
 |0,_,_,_,_,h=>by cases h
 |n+1,x,r,j,hx,h=>by
  unfold x2o at h;cases hs:st x with
  |inl y=>rw[hs]at h;exact x3m P Q h1 h2 n y r j (h1 x y hx hs) h
  |inr q=>rw[hs]at h;simp only at h;subst h;exact h2 x r j hx hs
theorem y5e {σ ρ:Type}{st:σ->σ ⊕ Rs ρ}(P:σ->Prop)(m:σ->Nat)(h1: ∀x y,P x->st x= .inl y->P y/\m y < m x)(h2: ∀x,P x->st x≠ .inr .out): ∀(n:Nat) (x:σ),P x->m x < n->x2o st n x≠ .out
 |0,_,_,h=>by omega
 |n+1,x,hx,h=>by
  unfold x2o;cases hs:st x with
  |inl y=>
   have:=h1 x y hx hs;exact y5e P m h1 h2 n y this.1 (by omega)
  |inr q=>exact fun e=>h2 x hx (by rw[hs];exact congrArg _ e)
def lvl:Nt->Nat
 | .arrow=>10| .fby=>9| .or=>8| .and=>7| .cmp=>6| .sum=>5| .prod=>4| .un=>3| .post=>2| .atom=>1
def Mn (l:List Tk)(nt:Nt)(i:Nat):Nat:=20*(l.length - i)+lvl nt
structure HQ (l:List Tk) (n:Nat) (p:PR):Prop where
 pos: ∀nt i e j,i < l.length->p nt i= .ok e j->i < j/\j < l.length
 ne: ∀nt i,i < l.length->Mn l nt i<=n->p nt i≠ .out
section
variable {l : List Tk} (hl : LOK l) {n : Nat} {p : PR} (hp : HQ l n p)
include hl hp
theorem x2j {w:List BA}{i j:Nat}{u:Unit}(hi:i < l.length)(h:x2i l w i= .ok u j):i<=j/\j < l.length:=⟨x1m h,x4a hl hi h⟩
theorem y4u {i j:Nat}{u:BA}(hi:i < l.length)(h:x4x l i= .ok u j):i < j/\j < l.length:=⟨by rw[x4u h];omega,x8j hl hi h⟩
theorem z6a {i j:Nat}{w:BA × BA}(h:x7e l i= .ok w j):i<=j:=by
 unfold x7e at h;split at h
 ·obtain⟨a,k,h1,h2⟩:=x0d h;cases h2;have:=x4u h1;omega
 ·split at h
  ·obtain⟨a,k,h1,h2⟩:=x0d h;cases h2;have:=x4u h1;omega
  ·obtain⟨a,k,h1,h⟩:=x0d h;obtain⟨_,k2,h2,h⟩:=x0d h;obtain⟨_,k3,h3,h⟩:=x0d h;obtain⟨_,k4,h4,h⟩:=x0d h;cases h;have:=y7d h1;have:=x1m h2;have:=x4u h3;have:=x1m h4;omega
theorem z5z (i:Nat):x7e l i≠ .out:=by
 unfold x7e;split
 ·exact x1g (fun e=>x6m e) fun _ _ _=>nofun
 ·split
  ·exact x1g (fun e=>x6m e) fun _ _ _=>nofun
  ·exact x1g (fun e=>z8o e) fun _ _ _=>x1g (fun e=>x1o e) fun _ _ _=>x1g (fun e=>x6m e) fun _ _ _=>x1g (fun e=>x1o e) fun _ _ _=>nofun
theorem y9c (side:Nt)(a m i:Nat)(e:Ex)(j:Nat)(hi:i < l.length)(h:x5w l n p side a m i= .ok e j):i < j/\j < l.length:=by
 unfold x5w at h;obtain⟨e1,k,h1,h⟩:=x0d h;have hk:=hp.pos _ _ _ _ hi h1;refine x3m (fun x:Ex × Nat=>i < x.2/\x.2 < l.length) (fun _ j=>i < j/\j < l.length) (fun x y hx hs=> ?_) (fun x r j hx hs=> ?_) n (e1,k) e j hk h
 ·obtain⟨e2,i2⟩:=x;rw[x6y]at hs;split at hs
  ·cases hs
  ·rename_i o ho;split at hs
   ·rename_i e3 j3 h3;cases hs;have:=hp.pos _ _ _ _ (hl.next hx.2 (x4m ho).1) h3;exact⟨by have:=hx.1;show i < j3;omega,this.2⟩
   ·cases hs
   ·cases hs
 ·obtain⟨e2,i2⟩:=x;rw[x6y]at hs;split at hs
  ·cases hs;exact hx
  ·split at hs<;>cases hs
theorem z7i (side nt:Nt)(hs:lvl side < lvl nt)(h10:lvl side<=10)(a m i:Nat)(hi:i < l.length)(hM:Mn l nt i<=n+1):x5w l n p side a m i≠ .out:=by
 unfold Mn at hM;refine x1g (hp.ne _ _ hi (by unfold Mn;omega)) fun e k h1=> ?_
 have hk:=hp.pos _ _ _ _ hi h1;refine y5e (fun x:Ex × Nat=>i < x.2/\x.2 < l.length) (fun x=>l.length - x.2) (fun x y hx hs=> ?_) (fun x hx hs=> ?_) n (e,k) hk (by simp only;omega)
 ·obtain⟨e2,i2⟩:=x;obtain⟨hx1,hx2⟩:=hx;simp only at hx1 hx2;rw[x6y]at hs;split at hs
  ·cases hs
  ·rename_i o ho;split at hs
   ·rename_i e3 j3 h3;cases hs;have:=hp.pos _ _ _ _ (hl.next hx2 (x4m ho).1) h3;simp only;omega
   ·cases hs
   ·cases hs
 ·obtain⟨e2,i2⟩:=x;obtain⟨hx1,hx2⟩:=hx;simp only at hx1 hx2;rw[x6y]at hs;split at hs
  ·cases hs
  ·rename_i o ho;split at hs
   ·cases hs
   ·cases hs
   ·rename_i h3;exact hp.ne _ _ (hl.next hx2 (x4m ho).1) (by unfold Mn;omega) h3
theorem w4d (i:Nat)(e:Ex)(j:Nat)(hi:i < l.length)(h:y1k l n p i= .ok e j):i < j/\j < l.length:=by
 unfold y1k at h;obtain⟨e1,k,h1,h⟩:=x0d h;have hk:=hp.pos _ _ _ _ hi h1;refine x3m (fun x:Ex × Nat=>i < x.2/\x.2 < l.length) (fun _ j=>i < j/\j < l.length) (fun x y hx hs=> ?_) (fun x r j hx hs=> ?_) n (e1,k) e j hk h
 ·obtain⟨e2,i2⟩:=x;obtain⟨hx1,hx2⟩:=hx;simp only at hx1 hx2;rw[x9n]at hs;split at hs
  ·rename_i ht;split at hs
   ·rename_i a j3 h3;cases hs;obtain⟨a2,k2,h4,h5⟩:=x0d h3;obtain⟨u,k3,h6,h7⟩:=x0d h5;cases h7;have q1:=hp.pos _ _ _ _ (hl.next hx2 (x1s ht)) h4;have q2:=x2j hl hp q1.2 h6;simp only;omega
   ·cases hs
   ·cases hs
  ·split at hs
   ·rename_i ht;split at hs
    ·rename_i w j3 h3;cases hs;have:=y8q hl (hl.next hx2 (x1s ht)) h3;have:=z6a hl hp h3;simp only;omega
    ·cases hs
    ·cases hs
   ·cases hs
 ·obtain⟨e2,i2⟩:=x;rw[x9n]at hs;split at hs
  ·split at hs<;>cases hs
  ·split at hs
   ·split at hs<;>cases hs
   ·cases hs;exact hx
theorem q2v (i:Nat)(hi:i < l.length)(hM:Mn l .post i<=n+1):y1k l n p i≠ .out:=by
 simp only[Mn,lvl]at hM;refine x1g (hp.ne _ _ hi (by simp only[Mn,lvl];omega)) fun e k h1=> ?_
 have hk:=hp.pos _ _ _ _ hi h1;refine y5e (fun x:Ex × Nat=>i < x.2/\x.2 < l.length) (fun x=>l.length - x.2) (fun x y hx hs=> ?_) (fun x hx hs=> ?_) n (e,k) hk (by simp only;omega)
 ·obtain⟨e2,i2⟩:=x;obtain⟨hx1,hx2⟩:=hx;simp only at hx1 hx2;rw[x9n]at hs;split at hs
  ·rename_i ht;split at hs
   ·rename_i a j3 h3;cases hs;obtain⟨a2,k2,h4,h5⟩:=x0d h3;obtain⟨u,k3,h6,h7⟩:=x0d h5;cases h7;have q1:=hp.pos _ _ _ _ (hl.next hx2 (x1s ht)) h4;have q2:=x2j hl hp q1.2 h6;simp only;omega
   ·cases hs
   ·cases hs
  ·split at hs
   ·rename_i ht;split at hs
    ·rename_i w j3 h3;cases hs;have:=y8q hl (hl.next hx2 (x1s ht)) h3;have:=z6a hl hp h3;simp only;omega
    ·cases hs
    ·cases hs
   ·cases hs
 ·obtain⟨e2,i2⟩:=x;obtain⟨hx1,hx2⟩:=hx;simp only at hx1 hx2;rw[x9n]at hs;split at hs
  ·rename_i ht;split at hs
   ·cases hs
   ·cases hs
   ·rename_i h3;exact absurd h3 (x1g (hp.ne .arrow _ (hl.next hx2 (x1s ht)) (by simp only[Mn,lvl];omega)) (fun _ _ _=>x1g (fun e=>x1o e) fun _ _ _=>nofun))
  ·split at hs
   ·split at hs
    ·cases hs
    ·cases hs
    ·rename_i h3;exact z5z hl hp _ h3
   ·cases hs
theorem z7e (en:BA)(i:Nat)(e:List Ex)(j:Nat)(hi:i < l.length)(h:y3t l n p en i= .ok e j):i < j/\j < l.length:=by
 unfold y3t at h;obtain⟨e1,k,h1,h⟩:=x0d h;have hk:=hp.pos _ _ _ _ hi h1;refine x3m (fun x:List Ex × Nat=>i < x.2/\x.2 < l.length) (fun _ j=>i < j/\j < l.length) (fun x y hx hs=> ?_) (fun x r j hx hs=> ?_) n ([e1],k) e j hk h
 ·obtain⟨e2,i2⟩:=x;obtain⟨hx1,hx2⟩:=hx;simp only at hx1 hx2;rw[y0v]at hs;split at hs
  ·rename_i ht;split at hs
   ·rename_i a j3 h3;cases hs;have q1:=hp.pos _ _ _ _ (hl.next hx2 (x1s ht)) h3;simp only;omega
   ·cases hs
   ·cases hs
  ·cases hs
 ·obtain⟨e2,i2⟩:=x;obtain⟨hx1,hx2⟩:=hx;simp only at hx1 hx2;rw[y0v]at hs;split at hs
  ·split at hs<;>cases hs
  ·have hs:=Sum.inr.inj hs;obtain⟨u,k3,h6,h7⟩:=x0d hs;cases h7;have q2:=x2j hl hp hx2 h6;omega
theorem v8h (en:BA)(i:Nat)(hi:i < l.length)(hM:20*(l.length - i)+10<=n):y3t l n p en i≠ .out:=by
 refine x1g (hp.ne _ _ hi (by simp only[Mn,lvl];omega)) fun e k h1=> ?_
 have hk:=hp.pos _ _ _ _ hi h1;refine y5e (fun x:List Ex × Nat=>i < x.2/\x.2 < l.length) (fun x=>l.length - x.2) (fun x y hx hs=> ?_) (fun x hx hs=> ?_) n ([e],k) hk (by simp only;omega)
 ·obtain⟨e2,i2⟩:=x;obtain⟨hx1,hx2⟩:=hx;simp only at hx1 hx2;rw[y0v]at hs;split at hs
  ·rename_i ht;split at hs
   ·rename_i a j3 h3;cases hs;have q1:=hp.pos _ _ _ _ (hl.next hx2 (x1s ht)) h3;simp only;omega
   ·cases hs
   ·cases hs
  ·cases hs
 ·obtain⟨e2,i2⟩:=x;obtain⟨hx1,hx2⟩:=hx;simp only at hx1 hx2;rw[y0v]at hs;split at hs
  ·rename_i ht;split at hs
   ·cases hs
   ·cases hs
   ·rename_i h3;exact hp.ne _ _ (hl.next hx2 (x1s ht)) (by simp only[Mn,lvl];omega) h3
  ·exact absurd (Sum.inr.inj hs) (x1g (fun e=>x1o e) (fun _ _ _=>nofun))
theorem v6o (i:Nat)(e:Ex)(j:Nat)(hi:i < l.length)(h:x8i l p i= .ok e j):i < j/\j < l.length:=by
 unfold x8i at h;obtain⟨e1,k,h1,h⟩:=x0d h;have hk:=hp.pos _ _ _ _ hi h1;split at h
 ·rename_i ht;have hk1:=hl.next hk.2 (x1s ht);obtain⟨_,k2,h2,h⟩:=x0d h;have q2:=x2j hl hp hk1 h2;obtain⟨_,k3,h3,h⟩:=x0d h;have q3:=hp.pos _ _ _ _ q2.2 h3;obtain⟨_,k4,h4,h⟩:=x0d h;have q4:=x2j hl hp q3.2 h4;obtain⟨_,k5,h5,h⟩:=x0d h;have q5:=hp.pos _ _ _ _ q4.2 h5;obtain⟨_,k6,h6,h⟩:=x0d h;have q6:=x2j hl hp q5.2 h6;cases h;omega
 ·obtain⟨_,k2,h2,h⟩:=x0d h;have q2:=x2j hl hp hk.2 h2;cases h;omega
theorem w3u (i:Nat)(hi:i < l.length)(hM:20*(l.length - i)+10<=n):x8i l p i≠ .out:=by
 refine x1g (hp.ne _ _ hi (by simp only[Mn,lvl];omega)) fun e k h1=> ?_
 have hk:=hp.pos _ _ _ _ hi h1;split
 ·rename_i ht;have hk1:=hl.next hk.2 (x1s ht);refine x1g (fun e=>x1o e) fun _ k2 h2=> ?_
  have q2:=x2j hl hp hk1 h2;refine x1g (hp.ne _ _ q2.2 (by simp only[Mn,lvl];omega)) fun _ k3 h3=> ?_
  have q3:=hp.pos _ _ _ _ q2.2 h3;refine x1g (fun e=>x1o e) fun _ k4 h4=> ?_
  have q4:=x2j hl hp q3.2 h4;refine x1g (hp.ne _ _ q4.2 (by simp only[Mn,lvl];omega)) fun _ k5 h5=> ?_
  exact x1g (fun e=>x1o e) fun _ _ _=>nofun
 ·exact x1g (fun e=>x1o e) fun _ _ _=>nofun
theorem v3g (i:Nat)(e:Ex)(j:Nat)(hi:i < l.length)(h:x7a l p i= .ok e j):i < j/\j < l.length:=by
 unfold x7a at h;obtain⟨e1,k,h1,h⟩:=x0d h;have hk:=hp.pos _ _ _ _ hi h1;obtain⟨_,k2,h2,h⟩:=x0d h;have q2:=x2j hl hp hk.2 h2;obtain⟨_,k3,h3,h⟩:=x0d h;have q3:=hp.pos _ _ _ _ q2.2 h3;obtain⟨_,k4,h4,h⟩:=x0d h;have q4:=x2j hl hp q3.2 h4;obtain⟨_,k5,h5,h⟩:=x0d h;have q5:=hp.pos _ _ _ _ q4.2 h5;cases h;omega
theorem w0m (i:Nat)(hi:i < l.length)(hM:20*(l.length - i)+10<=n):x7a l p i≠ .out:=by
 refine x1g (hp.ne _ _ hi (by simp only[Mn,lvl];omega)) fun e k h1=> ?_
 have hk:=hp.pos _ _ _ _ hi h1;refine x1g (fun e=>x1o e) fun _ k2 h2=> ?_
 have q2:=x2j hl hp hk.2 h2;refine x1g (hp.ne _ _ q2.2 (by simp only[Mn,lvl];omega)) fun _ k3 h3=> ?_
 have q3:=hp.pos _ _ _ _ q2.2 h3;refine x1g (fun e=>x1o e) fun _ k4 h4=> ?_
 have q4:=x2j hl hp q3.2 h4;exact x1g (hp.ne _ _ q4.2 (by simp only[Mn,lvl];omega)) fun _ k5 h5=>nofun
theorem u0s {i j:Nat}{q:BA × Ex}(hi:i < l.length)(h:((z3d l i).bind fun a j=>(x2i l [bs [45,62]] j).bind fun _ j=>(p .arrow j).bind fun e j=>(x2i l [bs [41]] j).bind fun _ j=> .ok (a,e) j:Rs (BA × Ex))= .ok q j):i < j/\j < l.length:=by
 obtain⟨_,k,h1,h⟩:=x0d h;have q1:=y7c hl hi h1;have:=y7d h1;obtain⟨_,k2,h2,h⟩:=x0d h;have q2:=x2j hl hp q1 h2;obtain⟨_,k3,h3,h⟩:=x0d h;have q3:=hp.pos _ _ _ _ q2.2 h3;obtain⟨_,k4,h4,h⟩:=x0d h;have q4:=x2j hl hp q3.2 h4;cases h;omega
theorem v8a (i:Nat)(e:Ex)(j:Nat)(hi:i < l.length)(h:x9v l n p i= .ok e j):i < j/\j < l.length:=by
 unfold x9v at h;obtain⟨nm,k,h1,h⟩:=x0d h;have hk:=y4u hl hp hi h1;obtain⟨_,k2,h2,h⟩:=x0d h;have q2:=x2j hl hp hk.2 h2;obtain⟨q,k3,h3,h⟩:=x0d h;cases h;refine x3m (fun x:List BA × List Ex × Nat × Bool=>i < x.2.2.1/\x.2.2.1 < l.length) (fun _ j=>i < j/\j < l.length) (fun x y hx hs=> ?_) (fun x r j hx hs=> ?_) n ([],[],k2,true) q j ⟨by simp only;omega,q2.2⟩ h3
 ·obtain⟨ar,es,i2,ag⟩:=x;obtain⟨hx1,hx2⟩:=hx;simp only at hx1 hx2;cases ag with
  |false=>rw[x4q]at hs;cases hs
  |true=>
   rw[x4q]at hs;split at hs
   ·rename_i a e3 j3 h4;have q4:=u0s hl hp hx2 h4;split at hs
    ·rename_i ht;cases hs;have:=hl.next q4.2 (x1s ht);simp only;omega
    ·cases hs;simp only;omega
   ·cases hs
   ·cases hs
 ·obtain⟨ar,es,i2,ag⟩:=x;cases ag with
  |false=>rw[x4q]at hs;cases hs;exact hx
  |true=>
   rw[x4q]at hs;split at hs
   ·split at hs<;>cases hs
   ·cases hs
   ·cases hs
theorem w4w (i:Nat)(hi:i < l.length)(hM:20*(l.length - i)+10<=n):x9v l n p i≠ .out:=by
 refine x1g (fun e=>x6m e) fun nm k h1=> ?_
 have hk:=y4u hl hp hi h1;refine x1g (fun e=>x1o e) fun _ k2 h2=> ?_
 have q2:=x2j hl hp hk.2 h2;refine x1g ?_ fun _ _ _=>nofun
 refine y5e (fun x:List BA × List Ex × Nat × Bool=>i < x.2.2.1/\x.2.2.1 < l.length) (fun x=>2*(l.length - x.2.2.1)+(match x.2.2.2 with|true=>1|false=>0)) (fun x y hx hs=> ?_) (fun x hx hs=> ?_) n ([],[],k2,true) ⟨by simp only;omega,q2.2⟩ (by simp only;omega)
 ·obtain⟨ar,es,i2,ag⟩:=x;obtain⟨hx1,hx2⟩:=hx;simp only at hx1 hx2;cases ag with
  |false=>rw[x4q]at hs;cases hs
  |true=>
   rw[x4q]at hs;split at hs
   ·rename_i a e3 j3 h4;have q4:=u0s hl hp hx2 h4;split at hs
    ·rename_i ht;cases hs;have:=hl.next q4.2 (x1s ht);simp only;omega
    ·cases hs;simp only;omega
   ·cases hs
   ·cases hs
 ·obtain⟨ar,es,i2,ag⟩:=x;obtain⟨hx1,hx2⟩:=hx;simp only at hx1 hx2;cases ag with
  |false=>rw[x4q]at hs;cases hs
  |true=>
   rw[x4q]at hs;split at hs
   ·split at hs<;>cases hs
   ·cases hs
   ·rename_i h4;refine absurd h4 (x1g (fun e=>z8o e) fun _ k1 h5=>x1g (fun e=>x1o e) fun _ k2 h6=> ?_)
    have a1:=y7c hl hx2 h5;have a2:=y7d h5;have a3:=x2j hl hp a1 h6;exact x1g (hp.ne _ _ a3.2 (by simp only[Mn,lvl];omega)) fun _ _ _=>x1g (fun e=>x1o e) fun _ _ _=>nofun
theorem u2t (nm:BA)(es:List Ex)(i:Nat)(e:Ex)(j:Nat)(hi:i < l.length)(h:y1n l p nm es i= .ok e j):i<=j/\j < l.length:=by
 unfold y1n at h;split at h
 ·rename_i ht;obtain⟨e1,k,h1,h⟩:=x0d h;have hk:=hp.pos _ _ _ _ (hl.next hi (x1s ht)) h1;cases h;omega
 ·cases h;omega
theorem v0a (nm:BA)(es:List Ex)(i:Nat)(hi:i < l.length)(hM:20*(l.length - i)<=n+10):y1n l p nm es i≠ .out:=by
 unfold y1n;split
 ·rename_i ht;have:=hl.next hi (x1s ht);exact x1g (hp.ne _ _ this (by simp only[Mn,lvl];omega)) fun _ _ _=>nofun
 ·exact nofun
theorem w6h (nm:BA)(i:Nat)(e:Ex)(j:Nat)(hi:i < l.length)(h:y3z l n p nm i= .ok e j):i < j/\j < l.length:=by
 unfold y3z at h;split at h
 ·rename_i ht;have:=u2t hl hp nm [] (i+1) e j (hl.next hi (x1s ht)) h;omega
 ·obtain⟨es,k,h1,h⟩:=x0d h;have q:=z7e hl hp _ _ _ _ hi h1;have:=u2t hl hp nm es k e j q.2 h;omega
theorem q5p (nm:BA)(i:Nat)(hi:i < l.length)(hM:20*(l.length - i)+10<=n):y3z l n p nm i≠ .out:=by
 unfold y3z;split
 ·rename_i ht;exact v0a hl hp nm [] (i+1) (hl.next hi (x1s ht)) (by omega)
 ·refine x1g (v8h hl hp _ _ hi hM) fun es k h1=> ?_
  have q:=z7e hl hp _ _ _ _ hi h1;exact v0a hl hp nm es k q.2 (by omega)
theorem w2v (i:Nat)(e:Ex)(j:Nat)(hi:i < l.length)(h:x7q l n p i= .ok e j):i < j/\j < l.length:=by
 unfold x7q at h;split at h
 ·rename_i ht;cases h;exact⟨a1p _,hl.next hi (x1s ht)⟩
 split at h
 ·rename_i ht;cases h;exact⟨a1p _,hl.next hi (x1s ht)⟩
 split at h
 ·rename_i ht;obtain⟨es,k,h1,h⟩:=x0d h;cases h;have:=z7e hl hp _ _ _ _ (hl.next hi (x1s ht)) h1;omega
 split at h
 ·rename_i ht;have:=v6o hl hp _ _ _ (hl.next hi (x1s ht)) h;omega
 split at h
 ·rename_i ht;have:=v8a hl hp _ _ _ (hl.next hi (x1s ht)) h;omega
 split at h
 ·rename_i ht;have:=v3g hl hp _ _ _ (hl.next hi (x1s ht)) h;omega
 obtain⟨nm,k,h1,h⟩:=x0d h;have hk:=y4u hl hp hi h1;split at h
 ·rename_i ht;have:=w6h hl hp _ _ _ _ (hl.next hk.2 (x1s ht)) h;omega
 ·cases h;exact hk
theorem q0w (i:Nat)(hi:i < l.length)(hM:20*(l.length - i)<=n):x7q l n p i≠ .out:=by
 unfold x7q;split
 ·exact nofun
 split
 ·exact nofun
 split
 ·rename_i ht;have:=hl.next hi (x1s ht);exact x1g (v8h hl hp _ _ this (by omega)) fun _ _ _=>nofun
 split
 ·rename_i ht;have:=hl.next hi (x1s ht);exact w3u hl hp _ this (by omega)
 split
 ·rename_i ht;have:=hl.next hi (x1s ht);exact w4w hl hp _ this (by omega)
 split
 ·rename_i ht;have:=hl.next hi (x1s ht);exact w0m hl hp _ this (by omega)
 refine x1g (fun e=>x6m e) fun nm k h1=> ?_
 have hk:=y4u hl hp hi h1;split
 ·rename_i ht;have:=hl.next hk.2 (x1s ht);exact q5p hl hp _ _ this (by omega)
 ·exact nofun
theorem z6j (nt:Nt)(i:Nat)(e:Ex)(j:Nat)(hi:i < l.length)(h:ntS l n p nt i= .ok e j):i < j/\j < l.length:=by
 cases nt with
 |or=>exact y9c hl hp _ _ _ _ _ _ hi h
 |and=>exact y9c hl hp _ _ _ _ _ _ hi h
 |sum=>exact y9c hl hp _ _ _ _ _ _ hi h
 |prod=>exact y9c hl hp _ _ _ _ _ _ hi h
 |post=>exact w4d hl hp _ _ _ hi h
 |arrow=>
  rw[ntS,y1i]at h;obtain⟨e1,k,h1,h⟩:=x0d h;have hk:=hp.pos _ _ _ _ hi h1;split at h
  ·rename_i ht;obtain⟨e2,k2,h2,h⟩:=x0d h;have:=hp.pos _ _ _ _ (hl.next hk.2 (x1s ht)) h2;cases h;omega
  ·cases h;exact hk
 |fby=>
  rw[ntS,v4g]at h;obtain⟨e1,k,h1,h⟩:=x0d h;have hk:=hp.pos _ _ _ _ hi h1;split at h
  ·rename_i ht;obtain⟨e2,k2,h2,h⟩:=x0d h;have:=hp.pos _ _ _ _ (hl.next hk.2 (x1s ht)) h2;cases h;omega
  ·cases h;exact hk
 |cmp=>
  rw[ntS,v4i]at h;obtain⟨e1,k,h1,h⟩:=x0d h;have hk:=hp.pos _ _ _ _ hi h1;split at h
  ·cases h;exact hk
  ·rename_i o ho;obtain⟨e2,k2,h2,h⟩:=x0d h;have:=hp.pos _ _ _ _ (hl.next hk.2 (x4m ho).1) h2;cases h;omega
 |un=>
  rw[ntS,unS]at h;split at h
  ·rename_i ht;obtain⟨e2,k2,h2,h⟩:=x0d h;have:=hp.pos _ _ _ _ (hl.next hi (x1s ht)) h2;cases h;omega
  split at h
  ·rename_i ht;obtain⟨e2,k2,h2,h⟩:=x0d h;have:=hp.pos _ _ _ _ (hl.next hi (x1s ht)) h2;cases h;omega
  split at h
  ·rename_i ht;obtain⟨e2,k2,h2,h⟩:=x0d h;have:=hp.pos _ _ _ _ (hl.next hi (x1s ht)) h2;cases h;omega
  ·exact hp.pos _ _ _ _ hi h
 |atom=>
  rw[ntS,x8e]at h;split at h
  ·rename_i hk;have hk:=a0e hk;cases h;exact⟨a1p _,hl.next hi (by omega)⟩
  split at h
  ·rename_i hk;have hk:=a0e hk;cases h;exact⟨a1p _,hl.next hi (by omega)⟩
  split at h
  ·rename_i hk;have hk:=a0e hk;cases h;exact⟨a1p _,hl.next hi (by omega)⟩
  exact w2v hl hp _ _ _ hi h
theorem q2i (nt:Nt)(i:Nat)(hi:i < l.length)(hM:Mn l nt i<=n+1):ntS l n p nt i≠ .out:=by
 cases nt with
 |or=>exact z7i hl hp .and .or (by decide) (by decide) _ _ _ hi hM
 |and=>exact z7i hl hp .cmp .and (by decide) (by decide) _ _ _ hi hM
 |sum=>exact z7i hl hp .prod .sum (by decide) (by decide) _ _ _ hi hM
 |prod=>exact z7i hl hp .un .prod (by decide) (by decide) _ _ _ hi hM
 |post=>exact q2v hl hp _ hi hM
 |arrow=>
  rw[ntS,y1i];simp only[Mn,lvl]at hM;refine x1g (hp.ne _ _ hi (by simp only[Mn,lvl];omega)) fun e k h1=> ?_
  have hk:=hp.pos _ _ _ _ hi h1;split
  ·rename_i ht;have:=hl.next hk.2 (x1s ht);exact x1g (hp.ne _ _ this (by simp only[Mn,lvl];omega)) fun _ _ _=>nofun
  ·exact nofun
 |fby=>
  rw[ntS,v4g];simp only[Mn,lvl]at hM;refine x1g (hp.ne _ _ hi (by simp only[Mn,lvl];omega)) fun e k h1=> ?_
  have hk:=hp.pos _ _ _ _ hi h1;split
  ·rename_i ht;have:=hl.next hk.2 (x1s ht);exact x1g (hp.ne _ _ this (by simp only[Mn,lvl];omega)) fun _ _ _=>nofun
  ·exact nofun
 |cmp=>
  rw[ntS,v4i];simp only[Mn,lvl]at hM;refine x1g (hp.ne _ _ hi (by simp only[Mn,lvl];omega)) fun e k h1=> ?_
  have hk:=hp.pos _ _ _ _ hi h1;split
  ·exact nofun
  ·rename_i o ho;have:=hl.next hk.2 (x4m ho).1;exact x1g (hp.ne _ _ this (by simp only[Mn,lvl];omega)) fun _ _ _=>nofun
 |un=>
  rw[ntS,unS];simp only[Mn,lvl]at hM;split
  ·rename_i ht;have:=hl.next hi (x1s ht);exact x1g (hp.ne _ _ this (by simp only[Mn,lvl];omega)) fun _ _ _=>nofun
  split
  ·rename_i ht;have:=hl.next hi (x1s ht);exact x1g (hp.ne _ _ this (by simp only[Mn,lvl];omega)) fun _ _ _=>nofun
  split
  ·rename_i ht;have:=hl.next hi (x1s ht);exact x1g (hp.ne _ _ this (by simp only[Mn,lvl];omega)) fun _ _ _=>nofun
  ·exact hp.ne _ _ hi (by simp only[Mn,lvl];omega)
 |atom=>
  rw[ntS,x8e];simp only[Mn,lvl]at hM;split
  ·exact nofun
  split
  ·exact nofun
  split
  ·exact nofun
  exact q0w hl hp _ hi (by omega)
end
theorem y3i {l:List Tk}(hl:LOK l): ∀n,HQ l n (prs l n)
 |0=>⟨fun nt i e j hi h=>(by cases h),fun nt i hi h=>(by cases nt<;>simp only[Mn,lvl]at h<;>omega)⟩
 |n+1=>⟨fun nt i e j hi h=>z6j hl (y3i hl n) nt i e j hi h,fun nt i hi h=>q2i hl (y3i hl n) nt i hi h⟩
theorem w8s {l:List Tk}(hl:LOK l): ∀n,HP l (prs l n)
 |0=>⟨fun nt i hi h=>(h rfl).elim,fun nt i e j hi h=>(by cases h),fun nt i e j hi h=>(by cases h)⟩
 |n+1=>by
  have ih:=w8s hl n;refine⟨fun nt i hi h=> ?_,fun nt i e j hi h=>(z6j hl (y3i hl n) nt i e j hi h).2,fun nt i e j hi h=>(z6j hl (y3i hl n) nt i e j hi h).1⟩
  cases nt with
  |arrow=>exact w7o hl ih i hi h
  |fby=>exact k6y hl ih i hi h
  |or=>exact a_por hl ih i hi h
  |and=>exact k7a hl ih i hi h
  |cmp=>exact k6z hl ih i hi h
  |sum=>exact k6x hl ih i hi h
  |prod=>exact q7o hl ih i hi h
  |un=>exact a_pun hl ih i hi h
  |post=>exact q7p hl ih i hi h
  |atom=>exact q7r hl ih i hi h
def fuel (l:List Tk):Nat:=20*l.length+10
def y4j (l:List Tk)(i:Nat):Rs Ex:=prs l (fuel l) .arrow i
theorem z6q {l:List Tk}(hl:LOK l)(i:Nat)(hi:i < l.length):y4j l i≠ .out:=(y3i hl (fuel l)).ne .arrow i hi (by simp only[Mn,lvl,fuel];omega)
theorem w6u {l:List Tk}(hl:LOK l)(i:Nat)(hi:i < l.length):cF 1000252 (kP 339 (x0n l) (i:Int))=some (x6z Ex.row l (y4j l i)):=(w8s hl (fuel l)).c .arrow i hi (z6q hl i hi)
mutual
def Ex.size:Ex->Nat
 | .mk _ _ _ _ _ l=>Ex.j0a l+1
def Ex.j0a:List Ex->Nat
 | []=>0
 |e::l=>e.size+Ex.j0a l
end
mutual
def Ex.okS:Ex->Prop
 | .mk _ _ s _ a l=>s.size<=100000/\((∀x∈a,x.size<=100000)/\a.length<=l.length)/\Ex.j0n l
def Ex.j0n:List Ex->Prop
 | []=>True
 |e::l=>e.okS/\Ex.j0n l
end
theorem x4e: ∀a b:List Ex,Ex.j0a (a++b)=Ex.j0a a+Ex.j0a b
 | [],b=>by simp[Ex.j0a]
 |e::a,b=>by simp[Ex.j0a,x4e a b];omega
theorem y8z: ∀a b:List Ex,Ex.j0n (a++b)↔Ex.j0n a/\Ex.j0n b
 | [],b=>by simp[Ex.j0n]
 |e::a,b=>by simp[Ex.j0n,y8z a b,and_assoc]
theorem x3v:(bs []).size<=100000:=by decide
def TS (l:List Tk):Prop:= ∀j,(tkA l j).s.size<=100000
def HS (p:PR):Prop:= ∀nt i e j,p nt i= .ok e j->i+e.size<=j/\e.okS
section
variable {l : List Tk} (ht : TS l) {n : Nat} {p : PR} (hp : HS p)
include ht hp
theorem y4t {i j:Nat}{a:BA}(h:x4x l i= .ok a j):a.size<=100000:=by
 unfold x4x at h;split at h<;>cases h;exact ht _
theorem w2b {i j:Nat}{a:BA}(h:z3d l i= .ok a j):a.size<=100000:=by
 unfold z3d at h;split at h<;>cases h;exact ht _
theorem u6w {i j:Nat}{w:BA × BA}(h:x7e l i= .ok w j):i+1<=j/\w.1.size<=100000/\w.2.size<=100000:=by
 have b1:x7k.size<=100000:=by decide
 have b2:x4k.size<=100000:=by decide
 unfold x7e at h;split at h
 ·obtain⟨a,k,h1,h⟩:=x0d h;have:=x4u h1;have:=y4t ht hp h1;cases h;exact⟨by omega,by assumption,b2⟩
 ·split at h
  ·obtain⟨a,k,h1,h⟩:=x0d h;have:=x4u h1;have:=y4t ht hp h1;cases h;exact⟨by omega,by assumption,b1⟩
  ·obtain⟨a,k,h1,h⟩:=x0d h;obtain⟨_,k2,h2,h⟩:=x0d h;obtain⟨_,k3,h3,h⟩:=x0d h;obtain⟨_,k4,h4,h⟩:=x0d h;have:=y7d h1;have:=x1m h2;have:=x4u h3;have:=x1m h4;have q1:=w2b ht hp h1;have q2:=y4t ht hp h3;cases h;exact⟨by omega,q2,q1⟩
theorem z7g (side:Nt)(a m i:Nat)(e:Ex)(j:Nat)(h:x5w l n p side a m i= .ok e j):i+e.size<=j/\e.okS:=by
 unfold x5w at h;obtain⟨e1,k,h1,h⟩:=x0d h;refine x3m (fun x:Ex × Nat=>i+x.1.size<=x.2/\x.1.okS) (fun r j=>i+r.size<=j/\r.okS) (fun x y hx hs=> ?_) (fun x r j hx hs=> ?_) n (e1,k) e j (hp _ _ _ _ h1) h
 ·obtain⟨e2,i2⟩:=x;rw[x6y]at hs;split at hs
  ·cases hs
  ·split at hs<;>cases hs
   have:=hp _ _ _ _ ‹_›
   (simp only[x5e,Ex.size,Ex.j0a,Ex.okS,Ex.j0n]at*;refine⟨by omega,?_⟩;simp_all [x3v])
 ·obtain⟨e2,i2⟩:=x;rw[x6y]at hs;split at hs
  ·cases hs;exact hx
  ·split at hs<;>cases hs
theorem v8e (en:BA)(i:Nat)(e:List Ex)(j:Nat)(h:y3t l n p en i= .ok e j):i+Ex.j0a e<=j/\Ex.j0n e:=by
 unfold y3t at h;obtain⟨e1,k,h1,h⟩:=x0d h;have h0:=hp _ _ _ _ h1;refine x3m (fun x:List Ex × Nat=>i+Ex.j0a x.1<=x.2/\Ex.j0n x.1) (fun r j=>i+Ex.j0a r<=j/\Ex.j0n r) (fun x y hx hs=> ?_) (fun x r j hx hs=> ?_) n ([e1],k) e j (by(simp only[x5e,Ex.j0a,Ex.j0n]at*;refine⟨by omega,?_⟩;simp_all [])) h
 ·obtain⟨e2,i2⟩:=x;rw[y0v]at hs;split at hs
  ·split at hs<;>cases hs
   have:=hp _ _ _ _ ‹_›
   (simp only[x5e,Ex.j0a,Ex.j0n,x4e,y8z]at*;refine⟨by omega,?_⟩;simp_all [])
  ·cases hs
 ·obtain⟨e2,i2⟩:=x;rw[y0v]at hs;split at hs
  ·split at hs<;>cases hs
  ·obtain⟨_,k2,h2,h⟩:=x0d (Sum.inr.inj hs);have:=x1m h2;cases h
   (simp only[]at*;refine⟨by omega,?_⟩;simp_all [])
theorem q2t (i:Nat)(e:Ex)(j:Nat)(h:y1k l n p i= .ok e j):i+e.size<=j/\e.okS:=by
 unfold y1k at h;obtain⟨e1,k,h1,h⟩:=x0d h;refine x3m (fun x:Ex × Nat=>i+x.1.size<=x.2/\x.1.okS) (fun r j=>i+r.size<=j/\r.okS) (fun x y hx hs=> ?_) (fun x r j hx hs=> ?_) n (e1,k) e j (hp _ _ _ _ h1) h
 ·obtain⟨e2,i2⟩:=x;rw[x9n]at hs;split at hs
  ·split at hs<;>cases hs
   obtain⟨_,k2,h2,h⟩:=x0d ‹_›;obtain⟨_,k3,h3,h⟩:=x0d h;have:=hp _ _ _ _ h2;have:=x1m h3;cases h
   (simp only[x5e,ex,Ex.size,Ex.j0a,Ex.okS,Ex.j0n]at*;refine⟨by omega,?_⟩;simp_all [x3v])
  ·split at hs
   ·split at hs<;>cases hs
    have:=u6w ht hp ‹_›
    (simp only[x5e,Ex.size,Ex.j0a,Ex.okS,Ex.j0n]at*;refine⟨by omega,?_⟩;simp_all [])
   ·cases hs
 ·obtain⟨e2,i2⟩:=x;rw[x9n]at hs;split at hs
  ·split at hs<;>cases hs
  ·split at hs
   ·split at hs<;>cases hs
   ·cases hs;exact hx
theorem u9y (nm:BA)(es:List Ex)(i:Nat)(e:Ex)(j:Nat)(hn:nm.size<=100000)(he:Ex.j0n es)(h:y1n l p nm es i= .ok e j):i+e.size<=j+Ex.j0a es+1/\e.okS:=by
 unfold y1n at h;split at h
 ·obtain⟨_,k2,h2,h⟩:=x0d h;have:=hp _ _ _ _ h2;cases h
  (simp only[x5e,Ex.size,Ex.j0a,Ex.okS,Ex.j0n,x4e,y8z]at*;refine⟨by omega,?_⟩;simp_all [])
 ·cases h
  (simp only[x5e,Ex.size,Ex.okS]at*;refine⟨by omega,?_⟩;simp_all [])
theorem q0u (i:Nat)(e:Ex)(j:Nat)(h:x7q l n p i= .ok e j):i+e.size<=j/\e.okS:=by
 unfold x7q at h;split at h
 ·cases h;(simp only[x5e,Ex.size,Ex.j0a,Ex.okS,Ex.j0n]at*;refine⟨by omega,?_⟩;simp_all [x3v])
 split at h
 ·cases h;(simp only[x5e,ex,Ex.size,Ex.j0a,Ex.okS,Ex.j0n]at*;refine⟨by omega,?_⟩;simp_all [x3v])
 split at h
 ·obtain⟨_,k2,h2,h⟩:=x0d h;have:=v8e ht hp _ _ _ _ h2;cases h
  (simp only[x5e,ex,Ex.size,Ex.okS]at*;refine⟨by omega,?_⟩;simp_all [x3v])
 split at h
 ·unfold x8i at h;obtain⟨_,k1,h1,h⟩:=x0d h;have:=hp _ _ _ _ h1;split at h
  ·obtain⟨_,k2,h2,h⟩:=x0d h;obtain⟨_,k3,h3,h⟩:=x0d h;obtain⟨_,k4,h4,h⟩:=x0d h;obtain⟨_,k5,h5,h⟩:=x0d h;obtain⟨_,k6,h6,h⟩:=x0d h;have:=x1m h2;have:=hp _ _ _ _ h3;have:=x1m h4;have:=hp _ _ _ _ h5;have:=x1m h6;cases h
   (simp only[x5e,ex,Ex.size,Ex.j0a,Ex.okS,Ex.j0n]at*;refine⟨by omega,?_⟩;simp_all [x3v])
  ·obtain⟨_,k2,h2,h⟩:=x0d h;have:=x1m h2;cases h
   (simp only[x5e,ex]at*;refine⟨by omega,?_⟩;simp_all [])
 split at h
 ·unfold x9v at h;obtain⟨nm,k1,h1,h⟩:=x0d h;obtain⟨_,k2,h2,h⟩:=x0d h;obtain⟨q,k3,h3,h⟩:=x0d h;have q1:=y4t ht hp h1;have:=x4u h1;have:=x1m h2;have key:=x3m (fun x:List BA × List Ex × Nat × Bool=>k2+Ex.j0a x.2.1<=x.2.2.1/\Ex.j0n x.2.1/\(∀y∈x.1,y.size<=100000)/\x.1.length=x.2.1.length) (fun r j=>k2+Ex.j0a r.2<=j/\Ex.j0n r.2/\(∀y∈r.1,y.size<=100000)/\r.1.length=r.2.length) (fun x y hx hs=> ?_) (fun x r j hx hs=> ?_) n ([],[],k2,true) q k3 (by simp[Ex.j0a,Ex.j0n]) h3
  ·cases h;obtain⟨w1,w2,w3,w4⟩:=key;refine⟨?_,q1,⟨w3,Nat.le_of_eq w4⟩,w2⟩;simp only[Ex.size];omega
  ·obtain⟨ar,es,i2,b⟩:=x;obtain⟨w1,w2,w3,w4⟩:=hx;cases b with
   |false=>cases hs
   |true=>
    rw[x4q]at hs;split at hs
    ·obtain⟨a,g1,r1,r⟩:=x0d ‹_›;obtain⟨_,g2,r2,r⟩:=x0d r;obtain⟨e2,g9900003,r3,r⟩:=x0d r;obtain⟨_,g9900004,r4,r⟩:=x0d r;have:=y7d r1;have:=x1m r2;have z:=hp _ _ _ _ r3;have:=x1m r4;have q2:=w2b ht hp r1;cases r;split at hs<;>cases hs<;>
     (refine⟨?_,(y8z _ _).2 ⟨w2,z.2,trivial⟩,fun y hy=> ?_,by simp only[a0k,a0a,a0d]at w4 ⊢;omega⟩
      ·simp only[x4e,Ex.j0a]at w1 ⊢;omega
      ·rcases a1o.1 hy with hy|hy
       ·exact w3 y hy
       ·rw[a1h.1 hy];exact q2)
    ·cases hs
    ·cases hs
  ·obtain⟨ar,es,i2,b⟩:=x;cases b with
   |false=>cases hs;exact hx
   |true=>
    rw[x4q]at hs;split at hs
    ·split at hs<;>cases hs
    ·cases hs
    ·cases hs
 split at h
 ·unfold x7a at h;obtain⟨_,k1,h1,h⟩:=x0d h;obtain⟨_,k2,h2,h⟩:=x0d h;obtain⟨_,k3,h3,h⟩:=x0d h;obtain⟨_,k4,h4,h⟩:=x0d h;obtain⟨_,k5,h5,h⟩:=x0d h;have:=hp _ _ _ _ h1;have:=x1m h2;have:=hp _ _ _ _ h3;have:=x1m h4;have:=hp _ _ _ _ h5;cases h
  (simp only[x5e,ex,Ex.size,Ex.j0a,Ex.okS,Ex.j0n]at*;refine⟨by omega,?_⟩;simp_all [x3v])
 ·obtain⟨nm,k1,h1,h⟩:=x0d h;have q1:=y4t ht hp h1;have:=x4u h1;split at h
  ·unfold y3z at h;split at h
   ·have:=u9y ht hp _ [] _ _ _ q1 trivial h
    (simp only[x5e,Ex.j0a]at*;refine⟨by omega,?_⟩;simp_all [])
   ·obtain⟨es,k2,h2,h⟩:=x0d h;have q2:=v8e ht hp _ _ _ _ h2;have:=u9y ht hp _ _ _ _ _ q1 q2.2 h;exact⟨by omega,this.2⟩
  ·cases h
   (simp only[x5e,Ex.size,Ex.j0a,Ex.okS,Ex.j0n]at*;refine⟨by omega,?_⟩;simp_all [])
theorem q2g (nt:Nt)(i:Nat)(e:Ex)(j:Nat)(h:ntS l n p nt i= .ok e j):i+e.size<=j/\e.okS:=by
 cases nt with
 |or=>exact z7g ht hp _ _ _ _ _ _ h
 |and=>exact z7g ht hp _ _ _ _ _ _ h
 |sum=>exact z7g ht hp _ _ _ _ _ _ h
 |prod=>exact z7g ht hp _ _ _ _ _ _ h
 |post=>exact q2t ht hp _ _ _ h
 |arrow=>
  obtain⟨_,k1,h1,h⟩:=x0d (show y1i l p i= .ok e j from h);have:=hp _ _ _ _ h1;split at h
  ·obtain⟨_,k2,h2,h⟩:=x0d h;have:=hp _ _ _ _ h2;cases h
   (simp only[x5e,ex,Ex.size,Ex.j0a,Ex.okS,Ex.j0n]at*;refine⟨by omega,?_⟩;simp_all [x3v])
  ·cases h;exact this
 |fby=>
  obtain⟨_,k1,h1,h⟩:=x0d (show v4g l p i= .ok e j from h);have:=hp _ _ _ _ h1;split at h
  ·obtain⟨_,k2,h2,h⟩:=x0d h;have:=hp _ _ _ _ h2;cases h
   (simp only[x5e,ex,Ex.size,Ex.j0a,Ex.okS,Ex.j0n]at*;refine⟨by omega,?_⟩;simp_all [x3v])
  ·cases h;exact this
 |cmp=>
  obtain⟨_,k1,h1,h⟩:=x0d (show v4i l p i= .ok e j from h);have:=hp _ _ _ _ h1;split at h
  ·cases h;exact this
  ·obtain⟨_,k2,h2,h⟩:=x0d h;have:=hp _ _ _ _ h2;cases h
   (simp only[x5e,Ex.size,Ex.j0a,Ex.okS,Ex.j0n]at*;refine⟨by omega,?_⟩;simp_all [x3v])
 |un=>
  have h:unS l p i= .ok e j:=h;unfold unS at h;split at h
  ·obtain⟨_,k2,h2,h⟩:=x0d h;have:=hp _ _ _ _ h2;cases h
   (simp only[x5e,Ex.size,Ex.j0a,Ex.okS,Ex.j0n]at*;refine⟨by omega,?_⟩;simp_all [x3v])
  split at h
  ·obtain⟨_,k2,h2,h⟩:=x0d h;have:=hp _ _ _ _ h2;cases h
   (simp only[x5e,Ex.size,Ex.j0a,Ex.okS,Ex.j0n]at*;refine⟨by omega,?_⟩;simp_all [x3v])
  split at h
  ·obtain⟨_,k2,h2,h⟩:=x0d h;have:=hp _ _ _ _ h2;cases h
   (simp only[x5e,ex,Ex.size,Ex.j0a,Ex.okS,Ex.j0n]at*;refine⟨by omega,?_⟩;simp_all [x3v])
  ·exact hp _ _ _ _ h
 |atom=>
  have h:x8e l n p i= .ok e j:=h;have:=ht i;unfold x8e at h;split at h
  ·cases h;(simp only[x5e,Ex.size,Ex.j0a,Ex.okS,Ex.j0n]at*;refine⟨by omega,?_⟩;simp_all [x3v])
  split at h
  ·cases h;(simp only[x5e,Ex.size,Ex.j0a,Ex.okS,Ex.j0n]at*;refine⟨by omega,?_⟩;simp_all [])
  split at h
  ·cases h;(simp only[x5e,Ex.size,Ex.j0a,Ex.okS,Ex.j0n]at*;refine⟨by omega,?_⟩;simp_all [])
  ·exact q0u ht hp _ _ _ h
end
theorem v7e {l:List Tk}(ht:TS l): ∀n,HS (prs l n)
 |0=>fun nt i e j h=>by cases h
 |n+1=>fun nt i e j h=>q2g ht (v7e ht n) nt i e j h
theorem z6p {l:List Tk}(ht:TS l){i j:Nat}{e:Ex}(h:y4j l i= .ok e j):i+e.size<=j/\e.okS:=v7e ht _ _ _ _ _ h
mutual
def Ex.depth:Ex->Nat
 | .mk _ _ _ _ _ l=>Ex.j0j l+1
def Ex.j0j:List Ex->Nat
 | []=>0
 |e::l=>max e.depth (Ex.j0j l)
end
def y3x (e:Ex): ∀l:List Ex,Ex.j0j (l++[e])=max (Ex.j0j l) e.depth
 | []=>by simp[Ex.j0j]
 |x::l=>by simp only[a0f,Ex.j0j,y3x e l];omega
def x2s {e:Ex}: ∀ {l:List Ex} {i:Nat},l[i]? =some e->e.size<=Ex.j0a l
 |x::l,0,h=>by simp at h;subst h;simp only[Ex.j0a];omega
 |x::l,i+1,h=>by have:=x2s (l:=l) (i:=i) (by simpa using h);simp only[Ex.j0a];omega
def x1p: ∀l:List Ex,l.length<=Ex.j0a l
 | []=>a0q _
 | .mk k n s o a u::l=>by have:=x1p l;simp only[Ex.j0a,Ex.size,a0a];omega
def q0t: ∀ {l:List Ex} {i:Nat} {e:Ex},l[i]? =some e->sy.row (Ex.rows l) (i:Int)=e.row:=by
 intro l i e h;show(Ex.rows l).getD (i:Int).toNat []=_;rw[a0m]
 induction l generalizing i with
 |nil=>cases h
 |cons x l ih=>
  cases i with
  |zero=>simp at h;subst h;rfl
  |succ i=>exact ih (by simpa using h)
mutual
def w5z: ∀e:Ex,e.depth<=e.size
 | .mk _ _ _ _ _ l=>by have:=y5p l;simp only[Ex.depth,Ex.size];omega
def y5p: ∀l:List Ex,Ex.j0j l<=Ex.j0a l
 | []=>a0q _
 |e::l=>by have:=w5z e;have:=y5p l;simp only[Ex.j0j,Ex.j0a];omega
end
def u9e (a b:Nat):max (a:Int) (b:Int)=((max a b:Nat):Int):=by omega
def z8g: ∀(m:Nat) (k n:Int) (s:BA) (o:Int) (a:List BA) (u:List Ex),(Ex.mk k n s o a u).size<=m->m<=1000000->cF 182 [kE k n s o (x0b a) (Ex.rows u)]=some (.val [.int .i64 ((Ex.mk k n s o a u).depth:Int)])
 |0,k,n,s,o,a,u,h,_=>by simp only[Ex.size]at h;omega
 |m+1,k,n,s,o,a,u,h,hm=>by
  have hz:Ex.j0a u<=m:=by simp only[Ex.size]at h;omega
  have hl:=x1p u;refine cO rfl ?_;rw[(g182 ..).2];simp only[g182,go1,x0h];refine x0w (fun i:Nat=>[.int .i64 (Ex.j0j (u.take i):Int), .sl 6 (Ex.rows u), .int .i64 (u.length:Int), .int .i64 (i:Int)]) (fun i=>i<=u.length) (fun i=>u.length - i) (fun i hi=> ?_) 0 (a0w _)
  by_cases hlt:i < u.length
  ·left
   refine⟨i+1,?_,hlt,by omega⟩
   have hx:=a0b hlt;have hd:Ex.j0j (u.take (i+1))=max (Ex.j0j (u.take i)) u[i].depth:=by rw[a1e,hx];exact y3x _ _
   rw[hd];generalize u[i]=e at hx;have he:=x2s hx;have hr:=q0t hx;obtain⟨k2,n2,s2,o2,a2,u2⟩:=e;have h2:=z8g m k2 n2 s2 o2 a2 u2 (by omega) (by omega)
   simp only[go1,x0h,x0i hlt,x0g hlt,hr,Ex.row,oE,h2,x0a hlt (by omega),u9e]
   rfl
  ·right
   have:i=u.length:=by omega
   subst this;have:=y5p u;simp only[go1,x0f,a0u,Ex.depth];rw[x0a (n:=Ex.j0j u+1) (by omega) (by omega)]
   rfl
def v0f: ∀(m:Nat) (k n:Int) (s:BA) (o:Int) (a:List BA) (u:List Ex),(Ex.mk k n s o a u).size<=m->m<=1000000->cF 116 [kE k n s o (x0b a) (Ex.rows u)]=some (.val [.int .i64 ((Ex.mk k n s o a u).depth:Int)])
 |0,k,n,s,o,a,u,h,_=>by simp only[Ex.size]at h;omega
 |m+1,k,n,s,o,a,u,h,hm=>by
  have hz:Ex.j0a u<=m:=by simp only[Ex.size]at h;omega
  have hl:=x1p u;refine cO rfl ?_;rw[(g116 ..).2];simp only[g116,go1];refine x0w (fun i:Nat=>[.int .i64 (Ex.j0j (u.take i):Int), .int .i64 (i:Int), .int .i64 k, .int .i64 n, .str s, .int .i64 o, .sl 1 (x0b a), .sl 6 (Ex.rows u)]) (fun i=>i<=u.length) (fun i=>u.length - i) (fun i hi=> ?_) 0 (a0w _)
  by_cases hlt:i < u.length
  ·left
   refine⟨i+1,?_,hlt,by omega⟩
   have hx:=a0b hlt;have hd:Ex.j0j (u.take (i+1))=max (Ex.j0j (u.take i)) u[i].depth:=by rw[a1e,hx];exact y3x _ _
   rw[hd];generalize u[i]=e at hx;have he:=x2s hx;have hr:=q0t hx;obtain⟨k2,n2,s2,o2,a2,u2⟩:=e;have h2:=v0f m k2 n2 s2 o2 a2 u2 (by omega) (by omega)
   simp only[go1,Nat.reduceAdd,x0h,x0i hlt,x0g hlt,hr,Ex.row,oE,h2,x0a hlt (by omega),u9e]
   rfl
  ·right
   have:i=u.length:=by omega
   subst this;have:=y5p u;simp only[go1,Nat.reduceAdd,oE,x0h,x0f,a0u,Ex.depth];rw[x0a (n:=Ex.j0j u+1) (by omega) (by omega)]
   rfl
def x4z (e:Ex)(l:List Ex):Ex.j0a (l++[e])=Ex.j0a l+e.size:=by rw[x4e];simp[Ex.j0a]
def w1e: ∀(m:Nat) (k n:Int) (s:BA) (o:Int) (a:List BA) (u:List Ex),(Ex.mk k n s o a u).size<=m->m<=1000000->cF 115 [kE k n s o (x0b a) (Ex.rows u)]=some (.val [.int .i64 ((Ex.mk k n s o a u).size:Int)])
 |0,k,n,s,o,a,u,h,_=>by simp only[Ex.size]at h;omega
 |m+1,k,n,s,o,a,u,h,hm=>by
  have hz:Ex.j0a u<=m:=by simp only[Ex.size]at h;omega
  have hl:=x1p u;refine cO rfl ?_;rw[(g115 ..).2];simp only[g115,go1];refine x0w (fun i:Nat=>[.int .i64 ((Ex.j0a (u.take i)+1:Nat):Int), .int .i64 (i:Int), .int .i64 k, .int .i64 n, .str s, .int .i64 o, .sl 1 (x0b a), .sl 6 (Ex.rows u)]) (fun i=>i<=u.length/\Ex.j0a (u.take i)<=m) (fun i=>u.length - i) (fun i hi=> ?_) 0 ⟨a0w _,a0w _⟩
  by_cases hlt:i < u.length
  ·left
   have hx:=a0b hlt;have hd:Ex.j0a (u.take (i+1))=Ex.j0a (u.take i)+u[i].size:=by rw[a1e,hx];exact x4z _ _
   have hle:Ex.j0a (u.take (i+1))<=m:=by
    have:=x4e (u.take (i+1)) (u.drop (i+1));rw[a1u]at this;omega
   refine⟨i+1,?_,⟨hlt,hle⟩,by omega⟩
   rw[hd]at hle ⊢;generalize u[i]=e at hx hle ⊢;have he:=x2s hx;have hr:=q0t hx;obtain⟨k2,n2,s2,o2,a2,u2⟩:=e;have h2:=w1e m k2 n2 s2 o2 a2 u2 (by omega) (by omega)
   simp only[go1,Nat.reduceAdd,x0h,x0i hlt,x0g hlt,hr,Ex.row,oE,h2,x0a hlt (by omega)]
   rw[x0v (by omega) (by omega)]
   congr 5;omega
  ·right
   have:i=u.length:=by omega
   subst this;simp only[go1,Nat.reduceAdd,oE,x0h,x0f,a0u,Ex.size]
def y0f (s:BA):Bool:=x3s (tb s) || (decide (tb s=tb x7k) || decide (tb s=tb x4k))
def z3t:Ex->Bool
 | .mk k _ _ o _ u=>bif decide (k=5)then decide (o=1)&&(match u with
   | [.mk k2 _ _ _ _ _]=>decide (k2=1)
   |_=>false)else decide (k=1) || (decide (k=2) || decide (k=4))
def y5r:Ex->Bool
 | .mk k n s o a u=>bif decide (k=14)then u.all z3t else z3t (.mk k n s o a u)
def u4r (k o:Int):Bool:=bif decide (k=5)then decide (1<=o)&&decide (o<=2)else bif decide (k=6)then decide (3<=o)&&decide (o<=16)else decide (o=0)
def u3o (k n:Int):Bool:=bif decide (k=1)then decide (0<=n)else bif decide (k=2) || decide (k=13)then decide (n=0) || decide (n=1)else decide (n=0)
def z1e (k:Int)(s:BA):Bool:=bif decide (k=3) || (decide (k=11) || (decide (k=12) || decide (k=13)))then x4c (tb s)else bif decide (k=4)then x3s (tb s)else bif decide (k=17)then y6e (tb s)else decide (tb s= [])
def y1a (k:Int)(a:List BA):Bool:=a.all y0f&&(bif decide (k=11)then decide (a.length=1)else bif decide (k=12)then decide (1<=a.length)&&(decide (a.length<=6)&&decide a.Nodup)else decide (a.length=0))
def loB (k n:Int)(la:Nat):Int:=if k=5\/k=10\/k=11\/k=14 then 1 else if k=6\/k=8\/k=9\/k=15 then 2 else if k=7\/k=16 then 3 else if k=12 then la else if k=13 then n else 0
def hiB (k n:Int)(la:Nat):Int:=if k=14 then 8 else if k=13 then(if n=0 then 6 else 7)else loB k n la
def k5s (k:Int)(u:List Ex):Bool:=bif decide (k=8)then(match u with
 |e::_=>y5r e
 | []=>false)else true
def y8g (k:Int):Bool:=decide (1<=k)&&decide (k<=17)
def x9o:Ex->Bool
 | .mk k n s o a u=>y8g k&&(u3o k n&&(z1e k s&&(u4r k o&&(y1a k a&&(decide (loB k n a.length<=(u.length:Int))&&(decide ((u.length:Int)<=hiB k n a.length)&&k5s k u))))))
mutual
def x9c:Ex->Bool
 | .mk k n s o a u=>x9o (.mk k n s o a u)&&y3d u
def y3d:List Ex->Bool
 | []=>true
 |e::l=>x9c e&&y3d l
end
def w5b (k:Int)(h:y8g k=true):k=1\/k=2\/k=3\/k=4\/k=5\/k=6\/k=7\/k=8\/k=9\/k=10\/k=11\/k=12\/k=13\/k=14\/k=15\/k=16\/k=17:=by
 unfold y8g at h;simp at h;omega
def w5c {k:Int}(h:y8g k=false):k≠1/\k≠2/\k≠3/\k≠4/\k≠5/\k≠6/\k≠7/\k≠8/\k≠9/\k≠10/\k≠11/\k≠12/\k≠13/\k≠14/\k≠15/\k≠16/\k≠17:=by
 unfold y8g at h;simp at h;omega
def or12 (o:Int):(decide (o=1) || decide (o=2))=(decide (1<=o)&&decide (o<=2)):=by
 rw[a1g];simp;omega
def z5u (k n:Int)(s:BA)(o:Int)(a u:LL)(m:Int):cF 254 [kE k n s o a u, .d (.int .i64 m)]=some (.val [.bool (decide (n=0)), .bool (decide (tb s= [])), .bool (decide (o=0)), .int .i64 m, .int .i64 m, .int .i64 0]):=by
 refine cO rfl ?_;rw[(g254 ..).2];simp only[g254,go1,x1v];rfl
def q6n (k n:Int)(s:BA)(o:Int)(a u:LL)(hk:k=1\/k=2\/k=3\/k=4\/k=17)(hs:s.size<=100000):cF 253 [kE k n s o a u]=some (.val [.bool (u3o k n), .bool (z1e k s), .bool (u4r k o), .int .i64 0, .int .i64 0, .int .i64 0]):=by
 have h1:=z5u k n s o a u 0;have h2:=z8j s;have h3:=u3c s;have h4:=q0h s hs;refine cO rfl ?_;rw[(g253 ..).2];simp only[g253,go1,h1,h2,h3,h4,oQ];rcases hk with rfl|rfl|rfl|rfl|rfl<;>simp only[go1,Int.reduceEq,u3o,z1e,u4r,Int.reduceEq]
def c_eof (k n:Int)(s:BA)(o:Int)(a:List BA)(u:LL)(hs:s.size<=100000):cF 220 [kE k n s o (x0b a) u]=some (match y8g k with
  |true=> .val [.bool (u3o k n), .bool (z1e k s), .bool (u4r k o), .int .i64 (loB k n a.length), .int .i64 (hiB k n a.length), .int .i64 (if k=11 then 1 else if k=12 then 6 else 0), .bool true]
  |false=> .val [.bool false, .bool false, .bool false, .int .i64 0, .int .i64 0, .int .i64 0, .bool false]):=by
 have h1:=z5u k n s o (x0b a) u;have h2:=z8j s;have h5:=x0e a;cases hk:y8g k with
 |true=>
  rcases w5b k hk with h|h|h|h|h|h|h|h|h|h|h|h|h|h|h|h|h
  all_goals (first|(have h3:=q6n k n s o (x0b a) u (by omega) hs;subst h)|(subst h;have h3:=True.intro))
  all_goals
   refine cO rfl ?_;rw[(k7s ..).2];simp only[↓k7s, ↓h1, ↓h2, ↓h3, ↓h5,oQ,loB,hiB,go1,Int.reduceEq,u3o,z1e,u4r,Int.reduceEq,or_self,or_true,true_or,if_true,if_false]
  ·rw[or12]
  ·by_cases hn:n=0
   ·subst hn;rfl
   ·simp only[x1j hn,cond_false,a1d,if_neg hn]
 |false=>
  obtain⟨q1,q2,q3,q4,q5,q6,q7,q8,q9,q10,q11,q12,q13,q14,q15,q16,q17⟩:=w5c hk;refine cO rfl ?_;rw[(k7s ..).2];simp only[k7s,go1];simp only[x1j q1,x1j q2,x1j q3,x1j q4,x1j q5,x1j q6,x1j q7,x1j q8,x1j q9,x1j q10,x1j q11,x1j q12,x1j q13,x1j q14,x1j q15,x1j q16,x1j q17,go1]
def k6h (s:BA):cF 222 [.d (.str s)]=some (.val [.bool (y0f s)]):=by
 have h:=u3c s;refine cO rfl ?_;rw[(g222 ..).2];simp only[g222,go1,h,x1v];unfold y0f;cases x3s (tb s)<;>cases h1:decide (tb s=tb x7k)<;>cases h2:decide (tb s=tb x4k)<;>(unfold x7k at h1;unfold x4k at h2;simp only[go1,h1,h2];try rfl)
def v0g (s:BA):cF 221 [.d (.str s)]=some (.val [.bool (!y0f s)]):=by
 have h:=k6h s;refine cO rfl ?_;rw[(g221 ..).2];simp only[g221,go1,h]
def w0s (a:List BA)(ha:a.length<=1000000):cF 146 [.d (.sl 1 (x0b a)), .fn 221 []]=some (.val [.bool (!a.all y0f)]):=by
 rw[List.not_all_eq_any_not];cases hall:a.any fun s=> !y0f s with
 |false=>
  refine cO rfl ?_;rw[(y9i ..).2];simp only[y9i,go1,Int.reduceLE,x0e];refine x0w (fun i:Nat=>[.sl 1 (x0b a), .int .i64 (a.length:Int), .int .i64 (i:Int)]) (fun i=>i<=a.length) (fun i=>a.length - i) (fun i hi=> ?_) 0 (a0w _)
  by_cases hlt:i < a.length
  ·left
   refine⟨i+1,?_,hlt,by omega⟩
   have hx:=a0b hlt;have h:=v0g a[i];have h0:(!y0f a[i])=false:=by
    have:=(List.any_eq_false.1 hall) a[i] (a1j hlt)
    simpa using this
   simp only[go1,x0e,x0i hlt,x0g hlt,x1c hx,h,h0,x0a hlt (by omega)]
   rfl
  ·right
   have:i=a.length:=by omega
   subst this;simp only[go1,x0f]
 |true=>
  have hj:=List.findIdx_lt_length_of_exists (List.any_eq_true.1 hall);have hpj:=List.findIdx_getElem (w:=hj);generalize hJ:(a.findIdx fun s=> !y0f s)=j at hj hpj
  refine cO rfl ?_;rw[(y9i ..).2];simp only[y9i,go1,Int.reduceLE,x0e];refine x0w (fun i:Nat=>[.sl 1 (x0b a), .int .i64 (a.length:Int), .int .i64 (i:Int)]) (fun i=>i<=j) (fun i=>a.length - i) (fun i hi=> ?_) 0 (a0w _)
  have hlt:i < a.length:=by omega
  have hx:=a0b hlt;have h:=v0g a[i]
  by_cases hij:i < j
  ·left
   refine⟨i+1,?_,hij,by omega⟩
   have h0:(!y0f a[i])=false:=by
    have:=List.not_of_lt_findIdx (p:=fun s=> !y0f s) (xs:=a) (i:=i) (by omega)
    simpa using this
   simp only[go1,x0e,x0i hlt,x0g hlt,x1c hx,h,h0,x0a hlt (by omega)]
   rfl
  ·right
   have:i=j:=by omega
   subst this;have h0:(!y0f a[i])=true:=hpj;simp only[go1,x0e,x0i hlt,x0g hlt,x1c hx,h,h0,x1y (a2f i)]
def z5v (k n:Int)(s:BA)(o:Int)(a:List BA)(u:List Ex)(hu:u.length<=1000000):cF 255 [kE k n s o (x0b a) (Ex.rows u)]=some (.val [.bool (z3t (.mk k n s o a u))]):=by
 have h1:=x0h u;refine cO rfl ?_;rw[(g255 ..).2];simp only[g255,go1,Int.reduceLE,h1];unfold z3t
 by_cases k5:k=5
 ·subst k5;simp only[go1,Int.reduceEq,Int.reduceEq]
  match u with
  | []=>cases decide (o=1)<;>rfl
  | [.mk k2 n2 s2 o2 a2 u2]=>cases decide (o=1)<;>rfl
  |e1::e2::u=>
   have:decide ((((e1::e2::u).length:Nat):Int)=1)=false:=decide_eq_false (by simp only[a0a];omega)
   simp only[go1,this];try (cases decide (o=1)<;>rfl)
 ·simp only[go1,x1j k5];cases decide (k=1)<;>cases decide (k=2)<;>cases decide (k=4)<;>rfl
def z5t (k n:Int)(s:BA)(o:Int)(a:List BA)(u:List Ex)(hu:u.length<=1000000):cF 200 [kE k n s o (x0b a) (Ex.rows u)]=some (.val [.bool (z3t (.mk k n s o a u))]):=by
 have h1:=x0h u;refine cO rfl ?_;rw[(g200 ..).2];simp only[g200,go1,Int.reduceLE,h1];unfold z3t
 by_cases k5:k=5
 ·subst k5;simp only[go1,Int.reduceEq,Int.reduceEq]
  match u with
  | []=>cases decide (o=1)<;>rfl
  | [.mk k2 n2 s2 o2 a2 u2]=>cases decide (o=1)<;>rfl
  |e1::e2::u=>
   have:decide ((((e1::e2::u).length:Nat):Int)=1)=false:=decide_eq_false (by simp only[a0a];omega)
   simp only[go1,this];try (cases decide (o=1)<;>rfl)
 ·simp only[go1,x1j k5];cases decide (k=1)<;>cases decide (k=2)<;>cases decide (k=4)<;>rfl
def y0j (z k:D)(l:LL):sy.mval z k l=mval z k l:=rfl
def y6a (k x:D)(l:LL):sy.mput k x l=mput k x l:=rfl
def w2t (l:List BA):LL:=l.map fun s=>[.str s, .int .i64 1]
def u5e (a b:BA):z3u (.str a) (.str b)=decide (a=b):=by
 show(a == b)=_;have h:(a == b)=(a.data == b.data):=rfl;rw[h,a1g,beq_iff_eq,a0p];exact⟨fun h=>by cases a;cases b;simp_all,fun h=>by rw[h]⟩
def q3n {x:BA}: ∀ {l:List BA},x ∉ l->y6o (.str x) (w2t l)=none
 | [],_=>rfl
 |y::l,h=>by
  have h1: ¬x=y:=fun e=>h (by rw[e];exact a0t)
  have h2:x ∉ l:=fun e=>h (a0v _ e)
  show y6o (.str x) ((D.str y::[.int .i64 1])::w2t l)=none;have hk:z3u (.str x) (.str y)=false:=by rw[u5e];exact x1j h1
  simp only[y6o,hk,q3n h2];rfl
def k1q {x:BA}: ∀ {l:List BA},x∈l->mval (.int .i64 0) (.str x) (w2t l)= .int .i64 1
 |y::l,h=>by
  show mval (.int .i64 0) (.str x) ((D.str y::[.int .i64 1])::w2t l)=_
  by_cases he:x=y
  ·have hk:z3u (.str x) (.str y)=true:=by rw[u5e];exact x1y he
   simp only[mval,q3o,y6o,hk];rfl
  ·have hm:x∈l:=by
    rcases a1n.1 h with e|e
    ·exact absurd e he
    ·exact e
   have ih:=k1q hm;have hk:z3u (.str x) (.str y)=false:=by rw[u5e];exact x1j he
   simp only[mval,q3o,y6o,hk]at ih ⊢;rw[<-ih];cases y6o (.str x) (w2t l)<;>rfl
def k1p {x:BA}{l:List BA}(h:x ∉ l):mval (.int .i64 0) (.str x) (w2t l)= .int .i64 0:=by
 unfold mval q3o;rw[q3n h];rfl
def mputT {x:BA}{l:List BA}(h:x ∉ l):mput (.str x) (.int .i64 1) (w2t l)=w2t (l++[x]):=by
 unfold mput;rw[q3n h];simp[w2t]
def z4z {l:List BA}{i:Nat}{x:BA}(h:l[i]? =some x)(hn:(l.take i).Nodup)(hx:x ∉ l.take i):(l.take (i+1)).Nodup:=by
 rw[a1e,h,a2j,List.nodup_append];exact⟨hn,by simp,fun a ha b hb=>by simp at hb;rw[hb];exact fun e=>hx (e▸ha)⟩
def u0l {l:List BA}{i:Nat}{x:BA}(h:l[i]? =some x)(hx:x∈l.take i): ¬l.Nodup:=by
 intro hn;have hd:l=l.take i++l.drop i:=(a1u i l).symm;rw[hd,List.nodup_append]at hn;refine hn.2.2 x hx x ?_ rfl;have:(l.drop i)[0]? =some x:=by simpa using h
 exact a0j this
def z2y (l:List BA)(hl:l.length<=1000000):cF 53 [.d (.sl 1 (x0b l))]=some (.val [.bool (decide l.Nodup)]):=by
 refine cO rfl ?_;rw[(g53 ..).2];simp only[g53,go1,x0e];refine x0w (fun i:Nat=>[.sl 1 (x0b l), .int .i64 (l.length:Int), .int .i64 (i:Int), .sl 2 (w2t (l.take i))]) (fun i=>i<=l.length/\(l.take i).Nodup) (fun i=>l.length - i) (fun i hi=> ?_) 0 ⟨a0w _,by simp⟩
 by_cases hlt:i < l.length
 ·have hx:=a0b hlt
  by_cases hm:l[i]∈l.take i
  ·right
   rw[x1j (u0l hx hm)];simp only[go1,Int.reduceLT,Int.reduceAdd,x0e,x0i hlt,x0g hlt,x1c hx,y0j,k1q hm]
  ·left
   refine⟨i+1,?_,⟨hlt,z4z hx hi.2 hm⟩,by omega⟩
   have hw:IntKind.i64.wrap 1=1:=rfl;simp only[go1,Int.reduceLT,Int.reduceAdd,x0e,x0i hlt,x0g hlt,x1c hx,y0j,y6a,k1p hm,hw,mputT hm,x0a hlt (by omega)]
   rw[a1e,hx];rfl
 ·right
  have:i=l.length:=by omega
  subst this;simp only[go1,x0f];rw[a0u]at hi;rw[x1y hi.2]
def u7u {α:Type}{b:List D->Option (List D ⊕ α)}{r:α}(n:Nat)(mk:Nat->List D)(hb: ∀i,i < n->b (mk i)=some (.inl (mk (i+1))))(hend:b (mk n)=some (.inr r)):x5f b (mk 0)=some r:=by
 refine x0w mk (fun i=>i<=n) (fun i=>n - i) (fun i hi=> ?_) 0 (a0w _)
 by_cases h:i < n
 ·exact .inl ⟨i+1,hb i h,h,by omega⟩
 ·have:i=n:=by omega
  subst this;exact .inr hend
def u4x {l:List BA}{i j:Nat}{y:BA}(hj:j < i)(h:l[j]? =some y):y∈l.take i:=by
 refine a0j (i:=j) ?_;rw[a1s,if_pos hj,h]
def z2u (l:List BA)(hl:l.length<=1000000):cF 26 [.d (.sl 1 (x0b l))]=some (.val [.bool (decide l.Nodup)]):=by
 refine cO rfl ?_;rw[(g26 ..).2];simp only[g26,go1];refine x0w (fun i:Nat=>[.sl 1 (x0b l), .int .i64 (i:Int)]) (fun i=>i<=l.length/\(l.take i).Nodup) (fun i=>l.length - i) (fun i hi=> ?_) 0 ⟨a0w _,by simp⟩
 by_cases hlt:i < l.length
 ·have hx:=a0b hlt;simp only[go1,x0e,x0i hlt]
  by_cases hm:l[i]∈l.take i
  ·right
   rw[x1j (u0l hx hm)];refine x0w (fun j:Nat=>[.sl 1 (x0b l), .int .i64 (i:Int), .int .i64 (j:Int)]) (fun j=>j<=i/\ ∃k,j<=k/\k < i/\l[k]? =some l[i]) (fun j=>i - j) (fun j hj=> ?_) 0 ⟨a0w _,?_⟩
   ·obtain⟨hj,k,hk1,hk2,hk3⟩:=hj;have hjl:j < i:=by omega
    have hjl2:j < l.length:=by omega
    have hy:=a0b hjl2
    by_cases he:tb l[j]=tb l[i]
    ·right
     simp only[go1,x0e,x0i hjl,x0g hlt,x0g hjl2,x1c hx,x1c hy,x1v,x1y he]
    ·left
     refine⟨j+1,?_,⟨hjl,k,?_,hk2,hk3⟩,by omega⟩
     ·simp only[go1,x0e,x0i hjl,x0g hlt,x0g hjl2,x1c hx,x1c hy,x1v,x1j he,x0a hjl (by omega)]
      rfl
     ·rcases Nat.lt_or_ge j k with h|h
      ·exact h
      ·have:j=k:=by omega
       subst this;rw[hy]at hk3;exact absurd (by rw[Option.some.inj hk3]) he
   ·obtain⟨k,hk⟩:=List.getElem?_of_mem hm;rw[a1s]at hk;split at hk
    ·rename_i hki;exact⟨k,a0w _,hki,hk⟩
    ·cases hk
  ·left
   refine⟨i+1,?_,⟨hlt,z4z hx hi.2 hm⟩,by omega⟩
   refine u7u i (fun j=>[.sl 1 (x0b l), .int .i64 (i:Int), .int .i64 (j:Int)]) (fun j hjl=> ?_) ?_
   ·have hjl2:j < l.length:=by omega
    have hy:=a0b hjl2;have he: ¬tb l[j]=tb l[i]:=fun e=>hm (by rw[<-x3o e];exact u4x hjl hy)
    simp only[go1,x0e,x0i hjl,x0g hlt,x0g hjl2,x1c hx,x1c hy,x1v,x1j he,x0a hjl (by omega)]
    rfl
   ·simp only[go1,x0f,x0a hlt (by omega)]
    rfl
 ·right
  have:i=l.length:=by omega
  subst this;simp only[go1,x0e,x0f];rw[a0u]at hi;rw[x1y hi.2]
def w7k {τ α:Type}{b:List D->Option (List D ⊕ α)}{r0 r1:α}(p:τ->Bool)(l:List τ)(mk:Nat->List D)
  (hb: ∀i x,l[i]? =some x->b (mk i)=bif p x then some (.inl (mk (i+1)))else some (.inr r0))
  (hend:l.all p=true->b (mk l.length)=some (.inr r1)):x5f b (mk 0)=some (bif l.all p then r1 else r0):=by
 suffices ∀(rest:List τ) (i:Nat),l.drop i=rest->i<=l.length->(l.take i).all p=true->x5f b (mk i)=some (bif rest.all p then r1 else r0)from this l 0 rfl (a0w _) rfl
 intro rest
 induction rest with
 |nil=>
  intro i hd hi ht;have:i=l.length:=by have:=congrArg List.length hd;simp at this;omega
  subst this;rw[a0u]at ht;rw[x4n,hend ht];rfl
 |cons x xs ih=>
  intro i hd hi ht;have hx:l[i]? =some x:=by
   have:=congrArg (fun r=>r[0]?) hd
   simpa using this
  have hlt:i < l.length:=(a0c.1 hx).1;have hxs:l.drop (i+1)=xs:=by
   have:=congrArg List.tail hd
   simpa using this
  rw[x4n,hb i x hx];cases hp:p x with
  |false=>simp[a1r,hp]
  |true=>
   simp only[cond_true,a1r,hp,a2k];refine ih (i+1) hxs hlt ?_;rw[a1e,hx,List.all_append,ht];simp[hp]
def x2k {τ α:Type}{b:List D->Option (List D ⊕ α)}{r0 r1 r:α}{ds:List D}(p:τ->Bool)(l:List τ)(mk:Nat->List D)(h0:mk 0=ds)
  (hb: ∀i x,l[i]? =some x->b (mk i)=bif p x then some (.inl (mk (i+1)))else some (.inr r0))
  (hend:l.all p=true->b (mk l.length)=some (.inr r1)) (hr:(bif l.all p then r1 else r0)=r):x5f b ds=some r:=by
 rw[<-h0,w7k p l mk hb hend,hr]
def x5a {l:List Ex}{i:Nat}{k n:Int}{s:BA}{o:Int}{a:List BA}{u:List Ex}(h:l[i]? =some (.mk k n s o a u)):sy.row (Ex.rows l) (i:Int)= [.int .i64 k, .int .i64 n, .str s, .int .i64 o, .sl 1 (x0b a), .sl 6 (Ex.rows u)]:=q0t h
def w3c {l:List Ex}{i:Nat}{k n:Int}{s:BA}{o:Int}{a:List BA}{u:List Ex}(h:l[i]? =some (.mk k n s o a u))(hl:Ex.j0a l<=1000000):u.length<=1000000:=by
 have h1:=x2s h;have h2:=x1p u;simp only[Ex.size]at h1;omega
def z2z (k n:Int)(s:BA)(o:Int)(a:List BA)(u:List Ex)(hu:u.length<=1000000):cF 256 [kE k n s o (x0b a) (Ex.rows u)]=some (.val [.bool (!z3t (.mk k n s o a u))]):=by
 have h:=z5v k n s o a u hu;refine cO rfl ?_;rw[(g256 ..).2];simp only[g256,go1,h]
def w0t (l:List Ex)(hl:Ex.j0a l<=1000000):cF 236 [.d (.sl 6 (Ex.rows l)), .fn 256 []]=some (.val [.bool (!l.all z3t)]):=by
 rw[List.not_all_eq_any_not];have hlen:=x1p l;cases hall:l.any fun s=> !z3t s with
 |false=>
  refine cO rfl ?_;rw[(y9h ..).2];simp only[y9h,go1,Int.reduceLE,x0h];refine x0w (fun i:Nat=>[.sl 6 (Ex.rows l), .int .i64 (l.length:Int), .int .i64 (i:Int)]) (fun i=>i<=l.length) (fun i=>l.length - i) (fun i hi=> ?_) 0 (a0w _)
  by_cases hlt:i < l.length
  ·left
   refine⟨i+1,?_,hlt,by omega⟩
   have hx:=a0b hlt;have h0:(!z3t l[i])=false:=by
    have:=(List.any_eq_false.1 hall) l[i] (a1j hlt)
    simpa using this
   generalize l[i]=e at hx h0;obtain⟨k,n,s,o,a,u⟩:=e;have h:=z2z k n s o a u (w3c hx hl);simp only[go1,x0h,x0i hlt,x0g hlt,x5a hx,oE,h,h0,x0a hlt (by omega)]
   rfl
  ·right
   have:i=l.length:=by omega
   subst this;simp only[go1,x0f]
 |true=>
  have hj:=List.findIdx_lt_length_of_exists (List.any_eq_true.1 hall);have hpj:=List.findIdx_getElem (w:=hj);generalize hJ:(l.findIdx fun s=> !z3t s)=j at hj hpj
  refine cO rfl ?_;rw[(y9h ..).2];simp only[y9h,go1,Int.reduceLE,x0h];refine x0w (fun i:Nat=>[.sl 6 (Ex.rows l), .int .i64 (l.length:Int), .int .i64 (i:Int)]) (fun i=>i<=j) (fun i=>l.length - i) (fun i hi=> ?_) 0 (a0w _)
  have hlt:i < l.length:=by omega
  have hx:=a0b hlt
  by_cases hij:i < j
  ·left
   refine⟨i+1,?_,hij,by omega⟩
   have h0:(!z3t l[i])=false:=by
    have:=List.not_of_lt_findIdx (p:=fun s=> !z3t s) (xs:=l) (i:=i) (by omega)
    simpa using this
   generalize l[i]=e at hx h0;obtain⟨k,n,s,o,a,u⟩:=e;have h:=z2z k n s o a u (w3c hx hl);simp only[go1,x0h,x0i hlt,x0g hlt,x5a hx,oE,h,h0,x0a hlt (by omega)]
   rfl
  ·right
   have:i=j:=by omega
   subst this;have h0:(!z3t l[i])=true:=hpj;generalize l[i]=e at hx h0;obtain⟨k,n,s,o,a,u⟩:=e;have h:=z2z k n s o a u (w3c hx hl);simp only[go1,x0h,x0i hlt,x0g hlt,x5a hx,oE,h,h0,show decide ((0:Int)<=(i:Int))=true from a0s (a2f _)]
def v0h (k n:Int)(s:BA)(o:Int)(a:List BA)(u:List Ex)(hu:Ex.j0a u<=1000000):cF 223 [kE k n s o (x0b a) (Ex.rows u)]=some (.val [.bool (y5r (.mk k n s o a u))]):=by
 have hl:=x1p u;have h1:=z5v k n s o a u (by omega)
 have h2:=w0t u hu;refine cO rfl ?_;rw[(g223 ..).2];simp only[g223,go1,h1,h2]
 by_cases hk:k=14
 ·simp only[y5r,x1y hk,go1]
 ·simp only[y5r,x1j hk,go1]
def w1c (k n:Int)(s:BA)(o:Int)(a:List BA)(u:List Ex)(hu:Ex.j0a u<=1000000):cF 165 [kE k n s o (x0b a) (Ex.rows u)]=some (.val [.bool (y5r (.mk k n s o a u))]):=by
 have hl:=x1p u;have h1:=z5t k n s o a u (by omega)
 refine cO rfl ?_;rw[(g165 ..).2];simp only[g165,go1,h1]
 by_cases hk:k=14
 ·simp only[y5r,x1y hk,go1];refine x2k z3t u (fun i:Nat=>[.int .i64 (i:Int), .int .i64 k, .int .i64 n, .str s, .int .i64 o, .sl 1 (x0b a), .sl 6 (Ex.rows u)]) rfl (r0:= .val [.bool false]) (r1:= .val [.bool true]) (fun i e hx=> ?_) (fun _=> ?_) (by cases u.all z3t<;>rfl)
  ·have hlt:=(a0c.1 hx).1;obtain⟨k2,n2,s2,o2,a2,u2⟩:=e;have h:=z5t k2 n2 s2 o2 a2 u2 (w3c hx hu);simp only[go1,Nat.reduceAdd,oE,x0h,x0i hlt,x0g hlt,x5a hx,h];cases z3t (.mk k2 n2 s2 o2 a2 u2)with
   |true=>simp only[go1,x0a hlt (by omega)];rfl
   |false=>rfl
  ·simp only[go1,Nat.reduceAdd,oE,x0h,x0f]
 ·simp only[y5r,x1j hk,go1]
def q7j (k:Int)(a:List BA):((!(decide ((if k=11 then(1:Int)else if k=12 then 6 else 0) < (a.length:Int)) || (decide (0 < (if k=11 then(1:Int)else if k=12 then 6 else 0))&&decide ((a.length:Int)=0))))&&(decide a.Nodup&&a.all y0f))=y1a k a:=by
 unfold y1a
 by_cases h1:k=11
 ·subst h1
  match a with
  | []=>rfl
  | [x]=>simp
  |x::y::r=>
   have:decide ((1:Int) < ((x::y::r).length:Int))=true:=a0s (by simp only[a0a];omega)
   have h2:decide ((x::y::r).length=1)=false:=decide_eq_false (by simp only[a0a];omega)
   simp only[if_true,this,a1t,Bool.not_true,Bool.false_and,decide_true,cond_true,h2,Bool.and_false]
 ·by_cases h2:k=12
  ·subst h2;have e1:decide ((6:Int) < (a.length:Int))= !decide (a.length<=6):=by rw[a1g];simp;omega
   have e2:decide ((a.length:Int)=0)= !decide (1<=a.length):=by rw[a1g];simp;try omega
   have e3:decide ((12:Int)=11)=false:=rfl;have e4:decide ((0:Int) < 6)=true:=rfl;simp only[if_neg h1,if_true,e1,e2,e3,e4,decide_true,cond_true,cond_false,a2k];cases decide (a.length<=6)<;>cases decide (1<=a.length)<;>cases decide a.Nodup<;>cases a.all y0f<;>rfl
  ·have e4:decide ((0:Int) < 0)=false:=rfl;simp only[if_neg h1,if_neg h2,x1j h1,x1j h2,cond_false,e4,Bool.false_and,Bool.or_false]
   match a with
   | []=>rfl
   |x::r=>
    have h3:decide ((0:Int) < ((x::r).length:Int))=true:=a0s (by simp only[a0a];omega)
    have h4:decide ((x::r).length=0)=false:=rfl;rw[h3,h4];try simp
def nlt (a b:Int):decide (a < b)= !decide (b<=a):=by
 rw[a1g];simp
def q6m (k n:Int)(s:BA)(o:Int)(a:List BA)(u:List Ex)(hs:s.size<=100000)(ha:a.length<=1000000)(hu:Ex.j0a u<=1000000):
  cF 184 [kE k n s o (x0b a) (Ex.rows u)]=some (.val [.bool (x9o (.mk k n s o a u))]):=by
 have h1:=c_eof k n s o a (Ex.rows u) hs;have h2:=z2y a ha;have h3:=w0s a ha;have h4:=x0h u;have h5:=x0e a;simp only[x9o];rw[<-q7j];refine cO rfl ?_;rw[(g184 ..).2];simp only[g184,go1,Int.reduceLE,h1,h2,h3,h4,h5];cases hk:y8g k with
 |false=>simp only[go1,oQ];try rfl
 |true=>
  simp only[go1,oQ,nlt];cases u3o k n with
  |false=>simp only[go1];try rfl
  |true=>
   cases z1e k s with
   |false=>simp only[go1];try rfl
   |true=>
    cases u4r k o with
    |false=>simp only[go1];try rfl
    |true=>
     simp only[go1];cases hlo:decide (loB k n a.length<=(u.length:Int))with
     |false=>simp only[go1]
     |true=>
      generalize (if k=11 then(1:Int)else if k=12 then 6 else 0)=M;generalize (!decide ((a.length:Int)<=M) || !decide (M<=0)&&decide ((a.length:Int)=0))=X
      cases decide ((u.length:Int)<=hiB k n a.length)with
      |false=>simp only[go1]
      |true=>
       cases X with
       |true=>simp only[go1]
       |false=>
        cases decide a.Nodup with
        |false=>simp only[go1]
        |true=>
         cases a.all y0f with
         |false=>simp only[go1]
         |true=>
          simp only[go1]
          by_cases h8:k=8
          ·subst h8
           match u,hlo,hu with
           | [],hlo,_=>cases hlo
           | .mk k2 n2 s2 o2 a2 u2::u,hlo,hu=>
             have hx:(Ex.mk k2 n2 s2 o2 a2 u2::u)[0]? =some (.mk k2 n2 s2 o2 a2 u2):=rfl;have hc:=v0h k2 n2 s2 o2 a2 u2 (by simp only[Ex.j0a,Ex.size]at hu;omega)
             have hr:sy.row (Ex.rows (.mk k2 n2 s2 o2 a2 u2::u)) 0= [.int .i64 k2, .int .i64 n2, .str s2, .int .i64 o2, .sl 1 (x0b a2), .sl 6 (Ex.rows u2)]:=x5a hx;have hz:decide (((Ex.mk k2 n2 s2 o2 a2 u2::u).length:Int)<=0)=false:=decide_eq_false (by simp only[a0a];omega)
             simp only[go1,hz,hr,oE,hc,k5s]
          ·simp only[go1,x1j h8,k5s]
def y7a (s:BA)(i:Nat):(s.data.getD ((i:Nat):Int).toNat 0).toNat=(tb s).getD i 0:=by rw[y3m,a0m]
def z8k (s:BA):(s.data.getD (Int.toNat 0) 0).toNat=(tb s).getD 0 0:=by rw[y3m];rfl
def q6l (n a b:Int):cF 159 [.d (.int .u8 n), .d (.int .u8 a), .d (.int .u8 b)]=some (.val [.bool (inI a b n)]):=by
 refine cO rfl ?_;rw[(g159 ..).2];simp only[g159,go1];rfl
def q6b (s:BA):cF 110 [.d (.str s)]=some (.val [.bool (x5h (tb s))]):=by
 have h65:cF 160 []=some (.own 9 1 (x0b x9g)):=by
  refine cO rfl ?_;rw[(g160 ..).2];simp only[g160];rfl
 rw[z8t];refine cO rfl ?_;rw[(g110 ..).2];simp only[g110,go1,h65];refine x0w (fun i:Nat=>[.str s, .sl 1 (x0b x9g), .int .i64 (i:Int)]) (fun i=>i<=x9g.length/\(x9g.take i).any (fun w=>decide (tb s=tb w))=false) (fun i=>x9g.length - i) (fun i hi=> ?_) 0 ⟨a0w _,by simp⟩
 have hwl:x9g.length=24:=rfl
 by_cases hlt:i < x9g.length
 ·have hx:=a0b hlt;simp only[go1,x0e,x0i hlt,x0g hlt,x1c hx,x1v,x0a hlt (by omega)]
  by_cases he:tb x9g[i]=tb s
  ·right
   rw[x1y he,List.any_eq_true.2 ⟨x9g[i],a1j hlt,x1y he.symm⟩];rfl
  ·left
   refine⟨i+1,?_,⟨hlt,?_⟩,by omega⟩
   ·rw[x1j he];rfl
   ·rw[a1e,List.any_append,hi.2,hx];simp;exact fun e=>he e.symm
 ·right
  have:i=x9g.length:=by omega
  subst this;simp only[go1,x0e,x0f];rw[a0u]at hi;rw[hi.2]
def q5u (s:BA)(hs:s.size<=100000):cF 109 [.d (.str s), .d (.int .u8 97), .d (.int .u8 122)]=some (.val [.bool (x6x x2c (tb s))]):=by
 have hl:=x2m s
 by_cases h1:1<=(tb s).length/\(tb s).length<=12
 ·have hc:=q6l (((tb s).getD 0 0:Nat):Int) 97 122;rw[x9x]at hc;refine cO rfl ?_;rw[(w9q ..).2];simp only[w9q,go1,Int.reduceLE,x1x,z8k,hc];rw[x1j (p:=((tb s).length:Int) < 1) (by omega),x1j (p:=12 < ((tb s).length:Int)) (by omega),x1y (p:=0 < ((tb s).length:Int)) (by omega)]
  cases hs0:x2c ((tb s).getD 0 0)with
  |false=>rw[y0r hs0];rfl
  |true=>
   simp only[go1];refine x0w (fun p:Nat=>[.str s, .int .i64 (p:Int)]) (fun p=>p<=(tb s).length/\((tb s).take p).all x0x=true) (fun p=>(tb s).length - p) (fun p hp=> ?_) 0 ⟨a0w _,by simp⟩
   by_cases hlt:p < (tb s).length
   ·have hi:=y5h ((tb s).getD p 0);simp only[go1,x0i hlt,x0g hlt,y7a,q6l,x9x,x9y,x5p,x0a hlt (by omega)]
    cases hin:x0x ((tb s).getD p 0)with
    |false=>
     right
     rw[x9u hlt hin];rw[hin]at hi;have hi:=hi.symm;simp only[Bool.or_eq_false_iff]at hi;obtain⟨⟨⟨i1,i2⟩,i3⟩,i4⟩:=hi;have i4': ¬(((tb s).getD p 0:Nat):Int)=95:=by
      have:=of_decide_eq_false i4;omega
     rw[x1j i4'];simp only[i1,i2,i3,go1]
     try rfl
    |true=>
     left
     refine⟨p+1,?_,⟨hlt,x4v hlt hp.2 hin⟩,by omega⟩
     rw[hin]at hi;cases i1:x2c ((tb s).getD p 0)<;>cases i2:x2f ((tb s).getD p 0)<;>cases i3:x1a ((tb s).getD p 0)<;>rw[i1,i2,i3]at hi<;>simp only[go1]<;>(try rfl)
     all_goals
      simp only[Bool.or_self,a1d]at hi;have i4:=a0e hi.symm;rw[x1y (p:=(((tb s).getD p 0:Nat):Int)=95) (by omega)]
      rfl
   ·right
    have:p=(tb s).length:=by omega
    subst this;simp only[go1,x0f];rw[a0u]at hp;unfold x6x;rw[hp.2,hs0,x1y h1.1,x1y h1.2];rfl
 ·have hn:x6x x2c (tb s)=false:=by
   unfold x6x
   by_cases h:1<=(tb s).length
   ·rw[x1j (p:=(tb s).length<=12) (by omega)];simp
   ·rw[x1j h];simp
  rw[hn];refine cO rfl ?_;rw[(w9q ..).2];simp only[w9q,go1,Int.reduceLE,x1x]
  by_cases h:1<=(tb s).length
  ·rw[x1y (p:=12 < ((tb s).length:Int)) (by omega)];simp only[go1];try rfl
  ·rw[x1y (p:=((tb s).length:Int) < 1) (by omega)];simp only[go1];try rfl
def y7w (s:BA)(hs:s.size<=100000):cF 59 [.d (.str s)]=some (.val [.bool (x4c (tb s))]):=by
 have h1:=q5u s hs;have h2:=q6b s;refine cO rfl ?_;rw[(g59 ..).2];simp only[g59,go1,h1,h2];rfl
def q5e {l:List Nat}{f i:Nat}(hf:f<=i)(hi:i < l.length):l.drop f=(l.take i).drop f++l.getD i 0::l.drop (i+1):=by
 have h1:l=l.take i++l.getD i 0::l.drop (i+1):=by
  rw[a0i,a0b hi];simp only[Option.getD_some];rw[List.getElem_cons_drop hi,a1u]
 conv=>lhs;rw[h1]
 rw[List.drop_append_of_le_length (by rw[a1q];omega)]
def z3n {l:List Nat}{f i:Nat}(hf:f<=i)(hi:i < l.length):(l.take (i+1)).drop f=(l.take i).drop f++[l.getD i 0]:=by
 rw[a1e,a0b hi,a0i,a0b hi];simp only[a2j,Option.getD_some];rw[List.drop_append_of_le_length (by rw[a1q];omega)]
def q0e (s:BA)(c:Nat)(hs:s.size<=100000): ∃l:List BA,cF 238 [.d (.str s), .d (.int .u8 (c:Int))]=some (.own 9 1 (x0b l))/\l.map tb=x1u c (tb s):=by
 have hl:=x2m s
 suffices ∃p,cF 238 [.d (.str s), .d (.int .u8 (c:Int))]=some p/\ ∃l:List BA,p= .own 9 1 (x0b l)/\l.map tb=x1u c (tb s) by
  obtain⟨_,h,l,rfl,hl⟩:=this;exact⟨l,h,hl⟩
 refine x3g (by kernel_rfl) rfl ?_
 rw[(g238 ..).2];simp only[g238,go1,Nat.reduceAdd];refine x5n (fun x:List BA × Nat × Nat=>[.str s, .int .u8 (c:Int), .int .i64 (x.2.1:Int), .int .i64 (x.2.2:Int), .sl 1 (x0b x.1)])
  (fun x=>x.1.length<=x.2.2/\((x.2.2<=(tb s).length/\x.2.1<=x.2.2/\x1u c (tb s)=x.1.map tb++x1u c ((tb s).drop x.2.1)/\ ∀y∈((tb s).take x.2.2).drop x.2.1,y≠c)\/(x.2.2=(tb s).length+1/\x.1.map tb=x1u c (tb s)))) (fun x=>(tb s).length+1 - x.2.2) (fun x hx=> ?_) ([],0,0) ⟨a0q _, .inl ⟨a0w _,a0q _,rfl,by simp⟩⟩
 obtain⟨done,f,i⟩:=x;obtain⟨hd,hx⟩:=hx;simp only at hd hx;rcases hx with⟨hi,hf,h1,h2⟩|⟨hi,h1⟩
 ·have hw:IntKind.i64.wrap ((i:Int)+1)=((i+1:Nat):Int):=by rw[x0v (by omega) (by omega)];rfl
  have hfit:decide ((done.length+1)*(16+1)<=140737488355328)=true:=x1y (by omega)
  by_cases hlt:i < (tb s).length
  ·simp only[go1,x1x,y7a,x0e,hw];rw[x1y (p:=(i:Int)<=((tb s).length:Int)) (by omega),x1j (p:=(i:Int)=((tb s).length:Int)) (by omega),x1y (p:=0<=(i:Int)/\(i:Int) < ((tb s).length:Int)) (by omega)]
   by_cases hc:(tb s).getD i 0=c
   ·left
    refine⟨(done++[s.extract (f:Int).toNat (i:Int).toNat],i+1,i+1),?_,⟨?_, .inl ⟨hlt,a0q _,?_,?_⟩⟩,(by show(tb s).length+1 - (i+1) < (tb s).length+1 - i;omega)⟩
    ·rw[x1y (p:=(((tb s).getD i 0:Nat):Int)=(c:Int)) (by omega),x1y (p:=0<=(f:Int)/\(f:Int)<=(i:Int)/\(i:Int)<=((tb s).length:Int)) (by omega)]
     simp only[go1,List.length_singleton,hfit,x0b,List.map_append,a1m,a1w,w2l]
    ·simp;omega
    ·simp only;rw[h1,q5e hf hlt,hc,y0l c _ _ h2,List.map_append,a1m,a1w,x8r,a0m,a0m];simp
    ·intro y hy;simp only at hy;rw[List.drop_of_length_le (by rw[a1q];omega)]at hy
     simp at hy
   ·left
    refine⟨(done,f,i+1),?_,⟨(by show done.length<=i+1;omega), .inl ⟨hlt,(by show f<=i+1;omega),h1,?_⟩⟩,(by show(tb s).length+1 - (i+1) < (tb s).length+1 - i;omega)⟩
    ·rw[x1j (p:=(((tb s).getD i 0:Nat):Int)=(c:Int)) (by omega)]
     simp only[go1];try rfl
    ·intro y hy;simp only at hy;rw[z3n hf hlt]at hy;rcases a1o.1 hy with hy|hy
     ·exact h2 y hy
     ·simp at hy;rw[hy];simpa using hc
  ·have hie:i=(tb s).length:=by omega
   left
   refine⟨(done++[s.extract (f:Int).toNat (i:Int).toNat],i+1,i+1),?_,⟨(by simp;omega), .inr ⟨(by show i+1=(tb s).length+1;omega),?_⟩⟩,(by show(tb s).length+1 - (i+1) < (tb s).length+1 - i;omega)⟩
   ·simp only[go1,x1x,x0e,hw];rw[x1y (p:=(i:Int)<=((tb s).length:Int)) (by omega),x1y (p:=(i:Int)=((tb s).length:Int)) (by omega),x1y (p:=0<=(f:Int)/\(f:Int)<=(i:Int)/\(i:Int)<=((tb s).length:Int)) (by omega)]
    simp only[go1,List.length_singleton,hfit,x0b,List.map_append,a1m,a1w,w2l]
   ·simp only;rw[hie,a0u]at h2;rw[h1,y0k c _ h2,List.map_append,a1m,a1w,x8r,a0m,a0m,hie,a0u]
 ·right
  simp only[go1,x1x];rw[x1j (p:=(i:Int)<=((tb s).length:Int)) (by omega)]
  exact⟨_,rfl,done,rfl,h1⟩
def v7u (l:List Nat):u8k l=(!(decide (l.length < 1) || decide (3 < l.length) || decide (l.getD 0 0=48))&&l.all x1a):=by
 unfold u8k
 by_cases h1:1<=l.length
 ·by_cases h3:l.length<=3
  ·rw[x1y h1,x1y h3,x1j (p:=l.length < 1) (by omega),x1j (p:=3 < l.length) (by omega)];simp
  ·rw[x1y h1,x1j h3,x1j (p:=l.length < 1) (by omega),x1y (p:=3 < l.length) (by omega)];simp
 ·rw[x1j h1,x1y (p:=l.length < 1) (by omega)];simp
def q6d (s:BA)(hs:s.size<=100000):cF 198 [.d (.str s)]=some (.val [.bool (y6e (tb s))]):=by
 obtain⟨l,h,hl⟩:=q0e s 47 hs;have hsz:=u8t hl;have hll:l.length<=100001:=by
  have:=congrArg List.length hl;rw[a1f,y2p]at this;have h2:(tb s).count 47<=(tb s).length:=List.count_le_length;rw[x2m]at h2;omega
 unfold y6e;rw[<-hl,List.all_map];have h:cF 238 [.d (.str s), .d (.int .u8 47)]=_:=h;refine cO rfl ?_;rw[(g198 ..).2];simp only[g198,go1,Int.reduceLE,h];refine x0w (fun i:Nat=>[.sl 1 (x0b l), .int .i64 (i:Int)]) (fun i=>i<=l.length/\(l.take i).all (y1y ∘ tb)=true) (fun i=>l.length - i) (fun i hi=> ?_) 0 ⟨a0w _,by simp⟩
 by_cases hlt:i < l.length
 ·have hx:=a0b hlt;have hgd:l.getD i ByteArray.empty=l[i]:=by rw[a0i,hx];rfl
  have hxs:=a1b (hsz _ (a1j hlt)) hs;generalize hxe:l[i]=x at hx hgd hxs;obtain⟨ps,hp,hps⟩:=q0e x 46 hxs;have hp:cF 238 [.d (.str x), .d (.int .u8 46)]=_:=hp;have hbad:y1y (tb x)=false->l.all (y1y ∘ tb)=false:=fun hb=>y5u (d:=ByteArray.empty) hlt (by rw[hgd];exact hb)
  have hgood:y1y (tb x)=true->(i+1<=l.length/\(l.take (i+1)).all (y1y ∘ tb)=true):=fun hb=>⟨hlt,x4v (d:=ByteArray.empty) hlt hi.2 (by rw[hgd];exact hb)⟩
  have hpe:y1y (tb x)=match ps.map tb with
   | [a]=>x4c a
   | [a,b]=>x4c a&&u8k b
   |_=>false:=by rw[hps];rfl
  have hpl:=y2p 46 (tb x);rw[<-hps,a1f]at hpl;have hsub: ∀y∈ps,y.size<=100000:=by
   have key: ∀(t:List Nat),∀p∈x1u 46 t,p.length<=t.length:=by
    intro t
    induction t with
    |nil=>intro p hp;simp[x1u]at hp;simp[hp]
    |cons x xs ih=>
     intro p hp;unfold x1u at hp;split at hp
     ·rcases a1n.1 hp with rfl|hp
      ·simp
      ·have:=ih p hp;simp;omega
     ·split at hp
      ·simp at hp;simp[hp]
      ·rename_i q qs hq;rcases a1n.1 hp with rfl|hp
       ·have:=ih q (by rw[hq];exact a0t);simp;omega
       ·have:=ih p (by rw[hq];exact a0v _ hp);simp;omega
   intro y hy;have:=key (tb x) (tb y) (by rw[<-hps];exact List.mem_map_of_mem hy)
   rw[x2m,x2m]at this;omega
  simp only[go1,x0e,x0i hlt,x0g hlt,x1c hx,hp]
  match ps,hpe,hpl,hsub with
  | [],_,hpl,_=>simp at hpl
  | [a],hpe,_,hsub=>
    have ha:=y7w a (hsub a a0t);simp only[a1m,a1w]at hpe;simp only[List.length_singleton,x0b,a1m,a1w,w2l,y1r,go1,List.getD_cons_zero,Int.toNat_zero,ha,hpe.symm];cases hb:y1y (tb x)with
    |false=>
     right
     rw[hbad hb];rfl
    |true=>
     left
     refine⟨i+1,?_,hgood hb,by omega⟩
     rw[x0a hlt (by omega)];rfl
  | [a,b],hpe,_,hsub=>
    have ha:=y7w a (hsub a a0t);have hbl:=x2m b;have hbs:=hsub b (by simp)
    simp only[a1m,a1w]at hpe;rw[v7u]at hpe;have hr1:sy.row (x0b [a,b]) 1= [.str b]:=rfl;have hr0:sy.row (x0b [a,b]) 0= [.str a]:=rfl;simp only[a0a,a0d,hr0,hr1,go1,Nat.reduceAdd,ha,x1x,z8k];cases hla:x4c (tb a)with
    |false=>
     right
     rw[hla,Bool.false_and]at hpe;rw[hbad hpe];rfl
    |true=>
     rw[hla,a2k]at hpe;have e1:decide (((tb b).length:Int) < 1)=decide ((tb b).length < 1):=by rw[a1g];simp only[a0p];omega
     have e3:decide (3 < ((tb b).length:Int))=decide (3 < (tb b).length):=by rw[a1g];simp only[a0p];omega
     have e4:decide ((((tb b).getD 0 0:Nat):Int)=48)=decide ((tb b).getD 0 0=48):=by rw[a1g];simp only[a0p];omega
     simp only[go1,e1,e3,e4]
     by_cases q1:(tb b).length < 1
     ·right
      rw[x1y q1]at hpe ⊢;rw[hbad (by rw[hpe];simp)];rfl
     by_cases q3:3 < (tb b).length
     ·right
      rw[x1j q1,x1y q3]at hpe ⊢;rw[hbad (by rw[hpe];simp)];rfl
     rw[x1j q1,x1j q3]at hpe ⊢;rw[x1y (p:=0 < ((tb b).length:Int)) (by omega)]
     by_cases q4:(tb b).getD 0 0=48
     ·right
      rw[x1y q4]at hpe ⊢;rw[hbad (by rw[hpe];simp)];rfl
     rw[x1j q4]at hpe ⊢;simp only[go1]at hpe ⊢;cases had:(tb b).all x1a with
     |true=>
      left
      rw[had]at hpe;refine⟨i+1,?_,hgood hpe,by omega⟩
      refine x0w (r:=Sum.inl [D.sl 1 (x0b l),D.int .i64 ((i+1:Nat):Int)]) (fun k:Nat=>[.sl 1 (x0b l), .int .i64 (i:Int), .str b, .int .i64 (k:Int)]) (fun k=>k<=(tb b).length) (fun k=>(tb b).length - k) (fun k hk=> ?_) 0 (a0w _)
      by_cases hkl:k < (tb b).length
      ·left
       refine⟨k+1,?_,hkl,by omega⟩
       have hdg:x1a ((tb b).getD k 0)=true:=by
        rw[a0i,a0b hkl];exact a0l.1 had _ (a1j hkl)
       simp only[go1,x0i hkl,x0g hkl,y7a,q6l,x5p,hdg,x0a hkl (by omega)]
       try rfl
      ·right
       have:k=(tb b).length:=by omega
       subst this;simp only[go1,x0f,x0a hlt (by omega)]
       try rfl
     |false=>
      right
      rw[had]at hpe;rw[hbad hpe];refine x0w (r:=Sum.inr (PRes.val [D.bool false])) (fun k:Nat=>[.sl 1 (x0b l), .int .i64 (i:Int), .str b, .int .i64 (k:Int)]) (fun k=>k<=(tb b).length/\((tb b).take k).all x1a=true) (fun k=>(tb b).length - k) (fun k hk=> ?_) 0 ⟨a0w _,by simp⟩
      by_cases hkl:k < (tb b).length
      ·cases hdg:x1a ((tb b).getD k 0)with
       |true=>
        left
        refine⟨k+1,?_,⟨hkl,x4v hkl hk.2 hdg⟩,by omega⟩
        simp only[go1,x0i hkl,x0g hkl,y7a,q6l,x5p,hdg,x0a hkl (by omega)]
        try rfl
       |false=>
        right
        simp only[go1,x0i hkl,x0g hkl,y7a,q6l,x5p,hdg]
        try rfl
      ·exfalso;have:k=(tb b).length:=by omega
       rw[this,a0u,had]at hk;exact absurd hk.2 (by simp)
  |_::_::_::r,hpe,_,_=>
   right
   have:y1y (tb x)=false:=hpe;rw[hbad this];rw[x1y (p:=2 < (((_::_::_::r:List BA).length:Nat):Int)) (by simp;omega)]
   rfl
 ·right
  have:i=l.length:=by omega
  subst this;simp only[go1,x0e,x0f];rw[a0u]at hi;rw[hi.2]
def w6p (s:BA)(hs:s.size<=100000):cF 109 [.d (.str s), .d (.int .u8 65), .d (.int .u8 90)]=some (.val [.bool (x6x x2f (tb s))]):=by
 have hl:=x2m s
 by_cases h1:1<=(tb s).length/\(tb s).length<=12
 ·have hc:=q6l (((tb s).getD 0 0:Nat):Int) 65 90;rw[x9y]at hc;refine cO rfl ?_;rw[(w9q ..).2];simp only[w9q,go1,Int.reduceLE,x1x,z8k,hc];rw[x1j (p:=((tb s).length:Int) < 1) (by omega),x1j (p:=12 < ((tb s).length:Int)) (by omega),x1y (p:=0 < ((tb s).length:Int)) (by omega)]
  cases hs0:x2f ((tb s).getD 0 0)with
  |false=>rw[y0r hs0];rfl
  |true=>
   simp only[go1];refine x0w (fun p:Nat=>[.str s, .int .i64 (p:Int)]) (fun p=>p<=(tb s).length/\((tb s).take p).all x0x=true) (fun p=>(tb s).length - p) (fun p hp=> ?_) 0 ⟨a0w _,by simp⟩
   by_cases hlt:p < (tb s).length
   ·have hi:=y5h ((tb s).getD p 0);simp only[go1,x0i hlt,x0g hlt,y7a,q6l,x9x,x9y,x5p,x0a hlt (by omega)]
    cases hin:x0x ((tb s).getD p 0)with
    |false=>
     right
     rw[x9u hlt hin];rw[hin]at hi;have hi:=hi.symm;simp only[Bool.or_eq_false_iff]at hi;obtain⟨⟨⟨i1,i2⟩,i3⟩,i4⟩:=hi;have i4': ¬(((tb s).getD p 0:Nat):Int)=95:=by
      have:=of_decide_eq_false i4;omega
     rw[x1j i4'];simp only[i1,i2,i3,go1]
     try rfl
    |true=>
     left
     refine⟨p+1,?_,⟨hlt,x4v hlt hp.2 hin⟩,by omega⟩
     rw[hin]at hi;cases i1:x2c ((tb s).getD p 0)<;>cases i2:x2f ((tb s).getD p 0)<;>cases i3:x1a ((tb s).getD p 0)<;>rw[i1,i2,i3]at hi<;>simp only[go1]<;>(try rfl)
     all_goals
      simp only[Bool.or_self,a1d]at hi;have i4:=a0e hi.symm;rw[x1y (p:=(((tb s).getD p 0:Nat):Int)=95) (by omega)]
      rfl
   ·right
    have:p=(tb s).length:=by omega
    subst this;simp only[go1,x0f];rw[a0u]at hp;unfold x6x;rw[hp.2,hs0,x1y h1.1,x1y h1.2];rfl
 ·have hn:x6x x2f (tb s)=false:=by
   unfold x6x
   by_cases h:1<=(tb s).length
   ·rw[x1j (p:=(tb s).length<=12) (by omega)];simp
   ·rw[x1j h];simp
  rw[hn];refine cO rfl ?_;rw[(w9q ..).2];simp only[w9q,go1,Int.reduceLE,x1x]
  by_cases h:1<=(tb s).length
  ·rw[x1y (p:=12 < ((tb s).length:Int)) (by omega)];simp only[go1];try rfl
  ·rw[x1y (p:=((tb s).length:Int) < 1) (by omega)];simp only[go1];try rfl
def z8d (s:BA)(hs:s.size<=100000):cF 60 [.d (.str s)]=some (.val [.bool (x3s (tb s))]):=by
 have:=w6p s hs;refine cO rfl ?_;rw[(g60 ..).2];simp only[g60,go1,this];rfl
def or0 (o:Int):(!decide (0<=o) || !decide (o<=0))= !decide (o=0):=by
 rw[a1g];simp;omega
def u6k (k n:Int)(s:BA)(o:Int)(a u:LL):cF 161 [kE k n s o a u]=some (.val [.bool (u4r k o&&u3o k n)]):=by
 have key:k=5\/k=6\/k=1\/k=2\/k=13\/(k≠5/\k≠6/\k≠1/\k≠2/\k≠13):=by omega
 rcases key with rfl|rfl|rfl|rfl|rfl|⟨h1,h2,h3,h4,h5⟩
 all_goals refine cO rfl ?_
 all_goals rw[(g161 ..).2]
 all_goals simp only[g161,go1,Int.reduceEq,nlt,u4r,u3o,Int.reduceEq,or0 o]
 ·cases decide (1<=o)<;>cases decide (o<=2)<;>rfl
 ·cases decide (3<=o)<;>cases decide (o<=16)<;>rfl
 ·cases decide (o=0)<;>rfl
 ·cases decide (o=0)<;>cases decide (n=0)<;>cases decide (n=1)<;>rfl
 ·cases decide (o=0)<;>cases decide (n=0)<;>cases decide (n=1)<;>rfl
 ·simp only[x1j h1,x1j h2,x1j h3,x1j h4,x1j h5,go1,Bool.or_self];cases decide (o=0)<;>rfl
def w1b (k n:Int)(s:BA)(o:Int)(a u:LL)(hs:s.size<=100000):cF 162 [kE k n s o a u]=some (.val [.bool (z1e k s)]):=by
 have q1:=y7w s hs;have q2:=z8d s hs;have q3:=q6d s hs;have key:k=3\/k=11\/k=12\/k=13\/k=4\/k=17\/(k≠3/\k≠11/\k≠12/\k≠13/\k≠4/\k≠17):=by omega
 rcases key with rfl|rfl|rfl|rfl|rfl|rfl|⟨h1,h2,h3,h4,h5,h6⟩
 all_goals refine cO rfl ?_
 all_goals rw[(g162 ..).2]
 all_goals simp only[g162,go1,Int.reduceEq,z1e,Int.reduceEq,q1,q2,q3,x1v]
 all_goals (try rfl)
 simp only[x1j h1,x1j h2,x1j h3,x1j h4,x1j h5,x1j h6,go1,Bool.or_self];rfl
def q5y (s:BA)(hs:s.size<=100000):cF 199 [.d (.str s)]=some (.val [.bool (y0f s)]):=by
 have h:=z8d s hs;refine cO rfl ?_;rw[(g199 ..).2];simp only[g199,go1,h,x1v];unfold y0f;cases x3s (tb s)<;>cases h1:decide (tb s=tb x7k)<;>cases h2:decide (tb s=tb x4k)<;>(unfold x7k at h1;unfold x4k at h2;simp only[go1,h1,h2];try rfl)
def w6s (k n:Int)(s:BA)(o:Int)(a:List BA)(u:LL)(ha: ∀x∈a,x.size<=100000)(hl:a.length<=1000000):cF 163 [kE k n s o (x0b a) u]=some (.val [.bool (y1a k a)]):=by
 have hO:=z2u a hl;refine cO rfl ?_;rw[(g163 ..).2];simp only[g163,go1];refine x2k y0f a (fun i:Nat=>[.int .i64 (i:Int), .int .i64 k, .int .i64 n, .str s, .int .i64 o, .sl 1 (x0b a), .sl 6 u]) rfl (r0:= .val [.bool false]) (r1:= .val [.bool (y1a k a)]) (fun i e hx=> ?_) (fun hall=> ?_) (by unfold y1a;cases a.all y0f<;>rfl)
 ·have hlt:=(a0c.1 hx).1;have h:=q5y e (ha e (a0j hx));simp only[go1,Nat.reduceAdd,oE,x0e,x0i hlt,x0g hlt,x1c hx,h];cases y0f e with
  |true=>simp only[go1,x0a hlt (by omega)];rfl
  |false=>rfl
 ·simp only[go1,Nat.reduceAdd,oE,x0e,x0f,hO,y1a,hall];have e1:decide ((a.length:Int)=1)=decide (a.length=1):=by rw[a1g];simp;try omega
  have e2:decide ((a.length:Int)=0)=decide (a.length=0):=by rw[a1g];simp;try omega
  have e3:decide ((1:Int)<=(a.length:Int))=decide (1<=a.length):=by rw[a1g];simp;try omega
  have e4:decide ((a.length:Int)<=6)=decide (a.length<=6):=by rw[a1g];simp;try omega
  rw[e1,e2,e3,e4]
  by_cases h1:k=11
  ·simp only[x1y h1,go1]
  ·by_cases h2:k=12
   ·simp only[x1j h1,x1y h2,go1];cases decide (1<=a.length)<;>cases decide (a.length<=6)<;>rfl
   ·simp only[x1j h1,x1j h2,go1]
def w6q (k n:Int)(s:BA)(o:Int)(a:List BA)(u:LL)(hn:k=13->n=0\/n=1):cF 164 [kE k n s o (x0b a) u]=some (.val [.int .i64 (loB k n a.length), .int .i64 (hiB k n a.length)]):=by
 have h5:=x0e a;have key:(k=5\/k=10\/k=11\/k=6\/k=8\/k=9\/k=15\/k=7\/k=16\/k=12\/k=14)\/k=13\/(k≠5/\k≠10/\k≠11/\k≠6/\k≠8/\k≠9/\k≠15/\k≠7/\k≠16/\k≠12/\k≠14/\k≠13):=by omega
 rcases key with h|h|⟨h1,h2,h3,h4,h5,h6,h7,h8,h9,h10,h11,h12⟩
 ·rcases h with rfl|rfl|rfl|rfl|rfl|rfl|rfl|rfl|rfl|rfl|rfl
  all_goals refine cO rfl ?_
  all_goals rw[(w9o ..).2]
  all_goals simp only[w9o,go1,Int.reduceEq,loB,hiB,Int.reduceEq,h5,or_self,or_true,true_or,if_true,if_false]
 ·subst h;rcases hn rfl with rfl|rfl
  ·refine cO rfl ?_;rw[(w9o ..).2];simp only[w9o,go1,Int.reduceEq,Int.reduceAdd,loB,hiB]
   try rfl
  ·refine cO rfl ?_;rw[(w9o ..).2];simp only[w9o,go1,Int.reduceEq,Int.reduceAdd,loB,hiB]
   try rfl
 ·refine cO rfl ?_;rw[(w9o ..).2];simp only[w9o,go1,x1j h1,x1j h2,x1j h3,x1j h4,x1j h5,x1j h6,x1j h7,x1j h8,x1j h9,x1j h10,x1j h11,x1j h12];simp only[loB,hiB,h1,h2,h3,h4,h5,h6,h7,h8,h9,h10,h11,h12,or_self,if_false]
def w6r (k n:Int)(s:BA)(o:Int)(a:List BA)(u:List Ex)(hs:s.size<=100000)(ha: ∀x∈a,x.size<=100000)(hl:a.length<=1000000)(hu:Ex.j0a u<=1000000):
  cF 118 [kE k n s o (x0b a) (Ex.rows u)]=some (.val [.bool (x9o (.mk k n s o a u))]):=by
 have h1:=u6k k n s o (x0b a) (Ex.rows u);have h2:=w1b k n s o (x0b a) (Ex.rows u) hs;have h3:=w6s k n s o a (Ex.rows u) ha hl;have h4:=x0h u;simp only[x9o];refine cO rfl ?_;rw[(g118 ..).2];simp only[g118,go1,Int.reduceLE,h1,h2,h3,h4];have hkk:(decide (k < 1) || decide (17 < k))= !y8g k:=by
  unfold y8g;rw[nlt,nlt];cases decide (1<=k)<;>cases decide (k<=17)<;>rfl
 cases hk:y8g k with
 |false=>
  rw[hk]at hkk;cases g1:decide (k < 1)with
  |true=>simp only[go1];try rfl
  |false=>
   rw[g1]at hkk;have g2:decide (17 < k)=true:=by simpa using hkk
   simp only[go1,g2];try rfl
 |true=>
  rw[hk]at hkk;have g1:decide (k < 1)=false:=by cases g:decide (k < 1)with
   |true=>rw[g]at hkk;cases hkk
   |false=>rfl
  have g2:decide (17 < k)=false:=by rw[g1]at hkk;simpa using hkk
  simp only[go1,g1,g2];cases hN:u3o k n with
  |false=>cases u4r k o<;>(simp only[go1];try rfl)
  |true=>
   cases u4r k o with
   |false=>cases z1e k s<;>(simp only[go1];try rfl)
   |true=>
    cases z1e k s with
    |false=>simp only[go1,Bool.and_self];try rfl
    |true=>
     cases y1a k a with
     |false=>simp only[go1,Bool.and_self];try rfl
     |true=>
      have h5:=w6q k n s o a (Ex.rows u) (fun h=>by
       subst h;simp[u3o]at hN;exact hN)
      simp only[go1,Bool.and_self,h5];cases hlo:decide (loB k n a.length<=(u.length:Int))with
      |false=>simp only[go1];try rfl
      |true=>
       cases decide ((u.length:Int)<=hiB k n a.length)with
       |false=>simp only[go1];try rfl
       |true=>
        simp only[go1]
        by_cases h8:k=8
        ·subst h8
         match u,hlo,hu with
         | [],hlo,_=>cases hlo
         | .mk k2 n2 s2 o2 a2 u2::u,hlo,hu=>
           have hc:=w1c k2 n2 s2 o2 a2 u2 (by simp only[Ex.j0a,Ex.size]at hu;omega)
           have hr:sy.row (Ex.rows (.mk k2 n2 s2 o2 a2 u2::u)) 0= [.int .i64 k2, .int .i64 n2, .str s2, .int .i64 o2, .sl 1 (x0b a2), .sl 6 (Ex.rows u2)]:=x5a (l:= .mk k2 n2 s2 o2 a2 u2::u) (i:=0) rfl;have hz:decide ((0:Int) < ((Ex.mk k2 n2 s2 o2 a2 u2::u).length:Int))=true:=a0s (by simp only[a0a];omega)
           have hz2:decide ((0:Int)<=0/\(0:Int) < ((Ex.mk k2 n2 s2 o2 a2 u2::u).length:Int))=true:=a0s ⟨by omega,by simp only[a0a];omega⟩
           simp only[go1,hz,hr,oE,hc,k5s]
        ·simp only[go1,x1j h8,k5s]
noncomputable abbrev kW1 (k n:Int) (s:BA) (o:Int) (a u:LL) (m:Int):List V:=[.d (.int .i64 0), .d (.int .i64 2),kE k n s o a u, .yld 0 (u7y 181), .agg [.any, .any, .any, .ptr 1 0, .any, .any, .any, .any, .any, .any], .fn 3 [.d (.int .i64 m)]]
def decW1 (k n:Int)(s:BA)(o:Int)(a u:LL)(m:Int):y0d (kW1 k n s o a u m)=some (0,[kE k n s o a u, .yld 0 (u7y 181)],[.cells (.rcd .ready) [.any, .any, .any, .ptr 1 0, .any, .any, .any, .any, .any, .any], .cells (.ty 3) [.d (.int .i64 m)]]):=rfl
noncomputable abbrev kW2 (k n:Int) (s:BA) (o:Int) (a u:LL) (b:Bool):List V:=[.d (.int .i64 0), .d (.int .i64 2),kE k n s o a u, .yld 0 (u7y 145), .agg [.any, .any, .ptr 1 0, .any, .any, .any, .any, .any, .any, .any, .any, .any, .any, .any, .any, .any, .any, .any], .fn 4 [.d (.bool b)]]
def decW2 (k n:Int)(s:BA)(o:Int)(a u:LL)(b:Bool):y0d (kW2 k n s o a u b)=some (0,[kE k n s o a u, .yld 0 (u7y 145)],[.cells (.rcd .ready) [.any, .any, .ptr 1 0, .any, .any, .any, .any, .any, .any, .any, .any, .any, .any, .any, .any, .any, .any, .any], .cells (.ty 4) [.d (.bool b)]]):=rfl
def w0v: ∀(m:Nat) (k n:Int) (s:BA) (o:Int) (a:List BA) (u:List Ex) (c:Nat),(Ex.mk k n s o a u).size<=m->m<=1000000->c+m<=2000000->
  cF 1000219 (kW1 k n s o (x0b a) (Ex.rows u) (c:Int))=some (.val [.bool false, .bool true, .int .i64 ((c+(Ex.mk k n s o a u).size:Nat):Int)])
 |0,k,n,s,o,a,u,c,h,_,_=>by simp only[Ex.size]at h;omega
 |m+1,k,n,s,o,a,u,c,h,hm,hc=>by
  have hz:Ex.j0a u<=m:=by simp only[Ex.size]at h;omega
  have hl:=x1p u;refine q8x (f:=219) (by kernel_rfl) (decW1 k n s o (x0b a) (Ex.rows u) (c:Int)) (by kernel_rfl) rfl ?_
  rw[(v0r ..).2];simp only[v0r,go1,x0h,x0a (i:=c) (n:=c+1) (by omega) (by omega)]
  refine x0w (fun i:Nat=>[.sl 6 (Ex.rows u), .int .i64 (u.length:Int), .int .i64 (i:Int), .int .i64 ((c+1+Ex.j0a (u.take i):Nat):Int)]) (fun i=>i<=u.length/\Ex.j0a (u.take i)<=m) (fun i=>u.length - i) (fun i hi=> ?_) 0 ⟨a0w _,a0w _⟩
  by_cases hlt:i < u.length
  ·left
   have hx:=a0b hlt;have hd:Ex.j0a (u.take (i+1))=Ex.j0a (u.take i)+u[i].size:=by rw[a1e,hx];exact x4z _ _
   have hle:Ex.j0a (u.take (i+1))<=m:=by
    have:=x4e (u.take (i+1)) (u.drop (i+1));rw[a1u]at this;omega
   refine⟨i+1,?_,⟨hlt,hle⟩,by omega⟩
   rw[hd]at hle ⊢;generalize u[i]=e at hx hle ⊢;have he:=x2s hx;obtain⟨k2,n2,s2,o2,a2,u2⟩:=e;have h2:=w0v (Ex.mk k2 n2 s2 o2 a2 u2).size k2 n2 s2 o2 a2 u2 (c+1+Ex.j0a (u.take i)) (a0q _) (by omega) (by omega)
   simp only[go1,x0h,x0i hlt,x0g hlt,x5a hx,oE,h2,x0a hlt (by omega)]
   rw[a2e (c+1)];rfl
  ·right
   have:i=u.length:=by omega
   subst this;simp only[go1,x0f,a0u,Ex.size];rw[show c+1+Ex.j0a u=c+(Ex.j0a u+1) by omega]
 termination_by m=>m
 decreasing_by omega
mutual
def Ex.j0x:Ex->Prop
 | .mk _ _ s _ a u=>(s.size<=100000/\(∀x∈a,x.size<=100000)/\a.length<=1000000)/\Ex.j1r u
def Ex.j1r:List Ex->Prop
 | []=>True
 |e::l=>e.j0x/\Ex.j1r l
end
mutual
def z7a: ∀e:Ex,e.okS->e.size<=1000000->e.j0x
 | .mk k n s o a u,h,h2=>by
   have hl:=x1p u;have h3:Ex.j0a u+1<=1000000:=h2;obtain⟨q1,⟨q2,q3⟩,q4⟩:=h;exact⟨⟨q1,q2,by omega⟩,u0f u q4 (by omega)⟩
def u0f: ∀u:List Ex,Ex.j0n u->Ex.j0a u<=1000000->Ex.j1r u
 | [],_,_=>trivial
 |e::l,h,h2=>by
  have h3:e.size+Ex.j0a l<=1000000:=h2;exact⟨z7a e h.1 (by omega),u0f l h.2 (by omega)⟩
end
def y9k {e:Ex}: ∀ {l:List Ex} {i:Nat},l[i]? =some e->Ex.j1r l->e.j0x
 |x::l,0,h,h2=>by simp at h;subst h;exact h2.1
 |x::l,i+1,h,h2=>y9k (l:=l) (i:=i) (by simpa using h) h2.2
def k6t (b:Bool):Bool->PRes
 |true=> .val [.bool false, .bool true, .bool b]
 |false=> .val [.bool true, .bool false, .bool false]
def w0u: ∀(m:Nat) (k n:Int) (s:BA) (o:Int) (a:List BA) (u:List Ex) (b:Bool),(Ex.mk k n s o a u).size<=m->m<=1000000->(Ex.mk k n s o a u).j0x->
  cF 1000219 (kW2 k n s o (x0b a) (Ex.rows u) b)=some (k6t b (x9c (.mk k n s o a u)))
 |0,k,n,s,o,a,u,b,h,_,_=>by simp only[Ex.size]at h;omega
 |m+1,k,n,s,o,a,u,b,h,hm,hf=>by
  have hz:Ex.j0a u<=m:=by simp only[Ex.size]at h;omega
  have hl:=x1p u;obtain⟨⟨f1,f2,f3⟩,f4⟩:=hf;have h1:=q6m k n s o a u f1 f3 (by omega)
  refine q8x (f:=219) (by kernel_rfl) (decW2 k n s o (x0b a) (Ex.rows u) b) (by kernel_rfl) rfl ?_
  rw[(v0s ..).2];simp only[v0s,go1,h1,x9c];cases x9o (.mk k n s o a u)with
  |false=>rfl
  |true=>
   simp only[go1,x0h];refine x0w (fun i:Nat=>[.sl 6 (Ex.rows u), .int .i64 (u.length:Int), .int .i64 (i:Int), .bool b]) (fun i=>i<=u.length/\y3d u=y3d (u.drop i)) (fun i=>u.length - i) (fun i hi=> ?_) 0 ⟨a0w _,rfl⟩
   by_cases hlt:i < u.length
   ·have hx:=a0b hlt;have hd:=List.drop_eq_getElem_cons hlt;have hi2:=hi.2;rw[hd]at hi2;generalize u[i]=e at hx hi2;have he:=x2s hx;have hfe:=y9k hx f4;obtain⟨k2,n2,s2,o2,a2,u2⟩:=e;have h2:=w0u (Ex.mk k2 n2 s2 o2 a2 u2).size k2 n2 s2 o2 a2 u2 b (a0q _) (by omega) hfe
    rw[hi2];simp only[y3d];cases hb:x9c (.mk k2 n2 s2 o2 a2 u2)with
    |false=>
     right
     rw[hb]at h2;simp only[k6t]at h2;simp only[go1,x0h,x0i hlt,x0g hlt,x5a hx,oE,h2,k6t]
    |true=>
     left
     rw[hb]at h2;simp only[k6t]at h2;refine⟨i+1,?_,⟨hlt,by simp only[a2k]⟩,by omega⟩
     simp only[go1,x0h,x0i hlt,x0g hlt,x5a hx,oE,h2,x0a hlt (by omega)]
     rfl
   ·right
    have:i=u.length:=by omega
    subst this;rw[hi.2,List.drop_length];simp only[go1,x0f,y3d,k6t]
 termination_by m=>m
 decreasing_by omega
def w1j (k n:Int)(s:BA)(o:Int)(a:List BA)(u:List Ex)(h:(Ex.mk k n s o a u).size<=1000000):cF 181 [kE k n s o (x0b a) (Ex.rows u)]=some (.val [.int .i64 ((Ex.mk k n s o a u).size:Int)]):=by
 have h1:=w0v 1000000 k n s o a u 0 h (a0q _) (by omega)
 rw[a1z]at h1;have h1:cF 1000219 (kW1 k n s o (x0b a) (Ex.rows u) 0)=_:=h1;refine cO rfl ?_;rw[(g181 ..).2];simp only[g181,go1,h1]
def x3c (e:Ex):Bool:=decide (e.size<=60)&&decide (e.depth<=12)
def z8f (k n:Int)(s:BA)(o:Int)(a:List BA)(u:List Ex)(h:(Ex.mk k n s o a u).size<=1000000)(hf:(Ex.mk k n s o a u).j0x):cF 145 [kE k n s o (x0b a) (Ex.rows u)]=some (.val [.bool (x3c (.mk k n s o a u)&&x9c (.mk k n s o a u))]):=by
 have h1:=w1j k n s o a u h;have h2:=z8g 1000000 k n s o a u h (a0q _);have h3:=w0u 1000000 k n s o a u false h (a0q _) hf;have e1:decide ((60:Int) < ((Ex.mk k n s o a u).size:Int))= !decide ((Ex.mk k n s o a u).size<=60):=by rw[a1g];simp;try omega
 have e2:decide ((12:Int) < ((Ex.mk k n s o a u).depth:Int))= !decide ((Ex.mk k n s o a u).depth<=12):=by rw[a1g];simp;try omega
 refine cO rfl ?_;rw[(g145 ..).2];simp only[g145,go1,h1,h2,h3,e1,e2];unfold x3c;cases decide ((Ex.mk k n s o a u).size<=60)<;>cases decide ((Ex.mk k n s o a u).depth<=12)<;>cases x9c (.mk k n s o a u)<;>rfl
end Go.Vm
end
