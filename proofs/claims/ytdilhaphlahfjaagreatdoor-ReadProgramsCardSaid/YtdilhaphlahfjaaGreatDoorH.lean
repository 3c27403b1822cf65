/-
  Part H of the proof. What is proved by the whole: the statement that the claim names, with no condition. This part: lemmas.
-/
import Derived.Test.YtdilhaphlahfjaaGreatDoorG
set_option linter.all false

section
set_option maxRecDepth 100000
set_option maxHeartbeats 4000000
namespace Go.Vm
open Go.Proofs
theorem x4c {f k:FuncId}{pn:Nat}{xs key:List V}{hs:List Box}{p:PRes}(hg:x4w Tryz.prog k=false)(hd:y1z key=some (pn,xs,hs))(hk:Nat.beq k (z0s f)=true)(hn:kn k key=none)(h:(x3f sy Tryz.prog cs f pn xs hs).run eF=some p):cF k key=some p:=by
 have:=Nat.eq_of_beq_eq_true hk
 subst this
 exact v1p hg hn hd h
section
variable (l w a : LL) (i x y : Int) (s : ByteArray) (b : Bool)
theorem y1u:y1z (kP 285 l i)=some (285,[.ptr 0 0],[.cells (.ty 266) [.d (.sl 4 l), .d (.int .i64 i)]]):=rfl
theorem y1t:y1z (kS 285 s l i)=some (285,[.ptr 0 0, .d (.str s)],[.cells (.ty 266) [.d (.sl 4 l), .d (.int .i64 i)]]):=rfl
theorem y1s:y1z (kP 0 l i)=some (0,[.ptr 0 0],[.cells (.ty 266) [.d (.sl 4 l), .d (.int .i64 i)]]):=rfl
theorem y1r:y1z (kS 0 s l i)=some (0,[.ptr 0 0, .d (.str s)],[.cells (.ty 266) [.d (.sl 4 l), .d (.int .i64 i)]]):=rfl
theorem y1q:y1z (kO x y l i)=some (0,[.ptr 0 0, .d (.int .i64 x), .d (.int .i64 y)],[.cells (.ty 266) [.d (.sl 4 l), .d (.int .i64 i)]]):=rfl
theorem y1p:y1z (kN w l i)=some (285,[.ptr 0 0, .own 1],[.cells (.ty 266) [.d (.sl 4 l), .d (.int .i64 i)], .arr 9 1 w]):=rfl
theorem x6q:y1z (rP l i b)=some (0,[.ptr 0 0],[.cells (.ty 61) [.d (.sl 4 l), .d (.int .i64 i), .d (.bool b)]]):=rfl
theorem x6u:y1z (rS s l i b)=some (0,[.ptr 0 0, .d (.str s)],[.cells (.ty 61) [.d (.sl 4 l), .d (.int .i64 i), .d (.bool b)]]):=rfl
theorem x7a:y1z (rO a w l i b)=some (0,[.ptr 0 0, .own 1, .own 2],[.cells (.ty 61) [.d (.sl 4 l), .d (.int .i64 i), .d (.bool b)], .arr 3 1 a, .arr 9 1 w]):=rfl
end
inductive Ex where
 |mk (k n:Int) (s:ByteArray) (o:Int) (a:List ByteArray) (l:List Ex)
mutual
def Ex.row:Ex→List D
 | .mk k n s o a l=>[.int .i64 k, .int .i64 n, .str s, .int .i64 o, .sl 1 (x0e a), .sl 6 (Ex.rows l)]
def Ex.rows:List Ex→LL
 | []=>[]
 |e::l=>e.row::Ex.rows l
end
def e0:Ex:= .mk 0 0 (bs []) 0 [] []
inductive Rs (α:Type) where
 |out
 |ok (a:α) (i:Nat)
 |bad (i:Nat)
def Rs.bind {α β:Type}:Rs α→(α→Nat→Rs β)→Rs β
 | .out,_=> .out
 | .bad i,_=> .bad i
 | .ok a i,f=>f a i
theorem Rs.bind_bad {α β:Type}(i:Nat)(f:α→Nat→Rs β):(Rs.bad i).bind f= .bad i:=rfl
theorem Rs.bind_ok {α β:Type}(a:α)(i:Nat)(f:α→Nat→Rs β):(Rs.ok a i).bind f=f a i:=rfl
def x5y {α:Type}(c:α→List D)(l:List Tk):Rs α→PRes
 | .ok a i=> .val (.bool false::(c a++[.sl 4 (x0a l), .int .i64 (i:Int)]))
 | .bad i=> .val [.bool true, .int .i64 (i:Int), .sl 4 (x0a l), .int .i64 (i:Int)]
 | .out=> .val []
def tkA (l:List Tk)(i:Nat):Tk:=l.getD i ⟨6,bs [],0,0⟩
def isT (l:List Tk)(i:Nat)(s:ByteArray):Bool:=decide (tb (tkA l i).s=tb s)&&(decide ((tkA l i).k=1) || decide ((tkA l i).k=5))
theorem x3d {l:List Tk}{i:Nat}(h:i < l.length):sy.row (x0a l) (i:Int)=x3b (tkA l i):=by
 unfold tkA
 rw[a0d,a0b h,Option.getD_some]
 show(x0a l).getD (i:Int).toNat []=_
 rw[a0h,a0d]
 simp [x0a,h]
theorem x5t {l:List Tk}{i:Nat}(h:i < l.length):decide (0≤(i:Int)∧(i:Int) < ((x0a l).length:Int))=true:=by
 rw[x3w];exact x0p h
structure LOK (l:List Tk):Prop where
 pos:0 < l.length
 last:(tkA l (l.length - 1)).k=6
 few:l.length≤1000000
theorem LOK.next {l:List Tk}(h:LOK l){i:Nat}(hi:i < l.length)(hk:(tkA l i).k≠6):i+1 < l.length:=by
 by_cases he:i=l.length - 1
 ·subst he;exact(hk h.last).elim
 ·omega
theorem x0t {l:List Tk}{i:Nat}{s:ByteArray}(h:isT l i s=true):(tkA l i).k≠6:=by
 unfold isT at h
 simp only [a0p,Bool.or_eq_true,a0t]at h
 omega
theorem x3p (l:List Tk)(hl:LOK l)(i:Nat)(hi:i < l.length)(s:ByteArray):cF 1000243 (kS 0 s (x0a l) (i:Int))=some (.val (match isT l i s with
  |true=>[.bool true, .sl 4 (x0a l), .int .i64 ((i+1:Nat):Int)]
  |false=>[.bool false, .sl 4 (x0a l), .int .i64 (i:Int)])):=by
 have hf:=hl.few
 have h1:=x5t hi
 have h2:=x3d hi
 refine x4c (f:=243) (by kernel_rfl) (by with_reducible first|exact y1u _ _|exact y1t _ _ _|exact y1s _ _|exact y1r _ _ _|exact y1q _ _ _ _|exact y1p _ _ _|exact x6q _ _ _|exact x6u _ _ _ _|exact x7a _ _ _ _ _) (by kernel_rfl) rfl ?_
 rw[w8a]
 simp only [k3v,oT,go1,h1,h2,x3b,x1l]
 rw[←show isT l i s=(decide (tb (tkA l i).s=tb s)&&(decide ((tkA l i).k=1) || decide ((tkA l i).k=5)))from rfl]
 cases isT l i s with
 |true=>simp only [go1];rw[x0c (n:=l.length) hi (by omega)];rfl
 |false=>rfl
def x5w:ByteArray:=bs [116,114,117,101]
def x2r:ByteArray:=bs [102,97,108,115,101]
def y1a (l:List Tk)(i:Nat):Bool:=decide ((tkA l i).k=2) || (isT l i x5w || isT l i x2r)
theorem v2k (l:List Tk)(i:Nat)(hi:i < l.length):cF 1000249 (kP 0 (x0a l) (i:Int))=some (.val [.bool (y1a l i), .sl 4 (x0a l), .int .i64 (i:Int)]):=by
 have h1:=x5t hi
 have h2:=x3d hi
 refine x4c (f:=249) (by kernel_rfl) (by with_reducible first|exact y1u _ _|exact y1t _ _ _|exact y1s _ _|exact y1r _ _ _|exact y1q _ _ _ _|exact y1p _ _ _|exact x6q _ _ _|exact x6u _ _ _ _|exact x7a _ _ _ _ _) (by kernel_rfl) rfl ?_
 rw[w7y]
 simp only [k3t,oT,go1,h1,h2,x3b,x1l]
 unfold y1a
 rw[←show isT l i x5w=(decide (tb (tkA l i).s=tb (bs [116,114,117,101]))&&(decide ((tkA l i).k=1) || decide ((tkA l i).k=5)))from rfl,←show isT l i x2r=(decide (tb (tkA l i).s=tb (bs [102,97,108,115,101]))&&(decide ((tkA l i).k=1) || decide ((tkA l i).k=5)))from rfl]
 cases decide ((tkA l i).k=2)<;>cases isT l i x5w<;>cases isT l i x2r<;>rfl
def sD (s:ByteArray):List D:=[.str s]
def x2l (l:List Tk)(i:Nat):Rs ByteArray:=match decide ((tkA l i).k=1)&& !y0o (tb (tkA l i).s)with
 |true=> .ok (tkA l i).s (i+1)
 |false=> .bad i
theorem y9o (l:List Tk)(hl:LOK l)(i:Nat)(hi:i < l.length):cF 1000248 (kP 285 (x0a l) (i:Int))=some (x5y sD l (x2l l i)):=by
 have hf:=hl.few
 have h1:=x5t hi
 have h2:=x3d hi
 have h3:=u4g (tkA l i).s
 refine x4c (f:=248) (by kernel_rfl) (by with_reducible first|exact y1u _ _|exact y1t _ _ _|exact y1s _ _|exact y1r _ _ _|exact y1q _ _ _ _|exact y1p _ _ _|exact x6q _ _ _|exact x6u _ _ _ _|exact x7a _ _ _ _ _) (by kernel_rfl) rfl ?_
 rw[w7z]
 simp only [k3u,oT,go1,h1,h2,x3b,h3]
 unfold x2l
 cases decide ((tkA l i).k=1)<;>cases y0o (tb (tkA l i).s)<;>simp only [go1]<;>(try rfl)
 rw[x0c (n:=l.length) hi (by omega)];rfl
def y3k (l:List Tk)(i:Nat):Rs ByteArray:=match y1a l i with
 |true=> .ok (tkA l i).s (i+1)
 |false=> .bad i
theorem v9d (l:List Tk)(hl:LOK l)(i:Nat)(hi:i < l.length):cF 1000250 (kP 285 (x0a l) (i:Int))=some (x5y sD l (y3k l i)):=by
 have hf:=hl.few
 have h1:=x5t hi
 have h2:=x3d hi
 have h3:=v2k l i hi
 refine x4c (f:=250) (by kernel_rfl) (by with_reducible first|exact y1u _ _|exact y1t _ _ _|exact y1s _ _|exact y1r _ _ _|exact y1q _ _ _ _|exact y1p _ _ _|exact x6q _ _ _|exact x6u _ _ _ _|exact x7a _ _ _ _ _) (by kernel_rfl) rfl ?_
 rw[w7x]
 simp only [k3s,oP,oT,go1,Nat.reduceAdd,h1,h2,x3b,h3]
 unfold y3k
 cases y1a l i<;>simp only [go1]<;>(try rfl)
 rw[x0c (n:=l.length) hi (by omega)];rfl
def x1f (l:List Tk):List ByteArray→Nat→Rs Unit
 | [],i=> .ok () i
 |w::ws,i=>match isT l i w with
  |true=>x1f l ws (i+1)
  |false=> .bad i
def v3k (l:List Tk)(w:List ByteArray):Rs Unit→PRes
 | .ok _ i=> .val [.bool false, .sl 4 (x0a l), .int .i64 (i:Int), .sl 1 (x0e w)]
 | .bad i=> .val [.bool true, .int .i64 (i:Int), .sl 4 (x0a l), .int .i64 (i:Int), .sl 1 (x0e w)]
 | .out=> .val []
theorem x4z (l:List Tk)(hl:LOK l)(w:List ByteArray)(hw:w.length≤1000)(i:Nat)(hi:i < l.length):cF 1000251 (kN (x0e w) (x0a l) (i:Int))=some (v3k l w (x1f l w i)):=by
 refine x4c (f:=251) (by kernel_rfl) (by with_reducible first|exact y1u _ _|exact y1t _ _ _|exact y1s _ _|exact y1r _ _ _|exact y1q _ _ _ _|exact y1p _ _ _|exact x6q _ _ _|exact x6u _ _ _ _|exact x7a _ _ _ _ _) (by kernel_rfl) rfl ?_
 rw[w7w]
 simp only [k3r,oP,go1,Nat.reduceAdd]
 refine x0m (fun x:Nat × Nat=>[.int .i64 ((x0e w).length:Int), .int .i64 (x.1:Int), .sl 4 (x0a l), .int .i64 (x.2:Int), .sl 1 (x0e w)]) (fun x=>x1f l (w.drop x.1) x.2=x1f l w i∧x.1≤w.length∧x.2 < l.length) (fun x=>w.length - x.1) (fun x hx=> ?_) (0,i) ⟨rfl,a0r _,hi⟩
 obtain⟨k,j⟩:=x
 obtain⟨h1,h2,h3⟩:=hx
 simp only at h1 h2 h3 ⊢
 by_cases hlt:k < w.length
 ·have e1:(x0e w).length=w.length:=x0f w
  have e2:=x3p l hl j h3 w[k]
  have e3:sy.rown (x0e w) k= [.str w[k]]:=by
   show(x0e w).getD k []=_
   rw[a0d];simp [x0e,v8e,hlt]
  rw[List.drop_eq_getElem_cons hlt,x1f]at h1
  simp only [go1,e1,x0n hlt,x0p hlt,a0h,e3,e2]
  cases ht:isT l j w[k]with
  |true=>
   left
   rw[ht]at h1
   refine⟨(k+1,j+1),?_,⟨h1,hlt,hl.next h3 (x0t ht)⟩,by simp only;omega⟩
   simp only [go1]
   rw[x0c hlt (by omega)];rfl
  |false=>
   right
   rw[ht]at h1
   simp only [go1]
   rw[←h1];rfl
 ·right
  have e1:(x0e w).length=w.length:=x0f w
  have:k=w.length:=by omega
  subst this
  simp only [go1,e1,x0h]
  rw[←h1,List.drop_length];rfl
def z0a (o:Nat):ByteArray:=match o with
 |1|4=>bs [45]
 |2=>bs [110,111,116]
 |3=>bs [43]
 |5=>bs [42]
 |6=>bs [47]
 |7=>bs [109,111,100]
 |8=>bs [97,110,100]
 |9=>bs [111,114]
 |10=>bs [120,111,114]
 |11=>bs [61]
 |12=>bs [60,62]
 |13=>bs [60]
 |14=>bs [60,61]
 |15=>bs [62]
 |16=>bs [62,61]
 |_=>bs []
theorem q3s (o:Nat)(h:o≤16):cF 275 [.d (.int .i64 (o:Int))]=some (.val [.str (z0a o)]):=by
 have h2:cF 278 [.d (.int .i64 (o:Int))]=some (.val [.str (match decide (11≤o)with
  |true=>z0a o
  |false=>bs [])]):=by
  refine cOf (by kernel_rfl) rfl ?_
  rw[w2j]
  simp only [k0h,go1]
  match o,h with
  |0,_|1,_|2,_|3,_|4,_|5,_|6,_|7,_|8,_|9,_|10,_|11,_|12,_|13,_|14,_|15,_|16,_=>rfl
  |o+17,h=>omega
 refine cOf (by kernel_rfl) rfl ?_
 rw[w2k]
 simp only [k0i,go1,h2]
 match o,h with
 |0,_|1,_|2,_|3,_|4,_|5,_|6,_|7,_|8,_|9,_|10,_|11,_|12,_|13,_|14,_|15,_|16,_=>rfl
 |o+17,h=>omega
def y5p (l:List Tk)(i:Nat):Nat→Nat→Option Nat
 |_,0=>none
 |a,n+1=>match isT l i (z0a a)with
  |true=>some a
  |false=>y5p l i (a+1) n
theorem x2k {l:List Tk}{i:Nat}: ∀ {n a o:Nat},y5p l i a n=some o→(tkA l i).k≠6∧a≤o∧o < a+n
 |0,_,_,h=>by cases h
 |n+1,a,o,h=>by
  unfold y5p at h
  split at h
  ·rename_i ht;cases h;exact⟨x0t ht,by omega,by omega⟩
  ·have:=x2k h;exact⟨this.1,by omega,by omega⟩
theorem v2h (l:List Tk)(hl:LOK l)(i:Nat)(hi:i < l.length)(a n:Nat)(hn:a+n≤16):cF 1000269 (kO (a:Int) ((a+n:Nat):Int) (x0a l) (i:Int))=some (.val (match y5p l i a (n+1)with
  |some o=>[.int .i64 (o:Int), .bool true, .sl 4 (x0a l), .int .i64 ((i+1:Nat):Int)]
  |none=>[.int .i64 0, .bool false, .sl 4 (x0a l), .int .i64 (i:Int)])):=by
 refine x4c (f:=269) (by kernel_rfl) (by with_reducible first|exact y1u _ _|exact y1t _ _ _|exact y1s _ _|exact y1r _ _ _|exact y1q _ _ _ _|exact y1p _ _ _|exact x6q _ _ _|exact x6u _ _ _ _|exact x7a _ _ _ _ _) (by kernel_rfl) rfl ?_
 rw[w7r]
 simp only [k3m,oP,go1,Nat.reduceAdd]
 refine x0m (fun x:Nat=>[.int .i64 ((a+n:Nat):Int), .int .i64 (x:Int), .sl 4 (x0a l), .int .i64 (i:Int)]) (fun x=>y5p l i x (a+n+1 - x)=y5p l i a (n+1)∧x≤a+n+1) (fun x=>a+n+1 - x) (fun x hx=> ?_) a ⟨by rw[show a+n+1 - a=n+1 by omega],by omega⟩
 obtain⟨h1,h2⟩:=hx
 by_cases hlt:x≤a+n
 ·have e1:=q3s x (by omega)
  have e2:=x3p l hl i hi (z0a x)
  rw[show a+n+1 - x=(a+n - x)+1 by omega,y5p]at h1
  simp only [go1,x1m (p:=(x:Int)≤((a+n:Nat):Int)) (by omega),e1,e2]
  cases ht:isT l i (z0a x)with
  |true=>
   right
   rw[ht]at h1
   simp only [go1]
   rw[←h1]
  |false=>
   left
   rw[ht]at h1
   refine⟨x+1,?_,⟨by rw[show a+n+1 - (x+1)=a+n - x by omega];exact h1,by omega⟩,by omega⟩
   simp only [go1]
   rw[x0c (i:=x) (n:=x+1) (by omega) (by omega)];rfl
 ·right
  simp only [go1,x1c (p:=(x:Int)≤((a+n:Nat):Int)) (by omega)]
  rw[←h1,show a+n+1 - x=0 by omega];rfl
def x7c (l:List Tk)(i:Nat):Rs (ByteArray × ByteArray):=match isT l i (bs [110,111,116])with
 |true=>(x2l l (i+1)).bind fun n j=> .ok (n,x2r) j
 |false=>match y1a l i with
  |false=>(x2l l i).bind fun n j=> .ok (n,x5w) j
  |true=>(y3k l i).bind fun a j=>(x1f l [bs [40]] j).bind fun _ j=>(x2l l j).bind fun n j=>(x1f l [bs [41]] j).bind fun _ j=> .ok (n,a) j
def wD (x:ByteArray × ByteArray):List D:=[.str x.1, .str x.2]
theorem x4s {l:List Tk}(hl:LOK l){i j:Nat}{n:ByteArray}(hi:i < l.length)(h:x2l l i= .ok n j):j < l.length:=by
 unfold x2l at h
 split at h
 ·rename_i hc
  simp only [a0p,a0t]at hc
  cases h;exact hl.next hi (by omega)
 ·cases h
theorem x9v {l:List Tk}(hl:LOK l){i j:Nat}{n:ByteArray}(hi:i < l.length)(h:y3k l i= .ok n j):j < l.length:=by
 unfold y3k at h
 split at h
 ·rename_i hc
  cases h
  unfold y1a at hc
  simp only [Bool.or_eq_true,a0t]at hc
  rcases hc with hc|hc|hc
  ·exact hl.next hi (by omega)
  ·exact hl.next hi (x0t hc)
  ·exact hl.next hi (x0t hc)
 ·cases h
theorem x3e {l:List Tk}(hl:LOK l){u:Unit}: ∀ {w:List ByteArray} {i j:Nat},i < l.length→x1f l w i= .ok u j→j < l.length
 | [],i,j,hi,h=>by cases h;exact hi
 |x::w,i,j,hi,h=>by
  unfold x1f at h
  split at h
  ·rename_i hc;exact x3e hl (hl.next hi (x0t hc)) h
  ·cases h
theorem x2t {l:List Tk}{i:Nat}(h:x2l l i= .out):False:=by unfold x2l at h;split at h<;>cases h
theorem y4n {l:List Tk}{i:Nat}(h:y3k l i= .out):False:=by unfold y3k at h;split at h<;>cases h
theorem x1h {l:List Tk}: ∀ {w:List ByteArray} {i:Nat},x1f l w i= .out→False
 | [],i,h=>by cases h
 |x::w,i,h=>by
  unfold x1f at h
  split at h
  ·exact x1h h
  ·cases h
theorem x9w {l:List Tk}(hl:LOK l){i j:Nat}{w:ByteArray × ByteArray}(hi:i < l.length)(h:x7c l i= .ok w j):j < l.length:=by
 unfold x7c at h
 split at h
 ·rename_i ht
  cases hr:x2l l (i+1)with
  |ok n k=>rw[hr]at h;cases h;exact x4s hl (hl.next hi (x0t ht)) hr
  |_=>rw[hr]at h;cases h
 ·split at h
  ·cases hr:x2l l i with
   |ok n k=>rw[hr]at h;cases h;exact x4s hl hi hr
   |_=>rw[hr]at h;cases h
  ·cases hr:y3k l i with
   |ok a k=>
    rw[hr,Rs.bind_ok]at h
    have hk:=x9v hl hi hr
    cases hr2:x1f l [bs [40]] k with
    |ok u m=>
     rw[hr2,Rs.bind_ok]at h
     have hm:=x3e hl hk hr2
     cases hr3:x2l l m with
     |ok n q=>
      rw[hr3,Rs.bind_ok]at h
      have hq:=x4s hl hm hr3
      cases hr4:x1f l [bs [41]] q with
      |ok u2 z=>rw[hr4]at h;cases h;exact x3e hl hq hr4
      |_=>rw[hr4]at h;cases h
     |_=>rw[hr3]at h;cases h
    |_=>rw[hr2]at h;cases h
   |_=>rw[hr]at h;cases h
theorem x8i (s:ByteArray):[[D.str s]]=x0e [s]:=rfl
theorem w9z (s t:ByteArray):[[D.str s],[D.str t]]=x0e [s,t]:=rfl
theorem v2g (l:List Tk)(hl:LOK l)(i:Nat)(hi:i < l.length):cF 1000241 (kP 285 (x0a l) (i:Int))=some (x5y wD l (x7c l i)):=by
 have h1:=x3p l hl i hi (bs [110,111,116])
 have h2:=v2k l i hi
 refine x4c (f:=241) (by kernel_rfl) (by with_reducible first|exact y1u _ _|exact y1t _ _ _|exact y1s _ _|exact y1r _ _ _|exact y1q _ _ _ _|exact y1p _ _ _|exact x6q _ _ _|exact x6u _ _ _ _|exact x7a _ _ _ _ _) (by kernel_rfl) rfl ?_
 rw[w8c]
 simp only [k3x,oP,go1,Nat.reduceAdd,h1,x8i]
 unfold x7c
 cases ht:isT l i (bs [110,111,116])with
 |true=>
  have hj:=hl.next hi (x0t ht)
  have h3:=y9o l hl (i+1) hj
  simp only [go1,h3]
  cases hr:x2l l (i+1)<;>first|rfl|exact(x2t hr).elim
 |false=>
  simp only [go1,h2]
  cases ha:y1a l i with
  |false=>
   have h3:=y9o l hl i hi
   simp only [go1,h3]
   cases hr:x2l l i<;>first|rfl|exact(x2t hr).elim
  |true=>
   have h3:=v9d l hl i hi
   simp only [go1,h3]
   cases hr:y3k l i with
   |out=>exact(y4n hr).elim
   |bad j=>rfl
   |ok a j=>
    have hj:=x9v hl hi hr
    have h4:=x4z l hl [bs [40]] (by simp) j hj
    simp only [x5y,sD,go1,a0e,a0g,h4,Rs.bind_ok]
    cases hr2:x1f l [bs [40]] j with
    |out=>exact(x1h hr2).elim
    |bad k=>rfl
    |ok u k=>
     have hk:=x3e hl hj hr2
     have h5:=y9o l hl k hk
     simp only [v3k,go1,h5,Rs.bind_ok]
     cases hr3:x2l l k with
     |out=>exact(x2t hr3).elim
     |bad m=>rfl
     |ok n m=>
      have hm:=x4s hl hk hr3
      have h6:=x4z l hl [bs [41]] (by simp) m hm
      simp only [x5y,sD,go1,a0e,a0g,h6,Rs.bind_ok]
      cases hr4:x1f l [bs [41]] m<;>first|rfl|exact(x1h hr4).elim
end Go.Vm
end

section
set_option maxRecDepth 100000
set_option maxHeartbeats 4000000
namespace Go.Vm
open Go.Proofs
inductive Nt where
 |arrow|fby|or|and|cmp|sum|prod|un|post|atom
def x1q {σ ρ:Type}(st:σ→σ ⊕ Rs ρ):Nat→σ→Rs ρ
 |0,_=> .out
 |n+1,x=>match st x with
  | .inl y=>x1q st n y
  | .inr r=>r
def ex (k:Int)(l:List Ex):Ex:= .mk k 0 (bs []) 0 [] l
def x5c (o:Nat)(a b:Ex):Ex:= .mk 6 0 (bs []) (o:Int) [] [a,b]
abbrev PR:=Nt→Nat→Rs Ex
section
variable (l : List Tk) (n : Nat) (p : PR)
def x7y (en:ByteArray):List Ex × Nat→(List Ex × Nat) ⊕ Rs (List Ex)
 |(es,i)=>match isT l i (bs [44])with
  |true=>match p .arrow (i+1)with
   | .ok e j=> .inl (es++[e],j)
   | .bad j=> .inr (.bad j)
   | .out=> .inr .out
  |false=> .inr ((x1f l [en] i).bind fun _ j=> .ok es j)
def y0q (en:ByteArray)(i:Nat):Rs (List Ex):=(p .arrow i).bind fun e j=>x1q (x7y l p en) n ([e],j)
def y0s (nm:ByteArray)(es:List Ex)(j:Nat):Rs Ex:=match isT l j (bs [101,118,101,114,121])with
 |true=>(p .post (j+1)).bind fun e k=> .ok (.mk 13 1 nm 0 [] (es++[e])) k
 |false=> .ok (.mk 13 0 nm 0 [] es) j
def y3g (nm:ByteArray)(i:Nat):Rs Ex:=match isT l i (bs [41])with
 |true=>y0s l p nm [] (i+1)
 |false=>(y0q l n p (bs [41]) i).bind (y0s l p nm)
def x4j:List ByteArray × List Ex × Nat × Bool→(List ByteArray × List Ex × Nat × Bool) ⊕ Rs (List ByteArray × List Ex)
 |(ar,es,i,false)=> .inr (.ok (ar,es) i)
 |(ar,es,i,true)=>match ((y3k l i).bind fun a j=>(x1f l [bs [45,62]] j).bind fun _ j=>(p .arrow j).bind fun e j=>(x1f l [bs [41]] j).bind fun _ j=> .ok (a,e) j:Rs (ByteArray × Ex))with
  | .ok (a,e) j=>match isT l j (bs [40])with
    |true=> .inl (ar++[a],es++[e],j+1,true)
    |false=> .inl (ar++[a],es++[e],j,false)
  | .bad j=> .inr (.bad j)
  | .out=> .inr .out
def x5z (i:Nat):Rs Ex:=(x2l l i).bind fun nm j=>(x1f l [bs [40]] j).bind fun _ j=>(x1q (x4j l p) n ([],[],j,true)).bind fun q j=> .ok (.mk 12 0 nm 0 q.1 q.2) j
def x7p (i:Nat):Rs Ex:=(p .arrow i).bind fun e j=>match isT l j (bs [119,105,116,104])with
 |true=>(x1f l [bs [91]] (j+1)).bind fun _ j=>(p .arrow j).bind fun a j=>(x1f l [bs [93],bs [61]] j).bind fun _ j=>(p .arrow j).bind fun b j=>(x1f l [bs [41]] j).bind fun _ j=> .ok (ex 16 [e,a,b]) j
 |false=>(x1f l [bs [41]] j).bind fun _ j=> .ok e j
def x7i (i:Nat):Rs Ex:=(p .arrow i).bind fun a j=>(x1f l [bs [116,104,101,110]] j).bind fun _ j=>(p .arrow j).bind fun b j=>(x1f l [bs [101,108,115,101]] j).bind fun _ j=>(p .arrow j).bind fun c j=> .ok (ex 7 [a,b,c]) j
def y2e (i:Nat):Rs Ex:=
 match isT l i x5w with
 |true=> .ok (.mk 2 1 (bs []) 0 [] []) (i+1)
 |false=>match isT l i x2r with
  |true=> .ok (ex 2 []) (i+1)
  |false=>match isT l i (bs [91])with
   |true=>(y0q l n p (bs [93]) (i+1)).bind fun es j=> .ok (ex 14 es) j
   |false=>match isT l i (bs [40])with
    |true=>x7p l p (i+1)
    |false=>match isT l i (bs [109,101,114,103,101])with
     |true=>x5z l n p (i+1)
     |false=>match isT l i (bs [105,102])with
      |true=>x7i l p (i+1)
      |false=>(x2l l i).bind fun nm j=>match isT l j (bs [40])with
       |true=>y3g l n p nm (j+1)
       |false=> .ok (.mk 3 0 nm 0 [] []) j
def y4m (i:Nat):Rs Ex:=match decide ((tkA l i).k=3)with
 |true=> .ok (.mk 1 (tkA l i).n (bs []) 0 [] []) (i+1)
 |false=>match decide ((tkA l i).k=2)with
  |true=> .ok (.mk 4 0 (tkA l i).s 0 [] []) (i+1)
  |false=>match decide ((tkA l i).k=4)with
   |true=> .ok (.mk 17 0 (tkA l i).s 0 [] []) (i+1)
   |false=>y2e l n p i
def y2l:Ex × Nat→(Ex × Nat) ⊕ Rs Ex
 |(e,i)=>match isT l i (bs [91])with
  |true=>match ((p .arrow (i+1)).bind fun a j=>(x1f l [bs [93]] j).bind fun _ j=> .ok a j:Rs Ex)with
   | .ok a j=> .inl (ex 15 [e,a],j)
   | .bad j=> .inr (.bad j)
   | .out=> .inr .out
  |false=>match isT l i (bs [119,104,101,110])with
   |true=>match x7c l (i+1)with
    | .ok w j=> .inl (.mk 11 0 w.1 0 [w.2] [e],j)
    | .bad j=> .inr (.bad j)
    | .out=> .inr .out
   |false=> .inr (.ok e i)
def y3t (i:Nat):Rs Ex:=(p .atom i).bind fun e j=>x1q (y2l l p) n (e,j)
def unS (i:Nat):Rs Ex:=match isT l i (bs [45])with
 |true=>(p .un (i+1)).bind fun e j=> .ok (.mk 5 0 (bs []) 1 [] [e]) j
 |false=>match isT l i (bs [110,111,116])with
  |true=>(p .un (i+1)).bind fun e j=> .ok (.mk 5 0 (bs []) 2 [] [e]) j
  |false=>match isT l i (bs [112,114,101])with
   |true=>(p .un (i+1)).bind fun e j=> .ok (ex 10 [e]) j
   |false=>p .post i
def x3z (side:Nt)(a m:Nat):Ex × Nat→(Ex × Nat) ⊕ Rs Ex
 |(e,i)=>match y5p l i a m with
  |none=> .inr (.ok e i)
  |some o=>match p side (i+1)with
   | .ok e2 j=> .inl (x5c o e e2,j)
   | .bad j=> .inr (.bad j)
   | .out=> .inr .out
def x3u (side:Nt)(a m i:Nat):Rs Ex:=(p side i).bind fun e j=>x1q (x3z l p side a m) n (e,j)
def v1l (i:Nat):Rs Ex:=(p .sum i).bind fun e j=>match y5p l j 11 6 with
 |none=> .ok e j
 |some o=>(p .sum (j+1)).bind fun e2 k=> .ok (x5c o e e2) k
def v0x (i:Nat):Rs Ex:=(p .or i).bind fun e j=>match isT l j (bs [102,98,121])with
 |true=>(p .fby (j+1)).bind fun e2 k=> .ok (ex 8 [e,e2]) k
 |false=> .ok e j
def x9u (i:Nat):Rs Ex:=(p .fby i).bind fun e j=>match isT l j (bs [45,62])with
 |true=>(p .arrow (j+1)).bind fun e2 k=> .ok (ex 9 [e,e2]) k
 |false=> .ok e j
def ntS:Nt→Nat→Rs Ex
 | .arrow,i=>x9u l p i
 | .fby,i=>v0x l p i
 | .or,i=>x3u l n p .and 9 2 i
 | .and,i=>x3u l n p .cmp 8 1 i
 | .cmp,i=>v1l l p i
 | .sum,i=>x3u l n p .prod 3 2 i
 | .prod,i=>x3u l n p .un 5 3 i
 | .un,i=>unS l p i
 | .post,i=>y3t l n p i
 | .atom,i=>y4m l n p i
end
def prs (l:List Tk):Nat→PR
 |0,_,_=> .out
 |n+1,nt,i=>ntS l n (prs l n) nt i
def k4r:Nt→FuncId
 | .arrow=>1000228
 | .fby=>1000242
 | .or=>1000252
 | .and=>1000262
 | .cmp=>1000271
 | .sum=>1000276
 | .prod=>1000279
 | .un=>1000281
 | .post=>1000287
 | .atom=>1000288
structure HP (l:List Tk) (p:PR):Prop where
 c: ∀nt i,i < l.length→p nt i≠ .out→cF (k4r nt) (kP 285 (x0a l) (i:Int))=some (x5y Ex.row l (p nt i))
 lt: ∀nt i e j,i < l.length→p nt i= .ok e j→j < l.length
 gt: ∀nt i e j,i < l.length→p nt i= .ok e j→i < j
theorem x0s {α β:Type}{r:Rs α}{f:α→Nat→Rs β}(h:r.bind f≠ .out):r≠ .out:=fun e=>h (by rw[e];rfl)
theorem z8o (o:Nat)(a b:Ex): ∀k n s o1 ar su k2 n2 s2 o2 ar2 su2,a= .mk k n s o1 ar su→b= .mk k2 n2 s2 o2 ar2 su2→
  cF 270 [.d (.int .i64 (o:Int)), .agg [.d (.int .i64 k), .d (.int .i64 n), .d (.str s), .d (.int .i64 o1), .d (.sl 1 (x0e ar)), .d (.sl 6 (Ex.rows su))], .agg [.d (.int .i64 k2), .d (.int .i64 n2), .d (.str s2), .d (.int .i64 o2), .d (.sl 1 (x0e ar2)), .d (.sl 6 (Ex.rows su2))]]=some (.val (x5c o a b).row):=by
 rintro k n s o1 ar su k2 n2 s2 o2 ar2 su2 rfl rfl
 refine cOf (by kernel_rfl) rfl ?_
 rw[w2l]
 simp only [k0j]
 rfl
theorem x6p (a b:LL)(k:Nat)(h:(a.length+b.length)*(k+1)≤140737488355328):decide ((a.length+b.length)*(k+1)≤140737488355328)=true:=a1d h
theorem q8z {l:List Tk}(hl:LOK l){n:Nat}{p:PR}(hp:HP l p)(i:Nat)(hi:i < l.length)(hne:x3u l n p .and 9 2 i≠ .out):cF 1000252 (kP 285 (x0a l) (i:Int))=some (x5y Ex.row l (x3u l n p .and 9 2 i)):=by
 have h1:cF 1000262 (kP 285 (x0a l) (i:Int))=_:=hp.c .and i hi (x0s hne)
 refine x4c (f:=252) (by kernel_rfl) (by with_reducible first|exact y1u _ _|exact y1t _ _ _|exact y1s _ _|exact y1r _ _ _|exact y1q _ _ _ _|exact y1p _ _ _|exact x6q _ _ _|exact x6u _ _ _ _|exact x7a _ _ _ _ _) (by kernel_rfl) rfl ?_
 rw[w7v]
 simp only [k3q,oE,oP,oT,go1,Nat.reduceAdd,h1]
 unfold x3u at hne ⊢
 cases hr:p .and i with
 |out=>rw[hr]at hne;exact(hne rfl).elim
 |bad j=>rfl
 |ok e j=>
  have hj:=hp.lt _ _ _ _ hi hr
  rw[hr]at hne
  rw[Rs.bind_ok]at hne ⊢
  obtain⟨k0,n0,s0,o0,a0,u0⟩:=e
  simp only [x5y,Ex.row,go1,a0e,a0g]
  generalize hR:x1q (x3z l p .and 9 2) n (.mk k0 n0 s0 o0 a0 u0,j)=R at hne ⊢
  refine x0m (fun x:Nat × Ex × Nat=>[.int .i64 9, .int .i64 10, .sl 4 (x0a l), .int .i64 (x.2.2:Int), .int .i64 0, .int .i64 0, .str (bs []), .int .i64 0, .int .i64 0, .int .i64 0, .str (bs []), .int .i64 0]++x.2.1.row) (fun x=>x1q (x3z l p .and 9 2) x.1 (x.2.1,x.2.2)=R∧x.2.2 < l.length) (fun x=>x.1) (fun x hx=> ?_) (n, .mk k0 n0 s0 o0 a0 u0,j) ⟨hR,hj⟩
  obtain⟨n1,⟨k1,m1,s1,o1,a1,u1⟩,i1⟩:=x
  obtain⟨hx,hi1⟩:=hx
  simp only at hx hi1 ⊢
  cases n1 with
  |zero=>exact(hne hx.symm).elim
  |succ n1=>
   have h2:=v2h l hl i1 hi1 9 1 (by omega)
   simp only [Ex.row,go1,a0e,a0g]
   have h2:cF 1000269 (kO 9 10 (x0a l) (i1:Int))=_:=h2
   simp only [h2,go1,Nat.reduceAdd]
   rw[x1q,x3z]at hx
   cases ho:y5p l i1 9 2 with
   |none=>right;rw[ho]at hx;rw[←hx];rfl
   |some o=>
    rw[ho]at hx
    simp only at hx
    have ho':=x2k ho
    have hi2:=hl.next hi1 ho'.1
    have hq:p .and (i1+1)≠ .out:=fun e=>hne (by rw[e]at hx;exact hx.symm)
    have h3:cF 1000262 (kP 285 (x0a l) ((i1+1:Nat):Int))=_:=hp.c .and (i1+1) hi2 hq
    simp only [go1,h3]
    cases hr2:p .and (i1+1)with
    |out=>exact(hq hr2).elim
    |bad j2=>right;rw[hr2]at hx;rw[←hx];rfl
    |ok e2 j2=>
     left
     rw[hr2]at hx
     obtain⟨k3,n3,s3,o3,a3,u3⟩:=e2
     have h4:=z8o o _ _ k1 m1 s1 o1 a1 u1 k3 n3 s3 o3 a3 u3 rfl rfl
     refine⟨(n1,x5c o (.mk k1 m1 s1 o1 a1 u1) (.mk k3 n3 s3 o3 a3 u3),j2),?_,⟨hx,hp.lt _ _ _ _ hi2 hr2⟩,a1a _⟩
     simp only [x5y,Ex.row,go1,a0e,a0g,h4,x5c]
theorem q5a {l:List Tk}(hl:LOK l){n:Nat}{p:PR}(hp:HP l p)(i:Nat)(hi:i < l.length)(hne:x3u l n p .cmp 8 1 i≠ .out):cF 1000262 (kP 285 (x0a l) (i:Int))=some (x5y Ex.row l (x3u l n p .cmp 8 1 i)):=by
 have h1:cF 1000271 (kP 285 (x0a l) (i:Int))=_:=hp.c .cmp i hi (x0s hne)
 refine x4c (f:=262) (by kernel_rfl) (by with_reducible first|exact y1u _ _|exact y1t _ _ _|exact y1s _ _|exact y1r _ _ _|exact y1q _ _ _ _|exact y1p _ _ _|exact x6q _ _ _|exact x6u _ _ _ _|exact x7a _ _ _ _ _) (by kernel_rfl) rfl ?_
 rw[w7t]
 simp only [k3o,oE,oP,oT,go1,Nat.reduceAdd,h1]
 unfold x3u at hne ⊢
 cases hr:p .cmp i with
 |out=>rw[hr]at hne;exact(hne rfl).elim
 |bad j=>rfl
 |ok e j=>
  have hj:=hp.lt _ _ _ _ hi hr
  rw[hr]at hne
  rw[Rs.bind_ok]at hne ⊢
  obtain⟨k0,n0,s0,o0,a0,u0⟩:=e
  simp only [x5y,Ex.row,go1,a0e,a0g]
  generalize hR:x1q (x3z l p .cmp 8 1) n (.mk k0 n0 s0 o0 a0 u0,j)=R at hne ⊢
  refine x0m (fun x:Nat × Ex × Nat=>[.int .i64 8, .int .i64 8, .sl 4 (x0a l), .int .i64 (x.2.2:Int), .int .i64 0, .int .i64 0, .str (bs []), .int .i64 0, .int .i64 0, .int .i64 0, .str (bs []), .int .i64 0]++x.2.1.row) (fun x=>x1q (x3z l p .cmp 8 1) x.1 (x.2.1,x.2.2)=R∧x.2.2 < l.length) (fun x=>x.1) (fun x hx=> ?_) (n, .mk k0 n0 s0 o0 a0 u0,j) ⟨hR,hj⟩
  obtain⟨n1,⟨k1,m1,s1,o1,a1,u1⟩,i1⟩:=x
  obtain⟨hx,hi1⟩:=hx
  simp only at hx hi1 ⊢
  cases n1 with
  |zero=>exact(hne hx.symm).elim
  |succ n1=>
   have h2:=v2h l hl i1 hi1 8 0 (by omega)
   simp only [Ex.row,go1,a0e,a0g]
   have h2:cF 1000269 (kO 8 8 (x0a l) (i1:Int))=_:=h2
   simp only [h2,go1]
   rw[x1q,x3z]at hx
   cases ho:y5p l i1 8 1 with
   |none=>right;rw[ho]at hx;rw[←hx];rfl
   |some o=>
    rw[ho]at hx
    simp only at hx
    have ho':=x2k ho
    have hi2:=hl.next hi1 ho'.1
    have hq:p .cmp (i1+1)≠ .out:=fun e=>hne (by rw[e]at hx;exact hx.symm)
    have h3:cF 1000271 (kP 285 (x0a l) ((i1+1:Nat):Int))=_:=hp.c .cmp (i1+1) hi2 hq
    simp only [go1,h3]
    cases hr2:p .cmp (i1+1)with
    |out=>exact(hq hr2).elim
    |bad j2=>right;rw[hr2]at hx;rw[←hx];rfl
    |ok e2 j2=>
     left
     rw[hr2]at hx
     obtain⟨k3,n3,s3,o3,a3,u3⟩:=e2
     have h4:=z8o o _ _ k1 m1 s1 o1 a1 u1 k3 n3 s3 o3 a3 u3 rfl rfl
     refine⟨(n1,x5c o (.mk k1 m1 s1 o1 a1 u1) (.mk k3 n3 s3 o3 a3 u3),j2),?_,⟨hx,hp.lt _ _ _ _ hi2 hr2⟩,a1a _⟩
     simp only [x5y,Ex.row,go1,a0e,a0g,h4,x5c]
theorem q4x {l:List Tk}(hl:LOK l){n:Nat}{p:PR}(hp:HP l p)(i:Nat)(hi:i < l.length)(hne:x3u l n p .prod 3 2 i≠ .out):cF 1000276 (kP 285 (x0a l) (i:Int))=some (x5y Ex.row l (x3u l n p .prod 3 2 i)):=by
 have h1:cF 1000279 (kP 285 (x0a l) (i:Int))=_:=hp.c .prod i hi (x0s hne)
 refine x4c (f:=276) (by kernel_rfl) (by with_reducible first|exact y1u _ _|exact y1t _ _ _|exact y1s _ _|exact y1r _ _ _|exact y1q _ _ _ _|exact y1p _ _ _|exact x6q _ _ _|exact x6u _ _ _ _|exact x7a _ _ _ _ _) (by kernel_rfl) rfl ?_
 rw[w7o]
 simp only [k3j,oE,oP,oT,go1,Nat.reduceAdd,h1]
 unfold x3u at hne ⊢
 cases hr:p .prod i with
 |out=>rw[hr]at hne;exact(hne rfl).elim
 |bad j=>rfl
 |ok e j=>
  have hj:=hp.lt _ _ _ _ hi hr
  rw[hr]at hne
  rw[Rs.bind_ok]at hne ⊢
  obtain⟨k0,n0,s0,o0,a0,u0⟩:=e
  simp only [x5y,Ex.row,go1,a0e,a0g]
  generalize hR:x1q (x3z l p .prod 3 2) n (.mk k0 n0 s0 o0 a0 u0,j)=R at hne ⊢
  refine x0m (fun x:Nat × Ex × Nat=>[.int .i64 3, .int .i64 4, .sl 4 (x0a l), .int .i64 (x.2.2:Int), .int .i64 0, .int .i64 0, .str (bs []), .int .i64 0, .int .i64 0, .int .i64 0, .str (bs []), .int .i64 0]++x.2.1.row) (fun x=>x1q (x3z l p .prod 3 2) x.1 (x.2.1,x.2.2)=R∧x.2.2 < l.length) (fun x=>x.1) (fun x hx=> ?_) (n, .mk k0 n0 s0 o0 a0 u0,j) ⟨hR,hj⟩
  obtain⟨n1,⟨k1,m1,s1,o1,a1,u1⟩,i1⟩:=x
  obtain⟨hx,hi1⟩:=hx
  simp only at hx hi1 ⊢
  cases n1 with
  |zero=>exact(hne hx.symm).elim
  |succ n1=>
   have h2:=v2h l hl i1 hi1 3 1 (by omega)
   simp only [Ex.row,go1,a0e,a0g]
   have h2:cF 1000269 (kO 3 4 (x0a l) (i1:Int))=_:=h2
   simp only [h2,go1,Nat.reduceAdd]
   rw[x1q,x3z]at hx
   cases ho:y5p l i1 3 2 with
   |none=>right;rw[ho]at hx;rw[←hx];rfl
   |some o=>
    rw[ho]at hx
    simp only at hx
    have ho':=x2k ho
    have hi2:=hl.next hi1 ho'.1
    have hq:p .prod (i1+1)≠ .out:=fun e=>hne (by rw[e]at hx;exact hx.symm)
    have h3:cF 1000279 (kP 285 (x0a l) ((i1+1:Nat):Int))=_:=hp.c .prod (i1+1) hi2 hq
    simp only [go1,h3]
    cases hr2:p .prod (i1+1)with
    |out=>exact(hq hr2).elim
    |bad j2=>right;rw[hr2]at hx;rw[←hx];rfl
    |ok e2 j2=>
     left
     rw[hr2]at hx
     obtain⟨k3,n3,s3,o3,a3,u3⟩:=e2
     have h4:=z8o o _ _ k1 m1 s1 o1 a1 u1 k3 n3 s3 o3 a3 u3 rfl rfl
     refine⟨(n1,x5c o (.mk k1 m1 s1 o1 a1 u1) (.mk k3 n3 s3 o3 a3 u3),j2),?_,⟨hx,hp.lt _ _ _ _ hi2 hr2⟩,a1a _⟩
     simp only [x5y,Ex.row,go1,a0e,a0g,h4,x5c]
theorem w8o {l:List Tk}(hl:LOK l){n:Nat}{p:PR}(hp:HP l p)(i:Nat)(hi:i < l.length)(hne:x3u l n p .un 5 3 i≠ .out):cF 1000279 (kP 285 (x0a l) (i:Int))=some (x5y Ex.row l (x3u l n p .un 5 3 i)):=by
 have h1:cF 1000281 (kP 285 (x0a l) (i:Int))=_:=hp.c .un i hi (x0s hne)
 refine x4c (f:=279) (by kernel_rfl) (by with_reducible first|exact y1u _ _|exact y1t _ _ _|exact y1s _ _|exact y1r _ _ _|exact y1q _ _ _ _|exact y1p _ _ _|exact x6q _ _ _|exact x6u _ _ _ _|exact x7a _ _ _ _ _) (by kernel_rfl) rfl ?_
 rw[w7m]
 simp only [k3h,oE,oP,oT,go1,Nat.reduceAdd,h1]
 unfold x3u at hne ⊢
 cases hr:p .un i with
 |out=>rw[hr]at hne;exact(hne rfl).elim
 |bad j=>rfl
 |ok e j=>
  have hj:=hp.lt _ _ _ _ hi hr
  rw[hr]at hne
  rw[Rs.bind_ok]at hne ⊢
  obtain⟨k0,n0,s0,o0,a0,u0⟩:=e
  simp only [x5y,Ex.row,go1,a0e,a0g]
  generalize hR:x1q (x3z l p .un 5 3) n (.mk k0 n0 s0 o0 a0 u0,j)=R at hne ⊢
  refine x0m (fun x:Nat × Ex × Nat=>[.int .i64 5, .int .i64 7, .sl 4 (x0a l), .int .i64 (x.2.2:Int), .int .i64 0, .int .i64 0, .str (bs []), .int .i64 0, .int .i64 0, .int .i64 0, .str (bs []), .int .i64 0]++x.2.1.row) (fun x=>x1q (x3z l p .un 5 3) x.1 (x.2.1,x.2.2)=R∧x.2.2 < l.length) (fun x=>x.1) (fun x hx=> ?_) (n, .mk k0 n0 s0 o0 a0 u0,j) ⟨hR,hj⟩
  obtain⟨n1,⟨k1,m1,s1,o1,a1,u1⟩,i1⟩:=x
  obtain⟨hx,hi1⟩:=hx
  simp only at hx hi1 ⊢
  cases n1 with
  |zero=>exact(hne hx.symm).elim
  |succ n1=>
   have h2:=v2h l hl i1 hi1 5 2 (by omega)
   simp only [Ex.row,go1,a0e,a0g]
   have h2:cF 1000269 (kO 5 7 (x0a l) (i1:Int))=_:=h2
   simp only [h2,go1,Nat.reduceAdd]
   rw[x1q,x3z]at hx
   cases ho:y5p l i1 5 3 with
   |none=>right;rw[ho]at hx;rw[←hx];rfl
   |some o=>
    rw[ho]at hx
    simp only at hx
    have ho':=x2k ho
    have hi2:=hl.next hi1 ho'.1
    have hq:p .un (i1+1)≠ .out:=fun e=>hne (by rw[e]at hx;exact hx.symm)
    have h3:cF 1000281 (kP 285 (x0a l) ((i1+1:Nat):Int))=_:=hp.c .un (i1+1) hi2 hq
    simp only [go1,h3]
    cases hr2:p .un (i1+1)with
    |out=>exact(hq hr2).elim
    |bad j2=>right;rw[hr2]at hx;rw[←hx];rfl
    |ok e2 j2=>
     left
     rw[hr2]at hx
     obtain⟨k3,n3,s3,o3,a3,u3⟩:=e2
     have h4:=z8o o _ _ k1 m1 s1 o1 a1 u1 k3 n3 s3 o3 a3 u3 rfl rfl
     refine⟨(n1,x5c o (.mk k1 m1 s1 o1 a1 u1) (.mk k3 n3 s3 o3 a3 u3),j2),?_,⟨hx,hp.lt _ _ _ _ hi2 hr2⟩,a1a _⟩
     simp only [x5y,Ex.row,go1,a0e,a0g,h4,x5c]
theorem q4y {l:List Tk}(hl:LOK l){p:PR}(hp:HP l p)(i:Nat)(hi:i < l.length)(hne:v0x l p i≠ .out):cF 1000242 (kP 285 (x0a l) (i:Int))=some (x5y Ex.row l (v0x l p i)):=by
 have h1:cF 1000252 (kP 285 (x0a l) (i:Int))=_:=hp.c .or i hi (x0s hne)
 refine x4c (f:=242) (by kernel_rfl) (by with_reducible first|exact y1u _ _|exact y1t _ _ _|exact y1s _ _|exact y1r _ _ _|exact y1q _ _ _ _|exact y1p _ _ _|exact x6q _ _ _|exact x6u _ _ _ _|exact x7a _ _ _ _ _) (by kernel_rfl) rfl ?_
 rw[w8b]
 simp only [k3w,oE,oP,go1,Nat.reduceAdd,h1]
 unfold v0x at hne ⊢
 cases hr:p .or i with
 |out=>rw[hr]at hne;exact(hne rfl).elim
 |bad j=>rfl
 |ok e j=>
  have hj:=hp.lt _ _ _ _ hi hr
  rw[hr]at hne
  rw[Rs.bind_ok]at hne ⊢
  obtain⟨k0,n0,s0,o0,a0,u0⟩:=e
  have h2:=x3p l hl j hj (bs [102,98,121])
  simp only [x5y,Ex.row,go1,a0e,a0g,h2]
  cases ht:isT l j (bs [102,98,121])with
  |false=>rfl
  |true=>
   rw[ht]at hne
   simp only at hne ⊢
   have hj2:=hl.next hj (x0t ht)
   have h3:cF 1000242 (kP 285 (x0a l) ((j+1:Nat):Int))=_:=hp.c .fby (j+1) hj2 (x0s hne)
   simp only [go1,h3]
   cases hr2:p .fby (j+1)with
   |out=>rw[hr2]at hne;exact(hne rfl).elim
   |bad k=>rfl
   |ok e2 k=>
    obtain⟨k2,n2,s2,o2,a2,u2⟩:=e2
    rfl
theorem v7n {l:List Tk}(hl:LOK l){p:PR}(hp:HP l p)(i:Nat)(hi:i < l.length)(hne:x9u l p i≠ .out):cF 1000228 (kP 285 (x0a l) (i:Int))=some (x5y Ex.row l (x9u l p i)):=by
 have h1:cF 1000242 (kP 285 (x0a l) (i:Int))=_:=hp.c .fby i hi (x0s hne)
 refine x4c (f:=228) (by kernel_rfl) (by with_reducible first|exact y1u _ _|exact y1t _ _ _|exact y1s _ _|exact y1r _ _ _|exact y1q _ _ _ _|exact y1p _ _ _|exact x6q _ _ _|exact x6u _ _ _ _|exact x7a _ _ _ _ _) (by kernel_rfl) rfl ?_
 rw[w8f]
 simp only [k4a,oE,oP,go1,Nat.reduceAdd,h1]
 unfold x9u at hne ⊢
 cases hr:p .fby i with
 |out=>rw[hr]at hne;exact(hne rfl).elim
 |bad j=>rfl
 |ok e j=>
  have hj:=hp.lt _ _ _ _ hi hr
  rw[hr]at hne
  rw[Rs.bind_ok]at hne ⊢
  obtain⟨k0,n0,s0,o0,a0,u0⟩:=e
  have h2:=x3p l hl j hj (bs [45,62])
  simp only [x5y,Ex.row,go1,a0e,a0g,h2]
  cases ht:isT l j (bs [45,62])with
  |false=>rfl
  |true=>
   rw[ht]at hne
   simp only at hne ⊢
   have hj2:=hl.next hj (x0t ht)
   have h3:cF 1000228 (kP 285 (x0a l) ((j+1:Nat):Int))=_:=hp.c .arrow (j+1) hj2 (x0s hne)
   simp only [go1,h3]
   cases hr2:p .arrow (j+1)with
   |out=>rw[hr2]at hne;exact(hne rfl).elim
   |bad k=>rfl
   |ok e2 k=>
    obtain⟨k2,n2,s2,o2,a2,u2⟩:=e2
    rfl
theorem q4z {l:List Tk}(hl:LOK l){p:PR}(hp:HP l p)(i:Nat)(hi:i < l.length)(hne:v1l l p i≠ .out):cF 1000271 (kP 285 (x0a l) (i:Int))=some (x5y Ex.row l (v1l l p i)):=by
 have h1:cF 1000276 (kP 285 (x0a l) (i:Int))=_:=hp.c .sum i hi (x0s hne)
 refine x4c (f:=271) (by kernel_rfl) (by with_reducible first|exact y1u _ _|exact y1t _ _ _|exact y1s _ _|exact y1r _ _ _|exact y1q _ _ _ _|exact y1p _ _ _|exact x6q _ _ _|exact x6u _ _ _ _|exact x7a _ _ _ _ _) (by kernel_rfl) rfl ?_
 rw[w7q]
 simp only [k3l,oE,oP,go1,Nat.reduceAdd,h1]
 unfold v1l at hne ⊢
 cases hr:p .sum i with
 |out=>rw[hr]at hne;exact(hne rfl).elim
 |bad j=>rfl
 |ok e j=>
  have hj:=hp.lt _ _ _ _ hi hr
  rw[hr]at hne
  rw[Rs.bind_ok]at hne ⊢
  obtain⟨k0,n0,s0,o0,a0,u0⟩:=e
  have h2:=v2h l hl j hj 11 5 (by omega)
  have h2:cF 1000269 (kO 11 16 (x0a l) (j:Int))=_:=h2
  simp only [x5y,Ex.row,go1,Nat.reduceAdd,a0e,a0g,h2]
  cases ho:y5p l j 11 6 with
  |none=>rfl
  |some o=>
   rw[ho]at hne
   simp only at hne ⊢
   have hj2:=hl.next hj (x2k ho).1
   have h3:cF 1000276 (kP 285 (x0a l) ((j+1:Nat):Int))=_:=hp.c .sum (j+1) hj2 (x0s hne)
   simp only [go1,h3]
   cases hr2:p .sum (j+1)with
   |out=>rw[hr2]at hne;exact(hne rfl).elim
   |bad k=>rfl
   |ok e2 k=>
    obtain⟨k2,n2,s2,o2,a2,u2⟩:=e2
    have h4:=z8o o _ _ k0 n0 s0 o0 a0 u0 k2 n2 s2 o2 a2 u2 rfl rfl
    simp only [x5y,Ex.row,go1,a0e,a0g,h4,x5c]
    rfl
theorem q8y {l:List Tk}(hl:LOK l){p:PR}(hp:HP l p)(i:Nat)(hi:i < l.length)(hne:unS l p i≠ .out):cF 1000281 (kP 285 (x0a l) (i:Int))=some (x5y Ex.row l (unS l p i)):=by
 have h1:=x3p l hl i hi (bs [45])
 have h2:=x3p l hl i hi (bs [110,111,116])
 have h3:=x3p l hl i hi (bs [112,114,101])
 refine x4c (f:=281) (by kernel_rfl) (by with_reducible first|exact y1u _ _|exact y1t _ _ _|exact y1s _ _|exact y1r _ _ _|exact y1q _ _ _ _|exact y1p _ _ _|exact x6q _ _ _|exact x6u _ _ _ _|exact x7a _ _ _ _ _) (by kernel_rfl) rfl ?_
 rw[w7j]
 simp only [k3g,oE,oP,go1,Nat.reduceAdd,h1]
 unfold unS at hne ⊢
 cases t1:isT l i (bs [45])with
 |true=>
  rw[t1]at hne
  simp only at hne ⊢
  have h4:cF 1000281 (kP 285 (x0a l) ((i+1:Nat):Int))=_:=hp.c .un (i+1) (hl.next hi (x0t t1)) (x0s hne)
  simp only [go1,h4]
  cases hr:p .un (i+1)with
  |out=>rw[hr]at hne;exact(hne rfl).elim
  |bad j=>rfl
  |ok e j=>obtain⟨k0,n0,s0,o0,a0,u0⟩:=e;rfl
 |false=>
  rw[t1]at hne
  simp only [go1,h2]at hne ⊢
  cases t2:isT l i (bs [110,111,116])with
  |true=>
   rw[t2]at hne
   simp only at hne ⊢
   have h4:cF 1000281 (kP 285 (x0a l) ((i+1:Nat):Int))=_:=hp.c .un (i+1) (hl.next hi (x0t t2)) (x0s hne)
   simp only [go1,h4]
   cases hr:p .un (i+1)with
   |out=>rw[hr]at hne;exact(hne rfl).elim
   |bad j=>rfl
   |ok e j=>obtain⟨k0,n0,s0,o0,a0,u0⟩:=e;rfl
  |false=>
   rw[t2]at hne
   simp only [go1,h3]at hne ⊢
   cases t3:isT l i (bs [112,114,101])with
   |true=>
    rw[t3]at hne
    simp only at hne ⊢
    have h4:cF 1000281 (kP 285 (x0a l) ((i+1:Nat):Int))=_:=hp.c .un (i+1) (hl.next hi (x0t t3)) (x0s hne)
    simp only [go1,h4]
    cases hr:p .un (i+1)with
    |out=>rw[hr]at hne;exact(hne rfl).elim
    |bad j=>rfl
    |ok e j=>obtain⟨k0,n0,s0,o0,a0,u0⟩:=e;rfl
   |false=>
    rw[t3]at hne
    simp only at hne ⊢
    have h4:cF 1000287 (kP 285 (x0a l) (i:Int))=_:=hp.c .post i hi hne
    simp only [go1,h4]
    cases hr:p .post i with
    |out=>exact(hne hr).elim
    |bad j=>rfl
    |ok e j=>obtain⟨k0,n0,s0,o0,a0,u0⟩:=e;rfl
end Go.Vm
end

section
set_option maxRecDepth 100000
set_option maxHeartbeats 4000000
namespace Go.Vm
open Go.Proofs
theorem x6j (e:Ex): ∀es:List Ex,Ex.rows (es++[e])=Ex.rows es++[e.row]
 | []=>rfl
 |a::es=>by show a.row::Ex.rows (es++[e])=_;rw[x6j e es];rfl
theorem x0x: ∀es:List Ex,(Ex.rows es).length=es.length
 | []=>rfl
 |a::es=>by show(a.row::Ex.rows es).length=_;rw[a0f,x0x es];rfl
theorem q6b (s:ByteArray)(w:List ByteArray):[D.str s]::x0e w=x0e (s::w):=rfl
theorem x1w {l:List Tk}{u:Unit}: ∀ {w:List ByteArray} {i j:Nat},x1f l w i= .ok u j→i≤j
 | [],i,j,h=>by cases h;exact a0m _
 |x::w,i,j,h=>by
  unfold x1f at h
  split at h
  ·have:=x1w h;omega
  ·cases h
theorem y1y {l:List Tk}{i j:Nat}{a:ByteArray}(h:y3k l i= .ok a j):j=i+1:=by
 unfold y3k at h;split at h<;>cases h;rfl
theorem x5n {l:List Tk}{i j:Nat}{a:ByteArray}(h:x2l l i= .ok a j):j=i+1:=by
 unfold x2l at h;split at h<;>cases h;rfl
section
variable {l : List Tk} (hl : LOK l) {n : Nat} {p : PR} (hp : HP l p)
include hl hp
theorem w8p (i:Nat)(hi:i < l.length)(hne:y3t l n p i≠ .out):cF 1000287 (kP 285 (x0a l) (i:Int))=some (x5y Ex.row l (y3t l n p i)):=by
 have h1:cF 1000288 (kP 285 (x0a l) (i:Int))=_:=hp.c .atom i hi (x0s hne)
 refine x4c (f:=287) (by kernel_rfl) (by with_reducible first|exact y1u _ _|exact y1t _ _ _|exact y1s _ _|exact y1r _ _ _|exact y1q _ _ _ _|exact y1p _ _ _|exact x6q _ _ _|exact x6u _ _ _ _|exact x7a _ _ _ _ _) (by kernel_rfl) rfl ?_
 rw[w7e]
 simp only [k3c,oE,oP,oT,go1,Nat.reduceAdd,h1,x8i]
 unfold y3t at hne ⊢
 cases hr:p .atom i with
 |out=>rw[hr]at hne;exact(hne rfl).elim
 |bad j=>rfl
 |ok e j=>
  have hj:=hp.lt _ _ _ _ hi hr
  rw[hr]at hne
  rw[Rs.bind_ok]at hne ⊢
  generalize hR:x1q (y2l l p) n (e,j)=R at hne ⊢
  have e0: ∃k0 n0 s0 o0 a0 u0,e= .mk k0 n0 s0 o0 a0 u0:=by obtain⟨k0,n0,s0,o0,a0,u0⟩:=e;exact⟨_,_,_,_,_,_,rfl⟩
  obtain⟨k0,n0,s0,o0,a0,u0,rfl⟩:=e0
  simp only [x5y,Ex.row,go1,a0e,a0g]
  refine x0m (fun x:Nat × Ex × Nat=>[.sl 4 (x0a l), .int .i64 (x.2.2:Int), .int .i64 0, .int .i64 0, .str (bs []), .int .i64 0]++x.2.1.row) (fun x=>x1q (y2l l p) x.1 (x.2.1,x.2.2)=R∧x.2.2 < l.length) (fun x=>x.1) (fun x hx=> ?_) (n, .mk k0 n0 s0 o0 a0 u0,j) ⟨hR,hj⟩
  obtain⟨n1,⟨k1,m1,s1,o1,a1,u1⟩,i1⟩:=x
  obtain⟨hx,hi1⟩:=hx
  simp only at hx hi1 ⊢
  cases n1 with
  |zero=>exact(hne hx.symm).elim
  |succ n1=>
   have h2:=x3p l hl i1 hi1 (bs [91])
   have h3:=x3p l hl i1 hi1 (bs [119,104,101,110])
   rw[x1q,y2l]at hx
   simp only [Ex.row,go1,a0e,a0g,h2]
   cases ht:isT l i1 (bs [91])with
   |true=>
    have hi2:=hl.next hi1 (x0t ht)
    rw[ht]at hx
    simp only at hx
    have hq:p .arrow (i1+1)≠ .out:=fun e=>hne (by rw[e]at hx;exact hx.symm)
    have h4:cF 1000228 (kP 285 (x0a l) ((i1+1:Nat):Int))=_:=hp.c .arrow (i1+1) hi2 hq
    simp only [go1,h4]
    cases hr2:p .arrow (i1+1)with
    |out=>exact(hq hr2).elim
    |bad j2=>right;rw[hr2]at hx;rw[←hx];rfl
    |ok e2 j2=>
     have hj2:=hp.lt _ _ _ _ hi2 hr2
     obtain⟨k3,n3,s3,o3,a3,u3⟩:=e2
     have h5:=x4z l hl [bs [93]] (by simp) j2 hj2
     simp only [x5y,Ex.row,go1,a0e,a0g,h5]
     rw[hr2,Rs.bind_ok]at hx
     cases hr3:x1f l [bs [93]] j2 with
     |out=>exact(x1h hr3).elim
     |bad j3=>right;rw[hr3]at hx;rw[←hx];rfl
     |ok u j3=>
      left
      rw[hr3]at hx
      exact⟨(n1,ex 15 [.mk k1 m1 s1 o1 a1 u1, .mk k3 n3 s3 o3 a3 u3],j3),rfl,⟨hx,x3e hl hj2 hr3⟩,a1a _⟩
   |false=>
    rw[ht]at hx
    simp only [go1,h3]at hx ⊢
    cases ht2:isT l i1 (bs [119,104,101,110])with
    |true=>
     have hi2:=hl.next hi1 (x0t ht2)
     have h4:=v2g l hl (i1+1) hi2
     rw[ht2]at hx
     simp only [go1,h4]at hx ⊢
     cases hr2:x7c l (i1+1)with
     |out=>rw[hr2]at hx;exact(hne hx.symm).elim
     |bad j2=>right;rw[hr2]at hx;rw[←hx];rfl
     |ok w j2=>
      left
      rw[hr2]at hx
      obtain⟨w1,w2⟩:=w
      exact⟨(n1, .mk 11 0 w1 0 [w2] [.mk k1 m1 s1 o1 a1 u1],j2),rfl,⟨hx,x9w hl hi2 hr2⟩,a1a _⟩
    |false=>
     right
     rw[ht2]at hx
     rw[←hx]
     rfl
theorem v7l (i:Nat)(hi:i < l.length)(hne:x7p l p i≠ .out):cF 1000291 (kP 285 (x0a l) (i:Int))=some (x5y Ex.row l (x7p l p i)):=by
 have h1:cF 1000228 (kP 285 (x0a l) (i:Int))=_:=hp.c .arrow i hi (x0s hne)
 refine x4c (f:=291) (by kernel_rfl) (by with_reducible first|exact y1u _ _|exact y1t _ _ _|exact y1s _ _|exact y1r _ _ _|exact y1q _ _ _ _|exact y1p _ _ _|exact x6q _ _ _|exact x6u _ _ _ _|exact x7a _ _ _ _ _) (by kernel_rfl) rfl ?_
 rw[w7b]
 simp only [k2z,oE,oP,go1,Nat.reduceAdd,h1,x8i,q6b]
 unfold x7p at hne ⊢
 cases hr:p .arrow i with
 |out=>rw[hr]at hne;exact(hne rfl).elim
 |bad j=>rfl
 |ok e j=>
  have hj:=hp.lt _ _ _ _ hi hr
  rw[hr]at hne
  rw[Rs.bind_ok]at hne ⊢
  obtain⟨k0,n0,s0,o0,a0,u0⟩:=e
  have h2:=x3p l hl j hj (bs [119,105,116,104])
  simp only [x5y,Ex.row,go1,a0e,a0g,h2]
  cases ht:isT l j (bs [119,105,116,104])with
  |false=>
   have h3:=x4z l hl [bs [41]] (by simp) j hj
   simp only [go1,h3]
   cases hr2:x1f l [bs [41]] j<;>first|rfl|exact(x1h hr2).elim
  |true=>
   rw[ht]at hne
   simp only at hne ⊢
   have hj1:=hl.next hj (x0t ht)
   have h3:=x4z l hl [bs [91]] (by simp) (j+1) hj1
   simp only [go1,h3]
   cases hr2:x1f l [bs [91]] (j+1)with
   |out=>exact(x1h hr2).elim
   |bad k=>rfl
   |ok u k=>
    have hk:=x3e hl hj1 hr2
    rw[hr2,Rs.bind_ok]at hne
    have h4:cF 1000228 (kP 285 (x0a l) (k:Int))=_:=hp.c .arrow k hk (x0s hne)
    simp only [v3k,go1,h4,Rs.bind_ok]
    cases hr3:p .arrow k with
    |out=>rw[hr3]at hne;exact(hne rfl).elim
    |bad m=>rfl
    |ok a m=>
     have hm:=hp.lt _ _ _ _ hk hr3
     rw[hr3,Rs.bind_ok]at hne
     obtain⟨k1,n1,s1,o1,a1,u1⟩:=a
     have h5:=x4z l hl [bs [93],bs [61]] (by simp) m hm
     simp only [x5y,Ex.row,go1,a0e,a0g,h5,Rs.bind_ok]
     cases hr4:x1f l [bs [93],bs [61]] m with
     |out=>exact(x1h hr4).elim
     |bad q=>rfl
     |ok u2 q=>
      have hq:=x3e hl hm hr4
      rw[hr4,Rs.bind_ok]at hne
      have h6:cF 1000228 (kP 285 (x0a l) (q:Int))=_:=hp.c .arrow q hq (x0s hne)
      simp only [v3k,go1,h6,Rs.bind_ok]
      cases hr5:p .arrow q with
      |out=>rw[hr5]at hne;exact(hne rfl).elim
      |bad m=>rfl
      |ok b z=>
       have hz:=hp.lt _ _ _ _ hq hr5
       obtain⟨k2,n2,s2,o2,a2,u2⟩:=b
       have h7:=x4z l hl [bs [41]] (by simp) z hz
       simp only [x5y,Ex.row,go1,a0e,a0g,h7,Rs.bind_ok]
       cases hr6:x1f l [bs [41]] z<;>first|rfl|exact(x1h hr6).elim
theorem v3c (i:Nat)(hi:i < l.length)(hne:x7i l p i≠ .out):cF 1000293 (kP 285 (x0a l) (i:Int))=some (x5y Ex.row l (x7i l p i)):=by
 have h1:cF 1000228 (kP 285 (x0a l) (i:Int))=_:=hp.c .arrow i hi (x0s hne)
 refine x4c (f:=293) (by kernel_rfl) (by with_reducible first|exact y1u _ _|exact y1t _ _ _|exact y1s _ _|exact y1r _ _ _|exact y1q _ _ _ _|exact y1p _ _ _|exact x6q _ _ _|exact x6u _ _ _ _|exact x7a _ _ _ _ _) (by kernel_rfl) rfl ?_
 rw[w6z]
 simp only [k2x,oE,oP,go1,Nat.reduceAdd,h1,x8i]
 unfold x7i at hne ⊢
 cases hr:p .arrow i with
 |out=>rw[hr]at hne;exact(hne rfl).elim
 |bad j=>rfl
 |ok e j=>
  have hj:=hp.lt _ _ _ _ hi hr
  rw[hr]at hne
  rw[Rs.bind_ok]at hne ⊢
  obtain⟨k0,n0,s0,o0,a0,u0⟩:=e
  have h3:=x4z l hl [bs [116,104,101,110]] (by simp) j hj
  simp only [x5y,Ex.row,go1,a0e,a0g,h3]
  cases hr2:x1f l [bs [116,104,101,110]] j with
  |out=>exact(x1h hr2).elim
  |bad k=>rfl
  |ok u k=>
   have hk:=x3e hl hj hr2
   rw[hr2,Rs.bind_ok]at hne
   have h4:cF 1000228 (kP 285 (x0a l) (k:Int))=_:=hp.c .arrow k hk (x0s hne)
   simp only [v3k,go1,h4,Rs.bind_ok]
   cases hr3:p .arrow k with
   |out=>rw[hr3]at hne;exact(hne rfl).elim
   |bad m=>rfl
   |ok a m=>
    have hm:=hp.lt _ _ _ _ hk hr3
    rw[hr3,Rs.bind_ok]at hne
    obtain⟨k1,n1,s1,o1,a1,u1⟩:=a
    have h5:=x4z l hl [bs [101,108,115,101]] (by simp) m hm
    simp only [x5y,Ex.row,go1,a0e,a0g,h5,Rs.bind_ok]
    cases hr4:x1f l [bs [101,108,115,101]] m with
    |out=>exact(x1h hr4).elim
    |bad q=>rfl
    |ok u2 q=>
     have hq:=x3e hl hm hr4
     rw[hr4,Rs.bind_ok]at hne
     have h6:cF 1000228 (kP 285 (x0a l) (q:Int))=_:=hp.c .arrow q hq (x0s hne)
     simp only [v3k,go1,h6,Rs.bind_ok]
     cases hr5:p .arrow q with
     |out=>rw[hr5]at hne;exact(hne rfl).elim
     |bad m=>rfl
     |ok b z=>obtain⟨k2,n2,s2,o2,a2,u2⟩:=b;rfl
theorem u3a {es:List Ex}{i:Nat}(he:es.length≤i)(hi:i < l.length)(r:List D):decide (((Ex.rows es).length+[r].length)*(88+1)≤140737488355328)=true:=by
 have:=hl.few
 rw[x0x]
 exact a1d (by simp only [a0f,a0i];omega)
theorem v3d {β:Type}(f:PRes→β)(nm:ByteArray)(es:List Ex)(j:Nat)(hj:j < l.length)(he:es.length≤j)(hne:y0s l p nm es j≠ .out):
  ((cF 1000243 (kS 0 (bs [101,118,101,114,121]) (x0a l) (j:Int))).bind fun p62=>(opB (sy.cell p62.leaves 0)).bind fun b64=>(opL (sy.cell p62.leaves 1) 4).bind fun l65=>(opI (sy.cell p62.leaves 2) .i64).bind fun n66=>
    bif b64 then(cF 1000287 (kP 285 l65 n66)).bind fun p67=>(opB (sy.cell p67.leaves 0)).bind fun b69=>
     bif b69 then(opI (sy.cell p67.leaves 1) .i64).bind fun n70=>(opL (sy.cell p67.leaves 2) 4).bind fun l71=>(opI (sy.cell p67.leaves 3) .i64).bind fun n72=>some (f (PRes.val [.bool true, .int .i64 n70, .sl 4 l71, .int .i64 n72]))
     else(opI (sy.cell p67.leaves 1) .i64).bind fun n73=>(opI (sy.cell p67.leaves 2) .i64).bind fun n74=>(opS (sy.cell p67.leaves 3)).bind fun s75=>(opI (sy.cell p67.leaves 4) .i64).bind fun n76=>(opL (sy.cell p67.leaves 5) 1).bind fun l77=>(opL (sy.cell p67.leaves 6) 6).bind fun l78=>
      (opL (sy.cell p67.leaves 7) 4).bind fun l79=>(opI (sy.cell p67.leaves 8) .i64).bind fun n80=>
       bif decide (((Ex.rows es).length+[[D.int .i64 n73, .int .i64 n74, .str s75, .int .i64 n76, .sl 1 l77, .sl 6 l78]].length)*(88+1)≤140737488355328)then
        some (f (PRes.val [.bool false, .int .i64 13, .int .i64 1, .str nm, .int .i64 0, .sl 1 [], .sl 6 (Ex.rows es++[[.int .i64 n73, .int .i64 n74, .str s75, .int .i64 n76, .sl 1 l77, .sl 6 l78]]), .sl 4 l79, .int .i64 n80]))
       else none
    else some (f (PRes.val [.bool false, .int .i64 13, .int .i64 0, .str nm, .int .i64 0, .sl 1 [], .sl 6 (Ex.rows es), .sl 4 l65, .int .i64 n66])))=some (f (x5y Ex.row l (y0s l p nm es j))):=by
 have h1:=x3p l hl j hj (bs [101,118,101,114,121])
 unfold y0s at hne ⊢
 rw[h1]
 cases ht:isT l j (bs [101,118,101,114,121])with
 |false=>simp only [go1,Nat.reduceAdd];rfl
 |true=>
  rw[ht]at hne
  simp only at hne
  have hj1:=hl.next hj (x0t ht)
  have h2:cF 1000287 (kP 285 (x0a l) ((j+1:Nat):Int))=_:=hp.c .post (j+1) hj1 (x0s hne)
  simp only [go1,Nat.reduceAdd,h2]
  cases hr:p .post (j+1)with
  |out=>rw[hr]at hne;exact(hne rfl).elim
  |bad k=>rfl
  |ok e k=>
   obtain⟨k0,n0,s0,o0,a0,u0⟩:=e
   have h3:=u3a hl hp he hj (Ex.row (.mk k0 n0 s0 o0 a0 u0))
   simp only [Ex.row]at h3
   simp only [x5y,Ex.row,go1,a0e,a0g,h3,Rs.bind_ok,x6j]
   rfl
theorem w8q (nm:ByteArray)(i:Nat)(hi:i < l.length)(hne:y3g l n p nm i≠ .out):cF 1000294 (kS 285 nm (x0a l) (i:Int))=some (x5y Ex.row l (y3g l n p nm i)):=by
 have h1:=x3p l hl i hi (bs [41])
 refine x4c (f:=294) (by kernel_rfl) (by with_reducible first|exact y1u _ _|exact y1t _ _ _|exact y1s _ _|exact y1r _ _ _|exact y1q _ _ _ _|exact y1p _ _ _|exact x6q _ _ _|exact x6u _ _ _ _|exact x7a _ _ _ _ _) (by kernel_rfl) rfl ?_
 rw[w6y]
 simp only [k2w,oE,oP,oT,go1,Nat.reduceAdd,h1,x8i]
 unfold y3g at hne ⊢
 cases ht:isT l i (bs [41])with
 |true=>
  rw[ht]at hne
  simp only [go1]at hne ⊢
  have:=v3d hl hp (fun x=>x) nm [] (i+1) (hl.next hi (x0t ht)) (a0r _) hne
  exact this
 |false=>
  rw[ht]at hne
  simp only [go1]at hne ⊢
  have hq:p .arrow i≠ .out:=x0s (x0s hne)
  have h2:cF 1000228 (kP 285 (x0a l) (i:Int))=_:=hp.c .arrow i hi hq
  unfold y0q at hne ⊢
  rw[h2]
  cases hr:p .arrow i with
  |out=>exact(hq hr).elim
  |bad j=>rfl
  |ok e j=>
   have hj:=hp.lt _ _ _ _ hi hr
   have hg:=hp.gt _ _ _ _ hi hr
   rw[hr]at hne
   rw[Rs.bind_ok]at hne ⊢
   generalize hR:x1q (x7y l p (bs [41])) n ([e],j)=R at hne ⊢
   have e0: ∃k0 n0 s0 o0 a0 u0,e= .mk k0 n0 s0 o0 a0 u0:=by obtain⟨k0,n0,s0,o0,a0,u0⟩:=e;exact⟨_,_,_,_,_,_,rfl⟩
   obtain⟨k0,n0,s0,o0,a0,u0,rfl⟩:=e0
   simp only [x5y,Ex.row,go1,a0e,a0g]
   refine x0m (fun x:Nat × List Ex × Nat=>[.str (bs [41]), .sl 4 (x0a l), .int .i64 (x.2.2:Int), .int .i64 0, .int .i64 0, .str (bs []), .int .i64 0, .int .i64 13, .int .i64 0, .str nm, .int .i64 0, .sl 6 (Ex.rows x.2.1)]) (fun x=>x1q (x7y l p (bs [41])) x.1 (x.2.1,x.2.2)=R∧x.2.2 < l.length∧x.2.1.length≤x.2.2) (fun x=>x.1) (fun x hx=> ?_) (n,[.mk k0 n0 s0 o0 a0 u0],j) ⟨hR,hj,by simp only [a0f,a0i];omega⟩
   obtain⟨n1,es,i1⟩:=x
   obtain⟨hx,hi1,hel⟩:=hx
   simp only at hx hi1 hel ⊢
   cases n1 with
   |zero=>exact(hne (by rw[←hx];rfl)).elim
   |succ n1=>
    have h3:=x3p l hl i1 hi1 (bs [44])
    rw[x1q,x7y]at hx
    simp only [go1,h3]
    cases ht2:isT l i1 (bs [44])with
    |true=>
     have hi2:=hl.next hi1 (x0t ht2)
     rw[ht2]at hx
     simp only at hx
     have hq2:p .arrow (i1+1)≠ .out:=fun e=>hne (by rw[e]at hx;rw[←hx];rfl)
     have h4:cF 1000228 (kP 285 (x0a l) ((i1+1:Nat):Int))=_:=hp.c .arrow (i1+1) hi2 hq2
     simp only [go1,h4]
     cases hr2:p .arrow (i1+1)with
     |out=>exact(hq2 hr2).elim
     |bad j2=>right;rw[hr2]at hx;rw[←hx];rfl
     |ok e2 j2=>
      left
      have hj2:=hp.lt _ _ _ _ hi2 hr2
      have hg2:=hp.gt _ _ _ _ hi2 hr2
      rw[hr2]at hx
      obtain⟨k3,n3,s3,o3,a3,u3⟩:=e2
      have h5:=u3a hl hp hel hi1 (Ex.row (.mk k3 n3 s3 o3 a3 u3))
      simp only [Ex.row]at h5
      refine⟨(n1,es++[.mk k3 n3 s3 o3 a3 u3],j2),?_,⟨hx,hj2,by simp only [a0j,a0f,a0i];omega⟩,a1a _⟩
      simp only [x5y,Ex.row,go1,a0e,a0g,h5,x6j]
    |false=>
     right
     rw[ht2]at hx
     simp only [go1]at hx ⊢
     have h4:=x4z l hl [bs [41]] (by simp) i1 hi1
     simp only [h4,go1]
     cases hr3:x1f l [bs [41]] i1 with
     |out=>exact(x1h hr3).elim
     |bad j3=>rw[hr3]at hx;rw[←hx];rfl
     |ok u j3=>
      rw[hr3,Rs.bind_ok]at hx
      rw[←hx,Rs.bind_ok]at hne ⊢
      have hj3:=x3e hl hi1 hr3
      have:=v3d hl hp (Sum.inr (α:=List D)) nm es j3 hj3 (by have:=x1w hr3;omega) hne
      simp only [v3k,go1]
      exact this
theorem v7m (i:Nat)(hi:i < l.length)(hne:x5z l n p i≠ .out):cF 1000292 (kP 285 (x0a l) (i:Int))=some (x5y Ex.row l (x5z l n p i)):=by
 have h1:=y9o l hl i hi
 refine x4c (f:=292) (by kernel_rfl) (by with_reducible first|exact y1u _ _|exact y1t _ _ _|exact y1s _ _|exact y1r _ _ _|exact y1q _ _ _ _|exact y1p _ _ _|exact x6q _ _ _|exact x6u _ _ _ _|exact x7a _ _ _ _ _) (by kernel_rfl) rfl ?_
 rw[w7a]
 simp only [k2y,oE,oP,oT,go1,Nat.reduceAdd,h1,x8i]
 unfold x5z at hne ⊢
 cases hr:x2l l i with
 |out=>exact(x2t hr).elim
 |bad j=>rfl
 |ok nm j=>
  have hj:=x4s hl hi hr
  rw[hr,Rs.bind_ok]at hne
  have h2:=x4z l hl [bs [40]] (by simp) j hj
  simp only [x5y,sD,go1,a0e,a0g,h2,Rs.bind_ok]
  cases hr2:x1f l [bs [40]] j with
  |out=>exact(x1h hr2).elim
  |bad k=>rfl
  |ok u k=>
   have hk:=x3e hl hj hr2
   rw[hr2,Rs.bind_ok]at hne
   rw[Rs.bind_ok]
   generalize hR:x1q (x4j l p) n ([],[],k,true)=R at hne ⊢
   simp only [v3k,go1]
   refine x0m (fun x:Nat × List ByteArray × List Ex × Nat × Bool=>[.bool x.2.2.2.2, .sl 4 (x0a l), .int .i64 (x.2.2.2.1:Int), .int .i64 0, .int .i64 0, .str (bs []), .int .i64 0, .int .i64 12, .int .i64 0, .str nm, .int .i64 0, .sl 1 (x0e x.2.1), .sl 6 (Ex.rows x.2.2.1)]) (fun x=>x1q (x4j l p) x.1 (x.2.1,x.2.2.1,x.2.2.2.1,x.2.2.2.2)=R∧x.2.2.2.1 < l.length∧x.2.2.1.length≤x.2.2.2.1∧x.2.1.length≤x.2.2.2.1) (fun x=>x.1) (fun x hx=> ?_) (n,[],[],k,true) ⟨hR,hk,a0r _,a0r _⟩
   obtain⟨n1,ar,es,i1,ag⟩:=x
   obtain⟨hx,hi1,hel,hal⟩:=hx
   simp only at hx hi1 hel hal ⊢
   cases n1 with
   |zero=>exact(hne (by rw[←hx];rfl)).elim
   |succ n1=>
    cases ag with
    |false=>
     right
     rw[x1q,x4j]at hx
     simp only [go1]
     rw[←hx];rfl
    |true=>
     rw[x1q,x4j]at hx
     have h3:=v9d l hl i1 hi1
     simp only [go1,h3]
     cases hr3:y3k l i1 with
     |out=>exact(y4n hr3).elim
     |bad j2=>right;rw[hr3]at hx;rw[←hx];rfl
     |ok a j2=>
      have hj2:=x9v hl hi1 hr3
      rw[hr3,Rs.bind_ok]at hx
      have h4:=x4z l hl [bs [45,62]] (by simp) j2 hj2
      have hf:=hl.few
      have f1:decide (((x0e ar).length+[[D.str a]].length)*(16+1)≤140737488355328)=true:=by
       rw[x0f];exact a1d (by simp only [a0f,a0i];omega)
      have f1:decide (((x0e ar).length+(x0e [a]).length)*(16+1)≤140737488355328)=true:=f1
      simp only [x5y,sD,go1,a0e,a0g,f1,h4]
      cases hr4:x1f l [bs [45,62]] j2 with
      |out=>exact(x1h hr4).elim
      |bad j3=>right;rw[hr4]at hx;rw[←hx];rfl
      |ok u2 j3=>
       have hj3:=x3e hl hj2 hr4
       rw[hr4,Rs.bind_ok]at hx
       have hq:p .arrow j3≠ .out:=fun e=>hne (by rw[e]at hx;rw[←hx];rfl)
       have h5:cF 1000228 (kP 285 (x0a l) (j3:Int))=_:=hp.c .arrow j3 hj3 hq
       simp only [v3k,go1,h5]
       cases hr5:p .arrow j3 with
       |out=>exact(hq hr5).elim
       |bad j4=>right;rw[hr5]at hx;rw[←hx];rfl
       |ok e j4=>
        have hj4:=hp.lt _ _ _ _ hj3 hr5
        have hg:=hp.gt _ _ _ _ hj3 hr5
        have l1:=y1y hr3
        have l2:=x1w hr4
        rw[hr5,Rs.bind_ok]at hx
        obtain⟨k3,n3,s3,o3,a3,u3⟩:=e
        have h6:=x4z l hl [bs [41]] (by simp) j4 hj4
        have f2:=u3a hl hp hel hi1 (Ex.row (.mk k3 n3 s3 o3 a3 u3))
        simp only [Ex.row]at f2
        simp only [x5y,Ex.row,go1,a0e,a0g,f2,h6]
        cases hr6:x1f l [bs [41]] j4 with
        |out=>exact(x1h hr6).elim
        |bad j5=>right;rw[hr6]at hx;rw[←hx];rfl
        |ok u3' j5=>
         have hj5:=x3e hl hj4 hr6
         have l3:=x1w hr6
         rw[hr6,Rs.bind_ok]at hx
         simp only at hx
         have h7:=x3p l hl j5 hj5 (bs [40])
         simp only [v3k,go1,h7]
         left
         cases ht:isT l j5 (bs [40])with
         |true=>
          rw[ht]at hx
          refine⟨(n1,ar++[a],es++[.mk k3 n3 s3 o3 a3 u3],j5+1,true),?_,⟨hx,hl.next hj5 (x0t ht),by simp only [a0j,a0f,a0i];omega,by simp only [a0j,a0f,a0i];omega⟩,a1a _⟩
          simp only [go1,x6j,y2h,Ex.row]
         |false=>
          rw[ht]at hx
          refine⟨(n1,ar++[a],es++[.mk k3 n3 s3 o3 a3 u3],j5,false),?_,⟨hx,hj5,by simp only [a0j,a0f,a0i];omega,by simp only [a0j,a0f,a0i];omega⟩,a1a _⟩
          simp only [go1,x6j,y2h,Ex.row]
theorem w8n (i:Nat)(hi:i < l.length)(hne:y2e l n p i≠ .out):cF 1000289 (kP 285 (x0a l) (i:Int))=some (x5y Ex.row l (y2e l n p i)):=by
 have h1:=x3p l hl i hi (bs [116,114,117,101])
 have h2:=x3p l hl i hi (bs [102,97,108,115,101])
 have h3:=x3p l hl i hi (bs [91])
 have h4:=x3p l hl i hi (bs [40])
 have h5:=x3p l hl i hi (bs [109,101,114,103,101])
 have h6:=x3p l hl i hi (bs [105,102])
 refine x4c (f:=289) (by kernel_rfl) (by with_reducible first|exact y1u _ _|exact y1t _ _ _|exact y1s _ _|exact y1r _ _ _|exact y1q _ _ _ _|exact y1p _ _ _|exact x6q _ _ _|exact x6u _ _ _ _|exact x7a _ _ _ _ _) (by kernel_rfl) rfl ?_
 rw[w7c]
 simp only [k3a,oE,oP,go1,Nat.reduceAdd,h1,x8i]
 unfold y2e at hne ⊢
 cases t1:isT l i (bs [116,114,117,101])with
 |true=>rw[show isT l i x5w=true from t1];rfl
 |false=>
  rw[show isT l i x5w=false from t1]at hne ⊢
  simp only [go1,h2]at hne ⊢
  cases t2:isT l i (bs [102,97,108,115,101])with
  |true=>rw[show isT l i x2r=true from t2];rfl
  |false=>
   rw[show isT l i x2r=false from t2]at hne ⊢
   simp only [go1,h3]at hne ⊢
   cases t3:isT l i (bs [91])with
   |true=>
    have hi1:=hl.next hi (x0t t3)
    rw[t3]at hne
    simp only [go1]at hne ⊢
    have hq:p .arrow (i+1)≠ .out:=x0s (x0s hne)
    have k2:cF 1000228 (kP 285 (x0a l) ((i+1:Nat):Int))=_:=hp.c .arrow (i+1) hi1 hq
    unfold y0q at hne ⊢
    rw[k2]
    cases hr:p .arrow (i+1)with
    |out=>exact(hq hr).elim
    |bad j=>rfl
    |ok e j=>
     have hj:=hp.lt _ _ _ _ hi1 hr
     have hg:=hp.gt _ _ _ _ hi1 hr
     rw[hr]at hne
     rw[Rs.bind_ok]at hne ⊢
     generalize hR:x1q (x7y l p (bs [93])) n ([e],j)=R at hne ⊢
     have e0: ∃k0 n0 s0 o0 a0 u0,e= .mk k0 n0 s0 o0 a0 u0:=by obtain⟨k0,n0,s0,o0,a0,u0⟩:=e;exact⟨_,_,_,_,_,_,rfl⟩
     obtain⟨k0,n0,s0,o0,a0,u0,rfl⟩:=e0
     simp only [x5y,Ex.row,go1,a0e,a0g]
     refine x0m (fun x:Nat × List Ex × Nat=>[.str (bs [93]), .sl 4 (x0a l), .int .i64 (x.2.2:Int), .int .i64 0, .int .i64 0, .str (bs []), .int .i64 0, .sl 6 (Ex.rows x.2.1)]) (fun x=>x1q (x7y l p (bs [93])) x.1 (x.2.1,x.2.2)=R∧x.2.2 < l.length∧x.2.1.length≤x.2.2) (fun x=>x.1) (fun x hx=> ?_) (n,[.mk k0 n0 s0 o0 a0 u0],j) ⟨hR,hj,by simp only [a0f,a0i];omega⟩
     obtain⟨n1,es,i1⟩:=x
     obtain⟨hx,hi1,hel⟩:=hx
     simp only at hx hi1 hel ⊢
     cases n1 with
     |zero=>exact(hne (by rw[←hx];rfl)).elim
     |succ n1=>
      have h3:=x3p l hl i1 hi1 (bs [44])
      rw[x1q,x7y]at hx
      simp only [go1,h3]
      cases ht2:isT l i1 (bs [44])with
      |true=>
       have hi2:=hl.next hi1 (x0t ht2)
       rw[ht2]at hx
       simp only at hx
       have hq2:p .arrow (i1+1)≠ .out:=fun e=>hne (by rw[e]at hx;rw[←hx];rfl)
       have h4:cF 1000228 (kP 285 (x0a l) ((i1+1:Nat):Int))=_:=hp.c .arrow (i1+1) hi2 hq2
       simp only [go1,h4]
       cases hr2:p .arrow (i1+1)with
       |out=>exact(hq2 hr2).elim
       |bad j2=>right;rw[hr2]at hx;rw[←hx];rfl
       |ok e2 j2=>
        left
        have hj2:=hp.lt _ _ _ _ hi2 hr2
        have hg2:=hp.gt _ _ _ _ hi2 hr2
        rw[hr2]at hx
        obtain⟨k3,n3,s3,o3,a3,u3⟩:=e2
        have h5:=u3a hl hp hel hi1 (Ex.row (.mk k3 n3 s3 o3 a3 u3))
        simp only [Ex.row]at h5
        refine⟨(n1,es++[.mk k3 n3 s3 o3 a3 u3],j2),?_,⟨hx,hj2,by simp only [a0j,a0f,a0i];omega⟩,a1a _⟩
        simp only [x5y,Ex.row,go1,a0e,a0g,h5,x6j]
      |false=>
       right
       rw[ht2]at hx
       simp only [go1]at hx ⊢
       have h4:=x4z l hl [bs [93]] (by simp) i1 hi1
       simp only [h4,go1]
       cases hr3:x1f l [bs [93]] i1 with
       |out=>exact(x1h hr3).elim
       |bad j3=>rw[hr3]at hx;rw[←hx];rfl
       |ok u j3=>rw[hr3,Rs.bind_ok]at hx;rw[←hx];rfl
   |false=>
    rw[t3]at hne
    simp only [go1,h4]at hne ⊢
    cases t4:isT l i (bs [40])with
    |true=>
     have hi1:=hl.next hi (x0t t4)
     rw[t4]at hne
     simp only [go1]at hne ⊢
     have k2:=v7l hl hp (i+1) hi1 hne
     rw[k2]
     cases hr:x7p l p (i+1)with
     |out=>exact(hne hr).elim
     |bad j=>rfl
     |ok e j=>obtain⟨k0,n0,s0,o0,a0,u0⟩:=e;rfl
    |false=>
     rw[t4]at hne
     simp only [go1,h5]at hne ⊢
     cases t5:isT l i (bs [109,101,114,103,101])with
     |true=>
      have hi1:=hl.next hi (x0t t5)
      rw[t5]at hne
      simp only [go1]at hne ⊢
      have k2:=v7m hl hp (i+1) hi1 hne
      rw[k2]
      cases hr:x5z l n p (i+1)with
      |out=>exact(hne hr).elim
      |bad j=>rfl
      |ok e j=>obtain⟨k0,n0,s0,o0,a0,u0⟩:=e;rfl
     |false=>
      rw[t5]at hne
      simp only [go1,h6]at hne ⊢
      cases t6:isT l i (bs [105,102])with
      |true=>
       have hi1:=hl.next hi (x0t t6)
       rw[t6]at hne
       simp only [go1]at hne ⊢
       have k2:=v3c hl hp (i+1) hi1 hne
       rw[k2]
       cases hr:x7i l p (i+1)with
       |out=>exact(hne hr).elim
       |bad j=>rfl
       |ok e j=>obtain⟨k0,n0,s0,o0,a0,u0⟩:=e;rfl
      |false=>
       rw[t6]at hne
       have k1:=y9o l hl i hi
       simp only [go1,k1]at hne ⊢
       cases hr:x2l l i with
       |out=>exact(x2t hr).elim
       |bad j=>rfl
       |ok nm j=>
        have hj:=x4s hl hi hr
        rw[hr,Rs.bind_ok]at hne
        have k2:=x3p l hl j hj (bs [40])
        simp only [x5y,sD,go1,a0e,a0g,k2,Rs.bind_ok]
        cases t7:isT l j (bs [40])with
        |false=>rfl
        |true=>
         rw[t7]at hne
         simp only [go1]at hne ⊢
         have k3:=w8q hl hp nm (j+1) (hl.next hj (x0t t7)) hne
         rw[k3]
         cases hr2:y3g l n p nm (j+1)with
         |out=>exact(hne hr2).elim
         |bad k=>rfl
         |ok e k=>obtain⟨k0,n0,s0,o0,a0,u0⟩:=e;rfl
theorem w8r (i:Nat)(hi:i < l.length)(hne:y4m l n p i≠ .out):cF 1000288 (kP 285 (x0a l) (i:Int))=some (x5y Ex.row l (y4m l n p i)):=by
 have hf:=hl.few
 have h1:=x5t hi
 have h2:=x3d hi
 refine x4c (f:=288) (by kernel_rfl) (by with_reducible first|exact y1u _ _|exact y1t _ _ _|exact y1s _ _|exact y1r _ _ _|exact y1q _ _ _ _|exact y1p _ _ _|exact x6q _ _ _|exact x6u _ _ _ _|exact x7a _ _ _ _ _) (by kernel_rfl) rfl ?_
 rw[w7d]
 simp only [k3b,oE,oP,oT,go1,Nat.reduceAdd,h1,h2,x3b]
 unfold y4m at hne ⊢
 have w:=x0c (i:=i) (n:=l.length) hi (by omega)
 cases q3:decide ((tkA l i).k=3)with
 |true=>simp only [go1,w];rfl
 |false=>
  cases q2:decide ((tkA l i).k=2)with
  |true=>simp only [go1,w];rfl
  |false=>
   cases q4:decide ((tkA l i).k=4)with
   |true=>simp only [go1,w];rfl
   |false=>
    rw[q3,q2,q4]at hne
    have k2:=w8n hl hp i hi hne
    simp only [go1,k2]
    cases hr:y2e l n p i with
    |out=>exact(hne hr).elim
    |bad j=>rfl
    |ok e j=>obtain⟨k0,n0,s0,o0,a0,u0⟩:=e;rfl
end
end Go.Vm
end

section
set_option maxRecDepth 100000
set_option maxHeartbeats 4000000
namespace Go.Vm
open Go.Proofs
theorem x0d {α β:Type}{r:Rs α}{f:α→Nat→Rs β}{b:β}{j:Nat}(h:r.bind f= .ok b j): ∃a k,r= .ok a k∧f a k= .ok b j:=by
 cases r with
 |ok a k=>exact⟨a,k,rfl,h⟩
 |_=>cases h
theorem x0z {α β:Type}{r:Rs α}{f:α→Nat→Rs β}(h1:r≠ .out)(h2: ∀a k,r= .ok a k→f a k≠ .out):r.bind f≠ .out:=by
 cases r with
 |ok a k=>exact h2 a k rfl
 |bad i=>exact nofun
 |out=>exact(h1 rfl).elim
theorem x4u {σ ρ:Type}{st:σ→σ ⊕ Rs ρ}(P:σ→Prop)(Q:ρ→Nat→Prop)(h1: ∀x y,P x→st x= .inl y→P y)(h2: ∀x r j,P x→st x= .inr (.ok r j)→Q r j): ∀(n:Nat) (x:σ) (r:ρ) (j:Nat),P x→x1q st n x= .ok r j→Q r j
 |0,_,_,_,_,h=>by cases h
 |n+1,x,r,j,hx,h=>by
  unfold x1q at h
  cases hs:st x with
  |inl y=>rw[hs]at h;exact x4u P Q h1 h2 n y r j (h1 x y hx hs) h
  |inr q=>rw[hs]at h;simp only at h;subst h;exact h2 x r j hx hs
theorem y2x {σ ρ:Type}{st:σ→σ ⊕ Rs ρ}(P:σ→Prop)(m:σ→Nat)(h1: ∀x y,P x→st x= .inl y→P y∧m y < m x)(h2: ∀x,P x→st x≠ .inr .out): ∀(n:Nat) (x:σ),P x→m x < n→x1q st n x≠ .out
 |0,_,_,h=>by omega
 |n+1,x,hx,h=>by
  unfold x1q
  cases hs:st x with
  |inl y=>
   have:=h1 x y hx hs
   exact y2x P m h1 h2 n y this.1 (by omega)
  |inr q=>exact fun e=>h2 x hx (by rw[hs];exact congrArg _ e)
def lvl:Nt→Nat
 | .arrow=>10| .fby=>9| .or=>8| .and=>7| .cmp=>6| .sum=>5| .prod=>4| .un=>3| .post=>2| .atom=>1
def Mn (l:List Tk)(nt:Nt)(i:Nat):Nat:=20*(l.length - i)+lvl nt
structure HQ (l:List Tk) (n:Nat) (p:PR):Prop where
 pos: ∀nt i e j,i < l.length→p nt i= .ok e j→i < j∧j < l.length
 ne: ∀nt i,i < l.length→Mn l nt i≤n→p nt i≠ .out
section
variable {l : List Tk} (hl : LOK l) {n : Nat} {p : PR} (hp : HQ l n p)
include hl hp
theorem x1t {w:List ByteArray}{i j:Nat}{u:Unit}(hi:i < l.length)(h:x1f l w i= .ok u j):i≤j∧j < l.length:=⟨x1w h,x3e hl hi h⟩
theorem y2r {i j:Nat}{u:ByteArray}(hi:i < l.length)(h:x2l l i= .ok u j):i < j∧j < l.length:=⟨by rw[x5n h];omega,x4s hl hi h⟩
theorem y6a {i j:Nat}{w:ByteArray × ByteArray}(h:x7c l i= .ok w j):i≤j:=by
 unfold x7c at h
 split at h
 ·obtain⟨a,k,h1,h2⟩:=x0d h
  cases h2;have:=x5n h1;omega
 ·split at h
  ·obtain⟨a,k,h1,h2⟩:=x0d h
   cases h2;have:=x5n h1;omega
  ·obtain⟨a,k,h1,h⟩:=x0d h
   obtain⟨_,k2,h2,h⟩:=x0d h
   obtain⟨_,k3,h3,h⟩:=x0d h
   obtain⟨_,k4,h4,h⟩:=x0d h
   cases h
   have:=y1y h1;have:=x1w h2;have:=x5n h3;have:=x1w h4
   omega
theorem z2m (i:Nat):x7c l i≠ .out:=by
 unfold x7c
 split
 ·exact x0z (fun e=>x2t e) fun _ _ _=>nofun
 ·split
  ·exact x0z (fun e=>x2t e) fun _ _ _=>nofun
  ·exact x0z (fun e=>y4n e) fun _ _ _=>x0z (fun e=>x1h e) fun _ _ _=>x0z (fun e=>x2t e) fun _ _ _=>x0z (fun e=>x1h e) fun _ _ _=>nofun
theorem y6l (side:Nt)(a m i:Nat)(e:Ex)(j:Nat)(hi:i < l.length)(h:x3u l n p side a m i= .ok e j):i < j∧j < l.length:=by
 unfold x3u at h
 obtain⟨e1,k,h1,h⟩:=x0d h
 have hk:=hp.pos _ _ _ _ hi h1
 refine x4u (fun x:Ex × Nat=>i < x.2∧x.2 < l.length) (fun _ j=>i < j∧j < l.length) (fun x y hx hs=> ?_) (fun x r j hx hs=> ?_) n (e1,k) e j hk h
 ·obtain⟨e2,i2⟩:=x
  rw[x3z]at hs
  split at hs
  ·cases hs
  ·rename_i o ho
   split at hs
   ·rename_i e3 j3 h3
    cases hs
    have:=hp.pos _ _ _ _ (hl.next hx.2 (x2k ho).1) h3
    exact⟨by have:=hx.1;show i < j3;omega,this.2⟩
   ·cases hs
   ·cases hs
 ·obtain⟨e2,i2⟩:=x
  rw[x3z]at hs
  split at hs
  ·cases hs;exact hx
  ·split at hs<;>cases hs
theorem z3g (side nt:Nt)(hs:lvl side < lvl nt)(h10:lvl side≤10)(a m i:Nat)(hi:i < l.length)(hM:Mn l nt i≤n+1):x3u l n p side a m i≠ .out:=by
 unfold Mn at hM
 refine x0z (hp.ne _ _ hi (by unfold Mn;omega)) fun e k h1=> ?_
 have hk:=hp.pos _ _ _ _ hi h1
 refine y2x (fun x:Ex × Nat=>i < x.2∧x.2 < l.length) (fun x=>l.length - x.2) (fun x y hx hs=> ?_) (fun x hx hs=> ?_) n (e,k) hk (by simp only;omega)
 ·obtain⟨e2,i2⟩:=x
  obtain⟨hx1,hx2⟩:=hx
  simp only at hx1 hx2
  rw[x3z]at hs
  split at hs
  ·cases hs
  ·rename_i o ho
   split at hs
   ·rename_i e3 j3 h3
    cases hs
    have:=hp.pos _ _ _ _ (hl.next hx2 (x2k ho).1) h3
    simp only;omega
   ·cases hs
   ·cases hs
 ·obtain⟨e2,i2⟩:=x
  obtain⟨hx1,hx2⟩:=hx
  simp only at hx1 hx2
  rw[x3z]at hs
  split at hs
  ·cases hs
  ·rename_i o ho
   split at hs
   ·cases hs
   ·cases hs
   ·rename_i h3
    exact hp.ne _ _ (hl.next hx2 (x2k ho).1) (by unfold Mn;omega) h3
theorem v4i (i:Nat)(e:Ex)(j:Nat)(hi:i < l.length)(h:y3t l n p i= .ok e j):i < j∧j < l.length:=by
 unfold y3t at h
 obtain⟨e1,k,h1,h⟩:=x0d h
 have hk:=hp.pos _ _ _ _ hi h1
 refine x4u (fun x:Ex × Nat=>i < x.2∧x.2 < l.length) (fun _ j=>i < j∧j < l.length) (fun x y hx hs=> ?_) (fun x r j hx hs=> ?_) n (e1,k) e j hk h
 ·obtain⟨e2,i2⟩:=x
  obtain⟨hx1,hx2⟩:=hx
  simp only at hx1 hx2
  rw[y2l]at hs
  split at hs
  ·rename_i ht
   split at hs
   ·rename_i a j3 h3
    cases hs
    obtain⟨a2,k2,h4,h5⟩:=x0d h3
    obtain⟨u,k3,h6,h7⟩:=x0d h5
    cases h7
    have q1:=hp.pos _ _ _ _ (hl.next hx2 (x0t ht)) h4
    have q2:=x1t hl hp q1.2 h6
    simp only;omega
   ·cases hs
   ·cases hs
  ·split at hs
   ·rename_i ht
    split at hs
    ·rename_i w j3 h3
     cases hs
     have:=x9w hl (hl.next hx2 (x0t ht)) h3
     have:=y6a hl hp h3
     simp only;omega
    ·cases hs
    ·cases hs
   ·cases hs
 ·obtain⟨e2,i2⟩:=x
  rw[y2l]at hs
  split at hs
  ·split at hs<;>cases hs
  ·split at hs
   ·split at hs<;>cases hs
   ·cases hs;exact hx
theorem w0z (i:Nat)(hi:i < l.length)(hM:Mn l .post i≤n+1):y3t l n p i≠ .out:=by
 simp only [Mn,lvl]at hM
 refine x0z (hp.ne _ _ hi (by simp only [Mn,lvl];omega)) fun e k h1=> ?_
 have hk:=hp.pos _ _ _ _ hi h1
 refine y2x (fun x:Ex × Nat=>i < x.2∧x.2 < l.length) (fun x=>l.length - x.2) (fun x y hx hs=> ?_) (fun x hx hs=> ?_) n (e,k) hk (by simp only;omega)
 ·obtain⟨e2,i2⟩:=x
  obtain⟨hx1,hx2⟩:=hx
  simp only at hx1 hx2
  rw[y2l]at hs
  split at hs
  ·rename_i ht
   split at hs
   ·rename_i a j3 h3
    cases hs
    obtain⟨a2,k2,h4,h5⟩:=x0d h3
    obtain⟨u,k3,h6,h7⟩:=x0d h5
    cases h7
    have q1:=hp.pos _ _ _ _ (hl.next hx2 (x0t ht)) h4
    have q2:=x1t hl hp q1.2 h6
    simp only;omega
   ·cases hs
   ·cases hs
  ·split at hs
   ·rename_i ht
    split at hs
    ·rename_i w j3 h3
     cases hs
     have:=x9w hl (hl.next hx2 (x0t ht)) h3
     have:=y6a hl hp h3
     simp only;omega
    ·cases hs
    ·cases hs
   ·cases hs
 ·obtain⟨e2,i2⟩:=x
  obtain⟨hx1,hx2⟩:=hx
  simp only at hx1 hx2
  rw[y2l]at hs
  split at hs
  ·rename_i ht
   split at hs
   ·cases hs
   ·cases hs
   ·rename_i h3
    exact absurd h3 (x0z (hp.ne .arrow _ (hl.next hx2 (x0t ht)) (by simp only [Mn,lvl];omega)) (fun _ _ _=>x0z (fun e=>x1h e) fun _ _ _=>nofun))
  ·split at hs
   ·split at hs
    ·cases hs
    ·cases hs
    ·rename_i h3;exact z2m hl hp _ h3
   ·cases hs
theorem z3e (en:ByteArray)(i:Nat)(e:List Ex)(j:Nat)(hi:i < l.length)(h:y0q l n p en i= .ok e j):i < j∧j < l.length:=by
 unfold y0q at h
 obtain⟨e1,k,h1,h⟩:=x0d h
 have hk:=hp.pos _ _ _ _ hi h1
 refine x4u (fun x:List Ex × Nat=>i < x.2∧x.2 < l.length) (fun _ j=>i < j∧j < l.length) (fun x y hx hs=> ?_) (fun x r j hx hs=> ?_) n ([e1],k) e j hk h
 ·obtain⟨e2,i2⟩:=x
  obtain⟨hx1,hx2⟩:=hx
  simp only at hx1 hx2
  rw[x7y]at hs
  split at hs
  ·rename_i ht
   split at hs
   ·rename_i a j3 h3
    cases hs
    have q1:=hp.pos _ _ _ _ (hl.next hx2 (x0t ht)) h3
    simp only;omega
   ·cases hs
   ·cases hs
  ·cases hs
 ·obtain⟨e2,i2⟩:=x
  obtain⟨hx1,hx2⟩:=hx
  simp only at hx1 hx2
  rw[x7y]at hs
  split at hs
  ·split at hs<;>cases hs
  ·have hs:=Sum.inr.inj hs
   obtain⟨u,k3,h6,h7⟩:=x0d hs
   cases h7
   have q2:=x1t hl hp hx2 h6
   omega
theorem u9n (en:ByteArray)(i:Nat)(hi:i < l.length)(hM:20*(l.length - i)+10≤n):y0q l n p en i≠ .out:=by
 refine x0z (hp.ne _ _ hi (by simp only [Mn,lvl];omega)) fun e k h1=> ?_
 have hk:=hp.pos _ _ _ _ hi h1
 refine y2x (fun x:List Ex × Nat=>i < x.2∧x.2 < l.length) (fun x=>l.length - x.2) (fun x y hx hs=> ?_) (fun x hx hs=> ?_) n ([e],k) hk (by simp only;omega)
 ·obtain⟨e2,i2⟩:=x
  obtain⟨hx1,hx2⟩:=hx
  simp only at hx1 hx2
  rw[x7y]at hs
  split at hs
  ·rename_i ht
   split at hs
   ·rename_i a j3 h3
    cases hs
    have q1:=hp.pos _ _ _ _ (hl.next hx2 (x0t ht)) h3
    simp only;omega
   ·cases hs
   ·cases hs
  ·cases hs
 ·obtain⟨e2,i2⟩:=x
  obtain⟨hx1,hx2⟩:=hx
  simp only at hx1 hx2
  rw[x7y]at hs
  split at hs
  ·rename_i ht
   split at hs
   ·cases hs
   ·cases hs
   ·rename_i h3
    exact hp.ne _ _ (hl.next hx2 (x0t ht)) (by simp only [Mn,lvl];omega) h3
  ·exact absurd (Sum.inr.inj hs) (x0z (fun e=>x1h e) (fun _ _ _=>nofun))
theorem u8i (i:Nat)(e:Ex)(j:Nat)(hi:i < l.length)(h:x7p l p i= .ok e j):i < j∧j < l.length:=by
 unfold x7p at h
 obtain⟨e1,k,h1,h⟩:=x0d h
 have hk:=hp.pos _ _ _ _ hi h1
 split at h
 ·rename_i ht
  have hk1:=hl.next hk.2 (x0t ht)
  obtain⟨_,k2,h2,h⟩:=x0d h
  have q2:=x1t hl hp hk1 h2
  obtain⟨_,k3,h3,h⟩:=x0d h
  have q3:=hp.pos _ _ _ _ q2.2 h3
  obtain⟨_,k4,h4,h⟩:=x0d h
  have q4:=x1t hl hp q3.2 h4
  obtain⟨_,k5,h5,h⟩:=x0d h
  have q5:=hp.pos _ _ _ _ q4.2 h5
  obtain⟨_,k6,h6,h⟩:=x0d h
  have q6:=x1t hl hp q5.2 h6
  cases h;omega
 ·obtain⟨_,k2,h2,h⟩:=x0d h
  have q2:=x1t hl hp hk.2 h2
  cases h;omega
theorem v3z (i:Nat)(hi:i < l.length)(hM:20*(l.length - i)+10≤n):x7p l p i≠ .out:=by
 refine x0z (hp.ne _ _ hi (by simp only [Mn,lvl];omega)) fun e k h1=> ?_
 have hk:=hp.pos _ _ _ _ hi h1
 split
 ·rename_i ht
  have hk1:=hl.next hk.2 (x0t ht)
  refine x0z (fun e=>x1h e) fun _ k2 h2=> ?_
  have q2:=x1t hl hp hk1 h2
  refine x0z (hp.ne _ _ q2.2 (by simp only [Mn,lvl];omega)) fun _ k3 h3=> ?_
  have q3:=hp.pos _ _ _ _ q2.2 h3
  refine x0z (fun e=>x1h e) fun _ k4 h4=> ?_
  have q4:=x1t hl hp q3.2 h4
  refine x0z (hp.ne _ _ q4.2 (by simp only [Mn,lvl];omega)) fun _ k5 h5=> ?_
  exact x0z (fun e=>x1h e) fun _ _ _=>nofun
 ·exact x0z (fun e=>x1h e) fun _ _ _=>nofun
theorem u6h (i:Nat)(e:Ex)(j:Nat)(hi:i < l.length)(h:x7i l p i= .ok e j):i < j∧j < l.length:=by
 unfold x7i at h
 obtain⟨e1,k,h1,h⟩:=x0d h
 have hk:=hp.pos _ _ _ _ hi h1
 obtain⟨_,k2,h2,h⟩:=x0d h
 have q2:=x1t hl hp hk.2 h2
 obtain⟨_,k3,h3,h⟩:=x0d h
 have q3:=hp.pos _ _ _ _ q2.2 h3
 obtain⟨_,k4,h4,h⟩:=x0d h
 have q4:=x1t hl hp q3.2 h4
 obtain⟨_,k5,h5,h⟩:=x0d h
 have q5:=hp.pos _ _ _ _ q4.2 h5
 cases h;omega
theorem v1m (i:Nat)(hi:i < l.length)(hM:20*(l.length - i)+10≤n):x7i l p i≠ .out:=by
 refine x0z (hp.ne _ _ hi (by simp only [Mn,lvl];omega)) fun e k h1=> ?_
 have hk:=hp.pos _ _ _ _ hi h1
 refine x0z (fun e=>x1h e) fun _ k2 h2=> ?_
 have q2:=x1t hl hp hk.2 h2
 refine x0z (hp.ne _ _ q2.2 (by simp only [Mn,lvl];omega)) fun _ k3 h3=> ?_
 have q3:=hp.pos _ _ _ _ q2.2 h3
 refine x0z (fun e=>x1h e) fun _ k4 h4=> ?_
 have q4:=x1t hl hp q3.2 h4
 exact x0z (hp.ne _ _ q4.2 (by simp only [Mn,lvl];omega)) fun _ k5 h5=>nofun
theorem z6k {i j:Nat}{q:ByteArray × Ex}(hi:i < l.length)(h:((y3k l i).bind fun a j=>(x1f l [bs [45,62]] j).bind fun _ j=>(p .arrow j).bind fun e j=>(x1f l [bs [41]] j).bind fun _ j=> .ok (a,e) j:Rs (ByteArray × Ex))= .ok q j):i < j∧j < l.length:=by
 obtain⟨_,k,h1,h⟩:=x0d h
 have q1:=x9v hl hi h1
 have:=y1y h1
 obtain⟨_,k2,h2,h⟩:=x0d h
 have q2:=x1t hl hp q1 h2
 obtain⟨_,k3,h3,h⟩:=x0d h
 have q3:=hp.pos _ _ _ _ q2.2 h3
 obtain⟨_,k4,h4,h⟩:=x0d h
 have q4:=x1t hl hp q3.2 h4
 cases h;omega
theorem u9j (i:Nat)(e:Ex)(j:Nat)(hi:i < l.length)(h:x5z l n p i= .ok e j):i < j∧j < l.length:=by
 unfold x5z at h
 obtain⟨nm,k,h1,h⟩:=x0d h
 have hk:=y2r hl hp hi h1
 obtain⟨_,k2,h2,h⟩:=x0d h
 have q2:=x1t hl hp hk.2 h2
 obtain⟨q,k3,h3,h⟩:=x0d h
 cases h
 refine x4u (fun x:List ByteArray × List Ex × Nat × Bool=>i < x.2.2.1∧x.2.2.1 < l.length) (fun _ j=>i < j∧j < l.length) (fun x y hx hs=> ?_) (fun x r j hx hs=> ?_) n ([],[],k2,true) q j ⟨by simp only;omega,q2.2⟩ h3
 ·obtain⟨ar,es,i2,ag⟩:=x
  obtain⟨hx1,hx2⟩:=hx
  simp only at hx1 hx2
  cases ag with
  |false=>rw[x4j]at hs;cases hs
  |true=>
   rw[x4j]at hs
   split at hs
   ·rename_i a e3 j3 h4
    have q4:=z6k hl hp hx2 h4
    split at hs
    ·rename_i ht
     cases hs
     have:=hl.next q4.2 (x0t ht)
     simp only;omega
    ·cases hs;simp only;omega
   ·cases hs
   ·cases hs
 ·obtain⟨ar,es,i2,ag⟩:=x
  cases ag with
  |false=>rw[x4j]at hs;cases hs;exact hx
  |true=>
   rw[x4j]at hs
   split at hs
   ·split at hs<;>cases hs
   ·cases hs
   ·cases hs
theorem v5a (i:Nat)(hi:i < l.length)(hM:20*(l.length - i)+10≤n):x5z l n p i≠ .out:=by
 refine x0z (fun e=>x2t e) fun nm k h1=> ?_
 have hk:=y2r hl hp hi h1
 refine x0z (fun e=>x1h e) fun _ k2 h2=> ?_
 have q2:=x1t hl hp hk.2 h2
 refine x0z ?_ fun _ _ _=>nofun
 refine y2x (fun x:List ByteArray × List Ex × Nat × Bool=>i < x.2.2.1∧x.2.2.1 < l.length) (fun x=>2*(l.length - x.2.2.1)+(match x.2.2.2 with|true=>1|false=>0)) (fun x y hx hs=> ?_) (fun x hx hs=> ?_) n ([],[],k2,true) ⟨by simp only;omega,q2.2⟩ (by simp only;omega)
 ·obtain⟨ar,es,i2,ag⟩:=x
  obtain⟨hx1,hx2⟩:=hx
  simp only at hx1 hx2
  cases ag with
  |false=>rw[x4j]at hs;cases hs
  |true=>
   rw[x4j]at hs
   split at hs
   ·rename_i a e3 j3 h4
    have q4:=z6k hl hp hx2 h4
    split at hs
    ·rename_i ht
     cases hs
     have:=hl.next q4.2 (x0t ht)
     simp only;omega
    ·cases hs;simp only;omega
   ·cases hs
   ·cases hs
 ·obtain⟨ar,es,i2,ag⟩:=x
  obtain⟨hx1,hx2⟩:=hx
  simp only at hx1 hx2
  cases ag with
  |false=>rw[x4j]at hs;cases hs
  |true=>
   rw[x4j]at hs
   split at hs
   ·split at hs<;>cases hs
   ·cases hs
   ·rename_i h4
    refine absurd h4 (x0z (fun e=>y4n e) fun _ k1 h5=>x0z (fun e=>x1h e) fun _ k2 h6=> ?_)
    have a1:=x9v hl hx2 h5
    have a2:=y1y h5
    have a3:=x1t hl hp a1 h6
    exact x0z (hp.ne _ _ a3.2 (by simp only [Mn,lvl];omega)) fun _ _ _=>x0z (fun e=>x1h e) fun _ _ _=>nofun
theorem z8e (nm:ByteArray)(es:List Ex)(i:Nat)(e:Ex)(j:Nat)(hi:i < l.length)(h:y0s l p nm es i= .ok e j):i≤j∧j < l.length:=by
 unfold y0s at h
 split at h
 ·rename_i ht
  obtain⟨e1,k,h1,h⟩:=x0d h
  have hk:=hp.pos _ _ _ _ (hl.next hi (x0t ht)) h1
  cases h;omega
 ·cases h;omega
theorem u3x (nm:ByteArray)(es:List Ex)(i:Nat)(hi:i < l.length)(hM:20*(l.length - i)≤n+10):y0s l p nm es i≠ .out:=by
 unfold y0s
 split
 ·rename_i ht
  have:=hl.next hi (x0t ht)
  exact x0z (hp.ne _ _ this (by simp only [Mn,lvl];omega)) fun _ _ _=>nofun
 ·exact nofun
theorem v6d (nm:ByteArray)(i:Nat)(e:Ex)(j:Nat)(hi:i < l.length)(h:y3g l n p nm i= .ok e j):i < j∧j < l.length:=by
 unfold y3g at h
 split at h
 ·rename_i ht
  have:=z8e hl hp nm [] (i+1) e j (hl.next hi (x0t ht)) h
  omega
 ·obtain⟨es,k,h1,h⟩:=x0d h
  have q:=z3e hl hp _ _ _ _ hi h1
  have:=z8e hl hp nm es k e j q.2 h
  omega
theorem w5n (nm:ByteArray)(i:Nat)(hi:i < l.length)(hM:20*(l.length - i)+10≤n):y3g l n p nm i≠ .out:=by
 unfold y3g
 split
 ·rename_i ht
  exact u3x hl hp nm [] (i+1) (hl.next hi (x0t ht)) (by omega)
 ·refine x0z (u9n hl hp _ _ hi hM) fun es k h1=> ?_
  have q:=z3e hl hp _ _ _ _ hi h1
  exact u3x hl hp nm es k q.2 (by omega)
theorem v3l (i:Nat)(e:Ex)(j:Nat)(hi:i < l.length)(h:y2e l n p i= .ok e j):i < j∧j < l.length:=by
 unfold y2e at h
 split at h
 ·rename_i ht;cases h;exact⟨a1a _,hl.next hi (x0t ht)⟩
 split at h
 ·rename_i ht;cases h;exact⟨a1a _,hl.next hi (x0t ht)⟩
 split at h
 ·rename_i ht
  obtain⟨es,k,h1,h⟩:=x0d h
  cases h
  have:=z3e hl hp _ _ _ _ (hl.next hi (x0t ht)) h1
  omega
 split at h
 ·rename_i ht;have:=u8i hl hp _ _ _ (hl.next hi (x0t ht)) h;omega
 split at h
 ·rename_i ht;have:=u9j hl hp _ _ _ (hl.next hi (x0t ht)) h;omega
 split at h
 ·rename_i ht;have:=u6h hl hp _ _ _ (hl.next hi (x0t ht)) h;omega
 obtain⟨nm,k,h1,h⟩:=x0d h
 have hk:=y2r hl hp hi h1
 split at h
 ·rename_i ht;have:=v6d hl hp _ _ _ _ (hl.next hk.2 (x0t ht)) h;omega
 ·cases h;exact hk
theorem v9s (i:Nat)(hi:i < l.length)(hM:20*(l.length - i)≤n):y2e l n p i≠ .out:=by
 unfold y2e
 split
 ·exact nofun
 split
 ·exact nofun
 split
 ·rename_i ht
  have:=hl.next hi (x0t ht)
  exact x0z (u9n hl hp _ _ this (by omega)) fun _ _ _=>nofun
 split
 ·rename_i ht;have:=hl.next hi (x0t ht);exact v3z hl hp _ this (by omega)
 split
 ·rename_i ht;have:=hl.next hi (x0t ht);exact v5a hl hp _ this (by omega)
 split
 ·rename_i ht;have:=hl.next hi (x0t ht);exact v1m hl hp _ this (by omega)
 refine x0z (fun e=>x2t e) fun nm k h1=> ?_
 have hk:=y2r hl hp hi h1
 split
 ·rename_i ht;have:=hl.next hk.2 (x0t ht);exact w5n hl hp _ _ this (by omega)
 ·exact nofun
theorem y2g (nt:Nt)(i:Nat)(e:Ex)(j:Nat)(hi:i < l.length)(h:ntS l n p nt i= .ok e j):i < j∧j < l.length:=by
 cases nt with
 |or=>exact y6l hl hp _ _ _ _ _ _ hi h
 |and=>exact y6l hl hp _ _ _ _ _ _ hi h
 |sum=>exact y6l hl hp _ _ _ _ _ _ hi h
 |prod=>exact y6l hl hp _ _ _ _ _ _ hi h
 |post=>exact v4i hl hp _ _ _ hi h
 |arrow=>
  rw[ntS,x9u]at h
  obtain⟨e1,k,h1,h⟩:=x0d h
  have hk:=hp.pos _ _ _ _ hi h1
  split at h
  ·rename_i ht
   obtain⟨e2,k2,h2,h⟩:=x0d h
   have:=hp.pos _ _ _ _ (hl.next hk.2 (x0t ht)) h2
   cases h;omega
  ·cases h;exact hk
 |fby=>
  rw[ntS,v0x]at h
  obtain⟨e1,k,h1,h⟩:=x0d h
  have hk:=hp.pos _ _ _ _ hi h1
  split at h
  ·rename_i ht
   obtain⟨e2,k2,h2,h⟩:=x0d h
   have:=hp.pos _ _ _ _ (hl.next hk.2 (x0t ht)) h2
   cases h;omega
  ·cases h;exact hk
 |cmp=>
  rw[ntS,v1l]at h
  obtain⟨e1,k,h1,h⟩:=x0d h
  have hk:=hp.pos _ _ _ _ hi h1
  split at h
  ·cases h;exact hk
  ·rename_i o ho
   obtain⟨e2,k2,h2,h⟩:=x0d h
   have:=hp.pos _ _ _ _ (hl.next hk.2 (x2k ho).1) h2
   cases h;omega
 |un=>
  rw[ntS,unS]at h
  split at h
  ·rename_i ht
   obtain⟨e2,k2,h2,h⟩:=x0d h
   have:=hp.pos _ _ _ _ (hl.next hi (x0t ht)) h2
   cases h;omega
  split at h
  ·rename_i ht
   obtain⟨e2,k2,h2,h⟩:=x0d h
   have:=hp.pos _ _ _ _ (hl.next hi (x0t ht)) h2
   cases h;omega
  split at h
  ·rename_i ht
   obtain⟨e2,k2,h2,h⟩:=x0d h
   have:=hp.pos _ _ _ _ (hl.next hi (x0t ht)) h2
   cases h;omega
  ·exact hp.pos _ _ _ _ hi h
 |atom=>
  rw[ntS,y4m]at h
  split at h
  ·rename_i hk;have hk:=a0c hk;cases h;exact⟨a1a _,hl.next hi (by omega)⟩
  split at h
  ·rename_i hk;have hk:=a0c hk;cases h;exact⟨a1a _,hl.next hi (by omega)⟩
  split at h
  ·rename_i hk;have hk:=a0c hk;cases h;exact⟨a1a _,hl.next hi (by omega)⟩
  exact v3l hl hp _ _ _ hi h
theorem w0e (nt:Nt)(i:Nat)(hi:i < l.length)(hM:Mn l nt i≤n+1):ntS l n p nt i≠ .out:=by
 cases nt with
 |or=>exact z3g hl hp .and .or (by decide) (by decide) _ _ _ hi hM
 |and=>exact z3g hl hp .cmp .and (by decide) (by decide) _ _ _ hi hM
 |sum=>exact z3g hl hp .prod .sum (by decide) (by decide) _ _ _ hi hM
 |prod=>exact z3g hl hp .un .prod (by decide) (by decide) _ _ _ hi hM
 |post=>exact w0z hl hp _ hi hM
 |arrow=>
  rw[ntS,x9u]
  simp only [Mn,lvl]at hM
  refine x0z (hp.ne _ _ hi (by simp only [Mn,lvl];omega)) fun e k h1=> ?_
  have hk:=hp.pos _ _ _ _ hi h1
  split
  ·rename_i ht
   have:=hl.next hk.2 (x0t ht)
   exact x0z (hp.ne _ _ this (by simp only [Mn,lvl];omega)) fun _ _ _=>nofun
  ·exact nofun
 |fby=>
  rw[ntS,v0x]
  simp only [Mn,lvl]at hM
  refine x0z (hp.ne _ _ hi (by simp only [Mn,lvl];omega)) fun e k h1=> ?_
  have hk:=hp.pos _ _ _ _ hi h1
  split
  ·rename_i ht
   have:=hl.next hk.2 (x0t ht)
   exact x0z (hp.ne _ _ this (by simp only [Mn,lvl];omega)) fun _ _ _=>nofun
  ·exact nofun
 |cmp=>
  rw[ntS,v1l]
  simp only [Mn,lvl]at hM
  refine x0z (hp.ne _ _ hi (by simp only [Mn,lvl];omega)) fun e k h1=> ?_
  have hk:=hp.pos _ _ _ _ hi h1
  split
  ·exact nofun
  ·rename_i o ho
   have:=hl.next hk.2 (x2k ho).1
   exact x0z (hp.ne _ _ this (by simp only [Mn,lvl];omega)) fun _ _ _=>nofun
 |un=>
  rw[ntS,unS]
  simp only [Mn,lvl]at hM
  split
  ·rename_i ht
   have:=hl.next hi (x0t ht)
   exact x0z (hp.ne _ _ this (by simp only [Mn,lvl];omega)) fun _ _ _=>nofun
  split
  ·rename_i ht
   have:=hl.next hi (x0t ht)
   exact x0z (hp.ne _ _ this (by simp only [Mn,lvl];omega)) fun _ _ _=>nofun
  split
  ·rename_i ht
   have:=hl.next hi (x0t ht)
   exact x0z (hp.ne _ _ this (by simp only [Mn,lvl];omega)) fun _ _ _=>nofun
  ·exact hp.ne _ _ hi (by simp only [Mn,lvl];omega)
 |atom=>
  rw[ntS,y4m]
  simp only [Mn,lvl]at hM
  split
  ·exact nofun
  split
  ·exact nofun
  split
  ·exact nofun
  exact v9s hl hp _ hi (by omega)
end
theorem x6y {l:List Tk}(hl:LOK l): ∀n,HQ l n (prs l n)
 |0=>⟨fun nt i e j hi h=>(by cases h),fun nt i hi h=>(by cases nt<;>simp only [Mn,lvl]at h<;>omega)⟩
 |n+1=>⟨fun nt i e j hi h=>y2g hl (x6y hl n) nt i e j hi h,fun nt i hi h=>w0e hl (x6y hl n) nt i hi h⟩
theorem v8i {l:List Tk}(hl:LOK l): ∀n,HP l (prs l n)
 |0=>⟨fun nt i hi h=>(h rfl).elim,fun nt i e j hi h=>(by cases h),fun nt i e j hi h=>(by cases h)⟩
 |n+1=>by
  have ih:=v8i hl n
  refine⟨fun nt i hi h=> ?_,fun nt i e j hi h=>(y2g hl (x6y hl n) nt i e j hi h).2,fun nt i e j hi h=>(y2g hl (x6y hl n) nt i e j hi h).1⟩
  cases nt with
  |arrow=>exact v7n hl ih i hi h
  |fby=>exact q4y hl ih i hi h
  |or=>exact q8z hl ih i hi h
  |and=>exact q5a hl ih i hi h
  |cmp=>exact q4z hl ih i hi h
  |sum=>exact q4x hl ih i hi h
  |prod=>exact w8o hl ih i hi h
  |un=>exact q8y hl ih i hi h
  |post=>exact w8p hl ih i hi h
  |atom=>exact w8r hl ih i hi h
def x5u (l:List Tk):Nat:=20*l.length+10
def y5m (l:List Tk)(i:Nat):Rs Ex:=prs l (x5u l) .arrow i
theorem y2k {l:List Tk}(hl:LOK l)(i:Nat)(hi:i < l.length):y5m l i≠ .out:=(x6y hl (x5u l)).ne .arrow i hi (by simp only [Mn,lvl,x5u];omega)
theorem v6r {l:List Tk}(hl:LOK l)(i:Nat)(hi:i < l.length):cF 1000228 (kP 285 (x0a l) (i:Int))=some (x5y Ex.row l (y5m l i)):=(v8i hl (x5u l)).c .arrow i hi (y2k hl i hi)
end Go.Vm
end

section
set_option maxRecDepth 1000000
set_option maxHeartbeats 0
namespace Go.Vm
open Go.Proofs
noncomputable section
variable (A : Sy) (E : Env)
def w9m (toks:LL)(at_:Int)(bad:Bool):Option PRes:=bif bad then vL [nI 0,nI 0, .str (bs []),nI 0, .sl 1 [], .sl 6 [], .sl 4 toks,nI at_, .bool bad] else zC E 1000181 (rP toks at_ bad) fun p1=>oE A p1.leaves 0 fun n3 n4 s5 n6 l7 l8=>oR A p1.leaves 6 fun l9 n10 b11=>zC E 1000019 (rS (bs [45,62]) l9 n10 b11) fun p12=>yB A p12 0 fun b14=>oR A p12.leaves 1 fun l15 n16 b17=>bif b14 then zC E 1000150 (rP l15 n16 b17) fun p18=>oE A p18.leaves 0 fun n20 n21 s22 n23 l24 l25=>oR A p18.leaves 6 fun l26 n27 b28=>vL [nI 9,nI 0, .str (bs []),nI 0, .sl 1 [], .sl 6 [[nI n3,nI n4, .str s5,nI n6, .sl 1 l7, .sl 6 l8],[nI n20,nI n21, .str s22,nI n23, .sl 1 l24, .sl 6 l25]], .sl 4 l26,nI n27, .bool b28] else vL [nI n3,nI n4, .str s5,nI n6, .sl 1 l7, .sl 6 l8, .sl 4 l15,nI n16, .bool b17]
theorem u1n (toks:LL)(at_:Int)(bad:Bool):(x3f A Tryz.prog cs 150 0 [.ptr 0 0] [.cells (.ty 61) [.d (.sl 4 toks), .d (.int .i64 at_), .d (.bool bad)]]).run E=w9m A E toks at_ bad:=by kernel_rfl
def w9o (toks:LL)(at_:Int)(bad:Bool):Option PRes:=zC E 1000019 (rS (bs [110,111,116]) toks at_ bad) fun p1=>yB A p1 0 fun b3=>oR A p1.leaves 1 fun l4 n5 b6=>bif b3 then zC E 1000058 (rP l4 n5 b6) fun p7=>yS A p7 0 fun s9=>oR A p7.leaves 1 fun l10 n11 b12=>vL [.str s9, .str (bs [102,97,108,115,101]), .sl 4 l10,nI n11, .bool b12] else iT (A.inr n5 (A.rlen l4)) <| oT A (A.row l4 n5) 0 fun n13 s14 n15 n16=>bif (A.ieq n13 2)then zC E 1000149 (rP l4 n5 b6) fun p17=>yS A p17 0 fun s19=>oR A p17.leaves 1 fun l20 n21 b22=>zC E 1000059 (rS (bs [40]) l20 n21 b22) fun p23=>oR A p23.leaves 0 fun l25 n26 b27=>zC E 1000058 (rP l25 n26 b27) fun p28=>yS A p28 0 fun s30=>oR A p28.leaves 1 fun l31 n32 b33=>zC E 1000059 (rS (bs [41]) l31 n32 b33) fun p34=>oR A p34.leaves 0 fun l36 n37 b38=>vL [.str s30, .str s19, .sl 4 l36,nI n37, .bool b38] else iT (A.inr n5 (A.rlen l4)) <| oT A (A.row l4 n5) 0 fun n39 s40 n41 n42=>x0q (bif (A.bnot b6)then vB (A.seq s40 (bs [116,114,117,101])) else vB false) fun ds43=>zB A ds43 0 fun b44=>x0q (bif b44 then bif (A.ieq n39 1)then vB true else vB (A.ieq n39 5) else vB false) fun ds45=>zB A ds45 0 fun b46=>bif b46 then zC E 1000149 (rP l4 n5 b6) fun p47=>yS A p47 0 fun s49=>oR A p47.leaves 1 fun l50 n51 b52=>zC E 1000059 (rS (bs [40]) l50 n51 b52) fun p53=>oR A p53.leaves 0 fun l55 n56 b57=>zC E 1000058 (rP l55 n56 b57) fun p58=>yS A p58 0 fun s60=>oR A p58.leaves 1 fun l61 n62 b63=>zC E 1000059 (rS (bs [41]) l61 n62 b63) fun p64=>oR A p64.leaves 0 fun l66 n67 b68=>vL [.str s60, .str s49, .sl 4 l66,nI n67, .bool b68] else iT (A.inr n5 (A.rlen l4)) <| oT A (A.row l4 n5) 0 fun n69 s70 n71 n72=>x0q (bif (A.bnot b6)then vB (A.seq s70 (bs [102,97,108,115,101])) else vB false) fun ds73=>zB A ds73 0 fun b74=>x0q (bif b74 then bif (A.ieq n69 1)then vB true else vB (A.ieq n69 5) else vB false) fun ds75=>zB A ds75 0 fun b76=>bif b76 then zC E 1000149 (rP l4 n5 b6) fun p77=>yS A p77 0 fun s79=>oR A p77.leaves 1 fun l80 n81 b82=>zC E 1000059 (rS (bs [40]) l80 n81 b82) fun p83=>oR A p83.leaves 0 fun l85 n86 b87=>zC E 1000058 (rP l85 n86 b87) fun p88=>yS A p88 0 fun s90=>oR A p88.leaves 1 fun l91 n92 b93=>zC E 1000059 (rS (bs [41]) l91 n92 b93) fun p94=>oR A p94.leaves 0 fun l96 n97 b98=>vL [.str s90, .str s79, .sl 4 l96,nI n97, .bool b98] else zC E 1000058 (rP l4 n5 b6) fun p99=>yS A p99 0 fun s101=>oR A p99.leaves 1 fun l102 n103 b104=>vL [.str s101, .str (bs [116,114,117,101]), .sl 4 l102,nI n103, .bool b104]
theorem w8i (toks:LL)(at_:Int)(bad:Bool):(x3f A Tryz.prog cs 111 0 [.ptr 0 0] [.cells (.ty 61) [.d (.sl 4 toks), .d (.int .i64 at_), .d (.bool bad)]]).run E=w9o A E toks at_ bad:=by kernel_rfl
def q8v (toks:LL)(at_:Int)(bad:Bool):Option PRes:=zC E 1000211 (rP toks at_ bad) fun p1=>oE A p1.leaves 0 fun n3 n4 s5 n6 l7 l8=>oR A p1.leaves 6 fun l9 n10 b11=>zC E 1000019 (rS (bs [102,98,121]) l9 n10 b11) fun p12=>yB A p12 0 fun b14=>oR A p12.leaves 1 fun l15 n16 b17=>bif b14 then zC E 1000181 (rP l15 n16 b17) fun p18=>oE A p18.leaves 0 fun n20 n21 s22 n23 l24 l25=>oR A p18.leaves 6 fun l26 n27 b28=>vL [nI 8,nI 0, .str (bs []),nI 0, .sl 1 [], .sl 6 [[nI n3,nI n4, .str s5,nI n6, .sl 1 l7, .sl 6 l8],[nI n20,nI n21, .str s22,nI n23, .sl 1 l24, .sl 6 l25]], .sl 4 l26,nI n27, .bool b28] else vL [nI n3,nI n4, .str s5,nI n6, .sl 1 l7, .sl 6 l8, .sl 4 l15,nI n16, .bool b17]
theorem v2y (toks:LL)(at_:Int)(bad:Bool):(x3f A Tryz.prog cs 181 0 [.ptr 0 0] [.cells (.ty 61) [.d (.sl 4 toks), .d (.int .i64 at_), .d (.bool bad)]]).run E=q8v A E toks at_ bad:=by kernel_rfl
def b58 (toks:LL)(at_:Int)(bad:Bool):Option PRes:=iT (A.inr at_ (A.rlen toks)) <| oT A (A.row toks at_) 0 fun n1 s2 n3 n4=>x0q (bif bad then vB true else vB (A.bnot (A.ieq n1 1))) fun ds5=>zB A ds5 0 fun b6=>x0q (bif b6 then vB true else zC E 108 [.d (.str s2)] fun p7=>yB A p7 0 fun b9=>vB b9) fun ds10=>zB A ds10 0 fun b11=>bif b11 then vL [.str (bs []), .sl 4 toks,nI at_, .bool true] else vL [.str s2, .sl 4 toks,nI (zW A (A.add at_ 1)), .bool bad]
theorem v9i (toks:LL)(at_:Int)(bad:Bool):(x3f A Tryz.prog cs 58 0 [.ptr 0 0] [.cells (.ty 61) [.d (.sl 4 toks), .d (.int .i64 at_), .d (.bool bad)]]).run E=b58 A E toks at_ bad:=by kernel_rfl
def q5w (toks:LL)(at_:Int)(bad:Bool):Option PRes:=zC E 1000019 (rS (bs [116,114,117,101]) toks at_ bad) fun p1=>yB A p1 0 fun b3=>oR A p1.leaves 1 fun l4 n5 b6=>bif b3 then vL [.str (bs [116,114,117,101]), .sl 4 l4,nI n5, .bool b6] else zC E 1000019 (rS (bs [102,97,108,115,101]) l4 n5 b6) fun p7=>yB A p7 0 fun b9=>oR A p7.leaves 1 fun l10 n11 b12=>bif b9 then vL [.str (bs [102,97,108,115,101]), .sl 4 l10,nI n11, .bool b12] else iT (A.inr n11 (A.rlen l10)) <| oT A (A.row l10 n11) 0 fun n13 s14 n15 n16=>x0q (bif b12 then vB true else vB (A.bnot (A.ieq n13 2))) fun ds17=>zB A ds17 0 fun b18=>bif b18 then vL [.str (bs []), .sl 4 l10,nI n11, .bool true] else vL [.str s14, .sl 4 l10,nI (zW A (A.add n11 1)), .bool b12]
theorem w8h (toks:LL)(at_:Int)(bad:Bool):(x3f A Tryz.prog cs 149 0 [.ptr 0 0] [.cells (.ty 61) [.d (.sl 4 toks), .d (.int .i64 at_), .d (.bool bad)]]).run E=q5w A E toks at_ bad:=by kernel_rfl
def k4b (toks:LL)(at_:Int)(bad:Bool):Option PRes:=zC E 1000234 (rP toks at_ bad) fun p1=>oE A p1.leaves 0 fun n3 n4 s5 n6 l7 l8=>oR A p1.leaves 6 fun l9 n10 b11=>E.lp (fun ds12=>oR A ds12 0 fun l13 n14 b15=>zI A ds12 3 fun n16=>oT A ds12 4 fun n17 s18 n19 n20=>zI A ds12 8 fun n21=>zS A ds12 9 fun s22=>zI A ds12 10 fun n23=>zL A ds12 11 1 fun l24=>zL A ds12 12 6 fun l25=>bif (A.bnot b15)then zC E 1000235 (rO [[nI 9],[nI 10]] [[.str (bs [111,114])],[.str (bs [120,111,114])]] l13 n14 b15) fun p26=>yI A p26 0 fun n28=>oR A p26.leaves 1 fun l29 n30 b31=>yL A p26 4 1 fun l32=>yL A p26 5 1 fun l33=>bif (A.ieq n28 0)then some (.inr (.val [nI n20,nI n21, .str s22,nI n23, .sl 1 l24, .sl 6 l25, .sl 4 l29,nI n30, .bool b31])) else zC E 1000234 (rP l29 n30 b31) fun p34=>oE A p34.leaves 0 fun n36 n37 s38 n39 l40 l41=>oR A p34.leaves 6 fun l42 n43 b44=>zC E 236 [.d (nI n28),kE n20 n21 s22 n23 l24 l25,kE n36 n37 s38 n39 l40 l41] fun p45=>oE A p45.leaves 0 fun n47 n48 s49 n50 l51 l52=>iL [.sl 4 l42,nI n43, .bool b44,nI n16,nI n17, .str s18,nI n19,nI n47,nI n48, .str s49,nI n50, .sl 1 l51, .sl 6 l52] else some (.inr (.val [nI n20,nI n21, .str s22,nI n23, .sl 1 l24, .sl 6 l25, .sl 4 l13,nI n14, .bool b15]))) [.sl 4 l9,nI n10, .bool b11,nI 0,nI 0, .str (bs []),nI 0,nI n3,nI n4, .str s5,nI n6, .sl 1 l7, .sl 6 l8]
theorem w8g (toks:LL)(at_:Int)(bad:Bool):(x3f A Tryz.prog cs 211 0 [.ptr 0 0] [.cells (.ty 61) [.d (.sl 4 toks), .d (.int .i64 at_), .d (.bool bad)]]).run E=k4b A E toks at_ bad:=by kernel_rfl
def k3z (toks:LL)(at_:Int)(bad:Bool):Option PRes:=zC E 1000245 (rP toks at_ bad) fun p1=>oE A p1.leaves 0 fun n3 n4 s5 n6 l7 l8=>oR A p1.leaves 6 fun l9 n10 b11=>E.lp (fun ds12=>oR A ds12 0 fun l13 n14 b15=>zI A ds12 3 fun n16=>oT A ds12 4 fun n17 s18 n19 n20=>zI A ds12 8 fun n21=>zS A ds12 9 fun s22=>zI A ds12 10 fun n23=>zL A ds12 11 1 fun l24=>zL A ds12 12 6 fun l25=>zC E 1000019 (rS (bs [97,110,100]) l13 n14 b15) fun p26=>yB A p26 0 fun b28=>oR A p26.leaves 1 fun l29 n30 b31=>bif b28 then zC E 1000245 (rP l29 n30 b31) fun p32=>oE A p32.leaves 0 fun n34 n35 s36 n37 l38 l39=>oR A p32.leaves 6 fun l40 n41 b42=>zC E 236 [.d (nI 8),kE n20 n21 s22 n23 l24 l25,kE n34 n35 s36 n37 l38 l39] fun p43=>oE A p43.leaves 0 fun n45 n46 s47 n48 l49 l50=>iL [.sl 4 l40,nI n41, .bool b42,nI n16,nI n17, .str s18,nI n19,nI n45,nI n46, .str s47,nI n48, .sl 1 l49, .sl 6 l50] else some (.inr (.val [nI n20,nI n21, .str s22,nI n23, .sl 1 l24, .sl 6 l25, .sl 4 l29,nI n30, .bool b31]))) [.sl 4 l9,nI n10, .bool b11,nI 0,nI 0, .str (bs []),nI 0,nI n3,nI n4, .str s5,nI n6, .sl 1 l7, .sl 6 l8]
theorem w8e (toks:LL)(at_:Int)(bad:Bool):(x3f A Tryz.prog cs 234 0 [.ptr 0 0] [.cells (.ty 61) [.d (.sl 4 toks), .d (.int .i64 at_), .d (.bool bad)]]).run E=k3z A E toks at_ bad:=by kernel_rfl
def q8u (toks:LL)(at_:Int)(bad:Bool):Option PRes:=zC E 1000254 (rP toks at_ bad) fun p1=>oE A p1.leaves 0 fun n3 n4 s5 n6 l7 l8=>oR A p1.leaves 6 fun l9 n10 b11=>zC E 1000235 (rO [[nI 11],[nI 12],[nI 13],[nI 14],[nI 15],[nI 16]] [[.str (bs [61])],[.str (bs [60,62])],[.str (bs [60])],[.str (bs [60,61])],[.str (bs [62])],[.str (bs [62,61])]] l9 n10 b11) fun p12=>yI A p12 0 fun n14=>oR A p12.leaves 1 fun l15 n16 b17=>yL A p12 4 1 fun l18=>yL A p12 5 1 fun l19=>bif (A.ilt 0 n14)then zC E 1000254 (rP l15 n16 b17) fun p20=>oE A p20.leaves 0 fun n22 n23 s24 n25 l26 l27=>oR A p20.leaves 6 fun l28 n29 b30=>zC E 236 [.d (nI n14),kE n3 n4 s5 n6 l7 l8,kE n22 n23 s24 n25 l26 l27] fun p31=>oE A p31.leaves 0 fun n33 n34 s35 n36 l37 l38=>vL [nI n33,nI n34, .str s35,nI n36, .sl 1 l37, .sl 6 l38, .sl 4 l28,nI n29, .bool b30] else vL [nI n3,nI n4, .str s5,nI n6, .sl 1 l7, .sl 6 l8, .sl 4 l15,nI n16, .bool b17]
theorem v2x (toks:LL)(at_:Int)(bad:Bool):(x3f A Tryz.prog cs 245 0 [.ptr 0 0] [.cells (.ty 61) [.d (.sl 4 toks), .d (.int .i64 at_), .d (.bool bad)]]).run E=q8u A E toks at_ bad:=by kernel_rfl
def k3p (toks:LL)(at_:Int)(bad:Bool):Option PRes:=zC E 1000263 (rP toks at_ bad) fun p1=>oE A p1.leaves 0 fun n3 n4 s5 n6 l7 l8=>oR A p1.leaves 6 fun l9 n10 b11=>E.lp (fun ds12=>oR A ds12 0 fun l13 n14 b15=>zI A ds12 3 fun n16=>oT A ds12 4 fun n17 s18 n19 n20=>zI A ds12 8 fun n21=>zS A ds12 9 fun s22=>zI A ds12 10 fun n23=>zL A ds12 11 1 fun l24=>zL A ds12 12 6 fun l25=>bif (A.bnot b15)then zC E 1000235 (rO [[nI 3],[nI 4]] [[.str (bs [43])],[.str (bs [45])]] l13 n14 b15) fun p26=>yI A p26 0 fun n28=>oR A p26.leaves 1 fun l29 n30 b31=>yL A p26 4 1 fun l32=>yL A p26 5 1 fun l33=>bif (A.ieq n28 0)then some (.inr (.val [nI n20,nI n21, .str s22,nI n23, .sl 1 l24, .sl 6 l25, .sl 4 l29,nI n30, .bool b31])) else zC E 1000263 (rP l29 n30 b31) fun p34=>oE A p34.leaves 0 fun n36 n37 s38 n39 l40 l41=>oR A p34.leaves 6 fun l42 n43 b44=>zC E 236 [.d (nI n28),kE n20 n21 s22 n23 l24 l25,kE n36 n37 s38 n39 l40 l41] fun p45=>oE A p45.leaves 0 fun n47 n48 s49 n50 l51 l52=>iL [.sl 4 l42,nI n43, .bool b44,nI n16,nI n17, .str s18,nI n19,nI n47,nI n48, .str s49,nI n50, .sl 1 l51, .sl 6 l52] else some (.inr (.val [nI n20,nI n21, .str s22,nI n23, .sl 1 l24, .sl 6 l25, .sl 4 l13,nI n14, .bool b15]))) [.sl 4 l9,nI n10, .bool b11,nI 0,nI 0, .str (bs []),nI 0,nI n3,nI n4, .str s5,nI n6, .sl 1 l7, .sl 6 l8]
theorem w7u (toks:LL)(at_:Int)(bad:Bool):(x3f A Tryz.prog cs 254 0 [.ptr 0 0] [.cells (.ty 61) [.d (.sl 4 toks), .d (.int .i64 at_), .d (.bool bad)]]).run E=k3p A E toks at_ bad:=by kernel_rfl
def k3n (toks:LL)(at_:Int)(bad:Bool):Option PRes:=zC E 1000272 (rP toks at_ bad) fun p1=>oE A p1.leaves 0 fun n3 n4 s5 n6 l7 l8=>oR A p1.leaves 6 fun l9 n10 b11=>E.lp (fun ds12=>oR A ds12 0 fun l13 n14 b15=>zI A ds12 3 fun n16=>oT A ds12 4 fun n17 s18 n19 n20=>zI A ds12 8 fun n21=>zS A ds12 9 fun s22=>zI A ds12 10 fun n23=>zL A ds12 11 1 fun l24=>zL A ds12 12 6 fun l25=>bif (A.bnot b15)then zC E 1000235 (rO [[nI 5],[nI 6],[nI 7]] [[.str (bs [42])],[.str (bs [47])],[.str (bs [109,111,100])]] l13 n14 b15) fun p26=>yI A p26 0 fun n28=>oR A p26.leaves 1 fun l29 n30 b31=>yL A p26 4 1 fun l32=>yL A p26 5 1 fun l33=>bif (A.ieq n28 0)then some (.inr (.val [nI n20,nI n21, .str s22,nI n23, .sl 1 l24, .sl 6 l25, .sl 4 l29,nI n30, .bool b31])) else zC E 1000272 (rP l29 n30 b31) fun p34=>oE A p34.leaves 0 fun n36 n37 s38 n39 l40 l41=>oR A p34.leaves 6 fun l42 n43 b44=>zC E 236 [.d (nI n28),kE n20 n21 s22 n23 l24 l25,kE n36 n37 s38 n39 l40 l41] fun p45=>oE A p45.leaves 0 fun n47 n48 s49 n50 l51 l52=>iL [.sl 4 l42,nI n43, .bool b44,nI n16,nI n17, .str s18,nI n19,nI n47,nI n48, .str s49,nI n50, .sl 1 l51, .sl 6 l52] else some (.inr (.val [nI n20,nI n21, .str s22,nI n23, .sl 1 l24, .sl 6 l25, .sl 4 l13,nI n14, .bool b15]))) [.sl 4 l9,nI n10, .bool b11,nI 0,nI 0, .str (bs []),nI 0,nI n3,nI n4, .str s5,nI n6, .sl 1 l7, .sl 6 l8]
theorem w7s (toks:LL)(at_:Int)(bad:Bool):(x3f A Tryz.prog cs 263 0 [.ptr 0 0] [.cells (.ty 61) [.d (.sl 4 toks), .d (.int .i64 at_), .d (.bool bad)]]).run E=k3n A E toks at_ bad:=by kernel_rfl
def k3k (toks:LL)(at_:Int)(bad:Bool):Option PRes:=zC E 1000019 (rS (bs [45]) toks at_ bad) fun p1=>yB A p1 0 fun b3=>oR A p1.leaves 1 fun l4 n5 b6=>bif b3 then zC E 1000272 (rP l4 n5 b6) fun p7=>oE A p7.leaves 0 fun n9 n10 s11 n12 l13 l14=>oR A p7.leaves 6 fun l15 n16 b17=>vL [nI 5,nI 0, .str (bs []),nI 1, .sl 1 [], .sl 6 [[nI n9,nI n10, .str s11,nI n12, .sl 1 l13, .sl 6 l14]], .sl 4 l15,nI n16, .bool b17] else zC E 1000019 (rS (bs [110,111,116]) l4 n5 b6) fun p18=>yB A p18 0 fun b20=>oR A p18.leaves 1 fun l21 n22 b23=>bif b20 then zC E 1000272 (rP l21 n22 b23) fun p24=>oE A p24.leaves 0 fun n26 n27 s28 n29 l30 l31=>oR A p24.leaves 6 fun l32 n33 b34=>vL [nI 5,nI 0, .str (bs []),nI 2, .sl 1 [], .sl 6 [[nI n26,nI n27, .str s28,nI n29, .sl 1 l30, .sl 6 l31]], .sl 4 l32,nI n33, .bool b34] else zC E 1000019 (rS (bs [112,114,101]) l21 n22 b23) fun p35=>yB A p35 0 fun b37=>oR A p35.leaves 1 fun l38 n39 b40=>bif b37 then zC E 1000272 (rP l38 n39 b40) fun p41=>oE A p41.leaves 0 fun n43 n44 s45 n46 l47 l48=>oR A p41.leaves 6 fun l49 n50 b51=>vL [nI 10,nI 0, .str (bs []),nI 0, .sl 1 [], .sl 6 [[nI n43,nI n44, .str s45,nI n46, .sl 1 l47, .sl 6 l48]], .sl 4 l49,nI n50, .bool b51] else zC E 1000277 (rP l38 n39 b40) fun p52=>oE A p52.leaves 0 fun n54 n55 s56 n57 l58 l59=>oR A p52.leaves 6 fun l60 n61 b62=>vL [nI n54,nI n55, .str s56,nI n57, .sl 1 l58, .sl 6 l59, .sl 4 l60,nI n61, .bool b62]
theorem w7p (toks:LL)(at_:Int)(bad:Bool):(x3f A Tryz.prog cs 272 0 [.ptr 0 0] [.cells (.ty 61) [.d (.sl 4 toks), .d (.int .i64 at_), .d (.bool bad)]]).run E=k3k A E toks at_ bad:=by kernel_rfl
def k3i (toks:LL)(at_:Int)(bad:Bool):Option PRes:=zC E 1000280 (rP toks at_ bad) fun p1=>oE A p1.leaves 0 fun n3 n4 s5 n6 l7 l8=>oR A p1.leaves 6 fun l9 n10 b11=>E.lp (fun ds12=>oR A ds12 0 fun l13 n14 b15=>zI A ds12 3 fun n16=>oT A ds12 4 fun n17 s18 n19 n20=>zI A ds12 8 fun n21=>zS A ds12 9 fun s22=>zI A ds12 10 fun n23=>zL A ds12 11 1 fun l24=>zL A ds12 12 6 fun l25=>bif (A.bnot b15)then zC E 1000019 (rS (bs [91]) l13 n14 b15) fun p26=>yB A p26 0 fun b28=>oR A p26.leaves 1 fun l29 n30 b31=>bif b28 then zC E 1000150 (rP l29 n30 b31) fun p32=>oE A p32.leaves 0 fun n34 n35 s36 n37 l38 l39=>oR A p32.leaves 6 fun l40 n41 b42=>zC E 1000059 (rS (bs [93]) l40 n41 b42) fun p43=>oR A p43.leaves 0 fun l45 n46 b47=>iL [.sl 4 l45,nI n46, .bool b47,nI n16,nI n17, .str s18,nI n19,nI 15,nI 0, .str (bs []),nI 0, .sl 1 [], .sl 6 [[nI n20,nI n21, .str s22,nI n23, .sl 1 l24, .sl 6 l25],[nI n34,nI n35, .str s36,nI n37, .sl 1 l38, .sl 6 l39]]] else zC E 1000019 (rS (bs [119,104,101,110]) l29 n30 b31) fun p48=>yB A p48 0 fun b50=>oR A p48.leaves 1 fun l51 n52 b53=>bif (A.bnot b50)then some (.inr (.val [nI n20,nI n21, .str s22,nI n23, .sl 1 l24, .sl 6 l25, .sl 4 l51,nI n52, .bool b53])) else zC E 1000111 (rP l51 n52 b53) fun p54=>yS A p54 0 fun s56=>yS A p54 1 fun s57=>oR A p54.leaves 2 fun l58 n59 b60=>iL [.sl 4 l58,nI n59, .bool b60,nI n16,nI n17, .str s18,nI n19,nI 11,nI 0, .str s56,nI 0, .sl 1 [[.str s57]], .sl 6 [[nI n20,nI n21, .str s22,nI n23, .sl 1 l24, .sl 6 l25]]] else some (.inr (.val [nI n20,nI n21, .str s22,nI n23, .sl 1 l24, .sl 6 l25, .sl 4 l13,nI n14, .bool b15]))) [.sl 4 l9,nI n10, .bool b11,nI 0,nI 0, .str (bs []),nI 0,nI n3,nI n4, .str s5,nI n6, .sl 1 l7, .sl 6 l8]
theorem w7n (toks:LL)(at_:Int)(bad:Bool):(x3f A Tryz.prog cs 277 0 [.ptr 0 0] [.cells (.ty 61) [.d (.sl 4 toks), .d (.int .i64 at_), .d (.bool bad)]]).run E=k3i A E toks at_ bad:=by kernel_rfl
def w7l (A:Sy)(E:Env)(toks:LL)(at_:Int)(bad:Bool):Option PRes:=bif bad then some (.val [(.int .i64 0),(.int .i64 0),(.str (bs [])),(.int .i64 0),(.sl 1 []),(.sl 6 []),(.sl 4 toks),(.int .i64 at_),(.bool bad)]) else (E.call 1000282 (rP toks at_ bad)).bind fun p1=>oE A p1.leaves 0 fun n3 n4 s5 n6 l7 l8=>(opB (A.cell p1.leaves 6)).bind fun b9=>oR A p1.leaves 7 fun l10 n11 b12=>bif b9 then some (.val [(.int .i64 n3),(.int .i64 n4),(.str s5),(.int .i64 n6),(.sl 1 l7),(.sl 6 l8),(.sl 4 l10),(.int .i64 n11),(.bool b12)]) else (E.call 1000019 (rS (bs [91]) l10 n11 b12)).bind fun p13=>(opB (A.cell p13.leaves 0)).bind fun b15=>oR A p13.leaves 1 fun l16 n17 b18=>bif b15 then (E.call 1000150 (rP l16 n17 b18)).bind fun p19=>oE A p19.leaves 0 fun n21 n22 s23 n24 l25 l26=>oR A p19.leaves 6 fun l27 n28 b29=>E.lp (fun ds30=>(opS (A.cell ds30 0)).bind fun s31=>oR A ds30 1 fun l32 n33 b34=>(opI (A.cell ds30 4) .i64).bind fun n35=>oT A ds30 5 fun n36 s37 n38 n39=>(opI (A.cell ds30 9) .i64).bind fun n40=>(opS (A.cell ds30 10)).bind fun s41=>(opI (A.cell ds30 11) .i64).bind fun n42=>(opL (A.cell ds30 12) 1).bind fun l43=>(opL (A.cell ds30 13) 6).bind fun l44=>(opL (A.cell ds30 14) 6).bind fun l45=>(E.call 1000019 (rS (bs [44]) l32 n33 b34)).bind fun p46=>(opB (A.cell p46.leaves 0)).bind fun b48=>oR A p46.leaves 1 fun l49 n50 b51=>bif b48 then (E.call 1000150 (rP l49 n50 b51)).bind fun p52=>oE A p52.leaves 0 fun n54 n55 s56 n57 l58 l59=>oR A p52.leaves 6 fun l60 n61 b62=>bif (A.fits l45 [[(.int .i64 n54),(.int .i64 n55),(.str s56),(.int .i64 n57),(.sl 1 l58),(.sl 6 l59)]] 88)then some (.inl [(.str s31),(.sl 4 l60),(.int .i64 n61),(.bool b62),(.int .i64 n35),(.int .i64 n36),(.str s37),(.int .i64 n38),(.int .i64 n39),(.int .i64 n40),(.str s41),(.int .i64 n42),(.sl 1 l43),(.sl 6 l44),(.sl 6 (A.rapp l45 [[(.int .i64 n54),(.int .i64 n55),(.str s56),(.int .i64 n57),(.sl 1 l58),(.sl 6 l59)]]))]) else none else (E.call 1000059 (rS s31 l49 n50 b51)).bind fun p63=>oR A p63.leaves 0 fun l65 n66 b67=>some (.inr (.val [(.int .i64 14),(.int .i64 0),(.str (bs [])),(.int .i64 0),(.sl 1 []),(.sl 6 l45),(.sl 4 l65),(.int .i64 n66),(.bool b67)]))) [(.str (bs [93])),(.sl 4 l27),(.int .i64 n28),(.bool b29),(.int .i64 0),(.int .i64 0),(.str (bs [])),(.int .i64 0),(.int .i64 n3),(.int .i64 n4),(.str s5),(.int .i64 n6),(.sl 1 l7),(.sl 6 l8),(.sl 6 [[(.int .i64 n21),(.int .i64 n22),(.str s23),(.int .i64 n24),(.sl 1 l25),(.sl 6 l26)]])] else (E.call 1000019 (rS (bs [40]) l16 n17 b18)).bind fun p68=>(opB (A.cell p68.leaves 0)).bind fun b70=>oR A p68.leaves 1 fun l71 n72 b73=>bif b70 then (E.call 1000284 (rP l71 n72 b73)).bind fun p74=>oE A p74.leaves 0 fun n76 n77 s78 n79 l80 l81=>oR A p74.leaves 6 fun l82 n83 b84=>some (.val [(.int .i64 n76),(.int .i64 n77),(.str s78),(.int .i64 n79),(.sl 1 l80),(.sl 6 l81),(.sl 4 l82),(.int .i64 n83),(.bool b84)]) else (E.call 1000019 (rS (bs [109,101,114,103,101]) l71 n72 b73)).bind fun p85=>(opB (A.cell p85.leaves 0)).bind fun b87=>oR A p85.leaves 1 fun l88 n89 b90=>bif b87 then (E.call 1000285 (rP l88 n89 b90)).bind fun p91=>oE A p91.leaves 0 fun n93 n94 s95 n96 l97 l98=>oR A p91.leaves 6 fun l99 n100 b101=>some (.val [(.int .i64 n93),(.int .i64 n94),(.str s95),(.int .i64 n96),(.sl 1 l97),(.sl 6 l98),(.sl 4 l99),(.int .i64 n100),(.bool b101)]) else (E.call 1000019 (rS (bs [105,102]) l88 n89 b90)).bind fun p102=>(opB (A.cell p102.leaves 0)).bind fun b104=>oR A p102.leaves 1 fun l105 n106 b107=>bif b104 then (E.call 1000150 (rP l105 n106 b107)).bind fun p108=>oE A p108.leaves 0 fun n110 n111 s112 n113 l114 l115=>oR A p108.leaves 6 fun l116 n117 b118=>(E.call 1000059 (rS (bs [116,104,101,110]) l116 n117 b118)).bind fun p119=>oR A p119.leaves 0 fun l121 n122 b123=>(E.call 1000150 (rP l121 n122 b123)).bind fun p124=>oE A p124.leaves 0 fun n126 n127 s128 n129 l130 l131=>oR A p124.leaves 6 fun l132 n133 b134=>(E.call 1000059 (rS (bs [101,108,115,101]) l132 n133 b134)).bind fun p135=>oR A p135.leaves 0 fun l137 n138 b139=>(E.call 1000150 (rP l137 n138 b139)).bind fun p140=>
 oE A p140.leaves 0 fun n142 n143 s144 n145 l146 l147=>oR A p140.leaves 6 fun l148 n149 w9m=>some (.val [(.int .i64 7),(.int .i64 0),(.str (bs [])),(.int .i64 0),(.sl 1 []),(.sl 6 [[(.int .i64 n110),(.int .i64 n111),(.str s112),(.int .i64 n113),(.sl 1 l114),(.sl 6 l115)],[(.int .i64 n126),(.int .i64 n127),(.str s128),(.int .i64 n129),(.sl 1 l130),(.sl 6 l131)],[(.int .i64 n142),(.int .i64 n143),(.str s144),(.int .i64 n145),(.sl 1 l146),(.sl 6 l147)]]),(.sl 4 l148),(.int .i64 n149),(.bool w9m)]) else (E.call 1000058 (rP l105 n106 b107)).bind fun p151=>(opS (A.cell p151.leaves 0)).bind fun s153=>oR A p151.leaves 1 fun l154 n155 b156=>(E.call 1000019 (rS (bs [40]) l154 n155 b156)).bind fun p157=>(opB (A.cell p157.leaves 0)).bind fun b159=>oR A p157.leaves 1 fun l160 n161 b162=>bif b159 then (E.call 1000286 (rS s153 l160 n161 b162)).bind fun p163=>oE A p163.leaves 0 fun n165 n166 s167 n168 l169 l170=>oR A p163.leaves 6 fun l171 n172 b173=>some (.val [(.int .i64 n165),(.int .i64 n166),(.str s167),(.int .i64 n168),(.sl 1 l169),(.sl 6 l170),(.sl 4 l171),(.int .i64 n172),(.bool b173)]) else some (.val [(.int .i64 3),(.int .i64 0),(.str s153),(.int .i64 0),(.sl 1 []),(.sl 6 []),(.sl 4 l160),(.int .i64 n161),(.bool b162)])
theorem w7k (toks:LL)(at_:Int)(bad:Bool):(x3f A Tryz.prog cs 280 0 [.ptr 0 0] [.cells (.ty 61) [.d (.sl 4 toks), .d (.int .i64 at_), .d (.bool bad)]]).run E=w7l A E toks at_ bad:=by kernel_rfl
def k3f (A:Sy)(E:Env)(toks:LL)(at_:Int)(bad:Bool):Option PRes:=iT (A.inr at_ (A.rlen toks)) <| oT A (A.row toks at_) 0 fun n1 s2 n3 n4=>bif (A.ieq n1 3)then vL [nI 1,nI n3, .str (bs []),nI 0, .sl 1 [], .sl 6 [], .bool true, .sl 4 toks,nI (zW A (A.add at_ 1)), .bool bad] else bif (A.ieq n1 2)then vL [nI 4,nI 0, .str s2,nI 0, .sl 1 [], .sl 6 [], .bool true, .sl 4 toks,nI (zW A (A.add at_ 1)), .bool bad] else bif (A.ieq n1 4)then vL [nI 17,nI 0, .str s2,nI 0, .sl 1 [], .sl 6 [], .bool true, .sl 4 toks,nI (zW A (A.add at_ 1)), .bool bad] else x0q (bif (A.ieq n1 1)then vB (A.seq s2 (bs [116,114,117,101])) else vB false) fun ds5=>zB A ds5 0 fun b6=>bif b6 then vL [nI 2,nI 1, .str (bs []),nI 0, .sl 1 [], .sl 6 [], .bool true, .sl 4 toks,nI (zW A (A.add at_ 1)), .bool bad] else x0q (bif (A.ieq n1 1)then vB (A.seq s2 (bs [102,97,108,115,101])) else vB false) fun ds7=>zB A ds7 0 fun b8=>bif b8 then vL [nI 2,nI 0, .str (bs []),nI 0, .sl 1 [], .sl 6 [], .bool true, .sl 4 toks,nI (zW A (A.add at_ 1)), .bool bad] else vL [nI 0,nI 0, .str (bs []),nI 0, .sl 1 [], .sl 6 [], .bool false, .sl 4 toks,nI at_, .bool bad]
theorem w7i (toks:LL)(at_:Int)(bad:Bool):(x3f A Tryz.prog cs 282 0 [.ptr 0 0] [.cells (.ty 61) [.d (.sl 4 toks), .d (.int .i64 at_), .d (.bool bad)]]).run E=k3f A E toks at_ bad:=by kernel_rfl
def q8t (A:Sy)(E:Env)(toks:LL)(at_:Int)(bad:Bool):Option PRes:=(E.call 1000150 (rP toks at_ bad)).bind fun p1=>oE A p1.leaves 0 fun n3 n4 s5 n6 l7 l8=>oR A p1.leaves 6 fun l9 n10 b11=>(E.call 1000019 (rS (bs [119,105,116,104]) l9 n10 b11)).bind fun p12=>(opB (A.cell p12.leaves 0)).bind fun b14=>oR A p12.leaves 1 fun l15 n16 b17=>bif b14 then (E.call 1000059 (rS (bs [91]) l15 n16 b17)).bind fun p18=>oR A p18.leaves 0 fun l20 n21 b22=>(E.call 1000150 (rP l20 n21 b22)).bind fun p23=>oE A p23.leaves 0 fun n25 n26 s27 n28 l29 l30=>oR A p23.leaves 6 fun l31 n32 b33=>(E.call 1000059 (rS (bs [93]) l31 n32 b33)).bind fun p34=>oR A p34.leaves 0 fun l36 n37 b38=>(E.call 1000059 (rS (bs [61]) l36 n37 b38)).bind fun p39=>oR A p39.leaves 0 fun l41 n42 b43=>(E.call 1000150 (rP l41 n42 b43)).bind fun p44=>oE A p44.leaves 0 fun n46 n47 s48 n49 l50 l51=>oR A p44.leaves 6 fun l52 n53 b54=>(E.call 1000059 (rS (bs [41]) l52 n53 b54)).bind fun p55=>oR A p55.leaves 0 fun l57 n58 b59=>some (.val [(.int .i64 16),(.int .i64 0),(.str (bs [])),(.int .i64 0),(.sl 1 []),(.sl 6 [[(.int .i64 n3),(.int .i64 n4),(.str s5),(.int .i64 n6),(.sl 1 l7),(.sl 6 l8)],[(.int .i64 n25),(.int .i64 n26),(.str s27),(.int .i64 n28),(.sl 1 l29),(.sl 6 l30)],[(.int .i64 n46),(.int .i64 n47),(.str s48),(.int .i64 n49),(.sl 1 l50),(.sl 6 l51)]]),(.sl 4 l57),(.int .i64 n58),(.bool b59)]) else (E.call 1000059 (rS (bs [41]) l15 n16 b17)).bind fun p60=>oR A p60.leaves 0 fun l62 n63 b64=>some (.val [(.int .i64 n3),(.int .i64 n4),(.str s5),(.int .i64 n6),(.sl 1 l7),(.sl 6 l8),(.sl 4 l62),(.int .i64 n63),(.bool b64)])
theorem w7h (toks:LL)(at_:Int)(bad:Bool):(x3f A Tryz.prog cs 284 0 [.ptr 0 0] [.cells (.ty 61) [.d (.sl 4 toks), .d (.int .i64 at_), .d (.bool bad)]]).run E=q8t A E toks at_ bad:=by kernel_rfl
def k3e (A:Sy)(E:Env)(toks:LL)(at_:Int)(bad:Bool):Option PRes:=(E.call 1000058 (rP toks at_ bad)).bind fun p1=>(opS (A.cell p1.leaves 0)).bind fun s3=>oR A p1.leaves 1 fun l4 n5 b6=>(E.call 1000059 (rS (bs [40]) l4 n5 b6)).bind fun p7=>oR A p7.leaves 0 fun l9 n10 b11=>E.lp (fun ds12=>oR A ds12 0 fun l13 n14 b15=>(opI (A.cell ds12 3) .i64).bind fun n16=>oT A ds12 4 fun n17 s18 n19 n20=>(opI (A.cell ds12 8) .i64).bind fun n21=>(opS (A.cell ds12 9)).bind fun s22=>(opI (A.cell ds12 10) .i64).bind fun n23=>(opL (A.cell ds12 11) 1).bind fun l24=>(opL (A.cell ds12 12) 6).bind fun l25=>bif (A.bnot b15)then (E.call 1000149 (rP l13 n14 b15)).bind fun p26=>(opS (A.cell p26.leaves 0)).bind fun s28=>oR A p26.leaves 1 fun l29 n30 b31=>bif (A.fits l24 [[(.str s28)]] 16)then (E.call 1000059 (rS (bs [45,62]) l29 n30 b31)).bind fun p32=>oR A p32.leaves 0 fun l34 n35 b36=>(E.call 1000150 (rP l34 n35 b36)).bind fun p37=>oE A p37.leaves 0 fun n39 n40 s41 n42 l43 l44=>oR A p37.leaves 6 fun l45 n46 b47=>bif (A.fits l25 [[(.int .i64 n39),(.int .i64 n40),(.str s41),(.int .i64 n42),(.sl 1 l43),(.sl 6 l44)]] 88)then (E.call 1000059 (rS (bs [41]) l45 n46 b47)).bind fun p48=>oR A p48.leaves 0 fun l50 n51 b52=>(E.call 1000019 (rS (bs [40]) l50 n51 b52)).bind fun p53=>(opB (A.cell p53.leaves 0)).bind fun b55=>oR A p53.leaves 1 fun l56 n57 b58=>bif (A.bnot b55)then some (.inr (.val [(.int .i64 n20),(.int .i64 n21),(.str s22),(.int .i64 n23),(.sl 1 (A.rapp l24 [[(.str s28)]])),(.sl 6 (A.rapp l25 [[(.int .i64 n39),(.int .i64 n40),(.str s41),(.int .i64 n42),(.sl 1 l43),(.sl 6 l44)]])),(.sl 4 l56),(.int .i64 n57),(.bool b58)])) else some (.inl [(.sl 4 l56),(.int .i64 n57),(.bool b58),(.int .i64 n16),(.int .i64 n17),(.str s18),(.int .i64 n19),(.int .i64 n20),(.int .i64 n21),(.str s22),(.int .i64 n23),(.sl 1 (A.rapp l24 [[(.str s28)]])),(.sl 6 (A.rapp l25 [[(.int .i64 n39),(.int .i64 n40),(.str s41),(.int .i64 n42),(.sl 1 l43),(.sl 6 l44)]]))]) else none else none else some (.inr (.val [(.int .i64 n20),(.int .i64 n21),(.str s22),(.int .i64 n23),(.sl 1 l24),(.sl 6 l25),(.sl 4 l13),(.int .i64 n14),(.bool b15)]))) [(.sl 4 l9),(.int .i64 n10),(.bool b11),(.int .i64 0),(.int .i64 0),(.str (bs [])),(.int .i64 0),(.int .i64 12),(.int .i64 0),(.str s3),(.int .i64 0),(.sl 1 []),(.sl 6 [])]
theorem w7g (toks:LL)(at_:Int)(bad:Bool):(x3f A Tryz.prog cs 285 0 [.ptr 0 0] [.cells (.ty 61) [.d (.sl 4 toks), .d (.int .i64 at_), .d (.bool bad)]]).run E=k3e A E toks at_ bad:=by kernel_rfl
def b19 (A:Sy)(E:Env)(toks:LL)(at_:Int)(bad:Bool)(s_:ByteArray):Option PRes:=iT (A.inr at_ (A.rlen toks)) <| oT A (A.row toks at_) 0 fun n1 s2 n3 n4=>x0q (bif (A.bnot bad)then vB (A.seq s2 s_) else vB false) fun ds5=>zB A ds5 0 fun b6=>x0q (bif b6 then bif (A.ieq n1 1)then vB true else vB (A.ieq n1 5) else vB false) fun ds7=>zB A ds7 0 fun b8=>bif b8 then vL [.bool true, .sl 4 toks,nI (zW A (A.add at_ 1)), .bool bad] else vL [.bool false, .sl 4 toks,nI at_, .bool bad]
theorem q4r (toks:LL)(at_:Int)(bad:Bool)(s_:ByteArray):(x3f A Tryz.prog cs 19 0 [.ptr 0 0, .d (.str s_)] [.cells (.ty 61) [.d (.sl 4 toks), .d (.int .i64 at_), .d (.bool bad)]]).run E=b19 A E toks at_ bad s_:=by kernel_rfl
def b59 (toks:LL)(at_:Int)(bad:Bool)(s_:ByteArray):Option PRes:=zC E 1000019 (rS s_ toks at_ bad) fun p1=>yB A p1 0 fun b3=>oR A p1.leaves 1 fun l4 n5 b6=>bif (A.bnot b3)then vL [.sl 4 l4,nI n5, .bool true] else vL [.sl 4 l4,nI n5, .bool b6]
theorem v9h (toks:LL)(at_:Int)(bad:Bool)(s_:ByteArray):(x3f A Tryz.prog cs 59 0 [.ptr 0 0, .d (.str s_)] [.cells (.ty 61) [.d (.sl 4 toks), .d (.int .i64 at_), .d (.bool bad)]]).run E=b59 A E toks at_ bad s_:=by kernel_rfl
def k3d (A:Sy)(E:Env)(toks:LL)(at_:Int)(bad:Bool)(s_:ByteArray):Option PRes:=(E.call 1000019 (rS (bs [41]) toks at_ bad)).bind fun p1=>(opB (A.cell p1.leaves 0)).bind fun b3=>oR A p1.leaves 1 fun l4 n5 b6=>bif (A.bnot b3)then (E.call 1000150 (rP l4 n5 b6)).bind fun p7=>oE A p7.leaves 0 fun n9 n10 s11 n12 l13 l14=>oR A p7.leaves 6 fun l15 n16 b17=>E.lp (fun ds18=>(opS (A.cell ds18 0)).bind fun s19=>oR A ds18 1 fun l20 n21 b22=>(opI (A.cell ds18 4) .i64).bind fun n23=>oT A ds18 5 fun n24 s25 n26 n27=>(opI (A.cell ds18 9) .i64).bind fun n28=>(opS (A.cell ds18 10)).bind fun s29=>(opI (A.cell ds18 11) .i64).bind fun n30=>(opL (A.cell ds18 12) 6).bind fun l31=>(E.call 1000019 (rS (bs [44]) l20 n21 b22)).bind fun p32=>(opB (A.cell p32.leaves 0)).bind fun b34=>oR A p32.leaves 1 fun l35 n36 b37=>bif b34 then (E.call 1000150 (rP l35 n36 b37)).bind fun p38=>oE A p38.leaves 0 fun n40 n41 s42 n43 l44 l45=>oR A p38.leaves 6 fun l46 n47 b48=>bif (A.fits l31 [[(.int .i64 n40),(.int .i64 n41),(.str s42),(.int .i64 n43),(.sl 1 l44),(.sl 6 l45)]] 88)then some (.inl [(.str s19),(.sl 4 l46),(.int .i64 n47),(.bool b48),(.int .i64 n23),(.int .i64 n24),(.str s25),(.int .i64 n26),(.int .i64 n27),(.int .i64 n28),(.str s29),(.int .i64 n30),(.sl 6 (A.rapp l31 [[(.int .i64 n40),(.int .i64 n41),(.str s42),(.int .i64 n43),(.sl 1 l44),(.sl 6 l45)]]))]) else none else (E.call 1000059 (rS s19 l35 n36 b37)).bind fun p49=>oR A p49.leaves 0 fun l51 n52 b53=>(E.call 1000019 (rS (bs [101,118,101,114,121]) l51 n52 b53)).bind fun p54=>(opB (A.cell p54.leaves 0)).bind fun b56=>oR A p54.leaves 1 fun l57 n58 b59=>bif b56 then (E.call 1000277 (rP l57 n58 b59)).bind fun p60=>oE A p60.leaves 0 fun n62 n63 s64 n65 l66 l67=>oR A p60.leaves 6 fun l68 n69 b70=>bif (A.fits l31 [[(.int .i64 n62),(.int .i64 n63),(.str s64),(.int .i64 n65),(.sl 1 l66),(.sl 6 l67)]] 88)then some (.inr (.val [(.int .i64 n27),(.int .i64 1),(.str s29),(.int .i64 n30),(.sl 1 []),(.sl 6 (A.rapp l31 [[(.int .i64 n62),(.int .i64 n63),(.str s64),(.int .i64 n65),(.sl 1 l66),(.sl 6 l67)]])),(.sl 4 l68),(.int .i64 n69),(.bool b70)])) else none else some (.inr (.val [(.int .i64 n27),(.int .i64 n28),(.str s29),(.int .i64 n30),(.sl 1 []),(.sl 6 l31),(.sl 4 l57),(.int .i64 n58),(.bool b59)]))) [(.str (bs [41])),(.sl 4 l15),(.int .i64 n16),(.bool b17),(.int .i64 0),(.int .i64 0),(.str (bs [])),(.int .i64 0),(.int .i64 13),(.int .i64 0),(.str s_),(.int .i64 0),(.sl 6 [[(.int .i64 n9),(.int .i64 n10),(.str s11),(.int .i64 n12),(.sl 1 l13),(.sl 6 l14)]])] else (E.call 1000019 (rS (bs [101,118,101,114,121]) l4 n5 b6)).bind fun p71=>(opB (A.cell p71.leaves 0)).bind fun b73=>oR A p71.leaves 1 fun l74 n75 b76=>bif b73 then (E.call 1000277 (rP l74 n75 b76)).bind fun p77=>oE A p77.leaves 0 fun n79 n80 s81 n82 l83 l84=>oR A p77.leaves 6 fun l85 n86 b87=>bif (A.fits [] [[(.int .i64 n79),(.int .i64 n80),(.str s81),(.int .i64 n82),(.sl 1 l83),(.sl 6 l84)]] 88)then some (.val [(.int .i64 13),(.int .i64 1),(.str s_),(.int .i64 0),(.sl 1 []),(.sl 6 [[(.int .i64 n79),(.int .i64 n80),(.str s81),(.int .i64 n82),(.sl 1 l83),(.sl 6 l84)]]),(.sl 4 l85),(.int .i64 n86),(.bool b87)]) else none else some (.val [(.int .i64 13),(.int .i64 0),(.str s_),(.int .i64 0),(.sl 1 []),(.sl 6 []),(.sl 4 l74),(.int .i64 n75),(.bool b76)])
theorem w7f (toks:LL)(at_:Int)(bad:Bool)(s_:ByteArray):(x3f A Tryz.prog cs 286 0 [.ptr 0 0, .d (.str s_)] [.cells (.ty 61) [.d (.sl 4 toks), .d (.int .i64 at_), .d (.bool bad)]]).run E=k3d A E toks at_ bad s_:=by kernel_rfl
def k3y (toks:LL)(at_:Int)(bad:Bool)(ops signs:LL):Option PRes:=E.lp (fun ds1=>zI A ds1 0 fun n2=>oR A ds1 1 fun l3 n4 b5=>zL A ds1 4 1 fun l6=>zL A ds1 5 1 fun l7=>bif (A.ilt n2 (A.rlen l6))then iT (A.inr n2 (A.rlen l7)) <| zS A (A.rown l7 (A.nat n2)) 0 fun s8=>zC E 1000019 (rS s8 l3 n4 b5) fun p9=>yB A p9 0 fun b11=>oR A p9.leaves 1 fun l12 n13 b14=>bif b11 then iT (A.inr n2 (A.rlen l6)) <| zI A (A.rown l6 (A.nat n2)) 0 fun n15=>some (.inr (.val [nI n15, .sl 4 l12,nI n13, .bool b14, .sl 1 l6, .sl 1 l7])) else iL [nI (zW A (A.add n2 1)), .sl 4 l12,nI n13, .bool b14, .sl 1 l6, .sl 1 l7] else some (.inr (.val [nI 0, .sl 4 l3,nI n4, .bool b5, .sl 1 l6, .sl 1 l7]))) [nI 0, .sl 4 toks,nI at_, .bool bad, .sl 1 ops, .sl 1 signs]
theorem w8d (toks:LL)(at_:Int)(bad:Bool)(ops signs:LL):(x3f A Tryz.prog cs 235 0 [.ptr 0 0, .own 1, .own 2] [.cells (.ty 61) [.d (.sl 4 toks), .d (.int .i64 at_), .d (.bool bad)], .arr 3 1 ops, .arr 9 1 signs]).run E=k3y A E toks at_ bad ops signs:=by kernel_rfl
end
end Go.Vm
end

section
set_option maxRecDepth 100000
set_option maxHeartbeats 4000000
namespace Go.Vm
open Go.Proofs
theorem y4k (s:ByteArray)(i:Nat):(s.data.getD ((i:Nat):Int).toNat 0).toNat=(tb s).getD i 0:=by rw[x3c,a0h]
theorem z4h (s:ByteArray):(s.data.getD (Int.toNat 0) 0).toNat=(tb s).getD 0 0:=by rw[x3c];rfl
theorem w6j (n a b:Int):cF 153 [.d (.int .u8 n), .d (.int .u8 a), .d (.int .u8 b)]=some (.val [.bool (inI a b n)]):=by
 refine cOf (by kernel_rfl) rfl ?_
 rw[w3q]
 simp only [k1o,go1]
 rfl
theorem u1e (s:ByteArray):cF 108 [.d (.str s)]=some (.val [.bool (y0o (tb s))]):=by
 have h65:cF 147 []=some (.own 9 1 (x0e x7n)):=by
  refine cOf (by kernel_rfl) rfl ?_
  rw[w3t]
  simp only [k1r]
  rfl
 rw[z4o]
 refine cOf (by kernel_rfl) rfl ?_
 rw[w4n]
 simp only [k2l,go1,h65]
 refine x0m (fun i:Nat=>[.str s, .sl 1 (x0e x7n), .int .i64 (i:Int)]) (fun i=>i≤x7n.length∧(x7n.take i).any (fun w=>decide (tb s=tb w))=false) (fun i=>x7n.length - i) (fun i hi=> ?_) 0 ⟨a0r _,by simp⟩
 have hwl:x7n.length=24:=rfl
 by_cases hlt:i < x7n.length
 ·have hx:=a0b hlt
  simp only [go1,x0f,x0n hlt,x0p hlt,x1v hx,x1l,x0c hlt (by omega)]
  by_cases he:tb x7n[i]=tb s
  ·right
   rw[x1m he,List.any_eq_true.2 ⟨x7n[i],a1p hlt,x1m he.symm⟩]
   rfl
  ·left
   refine⟨i+1,?_,⟨hlt,?_⟩,by omega⟩
   ·rw[x1c he];rfl
   ·rw[a1f,List.any_append,hi.2,hx]
    simp;exact fun e=>he e.symm
 ·right
  have:i=x7n.length:=by omega
  subst this
  simp only [go1,x0f,x0h]
  rw[a0x]at hi
  rw[hi.2]
theorem w5t (s:ByteArray)(hs:s.size≤100000):cF 115 [.d (.str s), .d (.int .u8 97), .d (.int .u8 122)]=some (.val [.bool (x9c x2j (tb s))]):=by
 have hl:=x1k s
 by_cases h1:1≤(tb s).length∧(tb s).length≤12
 ·have hc:=w6j (((tb s).getD 0 0:Nat):Int) 97 122
  rw[x7z]at hc
  refine cOf (by kernel_rfl) rfl ?_
  rw[z3r]
  simp only [q3h,go1,Int.reduceLE,x0u,z4h,hc]
  rw[x1c (p:=((tb s).length:Int) < 1) (by omega),x1c (p:=12 < ((tb s).length:Int)) (by omega),x1m (p:=0 < ((tb s).length:Int)) (by omega)]
  cases hs0:x2j ((tb s).getD 0 0)with
  |false=>rw[x8r hs0];rfl
  |true=>
   simp only [go1]
   refine x0m (fun p:Nat=>[.str s, .int .i64 (p:Int)]) (fun p=>p≤(tb s).length∧((tb s).take p).all x1g=true) (fun p=>(tb s).length - p) (fun p hp=> ?_) 0 ⟨a0r _,by simp⟩
   by_cases hlt:p < (tb s).length
   ·have hi:=y2y ((tb s).getD p 0)
    simp only [go1,x0n hlt,x0p hlt,y4k,w6j,x7z,x8a,x4v,x0c hlt (by omega)]
    cases hin:x1g ((tb s).getD p 0)with
    |false=>
     right
     rw[x7x hlt hin]
     rw[hin]at hi
     have hi:=hi.symm
     simp only [Bool.or_eq_false_iff]at hi
     obtain⟨⟨⟨i1,i2⟩,i3⟩,i4⟩:=hi
     have i4': ¬(((tb s).getD p 0:Nat):Int)=95:=by
      have:=of_decide_eq_false i4;omega
     rw[x1c i4']
     simp only [i1,i2,i3,go1]
     try rfl
    |true=>
     left
     refine⟨p+1,?_,⟨hlt,x4e hlt hp.2 hin⟩,by omega⟩
     rw[hin]at hi
     cases i1:x2j ((tb s).getD p 0)<;>cases i2:x1y ((tb s).getD p 0)<;>cases i3:x0r ((tb s).getD p 0)<;>rw[i1,i2,i3]at hi<;>simp only [go1]<;>(try rfl)
     all_goals
      simp only [Bool.or_self,a0v]at hi
      have i4:=a0c hi.symm
      rw[x1m (p:=(((tb s).getD p 0:Nat):Int)=95) (by omega)]
      rfl
   ·right
    have:p=(tb s).length:=by omega
    subst this
    simp only [go1,x0h]
    rw[a0x]at hp
    unfold x9c
    rw[hp.2,hs0,x1m h1.1,x1m h1.2]
    rfl
 ·have hn:x9c x2j (tb s)=false:=by
   unfold x9c
   by_cases h:1≤(tb s).length
   ·rw[x1c (p:=(tb s).length≤12) (by omega)];simp
   ·rw[x1c h];simp
  rw[hn]
  refine cOf (by kernel_rfl) rfl ?_
  rw[z3r]
  simp only [q3h,go1,Int.reduceLE,x0u]
  by_cases h:1≤(tb s).length
  ·rw[x1m (p:=12 < ((tb s).length:Int)) (by omega)];simp only [go1];try rfl
  ·rw[x1m (p:=((tb s).length:Int) < 1) (by omega)];simp only [go1];try rfl
theorem y3h (s:ByteArray)(hs:s.size≤100000):cF 68 [.d (.str s)]=some (.val [.bool (x7m (tb s))]):=by
 have h1:=w5t s hs
 have h2:=u1e s
 refine cOf (by kernel_rfl) rfl ?_
 rw[q2l]
 simp only [g68,go1,h1,h2]
 rfl
end Go.Vm
end

section
set_option maxRecDepth 100000
set_option maxHeartbeats 4000000
namespace Go.Vm
open Go.Proofs
theorem x9t {f k:FuncId}{pn:Nat}{xs key:List V}{hs:List Box}{Q:PRes→Prop}(hg:x4w Tryz.prog k=false)(hd:y1z key=some (pn,xs,hs))(hk:Nat.beq k (z0s f)=true)(hn:kn k key=none)(h: ∃p,(x3f sy Tryz.prog cs f pn xs hs).run eF=some p∧Q p): ∃p,cF k key=some p∧Q p:=
 h.imp fun _ h=>⟨x4c hg hd hk hn h.1,h.2⟩
def x3s {α:Type}(c:α→List D)(l:List Tk)(a:α)(j:Nat)(b:Bool):PRes:= .val (c a++[.sl 4 (x0a l), .int .i64 (j:Int), .bool b])
def QR {α:Type}(c:α→List D)(l:List Tk):Rs α→PRes→Prop
 | .ok a j,r=>r=x3s c l a j false
 | .bad j,r=>j < l.length∧ ∃a,r=x3s c l a j true
 | .out,_=>False
theorem x1d {α:Type}{c:α→List D}{l:List Tk}{R:Rs α}{x:Option PRes}(h: ∃r,x=some r∧QR c l R r):(∃a j,R= .ok a j∧x=some (x3s c l a j false))∨(∃a j,R= .bad j∧j < l.length∧x=some (x3s c l a j true)):=by
 obtain⟨r,hx,hq⟩:=h
 cases R with
 |ok a j=>exact .inl ⟨a,j,rfl,by rw[hx,show r=_ from hq]⟩
 |bad j=>obtain⟨hj,a,rfl⟩:=hq;exact .inr ⟨a,j,rfl,hj,hx⟩
 |out=>exact hq.elim
section
variable (l : List Tk) (hl : LOK l) (i : Nat) (hi : i < l.length)
include hl hi
theorem u2n (b:Bool)(s:ByteArray):cF 1000019 (rS s (x0a l) (i:Int) b)=some (match !b&&isT l i s with
  |true=> .val [.bool true, .sl 4 (x0a l), .int .i64 ((i+1:Nat):Int), .bool b]
  |false=> .val [.bool false, .sl 4 (x0a l), .int .i64 (i:Int), .bool b]):=by
 have hf:=hl.few
 have h1:=x5t hi
 have h2:=x3d hi
 refine x4c (f:=19) (by kernel_rfl) (by with_reducible first|exact y1u _ _|exact y1t _ _ _|exact y1s _ _|exact y1r _ _ _|exact y1q _ _ _ _|exact y1p _ _ _|exact x6q _ _ _|exact x6u _ _ _ _|exact x7a _ _ _ _ _) (by kernel_rfl) rfl ?_
 rw[q4r]
 simp only [b19,oT,go1,h1,h2,x3b,x1l]
 have e:isT l i s=(decide (tb (tkA l i).s=tb s)&&(decide ((tkA l i).k=1) || decide ((tkA l i).k=5))):=rfl
 rw[e]
 have w:=x0c (i:=i) (n:=l.length) hi (by omega)
 cases b<;>cases decide (tb (tkA l i).s=tb s)<;>cases decide ((tkA l i).k=1)<;>cases decide ((tkA l i).k=5)<;>simp only [go1,w]<;>rfl
theorem x6x (s:ByteArray):cF 1000019 (rS s (x0a l) (i:Int) true)=some (.val [.bool false, .sl 4 (x0a l), .int .i64 (i:Int), .bool true]):=u2n l hl i hi true s
theorem x7g (s:ByteArray):cF 1000019 (rS s (x0a l) (i:Int) false)=some (match isT l i s with
  |true=> .val [.bool true, .sl 4 (x0a l), .int .i64 ((i+1:Nat):Int), .bool false]
  |false=> .val [.bool false, .sl 4 (x0a l), .int .i64 (i:Int), .bool false]):=u2n l hl i hi false s
theorem x4i (s:ByteArray):cF 1000059 (rS s (x0a l) (i:Int) true)=some (.val [.sl 4 (x0a l), .int .i64 (i:Int), .bool true]):=by
 have h:=x6x l hl i hi s
 refine x4c (f:=59) (by kernel_rfl) (by with_reducible first|exact y1u _ _|exact y1t _ _ _|exact y1s _ _|exact y1r _ _ _|exact y1q _ _ _ _|exact y1p _ _ _|exact x6q _ _ _|exact x6u _ _ _ _|exact x7a _ _ _ _ _) (by kernel_rfl) rfl ?_
 rw[v9h]
 simp only [b59,oR,go1,Nat.reduceAdd,h]
 try rfl
theorem y0p (s:ByteArray):cF 1000059 (rS s (x0a l) (i:Int) false)=some (match isT l i s with
  |true=> .val [.sl 4 (x0a l), .int .i64 ((i+1:Nat):Int), .bool false]
  |false=> .val [.sl 4 (x0a l), .int .i64 (i:Int), .bool true]):=by
 have h:=x7g l hl i hi s
 refine x4c (f:=59) (by kernel_rfl) (by with_reducible first|exact y1u _ _|exact y1t _ _ _|exact y1s _ _|exact y1r _ _ _|exact y1q _ _ _ _|exact y1p _ _ _|exact x6q _ _ _|exact x6u _ _ _ _|exact x7a _ _ _ _ _) (by kernel_rfl) rfl ?_
 rw[v9h]
 simp only [b59,oR,go1,Nat.reduceAdd,h]
 cases isT l i s<;>rfl
theorem u8r:cF 1000058 (rP (x0a l) (i:Int) true)=some (x3s sD l (bs []) i true):=by
 have h1:=x5t hi
 have h2:=x3d hi
 refine x4c (f:=58) (by kernel_rfl) (by with_reducible first|exact y1u _ _|exact y1t _ _ _|exact y1s _ _|exact y1r _ _ _|exact y1q _ _ _ _|exact y1p _ _ _|exact x6q _ _ _|exact x6u _ _ _ _|exact x7a _ _ _ _ _) (by kernel_rfl) rfl ?_
 rw[v9i]
 simp only [b58,oT,go1,h1,h2,x3b]
 try rfl
theorem u5e:cF 1000058 (rP (x0a l) (i:Int) false)=some (match x2l l i with
  | .ok s j=>x3s sD l s j false
  |_=>x3s sD l (bs []) i true):=by
 have hf:=hl.few
 have h1:=x5t hi
 have h2:=x3d hi
 have h3:=u1e (tkA l i).s
 have w:=x0c (i:=i) (n:=l.length) hi (by omega)
 refine x4c (f:=58) (by kernel_rfl) (by with_reducible first|exact y1u _ _|exact y1t _ _ _|exact y1s _ _|exact y1r _ _ _|exact y1q _ _ _ _|exact y1p _ _ _|exact x6q _ _ _|exact x6u _ _ _ _|exact x7a _ _ _ _ _) (by kernel_rfl) rfl ?_
 rw[v9i]
 simp only [b58,oT,go1,h1,h2,x3b,h3]
 unfold x2l
 cases decide ((tkA l i).k=1)<;>cases y0o (tb (tkA l i).s)<;>simp only [go1,w]<;>rfl
theorem q0m:cF 1000149 (rP (x0a l) (i:Int) false)=some (match y3k l i with
  | .ok s j=>x3s sD l s j false
  |_=>x3s sD l (bs []) i true):=by
 have hf:=hl.few
 have h1:=x5t hi
 have h2:=x3d hi
 have h3:=x7g l hl i hi (bs [116,114,117,101])
 have h4:=x7g l hl i hi (bs [102,97,108,115,101])
 have w:=x0c (i:=i) (n:=l.length) hi (by omega)
 refine x4c (f:=149) (by kernel_rfl) (by with_reducible first|exact y1u _ _|exact y1t _ _ _|exact y1s _ _|exact y1r _ _ _|exact y1q _ _ _ _|exact y1p _ _ _|exact x6q _ _ _|exact x6u _ _ _ _|exact x7a _ _ _ _ _) (by kernel_rfl) rfl ?_
 rw[w8h]
 simp only [q5w,oR,oT,go1,Nat.reduceAdd,h3]
 unfold y3k y1a
 cases t1:isT l i (bs [116,114,117,101])with
 |true=>
  have e:(tkA l i).s=bs [116,114,117,101]:=by
   unfold isT at t1
   simp only [a0p,a0t]at t1
   exact x8x t1.1
  rw[show isT l i x5w=true from t1,a1i,Bool.or_true,e]
  rfl
 |false=>
  rw[show isT l i x5w=false from t1,a0v]
  simp only [go1,h4]
  cases t2:isT l i (bs [102,97,108,115,101])with
  |true=>
   have e:(tkA l i).s=bs [102,97,108,115,101]:=by
    unfold isT at t2
    simp only [a0p,a0t]at t2
    exact x8x t2.1
   rw[show isT l i x2r=true from t2,Bool.or_true,e]
   rfl
  |false=>
   rw[show isT l i x2r=false from t2,Bool.or_false]
   simp only [go1,h1,h2,x3b]
   cases decide ((tkA l i).k=2)<;>simp only [go1,w]<;>rfl
end
end Go.Vm
end

section
set_option maxRecDepth 100000
set_option maxHeartbeats 4000000
namespace Go.Vm
open Go.Proofs
def iR (a m:Nat):LL:=(List.range m).map fun k=>[D.int .i64 ((a+k:Nat):Int)]
def sR (a m:Nat):LL:=(List.range m).map fun k=>[D.str (z0a (a+k))]
section
variable (l : List Tk) (hl : LOK l) (i : Nat) (hi : i < l.length)
include hl hi
theorem u2o (a m:Nat)(hm:m≤16)(b:Bool):cF 1000235 (rO (iR a m) (sR a m) (x0a l) (i:Int) b)=some (match b,y5p l i a m with
  |false,some o=> .val [.int .i64 (o:Int), .sl 4 (x0a l), .int .i64 ((i+1:Nat):Int), .bool b, .sl 1 (iR a m), .sl 1 (sR a m)]
  |_,_=> .val [.int .i64 0, .sl 4 (x0a l), .int .i64 (i:Int), .bool b, .sl 1 (iR a m), .sl 1 (sR a m)]):=by
 refine x4c (f:=235) (by kernel_rfl) (by with_reducible first|exact y1u _ _|exact y1t _ _ _|exact y1s _ _|exact y1r _ _ _|exact y1q _ _ _ _|exact y1p _ _ _|exact x6q _ _ _|exact x6u _ _ _ _|exact x7a _ _ _ _ _) (by kernel_rfl) rfl ?_
 rw[w8d]
 simp only [k3y,oR,go1,Nat.reduceAdd]
 have e1:(iR a m).length=m:=by simp [iR]
 have e2:(sR a m).length=m:=by simp [sR]
 refine x0m (fun x:Nat=>[.int .i64 (x:Int), .sl 4 (x0a l), .int .i64 (i:Int), .bool b, .sl 1 (iR a m), .sl 1 (sR a m)]) (fun x=>x≤m∧(b=false→y5p l i (a+x) (m - x)=y5p l i a m)) (fun x=>m - x) (fun x hx=> ?_) 0 ⟨a0r _,fun _=>rfl⟩
 obtain⟨h1,h2⟩:=hx
 by_cases hlt:x < m
 ·have e3:sy.rown (sR a m) x= [.str (z0a (a+x))]:=by
   show(sR a m).getD x []=_
   rw[a0d];simp [sR,hlt]
  have e4:sy.rown (iR a m) x= [.int .i64 ((a+x:Nat):Int)]:=by
   show(iR a m).getD x []=_
   rw[a0d];simp [iR,hlt]
  have e5:=u2n l hl i hi b (z0a (a+x))
  have w:=x0c (i:=x) (n:=m) hlt (by omega)
  simp only [go1,e1,e2,x0n hlt,x0p hlt,a0h,e3,e4,e5,w]
  cases b with
  |true=>
   left
   refine⟨x+1,?_,⟨hlt,fun h=>by cases h⟩,by omega⟩
   simp only [go1];rfl
  |false=>
   have h2:=h2 rfl
   rw[show m - x=(m - x - 1)+1 by omega,y5p]at h2
   simp only [a2m,a1y]
   cases ht:isT l i (z0a (a+x))with
   |true=>
    right
    rw[ht]at h2
    simp only [go1]
    rw[←h2]
   |false=>
    left
    rw[ht]at h2
    refine⟨x+1,?_,⟨hlt,fun _=>by rw[←h2];exact congrArg (y5p l i (a+x+1)) (by omega)⟩,by omega⟩
    simp only [go1];rfl
 ·right
  have:x=m:=by omega
  subst this
  simp only [go1,e1,x0h]
  cases b with
  |true=>rfl
  |false=>
   have h2:=h2 rfl
   rw[Nat.sub_self,y5p]at h2
   rw[←h2]
end
theorem w0p {l:List Tk}(hl:LOK l){i:Nat}(hi:i < l.length)(ha:y1a l i=true): ∃r,((cF 1000149 (rP (x0a l) (i:Int) false)).bind fun p17=>(opS (sy.cell p17.leaves 0)).bind fun s19=>
  (opL (sy.cell p17.leaves 1) 4).bind fun l20=>(opI (sy.cell p17.leaves 2) .i64).bind fun n21=>(opB (sy.cell p17.leaves 3)).bind fun b22=>
  (cF 1000059 (rS (bs [40]) l20 n21 b22)).bind fun p23=>
  (opL (sy.cell p23.leaves 0) 4).bind fun l25=>(opI (sy.cell p23.leaves 1) .i64).bind fun n26=>(opB (sy.cell p23.leaves 2)).bind fun b27=>
  (cF 1000058 (rP l25 n26 b27)).bind fun p28=>
  (opS (sy.cell p28.leaves 0)).bind fun s30=>
  (opL (sy.cell p28.leaves 1) 4).bind fun l31=>(opI (sy.cell p28.leaves 2) .i64).bind fun n32=>(opB (sy.cell p28.leaves 3)).bind fun b33=>
  (cF 1000059 (rS (bs [41]) l31 n32 b33)).bind fun p34=>
  (opL (sy.cell p34.leaves 0) 4).bind fun l36=>(opI (sy.cell p34.leaves 1) .i64).bind fun n37=>(opB (sy.cell p34.leaves 2)).bind fun b38=>
  some (PRes.val [.str s30, .str s19, .sl 4 l36, .int .i64 n37, .bool b38]))=some r∧QR wD l ((y3k l i).bind fun a j=>(x1f l [bs [40]] j).bind fun _ j=>(x2l l j).bind fun n j=>(x1f l [bs [41]] j).bind fun _ j=> .ok (n,a) j) r:=by
 rw[q0m l hl i hi]
 cases hr:y3k l i with
 |out=>exact(y4n hr).elim
 |bad j=>
  have:j=i:=by unfold y3k at hr;split at hr<;>cases hr;rfl
  subst this
  simp only [x3s,sD,go1,a0e,a0g,x4i l hl j hi,u8r l hl j hi,x0i]
  exact⟨hi,(_,_),rfl⟩
 |ok a j=>
  have hj:=x9v hl hi hr
  simp only [x3s,sD,go1,a0e,a0g,y0p l hl j hj,Rs.bind_ok,x1f]
  cases t1:isT l j (bs [40])with
  |false=>
   simp only [x3s,sD,go1,a0e,a0g,x4i l hl j hj,u8r l hl j hj,x0i]
   exact⟨hj,(_,_),rfl⟩
  |true=>
   have hk:=hl.next hj (x0t t1)
   simp only [x3s,sD,go1,a0e,a0g,u5e l hl (j+1) hk,Rs.bind_ok]
   cases hr2:x2l l (j+1)with
   |out=>exact(x2t hr2).elim
   |bad k=>
    have:k=j+1:=by unfold x2l at hr2;split at hr2<;>cases hr2;rfl
    subst this
    simp only [x3s,go1,x4i l hl (j+1) hk,x0i]
    exact⟨hk,(_,_),rfl⟩
   |ok n k=>
    have hm:=x4s hl hk hr2
    simp only [x3s,go1,y0p l hl k hm,Rs.bind_ok]
    cases t2:isT l k (bs [41])with
    |false=>simp only [go1,x0i];exact⟨hm,(_,_),rfl⟩
    |true=>simp only [go1,x0i];rfl
theorem v8g {l:List Tk}(hl:LOK l){i:Nat}(hi:i < l.length): ∃r,cF 1000111 (rP (x0a l) (i:Int) false)=some r∧QR wD l (x7c l i) r:=by
 have h1:=x7g l hl i hi (bs [110,111,116])
 have h2:=x5t hi
 have h3:=x3d hi
 refine x9t (f:=111) (by kernel_rfl) (by with_reducible first|exact x6q _ _ _|exact x6u _ _ _ _|exact x7a _ _ _ _ _) (by kernel_rfl) rfl ?_
 rw[w8i]
 simp only [w9o,oR,oT,go1,Nat.reduceAdd,h1]
 unfold x7c
 cases ht:isT l i (bs [110,111,116])with
 |true=>
  have hj:=hl.next hi (x0t ht)
  simp only [x3s,sD,go1,a0e,a0g,u5e l hl (i+1) hj]
  cases hr:x2l l (i+1)with
  |out=>exact(x2t hr).elim
  |bad k=>
   have:k=i+1:=by unfold x2l at hr;split at hr<;>cases hr;rfl
   subst this
   simp only [x3s,go1,x0i]
   exact⟨hj,(_,_),rfl⟩
  |ok n k=>simp only [x3s,go1,x0i];rfl
 |false=>
  simp only [go1,h2,h3,x3b,x1l]
  rw[←show isT l i x5w=(decide (tb (tkA l i).s=tb (bs [116,114,117,101]))&&(decide ((tkA l i).k=1) || decide ((tkA l i).k=5)))from rfl,←show isT l i x2r=(decide (tb (tkA l i).s=tb (bs [102,97,108,115,101]))&&(decide ((tkA l i).k=1) || decide ((tkA l i).k=5)))from rfl]
  have tail:=w0p hl hi
  unfold y1a at tail ⊢
  cases hk:decide ((tkA l i).k=2)with
  |true=>rw[hk]at tail;simp only [go1];exact tail rfl
  |false=>
   rw[hk]at tail
   simp only [go1]at tail ⊢
   cases t1:isT l i x5w with
   |true=>rw[t1]at tail;simp only [go1];exact tail rfl
   |false=>
    rw[t1]at tail
    simp only [go1]at tail ⊢
    cases t2:isT l i x2r with
    |true=>rw[t2]at tail;simp only [go1];exact tail rfl
    |false=>
     simp only [x3s,sD,go1,a0e,a0g,u5e l hl i hi]
     cases hr:x2l l i with
     |out=>exact(x2t hr).elim
     |bad k=>
      have:k=i:=by unfold x2l at hr;split at hr<;>cases hr;rfl
      subst this
      simp only [x3s,go1,x0i]
      exact⟨hi,(_,_),rfl⟩
     |ok n k=>simp only [x3s,go1,x0i];rfl
end Go.Vm
end
