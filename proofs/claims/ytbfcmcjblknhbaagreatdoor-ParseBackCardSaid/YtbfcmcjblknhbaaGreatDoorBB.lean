/-
  Part BB of the proof. What is proved by the whole: the statement that the claim names, with no condition. This part: lemmas.
-/
import Derived.Test.YtbfcmcjblknhbaaGreatDoorBA
set_option linter.unusedSimpArgs false
set_option linter.unusedVariables false

section
set_option linter.all false
set_option maxRecDepth 100000
set_option maxHeartbeats 4000000
namespace Go.Vm
open Go.Proofs
mutual
def Ex.depth:Ex→Nat
 | .mk _ _ _ _ _ l=>Ex.depths l+1
def Ex.depths:List Ex→Nat
 | []=>0
 |e::l=>max e.depth (Ex.depths l)
end
theorem depths_snoc (e:Ex): ∀l:List Ex,Ex.depths (l++[e])=max (Ex.depths l) e.depth
 | []=>by simp [Ex.depths]
 |x::l=>by simp only [List.cons_append,Ex.depths,depths_snoc e l];omega
theorem sizes_mem {e:Ex}: ∀ {l:List Ex} {i:Nat},l[i]? =some e→e.size≤Ex.sizes l
 |x::l,0,h=>by simp at h;subst h;simp only [Ex.sizes];omega
 |x::l,i+1,h=>by have:=sizes_mem (l:=l) (i:=i) (by simpa using h);simp only [Ex.sizes];omega
theorem sizes_len: ∀l:List Ex,l.length≤Ex.sizes l
 | []=>Nat.le_refl _
 | .mk k n s o a u::l=>by have:=sizes_len l;simp only [Ex.sizes,Ex.size,List.length_cons];omega
theorem xrow: ∀ {l:List Ex} {i:Nat} {e:Ex},l[i]? =some e→sy.row (Ex.rows l) (i:Int)=e.row:=by
 intro l i e h
 show(Ex.rows l).getD (i:Int).toNat []=_
 rw[Int.toNat_natCast]
 induction l generalizing i with
 |nil=>cases h
 |cons x l ih=>
  cases i with
  |zero=>simp at h;subst h;rfl
  |succ i=>exact ih (by simpa using h)
mutual
theorem depth_le: ∀e:Ex,e.depth≤e.size
 | .mk _ _ _ _ _ l=>by have:=depths_le l;simp only [Ex.depth,Ex.size];omega
theorem depths_le: ∀l:List Ex,Ex.depths l≤Ex.sizes l
 | []=>Nat.le_refl _
 |e::l=>by have:=depth_le e;have:=depths_le l;simp only [Ex.depths,Ex.sizes];omega
end
theorem imax_nat (a b:Nat):max (a:Int) (b:Int)=((max a b:Nat):Int):=by omega
theorem c_eDepth: ∀(m:Nat) (k n:Int) (s:ByteArray) (o:Int) (a:List ByteArray) (u:List Ex),(Ex.mk k n s o a u).size≤m→m≤1000000→cF 42 [kE k n s o (srows a) (Ex.rows u)]=some (.val [.int .i64 ((Ex.mk k n s o a u).depth:Int)])
 |0,k,n,s,o,a,u,h,_=>by simp only [Ex.size]at h;omega
 |m+1,k,n,s,o,a,u,h,hm=>by
  have hz:Ex.sizes u≤m:=by simp only [Ex.size]at h;omega
  have hl:=sizes_len u
  refine cOf (by kernel_rfl) rfl ?_
  rw[g42_eq]
  simp only [g42,go1,rows_len]
  refine loopF_at (fun i:Nat=>[.int .i64 (Ex.depths (u.take i):Int), .sl 6 (Ex.rows u), .int .i64 (u.length:Int), .int .i64 (i:Int)]) (fun i=>i≤u.length) (fun i=>u.length - i) (fun i hi=> ?_) 0 (Nat.zero_le _)
  by_cases hlt:i < u.length
  ·left
   refine⟨i+1,?_,hlt,by omega⟩
   have hx:=List.getElem?_eq_getElem hlt
   have hd:Ex.depths (u.take (i+1))=max (Ex.depths (u.take i)) u[i].depth:=by rw[List.take_add_one,hx];exact depths_snoc _ _
   rw[hd]
   generalize u[i]=e at hx
   have he:=sizes_mem hx
   have hr:=xrow hx
   obtain⟨k2,n2,s2,o2,a2,u2⟩:=e
   have h2:=c_eDepth m k2 n2 s2 o2 a2 u2 (by omega) (by omega)
   simp only [go1,rows_len,ilt_at hlt,inr_at hlt,hr,Ex.row,oE,h2,wrap_succ hlt (by omega),imax_nat]
   rfl
  ·right
   have:i=u.length:=by omega
   subst this
   have:=depths_le u
   simp only [go1,ilt_self,List.take_length,Ex.depth]
   rw[wrap_succ (n:=Ex.depths u+1) (by omega) (by omega)]
   rfl
theorem c_rDepth: ∀(m:Nat) (k n:Int) (s:ByteArray) (o:Int) (a:List ByteArray) (u:List Ex),(Ex.mk k n s o a u).size≤m→m≤1000000→cF 36 [kE k n s o (srows a) (Ex.rows u)]=some (.val [.int .i64 ((Ex.mk k n s o a u).depth:Int)])
 |0,k,n,s,o,a,u,h,_=>by simp only [Ex.size]at h;omega
 |m+1,k,n,s,o,a,u,h,hm=>by
  have hz:Ex.sizes u≤m:=by simp only [Ex.size]at h;omega
  have hl:=sizes_len u
  refine cOf (by kernel_rfl) rfl ?_
  rw[g36_eq]
  simp only [g36,go1]
  refine loopF_at (fun i:Nat=>[.int .i64 (Ex.depths (u.take i):Int), .int .i64 (i:Int), .int .i64 k, .int .i64 n, .str s, .int .i64 o, .sl 1 (srows a), .sl 6 (Ex.rows u)]) (fun i=>i≤u.length) (fun i=>u.length - i) (fun i hi=> ?_) 0 (Nat.zero_le _)
  by_cases hlt:i < u.length
  ·left
   refine⟨i+1,?_,hlt,by omega⟩
   have hx:=List.getElem?_eq_getElem hlt
   have hd:Ex.depths (u.take (i+1))=max (Ex.depths (u.take i)) u[i].depth:=by rw[List.take_add_one,hx];exact depths_snoc _ _
   rw[hd]
   generalize u[i]=e at hx
   have he:=sizes_mem hx
   have hr:=xrow hx
   obtain⟨k2,n2,s2,o2,a2,u2⟩:=e
   have h2:=c_rDepth m k2 n2 s2 o2 a2 u2 (by omega) (by omega)
   simp only [go1,Nat.reduceAdd,rows_len,ilt_at hlt,inr_at hlt,hr,Ex.row,oE,h2,wrap_succ hlt (by omega),imax_nat]
   rfl
  ·right
   have:i=u.length:=by omega
   subst this
   have:=depths_le u
   simp only [go1,Nat.reduceAdd,oE,rows_len,ilt_self,List.take_length,Ex.depth]
   rw[wrap_succ (n:=Ex.depths u+1) (by omega) (by omega)]
   rfl
theorem sizes_snoc (e:Ex)(l:List Ex):Ex.sizes (l++[e])=Ex.sizes l+e.size:=by rw[sizes_app];simp [Ex.sizes]
theorem c_rSize: ∀(m:Nat) (k n:Int) (s:ByteArray) (o:Int) (a:List ByteArray) (u:List Ex),(Ex.mk k n s o a u).size≤m→m≤1000000→cF 35 [kE k n s o (srows a) (Ex.rows u)]=some (.val [.int .i64 ((Ex.mk k n s o a u).size:Int)])
 |0,k,n,s,o,a,u,h,_=>by simp only [Ex.size]at h;omega
 |m+1,k,n,s,o,a,u,h,hm=>by
  have hz:Ex.sizes u≤m:=by simp only [Ex.size]at h;omega
  have hl:=sizes_len u
  refine cOf (by kernel_rfl) rfl ?_
  rw[g35_eq]
  simp only [g35,go1]
  refine loopF_at (fun i:Nat=>[.int .i64 ((Ex.sizes (u.take i)+1:Nat):Int), .int .i64 (i:Int), .int .i64 k, .int .i64 n, .str s, .int .i64 o, .sl 1 (srows a), .sl 6 (Ex.rows u)]) (fun i=>i≤u.length∧Ex.sizes (u.take i)≤m) (fun i=>u.length - i) (fun i hi=> ?_) 0 ⟨Nat.zero_le _,Nat.zero_le _⟩
  by_cases hlt:i < u.length
  ·left
   have hx:=List.getElem?_eq_getElem hlt
   have hd:Ex.sizes (u.take (i+1))=Ex.sizes (u.take i)+u[i].size:=by rw[List.take_add_one,hx];exact sizes_snoc _ _
   have hle:Ex.sizes (u.take (i+1))≤m:=by
    have:=sizes_app (u.take (i+1)) (u.drop (i+1));rw[List.take_append_drop]at this;omega
   refine⟨i+1,?_,⟨hlt,hle⟩,by omega⟩
   rw[hd]at hle ⊢
   generalize u[i]=e at hx hle ⊢
   have he:=sizes_mem hx
   have hr:=xrow hx
   obtain⟨k2,n2,s2,o2,a2,u2⟩:=e
   have h2:=c_rSize m k2 n2 s2 o2 a2 u2 (by omega) (by omega)
   simp only [go1,Nat.reduceAdd,rows_len,ilt_at hlt,inr_at hlt,hr,Ex.row,oE,h2,wrap_succ hlt (by omega)]
   rw[wrap_id (by omega) (by omega)]
   congr 5;omega
  ·right
   have:i=u.length:=by omega
   subst this
   simp only [go1,Nat.reduceAdd,oE,rows_len,ilt_self,List.take_length,Ex.size]
end Go.Vm
end

section
set_option linter.all false
set_option maxRecDepth 100000
set_option maxHeartbeats 4000000
namespace Go.Vm
open Go.Proofs
def armN (s:ByteArray):Bool:=highN (tb s) || (decide (tb s=tb bTrue) || decide (tb s=tb bFalse))
def litS:Ex→Bool
 | .mk k _ _ o _ u=>bif decide (k=5)then decide (o=1)&&(match u with
   | [.mk k2 _ _ _ _ _]=>decide (k2=1)
   |_=>false)else decide (k=1) || (decide (k=2) || decide (k=4))
def constS:Ex→Bool
 | .mk k n s o a u=>bif decide (k=14)then u.all litS else litS (.mk k n s o a u)
def opB_ (k o:Int):Bool:=bif decide (k=5)then decide (1≤o)&&decide (o≤2)else bif decide (k=6)then decide (3≤o)&&decide (o≤16)else decide (o=0)
def numB (k n:Int):Bool:=bif decide (k=1)then decide (0≤n)else bif decide (k=2) || decide (k=13)then decide (n=0) || decide (n=1)else decide (n=0)
def nameB (k:Int)(s:ByteArray):Bool:=bif decide (k=3) || (decide (k=11) || (decide (k=12) || decide (k=13)))then lowN (tb s)else bif decide (k=4)then highN (tb s)else bif decide (k=17)then pathN (tb s)else decide (tb s= [])
def armsB (k:Int)(a:List ByteArray):Bool:=a.all armN&&(bif decide (k=11)then decide (a.length=1)else bif decide (k=12)then decide (1≤a.length)&&(decide (a.length≤6)&&decide a.Nodup)else decide (a.length=0))
def loB (k n:Int)(la:Nat):Int:=if k=5∨k=10∨k=11∨k=14 then 1 else if k=6∨k=8∨k=9∨k=15 then 2 else if k=7∨k=16 then 3 else if k=12 then la else if k=13 then n else 0
def hiB (k n:Int)(la:Nat):Int:=if k=14 then 8 else if k=13 then(if n=0 then 6 else 7)else loB k n la
def conB (k:Int)(u:List Ex):Bool:=bif decide (k=8)then(match u with
 |e::_=>constS e
 | []=>false)else true
def kindB (k:Int):Bool:=decide (1≤k)&&decide (k≤17)
def partB:Ex→Bool
 | .mk k n s o a u=>kindB k&&(numB k n&&(nameB k s&&(opB_ k o&&(armsB k a&&(decide (loB k n a.length≤(u.length:Int))&&(decide ((u.length:Int)≤hiB k n a.length)&&conB k u))))))
mutual
def allB:Ex→Bool
 | .mk k n s o a u=>partB (.mk k n s o a u)&&allBs u
def allBs:List Ex→Bool
 | []=>true
 |e::l=>allB e&&allBs l
end
theorem kinds (k:Int)(h:kindB k=true):k=1∨k=2∨k=3∨k=4∨k=5∨k=6∨k=7∨k=8∨k=9∨k=10∨k=11∨k=12∨k=13∨k=14∨k=15∨k=16∨k=17:=by
 unfold kindB at h
 simp at h
 omega
theorem kindB_no {k:Int}(h:kindB k=false):k≠1∧k≠2∧k≠3∧k≠4∧k≠5∧k≠6∧k≠7∧k≠8∧k≠9∧k≠10∧k≠11∧k≠12∧k≠13∧k≠14∧k≠15∧k≠16∧k≠17:=by
 unfold kindB at h
 simp at h
 omega
theorem or12 (o:Int):(decide (o=1) || decide (o=2))=(decide (1≤o)&&decide (o≤2)):=by
 rw[Bool.eq_iff_iff]
 simp
 omega
theorem c_enothing (k n:Int)(s:ByteArray)(o:Int)(a u:List (List D))(m:Int):cF 141 [kE k n s o a u, .d (.int .i64 m)]=some (.val [.bool (decide (n=0)), .bool (decide (tb s= [])), .bool (decide (o=0)), .int .i64 m, .int .i64 m, .int .i64 0]):=by
 refine cOf (by kernel_rfl) rfl ?_
 rw[g141_eq]
 simp only [g141,go1,seq_tb]
 rfl
theorem c_eleaf (k n:Int)(s:ByteArray)(o:Int)(a u:List (List D))(hk:k=1∨k=2∨k=3∨k=4∨k=17)(hs:s.size≤100000):cF 140 [kE k n s o a u]=some (.val [.bool (numB k n), .bool (nameB k s), .bool (opB_ k o), .int .i64 0, .int .i64 0, .int .i64 0]):=by
 have h1:=c_enothing k n s o a u 0
 have h2:=c_Low s
 have h3:=c_High s
 have h4:=c_Path s hs
 refine cOf (by kernel_rfl) rfl ?_
 rw[g140_eq]
 simp only [g140,go1,h1,h2,h3,h4,oQ]
 rcases hk with rfl|rfl|rfl|rfl|rfl<;>simp only [go1,Int.reduceEq,numB,nameB,opB_,Int.reduceEq]
theorem c_eof (k n:Int)(s:ByteArray)(o:Int)(a:List ByteArray)(u:List (List D))(hs:s.size≤100000):cF 114 [kE k n s o (srows a) u]=some (match kindB k with
  |true=> .val [.bool (numB k n), .bool (nameB k s), .bool (opB_ k o), .int .i64 (loB k n a.length), .int .i64 (hiB k n a.length), .int .i64 (if k=11 then 1 else if k=12 then 6 else 0), .bool true]
  |false=> .val [.bool false, .bool false, .bool false, .int .i64 0, .int .i64 0, .int .i64 0, .bool false]):=by
 have h1:=c_enothing k n s o (srows a) u
 have h2:=c_Low s
 have h5:=srows_len a
 cases hk:kindB k with
 |true=>
  rcases kinds k hk with h|h|h|h|h|h|h|h|h|h|h|h|h|h|h|h|h
  all_goals (first|(have h3:=c_eleaf k n s o (srows a) u (by omega) hs;subst h)|(subst h;have h3:=True.intro))
  all_goals
   refine cOf (by kernel_rfl) rfl ?_
   rw[g114_eq]
   simp only [↓g114, ↓h1, ↓h2, ↓h3, ↓h5,oQ,loB,hiB,go1,Int.reduceEq,numB,nameB,opB_,Int.reduceEq,or_self,or_true,true_or,if_true,if_false]
  ·rw[or12]
  ·by_cases hn:n=0
   ·subst hn;rfl
   ·simp only [decF hn,cond_false,Bool.false_or,if_neg hn]
 |false=>
  obtain⟨q1,q2,q3,q4,q5,q6,q7,q8,q9,q10,q11,q12,q13,q14,q15,q16,q17⟩:=kindB_no hk
  refine cOf (by kernel_rfl) rfl ?_
  rw[g114_eq]
  simp only [g114,go1]
  simp only [decF q1,decF q2,decF q3,decF q4,decF q5,decF q6,decF q7,decF q8,decF q9,decF q10,decF q11,decF q12,decF q13,decF q14,decF q15,decF q16,decF q17,go1]
theorem c_earm (s:ByteArray):cF 118 [.d (.str s)]=some (.val [.bool (armN s)]):=by
 have h:=c_High s
 refine cOf (by kernel_rfl) rfl ?_
 rw[g118_eq]
 simp only [g118,go1,h,seq_tb]
 unfold armN
 cases highN (tb s)<;>cases h1:decide (tb s=tb bTrue)<;>cases h2:decide (tb s=tb bFalse)<;>(unfold bTrue at h1;unfold bFalse at h2;simp only [go1,h1,h2];try rfl)
theorem c_epart1 (s:ByteArray):cF 117 [.d (.str s)]=some (.val [.bool (!armN s)]):=by
 have h:=c_earm s
 refine cOf (by kernel_rfl) rfl ?_
 rw[g117_eq]
 simp only [g117,go1,h]
theorem c_xIdxFn (a:List ByteArray)(ha:a.length≤1000000): ∃i:Int,cF 142 [.d (.sl 1 (srows a)), .fn 117 []]=some (.val [.int .i64 i])∧decide (0≤i)=a.any fun s=> !armN s:=by
 cases hall:a.any fun s=> !armN s with
 |false=>
  refine⟨-1,?_,rfl⟩
  refine cOf (by kernel_rfl) rfl ?_
  rw[g142_117_eq]
  simp only [g142_117,go1,srows_len]
  refine loopF_at (fun i:Nat=>[.sl 1 (srows a), .int .i64 (a.length:Int), .int .i64 (i:Int)]) (fun i=>i≤a.length) (fun i=>a.length - i) (fun i hi=> ?_) 0 (Nat.zero_le _)
  by_cases hlt:i < a.length
  ·left
   refine⟨i+1,?_,hlt,by omega⟩
   have hx:=List.getElem?_eq_getElem hlt
   have h:=c_epart1 a[i]
   have h0:(!armN a[i])=false:=by
    have:=(List.any_eq_false.1 hall) a[i] (List.getElem_mem hlt)
    simpa using this
   simp only [go1,srows_len,ilt_at hlt,inr_at hlt,srows_at hx,h,h0,wrap_succ hlt (by omega)]
   rfl
  ·right
   have:i=a.length:=by omega
   subst this
   simp only [go1,ilt_self]
 |true=>
  have hj:=List.findIdx_lt_length_of_exists (List.any_eq_true.1 hall)
  refine⟨((a.findIdx fun s=> !armN s:Nat):Int),?_,decide_eq_true (Int.natCast_nonneg _)⟩
  have hpj:=List.findIdx_getElem (w:=hj)
  generalize hJ:(a.findIdx fun s=> !armN s)=j at hj hpj
  refine cOf (by kernel_rfl) rfl ?_
  rw[g142_117_eq]
  simp only [g142_117,go1,srows_len]
  refine loopF_at (fun i:Nat=>[.sl 1 (srows a), .int .i64 (a.length:Int), .int .i64 (i:Int)]) (fun i=>i≤j) (fun i=>a.length - i) (fun i hi=> ?_) 0 (Nat.zero_le _)
  have hlt:i < a.length:=by omega
  have hx:=List.getElem?_eq_getElem hlt
  have h:=c_epart1 a[i]
  by_cases hij:i < j
  ·left
   refine⟨i+1,?_,hij,by omega⟩
   have h0:(!armN a[i])=false:=by
    have:=List.not_of_lt_findIdx (p:=fun s=> !armN s) (xs:=a) (i:=i) (by omega)
    simpa using this
   simp only [go1,srows_len,ilt_at hlt,inr_at hlt,srows_at hx,h,h0,wrap_succ hlt (by omega)]
   rfl
  ·right
   have:i=j:=by omega
   subst this
   have h0:(!armN a[i])=true:=hpj
   simp only [go1,srows_len,ilt_at hlt,inr_at hlt,srows_at hx,h,h0]
theorem c_xContFn (a:List ByteArray)(ha:a.length≤1000000):cF 116 [.d (.sl 1 (srows a)), .fn 117 []]=some (.val [.bool (!a.all armN)]):=by
 obtain⟨i,h1,h2⟩:=c_xIdxFn a ha
 refine cOf (by kernel_rfl) rfl ?_
 rw[g116_117_eq]
 simp only [g116_117,go1,h1]
 rw[h2,List.not_all_eq_any_not]
theorem c_eliteral (k n:Int)(s:ByteArray)(o:Int)(a:List ByteArray)(u:List Ex)(hu:u.length≤1000000):cF 143 [kE k n s o (srows a) (Ex.rows u)]=some (.val [.bool (litS (.mk k n s o a u))]):=by
 have h1:=rows_len u
 refine cOf (by kernel_rfl) rfl ?_
 rw[g143_eq]
 simp only [g143,go1,Int.reduceLE,h1]
 unfold litS
 by_cases k5:k=5
 ·subst k5
  simp only [go1,Int.reduceEq,Int.reduceEq]
  match u with
  | []=>cases decide (o=1)<;>rfl
  | [.mk k2 n2 s2 o2 a2 u2]=>cases decide (o=1)<;>rfl
  |e1::e2::u=>
   have:decide ((((e1::e2::u).length:Nat):Int)=1)=false:=decide_eq_false (by simp only [List.length_cons];omega)
   simp only [go1,this];try (cases decide (o=1)<;>rfl)
 ·simp only [go1,decF k5]
  cases decide (k=1)<;>cases decide (k=2)<;>cases decide (k=4)<;>rfl
theorem c_rliteral (k n:Int)(s:ByteArray)(o:Int)(a:List ByteArray)(u:List Ex)(hu:u.length≤1000000):cF 108 [kE k n s o (srows a) (Ex.rows u)]=some (.val [.bool (litS (.mk k n s o a u))]):=by
 have h1:=rows_len u
 refine cOf (by kernel_rfl) rfl ?_
 rw[g108_eq]
 simp only [g108,go1,Int.reduceLE,h1]
 unfold litS
 by_cases k5:k=5
 ·subst k5
  simp only [go1,Int.reduceEq,Int.reduceEq]
  match u with
  | []=>cases decide (o=1)<;>rfl
  | [.mk k2 n2 s2 o2 a2 u2]=>cases decide (o=1)<;>rfl
  |e1::e2::u=>
   have:decide ((((e1::e2::u).length:Nat):Int)=1)=false:=decide_eq_false (by simp only [List.length_cons];omega)
   simp only [go1,this];try (cases decide (o=1)<;>rfl)
 ·simp only [go1,decF k5]
  cases decide (k=1)<;>cases decide (k=2)<;>cases decide (k=4)<;>rfl
end Go.Vm
end

section
set_option linter.all false
set_option maxRecDepth 100000
set_option maxHeartbeats 4000000
namespace Go.Vm
open Go.Proofs
theorem sy_mval (z k:D)(l:List (List D)):sy.mval z k l=mval z k l:=rfl
theorem sy_mput (k x:D)(l:List (List D)):sy.mput k x l=mput k x l:=rfl
def encT (l:List ByteArray):List (List D):=l.map fun s=>[.str s, .int .i64 1]
theorem key_str (a b:ByteArray):keyIs (.str a) (.str b)=decide (a=b):=by
 show(a == b)=_
 have h:(a == b)=(a.data == b.data):=rfl
 rw[h,Bool.eq_iff_iff,beq_iff_eq,decide_eq_true_eq]
 exact⟨fun h=>by cases a;cases b;simp_all,fun h=>by rw[h]⟩
theorem midxT {x:ByteArray}: ∀ {l:List ByteArray},x ∉ l→midx (.str x) (encT l)=none
 | [],_=>rfl
 |y::l,h=>by
  have h1: ¬x=y:=fun e=>h (by rw[e];exact List.mem_cons_self)
  have h2:x ∉ l:=fun e=>h (List.mem_cons_of_mem _ e)
  show midx (.str x) ((D.str y::[.int .i64 1])::encT l)=none
  have hk:keyIs (.str x) (.str y)=false:=by rw[key_str];exact decF h1
  simp only [midx,hk,midxT h2];rfl
theorem mvalT {x:ByteArray}: ∀ {l:List ByteArray},x∈l→mval (.int .i64 0) (.str x) (encT l)= .int .i64 1
 |y::l,h=>by
  show mval (.int .i64 0) (.str x) ((D.str y::[.int .i64 1])::encT l)=_
  by_cases he:x=y
  ·have hk:keyIs (.str x) (.str y)=true:=by rw[key_str];exact decT he
   simp only [mval,mget,midx,hk];rfl
  ·have hm:x∈l:=by
    rcases List.mem_cons.1 h with e|e
    ·exact absurd e he
    ·exact e
   have ih:=mvalT hm
   have hk:keyIs (.str x) (.str y)=false:=by rw[key_str];exact decF he
   simp only [mval,mget,midx,hk]at ih ⊢
   rw[←ih]
   cases midx (.str x) (encT l)<;>rfl
theorem mvalT0 {x:ByteArray}{l:List ByteArray}(h:x ∉ l):mval (.int .i64 0) (.str x) (encT l)= .int .i64 0:=by
 unfold mval mget;rw[midxT h];rfl
theorem mputT {x:ByteArray}{l:List ByteArray}(h:x ∉ l):mput (.str x) (.int .i64 1) (encT l)=encT (l++[x]):=by
 unfold mput;rw[midxT h];simp [encT]
theorem nodup_snoc {l:List ByteArray}{i:Nat}{x:ByteArray}(h:l[i]? =some x)(hn:(l.take i).Nodup)(hx:x ∉ l.take i):(l.take (i+1)).Nodup:=by
 rw[List.take_add_one,h,Option.toList_some,List.nodup_append]
 exact⟨hn,by simp,fun a ha b hb=>by simp at hb;rw[hb];exact fun e=>hx (e▸ha)⟩
theorem nodup_not {l:List ByteArray}{i:Nat}{x:ByteArray}(h:l[i]? =some x)(hx:x∈l.take i): ¬l.Nodup:=by
 intro hn
 have hd:l=l.take i++l.drop i:=(List.take_append_drop i l).symm
 rw[hd,List.nodup_append]at hn
 refine hn.2.2 x hx x ?_ rfl
 have:(l.drop i)[0]? =some x:=by simpa using h
 exact List.mem_of_getElem? this
theorem c_iOnce (l:List ByteArray)(hl:l.length≤1000000):cF 115 [.d (.sl 1 (srows l))]=some (.val [.bool (decide l.Nodup)]):=by
 refine cOf (by kernel_rfl) rfl ?_
 rw[g115_eq]
 simp only [g115,go1,srows_len]
 refine loopF_at (fun i:Nat=>[.sl 1 (srows l), .int .i64 (l.length:Int), .int .i64 (i:Int), .sl 2 (encT (l.take i))]) (fun i=>i≤l.length∧(l.take i).Nodup) (fun i=>l.length - i) (fun i hi=> ?_) 0 ⟨Nat.zero_le _,by simp⟩
 by_cases hlt:i < l.length
 ·have hx:=List.getElem?_eq_getElem hlt
  by_cases hm:l[i]∈l.take i
  ·right
   rw[decF (nodup_not hx hm)]
   simp only [go1,Int.reduceLT,Int.reduceAdd,srows_len,ilt_at hlt,inr_at hlt,srows_at hx,sy_mval,mvalT hm]
  ·left
   refine⟨i+1,?_,⟨hlt,nodup_snoc hx hi.2 hm⟩,by omega⟩
   have hw:IntKind.i64.wrap 1=1:=rfl
   simp only [go1,Int.reduceLT,Int.reduceAdd,srows_len,ilt_at hlt,inr_at hlt,srows_at hx,sy_mval,sy_mput,mvalT0 hm,hw,mputT hm,wrap_succ hlt (by omega)]
   rw[List.take_add_one,hx];rfl
 ·right
  have:i=l.length:=by omega
  subst this
  simp only [go1,ilt_self]
  rw[List.take_length]at hi
  rw[decT hi.2]
theorem rep_loop {α:Type}{b:List D→Option (List D ⊕ α)}{r:α}(n:Nat)(mk:Nat→List D)(hb: ∀i,i < n→b (mk i)=some (.inl (mk (i+1))))(hend:b (mk n)=some (.inr r)):loopF b (mk 0)=some r:=by
 refine loopF_at mk (fun i=>i≤n) (fun i=>n - i) (fun i hi=> ?_) 0 (Nat.zero_le _)
 by_cases h:i < n
 ·exact .inl ⟨i+1,hb i h,h,by omega⟩
 ·have:i=n:=by omega
  subst this
  exact .inr hend
theorem mem_take_at {l:List ByteArray}{i j:Nat}{y:ByteArray}(hj:j < i)(h:l[j]? =some y):y∈l.take i:=by
 refine List.mem_of_getElem? (i:=j) ?_
 rw[List.getElem?_take,if_pos hj,h]
theorem c_rOnce (l:List ByteArray)(hl:l.length≤1000000):cF 107 [.d (.sl 1 (srows l))]=some (.val [.bool (decide l.Nodup)]):=by
 refine cOf (by kernel_rfl) rfl ?_
 rw[g107_eq]
 simp only [g107,go1]
 refine loopF_at (fun i:Nat=>[.sl 1 (srows l), .int .i64 (i:Int)]) (fun i=>i≤l.length∧(l.take i).Nodup) (fun i=>l.length - i) (fun i hi=> ?_) 0 ⟨Nat.zero_le _,by simp⟩
 by_cases hlt:i < l.length
 ·have hx:=List.getElem?_eq_getElem hlt
  simp only [go1,srows_len,ilt_at hlt]
  by_cases hm:l[i]∈l.take i
  ·right
   rw[decF (nodup_not hx hm)]
   refine loopF_at (fun j:Nat=>[.sl 1 (srows l), .int .i64 (i:Int), .int .i64 (j:Int)]) (fun j=>j≤i∧ ∃k,j≤k∧k < i∧l[k]? =some l[i]) (fun j=>i - j) (fun j hj=> ?_) 0 ⟨Nat.zero_le _,?_⟩
   ·obtain⟨hj,k,hk1,hk2,hk3⟩:=hj
    have hjl:j < i:=by omega
    have hjl2:j < l.length:=by omega
    have hy:=List.getElem?_eq_getElem hjl2
    by_cases he:tb l[j]=tb l[i]
    ·right
     simp only [go1,srows_len,ilt_at hjl,inr_at hlt,inr_at hjl2,srows_at hx,srows_at hy,seq_tb,decT he]
    ·left
     refine⟨j+1,?_,⟨hjl,k,?_,hk2,hk3⟩,by omega⟩
     ·simp only [go1,srows_len,ilt_at hjl,inr_at hlt,inr_at hjl2,srows_at hx,srows_at hy,seq_tb,decF he,wrap_succ hjl (by omega)]
      rfl
     ·rcases Nat.lt_or_ge j k with h|h
      ·exact h
      ·have:j=k:=by omega
       subst this
       rw[hy]at hk3
       exact absurd (by rw[Option.some.inj hk3]) he
   ·obtain⟨k,hk⟩:=List.getElem?_of_mem hm
    rw[List.getElem?_take]at hk
    split at hk
    ·rename_i hki
     exact⟨k,Nat.zero_le _,hki,hk⟩
    ·cases hk
  ·left
   refine⟨i+1,?_,⟨hlt,nodup_snoc hx hi.2 hm⟩,by omega⟩
   refine rep_loop i (fun j=>[.sl 1 (srows l), .int .i64 (i:Int), .int .i64 (j:Int)]) (fun j hjl=> ?_) ?_
   ·have hjl2:j < l.length:=by omega
    have hy:=List.getElem?_eq_getElem hjl2
    have he: ¬tb l[j]=tb l[i]:=fun e=>hm (by rw[←tb_inj e];exact mem_take_at hjl hy)
    simp only [go1,srows_len,ilt_at hjl,inr_at hlt,inr_at hjl2,srows_at hx,srows_at hy,seq_tb,decF he,wrap_succ hjl (by omega)]
    rfl
   ·simp only [go1,ilt_self,wrap_succ hlt (by omega)]
    rfl
 ·right
  have:i=l.length:=by omega
  subst this
  simp only [go1,srows_len,ilt_self]
  rw[List.take_length]at hi
  rw[decT hi.2]
theorem all_loop {τ α:Type}{b:List D→Option (List D ⊕ α)}{r0 r1:α}(p:τ→Bool)(l:List τ)(mk:Nat→List D)
  (hb: ∀i x,l[i]? =some x→b (mk i)=bif p x then some (.inl (mk (i+1)))else some (.inr r0))
  (hend:l.all p=true→b (mk l.length)=some (.inr r1)):loopF b (mk 0)=some (bif l.all p then r1 else r0):=by
 suffices ∀(rest:List τ) (i:Nat),l.drop i=rest→i≤l.length→(l.take i).all p=true→loopF b (mk i)=some (bif rest.all p then r1 else r0)from this l 0 rfl (Nat.zero_le _) rfl
 intro rest
 induction rest with
 |nil=>
  intro i hd hi ht
  have:i=l.length:=by have:=congrArg List.length hd;simp at this;omega
  subst this
  rw[List.take_length]at ht
  rw[loopF_eq,hend ht]
  rfl
 |cons x xs ih=>
  intro i hd hi ht
  have hx:l[i]? =some x:=by
   have:=congrArg (fun r=>r[0]?) hd
   simpa using this
  have hlt:i < l.length:=(List.getElem?_eq_some_iff.1 hx).1
  have hxs:l.drop (i+1)=xs:=by
   have:=congrArg List.tail hd
   simpa using this
  rw[loopF_eq,hb i x hx]
  cases hp:p x with
  |false=>simp [List.all_cons,hp]
  |true=>
   simp only [cond_true,List.all_cons,hp,Bool.true_and]
   refine ih (i+1) hxs hlt ?_
   rw[List.take_add_one,hx,List.all_append,ht]
   simp [hp]
theorem all_loop2 {τ α:Type}{b:List D→Option (List D ⊕ α)}{r0 r1 r:α}{ds:List D}(p:τ→Bool)(l:List τ)(mk:Nat→List D)(h0:mk 0=ds)
  (hb: ∀i x,l[i]? =some x→b (mk i)=bif p x then some (.inl (mk (i+1)))else some (.inr r0))
  (hend:l.all p=true→b (mk l.length)=some (.inr r1)) (hr:(bif l.all p then r1 else r0)=r):loopF b ds=some r:=by
 rw[←h0,all_loop p l mk hb hend,hr]
theorem row_of {l:List Ex}{i:Nat}{k n:Int}{s:ByteArray}{o:Int}{a:List ByteArray}{u:List Ex}(h:l[i]? =some (.mk k n s o a u)):sy.row (Ex.rows l) (i:Int)= [.int .i64 k, .int .i64 n, .str s, .int .i64 o, .sl 1 (srows a), .sl 6 (Ex.rows u)]:=xrow h
theorem u_len {l:List Ex}{i:Nat}{k n:Int}{s:ByteArray}{o:Int}{a:List ByteArray}{u:List Ex}(h:l[i]? =some (.mk k n s o a u))(hl:Ex.sizes l≤1000000):u.length≤1000000:=by
 have h1:=sizes_mem h
 have h2:=sizes_len u
 simp only [Ex.size]at h1
 omega
theorem c_eConst1 (k n:Int)(s:ByteArray)(o:Int)(a:List ByteArray)(u:List Ex)(hu:u.length≤1000000):cF 145 [kE k n s o (srows a) (Ex.rows u)]=some (.val [.bool (!litS (.mk k n s o a u))]):=by
 have h:=c_eliteral k n s o a u hu
 refine cOf (by kernel_rfl) rfl ?_
 rw[g145_eq]
 simp only [g145,go1,h]
theorem c_xIdxEx (l:List Ex)(hl:Ex.sizes l≤1000000): ∃i:Int,cF 166 [.d (.sl 6 (Ex.rows l)), .fn 145 []]=some (.val [.int .i64 i])∧decide (0≤i)=l.any fun s=> !litS s:=by
 have hlen:=sizes_len l
 cases hall:l.any fun s=> !litS s with
 |false=>
  refine⟨-1,?_,rfl⟩
  refine cOf (by kernel_rfl) rfl ?_
  rw[g166_145_eq]
  simp only [g166_145,go1,rows_len]
  refine loopF_at (fun i:Nat=>[.sl 6 (Ex.rows l), .int .i64 (l.length:Int), .int .i64 (i:Int)]) (fun i=>i≤l.length) (fun i=>l.length - i) (fun i hi=> ?_) 0 (Nat.zero_le _)
  by_cases hlt:i < l.length
  ·left
   refine⟨i+1,?_,hlt,by omega⟩
   have hx:=List.getElem?_eq_getElem hlt
   have h0:(!litS l[i])=false:=by
    have:=(List.any_eq_false.1 hall) l[i] (List.getElem_mem hlt)
    simpa using this
   generalize l[i]=e at hx h0
   obtain⟨k,n,s,o,a,u⟩:=e
   have h:=c_eConst1 k n s o a u (u_len hx hl)
   simp only [go1,rows_len,ilt_at hlt,inr_at hlt,row_of hx,oE,h,h0,wrap_succ hlt (by omega)]
   rfl
  ·right
   have:i=l.length:=by omega
   subst this
   simp only [go1,ilt_self]
 |true=>
  have hj:=List.findIdx_lt_length_of_exists (List.any_eq_true.1 hall)
  refine⟨((l.findIdx fun s=> !litS s:Nat):Int),?_,decide_eq_true (Int.natCast_nonneg _)⟩
  have hpj:=List.findIdx_getElem (w:=hj)
  generalize hJ:(l.findIdx fun s=> !litS s)=j at hj hpj
  refine cOf (by kernel_rfl) rfl ?_
  rw[g166_145_eq]
  simp only [g166_145,go1,rows_len]
  refine loopF_at (fun i:Nat=>[.sl 6 (Ex.rows l), .int .i64 (l.length:Int), .int .i64 (i:Int)]) (fun i=>i≤j) (fun i=>l.length - i) (fun i hi=> ?_) 0 (Nat.zero_le _)
  have hlt:i < l.length:=by omega
  have hx:=List.getElem?_eq_getElem hlt
  by_cases hij:i < j
  ·left
   refine⟨i+1,?_,hij,by omega⟩
   have h0:(!litS l[i])=false:=by
    have:=List.not_of_lt_findIdx (p:=fun s=> !litS s) (xs:=l) (i:=i) (by omega)
    simpa using this
   generalize l[i]=e at hx h0
   obtain⟨k,n,s,o,a,u⟩:=e
   have h:=c_eConst1 k n s o a u (u_len hx hl)
   simp only [go1,rows_len,ilt_at hlt,inr_at hlt,row_of hx,oE,h,h0,wrap_succ hlt (by omega)]
   rfl
  ·right
   have:i=j:=by omega
   subst this
   have h0:(!litS l[i])=true:=hpj
   generalize l[i]=e at hx h0
   obtain⟨k,n,s,o,a,u⟩:=e
   have h:=c_eConst1 k n s o a u (u_len hx hl)
   simp only [go1,rows_len,ilt_at hlt,inr_at hlt,row_of hx,oE,h,h0]
theorem c_xContEx (l:List Ex)(hl:Ex.sizes l≤1000000):cF 144 [.d (.sl 6 (Ex.rows l)), .fn 145 []]=some (.val [.bool (!l.all litS)]):=by
 obtain⟨i,h1,h2⟩:=c_xIdxEx l hl
 refine cOf (by kernel_rfl) rfl ?_
 rw[g144_145_eq]
 simp only [g144_145,go1,h1]
 rw[h2,List.not_all_eq_any_not]
theorem c_eConst (k n:Int)(s:ByteArray)(o:Int)(a:List ByteArray)(u:List Ex)(hu:Ex.sizes u≤1000000):cF 119 [kE k n s o (srows a) (Ex.rows u)]=some (.val [.bool (constS (.mk k n s o a u))]):=by
 have hl:=sizes_len u
 have h1:=c_eliteral k n s o a u (by omega)
 have h2:=c_xContEx u hu
 refine cOf (by kernel_rfl) rfl ?_
 rw[g119_eq]
 simp only [g119,go1,h1,h2]
 by_cases hk:k=14
 ·simp only [constS,decT hk,go1]
 ·simp only [constS,decF hk,go1]
theorem c_reConst (k n:Int)(s:ByteArray)(o:Int)(a:List ByteArray)(u:List Ex)(hu:Ex.sizes u≤1000000):cF 75 [kE k n s o (srows a) (Ex.rows u)]=some (.val [.bool (constS (.mk k n s o a u))]):=by
 have hl:=sizes_len u
 have h1:=c_rliteral k n s o a u (by omega)
 refine cOf (by kernel_rfl) rfl ?_
 rw[g75_eq]
 simp only [g75,go1,h1]
 by_cases hk:k=14
 ·simp only [constS,decT hk,go1]
  refine all_loop2 litS u (fun i:Nat=>[.int .i64 (i:Int), .int .i64 k, .int .i64 n, .str s, .int .i64 o, .sl 1 (srows a), .sl 6 (Ex.rows u)]) rfl (r0:= .val [.bool false]) (r1:= .val [.bool true]) (fun i e hx=> ?_) (fun _=> ?_) (by cases u.all litS<;>rfl)
  ·have hlt:=(List.getElem?_eq_some_iff.1 hx).1
   obtain⟨k2,n2,s2,o2,a2,u2⟩:=e
   have h:=c_rliteral k2 n2 s2 o2 a2 u2 (u_len hx hu)
   simp only [go1,Nat.reduceAdd,oE,rows_len,ilt_at hlt,inr_at hlt,row_of hx,h]
   cases litS (.mk k2 n2 s2 o2 a2 u2)with
   |true=>simp only [go1,wrap_succ hlt (by omega)];rfl
   |false=>rfl
  ·simp only [go1,Nat.reduceAdd,oE,rows_len,ilt_self]
 ·simp only [constS,decF hk,go1]
end Go.Vm
end

section
set_option linter.all false
set_option maxRecDepth 100000
set_option maxHeartbeats 4000000
namespace Go.Vm
open Go.Proofs
theorem arms_eq (k:Int)(a:List ByteArray):((!(decide ((if k=11 then(1:Int)else if k=12 then 6 else 0) < (a.length:Int)) || (decide (0 < (if k=11 then(1:Int)else if k=12 then 6 else 0))&&decide ((a.length:Int)=0))))&&(decide a.Nodup&&a.all armN))=armsB k a:=by
 unfold armsB
 by_cases h1:k=11
 ·subst h1
  match a with
  | []=>rfl
  | [x]=>simp
  |x::y::r=>
   have:decide ((1:Int) < ((x::y::r).length:Int))=true:=decide_eq_true (by simp only [List.length_cons];omega)
   have h2:decide ((x::y::r).length=1)=false:=decide_eq_false (by simp only [List.length_cons];omega)
   simp only [if_true,this,Bool.true_or,Bool.not_true,Bool.false_and,decide_true,cond_true,h2,Bool.and_false]
 ·by_cases h2:k=12
  ·subst h2
   have e1:decide ((6:Int) < (a.length:Int))= !decide (a.length≤6):=by rw[Bool.eq_iff_iff];simp;omega
   have e2:decide ((a.length:Int)=0)= !decide (1≤a.length):=by rw[Bool.eq_iff_iff];simp;try omega
   have e3:decide ((12:Int)=11)=false:=rfl
   have e4:decide ((0:Int) < 6)=true:=rfl
   simp only [if_neg h1,if_true,e1,e2,e3,e4,decide_true,cond_true,cond_false,Bool.true_and]
   cases decide (a.length≤6)<;>cases decide (1≤a.length)<;>cases decide a.Nodup<;>cases a.all armN<;>rfl
  ·have e4:decide ((0:Int) < 0)=false:=rfl
   simp only [if_neg h1,if_neg h2,decF h1,decF h2,cond_false,e4,Bool.false_and,Bool.or_false]
   match a with
   | []=>rfl
   |x::r=>
    have h3:decide ((0:Int) < ((x::r).length:Int))=true:=decide_eq_true (by simp only [List.length_cons];omega)
    have h4:decide ((x::r).length=0)=false:=rfl
    rw[h3,h4];try simp
theorem nlt (a b:Int):decide (a < b)= !decide (b≤a):=by
 rw[Bool.eq_iff_iff];simp
theorem c_epart (k n:Int)(s:ByteArray)(o:Int)(a:List ByteArray)(u:List Ex)(hs:s.size≤100000)(ha:a.length≤1000000)(hu:Ex.sizes u≤1000000):
  cF 84 [kE k n s o (srows a) (Ex.rows u)]=some (.val [.bool (partB (.mk k n s o a u))]):=by
 have h1:=c_eof k n s o a (Ex.rows u) hs
 have h2:=c_iOnce a ha
 have h3:=c_xContFn a ha
 have h4:=rows_len u
 have h5:=srows_len a
 simp only [partB]
 rw[←arms_eq]
 refine cOf (by kernel_rfl) rfl ?_
 rw[g84_eq]
 simp only [g84,go1,Int.reduceLE,h1,h2,h3,h4,h5]
 cases hk:kindB k with
 |false=>simp only [go1,oQ];try rfl
 |true=>
  simp only [go1,oQ,nlt]
  cases numB k n with
  |false=>simp only [go1];try rfl
  |true=>
   cases nameB k s with
   |false=>simp only [go1];try rfl
   |true=>
    cases opB_ k o with
    |false=>simp only [go1];try rfl
    |true=>
     simp only [go1]
     cases hlo:decide (loB k n a.length≤(u.length:Int))with
     |false=>simp only [go1]
     |true=>
      generalize (if k=11 then(1:Int)else if k=12 then 6 else 0)=M
      generalize (!decide ((a.length:Int)≤M) || !decide (M≤0)&&decide ((a.length:Int)=0))=X
      cases decide ((u.length:Int)≤hiB k n a.length)with
      |false=>simp only [go1]
      |true=>
       cases X with
       |true=>simp only [go1]
       |false=>
        cases decide a.Nodup with
        |false=>simp only [go1]
        |true=>
         cases a.all armN with
         |false=>simp only [go1]
         |true=>
          simp only [go1]
          by_cases h8:k=8
          ·subst h8
           match u,hlo,hu with
           | [],hlo,_=>cases hlo
           | .mk k2 n2 s2 o2 a2 u2::u,hlo,hu=>
             have hx:(Ex.mk k2 n2 s2 o2 a2 u2::u)[0]? =some (.mk k2 n2 s2 o2 a2 u2):=rfl
             have hc:=c_eConst k2 n2 s2 o2 a2 u2 (by simp only [Ex.sizes,Ex.size]at hu;omega)
             have hr:sy.row (Ex.rows (.mk k2 n2 s2 o2 a2 u2::u)) 0= [.int .i64 k2, .int .i64 n2, .str s2, .int .i64 o2, .sl 1 (srows a2), .sl 6 (Ex.rows u2)]:=row_of hx
             have hz:decide (((Ex.mk k2 n2 s2 o2 a2 u2::u).length:Int)≤0)=false:=decide_eq_false (by simp only [List.length_cons];omega)
             simp only [go1,hz,hr,oE,hc,conB]
          ·simp only [go1,decF h8,conB]
end Go.Vm
end

section
set_option linter.all false
set_option maxRecDepth 100000
set_option maxHeartbeats 4000000
namespace Go.Vm
open Go.Proofs
theorem drop_at {l:List Nat}{f i:Nat}(hf:f≤i)(hi:i < l.length):l.drop f=(l.take i).drop f++l.getD i 0::l.drop (i+1):=by
 have h1:l=l.take i++l.getD i 0::l.drop (i+1):=by
  rw[List.getD_eq_getElem?_getD,List.getElem?_eq_getElem hi]
  simp only [Option.getD_some]
  rw[List.getElem_cons_drop hi,List.take_append_drop]
 conv=>lhs;rw[h1]
 rw[List.drop_append_of_le_length (by rw[List.length_take];omega)]
theorem take_drop_snoc {l:List Nat}{f i:Nat}(hf:f≤i)(hi:i < l.length):(l.take (i+1)).drop f=(l.take i).drop f++[l.getD i 0]:=by
 rw[List.take_add_one,List.getElem?_eq_getElem hi,List.getD_eq_getElem?_getD,List.getElem?_eq_getElem hi]
 simp only [Option.toList_some,Option.getD_some]
 rw[List.drop_append_of_le_length (by rw[List.length_take];omega)]
theorem c_rcut (s:ByteArray)(c:Nat)(hs:s.size≤100000): ∃l:List ByteArray,cF 69 [.d (.str s), .d (.int .u8 (c:Int))]=some (.own 9 1 (srows l))∧l.map tb=splitN c (tb s):=by
 have hl:=tb_len s
 suffices ∃p,cF 69 [.d (.str s), .d (.int .u8 (c:Int))]=some p∧ ∃l:List ByteArray,p= .own 9 1 (srows l)∧l.map tb=splitN c (tb s) by
  obtain⟨_,h,l,rfl,hl⟩:=this
  exact⟨l,h,hl⟩
 refine cOfP (by kernel_rfl) rfl ?_
 rw[g69_eq]
 simp only [g69,go1,Nat.reduceAdd]
 refine loopF_ex (fun x:List ByteArray × Nat × Nat=>[.str s, .int .u8 (c:Int), .int .i64 (x.2.1:Int), .int .i64 (x.2.2:Int), .sl 1 (srows x.1)])
  (fun x=>x.1.length≤x.2.2∧((x.2.2≤(tb s).length∧x.2.1≤x.2.2∧splitN c (tb s)=x.1.map tb++splitN c ((tb s).drop x.2.1)∧ ∀y∈((tb s).take x.2.2).drop x.2.1,y≠c)∨(x.2.2=(tb s).length+1∧x.1.map tb=splitN c (tb s)))) (fun x=>(tb s).length+1 - x.2.2) (fun x hx=> ?_) ([],0,0) ⟨Nat.le_refl _, .inl ⟨Nat.zero_le _,Nat.le_refl _,rfl,by simp⟩⟩
 obtain⟨done,f,i⟩:=x
 obtain⟨hd,hx⟩:=hx
 simp only at hd hx
 rcases hx with⟨hi,hf,h1,h2⟩|⟨hi,h1⟩
 ·have hw:IntKind.i64.wrap ((i:Int)+1)=((i+1:Nat):Int):=by rw[wrap_id (by omega) (by omega)];rfl
  have hfit:decide ((done.length+1)*(16+1)≤140737488355328)=true:=decT (by omega)
  by_cases hlt:i < (tb s).length
  ·simp only [go1,size_tb,byte_tb,srows_len,hw]
   rw[decT (p:=(i:Int)≤((tb s).length:Int)) (by omega),decF (p:=(i:Int)=((tb s).length:Int)) (by omega),decT (p:=0≤(i:Int)∧(i:Int) < ((tb s).length:Int)) (by omega)]
   by_cases hc:(tb s).getD i 0=c
   ·left
    refine⟨(done++[s.extract (f:Int).toNat (i:Int).toNat],i+1,i+1),?_,⟨?_, .inl ⟨hlt,Nat.le_refl _,?_,?_⟩⟩,(by show(tb s).length+1 - (i+1) < (tb s).length+1 - i;omega)⟩
    ·rw[decT (p:=(((tb s).getD i 0:Nat):Int)=(c:Int)) (by omega),decT (p:=0≤(f:Int)∧(f:Int)≤(i:Int)∧(i:Int)≤((tb s).length:Int)) (by omega)]
     simp only [go1,List.length_singleton,hfit,srows,List.map_append,List.map_cons,List.map_nil,srow]
    ·simp;omega
    ·simp only
     rw[h1,drop_at hf hlt,hc,splitN_mark c _ _ h2,List.map_append,List.map_cons,List.map_nil,tb_scut,Int.toNat_natCast,Int.toNat_natCast]
     simp
    ·intro y hy
     simp only at hy
     rw[List.drop_of_length_le (by rw[List.length_take];omega)]at hy
     simp at hy
   ·left
    refine⟨(done,f,i+1),?_,⟨(by show done.length≤i+1;omega), .inl ⟨hlt,(by show f≤i+1;omega),h1,?_⟩⟩,(by show(tb s).length+1 - (i+1) < (tb s).length+1 - i;omega)⟩
    ·rw[decF (p:=(((tb s).getD i 0:Nat):Int)=(c:Int)) (by omega)]
     simp only [go1];try rfl
    ·intro y hy
     simp only at hy
     rw[take_drop_snoc hf hlt]at hy
     rcases List.mem_append.1 hy with hy|hy
     ·exact h2 y hy
     ·simp at hy;rw[hy];simpa using hc
  ·have hie:i=(tb s).length:=by omega
   left
   refine⟨(done++[s.extract (f:Int).toNat (i:Int).toNat],i+1,i+1),?_,⟨(by simp;omega), .inr ⟨(by show i+1=(tb s).length+1;omega),?_⟩⟩,(by show(tb s).length+1 - (i+1) < (tb s).length+1 - i;omega)⟩
   ·simp only [go1,size_tb,srows_len,hw]
    rw[decT (p:=(i:Int)≤((tb s).length:Int)) (by omega),decT (p:=(i:Int)=((tb s).length:Int)) (by omega),decT (p:=0≤(f:Int)∧(f:Int)≤(i:Int)∧(i:Int)≤((tb s).length:Int)) (by omega)]
    simp only [go1,List.length_singleton,hfit,srows,List.map_append,List.map_cons,List.map_nil,srow]
   ·simp only
    rw[hie,List.take_length]at h2
    rw[h1,splitN_none c _ h2,List.map_append,List.map_cons,List.map_nil,tb_scut,Int.toNat_natCast,Int.toNat_natCast,hie,List.take_length]
 ·right
  simp only [go1,size_tb]
  rw[decF (p:=(i:Int)≤((tb s).length:Int)) (by omega)]
  exact⟨_,rfl,done,rfl,h1⟩
theorem num_split (l:List Nat):numN l=(!(decide (l.length < 1) || decide (3 < l.length) || decide (l.getD 0 0=48))&&l.all digitN):=by
 unfold numN
 by_cases h1:1≤l.length
 ·by_cases h3:l.length≤3
  ·rw[decT h1,decT h3,decF (p:=l.length < 1) (by omega),decF (p:=3 < l.length) (by omega)];simp
  ·rw[decT h1,decF h3,decF (p:=l.length < 1) (by omega),decT (p:=3 < l.length) (by omega)];simp
 ·rw[decF h1,decT (p:=l.length < 1) (by omega)];simp
theorem c_rPath (s:ByteArray)(hs:s.size≤100000):cF 31 [.d (.str s)]=some (.val [.bool (pathN (tb s))]):=by
 obtain⟨l,h,hl⟩:=c_rcut s 47 hs
 have hsz:=mem_size hl
 have hll:l.length≤100001:=by
  have:=congrArg List.length hl
  rw[List.length_map,splitN_len]at this
  have h2:(tb s).count 47≤(tb s).length:=List.count_le_length
  rw[tb_len]at h2
  omega
 unfold pathN
 rw[←hl,List.all_map]
 have h:cF 69 [.d (.str s), .d (.int .u8 47)]=_:=h
 refine cOf (by kernel_rfl) rfl ?_
 rw[g31_eq]
 simp only [g31,go1,Int.reduceLE,h]
 refine loopF_at (fun i:Nat=>[.sl 1 (srows l), .int .i64 (i:Int)]) (fun i=>i≤l.length∧(l.take i).all (partN ∘ tb)=true) (fun i=>l.length - i) (fun i hi=> ?_) 0 ⟨Nat.zero_le _,by simp⟩
 by_cases hlt:i < l.length
 ·have hx:=List.getElem?_eq_getElem hlt
  have hgd:l.getD i ByteArray.empty=l[i]:=by rw[List.getD_eq_getElem?_getD,hx];rfl
  have hxs:=Nat.le_trans (hsz _ (List.getElem_mem hlt)) hs
  generalize hxe:l[i]=x at hx hgd hxs
  obtain⟨ps,hp,hps⟩:=c_rcut x 46 hxs
  have hp:cF 69 [.d (.str x), .d (.int .u8 46)]=_:=hp
  have hbad:partN (tb x)=false→l.all (partN ∘ tb)=false:=fun hb=>all_false (d:=ByteArray.empty) hlt (by rw[hgd];exact hb)
  have hgood:partN (tb x)=true→(i+1≤l.length∧(l.take (i+1)).all (partN ∘ tb)=true):=fun hb=>⟨hlt,all_snoc (d:=ByteArray.empty) hlt hi.2 (by rw[hgd];exact hb)⟩
  have hpe:partN (tb x)=match ps.map tb with
   | [a]=>lowN a
   | [a,b]=>lowN a&&numN b
   |_=>false:=by rw[hps];rfl
  have hpl:=splitN_len 46 (tb x)
  rw[←hps,List.length_map]at hpl
  have hsub: ∀y∈ps,y.size≤100000:=by
   have key: ∀(t:List Nat),∀p∈splitN 46 t,p.length≤t.length:=by
    intro t
    induction t with
    |nil=>intro p hp;simp [splitN]at hp;simp [hp]
    |cons x xs ih=>
     intro p hp
     unfold splitN at hp
     split at hp
     ·rcases List.mem_cons.1 hp with rfl|hp
      ·simp
      ·have:=ih p hp;simp;omega
     ·split at hp
      ·simp at hp;simp [hp]
      ·rename_i q qs hq
       rcases List.mem_cons.1 hp with rfl|hp
       ·have:=ih q (by rw[hq];exact List.mem_cons_self);simp;omega
       ·have:=ih p (by rw[hq];exact List.mem_cons_of_mem _ hp);simp;omega
   intro y hy
   have:=key (tb x) (tb y) (by rw[←hps];exact List.mem_map_of_mem hy)
   rw[tb_len,tb_len]at this
   omega
  simp only [go1,srows_len,ilt_at hlt,inr_at hlt,srows_at hx,hp]
  match ps,hpe,hpl,hsub with
  | [],_,hpl,_=>simp at hpl
  | [a],hpe,_,hsub=>
    have ha:=c_rLow a (hsub a List.mem_cons_self)
    simp only [List.map_cons,List.map_nil]at hpe
    simp only [List.length_singleton,srows,List.map_cons,List.map_nil,srow,sy_row,go1,List.getD_cons_zero,Int.toNat_zero,ha,hpe.symm]
    cases hb:partN (tb x)with
    |false=>
     right
     rw[hbad hb];rfl
    |true=>
     left
     refine⟨i+1,?_,hgood hb,by omega⟩
     rw[wrap_succ hlt (by omega)];rfl
  | [a,b],hpe,_,hsub=>
    have ha:=c_rLow a (hsub a List.mem_cons_self)
    have hbl:=tb_len b
    have hbs:=hsub b (by simp)
    simp only [List.map_cons,List.map_nil]at hpe
    rw[num_split]at hpe
    have hr1:sy.row (srows [a,b]) 1= [.str b]:=rfl
    have hr0:sy.row (srows [a,b]) 0= [.str a]:=rfl
    simp only [List.length_cons,List.length_nil,hr0,hr1,go1,Nat.reduceAdd,ha,size_tb,byte_tb0]
    cases hla:lowN (tb a)with
    |false=>
     right
     rw[hla,Bool.false_and]at hpe
     rw[hbad hpe];rfl
    |true=>
     rw[hla,Bool.true_and]at hpe
     have e1:decide (((tb b).length:Int) < 1)=decide ((tb b).length < 1):=by rw[Bool.eq_iff_iff];simp only [decide_eq_true_eq];omega
     have e3:decide (3 < ((tb b).length:Int))=decide (3 < (tb b).length):=by rw[Bool.eq_iff_iff];simp only [decide_eq_true_eq];omega
     have e4:decide ((((tb b).getD 0 0:Nat):Int)=48)=decide ((tb b).getD 0 0=48):=by rw[Bool.eq_iff_iff];simp only [decide_eq_true_eq];omega
     simp only [go1,e1,e3,e4]
     by_cases q1:(tb b).length < 1
     ·right
      rw[decT q1]at hpe ⊢
      rw[hbad (by rw[hpe];simp)];rfl
     by_cases q3:3 < (tb b).length
     ·right
      rw[decF q1,decT q3]at hpe ⊢
      rw[hbad (by rw[hpe];simp)];rfl
     rw[decF q1,decF q3]at hpe ⊢
     rw[decT (p:=0 < ((tb b).length:Int)) (by omega)]
     by_cases q4:(tb b).getD 0 0=48
     ·right
      rw[decT q4]at hpe ⊢
      rw[hbad (by rw[hpe];simp)];rfl
     rw[decF q4]at hpe ⊢
     simp only [go1]at hpe ⊢
     cases had:(tb b).all digitN with
     |true=>
      left
      rw[had]at hpe
      refine⟨i+1,?_,hgood hpe,by omega⟩
      refine loopF_at (r:=Sum.inl [D.sl 1 (srows l),D.int .i64 ((i+1:Nat):Int)]) (fun k:Nat=>[.sl 1 (srows l), .int .i64 (i:Int), .str b, .int .i64 (k:Int)]) (fun k=>k≤(tb b).length) (fun k=>(tb b).length - k) (fun k hk=> ?_) 0 (Nat.zero_le _)
      by_cases hkl:k < (tb b).length
      ·left
       refine⟨k+1,?_,hkl,by omega⟩
       have hdg:digitN ((tb b).getD k 0)=true:=by
        rw[List.getD_eq_getElem?_getD,List.getElem?_eq_getElem hkl]
        exact List.all_eq_true.1 had _ (List.getElem_mem hkl)
       simp only [go1,ilt_at hkl,inr_at hkl,byte_tb,c_in,inI_digit,hdg,wrap_succ hkl (by omega)]
       try rfl
      ·right
       have:k=(tb b).length:=by omega
       subst this
       simp only [go1,ilt_self,wrap_succ hlt (by omega)]
       try rfl
     |false=>
      right
      rw[had]at hpe
      rw[hbad hpe]
      refine loopF_at (r:=Sum.inr (PRes.val [D.bool false])) (fun k:Nat=>[.sl 1 (srows l), .int .i64 (i:Int), .str b, .int .i64 (k:Int)]) (fun k=>k≤(tb b).length∧((tb b).take k).all digitN=true) (fun k=>(tb b).length - k) (fun k hk=> ?_) 0 ⟨Nat.zero_le _,by simp⟩
      by_cases hkl:k < (tb b).length
      ·cases hdg:digitN ((tb b).getD k 0)with
       |true=>
        left
        refine⟨k+1,?_,⟨hkl,all_snoc hkl hk.2 hdg⟩,by omega⟩
        simp only [go1,ilt_at hkl,inr_at hkl,byte_tb,c_in,inI_digit,hdg,wrap_succ hkl (by omega)]
        try rfl
       |false=>
        right
        simp only [go1,ilt_at hkl,inr_at hkl,byte_tb,c_in,inI_digit,hdg]
        try rfl
      ·exfalso
       have:k=(tb b).length:=by omega
       rw[this,List.take_length,had]at hk
       exact absurd hk.2 (by simp)
  |_::_::_::r,hpe,_,_=>
   right
   have:partN (tb x)=false:=hpe
   rw[hbad this]
   rw[decT (p:=2 < (((_::_::_::r:List ByteArray).length:Nat):Int)) (by simp;omega)]
   rfl
 ·right
  have:i=l.length:=by omega
  subst this
  simp only [go1,srows_len,ilt_self]
  rw[List.take_length]at hi
  rw[hi.2]
theorem c_rnameG (s:ByteArray)(hs:s.size≤100000):cF 101 [.d (.str s), .d (.int .u8 65), .d (.int .u8 90)]=some (.val [.bool (nameN greatN (tb s))]):=by
 have hl:=tb_len s
 by_cases h1:1≤(tb s).length∧(tb s).length≤12
 ·have hc:=c_in (((tb s).getD 0 0:Nat):Int) 65 90
  rw[inI_great]at hc
  refine cOf (by kernel_rfl) rfl ?_
  rw[g101_eq]
  simp only [g101,go1,Int.reduceLE,size_tb,byte_tb0,hc]
  rw[decF (p:=((tb s).length:Int) < 1) (by omega),decF (p:=12 < ((tb s).length:Int)) (by omega),decT (p:=0 < ((tb s).length:Int)) (by omega)]
  cases hs0:greatN ((tb s).getD 0 0)with
  |false=>rw[nameN_first hs0];rfl
  |true=>
   simp only [go1]
   refine loopF_at (fun p:Nat=>[.str s, .int .i64 (p:Int)]) (fun p=>p≤(tb s).length∧((tb s).take p).all innerN=true) (fun p=>(tb s).length - p) (fun p hp=> ?_) 0 ⟨Nat.zero_le _,by simp⟩
   by_cases hlt:p < (tb s).length
   ·have hi:=inner_def ((tb s).getD p 0)
    simp only [go1,ilt_at hlt,inr_at hlt,byte_tb,c_in,inI_small,inI_great,inI_digit,wrap_succ hlt (by omega)]
    cases hin:innerN ((tb s).getD p 0)with
    |false=>
     right
     rw[nameN_bad hlt hin]
     rw[hin]at hi
     have hi:=hi.symm
     simp only [Bool.or_eq_false_iff]at hi
     obtain⟨⟨⟨i1,i2⟩,i3⟩,i4⟩:=hi
     have i4': ¬(((tb s).getD p 0:Nat):Int)=95:=by
      have:=of_decide_eq_false i4;omega
     rw[decF i4']
     simp only [i1,i2,i3,go1]
     try rfl
    |true=>
     left
     refine⟨p+1,?_,⟨hlt,all_snoc hlt hp.2 hin⟩,by omega⟩
     rw[hin]at hi
     cases i1:smallN ((tb s).getD p 0)<;>cases i2:greatN ((tb s).getD p 0)<;>cases i3:digitN ((tb s).getD p 0)<;>rw[i1,i2,i3]at hi<;>simp only [go1]<;>(try rfl)
     all_goals
      simp only [Bool.or_self,Bool.false_or]at hi
      have i4:=of_decide_eq_true hi.symm
      rw[decT (p:=(((tb s).getD p 0:Nat):Int)=95) (by omega)]
      rfl
   ·right
    have:p=(tb s).length:=by omega
    subst this
    simp only [go1,ilt_self]
    rw[List.take_length]at hp
    unfold nameN
    rw[hp.2,hs0,decT h1.1,decT h1.2]
    rfl
 ·have hn:nameN greatN (tb s)=false:=by
   unfold nameN
   by_cases h:1≤(tb s).length
   ·rw[decF (p:=(tb s).length≤12) (by omega)];simp
   ·rw[decF h];simp
  rw[hn]
  refine cOf (by kernel_rfl) rfl ?_
  rw[g101_eq]
  simp only [g101,go1,Int.reduceLE,size_tb]
  by_cases h:1≤(tb s).length
  ·rw[decT (p:=12 < ((tb s).length:Int)) (by omega)];simp only [go1];try rfl
  ·rw[decT (p:=((tb s).length:Int) < 1) (by omega)];simp only [go1];try rfl
theorem c_rHigh (s:ByteArray)(hs:s.size≤100000):cF 63 [.d (.str s)]=some (.val [.bool (highN (tb s))]):=by
 have:=c_rnameG s hs
 refine cOf (by kernel_rfl) rfl ?_
 rw[g63_eq]
 simp only [g63,go1,this]
 rfl
end Go.Vm
end

section
set_option linter.all false
set_option maxRecDepth 100000
set_option maxHeartbeats 4000000
namespace Go.Vm
open Go.Proofs
theorem or0 (o:Int):(!decide (0≤o) || !decide (o≤0))= !decide (o=0):=by
 rw[Bool.eq_iff_iff];simp;omega
theorem c_renumbers (k n:Int)(s:ByteArray)(o:Int)(a u:List (List D)):cF 71 [kE k n s o a u]=some (.val [.bool (opB_ k o&&numB k n)]):=by
 have key:k=5∨k=6∨k=1∨k=2∨k=13∨(k≠5∧k≠6∧k≠1∧k≠2∧k≠13):=by omega
 rcases key with rfl|rfl|rfl|rfl|rfl|⟨h1,h2,h3,h4,h5⟩
 all_goals refine cOf (by kernel_rfl) rfl ?_
 all_goals rw[g71_eq]
 all_goals simp only [g71,go1,Int.reduceEq,nlt,opB_,numB,Int.reduceEq,or0 o]
 ·cases decide (1≤o)<;>cases decide (o≤2)<;>rfl
 ·cases decide (3≤o)<;>cases decide (o≤16)<;>rfl
 ·cases decide (o=0)<;>rfl
 ·cases decide (o=0)<;>cases decide (n=0)<;>cases decide (n=1)<;>rfl
 ·cases decide (o=0)<;>cases decide (n=0)<;>cases decide (n=1)<;>rfl
 ·simp only [decF h1,decF h2,decF h3,decF h4,decF h5,go1,Bool.or_self]
  cases decide (o=0)<;>rfl
theorem c_renamed (k n:Int)(s:ByteArray)(o:Int)(a u:List (List D))(hs:s.size≤100000):cF 72 [kE k n s o a u]=some (.val [.bool (nameB k s)]):=by
 have q1:=c_rLow s hs
 have q2:=c_rHigh s hs
 have q3:=c_rPath s hs
 have key:k=3∨k=11∨k=12∨k=13∨k=4∨k=17∨(k≠3∧k≠11∧k≠12∧k≠13∧k≠4∧k≠17):=by omega
 rcases key with rfl|rfl|rfl|rfl|rfl|rfl|⟨h1,h2,h3,h4,h5,h6⟩
 all_goals refine cOf (by kernel_rfl) rfl ?_
 all_goals rw[g72_eq]
 all_goals simp only [g72,go1,Int.reduceEq,nameB,Int.reduceEq,q1,q2,q3,seq_tb]
 all_goals (try rfl)
 simp only [decF h1,decF h2,decF h3,decF h4,decF h5,decF h6,go1,Bool.or_self]
 rfl
theorem c_rearm (s:ByteArray)(hs:s.size≤100000):cF 106 [.d (.str s)]=some (.val [.bool (armN s)]):=by
 have h:=c_rHigh s hs
 refine cOf (by kernel_rfl) rfl ?_
 rw[g106_eq]
 simp only [g106,go1,h,seq_tb]
 unfold armN
 cases highN (tb s)<;>cases h1:decide (tb s=tb bTrue)<;>cases h2:decide (tb s=tb bFalse)<;>(unfold bTrue at h1;unfold bFalse at h2;simp only [go1,h1,h2];try rfl)
theorem c_rearms (k n:Int)(s:ByteArray)(o:Int)(a:List ByteArray)(u:List (List D))(ha: ∀x∈a,x.size≤100000)(hl:a.length≤1000000):cF 73 [kE k n s o (srows a) u]=some (.val [.bool (armsB k a)]):=by
 have hO:=c_rOnce a hl
 refine cOf (by kernel_rfl) rfl ?_
 rw[g73_eq]
 simp only [g73,go1]
 refine all_loop2 armN a (fun i:Nat=>[.int .i64 (i:Int), .int .i64 k, .int .i64 n, .str s, .int .i64 o, .sl 1 (srows a), .sl 6 u]) rfl (r0:= .val [.bool false]) (r1:= .val [.bool (armsB k a)]) (fun i e hx=> ?_) (fun hall=> ?_) (by unfold armsB;cases a.all armN<;>rfl)
 ·have hlt:=(List.getElem?_eq_some_iff.1 hx).1
  have h:=c_rearm e (ha e (List.mem_of_getElem? hx))
  simp only [go1,Nat.reduceAdd,oE,srows_len,ilt_at hlt,inr_at hlt,srows_at hx,h]
  cases armN e with
  |true=>simp only [go1,wrap_succ hlt (by omega)];rfl
  |false=>rfl
 ·simp only [go1,Nat.reduceAdd,oE,srows_len,ilt_self,hO,armsB,hall]
  have e1:decide ((a.length:Int)=1)=decide (a.length=1):=by rw[Bool.eq_iff_iff];simp;try omega
  have e2:decide ((a.length:Int)=0)=decide (a.length=0):=by rw[Bool.eq_iff_iff];simp;try omega
  have e3:decide ((1:Int)≤(a.length:Int))=decide (1≤a.length):=by rw[Bool.eq_iff_iff];simp;try omega
  have e4:decide ((a.length:Int)≤6)=decide (a.length≤6):=by rw[Bool.eq_iff_iff];simp;try omega
  rw[e1,e2,e3,e4]
  by_cases h1:k=11
  ·simp only [decT h1,go1]
  ·by_cases h2:k=12
   ·simp only [decF h1,decT h2,go1]
    cases decide (1≤a.length)<;>cases decide (a.length≤6)<;>rfl
   ·simp only [decF h1,decF h2,go1]
theorem c_resubs (k n:Int)(s:ByteArray)(o:Int)(a:List ByteArray)(u:List (List D))(hn:k=13→n=0∨n=1):cF 74 [kE k n s o (srows a) u]=some (.val [.int .i64 (loB k n a.length), .int .i64 (hiB k n a.length)]):=by
 have h5:=srows_len a
 have key:(k=5∨k=10∨k=11∨k=6∨k=8∨k=9∨k=15∨k=7∨k=16∨k=12∨k=14)∨k=13∨(k≠5∧k≠10∧k≠11∧k≠6∧k≠8∧k≠9∧k≠15∧k≠7∧k≠16∧k≠12∧k≠14∧k≠13):=by omega
 rcases key with h|h|⟨h1,h2,h3,h4,h5,h6,h7,h8,h9,h10,h11,h12⟩
 ·rcases h with rfl|rfl|rfl|rfl|rfl|rfl|rfl|rfl|rfl|rfl|rfl
  all_goals refine cOf (by kernel_rfl) rfl ?_
  all_goals rw[g74_eq]
  all_goals simp only [g74,go1,Int.reduceEq,loB,hiB,Int.reduceEq,h5,or_self,or_true,true_or,if_true,if_false]
 ·subst h
  rcases hn rfl with rfl|rfl
  ·refine cOf (by kernel_rfl) rfl ?_
   rw[g74_eq]
   simp only [g74,go1,Int.reduceEq,Int.reduceAdd,loB,hiB]
   try rfl
  ·refine cOf (by kernel_rfl) rfl ?_
   rw[g74_eq]
   simp only [g74,go1,Int.reduceEq,Int.reduceAdd,loB,hiB]
   try rfl
 ·refine cOf (by kernel_rfl) rfl ?_
  rw[g74_eq]
  simp only [g74,go1,decF h1,decF h2,decF h3,decF h4,decF h5,decF h6,decF h7,decF h8,decF h9,decF h10,decF h11,decF h12]
  simp only [loB,hiB,h1,h2,h3,h4,h5,h6,h7,h8,h9,h10,h11,h12,or_self,if_false]
theorem c_repart (k n:Int)(s:ByteArray)(o:Int)(a:List ByteArray)(u:List Ex)(hs:s.size≤100000)(ha: ∀x∈a,x.size≤100000)(hl:a.length≤1000000)(hu:Ex.sizes u≤1000000):
  cF 38 [kE k n s o (srows a) (Ex.rows u)]=some (.val [.bool (partB (.mk k n s o a u))]):=by
 have h1:=c_renumbers k n s o (srows a) (Ex.rows u)
 have h2:=c_renamed k n s o (srows a) (Ex.rows u) hs
 have h3:=c_rearms k n s o a (Ex.rows u) ha hl
 have h4:=rows_len u
 simp only [partB]
 refine cOf (by kernel_rfl) rfl ?_
 rw[g38_eq]
 simp only [g38,go1,Int.reduceLE,h1,h2,h3,h4]
 have hkk:(decide (k < 1) || decide (17 < k))= !kindB k:=by
  unfold kindB;rw[nlt,nlt];cases decide (1≤k)<;>cases decide (k≤17)<;>rfl
 cases hk:kindB k with
 |false=>
  rw[hk]at hkk
  cases g1:decide (k < 1)with
  |true=>simp only [go1];try rfl
  |false=>
   rw[g1]at hkk
   have g2:decide (17 < k)=true:=by simpa using hkk
   simp only [go1,g2];try rfl
 |true=>
  rw[hk]at hkk
  have g1:decide (k < 1)=false:=by cases g:decide (k < 1)with
   |true=>rw[g]at hkk;cases hkk
   |false=>rfl
  have g2:decide (17 < k)=false:=by rw[g1]at hkk;simpa using hkk
  simp only [go1,g1,g2]
  cases hN:numB k n with
  |false=>cases opB_ k o<;>(simp only [go1];try rfl)
  |true=>
   cases opB_ k o with
   |false=>cases nameB k s<;>(simp only [go1];try rfl)
   |true=>
    cases nameB k s with
    |false=>simp only [go1,Bool.and_self];try rfl
    |true=>
     cases armsB k a with
     |false=>simp only [go1,Bool.and_self];try rfl
     |true=>
      have h5:=c_resubs k n s o a (Ex.rows u) (fun h=>by
       subst h
       simp [numB]at hN
       exact hN)
      simp only [go1,Bool.and_self,h5]
      cases hlo:decide (loB k n a.length≤(u.length:Int))with
      |false=>simp only [go1];try rfl
      |true=>
       cases decide ((u.length:Int)≤hiB k n a.length)with
       |false=>simp only [go1];try rfl
       |true=>
        simp only [go1]
        by_cases h8:k=8
        ·subst h8
         match u,hlo,hu with
         | [],hlo,_=>cases hlo
         | .mk k2 n2 s2 o2 a2 u2::u,hlo,hu=>
           have hc:=c_reConst k2 n2 s2 o2 a2 u2 (by simp only [Ex.sizes,Ex.size]at hu;omega)
           have hr:sy.row (Ex.rows (.mk k2 n2 s2 o2 a2 u2::u)) 0= [.int .i64 k2, .int .i64 n2, .str s2, .int .i64 o2, .sl 1 (srows a2), .sl 6 (Ex.rows u2)]:=row_of (l:= .mk k2 n2 s2 o2 a2 u2::u) (i:=0) rfl
           have hz:decide ((0:Int) < ((Ex.mk k2 n2 s2 o2 a2 u2::u).length:Int))=true:=decide_eq_true (by simp only [List.length_cons];omega)
           have hz2:decide ((0:Int)≤0∧(0:Int) < ((Ex.mk k2 n2 s2 o2 a2 u2::u).length:Int))=true:=decide_eq_true ⟨by omega,by simp only [List.length_cons];omega⟩
           simp only [go1,hz,hr,oE,hc,conB]
        ·simp only [go1,decF h8,conB]
end Go.Vm
end

section
set_option linter.all false
set_option maxRecDepth 100000
set_option maxHeartbeats 4000000
namespace Go.Vm
open Go.Proofs
noncomputable abbrev kW1 (k n:Int) (s:ByteArray) (o:Int) (a u:List (List D)) (m:Int):List V:=[.d (.int .i64 0), .d (.int .i64 2),kE k n s o a u, .yld 0 (rec0 43), .agg [.any, .any, .any, .ptr 1 0, .any, .any, .any, .any, .any, .any], .fn 3 [.d (.int .i64 m)]]
theorem decW1 (k n:Int)(s:ByteArray)(o:Int)(a u:List (List D))(m:Int):decB (kW1 k n s o a u m)=some (0,[kE k n s o a u, .yld 0 (rec0 43)],[.cells (.rcd .ready) [.any, .any, .any, .ptr 1 0, .any, .any, .any, .any, .any, .any], .cells (.ty 3) [.d (.int .i64 m)]]):=rfl
noncomputable abbrev kW2 (k n:Int) (s:ByteArray) (o:Int) (a u:List (List D)) (b:Bool):List V:=[.d (.int .i64 0), .d (.int .i64 2),kE k n s o a u, .yld 0 (rec0 44), .agg [.any, .any, .ptr 1 0, .any, .any, .any, .any, .any, .any, .any, .any, .any, .any, .any, .any, .any, .any, .any], .fn 4 [.d (.bool b)]]
theorem decW2 (k n:Int)(s:ByteArray)(o:Int)(a u:List (List D))(b:Bool):decB (kW2 k n s o a u b)=some (0,[kE k n s o a u, .yld 0 (rec0 44)],[.cells (.rcd .ready) [.any, .any, .ptr 1 0, .any, .any, .any, .any, .any, .any, .any, .any, .any, .any, .any, .any, .any, .any, .any], .cells (.ty 4) [.d (.bool b)]]):=rfl
theorem c_walk1: ∀(m:Nat) (k n:Int) (s:ByteArray) (o:Int) (a:List ByteArray) (u:List Ex) (c:Nat),(Ex.mk k n s o a u).size≤m→m≤1000000→c+m≤2000000→
  cF 1000113 (kW1 k n s o (srows a) (Ex.rows u) (c:Int))=some (.val [.bool false, .bool true, .int .i64 ((c+(Ex.mk k n s o a u).size:Nat):Int)])
 |0,k,n,s,o,a,u,c,h,_,_=>by simp only [Ex.size]at h;omega
 |m+1,k,n,s,o,a,u,c,h,hm,hc=>by
  have hz:Ex.sizes u≤m:=by simp only [Ex.size]at h;omega
  have hl:=sizes_len u
  refine cOfB (f:=113) (by kernel_rfl) (decW1 k n s o (srows a) (Ex.rows u) (c:Int)) (by kernel_rfl) rfl ?_
  rw[b113_43_eq]
  simp only [b113_43,go1,rows_len,wrap_succ (i:=c) (n:=c+1) (by omega) (by omega)]
  refine loopF_at (fun i:Nat=>[.sl 6 (Ex.rows u), .int .i64 (u.length:Int), .int .i64 (i:Int), .int .i64 ((c+1+Ex.sizes (u.take i):Nat):Int)]) (fun i=>i≤u.length∧Ex.sizes (u.take i)≤m) (fun i=>u.length - i) (fun i hi=> ?_) 0 ⟨Nat.zero_le _,Nat.zero_le _⟩
  by_cases hlt:i < u.length
  ·left
   have hx:=List.getElem?_eq_getElem hlt
   have hd:Ex.sizes (u.take (i+1))=Ex.sizes (u.take i)+u[i].size:=by rw[List.take_add_one,hx];exact sizes_snoc _ _
   have hle:Ex.sizes (u.take (i+1))≤m:=by
    have:=sizes_app (u.take (i+1)) (u.drop (i+1));rw[List.take_append_drop]at this;omega
   refine⟨i+1,?_,⟨hlt,hle⟩,by omega⟩
   rw[hd]at hle ⊢
   generalize u[i]=e at hx hle ⊢
   have he:=sizes_mem hx
   obtain⟨k2,n2,s2,o2,a2,u2⟩:=e
   have h2:=c_walk1 (Ex.mk k2 n2 s2 o2 a2 u2).size k2 n2 s2 o2 a2 u2 (c+1+Ex.sizes (u.take i)) (Nat.le_refl _) (by omega) (by omega)
   simp only [go1,rows_len,ilt_at hlt,inr_at hlt,row_of hx,oE,h2,wrap_succ hlt (by omega)]
   rw[Nat.add_assoc (c+1)]
   rfl
  ·right
   have:i=u.length:=by omega
   subst this
   simp only [go1,ilt_self,List.take_length,Ex.size]
   rw[show c+1+Ex.sizes u=c+(Ex.sizes u+1) by omega]
 termination_by m=>m
 decreasing_by omega
mutual
def Ex.fine:Ex→Prop
 | .mk _ _ s _ a u=>(s.size≤100000∧(∀x∈a,x.size≤100000)∧a.length≤1000000)∧Ex.fines u
def Ex.fines:List Ex→Prop
 | []=>True
 |e::l=>e.fine∧Ex.fines l
end
mutual
theorem okS_fine: ∀e:Ex,e.okS→e.size≤1000000→e.fine
 | .mk k n s o a u,h,h2=>by
   have hl:=sizes_len u
   have h3:Ex.sizes u+1≤1000000:=h2
   obtain⟨q1,⟨q2,q3⟩,q4⟩:=h
   exact⟨⟨q1,q2,by omega⟩,okSs_fine u q4 (by omega)⟩
theorem okSs_fine: ∀u:List Ex,Ex.okSs u→Ex.sizes u≤1000000→Ex.fines u
 | [],_,_=>trivial
 |e::l,h,h2=>by
  have h3:e.size+Ex.sizes l≤1000000:=h2
  exact⟨okS_fine e h.1 (by omega),okSs_fine l h.2 (by omega)⟩
end
theorem fine_mem {e:Ex}: ∀ {l:List Ex} {i:Nat},l[i]? =some e→Ex.fines l→e.fine
 |x::l,0,h,h2=>by simp at h;subst h;exact h2.1
 |x::l,i+1,h,h2=>fine_mem (l:=l) (i:=i) (by simpa using h) h2.2
def ansR (b:Bool):Bool→PRes
 |true=> .val [.bool false, .bool true, .bool b]
 |false=> .val [.bool true, .bool false, .bool false]
theorem c_walk2: ∀(m:Nat) (k n:Int) (s:ByteArray) (o:Int) (a:List ByteArray) (u:List Ex) (b:Bool),(Ex.mk k n s o a u).size≤m→m≤1000000→(Ex.mk k n s o a u).fine→
  cF 1000113 (kW2 k n s o (srows a) (Ex.rows u) b)=some (ansR b (allB (.mk k n s o a u)))
 |0,k,n,s,o,a,u,b,h,_,_=>by simp only [Ex.size]at h;omega
 |m+1,k,n,s,o,a,u,b,h,hm,hf=>by
  have hz:Ex.sizes u≤m:=by simp only [Ex.size]at h;omega
  have hl:=sizes_len u
  obtain⟨⟨f1,f2,f3⟩,f4⟩:=hf
  have h1:=c_epart k n s o a u f1 f3 (by omega)
  refine cOfB (f:=113) (by kernel_rfl) (decW2 k n s o (srows a) (Ex.rows u) b) (by kernel_rfl) rfl ?_
  rw[b113_44_eq]
  simp only [b113_44,go1,h1,allB]
  cases partB (.mk k n s o a u)with
  |false=>rfl
  |true=>
   simp only [go1,rows_len]
   refine loopF_at (fun i:Nat=>[.sl 6 (Ex.rows u), .int .i64 (u.length:Int), .int .i64 (i:Int), .bool b]) (fun i=>i≤u.length∧allBs u=allBs (u.drop i)) (fun i=>u.length - i) (fun i hi=> ?_) 0 ⟨Nat.zero_le _,rfl⟩
   by_cases hlt:i < u.length
   ·have hx:=List.getElem?_eq_getElem hlt
    have hd:=List.drop_eq_getElem_cons hlt
    have hi2:=hi.2
    rw[hd]at hi2
    generalize u[i]=e at hx hi2
    have he:=sizes_mem hx
    have hfe:=fine_mem hx f4
    obtain⟨k2,n2,s2,o2,a2,u2⟩:=e
    have h2:=c_walk2 (Ex.mk k2 n2 s2 o2 a2 u2).size k2 n2 s2 o2 a2 u2 b (Nat.le_refl _) (by omega) hfe
    rw[hi2]
    simp only [allBs]
    cases hb:allB (.mk k2 n2 s2 o2 a2 u2)with
    |false=>
     right
     rw[hb]at h2
     simp only [ansR]at h2
     simp only [go1,rows_len,ilt_at hlt,inr_at hlt,row_of hx,oE,h2,ansR]
    |true=>
     left
     rw[hb]at h2
     simp only [ansR]at h2
     refine⟨i+1,?_,⟨hlt,by simp only [Bool.true_and]⟩,by omega⟩
     simp only [go1,rows_len,ilt_at hlt,inr_at hlt,row_of hx,oE,h2,wrap_succ hlt (by omega)]
     rfl
   ·right
    have:i=u.length:=by omega
    subst this
    rw[hi.2,List.drop_length]
    simp only [go1,ilt_self,allBs,ansR]
 termination_by m=>m
 decreasing_by omega
theorem c_eSize (k n:Int)(s:ByteArray)(o:Int)(a:List ByteArray)(u:List Ex)(h:(Ex.mk k n s o a u).size≤1000000):cF 43 [kE k n s o (srows a) (Ex.rows u)]=some (.val [.int .i64 ((Ex.mk k n s o a u).size:Int)]):=by
 have h1:=c_walk1 1000000 k n s o a u 0 h (Nat.le_refl _) (by omega)
 rw[Nat.zero_add]at h1
 have h1:cF 1000113 (kW1 k n s o (srows a) (Ex.rows u) 0)=_:=h1
 refine cOf (by kernel_rfl) rfl ?_
 rw[g43_eq]
 simp only [g43,go1,h1]
def smallB (e:Ex):Bool:=decide (e.size≤60)&&decide (e.depth≤12)
theorem c_eRight (k n:Int)(s:ByteArray)(o:Int)(a:List ByteArray)(u:List Ex)(h:(Ex.mk k n s o a u).size≤1000000)(hf:(Ex.mk k n s o a u).fine):cF 44 [kE k n s o (srows a) (Ex.rows u)]=some (.val [.bool (smallB (.mk k n s o a u)&&allB (.mk k n s o a u))]):=by
 have h1:=c_eSize k n s o a u h
 have h2:=c_eDepth 1000000 k n s o a u h (Nat.le_refl _)
 have h3:=c_walk2 1000000 k n s o a u false h (Nat.le_refl _) hf
 have e1:decide ((60:Int) < ((Ex.mk k n s o a u).size:Int))= !decide ((Ex.mk k n s o a u).size≤60):=by rw[Bool.eq_iff_iff];simp;try omega
 have e2:decide ((12:Int) < ((Ex.mk k n s o a u).depth:Int))= !decide ((Ex.mk k n s o a u).depth≤12):=by rw[Bool.eq_iff_iff];simp;try omega
 refine cOf (by kernel_rfl) rfl ?_
 rw[g44_eq]
 simp only [g44,go1,h1,h2,h3,e1,e2]
 unfold smallB
 cases decide ((Ex.mk k n s o a u).size≤60)<;>cases decide ((Ex.mk k n s o a u).depth≤12)<;>cases allB (.mk k n s o a u)<;>rfl
end Go.Vm
end

section
set_option linter.all false
set_option maxRecDepth 100000
set_option maxHeartbeats 4000000
namespace Go.Vm
open Go.Proofs
mutual
def Ex.parts:Ex→List Ex
 | .mk k n s o a u=> .mk k n s o a u::Ex.partsL u
def Ex.partsL:List Ex→List Ex
 | []=>[]
 |e::l=>e.parts++Ex.partsL l
end
mutual
theorem parts_len: ∀e:Ex,e.parts.length=e.size
 | .mk k n s o a u=>by simp only [Ex.parts,Ex.size,List.length_cons,partsL_len u]
theorem partsL_len: ∀u:List Ex,(Ex.partsL u).length=Ex.sizes u
 | []=>rfl
 |e::l=>by simp only [Ex.partsL,Ex.sizes,List.length_append,parts_len e,partsL_len l]
end
mutual
theorem parts_all: ∀e:Ex,e.parts.all partB=allB e
 | .mk k n s o a u=>by simp only [Ex.parts,allB,List.all_cons,partsL_all u]
theorem partsL_all: ∀u:List Ex,(Ex.partsL u).all partB=allBs u
 | []=>rfl
 |e::l=>by simp only [Ex.partsL,allBs,List.all_append,parts_all e,partsL_all l]
end
mutual
theorem parts_fine: ∀e:Ex,e.fine→ ∀x∈e.parts,x.fine∧x.size≤e.size
 | .mk k n s o a u,h,x,hx=>by
   simp only [Ex.parts]at hx
   rcases List.mem_cons.1 hx with rfl|hx
   ·exact⟨h,Nat.le_refl _⟩
   ·have:=partsL_fine u h.2 x hx
    exact⟨this.1,by simp only [Ex.size];omega⟩
theorem partsL_fine: ∀u:List Ex,Ex.fines u→ ∀x∈Ex.partsL u,x.fine∧x.size≤Ex.sizes u
 | [],_,x,hx=>by cases hx
 |e::l,h,x,hx=>by
  simp only [Ex.partsL]at hx
  rcases List.mem_append.1 hx with hx|hx
  ·have:=parts_fine e h.1 x hx
   exact⟨this.1,by simp only [Ex.sizes];omega⟩
  ·have:=partsL_fine l h.2 x hx
   exact⟨this.1,by simp only [Ex.sizes];omega⟩
end
theorem partsL_app: ∀a b:List Ex,Ex.partsL (a++b)=Ex.partsL a++Ex.partsL b
 | [],b=>rfl
 |e::a,b=>by simp only [List.cons_append,Ex.partsL,partsL_app a b,List.append_assoc]
theorem rows_app: ∀a b:List Ex,Ex.rows (a++b)=Ex.rows a++Ex.rows b
 | [],b=>rfl
 |e::a,b=>by simp only [List.cons_append,Ex.rows,rows_app a b]
theorem c_reParts: ∀(m:Nat) (k n:Int) (s:ByteArray) (o:Int) (a:List ByteArray) (u:List Ex),(Ex.mk k n s o a u).size≤m→m≤1000000→
  cF 37 [kE k n s o (srows a) (Ex.rows u)]=some (.own 37 6 (Ex.rows (Ex.mk k n s o a u).parts))
 |0,k,n,s,o,a,u,h,_=>by simp only [Ex.size]at h;omega
 |m+1,k,n,s,o,a,u,h,hm=>by
  have hz:Ex.sizes u≤m:=by simp only [Ex.size]at h;omega
  have hl:=sizes_len u
  refine cOf (by kernel_rfl) rfl ?_
  rw[g37_eq]
  simp only [g37,go1,Nat.reduceAdd]
  refine loopF_at (fun i:Nat=>[.int .i64 (i:Int), .int .i64 k, .int .i64 n, .str s, .int .i64 o, .sl 1 (srows a), .sl 6 (Ex.rows u), .sl 6 (Ex.rows (.mk k n s o a u::Ex.partsL (u.take i)))]) (fun i=>i≤u.length) (fun i=>u.length - i) (fun i hi=> ?_) 0 (Nat.zero_le _)
  by_cases hlt:i < u.length
  ·left
   refine⟨i+1,?_,hlt,by omega⟩
   have hx:=List.getElem?_eq_getElem hlt
   have hd:Ex.partsL (u.take (i+1))=Ex.partsL (u.take i)++u[i].parts:=by rw[List.take_add_one,hx,partsL_app];simp [Ex.partsL]
   have hsz:Ex.sizes (u.take i)≤Ex.sizes u:=by
    have:=sizes_app (u.take i) (u.drop i);rw[List.take_append_drop]at this;omega
   rw[hd]
   generalize u[i]=e at hx
   have he:=sizes_mem hx
   obtain⟨k2,n2,s2,o2,a2,u2⟩:=e
   have h2:=c_reParts (Ex.mk k2 n2 s2 o2 a2 u2).size k2 n2 s2 o2 a2 u2 (Nat.le_refl _) (by omega)
   have hf:decide (((Ex.rows (.mk k n s o a u::Ex.partsL (u.take i))).length+(Ex.rows (Ex.mk k2 n2 s2 o2 a2 u2).parts).length)*(88+1)≤140737488355328)=true:=by
    refine decide_eq_true ?_
    rw[rows_len,rows_len,List.length_cons,partsL_len,parts_len]
    omega
   simp only [go1,Nat.reduceAdd,rows_len,ilt_at hlt,inr_at hlt,row_of hx,oE,h2,wrap_succ hlt (by omega)]
   simp only [rows_len]at hf
   simp only [hf,go1,rows_app,←List.cons_append]
   rfl
  ·right
   have:i=u.length:=by omega
   subst this
   simp only [go1,Nat.reduceAdd,oE,rows_len,ilt_self,List.take_length,Ex.parts]
 termination_by m=>m
 decreasing_by omega
theorem c_reRight (k n:Int)(s:ByteArray)(o:Int)(a:List ByteArray)(u:List Ex)(h:(Ex.mk k n s o a u).size≤1000000)(hf:(Ex.mk k n s o a u).fine):cF 20 [kE k n s o (srows a) (Ex.rows u)]=some (.val [.bool (smallB (.mk k n s o a u)&&allB (.mk k n s o a u))]):=by
 have h1:=c_rSize 1000000 k n s o a u h (Nat.le_refl _)
 have h2:=c_rDepth 1000000 k n s o a u h (Nat.le_refl _)
 have h3:=c_reParts 1000000 k n s o a u h (Nat.le_refl _)
 have e1:decide ((60:Int) < ((Ex.mk k n s o a u).size:Int))= !decide ((Ex.mk k n s o a u).size≤60):=by rw[Bool.eq_iff_iff];simp;try omega
 have e2:decide ((12:Int) < ((Ex.mk k n s o a u).depth:Int))= !decide ((Ex.mk k n s o a u).depth≤12):=by rw[Bool.eq_iff_iff];simp;try omega
 refine cOf (by kernel_rfl) rfl ?_
 rw[g20_eq]
 simp only [g20,go1,h1,h2,h3,e1,e2]
 rw[←parts_all]
 have hlen:=parts_len (.mk k n s o a u)
 have hpf:=parts_fine _ hf
 generalize (Ex.mk k n s o a u).parts=ps at*
 have hloop: ∀b:List D→Option (List D ⊕ PRes),(∀(i:Nat) e,ps[i]? =some e→b [.sl 6 (Ex.rows ps), .int .i64 (i:Int)]=bif partB e then some (.inl [.sl 6 (Ex.rows ps), .int .i64 ((i+1:Nat):Int)])else some (.inr (.val [.bool false])))→b [.sl 6 (Ex.rows ps), .int .i64 (ps.length:Int)]=some (.inr (.val [.bool true]))→
     loopF b [.sl 6 (Ex.rows ps), .int .i64 0]=some (.val [.bool (ps.all partB)]):=fun b h1 h2=>
  all_loop2 partB ps (fun i:Nat=>[.sl 6 (Ex.rows ps), .int .i64 (i:Int)]) rfl (r0:= .val [.bool false]) (r1:= .val [.bool true]) h1 (fun _=>h2) (by cases ps.all partB<;>rfl)
 unfold smallB
 cases decide ((Ex.mk k n s o a u).size≤60)with
 |false=>rfl
 |true=>
  cases decide ((Ex.mk k n s o a u).depth≤12)with
  |false=>rfl
  |true=>
   simp only [go1,Bool.and_self]
   refine hloop _ (fun i e hx=> ?_) ?_
   ·have hlt:=(List.getElem?_eq_some_iff.1 hx).1
    have hm:=hpf e (List.mem_of_getElem? hx)
    obtain⟨k2,n2,s2,o2,a2,u2⟩:=e
    obtain⟨⟨⟨f1,f2,f3⟩,f4⟩,f5⟩:=hm
    have hc:=c_repart k2 n2 s2 o2 a2 u2 f1 f2 f3 (by simp only [Ex.size]at f5 h;omega)
    simp only [go1,rows_len,ilt_at hlt,inr_at hlt,row_of hx,oE,hc]
    cases partB (.mk k2 n2 s2 o2 a2 u2)with
    |true=>simp only [go1,wrap_succ hlt (by omega)];rfl
    |false=>rfl
   ·simp only [go1,rows_len,ilt_self]
theorem c_rNames (a:List ByteArray)(ha:a.length≤1000000):cF 32 [.d (.sl 1 (srows a)), .d (.sl 1 (srows a))]=some (.val [.bool true]):=by
 refine cOf (by kernel_rfl) rfl ?_
 rw[g32_eq]
 simp only [g32,go1,srows_len]
 refine loopF_at (fun i:Nat=>[.sl 1 (srows a), .sl 1 (srows a), .int .i64 (i:Int)]) (fun i=>i≤a.length) (fun i=>a.length - i) (fun i hi=> ?_) 0 (Nat.zero_le _)
 by_cases hlt:i < a.length
 ·left
  refine⟨i+1,?_,hlt,by omega⟩
  have hx:=List.getElem?_eq_getElem hlt
  simp only [go1,srows_len,ilt_at hlt,inr_at hlt,srows_at hx,seq_tb,wrap_succ hlt (by omega)]
  rfl
 ·right
  have:i=a.length:=by omega
  subst this
  simp only [go1,srows_len,ilt_self]
theorem c_reSame: ∀(m:Nat) (k n:Int) (s:ByteArray) (o:Int) (a:List ByteArray) (u:List Ex),(Ex.mk k n s o a u).size≤m→m≤1000000→(Ex.mk k n s o a u).fine→
  cF 17 [kE k n s o (srows a) (Ex.rows u),kE k n s o (srows a) (Ex.rows u)]=some (.val [.bool true])
 |0,k,n,s,o,a,u,h,_,_=>by simp only [Ex.size]at h;omega
 |m+1,k,n,s,o,a,u,h,hm,hf=>by
  have hz:Ex.sizes u≤m:=by simp only [Ex.size]at h;omega
  have hl:=sizes_len u
  obtain⟨⟨f1,f2,f3⟩,f4⟩:=hf
  have h1:=c_rNames a f3
  refine cOf (by kernel_rfl) rfl ?_
  rw[g17_eq]
  simp only [g17,go1,rows_len,seq_tb,h1]
  refine loopF_at (fun i:Nat=>[.int .i64 (i:Int), .int .i64 k, .int .i64 n, .str s, .int .i64 o, .sl 1 (srows a), .sl 6 (Ex.rows u), .int .i64 k, .int .i64 n, .str s, .int .i64 o, .sl 1 (srows a), .sl 6 (Ex.rows u)]) (fun i=>i≤u.length) (fun i=>u.length - i) (fun i hi=> ?_) 0 (Nat.zero_le _)
  by_cases hlt:i < u.length
  ·left
   refine⟨i+1,?_,hlt,by omega⟩
   have hx:=List.getElem?_eq_getElem hlt
   generalize u[i]=e at hx
   have he:=sizes_mem hx
   have hfe:=fine_mem hx f4
   obtain⟨k2,n2,s2,o2,a2,u2⟩:=e
   have h2:=c_reSame (Ex.mk k2 n2 s2 o2 a2 u2).size k2 n2 s2 o2 a2 u2 (Nat.le_refl _) (by omega) hfe
   simp only [go1,Nat.reduceAdd,rows_len,ilt_at hlt,inr_at hlt,row_of hx,oE,h2,wrap_succ hlt (by omega)]
   rfl
  ·right
   have:i=u.length:=by omega
   subst this
   simp only [go1,Nat.reduceAdd,oE,rows_len,ilt_self]
 termination_by m=>m
 decreasing_by omega
end Go.Vm
end

section
set_option linter.all false
set_option maxRecDepth 100000
set_option maxHeartbeats 4000000
namespace Go.Vm
open Go.Proofs
end Go.Vm
end

section
set_option linter.all false
set_option maxRecDepth 100000
set_option maxHeartbeats 4000000
namespace Go.Vm
open Go.Proofs
theorem span_cons1 {p:Nat→Bool}{c:Nat}{r:List Nat}(h:p c=true):spanN p (c::r)=1+spanN p r:=by
 unfold spanN;rw[List.takeWhile_cons,if_pos h,List.length_cons];omega
theorem span_cons0 {p:Nat→Bool}{c:Nat}{r:List Nat}(h:p c=false):spanN p (c::r)=0:=by
 unfold spanN;rw[List.takeWhile_cons,h];rfl
end Go.Vm
end

section
set_option linter.all false
set_option maxRecDepth 100000
set_option maxHeartbeats 4000000
namespace Go.Vm
open Go.Proofs
theorem gap_blank {c:Nat}(r:List Nat)(hc:blankN c=true):gapN (c::r)=1+gapN r:=by
 have h1:=gapN.eq_def (c::r)
 have h2:=gapN.eq_def r
 have hs:spanN blankN (c::r)=1+spanN blankN r:=span_cons1 hc
 rw[hs]at h1
 have hd:(c::r).drop (1+spanN blankN r)=r.drop (spanN blankN r):=by rw[Nat.add_comm,List.drop_succ_cons]
 have hd2: ∀k,(c::r).drop (1+spanN blankN r+k)=r.drop (spanN blankN r+k):=fun k=>by
  rw[show 1+spanN blankN r+k=(spanN blankN r+k)+1 by omega,List.drop_succ_cons]
 rw[hd,hd2]at h1
 rw[h1,h2]
 split<;>omega
theorem span0 {p:Nat→Bool}{l:List Nat}(h:p (l.getD 0 0)=false):spanN p l=0:=by
 match l,h with
 | [],_=>rfl
 |c::r,h=>exact span_cons0 h
theorem gap_stop {l:List Nat}(hc:blankN (l.getD 0 0)=false)(hr:hasN remN l=false):gapN l=0:=by
 have h1:=gapN.eq_def l
 rw[span0 hc,List.drop_zero,hr]at h1
 simpa using h1
def valN:Nat→List Nat→Nat
 |n,[]=>n
 |n,c::r=>valN (n*10+(c - 48)) r
theorem valN_ge: ∀(l:List Nat) (n:Nat),n≤valN n l
 | [],n=>Nat.le_refl _
 |c::r,n=>by
  have:=valN_ge r (n*10+(c - 48))
  show n≤valN (n*10+(c - 48)) r
  omega
theorem parseM: ∀(l:List UInt8) (acc:Nat),(l.map UInt8.toNat).all digitN=true→acc≤18446744073709551615→
  Lib.parseUintM 18446744073709551615 acc l=if valN acc (l.map UInt8.toNat)≤18446744073709551615 then .ok (valN acc (l.map UInt8.toNat))else .range
 | [],acc,_,h=>by
   rw[Lib.parseUintM,List.map_nil]
   show _=if acc≤_ then _ else _
   rw[if_pos h];rfl
 |c::r,acc,hd,h=>by
  rw[List.map_cons,List.all_cons,Bool.and_eq_true]at hd
  obtain⟨h1,h2⟩:=hd
  have hc:48≤c.toNat∧c.toNat≤57:=by
   unfold digitN at h1
   simpa using h1
  rw[Lib.parseUintM,if_pos hc,List.map_cons]
  show _=if valN (acc*10+(c.toNat - 48)) (r.map UInt8.toNat)≤_ then Lib.NumEnd.ok (valN (acc*10+(c.toNat - 48)) (r.map UInt8.toNat))else _
  have hg:=valN_ge (r.map UInt8.toNat) (acc*10+(c.toNat - 48))
  by_cases h3:1844674407370955162≤acc
  ·rw[if_pos h3,if_neg (by omega)]
  ·rw[if_neg h3]
   by_cases h4:18446744073709551615 < acc*10+(c.toNat - 48)
   ·rw[if_pos h4,if_neg (by omega)]
   ·rw[if_neg h4]
    exact parseM r _ h2 (by omega)
theorem parse_digits (s:ByteArray)(hd:(tb s).all digitN=true)(hne:0 < (tb s).length):
  pokB s=decide (valN 0 (tb s) < 9223372036854775808)∧(valN 0 (tb s) < 9223372036854775808→pnumI s=(valN 0 (tb s):Int)):=by
 unfold pokB pnumI
 unfold tb at hd hne ⊢
 generalize s.data.toList=l at hd hne ⊢
 match l,hne with
 |c::r,_=>
  have hp:=parseM (c::r) 0 hd (by omega)
  rw[List.map_cons,List.all_cons,Bool.and_eq_true]at hd
  have hc:48≤c.toNat∧c.toNat≤57:=by
   have:=hd.1
   unfold digitN at this
   simpa using this
  have e1: ¬(c.toNat=43∨c.toNat=45):=by omega
  have e2: ¬c.toNat=45:=by omega
  generalize valN 0 ((c::r).map UInt8.toNat)=v at hp ⊢
  have hp2:Lib.parseUintB 64 (c::r)=if v≤18446744073709551615 then .ok v else .range:=by
   unfold Lib.parseUintB
   rw[if_neg (by simp)]
   exact hp
  unfold Lib.parseIntB
  simp only [if_neg e1,hp2]
  by_cases hv:v≤18446744073709551615
  ·rw[if_pos hv]
   simp only [e2,not_false_eq_true,true_and,if_false,false_and]
   by_cases hv2:9223372036854775808≤v
   ·have:(2:Nat) ^ (64 - 1)≤v:=hv2
    simp only [this,if_true]
    exact⟨by rw[decF (by omega)],fun h=>by omega⟩
   ·have: ¬(2:Nat) ^ (64 - 1)≤v:=hv2
    simp only [this,if_false]
    exact⟨by rw[decT (by omega)],fun _=>trivial⟩
  ·rw[if_neg hv]
   exact⟨by rw[decF (by omega)],fun h=>by omega⟩
end Go.Vm
end

section
set_option linter.all false
set_option maxRecDepth 100000
set_option maxHeartbeats 4000000
namespace Go.Vm
open Go.Proofs
end Go.Vm
end

section
set_option linter.all false
set_option maxRecDepth 100000
set_option maxHeartbeats 4000000
namespace Go.Vm
open Go.Proofs
theorem valN_app: ∀(l r:List Nat) (n:Nat),valN n (l++r)=valN (valN n l) r
 | [],_,_=>rfl
 |x::l,r,n=>valN_app l r (n*10+(x - 48))
end Go.Vm
end

section
set_option linter.all false
set_option maxRecDepth 100000
set_option maxHeartbeats 4000000
namespace Go.Vm
open Go.Proofs
end Go.Vm
end

section
set_option linter.all false
set_option maxRecDepth 100000
set_option maxHeartbeats 4000000
namespace Go.Vm
open Go.Proofs
end Go.Vm
end

section
set_option linter.all false
set_option maxRecDepth 100000
set_option maxHeartbeats 4000000
namespace Go.Vm
open Go.Proofs
end Go.Vm
end

section
set_option linter.all false
set_option maxRecDepth 100000
set_option maxHeartbeats 4000000
namespace Go.Vm
open Go.Proofs
theorem ext_sz (s:ByteArray)(a b:Nat):(s.extract a b).size≤s.size:=by
 rw[ByteArray.size_extract];omega
theorem nextT0_s (s:ByteArray):(nextT0 s).s.size≤s.size:=by
 have h0:(bs []).size≤s.size:=Nat.zero_le _
 unfold nextT0
 simp only
 split
 ·unfold wordT
  simp only
  split<;>exact ext_sz _ _ _
 ·exact ext_sz _ _ _
 ·unfold pathT
  split
  ·exact h0
  ·exact ext_sz _ _ _
 ·unfold markT
  split
  ·exact ext_sz _ _ _
  ·exact ext_sz _ _ _
  ·exact h0
theorem nextT0_5 (s:ByteArray)(h:(nextT0 s).k=5):(nextT0 s).s.size≤2:=by
 unfold nextT0 at h ⊢
 simp only at h ⊢
 split at h
 ·rename_i hc;unfold wordT at h;simp only at h;split at h<;>cases h
 ·cases h
 ·unfold pathT at h
  split at h<;>cases h
 ·rename_i h1 h2 h3
  unfold markT at h ⊢
  split
  ·show(s.extract 0 2).size≤2
   rw[ByteArray.size_extract];omega
  ·show(s.extract 0 1).size≤2
   rw[ByteArray.size_extract];omega
  ·rename_i h4 h5
   rw[h4,h5]at h
   cases h
theorem lexS_tok (s:ByteArray): ∀(m a:Nat),(tb s).length - a≤m→(∀t∈(lexS s a).1,t.s.size≤s.size∧(t.k=5→t.s.size≤2))∧(lexS s a).1.length≤(tb s).length - a
 |m,a,hm=>by
  rw[lexS]
  split
  ·rename_i hp
   split
   ·rename_i h
    have ih:=lexS_tok s (m - 1) (a+gapN ((tb s).drop a)+(nextT0 (s.extract (a+gapN ((tb s).drop a)) (tb s).length)).w) (by omega)
    refine⟨fun t ht=> ?_,?_⟩
    ·rcases List.mem_cons.1 ht with rfl|ht
     ·exact⟨Nat.le_trans (nextT0_s _) (ext_sz _ _ _),fun h5=>nextT0_5 _ h5⟩
     ·exact ih.1 t ht
    ·simp only [List.length_cons]
     omega
   ·exact⟨(by simp),Nat.zero_le _⟩
  ·exact⟨(by simp),Nat.zero_le _⟩
 termination_by m a=>(tb s).length - a
 decreasing_by omega
def toksS (s:ByteArray):List Tk:=(lexS s 0).1++[endT s]
theorem toks_mem {s:ByteArray}(hs:s.size≤100000){t:Tk}(h:t∈toksS s):t.s.size≤100000∧(t.k=5→t.s.size≤2):=by
 rcases List.mem_append.1 h with h|h
 ·have:=(lexS_tok s _ 0 (Nat.le_refl _)).1 t h
  exact⟨by omega,this.2⟩
 ·rw[List.mem_singleton.1 h]
  exact⟨bs0_size,fun h=>by cases h⟩
theorem tkA_prop {l:List Tk}{Q:Tk→Prop}(h0:Q ⟨6,bs [],0,0⟩)(h: ∀t∈l,Q t)(j:Nat):Q (tkA l j):=by
 unfold tkA
 rw[List.getD_eq_getElem?_getD]
 cases hx:l[j]? with
 |none=>exact h0
 |some t=>exact h t (List.mem_of_getElem? hx)
theorem TS_of {l:List Tk}(h: ∀t∈l,t.s.size≤100000):TS l:=fun j=>tkA_prop (Q:=fun t=>t.s.size≤100000) (by decide) h j
theorem LOK_toks (s:ByteArray)(hs:s.size≤100000):LOK (toksS s):=by
 have h:=(lexS_tok s _ 0 (Nat.le_refl _)).2
 have h2:(tb s).length≤100000:=by rw[tb_len];exact hs
 refine⟨by simp [toksS],?_,?_⟩
 ·simp [tkA,toksS,endT]
 ·simp only [toksS,List.length_append,List.length_cons,List.length_nil];omega
def okTok (l:List Tk)(i:Int):Bool:=decide (0≤i)&&(decide (i < (l.length:Int))&&decide ((tkA l (l.length - 1)).k=6))
theorem last_at {l:List Tk}(h:0 < l.length)(hl:l.length≤1000000):IntKind.i64.wrap ((l.length:Int) - 1)=((l.length - 1:Nat):Int):=by
 rw[wrap_id (by omega) (by omega)];omega
theorem c_ptokens (l:List Tk)(i:Int)(hl:l.length≤1000000):cF 40 [.d (.sl 4 (trows l)), .d (.int .i64 i)]=some (.val [.bool (okTok l i)]):=by
 refine cOf (by kernel_rfl) rfl ?_
 rw[g40_eq]
 simp only [g40,go1,trows_len]
 unfold okTok
 cases h0:decide (0≤i)with
 |false=>rfl
 |true=>
  cases h1:decide (i < (l.length:Int))with
  |false=>rfl
  |true=>
   have h0:=of_decide_eq_true h0
   have h1:=of_decide_eq_true h1
   have hpos:0 < l.length:=by omega
   have hlt:l.length - 1 < l.length:=by omega
   have q1:=in_tk hlt
   have q2:=row_tk hlt
   rw[trows_len]at q1
   simp only [go1,last_at hpos hl,q1,q2,tkrow]
def encP:Ex × Int × Int→PRes
 |(.mk k n s o a u,p,r)=> .val [.int .i64 k, .int .i64 n, .str s, .int .i64 o, .sl 1 (srows a), .sl 6 (Ex.rows u), .int .i64 p, .int .i64 r]
def partS (l:List Tk)(i:Nat):Ex × Int × Int:=match readS l i with
 | .out=>(e0,(i:Int),1)
 | .bad j=>(e0,(j:Int),2)
 | .ok e j=>bif !smallB e then(e0,(i:Int),3)else bif !allB e then(e0,(i:Int),1)else(e,(j:Int),0)
theorem small_big (e:Ex):(decide ((12:Int) < (e.depth:Int)) || decide ((60:Int) < (e.size:Int)))= !smallB e:=by
 unfold smallB
 rw[nlt,nlt]
 have e1:decide ((e.depth:Int)≤12)=decide (e.depth≤12):=by rw[Bool.eq_iff_iff];simp;try omega
 have e2:decide ((e.size:Int)≤60)=decide (e.size≤60):=by rw[Bool.eq_iff_iff];simp;try omega
 rw[e1,e2]
 cases decide (e.depth≤12)<;>cases decide (e.size≤60)<;>rfl
theorem c_pread {l:List Tk}(hl:LOK l)(i:Nat)(hi:i < l.length):cF 41 [.d (.sl 4 (trows l)), .d (.int .i64 (i:Int))]=some (match readS l i with
  | .ok (.mk k n s o a u) j=> .val [.int .i64 k, .int .i64 n, .str s, .int .i64 o, .sl 1 (srows a), .sl 6 (Ex.rows u), .int .i64 (j:Int), .bool true]
  | .bad j=> .val [.int .i64 0, .int .i64 0, .str (bs []), .int .i64 0, .sl 1 [], .sl 6 [], .int .i64 (j:Int), .bool false]
  | .out=> .val []):=by
 have h:=c_parrow hl i hi
 have hne:=readS_ne hl i hi
 refine cOf (by kernel_rfl) rfl ?_
 rw[g41_eq]
 simp only [g41,go1,h]
 cases hR:readS l i with
 |out=>exact(hne hR).elim
 |bad j=>rfl
 |ok e j=>obtain⟨k,n,s,o,a,u⟩:=e;rfl
theorem c_pPart {l:List Tk}(hl:LOK l)(ht:TS l)(i:Nat)(hi:i < l.length):cF 22 [.d (.sl 4 (trows l)), .d (.int .i64 (i:Int))]=some (encP (partS l i)):=by
 have hf:=hl.few
 have h1:=c_ptokens l (i:Int) hf
 have h0:okTok l (i:Int)=true:=by
  unfold okTok;rw[decT (by omega),decT (by omega),hl.last];rfl
 rw[h0]at h1
 have h2:=c_pread hl i hi
 have hne:=readS_ne hl i hi
 unfold partS
 refine cOf (by kernel_rfl) rfl ?_
 rw[g22_eq]
 simp only [g22,go1,h1,h2]
 cases hR:readS l i with
 |out=>exact(hne hR).elim
 |bad j=>rfl
 |ok e j=>
  have hz:=readS_sz ht hR
  have hj:=((prs_HQ hl (fuel l)).pos .arrow i e j hi hR).2
  have hff:=okS_fine e hz.2 (by omega)
  have hsm:=small_big e
  obtain⟨k,n,s,o,a,u⟩:=e
  have k1:=c_eDepth 1000000 k n s o a u (by omega) (Nat.le_refl _)
  have k2:=c_eSize k n s o a u (by omega)
  have k3:=c_eRight k n s o a u (by omega) hff
  simp only [go1,oE,k1,k2,k3]
  cases g1:decide ((12:Int) < ((Ex.mk k n s o a u).depth:Int))with
  |true=>
   rw[g1,Bool.true_or]at hsm
   simp only [go1,←hsm]
   rfl
  |false=>
   cases g2:decide ((60:Int) < ((Ex.mk k n s o a u).size:Int))with
   |true=>
    rw[g1,g2,Bool.false_or]at hsm
    simp only [go1,←hsm]
    rfl
   |false=>
    rw[g1,g2,Bool.false_or]at hsm
    have hsm2:smallB (.mk k n s o a u)=true:=by cases h:smallB (.mk k n s o a u)with
     |true=>rfl
     |false=>rw[h]at hsm;cases hsm
    simp only [go1,hsm2]
    cases allB (.mk k n s o a u)<;>(simp only [go1];rfl)
end Go.Vm
end

section
set_option linter.all false
set_option maxRecDepth 100000
set_option maxHeartbeats 4000000
namespace Go.Vm
open Go.Proofs
structure T where
 k:Int
 b:List Nat
 n:Int
def tkT (t:Tk):T:=⟨t.k,tb t.s,t.n⟩
def T.w (t:T):List Nat:=if t.k=4 then 39::(t.b++[39])else t.b
def NumOK (b:List Nat)(n:Int):Prop:=b.all digitN=true∧0 < b.length∧(b.getD 0 0=48→b.length=1)∧valN 0 b < 9223372036854775808∧n=(valN 0 b:Int)
def T.OK (t:T):Prop:=
 (t.k=1∧(lowN t.b || wordN t.b)=true∧nameN smallN t.b=true∧t.n=0)∨(t.k=2∧highN t.b=true∧t.n=0)∨(t.k=3∧NumOK t.b t.n)∨(t.k=4∧pathN t.b=true∧(∀x∈t.b,x≠39)∧t.n=0)∨(t.k=5∧twoN.contains t.b=true∧t.n=0)∨(t.k=5∧ ∃c,oneN.contains c=true∧t.b= [c]∧t.n=0)
def ajB (t:T)(d:Nat):Bool:=if t.k=4 then true else if t.k=5 then(match t.b with
 | [c]=> !twoN.contains [c,d]&& !(decide (c=45)&&decide (d=45))
 |_=>true)else !innerN d
theorem span_app {p:Nat→Bool}: ∀(b r:List Nat),b.all p=true→p (r.getD 0 0)=false∨r= []→spanN p (b++r)=b.length
 | [],r,_,h=>by
   rcases h with h|rfl
   ·exact span0 h
   ·rfl
 |c::b,r,hb,h=>by
  simp only [List.all_cons,Bool.and_eq_true]at hb
  rw[List.cons_append,span_cons1 hb.1,span_app b r hb.2 h,List.length_cons];omega
theorem digit_inner {c:Nat}(h:digitN c=true):innerN c=true:=by unfold innerN;rw[h];simp
theorem not_digit {c:Nat}(h:innerN c=false):digitN c=false:=by
 cases hd:digitN c with
 |false=>rfl
 |true=>rw[digit_inner hd]at h;cases h
theorem small_bd {c:Nat}(h:smallN c=true):97≤c∧c≤122:=by unfold smallN at h;simpa using h
theorem great_bd {c:Nat}(h:greatN c=true):65≤c∧c≤90:=by unfold greatN at h;simpa using h
theorem digit_bd {c:Nat}(h:digitN c=true):48≤c∧c≤57:=by unfold digitN at h;simpa using h
theorem small_great {c:Nat}(h:smallN c=true):greatN c=false:=by have:=small_bd h;unfold greatN;simp;omega
theorem digit_small {c:Nat}(h:digitN c=true):smallN c=false:=by have:=digit_bd h;unfold smallN;simp;omega
theorem digit_great {c:Nat}(h:digitN c=true):greatN c=false:=by have:=digit_bd h;unfold greatN;simp;omega
theorem blank_no {c:Nat}(h:33≤c):blankN c=false:=by unfold blankN;simp;omega
theorem rem_no {c:Nat}{r:List Nat}(h:c≠45):hasN remN (c::r)=false:=by
 unfold hasN remN
 refine decide_eq_false fun e=>h ?_
 simp at e
 exact e.1
theorem name_parts {p:Nat→Bool}{b:List Nat}(h:nameN p b=true):0 < b.length∧p (b.getD 0 0)=true∧b.all innerN=true:=by
 unfold nameN at h
 simp only [Bool.and_eq_true,decide_eq_true_eq]at h
 exact⟨h.1.1.1,h.1.2,h.2⟩
theorem getD_app {b r:List Nat}(h:0 < b.length):(b++r).getD 0 0=b.getD 0 0:=by
 match b,h with
 |c::b,_=>rfl
theorem take_app0 (b r:List Nat):(b++r).take b.length=b:=by simp
structure TokIs (s:ByteArray) (t:T):Prop where
 k:(nextT0 s).k=t.k
 b:tb (nextT0 s).s=t.b
 n:(nextT0 s).n=t.n
 w:(nextT0 s).w=t.w.length
 ok:(nextT0 s).ok=true
theorem tok_word {s:ByteArray}{t:T}{r:List Nat}(hs:tb s=t.b++r)(hk:t.k=1∧nameN smallN t.b=true∧(lowN t.b || wordN t.b)=true∨t.k=2∧highN t.b=true)(hn:t.n=0)(hr:innerN (r.getD 0 0)=false):TokIs s t:=by
 obtain⟨k,b,n⟩:=t
 simp only at hs hk hn
 subst hn
 have hp:0 < b.length∧(smallN (b.getD 0 0)=true∧greatN (b.getD 0 0)=false∨greatN (b.getD 0 0)=true)∧b.all innerN=true:=by
  rcases hk with⟨_,h,_⟩|⟨_,h⟩
  ·have h:=name_parts h
   exact⟨h.1, .inl ⟨h.2.1,small_great h.2.1⟩,h.2.2⟩
  ·have h:=name_parts h
   exact⟨h.1, .inr h.2.1,h.2.2⟩
 have hsp:spanN innerN (tb s)=b.length:=by rw[hs];exact span_app b r hp.2.2 (.inl hr)
 have h0:(tb s).getD 0 0=b.getD 0 0:=by rw[hs,getD_app hp.1]
 have hw:nextT0 s=wordT s:=by
  unfold nextT0
  simp only [h0]
  rcases hp.2.1 with h|h
  ·rw[h.1];rfl
  ·rw[h,Bool.or_true]
 have he:tb (s.extract 0 b.length)=b:=by rw[tb_ext,List.drop_zero,hs,take_app0]
 have hwl:(T.w ⟨k,b,0⟩)=b:=by
  unfold T.w
  rw[if_neg]
  rcases hk with h|h<;>(simp only;omega)
 rcases hk with⟨h1,h2,h3⟩|⟨h1,h2⟩
 ·have hg:greatN (b.getD 0 0)=false:=by
   exact small_great (name_parts h2).2.1
  have e:wordT s=⟨1,s.extract 0 b.length,0,b.length,lowN b || wordN b⟩:=by unfold wordT;simp only [hsp,h0,hg,he]
  rw[e]at hw
  refine⟨?_,?_,?_,?_,?_⟩<;>rw[hw]
  ·exact h1.symm
  ·exact he
  ·rw[hwl]
  ·exact h3
 ·have hg:greatN (b.getD 0 0)=true:=(name_parts h2).2.1
  have e:wordT s=⟨2,s.extract 0 b.length,0,b.length,highN b⟩:=by unfold wordT;simp only [hsp,h0,hg,he]
  rw[e]at hw
  refine⟨?_,?_,?_,?_,?_⟩<;>rw[hw]
  ·exact h1.symm
  ·exact he
  ·rw[hwl]
  ·exact h2
theorem tok_num {s:ByteArray}{t:T}{r:List Nat}(hs:tb s=t.b++r)(hk:t.k=3)(hn:NumOK t.b t.n)(hr:innerN (r.getD 0 0)=false):TokIs s t:=by
 obtain⟨k,b,n⟩:=t
 simp only at hs hk hn
 obtain⟨hd,hl,h48,hv,hn⟩:=hn
 subst hk hn
 have hsp:spanN digitN (tb s)=b.length:=by rw[hs];exact span_app b r hd (.inl (not_digit hr))
 have h0:(tb s).getD 0 0=b.getD 0 0:=by rw[hs,getD_app hl]
 have hb:digitN (b.getD 0 0)=true:=by
  match b,hl with
  |c::b,_=>
   simp only [List.all_cons,Bool.and_eq_true]at hd
   exact hd.1
 have hbd:=digit_bd hb
 have he:tb (s.extract 0 b.length)=b:=by rw[tb_ext,List.drop_zero,hs,take_app0]
 have hw:nextT0 s=numberT s:=by
  unfold nextT0
  have h1:smallN (b.getD 0 0)=false:=digit_small hb
  have h2:greatN (b.getD 0 0)=false:=digit_great hb
  simp only [h0,h1,h2,hb,Bool.or_self]
 have hp:=parse_digits (s.extract 0 b.length) (by rw[he];exact hd) (by rw[he];exact hl)
 rw[he]at hp
 have e:numberT s=⟨3,s.extract 0 b.length,(valN 0 b:Int),b.length,true⟩:=by
  unfold numberT
  simp only [hsp,h0,hp.1,hp.2 hv,decide_eq_true hv,Bool.true_and]
  have:(!decide (b.getD 0 0=48) || decide (b.length=1))=true:=by
   by_cases h:b.getD 0 0=48
   ·rw[decide_eq_true (h48 h),Bool.or_true]
   ·rw[decide_eq_false h];rfl
  rw[this]
 rw[e]at hw
 refine⟨?_,?_,?_,?_,?_⟩<;>rw[hw]
 ·exact he
 ·rfl
theorem idx_app {c:Nat}: ∀(b r:List Nat),(∀x∈b,x≠c)→idxN c (b++c::r)=some b.length
 | [],r,_=>by simp [idxN]
 |x::b,r,h=>by
  have h1:x≠c:=h x List.mem_cons_self
  have h2:=idx_app b r fun y hy=>h y (List.mem_cons_of_mem _ hy)
  rw[List.cons_append,idxN]
  simp [h1,h2]
theorem tok_path {s:ByteArray}{t:T}{r:List Nat}(hs:tb s=39::(t.b++[39])++r)(hk:t.k=4)(hp:pathN t.b=true)(h39: ∀x∈t.b,x≠39)(hn:t.n=0):TokIs s t:=by
 obtain⟨k,b,n⟩:=t
 simp only at hs hk hp h39 hn
 subst hk hn
 have hs2:tb s=39::(b++39::r):=by rw[hs];simp
 have hw:nextT0 s=pathT s:=by
  unfold nextT0
  rw[hs2]
  rfl
 have he:tb (s.extract 1 (b.length+1))=b:=by
  rw[tb_ext,hs2]
  simp
 have e:pathT s=⟨4,s.extract 1 (b.length+1),0,b.length+2,true⟩:=by
  unfold pathT
  have:(tb s).drop 1=b++39::r:=by rw[hs2];rfl
  rw[this,idx_app b r h39]
  simp only [he,hp]
 rw[e]at hw
 refine⟨?_,?_,?_,?_,?_⟩<;>rw[hw]
 ·exact he
 ·unfold T.w;simp
theorem tok_two {s:ByteArray}{t:T}{r:List Nat}(hs:tb s=t.b++r)(hk:t.k=5)(hp:twoN.contains t.b=true)(hn:t.n=0):TokIs s t:=by
 obtain⟨k,b,n⟩:=t
 simp only at hs hk hp hn
 subst hk hn
 obtain⟨i,hi,he⟩:=two_in.1 hp
 have hb: ∃c d,b= [c,d]∧(smallN c || greatN c)=false∧digitN c=false∧decide (c=39)=false:=by
  match i,hi with
  |0,_|1,_|2,_|3,_|4,_=>exact⟨_,_,he,rfl,rfl,rfl⟩
 obtain⟨c,d,rfl,h1,h2,h3⟩:=hb
 have hw:nextT0 s=markT s:=by
  unfold nextT0
  rw[hs]
  show(match smallN c || greatN c,digitN c,decide (c=39)with
   |true,_,_=>wordT s
   |false,true,_=>numberT s
   |false,false,true=>pathT s
   |false,false,false=>markT s)=_
  rw[h1,h2,h3]
 have ht:(tb s).take 2= [c,d]:=by rw[hs];rfl
 have e:markT s=⟨5,s.extract 0 2,0,2,true⟩:=by
  unfold markT
  rw[ht,hp]
 rw[e]at hw
 refine⟨?_,?_,?_,?_,?_⟩<;>rw[hw]
 ·show tb (s.extract 0 2)=_
  rw[tb_ext,ht];rfl
 ·rfl
theorem tok_one {s:ByteArray}{t:T}{r:List Nat}{c:Nat}(hs:tb s=t.b++r)(hk:t.k=5)(hp:oneN.contains c=true)(hb:t.b= [c])(hn:t.n=0)(hr:twoN.contains [c,r.getD 0 0]=false):TokIs s t:=by
 obtain⟨k,b,n⟩:=t
 simp only at hs hk hb hn
 subst hk hn hb
 have hb:(smallN c || greatN c)=false∧digitN c=false∧decide (c=39)=false:=by
  have hm:=List.contains_iff_mem.1 hp
  unfold oneN at hm
  simp at hm
  rcases hm with h|h|h|h|h|h|h|h|h|h|h|h|h|h|h|h<;>(subst h;exact⟨rfl,rfl,rfl⟩)
 obtain⟨h1,h2,h3⟩:=hb
 have hw:nextT0 s=markT s:=by
  unfold nextT0
  rw[hs]
  show(match smallN c || greatN c,digitN c,decide (c=39)with
   |true,_,_=>wordT s
   |false,true,_=>numberT s
   |false,false,true=>pathT s
   |false,false,false=>markT s)=_
  rw[h1,h2,h3]
 have ht:twoN.contains ((tb s).take 2)=false:=by
  rw[hs]
  match r,hr with
  | [],_=>
    cases hx:twoN.contains (([c]++[]).take 2)with
    |false=>rfl
    |true=>
     obtain⟨i,hi,he⟩:=two_in.1 hx
     match i,hi,he with
     |0,_,he|1,_,he|2,_,he|3,_,he|4,_,he=>cases he
  |d::r,hr=>exact hr
 have e:markT s=⟨5,s.extract 0 1,0,1,true⟩:=by
  unfold markT
  have:(tb s).getD 0 0=c:=by rw[hs];rfl
  rw[ht,this,hp]
 rw[e]at hw
 refine⟨?_,?_,?_,?_,?_⟩<;>rw[hw]
 ·show tb (s.extract 0 1)=_
  rw[tb_ext,hs];rfl
 ·rfl
theorem tok_is {s:ByteArray}{t:T}{r:List Nat}(hs:tb s=t.w++r)(ht:t.OK)(hr:ajB t (r.getD 0 0)=true):TokIs s t∧gapN (tb s)=0∧0 < t.w.length:=by
 unfold T.w at hs ⊢
 rcases ht with⟨h1,h2,h3,h4⟩|⟨h1,h2,h3⟩|⟨h1,h2⟩|⟨h1,h2,h3,h4⟩|⟨h1,h2,h3⟩|⟨h1,c,h2,h3,h4⟩
 ·have hb:innerN (r.getD 0 0)=false:=by
   unfold ajB at hr;rw[if_neg (by omega),if_neg (by omega)]at hr;simpa using hr
  rw[if_neg (by omega)]at hs ⊢
  have hp:=name_parts h3
  have hs':=small_bd hp.2.1
  have h0:(tb s).getD 0 0=t.b.getD 0 0:=by rw[hs,getD_app hp.1]
  refine⟨tok_word hs (.inl ⟨h1,h3,h2⟩) h4 hb,gap_stop (by rw[h0];exact blank_no (by omega)) ?_,hp.1⟩
  rw[hs]
  match h:t.b,hp.1 with
  |c::b,_=>rw[h]at hs';exact rem_no (by have:97≤c:=hs'.1;omega)
 ·have hb:innerN (r.getD 0 0)=false:=by
   unfold ajB at hr;rw[if_neg (by omega),if_neg (by omega)]at hr;simpa using hr
  rw[if_neg (by omega)]at hs ⊢
  have hp:=name_parts h2
  have hs':=great_bd hp.2.1
  have h0:(tb s).getD 0 0=t.b.getD 0 0:=by rw[hs,getD_app hp.1]
  refine⟨tok_word hs (.inr ⟨h1,h2⟩) h3 hb,gap_stop (by rw[h0];exact blank_no (by omega)) ?_,hp.1⟩
  rw[hs]
  match h:t.b,hp.1 with
  |c::b,_=>rw[h]at hs';exact rem_no (by have:65≤c:=hs'.1;omega)
 ·have hb:innerN (r.getD 0 0)=false:=by
   unfold ajB at hr;rw[if_neg (by omega),if_neg (by omega)]at hr;simpa using hr
  rw[if_neg (by omega)]at hs ⊢
  refine⟨tok_num hs h1 h2 hb,?_,h2.2.1⟩
  obtain⟨hd,hl,_⟩:=h2
  rw[hs]
  match h:t.b,hl with
  |c::b,_=>
   rw[h]at hd
   simp only [List.all_cons,Bool.and_eq_true]at hd
   have:=digit_bd hd.1
   exact gap_stop (blank_no (by show 33≤c;omega)) (rem_no (by omega))
 ·rw[if_pos h1]at hs ⊢
  refine⟨tok_path hs h1 h2 h3 h4,?_,by simp⟩
  rw[hs]
  exact gap_stop rfl (rem_no (by decide))
 ·rw[if_neg (by omega)]at hs ⊢
  obtain⟨i,hi,he⟩:=two_in.1 h2
  refine⟨tok_two hs h1 h2 h3,?_,?_⟩
  ·rw[hs,he]
   match i,hi with
   |0,_|2,_|3,_|4,_=>exact gap_stop rfl (rem_no (by decide))
   |1,_=>exact gap_stop rfl rfl
  ·rw[he]
   match i,hi with
   |0,_|1,_|2,_|3,_|4,_=>decide
 ·have hb:twoN.contains [c,r.getD 0 0]=false∧(c=45→r.getD 0 0≠45):=by
   unfold ajB at hr;rw[if_neg (by omega),if_pos h1,h3]at hr
   simp only [Bool.and_eq_true,Bool.not_eq_true']at hr
   refine⟨hr.1,fun h e=> ?_⟩
   rw[e,h]at hr
   exact absurd hr.2 (by decide)
  rw[if_neg (by omega)]at hs ⊢
  refine⟨tok_one hs h1 h2 h3 h4 hb.1,?_,by rw[h3];exact Nat.one_pos⟩
  rw[hs,h3]
  have hm:=List.contains_iff_mem.1 h2
  have h33:33≤c:=by
   unfold oneN at hm
   simp at hm
   omega
  refine gap_stop (blank_no h33) ?_
  by_cases h45:c=45
  ·subst h45
   unfold hasN remN
   refine decide_eq_false fun e=> ?_
   match r,hb.2 rfl,e with
   |d::r,h,e=>
    simp at e
    exact h e
  ·exact rem_no h45
def render:List (Option T)→List Nat
 | []=>[]
 |none::r=>32::render r
 |some t::r=>t.w++render r
def hd (d:Nat)(r:List (Option T)):Nat:=(render r++[d]).getD 0 0
def chain (d:Nat):List (Option T)→Bool
 | []=>true
 |none::r=>chain d r
 |some t::r=>ajB t (hd d r)&&chain d r
theorem render_app: ∀x y:List (Option T),render (x++y)=render x++render y
 | [],y=>rfl
 |none::x,y=>by simp [render,render_app x y]
 |some t::x,y=>by simp [render,render_app x y]
theorem hd_app (d:Nat)(x y:List (Option T)):hd d (x++y)=hd (hd d y) x:=by
 unfold hd
 rw[render_app]
 match h:render x with
 | []=>
   match h2:render y with
   | []=>rfl
   |c::b=>rfl
 |c::b=>rfl
theorem chain_app (d:Nat): ∀x y:List (Option T),chain d (x++y)=(chain (hd d y) x&&chain d y)
 | [],y=>rfl
 |none::x,y=>chain_app d x y
 |some t::x,y=>by
  rw[List.cons_append,chain,chain,chain_app d x y,hd_app,Bool.and_assoc]
theorem lexS_blank (s:ByteArray)(a:Nat)(h:(tb s).drop a=32::(tb s).drop (a+1)):lexS s a=lexS s (a+1):=by
 have hg:a+gapN ((tb s).drop a)=a+1+gapN ((tb s).drop (a+1)):=by
  rw[h,gap_blank _ rfl];omega
 rw[lexS.eq_def s a,lexS.eq_def s (a+1)]
 simp only [hg]
theorem drop_step {l x y:List Nat}{a:Nat}(h:l.drop a=x++y):l.drop (a+x.length)=y:=by
 rw[←List.drop_drop,h];simp
theorem lex_render (s:ByteArray): ∀(ps:List (Option T)) (a:Nat),a≤(tb s).length→(tb s).drop a=render ps→(∀t,some t∈ps→t.OK)→chain 0 ps=true→
  ∃l:List Tk,l.map tkT=ps.filterMap id∧lexS s a=(l,(tb s).length,true)
 | [],a,ha,hd,_,_=>by
   have h0:a=(tb s).length:=by
    have:=congrArg List.length hd
    simp only [List.length_drop,render,List.length_nil]at this
    omega
   refine⟨[],rfl,?_⟩
   rw[lexS.eq_def,hd]
   have hg:gapN (render [])=0:=gap_stop rfl rfl
   rw[hg,dif_neg (by omega)]
   subst h0;rfl
 |none::ps,a,ha,hd,ho,hc=>by
  have hd1:(tb s).drop (a+1)=render ps:=drop_step (x:=[32]) hd
  have hlt:a < (tb s).length:=by
   have:=congrArg List.length hd
   simp only [List.length_drop,render,List.length_cons]at this
   omega
  obtain⟨l,h1,h2⟩:=lex_render s ps (a+1) hlt hd1 (fun t h=>ho t (List.mem_cons_of_mem _ h)) hc
  refine⟨l,by simpa using h1,?_⟩
  rw[lexS_blank s a (by rw[hd,hd1];rfl),h2]
 |some t::ps,a,ha,hd,ho,hc=>by
  rw[chain,Bool.and_eq_true]at hc
  have hlen:=congrArg List.length hd
  simp only [List.length_drop,render,List.length_append]at hlen
  have e1:tb (s.extract a (tb s).length)=t.w++render ps:=by rw[tb_ext,List.take_length];exact hd
  have haj:ajB t ((render ps).getD 0 0)=true:=by
   have:=hc.1
   unfold Go.Vm.hd at this
   match h:render ps with
   | []=>rw[h]at this;exact this
   |c::b=>rw[h]at this;exact this
  obtain⟨hk,hg,hw⟩:=tok_is e1 (ho t List.mem_cons_self) haj
  rw[tb_ext,List.take_length]at hg
  obtain⟨l,h1,h2⟩:=lex_render s ps (a+t.w.length) (by omega) (drop_step hd) (fun t h=>ho t (List.mem_cons_of_mem _ h)) hc.2
  have heq:=lexS.eq_def s a
  simp only [hg,Nat.add_zero]at heq
  rw[dif_pos (by omega),dif_pos ⟨hk.ok,by rw[hk.w];exact hw⟩,hk.w,h2]at heq
  refine⟨_::l,?_,heq⟩
  simp only [List.map_cons,List.filterMap_cons,id,h1]
  congr 1
  obtain⟨k,b,n⟩:=t
  simp only [tkT,hk.k,hk.b,hk.n]
end Go.Vm
end

section
set_option linter.all false
set_option maxRecDepth 100000
set_option maxHeartbeats 4000000
namespace Go.Vm
open Go.Proofs
abbrev Pc:=List (Option T)
def mk (c:Nat):Option T:=some ⟨5,[c],0⟩
def m2 (c d:Nat):Option T:=some ⟨5,[c,d],0⟩
def wd (b:List Nat):Option T:=some ⟨1,b,0⟩
def digN (n:Nat):List Nat:=if h:n < 10 then[48+n]else digN (n / 10)++[48+n % 10]
 termination_by n
 decreasing_by omega
def kNot:List Nat:=[110,111,116]
def kIf:List Nat:=[105,102]
def kThen:List Nat:=[116,104,101,110]
def kElse:List Nat:=[101,108,115,101]
def kFby:List Nat:=[102,98,121]
def kPre:List Nat:=[112,114,101]
def kWhen:List Nat:=[119,104,101,110]
def kMerge:List Nat:=[109,101,114,103,101]
def kEvery:List Nat:=[101,118,101,114,121]
def kWith:List Nat:=[119,105,116,104]
def kTrue:List Nat:=[116,114,117,101]
def kFalse:List Nat:=[102,97,108,115,101]
def opK (o:Nat):Option T:=some ⟨if 7≤o∧o≤10 then 1 else 5,tb (signB o),0⟩
def armP (a:ByteArray):Option T:=some ⟨if highN (tb a)then 2 else 1,tb a,0⟩
def onP (s a:ByteArray):Pc:=if tb a=kTrue then[wd (tb s)]else if tb a=kFalse then[wd kNot,none,wd (tb s)]else[armP a,mk 40,wd (tb s),mk 41]
def sepP:List Pc→Pc
 | []=>[]
 |x::r=>[mk 44,none]++x++sepP r
def listP:List Pc→Pc
 | []=>[]
 |x::r=>x++sepP r
def mergeP:List ByteArray→List Pc→Pc
 |a::ar,x::xs=>[none,mk 40,armP a,none,m2 45 62,none]++x++[mk 41]++mergeP ar xs
 |_,_=>[]
def leafP (k n:Int)(s:ByteArray):Pc:=if k=1 then[some ⟨3,digN n.toNat,n⟩]else if k=2 then[wd (if n=1 then kTrue else kFalse)]else if k=17 then[some ⟨4,tb s,0⟩]else if k=4 then[some ⟨2,tb s,0⟩]else[wd (tb s)]
def callP (n:Int)(s:ByteArray)(t:List Pc):Pc:=if n=1 then[mk 40,wd (tb s),mk 40]++listP (t.take (t.length - 1))++[mk 41,none,wd kEvery,none]++t.getD (t.length - 1) []++[mk 41]else[wd (tb s),mk 40]++listP t++[mk 41]
def pcK (k n:Int)(s:ByteArray)(o:Int)(a:List ByteArray)(t:List Pc):Pc:=
 if k=5 then(if o=1 then[mk 40,mk 45]++t.getD 0 []++[mk 41]else[mk 40,wd kNot,none]++t.getD 0 []++[mk 41])
 else if k=6 then[mk 40]++t.getD 0 []++[none,opK o.toNat,none]++t.getD 1 []++[mk 41]
 else if k=7 then[mk 40,wd kIf,none]++t.getD 0 []++[none,wd kThen,none]++t.getD 1 []++[none,wd kElse,none]++t.getD 2 []++[mk 41]
 else if k=8 then[mk 40]++t.getD 0 []++[none,wd kFby,none]++t.getD 1 []++[mk 41]
 else if k=9 then[mk 40]++t.getD 0 []++[none,m2 45 62,none]++t.getD 1 []++[mk 41]
 else if k=10 then[mk 40,wd kPre,none]++t.getD 0 []++[mk 41]
 else if k=11 then[mk 40]++t.getD 0 []++[none,wd kWhen,none]++onP s (a.getD 0 (bs []))++[mk 41]
 else if k=12 then[mk 40,wd kMerge,none,wd (tb s)]++mergeP a t++[mk 41]
 else if k=13 then callP n s t
 else if k=14 then[mk 91]++listP t++[mk 93]
 else if k=15 then t.getD 0 []++[mk 91]++t.getD 1 []++[mk 93]
 else if k=16 then[mk 40]++t.getD 0 []++[none,wd kWith,none,mk 91]++t.getD 1 []++[mk 93,none,mk 61,none]++t.getD 2 []++[mk 41]
 else leafP k n s
mutual
def pcs:Ex→Pc
 | .mk k n s o a u=>pcK k n s o a (pcsL u)
def pcsL:List Ex→List Pc
 | []=>[]
 |e::l=>pcs e::pcsL l
end
theorem pcsL_len: ∀u:List Ex,(pcsL u).length=u.length
 | []=>rfl
 |_::l=>by simp [pcsL,pcsL_len l]
mutual
def Ex.rng:Ex→Prop
 | .mk _ n _ _ _ u=>n < 9223372036854775808∧Ex.rngs u
def Ex.rngs:List Ex→Prop
 | []=>True
 |e::l=>e.rng∧Ex.rngs l
end
def stB (c:Nat):Bool:=smallN c || (greatN c || (digitN c || (decide (c=39) || (decide (c=40) || decide (c=91)))))
def edB (d:Nat):Bool:=decide (d=32) || (decide (d=41) || (decide (d=44) || (decide (d=91) || (decide (d=93) || (decide (d=59) || decide (d=0))))))
theorem end_inner {d:Nat}(h:edB d=true):innerN d=false:=by
 unfold edB at h
 simp only [Bool.or_eq_true,decide_eq_true_eq]at h
 rcases h with h|h|h|h|h|h|h<;>(subst h;rfl)
theorem OK_mk {c:Nat}(h:oneN.contains c=true):T.OK ⟨5,[c],0⟩:= .inr (.inr (.inr (.inr (.inr ⟨rfl,c,h,rfl,rfl⟩))))
theorem OK_m2 {c d:Nat}(h:twoN.contains [c,d]=true):T.OK ⟨5,[c,d],0⟩:= .inr (.inr (.inr (.inr (.inl ⟨rfl,h,rfl⟩))))
theorem OK_wd {b:List Nat}(h:nameN smallN b=true)(h2:(lowN b || wordN b)=true):T.OK ⟨1,b,0⟩:= .inl ⟨rfl,h2,h,rfl⟩
theorem low_name {b:List Nat}(h:lowN b=true):nameN smallN b=true∧wordN b=false:=by
 unfold lowN at h
 simp only [Bool.and_eq_true,Bool.not_eq_true']at h
 exact h
theorem OK_low {b:List Nat}(h:lowN b=true):T.OK ⟨1,b,0⟩:=OK_wd (low_name h).1 (by rw[h];rfl)
theorem OK_high {b:List Nat}(h:highN b=true):T.OK ⟨2,b,0⟩:= .inr (.inl ⟨rfl,h,rfl⟩)
theorem split_in {c x:Nat}: ∀ {b:List Nat},x∈b→x=c∨ ∃p∈splitN c b,x∈p
 | [],h=>by cases h
 |y::b,h=>by
  unfold splitN
  by_cases hy:y=c
  ·rw[if_pos hy]
   rcases List.mem_cons.1 h with rfl|h
   ·exact .inl hy
   ·rcases split_in (c:=c) h with h|⟨p,hp,hx⟩
    ·exact .inl h
    ·exact .inr ⟨p,List.mem_cons_of_mem _ hp,hx⟩
  ·rw[if_neg hy]
   have hne:=splitN_ne c b
   rcases List.mem_cons.1 h with rfl|h
   ·right
    cases hs:splitN c b with
    |nil=>exact absurd hs hne
    |cons q qs=>exact⟨_,List.mem_cons_self,List.mem_cons_self⟩
   ·rcases split_in (c:=c) h with h|⟨p,hp,hx⟩
    ·exact .inl h
    ·right
     cases hs:splitN c b with
     |nil=>exact absurd hs hne
     |cons q qs=>
      rw[hs]at hp
      rcases List.mem_cons.1 hp with rfl|hp
      ·exact⟨_,List.mem_cons_self,List.mem_cons_of_mem _ hx⟩
      ·exact⟨p,List.mem_cons_of_mem _ hp,hx⟩
theorem inner39 {x:Nat}(h:innerN x=true):x≠39:=by rintro rfl;cases h
theorem low39 {b:List Nat}(h:lowN b=true): ∀x∈b,x≠39:=fun x hx=>inner39 (List.all_eq_true.1 (name_parts (low_name h).1).2.2 x hx)
theorem part39 {b:List Nat}(h:partN b=true): ∀x∈b,x≠39:=fun x hx=>by
 rcases split_in (c:=46) hx with rfl|⟨p,hp,hxp⟩
 ·decide
 ·unfold partN at h
  split at h
  ·rename_i q hq
   rw[hq]at hp
   rw[List.mem_singleton.1 hp]at hxp
   exact low39 h x hxp
  ·rename_i q r hq
   rw[hq]at hp
   simp only [Bool.and_eq_true]at h
   rcases List.mem_cons.1 hp with rfl|hp
   ·exact low39 h.1 x hxp
   ·rw[List.mem_singleton.1 hp]at hxp
    have h2:=h.2
    unfold numN at h2
    simp only [Bool.and_eq_true]at h2
    exact inner39 (digit_inner (List.all_eq_true.1 h2.2 x hxp))
  ·cases h
theorem path39 {b:List Nat}(h:pathN b=true): ∀x∈b,x≠39:=fun x hx=>by
 rcases split_in (c:=47) hx with rfl|⟨p,hp,hxp⟩
 ·decide
 ·exact part39 (List.all_eq_true.1 h p hp) x hxp
theorem OK_path {b:List Nat}(h:pathN b=true):T.OK ⟨4,b,0⟩:= .inr (.inr (.inr (.inl ⟨rfl,h,path39 h,rfl⟩)))
theorem digN_ok: ∀(m n:Nat),n≤m→(digN n).all digitN=true∧0 < (digN n).length∧((digN n).getD 0 0=48→(digN n).length=1)∧valN 0 (digN n)=n
 |m,n,hm=>by
  unfold digN
  split
  ·rename_i h
   refine⟨?_,by simp,by simp,?_⟩
   ·show(digitN (48+n)&&true)=true
    unfold digitN
    rw[decide_eq_true (by omega),decide_eq_true (by omega)];rfl
   ·show 0*10+(48+n - 48)=n
    omega
  ·rename_i h
   cases m with
   |zero=>omega
   |succ m=>
    obtain⟨h1,h2,h3,h4⟩:=digN_ok m (n / 10) (by omega)
    refine⟨?_,by simp,fun h0=> ?_,?_⟩
    ·rw[List.all_append,h1]
     show(true&&(digitN (48+n % 10)&&true))=true
     unfold digitN
     rw[decide_eq_true (by omega),decide_eq_true (by omega)];rfl
    ·rw[getD_app h2]at h0
     have h5:=h3 h0
     exfalso
     match hd:digN (n / 10),h5,h0,h4 with
     | [c],_,h0,h4=>
       simp only [List.getD_cons_zero]at h0
       subst h0
       have h4:0*10+(48 - 48)=n / 10:=h4
       omega
    ·rw[valN_app,h4]
     show n / 10*10+(48+n % 10 - 48)=n
     omega
theorem OK_num {n:Int}(h0:0≤n)(h1:n < 9223372036854775808):T.OK ⟨3,digN n.toNat,n⟩:=by
 obtain⟨h2,h3,h4,h5⟩:=digN_ok _ n.toNat (Nat.le_refl _)
 refine .inr (.inr (.inl ⟨rfl,h2,h3,h4,?_,?_⟩))
 ·show valN 0 (digN n.toNat) < _
  rw[h5];omega
 ·show n=(valN 0 (digN n.toNat):Int)
  rw[h5];omega
theorem OK_arm {a:ByteArray}(h:armN a=true):T.OK ⟨if highN (tb a)then 2 else 1,tb a,0⟩:=by
 unfold armN at h
 cases hh:highN (tb a)with
 |true=>rw[if_pos rfl];exact OK_high hh
 |false=>
  rw[hh,Bool.false_or]at h
  rw[if_neg (by decide)]
  rcases Bool.or_eq_true _ _▸h with h|h<;>(rw[of_decide_eq_true h];exact OK_wd rfl rfl)
theorem OK_op {o:Nat}(h1:3≤o)(h2:o≤16):T.OK ⟨if 7≤o∧o≤10 then 1 else 5,tb (signB o),0⟩:=by
 match o,h1,h2 with
 |3,_,_|4,_,_|5,_,_|6,_,_|11,_,_|13,_,_|15,_,_=>exact OK_mk rfl
 |7,_,_|8,_,_|9,_,_|10,_,_=>exact OK_wd rfl rfl
 |12,_,_|14,_,_|16,_,_=>exact OK_m2 rfl
 |o+17,_,h=>omega
theorem hd_some (d:Nat)(t:T)(r:Pc)(h:0 < t.w.length):hd d (some t::r)=t.w.getD 0 0:=by
 unfold hd
 rw[render,List.append_assoc,getD_app h]
theorem hd_none (d:Nat)(r:Pc):hd d (none::r)=32:=rfl
theorem hd_mk (d c:Nat)(r:Pc):hd d (mk c::r)=c:=rfl
theorem aj_path (b:List Nat)(d:Nat):ajB ⟨4,b,0⟩ d=true:=rfl
theorem aj_m2 (a b d:Nat):ajB ⟨5,[a,b],0⟩ d=true:=rfl
theorem aj_mk {c d:Nat}(h:c≠58∧c≠45∧c≠60∧c≠62):ajB ⟨5,[c],0⟩ d=true:=by
 show(!twoN.contains [c,d]&& !(decide (c=45)&&decide (d=45)))=true
 rw[decide_eq_false h.2.1]
 have:twoN.contains [c,d]=false:=by
  cases hx:twoN.contains [c,d]with
  |false=>rfl
  |true=>
   have:=List.contains_iff_mem.1 hx
   unfold twoN at this
   simp at this
   omega
 rw[this];rfl
theorem aj_mks {c d:Nat}(h:stB d=true∨d=32):ajB ⟨5,[c],0⟩ d=true:=by
 have hd:d≠61∧d≠62∧d≠45:=by
  rcases h with h|h
  ·refine⟨?_,?_,?_⟩<;>(rintro rfl;cases h)
  ·omega
 show(!twoN.contains [c,d]&& !(decide (c=45)&&decide (d=45)))=true
 rw[decide_eq_false hd.2.2,Bool.and_false]
 have:twoN.contains [c,d]=false:=by
  cases hx:twoN.contains [c,d]with
  |false=>rfl
  |true=>
   have:=List.contains_iff_mem.1 hx
   unfold twoN at this
   simp at this
   omega
 rw[this];rfl
end Go.Vm
end

section
set_option linter.all false
set_option maxRecDepth 100000
set_option maxHeartbeats 4000000
namespace Go.Vm
open Go.Proofs
def okP:Pc→Prop
 | []=>True
 |none::r=>okP r
 |some t::r=>t.OK∧okP r
theorem okP_app: ∀x y:Pc,okP (x++y)↔okP x∧okP y
 | [],y=>by simp [okP]
 |none::x,y=>by simp only [List.cons_append,okP,okP_app x y]
 |some t::x,y=>by simp only [List.cons_append,okP,okP_app x y,and_assoc]
theorem okP_iff: ∀ {x:Pc},okP x↔ ∀t,some t∈x→t.OK
 | []=>by simp [okP]
 |none::x=>by simp [okP,okP_iff (x:=x)]
 |some t::x=>by simp [okP,okP_iff (x:=x)]
structure PV (p:Pc):Prop where
 ok:okP p
 ch: ∀d,edB d=true→chain d p=true
 st: ∀d,stB (hd d p)=true
theorem ch_mk (d c:Nat)(r:Pc):chain d (mk c::r)=(ajB ⟨5,[c],0⟩ (hd d r)&&chain d r):=rfl
theorem ch_m2 (d a b:Nat)(r:Pc):chain d (m2 a b::r)=chain d r:=by
 show(ajB ⟨5,[a,b],0⟩ (hd d r)&&chain d r)=_
 rw[aj_m2,Bool.true_and]
theorem ch_wd (d:Nat)(b:List Nat)(r:Pc):chain d (wd b::r)=(!innerN (hd d r)&&chain d r):=rfl
theorem ch_none (d:Nat)(r:Pc):chain d (none::r)=chain d r:=rfl
theorem ch_nil (d:Nat):chain d []=true:=rfl
theorem ok_mk (c:Nat)(r:Pc)(h:oneN.contains c=true):okP (mk c::r)↔okP r:=⟨fun h=>h.2,fun h2=>⟨OK_mk h,h2⟩⟩
theorem ok_m2 (r:Pc):okP (m2 45 62::r)↔okP r:=⟨fun h=>h.2,fun h2=>⟨OK_m2 rfl,h2⟩⟩
theorem ok_none (r:Pc):okP (none::r)↔okP r:=Iff.rfl
theorem ok_wd (b:List Nat)(r:Pc)(h1:nameN smallN b=true)(h2:(lowN b || wordN b)=true):okP (wd b::r)↔okP r:=⟨fun h=>h.2,fun h3=>⟨OK_wd h1 h2,h3⟩⟩
theorem op32 {o:Nat}(h1:3≤o)(h2:o≤16)(d:Nat)(r:Pc):chain d (opK o::none::r)=chain d r∧(okP (opK o::r)↔okP r):=by
 refine⟨?_,fun h=>h.2,fun h=>⟨OK_op h1 h2,h⟩⟩
 show(ajB _ 32&&chain d r)=chain d r
 rw[show ajB ⟨if 7≤o∧o≤10 then 1 else 5,tb (signB o),0⟩ 32=true from by
  match o,h1,h2 with
  |3,_,_|4,_,_|5,_,_|6,_,_|11,_,_|13,_,_|15,_,_|7,_,_|8,_,_|9,_,_|10,_,_|12,_,_|14,_,_|16,_,_=>rfl
  |o+17,_,h=>omega,Bool.true_and]
theorem aj40 (d:Nat):ajB ⟨5,[40],0⟩ d=true:=aj_mk (by decide)
theorem aj41 (d:Nat):ajB ⟨5,[41],0⟩ d=true:=aj_mk (by decide)
theorem aj91 (d:Nat):ajB ⟨5,[91],0⟩ d=true:=aj_mk (by decide)
theorem aj93 (d:Nat):ajB ⟨5,[93],0⟩ d=true:=aj_mk (by decide)
theorem aj44 (d:Nat):ajB ⟨5,[44],0⟩ d=true:=aj_mk (by decide)
theorem aj61:ajB ⟨5,[61],0⟩ 32=true:=rfl
theorem in32:innerN 32=false:=rfl
theorem in40:innerN 40=false:=rfl
theorem wl_low {b:List Nat}(h:lowN b=true):(lowN b || wordN b)=true:=by rw[h];rfl
theorem low_st {b:List Nat}(h:lowN b=true)(d:Nat)(r:Pc):stB (hd d (wd b::r))=true:=by
 have hp:=name_parts (low_name h).1
 show stB (hd d (some ⟨1,b,0⟩::r))=true
 rw[hd_some _ _ _ (by show 0 < (T.w ⟨1,b,0⟩).length;exact hp.1)]
 show stB (b.getD 0 0)=true
 unfold stB;rw[hp.2.1];rfl
theorem high_st {b:List Nat}(h:highN b=true)(d:Nat)(r:Pc):stB (hd d (some ⟨2,b,0⟩::r))=true:=by
 have hp:=name_parts h
 rw[hd_some _ _ _ (by show 0 < (T.w ⟨2,b,0⟩).length;exact hp.1)]
 show stB (b.getD 0 0)=true
 unfold stB;rw[hp.2.1,Bool.true_or,Bool.or_true]
theorem num_st (m:Nat)(n:Int)(d:Nat)(r:Pc):stB (hd d (some ⟨3,digN m,n⟩::r))=true:=by
 obtain⟨h1,h2,h3,h4⟩:=digN_ok _ m (Nat.le_refl _)
 rw[hd_some _ _ _ (by show 0 < (T.w ⟨3,digN m,n⟩).length;exact h2)]
 show stB ((digN m).getD 0 0)=true
 have:digitN ((digN m).getD 0 0)=true:=by
  match hd:digN m,h2,h1 with
  |c::b,_,h1=>
   simp only [List.all_cons,Bool.and_eq_true]at h1
   exact h1.1
 unfold stB;rw[this,Bool.true_or,Bool.or_true,Bool.or_true]
theorem ch_path (b:List Nat)(d:Nat)(r:Pc):chain d (some ⟨4,b,0⟩::r)=chain d r:=by
 show(ajB ⟨4,b,0⟩ (hd d r)&&chain d r)=_
 rw[aj_path,Bool.true_and]
theorem ch_arm (a:ByteArray)(d:Nat)(r:Pc):chain d (armP a::r)=(!innerN (hd d r)&&chain d r):=by
 unfold armP
 split<;>rfl
theorem ok_arm {a:ByteArray}(h:armN a=true)(r:Pc):okP (armP a::r)↔okP r:=⟨fun h=>h.2,fun h2=>⟨OK_arm h,h2⟩⟩
theorem PV_seps: ∀ {t:List Pc},(∀p∈t,PV p)→okP (sepP t)∧ ∀d,edB d=true→chain d (sepP t)=true∧edB (hd d (sepP t))=true
 | [],_=>⟨trivial,fun d h=>⟨rfl,h⟩⟩
 |x::t,h=>by
  have hx:=h x List.mem_cons_self
  obtain⟨h1,h2⟩:=PV_seps fun p hp=>h p (List.mem_cons_of_mem _ hp)
  refine⟨?_,fun d hd'=> ?_⟩
  ·simp only [sepP,okP_app,List.cons_append,List.nil_append,ok_mk _ _ (show oneN.contains 44=true from rfl),ok_none]
   exact⟨hx.ok,h1⟩
  ·simp only [sepP,List.cons_append,List.nil_append,ch_mk,ch_none,chain_app,hd_app,aj44,Bool.true_and]
   rw[hx.ch _ (h2 d hd').2,(h2 d hd').1]
   exact⟨rfl,rfl⟩
theorem PV_list {t:List Pc}(h: ∀p∈t,PV p):okP (listP t)∧ ∀d,edB d=true→chain d (listP t)=true:=by
 match t,h with
 | [],_=>exact⟨trivial,fun d _=>rfl⟩
 |x::t,h=>
  have hx:=h x List.mem_cons_self
  obtain⟨h1,h2⟩:=PV_seps fun p hp=>h p (List.mem_cons_of_mem _ hp)
  refine⟨by simp only [listP,okP_app];exact⟨hx.ok,h1⟩,fun d hd'=> ?_⟩
  simp only [listP,chain_app]
  rw[hx.ch _ (h2 d hd').2,(h2 d hd').1];rfl
theorem PV_merge: ∀ {a:List ByteArray} {t:List Pc},a.all armN=true→(∀p∈t,PV p)→okP (mergeP a t)∧ ∀d,edB d=true→chain d (mergeP a t)=true∧edB (hd d (mergeP a t))=true
 | [],_,_,_=>⟨trivial,fun d h=>⟨by unfold mergeP;rfl,by unfold mergeP;exact h⟩⟩
 |_::_,[],_,_=>⟨trivial,fun d h=>⟨by unfold mergeP;rfl,by unfold mergeP;exact h⟩⟩
 |a::ar,x::t,ha,h=>by
  simp only [List.all_cons,Bool.and_eq_true]at ha
  have hx:=h x List.mem_cons_self
  obtain⟨h1,h2⟩:=PV_merge ha.2 fun p hp=>h p (List.mem_cons_of_mem _ hp)
  refine⟨?_,fun d hd'=> ?_⟩
  ·simp only [mergeP,okP_app,List.cons_append,List.nil_append,ok_mk _ _ (show oneN.contains 40=true from rfl),ok_mk _ _ (show oneN.contains 41=true from rfl),ok_none,ok_m2,ok_arm ha.1]
   exact⟨⟨hx.ok,trivial⟩,h1⟩
  ·simp only [mergeP,List.cons_append,List.nil_append,ch_mk,ch_none,ch_m2,ch_arm,chain_app,hd_app,hd_none,hd_mk,aj40,aj41,in32,Bool.true_and,Bool.not_false]
   rw[hx.ch _ rfl,(h2 d hd').1]
   exact⟨rfl,rfl⟩
theorem PV_on {s a:ByteArray}(hs:lowN (tb s)=true)(ha:armN a=true):okP (onP s a)∧chain 41 (onP s a)=true:=by
 unfold onP
 split
 ·exact⟨⟨OK_low hs,trivial⟩,rfl⟩
 ·split
  ·exact⟨⟨OK_wd rfl rfl,OK_low hs,trivial⟩,rfl⟩
  ·refine⟨⟨OK_arm ha,OK_mk rfl,OK_low hs,OK_mk rfl,trivial⟩,?_⟩
   rw[ch_arm];rfl
theorem all_arms {a:List ByteArray}{k:Int}(h:armsB k a=true):a.all armN=true:=by
 unfold armsB at h
 simp only [Bool.and_eq_true]at h
 exact h.1
theorem PV_pcs1 (k n:Int)(s:ByteArray)(o:Int)(a:List ByteArray)(u:List Ex)(t:List Pc)(hp:partB (.mk k n s o a u)=true)(hn:n < 9223372036854775808)(ht: ∀p∈t,PV p)(hl:t.length=u.length):PV (pcK k n s o a t):=by
 have g: ∀i,i < t.length→PV (t.getD i []):=fun i hi=>by
  rw[List.getD_eq_getElem?_getD,List.getElem?_eq_getElem hi]
  exact ht _ (List.getElem_mem hi)
 unfold partB at hp
 simp only [Bool.and_eq_true]at hp
 obtain⟨hk,h1,h2,h3,h4,h5,h6,h7⟩:=hp
 have h5:=of_decide_eq_true h5
 have h6:=of_decide_eq_true h6
 have o40: ∀r,okP (mk 40::r)↔okP r:=fun r=>ok_mk 40 r rfl
 have o41: ∀r,okP (mk 41::r)↔okP r:=fun r=>ok_mk 41 r rfl
 have o45: ∀r,okP (mk 45::r)↔okP r:=fun r=>ok_mk 45 r rfl
 have o91: ∀r,okP (mk 91::r)↔okP r:=fun r=>ok_mk 91 r rfl
 have o93: ∀r,okP (mk 93::r)↔okP r:=fun r=>ok_mk 93 r rfl
 have o61: ∀r,okP (mk 61::r)↔okP r:=fun r=>ok_mk 61 r rfl
 rcases kinds k hk with rfl|rfl|rfl|rfl|rfl|rfl|rfl|rfl|rfl|rfl|rfl|rfl|rfl|rfl|rfl|rfl|rfl
 ·have h1:0≤n:=of_decide_eq_true h1
  exact⟨⟨OK_num h1 hn,trivial⟩,fun d hd'=>by show(!innerN d&&true)=true;rw[end_inner hd'];rfl,fun d=>num_st _ _ _ _⟩
 ·refine⟨?_,fun d hd'=> ?_,fun d=> ?_⟩<;>simp only [pcK,leafP]<;>(by_cases hn1:n=1<;>simp only [hn1,if_true,if_false])
  ·exact⟨OK_wd rfl rfl,trivial⟩
  ·exact⟨OK_wd rfl rfl,trivial⟩
  ·show(!innerN d&&true)=true;rw[end_inner hd'];rfl
  ·show(!innerN d&&true)=true;rw[end_inner hd'];rfl
  ·rfl
  ·rfl
 ·exact⟨⟨OK_low h2,trivial⟩,fun d hd'=>by show(!innerN d&&true)=true;rw[end_inner hd'];rfl,fun d=>low_st h2 _ _⟩
 ·exact⟨⟨OK_high h2,trivial⟩,fun d hd'=>by show(!innerN d&&true)=true;rw[end_inner hd'];rfl,fun d=>high_st h2 _ _⟩
 ·have g0:=g 0 (by simp [loB]at h5;omega)
  by_cases ho:o=1
  ·have e:pcK 5 n s o a t= [mk 40,mk 45]++t.getD 0 []++[mk 41]:=by unfold pcK;rw[if_pos rfl,if_pos ho]
   rw[e]
   refine⟨?_,fun d hd'=> ?_,fun d=>rfl⟩
   ·simp only [okP_app,List.cons_append,List.nil_append,o40,o45,o41]
    exact⟨g0.ok,trivial⟩
   ·simp only [List.cons_append,List.nil_append,List.append_assoc,ch_mk,chain_app,hd_app,hd_mk,ch_nil,aj40,aj41,aj_mks (.inl (g0.st _)),g0.ch 41 rfl,Bool.and_self]
  ·have e:pcK 5 n s o a t= [mk 40,wd kNot,none]++t.getD 0 []++[mk 41]:=by unfold pcK;rw[if_pos rfl,if_neg ho]
   rw[e]
   refine⟨?_,fun d hd'=> ?_,fun d=>rfl⟩
   ·simp only [okP_app,List.cons_append,List.nil_append,o40,ok_wd kNot _ rfl rfl,ok_none,o41]
    exact⟨g0.ok,trivial⟩
   ·simp only [List.cons_append,List.nil_append,List.append_assoc,ch_mk,ch_wd,ch_none,chain_app,hd_app,hd_mk,hd_none,ch_nil,aj40,aj41,in32,g0.ch 41 rfl,Bool.and_self,Bool.not_false]
 ·have g0:=g 0 (by simp [loB]at h5;omega)
  have g1:=g 1 (by simp [loB]at h5;omega)
  have ho:3≤o∧o≤16:=by simpa [opB_]using h3
  have e:pcK 6 n s o a t= [mk 40]++t.getD 0 []++[none,opK o.toNat,none]++t.getD 1 []++[mk 41]:=rfl
  have q:=fun d r=>op32 (o:=o.toNat) (by omega) (by omega) d r
  have q1:=fun d r=>(q d r).1
  have q2:=fun r=>(q 0 r).2
  rw[e]
  refine⟨?_,fun d hd'=> ?_,fun d=>rfl⟩
  ·simp only [okP_app,List.cons_append,List.nil_append,o40,q2,ok_none,o41]
   exact⟨⟨⟨g0.ok,trivial⟩,g1.ok⟩,trivial⟩
  ·simp only [List.cons_append,List.nil_append,List.append_assoc,ch_mk,ch_none,q1,chain_app,hd_app,hd_mk,hd_none,ch_nil,aj40,aj41,g0.ch 32 rfl,g1.ch 41 rfl,Bool.and_self]
 ·have g0:=g 0 (by simp [loB]at h5;omega)
  have g1:=g 1 (by simp [loB]at h5;omega)
  have g2:=g 2 (by simp [loB]at h5;omega)
  have e:pcK 7 n s o a t= [mk 40,wd kIf,none]++t.getD 0 []++[none,wd kThen,none]++t.getD 1 []++[none,wd kElse,none]++t.getD 2 []++[mk 41]:=rfl
  rw[e]
  refine⟨?_,fun d hd'=> ?_,fun d=>rfl⟩
  ·simp only [okP_app,List.cons_append,List.nil_append,o40,ok_wd kIf _ rfl rfl,ok_wd kThen _ rfl rfl,ok_wd kElse _ rfl rfl,ok_none,o41]
   exact⟨⟨⟨⟨⟨g0.ok,trivial⟩,g1.ok⟩,trivial⟩,g2.ok⟩,trivial⟩
  ·simp only [List.cons_append,List.nil_append,List.append_assoc,ch_mk,ch_wd,ch_none,chain_app,hd_app,hd_mk,hd_none,ch_nil,aj40,aj41,in32,g0.ch 32 rfl,g1.ch 32 rfl,g2.ch 41 rfl,Bool.and_self,Bool.not_false]
 ·have g0:=g 0 (by simp [loB]at h5;omega)
  have g1:=g 1 (by simp [loB]at h5;omega)
  have e:pcK 8 n s o a t= [mk 40]++t.getD 0 []++[none,wd kFby,none]++t.getD 1 []++[mk 41]:=rfl
  rw[e]
  refine⟨?_,fun d hd'=> ?_,fun d=>rfl⟩
  ·simp only [okP_app,List.cons_append,List.nil_append,o40,ok_wd kFby _ rfl rfl,ok_none,o41]
   exact⟨⟨⟨g0.ok,trivial⟩,g1.ok⟩,trivial⟩
  ·simp only [List.cons_append,List.nil_append,List.append_assoc,ch_mk,ch_wd,ch_none,chain_app,hd_app,hd_mk,hd_none,ch_nil,aj40,aj41,in32,g0.ch 32 rfl,g1.ch 41 rfl,Bool.and_self,Bool.not_false]
 ·have g0:=g 0 (by simp [loB]at h5;omega)
  have g1:=g 1 (by simp [loB]at h5;omega)
  have e:pcK 9 n s o a t= [mk 40]++t.getD 0 []++[none,m2 45 62,none]++t.getD 1 []++[mk 41]:=rfl
  rw[e]
  refine⟨?_,fun d hd'=> ?_,fun d=>rfl⟩
  ·simp only [okP_app,List.cons_append,List.nil_append,o40,ok_m2,ok_none,o41]
   exact⟨⟨⟨g0.ok,trivial⟩,g1.ok⟩,trivial⟩
  ·simp only [List.cons_append,List.nil_append,List.append_assoc,ch_mk,ch_m2,ch_none,chain_app,hd_app,hd_mk,hd_none,ch_nil,aj40,aj41,in32,g0.ch 32 rfl,g1.ch 41 rfl,Bool.and_self,Bool.not_false]
 ·have g0:=g 0 (by simp [loB]at h5;omega)
  have e:pcK 10 n s o a t= [mk 40,wd kPre,none]++t.getD 0 []++[mk 41]:=rfl
  rw[e]
  refine⟨?_,fun d hd'=> ?_,fun d=>rfl⟩
  ·simp only [okP_app,List.cons_append,List.nil_append,o40,ok_wd kPre _ rfl rfl,ok_none,o41]
   exact⟨g0.ok,trivial⟩
  ·simp only [List.cons_append,List.nil_append,List.append_assoc,ch_mk,ch_wd,ch_none,chain_app,hd_app,hd_mk,hd_none,ch_nil,aj40,aj41,in32,g0.ch 41 rfl,Bool.and_self,Bool.not_false]
 ·have g0:=g 0 (by simp [loB]at h5;omega)
  have ha:=all_arms h4
  have hla:a.length=1:=by
   unfold armsB at h4
   simp only [Bool.and_eq_true]at h4
   exact of_decide_eq_true h4.2
  match a,hla,ha with
  | [ar],_,ha=>
    simp only [List.all_cons,List.all_nil,Bool.and_true]at ha
    obtain⟨w1,w2⟩:=PV_on (s:=s) h2 ha
    have e:pcK 11 n s o [ar] t= [mk 40]++t.getD 0 []++[none,wd kWhen,none]++onP s ar++[mk 41]:=rfl
    rw[e]
    refine⟨?_,fun d hd'=> ?_,fun d=>rfl⟩
    ·simp only [okP_app,List.cons_append,List.nil_append,o40,ok_wd kWhen _ rfl rfl,ok_none,o41]
     exact⟨⟨⟨g0.ok,trivial⟩,w1⟩,trivial⟩
    ·simp only [List.cons_append,List.nil_append,List.append_assoc,ch_mk,ch_wd,ch_none,chain_app,hd_app,hd_mk,hd_none,ch_nil,aj40,aj41,in32,g0.ch 32 rfl,w2,Bool.and_self,Bool.not_false]
 ·have ha:=all_arms h4
  obtain⟨m1,m3⟩:=PV_merge ha ht
  have e:pcK 12 n s o a t= [mk 40,wd kMerge,none,wd (tb s)]++mergeP a t++[mk 41]:=rfl
  rw[e]
  have h2:lowN (tb s)=true:=h2
  refine⟨?_,fun d hd'=> ?_,fun d=>rfl⟩
  ·simp only [okP_app,List.cons_append,List.nil_append,o40,ok_wd kMerge _ rfl rfl,ok_wd (tb s) _ (low_name h2).1 (wl_low h2),ok_none,o41]
   exact⟨m1,trivial⟩
  ·simp only [List.cons_append,List.nil_append,List.append_assoc,ch_mk,ch_wd,ch_none,chain_app,hd_app,hd_mk,hd_none,ch_nil,aj40,aj41,in32,(m3 41 rfl).1,end_inner (m3 41 rfl).2,Bool.and_self,Bool.not_false]
 ·have h2:lowN (tb s)=true:=h2
  have h1:n=0∨n=1:=by simpa [numB]using h1
  rcases h1 with rfl|rfl
  ·obtain⟨l1,l2⟩:=PV_list ht
   have e:pcK 13 0 s o a t= [wd (tb s),mk 40]++listP t++[mk 41]:=rfl
   rw[e]
   refine⟨?_,fun d hd'=> ?_,fun d=> ?_⟩
   ·simp only [okP_app,List.cons_append,List.nil_append,o40,ok_wd (tb s) _ (low_name h2).1 (wl_low h2),o41]
    exact⟨l1,trivial⟩
   ·simp only [List.cons_append,List.nil_append,List.append_assoc,ch_mk,ch_wd,chain_app,hd_app,hd_mk,ch_nil,aj40,aj41,in40,l2 41 rfl,Bool.and_self,Bool.not_false]
   ·simp only [List.cons_append,List.nil_append,List.append_assoc]
    exact low_st h2 _ _
  ·have hlt:0 < t.length:=by simp [loB]at h5;omega
   have g0:=g (t.length - 1) (by omega)
   obtain⟨l1,l2⟩:=PV_list (t:=t.take (t.length - 1)) fun p hp=>ht p (List.mem_of_mem_take hp)
   have e:pcK 13 1 s o a t= [mk 40,wd (tb s),mk 40]++listP (t.take (t.length - 1))++[mk 41,none,wd kEvery,none]++t.getD (t.length - 1) []++[mk 41]:=rfl
   rw[e]
   refine⟨?_,fun d hd'=> ?_,fun d=>rfl⟩
   ·simp only [okP_app,List.cons_append,List.nil_append,o40,ok_wd (tb s) _ (low_name h2).1 (wl_low h2),ok_wd kEvery _ rfl rfl,ok_none,o41]
    exact⟨⟨⟨l1,trivial⟩,g0.ok⟩,trivial⟩
   ·simp only [List.cons_append,List.nil_append,List.append_assoc,ch_mk,ch_wd,ch_none,chain_app,hd_app,hd_mk,hd_none,ch_nil,aj40,aj41,in40,in32,l2 41 rfl,g0.ch 41 rfl,Bool.and_self,Bool.not_false]
 ·obtain⟨l1,l2⟩:=PV_list ht
  have e:pcK 14 n s o a t= [mk 91]++listP t++[mk 93]:=rfl
  rw[e]
  refine⟨?_,fun d hd'=> ?_,fun d=>rfl⟩
  ·simp only [okP_app,List.cons_append,List.nil_append,o91,o93]
   exact⟨l1,trivial⟩
  ·simp only [List.cons_append,List.nil_append,List.append_assoc,ch_mk,chain_app,hd_app,hd_mk,ch_nil,aj91,aj93,l2 93 rfl,Bool.and_self]
 ·have g0:=g 0 (by simp [loB]at h5;omega)
  have g1:=g 1 (by simp [loB]at h5;omega)
  have e:pcK 15 n s o a t=t.getD 0 []++[mk 91]++t.getD 1 []++[mk 93]:=rfl
  rw[e]
  refine⟨?_,fun d hd'=> ?_,fun d=> ?_⟩
  ·simp only [okP_app,List.cons_append,List.nil_append,o91,o93]
   exact⟨⟨⟨g0.ok,trivial⟩,g1.ok⟩,trivial⟩
  ·simp only [List.cons_append,List.nil_append,List.append_assoc,ch_mk,chain_app,hd_app,hd_mk,ch_nil,aj91,aj93,g0.ch 91 rfl,g1.ch 93 rfl,Bool.and_self]
  ·simp only [List.append_assoc,hd_app]
   exact g0.st _
 ·have g0:=g 0 (by simp [loB]at h5;omega)
  have g1:=g 1 (by simp [loB]at h5;omega)
  have g2:=g 2 (by simp [loB]at h5;omega)
  have e:pcK 16 n s o a t= [mk 40]++t.getD 0 []++[none,wd kWith,none,mk 91]++t.getD 1 []++[mk 93,none,mk 61,none]++t.getD 2 []++[mk 41]:=rfl
  rw[e]
  refine⟨?_,fun d hd'=> ?_,fun d=>rfl⟩
  ·simp only [okP_app,List.cons_append,List.nil_append,o40,ok_wd kWith _ rfl rfl,ok_none,o41,o91,o93,o61]
   exact⟨⟨⟨⟨⟨g0.ok,trivial⟩,g1.ok⟩,trivial⟩,g2.ok⟩,trivial⟩
  ·simp only [List.cons_append,List.nil_append,List.append_assoc,ch_mk,ch_wd,ch_none,chain_app,hd_app,hd_mk,hd_none,ch_nil,aj40,aj41,aj91,aj93,aj61,in32,g0.ch 32 rfl,g1.ch 93 rfl,g2.ch 41 rfl,Bool.and_self,Bool.not_false]
 ·have h2:pathN (tb s)=true:=h2
  exact⟨⟨OK_path h2,trivial⟩,fun d hd'=>by show chain d (some ⟨4,tb s,0⟩::[])=true;rw[ch_path];rfl,fun d=>rfl⟩
mutual
theorem PV_pcs: ∀e:Ex,allB e=true→e.rng→PV (pcs e)
 | .mk k n s o a u,h,hr=>by
   simp only [allB,Bool.and_eq_true]at h
   rw[pcs]
   exact PV_pcs1 k n s o a u _ h.1 hr.1 (PV_pcsL u h.2 hr.2) (pcsL_len u)
theorem PV_pcsL: ∀u:List Ex,allBs u=true→Ex.rngs u→ ∀p∈pcsL u,PV p
 | [],_,_,p,h=>by cases h
 |e::u,h,hr,p,hp=>by
  simp only [allBs,Bool.and_eq_true]at h
  rcases List.mem_cons.1 hp with rfl|hp
  ·exact PV_pcs e h.1 hr.1
  ·exact PV_pcsL u h.2 hr.2 p hp
end
end Go.Vm
end

section
set_option linter.all false
set_option maxRecDepth 100000
set_option maxHeartbeats 4000000
namespace Go.Vm
open Go.Proofs
def fm:Pc→List T
 | []=>[]
 |none::r=>fm r
 |some t::r=>t::fm r
theorem fm_app: ∀x y:Pc,fm (x++y)=fm x++fm y
 | [],y=>rfl
 |none::x,y=>fm_app x y
 |some t::x,y=>by rw[List.cons_append,fm,fm,fm_app x y];rfl
theorem fm_eq: ∀x:Pc,x.filterMap id=fm x
 | []=>rfl
 |none::x=>by simp [fm,fm_eq x]
 |some t::x=>by simp [fm,fm_eq x]
theorem fm_none (r:Pc):fm (none::r)=fm r:=rfl
theorem fm_some (t:T)(r:Pc):fm (some t::r)=t::fm r:=rfl
theorem fm_nil:fm []= []:=rfl
def Az (l:List Tk):Nat→List T→Prop
 |_,[]=>True
 |i,t::ts=>tkT (tkA l i)=t∧Az l (i+1) ts
theorem at_app {l:List Tk}: ∀ {a b:List T} {i:Nat},Az l i (a++b)↔Az l i a∧Az l (i+a.length) b
 | [],b,i=>by simp [Az]
 |t::a,b,i=>by
  simp only [List.cons_append,Az,at_app (a:=a),List.length_cons,and_assoc]
  rw[show i+1+a.length=i+(a.length+1) by omega]
theorem at_cons {l:List Tk}{t:T}{b:List T}{i:Nat}:Az l i (t::b)↔tkT (tkA l i)=t∧Az l (i+1) b:=Iff.rfl
def isTT (t:T)(w:List Nat):Bool:=decide (t.b=w)&&(decide (t.k=1) || decide (t.k=5))
theorem isT_T (l:List Tk)(i:Nat)(w:ByteArray):isT l i w=isTT (tkT (tkA l i)) (tb w):=rfl
def opQ (t:T):Nat→Nat→Option Nat
 |_,0=>none
 |a,n+1=>match isTT t (tb (signB a))with
  |true=>some a
  |false=>opQ t (a+1) n
theorem opSg_T (l:List Tk)(i:Nat): ∀n a,opSg l i a n=opQ (tkT (tkA l i)) a n
 |0,_=>rfl
 |n+1,a=>by
  rw[opSg,opQ,isT_T,opSg_T l i n]
  cases isTT (tkT (tkA l i)) (tb (signB a))<;>rfl
def nT (t:T)(w:List Nat):Bool:= !isTT t w
def nO (t:T)(a n:Nat):Bool:=(opQ t a n).isNone
def f1 (t:T):Bool:=nT t [40]&&nT t kEvery
def f2 (t:T):Bool:=f1 t&&(nT t [91]&&nT t kWhen)
def f4 (t:T):Bool:=f2 t&&nO t 5 3
def f5 (t:T):Bool:=f4 t&&nO t 3 2
def f6 (t:T):Bool:=f5 t&&nO t 11 6
def f7 (t:T):Bool:=f6 t&&nO t 8 1
def f8 (t:T):Bool:=f7 t&&nO t 9 2
def f9 (t:T):Bool:=f8 t&&nT t kFby
def f10 (t:T):Bool:=f9 t&&nT t [45,62]
def foB:Nt→T→Bool
 | .atom,t=>f1 t
 | .post,t| .un,t=>f2 t
 | .prod,t=>f4 t
 | .sum,t=>f5 t
 | .cmp,t=>f6 t
 | .and,t=>f7 t
 | .or,t=>f8 t
 | .fby,t=>f9 t
 | .arrow,t=>f10 t
def staB (t:T):Bool:=nT t [45]&&(nT t kNot&&(nT t kPre&&nT t [41]))
section
variable (l : List Tk)
def Ev (nt:Nt)(i:Nat)(e:Ex)(j N:Nat):Prop:= ∀m,N≤m→prs l m nt i= .ok e j
end
section
variable {l : List Tk} {i j k N M : Nat} {e x y : Ex}
theorem Ev.mono {nt:Nt}(h:Ev l nt i e j N)(hN:N≤M):Ev l nt i e j M:=fun m hm=>h m (by omega)
theorem nT_isT {w:ByteArray}(h:nT (tkT (tkA l i)) (tb w)=true):isT l i w=false:=by
 rw[isT_T];unfold nT at h;simpa using h
theorem nO_op {a n:Nat}(h:nO (tkT (tkA l i)) a n=true):opSg l i a n=none:=by
 rw[opSg_T];unfold nO at h;simpa using h
theorem up_un (h:Ev l .post i e j N)(hs:staB (tkT (tkA l i))=true):Ev l .un i e j (N+1):=fun m hm=>by
 obtain⟨m,rfl⟩: ∃r,m=r+1:=⟨m - 1,by omega⟩
 unfold staB at hs
 simp only [Bool.and_eq_true]at hs
 show unS l (prs l m) i=_
 unfold unS
 rw[nT_isT (w:=bs [45]) hs.1,nT_isT (w:=bs [110,111,116]) hs.2.1,nT_isT (w:=bs [112,114,101]) hs.2.2.1]
 exact h m (by omega)
theorem left_up {side nt:Nt}{a n:Nat}(hn: ∀m,ntS l m (prs l m) nt i=leftS l m (prs l m) side a n i)(h:Ev l side i e j N)(h1:1≤N)(ho:nO (tkT (tkA l j)) a n=true):Ev l nt i e j (N+1):=fun m hm=>by
 obtain⟨m,rfl⟩: ∃r,m=r+1:=⟨m - 1,by omega⟩
 show ntS l m (prs l m) nt i=_
 rw[hn,leftS,h m (by omega),Rs.bind_ok]
 obtain⟨r,rfl⟩: ∃r,m=r+1:=⟨m - 1,by omega⟩
 rw[iterS,leftT,nO_op ho]
theorem left_bin {side nt:Nt}{a n o:Nat}(hn: ∀m,ntS l m (prs l m) nt i=leftS l m (prs l m) side a n i)(h:Ev l side i x j N)(h1:2≤N)(ho:opSg l j a n=some o)(h2:Ev l side (j+1) y k N)(hk:nO (tkT (tkA l k)) a n=true):Ev l nt i (binE o x y) k (N+1):=fun m hm=>by
 obtain⟨m,rfl⟩: ∃r,m=r+1:=⟨m - 1,by omega⟩
 show ntS l m (prs l m) nt i=_
 rw[hn,leftS,h m (by omega),Rs.bind_ok]
 have h2:=h2 m (by omega)
 have hk:=nO_op hk
 generalize prs l m=p at h2
 obtain⟨r,rfl⟩: ∃r,m=r+2:=⟨m - 2,by omega⟩
 rw[iterS,leftT,ho]
 simp only [h2]
 rw[iterS,leftT,hk]
theorem up_cmp (h:Ev l .sum i e j N)(ho:nO (tkT (tkA l j)) 11 6=true):Ev l .cmp i e j (N+1):=fun m hm=>by
 obtain⟨m,rfl⟩: ∃r,m=r+1:=⟨m - 1,by omega⟩
 show cmpS l (prs l m) i=_
 rw[cmpS,h m (by omega),Rs.bind_ok,nO_op ho]
theorem bin_cmp {o:Nat}(h:Ev l .sum i x j N)(ho:opSg l j 11 6=some o)(h2:Ev l .sum (j+1) y k N):Ev l .cmp i (binE o x y) k (N+1):=fun m hm=>by
 obtain⟨m,rfl⟩: ∃r,m=r+1:=⟨m - 1,by omega⟩
 show cmpS l (prs l m) i=_
 rw[cmpS,h m (by omega),Rs.bind_ok,ho]
 simp only
 rw[h2 m (by omega),Rs.bind_ok]
theorem up_fby (h:Ev l .or i e j N)(ho:nT (tkT (tkA l j)) kFby=true):Ev l .fby i e j (N+1):=fun m hm=>by
 obtain⟨m,rfl⟩: ∃r,m=r+1:=⟨m - 1,by omega⟩
 show fbyS l (prs l m) i=_
 rw[fbyS,h m (by omega),Rs.bind_ok,nT_isT (w:=bs [102,98,121]) ho]
theorem bin_fby (h:Ev l .or i x j N)(ho:tkT (tkA l j)=⟨1,kFby,0⟩)(h2:Ev l .fby (j+1) y k N):Ev l .fby i (ex 8 [x,y]) k (N+1):=fun m hm=>by
 obtain⟨m,rfl⟩: ∃r,m=r+1:=⟨m - 1,by omega⟩
 show fbyS l (prs l m) i=_
 rw[fbyS,h m (by omega),Rs.bind_ok,isT_T,ho,show isTT ⟨1,kFby,0⟩ (tb (bs [102,98,121]))=true from rfl]
 simp only
 rw[h2 m (by omega),Rs.bind_ok]
theorem up_arrow (h:Ev l .fby i e j N)(ho:nT (tkT (tkA l j)) [45,62]=true):Ev l .arrow i e j (N+1):=fun m hm=>by
 obtain⟨m,rfl⟩: ∃r,m=r+1:=⟨m - 1,by omega⟩
 show arrowS l (prs l m) i=_
 rw[arrowS,h m (by omega),Rs.bind_ok,nT_isT (w:=bs [45,62]) ho]
theorem bin_arrow (h:Ev l .fby i x j N)(ho:tkT (tkA l j)=⟨5,[45,62],0⟩)(h2:Ev l .arrow (j+1) y k N):Ev l .arrow i (ex 9 [x,y]) k (N+1):=fun m hm=>by
 obtain⟨m,rfl⟩: ∃r,m=r+1:=⟨m - 1,by omega⟩
 show arrowS l (prs l m) i=_
 rw[arrowS,h m (by omega),Rs.bind_ok,isT_T,ho,show isTT ⟨5,[45,62],0⟩ (tb (bs [45,62]))=true from rfl]
 simp only
 rw[h2 m (by omega),Rs.bind_ok]
theorem and1 {a b:Bool}(h:(a&&b)=true):a=true:=(Bool.and_eq_true _ _▸h).1
theorem and2 {a b:Bool}(h:(a&&b)=true):b=true:=(Bool.and_eq_true _ _▸h).2
theorem u_prod (h:Ev l .un i e j N)(h1:1≤N)(hf:f4 (tkT (tkA l j))=true):Ev l .prod i e j (N+1):=left_up (fun _=>rfl) h h1 (and2 hf)
theorem u_sum (h:Ev l .prod i e j N)(h1:1≤N)(hf:f5 (tkT (tkA l j))=true):Ev l .sum i e j (N+1):=left_up (fun _=>rfl) h h1 (and2 hf)
theorem u_and (h:Ev l .cmp i e j N)(h1:1≤N)(hf:f7 (tkT (tkA l j))=true):Ev l .and i e j (N+1):=left_up (fun _=>rfl) h h1 (and2 hf)
theorem u_or (h:Ev l .and i e j N)(h1:1≤N)(hf:f8 (tkT (tkA l j))=true):Ev l .or i e j (N+1):=left_up (fun _=>rfl) h h1 (and2 hf)
theorem fr_un (h:Ev l .un i e j N)(h1:1≤N): ∀nt,foB nt (tkT (tkA l j))=true→nt≠ .atom→nt≠ .post→Ev l nt i e j (N+9)
 | .un,_,_,_=>h.mono (by omega)
 | .prod,hf,_,_=>(u_prod h h1 hf).mono (by omega)
 | .sum,hf,_,_=>(u_sum (u_prod h h1 (and1 hf)) (by omega) hf).mono (by omega)
 | .cmp,hf,_,_=>(up_cmp (u_sum (u_prod h h1 (and1 (and1 hf))) (by omega) (and1 hf)) (and2 hf)).mono (by omega)
 | .and,hf,_,_=>(u_and (up_cmp (u_sum (u_prod h h1 (and1 (and1 (and1 hf)))) (by omega) (and1 (and1 hf))) (and2 (and1 hf))) (by omega) hf).mono (by omega)
 | .or,hf,_,_=>(u_or (u_and (up_cmp (u_sum (u_prod h h1 (and1 (and1 (and1 (and1 hf))))) (by omega) (and1 (and1 (and1 hf)))) (and2 (and1 (and1 hf)))) (by omega) (and1 hf)) (by omega) hf).mono (by omega)
 | .fby,hf,_,_=>(up_fby (u_or (u_and (up_cmp (u_sum (u_prod h h1 (and1 (and1 (and1 (and1 (and1 hf)))))) (by omega) (and1 (and1 (and1 (and1 hf))))) (and2 (and1 (and1 (and1 hf))))) (by omega) (and1 (and1 hf))) (by omega) (and1 hf)) (and2 hf)).mono (by omega)
 | .arrow,hf,_,_=>(up_arrow (up_fby (u_or (u_and (up_cmp (u_sum (u_prod h h1 (and1 (and1 (and1 (and1 (and1 (and1 hf))))))) (by omega) (and1 (and1 (and1 (and1 (and1 hf)))))) (and2 (and1 (and1 (and1 (and1 hf)))))) (by omega) (and1 (and1 (and1 hf)))) (by omega) (and1 (and1 hf))) (and2 (and1 hf))) (and2 hf)).mono (by omega)
 | .atom,_,h,_=>(h rfl).elim
 | .post,_,_,h=>(h rfl).elim
theorem fr_arrow: ∀nt,Ev l nt i e j N→1≤N→f10 (tkT (tkA l j))=true→nt≠ .atom→nt≠ .post→Ev l .arrow i e j (N+9)
 | .un,h,h1,hf,_,_=>fr_un h h1 .arrow hf (by simp) (by simp)
 | .prod,h,h1,hf,_,_=>(up_arrow (up_fby (u_or (u_and (up_cmp (u_sum h h1 (and1 (and1 (and1 (and1 (and1 hf)))))) (and2 (and1 (and1 (and1 (and1 hf)))))) (by omega) (and1 (and1 (and1 hf)))) (by omega) (and1 (and1 hf))) (and2 (and1 hf))) (and2 hf)).mono (by omega)
 | .sum,h,h1,hf,_,_=>(up_arrow (up_fby (u_or (u_and (up_cmp h (and2 (and1 (and1 (and1 (and1 hf)))))) (by omega) (and1 (and1 (and1 hf)))) (by omega) (and1 (and1 hf))) (and2 (and1 hf))) (and2 hf)).mono (by omega)
 | .cmp,h,h1,hf,_,_=>(up_arrow (up_fby (u_or (u_and h (by omega) (and1 (and1 (and1 hf)))) (by omega) (and1 (and1 hf))) (and2 (and1 hf))) (and2 hf)).mono (by omega)
 | .and,h,h1,hf,_,_=>(up_arrow (up_fby (u_or h (by omega) (and1 (and1 hf))) (and2 (and1 hf))) (and2 hf)).mono (by omega)
 | .or,h,h1,hf,_,_=>(up_arrow (up_fby h (and2 (and1 hf))) (and2 hf)).mono (by omega)
 | .fby,h,h1,hf,_,_=>(up_arrow h (and2 hf)).mono (by omega)
 | .arrow,h,_,_,_,_=>h.mono (by omega)
 | .atom,_,_,_,h,_=>(h rfl).elim
 | .post,_,_,_,_,h=>(h rfl).elim
def AI (l:List Tk)(e:Ex)(i j L:Nat):Prop:= ∃base j0 k,k≤L∧(∀m,20*L≤m→prs l m .atom i= .ok base j0)∧ ∀m,20*L≤m→ ∀r,iterS (postT l (prs l m)) (r+k) (base,j0)=iterS (postT l (prs l m)) r (e,j)
theorem AI_atom {L:Nat}(h:Ev l .atom i e j (20*L)):AI l e i j L:=⟨e,j,0,Nat.zero_le _,h,fun _ _ _=>rfl⟩
theorem AI_post {L:Nat}(hL:1≤L)(h:AI l e i j L)(hf:f2 (tkT (tkA l j))=true):Ev l .post i e j (20*L+1):=fun m hm=>by
 obtain⟨base,j0,k,h1,h2,h3⟩:=h
 obtain⟨m,rfl⟩: ∃r,m=r+1:=⟨m - 1,by omega⟩
 show postS l m (prs l m) i=_
 rw[postS,h2 m (by omega),Rs.bind_ok]
 have h3:=h3 m (by omega) (m - k)
 rw[show m - k+k=m by omega]at h3
 rw[h3]
 obtain⟨r,hr⟩: ∃r,m - k=r+1:=⟨m - k - 1,by omega⟩
 have hf:=and2 hf
 rw[hr,iterS,postT,nT_isT (w:=bs [91]) (and1 hf),nT_isT (w:=bs [119,104,101,110]) (and2 hf)]
theorem AI_ev {L:Nat}(hL:1≤L)(h:AI l e i j L)(hs:staB (tkT (tkA l i))=true)(nt:Nt)(hf:foB nt (tkT (tkA l j))=true)(hn:nt≠ .atom)(h2:f2 (tkT (tkA l j))=true):Ev l nt i e j (20*L+11):=by
 have hp:=AI_post hL h h2
 by_cases he:nt= .post
 ·subst he;exact hp.mono (by omega)
 ·exact(fr_un (up_un hp hs) (by omega) nt hf hn he).mono (by omega)
end
end Go.Vm
end
