/- Part FK of the proof. What is proved by the whole: the statement that the claim names, with no condition. -/
import Derived.Test.YtcoflifoeiglkaaGreatDoorFJ
import Derived.Stop.Asserts
import Derived.RowKitTokens
import Derived.Shelf.Spec.SlicesGrow
set_option linter.all false
section
set_option maxRecDepth 100000
set_option maxHeartbeats 4000000
namespace Go.Vm
open Go.Proofs
section
variable {l : List Tk} (ht : TS l)
include ht
theorem tokR_sz {k:Int}{i j:Nat}{t:Tk}(h:tokR l k i= .ok t j):t.s.size≤100000∧j=i+1:=by
 obtain⟨h1,h2⟩:=tokR_ok h
 exact⟨by rw[h1];exact ht i,h2⟩
theorem namesL_sz {k:Int}: ∀(n:Nat) (acc:List ByteArray) {i j:Nat} {r:List ByteArray},namesL l k n acc i= .ok r j→(∀s∈acc,s.size≤100000)→(∀s∈r,s.size≤100000)∧i≤j∧r.length+i≤acc.length+j
 |0,acc,i,j,r,h,ha=>by cases h;exact⟨ha,Nat.le_refl _,Nat.le_refl _⟩
 |n+1,acc,i,j,r,h,ha=>by
  unfold namesL at h
  obtain⟨v,x,h1,h2⟩:=bind_ok h
  have e1:=tkR_ok h1
  cases v with
  |true=>
   obtain⟨t,y,h3,h4⟩:=bind_ok h2
   have e2:=tokR_sz ht h3
   have e3:=namesL_sz n _ h4 (fun s hs=>by
    rcases List.mem_append.1 hs with hs|hs
    ·exact ha s hs
    ·rw[List.mem_singleton.1 hs];exact e2.1)
   refine⟨e3.1,by omega,?_⟩
   have:=e3.2.2
   simp only [List.length_append,List.length_cons,List.length_nil]at this
   omega
  |false=>cases h2;exact⟨ha,e1,by omega⟩
theorem namesR_sz {k:Int}{i j:Nat}{r:List ByteArray}(h:namesR l k i= .ok r j):(∀s∈r,s.size≤100000)∧i < j∧r.length+i≤j:=by
 obtain⟨t,x,h1,h2⟩:=bind_ok h
 have e1:=tokR_sz ht h1
 have e2:=namesL_sz ht _ _ h2 (fun s hs=>by rw[List.mem_singleton.1 hs];exact e1.1)
 have:=e2.2.2
 simp only [List.length_cons,List.length_nil]at this
 exact⟨e2.1,by omega,by omega⟩
theorem enumR_sz {i j:Nat}{r:En}(h:enumR l i= .ok r j):EnOK r∧i≤j:=by
 obtain⟨t,x,h1,h⟩:=bind_ok h
 obtain⟨_,y,h2,h⟩:=bind_ok h
 obtain⟨cs,z,h3,h⟩:=bind_ok h
 obtain⟨_,w,h4,h⟩:=bind_ok h
 cases h
 have e1:=tokR_sz ht h1
 have e3:=namesR_sz ht h3
 have:=needR_ok h2
 have:=needR_ok h4
 exact⟨⟨e1.1,e3.1⟩,by omega⟩
theorem enumR_ln {i j:Nat}{r:En}(h:enumR l i= .ok r j):r.2.length≤j:=by
 obtain⟨t,x,h1,h⟩:=bind_ok h
 obtain⟨_,y,h2,h⟩:=bind_ok h
 obtain⟨cs,z,h3,h⟩:=bind_ok h
 obtain⟨_,w,h4,h⟩:=bind_ok h
 cases h
 have e3:=namesR_sz ht h3
 have:=needR_ok h4
 simp only
 omega
theorem baseR_le {ens:List En}{i j:Nat}{r:Int × Int}(h:baseR l ens i= .ok r j):i≤j:=by
 obtain⟨v,x,h1,h⟩:=bind_ok h
 have:=tkR_ok h1
 cases v with
 |true=>cases h;omega
 |false=>
  obtain⟨v,y,h2,h⟩:=bind_ok h
  have:=tkR_ok h2
  cases v with
  |true=>cases h;omega
  |false=>
   obtain⟨t,z,h3,h⟩:=bind_ok h
   have:=(tokR_ok h3).2
   unfold baseK at h
   cases hx:idxE ens t.s with
   |some k=>rw[hx]at h;cases h;omega
   |none=>rw[hx]at h;cases h
theorem tyR_le {ens:List En}{i j:Nat}{r:Int × Int × Int}(h:tyR l ens i= .ok r j):i≤j:=by
 obtain⟨b,x,h1,h⟩:=bind_ok h
 have:=baseR_le ht h1
 obtain⟨v,y,h2,h⟩:=bind_ok h
 have:=tkR_ok h2
 cases v with
 |false=>cases h;omega
 |true=>
  obtain⟨t,z,h3,h⟩:=bind_ok h
  have:=(tokR_ok h3).2
  cases hc:decide (t.n < 1) || decide (8 < t.n)with
  |true=>rw[hc]at h;cases h
  |false=>
   rw[hc]at h
   obtain⟨_,u,h4,h⟩:=bind_ok h
   have:=needR_ok h4
   cases h;omega
theorem declR_sz {ens:List En}{i j:Nat}{r:Dc}(h:declR l ens i= .ok r j):DcOK r∧i < j:=by
 have h0:(bs []).size≤100000:=by decide
 obtain⟨t,x,h1,h⟩:=bind_ok h
 obtain⟨_,y,h2,h⟩:=bind_ok h
 obtain⟨k,z,h3,h⟩:=bind_ok h
 obtain⟨v,w,h4,h⟩:=bind_ok h
 have e1:=tokR_sz ht h1
 have:=needR_ok h2
 have:=tyR_le ht h3
 have:=tkR_ok h4
 cases v with
 |false=>cases h;exact⟨⟨e1.1,h0,h0⟩,by omega⟩
 |true=>
  obtain⟨c,u,h5,h⟩:=bind_ok h
  cases h
  unfold whenR at h5
  split at h5
  ·rename_i hw
   cases h5
   have e5:=whenS_sz ht (prs_HS ht 0) hw
   exact⟨⟨e1.1,e5.2.1,e5.2.2⟩,by omega⟩
  ·cases h5
  ·cases h5
theorem declsL_sz {ens:List En}{f:Bool}: ∀(n:Nat) (acc:List Dc) {i j:Nat} {r:List Dc},declsL l ens f n acc i= .ok r j→(∀s∈acc,DcOK s)→(∀s∈r,DcOK s)∧i≤j∧r.length+i≤acc.length+j
 |0,acc,i,j,r,h,ha=>by cases h;exact⟨ha,Nat.le_refl _,Nat.le_refl _⟩
 |n+1,acc,i,j,r,h,ha=>by
  unfold declsL at h
  obtain⟨v,x,h1,h2⟩:=bind_ok h
  have e1:i≤x:=by unfold moreR at h1;split at h1<;>cases h1<;>omega
  cases v with
  |true=>
   obtain⟨d,y,h3,h4⟩:=bind_ok h2
   have e2:=declR_sz ht h3
   have e3:=declsL_sz n _ h4 (fun s hs=>by
    rcases List.mem_append.1 hs with hs|hs
    ·exact ha s hs
    ·rw[List.mem_singleton.1 hs];exact e2.1)
   refine⟨e3.1,by omega,?_⟩
   have:=e3.2.2
   simp only [List.length_append,List.length_cons,List.length_nil]at this
   omega
  |false=>cases h2;exact⟨ha,e1,by omega⟩
theorem declsR_sz {ens:List En}{f:Bool}{i j:Nat}{r:List Dc}(h:declsR l ens f i= .ok r j):(∀s∈r,DcOK s)∧r.length+i≤j:=by
 obtain⟨d,x,h1,h2⟩:=bind_ok h
 have e1:=declR_sz ht h1
 have e2:=declsL_sz ht _ _ h2 (fun s hs=>by rw[List.mem_singleton.1 hs];exact e1.1)
 have:=e2.2.2
 simp only [List.length_cons,List.length_nil]at this
 exact⟨e2.1,by omega⟩
theorem insR_sz {ens:List En}{i j:Nat}{r:List Dc}(h:insR l ens i= .ok r j):(∀s∈r,DcOK s)∧r.length+i≤j:=by
 obtain⟨v,x,h1,h⟩:=bind_ok h
 have:=tkR_ok h1
 cases v with
 |true=>cases h;exact⟨by simp,by simpa using this⟩
 |false=>
  obtain⟨d,y,h2,h⟩:=bind_ok h
  obtain⟨_,z,h3,h⟩:=bind_ok h
  cases h
  have e2:=declsR_sz ht h2
  have:=needR_ok h3
  exact⟨e2.1,by omega⟩
theorem varsR_sz {ens:List En}{i j:Nat}{r:List Dc}(h:varsR l ens i= .ok r j):(∀s∈r,DcOK s)∧r.length+i≤j:=by
 obtain⟨v,x,h1,h⟩:=bind_ok h
 have:=tkR_ok h1
 cases v with
 |false=>cases h;exact⟨by simp,by simpa using this⟩
 |true=>
  obtain⟨d,y,h2,h⟩:=bind_ok h
  obtain⟨_,z,h3,h⟩:=bind_ok h
  cases h
  have e2:=declsR_sz ht h2
  have:=needR_ok h3
  exact⟨e2.1,by omega⟩
structure EqJ (J:Nat) (x:Eqn):Prop where
 ns:x.ns.length≤J
 sz:x.e.size≤60
 fn:x.e.fine
 st: ∀s∈x.ns,s.size≤100000
theorem eqR_sz {i j:Nat}{r:Eqn}(h:eqR l i= .ok r j):EqJ j r∧i < j:=by
 obtain⟨ns,x,h1,h⟩:=bind_ok h
 obtain⟨_,y,h2,h⟩:=bind_ok h
 obtain⟨e,z,h3,h⟩:=bind_ok h
 obtain⟨_,w,h4,h⟩:=bind_ok h
 cases h
 have e1:=namesR_sz ht h1
 have:=needR_ok h2
 have:=needR_ok h4
 unfold exprR at h3
 split at h3
 ·cases h3
 ·cases h3
 ·rename_i e2 j2 hR
  have hz:=readS_sz ht hR
  cases hs:smallB e2 with
  |false=>rw[hs]at h3;cases h3
  |true=>
   cases ha:allB e2 with
   |false=>rw[hs,ha]at h3;cases h3
   |true=>
    rw[hs,ha]at h3
    cases h3
    have h60:e.size≤60:=by
     unfold smallB at hs
     simp only [Bool.and_eq_true,decide_eq_true_eq]at hs
     exact hs.1
    exact⟨⟨by simp only;omega,h60,okS_fine e hz.2 (by omega),e1.1⟩,by omega⟩
omit ht in
theorem EqJ.mono {J K:Nat}{x:Eqn}(h:EqJ J x)(hk:J≤K):EqJ K x:=⟨Nat.le_trans h.ns hk,h.sz,h.fn,h.st⟩
theorem eqsL_sz: ∀(n:Nat) (acc:List Eqn) {i j:Nat} {r:List Eqn},eqsL l n acc i= .ok r j→(∀s∈acc,EqJ i s)→(∀s∈r,EqJ j s)∧i≤j∧r.length+i≤acc.length+j
 |0,acc,i,j,r,h,ha=>by cases h;exact⟨ha,Nat.le_refl _,Nat.le_refl _⟩
 |n+1,acc,i,j,r,h,ha=>by
  unfold eqsL at h
  obtain⟨v,x,h1,h2⟩:=bind_ok h
  have e1:=tkR_ok h1
  cases v with
  |false=>
   obtain⟨d,y,h3,h4⟩:=bind_ok h2
   have e2:=eqR_sz ht h3
   have e3:=eqsL_sz n _ h4 (fun s hs=>by
    rcases List.mem_append.1 hs with hs|hs
    ·exact(ha s hs).mono (by omega)
    ·rw[List.mem_singleton.1 hs];exact e2.1)
   refine⟨e3.1,by omega,?_⟩
   have:=e3.2.2
   simp only [List.length_append,List.length_cons,List.length_nil]at this
   omega
  |true=>cases h2;exact⟨fun s hs=>(ha s hs).mono e1,e1,by omega⟩
structure NdJ (J:Nat) (n:Nd):Prop where
 ins:n.ins.length≤J
 outs:n.outs.length≤J
 vars:n.vars.length≤J
 eqs:n.eqs.length≤J
 eo: ∀x∈n.eqs,EqJ J x
 dc: ∀d∈allD n,DcOK d
 nm:n.n.size≤100000
theorem nodeR_sz {ens:List En}{i j:Nat}{r:Nd}(h:nodeR l ens i= .ok r j):NdJ j r∧i≤j:=by
 obtain⟨t,x1,h1,h⟩:=bind_ok h
 obtain⟨_,x2,h2,h⟩:=bind_ok h
 obtain⟨ins,x3,h3,h⟩:=bind_ok h
 obtain⟨_,x4,h4,h⟩:=bind_ok h
 obtain⟨outs,x5,h5,h⟩:=bind_ok h
 obtain⟨_,x6,h6,h⟩:=bind_ok h
 obtain⟨vars,x7,h7,h⟩:=bind_ok h
 obtain⟨_,x8,h8,h⟩:=bind_ok h
 obtain⟨eqs,x9,h9,h⟩:=bind_ok h
 cases h
 have e1:=tokR_sz ht h1
 have e2:=needR_ok h2
 have e3:=insR_sz ht h3
 have e4:=needR_ok h4
 have e5:=declsR_sz ht h5
 have e6:=needR_ok h6
 have e7:=varsR_sz ht h7
 have e8:=needR_ok h8
 have e9:=eqsL_sz ht _ _ h9 (by simp)
 have:=e9.2.2
 simp only [List.length_nil]at this
 refine⟨⟨by simp only;omega,by simp only;omega,by simp only;omega,by simp only;omega,e9.1,fun d hd=> ?_,e1.1⟩,by omega⟩
 unfold allD at hd
 rcases List.mem_append.1 hd with hd|hd
 ·rcases List.mem_append.1 hd with hd|hd
  ·exact e3.1 d hd
  ·exact e5.1 d hd
 ·exact e7.1 d hd
omit ht in
theorem NdJ.mono {J K:Nat}{x:Nd}(h:NdJ J x)(hk:J≤K):NdJ K x:=⟨Nat.le_trans h.ins hk,Nat.le_trans h.outs hk,Nat.le_trans h.vars hk,Nat.le_trans h.eqs hk,fun y hy=>(h.eo y hy).mono hk,h.dc,h.nm⟩
omit ht in
theorem NdJ.ok {J:Nat}{n:Nd}(h:NdJ J n)(hJ:J≤300000):NdOK n:=by
 have h1:=h.ins;have h2:=h.outs;have h3:=h.vars;have h4:=h.eqs
 refine⟨?_,by omega,fun x hx=> ?_,h.dc,h.nm⟩
 ·unfold allD;simp only [List.length_append];omega
 ·have:=h.eo x hx
  exact⟨Nat.le_trans this.ns (by omega),Nat.le_trans this.sz (by omega),this.fn,this.st⟩
end
def enumsL (l:List Tk):Nat→List En→RM (List En)
 |0,acc=>RM.ret acc
 |n+1,acc=>(tkR l (bs [101,110,117,109])).bind fun v=>match v with
  |true=>(enumR l).bind fun d=>enumsL l n (acc++[d])
  |false=>RM.ret acc
def nodesL (l:List Tk)(ens:List En):Nat→List Nd→RM (List Nd)
 |0,acc=>RM.ret acc
 |n+1,acc=>(tkR l (bs [110,111,100,101])).bind fun v=>match v with
  |true=>(nodeR l ens).bind fun d=>nodesL l ens n (acc++[d])
  |false=>RM.ret acc
def finR (l:List Tk):RM Unit:=fun i=>match decide ((tkA l i).k=6)with
 |true=> .ok () i
 |false=> .bad i 2
def progR (l:List Tk):RM (List En × List Nd):=(enumsL l l.length []).bind fun ens=>(nodesL l ens l.length []).bind fun nds=>(finR l).bind fun _=>RM.ret (ens,nds)
theorem tkR_yes {l:List Tk}{w:ByteArray}{i j:Nat}(h:tkR l w i= .ok true j):j=i+1:=by
 unfold tkR at h;split at h<;>cases h;rfl
section
variable {l : List Tk} (ht : TS l)
include ht
theorem enumsL_sz: ∀(n:Nat) (acc:List En) {i j:Nat} {r:List En},enumsL l n acc i= .ok r j→(∀s∈acc,EnOK s)→(∀s∈r,EnOK s)∧i≤j∧r.length+i≤acc.length+j
 |0,acc,i,j,r,h,ha=>by cases h;exact⟨ha,Nat.le_refl _,Nat.le_refl _⟩
 |n+1,acc,i,j,r,h,ha=>by
  unfold enumsL at h
  obtain⟨v,x,h1,h2⟩:=bind_ok h
  have e1:=tkR_ok h1
  cases v with
  |true=>
   obtain⟨d,y,h3,h4⟩:=bind_ok h2
   have e0:=tkR_yes h1
   have e2:=enumR_sz ht h3
   have e3:=enumsL_sz n _ h4 (fun s hs=>by
    rcases List.mem_append.1 hs with hs|hs
    ·exact ha s hs
    ·rw[List.mem_singleton.1 hs];exact e2.1)
   refine⟨e3.1,by omega,?_⟩
   have:=e3.2.2
   simp only [List.length_append,List.length_cons,List.length_nil]at this
   omega
  |false=>cases h2;exact⟨ha,e1,by omega⟩
theorem enumsL_ln: ∀(n:Nat) (acc:List En) {i j:Nat} {r:List En},enumsL l n acc i= .ok r j→(∀s∈acc,s.2.length≤i)→ ∀s∈r,s.2.length≤j
 |0,acc,i,j,r,h,ha=>by cases h;exact ha
 |n+1,acc,i,j,r,h,ha=>by
  unfold enumsL at h
  obtain⟨v,x,h1,h2⟩:=bind_ok h
  have e1:=tkR_ok h1
  cases v with
  |true=>
   obtain⟨d,y,h3,h4⟩:=bind_ok h2
   have e2:=(enumR_sz ht h3).2
   exact enumsL_ln n _ h4 (fun s hs=>by
    rcases List.mem_append.1 hs with hs|hs
    ·have:=ha s hs;omega
    ·rw[List.mem_singleton.1 hs];exact enumR_ln ht h3)
  |false=>cases h2;exact fun s hs=>Nat.le_trans (ha s hs) e1
theorem nodesL_sz {ens:List En}: ∀(n:Nat) (acc:List Nd) {i j:Nat} {r:List Nd},nodesL l ens n acc i= .ok r j→(∀s∈acc,NdJ i s)→(∀s∈r,NdJ j s)∧i≤j∧r.length+i≤acc.length+j
 |0,acc,i,j,r,h,ha=>by cases h;exact⟨ha,Nat.le_refl _,Nat.le_refl _⟩
 |n+1,acc,i,j,r,h,ha=>by
  unfold nodesL at h
  obtain⟨v,x,h1,h2⟩:=bind_ok h
  have e1:=tkR_ok h1
  cases v with
  |true=>
   obtain⟨d,y,h3,h4⟩:=bind_ok h2
   have e0:=tkR_yes h1
   have e2:=nodeR_sz ht h3
   have e3:=nodesL_sz n _ h4 (fun s hs=>by
    rcases List.mem_append.1 hs with hs|hs
    ·exact(ha s hs).mono (by omega)
    ·rw[List.mem_singleton.1 hs];exact e2.1)
   refine⟨e3.1,by omega,?_⟩
   have:=e3.2.2
   simp only [List.length_append,List.length_cons,List.length_nil]at this
   omega
  |false=>cases h2;exact⟨fun s hs=>(ha s hs).mono e1,e1,by omega⟩
structure PgOK (p:List En × List Nd):Prop where
 e:p.1.length≤1000000
 n:p.2.length≤1000000
 eo: ∀x∈p.1,EnOK x
 no: ∀x∈p.2,NdOK x
 c: ∀e∈p.1,e.2.length≤1000000
theorem progR_sz {j:Nat}{r:List En × List Nd}(h:progR l 0= .ok r j)(hj:j≤300000):PgOK r:=by
 obtain⟨ens,x,h1,h⟩:=bind_ok h
 obtain⟨nds,y,h2,h⟩:=bind_ok h
 obtain⟨_,z,h3,h⟩:=bind_ok h
 cases h
 have e1:=enumsL_sz ht _ _ h1 (by simp)
 have e2:=nodesL_sz ht _ _ h2 (by simp)
 have e3:y=j:=by unfold finR at h3;split at h3<;>cases h3;rfl
 have l1:=e1.2.2
 have l2:=e2.2.2
 simp only [List.length_nil]at l1 l2
 exact⟨by simp only;omega,by simp only;omega,e1.1,fun x hx=>(e2.1 x hx).ok (by omega),fun e he=>by have:=enumsL_ln ht _ _ h1 (by simp) e he;omega⟩
end
theorem Post.yes {α:Type}{F:Int→St→Nat→Int→Prop}{l:List Tk}{m:RM α}{s s':St}{v:α}(h:Post F l m s v s')(hb:s'.b=true):s.b=true∧m s.i= .ok v s'.i:=by
 have h0:s.b=true:=by
  cases hs:s.b with
  |true=>rfl
  |false=>have e:=h.bad hs;rw[e,hs]at hb;cases hb
 have g:=h.good h0
 cases hm:m s.i with
 |ok a j=>rw[hm]at g;rw[g.1,g.2];exact⟨h0,rfl⟩
 |bad p c=>rw[hm]at g;rw[g.1]at hb;cases hb
theorem c_As (b:Bool)(a w:Int):cF 1000032 (kAs b a w)=some (match b with
  |true=> .val [.bool false, .int .i64 0, .int .i64 0]
  |false=> .val [.bool true, .int .i64 a, .int .i64 w]):=callF_known rfl
def finP (sz:Int)(x:(List En × List Nd) × St):PRes:=match x.2.b with
 |false=> .val [.sl 2 [], .sl 5 [], .int .i64 x.2.a, .int .i64 x.2.w]
 |true=>bif !decide (chkS x.1.1 x.1.2=0)then .val [.sl 2 [], .sl 5 [], .int .i64 sz, .int .i64 (chkS x.1.1 x.1.2)]else .val [.sl 2 (erows x.1.1), .sl 5 (nrows x.1.2), .int .i64 sz, .int .i64 0]
theorem erows_snoc (acc:List En)(x:En):erows (acc++[x])=erows acc++[erow x]:=by simp [erows]
section
variable {α : Type} (l : List Tk) (en : List (List D)) (s : St) (r : List D) (k : Nat) (x : List (List D)) (e : En) (n : Nd)
theorem lL6 (K:List (List D)→Option α):(opL (sy.cell (stD l en s++ .sl k x::r) 6) k).bind K=K x:=opL_eq k x K
theorem hEr0 (K:ByteArray→Option α):(opS (sy.cell (PRes.val (erow e++r)).leaves 0)).bind K=K e.1:=(rfl)
theorem hEr1 (K:List (List D)→Option α):(opL (sy.cell (PRes.val (erow e++r)).leaves 1) 1).bind K=K (srows e.2):=opL_eq 1 _ K
theorem hEr2 (K:List (List D)→Int→Bool→Int→Int→List (List D)→Option α):oV sy (PRes.val (erow e++stD l en s)).leaves 2 K=K (trows l) (s.i:Int) s.b s.a s.w en:=(rfl)
theorem hNr0 (K:ByteArray→Option α):(opS (sy.cell (PRes.val (nrow n++r)).leaves 0)).bind K=K n.n:=(rfl)
theorem hNr1 (K:List (List D)→Option α):(opL (sy.cell (PRes.val (nrow n++r)).leaves 1) 6).bind K=K (drows n.ins):=opL_eq 6 _ K
theorem hNr2 (K:List (List D)→Option α):(opL (sy.cell (PRes.val (nrow n++r)).leaves 2) 6).bind K=K (drows n.outs):=opL_eq 6 _ K
theorem hNr3 (K:List (List D)→Option α):(opL (sy.cell (PRes.val (nrow n++r)).leaves 3) 6).bind K=K (drows n.vars):=opL_eq 6 _ K
theorem hNr4 (K:List (List D)→Option α):(opL (sy.cell (PRes.val (nrow n++r)).leaves 4) 7).bind K=K (qrows n.eqs):=opL_eq 7 _ K
theorem hNr5 (K:List (List D)→Int→Bool→Int→Int→List (List D)→Option α):oV sy (PRes.val (nrow n++stD l en s)).leaves 5 K=K (trows l) (s.i:Int) s.b s.a s.w en:=(rfl)
end
def tailR (l:List Tk)(ens:List En)(k:Nat)(acc:List Nd):RM (List En × List Nd):=(nodesL l ens k acc).bind fun nds=>(finR l).bind fun _=>RM.ret (ens,nds)
def progS (s:ByteArray):(List En × List Nd) × Int × Int:=match decide ((6000:Int) < ((tb s).length:Int)),(lexS s 0).2.2 with
 |true,_=>(([],[]),6000,3)
 |false,false=>(([],[]),((lexS s 0).2.1:Int),2)
 |false,true=>match progR (toksS s) 0 with
  | .bad p c=>(([],[]),((tkA (toksS s) p).a:Int),c)
  | .ok r _=>bif !decide (chkS r.1 r.2=0)then(([],[]),((tb s).length:Int),chkS r.1 r.2)else(r,((tb s).length:Int),0)
def pgV (x:(List En × List Nd) × Int × Int):PRes:= .val [.sl 2 (erows x.1.1), .sl 5 (nrows x.1.2), .int .i64 x.2.1, .int .i64 x.2.2]
theorem fin_eq {l:List Tk}{n:Nat}{x:(List En × List Nd) × St}(h:PostP l (progR l) ⟨0,true,0,0⟩ x.1 x.2):pgV (match progR l 0 with
  | .bad p c=>(([],[]),((tkA l p).a:Int),c)
  | .ok r _=>bif !decide (chkS r.1 r.2=0)then(([],[]),(n:Int),chkS r.1 r.2)else(r,(n:Int),0))=finP (n:Int) x:=by
 have g:=h.good rfl
 obtain⟨⟨ens,nds⟩,s⟩:=x
 simp only at g
 unfold finP
 cases hm:progR l 0 with
 |ok r j=>
  rw[hm]at g
  obtain⟨rfl,e⟩:=g
  rw[e]
  simp only
  cases decide (chkS ens nds=0)<;>rfl
 |bad p c=>
  rw[hm]at g
  obtain⟨hb,h1,h2⟩:=g
  simp only [hb]
  rw[h1,h2]
  rfl
theorem pg_ok {l:List Tk}(ht:TS l)(hl3:l.length≤300000){n:Nat}{x:(List En × List Nd) × St}(h:PostP l (progR l) ⟨0,true,0,0⟩ x.1 x.2):PgOK ((match progR l 0 with
  | .bad p c=>(([],[]),((tkA l p).a:Int),c)
  | .ok r _=>bif !decide (chkS r.1 r.2=0)then(([],[]),(n:Int),chkS r.1 r.2)else(r,(n:Int),0)):(List En × List Nd) × Int × Int).1:=by
 have h0:PgOK (([],[]):List En × List Nd):=⟨Nat.zero_le _,Nat.zero_le _,by simp,by simp,by simp⟩
 have g:=h.good rfl
 cases hm:progR l 0 with
 |ok r j=>
  have hm':progR l (St.i ⟨0,true,0,0⟩)= .ok r j:=hm
  rw[hm']at g
  have hj:x.2.i=j:=by rw[g.2]
  have hlt:=h.lt
  have:=progR_sz ht hm (by omega)
  show PgOK ((bif !decide (chkS r.1 r.2=0)then(([],[]),(n:Int),chkS r.1 r.2)else(r,(n:Int),0)):(List En × List Nd) × Int × Int).1
  cases decide (chkS r.1 r.2=0)with
  |true=>exact this
  |false=>exact h0
 |bad p c=>exact h0
theorem c_pProgram2 (str:ByteArray)(hs:str.size≤100000):cF 15 [.d (.str str)]=some (pgV (progS str))∧PgOK (progS str).1:=by
 have h0:PgOK (([],[]):List En × List Nd):=⟨Nat.zero_le _,Nat.zero_le _,by simp,by simp,by simp⟩
 have hl:=LOK_toks str hs
 have ht:=TS_of fun t ht=>(toks_mem hs ht).1
 have hlen:(toksS str).length≤100001:=by
  have h2:=(lexS_tok str _ 0 (Nat.le_refl _)).2
  have h1:(tb str).length≤100000:=by rw[tb_len];exact hs
  simp only [toksS,List.length_append,List.length_cons,List.length_nil]
  omega
 have h1:=c_All str 6000 hs
 unfold progS
 unfold allR at h1
 have hc: ∀X,g15 sy eF str=some X→cF 15 [.d (.str str)]=some X:=fun X h=>cOf (by kernel_rfl) rfl (by rw[g15_eq];exact h)
 unfold g15 at hc
 cases hd:decide ((6000:Int) < ((tb str).length:Int))with
 |true=>
  rw[hd]at h1
  refine⟨hc _ ?_,h0⟩
  simp only [go1,Nat.reduceAdd,Int.reduceEq,Int.reduceLT,Int.reduceLE,Int.reduceSub,Int.reduceAdd,oP,h1]
  rfl
 |false=>
  rw[hd]at h1
  cases hx:(lexS str 0).2.2 with
  |false=>
   rw[hx]at h1
   refine⟨hc _ ?_,h0⟩
   simp only [go1,Nat.reduceAdd,Int.reduceEq,Int.reduceLT,Int.reduceLE,Int.reduceSub,Int.reduceAdd,oP,h1]
   rfl
  |true=>
   rw[hx]at h1
   have h1:cF 30 [.d (.str str), .d (.int .i64 6000)]=some (.val [.sl 4 (trows (toksS str)), .int .i64 ((tb str).length:Int), .int .i64 0]):=h1
   generalize toksS str=l at hl ht hlen h1 ⊢
   have hz:sy.bnot (sy.ieq (0:Int) 0)=false:=rfl
   have hP0: ∀(K:List (List D)→Int→Option PRes),oP sy (PRes.val [.sl 4 (trows l), .int .i64 ((tb str).length:Int), .int .i64 0]).leaves 0 K=K (trows l) ((tb str).length:Int):=fun K=>by
    unfold oP;exact opL_eq 4 _ _
   have hI2': ∀(K:Int→Option PRes),(opI (sy.cell (PRes.val [.sl 4 (trows l), .int .i64 ((tb str).length:Int), .int .i64 0]).leaves 2) .i64).bind K=K 0:=fun K=>rfl
   simp only [↓hC h1, ↓hP0, ↓hI2', ↓hXf hz]at hc
   rw[eF_lp]at hc
   ·refine(loop_ex (c:=finP ((tb str).length:Int)) (σ:=Nat × List En × St) (fun x=>stD l (erows x.2.1) x.2.2++[.sl 5 []]) (fun x=>l.length - x.2.2.i≤x.1∧x.2.1.length≤x.2.2.i+1∧x.2.2.i < l.length∧(x.2.2.b=true→ ∀e∈x.2.1,EnOK e)) (fun x=>x.1)
     (fun x y=>PostP l ((enumsL l x.1 x.2.1).bind fun ens=>tailR l ens l.length []) x.2.2 y.1 y.2) ?_ (l.length,[],⟨0,true,0,0⟩) ⟨by simp only;omega,by simp,hl.pos,by simp⟩).elim fun x h=>⟨hc _ (h.1.trans (congrArg some (fin_eq h.2).symm)),pg_ok ht (by omega) h.2⟩
    rintro⟨n,acc,s⟩ ⟨hn,ha,hsl,hen⟩
    simp only at hn ha hsl hen ⊢
    obtain⟨v,s1,h2,r2,hv⟩:=c_rtake hl (erows acc) s hsl (bs [101,110,117,109])
    obtain⟨n,rfl⟩: ∃m,n=m+1:=⟨n - 1,by omega⟩
    cases v with
    |true=>
     left
     obtain⟨⟨d,s2⟩,h3,r3⟩:=c_renum hl (erows acc) s1 r2.lt
     simp only at h3 r3
     have hi:=(hv rfl).2
     have hle:=r3.le
     have hfit:sy.fits (erows acc) [erow d] 40=true:=fitsR (erows acc) [erow d] 40 (by rw[erows_len];simp only [List.length_cons,List.length_nil];omega)
     have fin:sy.rapp (erows acc) [erow d]=erows (acc++[d]):=by rw[erows_snoc];rfl
     refine⟨(n,acc++[d],s2),?_,⟨by simp only;omega,by simp only [List.length_append,List.length_cons,List.length_nil];omega,r3.lt,fun hb e he=> ?_⟩,Nat.lt_succ_self _,fun y hy=>Post.assoc (r2.bind (Post.assoc (r3.bind hy)))⟩
     ·simp only [↓lV0, ↓lL6, ↓hC h2, ↓hB0, ↓hV1, ↓hCt, ↓hC h3, ↓hEr0, ↓hEr1, ↓hEr2]
      rw[←fin]
      exact hXt hfit _ _
     ·obtain⟨hb1,hm⟩:=r3.yes hb
      obtain⟨hb0,_⟩:=r2.yes hb1
      rcases List.mem_append.1 he with he|he
      ·exact hen hb0 e he
      ·rw[List.mem_singleton.1 he];exact(enumR_sz ht hm).1
    |false=>
     right
     have hen1:s1.b=true→ ∀e∈acc,EnOK e:=fun hb=>hen (r2.yes hb).1
     have hEl:acc.length≤1000000:=by omega
     simp only [↓lV0, ↓lL6, ↓hC h2, ↓hB0, ↓hV1, ↓hCf]
     rw[eF_lp]
     refine(loop_ex (c:=fun x=>Sum.inr (finP ((tb str).length:Int) x)) (σ:=Nat × List Nd × St) (fun x=>stD l (erows acc) x.2.2++[.sl 5 (nrows x.2.1)]) (fun x=>l.length - x.2.2.i≤x.1∧x.2.1.length≤x.2.2.i+1∧x.2.2.i < l.length∧(x.2.2.b=true→(∀e∈acc,EnOK e)∧ ∀e∈x.2.1,NdJ x.2.2.i e)) (fun x=>x.1)
      (fun x y=>PostP l (tailR l acc x.1 x.2.1) x.2.2 y.1 y.2) ?_ (l.length,[],s1) ⟨by simp only;omega,by simp,r2.lt,fun hb=>⟨hen1 hb,by simp⟩⟩).imp fun x h=>⟨h.1,Post.assoc (r2.bind h.2)⟩
     clear h2 r2 hv hn ha hsl hen hen1
     rintro⟨n,nds,s⟩ ⟨hn,ha,hsl,hen⟩
     simp only at hn ha hsl hen ⊢
     obtain⟨v,s1,h2,r2,hv⟩:=c_rtake hl (erows acc) s hsl (bs [110,111,100,101])
     obtain⟨n,rfl⟩: ∃m,n=m+1:=⟨n - 1,by omega⟩
     cases v with
     |true=>
      left
      obtain⟨⟨d,s2⟩,h3,r3⟩:=c_rnode hl ht acc hEl s1 r2.lt
      simp only at h3 r3
      have hi:=(hv rfl).2
      have hle:=r3.le
      have hfit:sy.fits (nrows nds) [nrow d] 112=true:=fitsR (nrows nds) [nrow d] 112 (by rw[nrows_len];simp only [List.length_cons,List.length_nil];omega)
      have fin:sy.rapp (nrows nds) [nrow d]=nrows (nds++[d]):=by rw[nrows_snoc];rfl
      refine⟨(n,nds++[d],s2),?_,⟨by simp only;omega,by simp only [List.length_append,List.length_cons,List.length_nil];omega,r3.lt,fun hb=> ?_⟩,Nat.lt_succ_self _,fun y hy=>Post.assoc (r2.bind (Post.assoc (r3.bind hy)))⟩
      ·simp only [↓lV0, ↓lL6, ↓hC h2, ↓hB0, ↓hV1, ↓hCt, ↓hC h3, ↓hNr0, ↓hNr1, ↓hNr2, ↓hNr3, ↓hNr4, ↓hNr5]
       rw[←fin]
       exact hXt hfit _ _
      ·obtain⟨hb1,hm⟩:=r3.yes hb
       obtain⟨hb0,_⟩:=r2.yes hb1
       refine⟨(hen hb0).1,fun e he=> ?_⟩
       rcases List.mem_append.1 he with he|he
       ·exact((hen hb0).2 e he).mono (by simp only;omega)
       ·rw[List.mem_singleton.1 he];exact(nodeR_sz ht hm).1
     |false=>
      right
      have hr:PostP l (nodesL l acc (n+1) nds) s nds s1:=r2.bind (Post.ret r2.lt)
      cases hb:s1.b with
      |false=>
       refine⟨((acc,nds),s1),?_,hr.bind (post_bad r2.lt hb)⟩
       have k1:=c_As s1.b s1.a s1.w
       rw[hb]at k1
       simp only [↓lV0, ↓lL6, ↓hC h2, ↓hB0, ↓hV1, ↓hCf, ↓hXf hb]
       rw[hb]
       simp only [↓hC k1, ↓hB0, ↓hI1, ↓hI2, ↓hCt]
       unfold finP
       simp only [hb]
      |true=>
       have q1:sy.inr (s1.i:Int) (sy.rlen (trows l))=true:=in_tk r2.lt
       have q2:=row_tk r2.lt
       have hT: ∀(K:Int→ByteArray→Int→Int→Option (List D ⊕ List D ⊕ PRes)),oT sy (sy.row (trows l) (s1.i:Int)) 0 K=K (tkA l s1.i).k (tkA l s1.i).s (tkA l s1.i).n (tkA l s1.i).a:=fun K=>by rw[q2];rfl
       cases hk:decide ((tkA l s1.i).k=6)with
       |false=>
        obtain⟨s2,h4,r4,hb4,_⟩:=c_rfail hl (erows acc) s1 r2.lt s1.i r2.lt 2
        have rf:PostP l (finR l) s1 () s2:=r4.of fun _=>by unfold finR failR;rw[hk]
        refine⟨((acc,nds),s2),?_,hr.bind (rf.bind (Post.ret rf.lt))⟩
        have k1:=c_As s2.b s2.a s2.w
        have hk':sy.bnot (sy.ieq (tkA l s1.i).k 6)=true:=by show(!decide _)=true;rw[hk];rfl
        simp only [↓lV0, ↓lL6, ↓hC h2, ↓hB0, ↓hV1, ↓hCf, ↓hXt hb, ↓hXt q1, ↓hT, ↓hXt hk', ↓hC h4, ↓hV0, ↓hC k1]
        rw[hb4]
        simp only [↓hB0, ↓hI1, ↓hI2, ↓hCt]
        unfold finP
        simp only [hb4]
       |true=>
        have rf:PostP l (finR l) s1 () s1:=by
         refine⟨Nat.le_refl _,r2.lt,fun _=>rfl,fun _=> ?_⟩
         unfold finR
         rw[hk]
         obtain⟨i,b,a,w⟩:=s1
         cases hb
         exact⟨rfl,rfl⟩
        refine⟨((acc,nds),s1),?_,hr.bind (rf.bind (Post.ret rf.lt))⟩
        obtain⟨hb0,_⟩:=r2.yes hb
        have hck:=c_check acc nds hEl (by omega) fun e he=>((hen hb0).2 e he).ok (by omega)
        have k1:=c_As s1.b s1.a s1.w
        have hk':sy.bnot (sy.ieq (tkA l s1.i).k 6)=false:=by show(!decide _)=false;rw[hk];rfl
        have hsz:sy.slen str=((tb str).length:Int):=by show(str.size:Int)=_;rw[size_tb]
        rw[hb]at k1
        simp only [↓lV0, ↓lL6, ↓hC h2, ↓hB0, ↓hV1, ↓hCf, ↓hXt hb, ↓hXt q1, ↓hT, ↓hXf hk']
        rw[hb]
        simp only [↓hC k1, ↓hB0, ↓hI1, ↓hI2, ↓hCf, ↓hC hck, ↓hI0,hsz]
        unfold finP
        simp only [hb]
        show cond (!decide (chkS acc nds=0)) _ _=_
        cases decide (chkS acc nds=0)<;>rfl
theorem c_pProgram (str:ByteArray)(hs:str.size≤100000):cF 15 [.d (.str str)]=some (pgV (progS str)):=(c_pProgram2 str hs).1
end Go.Vm
end
section
set_option maxRecDepth 1000000
set_option maxHeartbeats 0
namespace Go.Vm
open Go.Proofs
noncomputable section
def g16 (A:Sy)(E:Env)(p_0 p_1:List (List D)):Option PRes:=(E.call 34 [(.agg [(.d (.sl 2 p_0)),(.d (.sl 5 p_1))])]).bind fun p1=>(opI (A.cell p1.leaves 0) .i64).bind fun n3=>(opI (A.cell p1.leaves 1) .i64).bind fun n4=>(opI (A.cell p1.leaves 2) .i64).bind fun n5=>bif (A.bnot (A.ieq n5 0))then some (.val [(.int .i64 n3),(.int .i64 n4),(.int .i64 n5)]) else E.lp (fun ds6=>(opL (A.cell ds6 0) 5).bind fun l7=>(opI (A.cell ds6 1) .i64).bind fun n8=>(opI (A.cell ds6 2) .i64).bind fun n9=>(opI (A.cell ds6 3) .i64).bind fun n10=>(opI (A.cell ds6 4) .i64).bind fun n11=>(opI (A.cell ds6 5) .i64).bind fun n12=>bif (A.ilt n9 n8)then bif (A.inr n9 (A.rlen l7))then (opS (A.cell (A.row l7 n9) 0)).bind fun s13=>(opL (A.cell (A.row l7 n9) 1) 6).bind fun l14=>(opL (A.cell (A.row l7 n9) 2) 6).bind fun l15=>(opL (A.cell (A.row l7 n9) 3) 6).bind fun l16=>(opL (A.cell (A.row l7 n9) 4) 7).bind fun l17=>E.lp (fun ds18=>(opI (A.cell ds18 0) .i64).bind fun n19=>(opL (A.cell ds18 1) 5).bind fun l20=>(opI (A.cell ds18 2) .i64).bind fun n21=>(opI (A.cell ds18 3) .i64).bind fun n22=>(opL (A.cell ds18 4) 7).bind fun l23=>(opI (A.cell ds18 5) .i64).bind fun n24=>(opI (A.cell ds18 6) .i64).bind fun n25=>(opI (A.cell ds18 7) .i64).bind fun n26=>(opI (A.cell ds18 8) .i64).bind fun n27=>(opI (A.cell ds18 9) .i64).bind fun n28=>bif (A.ilt n25 n24)then bif (A.inr n25 (A.rlen l23))then (opL (A.cell (A.row l23 n25) 0) 1).bind fun l29=>oE A (A.row l23 n25) 1 fun n30 n31 s32 n33 l34 l35=>(E.call 35 [(kE n30 n31 s32 n33 l34 l35)]).bind fun p36=>(opB (A.cell p36.leaves 0)).bind fun b38=>(opB (A.cell p36.leaves 1)).bind fun b39=>cutO (bif b38 then some (.inl [(.bool true)]) else some (.inl [(.bool (A.bnot b39))])) fun ds40=>(opB (A.cell ds40 0)).bind fun b41=>bif b41 then some (.inr (.inr (.val [(.int .i64 n19),(.int .i64 n25),(.int .i64 10)]))) else some (.inl [(.int .i64 n19),(.sl 5 l20),(.int .i64 n21),(.int .i64 n22),(.sl 7 l23),(.int .i64 n24),(.int .i64 (A.wrap .i64 (A.add n25 1))),(.int .i64 n26),(.int .i64 n27),(.int .i64 n28)]) else none else some (.inr (.inl [(.sl 5 l20),(.int .i64 n21),(.int .i64 (A.wrap .i64 (A.add n22 1))),(.int .i64 n26),(.int .i64 n27),(.int .i64 n28)]))) [(.int .i64 n9),(.sl 5 l7),(.int .i64 n8),(.int .i64 n9),(.sl 7 l17),(.int .i64 (A.rlen l17)),(.int .i64 0),(.int .i64 n10),(.int .i64 n11),(.int .i64 n12)] else none else some (.inr (.val [(.int .i64 0),(.int .i64 0),(.int .i64 0)]))) [(.sl 5 p_1),(.int .i64 (A.rlen p_1)),(.int .i64 0),(.int .i64 0),(.int .i64 0),(.int .i64 0)]
def g11 (A:Sy)(E:Env)(p_0 p_1:List (List D)):Option PRes:=bif (A.ieq (A.rlen p_1) 0)then some (.val [(.sl 4 []),(.sl 4 [])]) else bif (A.inr (A.wrap .i64 (A.sub (A.rlen p_1) 1)) (A.rlen p_1))then (opS (A.cell (A.row p_1 (A.wrap .i64 (A.sub (A.rlen p_1) 1))) 0)).bind fun s1=>(opL (A.cell (A.row p_1 (A.wrap .i64 (A.sub (A.rlen p_1) 1))) 1) 6).bind fun l2=>(opL (A.cell (A.row p_1 (A.wrap .i64 (A.sub (A.rlen p_1) 1))) 2) 6).bind fun l3=>(opL (A.cell (A.row p_1 (A.wrap .i64 (A.sub (A.rlen p_1) 1))) 3) 6).bind fun l4=>(opL (A.cell (A.row p_1 (A.wrap .i64 (A.sub (A.rlen p_1) 1))) 4) 7).bind fun l5=>(E.call 26 [(.d (.sl 6 l2)),(.fn 27 [])]).bind fun p6=>(opL (A.cell p6.leaves 0) 4).bind fun l8=>(E.call 26 [(.d (.sl 6 l3)),(.fn 27 [])]).bind fun p9=>(opL (A.cell p9.leaves 0) 4).bind fun l11=>some (.val [(.sl 4 l8),(.sl 4 l11)]) else none
theorem g11_eq (A:Sy)(E:Env)(p_0 p_1:List (List D)):(funT A Tryz.prog cs 11 [.agg [.d (.sl 2 p_0),V.d (.sl 5 p_1)]]).run E=g11 A E p_0 p_1:=by kernel_rfl
def g7 (A:Sy)(E:Env)(f_0 f_1 f_2:Int):Option PRes:=bif (A.deq [(.int .i64 f_0),(.int .i64 f_1),(.int .i64 f_2)] [(.int .i64 0),(.int .i64 0),(.int .i64 0)])then some (.val [(.str (bs [111,107]))]) else (E.call 17 [(.d (.int .i64 f_2))]).bind fun p1=>(opS (A.cell p1.leaves 0)).bind fun s3=>bif (A.sfit (bs [101,114,114,111,114,32]) s3)then bif (A.sfit (A.sapp (bs [101,114,114,111,114,32]) s3) (bs [32,97,116,32]))then (E.call 17 [(.d (.int .i64 f_0))]).bind fun p4=>(opS (A.cell p4.leaves 0)).bind fun s6=>bif (A.sfit (A.sapp (A.sapp (bs [101,114,114,111,114,32]) s3) (bs [32,97,116,32])) s6)then bif (A.ilt f_1 0)then some (.val [(.str (A.sapp (A.sapp (A.sapp (bs [101,114,114,111,114,32]) s3) (bs [32,97,116,32])) s6))]) else bif (A.sfit (A.sapp (A.sapp (A.sapp (bs [101,114,114,111,114,32]) s3) (bs [32,97,116,32])) s6) (bs [46]))then (E.call 17 [(.d (.int .i64 f_1))]).bind fun p7=>(opS (A.cell p7.leaves 0)).bind fun s9=>bif (A.sfit (A.sapp (A.sapp (A.sapp (A.sapp (bs [101,114,114,111,114,32]) s3) (bs [32,97,116,32])) s6) (bs [46])) s9)then some (.val [(.str (A.sapp (A.sapp (A.sapp (A.sapp (A.sapp (bs [101,114,114,111,114,32]) s3) (bs [32,97,116,32])) s6) (bs [46])) s9))]) else none else none else none else none else none
theorem g7_eq (A:Sy)(E:Env)(f_0 f_1 f_2:Int):(funT A Tryz.prog cs 7 [.agg [.d (.int .i64 f_0),V.d (.int .i64 f_1),V.d (.int .i64 f_2)]]).run E=g7 A E f_0 f_1 f_2:=by kernel_rfl
def g6 (A:Sy)(E:Env)(s_:ByteArray):Option PRes:=(E.call 15 [(.d (.str s_))]).bind fun p1=>(opL (A.cell p1.leaves 0) 2).bind fun l3=>(opL (A.cell p1.leaves 1) 5).bind fun l4=>(opI (A.cell p1.leaves 2) .i64).bind fun n5=>(opI (A.cell p1.leaves 3) .i64).bind fun n6=>bif (A.bnot (A.ieq n6 0))then some (.val [(.sl 2 []),(.sl 5 []),(.int .i64 n5),(.int .i64 0),(.int .i64 (-1)),(.int .i64 n6)]) else (E.call 16 [(.agg [(.d (.sl 2 l3)),(.d (.sl 5 l4))])]).bind fun p7=>(opI (A.cell p7.leaves 0) .i64).bind fun n9=>(opI (A.cell p7.leaves 1) .i64).bind fun n10=>(opI (A.cell p7.leaves 2) .i64).bind fun n11=>bif (A.bnot (A.ieq n11 0))then some (.val [(.sl 2 []),(.sl 5 []),(.int .i64 (A.slen s_)),(.int .i64 n9),(.int .i64 n10),(.int .i64 n11)]) else some (.val [(.sl 2 l3),(.sl 5 l4),(.int .i64 (A.slen s_)),(.int .i64 0),(.int .i64 0),(.int .i64 0)])
theorem g6_eq (A:Sy)(E:Env)(s_:ByteArray):(funT A Tryz.prog cs 6 [.d (.str s_)]).run E=g6 A E s_:=by kernel_rfl
def g12 (A:Sy)(E:Env)(p_0 p_1:List (List D)):Option PRes:=bif (A.ieq (A.rlen p_1) 0)then some (.val [(.sl 4 []),(.sl 4 [])]) else bif (A.inr (A.wrap .i64 (A.sub (A.rlen p_1) 1)) (A.rlen p_1))then (opS (A.cell (A.row p_1 (A.wrap .i64 (A.sub (A.rlen p_1) 1))) 0)).bind fun s1=>(opL (A.cell (A.row p_1 (A.wrap .i64 (A.sub (A.rlen p_1) 1))) 1) 6).bind fun l2=>(opL (A.cell (A.row p_1 (A.wrap .i64 (A.sub (A.rlen p_1) 1))) 2) 6).bind fun l3=>(opL (A.cell (A.row p_1 (A.wrap .i64 (A.sub (A.rlen p_1) 1))) 3) 6).bind fun l4=>(opL (A.cell (A.row p_1 (A.wrap .i64 (A.sub (A.rlen p_1) 1))) 4) 7).bind fun l5=>(E.call 28 [(.d (.sl 6 l2))]).bind fun p6=>(opL (A.cell p6.leaves 0) 4).bind fun l8=>(E.call 28 [(.d (.sl 6 l3))]).bind fun p9=>(opL (A.cell p9.leaves 0) 4).bind fun l11=>some (.val [(.sl 4 l8),(.sl 4 l11)]) else none
theorem g12_eq (A:Sy)(E:Env)(p_0 p_1:List (List D)):(funT A Tryz.prog cs 12 [.agg [.d (.sl 2 p_0),V.d (.sl 5 p_1)]]).run E=g12 A E p_0 p_1:=by kernel_rfl
def g14 (A:Sy)(E:Env)(f_0 f_1 f_2:Int):Option PRes:=bif (A.deq [(.int .i64 f_0),(.int .i64 f_1),(.int .i64 f_2)] [(.int .i64 0),(.int .i64 0),(.int .i64 0)])then some (.val [(.str (bs [111,107]))]) else (E.call 29 [(.d (.int .i64 f_2))]).bind fun p1=>(opS (A.cell p1.leaves 0)).bind fun s3=>bif (A.sfit (bs [101,114,114,111,114,32]) s3)then bif (A.sfit (A.sapp (bs [101,114,114,111,114,32]) s3) (bs [32,97,116,32]))then (E.call 29 [(.d (.int .i64 f_0))]).bind fun p4=>(opS (A.cell p4.leaves 0)).bind fun s6=>bif (A.sfit (A.sapp (A.sapp (bs [101,114,114,111,114,32]) s3) (bs [32,97,116,32])) s6)then bif (A.ile 0 f_1)then bif (A.sfit (A.sapp (A.sapp (A.sapp (bs [101,114,114,111,114,32]) s3) (bs [32,97,116,32])) s6) (bs [46]))then (E.call 29 [(.d (.int .i64 f_1))]).bind fun p7=>(opS (A.cell p7.leaves 0)).bind fun s9=>bif (A.sfit (A.sapp (A.sapp (A.sapp (A.sapp (bs [101,114,114,111,114,32]) s3) (bs [32,97,116,32])) s6) (bs [46])) s9)then some (.val [(.str (A.sapp (A.sapp (A.sapp (A.sapp (A.sapp (bs [101,114,114,111,114,32]) s3) (bs [32,97,116,32])) s6) (bs [46])) s9))]) else none else none else some (.val [(.str (A.sapp (A.sapp (A.sapp (bs [101,114,114,111,114,32]) s3) (bs [32,97,116,32])) s6))]) else none else none else none
theorem g14_eq (A:Sy)(E:Env)(f_0 f_1 f_2:Int):(funT A Tryz.prog cs 14 [.agg [.d (.int .i64 f_0),V.d (.int .i64 f_1),V.d (.int .i64 f_2)]]).run E=g14 A E f_0 f_1 f_2:=by kernel_rfl
def g13 (A:Sy)(E:Env)(a_ b_:List (List D)):Option PRes:=bif (A.bnot (A.ieq (A.rlen a_) (A.rlen b_)))then some (.val [(.bool false)]) else E.lp (fun ds1=>(opL (A.cell ds1 0) 4).bind fun l2=>oP A ds1 1 fun l3 n4=>bif (A.ilt n4 (A.rlen l2))then bif (A.inr n4 (A.rlen l2))then (opS (A.cell (A.row l2 n4) 0)).bind fun s5=>(opI (A.cell (A.row l2 n4) 1) .i64).bind fun n6=>(opI (A.cell (A.row l2 n4) 2) .i64).bind fun n7=>(opI (A.cell (A.row l2 n4) 3) .i64).bind fun n8=>bif (A.inr n4 (A.rlen l3))then (opS (A.cell (A.row l3 n4) 0)).bind fun s9=>(opI (A.cell (A.row l3 n4) 1) .i64).bind fun n10=>(opI (A.cell (A.row l3 n4) 2) .i64).bind fun n11=>(opI (A.cell (A.row l3 n4) 3) .i64).bind fun n12=>bif (A.bnot (A.deq [(.str s5),(.int .i64 n6),(.int .i64 n7),(.int .i64 n8)] [(.str s9),(.int .i64 n10),(.int .i64 n11),(.int .i64 n12)]))then some (.inr (.val [(.bool false)])) else some (.inl [(.sl 4 l2),(.sl 4 l3),(.int .i64 (A.wrap .i64 (A.add n4 1)))]) else none else none else some (.inr (.val [(.bool true)]))) [(.sl 4 a_),(.sl 4 b_),(.int .i64 0)]
theorem g13_eq (A:Sy)(E:Env)(a_ b_:List (List D)):(funT A Tryz.prog cs 13 [.d (.sl 4 a_),V.d (.sl 4 b_)]).run E=g13 A E a_ b_:=by kernel_rfl
def g28 (A:Sy)(E:Env)(l_:List (List D)):Option PRes:=E.lp (fun ds1=>(opL (A.cell ds1 0) 6).bind fun l2=>(opI (A.cell ds1 1) .i64).bind fun n3=>(opL (A.cell ds1 2) 4).bind fun l4=>bif (A.ilt n3 (A.rlen l2))then bif (A.inr n3 (A.rlen l2))then (opS (A.cell (A.row l2 n3) 0)).bind fun s5=>bif (A.inr n3 (A.rlen l2))then (opI (A.cell (A.skip 1 (A.row l2 n3)) 0) .i64).bind fun n6=>(opI (A.cell (A.skip 1 (A.row l2 n3)) 1) .i64).bind fun n7=>(opI (A.cell (A.skip 1 (A.row l2 n3)) 2) .i64).bind fun n8=>bif (A.fits l4 [[(.str s5),(.int .i64 n6),(.int .i64 n7),(.int .i64 n8)]] 40)then some (.inl [(.sl 6 l2),(.int .i64 (A.wrap .i64 (A.add n3 1))),(.sl 4 (A.rapp l4 [[(.str s5),(.int .i64 n6),(.int .i64 n7),(.int .i64 n8)]]))]) else none else none else none else some (.inr (.own 72 4 l4))) [(.sl 6 l_),(.int .i64 0),(.sl 4 [])]
theorem g28_eq (A:Sy)(E:Env)(l_:List (List D)):(funT A Tryz.prog cs 28 [.d (.sl 6 l_)]).run E=g28 A E l_:=by kernel_rfl
def g5 (A:Sy)(E:Env):Option PRes:=(E.call 6 [(.d (.str (bs [110,111,100,101,32,102,40,97,58,32,105,110,116,41,32,114,101,116,117,114,110,115,32,40,98,58,32,105,110,116,41,32,108,101,116,32,98,32,61,32,112,114,101,32,97,59,32,116,101,108])))]).bind fun p1=>(opL (A.cell p1.leaves 0) 2).bind fun l3=>(opL (A.cell p1.leaves 1) 5).bind fun l4=>(opI (A.cell p1.leaves 2) .i64).bind fun n5=>(opI (A.cell p1.leaves 3) .i64).bind fun n6=>(opI (A.cell p1.leaves 4) .i64).bind fun n7=>(opI (A.cell p1.leaves 5) .i64).bind fun n8=>cutO (bif (A.ieq n5 50)then (E.call 7 [(.agg [(.d (.int .i64 n6)),(.d (.int .i64 n7)),(.d (.int .i64 n8))])]).bind fun p9=>(opS (A.cell p9.leaves 0)).bind fun s11=>some (.inl [(.bool (A.seq s11 (bs [101,114,114,111,114,32,49,48,32,97,116,32,48,46,48])))]) else some (.inl [(.bool false)])) fun ds12=>(opB (A.cell ds12 0)).bind fun b13=>some (.val [(.bool b13)])
theorem g5_eq (A:Sy)(E:Env):(funT A Tryz.prog cs 5 []).run E=g5 A E:=by kernel_rfl
def g4 (A:Sy)(E:Env)(p_0 p_1:List (List D))(f_0 f_1 f_2:Int):Option PRes:=(E.call 10 [(.agg [(.d (.sl 2 p_0)),(.d (.sl 5 p_1))])]).bind fun p1=>(opB (A.cell p1.leaves 0)).bind fun b3=>bif (A.bnot b3)then (E.call 5 []).bind fun p4=>(opB (A.cell p4.leaves 0)).bind fun b6=>some (.val [(.bool b6)]) else (E.call 11 [(.agg [(.d (.sl 2 p_0)),(.d (.sl 5 p_1))])]).bind fun p7=>(opL (A.cell p7.leaves 0) 4).bind fun l9=>(opL (A.cell p7.leaves 1) 4).bind fun l10=>(E.call 12 [(.agg [(.d (.sl 2 p_0)),(.d (.sl 5 p_1))])]).bind fun p11=>(opL (A.cell p11.leaves 0) 4).bind fun l13=>(opL (A.cell p11.leaves 1) 4).bind fun l14=>(E.call 13 [(.d (.sl 4 l9)),(.d (.sl 4 l13))]).bind fun p15=>(opB (A.cell p15.leaves 0)).bind fun b17=>bif b17 then (E.call 13 [(.d (.sl 4 l10)),(.d (.sl 4 l14))]).bind fun p18=>(opB (A.cell p18.leaves 0)).bind fun b20=>bif b20 then (E.call 7 [(.agg [(.d (.int .i64 f_0)),(.d (.int .i64 f_1)),(.d (.int .i64 f_2))])]).bind fun p21=>(opS (A.cell p21.leaves 0)).bind fun s23=>(E.call 14 [(.agg [(.d (.int .i64 f_0)),(.d (.int .i64 f_1)),(.d (.int .i64 f_2))])]).bind fun p24=>(opS (A.cell p24.leaves 0)).bind fun s26=>bif (A.seq s23 s26)then (E.call 5 []).bind fun p27=>(opB (A.cell p27.leaves 0)).bind fun b29=>some (.val [(.bool b29)]) else some (.val [(.bool false)]) else some (.val [(.bool false)]) else some (.val [(.bool false)])
theorem g4_eq (A:Sy)(E:Env)(p_0 p_1:List (List D))(f_0 f_1 f_2:Int):(funT A Tryz.prog cs 4 [.agg [.d (.sl 2 p_0),V.d (.sl 5 p_1)],V.agg [.d (.int .i64 f_0),V.d (.int .i64 f_1),V.d (.int .i64 f_2)]]).run E=g4 A E p_0 p_1 f_0 f_1 f_2:=by kernel_rfl
def g3 (A:Sy)(E:Env)(s_:ByteArray):Option PRes:=bif (A.ilt 2500 (A.slen s_))then (E.call 5 []).bind fun p1=>(opB (A.cell p1.leaves 0)).bind fun b3=>some (.val [(.bool b3)]) else (E.call 6 [(.d (.str s_))]).bind fun p4=>(opL (A.cell p4.leaves 0) 2).bind fun l6=>(opL (A.cell p4.leaves 1) 5).bind fun l7=>(opI (A.cell p4.leaves 2) .i64).bind fun n8=>(opI (A.cell p4.leaves 3) .i64).bind fun n9=>(opI (A.cell p4.leaves 4) .i64).bind fun n10=>(opI (A.cell p4.leaves 5) .i64).bind fun n11=>bif (A.bnot (A.deq [(.int .i64 n9),(.int .i64 n10),(.int .i64 n11)] [(.int .i64 0),(.int .i64 0),(.int .i64 0)]))then cutO (bif (A.ieq (A.rlen l7) 0)then (E.call 7 [(.agg [(.d (.int .i64 n9)),(.d (.int .i64 n10)),(.d (.int .i64 n11))])]).bind fun p12=>(opS (A.cell p12.leaves 0)).bind fun s14=>some (.inl [(.bool (A.bnot (A.seq s14 (bs [111,107]))))]) else some (.inl [(.bool false)])) fun ds15=>(opB (A.cell ds15 0)).bind fun b16=>cutO (bif b16 then (E.call 5 []).bind fun p17=>(opB (A.cell p17.leaves 0)).bind fun b19=>some (.inl [(.bool b19)]) else some (.inl [(.bool false)])) fun ds20=>(opB (A.cell ds20 0)).bind fun b21=>some (.val [(.bool b21)]) else (E.call 8 [(.agg [(.d (.sl 2 l6)),(.d (.sl 5 l7))])]).bind fun p22=>(opS (A.cell p22.leaves 0)).bind fun s24=>bif (A.ilt 6000 (A.slen s24))then (E.call 5 []).bind fun p25=>(opB (A.cell p25.leaves 0)).bind fun b27=>some (.val [(.bool b27)]) else (E.call 6 [(.d (.str s24))]).bind fun p28=>(opL (A.cell p28.leaves 0) 2).bind fun l30=>(opL (A.cell p28.leaves 1) 5).bind fun l31=>(opI (A.cell p28.leaves 2) .i64).bind fun n32=>(opI (A.cell p28.leaves 3) .i64).bind fun n33=>(opI (A.cell p28.leaves 4) .i64).bind fun n34=>(opI (A.cell p28.leaves 5) .i64).bind fun n35=>cutO (bif (A.ilt 0 (A.rlen l7))then (E.call 9 [(.agg [(.d (.sl 2 l6)),(.d (.sl 5 l7))]),(.agg [(.d (.sl 2 l30)),(.d (.sl 5 l31))])]).bind fun p36=>(opB (A.cell p36.leaves 0)).bind fun b38=>some (.inl [(.bool b38)]) else some (.inl [(.bool false)])) fun ds39=>(opB (A.cell ds39 0)).bind fun b40=>cutO (bif b40 then some (.inl [(.bool (A.ieq n32 (A.slen s24)))]) else some (.inl [(.bool false)])) fun ds41=>(opB (A.cell ds41 0)).bind fun b42=>cutO (bif b42 then some (.inl [(.bool (A.deq [(.int .i64 n33),(.int .i64 n34),(.int .i64 n35)] [(.int .i64 n9),(.int .i64 n10),(.int .i64 n11)]))]) else some (.inl [(.bool false)])) fun ds43=>(opB (A.cell ds43 0)).bind fun b44=>cutO (bif b44 then (E.call 7 [(.agg [(.d (.int .i64 n9)),(.d (.int .i64 n10)),(.d (.int .i64 n11))])]).bind fun p45=>(opS (A.cell p45.leaves 0)).bind fun s47=>some (.inl [(.bool (A.seq s47 (bs [111,107])))]) else some (.inl [(.bool false)])) fun ds48=>(opB (A.cell ds48 0)).bind fun b49=>cutO (bif b49 then (E.call 5 []).bind fun p50=>(opB (A.cell p50.leaves 0)).bind fun b52=>some (.inl [(.bool b52)]) else some (.inl [(.bool false)])) fun ds53=>(opB (A.cell ds53 0)).bind fun b54=>some (.val [(.bool b54)])
def g17 (A:Sy)(E:Env)(i_:Int):Option PRes:=(E.call 36 [(.d (.int .i64 i_))]).bind fun p1=>(opS (A.cell p1.leaves 0)).bind fun s3=>some (.val [(.str s3)])
theorem g17_eq (A:Sy)(E:Env)(i_:Int):(funT A Tryz.prog cs 17 [.d (.int .i64 i_)]).run E=g17 A E i_:=by kernel_rfl
def g36 (A:Sy)(E:Env)(i_:Int):Option PRes:=(E.call 73 [(.d (.int .i64 i_)),(.d (.int .i64 10))]).bind fun p1=>(opS (A.cell p1.leaves 0)).bind fun s3=>some (.val [(.str s3)])
theorem g36_eq (A:Sy)(E:Env)(i_:Int):(funT A Tryz.prog cs 36 [.d (.int .i64 i_)]).run E=g36 A E i_:=by kernel_rfl
def g26_27 (A:Sy)(E:Env)(s:List (List D)):Option PRes:=E.lp (fun ds1=>(opL (A.cell ds1 0) 6).bind fun l2=>(opI (A.cell ds1 1) .i64).bind fun n3=>(opI (A.cell ds1 2) .i64).bind fun n4=>(opL (A.cell ds1 3) 4).bind fun l5=>bif (A.ilt n4 n3)then bif (A.inr n4 (A.rlen l2))then oD A (A.row l2 n4) 0 fun s6 n7 n8 n9 s10 s11=>(E.call 27 [(.agg [(.d (.str s6)),(.d (.int .i64 n7)),(.d (.int .i64 n8)),(.d (.int .i64 n9)),(.d (.str s10)),(.d (.str s11))])]).bind fun p12=>(opS (A.cell p12.leaves 0)).bind fun s14=>(opI (A.cell p12.leaves 1) .i64).bind fun n15=>(opI (A.cell p12.leaves 2) .i64).bind fun n16=>(opI (A.cell p12.leaves 3) .i64).bind fun n17=>bif (A.fits l5 [[(.str s14),(.int .i64 n15),(.int .i64 n16),(.int .i64 n17)]] 40)then some (.inl [(.sl 6 l2),(.int .i64 n3),(.int .i64 (A.wrap .i64 (A.add n4 1))),(.sl 4 (A.rapp l5 [[(.str s14),(.int .i64 n15),(.int .i64 n16),(.int .i64 n17)]]))]) else none else none else some (.inr (.own 72 4 l5))) [(.sl 6 s),(.int .i64 (A.rlen s)),(.int .i64 0),(.sl 4 [])]
theorem g26_27_eq (A:Sy)(E:Env)(s:List (List D)):(funT A Tryz.prog cs 26 [.d (.sl 6 s), .fn 27 []]).run E=g26_27 A E s:=by kernel_rfl
def g27 (A:Sy)(E:Env)(d_0:ByteArray)(d_1 d_2 d_3:Int)(d_4 d_5:ByteArray):Option PRes:=some (.val [(.str d_0),(.int .i64 d_1),(.int .i64 d_2),(.int .i64 d_3)])
theorem g27_eq (A:Sy)(E:Env)(d_0:ByteArray)(d_1 d_2 d_3:Int)(d_4 d_5:ByteArray):(funT A Tryz.prog cs 27 [.agg [.d (.str d_0),V.d (.int .i64 d_1),V.d (.int .i64 d_2),V.d (.int .i64 d_3),V.d (.str d_4),V.d (.str d_5)]]).run E=g27 A E d_0 d_1 d_2 d_3 d_4 d_5:=by kernel_rfl
end
noncomputable section
def g29 (A:Sy)(E:Env)(n_:Int):Option PRes:=bif (A.ilt n_ 0)then E.lp (fun ds1=>(opI (A.cell ds1 0) .i64).bind fun n2=>(opI (A.cell ds1 1) .u64).bind fun n3=>(opS (A.cell ds1 2)).bind fun s4=>cutO (bif (A.ilt 0 n3)then some (.inl [(.bool true)]) else some (.inl [(.bool (A.seq s4 (bs [])))])) fun ds5=>(opB (A.cell ds5 0)).bind fun b6=>bif b6 then bif (A.bnot (A.ieq 10 0))then bif (A.isby [[(.int .u8 (A.wrap .u8 (A.wrap .u64 (A.add 48 (A.rem n3 10)))))]])then bif (A.sfit (A.bstr [[(.int .u8 (A.wrap .u8 (A.wrap .u64 (A.add 48 (A.rem n3 10)))))]]) s4)then bif (A.bnot (A.ieq 10 0))then some (.inl [(.int .i64 n2),(.int .u64 (A.wrap .u64 (A.quo n3 10))),(.str (A.sapp (A.bstr [[(.int .u8 (A.wrap .u8 (A.wrap .u64 (A.add 48 (A.rem n3 10)))))]]) s4))]) else none else none else none else none else bif (A.ilt n2 0)then bif (A.sfit (bs [45]) s4)then some (.inr (.val [(.str (A.sapp (bs [45]) s4))])) else none else some (.inr (.val [(.str s4)]))) [(.int .i64 n_),(.int .u64 (A.wrap .u64 (A.sub 0 (A.wrap .u64 n_)))),(.str (bs []))] else E.lp (fun ds7=>(opI (A.cell ds7 0) .i64).bind fun n8=>(opI (A.cell ds7 1) .u64).bind fun n9=>(opS (A.cell ds7 2)).bind fun s10=>cutO (bif (A.ilt 0 n9)then some (.inl [(.bool true)]) else some (.inl [(.bool (A.seq s10 (bs [])))])) fun ds11=>(opB (A.cell ds11 0)).bind fun b12=>bif b12 then bif (A.bnot (A.ieq 10 0))then bif (A.isby [[(.int .u8 (A.wrap .u8 (A.wrap .u64 (A.add 48 (A.rem n9 10)))))]])then bif (A.sfit (A.bstr [[(.int .u8 (A.wrap .u8 (A.wrap .u64 (A.add 48 (A.rem n9 10)))))]]) s10)then bif (A.bnot (A.ieq 10 0))then some (.inl [(.int .i64 n8),(.int .u64 (A.wrap .u64 (A.quo n9 10))),(.str (A.sapp (A.bstr [[(.int .u8 (A.wrap .u8 (A.wrap .u64 (A.add 48 (A.rem n9 10)))))]]) s10))]) else none else none else none else none else bif (A.ilt n8 0)then bif (A.sfit (bs [45]) s10)then some (.inr (.val [(.str (A.sapp (bs [45]) s10))])) else none else some (.inr (.val [(.str s10)]))) [(.int .i64 n_),(.int .u64 (A.wrap .u64 n_)),(.str (bs []))]
theorem g29_eq (A:Sy)(E:Env)(n_:Int):(funT A Tryz.prog cs 29 [.d (.int .i64 n_)]).run E=g29 A E n_:=by kernel_rfl
end
end Go.Vm
end
section
set_option maxRecDepth 100000
set_option maxHeartbeats 4000000
namespace Go.Vm
open Go.Proofs

structure T where
 k:Int
 b:List Nat
 n:Int
def T.w (t:T):List Nat:=if t.k=4 then 39::(t.b++[39])else t.b
def ajB (t:T)(d:Nat):Bool:=if t.k=4 then true else if t.k=5 then(match t.b with
 | [c]=> !twoN.contains [c,d]&& !(decide (c=45)&&decide (d=45))
 |_=>true)else !innerN d
structure TokIs (s:ByteArray) (t:T):Prop where
 k:(nextT0 s).k=t.k
 b:tb (nextT0 s).s=t.b
 n:(nextT0 s).n=t.n
 w:(nextT0 s).w=t.w.length
 ok:(nextT0 s).ok=true
def render:List (Option T)→List Nat
 | []=>[]
 |none::r=>32::render r
 |some t::r=>t.w++render r
def hd (d:Nat)(r:List (Option T)):Nat:=(render r++[d]).getD 0 0
def chain (d:Nat):List (Option T)→Bool
 | []=>true
 |none::r=>chain d r
 |some t::r=>ajB t (hd d r)&&chain d r
abbrev Pc:=List (Option T)
def mk (c:Nat):Option T:=some ⟨5,[c],0⟩
def m2 (c d:Nat):Option T:=some ⟨5,[c,d],0⟩
def wd (b:List Nat):Option T:=some ⟨1,b,0⟩
def digN (n:Nat):List Nat:=if h:n < 10 then[48+n]else digN (n / 10)++[48+n % 10]
 termination_by n
 decreasing_by omega
mutual
def Ex.rng:Ex→Prop
 | .mk _ n _ _ _ u=>n < 9223372036854775808∧Ex.rngs u
def Ex.rngs:List Ex→Prop
 | []=>True
 |e::l=>e.rng∧Ex.rngs l
end
theorem bs_sz (l:List UInt8):(bs l).size=l.length:=rfl
theorem sfT {a b:ByteArray}(h:a.size+b.size≤9223372036854775807):sy.sfit a b=true:=decide_eq_true h
theorem tb_bstr (c:Nat)(h:c < 256):tb (sy.bstr [[.int .u8 (c:Int)]])= [c]:=by
 show tb (bstrR [[.int .u8 (c:Int)]])= [c]
 unfold bstrR
 simp only [List.map_cons,List.map_nil,byN,Option.getD_some]
 unfold strOfNums
 show[(UInt8.ofNat (c:Int).toNat).toNat]= [c]
 rw[Int.toNat_natCast,UInt8.toNat_ofNat']
 simp;omega
theorem bstr_sz (c:Nat):(sy.bstr [[.int .u8 (c:Int)]]).size=1:=rfl
def tailD (q:Nat):List Nat:=if q=0 then[]else digN q
theorem digN_step (q:Nat)(h:0 < q):digN q=tailD (q / 10)++[48+q % 10]:=by
 rw[digN.eq_def]
 split
 ·rename_i h1
  unfold tailD
  rw[if_pos (by omega),Nat.mod_eq_of_lt h1];rfl
 ·unfold tailD
  rw[if_neg (by omega)]
theorem u64_id {a:Int}(h0:0≤a)(h:a < 18446744073709551616):IntKind.u64.wrap a=a:=by
 show a % _=a
 exact Int.emod_eq_of_lt h0 h
theorem u8_id {a:Int}(h0:0≤a)(h:a < 256):IntKind.u8.wrap a=a:=by
 show a % _=a
 exact Int.emod_eq_of_lt h0 h
def sgnZ (z:Int):List Nat:=if z < 0 then[45]else[]
def digZ (z:Int):List Nat:=sgnZ z++digN z.natAbs
theorem c_dgL (z:Int)(n:Nat)(hn:n < 18446744073709551616): ∃p,loopF (fun ds7=>
  (opI (sy.cell ds7 0) .i64).bind fun n8=>
  (opI (sy.cell ds7 1) .u64).bind fun n9=>
  (opS (sy.cell ds7 2)).bind fun s10=>
  cutO (
   bif (sy.ilt 0 n9)then some (.inl [(.bool true)])
   else some (.inl [(.bool (sy.seq s10 (bs [])))])) fun ds11=>
  (opB (sy.cell ds11 0)).bind fun b12=>
  bif b12 then
   bif (sy.bnot (sy.ieq 10 0))then
    bif (sy.isby [[(.int .u8 (sy.wrap .u8 (sy.wrap .u64 (sy.add 48 (sy.rem n9 10)))))]])then
     bif (sy.sfit (sy.bstr [[(.int .u8 (sy.wrap .u8 (sy.wrap .u64 (sy.add 48 (sy.rem n9 10)))))]]) s10)then
      bif (sy.bnot (sy.ieq 10 0))then
       some (.inl [(.int .i64 n8),(.int .u64 (sy.wrap .u64 (sy.quo n9 10))),(.str (sy.sapp (sy.bstr [[(.int .u8 (sy.wrap .u8 (sy.wrap .u64 (sy.add 48 (sy.rem n9 10)))))]]) s10))])
      else none
     else none
    else none
   else none
  else
   bif (sy.ilt n8 0)then
    bif (sy.sfit (bs [45]) s10)then some (.inr (PRes.val [(.str (sy.sapp (bs [45]) s10))]))else none
   else some (.inr (PRes.val [(.str s10)]))) [(.int .i64 z),(.int .u64 (n:Int)),(.str (bs []))]=some p∧ ∃s,p= .val [.str s]∧tb s=sgnZ z++digN n∧s.size≤100:=by
 refine loopF_ex (fun x:Nat × ByteArray=>[.int .i64 z, .int .u64 (x.1:Int), .str x.2]) (fun x=>(x.2=bs []∧x.1=n∨0 < x.2.size∧digN n=tailD x.1++tb x.2)∧x.1 < 10 ^ (20 - x.2.size)∧x.2.size≤20) (fun x=>x.1*2+(if x.2.size=0 then 1 else 0)) (fun x hx=> ?_) (n,bs []) ⟨.inl ⟨rfl,rfl⟩,by show n < 10 ^ 20;omega,by show 0≤20;omega⟩
 obtain⟨q,s⟩:=x
 obtain⟨h1,h2,h3⟩:=hx
 simp only at h1 h2 h3 ⊢
 have hs0:(s.toList == (bs []).toList)=decide (s.size=0):=by
  rw[seq_tb]
  refine dec_iff ⟨fun h=> ?_,fun h=> ?_⟩
  ·have:=congrArg List.length h
   rw[tb_len]at this
   exact this
  ·exact List.length_eq_zero_iff.1 (by rw[tb_len];exact h)
 by_cases hq:0 < q∨s.size=0
 ·left
  have hqq:(q:Int) < 18446744073709551616:=by
   have:10 ^ (20 - s.size)≤10 ^ 20:=Nat.pow_le_pow_right (by omega) (by omega)
   have h20:(10:Nat) ^ 20=100000000000000000000:=by decide
   rcases h1 with⟨_,h⟩|⟨hp,_⟩
   ·omega
   ·have:10 ^ (20 - s.size)≤10 ^ 19:=Nat.pow_le_pow_right (by omega) (by omega)
    have h19:(10:Nat) ^ 19=10000000000000000000:=by decide
    omega
  have hr:sy.rem (q:Int) 10=((q % 10:Nat):Int):=by
   show Int.tmod (q:Int) 10=_
   rw[Int.tmod_eq_emod_of_nonneg (by omega)];omega
  have hd:sy.quo (q:Int) 10=((q / 10:Nat):Int):=by
   show Int.tdiv (q:Int) 10=_
   rw[Int.tdiv_eq_ediv_of_nonneg (by omega)];omega
  have hw:IntKind.u8.wrap (IntKind.u64.wrap (48+((q % 10:Nat):Int)))=((48+q % 10:Nat):Int):=by
   rw[u64_id (by omega) (by omega),u8_id (by omega) (by omega)];omega
  have hw2:IntKind.u64.wrap ((q / 10:Nat):Int)=((q / 10:Nat):Int):=u64_id (by omega) (by omega)
  have hby:sy.isby [[.int .u8 ((48+q % 10:Nat):Int)]]=true:=rfl
  have hsf:sy.sfit (sy.bstr [[.int .u8 ((48+q % 10:Nat):Int)]]) s=true:=sfT (by rw[bstr_sz];omega)
  have hb:(decide ((0:Int) < (q:Int)) || (s.toList == (bs []).toList))=true:=by
   rw[hs0]
   by_cases h:0 < q
   ·rw[decide_eq_true (by omega)];rfl
   ·rw[decide_eq_true (show s.size=0 by omega),Bool.or_true]
  refine⟨(q / 10,sy.bstr [[.int .u8 ((48+q % 10:Nat):Int)]]++s),?_,⟨.inr ⟨?_,?_⟩,?_,?_⟩,?_⟩
  ·simp only [go1,Option.bind_some,eq_self,cond_true,cond_false]
   rw[hb]
   simp only [go1,show decide ((10:Int)=0)=false from rfl,hr,hd,hw,hw2,hby,hsf]
  ·show 0 < (sy.bstr [[.int .u8 ((48+q % 10:Nat):Int)]]++s).size
   rw[ByteArray.size_append,bstr_sz];omega
  ·show digN n=tailD (q / 10)++tb (sy.bstr [[.int .u8 ((48+q % 10:Nat):Int)]]++s)
   rw[tb_app,tb_bstr _ (by omega)]
   rcases h1 with⟨hs,hqn⟩|⟨hp,he⟩
   ·subst hs
    subst hqn
    show digN q=tailD (q / 10)++([48+q % 10]++[])
    rw[List.append_nil]
    by_cases h0:0 < q
    ·exact digN_step q h0
    ·have:q=0:=by omega
     subst this
     rw[digN.eq_def,dif_pos (by omega)];rfl
   ·have h0:0 < q:=by omega
    rw[he]
    show tailD q++tb s=_
    rw[show tailD q=digN q by unfold tailD;rw[if_neg (by omega)],digN_step q h0,List.append_assoc]
  ·show q / 10 < 10 ^ (20 - (sy.bstr [[.int .u8 ((48+q % 10:Nat):Int)]]++s).size)
   rw[ByteArray.size_append,bstr_sz]
   by_cases h20:s.size=20
   ·rw[h20]at h2
    have:q < 1:=h2
    have:q=0:=by omega
    omega
   ·have e:20 - s.size=(20 - (1+s.size))+1:=by omega
    rw[e,Nat.pow_succ]at h2
    omega
  ·show(sy.bstr [[.int .u8 ((48+q % 10:Nat):Int)]]++s).size≤20
   rw[ByteArray.size_append,bstr_sz]
   by_cases h20:s.size=20
   ·rw[h20]at h2
    have:q < 1:=h2
    omega
   ·omega
  ·show q / 10*2+(if(sy.bstr [[.int .u8 ((48+q % 10:Nat):Int)]]++s).size=0 then 1 else 0) < q*2+(if s.size=0 then 1 else 0)
   rw[ByteArray.size_append,bstr_sz,if_neg (by omega)]
   split<;>omega
 ·right
  have hb:(decide ((0:Int) < (q:Int)) || (s.toList == (bs []).toList))=false:=by
   rw[hs0,decide_eq_false (by omega: ¬(0:Int) < (q:Int)),decide_eq_false (by omega: ¬s.size=0)];rfl
  have hf:digN n=tb s:=by
   rcases h1 with⟨hs,_⟩|⟨hp,he⟩
   ·subst hs
    exact absurd (.inr rfl) hq
   ·have:q=0:=by omega
    subst this
    exact he
  by_cases hz:z < 0
  ·refine⟨.val [.str (bs [45]++s)],?_,_,rfl,?_,by rw[ByteArray.size_append,bs_sz];simp only [List.length_cons,List.length_nil];omega⟩
   ·simp only [go1,Option.bind_some,eq_self,cond_true,cond_false]
    rw[hb]
    simp only [go1,decide_eq_true hz,show sy.sfit (bs [45]) s=true from sfT (by rw[bs_sz];simp only [List.length_cons,List.length_nil];omega)]
   ·rw[tb_app,hf];unfold sgnZ;rw[if_pos hz];rfl
  ·refine⟨.val [.str s],?_,s,rfl,?_,by omega⟩
   ·simp only [go1,Option.bind_some,eq_self,cond_true,cond_false]
    rw[hb]
    simp only [go1,decide_eq_false hz]
   ·rw[hf];unfold sgnZ;rw[if_neg hz];rfl
theorem c_rDigZ (z:Int)(h0: -9223372036854775808≤z)(h1:z≤9223372036854775807): ∃s,cF 29 [.d (.int .i64 z)]=some (.val [.str s])∧tb s=digZ z∧s.size≤100:=by
 obtain⟨p,hp,s,rfl,h2,h3⟩:=c_dgL z z.natAbs (by omega)
 refine⟨s,?_,h2,h3⟩
 refine cOf (by kernel_rfl) rfl ?_
 rw[g29_eq]
 unfold g29
 by_cases hz:z < 0
 ·have e:IntKind.u64.wrap (0 - IntKind.u64.wrap z)=(z.natAbs:Int):=by
   show(0 - z % _) % _=_
   simp only [IntKind.bits]
   omega
  rw[sy_ilt,decide_eq_true hz]
  simp only [cond_true]
  simp only [sy_wrap,sy_sub]
  rw[e]
  exact hp
 ·have e:IntKind.u64.wrap z=(z.natAbs:Int):=by rw[u64_id (by omega) (by omega)];omega
  rw[sy_ilt,decide_eq_false hz]
  simp only [cond_false]
  simp only [sy_wrap]
  rw[e]
  exact hp
theorem tb_mk (l:List UInt8):tb ⟨l.toArray⟩=l.map UInt8.toNat:=by simp [tb]
theorem dec_digN: ∀(m u:Nat),u≤m→(Lib.decDigits u).map UInt8.toNat=digN u
 |m,u,h=>by
  rw[Lib.decDigits,digN]
  by_cases h1:u < 10
  ·rw[dif_pos h1,dif_pos h1]
   have:(UInt8.ofNat (48+u)).toNat=48+u:=by rw[UInt8.toNat_ofNat'];omega
   rw[List.map_cons,List.map_nil,this]
  ·rw[dif_neg h1,dif_neg h1]
   cases m with
   |zero=>omega
   |succ m=>
    have:(UInt8.ofNat (48+u % 10)).toNat=48+u % 10:=by rw[UInt8.toNat_ofNat'];omega
    rw[List.map_append,dec_digN m (u / 10) (by omega),List.map_cons,List.map_nil,this]
theorem digN_small: ∀(k n:Nat),1≤k→n < 10 ^ k→(digN n).length≤k
 |0,n,h,_=>by omega
 |k+1,n,_,h=>by
  rw[digN.eq_def]
  split
  ·simp
  ·rename_i h1
   have hk:1≤k:=by
    rcases Nat.eq_zero_or_pos k with h0|h0
    ·subst h0;omega
    ·exact h0
   have:=digN_small k (n / 10) hk (by rw[Nat.pow_succ]at h;omega)
   simp only [List.length_append,List.length_singleton];omega
theorem tb_itoaZ (z:Int):tb ⟨(Lib.itoa z).toArray⟩=digZ z:=by
 rw[tb_mk]
 unfold Lib.itoa digZ sgnZ
 by_cases hz:z < 0
 ·rw[if_pos hz,if_pos hz,List.map_cons,dec_digN _ _ (Nat.le_refl _)];rfl
 ·rw[if_neg hz,if_neg hz,dec_digN _ _ (Nat.le_refl _),show z.toNat=z.natAbs by omega];rfl
theorem c_FmtZ (z:Int)(h0: -9223372036854775808≤z)(h1:z≤9223372036854775807):cF 73 [.d (.int .i64 z), .d (.int .i64 10)]=some (.val [.str ⟨(Lib.itoa z).toArray⟩]):=callF_known (by
 rw[show kn 73 [.d (.int .i64 z), .d (.int .i64 10)]=knI [.d (.int .i64 z), .d (.int .i64 10)]from rfl]
 simp only [knI]
 rw[decide_eq_true ⟨trivial,h0,h1⟩])
theorem c_Itoa (z:Int)(h0: -9223372036854775808≤z)(h1:z≤9223372036854775807): ∃s,cF 17 [.d (.int .i64 z)]=some (.val [.str s])∧tb s=digZ z∧s.size≤100:=by
 have h2:cF 36 [.d (.int .i64 z)]=some (.val [.str ⟨(Lib.itoa z).toArray⟩]):=by
  have h:=c_FmtZ z h0 h1
  refine cOf (by kernel_rfl) rfl ?_
  rw[g36_eq]
  simp only [g36,eF_call,h]
  rfl
 refine⟨⟨(Lib.itoa z).toArray⟩,?_,tb_itoaZ z,?_⟩
 ·refine cOf (by kernel_rfl) rfl ?_
  rw[g17_eq]
  simp only [g17,eF_call,h2]
  rfl
 ·rw[←tb_len,tb_itoaZ]
  have:=digN_small 20 z.natAbs (by omega) (by have:(10:Nat) ^ 20=100000000000000000000:=by decide
                                              omega)
  unfold digZ sgnZ
  split<;>simp only [List.length_append,List.length_cons,List.length_nil]<;>omega
def I64 (n:Int):Prop:= -9223372036854775808≤n∧n≤9223372036854775807
def whereT (n e x:Int):List Nat:=bif decide (n=0∧e=0∧x=0)then[111,107]else
 [101,114,114,111,114,32]++digZ x++[32,97,116,32]++digZ n++bif decide (e < 0)then[]else[46]++digZ e
theorem deq3 (n e x:Int):sy.deq [.int .i64 n, .int .i64 e, .int .i64 x] [.int .i64 0, .int .i64 0, .int .i64 0]=decide (n=0∧e=0∧x=0):=by
 show(n == 0&&(e == 0&&(x == 0&&true)))=_
 rw[Bool.and_true]
 by_cases h:n=0∧e=0∧x=0
 ·obtain⟨rfl,rfl,rfl⟩:=h;rfl
 ·rw[decide_eq_false h]
  cases h1:(n == 0&&(e == 0&&x == 0))with
  |false=>rfl
  |true=>simp only [Bool.and_eq_true,beq_iff_eq]at h1;exact absurd h1 h
theorem c_Where (n e x:Int)(hn:I64 n)(he:I64 e)(hx:I64 x): ∃s,cF 7 [.agg [.d (.int .i64 n), .d (.int .i64 e), .d (.int .i64 x)]]=some (.val [.str s])∧tb s=whereT n e x:=by
 obtain⟨s3,c1,t1,z1⟩:=c_Itoa x hx.1 hx.2
 obtain⟨s6,c2,t2,z2⟩:=c_Itoa n hn.1 hn.2
 obtain⟨s9,c3,t3,z3⟩:=c_Itoa e he.1 he.2
 have q1:sy.sfit (bs [101,114,114,111,114,32]) s3=true:=sfT (by simp only [ByteArray.size_append,bs_sz,List.length_cons,List.length_nil];omega)
 have q2:sy.sfit (bs [101,114,114,111,114,32]++s3) (bs [32,97,116,32])=true:=sfT (by simp only [ByteArray.size_append,bs_sz,List.length_cons,List.length_nil];omega)
 have q3:sy.sfit (bs [101,114,114,111,114,32]++s3++bs [32,97,116,32]) s6=true:=sfT (by simp only [ByteArray.size_append,bs_sz,List.length_cons,List.length_nil];omega)
 have q4:sy.sfit (bs [101,114,114,111,114,32]++s3++bs [32,97,116,32]++s6) (bs [46])=true:=sfT (by simp only [ByteArray.size_append,bs_sz,List.length_cons,List.length_nil];omega)
 have q5:sy.sfit (bs [101,114,114,111,114,32]++s3++bs [32,97,116,32]++s6++bs [46]) s9=true:=sfT (by simp only [ByteArray.size_append,bs_sz,List.length_cons,List.length_nil];omega)
 have hd:=deq3 n e x
 unfold whereT
 cases h0:decide (n=0∧e=0∧x=0)with
 |true=>
  rw[h0]at hd
  refine⟨bs [111,107],cOf (by kernel_rfl) rfl ?_,rfl⟩
  rw[g7_eq]
  simp only [g7,hd,cond_true]
 |false=>
  rw[h0]at hd
  by_cases h1:e < 0
  ·refine⟨bs [101,114,114,111,114,32]++s3++bs [32,97,116,32]++s6,cOf (by kernel_rfl) rfl ?_,?_⟩
   ·rw[g7_eq]
    simp only [g7,hd,go1,c1,c2,c3,q1,q2,q3,q4,q5,decide_eq_true h1]
   ·simp only [tb_app,t1,t2,t3,decide_eq_true h1,cond_true,cond_false,List.append_nil];rfl
  ·refine⟨bs [101,114,114,111,114,32]++s3++bs [32,97,116,32]++s6++bs [46]++s9,cOf (by kernel_rfl) rfl ?_,?_⟩
   ·rw[g7_eq]
    simp only [g7,hd,go1,c1,c2,c3,q1,q2,q3,q4,q5,decide_eq_false h1]
   ·simp only [tb_app,t1,t2,t3,decide_eq_false h1,cond_true,cond_false,List.append_assoc];rfl
theorem c_rWhere (n e x:Int)(hn:I64 n)(he:I64 e)(hx:I64 x): ∃s,cF 14 [.agg [.d (.int .i64 n), .d (.int .i64 e), .d (.int .i64 x)]]=some (.val [.str s])∧tb s=whereT n e x:=by
 obtain⟨s3,c1,t1,z1⟩:=c_rDigZ x hx.1 hx.2
 obtain⟨s6,c2,t2,z2⟩:=c_rDigZ n hn.1 hn.2
 obtain⟨s9,c3,t3,z3⟩:=c_rDigZ e he.1 he.2
 have q1:sy.sfit (bs [101,114,114,111,114,32]) s3=true:=sfT (by simp only [ByteArray.size_append,bs_sz,List.length_cons,List.length_nil];omega)
 have q2:sy.sfit (bs [101,114,114,111,114,32]++s3) (bs [32,97,116,32])=true:=sfT (by simp only [ByteArray.size_append,bs_sz,List.length_cons,List.length_nil];omega)
 have q3:sy.sfit (bs [101,114,114,111,114,32]++s3++bs [32,97,116,32]) s6=true:=sfT (by simp only [ByteArray.size_append,bs_sz,List.length_cons,List.length_nil];omega)
 have q4:sy.sfit (bs [101,114,114,111,114,32]++s3++bs [32,97,116,32]++s6) (bs [46])=true:=sfT (by simp only [ByteArray.size_append,bs_sz,List.length_cons,List.length_nil];omega)
 have q5:sy.sfit (bs [101,114,114,111,114,32]++s3++bs [32,97,116,32]++s6++bs [46]) s9=true:=sfT (by simp only [ByteArray.size_append,bs_sz,List.length_cons,List.length_nil];omega)
 have hd:=deq3 n e x
 unfold whereT
 cases h0:decide (n=0∧e=0∧x=0)with
 |true=>
  rw[h0]at hd
  refine⟨bs [111,107],cOf (by kernel_rfl) rfl ?_,rfl⟩
  rw[g14_eq]
  simp only [g14,hd,cond_true]
 |false=>
  rw[h0]at hd
  by_cases h1:e < 0
  ·refine⟨bs [101,114,114,111,114,32]++s3++bs [32,97,116,32]++s6,cOf (by kernel_rfl) rfl ?_,?_⟩
   ·rw[g14_eq]
    simp only [g14,hd,go1,c1,c2,c3,q1,q2,q3,q4,q5,decide_eq_false (show ¬0≤e by omega)]
   ·simp only [tb_app,t1,t2,t3,decide_eq_true h1,cond_true,cond_false,List.append_nil];rfl
  ·refine⟨bs [101,114,114,111,114,32]++s3++bs [32,97,116,32]++s6++bs [46]++s9,cOf (by kernel_rfl) rfl ?_,?_⟩
   ·rw[g14_eq]
    simp only [g14,hd,go1,c1,c2,c3,q1,q2,q3,q4,q5,decide_eq_true (show 0≤e by omega)]
   ·simp only [tb_app,t1,t2,t3,decide_eq_false h1,cond_true,cond_false,List.append_assoc];rfl
theorem where_same (n e x:Int)(hn:I64 n)(he:I64 e)(hx:I64 x): ∃s,cF 7 [.agg [.d (.int .i64 n), .d (.int .i64 e), .d (.int .i64 x)]]=some (.val [.str s])∧cF 14 [.agg [.d (.int .i64 n), .d (.int .i64 e), .d (.int .i64 x)]]=some (.val [.str s])∧tb s=whereT n e x:=by
 obtain⟨s,h1,t1⟩:=c_Where n e x hn he hx
 obtain⟨u,h2,t2⟩:=c_rWhere n e x hn he hx
 rw[tb_inj (t2.trans t1.symm)]at h2
 exact⟨s,h1,h2,t1⟩
def prow (d:Dc):List D:=[.str d.n, .int .i64 d.k, .int .i64 d.e, .int .i64 d.c]
def prows (l:List Dc):List (List D):=l.map prow
theorem prows_len (l:List Dc):(prows l).length=l.length:=by simp [prows]
theorem prows_snoc (l:List Dc)(d:Dc):prows (l++[d])=prows l++[prow d]:=by simp [prows]
theorem c_port (d:Dc):cF 27 [.agg [.d (.str d.n), .d (.int .i64 d.k), .d (.int .i64 d.e), .d (.int .i64 d.c), .d (.str d.o), .d (.str d.q)]]=some (.val (prow d)):=by
 refine cOf (by kernel_rfl) rfl ?_
 rw[g27_eq]
 simp only [g27,go1,Nat.reduceAdd,Int.reduceEq,Int.reduceLT,Int.reduceLE,Int.reduceSub,Int.reduceAdd]
 rfl
theorem c_each (l:List Dc)(h:l.length≤1000000):cF 26 [.d (.sl 6 (drows l)), .fn 27 []]=some (.own 72 4 (prows l)):=by
 refine cOf (by kernel_rfl) rfl ?_
 rw[g26_27_eq]
 simp only [g26_27,go1,Nat.reduceAdd,Int.reduceEq,Int.reduceLT,Int.reduceLE,Int.reduceSub,Int.reduceAdd,drows_len]
 refine rep_loop2 l.length (fun i=>[.sl 6 (drows l), .int .i64 (l.length:Int), .int .i64 (i:Int), .sl 4 (prows (l.take i))]) rfl (fun i hlt=> ?_) ?_
 ·have hx:=List.getElem?_eq_getElem hlt
  have hf:=fitsR (prows (l.take i)) [prow l[i]] 40 (by rw[prows_len,List.length_take];simp only [List.length_cons,List.length_nil];omega)
  have hp:=c_port l[i]
  rw[List.take_add_one,hx,Option.toList_some,prows_snoc]
  simp only [go1,Nat.reduceAdd,Int.reduceEq,Int.reduceLT,Int.reduceLE,Int.reduceSub,Int.reduceAdd,List.length_cons,List.length_nil,prow]at hf
  simp only [go1,Nat.reduceAdd,Int.reduceEq,Int.reduceLT,Int.reduceLE,Int.reduceSub,Int.reduceAdd,oD,drow,prow,drows_len,ilt_at hlt,inr_at hlt,drow_at hx,hp,hf,List.length_cons,List.length_nil,wrap_succ hlt (by omega)]
  rfl
 ·simp only [go1,Nat.reduceAdd,Int.reduceEq,Int.reduceLT,Int.reduceLE,Int.reduceSub,Int.reduceAdd,ilt_self,List.take_length]
theorem c_rports (l:List Dc)(h:l.length≤1000000):cF 28 [.d (.sl 6 (drows l))]=some (.own 72 4 (prows l)):=by
 refine cOf (by kernel_rfl) rfl ?_
 rw[g28_eq]
 simp only [g28,go1,Nat.reduceAdd,Int.reduceEq,Int.reduceLT,Int.reduceLE,Int.reduceSub,Int.reduceAdd,drows_len]
 refine rep_loop2 l.length (fun i=>[.sl 6 (drows l), .int .i64 (i:Int), .sl 4 (prows (l.take i))]) rfl (fun i hlt=> ?_) ?_
 ·have hx:=List.getElem?_eq_getElem hlt
  have hf:=fitsR (prows (l.take i)) [prow l[i]] 40 (by rw[prows_len,List.length_take];simp only [List.length_cons,List.length_nil];omega)
  rw[List.take_add_one,hx,Option.toList_some,prows_snoc]
  simp only [go1,Nat.reduceAdd,Int.reduceEq,Int.reduceLT,Int.reduceLE,Int.reduceSub,Int.reduceAdd,List.length_cons,List.length_nil,prow]at hf
  simp only [go1,Nat.reduceAdd,Int.reduceEq,Int.reduceLT,Int.reduceLE,Int.reduceSub,Int.reduceAdd,oD,drow,prow,drows_len,ilt_at hlt,inr_at hlt,drow_at hx,hf,List.length_cons,List.length_nil,wrap_succ hlt (by omega)]
  rfl
 ·simp only [go1,Nat.reduceAdd,Int.reduceEq,Int.reduceLT,Int.reduceLE,Int.reduceSub,Int.reduceAdd,drows_len,ilt_self,List.take_length]
theorem deq_prow (d:Dc):sy.deq [.str d.n, .int .i64 d.k, .int .i64 d.e, .int .i64 d.c] [.str d.n, .int .i64 d.k, .int .i64 d.e, .int .i64 d.c]=true:=by
 show(d.n.toList == d.n.toList&&(d.k == d.k&&(d.e == d.e&&(d.c == d.c&&true))))=true
 simp
theorem prow_at {l:List Dc}{i:Nat}{x:Dc}(h:l[i]? =some x):sy.row (prows l) (i:Int)=prow x:=by
 show(prows l).getD (i:Int).toNat []=prow x
 rw[Int.toNat_natCast,List.getD_eq_getElem?_getD,prows,List.getElem?_map,h];rfl
theorem c_psame (l:List Dc)(h:l.length≤1000000):cF 13 [.d (.sl 4 (prows l)), .d (.sl 4 (prows l))]=some (.val [.bool true]):=by
 refine cOf (by kernel_rfl) rfl ?_
 rw[g13_eq]
 simp only [g13,go1,Nat.reduceAdd,Int.reduceEq,Int.reduceLT,Int.reduceLE,Int.reduceSub,Int.reduceAdd,prows_len]
 refine rep_loop2 l.length (fun i=>[.sl 4 (prows l), .sl 4 (prows l), .int .i64 (i:Int)]) rfl (fun i hlt=> ?_) ?_
 ·have hx:=List.getElem?_eq_getElem hlt
  have hd:=deq_prow l[i]
  simp only [go1,Nat.reduceAdd,Int.reduceEq,Int.reduceLT,Int.reduceLE,Int.reduceSub,Int.reduceAdd]at hd
  simp only [go1,Nat.reduceAdd,Int.reduceEq,Int.reduceLT,Int.reduceLE,Int.reduceSub,Int.reduceAdd,oP,prow,prows_len,ilt_at hlt,inr_at hlt,prow_at hx,hd,Bool.not_true,wrap_succ hlt (by omega)]
  rfl
 ·simp only [go1,Nat.reduceAdd,Int.reduceEq,Int.reduceLT,Int.reduceLE,Int.reduceSub,Int.reduceAdd,oP,prows_len,ilt_self]
theorem last_ofN {n:Nat}(h:0 < n)(hl:n≤1000000):IntKind.i64.wrap ((n:Int) - 1)=((n - 1:Nat):Int):=by
 rw[wrap_id (by omega) (by omega)];omega
def faceI (nds:List Nd):List Dc:=match nds[nds.length - 1]? with
 |some n=>n.ins
 |none=>[]
def faceO (nds:List Nd):List Dc:=match nds[nds.length - 1]? with
 |some n=>n.outs
 |none=>[]
theorem c_Face (ens:List (List D))(nds:List Nd)(h:nds.length≤1000000)(hN: ∀n∈nds,n.ins.length≤1000000∧n.outs.length≤1000000):cF 11 [.agg [.d (.sl 2 ens), .d (.sl 5 (nrows nds))]]=some (.val [.sl 4 (prows (faceI nds)), .sl 4 (prows (faceO nds))])∧cF 12 [.agg [.d (.sl 2 ens), .d (.sl 5 (nrows nds))]]=some (.val [.sl 4 (prows (faceI nds)), .sl 4 (prows (faceO nds))]):=by
 by_cases h0:nds.length=0
 ·have:nds= []:=List.length_eq_zero_iff.1 h0
  subst this
  exact⟨cOf (by kernel_rfl) rfl (by rw[g11_eq];rfl),cOf (by kernel_rfl) rfl (by rw[g12_eq];rfl)⟩
 ·have hlt:nds.length - 1 < nds.length:=by omega
  have hx:=List.getElem?_eq_getElem hlt
  have hw:=last_ofN (n:=nds.length) (by omega) (by omega)
  have hz:decide ((nds.length:Int)=0)=false:=decF (by omega)
  have hi:faceI nds=nds[nds.length - 1].ins:=by unfold faceI;rw[hx]
  have ho:faceO nds=nds[nds.length - 1].outs:=by unfold faceO;rw[hx]
  have hb:=hN _ (List.mem_of_getElem? hx)
  rw[hi,ho]
  have ha:=nrow_at hx
  generalize nds[nds.length - 1]=n at ha hb hi ho hx ⊢
  have e1:=c_each n.ins hb.1
  have e2:=c_each n.outs hb.2
  have e3:=c_rports n.ins hb.1
  have e4:=c_rports n.outs hb.2
  constructor
  ·refine cOf (by kernel_rfl) rfl ?_
   rw[g11_eq]
   simp only [g11,go1,Nat.reduceAdd,Int.reduceEq,Int.reduceLT,Int.reduceLE,Int.reduceSub,Int.reduceAdd,nrows_len,hz,hw,inr_at hlt,ha,nrow,e1,e2]
  ·refine cOf (by kernel_rfl) rfl ?_
   rw[g12_eq]
   simp only [g12,go1,Nat.reduceAdd,Int.reduceEq,Int.reduceLT,Int.reduceLE,Int.reduceSub,Int.reduceAdd,nrows_len,hz,hw,inr_at hlt,ha,nrow,e3,e4]
end Go.Vm
end
section
namespace Go.Vm
open Go.Proofs
mutual
def sameD:Nat→D→D→Bool
 |0,_,_=>false
 |_+1, .int k a, .int k' b=>decide (k=k')&&decide (a=b)
 |_+1, .bool a, .bool b=>a == b
 |_+1, .str a, .str b=>decide (a.data.toList=b.data.toList)
 |n+1, .sl z r, .sl z' r'=>decide (z=z')&&sameR n r r'
 |_+1,_,_=>false
def sameR:Nat→List (List D)→List (List D)→Bool
 |0,_,_=>false
 |_+1,[],[]=>true
 |n+1,a::r,b::r'=>sameL n a b&&sameR n r r'
 |_+1,_,_=>false
def sameL:Nat→List D→List D→Bool
 |0,_,_=>false
 |_+1,[],[]=>true
 |n+1,a::r,b::r'=>sameD n a b&&sameL n r r'
 |_+1,_,_=>false
end
theorem same_eq: ∀n,(∀a b,sameD n a b=true→a=b)∧(∀a b,sameR n a b=true→a=b)∧(∀a b,sameL n a b=true→a=b)
 |0=>⟨fun _ _ h=>by simp [sameD]at h,fun _ _ h=>by simp [sameR]at h,fun _ _ h=>by simp [sameL]at h⟩
 |n+1=>by
  obtain⟨h1,h2,h3⟩:=same_eq n
  refine⟨fun a b h=> ?_,fun a b h=> ?_,fun a b h=> ?_⟩
  ·unfold sameD at h
   split at h
   ·rename_i e;cases e
   ·simp only [Bool.and_eq_true,decide_eq_true_eq]at h;rw[h.1,h.2]
   ·rw[beq_iff_eq]at h;rw[h]
   ·rename_i x y _
    have h:=of_decide_eq_true h
    have:x=y:=by cases x;cases y;simp only [ByteArray.mk.injEq];exact Array.toList_inj.1 h
    rw[this]
   ·rename_i e;cases e
    simp only [Bool.and_eq_true,decide_eq_true_eq]at h;rw[h.1,h2 _ _ h.2]
   ·cases h
  ·unfold sameR at h
   split at h
   ·rename_i e;cases e
   ·rfl
   ·rename_i e;cases e
    simp only [Bool.and_eq_true]at h;rw[h3 _ _ h.1,h2 _ _ h.2]
   ·cases h
  ·unfold sameL at h
   split at h
   ·rename_i e;cases e
   ·rfl
   ·rename_i e;cases e
    simp only [Bool.and_eq_true]at h;rw[h1 _ _ h.1,h3 _ _ h.2]
   ·cases h
mutual
def sameV:Nat→V→V→Bool
 |0,_,_=>false
 |n+1, .d a, .d b=>sameD n a b
 |n+1, .agg a, .agg b=>sameVs n a b
 |n+1, .fn f a, .fn g b=>decide (f=g)&&sameVs n a b
 |_+1,_,_=>false
def sameVs:Nat→List V→List V→Bool
 |0,_,_=>false
 |_+1,[],[]=>true
 |n+1,a::r,b::r'=>sameV n a b&&sameVs n r r'
 |_+1,_,_=>false
end
theorem sameV_eq: ∀n,(∀a b,sameV n a b=true→a=b)∧(∀a b,sameVs n a b=true→a=b)
 |0=>⟨fun _ _ h=>by simp [sameV]at h,fun _ _ h=>by simp [sameVs]at h⟩
 |n+1=>by
  obtain⟨h1,h2⟩:=sameV_eq n
  refine⟨fun a b h=> ?_,fun a b h=> ?_⟩
  ·unfold sameV at h
   split at h
   ·rename_i e;cases e
   ·rename_i e;cases e;rw[(same_eq _).1 _ _ h]
   ·rename_i e;cases e;rw[h2 _ _ h]
   ·rename_i e;cases e;simp only [Bool.and_eq_true,decide_eq_true_eq]at h;rw[h.1,h2 _ _ h.2]
   ·cases h
  ·unfold sameVs at h
   split at h
   ·rename_i e;cases e
   ·rfl
   ·rename_i e;cases e
    simp only [Bool.and_eq_true]at h;rw[h1 _ _ h.1,h2 _ _ h.2]
   ·cases h
theorem run_up {c c':FuncId→List V→Option PRes}{n:Nat}(hc: ∀f a p,c f a=some p→c' f a=some p):
  ∀ {α:Type} (t:Tree α) (a:α),t.run (envN n c)=some a→t.run (envF c')=some a:=by
 intro α t
 induction t with
 |ret a=>intro b h;exact h
 |fail=>intro b h;cases h
 |ite x y z ihx ihy=>
  intro b h
  cases x with
  |true=>exact ihx b h
  |false=>exact ihy b h
 |cI v k K ih|cB v K ih|cS v K ih|cL v sz K ih=>
  intro b h
  simp only [Tree.run]at h ⊢
  obtain⟨m,h1,h2⟩:=Option.bind_eq_some_iff.1 h
  simp only [h1,Option.bind_some];exact ih m b h2
 |call g args K ih=>
  intro b h
  simp only [Tree.run]at h ⊢
  obtain⟨p,hp,h2⟩:=Option.bind_eq_some_iff.1 h
  rw[show(envF c').call g args=some p from hc _ _ _ hp]
  exact ih _ b h2
 |mint g args e sz K ih=>
  intro b h
  simp only [Tree.run]at h ⊢
  obtain⟨p,hp,h2⟩:=Option.bind_eq_some_iff.1 h
  have hq:=opM_some hp
  rw[show(envF c').call g args=some (.own e sz p)from hc _ _ _ hq]
  rw[show(envN n c).call g args=_ from hq]at hp
  rw[hp]
  exact ih _ b h2
 |loop body ds ih=>
  intro b h
  simp only [Tree.run]at h ⊢
  refine loopF_some.2 ⟨n,?_⟩
  have h:iterN n (fun ds=>(body ds).run (envN n c)) ds=some b:=h
  have key: ∀m ds,iterN m (fun ds=>(body ds).run (envN n c)) ds=some b→iterN m (fun ds=>(body ds).run (envF c')) ds=some b:=by
   intro m
   induction m with
   |zero=>intro ds h;cases h
   |succ m ihm=>
    intro ds h
    simp only [iterN]at h ⊢
    cases hb:(body ds).run (envN n c)with
    |none=>rw[hb]at h;cases h
    |some s=>
     rw[hb]at h
     rw[ih ds s hb]
     cases s with
     |inl d=>exact ihm d h
     |inr x=>exact h
  exact key n ds h
 |cut x K ihx ihK=>
  intro b h
  simp only [Tree.run]at h ⊢
  obtain⟨s,h1,h2⟩:=Option.bind_eq_some_iff.1 h
  rw[ihx s h1]
  cases s with
  |inl ds=>exact ihK ds b h2
  |inr x=>exact h2
def look3:List (FuncId × List V × PRes)→FuncId→List V→Option PRes
 | [],_,_=>none
 |(g,a,p)::r,f,args=>match Nat.beq g f&&sameVs 60 a args with
  |true=>some p
  |false=>look3 r f args
theorem look3_mem: ∀ {T:List (FuncId × List V × PRes)} {f:FuncId} {args:List V} {p:PRes},look3 T f args=some p→(f,args,p)∈T
 | [],_,_,_,h=>by cases h
 |(g,a,q)::r,f,args,p,h=>by
  unfold look3 at h
  split at h
  ·rename_i hd
   simp only [Bool.and_eq_true]at hd
   cases h
   rw[Nat.eq_of_beq_eq_true hd.1,(sameV_eq _).2 _ _ hd.2]
   exact List.mem_cons_self
  ·exact List.mem_cons_of_mem _ (look3_mem h)
def knT (T:List (FuncId × List V × PRes))(f:FuncId)(args:List V):Option PRes:=match look3 T f args with
 |some p=>some p
 |none=>kn f args
theorem key_back {f:FuncId}(h:isKey f=true):bkey (unkey f)=f:=Nat.sub_add_cancel (of_decide_eq_true h)
theorem cF_runT (T:List (FuncId × List V × PRes))(hT: ∀q∈T,cF q.1 q.2.1=some q.2.2)(N:Nat){f:FuncId}{args:List V}{p:PRes}(h:callN Tryz.prog cs (knT T) N f args=some p):cF f args=some p:=by
 suffices ∀n f args p,callN Tryz.prog cs (knT T) n f args=some p→cF f args=some p from this N f args p h
 intro n
 induction n with
 |zero=>intro f args p h;cases h
 |succ n ih=>
  intro f args p h
  unfold callN at h
  cases hk:knT T f args with
  |some q=>
   rw[hk]at h
   cases h
   unfold knT at hk
   cases hl:look3 T f args with
   |some r=>rw[hl]at hk;cases hk;exact hT _ (look3_mem hl)
   |none=>rw[hl]at hk;exact callF_known hk
  |none=>
   rw[hk]at h
   simp only at h
   have hkn:kn f args=none:=by
    unfold knT at hk
    cases hl:look3 T f args with
    |some r=>rw[hl]at hk;cases hk
    |none=>rw[hl]at hk;exact hk
   cases hg:goodF Tryz.prog f with
   |true=>
    rw[hg]at h
    exact callF_of hg hkn (run_up (fun f a p h=>ih f a p h) _ _ h)
   |false=>
    rw[hg]at h
    cases hd:decB args with
    |none=>rw[hd]at h;cases h
    |some q=>
     obtain⟨pn,ar,hs⟩:=q
     rw[hd]at h
     cases hi:isKey f with
     |false=>rw[hi]at h;cases h
     |true=>
      rw[hi]at h
      have hb:=key_back hi
      have:=callF_ofB (P:=Tryz.prog) (Cs:=cs) (K:=kn) (f:=unkey f) (pn:=pn) (key:=args) (hs:=hs) (by rw[hb];exact hg) (by rw[hb];exact hkn) hd (run_up (fun f a p h=>ih f a p h) _ _ h)
      rw[hb]at this
      exact this
end Go.Vm
end
section
set_option maxRecDepth 100000
set_option maxHeartbeats 4000000
namespace Go.Vm
open Go.Proofs
def lvP:List V:=[.agg [.d (.sl 2 []), .d (.sl 5 [[(.str (bs [102])), .sl 6 [[(.str (bs [97])),(.int .i64 1),(.int .i64 0),(.int .i64 0),(.str (bs [])),(.str (bs []))]], .sl 6 [[(.str (bs [98])),(.int .i64 1),(.int .i64 0),(.int .i64 0),(.str (bs [])),(.str (bs []))]], .sl 6 [], .sl 7 [[.sl 1 [[(.str (bs [98]))]],(.int .i64 10),(.int .i64 0),(.str (bs [])),(.int .i64 0), .sl 1 [], .sl 6 [[(.int .i64 3),(.int .i64 0),(.str (bs [97])),(.int .i64 0), .sl 1 [], .sl 6 []]]]]]])]]
theorem lv33:cF 33 lvP=some (.val [.int .i64 0]):=cF_runT [] (fun _ h=>by cases h) 60 (by kernel_rfl)
theorem lv163:cF 163 lvP=some (.val [.int .i64 0, .int .i64 0, .int .i64 0]):=cF_runT [(33,lvP, .val [.int .i64 0])] (fun q h=>by rw[List.mem_singleton.1 h];exact lv33) 60 (by kernel_rfl)
theorem lv112:cF 112 lvP=some (.val [.int .i64 0, .int .i64 0, .int .i64 0]):=cF_runT [(163,lvP, .val [.int .i64 0, .int .i64 0, .int .i64 0])] (fun q h=>by rw[List.mem_singleton.1 h];exact lv163) 60 (by kernel_rfl)
theorem lv69:cF 69 lvP=some (.val [.int .i64 0, .int .i64 0, .int .i64 0]):=cF_runT [(112,lvP, .val [.int .i64 0, .int .i64 0, .int .i64 0])] (fun q h=>by rw[List.mem_singleton.1 h];exact lv112) 60 (by kernel_rfl)
theorem lv34:cF 34 lvP=some (.val [.int .i64 0, .int .i64 0, .int .i64 0]):=cF_runT [(69,lvP, .val [.int .i64 0, .int .i64 0, .int .i64 0])] (fun q h=>by rw[List.mem_singleton.1 h];exact lv69) 60 (by kernel_rfl)
theorem lv16:cF 16 lvP=some (.val [.int .i64 0, .int .i64 0, .int .i64 10]):=cF_runT [(34,lvP, .val [.int .i64 0, .int .i64 0, .int .i64 0])] (fun q h=>by rw[List.mem_singleton.1 h];exact lv34) 60 (by kernel_rfl)
end Go.Vm
end
section
set_option maxRecDepth 1000000
set_option maxHeartbeats 0
namespace Go.Vm
open Go.Proofs
noncomputable section
def g23 (A:Sy)(E:Env)(l_:List (List D)):Option PRes:=bif (A.ilt 8 (A.rlen l_))then some (.val [(.bool false)]) else E.lp (fun ds1=>(opL (A.cell ds1 0) 2).bind fun l2=>(opI (A.cell ds1 1) .i64).bind fun n3=>bif (A.ilt n3 (A.rlen l2))then bif (A.inr n3 (A.rlen l2))then (opL (A.cell (A.skip 1 (A.row l2 n3)) 0) 1).bind fun l4=>cutO (bif (A.ilt 12 (A.rlen l4))then some (.inl [(.bool true)]) else bif (A.inr n3 (A.rlen l2))then (opS (A.cell (A.row l2 n3) 0)).bind fun s5=>some (.inl [(.bool (A.ilt 100 (A.slen s5)))]) else none) fun ds6=>(opB (A.cell ds6 0)).bind fun b7=>bif b7 then some (.inr (.val [(.bool false)])) else E.lp (fun ds8=>(opL (A.cell ds8 0) 2).bind fun l9=>(opI (A.cell ds8 1) .i64).bind fun n10=>(opI (A.cell ds8 2) .i64).bind fun n11=>bif (A.inr n10 (A.rlen l9))then (opL (A.cell (A.skip 1 (A.row l9 n10)) 0) 1).bind fun l12=>bif (A.ilt n11 (A.rlen l12))then bif (A.inr n10 (A.rlen l9))then (opL (A.cell (A.skip 1 (A.row l9 n10)) 0) 1).bind fun l13=>bif (A.inr n11 (A.rlen l13))then (opS (A.cell (A.row l13 n11) 0)).bind fun s14=>bif (A.ilt 100 (A.slen s14))then some (.inr (.inr (.val [(.bool false)]))) else some (.inl [(.sl 2 l9),(.int .i64 n10),(.int .i64 (A.wrap .i64 (A.add n11 1)))]) else none else none else some (.inr (.inl [(.sl 2 l9),(.int .i64 (A.wrap .i64 (A.add n10 1)))])) else none) [(.sl 2 l2),(.int .i64 n3),(.int .i64 0)] else none else some (.inr (.val [(.bool true)]))) [(.sl 2 l_),(.int .i64 0)]
theorem g23_eq (A:Sy)(E:Env)(l_:List (List D)):(funT A Tryz.prog cs 23 [.d (.sl 2 l_)]).run E=g23 A E l_:=by kernel_rfl
def g24 (A:Sy)(E:Env)(l_:List (List D)):Option PRes:=E.lp (fun ds1=>(opL (A.cell ds1 0) 6).bind fun l2=>(opI (A.cell ds1 1) .i64).bind fun n3=>bif (A.ilt n3 (A.rlen l2))then bif (A.inr n3 (A.rlen l2))then (opS (A.cell (A.row l2 n3) 0)).bind fun s4=>cutO (bif (A.ilt 100 (A.slen s4))then some (.inl [(.bool true)]) else bif (A.inr n3 (A.rlen l2))then (opS (A.cell (A.skip 4 (A.row l2 n3)) 0)).bind fun s5=>some (.inl [(.bool (A.ilt 100 (A.slen s5)))]) else none) fun ds6=>(opB (A.cell ds6 0)).bind fun b7=>cutO (bif b7 then some (.inl [(.bool true)]) else bif (A.inr n3 (A.rlen l2))then (opS (A.cell (A.skip 5 (A.row l2 n3)) 0)).bind fun s8=>some (.inl [(.bool (A.ilt 100 (A.slen s8)))]) else none) fun ds9=>(opB (A.cell ds9 0)).bind fun b10=>bif b10 then some (.inr (.val [(.bool false)])) else some (.inl [(.sl 6 l2),(.int .i64 (A.wrap .i64 (A.add n3 1)))]) else none else some (.inr (.val [(.bool (A.ile (A.rlen l2) 20))]))) [(.sl 6 l_),(.int .i64 0)]
theorem g24_eq (A:Sy)(E:Env)(l_:List (List D)):(funT A Tryz.prog cs 24 [.d (.sl 6 l_)]).run E=g24 A E l_:=by kernel_rfl
def g47 (A:Sy)(E:Env)(e_0 e_1:Int)(e_2:ByteArray)(e_3:Int)(e_4 e_5:List (List D))(left_:Int):Option PRes:=bif (A.ile left_ 0)then some (.val [(.int .i64 0)]) else E.lp (fun ds1=>(opI (A.cell ds1 0) .i64).bind fun n2=>(opI (A.cell ds1 1) .i64).bind fun n3=>oE A ds1 2 fun n4 n5 s6 n7 l8 l9=>cutO (bif (A.ilt n3 (A.rlen l9))then some (.inl [(.bool (A.ilt 0 n2))]) else some (.inl [(.bool false)])) fun ds10=>(opB (A.cell ds10 0)).bind fun b11=>bif b11 then bif (A.inr n3 (A.rlen l9))then oE A (A.row l9 n3) 0 fun n12 n13 s14 n15 l16 l17=>(E.call 47 [(kE n12 n13 s14 n15 l16 l17),(.d (.int .i64 n2))]).bind fun p18=>(opI (A.cell p18.leaves 0) .i64).bind fun n20=>some (.inl [(.int .i64 n20),(.int .i64 (A.wrap .i64 (A.add n3 1))),(.int .i64 n4),(.int .i64 n5),(.str s6),(.int .i64 n7),(.sl 1 l8),(.sl 6 l9)]) else none else some (.inr (.val [(.int .i64 n2)]))) [(.int .i64 (A.wrap .i64 (A.sub left_ 1))),(.int .i64 0),(.int .i64 e_0),(.int .i64 e_1),(.str e_2),(.int .i64 e_3),(.sl 1 e_4),(.sl 6 e_5)]
theorem g47_eq (A:Sy)(E:Env)(e_0 e_1:Int)(e_2:ByteArray)(e_3:Int)(e_4 e_5:List (List D))(left_:Int):(funT A Tryz.prog cs 47 [.agg [.d (.int .i64 e_0),V.d (.int .i64 e_1),V.d (.str e_2),V.d (.int .i64 e_3),V.d (.sl 1 e_4),V.d (.sl 6 e_5)],V.d (.int .i64 left_)]).run E=g47 A E e_0 e_1 e_2 e_3 e_4 e_5 left_:=by kernel_rfl
def g48 (A:Sy)(E:Env)(e_0 e_1:Int)(e_2:ByteArray)(e_3:Int)(e_4 e_5:List (List D)):Option PRes:=(E.call 81 [(kE e_0 e_1 e_2 e_3 e_4 e_5)]).bind fun p1=>(opL (A.cell p1.leaves 0) 6).bind fun l3=>E.lp (fun ds4=>(opL (A.cell ds4 0) 6).bind fun l5=>(opI (A.cell ds4 1) .i64).bind fun n6=>bif (A.ilt n6 (A.rlen l5))then bif (A.inr n6 (A.rlen l5))then (opS (A.cell (A.skip 2 (A.row l5 n6)) 0)).bind fun s7=>cutO (bif (A.ilt 200 (A.slen s7))then some (.inl [(.bool true)]) else bif (A.inr n6 (A.rlen l5))then (opL (A.cell (A.skip 4 (A.row l5 n6)) 0) 1).bind fun l8=>some (.inl [(.bool (A.ilt 20 (A.rlen l8)))]) else none) fun ds9=>(opB (A.cell ds9 0)).bind fun b10=>bif b10 then some (.inr (.val [(.bool false)])) else E.lp (fun ds11=>(opL (A.cell ds11 0) 6).bind fun l12=>(opI (A.cell ds11 1) .i64).bind fun n13=>(opI (A.cell ds11 2) .i64).bind fun n14=>bif (A.inr n13 (A.rlen l12))then (opL (A.cell (A.skip 4 (A.row l12 n13)) 0) 1).bind fun l15=>bif (A.ilt n14 (A.rlen l15))then bif (A.inr n13 (A.rlen l12))then (opL (A.cell (A.skip 4 (A.row l12 n13)) 0) 1).bind fun l16=>bif (A.inr n14 (A.rlen l16))then (opS (A.cell (A.row l16 n14) 0)).bind fun s17=>bif (A.ilt 100 (A.slen s17))then some (.inr (.inr (.val [(.bool false)]))) else some (.inl [(.sl 6 l12),(.int .i64 n13),(.int .i64 (A.wrap .i64 (A.add n14 1)))]) else none else none else some (.inr (.inl [(.sl 6 l12),(.int .i64 (A.wrap .i64 (A.add n13 1)))])) else none) [(.sl 6 l5),(.int .i64 n6),(.int .i64 0)] else none else some (.inr (.val [(.bool true)]))) [(.sl 6 l3),(.int .i64 0)]
theorem g48_eq (A:Sy)(E:Env)(e_0 e_1:Int)(e_2:ByteArray)(e_3:Int)(e_4 e_5:List (List D)):(funT A Tryz.prog cs 48 [.agg [.d (.int .i64 e_0),V.d (.int .i64 e_1),V.d (.str e_2),V.d (.int .i64 e_3),V.d (.sl 1 e_4),V.d (.sl 6 e_5)]]).run E=g48 A E e_0 e_1 e_2 e_3 e_4 e_5:=by kernel_rfl
def g25 (A:Sy)(E:Env)(e_0 e_1:Int)(e_2:ByteArray)(e_3:Int)(e_4 e_5:List (List D)):Option PRes:=(E.call 47 [(kE e_0 e_1 e_2 e_3 e_4 e_5),(.d (.int .i64 200))]).bind fun p1=>(opI (A.cell p1.leaves 0) .i64).bind fun n3=>cutO (bif (A.ilt 0 n3)then (E.call 48 [(kE e_0 e_1 e_2 e_3 e_4 e_5)]).bind fun p4=>(opB (A.cell p4.leaves 0)).bind fun b6=>some (.inl [(.bool b6)]) else some (.inl [(.bool false)])) fun ds7=>(opB (A.cell ds7 0)).bind fun b8=>some (.val [(.bool b8)])
theorem g25_eq (A:Sy)(E:Env)(e_0 e_1:Int)(e_2:ByteArray)(e_3:Int)(e_4 e_5:List (List D)):(funT A Tryz.prog cs 25 [.agg [.d (.int .i64 e_0),V.d (.int .i64 e_1),V.d (.str e_2),V.d (.int .i64 e_3),V.d (.sl 1 e_4),V.d (.sl 6 e_5)]]).run E=g25 A E e_0 e_1 e_2 e_3 e_4 e_5:=by kernel_rfl
def g18 (A:Sy)(E:Env)(p_0 p_1:List (List D)):Option PRes:=(E.call 37 [(.d (.sl 2 p_0))]).bind fun p1=>(opI (A.cell p1.leaves 0) .i64).bind fun n3=>bif (A.bnot (A.ieq n3 0))then some (.val [(.int .i64 n3)]) else bif (A.ieq (A.rlen p_1) 0)then some (.val [(.int .i64 5)]) else bif (A.ilt 6 (A.rlen p_1))then some (.val [(.int .i64 4)]) else E.lp (fun ds4=>(opB (A.cell ds4 0)).bind fun b5=>(opB (A.cell ds4 1)).bind fun b6=>(opI (A.cell ds4 2) .i64).bind fun n7=>(opL (A.cell ds4 3) 2).bind fun l8=>(opL (A.cell ds4 4) 5).bind fun l9=>(opL (A.cell ds4 5) 1).bind fun l10=>bif (A.ilt n7 (A.rlen l9))then bif (A.inr n7 (A.rlen l9))then (opS (A.cell (A.row l9 n7) 0)).bind fun s11=>(opL (A.cell (A.row l9 n7) 1) 6).bind fun l12=>(opL (A.cell (A.row l9 n7) 2) 6).bind fun l13=>(opL (A.cell (A.row l9 n7) 3) 6).bind fun l14=>(opL (A.cell (A.row l9 n7) 4) 7).bind fun l15=>cutO (bif (A.ilt 6 (A.rlen l12))then some (.inl [(.bool true)]) else some (.inl [(.bool (A.ilt 6 (A.rlen l13)))])) fun ds16=>(opB (A.cell ds16 0)).bind fun b17=>cutO (bif b17 then some (.inl [(.bool true)]) else some (.inl [(.bool (A.ilt 12 (A.rlen l14)))])) fun ds18=>(opB (A.cell ds18 0)).bind fun b19=>cutO (bif b19 then some (.inl [(.bool true)]) else some (.inl [(.bool (A.ilt 18 (A.rlen l15)))])) fun ds20=>(opB (A.cell ds20 0)).bind fun b21=>bif b21 then some (.inr (.val [(.int .i64 4)])) else bif (A.fits l10 [[(.str s11)]] 16)then cutO (bif b5 then (E.call 38 [(.d (.sl 2 l8)),(.agg [(.d (.str s11)),(.d (.sl 6 l12)),(.d (.sl 6 l13)),(.d (.sl 6 l14)),(.d (.sl 7 l15))])]).bind fun p22=>(opB (A.cell p22.leaves 0)).bind fun b24=>some (.inl [(.bool b24)]) else some (.inl [(.bool false)])) fun ds25=>(opB (A.cell ds25 0)).bind fun b26=>bif b6 then (E.call 41 [(.agg [(.d (.str s11)),(.d (.sl 6 l12)),(.d (.sl 6 l13)),(.d (.sl 6 l14)),(.d (.sl 7 l15))])]).bind fun p27=>(opL (A.cell p27.leaves 0) 6).bind fun l29=>(E.call 40 [(.d (.sl 6 l29))]).bind fun p30=>(opL (A.cell p30.leaves 0) 1).bind fun l32=>(E.call 39 [(.d (.sl 1 l32))]).bind fun p33=>(opB (A.cell p33.leaves 0)).bind fun b35=>some (.inl [(.bool b26),(.bool b35),(.int .i64 (A.wrap .i64 (A.add n7 1))),(.sl 2 l8),(.sl 5 l9),(.sl 1 (A.rapp l10 [[(.str s11)]]))]) else some (.inl [(.bool b26),(.bool false),(.int .i64 (A.wrap .i64 (A.add n7 1))),(.sl 2 l8),(.sl 5 l9),(.sl 1 (A.rapp l10 [[(.str s11)]]))]) else none else none else bif (A.bnot b5)then some (.inr (.val [(.int .i64 1)])) else cutO (bif (A.bnot b6)then some (.inl [(.bool true)]) else (E.call 39 [(.d (.sl 1 l10))]).bind fun p36=>(opB (A.cell p36.leaves 0)).bind fun b38=>some (.inl [(.bool (A.bnot b38))])) fun ds39=>(opB (A.cell ds39 0)).bind fun b40=>bif b40 then some (.inr (.val [(.int .i64 6)])) else some (.inr (.val [(.int .i64 0)]))) [(.bool true),(.bool true),(.int .i64 0),(.sl 2 p_0),(.sl 5 p_1),(.sl 1 [])]
def g10 (A:Sy)(E:Env)(p_0 p_1:List (List D)):Option PRes:=(E.call 23 [(.d (.sl 2 p_0))]).bind fun p1=>(opB (A.cell p1.leaves 0)).bind fun b3=>cutO (bif (A.bnot b3)then some (.inl [(.bool true)]) else some (.inl [(.bool (A.ilt 10 (A.rlen p_1)))])) fun ds4=>(opB (A.cell ds4 0)).bind fun b5=>bif b5 then some (.val [(.bool false)]) else E.lp (fun ds6=>(opI (A.cell ds6 0) .i64).bind fun n7=>(opL (A.cell ds6 1) 2).bind fun l8=>(opL (A.cell ds6 2) 5).bind fun l9=>bif (A.ilt n7 (A.rlen l9))then bif (A.inr n7 (A.rlen l9))then (opS (A.cell (A.row l9 n7) 0)).bind fun s10=>(opL (A.cell (A.row l9 n7) 1) 6).bind fun l11=>(opL (A.cell (A.row l9 n7) 2) 6).bind fun l12=>(opL (A.cell (A.row l9 n7) 3) 6).bind fun l13=>(opL (A.cell (A.row l9 n7) 4) 7).bind fun l14=>(E.call 24 [(.d (.sl 6 l11))]).bind fun p15=>(opB (A.cell p15.leaves 0)).bind fun b17=>cutO (bif (A.bnot b17)then some (.inl [(.bool true)]) else (E.call 24 [(.d (.sl 6 l12))]).bind fun p18=>(opB (A.cell p18.leaves 0)).bind fun b20=>some (.inl [(.bool (A.bnot b20))])) fun ds21=>(opB (A.cell ds21 0)).bind fun b22=>cutO (bif b22 then some (.inl [(.bool true)]) else (E.call 24 [(.d (.sl 6 l13))]).bind fun p23=>(opB (A.cell p23.leaves 0)).bind fun b25=>some (.inl [(.bool (A.bnot b25))])) fun ds26=>(opB (A.cell ds26 0)).bind fun b27=>cutO (bif b27 then some (.inl [(.bool true)]) else some (.inl [(.bool (A.ilt 30 (A.rlen l14)))])) fun ds28=>(opB (A.cell ds28 0)).bind fun b29=>cutO (bif b29 then some (.inl [(.bool true)]) else some (.inl [(.bool (A.ilt 100 (A.slen s10)))])) fun ds30=>(opB (A.cell ds30 0)).bind fun b31=>bif b31 then some (.inr (.val [(.bool false)])) else E.lp (fun ds32=>(opI (A.cell ds32 0) .i64).bind fun n33=>(opI (A.cell ds32 1) .i64).bind fun n34=>(opL (A.cell ds32 2) 2).bind fun l35=>(opL (A.cell ds32 3) 5).bind fun l36=>(opS (A.cell ds32 4)).bind fun s37=>(opL (A.cell ds32 5) 6).bind fun l38=>(opL (A.cell ds32 6) 6).bind fun l39=>(opL (A.cell ds32 7) 6).bind fun l40=>(opL (A.cell ds32 8) 7).bind fun l41=>bif (A.ilt n34 (A.rlen l41))then bif (A.inr n34 (A.rlen l41))then (opL (A.cell (A.row l41 n34) 0) 1).bind fun l42=>oE A (A.row l41 n34) 1 fun n43 n44 s45 n46 l47 l48=>cutO (bif (A.ilt 20 (A.rlen l42))then some (.inl [(.bool true)]) else (E.call 25 [(kE n43 n44 s45 n46 l47 l48)]).bind fun p49=>(opB (A.cell p49.leaves 0)).bind fun b51=>some (.inl [(.bool (A.bnot b51))])) fun ds52=>(opB (A.cell ds52 0)).bind fun b53=>bif b53 then some (.inr (.inr (.val [(.bool false)]))) else E.lp (fun ds54=>(opI (A.cell ds54 0) .i64).bind fun n55=>(opI (A.cell ds54 1) .i64).bind fun n56=>(opI (A.cell ds54 2) .i64).bind fun n57=>(opL (A.cell ds54 3) 2).bind fun l58=>(opL (A.cell ds54 4) 5).bind fun l59=>(opS (A.cell ds54 5)).bind fun s60=>(opL (A.cell ds54 6) 6).bind fun l61=>(opL (A.cell ds54 7) 6).bind fun l62=>(opL (A.cell ds54 8) 6).bind fun l63=>(opL (A.cell ds54 9) 7).bind fun l64=>(opL (A.cell ds54 10) 1).bind fun l65=>oE A ds54 11 fun n66 n67 s68 n69 l70 l71=>bif (A.ilt n57 (A.rlen l65))then bif (A.inr n57 (A.rlen l65))then (opS (A.cell (A.row l65 n57) 0)).bind fun s72=>bif (A.ilt 100 (A.slen s72))then some (.inr (.inr (.inr (.val [(.bool false)])))) else some (.inl [(.int .i64 n55),(.int .i64 n56),(.int .i64 (A.wrap .i64 (A.add n57 1))),(.sl 2 l58),(.sl 5 l59),(.str s60),(.sl 6 l61),(.sl 6 l62),(.sl 6 l63),(.sl 7 l64),(.sl 1 l65),(.int .i64 n66),(.int .i64 n67),(.str s68),(.int .i64 n69),(.sl 1 l70),(.sl 6 l71)]) else none else some (.inr (.inl [(.int .i64 n55),(.int .i64 (A.wrap .i64 (A.add n56 1))),(.sl 2 l58),(.sl 5 l59),(.str s60),(.sl 6 l61),(.sl 6 l62),(.sl 6 l63),(.sl 7 l64)]))) [(.int .i64 n33),(.int .i64 n34),(.int .i64 0),(.sl 2 l35),(.sl 5 l36),(.str s37),(.sl 6 l38),(.sl 6 l39),(.sl 6 l40),(.sl 7 l41),(.sl 1 l42),(.int .i64 n43),(.int .i64 n44),(.str s45),(.int .i64 n46),(.sl 1 l47),(.sl 6 l48)] else none else some (.inr (.inl [(.int .i64 (A.wrap .i64 (A.add n33 1))),(.sl 2 l35),(.sl 5 l36)]))) [(.int .i64 n7),(.int .i64 0),(.sl 2 l8),(.sl 5 l9),(.str s10),(.sl 6 l11),(.sl 6 l12),(.sl 6 l13),(.sl 7 l14)]
 else none else some (.inr (.val [(.bool true)]))) [(.int .i64 0),(.sl 2 p_0),(.sl 5 p_1)]
theorem g10_eq (A:Sy)(E:Env)(p_0 p_1:List (List D)):(funT A Tryz.prog cs 10 [.agg [.d (.sl 2 p_0),V.d (.sl 5 p_1)]]).run E=g10 A E p_0 p_1:=by kernel_rfl
def g19 (A:Sy)(E:Env)(l_:List (List D)):Option PRes:=E.lp (fun ds1=>(opL (A.cell ds1 0) 1).bind fun l2=>(opS (A.cell ds1 1)).bind fun s3=>(opI (A.cell ds1 2) .i64).bind fun n4=>bif (A.ilt n4 (A.rlen l2))then bif (A.ilt 0 n4)then bif (A.sfit s3 (bs [44,32]))then bif (A.inr n4 (A.rlen l2))then (opS (A.cell (A.row l2 n4) 0)).bind fun s5=>bif (A.sfit (A.sapp s3 (bs [44,32])) s5)then some (.inl [(.sl 1 l2),(.str (A.sapp (A.sapp s3 (bs [44,32])) s5)),(.int .i64 (A.wrap .i64 (A.add n4 1)))]) else none else none else none else bif (A.inr n4 (A.rlen l2))then (opS (A.cell (A.row l2 n4) 0)).bind fun s6=>bif (A.sfit s3 s6)then some (.inl [(.sl 1 l2),(.str (A.sapp s3 s6)),(.int .i64 (A.wrap .i64 (A.add n4 1)))]) else none else none else some (.inr (.val [(.str s3)]))) [(.sl 1 l_),(.str (bs [])),(.int .i64 0)]
end
end Go.Vm
end
section
set_option maxRecDepth 100000
set_option maxHeartbeats 4000000
namespace Go.Vm
open Go.Proofs
theorem tk_snoc {α:Type}{r:List α}{i:Nat}{x:α}(h:r[i]? =some x):r.take (i+1)=r.take i++[x]:=by rw[List.take_add_one,h];rfl
theorem skip1 (a:D)(r:List D):sy.skip 1 (a::r)=r:=rfl
theorem take_len_sizes (u:List Ex)(i:Nat)(h:i≤u.length):i≤Ex.sizes (u.take i):=by
 have:=sizes_len (u.take i)
 rw[List.length_take]at this
 omega
theorem c_rcount: ∀(m:Nat) (k n:Int) (s:ByteArray) (o:Int) (a:List ByteArray) (u:List Ex) (left:Nat),(Ex.mk k n s o a u).size≤m→left≤200→
  ∃r:Nat,cF 47 [kE k n s o (srows a) (Ex.rows u), .d (.int .i64 (left:Int))]=some (.val [.int .i64 (r:Int)])∧r≤left∧(0 < r→(Ex.mk k n s o a u).size+r=left)
 |0,k,n,s,o,a,u,left,h,_=>by simp only [Ex.size]at h;omega
 |m+1,k,n,s,o,a,u,left,h,hleft=>by
  have hz:Ex.sizes u≤m:=by simp only [Ex.size]at h;omega
  have core: ∃p,g47 sy eF k n s o (srows a) (Ex.rows u) (left:Int)=some p∧ ∃r:Nat,p= .val [.int .i64 (r:Int)]∧r≤left∧(0 < r→(Ex.mk k n s o a u).size+r=left):=by
   unfold g47
   by_cases h0:left=0
   ·subst h0
    refine⟨_,rfl,0,rfl,Nat.le_refl _,fun h=>by omega⟩
   ·have e0:sy.ile (left:Int) 0=false:=decide_eq_false (by omega)
    have w0:sy.wrap .i64 (sy.sub (left:Int) 1)=((left - 1:Nat):Int):=by
     show IntKind.i64.wrap ((left:Int) - 1)=_
     rw[wrap_id (by omega) (by omega)];omega
    rw[e0,w0]
    refine loopF_ex (fun x:Nat × Nat=>[.int .i64 (x.2:Int), .int .i64 (x.1:Int), .int .i64 k, .int .i64 n, .str s, .int .i64 o, .sl 1 (srows a), .sl 6 (Ex.rows u)]) (fun x=>x.1≤u.length∧x.2 < left∧(0 < x.2→1+Ex.sizes (u.take x.1)+x.2=left)) (fun x=>u.length - x.1) (fun x hx=> ?_) (0,left - 1) ⟨Nat.zero_le _,by simp only;omega,fun _=>by simp [Ex.sizes];omega⟩
    obtain⟨i,r⟩:=x
    obtain⟨h1,h2,h3⟩:=hx
    simp only at h1 h2 h3 ⊢
    by_cases hlt:i < u.length
    ·by_cases hr:0 < r
     ·left
      have hx:=List.getElem?_eq_getElem hlt
      have htk:u.take (i+1)=u.take i++[u[i]]:=by rw[List.take_add_one,hx];rfl
      generalize u[i]=e at hx htk
      have hrow:=xrow hx
      have hem:=sizes_mem hx
      obtain⟨k2,n2,s2,o2,a2,u2⟩:=e
      obtain⟨r2,q1,q2,q3⟩:=c_rcount m k2 n2 s2 o2 a2 u2 r (by omega) (by omega)
      have hi:=take_len_sizes u i h1
      have h3:=h3 hr
      have w1:IntKind.i64.wrap ((i:Int)+1)=((i+1:Nat):Int):=by rw[wrap_id (by omega) (by omega)];omega
      have l0:=ilt_at hlt
      have i0:=inr_at hlt
      have z0:decide ((0:Int) < (r:Int))=true:=decide_eq_true (by omega)
      refine⟨(i+1,r2),?_,⟨hlt,by simp only;omega,fun hp=> ?_⟩,by simp only;omega⟩
      ·simp only [go1,oE,rows_len,l0,i0,z0,hrow,Ex.row,q1,w1]
      ·simp only at hp ⊢
       have:=q3 hp
       rw[htk,sizes_snoc]
       omega
     ·right
      have hr0:r=0:=by omega
      subst hr0
      refine⟨_,?_,0,rfl,Nat.zero_le _,fun h=>by omega⟩
      have l0:=ilt_at hlt
      simp only [go1,oE,rows_len,l0,show decide ((0:Int) < ((0:Nat):Int))=false from rfl]
    ·right
     have:i=u.length:=by omega
     subst this
     rw[List.take_length]at h3
     refine⟨_,?_,r,rfl,by omega,fun hp=> ?_⟩
     ·simp only [go1,oE,rows_len,ilt_self]
     ·have:=h3 hp
      simp only [Ex.size];omega
  obtain⟨p,h1,r,rfl,h2⟩:=core
  exact⟨r,cOf (by kernel_rfl) rfl ((g47_eq _ _ _ _ _ _ _ _ _).trans h1),h2⟩
def okQ:Ex→Prop
 | .mk _ _ s _ a _=>s.size≤200∧a.length≤20∧ ∀x∈a,x.size≤100
theorem row_fields {l:List Ex}{i:Nat}{k n:Int}{s:ByteArray}{o:Int}{a:List ByteArray}{u:List Ex}(h:l[i]? =some (.mk k n s o a u)):
  sy.cell (sy.skip 2 (sy.row (Ex.rows l) (i:Int))) 0=some (.str s)∧sy.cell (sy.skip 4 (sy.row (Ex.rows l) (i:Int))) 0=some (.sl 1 (srows a)):=by
 rw[xrow h]
 exact⟨rfl,rfl⟩
theorem c_rfew (k n:Int)(s:ByteArray)(o:Int)(a:List ByteArray)(u:List Ex)(h:(Ex.mk k n s o a u).size≤1000):
  ∃b,cF 48 [kE k n s o (srows a) (Ex.rows u)]=some (.val [.bool b])∧(b=true→ ∀x∈(Ex.mk k n s o a u).parts,okQ x):=by
 have hp:=c_reParts 1000 k n s o a u h (by omega)
 have hpl:=parts_len (Ex.mk k n s o a u)
 generalize (Ex.mk k n s o a u).parts=P at hp hpl ⊢
 have core: ∃p,g48 sy eF k n s o (srows a) (Ex.rows u)=some p∧ ∃b,p= .val [.bool b]∧(b=true→ ∀x∈P,okQ x):=by
  simp only [g48,go1,hp]
  refine loopF_ex (fun i:Nat=>[.sl 6 (Ex.rows P), .int .i64 (i:Int)]) (fun i=>i≤P.length∧ ∀x∈P.take i,okQ x) (fun i=>P.length - i) (fun i hi=> ?_) 0 ⟨Nat.zero_le _,by simp⟩
  obtain⟨h1,h2⟩:=hi
  by_cases hlt:i < P.length
  ·have hx:=List.getElem?_eq_getElem hlt
   have htk:P.take (i+1)=P.take i++[P[i]]:=by rw[List.take_add_one,hx];rfl
   generalize P[i]=e at hx htk
   obtain⟨k2,n2,s2,o2,a2,u2⟩:=e
   obtain⟨f1,f2⟩:=row_fields hx
   have l0:=ilt_at hlt
   have i0:=inr_at hlt
   have w1:IntKind.i64.wrap ((i:Int)+1)=((i+1:Nat):Int):=by rw[wrap_id (by omega) (by omega)];omega
   by_cases g1:200 < s2.size
   ·right
    refine⟨_,?_,false,rfl,fun h=>by cases h⟩
    simp only [go1,rows_len,l0,i0,f1,decide_eq_true (show(200:Int) < (s2.size:Int) by omega)]
   ·by_cases g2:20 < a2.length
    ·right
     refine⟨_,?_,false,rfl,fun h=>by cases h⟩
     simp only [go1,rows_len,srows_len,l0,i0,f1,f2,decide_eq_false (show ¬(200:Int) < (s2.size:Int) by omega),decide_eq_true (show(20:Int) < (a2.length:Int) by omega)]
    ·simp only [go1,rows_len,srows_len,l0,i0,f1,f2,decide_eq_false (show ¬(200:Int) < (s2.size:Int) by omega),decide_eq_false (show ¬(20:Int) < (a2.length:Int) by omega)]
     have inner: ∃p,loopF (fun ds11=>
         (opL (sy.cell ds11 0) 6).bind fun l12=>
         (opI (sy.cell ds11 1) .i64).bind fun n13=>
         (opI (sy.cell ds11 2) .i64).bind fun n14=>
         bif (sy.inr n13 (sy.rlen l12))then
          (opL (sy.cell (sy.skip 4 (sy.row l12 n13)) 0) 1).bind fun l15=>
          bif (sy.ilt n14 (sy.rlen l15))then
           bif (sy.inr n13 (sy.rlen l12))then
            (opL (sy.cell (sy.skip 4 (sy.row l12 n13)) 0) 1).bind fun l16=>
            bif (sy.inr n14 (sy.rlen l16))then
             (opS (sy.cell (sy.row l16 n14) 0)).bind fun s17=>
             bif (sy.ilt 100 (sy.slen s17))then
              some (.inr ((.inr (PRes.val [(.bool false)])):List D ⊕ PRes))
             else
              some (.inl [(.sl 6 l12),(.int .i64 n13),(.int .i64 (sy.wrap .i64 (sy.add n14 1)))])
            else
             none
           else
            none
          else
           some (.inr (.inl [(.sl 6 l12),(.int .i64 (sy.wrap .i64 (sy.add n13 1)))]))
         else
          none
       ) [(.sl 6 (Ex.rows P)),(.int .i64 (i:Int)),(.int .i64 0)]=some p∧(p= .inr (.val [.bool false])∨p= .inl [.sl 6 (Ex.rows P), .int .i64 ((i+1:Nat):Int)]∧ ∀x∈a2,x.size≤100):=by
      refine loopF_ex (fun j:Nat=>[.sl 6 (Ex.rows P), .int .i64 (i:Int), .int .i64 (j:Int)]) (fun j=>j≤a2.length∧ ∀x∈a2.take j,x.size≤100) (fun j=>a2.length - j) (fun j hj=> ?_) 0 ⟨Nat.zero_le _,by simp⟩
      obtain⟨j1,j2⟩:=hj
      by_cases hj:j < a2.length
      ·have hy:=List.getElem?_eq_getElem hj
       have hyk:a2.take (j+1)=a2.take j++[a2[j]]:=by rw[List.take_add_one,hy];rfl
       generalize a2[j]=y at hy hyk
       have hc:=srows_at hy
       have l1:=ilt_at hj
       have i1:=inr_at hj
       have w2:IntKind.i64.wrap ((j:Int)+1)=((j+1:Nat):Int):=by rw[wrap_id (by omega) (by omega)];omega
       by_cases g900003:100 < y.size
       ·right
        refine⟨_,?_, .inl rfl⟩
        simp only [go1,rows_len,srows_len,i0,f2,l1,i1,hc,decide_eq_true (show(100:Int) < (y.size:Int) by omega)]
       ·left
        refine⟨j+1,?_,⟨hj,fun x hx=> ?_⟩,by omega⟩
        ·simp only [go1,rows_len,srows_len,i0,f2,l1,i1,hc,decide_eq_false (show ¬(100:Int) < (y.size:Int) by omega),w2]
        ·rw[hyk]at hx
         rcases List.mem_append.1 hx with hx|hx
         ·exact j2 x hx
         ·rw[List.mem_singleton.1 hx];omega
      ·right
       have:j=a2.length:=by omega
       subst this
       rw[List.take_length]at j2
       refine⟨_,?_, .inr ⟨rfl,j2⟩⟩
       simp only [go1,rows_len,srows_len,i0,f2,ilt_self,w1]
     obtain⟨p,hp1,hp2⟩:=inner
     simp only [go1,Option.bind_some,eq_self,cond_true,cond_false]at hp1
     rcases hp2 with rfl|⟨rfl,hq⟩
     ·right
      exact⟨_,hp1,false,rfl,fun h=>by cases h⟩
     ·left
      refine⟨i+1,hp1,⟨hlt,fun x hx=> ?_⟩,by omega⟩
      rw[htk]at hx
      rcases List.mem_append.1 hx with hx|hx
      ·exact h2 x hx
      ·rw[List.mem_singleton.1 hx]
       exact⟨by omega,by omega,hq⟩
  ·right
   have:i=P.length:=by omega
   subst this
   rw[List.take_length]at h2
   refine⟨_,?_,true,rfl,fun _=>h2⟩
   simp only [go1,rows_len,ilt_self]
 obtain⟨p,h1,b,rfl,h2⟩:=core
 exact⟨b,cOf (by kernel_rfl) rfl ((g48_eq _ _ _ _ _ _ _ _).trans h1),h2⟩
mutual
theorem fine_of: ∀e:Ex,(∀x∈e.parts,okQ x)→e.fine
 | .mk k n s o a u,h=>by
   have h0:okQ (.mk k n s o a u):=h _ (by simp [Ex.parts])
   refine⟨⟨by have:=h0.1;omega,fun x hx=>by have:=h0.2.2 x hx;omega,by have:=h0.2.1;omega⟩,fines_of u fun x hx=>h x (by simp [Ex.parts,hx])⟩
theorem fines_of: ∀u:List Ex,(∀x∈Ex.partsL u,okQ x)→Ex.fines u
 | [],_=>trivial
 |e::u,h=>⟨fine_of e fun x hx=>h x (by simp [Ex.partsL,hx]),fines_of u fun x hx=>h x (by simp [Ex.partsL,hx])⟩
end
theorem c_rSmall (k n:Int)(s:ByteArray)(o:Int)(a:List ByteArray)(u:List Ex): ∃b,cF 25 [kE k n s o (srows a) (Ex.rows u)]=some (.val [.bool b])∧(b=true→(Ex.mk k n s o a u).size≤200∧(Ex.mk k n s o a u).fine):=by
 obtain⟨r,h1,h2,h3⟩:=c_rcount _ k n s o a u 200 (Nat.le_refl _) (Nat.le_refl _)
 have h1:cF 47 [kE k n s o (srows a) (Ex.rows u), .d (.int .i64 200)]=_:=h1
 by_cases hr:0 < r
 ·have h3:=h3 hr
  obtain⟨b,h4,h5⟩:=c_rfew k n s o a u (by omega)
  refine⟨b,?_,fun hb=>⟨by omega,fine_of _ (h5 hb)⟩⟩
  refine cOf (by kernel_rfl) rfl ?_
  rw[g25_eq]
  simp only [g25,go1,Nat.reduceAdd,Int.reduceEq,Int.reduceLT,Int.reduceLE,Int.reduceSub,Int.reduceAdd,h1,h4,decide_eq_true (show(0:Int) < (r:Int) by omega)]
 ·refine⟨false,?_,fun h=>by cases h⟩
  refine cOf (by kernel_rfl) rfl ?_
  rw[g25_eq]
  simp only [g25,go1,Nat.reduceAdd,Int.reduceEq,Int.reduceLT,Int.reduceLE,Int.reduceSub,Int.reduceAdd,h1,decide_eq_false (show ¬(0:Int) < (r:Int) by omega)]
theorem inner_lp {X:Option (List D ⊕ PRes)}{P E:Prop}{R:PRes→Prop}{L:List D}(key: ∃r,X=some r∧((r= .inl L∧E)∨ ∃q,r= .inr q∧R q))(k:X=some (.inl L)→E→P):P∨ ∃q,X=some (.inr q)∧R q:=by
 obtain⟨r,h,h2⟩:=key
 rcases h2 with⟨rfl,e⟩|⟨q,rfl,h3⟩
 ·exact .inl (k h e)
 ·exact .inr ⟨q,h,h3⟩
def EB (x:En):Prop:=x.1.size≤100∧x.2.length≤12∧ ∀c∈x.2,c.size≤100
theorem c_enSmall (l:List En): ∃p,cF 23 [.d (.sl 2 (erows l))]=some p∧ ∃b,p= .val [.bool b]∧(b=true→l.length≤8∧ ∀x∈l,EB x):=by
 refine cOfP (by kernel_rfl) rfl ?_
 rw[g23_eq]
 unfold g23
 by_cases h8:8 < (l.length:Int)
 ·refine⟨_,?_,false,rfl,fun h=>by cases h⟩
  rw[show sy.ilt 8 (sy.rlen (erows l))=true from decT (by rw[sy_rlen,erows_len];exact h8)];rfl
 ·rw[show sy.ilt 8 (sy.rlen (erows l))=false from decF (by rw[sy_rlen,erows_len];exact h8),cond_false,eF_lp]
  refine loopF_ex (fun i:Nat=>[.sl 2 (erows l), .int .i64 (i:Int)]) (fun i=>i≤l.length∧ ∀j (h:j < l.length),j < i→EB l[j]) (fun i=>l.length - i) (fun i hi=> ?_) 0 ⟨Nat.zero_le _,by omega⟩
  obtain⟨hi,hE⟩:=hi
  by_cases hlt:i < l.length
  ·have hx:=List.getElem?_eq_getElem hlt
   by_cases h12:l[i].2.length≤12
   ·by_cases h100:l[i].1.size≤100
    ·simp only [go1,Int.reduceLT,Int.reduceLE,erows_len,srows_len,ilt_at hlt,inr_at hlt,enm_at hx,skip1,decF (p:=12 < (l[i].2.length:Int)) (by omega),decF (p:=100 < (l[i].1.size:Int)) (by omega)]
     refine inner_lp (L:=[D.sl 2 (erows l),D.int IntKind.i64 ((i:Int)+1)]) (E:= ∀c∈l[i].2,c.size≤100) ?_ (fun hr he=>⟨i+1,hr,⟨hlt,fun j hj hji=> ?_⟩,by omega⟩)
     ·refine loopF_ex (fun j:Nat=>[.sl 2 (erows l), .int .i64 (i:Int), .int .i64 (j:Int)]) (fun j=>j≤l[i].2.length∧ ∀k (h:k < l[i].2.length),k < j→l[i].2[k].size≤100) (fun j=>l[i].2.length - j) (fun j hj=> ?_) 0 ⟨Nat.zero_le _,by omega⟩
      obtain⟨hj,hC⟩:=hj
      by_cases hjl:j < l[i].2.length
      ·have hy:=List.getElem?_eq_getElem hjl
       by_cases hc:l[i].2[j].size≤100
       ·left
        refine⟨j+1,?_,⟨hjl,fun k hk hkj=> ?_⟩,by omega⟩
        ·simp only [go1,Int.reduceLT,Int.reduceLE,erows_len,srows_len,inr_at hlt,ilt_at hjl,inr_at hjl,enm_at hx,skip1,srows_at hy,decF (p:=100 < (l[i].2[j].size:Int)) (by omega),wrap_succ hjl (by omega)]
         rfl
        ·by_cases e:k=j
         ·subst e;exact hc
         ·exact hC k hk (by omega)
       ·right
        refine⟨.inr (.val [.bool false]),?_, .inr ⟨_,rfl,false,rfl,fun h=>by cases h⟩⟩
        simp only [go1,Int.reduceLT,Int.reduceLE,erows_len,srows_len,inr_at hlt,ilt_at hjl,inr_at hjl,enm_at hx,skip1,srows_at hy,decT (p:=100 < (l[i].2[j].size:Int)) (by omega)]
      ·have:j=l[i].2.length:=by omega
       subst this
       right
       refine⟨_,?_, .inl ⟨rfl,fun c hc=> ?_⟩⟩
       ·simp only [go1,Int.reduceLT,Int.reduceLE,erows_len,srows_len,inr_at hlt,ilt_self,enm_at hx,skip1,wrap_succ hlt (by omega)]
       ·obtain⟨k,hk,rfl⟩:=List.getElem_of_mem hc
        exact hC k hk hk
     ·by_cases e:j=i
      ·subst e;exact⟨h100,h12,he⟩
      ·exact hE j hj (by omega)
    ·right
     refine⟨.val [.bool false],?_,false,rfl,fun h=>by cases h⟩
     simp only [go1,Int.reduceLT,Int.reduceLE,erows_len,srows_len,ilt_at hlt,inr_at hlt,enm_at hx,skip1,decF (p:=12 < (l[i].2.length:Int)) (by omega),decT (p:=100 < (l[i].1.size:Int)) (by omega)]
   ·right
    refine⟨.val [.bool false],?_,false,rfl,fun h=>by cases h⟩
    simp only [go1,Int.reduceLT,Int.reduceLE,erows_len,srows_len,ilt_at hlt,inr_at hlt,enm_at hx,skip1,decT (p:=12 < (l[i].2.length:Int)) (by omega)]
  ·right
   have:i=l.length:=by omega
   subst this
   refine⟨.val [.bool true],?_,true,rfl,fun _=>⟨by omega,fun x hx=> ?_⟩⟩
   ·simp only [go1,Int.reduceLT,Int.reduceLE,erows_len,ilt_self]
   ·obtain⟨k,hk,rfl⟩:=List.getElem_of_mem hx
    exact hE k hk hk
theorem dcells {l:List Dc}{i:Nat}{x:Dc}(h:l[i]? =some x):sy.cell (sy.row (drows l) (i:Int)) 0=some (.str x.n)∧sy.cell (sy.skip 4 (sy.row (drows l) (i:Int))) 0=some (.str x.o)∧sy.cell (sy.skip 5 (sy.row (drows l) (i:Int))) 0=some (.str x.q):=by
 rw[drow_at h]
 exact⟨rfl,rfl,rfl⟩
theorem c_few (l:List Dc)(hl:l.length≤9223372036854775807): ∃b,cF 24 [.d (.sl 6 (drows l))]=some (.val [.bool b])∧(b=true→l.length≤20∧ ∀x∈l,DcOK x):=by
 have core: ∃p,g24 sy eF (drows l)=some p∧ ∃b,p= .val [.bool b]∧(b=true→l.length≤20∧ ∀x∈l,DcOK x):=by
  unfold g24
  refine loopF_ex (fun i:Nat=>[.sl 6 (drows l), .int .i64 (i:Int)]) (fun i=>i≤l.length∧ ∀x∈l.take i,DcOK x) (fun i=>l.length - i) (fun i hi=> ?_) 0 ⟨Nat.zero_le _,by simp⟩
  obtain⟨h1,h2⟩:=hi
  by_cases hlt:i < l.length
  ·have hx:=List.getElem?_eq_getElem hlt
   have htk:l.take (i+1)=l.take i++[l[i]]:=tk_snoc hx
   generalize l[i]=d at hx htk
   obtain⟨f1,f2,f3⟩:=dcells hx
   have l0:=ilt_at hlt
   have i0:=inr_at hlt
   have w1:IntKind.i64.wrap ((i:Int)+1)=((i+1:Nat):Int):=by rw[wrap_id (by omega) (by omega)];omega
   simp only [go1,drows_len,l0,i0,f1,f2,f3,w1]
   by_cases g1:100 < d.n.size
   ·right
    refine⟨_,?_,false,rfl,fun h=>by cases h⟩
    simp only [decide_eq_true (show(100:Int) < (d.n.size:Int) by omega),go1,cond_true]
   ·by_cases g2:100 < d.o.size
    ·right
     refine⟨_,?_,false,rfl,fun h=>by cases h⟩
     simp only [decide_eq_false (show ¬(100:Int) < (d.n.size:Int) by omega),decide_eq_true (show(100:Int) < (d.o.size:Int) by omega),go1,cond_true,cond_false]
    ·by_cases g900003:100 < d.q.size
     ·right
      refine⟨_,?_,false,rfl,fun h=>by cases h⟩
      simp only [decide_eq_false (show ¬(100:Int) < (d.n.size:Int) by omega),decide_eq_false (show ¬(100:Int) < (d.o.size:Int) by omega),decide_eq_true (show(100:Int) < (d.q.size:Int) by omega),go1,cond_true,cond_false]
     ·left
      refine⟨i+1,?_,⟨hlt,fun x hx=> ?_⟩,by omega⟩
      ·simp only [decide_eq_false (show ¬(100:Int) < (d.n.size:Int) by omega),decide_eq_false (show ¬(100:Int) < (d.o.size:Int) by omega),decide_eq_false (show ¬(100:Int) < (d.q.size:Int) by omega),go1,cond_true,cond_false]
      ·rw[htk]at hx
       rcases List.mem_append.1 hx with hx|hx
       ·exact h2 x hx
       ·rw[List.mem_singleton.1 hx]
        exact⟨by omega,by omega,by omega⟩
  ·right
   have:i=l.length:=by omega
   subst this
   rw[List.take_length]at h2
   refine⟨_,?_,decide ((l.length:Int)≤20),rfl,fun h=>⟨by have:=of_decide_eq_true h;omega,h2⟩⟩
   simp only [go1,drows_len,ilt_self]
 obtain⟨p,h1,b,rfl,h2⟩:=core
 exact⟨b,cOf (by kernel_rfl) rfl ((g24_eq _ _ _).trans h1),h2⟩
theorem inner_lpG {ρ:Type}{X:Option (List D ⊕ ρ)}{P E:Prop}{R:ρ→Prop}{L:List D}(key: ∃r,X=some r∧((r= .inl L∧E)∨ ∃q,r= .inr q∧R q))(k:X=some (.inl L)→E→P):P∨ ∃q,X=some (.inr q)∧R q:=by
 obtain⟨r,h,h2⟩:=key
 rcases h2 with⟨rfl,e⟩|⟨q,rfl,h3⟩
 ·exact .inl (k h e)
 ·exact .inr ⟨q,h,h3⟩
structure ES (x:Eqn):Prop where
 ns:x.ns.length≤20
 sz:x.e.size≤200
 fn:x.e.fine
 st: ∀s∈x.ns,s.size≤100
structure NS (n:Nd):Prop where
 i:n.ins.length≤20∧ ∀x∈n.ins,DcOK x
 o:n.outs.length≤20∧ ∀x∈n.outs,DcOK x
 v:n.vars.length≤20∧ ∀x∈n.vars,DcOK x
 q:n.eqs.length≤30
 e: ∀x∈n.eqs,ES x
 m:n.n.size≤100
structure LB (n:Nd):Prop where
 i:n.ins.length≤9223372036854775807
 o:n.outs.length≤9223372036854775807
 v:n.vars.length≤9223372036854775807
theorem mem_snoc {α:Type}{p:α→Prop}{l:List α}{x:α}(h: ∀y∈l,p y)(hx:p x): ∀y∈l++[x],p y:=fun y hy=>by
 rcases List.mem_append.1 hy with hy|hy
 ·exact h y hy
 ·rw[List.mem_singleton.1 hy];exact hx
theorem c_pgSmall (ens:List En)(nds:List Nd)(hl: ∀n∈nds,LB n): ∃b,cF 10 [.agg [.d (.sl 2 (erows ens)), .d (.sl 5 (nrows nds))]]=some (.val [.bool b])∧(b=true→(ens.length≤8∧ ∀x∈ens,EB x)∧nds.length≤10∧ ∀n∈nds,NS n):=by
 obtain⟨_,hS,bS,rfl,hS2⟩:=c_enSmall ens
 have core: ∃p,g10 sy eF (erows ens) (nrows nds)=some p∧ ∃b,p= .val [.bool b]∧(b=true→(ens.length≤8∧ ∀x∈ens,EB x)∧nds.length≤10∧ ∀n∈nds,NS n):=by
  unfold g10
  cases bS with
  |false=>exact⟨_,by simp only [go1,hS],false,rfl,fun h=>by cases h⟩
  |true=>
   by_cases h10:10 < nds.length
   ·exact⟨_,by simp only [go1,hS,nrows_len,decide_eq_true (show(10:Int) < (nds.length:Int) by omega)],false,rfl,fun h=>by cases h⟩
   ·simp only [go1,hS,nrows_len,decide_eq_false (show ¬(10:Int) < (nds.length:Int) by omega)]
    refine loopF_ex (fun i:Nat=>[.int .i64 (i:Int), .sl 2 (erows ens), .sl 5 (nrows nds)]) (fun i=>i≤nds.length∧ ∀n∈nds.take i,NS n) (fun i=>nds.length - i) (fun i hi=> ?_) 0 ⟨Nat.zero_le _,by simp⟩
    obtain⟨h1,h2⟩:=hi
    by_cases hlt:i < nds.length
    ·have hx:=List.getElem?_eq_getElem hlt
     have htk:nds.take (i+1)=nds.take i++[nds[i]]:=tk_snoc hx
     obtain⟨l1,l2,l3⟩:=hl _ (List.getElem_mem hlt)
     have hr:=nrow_at hx
     generalize nds[i]=n at hx htk l1 l2 l3 hr
     obtain⟨nm,ins,outs,vars,eqs⟩:=n
     obtain⟨b1,p1,p2⟩:=c_few ins l1
     obtain⟨b2,q1,q2⟩:=c_few outs l2
     obtain⟨b3,r1,r2⟩:=c_few vars l3
     have l0:=ilt_at hlt
     have i0:=inr_at hlt
     have w1:IntKind.i64.wrap ((i:Int)+1)=((i+1:Nat):Int):=by rw[wrap_id (by omega) (by omega)];omega
     simp only [go1,nrows_len,l0,i0,hr,nrow,p1,q1,r1,qrows_len]
     have hbad: ∀ {b:Bool},b=false→(∃q:PRes,some (Sum.inr q:List D ⊕ PRes)=some (.inr (.val [.bool false]))∧True)∨True:=fun _=> .inr trivial
     by_cases hg:b1=true∧b2=true∧b3=true∧eqs.length≤30∧nm.size≤100
     ·obtain⟨g1,g2,g900003,g900004,g900005⟩:=hg
      subst g1 g2 g900003
      simp only [go1,decide_eq_false (show ¬(30:Int) < (eqs.length:Int) by omega),decide_eq_false (show ¬(100:Int) < (nm.size:Int) by omega)]
      refine inner_lpG (L:=[.int .i64 ((i+1:Nat):Int), .sl 2 (erows ens), .sl 5 (nrows nds)]) (E:= ∀x∈eqs,ES x) ?_ (fun he hE=>⟨i+1,he,⟨hlt,?_⟩,by omega⟩)
      ·refine loopF_ex (fun j:Nat=>[.int .i64 (i:Int), .int .i64 (j:Int), .sl 2 (erows ens), .sl 5 (nrows nds), .str nm, .sl 6 (drows ins), .sl 6 (drows outs), .sl 6 (drows vars), .sl 7 (qrows eqs)]) (fun j=>j≤eqs.length∧ ∀x∈eqs.take j,ES x) (fun j=>eqs.length - j) (fun j hj=> ?_) 0 ⟨Nat.zero_le _,by simp⟩
       obtain⟨j1,j2⟩:=hj
       by_cases hjl:j < eqs.length
       ·have hy:=List.getElem?_eq_getElem hjl
        have hyk:eqs.take (j+1)=eqs.take j++[eqs[j]]:=tk_snoc hy
        have hr2:=qrow_at hy
        generalize eqs[j]=x at hy hyk hr2
        obtain⟨ns,k,m,w,o,a,u⟩:=x
        obtain⟨b4,s1,s2⟩:=c_rSmall k m w o a u
        have l4:=ilt_at hjl
        have i4:=inr_at hjl
        have w2:IntKind.i64.wrap ((j:Int)+1)=((j+1:Nat):Int):=by rw[wrap_id (by omega) (by omega)];omega
        by_cases hg2:ns.length≤20∧b4=true
        ·obtain⟨g900006,g15⟩:=hg2
         subst g15
         simp only [go1,qrows_len,l4,i4,hr2,qrow,Ex.row,oE,s1,srows_len,decide_eq_false (show ¬(20:Int) < (ns.length:Int) by omega)]
         refine inner_lpG (L:=[.int .i64 (i:Int), .int .i64 ((j+1:Nat):Int), .sl 2 (erows ens), .sl 5 (nrows nds), .str nm, .sl 6 (drows ins), .sl 6 (drows outs), .sl 6 (drows vars), .sl 7 (qrows eqs)]) (E:= ∀s∈ns,s.size≤100) ?_ (fun he hE=>⟨j+1,he,⟨hjl,?_⟩,by omega⟩)
         ·refine loopF_ex (fun z:Nat=>[.int .i64 (i:Int), .int .i64 (j:Int), .int .i64 (z:Int), .sl 2 (erows ens), .sl 5 (nrows nds), .str nm, .sl 6 (drows ins), .sl 6 (drows outs), .sl 6 (drows vars), .sl 7 (qrows eqs), .sl 1 (srows ns), .int .i64 k, .int .i64 m, .str w, .int .i64 o, .sl 1 (srows a), .sl 6 (Ex.rows u)]) (fun z=>z≤ns.length∧ ∀s∈ns.take z,s.size≤100) (fun z=>ns.length - z) (fun z hz=> ?_) 0 ⟨Nat.zero_le _,by simp⟩
          obtain⟨z1,z2⟩:=hz
          by_cases hzl:z < ns.length
          ·have hs:=List.getElem?_eq_getElem hzl
           have hsk:ns.take (z+1)=ns.take z++[ns[z]]:=tk_snoc hs
           generalize ns[z]=y at hs hsk
           have hc:=srows_at hs
           have l5:=ilt_at hzl
           have i5:=inr_at hzl
           have w3:IntKind.i64.wrap ((z:Int)+1)=((z+1:Nat):Int):=by rw[wrap_id (by omega) (by omega)];omega
           by_cases g900008:100 < y.size
           ·right
            refine⟨_,?_, .inr ⟨_,rfl, .inr ⟨_,rfl,false,rfl,fun h=>by cases h⟩⟩⟩
            simp only [go1,oE,srows_len,l5,i5,hc,decide_eq_true (show(100:Int) < (y.size:Int) by omega)]
           ·left
            refine⟨z+1,?_,⟨hzl,?_⟩,by omega⟩
            ·simp only [go1,oE,srows_len,l5,i5,hc,decide_eq_false (show ¬(100:Int) < (y.size:Int) by omega),w3]
            ·rw[hsk];exact mem_snoc z2 (by omega)
          ·right
           have:z=ns.length:=by omega
           subst this
           rw[List.take_length]at z2
           refine⟨_,?_, .inl ⟨rfl,z2⟩⟩
           simp only [go1,oE,srows_len,ilt_self,w2]
         ·rw[hyk];exact mem_snoc j2 ⟨g900006,(s2 rfl).1,(s2 rfl).2,hE⟩
        ·right
         refine⟨.inr (.val [.bool false]),?_, .inr ⟨_,rfl,false,rfl,fun h=>by cases h⟩⟩
         by_cases g900006:20 < ns.length
         ·simp only [go1,qrows_len,l4,i4,hr2,qrow,Ex.row,oE,s1,srows_len,decide_eq_true (show(20:Int) < (ns.length:Int) by omega)]
         ·have g15:b4=false:=by
           cases b4 with
           |false=>rfl
           |true=>exact absurd ⟨by omega,rfl⟩ hg2
          subst g15
          simp only [go1,qrows_len,l4,i4,hr2,qrow,Ex.row,oE,s1,srows_len,decide_eq_false (show ¬(20:Int) < (ns.length:Int) by omega)]
       ·right
        have:j=eqs.length:=by omega
        subst this
        rw[List.take_length]at j2
        refine⟨_,?_, .inl ⟨rfl,j2⟩⟩
        simp only [go1,qrows_len,ilt_self,w1]
      ·rw[htk];exact mem_snoc h2 ⟨p2 rfl,q2 rfl,r2 rfl,g900004,hE,g900005⟩
     ·right
      refine⟨.val [.bool false],?_,false,rfl,fun h=>by cases h⟩
      by_cases g900004:30 < eqs.length
      ·rw[decide_eq_true (show(30:Int) < (eqs.length:Int) by omega)]
       cases b1<;>cases b2<;>cases b3<;>simp only [go1,Option.bind_some,eq_self,cond_true,cond_false]
      ·rw[decide_eq_false (show ¬(30:Int) < (eqs.length:Int) by omega)]
       by_cases g900005:100 < nm.size
       ·rw[decide_eq_true (show(100:Int) < (nm.size:Int) by omega)]
        cases b1<;>cases b2<;>cases b3<;>simp only [go1,Option.bind_some,eq_self,cond_true,cond_false]
       ·cases b1<;>cases b2<;>cases b3<;>first|(exact absurd ⟨rfl,rfl,rfl,by omega,by omega⟩ hg)|simp only [go1,Option.bind_some,eq_self,cond_true,cond_false]
    ·right
     have:i=nds.length:=by omega
     subst this
     rw[List.take_length]at h2
     refine⟨_,?_,true,rfl,fun _=>⟨hS2 rfl,by omega,h2⟩⟩
     simp only [go1,nrows_len,ilt_self]
 obtain⟨p,h1,b,rfl,h2⟩:=core
 exact⟨b,cOf (by kernel_rfl) rfl ((g10_eq _ _ _ _).trans h1),h2⟩
def lexF (s:ByteArray):Nat→Nat→Option (List Tk × Nat × Bool)
 |0,_=>none
 |n+1,a=>match decide (a+gapN ((tb s).drop a) < (tb s).length)with
  |true=>match (nextT0 (s.extract (a+gapN ((tb s).drop a)) (tb s).length)).ok&&decide (1≤(nextT0 (s.extract (a+gapN ((tb s).drop a)) (tb s).length)).w)with
   |true=>match lexF s n (a+gapN ((tb s).drop a)+(nextT0 (s.extract (a+gapN ((tb s).drop a)) (tb s).length)).w)with
    |some r=>some (⟨(nextT0 (s.extract (a+gapN ((tb s).drop a)) (tb s).length)).k,(nextT0 (s.extract (a+gapN ((tb s).drop a)) (tb s).length)).s,(nextT0 (s.extract (a+gapN ((tb s).drop a)) (tb s).length)).n,a+gapN ((tb s).drop a)⟩::r.1,r.2)
    |none=>none
   |false=>some ([],a+gapN ((tb s).drop a),false)
  |false=>some ([],a+gapN ((tb s).drop a),true)
theorem lexF_eq (s:ByteArray): ∀(n a:Nat) {r:List Tk × Nat × Bool},lexF s n a=some r→lexS s a=r
 |0,a,r,h=>by cases h
 |n+1,a,r,h=>by
  rw[lexS]
  unfold lexF at h
  split at h
  ·rename_i hp
   rw[dif_pos (of_decide_eq_true hp)]
   split at h
   ·rename_i ht
    rw[Bool.and_eq_true]at ht
    rw[dif_pos ⟨ht.1,of_decide_eq_true ht.2⟩]
    split at h
    ·rename_i q hq
     rw[lexF_eq s n _ hq]
     cases h;rfl
    ·cases h
   ·rename_i ht
    rw[dif_neg (fun e=>by rw[e.1,decT e.2]at ht;cases ht)]
    cases h;rfl
  ·rename_i hp
   rw[dif_neg (of_decide_eq_false hp)]
   cases h;rfl
def lvS:ByteArray:=bs [110,111,100,101,32,102,40,97,58,32,105,110,116,41,32,114,101,116,117,114,110,115,32,40,98,58,32,105,110,116,41,32,108,101,116,32,98,32,61,32,112,114,101,32,97,59,32,116,101,108]
def lvT:List Tk:=[⟨1,bs [110,111,100,101],0,0⟩,⟨1,bs [102],0,5⟩,⟨5,bs [40],0,6⟩,⟨1,bs [97],0,7⟩,⟨5,bs [58],0,8⟩,⟨1,bs [105,110,116],0,10⟩,⟨5,bs [41],0,13⟩,⟨1,bs [114,101,116,117,114,110,115],0,15⟩,⟨5,bs [40],0,23⟩,⟨1,bs [98],0,24⟩,⟨5,bs [58],0,25⟩,⟨1,bs [105,110,116],0,27⟩,⟨5,bs [41],0,30⟩,⟨1,bs [108,101,116],0,32⟩,⟨1,bs [98],0,36⟩,⟨5,bs [61],0,38⟩,⟨1,bs [112,114,101],0,40⟩,⟨1,bs [97],0,44⟩,⟨5,bs [59],0,45⟩,⟨1,bs [116,101,108],0,47⟩]
theorem lv1:lexS lvS 0=(lvT,50,true):=lexF_eq _ 60 _ (by kernel_rfl)
def lvN:Nd:=⟨bs [102],[⟨bs [97],1,0,0,bs [],bs []⟩],[⟨bs [98],1,0,0,bs [],bs []⟩],[],[⟨[bs [98]], .mk 10 0 (bs []) 0 [] [.mk 3 0 (bs [97]) 0 [] []]⟩]⟩
theorem lv3:progR (lvT++[⟨6,bs [],0,50⟩]) 0= .ok ([],[lvN]) 20:=by kernel_rfl
theorem lv4:chkS [] [lvN]=0:=by kernel_rfl
theorem lv5:progS lvS=(([],[lvN]),50,0):=by
 have e:toksS lvS=lvT++[⟨6,bs [],0,50⟩]:=by
  unfold toksS
  rw[lv1]
  rfl
 have e2:(tb lvS).length=50:=by kernel_rfl
 unfold progS
 rw[lv1,e,e2,lv3]
 simp only [lv4]
 rfl
theorem c_frontProgram (s:ByteArray)(hs:s.size≤100000){a b c:Int}(h:(progS s).2.2=0→cF 16 [.agg [.d (.sl 2 (erows (progS s).1.1)), .d (.sl 5 (nrows (progS s).1.2))]]=some (.val [.int .i64 a, .int .i64 b, .int .i64 c])):
  cF 6 [.d (.str s)]=some (.val (bif decide ((progS s).2.2=0)then bif decide (c=0)then[.sl 2 (erows (progS s).1.1), .sl 5 (nrows (progS s).1.2), .int .i64 (s.size:Int), .int .i64 0, .int .i64 0, .int .i64 0]else[.sl 2 [], .sl 5 [], .int .i64 (s.size:Int), .int .i64 a, .int .i64 b, .int .i64 c]else[.sl 2 [], .sl 5 [], .int .i64 (progS s).2.1, .int .i64 0, .int .i64 (-1), .int .i64 (progS s).2.2])):=by
 have h1:=c_pProgram s hs
 unfold pgV at h1
 generalize progS s=q at h1 h ⊢
 obtain⟨⟨en,nd⟩,at_,e⟩:=q
 simp only at h1 h ⊢
 refine cOf (by kernel_rfl) rfl ?_
 rw[g6_eq]
 simp only [g6,go1,Nat.reduceAdd,Int.reduceEq,Int.reduceLT,Int.reduceLE,Int.reduceSub,Int.reduceAdd,h1]
 by_cases he:e=0
 ·have h2:=h he
  subst he
  simp only [go1,Nat.reduceAdd,Int.reduceEq,Int.reduceLT,Int.reduceLE,Int.reduceSub,Int.reduceAdd,h2,decide_true]
  by_cases hc:c=0
  ·simp only [go1,Nat.reduceAdd,Int.reduceEq,Int.reduceLT,Int.reduceLE,Int.reduceSub,Int.reduceAdd,decT hc]
  ·simp only [go1,Nat.reduceAdd,Int.reduceEq,Int.reduceLT,Int.reduceLE,Int.reduceSub,Int.reduceAdd,decF hc]
 ·simp only [go1,Nat.reduceAdd,Int.reduceEq,Int.reduceLT,Int.reduceLE,Int.reduceSub,Int.reduceAdd,decF he]
theorem c_live20:cF 5 []=some (.val [.bool true]):=by
 have h1:=c_frontProgram lvS (by decide) (a:=0) (b:=0) (c:=10) (fun _=>by rw[lv5];exact lv16)
 rw[lv5]at h1
 have h1:cF 6 [.d (.str lvS)]=some (.val [.sl 2 [], .sl 5 [], .int .i64 50, .int .i64 0, .int .i64 0, .int .i64 10]):=h1
 obtain⟨w,h2,t2⟩:=c_Where 0 0 10 ⟨by omega,by omega⟩ ⟨by omega,by omega⟩ ⟨by omega,by omega⟩
 have hw:w=bs [101,114,114,111,114,32,49,48,32,97,116,32,48,46,48]:=tb_inj (t2.trans (by kernel_rfl))
 subst hw
 refine cOf (by kernel_rfl) rfl ?_
 rw[g5_eq]
 unfold g5
 rw[eF_call,show(bs [110,111,100,101,32,102,40,97,58,32,105,110,116,41,32,114,101,116,117,114,110,115,32,40,98,58,32,105,110,116,41,32,108,101,116,32,98,32,61,32,112,114,101,32,97,59,32,116,101,108])=lvS from rfl,h1]
 simp only [go1,Nat.reduceAdd,Int.reduceEq,Int.reduceLT,Int.reduceLE,Int.reduceSub,Int.reduceAdd,h2,decide_true,seq_tb]
theorem c_FrontFaces (ens:List En)(nds:List Nd)(n e x:Int)(hn:I64 n)(he:I64 e)(hx:I64 x)(hl: ∀n∈nds,LB n):cF 4 [.agg [.d (.sl 2 (erows ens)), .d (.sl 5 (nrows nds))], .agg [.d (.int .i64 n), .d (.int .i64 e), .d (.int .i64 x)]]=some (.val [.bool true]):=by
 have hv:=c_live20
 obtain⟨b,s1,s2⟩:=c_pgSmall ens nds hl
 obtain⟨w,w1,w2,_⟩:=where_same n e x hn he hx
 refine cOf (by kernel_rfl) rfl ?_
 rw[g4_eq]
 cases b with
 |false=>simp only [g4,go1,s1,hv]
 |true=>
  obtain⟨⟨e1,e2⟩,n1,n2⟩:=s2 rfl
  obtain⟨f1,f2⟩:=c_Face (erows ens) nds (by omega) fun n hn=>⟨by have:=(n2 n hn).i.1;omega,by have:=(n2 n hn).o.1;omega⟩
  have hI:(faceI nds).length≤1000000∧(faceO nds).length≤1000000:=by
   unfold faceI faceO
   cases hq:nds[nds.length - 1]? with
   |none=>exact⟨Nat.zero_le _,Nat.zero_le _⟩
   |some n=>exact⟨by have:=(n2 n (List.mem_of_getElem? hq)).i.1;show n.ins.length≤_;omega,by have:=(n2 n (List.mem_of_getElem? hq)).o.1;show n.outs.length≤_;omega⟩
  have q1:=c_psame _ hI.1
  have q2:=c_psame _ hI.2
  simp only [g4,go1,s1,hv,f1,f2,q1,q2,w1,w2,seq_tb,decide_true]
end Go.Vm
end
section
set_option maxRecDepth 100000
namespace Go.Vm
open Go.Proofs Go.RowKit Go.Extern.Stop Go.Stop Go.Extern
theorem as_nil (t:Value)(w:World):Calls Tryz.prog 32 #[.nilIface,t] w fun e w'=>e= .returned (.bool false)∧w'=w:=by
 go_enter Tryz.func32,Tryz.ntmps32
 go_wp2
 go_ret
 exact⟨rfl,rfl⟩
theorem valueOf53 (t:Addr)(w:World):(ReflectliteValue.unpack (.iface 91 (.pointer (some t)))).run Tryz.prog w= .ok (.agg #[.pointer (some ⟨12,91,none⟩), .pointer (some ⟨w.heap.size,0,none⟩), .int .u64 150]) (w.alloc (.cells #[.pointer (some t)] 91)):=by kernel_rfl
theorem type53 (a:Addr)(w:World):(ReflectliteValue.methodAny (ReflectliteValue.valueError "reflectlite.Value.Type" 0) (fun t _ _ _=>ReflectliteType.toType t) #[.agg #[.pointer (some ⟨12,91,none⟩), .pointer (some a), .int .u64 150]]).run Tryz.prog w= .ok (.iface 156 (.agg #[.pointer (some ⟨12,91,none⟩)])) w:=by kernel_rfl
theorem kind53 (w:World):((ReflectliteType.abiMethod fun t=>(fun a:Nat=>Value.int IntKind.u8 (a:Int)) <$> Rtype.kind t) #[.pointer (some ⟨12,91,none⟩)]).run Tryz.prog w= .ok (.int .u8 22) w:=by kernel_rfl
theorem kind51 (w:World):((ReflectliteType.abiMethod fun t=>(fun a:Nat=>Value.int IntKind.u8 (a:Int)) <$> Rtype.kind t) #[.pointer (some ⟨12,89,none⟩)]).run Tryz.prog w= .ok (.int .u8 25) w:=by kernel_rfl
theorem rlm (z:Sem Value)(f:TypeId→Addr→Nat→Nat→Sem Value)(v:Value):ReflectliteValue.method z f #[v]=(do match ←ReflectliteValue.parts v with|none=>z|some (t,a,fl)=>f t a fl (fl % 32)):=rfl
theorem parts53 (a:Addr)(w:World):(ReflectliteValue.parts (.agg #[.pointer (some ⟨12,91,none⟩), .pointer (some a), .int .u64 150])).run Tryz.prog w= .ok (some (91,a,150)) w:=by kernel_rfl
theorem isNil53 (a p:Addr)(W:World)(ha:W.cell? a=some (.pointer (some p))):(ReflectliteValue.method (ReflectliteValue.valueError "reflectlite.Value.IsNil" 0) ReflectliteValue.isNil #[.agg #[.pointer (some ⟨12,91,none⟩), .pointer (some a), .int .u64 150]]).run Tryz.prog W= .ok (.bool false) W:=by
 rw[rlm]
 simp only [Sem.run_bind,parts53,Result.andThen]
 simp [ReflectliteValue.isNil,loadVar,isAgg,underlying,Tryz.underlying91,ha,Result.andThen]
theorem elem53 (w:World):(ReflectliteType.method ReflectliteType.elem #[.agg #[.pointer (some ⟨12,91,none⟩)]]).run Tryz.prog w= .ok (.iface 156 (.agg #[.pointer (some ⟨12,89,none⟩)])) w:=by kernel_rfl
theorem implements51 (w:World):(ReflectliteType.relation "Implements" ReflectliteType.implements_ #[.agg #[.pointer (some ⟨12,89,none⟩)], .iface 156 (.agg #[.pointer (some ⟨12,83,none⟩)])]).run Tryz.prog w= .ok (.bool true) w:=by kernel_rfl
theorem typeOf51 (v:Value)(w:World):(ReflectliteType.typeOf #[.iface 89 v]).run Tryz.prog w= .ok (.iface 156 (.agg #[.pointer (some ⟨12,89,none⟩)])) w:=by kernel_rfl
theorem assignable51 (w:World):(ReflectliteType.relation "AssignableTo" ReflectliteType.assignableTo #[.agg #[.pointer (some ⟨12,89,none⟩)], .iface 156 (.agg #[.pointer (some ⟨12,89,none⟩)])]).run Tryz.prog w= .ok (.bool true) w:=by kernel_rfl
theorem valueOf51 (a b:Int)(w:World):(ReflectliteValue.unpack (.iface 89 (.agg #[.int .i64 a, .int .i64 b]))).run Tryz.prog w= .ok (.agg #[.pointer (some ⟨12,89,none⟩), .pointer (some ⟨w.heap.size,0,none⟩), .int .u64 153]) (w.alloc (.cells #[.int .i64 a, .int .i64 b] 89)):=by kernel_rfl
theorem elemOf53 (w:World):(Rtype.elem? 91).run Tryz.prog w= .ok (some 89) w:=by kernel_rfl
theorem mk51 (p:Addr)(w:World):(ReflectliteValue.mk 89 p ReflectliteValue.flagAddr).run Tryz.prog w= .ok (.agg #[.pointer (some ⟨12,89,none⟩), .pointer (some p), .int .u64 409]) w:=by kernel_rfl
theorem elemV53 (a p:Addr)(W:World)(ha:W.cell? a=some (.pointer (some p))):(ReflectliteValue.method (ReflectliteValue.valueError "reflectlite.Value.Elem" 0) ReflectliteValue.elem #[.agg #[.pointer (some ⟨12,91,none⟩), .pointer (some a), .int .u64 150]]).run Tryz.prog W= .ok (.agg #[.pointer (some ⟨12,89,none⟩), .pointer (some p), .int .u64 409]) W:=by
 rw[rlm]
 simp only [Sem.run_bind,parts53,Result.andThen]
 simp [ReflectliteValue.elem,loadVar,isAgg,underlying,Tryz.underlying91,ha,Result.andThen,elemOf53,mk51]
theorem rls (v x:Value):ReflectliteValue.set #[v,x]=(do
  let (some (dst,a,fl),some (src,b,_)):=(←ReflectliteValue.parts v,←ReflectliteValue.parts x)
   |unsupported (.noEntry "extern/(internal/reflectlite.Value).Set.zeroValue")
  if fl / ReflectliteValue.flagAddr % 2 == 0 then unsupported (.noEntry "extern/(internal/reflectlite.Value).Set.unaddressable")
  let val ←loadVar src b
  if ←Rtype.directlyAssignable dst src then storeVar dst a val
  else if ←Rtype.implements dst src then
   if(←Rtype.kind src) == 20 then
    match val with
    | .nilIface=>unsupported (.noEntry "extern/reflectlite: a nil value of one interface type handed on as a value of another")
    |_=>storeVar dst a val
   else storeVar dst a (.iface src val)
  else panicString ("reflectlite.Set: value of type " ++(←Rtype.spelt src)++ " is not assignable to type " ++(←Rtype.spelt dst))
  pure (.tuple #[])):=rfl
theorem parts51a (a:Addr)(w:World):(ReflectliteValue.parts (.agg #[.pointer (some ⟨12,89,none⟩), .pointer (some a), .int .u64 409])).run Tryz.prog w= .ok (some (89,a,409)) w:=by kernel_rfl
theorem parts51 (a:Addr)(w:World):(ReflectliteValue.parts (.agg #[.pointer (some ⟨12,89,none⟩), .pointer (some a), .int .u64 153])).run Tryz.prog w= .ok (some (89,a,153)) w:=by kernel_rfl
theorem direct51 (w:World):(Rtype.directlyAssignable 89 89).run Tryz.prog w= .ok true w:=by kernel_rfl
theorem isAgg51 (w:World):(isAgg 89).run Tryz.prog w= .ok true w:=by kernel_rfl
theorem sizeOf51 (w:World):(sizeOf 89).run Tryz.prog w= .ok 2 w:=by kernel_rfl
theorem load51 (b:Nat)(x y:Int)(W:World)(hb:W.heap[b]? =some (.cells #[.int .i64 x, .int .i64 y] 89 (0,0))):(loadVar 89 ⟨b,0,none⟩).run Tryz.prog W= .ok (.agg #[.int .i64 x, .int .i64 y]) W:=by
 have h:=run_loadCells_list (P:=Tryz.prog) W ⟨b,0,none⟩ [.int .i64 x, .int .i64 y] (fun j v hv=>by
  have hadd:(⟨b,0,none⟩:Addr).add j=⟨b,j,none⟩:=by unfold Addr.add;split<;>simp_all
  rw[hadd]
  simp only [World.cell?,hb]
  match j,hv with
  |0,hv=>simpa using hv
  |1,hv=>simpa using hv
  |j+2,hv=>simp at hv)
 simp only [loadVar,Sem.run_bind,isAgg51,Result.andThen,if_true,sizeOf51]
 have h:(loadCells ⟨b,0,none⟩ 2).run Tryz.prog W= .ok #[.int .i64 x, .int .i64 y] W:=h
 rw[h]
 rfl
theorem store51 (t:Nat)(x y:Int)(us:Array Value)(W:World)(ht:W.heap[t]? =some (.cells us 89 (0,0)))(hu:us.size=2):(storeVar 89 ⟨t,0,none⟩ (.agg #[.int .i64 x, .int .i64 y])).run Tryz.prog W= .ok () (W.setRow t #[.int .i64 x, .int .i64 y]):=by
 have h:=run_storeCells_at Tryz.prog t 0 89 [.int .i64 x, .int .i64 y] 0 us W ht (by simp [hu]) (by simp [Value.oneCell'])
 have e:(us.toList.take (0+0)++[Value.int .i64 x,Value.int .i64 y]++us.toList.drop (0+0+[Value.int .i64 x,Value.int .i64 y].length)).toArray= #[.int .i64 x, .int .i64 y]:=by
  have:us.toList.drop 2= []:=List.drop_of_length_le (by simp [hu])
  simp [this]
 rw[e]at h
 simp only [storeVar,Sem.run_bind,sizeOf51,Result.andThen]
 exact h
theorem set51 (t b:Nat)(x y:Int)(us:Array Value)(W:World)(hb:W.heap[b]? =some (.cells #[.int .i64 x, .int .i64 y] 89 (0,0)))(ht:W.heap[t]? =some (.cells us 89 (0,0)))(hu:us.size=2):
  (ReflectliteValue.set #[.agg #[.pointer (some ⟨12,89,none⟩), .pointer (some ⟨t,0,none⟩), .int .u64 409], .agg #[.pointer (some ⟨12,89,none⟩), .pointer (some ⟨b,0,none⟩), .int .u64 153]]).run Tryz.prog W= .ok (.tuple #[]) (W.setRow t #[.int .i64 x, .int .i64 y]):=by
 rw[rls]
 simp only [Sem.run_bind,parts51a,parts51,Result.andThen]
 simp [ReflectliteValue.flagAddr,load51 b x y W hb,Result.andThen,direct51,store51 t x y us W ht hu]
theorem methodKind (h:Value)(w:World):(Go.method 507 156 (.agg #[h]) "Kind").run Tryz.prog w= .ok (352,h) w:=by kernel_rfl
theorem methodElem (h:Value)(w:World):(Go.method 507 156 (.agg #[h]) "Elem").run Tryz.prog w= .ok (362, .agg #[h]) w:=by kernel_rfl
theorem methodImplements (h:Value)(w:World):(Go.method 507 156 (.agg #[h]) "Implements").run Tryz.prog w= .ok (363, .agg #[h]) w:=by kernel_rfl
theorem methodAssignableTo (h:Value)(w:World):(Go.method 507 156 (.agg #[h]) "AssignableTo").run Tryz.prog w= .ok (360, .agg #[h]) w:=by kernel_rfl
theorem al_old {w:World}(o:Obj){k:Nat}(h:k < w.heap.size):(w.alloc o).heap[k]? =w.heap[k]? :=by
 show(w.heap.push o)[k]? =_
 rw[Array.getElem?_push,if_neg (by omega)]
theorem al_new (w:World)(o:Obj):(w.alloc o).heap[w.heap.size]? =some o:=by
 show(w.heap.push o)[w.heap.size]? =_
 rw[Array.getElem?_push,if_pos rfl]
theorem al_size (w:World)(o:Obj):(w.alloc o).heap.size=w.heap.size+1:=by
 show(w.heap.push o).size=_
 rw[Array.size_push]
def w4 (w:World)(t:Nat)(x y:Int):World:=((((w.alloc (.cells #[.pointer (some ⟨t,0,none⟩)] 91)).alloc (.cells #[.pointer (some ⟨12,91,none⟩), .pointer (some ⟨w.heap.size,0,none⟩), .int .u64 150] 120)).alloc (.cells #[.pointer (some ⟨12,91,none⟩), .pointer (some ⟨w.heap.size,0,none⟩), .int .u64 150] 120)).alloc (.cells #[.int .i64 x, .int .i64 y] 89))
set_option maxHeartbeats 4000000 in
theorem as_hit (t:Nat)(x y:Int)(us:Array Value)(w:World)(hg:w.cell? ⟨0,0,none⟩=some (.iface 156 (.agg #[.pointer (some ⟨12,83,none⟩)])))(ht:w.heap[t]? =some (.cells us 89 (0,0)))(hu:us.size=2):
  Calls Tryz.prog 32 #[.iface 89 (.agg #[.int .i64 x, .int .i64 y]), .iface 91 (.pointer (some ⟨t,0,none⟩))] w fun ev w'=>ev= .returned (.bool true)∧w'=(w4 w t x y).setRow t #[.int .i64 x, .int .i64 y]:=by
 unfold w4
 have h6:=@run_callFunc_extern Tryz.prog 57 _ (fun args=>ReflectliteValue.unpack (args.getD 0 (.tuple #[]))) Tryz.func57 (by kernel_rfl) (by kernel_rfl) (by kernel_rfl) (by kernel_rfl)
 have h7:=@run_callFunc_extern Tryz.prog 58 _ (ReflectliteValue.methodAny (ReflectliteValue.valueError "reflectlite.Value.Type" 0) (fun t _ _ _=>ReflectliteType.toType t)) Tryz.func58 (by kernel_rfl) (by kernel_rfl) (by kernel_rfl) (by kernel_rfl)
 have h8:=@run_callFunc_extern Tryz.prog 59 _ (ReflectliteValue.method (ReflectliteValue.valueError "reflectlite.Value.IsNil" 0) ReflectliteValue.isNil) Tryz.func59 (by kernel_rfl) (by kernel_rfl) (by kernel_rfl) (by kernel_rfl)
 have h27:=@run_callFunc_extern Tryz.prog 352 _ (ReflectliteType.abiMethod fun t=>do pure (.int .u8 (←Rtype.kind t))) Tryz.func352 (by kernel_rfl) (by kernel_rfl) (by kernel_rfl) (by kernel_rfl)
 have h37:=@run_callFunc_extern Tryz.prog 362 _ (ReflectliteType.method ReflectliteType.elem) Tryz.func362 (by kernel_rfl) (by kernel_rfl) (by kernel_rfl) (by kernel_rfl)
 have h38:=@run_callFunc_extern Tryz.prog 363 _ (ReflectliteType.relation "Implements" ReflectliteType.implements_) Tryz.func363 (by kernel_rfl) (by kernel_rfl) (by kernel_rfl) (by kernel_rfl)
 have h10:=@run_callFunc_extern Tryz.prog 99 _ ReflectliteType.typeOf Tryz.func99 (by kernel_rfl) (by kernel_rfl) (by kernel_rfl) (by kernel_rfl)
 have h35:=@run_callFunc_extern Tryz.prog 360 _ (ReflectliteType.relation "AssignableTo" ReflectliteType.assignableTo) Tryz.func360 (by kernel_rfl) (by kernel_rfl) (by kernel_rfl) (by kernel_rfl)
 have h11:=@run_callFunc_extern Tryz.prog 100 _ (ReflectliteValue.method (ReflectliteValue.valueError "reflectlite.Value.Elem" 0) ReflectliteValue.elem) Tryz.func100 (by kernel_rfl) (by kernel_rfl) (by kernel_rfl) (by kernel_rfl)
 have h12:=@run_callFunc_extern Tryz.prog 101 _ ReflectliteValue.set Tryz.func101 (by kernel_rfl) (by kernel_rfl) (by kernel_rfl) (by kernel_rfl)
 have tO:=typeOf51
 have mA:=methodAssignableTo
 have a25:=assignable51
 have v25:=valueOf51
 have f6:=valueOf53
 have f7:=type53
 have mK:=methodKind
 have mE:=methodElem
 have mI:=methodImplements
 have k27:=kind53
 have k25:=kind51
 have e27:=elem53
 have i25:=implements51
 have n8:=isNil53 ⟨w.heap.size,0,none⟩ ⟨t,0,none⟩ ((w.alloc (.cells #[.pointer (some ⟨t,0,none⟩)] 91)).alloc (.cells #[.pointer (some ⟨12,91,none⟩), .pointer (some ⟨w.heap.size,0,none⟩), .int .u64 150] 120)) (by simp)
 have hlt:0 < w.heap.size:=by
  rcases Nat.eq_zero_or_pos w.heap.size with h0|h
  ·simp [World.cell?,h0]at hg
  ·exact h
 have hg2:((w.alloc (.cells #[.pointer (some ⟨t,0,none⟩)] 91)).alloc (.cells #[.pointer (some ⟨12,91,none⟩), .pointer (some ⟨w.heap.size,0,none⟩), .int .u64 150] 120)).cell? ⟨0,0,none⟩=some (.iface 156 (.agg #[.pointer (some ⟨12,83,none⟩)])):=by
  rw[World.cell?_alloc_lt _ _ ⟨0,0,none⟩ (by simp),World.cell?_alloc_lt _ _ ⟨0,0,none⟩ hlt];exact hg
 have htl:t < w.heap.size:=(Array.getElem?_eq_some_iff.1 ht).1
 have el:=elemV53 ⟨w.heap.size,0,none⟩ ⟨t,0,none⟩ (((w.alloc (.cells #[.pointer (some ⟨t,0,none⟩)] 91)).alloc (.cells #[.pointer (some ⟨12,91,none⟩), .pointer (some ⟨w.heap.size,0,none⟩), .int .u64 150] 120)).alloc (.cells #[.pointer (some ⟨12,91,none⟩), .pointer (some ⟨w.heap.size,0,none⟩), .int .u64 150] 120)) (by rw[World.cell?_alloc_lt _ _ ⟨w.heap.size,0,none⟩ (by simp;omega)];simp)
 have st:=set51 t (w.heap.size+1+1+1) x y us (w4 w t x y)
  (by unfold w4;have h:=al_new (((w.alloc (.cells #[.pointer (some ⟨t,0,none⟩)] 91)).alloc (.cells #[.pointer (some ⟨12,91,none⟩), .pointer (some ⟨w.heap.size,0,none⟩), .int .u64 150] 120)).alloc (.cells #[.pointer (some ⟨12,91,none⟩), .pointer (some ⟨w.heap.size,0,none⟩), .int .u64 150] 120)) (.cells #[.int .i64 x, .int .i64 y] 89);rw[al_size,al_size,al_size]at h;exact h)
  (by unfold w4;rw[al_old _ (by simp only [al_size];omega),al_old _ (by simp only [al_size];omega),al_old _ (by simp only [al_size];omega),al_old _ htl];exact ht) hu
 unfold w4 at st
 go_enter Tryz.func32,Tryz.ntmps32
 go_wp2
 refine wp_loop_rounds 1 ?_
 rw[rounds_succ]
 go_wp2
 go_ret
 exact⟨rfl,rfl⟩
end Go.Vm
end
section
set_option maxRecDepth 100000
namespace Go.Vm
open Go.Proofs Go.RowKit Go.Shelf
def growR:Ren:=⟨fun|4=>194|n=>n,fun|22=>52|25=>70|n=>n,fun n=>n⟩
theorem growL:Lays8.n4 Tryz.prog growR where
 mixed:=by kernel_rfl
 f4:=Exists.intro ("slices.Grow[[]noria/api.Decl,noria/api.Decl]") ⟨by decide+kernel,Tryz.func194.trans (congrArg some (by kernel_rfl))⟩
 t0:=Tryz.underlying0
 a0:=Tryz.isAgg0
 z0:=Tryz.sizeOf0
 v0:=Tryz.zeroValue0
 t3:=Tryz.underlying3
 a3:=Tryz.isAgg3
 z3:=Tryz.sizeOf3
 v3:=Tryz.zeroValue3
 t4:=Tryz.underlying4
 a4:=Tryz.isAgg4
 z4:=Tryz.sizeOf4
 v4:=Tryz.zeroValue4
 t9:=Tryz.underlying9
 a9:=Tryz.isAgg9
 z9:=Tryz.sizeOf9
 v9:=Tryz.zeroValue9
 t20:=Tryz.underlying20
 a20:=Tryz.isAgg20
 z20:=Tryz.sizeOf20
 v20:=Tryz.zeroValue20
 t22:=Tryz.underlying52
 a22:=Tryz.isAgg52
 z22:=Tryz.sizeOf52
 v22:=Tryz.zeroValue52
theorem grow_call (n:Int)(h:0≤n∧n≤1000000):MCall Tryz.prog 194 [.nils, .d (.int .i64 n)] 70 6 []:=by
 intro g w us hs hu
 obtain⟨h1,h2⟩:=hu
 have hn0:g.n=0:=hs.n
 match us,h1 with
 | [u0,u1],_=>
   have e0:u0= .slice none 0 0:=by
    have:=h2 0 u0 _ rfl rfl
    cases this;rfl
   have e1:=rep_int_inv (h2 1 u1 _ rfl rfl)
   subst e0;subst e1
   have key: ∀(w':World) (u:Value),Fr (fun _=>False) w w'→(u= .slice none 0 0∨ ∃(us:Array Value) (cap:Nat),u= .slice (some ⟨w.heap.size,0,none⟩) 0 cap∧cap≤maxLen∧w'.heap[w.heap.size]? =some (.cells us 70 (0,0))∧us.size=cap*6)→ ∃u2 g',Ending.returned u= .returned u2∧Rep w' g' u2 (.own 0)∧Keep [] g [] w g' [.arr 70 6 []] w':=by
    intro w' u hfr hu
    have hv:(g.push w.heap.size u).val g.n=u:=by simp [Gh.push]
    have hbk:(g.push w.heap.size u).blk g.n=w.heap.size:=by simp [Gh.push]
    refine⟨u,g.push w.heap.size u,rfl,?_,Keep.push hs _ _ _ hfr ⟨fun i r hr=>by simp at hr,?_⟩ fun k hk=> ?_⟩
    ·have:=Rep.own (w:=w') (g:=g.push w.heap.size u) g.n (by simp [Gh.push])
     rw[hv,hn0]at this
     exact this
    ·rcases hu with hu|⟨us,cap,hu,hc,hh,hz⟩
     ·exact .inl ⟨by rw[hv];exact hu,rfl⟩
     ·exact .inr ⟨us,cap,by rw[hv,hbk];exact hu,Nat.zero_le _,hc,by rw[hbk];exact hh,hz,fun i r j c hr=>by simp at hr⟩
    ·unfold Box.at? at hk
     simp only [hv]at hk
     rcases hu with rfl|⟨us,cap,rfl,_⟩
     ·cases hk
     ·simp at hk;omega
   obtain⟨m,rfl⟩: ∃m:Nat,n=m:=⟨n.toNat,by omega⟩
   by_cases hm:m=0
   ·subst hm
    refine(Any8.slices_Grow_room growL none 0 0 0 w (by omega) (by omega) (by omega) (by omega)).mono ?_
    rintro e w' ⟨rfl,rfl⟩
    exact key _ _ (Fr.refl _ _) (.inl rfl)
   ·have hinfo:(Tryz.prog.info? 70).map (fun i=>(i.zero,i.size,i.bytes))=some (some (.agg #[.string ⟨#[]⟩, .int .i64 0, .int .i64 0, .int .i64 0, .string ⟨#[]⟩, .string ⟨#[]⟩]),6,72):=by kernel_rfl
    obtain⟨i,hi,hz0,hz1,hz2⟩:=info_parts hinfo
    have hL:=Any8.slices_Grow_grow growL i _ hi hz0 (by omega) none 0 0 m [] w (by omega) (by omega) (by rw[hz2];omega) (by omega) (by simp) (fun _=>rfl) (fun a h=>by cases h)
    refine hL.mono ?_
    rintro e w' ⟨rfl,rfl⟩
    have hge:=grownCap_ge w (0+m) 0 70
    have hcm:grownCap w (0+m) 0 70≤maxLen:=grownCap_le_maxLen w (0+m) 0 70 (by unfold maxLen;omega)
    refine key _ _ ((Fr.drew _ w).trans (Fr.alloc _ _ _)) (.inr ⟨_,_,rfl,hcm,(MapKept.heap_alloc w.drew _).1,?_⟩)
    show(#[]++_++_).size=grownCap w (0+m) 0 70*6
    simp only [Array.size_append,size_zeroCells,Value.cells,List.size_toArray,List.length_cons,List.length_nil,Nat.zero_add,show growR.t 25=70 from rfl]at hge ⊢
    omega
def hsA:List Box:=[.cells (.ty 89) [.d (.int .i64 0), .d (.int .i64 0)]]
theorem as_nil_call (a c:Int):HCall Tryz.prog [] 32 [.ifo 89 true [.int .i64 a, .int .i64 c], .ifp 91 0 0] hsA (.d (.bool false)) hsA:=by
 intro g w us hs hu
 obtain⟨h1,h2⟩:=hu
 match us,h1 with
 | [u0,u1],_=>
   have e0:u0= .nilIface:=by
    have:=h2 0 u0 _ rfl rfl
    cases this;rfl
   subst e0
   refine(as_nil u1 w).mono ?_
   rintro e w' ⟨rfl,rfl⟩
   exact⟨_,g,rfl, .d (.bool _),Keep.refl hs⟩
theorem as_hit_call (a c:Int):HCall Tryz.prog [] 32 [.ifo 89 false [.int .i64 a, .int .i64 c], .ifp 91 0 0] hsA (.d (.bool true)) [.cells (.ty 89) [.d (.int .i64 a), .d (.int .i64 c)]]:=by
 intro g w us hs hu
 obtain⟨h1,h2⟩:=hu
 match us,h1 with
 | [u0,u1],_=>
   have e0:u0= .iface 89 (.agg #[.int .i64 a, .int .i64 c]):=by
    have:=h2 0 u0 _ rfl rfl
    cases this with
    |ifo1 t vs cs hl h=>
     congr 2
     match vs,hl,h with
     |⟨[x,y]⟩,_,h=>
      have e1:=h 0 x _ rfl rfl
      have e2:=h 1 y _ rfl rfl
      cases e1;cases e2;rfl
   have e1:u1= .iface 91 (.pointer (some ⟨g.blk 0,0,none⟩)):=by
    have:=h2 1 u1 _ rfl rfl
    cases this;rfl
   subst e0;subst e1
   have hb:=hs.rep 0 _ rfl
   obtain⟨vs,hh,hsz,hr⟩:=boxRep_cells hb
   have hg:w.cell? ⟨0,0,none⟩=some (.iface 156 (.agg #[.pointer (some ⟨12,83,none⟩)])):=(hs.tab.2 (0,[Value.iface 156 (.agg #[.pointer (some ⟨12,83,none⟩)])]) (by simp [gV]) 0).2
   refine(as_hit (g.blk 0) a c vs w hg hh (by simpa using hsz)).mono ?_
   rintro e w' ⟨rfl,rfl⟩
   have hf4:Fr (fun _=>False) w (w4 w (g.blk 0) a c):=(((Fr.alloc _ _ _).trans (Fr.alloc _ _ _)).trans (Fr.alloc _ _ _)).trans (Fr.alloc _ _ _)
   have k1:Keep [] g hsA w g hsA (w4 w (g.blk 0) a c):=Keep.of_fr hs hf4
   have hlt:g.blk 0 < w.heap.size:=(Array.getElem?_eq_some_iff.1 hh).1
   have hh4:(w4 w (g.blk 0) a c).heap[g.blk 0]? =some (.cells vs 89 (0,0)):=by rw[hf4.block _ hlt (fun h=>h)];exact hh
   have hrow:=setRow_heap (w4 w (g.blk 0) a c) (g.blk 0) vs #[.int .i64 a, .int .i64 c] 89 (0,0) hh4
   have k2:=Keep.turn (y:= .cells (.ty 89) [.d (.int .i64 a), .d (.int .i64 c)]) k1.heap (b:=0) rfl [] (.inl ⟨rfl,rfl⟩) rfl rfl rfl (fun _ _=>⟨rfl,rfl⟩) ((setRow_fr (w4 w (g.blk 0) a c) (g.blk 0) #[.int .i64 a, .int .i64 c]).mono fun k hk=>by simp [Box.at?,hk])
    ⟨_,_,hrow,rfl,rfl,fun i u v hu hv=>by
      match i with
      |0=>simp at hu hv;subst hu;subst hv;exact .d (.int _ _)
      |1=>simp at hu hv;subst hu;subst hv;exact .d (.int _ _)
      |i+2=>simp at hu⟩ (fun k hk=> .inl hk)
   exact⟨_,g,rfl, .d (.bool _),k1.trans k2⟩
theorem kn_key {k:Nat}{key:List V}{p:PRes}(h:1000000≤k)(h2:kn k key=some p):k=1000032∧knA key=some p:=by
 unfold kn at h2
 rw[beq_far (show 144 < k by omega),beq_far (show 194 < k by omega),beq_far (show 73 < k by omega)]at h2
 simp only at h2
 split at h2
 ·rename_i hf
  exact⟨Nat.eq_of_beq_eq_true hf,h2⟩
 ·cases h2
theorem kn_good:KGood Tryz.prog kn:=by
 refine⟨kv_good,fun f args p hgf ha h=> ?_,fun f key pn as' hs p hgf hd h=> ?_⟩
 ·unfold kn at h
  split at h
  ·rename_i hf
   have hf:=Nat.eq_of_beq_eq_true hf
   subst hf
   unfold knF at h
   split at h
   ·rename_i s
    split at h
    ·rename_i hd
     cases h
     exact fields_call s (of_decide_eq_true hd)
    ·cases h
   ·cases h
  ·split at h
   ·rename_i hf
    have hf:=Nat.eq_of_beq_eq_true hf
    subst hf
    unfold knG at h
    split at h
    ·rename_i n
     split at h
     ·rename_i hd
      cases h
      exact⟨52,by kernel_rfl,by kernel_rfl,grow_call n (of_decide_eq_true hd)⟩
     ·cases h
    ·cases h
   ·split at h
    ·rename_i hf
     have hf:=Nat.eq_of_beq_eq_true hf
     subst hf
     unfold knI at h
     split at h
     ·rename_i n b
      split at h
      ·rename_i hd
       obtain⟨rfl,h0,h1⟩:=of_decide_eq_true hd
       cases h
       exact⟨[9],[.str], .d (.str ⟨(Lib.itoa n).toArray⟩),by kernel_rfl,by kernel_rfl,rfl,by kernel_rfl,itoa_call n h0 h1⟩
      ·cases h
     ·cases h
    ·split at h
     ·rename_i hf
      have hf:=Nat.eq_of_beq_eq_true hf
      subst hf
      exact absurd hgf (by rw[show goodF Tryz.prog 1000032=false by kernel_rfl];simp)
     ·cases h
 ·obtain⟨hf,hA⟩:=kn_key (of_decide_eq_true (bkey_le f)) h
  clear h
  have hf:f=32:=by have:=bkey_sub f;rw[hf]at this;exact this.symm
  subst hf
  unfold knA at hA
  split at hA
  ·rename_i b a c
   clear hgf
   obtain rfl:=Option.some.inj hA
   clear hA
   have hd:(0,[.ifo 89 b [.int .i64 a, .int .i64 c], .ifp 91 0 0],hsA)=(pn,as',hs):=Option.some.inj hd
   cases hd
   intro ts E q hE hsig hr
   have hts:ts= [4]:=Option.some.inj (hsig.symm.trans (show sigP Tryz.prog 32=some [4] by kernel_rfl))
   subst hts
   have hM:arrsOf hsA= []:=rfl
   rw[hM]
   cases b with
   |true=>
    have e:(bresT sy Tryz.prog 0 [4] [.ifo 89 true [.int .i64 a, .int .i64 c], .ifp 91 0 0] hsA [.bool false, .int .i64 0, .int .i64 0]).run E=some (.d (.bool false),hsA):=by kernel_rfl
    rw[show(PRes.val [.bool false, .int .i64 0, .int .i64 0]).leaves= [.bool false, .int .i64 0, .int .i64 0]from rfl,e]at hr
    cases hr
    exact as_nil_call a c
   |false=>
    have e:(bresT sy Tryz.prog 0 [4] [.ifo 89 false [.int .i64 a, .int .i64 c], .ifp 91 0 0] hsA [.bool true, .int .i64 a, .int .i64 c]).run E=some (.d (.bool true),[.cells (.ty 89) [.d (.int .i64 a), .d (.int .i64 c)]]):=by kernel_rfl
    rw[show(PRes.val [.bool true, .int .i64 a, .int .i64 c]).leaves= [.bool true, .int .i64 a, .int .i64 c]from rfl,e]at hr
    cases hr
    exact as_hit_call a c
  ·cases hA
end Go.Vm
end
