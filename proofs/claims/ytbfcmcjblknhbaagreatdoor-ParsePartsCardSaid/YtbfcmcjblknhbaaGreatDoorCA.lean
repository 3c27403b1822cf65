/-
  Part CA of the proof. What is proved by the whole: the statement that the claim names, with no condition. This part: lemmas.
-/
import Derived.Test.YtbfcmcjblknhbaaGreatDoorK
set_option linter.unusedSimpArgs false
set_option linter.unusedVariables false

section
set_option maxRecDepth 1000000
set_option maxHeartbeats 0
namespace Go.Vm
open Go.Proofs
def g23 (A:Sy)(E:Env)(l_:List (List D))(at_:Int):Option PRes:=
 (E.call 40 [(.d (.sl 4 l_)),(.d (.int .i64 at_))]).bind fun p1=>
 (opB (A.cell p1.leaves 0)).bind fun b3=>
 bif (A.bnot b3)then
  some (.val [(.str (bs [])),(.str (bs [])),(.int .i64 0),(.bool false)])
 else
  (E.call 45 [(.d (.sl 4 l_)),(.d (.int .i64 at_))]).bind fun p4=>
  (opS (A.cell p4.leaves 0)).bind fun s6=>
  (opS (A.cell p4.leaves 1)).bind fun s7=>
  (opI (A.cell p4.leaves 2) .i64).bind fun n8=>
  (opB (A.cell p4.leaves 3)).bind fun b9=>
  bif (A.bnot b9)then
   some (.val [(.str (bs [])),(.str (bs [])),(.int .i64 n8),(.bool false)])
  else
   some (.val [(.str s6),(.str s7),(.int .i64 n8),(.bool true)])
theorem g23_eq (A:Sy)(E:Env)(l_:List (List D))(at_:Int):(funT A Tryz.prog cs 23 [.d (.sl 4 l_),V.d (.int .i64 at_)]).run E=g23 A E l_ at_:=by kernel_rfl
def g25 (A:Sy)(E:Env)(l_:List (List D))(at_:Int):Option PRes:=
 cutO (
  bif (A.ilt at_ 0)then
   some (.inl [(.bool true)])
  else
   some (.inl [(.bool (A.ile (A.rlen l_) at_))])
 ) fun ds1=>
 (opB (A.cell ds1 0)).bind fun b2=>
 cutO (
  bif b2 then
   some (.inl [(.bool true)])
  else
   bif (A.inr (A.wrap .i64 (A.sub (A.rlen l_) 1)) (A.rlen l_))then
    (opI (A.cell (A.row l_ (A.wrap .i64 (A.sub (A.rlen l_) 1))) 0) .i64).bind fun n3=>
    some (.inl [(.bool (A.bnot (A.ieq n3 6)))])
   else
    none
 ) fun ds4=>
 (opB (A.cell ds4 0)).bind fun b5=>
 bif b5 then
  some (.val [(.str (bs [])),(.str (bs [])),(.int .i64 0),(.bool false)])
 else
  (E.call 1000047 (rP l_ at_ false)).bind fun p6=>
  (opS (A.cell p6.leaves 0)).bind fun s8=>
  (opS (A.cell p6.leaves 1)).bind fun s9=>
  oR A p6.leaves 2 fun l10 n11 b12=>
  bif b12 then
   some (.val [(.str (bs [])),(.str (bs [])),(.int .i64 n11),(.bool false)])
  else
   some (.val [(.str s8),(.str s9),(.int .i64 n11),(.bool true)])
theorem g25_eq (A:Sy)(E:Env)(l_:List (List D))(at_:Int):(funT A Tryz.prog cs 25 [.d (.sl 4 l_),V.d (.int .i64 at_)]).run E=g25 A E l_ at_:=by kernel_rfl
def g45 (A:Sy)(E:Env)(l_:List (List D))(from_:Int):Option PRes:=
 (E.call 1000085 (kP 113 l_ from_)).bind fun p1=>
 (opB (A.cell p1.leaves 0)).bind fun b3=>
 bif b3 then
  (opI (A.cell p1.leaves 1) .i64).bind fun n4=>
  oP A p1.leaves 2 fun l5 n6=>
  some (.val [(.str (bs [])),(.str (bs [])),(.int .i64 n4),(.bool false)])
 else
  (opS (A.cell p1.leaves 1)).bind fun s7=>
  (opS (A.cell p1.leaves 2)).bind fun s8=>
  oP A p1.leaves 3 fun l9 n10=>
  some (.val [(.str s7),(.str s8),(.int .i64 n10),(.bool true)])
theorem g45_eq (A:Sy)(E:Env)(l_:List (List D))(from_:Int):(funT A Tryz.prog cs 45 [.d (.sl 4 l_),V.d (.int .i64 from_)]).run E=g45 A E l_ from_:=by kernel_rfl
theorem g6_eq (A:Sy)(E:Env)(s_:ByteArray)(at_:Int):(funT A Tryz.prog cs 6 [.d (.str s_),V.d (.int .i64 at_)]).run E=g6 A E s_ at_:=by kernel_rfl
end Go.Vm
end

section
set_option linter.all false
set_option maxRecDepth 100000
set_option maxHeartbeats 4000000
namespace Go.Vm
open Go.Proofs
def encW:ByteArray × ByteArray × Int × Bool→PRes
 |(a,b,p,ok)=> .val [.str a, .str b, .int .i64 p, .bool ok]
def whenP (l:List Tk)(i:Nat):ByteArray × ByteArray × Int × Bool:=match whenS l i with
 | .ok w j=>(w.1,w.2,(j:Int),true)
 | .bad j=>(bs [],bs [],(j:Int),false)
 | .out=>(bs [],bs [],0,false)
theorem c_pcond {l:List Tk}(hl:LOK l)(i:Nat)(hi:i < l.length):cF 45 [.d (.sl 4 (trows l)), .d (.int .i64 (i:Int))]=some (encW (whenP l i)):=by
 have h:=c_pwhen l hl i hi
 unfold whenP
 refine cOf (by kernel_rfl) rfl ?_
 rw[g45_eq]
 simp only [g45,go1,Nat.reduceAdd,Int.reduceEq,Int.reduceLT,Int.reduceLE,Int.reduceSub,Int.reduceAdd,h]
 cases hR:whenS l i with
 |out=>exact(whenS_ne hl (prs_HQ hl 0) i hR).elim
 |bad j=>rfl
 |ok e j=>rfl
theorem c_pWhen {l:List Tk}(hl:LOK l)(i:Nat)(hi:i < l.length):cF 23 [.d (.sl 4 (trows l)), .d (.int .i64 (i:Int))]=some (encW (whenP l i)):=by
 have hf:=hl.few
 have h1:=c_ptokens l (i:Int) hf
 have h0:okTok l (i:Int)=true:=by
  unfold okTok;rw[decT (by omega),decT (by omega),hl.last];rfl
 rw[h0]at h1
 have h2:=c_pcond hl i hi
 refine cOf (by kernel_rfl) rfl ?_
 rw[g23_eq]
 simp only [g23,go1,Nat.reduceAdd,Int.reduceEq,Int.reduceLT,Int.reduceLE,Int.reduceSub,Int.reduceAdd,h1,h2,Bool.not_true]
 unfold whenP
 cases whenS l i<;>rfl
theorem c_qWhen {l:List Tk}(hl:LOK l)(i:Nat)(hi:i < l.length):cF 25 [.d (.sl 4 (trows l)), .d (.int .i64 (i:Int))]=some (encW (whenP l i)):=by
 have hf:=hl.few
 have hlt:l.length - 1 < l.length:=by have:=hl.pos;omega
 have q1:=in_tk hlt
 have q2:=row_tk hlt
 have q0:=last_at hl.pos hf
 have h2:=QR_cases (q_when hl hi)
 have e1:decide ((i:Int) < 0)=false:=decF (by omega)
 have e2:decide ((l.length:Int)≤(i:Int))=false:=decF (by omega)
 have e3:=hl.last
 rw[trows_len]at q1
 unfold whenP
 refine cOf (by kernel_rfl) rfl ?_
 rw[g25_eq]
 simp only [g25,go1,Nat.reduceAdd,Int.reduceEq,Int.reduceLT,Int.reduceLE,Int.reduceSub,Int.reduceAdd,trows_len,e1,e2,q0,q1,q2,tkrow,e3,decide_true,Bool.not_true]
 rcases h2 with⟨e,j,hR,h3⟩|⟨e,j,hR,hj,h3⟩
 ·rw[hR]
  simp only [go1,Nat.reduceAdd,Int.reduceEq,Int.reduceLT,Int.reduceLE,Int.reduceSub,Int.reduceAdd,oE,h3,valR,wD,List.cons_append,List.nil_append]
  rfl
 ·rw[hR]
  simp only [go1,Nat.reduceAdd,Int.reduceEq,Int.reduceLT,Int.reduceLE,Int.reduceSub,Int.reduceAdd,oE,h3,valR,wD,List.cons_append,List.nil_append]
  rfl
theorem c_pPart0 (l:List Tk)(i:Int)(hl:l.length≤1000000)(h0:okTok l i=false):cF 22 [.d (.sl 4 (trows l)), .d (.int .i64 i)]=some (encP (e0,0,1)):=by
 have h1:=c_ptokens l i hl
 rw[h0]at h1
 refine cOf (by kernel_rfl) rfl ?_
 rw[g22_eq]
 simp only [g22,go1,Nat.reduceAdd,Int.reduceEq,Int.reduceLT,Int.reduceLE,Int.reduceSub,Int.reduceAdd,h1,Bool.not_false]
 rfl
theorem c_pWhen0 (l:List Tk)(i:Int)(hl:l.length≤1000000)(h0:okTok l i=false):cF 23 [.d (.sl 4 (trows l)), .d (.int .i64 i)]=some (encW (bs [],bs [],0,false)):=by
 have h1:=c_ptokens l i hl
 rw[h0]at h1
 refine cOf (by kernel_rfl) rfl ?_
 rw[g23_eq]
 simp only [g23,go1,Nat.reduceAdd,Int.reduceEq,Int.reduceLT,Int.reduceLE,Int.reduceSub,Int.reduceAdd,h1,Bool.not_false]
 rfl
theorem out_of {l:List Tk}(hl:LOK l){i:Int}(h0:okTok l i=false):i < 0∨(l.length:Int)≤i:=by
 unfold okTok at h0
 rw[hl.last]at h0
 simp at h0
 omega
theorem c_qPart0 {l:List Tk}(hl:LOK l)(i:Int)(h0:okTok l i=false):cF 24 [.d (.sl 4 (trows l)), .d (.int .i64 i)]=some (encP (e0,0,1)):=by
 have h:=out_of hl h0
 refine cOf (by kernel_rfl) rfl ?_
 rw[g24_eq]
 simp only [g24,go1,Nat.reduceAdd,Int.reduceEq,Int.reduceLT,Int.reduceLE,Int.reduceSub,Int.reduceAdd,trows_len]
 rcases h with h|h
 ·simp only [decT h,go1,Nat.reduceAdd,Int.reduceEq,Int.reduceLT,Int.reduceLE,Int.reduceSub,Int.reduceAdd];rfl
 ·cases decide (i < 0)<;>(simp only [decT h,go1,Nat.reduceAdd,Int.reduceEq,Int.reduceLT,Int.reduceLE,Int.reduceSub,Int.reduceAdd];rfl)
theorem c_qWhen0 {l:List Tk}(hl:LOK l)(i:Int)(h0:okTok l i=false):cF 25 [.d (.sl 4 (trows l)), .d (.int .i64 i)]=some (encW (bs [],bs [],0,false)):=by
 have h:=out_of hl h0
 refine cOf (by kernel_rfl) rfl ?_
 rw[g25_eq]
 simp only [g25,go1,Nat.reduceAdd,Int.reduceEq,Int.reduceLT,Int.reduceLE,Int.reduceSub,Int.reduceAdd,trows_len]
 rcases h with h|h
 ·simp only [decT h,go1,Nat.reduceAdd,Int.reduceEq,Int.reduceLT,Int.reduceLE,Int.reduceSub,Int.reduceAdd];rfl
 ·cases decide (i < 0)<;>(simp only [decT h,go1,Nat.reduceAdd,Int.reduceEq,Int.reduceLT,Int.reduceLE,Int.reduceSub,Int.reduceAdd];rfl)
def partI (l:List Tk)(i:Int):Ex × Int × Int:=match okTok l i with
 |true=>partS l i.toNat
 |false=>(e0,0,1)
def whenI (l:List Tk)(i:Int):ByteArray × ByteArray × Int × Bool:=match okTok l i with
 |true=>whenP l i.toNat
 |false=>(bs [],bs [],0,false)
theorem okTok_at {l:List Tk}{i:Int}(h:okTok l i=true): ∃k:Nat,i=(k:Int)∧k < l.length:=by
 unfold okTok at h
 simp at h
 exact⟨i.toNat,by omega,by omega⟩
section
variable {l : List Tk} (hl : LOK l) (ht : TS l) (hT : TOK l) (i : Int)
include hl ht hT
theorem cI_pPart:cF 22 [.d (.sl 4 (trows l)), .d (.int .i64 i)]=some (encP (partI l i)):=by
 unfold partI
 cases h:okTok l i with
 |false=>exact c_pPart0 l i hl.few h
 |true=>obtain⟨k,rfl,hk⟩:=okTok_at h;exact c_pPart hl ht k hk
theorem cI_qPart:cF 24 [.d (.sl 4 (trows l)), .d (.int .i64 i)]=some (encP (partI l i)):=by
 unfold partI
 cases h:okTok l i with
 |false=>exact c_qPart0 hl i h
 |true=>obtain⟨k,rfl,hk⟩:=okTok_at h;exact c_qPart hl ht hT k hk
theorem cI_pWhen:cF 23 [.d (.sl 4 (trows l)), .d (.int .i64 i)]=some (encW (whenI l i)):=by
 unfold whenI
 cases h:okTok l i with
 |false=>exact c_pWhen0 l i hl.few h
 |true=>obtain⟨k,rfl,hk⟩:=okTok_at h;exact c_pWhen hl k hk
theorem cI_qWhen:cF 25 [.d (.sl 4 (trows l)), .d (.int .i64 i)]=some (encW (whenI l i)):=by
 unfold whenI
 cases h:okTok l i with
 |false=>exact c_qWhen0 hl i h
 |true=>obtain⟨k,rfl,hk⟩:=okTok_at h;exact c_qWhen hl k hk
theorem partI_fine:(partI l i).1.fine∧(partI l i).1.size≤1000000:=by
 have h0:e0.fine∧e0.size≤1000000:=⟨⟨⟨bs0_size,(fun _ h=>(by cases h)),Nat.zero_le _⟩,trivial⟩,by decide⟩
 unfold partI
 cases h:okTok l i with
 |false=>exact h0
 |true=>
  obtain⟨k,rfl,hk⟩:=okTok_at h
  simp only [Int.toNat_natCast]
  unfold partS
  cases hR:readS l k with
  |out=>exact h0
  |bad j=>exact h0
  |ok e j=>
   have hz:=readS_sz ht hR
   have hj:=((prs_HQ hl (fuel l)).pos .arrow k e j hk hR).2
   have hf:=hl.few
   simp only
   cases smallB e with
   |false=>exact h0
   |true=>
    cases allB e with
    |false=>exact h0
    |true=>exact⟨okS_fine e hz.2 (by omega),by show e.size≤1000000;omega⟩
end
end Go.Vm
end

section
set_option linter.all false
set_option maxRecDepth 100000
set_option maxHeartbeats 4000000
namespace Go.Vm
open Go.Proofs
theorem nextT0_k6 (s:ByteArray):(nextT0 s).k≠6:=by
 unfold nextT0
 simp only
 split
 ·unfold wordT
  simp only
  split
  ·exact(by decide:(2:Int)≠6)
  ·exact(by decide:(1:Int)≠6)
 ·exact(by decide:(3:Int)≠6)
 ·unfold pathT
  split
  ·decide
  ·exact(by decide:(4:Int)≠6)
 ·unfold markT
  split
  ·exact(by decide:(5:Int)≠6)
  ·exact(by decide:(5:Int)≠6)
  ·decide
theorem lexS_k6 (s:ByteArray): ∀(m a:Nat),(tb s).length - a≤m→ ∀t∈(lexS s a).1,t.k≠6
 |m,a,hm=>by
  rw[lexS]
  split
  ·split
   ·rename_i hp h
    have ih:=lexS_k6 s (m - 1) (a+gapN ((tb s).drop a)+(nextT0 (s.extract (a+gapN ((tb s).drop a)) (tb s).length)).w) (by omega)
    intro t ht
    rcases List.mem_cons.1 ht with rfl|ht
    ·exact nextT0_k6 _
    ·exact ih t ht
   ·intro t ht;cases ht
  ·intro t ht;cases ht
 termination_by m a=>(tb s).length - a
 decreasing_by omega
theorem okTok_cut (s:ByteArray)(i:Int):okTok (lexS s 0).1 i=false:=by
 unfold okTok
 cases h0:decide (0≤i)with
 |false=>rfl
 |true=>
  cases h1:decide (i < ((lexS s 0).1.length:Int))with
  |false=>rfl
  |true=>
   have h0:=of_decide_eq_true h0
   have h1:=of_decide_eq_true h1
   have hlt:(lexS s 0).1.length - 1 < (lexS s 0).1.length:=by omega
   have:=lexS_k6 s _ 0 (Nat.le_refl _) _ (List.getElem_mem hlt)
   have e:tkA (lexS s 0).1 ((lexS s 0).1.length - 1)=(lexS s 0).1[(lexS s 0).1.length - 1]:=by
    unfold tkA
    rw[List.getD_eq_getElem?_getD,List.getElem?_eq_getElem hlt,Option.getD_some]
   rw[e]
   simp only [decF this,Bool.and_false]
theorem okTok_nil (i:Int):okTok [] i=false:=by
 unfold okTok
 cases h0:decide (0≤i)with
 |false=>rfl
 |true=>
  have h0:=of_decide_eq_true h0
  have:decide (i < (([]:List Tk).length:Int))=false:=decF (by simp;omega)
  rw[this];rfl
theorem sk0 (t:Tk):sy.cell (tkrow t) 0=some (.int .i64 t.k):=rfl
theorem sk1 (t:Tk):sy.cell (sy.skip 1 (tkrow t)) 0=some (.str t.s):=rfl
theorem sk3 (t:Tk):sy.cell (sy.skip 3 (tkrow t)) 0=some (.int .i64 (t.a:Int)):=rfl
theorem take_tk {l:List Tk}{i:Nat}(h:i < l.length):trows (l.take (i+1))=trows (l.take i)++[tkrow (tkA l i)]:=by
 have hx:l[i]? =some (tkA l i):=by
  unfold tkA
  rw[List.getD_eq_getElem?_getD,List.getElem?_eq_getElem h,Option.getD_some]
 rw[List.take_add_one,hx]
 simp [trows]
theorem c_PParts (s:ByteArray)(i:Int):cF 6 [.d (.str s), .d (.int .i64 i)]=some (.val [.bool true]):=by
 have h0:=c_Plive
 by_cases hs:s.size≤400
 ·have hd:decide ((400:Int) < (s.size:Int))=false:=decF (by omega)
  have h1:=c_rAll s 400 (by omega)
  unfold allR at h1
  rw[←size_tb,hd]at h1
  have key: ∀(l:List Tk) (n f:Int),l.length≤100000→cF 9 [.d (.str s), .d (.int .i64 400)]=some (.val [.sl 4 (trows l), .int .i64 n, .int .i64 f])→(l= []∧f≠0∨f=0∧l=toksS s)→cF 6 [.d (.str s), .d (.int .i64 i)]=some (.val [.bool true]):=by
   intro l n f hlen hA hcase
   refine cOf (by kernel_rfl) rfl ?_
   rw[g6_eq]
   simp only [g6,go1,Nat.reduceAdd,Int.reduceEq,Int.reduceLT,Int.reduceLE,Int.reduceSub,Int.reduceAdd,hd,hA,oP]
   refine loopF_at (fun j:Nat=>[.int .i64 i, .sl 4 (trows l), .int .i64 f, .int .i64 (j:Int), .sl 4 (trows (l.take j))]) (fun j=>j≤l.length) (fun j=>l.length - j) (fun j hj=> ?_) 0 (Nat.zero_le _)
   by_cases hlt:j < l.length
   ·left
    refine⟨j+1,?_,hlt,by omega⟩
    have q1:=in_tk hlt
    have q2:=row_tk hlt
    have hfit:decide (((trows (l.take j)).length+[tkrow (tkA l j)].length)*(40+1)≤140737488355328)=true:=decT (by
     rw[trows_len,List.length_take];simp only [List.length_cons,List.length_nil];omega)
    rw[take_tk hlt]
    rw[trows_len]at q1
    simp only [go1,Nat.reduceAdd,Int.reduceEq,Int.reduceLT,Int.reduceLE,Int.reduceSub,Int.reduceAdd,oP,trows_len,ilt_at hlt,q1,q2,sk0,sk1,sk2,sk3,wrap_succ hlt (by omega)]
    simp only [trows_len]at hfit
    rw[show[[D.int .i64 (tkA l j).k, .str (tkA l j).s, .int .i64 (tkA l j).n, .int .i64 ((tkA l j).a:Int)]]= [tkrow (tkA l j)]from rfl,hfit]
    rfl
   ·right
    have:j=l.length:=by omega
    subst this
    have q0:=c_Pnum
    rcases hcase with⟨rfl,hf⟩|⟨rfl,rfl⟩
    ·have p1:=c_pPart0 [] i (by decide) (okTok_nil i)
     have w1:=c_pWhen0 [] i (by decide) (okTok_nil i)
     simp only [encP,encW,e0]at p1 w1
     simp only [go1,Nat.reduceAdd,Int.reduceEq,Int.reduceLT,Int.reduceLE,Int.reduceSub,Int.reduceAdd,oE,oP,trows_len,ilt_self,List.take_length,p1,w1,q0,h0,decF hf,Bool.not_false,decide_true]
    ·have hs':s.size≤100000:=by omega
     have hl:=LOK_toks s hs'
     have hT:=TOK_of fun t ht=>(toks_mem hs' ht).2
     have hS:=TS_of fun t ht=>(toks_mem hs' ht).1
     have p1:=cI_pPart hl hS hT i
     have p2:=cI_qPart hl hS hT i
     have w1:=cI_pWhen hl hS hT i
     have w2:=cI_qWhen hl hS hT i
     have hfine:=partI_fine hl hS hT i
     have p3:=c_pPart0 (lexS s 0).1 i (by simp only [toksS,List.length_append]at hlen;omega) (okTok_cut s i)
     generalize partI (toksS s) i=R at*
     obtain⟨⟨k,n1,s1,o,a,u⟩,p,r⟩:=R
     have h4:=c_reSame 1000000 k n1 s1 o a u hfine.2 (Nat.le_refl _) hfine.1
     generalize whenI (toksS s) i=W at*
     obtain⟨wa,wb,wp,wo⟩:=W
     have hpos:=hl.pos
     have e1:decide ((0:Int) < ((toksS s).length:Int))=true:=decT (by omega)
     have e2:=last_at hpos (by omega)
     have e3:decide ((0:Int)≤(((toksS s).length - 1:Nat):Int)∧(((toksS s).length - 1:Nat):Int)≤((toksS s).length:Int))=true:=decT ⟨by omega,by omega⟩
     have e4:List.drop (Int.toNat 0) (List.take (((toksS s).length - 1:Nat):Int).toNat (trows (toksS s)))=trows (lexS s 0).1:=by
      rw[Int.toNat_natCast]
      simp [toksS,trows]
     simp only [encP,encW,e0]at p1 p2 p3 w1 w2
     simp only [go1,Nat.reduceAdd,Int.reduceEq,Int.reduceLT,Int.reduceLE,Int.reduceSub,Int.reduceAdd,oE,oP,trows_len,ilt_self,List.take_length,p1,p2,w1,w2,q0,h0,h4,e1,e2,Bool.not_true,decide_true]
     simp only [go1,Nat.reduceAdd,Int.reduceEq,Int.reduceLT,Int.reduceLE,Int.reduceSub,Int.reduceAdd,e3,e4,p3,q0,decide_true,Bool.not_true,Bool.false_and,seq_tb,beq_self_eq_true,Bool.and_self]
  cases hx:(lexS s 0).2.2 with
  |true=>
   rw[hx]at h1
   have:=LOK_toks s (by omega)
   have hlen:=(lexS_tok s _ 0 (Nat.le_refl _)).2
   have hb:(tb s).length=s.size:=tb_len s
   exact key (toksS s) _ _ (by simp only [toksS,List.length_append,List.length_cons,List.length_nil];omega) h1 (.inr ⟨rfl,rfl⟩)
  |false=>
   rw[hx]at h1
   exact key [] _ _ (Nat.zero_le _) h1 (.inl ⟨rfl,by decide⟩)
 ·have hd:decide ((400:Int) < (s.size:Int))=true:=decT (by omega)
  refine cOf (by kernel_rfl) rfl ?_
  rw[g6_eq]
  simp only [g6,go1,Nat.reduceAdd,Int.reduceEq,Int.reduceLT,Int.reduceLE,Int.reduceSub,Int.reduceAdd,hd,h0]
end Go.Vm
end
