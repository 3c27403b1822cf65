/-
  Part DA of the proof. What is proved by the whole: the statement that the claim names, with no condition. This part: lemmas.
-/
import Derived.Test.YtbfcmcjblknhbaaGreatDoorK
set_option linter.unusedSimpArgs false
set_option linter.unusedVariables false

section
set_option maxRecDepth 1000000
set_option maxHeartbeats 0
namespace Go.Vm
open Go.Proofs
def g11 (A:Sy)(E:Env)(e_:Int):Option PRes:=
 some (PRes.val [(.int .i64 e_)])
theorem g11_eq (A:Sy)(E:Env)(e_:Int):(funT A Tryz.prog cs 11 [V.d (.int .i64 e_)]).run E=g11 A E e_:=by kernel_rfl
theorem g3_eq (A:Sy)(E:Env)(s_:ByteArray)(most_:Int):(funT A Tryz.prog cs 3 [V.d (.str s_),V.d (.int .i64 most_)]).run E=g3 A E s_ most_:=by kernel_rfl
def g10 (A:Sy)(E:Env)(a_:List (List D))(b_:List (List D)):Option PRes:=
 bif (A.bnot (A.ieq (A.rlen a_) (A.rlen b_)))then
  some (PRes.val [(.bool false)])
 else
  E.lp (fun ds1=>
   (opL (A.cell ds1 0) 4).bind fun l2=>
   (opL (A.cell ds1 1) 4).bind fun l3=>
   (opI (A.cell ds1 2) .i64).bind fun n4=>
   bif (A.ilt n4 (A.rlen l2))then
    bif (A.inr n4 (A.rlen l2))then
     (opI (A.cell (A.row l2 n4) 0) .i64).bind fun n5=>
     bif (A.inr n4 (A.rlen l3))then
      (opI (A.cell (A.row l3 n4) 0) .i64).bind fun n6=>
      bif (A.bnot (A.ieq n5 n6))then
       some (.inr (PRes.val [(.bool false)]))
      else
       bif (A.inr n4 (A.rlen l2))then
        (opS (A.cell (A.skip 1 (A.row l2 n4)) 0)).bind fun s7=>
        bif (A.inr n4 (A.rlen l3))then
         (opS (A.cell (A.skip 1 (A.row l3 n4)) 0)).bind fun s8=>
         bif (A.bnot (A.seq s7 s8))then
          some (.inr (PRes.val [(.bool false)]))
         else
          bif (A.inr n4 (A.rlen l2))then
           (opI (A.cell (A.skip 2 (A.row l2 n4)) 0) .i64).bind fun n9=>
           bif (A.inr n4 (A.rlen l3))then
            (opI (A.cell (A.skip 2 (A.row l3 n4)) 0) .i64).bind fun n10=>
            bif (A.bnot (A.ieq n9 n10))then
             some (.inr (PRes.val [(.bool false)]))
            else
             bif (A.inr n4 (A.rlen l2))then
              (opI (A.cell (A.skip 3 (A.row l2 n4)) 0) .i64).bind fun n11=>
              bif (A.inr n4 (A.rlen l3))then
               (opI (A.cell (A.skip 3 (A.row l3 n4)) 0) .i64).bind fun n12=>
               bif (A.bnot (A.ieq n11 n12))then
                some (.inr (PRes.val [(.bool false)]))
               else
                some (.inl [(.sl 4 l2),(.sl 4 l3),(.int .i64 (A.wrap .i64 (A.add n4 1)))])
              else
               none
             else
              none
           else
            none
          else
           none
        else
         none
       else
        none
     else
      none
    else
     none
   else
    some (.inr (PRes.val [(.bool true)]))
  ) [(.sl 4 a_),(.sl 4 b_),(.int .i64 0)]
theorem g10_eq (A:Sy)(E:Env)(a_:List (List D))(b_:List (List D)):(funT A Tryz.prog cs 10 [V.d (.sl 4 a_),V.d (.sl 4 b_)]).run E=g10 A E a_ b_:=by kernel_rfl
def g12 (A:Sy)(E:Env)(p_:ByteArray):Option PRes:=
 (E.call 30 [(.d (.str p_))]).bind fun p1=>
 (opB (A.cell p1.leaves 0)).bind fun b3=>
 bif (A.bnot b3)then
  some (PRes.val [(.str (bs []))])
 else
  bif (A.sfit (bs [39]) p_)then
   bif (A.sfit (A.sapp (bs [39]) p_) (bs [39]))then
    some (PRes.val [(.str (A.sapp (A.sapp (bs [39]) p_) (bs [39])))])
   else
    none
  else
   none
theorem g12_eq (A:Sy)(E:Env)(p_:ByteArray):(funT A Tryz.prog cs 12 [V.d (.str p_)]).run E=g12 A E p_:=by kernel_rfl
def g13 (A:Sy)(E:Env)(p_:ByteArray):Option PRes:=
 (E.call 31 [(.d (.str p_))]).bind fun p1=>
 (opB (A.cell p1.leaves 0)).bind fun b3=>
 bif (A.bnot b3)then
  some (PRes.val [(.str (bs []))])
 else
  bif (A.sfit (bs [39]) p_)then
   bif (A.sfit (A.sapp (bs [39]) p_) (bs [39]))then
    some (PRes.val [(.str (A.sapp (A.sapp (bs [39]) p_) (bs [39])))])
   else
    none
  else
   none
theorem g13_eq (A:Sy)(E:Env)(p_:ByteArray):(funT A Tryz.prog cs 13 [V.d (.str p_)]).run E=g13 A E p_:=by kernel_rfl
theorem tb_app (s u:ByteArray):tb (s++u)=tb s++tb u:=by
 unfold tb
 rw[ByteArray.data_append,Array.toList_append,List.map_append]
theorem c_live:cF 7 []=some (.val [.bool true]):=callF_run 40 fun n=>by
 rw[Nat.add_comm]
 kernel_rfl
theorem c_xnum (n:Int):cF 11 [.d (.int .i64 n)]=some (.val [.int .i64 n]):=by
 refine cOf (by kernel_rfl) rfl ?_
 rw[g11_eq]
 simp only [g11,go1,Option.bind_some,eq_self,cond_true,cond_false,Nat.reduceAdd,Int.reduceEq,Int.reduceLT,Int.reduceLE,Int.reduceSub,Int.reduceAdd]
theorem trows_row {l:List Tk}{i:Nat}{t:Tk}(h:l[i]? =some t):sy.row (trows l) (i:Int)=tkrow t:=by
 rw[sy_row,Int.toNat_natCast,List.getD_eq_getElem?_getD]
 unfold trows
 rw[List.getElem?_map,h];rfl
theorem same_go (l:List Tk)(hl:l.length≤1000000):cF 10 [.d (.sl 4 (trows l)), .d (.sl 4 (trows l))]=some (.val [.bool true]):=by
 have hrl:((trows l).length:Int)=(l.length:Int):=by rw[trows_len]
 have e0:decide (((trows l).length:Int)=((trows l).length:Int))=true:=decT rfl
 refine cOf (by kernel_rfl) rfl ?_
 rw[g10_eq]
 simp only [g10,go1,Option.bind_some,eq_self,cond_true,cond_false,Nat.reduceAdd,Int.reduceEq,Int.reduceLT,Int.reduceLE,Int.reduceSub,Int.reduceAdd,e0]
 refine loopF_at (fun i:Nat=>[.sl 4 (trows l), .sl 4 (trows l), .int .i64 (i:Int)]) (fun i=>i≤l.length) (fun i=>l.length - i) (fun i hi=> ?_) 0 (Nat.zero_le _)
 by_cases h1:i < l.length
 ·left
  have g1:l[i]? =some l[i]:=List.getElem?_eq_getElem h1
  generalize l[i]=t at g1
  have es:(t.s.toList == t.s.toList)=true:=by rw[seq_tb];exact decT rfl
  refine⟨i+1,?_,by omega,by omega⟩
  have r0:sy.cell (tkrow t) 0=some (.int .i64 t.k):=rfl
  have r1:sy.cell (sy.skip 1 (tkrow t)) 0=some (.str t.s):=rfl
  have r2:sy.cell (sy.skip 2 (tkrow t)) 0=some (.int .i64 t.n):=rfl
  have r3:sy.cell (sy.skip 3 (tkrow t)) 0=some (.int .i64 (t.a:Int)):=rfl
  simp only [go1,Option.bind_some,eq_self,cond_true,cond_false,Nat.reduceAdd,Int.reduceEq,Int.reduceLT,Int.reduceLE,Int.reduceSub,Int.reduceAdd,trows_row g1,r0,r1,r2,r3]
  simp (disch:=omega) only [wrap_id,decT,decF,go1,Option.bind_some,eq_self,cond_true,cond_false,Nat.reduceAdd,Int.reduceEq,Int.reduceLT,Int.reduceLE,Int.reduceSub,Int.reduceAdd,hrl,es]
  rw[Int.natCast_add];rfl
 ·right
  have:i=l.length:=by omega
  subst this
  simp only [go1,Option.bind_some,eq_self,cond_true,cond_false,Nat.reduceAdd,Int.reduceEq,Int.reduceLT,Int.reduceLE,Int.reduceSub,Int.reduceAdd]
  simp (disch:=omega) only [wrap_id,decT,decF,go1,Option.bind_some,eq_self,cond_true,cond_false,Nat.reduceAdd,Int.reduceEq,Int.reduceLT,Int.reduceLE,Int.reduceSub,Int.reduceAdd,hrl]
theorem c_xQuote (s:ByteArray)(hs:s.size≤600):cF 12 [.d (.str s)]=some (.val [.str (match pathN (tb s)with
  |true=>bs [39]++s++bs [39]
  |false=>bs [])]):=by
 have k:=c_Path s (by omega)
 have f1:sy.sfit (bs [39]) s=true:=decide_eq_true (by rw[←tb_len (bs [39]),tb_bs];simp;omega)
 have f2:sy.sfit (bs [39]++s) (bs [39])=true:=decide_eq_true (by rw[←tb_len,←tb_len,tb_app,tb_bs];simp [tb_len];omega)
 refine cOf (by kernel_rfl) rfl ?_
 rw[g12_eq]
 simp only [g12,go1,Option.bind_some,eq_self,cond_true,cond_false,Nat.reduceAdd,Int.reduceEq,Int.reduceLT,Int.reduceLE,Int.reduceSub,Int.reduceAdd,k,f1,f2]
 cases pathN (tb s)<;>rfl
theorem c_rxQuote (s:ByteArray)(hs:s.size≤600):cF 13 [.d (.str s)]=some (.val [.str (match pathN (tb s)with
  |true=>bs [39]++s++bs [39]
  |false=>bs [])]):=by
 have k:=c_rPath s (by omega)
 have f1:sy.sfit (bs [39]) s=true:=decide_eq_true (by rw[←tb_len (bs [39]),tb_bs];simp;omega)
 have f2:sy.sfit (bs [39]++s) (bs [39])=true:=decide_eq_true (by rw[←tb_len,←tb_len,tb_app,tb_bs];simp [tb_len];omega)
 refine cOf (by kernel_rfl) rfl ?_
 rw[g13_eq]
 simp only [g13,go1,Option.bind_some,eq_self,cond_true,cond_false,Nat.reduceAdd,Int.reduceEq,Int.reduceLT,Int.reduceLE,Int.reduceSub,Int.reduceAdd,k,f1,f2]
 cases pathN (tb s)<;>rfl
theorem lexS_len (s:ByteArray): ∀(n a:Nat),(tb s).length - a≤n→(lexS s a).1.length≤(tb s).length - a
 |n,a,hn=>by
  have heq:=lexS.eq_def s a
  split at heq
  ·split at heq
   ·rw[heq]
    cases n with
    |zero=>omega
    |succ n=>
     have:=lexS_len s n (a+gapN ((tb s).drop a)+(nextT0 (s.extract (a+gapN ((tb s).drop a)) (tb s).length)).w) (by omega)
     simp only [List.length_cons]
     omega
   ·rw[heq];simp
  ·rw[heq];simp
theorem c_LexAll (s:ByteArray)(most:Int):cF 3 [.d (.str s), .d (.int .i64 most)]=some (.val [.bool true]):=by
 have kl:=c_live
 by_cases h6:600 < ((tb s).length:Int)
 ·refine cOf (by kernel_rfl) rfl ?_
  rw[g3_eq]
  simp only [g3,go1,Option.bind_some,eq_self,cond_true,cond_false,Nat.reduceAdd,Int.reduceEq,Int.reduceLT,Int.reduceLE,Int.reduceSub,Int.reduceAdd,kl]
  simp (disch:=omega) only [wrap_id,decT,decF,go1,Option.bind_some,eq_self,cond_true,cond_false,Nat.reduceAdd,Int.reduceEq,Int.reduceLT,Int.reduceLE,Int.reduceSub,Int.reduceAdd,size_tb,kl]
 ·have hlen:(tb s).length≤600:=by omega
  have hsz:s.size≤600:=by rw[←tb_len];exact hlen
  have ka:=c_All s most (by omega)
  have kb:=c_rAll s most (by omega)
  have q1:=c_xQuote s hsz
  have q2:=c_rxQuote s hsz
  have es: ∀x:ByteArray,(x.toList == x.toList)=true:=fun x=>by rw[seq_tb];exact decT rfl
  have hl:=lexS_len s _ 0 (Nat.le_refl _)
  have s0:=same_go [] (by simp)
  have s1:=same_go ((lexS s 0).1++[endT s]) (by simp;omega)
  have e0:trows []= []:=rfl
  rw[e0]at s0
  unfold allR at ka kb
  refine cOf (by kernel_rfl) rfl ?_
  rw[g3_eq]
  simp only [g3,go1,Option.bind_some,eq_self,cond_true,cond_false,Nat.reduceAdd,Int.reduceEq,Int.reduceLT,Int.reduceLE,Int.reduceSub,Int.reduceAdd,kl]
  rw[size_tb,decF h6]
  cases hm:decide (most < ((tb s).length:Int))with
  |true=>
   rw[hm]at ka kb
   have n3:=c_xnum 3
   simp only [go1,Option.bind_some,eq_self,cond_true,cond_false,Nat.reduceAdd,Int.reduceEq,Int.reduceLT,Int.reduceLE,Int.reduceSub,Int.reduceAdd,ka,kb,s0,n3,q1,q2,kl,es,decide_true]
  |false=>
   rw[hm]at ka kb
   cases ho:(lexS s 0).2.2 with
   |true=>
    rw[ho]at ka kb
    have n0:=c_xnum 0
    simp only [go1,Option.bind_some,eq_self,cond_true,cond_false,Nat.reduceAdd,Int.reduceEq,Int.reduceLT,Int.reduceLE,Int.reduceSub,Int.reduceAdd,ka,kb,s1,n0,q1,q2,kl,es,decide_true]
   |false=>
    rw[ho]at ka kb
    have n2:=c_xnum 2
    simp only [go1,Option.bind_some,eq_self,cond_true,cond_false,Nat.reduceAdd,Int.reduceEq,Int.reduceLT,Int.reduceLE,Int.reduceSub,Int.reduceAdd,ka,kb,s0,n2,q1,q2,kl,es,decide_true]
end Go.Vm
end
