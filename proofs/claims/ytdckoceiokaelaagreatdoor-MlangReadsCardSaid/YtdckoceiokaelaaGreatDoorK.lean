/-
  Part K of the proof. What is proved by the whole: the statement that the claim names, with no condition. This part: lemmas.
-/
import Derived.Test.YtdckoceiokaelaaGreatDoorJ
set_option linter.unusedSimpArgs false
set_option linter.unusedVariables false

section
set_option linter.all false
set_option maxRecDepth 100000
set_option maxHeartbeats 4000000
namespace Go.Vm
open Go.Proofs
theorem arms_eq (k:Int)(a:List ByteArray):((!(decide ((if k=11 then(1:Int)else if k=12 then 6 else 0) < (a.length:Int)) || (decide (0 < (if k=11 then(1:Int)else if k=12 then 6 else 0))&&decide ((a.length:Int)=0))))&&(decide a.Nodup&&a.all armN))=armsB k a:=by
 unfold armsB
 by_cases h1:k=11
 ·subst h1
  match a with
  | []=>rfl
  | [x]=>simp
  |x::y::r=>
   have:decide ((1:Int) < ((x::y::r).length:Int))=true:=decide_eq_true (by simp only [List.length_cons];omega)
   have h2:decide ((x::y::r).length=1)=false:=decide_eq_false (by simp only [List.length_cons];omega)
   simp only [if_true,this,Bool.true_or,Bool.not_true,Bool.false_and,decide_true,cond_true,h2,Bool.and_false]
 ·by_cases h2:k=12
  ·subst h2
   have e1:decide ((6:Int) < (a.length:Int))= !decide (a.length≤6):=by rw[Bool.eq_iff_iff];simp;omega
   have e2:decide ((a.length:Int)=0)= !decide (1≤a.length):=by rw[Bool.eq_iff_iff];simp;try omega
   have e3:decide ((12:Int)=11)=false:=rfl
   have e4:decide ((0:Int) < 6)=true:=rfl
   simp only [if_neg h1,if_true,e1,e2,e3,e4,decide_true,cond_true,cond_false,Bool.true_and]
   cases decide (a.length≤6)<;>cases decide (1≤a.length)<;>cases decide a.Nodup<;>cases a.all armN<;>rfl
  ·have e4:decide ((0:Int) < 0)=false:=rfl
   simp only [if_neg h1,if_neg h2,decF h1,decF h2,cond_false,e4,Bool.false_and,Bool.or_false]
   match a with
   | []=>rfl
   |x::r=>
    have h3:decide ((0:Int) < ((x::r).length:Int))=true:=decide_eq_true (by simp only [List.length_cons];omega)
    have h4:decide ((x::r).length=0)=false:=rfl
    rw[h3,h4];try simp
theorem nlt (a b:Int):decide (a < b)= !decide (b≤a):=by
 rw[Bool.eq_iff_iff];simp
theorem c_epart (k n:Int)(s:ByteArray)(o:Int)(a:List ByteArray)(u:List Ex)(hs:s.size≤100000)(ha:a.length≤1000000)(hu:Ex.sizes u≤1000000):
  cF 56 [kE k n s o (srows a) (Ex.rows u)]=some (.val [.bool (partB (.mk k n s o a u))]):=by
 have h1:=c_eof k n s o a (Ex.rows u) hs
 have h2:=c_iOnce a ha
 have h3:=c_xContFn a ha
 have h4:=rows_len u
 have h5:=srows_len a
 simp only [partB]
 rw[←arms_eq]
 refine cOf (by kernel_rfl) rfl ?_
 rw[g56_eq]
 simp only [g56,go1,Nat.reduceAdd,Int.reduceEq,Int.reduceLT,Int.reduceLE,Int.reduceSub,Int.reduceAdd,h1,h2,h3,h4,h5]
 cases hk:kindB k with
 |false=>simp only [go1,Nat.reduceAdd,Int.reduceEq,Int.reduceLT,Int.reduceLE,Int.reduceSub,Int.reduceAdd,oQ];try rfl
 |true=>
  simp only [go1,Nat.reduceAdd,Int.reduceEq,Int.reduceLT,Int.reduceLE,Int.reduceSub,Int.reduceAdd,oQ,nlt,h2,h3]
  cases numB k n with
  |false=>simp only [go1,Nat.reduceAdd,Int.reduceEq,Int.reduceLT,Int.reduceLE,Int.reduceSub,Int.reduceAdd,Bool.not_false,Bool.not_true];try rfl
  |true=>
   cases nameB k s with
   |false=>simp only [go1,Nat.reduceAdd,Int.reduceEq,Int.reduceLT,Int.reduceLE,Int.reduceSub,Int.reduceAdd,Bool.not_false,Bool.not_true];try rfl
   |true=>
    cases opB_ k o with
    |false=>simp only [go1,Nat.reduceAdd,Int.reduceEq,Int.reduceLT,Int.reduceLE,Int.reduceSub,Int.reduceAdd,Bool.not_false,Bool.not_true];try rfl
    |true=>
     simp only [go1,Nat.reduceAdd,Int.reduceEq,Int.reduceLT,Int.reduceLE,Int.reduceSub,Int.reduceAdd,Bool.not_true]
     cases hlo:decide (loB k n a.length≤(u.length:Int))with
     |false=>simp only [go1,Nat.reduceAdd,Int.reduceEq,Int.reduceLT,Int.reduceLE,Int.reduceSub,Int.reduceAdd,Bool.not_false,Bool.not_true,Bool.true_or,Bool.false_and,Bool.and_false]
     |true=>
      generalize (if k=11 then(1:Int)else if k=12 then 6 else 0)=M
      generalize (!decide ((a.length:Int)≤M) || !decide (M≤0)&&decide ((a.length:Int)=0))=X
      cases decide ((u.length:Int)≤hiB k n a.length)with
      |false=>simp only [go1,Nat.reduceAdd,Int.reduceEq,Int.reduceLT,Int.reduceLE,Int.reduceSub,Int.reduceAdd,Bool.not_false,Bool.not_true,Bool.or_true,Bool.false_and,Bool.and_false]
      |true=>
       cases X with
       |true=>simp only [go1,Nat.reduceAdd,Int.reduceEq,Int.reduceLT,Int.reduceLE,Int.reduceSub,Int.reduceAdd,Bool.not_true,Bool.true_or,Bool.false_or,Bool.false_and]
       |false=>
        cases decide a.Nodup with
        |false=>simp only [go1,Nat.reduceAdd,Int.reduceEq,Int.reduceLT,Int.reduceLE,Int.reduceSub,Int.reduceAdd,Bool.not_true,Bool.not_false,Bool.or_true,Bool.or_false,Bool.false_or,Bool.false_and,Bool.true_and]
        |true=>
         cases a.all armN with
         |false=>simp only [go1,Nat.reduceAdd,Int.reduceEq,Int.reduceLT,Int.reduceLE,Int.reduceSub,Int.reduceAdd,Bool.not_true,Bool.not_false,Bool.or_true,Bool.or_false,Bool.false_or,Bool.false_and,Bool.true_and]
         |true=>
          simp only [go1,Nat.reduceAdd,Int.reduceEq,Int.reduceLT,Int.reduceLE,Int.reduceSub,Int.reduceAdd,Bool.not_true,Bool.not_false,Bool.or_true,Bool.or_false,Bool.false_or,Bool.false_and,Bool.true_and]
          by_cases h8:k=8
          ·subst h8
           match u,hlo,hu with
           | [],hlo,_=>cases hlo
           | .mk k2 n2 s2 o2 a2 u2::u,hlo,hu=>
             have hx:(Ex.mk k2 n2 s2 o2 a2 u2::u)[0]? =some (.mk k2 n2 s2 o2 a2 u2):=rfl
             have hc:=c_eConst k2 n2 s2 o2 a2 u2 (by simp only [Ex.sizes,Ex.size]at hu;omega)
             have hr:sy.row (Ex.rows (.mk k2 n2 s2 o2 a2 u2::u)) 0= [.int .i64 k2, .int .i64 n2, .str s2, .int .i64 o2, .sl 1 (srows a2), .sl 6 (Ex.rows u2)]:=row_of hx
             have hz:decide (((Ex.mk k2 n2 s2 o2 a2 u2::u).length:Int)≤0)=false:=decide_eq_false (by simp only [List.length_cons];omega)
             simp only [go1,Nat.reduceAdd,Int.reduceEq,Int.reduceLT,Int.reduceLE,Int.reduceSub,Int.reduceAdd,hz,hr,oE,hc,conB,decide_true,Bool.not_true,Bool.not_false]
          ·simp only [go1,Nat.reduceAdd,Int.reduceEq,Int.reduceLT,Int.reduceLE,Int.reduceSub,Int.reduceAdd,decF h8,conB,Bool.not_false]
end Go.Vm
end

section
set_option linter.all false
set_option maxRecDepth 100000
set_option maxHeartbeats 4000000
namespace Go.Vm
open Go.Proofs
theorem drop_at {l:List Nat}{f i:Nat}(hf:f≤i)(hi:i < l.length):l.drop f=(l.take i).drop f++l.getD i 0::l.drop (i+1):=by
 have h1:l=l.take i++l.getD i 0::l.drop (i+1):=by
  rw[List.getD_eq_getElem?_getD,List.getElem?_eq_getElem hi]
  simp only [Option.getD_some]
  rw[List.getElem_cons_drop hi,List.take_append_drop]
 conv=>lhs;rw[h1]
 rw[List.drop_append_of_le_length (by rw[List.length_take];omega)]
theorem take_drop_snoc {l:List Nat}{f i:Nat}(hf:f≤i)(hi:i < l.length):(l.take (i+1)).drop f=(l.take i).drop f++[l.getD i 0]:=by
 rw[List.take_add_one,List.getElem?_eq_getElem hi,List.getD_eq_getElem?_getD,List.getElem?_eq_getElem hi]
 simp only [Option.toList_some,Option.getD_some]
 rw[List.drop_append_of_le_length (by rw[List.length_take];omega)]
theorem c_rcut (s:ByteArray)(c:Nat)(hs:s.size≤100000): ∃l:List ByteArray,cF 61 [.d (.str s), .d (.int .u8 (c:Int))]=some (.own 9 1 (srows l))∧l.map tb=splitN c (tb s):=by
 have hl:=tb_len s
 suffices ∃p,cF 61 [.d (.str s), .d (.int .u8 (c:Int))]=some p∧ ∃l:List ByteArray,p= .own 9 1 (srows l)∧l.map tb=splitN c (tb s) by
  obtain⟨_,h,l,rfl,hl⟩:=this
  exact⟨l,h,hl⟩
 refine cOfP (by kernel_rfl) rfl ?_
 rw[g61_eq]
 simp only [g61,go1,Nat.reduceAdd,Int.reduceEq,Int.reduceLT,Int.reduceLE,Int.reduceSub,Int.reduceAdd]
 refine loopF_ex (fun x:List ByteArray × Nat × Nat=>[.str s, .int .u8 (c:Int), .int .i64 (x.2.1:Int), .int .i64 (x.2.2:Int), .sl 1 (srows x.1)])
  (fun x=>x.1.length≤x.2.2∧((x.2.2≤(tb s).length∧x.2.1≤x.2.2∧splitN c (tb s)=x.1.map tb++splitN c ((tb s).drop x.2.1)∧ ∀y∈((tb s).take x.2.2).drop x.2.1,y≠c)∨(x.2.2=(tb s).length+1∧x.1.map tb=splitN c (tb s)))) (fun x=>(tb s).length+1 - x.2.2) (fun x hx=> ?_) ([],0,0) ⟨Nat.le_refl _, .inl ⟨Nat.zero_le _,Nat.le_refl _,rfl,by simp⟩⟩
 obtain⟨done,f,i⟩:=x
 obtain⟨hd,hx⟩:=hx
 simp only at hd hx
 rcases hx with⟨hi,hf,h1,h2⟩|⟨hi,h1⟩
 ·have hw:IntKind.i64.wrap ((i:Int)+1)=((i+1:Nat):Int):=by rw[wrap_id (by omega) (by omega)];rfl
  have hfit:decide ((done.length+1)*(16+1)≤140737488355328)=true:=decT (by omega)
  by_cases hlt:i < (tb s).length
  ·simp only [go1,Nat.reduceAdd,Int.reduceEq,Int.reduceLT,Int.reduceLE,Int.reduceSub,Int.reduceAdd,size_tb,byte_tb,srows_len,hw]
   rw[decT (p:=(i:Int)≤((tb s).length:Int)) (by omega),decF (p:=(i:Int)=((tb s).length:Int)) (by omega),decT (p:=0≤(i:Int)∧(i:Int) < ((tb s).length:Int)) (by omega)]
   by_cases hc:(tb s).getD i 0=c
   ·left
    refine⟨(done++[s.extract (f:Int).toNat (i:Int).toNat],i+1,i+1),?_,⟨?_, .inl ⟨hlt,Nat.le_refl _,?_,?_⟩⟩,(by show(tb s).length+1 - (i+1) < (tb s).length+1 - i;omega)⟩
    ·rw[decT (p:=(((tb s).getD i 0:Nat):Int)=(c:Int)) (by omega),decT (p:=0≤(f:Int)∧(f:Int)≤(i:Int)∧(i:Int)≤((tb s).length:Int)) (by omega)]
     simp only [go1,Nat.reduceAdd,Int.reduceEq,Int.reduceLT,Int.reduceLE,Int.reduceSub,Int.reduceAdd,List.length_singleton,hfit,srows,List.map_append,List.map_cons,List.map_nil,srow]
    ·simp;omega
    ·simp only
     rw[h1,drop_at hf hlt,hc,splitN_mark c _ _ h2,List.map_append,List.map_cons,List.map_nil,tb_scut,Int.toNat_natCast,Int.toNat_natCast]
     simp
    ·intro y hy
     simp only at hy
     rw[List.drop_of_length_le (by rw[List.length_take];omega)]at hy
     simp at hy
   ·left
    refine⟨(done,f,i+1),?_,⟨(by show done.length≤i+1;omega), .inl ⟨hlt,(by show f≤i+1;omega),h1,?_⟩⟩,(by show(tb s).length+1 - (i+1) < (tb s).length+1 - i;omega)⟩
    ·rw[decF (p:=(((tb s).getD i 0:Nat):Int)=(c:Int)) (by omega)]
     simp only [go1,Nat.reduceAdd,Int.reduceEq,Int.reduceLT,Int.reduceLE,Int.reduceSub,Int.reduceAdd];try rfl
    ·intro y hy
     simp only at hy
     rw[take_drop_snoc hf hlt]at hy
     rcases List.mem_append.1 hy with hy|hy
     ·exact h2 y hy
     ·simp at hy;rw[hy];simpa using hc
  ·have hie:i=(tb s).length:=by omega
   left
   refine⟨(done++[s.extract (f:Int).toNat (i:Int).toNat],i+1,i+1),?_,⟨(by simp;omega), .inr ⟨(by show i+1=(tb s).length+1;omega),?_⟩⟩,(by show(tb s).length+1 - (i+1) < (tb s).length+1 - i;omega)⟩
   ·simp only [go1,Nat.reduceAdd,Int.reduceEq,Int.reduceLT,Int.reduceLE,Int.reduceSub,Int.reduceAdd,size_tb,srows_len,hw]
    rw[decT (p:=(i:Int)≤((tb s).length:Int)) (by omega),decT (p:=(i:Int)=((tb s).length:Int)) (by omega),decT (p:=0≤(f:Int)∧(f:Int)≤(i:Int)∧(i:Int)≤((tb s).length:Int)) (by omega)]
    simp only [go1,Nat.reduceAdd,Int.reduceEq,Int.reduceLT,Int.reduceLE,Int.reduceSub,Int.reduceAdd,List.length_singleton,hfit,srows,List.map_append,List.map_cons,List.map_nil,srow]
   ·simp only
    rw[hie,List.take_length]at h2
    rw[h1,splitN_none c _ h2,List.map_append,List.map_cons,List.map_nil,tb_scut,Int.toNat_natCast,Int.toNat_natCast,hie,List.take_length]
 ·right
  simp only [go1,Nat.reduceAdd,Int.reduceEq,Int.reduceLT,Int.reduceLE,Int.reduceSub,Int.reduceAdd,size_tb]
  rw[decF (p:=(i:Int)≤((tb s).length:Int)) (by omega)]
  exact⟨_,rfl,done,rfl,h1⟩
theorem num_split (l:List Nat):numN l=(!(decide (l.length < 1) || decide (3 < l.length) || decide (l.getD 0 0=48))&&l.all digitN):=by
 unfold numN
 by_cases h1:1≤l.length
 ·by_cases h3:l.length≤3
  ·rw[decT h1,decT h3,decF (p:=l.length < 1) (by omega),decF (p:=3 < l.length) (by omega)];simp
  ·rw[decT h1,decF h3,decF (p:=l.length < 1) (by omega),decT (p:=3 < l.length) (by omega)];simp
 ·rw[decF h1,decT (p:=l.length < 1) (by omega)];simp
theorem c_rPath (s:ByteArray)(hs:s.size≤100000):cF 30 [.d (.str s)]=some (.val [.bool (pathN (tb s))]):=by
 obtain⟨l,h,hl⟩:=c_rcut s 47 hs
 have hsz:=mem_size hl
 have hll:l.length≤100001:=by
  have:=congrArg List.length hl
  rw[List.length_map,splitN_len]at this
  have h2:(tb s).count 47≤(tb s).length:=List.count_le_length
  rw[tb_len]at h2
  omega
 unfold pathN
 rw[←hl,List.all_map]
 have h:cF 61 [.d (.str s), .d (.int .u8 47)]=_:=h
 refine cOf (by kernel_rfl) rfl ?_
 rw[g30_eq]
 simp only [g30,go1,Nat.reduceAdd,Int.reduceEq,Int.reduceLT,Int.reduceLE,Int.reduceSub,Int.reduceAdd,h]
 refine loopF_at (fun i:Nat=>[.sl 1 (srows l), .int .i64 (i:Int)]) (fun i=>i≤l.length∧(l.take i).all (partN ∘ tb)=true) (fun i=>l.length - i) (fun i hi=> ?_) 0 ⟨Nat.zero_le _,by simp⟩
 by_cases hlt:i < l.length
 ·have hx:=List.getElem?_eq_getElem hlt
  have hgd:l.getD i ByteArray.empty=l[i]:=by rw[List.getD_eq_getElem?_getD,hx];rfl
  have hxs:=Nat.le_trans (hsz _ (List.getElem_mem hlt)) hs
  generalize hxe:l[i]=x at hx hgd hxs
  obtain⟨ps,hp,hps⟩:=c_rcut x 46 hxs
  have hp:cF 61 [.d (.str x), .d (.int .u8 46)]=_:=hp
  have hbad:partN (tb x)=false→l.all (partN ∘ tb)=false:=fun hb=>all_false (d:=ByteArray.empty) hlt (by rw[hgd];exact hb)
  have hgood:partN (tb x)=true→(i+1≤l.length∧(l.take (i+1)).all (partN ∘ tb)=true):=fun hb=>⟨hlt,all_snoc (d:=ByteArray.empty) hlt hi.2 (by rw[hgd];exact hb)⟩
  have hpe:partN (tb x)=match ps.map tb with
   | [a]=>lowN a
   | [a,b]=>lowN a&&numN b
   |_=>false:=by rw[hps];rfl
  have hpl:=splitN_len 46 (tb x)
  rw[←hps,List.length_map]at hpl
  have hsub: ∀y∈ps,y.size≤100000:=by
   have key: ∀(t:List Nat),∀p∈splitN 46 t,p.length≤t.length:=by
    intro t
    induction t with
    |nil=>intro p hp;simp [splitN]at hp;simp [hp]
    |cons x xs ih=>
     intro p hp
     unfold splitN at hp
     split at hp
     ·rcases List.mem_cons.1 hp with rfl|hp
      ·simp
      ·have:=ih p hp;simp;omega
     ·split at hp
      ·simp at hp;simp [hp]
      ·rename_i q qs hq
       rcases List.mem_cons.1 hp with rfl|hp
       ·have:=ih q (by rw[hq];exact List.mem_cons_self);simp;omega
       ·have:=ih p (by rw[hq];exact List.mem_cons_of_mem _ hp);simp;omega
   intro y hy
   have:=key (tb x) (tb y) (by rw[←hps];exact List.mem_map_of_mem hy)
   rw[tb_len,tb_len]at this
   omega
  simp only [go1,Nat.reduceAdd,Int.reduceEq,Int.reduceLT,Int.reduceLE,Int.reduceSub,Int.reduceAdd,srows_len,ilt_at hlt,inr_at hlt,srows_at hx,hp]
  match ps,hpe,hpl,hsub with
  | [],_,hpl,_=>simp at hpl
  | [a],hpe,_,hsub=>
    have ha:=c_rLow a (hsub a List.mem_cons_self)
    simp only [List.map_cons,List.map_nil]at hpe
    simp only [List.length_singleton,srows,List.map_cons,List.map_nil,srow,sy_row,go1,Nat.reduceAdd,Int.reduceEq,Int.reduceLT,Int.reduceLE,Int.reduceSub,Int.reduceAdd,List.getD_cons_zero,Int.toNat_zero,ha,hpe.symm]
    cases hb:partN (tb x)with
    |false=>
     right
     rw[hbad hb];rfl
    |true=>
     left
     refine⟨i+1,?_,hgood hb,by omega⟩
     rw[wrap_succ hlt (by omega)];rfl
  | [a,b],hpe,_,hsub=>
    have ha:=c_rLow a (hsub a List.mem_cons_self)
    have hbl:=tb_len b
    have hbs:=hsub b (by simp)
    simp only [List.map_cons,List.map_nil]at hpe
    rw[num_split]at hpe
    have hr1:sy.row (srows [a,b]) 1= [.str b]:=rfl
    have hr0:sy.row (srows [a,b]) 0= [.str a]:=rfl
    simp only [List.length_cons,List.length_nil,hr0,hr1,go1,Nat.reduceAdd,Int.reduceEq,Int.reduceLT,Int.reduceLE,Int.reduceSub,Int.reduceAdd,ha,size_tb,byte_tb0]
    cases hla:lowN (tb a)with
    |false=>
     right
     rw[hla,Bool.false_and]at hpe
     rw[hbad hpe];rfl
    |true=>
     rw[hla,Bool.true_and]at hpe
     have e1:decide (((tb b).length:Int) < 1)=decide ((tb b).length < 1):=by rw[Bool.eq_iff_iff];simp only [decide_eq_true_eq];omega
     have e3:decide (3 < ((tb b).length:Int))=decide (3 < (tb b).length):=by rw[Bool.eq_iff_iff];simp only [decide_eq_true_eq];omega
     have e4:decide ((((tb b).getD 0 0:Nat):Int)=48)=decide ((tb b).getD 0 0=48):=by rw[Bool.eq_iff_iff];simp only [decide_eq_true_eq];omega
     simp only [go1,Nat.reduceAdd,Int.reduceEq,Int.reduceLT,Int.reduceLE,Int.reduceSub,Int.reduceAdd,e1,e3,e4]
     by_cases q1:(tb b).length < 1
     ·right
      rw[decT q1]at hpe ⊢
      rw[hbad (by rw[hpe];simp)];rfl
     by_cases q3:3 < (tb b).length
     ·right
      rw[decF q1,decT q3]at hpe ⊢
      rw[hbad (by rw[hpe];simp)];rfl
     rw[decF q1,decF q3]at hpe ⊢
     rw[decT (p:=0 < ((tb b).length:Int)) (by omega)]
     by_cases q4:(tb b).getD 0 0=48
     ·right
      rw[decT q4]at hpe ⊢
      rw[hbad (by rw[hpe];simp)];rfl
     rw[decF q4]at hpe ⊢
     simp only [go1,Nat.reduceAdd,Int.reduceEq,Int.reduceLT,Int.reduceLE,Int.reduceSub,Int.reduceAdd]at hpe ⊢
     cases had:(tb b).all digitN with
     |true=>
      left
      rw[had]at hpe
      refine⟨i+1,?_,hgood hpe,by omega⟩
      refine loopF_at (r:=Sum.inl [D.sl 1 (srows l),D.int .i64 ((i+1:Nat):Int)]) (fun k:Nat=>[.sl 1 (srows l), .int .i64 (i:Int), .str b, .int .i64 (k:Int)]) (fun k=>k≤(tb b).length) (fun k=>(tb b).length - k) (fun k hk=> ?_) 0 (Nat.zero_le _)
      by_cases hkl:k < (tb b).length
      ·left
       refine⟨k+1,?_,hkl,by omega⟩
       have hdg:digitN ((tb b).getD k 0)=true:=by
        rw[List.getD_eq_getElem?_getD,List.getElem?_eq_getElem hkl]
        exact List.all_eq_true.1 had _ (List.getElem_mem hkl)
       simp only [go1,Nat.reduceAdd,Int.reduceEq,Int.reduceLT,Int.reduceLE,Int.reduceSub,Int.reduceAdd,size_tb,ilt_at hkl,inr_at hkl,byte_tb,c_in,inI_digit,hdg,wrap_succ hkl (by omega)]
       try rfl
      ·right
       have:k=(tb b).length:=by omega
       subst this
       simp only [go1,Nat.reduceAdd,Int.reduceEq,Int.reduceLT,Int.reduceLE,Int.reduceSub,Int.reduceAdd,size_tb,ilt_self,wrap_succ hlt (by omega)]
       try rfl
     |false=>
      right
      rw[had]at hpe
      rw[hbad hpe]
      refine loopF_at (r:=Sum.inr (PRes.val [D.bool false])) (fun k:Nat=>[.sl 1 (srows l), .int .i64 (i:Int), .str b, .int .i64 (k:Int)]) (fun k=>k≤(tb b).length∧((tb b).take k).all digitN=true) (fun k=>(tb b).length - k) (fun k hk=> ?_) 0 ⟨Nat.zero_le _,by simp⟩
      by_cases hkl:k < (tb b).length
      ·cases hdg:digitN ((tb b).getD k 0)with
       |true=>
        left
        refine⟨k+1,?_,⟨hkl,all_snoc hkl hk.2 hdg⟩,by omega⟩
        simp only [go1,Nat.reduceAdd,Int.reduceEq,Int.reduceLT,Int.reduceLE,Int.reduceSub,Int.reduceAdd,size_tb,ilt_at hkl,inr_at hkl,byte_tb,c_in,inI_digit,hdg,wrap_succ hkl (by omega)]
        try rfl
       |false=>
        right
        simp only [go1,Nat.reduceAdd,Int.reduceEq,Int.reduceLT,Int.reduceLE,Int.reduceSub,Int.reduceAdd,size_tb,ilt_at hkl,inr_at hkl,byte_tb,c_in,inI_digit,hdg]
        try rfl
      ·exfalso
       have:k=(tb b).length:=by omega
       rw[this,List.take_length,had]at hk
       exact absurd hk.2 (by simp)
  |_::_::_::r,hpe,_,_=>
   right
   have:partN (tb x)=false:=hpe
   rw[hbad this]
   rw[decT (p:=2 < (((_::_::_::r:List ByteArray).length:Nat):Int)) (by simp;omega)]
   rfl
 ·right
  have:i=l.length:=by omega
  subst this
  simp only [go1,Nat.reduceAdd,Int.reduceEq,Int.reduceLT,Int.reduceLE,Int.reduceSub,Int.reduceAdd,srows_len,ilt_self]
  rw[List.take_length]at hi
  rw[hi.2]
theorem c_rnameG (s:ByteArray)(hs:s.size≤100000):cF 111 [.d (.str s), .d (.int .u8 65), .d (.int .u8 90)]=some (.val [.bool (nameN greatN (tb s))]):=by
 have hl:=tb_len s
 by_cases h1:1≤(tb s).length∧(tb s).length≤12
 ·have hc:=c_in (((tb s).getD 0 0:Nat):Int) 65 90
  rw[inI_great]at hc
  refine cOf (by kernel_rfl) rfl ?_
  rw[g111_eq]
  simp only [g111,go1,Nat.reduceAdd,Int.reduceEq,Int.reduceLT,Int.reduceLE,Int.reduceSub,Int.reduceAdd,size_tb,byte_tb0,hc]
  rw[decF (p:=((tb s).length:Int) < 1) (by omega),decF (p:=12 < ((tb s).length:Int)) (by omega),decT (p:=0 < ((tb s).length:Int)) (by omega)]
  cases hs0:greatN ((tb s).getD 0 0)with
  |false=>rw[nameN_first hs0];rfl
  |true=>
   simp only [go1,Nat.reduceAdd,Int.reduceEq,Int.reduceLT,Int.reduceLE,Int.reduceSub,Int.reduceAdd]
   refine loopF_at (fun p:Nat=>[.str s, .int .i64 (p:Int)]) (fun p=>p≤(tb s).length∧((tb s).take p).all innerN=true) (fun p=>(tb s).length - p) (fun p hp=> ?_) 0 ⟨Nat.zero_le _,by simp⟩
   by_cases hlt:p < (tb s).length
   ·have hi:=inner_def ((tb s).getD p 0)
    simp only [go1,Nat.reduceAdd,Int.reduceEq,Int.reduceLT,Int.reduceLE,Int.reduceSub,Int.reduceAdd,size_tb,ilt_at hlt,inr_at hlt,byte_tb,c_in,inI_small,inI_great,inI_digit,wrap_succ hlt (by omega)]
    cases hin:innerN ((tb s).getD p 0)with
    |false=>
     right
     rw[nameN_bad hlt hin]
     rw[hin]at hi
     have hi:=hi.symm
     simp only [Bool.or_eq_false_iff]at hi
     obtain⟨⟨⟨i1,i2⟩,i3⟩,i4⟩:=hi
     have i4': ¬(((tb s).getD p 0:Nat):Int)=95:=by
      have:=of_decide_eq_false i4;omega
     rw[decF i4']
     simp only [i1,i2,i3,go1,Nat.reduceAdd,Int.reduceEq,Int.reduceLT,Int.reduceLE,Int.reduceSub,Int.reduceAdd]
     try rfl
    |true=>
     left
     refine⟨p+1,?_,⟨hlt,all_snoc hlt hp.2 hin⟩,by omega⟩
     rw[hin]at hi
     cases i1:smallN ((tb s).getD p 0)<;>cases i2:greatN ((tb s).getD p 0)<;>cases i3:digitN ((tb s).getD p 0)<;>rw[i1,i2,i3]at hi<;>simp only [go1,Nat.reduceAdd,Int.reduceEq,Int.reduceLT,Int.reduceLE,Int.reduceSub,Int.reduceAdd]<;>(try rfl)
     all_goals
      simp only [Bool.or_self,Bool.false_or]at hi
      have i4:=of_decide_eq_true hi.symm
      rw[decT (p:=(((tb s).getD p 0:Nat):Int)=95) (by omega)]
      rfl
   ·right
    have:p=(tb s).length:=by omega
    subst this
    simp only [go1,Nat.reduceAdd,Int.reduceEq,Int.reduceLT,Int.reduceLE,Int.reduceSub,Int.reduceAdd,size_tb,ilt_self]
    rw[List.take_length]at hp
    unfold nameN
    rw[hp.2,hs0,decT h1.1,decT h1.2]
    rfl
 ·have hn:nameN greatN (tb s)=false:=by
   unfold nameN
   by_cases h:1≤(tb s).length
   ·rw[decF (p:=(tb s).length≤12) (by omega)];simp
   ·rw[decF h];simp
  rw[hn]
  refine cOf (by kernel_rfl) rfl ?_
  rw[g111_eq]
  simp only [g111,go1,Nat.reduceAdd,Int.reduceEq,Int.reduceLT,Int.reduceLE,Int.reduceSub,Int.reduceAdd,size_tb]
  by_cases h:1≤(tb s).length
  ·rw[decT (p:=12 < ((tb s).length:Int)) (by omega)];simp only [go1,Nat.reduceAdd,Int.reduceEq,Int.reduceLT,Int.reduceLE,Int.reduceSub,Int.reduceAdd];try rfl
  ·rw[decT (p:=((tb s).length:Int) < 1) (by omega)];simp only [go1,Nat.reduceAdd,Int.reduceEq,Int.reduceLT,Int.reduceLE,Int.reduceSub,Int.reduceAdd];try rfl
theorem c_rHigh (s:ByteArray)(hs:s.size≤100000):cF 88 [.d (.str s)]=some (.val [.bool (highN (tb s))]):=by
 have:=c_rnameG s hs
 refine cOf (by kernel_rfl) rfl ?_
 rw[g88_eq]
 simp only [g88,go1,Nat.reduceAdd,Int.reduceEq,Int.reduceLT,Int.reduceLE,Int.reduceSub,Int.reduceAdd,this]
 rfl
end Go.Vm
end

section
set_option linter.all false
set_option maxRecDepth 100000
set_option maxHeartbeats 4000000
namespace Go.Vm
open Go.Proofs
theorem or0 (o:Int):(!decide (0≤o) || !decide (o≤0))= !decide (o=0):=by
 rw[Bool.eq_iff_iff];simp;omega
theorem c_renumbers (k n:Int)(s:ByteArray)(o:Int)(a u:List (List D)):cF 112 [kE k n s o a u]=some (.val [.bool (opB_ k o&&numB k n)]):=by
 have key:k=5∨k=6∨k=1∨k=2∨k=13∨(k≠5∧k≠6∧k≠1∧k≠2∧k≠13):=by omega
 rcases key with rfl|rfl|rfl|rfl|rfl|⟨h1,h2,h3,h4,h5⟩
 all_goals refine cOf (by kernel_rfl) rfl ?_
 all_goals rw[g112_eq]
 all_goals simp only [g112,go1,Nat.reduceAdd,Int.reduceEq,Int.reduceLT,Int.reduceLE,Int.reduceSub,Int.reduceAdd,nlt,opB_,numB,decide_true,decide_false,Int.reduceEq,or0 o]
 ·cases decide (1≤o)<;>cases decide (o≤2)<;>rfl
 ·cases decide (3≤o)<;>cases decide (o≤16)<;>rfl
 ·cases decide (o=0)<;>rfl
 ·cases decide (o=0)<;>cases decide (n=0)<;>cases decide (n=1)<;>rfl
 ·cases decide (o=0)<;>cases decide (n=0)<;>cases decide (n=1)<;>rfl
 ·simp only [decF h1,decF h2,decF h3,decF h4,decF h5,go1,Nat.reduceAdd,Int.reduceEq,Int.reduceLT,Int.reduceLE,Int.reduceSub,Int.reduceAdd,or0 o,nlt,Bool.or_self]
  cases decide (o=0)<;>rfl
theorem c_renamed (k n:Int)(s:ByteArray)(o:Int)(a u:List (List D))(hs:s.size≤100000):cF 113 [kE k n s o a u]=some (.val [.bool (nameB k s)]):=by
 have q1:=c_rLow s hs
 have q2:=c_rHigh s hs
 have q3:=c_rPath s hs
 have key:k=3∨k=11∨k=12∨k=13∨k=4∨k=17∨(k≠3∧k≠11∧k≠12∧k≠13∧k≠4∧k≠17):=by omega
 rcases key with rfl|rfl|rfl|rfl|rfl|rfl|⟨h1,h2,h3,h4,h5,h6⟩
 all_goals refine cOf (by kernel_rfl) rfl ?_
 all_goals rw[g113_eq]
 all_goals simp only [g113,go1,Nat.reduceAdd,Int.reduceEq,Int.reduceLT,Int.reduceLE,Int.reduceSub,Int.reduceAdd,nameB,decide_true,decide_false,Int.reduceEq,q1,q2,q3,seq_tb]
 all_goals (try rfl)
 simp only [decF h1,decF h2,decF h3,decF h4,decF h5,decF h6,go1,Nat.reduceAdd,Int.reduceEq,Int.reduceLT,Int.reduceLE,Int.reduceSub,Int.reduceAdd,Bool.or_self]
 rfl
theorem c_rearm (s:ByteArray)(hs:s.size≤100000):cF 155 [.d (.str s)]=some (.val [.bool (armN s)]):=by
 have h:=c_rHigh s hs
 refine cOf (by kernel_rfl) rfl ?_
 rw[g155_eq]
 simp only [g155,go1,Nat.reduceAdd,Int.reduceEq,Int.reduceLT,Int.reduceLE,Int.reduceSub,Int.reduceAdd,h,seq_tb]
 unfold armN
 cases highN (tb s)<;>cases h1:decide (tb s=tb bTrue)<;>cases h2:decide (tb s=tb bFalse)<;>(unfold bTrue at h1;unfold bFalse at h2;simp only [go1,Nat.reduceAdd,Int.reduceEq,Int.reduceLT,Int.reduceLE,Int.reduceSub,Int.reduceAdd,h1,h2];try rfl)
theorem c_rearms (k n:Int)(s:ByteArray)(o:Int)(a:List ByteArray)(u:List (List D))(ha: ∀x∈a,x.size≤100000)(hl:a.length≤1000000):cF 114 [kE k n s o (srows a) u]=some (.val [.bool (armsB k a)]):=by
 have hO:=c_rOnce a hl
 refine cOf (by kernel_rfl) rfl ?_
 rw[g114_eq]
 simp only [g114,go1,Nat.reduceAdd,Int.reduceEq,Int.reduceLT,Int.reduceLE,Int.reduceSub,Int.reduceAdd,srows_len]
 refine all_loop2 armN a (fun i:Nat=>[.int .i64 (i:Int), .int .i64 k, .int .i64 n, .str s, .int .i64 o, .sl 1 (srows a), .sl 6 u]) rfl (r0:= .val [.bool false]) (r1:= .val [.bool (armsB k a)]) (fun i e hx=> ?_) (fun hall=> ?_) (by unfold armsB;cases a.all armN<;>rfl)
 ·have hlt:=(List.getElem?_eq_some_iff.1 hx).1
  have h:=c_rearm e (ha e (List.mem_of_getElem? hx))
  simp only [go1,Nat.reduceAdd,Int.reduceEq,Int.reduceLT,Int.reduceLE,Int.reduceSub,Int.reduceAdd,oE,srows_len,ilt_at hlt,inr_at hlt,srows_at hx,h]
  cases armN e with
  |true=>simp only [go1,Nat.reduceAdd,Int.reduceEq,Int.reduceLT,Int.reduceLE,Int.reduceSub,Int.reduceAdd,Bool.not_true,wrap_succ hlt (by omega)];rfl
  |false=>rfl
 ·simp only [go1,Nat.reduceAdd,Int.reduceEq,Int.reduceLT,Int.reduceLE,Int.reduceSub,Int.reduceAdd,oE,srows_len,ilt_self,hO,armsB,hall]
  have e1:decide ((a.length:Int)=1)=decide (a.length=1):=by rw[Bool.eq_iff_iff];simp;try omega
  have e2:decide ((a.length:Int)=0)=decide (a.length=0):=by rw[Bool.eq_iff_iff];simp;try omega
  have e3:decide ((1:Int)≤(a.length:Int))=decide (1≤a.length):=by rw[Bool.eq_iff_iff];simp;try omega
  have e4:decide ((a.length:Int)≤6)=decide (a.length≤6):=by rw[Bool.eq_iff_iff];simp;try omega
  rw[e1,e2,e3,e4]
  by_cases h1:k=11
  ·simp only [decT h1,go1,Nat.reduceAdd,Int.reduceEq,Int.reduceLT,Int.reduceLE,Int.reduceSub,Int.reduceAdd,Bool.true_and]
  ·by_cases h2:k=12
   ·simp only [decF h1,decT h2,go1,Nat.reduceAdd,Int.reduceEq,Int.reduceLT,Int.reduceLE,Int.reduceSub,Int.reduceAdd,Bool.true_and]
    cases decide (1≤a.length)<;>cases decide (a.length≤6)<;>rfl
   ·simp only [decF h1,decF h2,go1,Nat.reduceAdd,Int.reduceEq,Int.reduceLT,Int.reduceLE,Int.reduceSub,Int.reduceAdd,Bool.true_and]
theorem c_resubs (k n:Int)(s:ByteArray)(o:Int)(a:List ByteArray)(u:List (List D))(hn:k=13→n=0∨n=1):cF 115 [kE k n s o (srows a) u]=some (.val [.int .i64 (loB k n a.length), .int .i64 (hiB k n a.length)]):=by
 have h5:=srows_len a
 have key:(k=5∨k=10∨k=11∨k=6∨k=8∨k=9∨k=15∨k=7∨k=16∨k=12∨k=14)∨k=13∨(k≠5∧k≠10∧k≠11∧k≠6∧k≠8∧k≠9∧k≠15∧k≠7∧k≠16∧k≠12∧k≠14∧k≠13):=by omega
 rcases key with h|h|⟨h1,h2,h3,h4,h5,h6,h7,h8,h9,h10,h11,h12⟩
 ·rcases h with rfl|rfl|rfl|rfl|rfl|rfl|rfl|rfl|rfl|rfl|rfl
  all_goals refine cOf (by kernel_rfl) rfl ?_
  all_goals rw[g115_eq]
  all_goals simp only [g115,go1,Nat.reduceAdd,Int.reduceEq,Int.reduceLT,Int.reduceLE,Int.reduceSub,Int.reduceAdd,loB,hiB,decide_true,decide_false,Int.reduceEq,h5,or_self,or_true,true_or,if_true,if_false]
 ·subst h
  rcases hn rfl with rfl|rfl
  ·refine cOf (by kernel_rfl) rfl ?_
   rw[g115_eq]
   simp only [g115,go1,Nat.reduceAdd,Int.reduceEq,Int.reduceLT,Int.reduceLE,Int.reduceSub,Int.reduceAdd,loB,hiB]
   try rfl
  ·refine cOf (by kernel_rfl) rfl ?_
   rw[g115_eq]
   simp only [g115,go1,Nat.reduceAdd,Int.reduceEq,Int.reduceLT,Int.reduceLE,Int.reduceSub,Int.reduceAdd,loB,hiB]
   try rfl
 ·refine cOf (by kernel_rfl) rfl ?_
  rw[g115_eq]
  simp only [g115,go1,Nat.reduceAdd,Int.reduceEq,Int.reduceLT,Int.reduceLE,Int.reduceSub,Int.reduceAdd,decF h1,decF h2,decF h3,decF h4,decF h5,decF h6,decF h7,decF h8,decF h9,decF h10,decF h11,decF h12]
  simp only [loB,hiB,if_neg h1,if_neg h2,h1,h2,h3,h4,h5,h6,h7,h8,h9,h10,h11,h12,or_self,if_false]
theorem c_repart (k n:Int)(s:ByteArray)(o:Int)(a:List ByteArray)(u:List Ex)(hs:s.size≤100000)(ha: ∀x∈a,x.size≤100000)(hl:a.length≤1000000)(hu:Ex.sizes u≤1000000):
  cF 65 [kE k n s o (srows a) (Ex.rows u)]=some (.val [.bool (partB (.mk k n s o a u))]):=by
 have h1:=c_renumbers k n s o (srows a) (Ex.rows u)
 have h2:=c_renamed k n s o (srows a) (Ex.rows u) hs
 have h3:=c_rearms k n s o a (Ex.rows u) ha hl
 have h4:=rows_len u
 simp only [partB]
 refine cOf (by kernel_rfl) rfl ?_
 rw[g65_eq]
 simp only [g65,go1,Nat.reduceAdd,Int.reduceEq,Int.reduceLT,Int.reduceLE,Int.reduceSub,Int.reduceAdd,h1,h2,h3,h4]
 have hkk:(decide (k < 1) || decide (17 < k))= !kindB k:=by
  unfold kindB;rw[nlt,nlt];cases decide (1≤k)<;>cases decide (k≤17)<;>rfl
 cases hk:kindB k with
 |false=>
  rw[hk]at hkk
  cases g1:decide (k < 1)with
  |true=>simp only [go1,Nat.reduceAdd,Int.reduceEq,Int.reduceLT,Int.reduceLE,Int.reduceSub,Int.reduceAdd];try rfl
  |false=>
   rw[g1]at hkk
   have g2:decide (17 < k)=true:=by simpa using hkk
   simp only [go1,Nat.reduceAdd,Int.reduceEq,Int.reduceLT,Int.reduceLE,Int.reduceSub,Int.reduceAdd,g2];try rfl
 |true=>
  rw[hk]at hkk
  have g1:decide (k < 1)=false:=by cases g:decide (k < 1)with
   |true=>rw[g]at hkk;cases hkk
   |false=>rfl
  have g2:decide (17 < k)=false:=by rw[g1]at hkk;simpa using hkk
  simp only [go1,Nat.reduceAdd,Int.reduceEq,Int.reduceLT,Int.reduceLE,Int.reduceSub,Int.reduceAdd,g1,g2,h1,h2,h3,Bool.true_and]
  cases hN:numB k n with
  |false=>cases opB_ k o<;>(simp only [go1,Nat.reduceAdd,Int.reduceEq,Int.reduceLT,Int.reduceLE,Int.reduceSub,Int.reduceAdd,Bool.not_false,Bool.not_true,Bool.false_and,Bool.and_false,h2,h3];try rfl)
  |true=>
   cases opB_ k o with
   |false=>cases nameB k s<;>(simp only [go1,Nat.reduceAdd,Int.reduceEq,Int.reduceLT,Int.reduceLE,Int.reduceSub,Int.reduceAdd,Bool.not_false,Bool.not_true,Bool.false_and,Bool.and_false,h2,h3];try rfl)
   |true=>
    cases nameB k s with
    |false=>simp only [go1,Nat.reduceAdd,Int.reduceEq,Int.reduceLT,Int.reduceLE,Int.reduceSub,Int.reduceAdd,Bool.not_false,Bool.not_true,Bool.false_and,Bool.and_false,h2,h3,Bool.and_self];try rfl
    |true=>
     cases armsB k a with
     |false=>simp only [go1,Nat.reduceAdd,Int.reduceEq,Int.reduceLT,Int.reduceLE,Int.reduceSub,Int.reduceAdd,Bool.not_false,Bool.not_true,Bool.false_and,Bool.and_false,h2,h3,Bool.and_self];try rfl
     |true=>
      have h5:=c_resubs k n s o a (Ex.rows u) (fun h=>by
       subst h
       simp [numB]at hN
       exact hN)
      simp only [go1,Nat.reduceAdd,Int.reduceEq,Int.reduceLT,Int.reduceLE,Int.reduceSub,Int.reduceAdd,Bool.not_true,Bool.and_self,h2,h3,h5,Bool.true_and]
      cases hlo:decide (loB k n a.length≤(u.length:Int))with
      |false=>simp only [go1,Nat.reduceAdd,Int.reduceEq,Int.reduceLT,Int.reduceLE,Int.reduceSub,Int.reduceAdd,Bool.false_and];try rfl
      |true=>
       cases decide ((u.length:Int)≤hiB k n a.length)with
       |false=>simp only [go1,Nat.reduceAdd,Int.reduceEq,Int.reduceLT,Int.reduceLE,Int.reduceSub,Int.reduceAdd,Bool.false_and,Bool.true_and];try rfl
       |true=>
        simp only [go1,Nat.reduceAdd,Int.reduceEq,Int.reduceLT,Int.reduceLE,Int.reduceSub,Int.reduceAdd,Bool.true_and]
        by_cases h8:k=8
        ·subst h8
         match u,hlo,hu with
         | [],hlo,_=>cases hlo
         | .mk k2 n2 s2 o2 a2 u2::u,hlo,hu=>
           have hc:=c_reConst k2 n2 s2 o2 a2 u2 (by simp only [Ex.sizes,Ex.size]at hu;omega)
           have hr:sy.row (Ex.rows (.mk k2 n2 s2 o2 a2 u2::u)) 0= [.int .i64 k2, .int .i64 n2, .str s2, .int .i64 o2, .sl 1 (srows a2), .sl 6 (Ex.rows u2)]:=row_of (l:= .mk k2 n2 s2 o2 a2 u2::u) (i:=0) rfl
           have hz:decide ((0:Int) < ((Ex.mk k2 n2 s2 o2 a2 u2::u).length:Int))=true:=decide_eq_true (by simp only [List.length_cons];omega)
           have hz2:decide ((0:Int)≤0∧(0:Int) < ((Ex.mk k2 n2 s2 o2 a2 u2::u).length:Int))=true:=decide_eq_true ⟨by omega,by simp only [List.length_cons];omega⟩
           simp only [go1,Nat.reduceAdd,Int.reduceEq,Int.reduceLT,Int.reduceLE,Int.reduceSub,Int.reduceAdd,hz,hz2,hr,oE,hc,conB,decide_true,Bool.not_true,Bool.not_false]
        ·simp only [go1,Nat.reduceAdd,Int.reduceEq,Int.reduceLT,Int.reduceLE,Int.reduceSub,Int.reduceAdd,decF h8,conB,Bool.not_false]
end Go.Vm
end

section
set_option linter.all false
set_option maxRecDepth 100000
set_option maxHeartbeats 4000000
namespace Go.Vm
open Go.Proofs
noncomputable abbrev kW1 (k n:Int) (s:ByteArray) (o:Int) (a u:List (List D)) (m:Int):List V:=[.d (.int .i64 0), .d (.int .i64 2),kE k n s o a u, .yld 0 (rec0 53), .agg [.any, .any, .any, .ptr 1 0, .any, .any, .any, .any, .any, .any], .fn 3 [.d (.int .i64 m)]]
theorem decW1 (k n:Int)(s:ByteArray)(o:Int)(a u:List (List D))(m:Int):decB (kW1 k n s o a u m)=some (0,[kE k n s o a u, .yld 0 (rec0 53)],[.cells (.rcd .ready) [.any, .any, .any, .ptr 1 0, .any, .any, .any, .any, .any, .any], .cells (.ty 3) [.d (.int .i64 m)]]):=rfl
noncomputable abbrev kW2 (k n:Int) (s:ByteArray) (o:Int) (a u:List (List D)) (b:Bool):List V:=[.d (.int .i64 0), .d (.int .i64 2),kE k n s o a u, .yld 0 (rec0 25), .agg [.any, .any, .ptr 1 0, .any, .any, .any, .any, .any, .any, .any, .any, .any, .any, .any, .any, .any, .any, .any], .fn 4 [.d (.bool b)]]
theorem decW2 (k n:Int)(s:ByteArray)(o:Int)(a u:List (List D))(b:Bool):decB (kW2 k n s o a u b)=some (0,[kE k n s o a u, .yld 0 (rec0 25)],[.cells (.rcd .ready) [.any, .any, .ptr 1 0, .any, .any, .any, .any, .any, .any, .any, .any, .any, .any, .any, .any, .any, .any, .any], .cells (.ty 4) [.d (.bool b)]]):=rfl
theorem c_walk1: ∀(m:Nat) (k n:Int) (s:ByteArray) (o:Int) (a:List ByteArray) (u:List Ex) (c:Nat),(Ex.mk k n s o a u).size≤m→m≤1000000→c+m≤2000000→
  cF 1000098 (kW1 k n s o (srows a) (Ex.rows u) (c:Int))=some (.val [.bool false, .bool true, .int .i64 ((c+(Ex.mk k n s o a u).size:Nat):Int)])
 |0,k,n,s,o,a,u,c,h,_,_=>by simp only [Ex.size]at h;omega
 |m+1,k,n,s,o,a,u,c,h,hm,hc=>by
  have hz:Ex.sizes u≤m:=by simp only [Ex.size]at h;omega
  have hl:=sizes_len u
  refine cOfB (f:=98) (by kernel_rfl) (decW1 k n s o (srows a) (Ex.rows u) (c:Int)) (by kernel_rfl) rfl ?_
  rw[b98_53_eq]
  simp only [b98_53,go1,Nat.reduceAdd,Int.reduceEq,Int.reduceLT,Int.reduceLE,Int.reduceSub,Int.reduceAdd,rows_len,Bool.not_true,wrap_succ (i:=c) (n:=c+1) (by omega) (by omega)]
  refine loopF_at (fun i:Nat=>[.sl 6 (Ex.rows u), .int .i64 (u.length:Int), .int .i64 (i:Int), .int .i64 ((c+1+Ex.sizes (u.take i):Nat):Int)]) (fun i=>i≤u.length∧Ex.sizes (u.take i)≤m) (fun i=>u.length - i) (fun i hi=> ?_) 0 ⟨Nat.zero_le _,Nat.zero_le _⟩
  by_cases hlt:i < u.length
  ·left
   have hx:=List.getElem?_eq_getElem hlt
   have hd:Ex.sizes (u.take (i+1))=Ex.sizes (u.take i)+u[i].size:=by rw[List.take_add_one,hx];exact sizes_snoc _ _
   have hle:Ex.sizes (u.take (i+1))≤m:=by
    have:=sizes_app (u.take (i+1)) (u.drop (i+1));rw[List.take_append_drop]at this;omega
   refine⟨i+1,?_,⟨hlt,hle⟩,by omega⟩
   rw[hd]at hle ⊢
   generalize u[i]=e at hx hle ⊢
   have he:=sizes_mem hx
   obtain⟨k2,n2,s2,o2,a2,u2⟩:=e
   have h2:=c_walk1 (Ex.mk k2 n2 s2 o2 a2 u2).size k2 n2 s2 o2 a2 u2 (c+1+Ex.sizes (u.take i)) (Nat.le_refl _) (by omega) (by omega)
   simp only [go1,Nat.reduceAdd,Int.reduceEq,Int.reduceLT,Int.reduceLE,Int.reduceSub,Int.reduceAdd,rows_len,ilt_at hlt,inr_at hlt,row_of hx,oE,h2,wrap_succ hlt (by omega),Bool.not_true]
   rw[Nat.add_assoc (c+1)]
   rfl
  ·right
   have:i=u.length:=by omega
   subst this
   simp only [go1,Nat.reduceAdd,Int.reduceEq,Int.reduceLT,Int.reduceLE,Int.reduceSub,Int.reduceAdd,rows_len,ilt_self,List.take_length,Ex.size]
   rw[show c+1+Ex.sizes u=c+(Ex.sizes u+1) by omega]
 termination_by m=>m
 decreasing_by omega
mutual
def Ex.fine:Ex→Prop
 | .mk _ _ s _ a u=>(s.size≤100000∧(∀x∈a,x.size≤100000)∧a.length≤1000000)∧Ex.fines u
def Ex.fines:List Ex→Prop
 | []=>True
 |e::l=>e.fine∧Ex.fines l
end
mutual
theorem okS_fine: ∀e:Ex,e.okS→e.size≤1000000→e.fine
 | .mk k n s o a u,h,h2=>by
   have hl:=sizes_len u
   have h3:Ex.sizes u+1≤1000000:=h2
   obtain⟨q1,⟨q2,q3⟩,q4⟩:=h
   exact⟨⟨q1,q2,by omega⟩,okSs_fine u q4 (by omega)⟩
theorem okSs_fine: ∀u:List Ex,Ex.okSs u→Ex.sizes u≤1000000→Ex.fines u
 | [],_,_=>trivial
 |e::l,h,h2=>by
  have h3:e.size+Ex.sizes l≤1000000:=h2
  exact⟨okS_fine e h.1 (by omega),okSs_fine l h.2 (by omega)⟩
end
theorem fine_mem {e:Ex}: ∀ {l:List Ex} {i:Nat},l[i]? =some e→Ex.fines l→e.fine
 |x::l,0,h,h2=>by simp at h;subst h;exact h2.1
 |x::l,i+1,h,h2=>fine_mem (l:=l) (i:=i) (by simpa using h) h2.2
def ansR (b:Bool):Bool→PRes
 |true=> .val [.bool false, .bool true, .bool b]
 |false=> .val [.bool true, .bool false, .bool false]
theorem c_walk2: ∀(m:Nat) (k n:Int) (s:ByteArray) (o:Int) (a:List ByteArray) (u:List Ex) (b:Bool),(Ex.mk k n s o a u).size≤m→m≤1000000→(Ex.mk k n s o a u).fine→
  cF 1000098 (kW2 k n s o (srows a) (Ex.rows u) b)=some (ansR b (allB (.mk k n s o a u)))
 |0,k,n,s,o,a,u,b,h,_,_=>by simp only [Ex.size]at h;omega
 |m+1,k,n,s,o,a,u,b,h,hm,hf=>by
  have hz:Ex.sizes u≤m:=by simp only [Ex.size]at h;omega
  have hl:=sizes_len u
  obtain⟨⟨f1,f2,f3⟩,f4⟩:=hf
  have h1:=c_epart k n s o a u f1 f3 (by omega)
  refine cOfB (f:=98) (by kernel_rfl) (decW2 k n s o (srows a) (Ex.rows u) b) (by kernel_rfl) rfl ?_
  rw[b98_25_eq]
  simp only [b98_25,go1,Nat.reduceAdd,Int.reduceEq,Int.reduceLT,Int.reduceLE,Int.reduceSub,Int.reduceAdd,h1,allB]
  cases partB (.mk k n s o a u)with
  |false=>rfl
  |true=>
   simp only [go1,Nat.reduceAdd,Int.reduceEq,Int.reduceLT,Int.reduceLE,Int.reduceSub,Int.reduceAdd,Bool.not_true,Bool.true_and,rows_len]
   refine loopF_at (fun i:Nat=>[.sl 6 (Ex.rows u), .int .i64 (u.length:Int), .int .i64 (i:Int), .bool b]) (fun i=>i≤u.length∧allBs u=allBs (u.drop i)) (fun i=>u.length - i) (fun i hi=> ?_) 0 ⟨Nat.zero_le _,rfl⟩
   by_cases hlt:i < u.length
   ·have hx:=List.getElem?_eq_getElem hlt
    have hd:=List.drop_eq_getElem_cons hlt
    have hi2:=hi.2
    rw[hd]at hi2
    generalize u[i]=e at hx hi2
    have he:=sizes_mem hx
    have hfe:=fine_mem hx f4
    obtain⟨k2,n2,s2,o2,a2,u2⟩:=e
    have h2:=c_walk2 (Ex.mk k2 n2 s2 o2 a2 u2).size k2 n2 s2 o2 a2 u2 b (Nat.le_refl _) (by omega) hfe
    rw[hi2]
    simp only [allBs]
    cases hb:allB (.mk k2 n2 s2 o2 a2 u2)with
    |false=>
     right
     rw[hb]at h2
     simp only [ansR]at h2
     simp only [go1,Nat.reduceAdd,Int.reduceEq,Int.reduceLT,Int.reduceLE,Int.reduceSub,Int.reduceAdd,rows_len,ilt_at hlt,inr_at hlt,row_of hx,oE,h2,Bool.not_false,Bool.false_and,ansR]
    |true=>
     left
     rw[hb]at h2
     simp only [ansR]at h2
     refine⟨i+1,?_,⟨hlt,by simp only [Bool.true_and]⟩,by omega⟩
     simp only [go1,Nat.reduceAdd,Int.reduceEq,Int.reduceLT,Int.reduceLE,Int.reduceSub,Int.reduceAdd,rows_len,ilt_at hlt,inr_at hlt,row_of hx,oE,h2,wrap_succ hlt (by omega),Bool.not_true]
     rfl
   ·right
    have:i=u.length:=by omega
    subst this
    rw[hi.2,List.drop_length]
    simp only [go1,Nat.reduceAdd,Int.reduceEq,Int.reduceLT,Int.reduceLE,Int.reduceSub,Int.reduceAdd,rows_len,ilt_self,allBs,ansR]
 termination_by m=>m
 decreasing_by omega
theorem c_eSize (k n:Int)(s:ByteArray)(o:Int)(a:List ByteArray)(u:List Ex)(h:(Ex.mk k n s o a u).size≤1000000):cF 53 [kE k n s o (srows a) (Ex.rows u)]=some (.val [.int .i64 ((Ex.mk k n s o a u).size:Int)]):=by
 have h1:=c_walk1 1000000 k n s o a u 0 h (Nat.le_refl _) (by omega)
 rw[Nat.zero_add]at h1
 have h1:cF 1000098 (kW1 k n s o (srows a) (Ex.rows u) 0)=_:=h1
 refine cOf (by kernel_rfl) rfl ?_
 rw[g53_eq]
 simp only [g53,go1,Nat.reduceAdd,Int.reduceEq,Int.reduceLT,Int.reduceLE,Int.reduceSub,Int.reduceAdd,h1]
def smallB (e:Ex):Bool:=decide (e.size≤60)&&decide (e.depth≤12)
theorem c_eRight (k n:Int)(s:ByteArray)(o:Int)(a:List ByteArray)(u:List Ex)(h:(Ex.mk k n s o a u).size≤1000000)(hf:(Ex.mk k n s o a u).fine):cF 25 [kE k n s o (srows a) (Ex.rows u)]=some (.val [.bool (smallB (.mk k n s o a u)&&allB (.mk k n s o a u))]):=by
 have h1:=c_eSize k n s o a u h
 have h2:=c_eDepth 1000000 k n s o a u h (Nat.le_refl _)
 have h3:=c_walk2 1000000 k n s o a u false h (Nat.le_refl _) hf
 have e1:decide ((60:Int) < ((Ex.mk k n s o a u).size:Int))= !decide ((Ex.mk k n s o a u).size≤60):=by rw[Bool.eq_iff_iff];simp;try omega
 have e2:decide ((12:Int) < ((Ex.mk k n s o a u).depth:Int))= !decide ((Ex.mk k n s o a u).depth≤12):=by rw[Bool.eq_iff_iff];simp;try omega
 refine cOf (by kernel_rfl) rfl ?_
 rw[g25_eq]
 simp only [g25,go1,Nat.reduceAdd,Int.reduceEq,Int.reduceLT,Int.reduceLE,Int.reduceSub,Int.reduceAdd,h1,h2,h3,e1,e2]
 unfold smallB
 cases decide ((Ex.mk k n s o a u).size≤60)<;>cases decide ((Ex.mk k n s o a u).depth≤12)<;>cases allB (.mk k n s o a u)<;>rfl
end Go.Vm
end

section
set_option linter.all false
set_option maxRecDepth 100000
set_option maxHeartbeats 4000000
namespace Go.Vm
open Go.Proofs
mutual
def Ex.parts:Ex→List Ex
 | .mk k n s o a u=> .mk k n s o a u::Ex.partsL u
def Ex.partsL:List Ex→List Ex
 | []=>[]
 |e::l=>e.parts++Ex.partsL l
end
mutual
theorem parts_len: ∀e:Ex,e.parts.length=e.size
 | .mk k n s o a u=>by simp only [Ex.parts,Ex.size,List.length_cons,partsL_len u]
theorem partsL_len: ∀u:List Ex,(Ex.partsL u).length=Ex.sizes u
 | []=>rfl
 |e::l=>by simp only [Ex.partsL,Ex.sizes,List.length_append,parts_len e,partsL_len l]
end
mutual
theorem parts_all: ∀e:Ex,e.parts.all partB=allB e
 | .mk k n s o a u=>by simp only [Ex.parts,allB,List.all_cons,partsL_all u]
theorem partsL_all: ∀u:List Ex,(Ex.partsL u).all partB=allBs u
 | []=>rfl
 |e::l=>by simp only [Ex.partsL,allBs,List.all_append,parts_all e,partsL_all l]
end
mutual
theorem parts_fine: ∀e:Ex,e.fine→ ∀x∈e.parts,x.fine∧x.size≤e.size
 | .mk k n s o a u,h,x,hx=>by
   simp only [Ex.parts]at hx
   rcases List.mem_cons.1 hx with rfl|hx
   ·exact⟨h,Nat.le_refl _⟩
   ·have:=partsL_fine u h.2 x hx
    exact⟨this.1,by simp only [Ex.size];omega⟩
theorem partsL_fine: ∀u:List Ex,Ex.fines u→ ∀x∈Ex.partsL u,x.fine∧x.size≤Ex.sizes u
 | [],_,x,hx=>by cases hx
 |e::l,h,x,hx=>by
  simp only [Ex.partsL]at hx
  rcases List.mem_append.1 hx with hx|hx
  ·have:=parts_fine e h.1 x hx
   exact⟨this.1,by simp only [Ex.sizes];omega⟩
  ·have:=partsL_fine l h.2 x hx
   exact⟨this.1,by simp only [Ex.sizes];omega⟩
end
theorem partsL_app: ∀a b:List Ex,Ex.partsL (a++b)=Ex.partsL a++Ex.partsL b
 | [],b=>rfl
 |e::a,b=>by simp only [List.cons_append,Ex.partsL,partsL_app a b,List.append_assoc]
theorem rows_app: ∀a b:List Ex,Ex.rows (a++b)=Ex.rows a++Ex.rows b
 | [],b=>rfl
 |e::a,b=>by simp only [List.cons_append,Ex.rows,rows_app a b]
theorem c_reParts: ∀(m:Nat) (k n:Int) (s:ByteArray) (o:Int) (a:List ByteArray) (u:List Ex),(Ex.mk k n s o a u).size≤m→m≤1000000→
  cF 64 [kE k n s o (srows a) (Ex.rows u)]=some (.own 38 6 (Ex.rows (Ex.mk k n s o a u).parts))
 |0,k,n,s,o,a,u,h,_=>by simp only [Ex.size]at h;omega
 |m+1,k,n,s,o,a,u,h,hm=>by
  have hz:Ex.sizes u≤m:=by simp only [Ex.size]at h;omega
  have hl:=sizes_len u
  refine cOf (by kernel_rfl) rfl ?_
  rw[g64_eq]
  simp only [g64,go1,Nat.reduceAdd,Int.reduceEq,Int.reduceLT,Int.reduceLE,Int.reduceSub,Int.reduceAdd,rows_len]
  refine loopF_at (fun i:Nat=>[.int .i64 (i:Int), .int .i64 k, .int .i64 n, .str s, .int .i64 o, .sl 1 (srows a), .sl 6 (Ex.rows u), .sl 6 (Ex.rows (.mk k n s o a u::Ex.partsL (u.take i)))]) (fun i=>i≤u.length) (fun i=>u.length - i) (fun i hi=> ?_) 0 (Nat.zero_le _)
  by_cases hlt:i < u.length
  ·left
   refine⟨i+1,?_,hlt,by omega⟩
   have hx:=List.getElem?_eq_getElem hlt
   have hd:Ex.partsL (u.take (i+1))=Ex.partsL (u.take i)++u[i].parts:=by rw[List.take_add_one,hx,partsL_app];simp [Ex.partsL]
   have hsz:Ex.sizes (u.take i)≤Ex.sizes u:=by
    have:=sizes_app (u.take i) (u.drop i);rw[List.take_append_drop]at this;omega
   rw[hd]
   generalize u[i]=e at hx
   have he:=sizes_mem hx
   obtain⟨k2,n2,s2,o2,a2,u2⟩:=e
   have h2:=c_reParts (Ex.mk k2 n2 s2 o2 a2 u2).size k2 n2 s2 o2 a2 u2 (Nat.le_refl _) (by omega)
   have hf:decide (((Ex.rows (.mk k n s o a u::Ex.partsL (u.take i))).length+(Ex.rows (Ex.mk k2 n2 s2 o2 a2 u2).parts).length)*(88+1)≤140737488355328)=true:=by
    refine decide_eq_true ?_
    rw[rows_len,rows_len,List.length_cons,partsL_len,parts_len]
    omega
   simp only [go1,Nat.reduceAdd,Int.reduceEq,Int.reduceLT,Int.reduceLE,Int.reduceSub,Int.reduceAdd,rows_len,ilt_at hlt,inr_at hlt,row_of hx,oE,h2,wrap_succ hlt (by omega)]
   simp only [rows_len]at hf
   simp only [hf,go1,Nat.reduceAdd,Int.reduceEq,Int.reduceLT,Int.reduceLE,Int.reduceSub,Int.reduceAdd,rows_app,←List.cons_append]
   rfl
  ·right
   have:i=u.length:=by omega
   subst this
   simp only [go1,Nat.reduceAdd,Int.reduceEq,Int.reduceLT,Int.reduceLE,Int.reduceSub,Int.reduceAdd,oE,rows_len,ilt_self,List.take_length,Ex.parts]
 termination_by m=>m
 decreasing_by omega
theorem c_reRight (k n:Int)(s:ByteArray)(o:Int)(a:List ByteArray)(u:List Ex)(h:(Ex.mk k n s o a u).size≤1000000)(hf:(Ex.mk k n s o a u).fine):cF 31 [kE k n s o (srows a) (Ex.rows u)]=some (.val [.bool (smallB (.mk k n s o a u)&&allB (.mk k n s o a u))]):=by
 have h1:=c_rSize 1000000 k n s o a u h (Nat.le_refl _)
 have h2:=c_rDepth 1000000 k n s o a u h (Nat.le_refl _)
 have h3:=c_reParts 1000000 k n s o a u h (Nat.le_refl _)
 have e1:decide ((60:Int) < ((Ex.mk k n s o a u).size:Int))= !decide ((Ex.mk k n s o a u).size≤60):=by rw[Bool.eq_iff_iff];simp;try omega
 have e2:decide ((12:Int) < ((Ex.mk k n s o a u).depth:Int))= !decide ((Ex.mk k n s o a u).depth≤12):=by rw[Bool.eq_iff_iff];simp;try omega
 refine cOf (by kernel_rfl) rfl ?_
 rw[g31_eq]
 simp only [g31,go1,Nat.reduceAdd,Int.reduceEq,Int.reduceLT,Int.reduceLE,Int.reduceSub,Int.reduceAdd,h1,h2,h3,e1,e2]
 rw[←parts_all]
 have hlen:=parts_len (.mk k n s o a u)
 have hpf:=parts_fine _ hf
 generalize (Ex.mk k n s o a u).parts=ps at*
 have hloop: ∀b:List D→Option (List D ⊕ PRes),(∀(i:Nat) e,ps[i]? =some e→b [.sl 6 (Ex.rows ps), .int .i64 (i:Int)]=bif partB e then some (.inl [.sl 6 (Ex.rows ps), .int .i64 ((i+1:Nat):Int)])else some (.inr (.val [.bool false])))→b [.sl 6 (Ex.rows ps), .int .i64 (ps.length:Int)]=some (.inr (.val [.bool true]))→
     loopF b [.sl 6 (Ex.rows ps), .int .i64 0]=some (.val [.bool (ps.all partB)]):=fun b h1 h2=>
  all_loop2 partB ps (fun i:Nat=>[.sl 6 (Ex.rows ps), .int .i64 (i:Int)]) rfl (r0:= .val [.bool false]) (r1:= .val [.bool true]) h1 (fun _=>h2) (by cases ps.all partB<;>rfl)
 unfold smallB
 cases decide ((Ex.mk k n s o a u).size≤60)with
 |false=>rfl
 |true=>
  cases decide ((Ex.mk k n s o a u).depth≤12)with
  |false=>rfl
  |true=>
   simp only [go1,Nat.reduceAdd,Int.reduceEq,Int.reduceLT,Int.reduceLE,Int.reduceSub,Int.reduceAdd,Bool.not_true,Bool.and_self,Bool.true_and]
   refine hloop _ (fun i e hx=> ?_) ?_
   ·have hlt:=(List.getElem?_eq_some_iff.1 hx).1
    have hm:=hpf e (List.mem_of_getElem? hx)
    obtain⟨k2,n2,s2,o2,a2,u2⟩:=e
    obtain⟨⟨⟨f1,f2,f3⟩,f4⟩,f5⟩:=hm
    have hc:=c_repart k2 n2 s2 o2 a2 u2 f1 f2 f3 (by simp only [Ex.size]at f5 h;omega)
    simp only [go1,Nat.reduceAdd,Int.reduceEq,Int.reduceLT,Int.reduceLE,Int.reduceSub,Int.reduceAdd,rows_len,ilt_at hlt,inr_at hlt,row_of hx,oE,hc]
    cases partB (.mk k2 n2 s2 o2 a2 u2)with
    |true=>simp only [go1,Nat.reduceAdd,Int.reduceEq,Int.reduceLT,Int.reduceLE,Int.reduceSub,Int.reduceAdd,Bool.not_true,wrap_succ hlt (by omega)];rfl
    |false=>rfl
   ·simp only [go1,Nat.reduceAdd,Int.reduceEq,Int.reduceLT,Int.reduceLE,Int.reduceSub,Int.reduceAdd,rows_len,ilt_self]
theorem c_rNames (a:List ByteArray)(ha:a.length≤1000000):cF 48 [.d (.sl 1 (srows a)), .d (.sl 1 (srows a))]=some (.val [.bool true]):=by
 refine cOf (by kernel_rfl) rfl ?_
 rw[g48_eq]
 simp only [g48,go1,Nat.reduceAdd,Int.reduceEq,Int.reduceLT,Int.reduceLE,Int.reduceSub,Int.reduceAdd,srows_len]
 refine loopF_at (fun i:Nat=>[.sl 1 (srows a), .sl 1 (srows a), .int .i64 (i:Int)]) (fun i=>i≤a.length) (fun i=>a.length - i) (fun i hi=> ?_) 0 (Nat.zero_le _)
 by_cases hlt:i < a.length
 ·left
  refine⟨i+1,?_,hlt,by omega⟩
  have hx:=List.getElem?_eq_getElem hlt
  simp only [go1,Nat.reduceAdd,Int.reduceEq,Int.reduceLT,Int.reduceLE,Int.reduceSub,Int.reduceAdd,srows_len,ilt_at hlt,inr_at hlt,srows_at hx,seq_tb,decide_true,Bool.not_true,wrap_succ hlt (by omega)]
  rfl
 ·right
  have:i=a.length:=by omega
  subst this
  simp only [go1,Nat.reduceAdd,Int.reduceEq,Int.reduceLT,Int.reduceLE,Int.reduceSub,Int.reduceAdd,srows_len,ilt_self]
theorem c_reSame: ∀(m:Nat) (k n:Int) (s:ByteArray) (o:Int) (a:List ByteArray) (u:List Ex),(Ex.mk k n s o a u).size≤m→m≤1000000→(Ex.mk k n s o a u).fine→
  cF 22 [kE k n s o (srows a) (Ex.rows u),kE k n s o (srows a) (Ex.rows u)]=some (.val [.bool true])
 |0,k,n,s,o,a,u,h,_,_=>by simp only [Ex.size]at h;omega
 |m+1,k,n,s,o,a,u,h,hm,hf=>by
  have hz:Ex.sizes u≤m:=by simp only [Ex.size]at h;omega
  have hl:=sizes_len u
  obtain⟨⟨f1,f2,f3⟩,f4⟩:=hf
  have h1:=c_rNames a f3
  refine cOf (by kernel_rfl) rfl ?_
  rw[g22_eq]
  simp only [g22,go1,Nat.reduceAdd,Int.reduceEq,Int.reduceLT,Int.reduceLE,Int.reduceSub,Int.reduceAdd,rows_len,seq_tb,decide_true,Bool.not_true,h1]
  refine loopF_at (fun i:Nat=>[.int .i64 (i:Int), .int .i64 k, .int .i64 n, .str s, .int .i64 o, .sl 1 (srows a), .sl 6 (Ex.rows u), .int .i64 k, .int .i64 n, .str s, .int .i64 o, .sl 1 (srows a), .sl 6 (Ex.rows u)]) (fun i=>i≤u.length) (fun i=>u.length - i) (fun i hi=> ?_) 0 (Nat.zero_le _)
  by_cases hlt:i < u.length
  ·left
   refine⟨i+1,?_,hlt,by omega⟩
   have hx:=List.getElem?_eq_getElem hlt
   generalize u[i]=e at hx
   have he:=sizes_mem hx
   have hfe:=fine_mem hx f4
   obtain⟨k2,n2,s2,o2,a2,u2⟩:=e
   have h2:=c_reSame (Ex.mk k2 n2 s2 o2 a2 u2).size k2 n2 s2 o2 a2 u2 (Nat.le_refl _) (by omega) hfe
   simp only [go1,Nat.reduceAdd,Int.reduceEq,Int.reduceLT,Int.reduceLE,Int.reduceSub,Int.reduceAdd,rows_len,ilt_at hlt,inr_at hlt,row_of hx,oE,h2,wrap_succ hlt (by omega),Bool.not_true]
   rfl
  ·right
   have:i=u.length:=by omega
   subst this
   simp only [go1,Nat.reduceAdd,Int.reduceEq,Int.reduceLT,Int.reduceLE,Int.reduceSub,Int.reduceAdd,oE,rows_len,ilt_self]
 termination_by m=>m
 decreasing_by omega
end Go.Vm
end

section
set_option linter.all false
set_option maxRecDepth 100000
set_option maxHeartbeats 4000000
namespace Go.Vm
open Go.Proofs
end Go.Vm
end

section
set_option linter.all false
set_option maxRecDepth 100000
set_option maxHeartbeats 4000000
namespace Go.Vm
open Go.Proofs
theorem span_cons1 {p:Nat→Bool}{c:Nat}{r:List Nat}(h:p c=true):spanN p (c::r)=1+spanN p r:=by
 unfold spanN;rw[List.takeWhile_cons,if_pos h,List.length_cons];omega
theorem span_cons0 {p:Nat→Bool}{c:Nat}{r:List Nat}(h:p c=false):spanN p (c::r)=0:=by
 unfold spanN;rw[List.takeWhile_cons,h];rfl
end Go.Vm
end

section
set_option linter.all false
set_option maxRecDepth 100000
set_option maxHeartbeats 4000000
namespace Go.Vm
open Go.Proofs
theorem gap_blank {c:Nat}(r:List Nat)(hc:blankN c=true):gapN (c::r)=1+gapN r:=by
 have h1:=gapN.eq_def (c::r)
 have h2:=gapN.eq_def r
 have hs:spanN blankN (c::r)=1+spanN blankN r:=span_cons1 hc
 rw[hs]at h1
 have hd:(c::r).drop (1+spanN blankN r)=r.drop (spanN blankN r):=by rw[Nat.add_comm,List.drop_succ_cons]
 have hd2: ∀k,(c::r).drop (1+spanN blankN r+k)=r.drop (spanN blankN r+k):=fun k=>by
  rw[show 1+spanN blankN r+k=(spanN blankN r+k)+1 by omega,List.drop_succ_cons]
 rw[hd,hd2]at h1
 rw[h1,h2]
 split<;>omega
theorem span0 {p:Nat→Bool}{l:List Nat}(h:p (l.getD 0 0)=false):spanN p l=0:=by
 match l,h with
 | [],_=>rfl
 |c::r,h=>exact span_cons0 h
theorem gap_stop {l:List Nat}(hc:blankN (l.getD 0 0)=false)(hr:hasN remN l=false):gapN l=0:=by
 have h1:=gapN.eq_def l
 rw[span0 hc,List.drop_zero,hr]at h1
 simpa using h1
theorem gap_rem {l:List Nat}(hr:hasN remN l=true):gapN l=spanN nlineN l+gapN (l.drop (spanN nlineN l)):=by
 have h1:=gapN.eq_def l
 have hc:blankN (l.getD 0 0)=false:=by
  have:=of_decide_eq_true hr
  match l,this with
  |a::b::r,h=>simp [remN]at h;obtain⟨rfl,rfl⟩:=h;rfl
  | [a],h=>simp [remN]at h
  | [],h=>simp [remN]at h
 rw[span0 hc,List.drop_zero,hr]at h1
 simpa using h1
theorem rem_iff (l:List Nat):hasN remN l=(decide (l.getD 0 0=45)&&(decide (1 < l.length)&&decide (l.getD 1 0=45))):=by
 match l with
 | []=>rfl
 | [a]=>simp [hasN,remN]
 |a::b::r=>simp [hasN,remN]
def valN:Nat→List Nat→Nat
 |n,[]=>n
 |n,c::r=>valN (n*10+(c - 48)) r
theorem valN_ge: ∀(l:List Nat) (n:Nat),n≤valN n l
 | [],n=>Nat.le_refl _
 |c::r,n=>by
  have:=valN_ge r (n*10+(c - 48))
  show n≤valN (n*10+(c - 48)) r
  omega
theorem parseM: ∀(l:List UInt8) (acc:Nat),(l.map UInt8.toNat).all digitN=true→acc≤18446744073709551615→
  Lib.parseUintM 18446744073709551615 acc l=if valN acc (l.map UInt8.toNat)≤18446744073709551615 then .ok (valN acc (l.map UInt8.toNat))else .range
 | [],acc,_,h=>by
   rw[Lib.parseUintM,List.map_nil]
   show _=if acc≤_ then _ else _
   rw[if_pos h];rfl
 |c::r,acc,hd,h=>by
  rw[List.map_cons,List.all_cons,Bool.and_eq_true]at hd
  obtain⟨h1,h2⟩:=hd
  have hc:48≤c.toNat∧c.toNat≤57:=by
   unfold digitN at h1
   simpa using h1
  rw[Lib.parseUintM,if_pos hc,List.map_cons]
  show _=if valN (acc*10+(c.toNat - 48)) (r.map UInt8.toNat)≤_ then Lib.NumEnd.ok (valN (acc*10+(c.toNat - 48)) (r.map UInt8.toNat))else _
  have hg:=valN_ge (r.map UInt8.toNat) (acc*10+(c.toNat - 48))
  by_cases h3:1844674407370955162≤acc
  ·rw[if_pos h3,if_neg (by omega)]
  ·rw[if_neg h3]
   by_cases h4:18446744073709551615 < acc*10+(c.toNat - 48)
   ·rw[if_pos h4,if_neg (by omega)]
   ·rw[if_neg h4]
    exact parseM r _ h2 (by omega)
theorem parse_digits (s:ByteArray)(hd:(tb s).all digitN=true)(hne:0 < (tb s).length):
  pokB s=decide (valN 0 (tb s) < 9223372036854775808)∧(valN 0 (tb s) < 9223372036854775808→pnumI s=(valN 0 (tb s):Int)):=by
 unfold pokB pnumI
 unfold tb at hd hne ⊢
 generalize s.data.toList=l at hd hne ⊢
 match l,hne with
 |c::r,_=>
  have hp:=parseM (c::r) 0 hd (by omega)
  rw[List.map_cons,List.all_cons,Bool.and_eq_true]at hd
  have hc:48≤c.toNat∧c.toNat≤57:=by
   have:=hd.1
   unfold digitN at this
   simpa using this
  have e1: ¬(c.toNat=43∨c.toNat=45):=by omega
  have e2: ¬c.toNat=45:=by omega
  generalize valN 0 ((c::r).map UInt8.toNat)=v at hp ⊢
  have hp2:Lib.parseUintB 64 (c::r)=if v≤18446744073709551615 then .ok v else .range:=by
   unfold Lib.parseUintB
   rw[if_neg (by simp)]
   exact hp
  unfold Lib.parseIntB
  simp only [if_neg e1,hp2]
  by_cases hv:v≤18446744073709551615
  ·rw[if_pos hv]
   simp only [e2,not_false_eq_true,true_and,if_false,false_and]
   by_cases hv2:9223372036854775808≤v
   ·have:(2:Nat) ^ (64 - 1)≤v:=hv2
    simp only [this,if_true]
    exact⟨by rw[decF (by omega)],fun h=>by omega⟩
   ·have: ¬(2:Nat) ^ (64 - 1)≤v:=hv2
    simp only [this,if_false]
    exact⟨by rw[decT (by omega)],fun _=>trivial⟩
  ·rw[if_neg hv]
   exact⟨by rw[decF (by omega)],fun h=>by omega⟩
end Go.Vm
end

section
set_option linter.all false
set_option maxRecDepth 100000
set_option maxHeartbeats 4000000
namespace Go.Vm
open Go.Proofs
theorem getD_drop0 (l:List Nat)(n:Nat):(l.drop n).getD 0 0=l.getD n 0:=by
 rw[List.getD_eq_getElem?_getD,List.getElem?_drop,Nat.add_zero,List.getD_eq_getElem?_getD]
theorem getD_drop1 (l:List Nat)(n:Nat):(l.drop n).getD 1 0=l.getD (n+1) 0:=by
 rw[List.getD_eq_getElem?_getD,List.getElem?_drop,List.getD_eq_getElem?_getD]
theorem drop_cons {l:List Nat}{n:Nat}(h:n < l.length):l.drop n=l.getD n 0::l.drop (n+1):=by
 rw[List.drop_eq_getElem_cons h,List.getD_eq_getElem?_getD,List.getElem?_eq_getElem h];rfl
theorem c_inner (s:ByteArray)(hs:s.size≤100000)(a:Nat)(ha:a≤(tb s).length):loopF (α:=List D ⊕ PRes) (fun ds14=>
  (opS (sy.cell ds14 0)).bind fun s15=>
   (opI (sy.cell ds14 1) IntKind.i64).bind fun n16=>
    cutO
     (bif decide (n16 < ((tb s15).length:Int))then
      bif decide (0≤n16∧n16 < ((tb s15).length:Int))then
       some (Sum.inl [D.bool !decide (((s15.data.getD n16.toNat 0).toNat:Int)=10)])
      else none
     else some (Sum.inl [D.bool false]))
     fun ds17=>
     (opB (sy.cell ds17 0)).bind fun b18=>
      bif b18 then some (Sum.inl [D.str s15,D.int IntKind.i64 (IntKind.i64.wrap (n16+1))])
      else some (Sum.inr (Sum.inl [D.str s15,D.int IntKind.i64 n16])))
  [D.str s,D.int IntKind.i64 (a:Int)]=some (.inl [D.str s,D.int IntKind.i64 ((a+spanN nlineN ((tb s).drop a):Nat):Int)]):=by
 have hlen:(tb s).length≤100000:=by rw[tb_len];exact hs
 refine loopF_at (fun n:Nat=>[.str s, .int .i64 (n:Int)]) (fun n=>n≤(tb s).length∧n+spanN nlineN ((tb s).drop n)=a+spanN nlineN ((tb s).drop a)) (fun n=>(tb s).length - n) (fun n hn=> ?_) a ⟨ha,rfl⟩
 obtain⟨hle,hg⟩:=hn
 by_cases hlt:n < (tb s).length
 ·have hq:((s.data.getD (n:Int).toNat 0).toNat:Int)=(((tb s).getD n 0:Nat):Int):=by rw[Int.toNat_natCast,tb_getD]
  have hd:=drop_cons hlt
  simp only [go1,Nat.reduceAdd,Int.reduceEq,Int.reduceLT,Int.reduceLE,Int.reduceSub,Int.reduceAdd]
  simp (disch:=omega) only [wrap_id,decT,decF,go1,Nat.reduceAdd,Int.reduceEq,Int.reduceLT,Int.reduceLE,Int.reduceSub,Int.reduceAdd,hq]
  rw[dec_iff (show(((tb s).getD n 0:Nat):Int)=10↔(tb s).getD n 0=10 by omega)]
  cases h10:decide ((tb s).getD n 0=10)with
  |false=>
   left
   have:nlineN ((tb s).getD n 0)=true:=by unfold nlineN;rw[h10];rfl
   rw[hd,span_cons1 this]at hg
   exact⟨n+1,by rw[Int.natCast_add];rfl,⟨hlt,by omega⟩,by omega⟩
  |true=>
   right
   have:nlineN ((tb s).getD n 0)=false:=by unfold nlineN;rw[h10];rfl
   rw[hd,span_cons0 this]at hg
   rw[←hg];rfl
 ·right
  have:n=(tb s).length:=by omega
  subst this
  rw[List.drop_length]at hg
  rw[←hg]
  simp only [go1,Nat.reduceAdd,Int.reduceEq,Int.reduceLT,Int.reduceLE,Int.reduceSub,Int.reduceAdd]
  simp (disch:=omega) only [wrap_id,decT,decF,go1,Nat.reduceAdd,Int.reduceEq,Int.reduceLT,Int.reduceLE,Int.reduceSub,Int.reduceAdd]
  rfl
theorem c_rskip (s:ByteArray)(hs:s.size≤100000)(a:Nat)(ha:a≤(tb s).length):cF 43 [.d (.str s), .d (.int .i64 (a:Int))]=some (.val [.int .i64 ((a+gapN ((tb s).drop a):Nat):Int)]):=by
 have hlen:(tb s).length≤100000:=by rw[tb_len];exact hs
 refine cOf (by kernel_rfl) rfl ?_
 rw[g43_eq]
 simp only [g43,go1,Nat.reduceAdd,Int.reduceEq,Int.reduceLT,Int.reduceLE,Int.reduceSub,Int.reduceAdd]
 refine loopF_at (fun n:Nat=>[.str s, .int .i64 (n:Int)]) (fun n=>n≤(tb s).length∧n+gapN ((tb s).drop n)=a+gapN ((tb s).drop a)) (fun n=>(tb s).length - n) (fun n hn=> ?_) a ⟨ha,rfl⟩
 obtain⟨hle,hg⟩:=hn
 by_cases hlt:n < (tb s).length
 ·have hq:((s.data.getD (n:Int).toNat 0).toNat:Int)=(((tb s).getD n 0:Nat):Int):=by rw[Int.toNat_natCast,tb_getD]
  have hd:=drop_cons hlt
  simp only [go1,Nat.reduceAdd,Int.reduceEq,Int.reduceLT,Int.reduceLE,Int.reduceSub,Int.reduceAdd]
  simp (disch:=omega) only [wrap_id,decT,decF,go1,Nat.reduceAdd,Int.reduceEq,Int.reduceLT,Int.reduceLE,Int.reduceSub,Int.reduceAdd,size_tb,hq]
  rw[dec_iff (show(((tb s).getD n 0:Nat):Int)=9↔(tb s).getD n 0=9 by omega),dec_iff (show(((tb s).getD n 0:Nat):Int)=10↔(tb s).getD n 0=10 by omega),dec_iff (show(((tb s).getD n 0:Nat):Int)=13↔(tb s).getD n 0=13 by omega),dec_iff (show(((tb s).getD n 0:Nat):Int)=32↔(tb s).getD n 0=32 by omega),dec_iff (show(((tb s).getD n 0:Nat):Int)=45↔(tb s).getD n 0=45 by omega)]
  have hb:(decide ((tb s).getD n 0=9) || decide ((tb s).getD n 0=10) || decide ((tb s).getD n 0=13) || decide ((tb s).getD n 0=32))=blankN ((tb s).getD n 0):=by
   unfold blankN
   cases decide ((tb s).getD n 0=9)<;>cases decide ((tb s).getD n 0=10)<;>cases decide ((tb s).getD n 0=13)<;>cases decide ((tb s).getD n 0=32)<;>rfl
  rw[hb]
  cases h0:blankN ((tb s).getD n 0)with
  |true=>
   left
   rw[hd,gap_blank _ h0]at hg
   exact⟨n+1,by rw[Int.natCast_add];rfl,⟨hlt,by omega⟩,by omega⟩
  |false=>
   have hr:=rem_iff ((tb s).drop n)
   rw[getD_drop0,getD_drop1,List.length_drop]at hr
   have stop:hasN remN ((tb s).drop n)=false→n=a+gapN ((tb s).drop a):=fun h=>by
    rw[gap_stop (by rw[getD_drop0];exact h0) h]at hg
    omega
   cases h45:decide ((tb s).getD n 0=45)with
   |false=>
    right
    rw[←stop (by rw[hr,h45];rfl)]
    rfl
   |true=>
    by_cases h1:n+1 < (tb s).length
    ·have hq1:((s.data.getD ((n:Int)+1).toNat 0).toNat:Int)=(((tb s).getD (n+1) 0:Nat):Int):=by
      have:((n:Int)+1).toNat=n+1:=by omega
      rw[this,tb_getD]
     rw[h45,decT (p:=1 < (tb s).length - n) (by omega)]at hr
     simp (disch:=omega) only [wrap_id,decT,decF,go1,Nat.reduceAdd,Int.reduceEq,Int.reduceLT,Int.reduceLE,Int.reduceSub,Int.reduceAdd,hq1]
     rw[dec_iff (show(((tb s).getD (n+1) 0:Nat):Int)=45↔(tb s).getD (n+1) 0=45 by omega)]
     cases h46:decide ((tb s).getD (n+1) 0=45)with
     |false=>
      right
      rw[←stop (by rw[hr,h46];rfl)]
      rfl
     |true=>
      left
      have hrt:hasN remN ((tb s).drop n)=true:=by rw[hr,h46];rfl
      have h2:=rem_span hrt
      have hk:=spanN_le nlineN ((tb s).drop n)
      rw[List.length_drop]at hk
      rw[gap_rem hrt,List.drop_drop]at hg
      refine⟨n+spanN nlineN ((tb s).drop n),?_,⟨by omega,by omega⟩,by omega⟩
      simp only [go1,Nat.reduceAdd,Int.reduceEq,Int.reduceLT,Int.reduceLE,Int.reduceSub,Int.reduceAdd]
      rw[c_inner s hs n hle]
    ·right
     rw[←stop (by rw[hr,h45,decF (p:=1 < (tb s).length - n) (by omega)];rfl)]
     simp (disch:=omega) only [wrap_id,decT,decF,go1,Nat.reduceAdd,Int.reduceEq,Int.reduceLT,Int.reduceLE,Int.reduceSub,Int.reduceAdd]
     try rfl
 ·right
  have:n=(tb s).length:=by omega
  subst this
  have e0:gapN []=0:=by
   have:=gapN_le _ [] (Nat.le_refl _)
   simpa using this
  rw[List.drop_length,e0]at hg
  rw[←hg]
  simp only [go1,Nat.reduceAdd,Int.reduceEq,Int.reduceLT,Int.reduceLE,Int.reduceSub,Int.reduceAdd]
  simp (disch:=omega) only [wrap_id,decT,decF,go1,Nat.reduceAdd,Int.reduceEq,Int.reduceLT,Int.reduceLE,Int.reduceSub,Int.reduceAdd,size_tb]
  rfl
end Go.Vm
end

section
set_option linter.all false
set_option maxRecDepth 100000
set_option maxHeartbeats 4000000
namespace Go.Vm
open Go.Proofs
theorem wrap_u8 {n:Int}(h1:0≤n)(h2:n≤255):IntKind.u8.wrap n=n:=by
 unfold IntKind.wrap
 simp only [IntKind.bits,IntKind.signed]
 simp
 omega
theorem wrap_u64 {n:Int}(h1:0≤n)(h2:n≤18446744073709551615):IntKind.u64.wrap n=n:=by
 unfold IntKind.wrap
 simp only [IntKind.bits,IntKind.signed]
 simp
 omega
theorem valN_snoc: ∀(l:List Nat) (n c:Nat),valN n (l++[c])=valN n l*10+(c - 48)
 | [],_,_=>rfl
 |x::r,n,c=>valN_snoc r (n*10+(x - 48)) c
theorem valN_app: ∀(l r:List Nat) (n:Nat),valN n (l++r)=valN (valN n l) r
 | [],_,_=>rfl
 |x::l,r,n=>valN_app l r (n*10+(x - 48))
def numR (s:ByteArray)(a:Nat):PRes:=
 let m:=spanN digitN ((tb s).drop a)
 match decide (valN 0 (((tb s).drop a).take m) < 9223372036854775808)&&(!decide ((tb s).getD a 0=48) || decide (m=1))with
 |true=> .val [.int .i64 3, .str (s.extract a (a+m)), .int .i64 (valN 0 (((tb s).drop a).take m):Int), .int .i64 (a:Int), .bool true]
 |false=> .val [.int .i64 0, .str (bs []), .int .i64 0, .int .i64 0, .bool false]
theorem c_rxin (n a b:Nat):cF 85 [.d (.int .u8 (n:Int)), .d (.int .u8 (a:Int)), .d (.int .u8 (b:Int))]=some (.val [.bool (decide (a≤n)&&decide (n≤b))]):=by
 refine cOf (by kernel_rfl) rfl ?_
 rw[g85_eq]
 simp only [g85,go1,Nat.reduceAdd,Int.reduceEq,Int.reduceLT,Int.reduceLE,Int.reduceSub,Int.reduceAdd]
 rw[dec_iff (show(a:Int)≤(n:Int)↔a≤n by omega),dec_iff (show(n:Int)≤(b:Int)↔n≤b by omega)]
def mkN (s:ByteArray)(a x:Nat):List D:=[.str s, .int .i64 (a:Int), .int .u64 ((valN 0 (((tb s).drop a).take x):Nat):Int), .int .i64 ((a+x:Nat):Int), .int .i64 0, .str (bs []), .int .i64 0, .int .i64 0]
theorem span_at {p:Nat→Bool}: ∀(l:List Nat) (i:Nat),i < spanN p l→p (l.getD i 0)=true
 | [],i,h=>by simp [spanN]at h
 |c::r,i,h=>by
  cases hc:p c with
  |false=>rw[span_cons0 hc]at h;omega
  |true=>
   rw[span_cons1 hc]at h
   cases i with
   |zero=>exact hc
   |succ i=>exact span_at r i (by omega)
theorem span_end {p:Nat→Bool}: ∀(l:List Nat),spanN p l < l.length→p (l.getD (spanN p l) 0)=false
 | [],h=>by simp at h
 |c::r,h=>by
  cases hc:p c with
  |false=>rw[span_cons0 hc];exact hc
  |true=>
   rw[span_cons1 hc]at h ⊢
   have:=span_end (p:=p) r (by simp at h;omega)
   rw[Nat.add_comm]
   exact this
theorem getD_drop (l:List Nat)(a i:Nat):(l.drop a).getD i 0=l.getD (a+i) 0:=by
 rw[List.getD_eq_getElem?_getD,List.getElem?_drop,List.getD_eq_getElem?_getD]
theorem take_snoc (l:List Nat)(x:Nat)(h:x < l.length):l.take (x+1)=l.take x++[l.getD x 0]:=by
 rw[List.take_add_one,List.getElem?_eq_getElem h,List.getD_eq_getElem?_getD,List.getElem?_eq_getElem h];rfl
theorem big_pos:0 < 9223372036854775808:=by decide
theorem c_rnumber (s:ByteArray)(hs:s.size≤100000)(a:Nat)(ha:a < (tb s).length)(hda:digitN ((tb s).getD a 0)=true):cF 86 [.d (.str s), .d (.int .i64 (a:Int))]=some (numR s a):=by
 have hlen:(tb s).length≤100000:=by rw[tb_len];exact hs
 have hmle:=spanN_le digitN ((tb s).drop a)
 have hpos:0 < spanN digitN ((tb s).drop a):=span_pos (by rw[getD_drop];exact hda) (by rw[List.length_drop];omega)
 have hdg:=span_at (p:=digitN) ((tb s).drop a)
 have hnd:=span_end (p:=digitN) ((tb s).drop a)
 rw[List.length_drop]at hmle hnd
 simp only [getD_drop]at hdg hnd
 refine cOf (by kernel_rfl) rfl ?_
 rw[g86_eq]
 simp only [g86,go1,Nat.reduceAdd,Int.reduceEq,Int.reduceLT,Int.reduceLE,Int.reduceSub,Int.reduceAdd]
 unfold numR
 simp only
 generalize spanN digitN ((tb s).drop a)=m at*
 have em:([D.str s,D.int .i64 (a:Int),D.int .u64 0,D.int .i64 (a:Int),D.int .i64 0,D.str (bs []),D.int .i64 0,D.int .i64 0]:List D)=mkN s a 0:=by
  unfold mkN
  rw[List.take_zero,show valN 0 []=0 from rfl,Nat.add_zero];rfl
 rw[em]
 refine loopF_at (mkN s a) (fun x=>x≤m∧valN 0 (((tb s).drop a).take x) < 9223372036854775808∧(2≤x→(tb s).getD a 0≠48)) (fun x=>m - x) (fun x hx=> ?_) 0 ?h0
 case h0=>
  have e0:valN 0 (((tb s).drop a).take 0)=0:=rfl
  exact And.intro (Nat.zero_le m) (And.intro (Nat.lt_of_le_of_lt (Nat.le_of_eq e0) big_pos) (fun h=>absurd h (by decide)))
 obtain⟨hxm,hv,hz⟩:=hx
 have hqa:((s.data.getD ((a:Int)).toNat 0).toNat:Int)=(((tb s).getD a 0:Nat):Int):=by rw[Int.toNat_natCast,tb_getD]
 have hq:((s.data.getD (((a+x:Nat):Int)).toNat 0).toNat:Int)=(((tb s).getD (a+x) 0:Nat):Int):=by rw[Int.toNat_natCast,tb_getD]
 have hc:=c_rxin ((tb s).getD (a+x) 0) 48 57
 have e48:((48:Nat):Int)=48:=rfl
 have e57:((57:Nat):Int)=57:=rfl
 rw[e48,e57]at hc
 by_cases hlt:x < m
 ·have hdx:=hdg x hlt
  have hbd:48≤(tb s).getD (a+x) 0∧(tb s).getD (a+x) 0≤57:=by
   unfold digitN at hdx
   simpa using hdx
  have hsn:valN 0 (((tb s).drop a).take (x+1))=valN 0 (((tb s).drop a).take x)*10+((tb s).getD (a+x) 0 - 48):=by
   rw[take_snoc _ _ (by rw[List.length_drop];omega),valN_snoc,getD_drop]
  have hge:valN 0 (((tb s).drop a).take (x+1))≤valN 0 (((tb s).drop a).take m):=by
   have e:((tb s).drop a).take m=((tb s).drop a).take (x+1)++(((tb s).drop a).drop (x+1)).take (m - (x+1)):=by
    rw[←List.take_add];congr 1;omega
   rw[e,valN_app]
   exact valN_ge _ _
  unfold mkN
  generalize hvv:valN 0 (((tb s).drop a).take x)=v at*
  generalize hcc:(tb s).getD (a+x) 0=c at*
  have q1:IntKind.u8.wrap ((c:Int) - 48)=(c:Int) - 48:=wrap_u8 (by omega) (by omega)
  have q2:IntKind.u64.wrap ((c:Int) - 48)=(c:Int) - 48:=wrap_u64 (by omega) (by omega)
  have q3:IntKind.u64.wrap (9223372036854775807 - ((c:Int) - 48))=9223372036854775807 - ((c:Int) - 48):=wrap_u64 (by omega) (by omega)
  have q4:sy.quo (9223372036854775807 - ((c:Int) - 48)) 10=(9223372036854775807 - ((c:Int) - 48)) / 10:=by
   rw[sy_quo];exact Int.tdiv_eq_ediv_of_nonneg (by omega)
  have q5:IntKind.u64.wrap ((9223372036854775807 - ((c:Int) - 48)) / 10)=(9223372036854775807 - ((c:Int) - 48)) / 10:=wrap_u64 (by omega) (by omega)
  have hc2:(decide (48≤c)&&decide (c≤57))=true:=by rw[decT hbd.1,decT hbd.2];rfl
  rw[hc2]at hc
  simp only [go1,Nat.reduceAdd,Int.reduceEq,Int.reduceLT,Int.reduceLE,Int.reduceSub,Int.reduceAdd]
  simp (disch:=omega) only [wrap_id,decT,decF,go1,Nat.reduceAdd,Int.reduceEq,Int.reduceLT,Int.reduceLE,Int.reduceSub,Int.reduceAdd,size_tb,hq,hqa,hc,q1,q2,q3,q4,q5]
  rw[dec_iff (show(((tb s).getD a 0:Nat):Int)=48↔(tb s).getD a 0=48 by omega),dec_iff (show(a:Int) < ((a+x:Nat):Int)↔0 < x by omega)]
  by_cases h1:v*10+(c - 48) < 9223372036854775808
  ·rw[decF (p:=(9223372036854775807 - ((c:Int) - 48)) / 10 < (v:Int)) (by omega)]
   by_cases h2:0 < x∧(tb s).getD a 0=48
   ·right
    rw[decT h2.1,decT h2.2,decF (p:=m=1) (by omega)]
    cases decide (valN 0 (((tb s).drop a).take m) < 9223372036854775808)<;>rfl
   ·left
    have hb:(false || decide (0 < x)&&decide ((tb s).getD a 0=48))=false:=by
     rw[Bool.false_or,Bool.eq_false_iff]
     intro h
     rw[Bool.and_eq_true,decide_eq_true_eq,decide_eq_true_eq]at h
     exact h2 h
    rw[hb]
    have w1:IntKind.u64.wrap ((v:Int)*10)=(v:Int)*10:=wrap_u64 (by omega) (by omega)
    have w2:IntKind.u64.wrap ((v:Int)*10+((c:Int) - 48))=((v*10+(c - 48):Nat):Int):=by rw[wrap_u64 (by omega) (by omega)];omega
    refine⟨x+1,?_,⟨by omega,by rw[hsn];exact h1,fun h h48=>h2 ⟨by omega,h48⟩⟩,by omega⟩
    have e9:((a+x:Nat):Int)+1=((a+(x+1):Nat):Int):=by omega
    rw[w1,w2,hsn,e9]
    rfl
  ·right
   rw[decT (p:=(9223372036854775807 - ((c:Int) - 48)) / 10 < (v:Int)) (by omega)]
   rw[decF (p:=valN 0 (((tb s).drop a).take m) < 9223372036854775808) (by omega)]
   rfl
 ·right
  have:x=m:=by omega
  subst this
  have e9:(((a+x:Nat):Int)).toNat=a+x:=Int.toNat_natCast _
  have e8:((a:Int)).toNat=a:=Int.toNat_natCast _
  have hsp:(decide (valN 0 (((tb s).drop a).take x) < 9223372036854775808)&&(!decide ((tb s).getD a 0=48) || decide (x=1)))=true:=by
   rw[decT hv,Bool.true_and]
   by_cases h:(tb s).getD a 0=48
   ·rw[decT (p:=x=1) (by
     by_cases h2:2≤x
     ·exact absurd h (hz h2)
     ·omega)];simp
   ·rw[decF h];rfl
  rw[hsp]
  unfold mkN
  generalize valN 0 (((tb s).drop a).take x)=v at*
  by_cases hend:a+x < (tb s).length
  ·have hnd':=hnd (by omega)
   have hc2:(decide (48≤(tb s).getD (a+x) 0)&&decide ((tb s).getD (a+x) 0≤57))=false:=by
    unfold digitN at hnd';exact hnd'
   rw[hc2]at hc
   have hq2:((s.data.getD (a+x) 0).toNat:Int)=(((tb s).getD (a+x) 0:Nat):Int):=by rw[tb_getD]
   simp only [go1,Nat.reduceAdd,Int.reduceEq,Int.reduceLT,Int.reduceLE,Int.reduceSub,Int.reduceAdd]
   simp (disch:=omega) only [wrap_id,decT,decF,go1,Nat.reduceAdd,Int.reduceEq,Int.reduceLT,Int.reduceLE,Int.reduceSub,Int.reduceAdd,size_tb,hq2,hc,e9,e8]
  ·simp only [go1,Nat.reduceAdd,Int.reduceEq,Int.reduceLT,Int.reduceLE,Int.reduceSub,Int.reduceAdd]
   simp (disch:=omega) only [wrap_id,decT,decF,go1,Nat.reduceAdd,Int.reduceEq,Int.reduceLT,Int.reduceLE,Int.reduceSub,Int.reduceAdd,size_tb,e9,e8]
end Go.Vm
end

section
set_option linter.all false
set_option maxRecDepth 100000
set_option maxHeartbeats 4000000
namespace Go.Vm
open Go.Proofs
def rtok (k:Int)(s:ByteArray)(n p w:Int)(ok:Bool):PRes:= .val [.int .i64 k, .str s, .int .i64 n, .int .i64 p, .int .i64 w, .bool ok]
theorem tb_tail (s:ByteArray)(a:Nat):tb (s.extract a (tb s).length)=(tb s).drop a:=by rw[tb_ext,List.take_length]
theorem ext_ext (s:ByteArray)(a i j:Nat)(h:a+j≤(tb s).length):(s.extract a (tb s).length).extract i j=s.extract (a+i) (a+j):=by
 apply tb_inj
 rw[tb_ext,tb_tail,tb_ext,←List.drop_drop,List.take_drop]
theorem idx_step {c x:Nat}{r:List Nat}(h:x≠c):idxN c (x::r)=(idxN c r).map (· +1):=by
 rw[idxN,if_neg h]
 try (cases idxN c r<;>rfl)
theorem c_rpath (s:ByteArray)(hs:s.size≤100000)(a:Nat)(ha:a < (tb s).length):cF 84 [.d (.str s), .d (.int .i64 (a:Int))]=some (match idxN 39 ((tb s).drop (a+1))with
  |none=>rtok 0 (bs []) 0 0 (a:Int) false
  |some j=>rtok 4 (s.extract (a+1) (a+1+j)) 0 (a:Int) ((a+1+j+1:Nat):Int) (pathN (tb (s.extract (a+1) (a+1+j))))):=by
 have hlen:(tb s).length≤100000:=by rw[tb_len];exact hs
 have e1:IntKind.i64.wrap ((a:Int)+1)=((a+1+0:Nat):Int):=by rw[wrap_id (by omega) (by omega)];omega
 refine cOf (by kernel_rfl) rfl ?_
 rw[g84_eq]
 simp only [g84,go1,Nat.reduceAdd,Int.reduceEq,Int.reduceLT,Int.reduceLE,Int.reduceSub,Int.reduceAdd,e1]
 refine loopF_at (fun x:Nat=>[.str s, .int .i64 (a:Int), .int .i64 ((a+1+x:Nat):Int), .int .i64 0, .str (bs []), .int .i64 0, .int .i64 0])
  (fun x=>a+1+x≤(tb s).length∧idxN 39 ((tb s).drop (a+1))=(idxN 39 ((tb s).drop (a+1+x))).map (· +x)) (fun x=>(tb s).length - x) (fun x hx=> ?_) 0 ⟨by omega,by rw[Nat.add_zero];cases idxN 39 ((tb s).drop (a+1))<;>rfl⟩
 obtain⟨hle,hi⟩:=hx
 by_cases hlt:a+1+x < (tb s).length
 ·have hq:((s.data.getD (((a+1+x:Nat):Int)).toNat 0).toNat:Int)=(((tb s).getD (a+1+x) 0:Nat):Int):=by rw[Int.toNat_natCast,tb_getD]
  have hd:=drop_cons hlt
  simp only [go1,Nat.reduceAdd,Int.reduceEq,Int.reduceLT,Int.reduceLE,Int.reduceSub,Int.reduceAdd]
  simp (disch:=omega) only [wrap_id,decT,decF,go1,Nat.reduceAdd,Int.reduceEq,Int.reduceLT,Int.reduceLE,Int.reduceSub,Int.reduceAdd,size_tb,hq]
  rw[dec_iff (show(((tb s).getD (a+1+x) 0:Nat):Int)=39↔(tb s).getD (a+1+x) 0=39 by omega)]
  by_cases h39:(tb s).getD (a+1+x) 0=39
  ·right
   rw[decT h39]
   have hj:idxN 39 ((tb s).drop (a+1))=some x:=by
    rw[hi,hd,h39,idxN,if_pos rfl];simp
   have e2:((a:Int)+1).toNat=a+1:=by omega
   have e3:(((a+1+x:Nat):Int)).toNat=a+1+x:=Int.toNat_natCast _
   have z:(s.extract (a+1) (a+1+x)).size≤100000:=by rw[←tb_len,ext_len _ _ _ (by omega) (by omega)];omega
   have k:=c_rPath _ z
   rw[hj]
   simp (disch:=omega) only [wrap_id,decT,decF,go1,Nat.reduceAdd,Int.reduceEq,Int.reduceLT,Int.reduceLE,Int.reduceSub,Int.reduceAdd,e2,e3,k]
   rw[Int.natCast_add (a+1+x) 1];rfl
  ·left
   rw[decF h39]
   refine⟨x+1,?_,⟨by omega,?_⟩,by omega⟩
   ·have:((a+1+x:Nat):Int)+1=((a+1+(x+1):Nat):Int):=by omega
    rw[this];rfl
   ·rw[hi,hd,idx_step h39]
    have:a+1+x+1=a+1+(x+1):=by omega
    rw[this]
    cases idxN 39 ((tb s).drop (a+1+(x+1)))with
    |none=>rfl
    |some j=>simp;omega
 ·right
  have:(tb s).length=a+1+x:=by omega
  have ed:(tb s).drop (a+1+x)= []:=List.drop_of_length_le (by omega)
  rw[ed]at hi
  rw[hi,show idxN 39 []=none from rfl]
  simp only [go1,Nat.reduceAdd,Int.reduceEq,Int.reduceLT,Int.reduceLE,Int.reduceSub,Int.reduceAdd]
  simp (disch:=omega) only [wrap_id,decT,decF,go1,Nat.reduceAdd,Int.reduceEq,Int.reduceLT,Int.reduceLE,Int.reduceSub,Int.reduceAdd,size_tb]
  rfl
theorem c_rmark (t:ByteArray)(hs:t.size≤100000)(h0:0 < (tb t).length):cF 90 [.d (.str t)]=some (.val [.str (match (markT t).ok with
  |true=>(markT t).s
  |false=>bs [])]):=by
 have hlen:(tb t).length≤100000:=by rw[tb_len];exact hs
 refine cOf (by kernel_rfl) rfl ?_
 rw[g90_eq]
 simp only [g90,go1,Nat.reduceAdd,Int.reduceEq,Int.reduceLT,Int.reduceLE,Int.reduceSub,Int.reduceAdd]
 refine loopF_at (fun i:Nat=>[.str t, .int .i64 (i:Int), .sl 1 (srows twoB)]) (fun i=>i≤5∧ ∀j,j < i→(tb t).take 2≠twoN.getD j []) (fun i=>5 - i) (fun i hi=> ?_) 0 ⟨by omega,fun j hj=>by omega⟩
 obtain⟨hle,hno⟩:=hi
 have hrl:((srows twoB).length:Int)=5:=rfl
 by_cases hlt:i < 5
 ·obtain⟨m,hm,htm,hl2⟩:=two_at i hlt
  have hrow:sy.rown (srows twoB) i= [.str m]:=by
   rw[sy_rown,List.getD_eq_getElem?_getD]
   unfold srows
   rw[List.getElem?_map,hm];rfl
  by_cases h2:2≤(tb t).length
  ·have e:((t.extract (0:Int).toNat (2:Int).toNat).toList == m.toList)=decide ((tb t).take 2=twoN.getD i []):=by
    rw[seq_tb,tb_scut,htm];rfl
   simp only [go1,Nat.reduceAdd,Int.reduceEq,Int.reduceLT,Int.reduceLE,Int.reduceSub,Int.reduceAdd]
   simp (disch:=omega) only [wrap_id,decT,decF,go1,Nat.reduceAdd,Int.reduceEq,Int.reduceLT,Int.reduceLE,Int.reduceSub,Int.reduceAdd,size_tb,hrl,Int.toNat_natCast,hrow,e]
   cases hh:decide ((tb t).take 2=twoN.getD i [])with
   |true=>
    right
    have he:=of_decide_eq_true hh
    have hc:twoN.contains ((tb t).take 2)=true:=two_in.2 ⟨i,hlt,he⟩
    have hx:m=t.extract 0 2:=tb_inj (by rw[tb_ext,List.drop_zero,he,htm])
    unfold markT
    rw[hc,←hx]
    rfl
   |false=>
    left
    have he:=of_decide_eq_false hh
    exact⟨i+1,by rw[Int.natCast_add];rfl,⟨by omega,fun j hj=>by
     by_cases e:j=i
     ·subst e;exact he
     ·exact hno j (by omega)⟩,by omega⟩
  ·left
   simp only [go1,Nat.reduceAdd,Int.reduceEq,Int.reduceLT,Int.reduceLE,Int.reduceSub,Int.reduceAdd]
   simp (disch:=omega) only [wrap_id,decT,decF,go1,Nat.reduceAdd,Int.reduceEq,Int.reduceLT,Int.reduceLE,Int.reduceSub,Int.reduceAdd,size_tb,hrl]
   have he:(tb t).take 2≠twoN.getD i []:=fun h=>by
    have:=congrArg List.length h
    rw[hl2,List.length_take]at this
    omega
   exact⟨i+1,by rw[Int.natCast_add];rfl,⟨by omega,fun j hj=>by
    by_cases e:j=i
    ·subst e;exact he
    ·exact hno j (by omega)⟩,by omega⟩
 ·right
  have:i=5:=by omega
  subst this
  have hc:twoN.contains ((tb t).take 2)=false:=by
   rw[Bool.eq_false_iff]
   intro h
   obtain⟨j,hj,he⟩:=two_in.1 h
   exact hno j hj he
  simp only [go1,Nat.reduceAdd,Int.reduceEq,Int.reduceLT,Int.reduceLE,Int.reduceSub,Int.reduceAdd]
  simp (disch:=omega) only [wrap_id,decT,decF,go1,Nat.reduceAdd,Int.reduceEq,Int.reduceLT,Int.reduceLE,Int.reduceSub,Int.reduceAdd,hrl]
  have ho:bs [40,41,123,125,91,93,44,59,58,61,60,62,43,45,42,47]=bs oneL:=rfl
  rw[ho]
  have hol:((tb (bs oneL)).length:Int)=16:=rfl
  have htb:tb (bs oneL)=oneN:=rfl
  refine loopF_at (fun i:Nat=>[.str t, .str (bs oneL), .int .i64 (i:Int)]) (fun i=>i≤16∧ ∀j,j < i→(tb t).getD 0 0≠oneN.getD j 0) (fun i=>16 - i) (fun i hi=> ?_) 0 ⟨by omega,fun j hj=>by omega⟩
  obtain⟨hle,hno⟩:=hi
  by_cases hlt:i < 16
  ·have hq:((t.data.getD (0:Int).toNat 0).toNat:Int)=(((tb t).getD 0 0:Nat):Int):=by rw[toNat0,hd_tb]
   have hq2:(((bs oneL).data.getD ((i:Nat):Int).toNat 0).toNat:Int)=((oneN.getD i 0:Nat):Int):=by rw[Int.toNat_natCast,←htb,tb_getD]
   simp only [go1,Nat.reduceAdd,Int.reduceEq,Int.reduceLT,Int.reduceLE,Int.reduceSub,Int.reduceAdd]
   simp (disch:=omega) only [wrap_id,decT,decF,go1,Nat.reduceAdd,Int.reduceEq,Int.reduceLT,Int.reduceLE,Int.reduceSub,Int.reduceAdd,size_tb,hol,hq,hq2]
   rw[dec_iff (show(((tb t).getD 0 0:Nat):Int)=((oneN.getD i 0:Nat):Int)↔(tb t).getD 0 0=oneN.getD i 0 by omega)]
   by_cases he:(tb t).getD 0 0=oneN.getD i 0
   ·right
    rw[decT he]
    have hin:oneN.contains ((tb t).getD 0 0)=true:=by
     rw[he,List.contains_iff_mem,List.getD_eq_getElem?_getD,List.getElem?_eq_getElem (show i < oneN.length from hlt)]
     exact List.getElem_mem _
    have hx:(bs oneL).extract i (i+1)=t.extract 0 1:=tb_inj (by
     rw[tb_ext,tb_ext,htb,List.drop_zero,take_snoc _ _ (show i < oneN.length from hlt),List.drop_append_of_le_length (by simp [oneN];omega),List.drop_of_length_le (by rw[List.length_take];omega),←he,List.nil_append]
     match tb t,h0 with
     |c::r,_=>rfl)
    unfold markT
    rw[hc,hin]
    have e4:(((i:Nat):Int)).toNat=i:=Int.toNat_natCast _
    have e5:((((i:Nat):Int))+1).toNat=i+1:=by omega
    simp (disch:=omega) only [wrap_id,decT,decF,go1,Nat.reduceAdd,Int.reduceEq,Int.reduceLT,Int.reduceLE,Int.reduceSub,Int.reduceAdd,e4,e5,hx]
    try rfl
   ·left
    rw[decF he]
    exact⟨i+1,by rw[Int.natCast_add];rfl,⟨by omega,fun j hj=>by
     by_cases e:j=i
     ·subst e;exact he
     ·exact hno j (by omega)⟩,by omega⟩
  ·right
   have:i=16:=by omega
   subst this
   have hin:oneN.contains ((tb t).getD 0 0)=false:=by
    rw[Bool.eq_false_iff]
    intro h
    rw[List.contains_iff_mem]at h
    obtain⟨j,hj,he⟩:=List.mem_iff_getElem.1 h
    refine hno j hj ?_
    rw[List.getD_eq_getElem?_getD (l:=oneN),List.getElem?_eq_getElem hj];exact he.symm
   unfold markT
   rw[hc,hin]
   simp only [go1,Nat.reduceAdd,Int.reduceEq,Int.reduceLT,Int.reduceLE,Int.reduceSub,Int.reduceAdd]
   simp (disch:=omega) only [wrap_id,decT,decF,go1,Nat.reduceAdd,Int.reduceEq,Int.reduceLT,Int.reduceLE,Int.reduceSub,Int.reduceAdd,size_tb,hol]
   rfl
end Go.Vm
end

section
set_option linter.all false
set_option maxRecDepth 100000
set_option maxHeartbeats 4000000
namespace Go.Vm
open Go.Proofs
theorem c_rxsmall (n:Nat):cF 85 [.d (.int .u8 (n:Int)), .d (.int .u8 97), .d (.int .u8 122)]=some (.val [.bool (smallN n)]):=c_rxin n 97 122
theorem c_rxgreat (n:Nat):cF 85 [.d (.int .u8 (n:Int)), .d (.int .u8 65), .d (.int .u8 90)]=some (.val [.bool (greatN n)]):=c_rxin n 65 90
theorem c_rxdigit (n:Nat):cF 85 [.d (.int .u8 (n:Int)), .d (.int .u8 48), .d (.int .u8 57)]=some (.val [.bool (digitN n)]):=c_rxin n 48 57
theorem c_rxinner (n:Nat):cF 87 [.d (.int .u8 (n:Int))]=some (.val [.bool (innerN n)]):=by
 refine cOf (by kernel_rfl) rfl ?_
 rw[g87_eq]
 simp only [g87,go1,Nat.reduceAdd,Int.reduceEq,Int.reduceLT,Int.reduceLE,Int.reduceSub,Int.reduceAdd,c_rxsmall,c_rxgreat,c_rxdigit]
 rw[dec_iff (show(n:Int)=95↔n=95 by omega)]
 unfold innerN
 cases smallN n<;>cases greatN n<;>cases digitN n<;>cases decide (n=95)<;>rfl
def SameTok (t:Tok)(a:Nat)(p:PRes):Prop:= ∃k s n q w,p=rtok k s n q w t.ok∧(t.ok=true→k=t.k∧s=t.s∧n=t.n∧q=(a:Int)∧w=((a+t.w:Nat):Int))
theorem number_same (s:ByteArray)(a:Nat)(ha:a < (tb s).length)(hda:digitN ((tb s).getD a 0)=true):
  ∃k u n q w ok,numR s a= .val [.int .i64 k, .str u, .int .i64 n, .int .i64 q, .bool ok]∧ok=(numberT (s.extract a (tb s).length)).ok∧w=u.size∧
   (ok=true→k=3∧u=(numberT (s.extract a (tb s).length)).s∧n=(numberT (s.extract a (tb s).length)).n∧q=(a:Int)∧w=(numberT (s.extract a (tb s).length)).w):=by
 have hmle:=spanN_le digitN ((tb s).drop a)
 rw[List.length_drop]at hmle
 have hpos:0 < spanN digitN ((tb s).drop a):=span_pos (by rw[getD_drop];exact hda) (by rw[List.length_drop];omega)
 have hx:(s.extract a (tb s).length).extract 0 (spanN digitN ((tb s).drop a))=s.extract a (a+spanN digitN ((tb s).drop a)):=ext_ext s a 0 _ (by omega)
 have htw:tb (s.extract a (a+spanN digitN ((tb s).drop a)))=((tb s).drop a).take (spanN digitN ((tb s).drop a)):=by
  rw[tb_ext,List.drop_take,Nat.add_sub_cancel_left]
 have hall:(tb (s.extract a (a+spanN digitN ((tb s).drop a)))).all digitN=true:=by rw[htw,take_span];exact List.all_takeWhile
 have hl:(tb (s.extract a (a+spanN digitN ((tb s).drop a)))).length=spanN digitN ((tb s).drop a):=by rw[htw,List.length_take,List.length_drop];omega
 obtain⟨p1,p2⟩:=parse_digits _ hall (by omega)
 unfold numberT numR
 simp only [tb_tail,getD_drop0,hx]
 rw[p1]
 rw[htw]at p2 ⊢
 have hsz:(s.extract a (a+spanN digitN ((tb s).drop a))).size=spanN digitN ((tb s).drop a):=by rw[←tb_len,hl]
 cases hb:(decide (valN 0 (((tb s).drop a).take (spanN digitN ((tb s).drop a))) < 9223372036854775808)&&(!decide ((tb s).getD a 0=48) || decide (spanN digitN ((tb s).drop a)=1)))with
 |false=>exact⟨_,_,_,_,_,_,rfl,rfl,rfl,fun h=>by cases h⟩
 |true=>
  have hv:=(Bool.and_eq_true _ _▸hb).1
  exact⟨_,_,_,_,_,_,rfl,rfl,rfl,fun _=>⟨rfl,rfl,(p2 (of_decide_eq_true hv)).symm,rfl,hsz⟩⟩
theorem c_rone (s:ByteArray)(hs:s.size≤100000)(a:Nat)(ha:a < (tb s).length): ∃p,cF 44 [.d (.str s), .d (.int .i64 (a:Int))]=some p∧SameTok (nextT0 (s.extract a (tb s).length)) a p:=by
 have hlen:(tb s).length≤100000:=by rw[tb_len];exact hs
 have hq:((s.data.getD (a:Int).toNat 0).toNat:Int)=(((tb s).getD a 0:Nat):Int):=by rw[Int.toNat_natCast,tb_getD]
 have kd:=c_rxdigit ((tb s).getD a 0)
 have ks:=c_rxsmall ((tb s).getD a 0)
 have kg:=c_rxgreat ((tb s).getD a 0)
 have hh:(tb (s.extract a (tb s).length)).getD 0 0=(tb s).getD a 0:=by rw[tb_tail,getD_drop0]
 refine cOfP (by kernel_rfl) rfl ?_
 rw[g44_eq]
 simp only [g44,go1,Nat.reduceAdd,Int.reduceEq,Int.reduceLT,Int.reduceLE,Int.reduceSub,Int.reduceAdd]
 simp (disch:=omega) only [wrap_id,decT,decF,go1,Nat.reduceAdd,Int.reduceEq,Int.reduceLT,Int.reduceLE,Int.reduceSub,Int.reduceAdd,size_tb,hq]
 rw[dec_iff (show(((tb s).getD a 0:Nat):Int)=39↔(tb s).getD a 0=39 by omega)]
 have htl:=tb_tail s a
 have e8:((a:Int)).toNat=a:=Int.toNat_natCast _
 have e7:(((tb s).length:Nat):Int).toNat=(tb s).length:=Int.toNat_natCast _
 by_cases h39:(tb s).getD a 0=39
 ·rw[decT h39]
  have kp:=c_rpath s hs a ha
  have hn:nextT0 (s.extract a (tb s).length)=pathT (s.extract a (tb s).length):=by
   unfold nextT0
   simp only [hh,h39]
   rfl
  rw[hn]
  unfold pathT
  rw[htl,List.drop_drop]
  cases hi:idxN 39 ((tb s).drop (a+1))with
  |none=>
   rw[hi]at kp
   simp only [rtok]at kp
   simp only [go1,Nat.reduceAdd,Int.reduceEq,Int.reduceLT,Int.reduceLE,Int.reduceSub,Int.reduceAdd,kp]
   exact⟨_,rfl,_,_,_,_,_,rfl,fun h=>by cases h⟩
  |some j=>
   rw[hi]at kp
   have hlt:=(idxN_some hi).1
   simp only [List.length_drop]at hlt
   simp only [rtok]at kp
   simp only [go1,Nat.reduceAdd,Int.reduceEq,Int.reduceLT,Int.reduceLE,Int.reduceSub,Int.reduceAdd,kp]
   have hx:=ext_ext s a 1 (j+1) (by omega)
   have e2:a+(j+1)=a+1+j:=by omega
   rw[e2]at hx
   refine⟨_,rfl,4,s.extract (a+1) (a+1+j),0,(a:Int),((a+1+j+1:Nat):Int),?_,fun _=>⟨rfl,hx.symm,rfl,rfl,?_⟩⟩
   ·show _=rtok _ _ _ _ _ (pathN (tb ((s.extract a (tb s).length).extract 1 (j+1))))
    rw[hx];rfl
   ·show((a+1+j+1:Nat):Int)=((a+(j+2):Nat):Int)
    omega
 ·rw[decF h39]
  cases hd:digitN ((tb s).getD a 0)with
  |true=>
   have kn:=c_rnumber s hs a ha hd
   obtain⟨k,u,n,q,w,ok,h1,h2,h3,h4⟩:=number_same s a ha hd
   rw[h1]at kn
   have hn:nextT0 (s.extract a (tb s).length)=numberT (s.extract a (tb s).length):=by
    unfold nextT0
    have hs1:smallN ((tb s).getD a 0)=false:=by
     unfold digitN at hd;unfold smallN
     simp only [Bool.and_eq_true,decide_eq_true_eq]at hd
     rw[decF (by omega)];rfl
    have hs2:greatN ((tb s).getD a 0)=false:=by
     unfold digitN at hd;unfold greatN
     simp only [Bool.and_eq_true,decide_eq_true_eq]at hd
     rw[decF (by omega)];rfl
    simp only [hh,hd,hs1,hs2,Bool.false_or]
   rw[hd]at kd
   rw[hn]
   simp only [go1,Nat.reduceAdd,Int.reduceEq,Int.reduceLT,Int.reduceLE,Int.reduceSub,Int.reduceAdd,kd,kn]
   refine⟨_,rfl,k,u,n,q,IntKind.i64.wrap ((a:Int)+((tb u).length:Int)),?_,fun hok=> ?_⟩
   ·rw[←h2];rfl
   ·rw[←h2]at hok
    obtain⟨i1,i2,i3,i4,i5⟩:=h4 hok
    refine⟨i1,i2,i3,i4,?_⟩
    rw[tb_len,←h3,i5]
    have hw:(numberT (s.extract a (tb s).length)).w≤(tb s).length - a:=by
     have:=spanN_le digitN (tb (s.extract a (tb s).length))
     rw[htl,List.length_drop]at this
     unfold numberT
     rw[htl];exact this
    rw[wrap_id (by omega) (by omega)];omega
  |false=>
   cases hl:(smallN ((tb s).getD a 0) || greatN ((tb s).getD a 0))with
   |true=>
    have hin:innerN ((tb s).getD a 0)=true:=by unfold innerN;rw[hl];rfl
    have hn:nextT0 (s.extract a (tb s).length)=wordT (s.extract a (tb s).length):=by
     unfold nextT0
     simp only [hh,hl]
    have hmle:=spanN_le innerN ((tb s).drop a)
    have hpos:0 < spanN innerN ((tb s).drop a):=span_pos (by rw[getD_drop];exact hin) (by rw[List.length_drop];omega)
    have hdg:=span_at (p:=innerN) ((tb s).drop a)
    have hnd:=span_end (p:=innerN) ((tb s).drop a)
    rw[List.length_drop]at hmle hnd
    simp only [getD_drop]at hdg hnd
    have hx:(s.extract a (tb s).length).extract 0 (spanN innerN ((tb s).drop a))=s.extract a (a+spanN innerN ((tb s).drop a)):=ext_ext s a 0 _ (by omega)
    rw[hd]at kd
    rw[hn]
    unfold wordT
    simp only [htl,hx,getD_drop0]
    generalize spanN innerN ((tb s).drop a)=m at*
    have z:(s.extract a (a+m)).size≤100000:=by rw[←tb_len,ext_len _ _ _ (by omega) (by omega)];omega
    have r1:=c_rHigh _ z
    have r2:=c_rLow _ z
    have r3:=c_rWord (s.extract a (a+m))
    refine⟨rtok (match greatN ((tb s).getD a 0)with|true=>2|false=>1) (s.extract a (a+m)) 0 (a:Int) ((a+m:Nat):Int) (match greatN ((tb s).getD a 0)with|true=>highN (tb (s.extract a (a+m)))|false=>lowN (tb (s.extract a (a+m))) || wordN (tb (s.extract a (a+m)))),?_,?_⟩
    ·have hb:(cutO (bif smallN ((tb s).getD a 0)then some (Sum.inl [D.bool true])else some (Sum.inl [D.bool (greatN ((tb s).getD a 0))])) fun ds=>opB (sy.cell ds 0))=some true:=by
      cases hs1:smallN ((tb s).getD a 0)with
      |true=>rfl
      |false=>rw[hs1,Bool.false_or]at hl;rw[hl];rfl
     have key: ∀b1 b2:Bool,(b1 || b2)=true→ ∀(X Y:Option PRes),(bif (b1 || b2)then X else Y)=X:=fun b1 b2 h X Y=>by rw[h];rfl
     simp only [go1,Nat.reduceAdd,Int.reduceEq,Int.reduceLT,Int.reduceLE,Int.reduceSub,Int.reduceAdd,kd,ks,kg,hl]
     refine loopF_at (fun x:Nat=>[.str s, .int .i64 (a:Int), .int .u8 (((tb s).getD a 0:Nat):Int), .int .i64 ((a+x:Nat):Int), .int .i64 0, .str (bs []), .int .i64 0, .int .i64 0]) (fun x=>x≤m) (fun x=>m - x) (fun x hxm=> ?_) 0 (Nat.zero_le _)
     have hq1:((s.data.getD (((a+x:Nat):Int)).toNat 0).toNat:Int)=(((tb s).getD (a+x) 0:Nat):Int):=by rw[Int.toNat_natCast,tb_getD]
     have ki:=c_rxinner ((tb s).getD (a+x) 0)
     by_cases hlt:x < m
     ·left
      have hdx:=hdg x hlt
      rw[hdx]at ki
      simp only [go1,Nat.reduceAdd,Int.reduceEq,Int.reduceLT,Int.reduceLE,Int.reduceSub,Int.reduceAdd]
      simp (disch:=omega) only [wrap_id,decT,decF,go1,Nat.reduceAdd,Int.reduceEq,Int.reduceLT,Int.reduceLE,Int.reduceSub,Int.reduceAdd,hq1,ki]
      have e9:((a+x:Nat):Int)+1=((a+(x+1):Nat):Int):=by omega
      exact⟨x+1,by rw[e9],by omega,by omega⟩
     ·right
      have:x=m:=by omega
      subst this
      have e9:(((a+x:Nat):Int)).toNat=a+x:=Int.toNat_natCast _
      by_cases hend:a+x < (tb s).length
      ·have hnd':=hnd (by omega)
       rw[hnd']at ki
       simp only [go1,Nat.reduceAdd,Int.reduceEq,Int.reduceLT,Int.reduceLE,Int.reduceSub,Int.reduceAdd]
       have hq2:((s.data.getD (a+x) 0).toNat:Int)=(((tb s).getD (a+x) 0:Nat):Int):=by rw[tb_getD]
       simp (disch:=omega) only [wrap_id,decT,decF,go1,Nat.reduceAdd,Int.reduceEq,Int.reduceLT,Int.reduceLE,Int.reduceSub,Int.reduceAdd,hq2,ki,e8,e9,kg]
       cases greatN ((tb s).getD a 0)with
       |true=>
        simp (disch:=omega) only [wrap_id,decT,decF,go1,Nat.reduceAdd,Int.reduceEq,Int.reduceLT,Int.reduceLE,Int.reduceSub,Int.reduceAdd,r1]
        try rfl
       |false=>
        simp only [go1,Nat.reduceAdd,Int.reduceEq,Int.reduceLT,Int.reduceLE,Int.reduceSub,Int.reduceAdd,r2]
        cases lowN (tb (s.extract a (a+x)))with
        |true=>simp only [go1,Nat.reduceAdd,Int.reduceEq,Int.reduceLT,Int.reduceLE,Int.reduceSub,Int.reduceAdd];try rfl
        |false=>simp only [go1,Nat.reduceAdd,Int.reduceEq,Int.reduceLT,Int.reduceLE,Int.reduceSub,Int.reduceAdd,r3];try rfl
      ·simp only [go1,Nat.reduceAdd,Int.reduceEq,Int.reduceLT,Int.reduceLE,Int.reduceSub,Int.reduceAdd]
       simp (disch:=omega) only [wrap_id,decT,decF,go1,Nat.reduceAdd,Int.reduceEq,Int.reduceLT,Int.reduceLE,Int.reduceSub,Int.reduceAdd,e8,e9,kg]
       cases greatN ((tb s).getD a 0)with
       |true=>
        simp (disch:=omega) only [wrap_id,decT,decF,go1,Nat.reduceAdd,Int.reduceEq,Int.reduceLT,Int.reduceLE,Int.reduceSub,Int.reduceAdd,r1]
        try rfl
       |false=>
        simp only [go1,Nat.reduceAdd,Int.reduceEq,Int.reduceLT,Int.reduceLE,Int.reduceSub,Int.reduceAdd,r2]
        cases lowN (tb (s.extract a (a+x)))with
        |true=>simp only [go1,Nat.reduceAdd,Int.reduceEq,Int.reduceLT,Int.reduceLE,Int.reduceSub,Int.reduceAdd];try rfl
        |false=>simp only [go1,Nat.reduceAdd,Int.reduceEq,Int.reduceLT,Int.reduceLE,Int.reduceSub,Int.reduceAdd,r3];try rfl
    ·cases greatN ((tb s).getD a 0)with
     |true=>exact⟨_,_,_,_,_,rfl,fun _=>⟨rfl,rfl,rfl,rfl,rfl⟩⟩
     |false=>exact⟨_,_,_,_,_,rfl,fun _=>⟨rfl,rfl,rfl,rfl,rfl⟩⟩
   |false=>
    have hl2:=hl
    rw[Bool.or_eq_false_iff]at hl2
    have hn:nextT0 (s.extract a (tb s).length)=markT (s.extract a (tb s).length):=by
     unfold nextT0
     simp only [hh,hl,hd,decF h39]
    have z:(s.extract a (tb s).length).size≤100000:=by rw[←tb_len,htl,List.length_drop];omega
    have hp:0 < (tb (s.extract a (tb s).length)).length:=by rw[htl,List.length_drop];omega
    have km:=c_rmark _ z hp
    have hok:=markT_ok _ hp
    rw[hn]
    rw[hd]at kd
    rw[hl2.1]at ks
    rw[hl2.2]at kg
    have hwl:(markT (s.extract a (tb s).length)).ok=true→(tb (markT (s.extract a (tb s).length)).s).length=(markT (s.extract a (tb s).length)).w∧1≤(markT (s.extract a (tb s).length)).w∧(markT (s.extract a (tb s).length)).w≤(tb s).length - a:=fun h=>by
     obtain⟨q1,q2,q3,q4,q5⟩:=hok h
     have hk:(markT (s.extract a (tb s).length)).k≠4:=by
      unfold markT at h ⊢
      revert h
      split<;>intro h<;>first|exact(by decide:(5:Int)≠4)|cases h
     rw[htl,List.length_drop]at q2
     refine⟨?_,q1,q2⟩
     rw[q5 hk,htl,List.length_take,List.length_drop];omega
    have hzz:(markT (s.extract a (tb s).length)).k=5∨(markT (s.extract a (tb s).length)).ok=false:=by
     unfold markT
     split
     ·exact .inl rfl
     ·exact .inl rfl
     ·exact .inr rfl
    have hnn:(markT (s.extract a (tb s).length)).n=0:=by
     unfold markT
     split<;>rfl
    generalize markT (s.extract a (tb s).length)=t at*
    simp only [go1,Nat.reduceAdd,Int.reduceEq,Int.reduceLT,Int.reduceLE,Int.reduceSub,Int.reduceAdd,kd,ks,kg]
    simp (disch:=omega) only [wrap_id,decT,decF,go1,Nat.reduceAdd,Int.reduceEq,Int.reduceLT,Int.reduceLE,Int.reduceSub,Int.reduceAdd,e8,e7]
    cases hb:t.ok with
    |false=>
     rw[hb]at km
     have hse:((bs []).toList == (bs []).toList)=true:=by rw[seq_tb];exact decT rfl
     simp only [go1,Nat.reduceAdd,Int.reduceEq,Int.reduceLT,Int.reduceLE,Int.reduceSub,Int.reduceAdd,km,hse]
     exact⟨_,rfl,5,bs [],0,(a:Int),IntKind.i64.wrap ((a:Int)+((tb (bs [])).length:Int)),by rw[hb];rfl,fun h=>by rw[hb]at h;cases h⟩
    |true=>
     rw[hb]at km
     obtain⟨w1,w2,w3⟩:=hwl hb
     have hk5:t.k=5:=by
      rcases hzz with h|h
      ·exact h
      ·rw[hb]at h;cases h
     have hsq:(t.s.toList == (bs []).toList)=false:=by
      rw[seq_tb]
      refine decF fun h=> ?_
      have:=congrArg List.length h
      rw[w1,tb_bs]at this
      simp at this;omega
     simp only [go1,Nat.reduceAdd,Int.reduceEq,Int.reduceLT,Int.reduceLE,Int.reduceSub,Int.reduceAdd,km,hsq]
     refine⟨_,rfl,5,t.s,0,(a:Int),IntKind.i64.wrap ((a:Int)+((tb t.s).length:Int)),?_,fun _=>⟨hk5.symm,rfl,hnn.symm,rfl,?_⟩⟩
     ·rw[hb];rfl
     ·rw[w1,wrap_id (by omega) (by omega)];omega
end Go.Vm
end

section
set_option linter.all false
set_option maxRecDepth 100000
set_option maxHeartbeats 4000000
namespace Go.Vm
open Go.Proofs
theorem c_rAll (s:ByteArray)(most:Int)(hs:s.size≤100000):cF 18 [.d (.str s), .d (.int .i64 most)]=some (allR s most):=by
 have hlen:(tb s).length≤100000:=by rw[tb_len];exact hs
 have k0:=c_rskip s hs 0 (Nat.zero_le _)
 refine cOf (by kernel_rfl) rfl ?_
 rw[g18_eq]
 simp only [g18,go1,Nat.reduceAdd,Int.reduceEq,Int.reduceLT,Int.reduceLE,Int.reduceSub,Int.reduceAdd]
 unfold allR
 rw[size_tb]
 cases hm:decide (most < ((tb s).length:Int))with
 |true=>simp only [go1,Nat.reduceAdd,Int.reduceEq,Int.reduceLT,Int.reduceLE,Int.reduceSub,Int.reduceAdd]
 |false=>
  rw[show((0:Nat):Int)=0 from rfl]at k0
  simp only [go1,Nat.reduceAdd,Int.reduceEq,Int.reduceLT,Int.reduceLE,Int.reduceSub,Int.reduceAdd,k0]
  rw[show gapN (List.drop 0 (tb s))=0+gapN (List.drop 0 (tb s))from(Nat.zero_add _).symm]
  refine loopF_at (fun x:Nat × List Tk=>[.str s, .int .i64 ((x.1+gapN ((tb s).drop x.1):Nat):Int), .sl 4 (trows x.2)]) (fun x=>x.1≤(tb s).length∧x.2.length≤x.1∧lexS s 0=(x.2++(lexS s x.1).1,(lexS s x.1).2)) (fun x=>(tb s).length - x.1) (fun x hx=> ?_) (0,[]) ⟨Nat.zero_le _,Nat.le_refl _,by simp⟩
  obtain⟨a,acc⟩:=x
  obtain⟨h1,h2,h3⟩:=hx
  simp only at h1 h2 h3
  have hg:=gapN_le _ _ (Nat.le_refl ((tb s).drop a).length)
  simp only [List.length_drop]at hg
  have heq:=lexS.eq_def s a
  simp only
  generalize gapN ((tb s).drop a)=g at hg heq ⊢
  have hal:(trows acc).length=acc.length:=trows_len acc
  by_cases hp:a+g < (tb s).length
  ·rw[dif_pos hp]at heq
   obtain⟨p,k1,k,u,n,q,w,rfl,hsm⟩:=c_rone s hs (a+g) hp
   have hpos:0 < (tb (s.extract (a+g) (tb s).length)).length:=by rw[tb_tail,List.length_drop];omega
   have hok:=nextT0_ok (s.extract (a+g) (tb s).length) hpos
   rw[tb_tail]at hok
   generalize nextT0 (s.extract (a+g) (tb s).length)=t at k1 hsm hok heq
   simp only [rtok]at k1
   simp only [go1,Nat.reduceAdd,Int.reduceEq,Int.reduceLT,Int.reduceLE,Int.reduceSub,Int.reduceAdd]
   simp (disch:=omega) only [wrap_id,decT,decF,go1,Nat.reduceAdd,Int.reduceEq,Int.reduceLT,Int.reduceLE,Int.reduceSub,Int.reduceAdd,size_tb,k1]
   cases hb:t.ok with
   |false=>
    right
    rw[dif_neg (by rw[hb];simp)]at heq
    rw[h3,heq]
    simp only [go1,Nat.reduceAdd,Int.reduceEq,Int.reduceLT,Int.reduceLE,Int.reduceSub,Int.reduceAdd]
   |true=>
    left
    obtain⟨q1,q2,_⟩:=hok hb
    obtain⟨rfl,rfl,rfl,rfl,rfl⟩:=hsm hb
    simp only [List.length_drop]at q2
    rw[dif_pos ⟨hb,q1⟩]at heq
    have k2:=c_rskip s hs (a+g+t.w) (by omega)
    refine⟨(a+g+t.w,acc++[⟨t.k,t.s,t.n,a+g⟩]),?_,⟨by simp only;omega,by simp;omega,?_⟩,by simp only;omega⟩
    ·simp (disch:=omega) only [wrap_id,decT,decF,go1,Nat.reduceAdd,Int.reduceEq,Int.reduceLT,Int.reduceLE,Int.reduceSub,Int.reduceAdd,hal,List.length_singleton,k2]
     rw[←trows_app]
     rfl
    ·rw[h3,heq];simp
  ·right
   rw[dif_neg hp]at heq
   have hpe:a+g=(tb s).length:=by omega
   rw[h3,heq,←trows_app,←trows_app]
   simp only [go1,Nat.reduceAdd,Int.reduceEq,Int.reduceLT,Int.reduceLE,Int.reduceSub,Int.reduceAdd]
   simp (disch:=omega) only [wrap_id,decT,decF,go1,Nat.reduceAdd,Int.reduceEq,Int.reduceLT,Int.reduceLE,Int.reduceSub,Int.reduceAdd,size_tb,hal,List.length_singleton]
   rw[show trows ([]:List Tk)= []from rfl,List.append_nil]
   rfl
end Go.Vm
end

section
set_option linter.all false
set_option maxRecDepth 100000
set_option maxHeartbeats 4000000
namespace Go.Vm
open Go.Proofs
theorem ext_sz (s:ByteArray)(a b:Nat):(s.extract a b).size≤s.size:=by
 rw[ByteArray.size_extract];omega
theorem nextT0_s (s:ByteArray):(nextT0 s).s.size≤s.size:=by
 have h0:(bs []).size≤s.size:=Nat.zero_le _
 unfold nextT0
 simp only
 split
 ·unfold wordT
  simp only
  split<;>exact ext_sz _ _ _
 ·exact ext_sz _ _ _
 ·unfold pathT
  split
  ·exact h0
  ·exact ext_sz _ _ _
 ·unfold markT
  split
  ·exact ext_sz _ _ _
  ·exact ext_sz _ _ _
  ·exact h0
theorem nextT0_5 (s:ByteArray)(h:(nextT0 s).k=5):(nextT0 s).s.size≤2:=by
 unfold nextT0 at h ⊢
 simp only at h ⊢
 split at h
 ·rename_i hc;unfold wordT at h;simp only at h;split at h<;>cases h
 ·cases h
 ·unfold pathT at h
  split at h<;>cases h
 ·rename_i h1 h2 h3
  unfold markT at h ⊢
  split
  ·show(s.extract 0 2).size≤2
   rw[ByteArray.size_extract];omega
  ·show(s.extract 0 1).size≤2
   rw[ByteArray.size_extract];omega
  ·rename_i h4 h5
   rw[h4,h5]at h
   cases h
theorem lexS_tok (s:ByteArray): ∀(m a:Nat),(tb s).length - a≤m→(∀t∈(lexS s a).1,t.s.size≤s.size∧(t.k=5→t.s.size≤2))∧(lexS s a).1.length≤(tb s).length - a
 |m,a,hm=>by
  rw[lexS]
  split
  ·rename_i hp
   split
   ·rename_i h
    have ih:=lexS_tok s (m - 1) (a+gapN ((tb s).drop a)+(nextT0 (s.extract (a+gapN ((tb s).drop a)) (tb s).length)).w) (by omega)
    refine⟨fun t ht=> ?_,?_⟩
    ·rcases List.mem_cons.1 ht with rfl|ht
     ·exact⟨Nat.le_trans (nextT0_s _) (ext_sz _ _ _),fun h5=>nextT0_5 _ h5⟩
     ·exact ih.1 t ht
    ·simp only [List.length_cons]
     omega
   ·exact⟨(by simp),Nat.zero_le _⟩
  ·exact⟨(by simp),Nat.zero_le _⟩
 termination_by m a=>(tb s).length - a
 decreasing_by omega
def toksS (s:ByteArray):List Tk:=(lexS s 0).1++[endT s]
theorem toks_mem {s:ByteArray}(hs:s.size≤100000){t:Tk}(h:t∈toksS s):t.s.size≤100000∧(t.k=5→t.s.size≤2):=by
 rcases List.mem_append.1 h with h|h
 ·have:=(lexS_tok s _ 0 (Nat.le_refl _)).1 t h
  exact⟨by omega,this.2⟩
 ·rw[List.mem_singleton.1 h]
  exact⟨bs0_size,fun h=>by cases h⟩
theorem tkA_prop {l:List Tk}{Q:Tk→Prop}(h0:Q ⟨6,bs [],0,0⟩)(h: ∀t∈l,Q t)(j:Nat):Q (tkA l j):=by
 unfold tkA
 rw[List.getD_eq_getElem?_getD]
 cases hx:l[j]? with
 |none=>exact h0
 |some t=>exact h t (List.mem_of_getElem? hx)
theorem TS_of {l:List Tk}(h: ∀t∈l,t.s.size≤100000):TS l:=fun j=>tkA_prop (Q:=fun t=>t.s.size≤100000) (by decide) h j
theorem TOK_of {l:List Tk}(h: ∀t∈l,t.k=5→t.s.size≤2):TOK l:=fun j hj=>by
 have:=tkA_prop (Q:=fun t=>t.k=5→t.s.size≤2) (fun _=>by decide) h j hj
 refine⟨fun e=> ?_,fun e=> ?_⟩<;>(rw[e]at this;revert this;decide)
theorem LOK_toks (s:ByteArray)(hs:s.size≤100000):LOK (toksS s):=by
 have h:=(lexS_tok s _ 0 (Nat.le_refl _)).2
 have h2:(tb s).length≤100000:=by rw[tb_len];exact hs
 refine⟨by simp [toksS],?_,?_⟩
 ·simp [tkA,toksS,endT]
 ·simp only [toksS,List.length_append,List.length_cons,List.length_nil];omega
def okTok (l:List Tk)(i:Int):Bool:=decide (0≤i)&&(decide (i < (l.length:Int))&&decide ((tkA l (l.length - 1)).k=6))
theorem last_at {l:List Tk}(h:0 < l.length)(hl:l.length≤1000000):IntKind.i64.wrap ((l.length:Int) - 1)=((l.length - 1:Nat):Int):=by
 rw[wrap_id (by omega) (by omega)];omega
theorem c_ptokens (l:List Tk)(i:Int)(hl:l.length≤1000000):cF 82 [.d (.sl 4 (trows l)), .d (.int .i64 i)]=some (.val [.bool (okTok l i)]):=by
 refine cOf (by kernel_rfl) rfl ?_
 rw[g82_eq]
 simp only [g82,go1,Nat.reduceAdd,Int.reduceEq,Int.reduceLT,Int.reduceLE,Int.reduceSub,Int.reduceAdd,trows_len]
 unfold okTok
 cases h0:decide (0≤i)with
 |false=>rfl
 |true=>
  cases h1:decide (i < (l.length:Int))with
  |false=>rfl
  |true=>
   have h0:=of_decide_eq_true h0
   have h1:=of_decide_eq_true h1
   have hpos:0 < l.length:=by omega
   have hlt:l.length - 1 < l.length:=by omega
   have q1:=in_tk hlt
   have q2:=row_tk hlt
   rw[trows_len]at q1
   simp only [go1,Nat.reduceAdd,Int.reduceEq,Int.reduceLT,Int.reduceLE,Int.reduceSub,Int.reduceAdd,trows_len,last_at hpos hl,q1,q2,tkrow,Bool.true_and]
def encP:Ex × Int × Int→PRes
 |(.mk k n s o a u,p,r)=> .val [.int .i64 k, .int .i64 n, .str s, .int .i64 o, .sl 1 (srows a), .sl 6 (Ex.rows u), .int .i64 p, .int .i64 r]
def partS (l:List Tk)(i:Nat):Ex × Int × Int:=match readS l i with
 | .out=>(e0,(i:Int),1)
 | .bad j=>(e0,(j:Int),2)
 | .ok e j=>bif !smallB e then(e0,(i:Int),3)else bif !allB e then(e0,(i:Int),1)else(e,(j:Int),0)
theorem small_big (e:Ex):(decide ((12:Int) < (e.depth:Int)) || decide ((60:Int) < (e.size:Int)))= !smallB e:=by
 unfold smallB
 rw[nlt,nlt]
 have e1:decide ((e.depth:Int)≤12)=decide (e.depth≤12):=by rw[Bool.eq_iff_iff];simp;try omega
 have e2:decide ((e.size:Int)≤60)=decide (e.size≤60):=by rw[Bool.eq_iff_iff];simp;try omega
 rw[e1,e2]
 cases decide (e.depth≤12)<;>cases decide (e.size≤60)<;>rfl
theorem c_pread {l:List Tk}(hl:LOK l)(i:Nat)(hi:i < l.length):cF 83 [.d (.sl 4 (trows l)), .d (.int .i64 (i:Int))]=some (match readS l i with
  | .ok (.mk k n s o a u) j=> .val [.int .i64 k, .int .i64 n, .str s, .int .i64 o, .sl 1 (srows a), .sl 6 (Ex.rows u), .int .i64 (j:Int), .bool true]
  | .bad j=> .val [.int .i64 0, .int .i64 0, .str (bs []), .int .i64 0, .sl 1 [], .sl 6 [], .int .i64 (j:Int), .bool false]
  | .out=> .val []):=by
 have h:=c_parrow hl i hi
 have hne:=readS_ne hl i hi
 refine cOf (by kernel_rfl) rfl ?_
 rw[g83_eq]
 simp only [g83,go1,Nat.reduceAdd,Int.reduceEq,Int.reduceLT,Int.reduceLE,Int.reduceSub,Int.reduceAdd,h]
 cases hR:readS l i with
 |out=>exact(hne hR).elim
 |bad j=>rfl
 |ok e j=>obtain⟨k,n,s,o,a,u⟩:=e;rfl
theorem c_pPart {l:List Tk}(hl:LOK l)(ht:TS l)(i:Nat)(hi:i < l.length):cF 42 [.d (.sl 4 (trows l)), .d (.int .i64 (i:Int))]=some (encP (partS l i)):=by
 have hf:=hl.few
 have h1:=c_ptokens l (i:Int) hf
 have h0:okTok l (i:Int)=true:=by
  unfold okTok;rw[decT (by omega),decT (by omega),hl.last];rfl
 rw[h0]at h1
 have h2:=c_pread hl i hi
 have hne:=readS_ne hl i hi
 unfold partS
 refine cOf (by kernel_rfl) rfl ?_
 rw[g42_eq]
 simp only [g42,go1,Nat.reduceAdd,Int.reduceEq,Int.reduceLT,Int.reduceLE,Int.reduceSub,Int.reduceAdd,h1,h2,Bool.not_true]
 cases hR:readS l i with
 |out=>exact(hne hR).elim
 |bad j=>rfl
 |ok e j=>
  have hz:=readS_sz ht hR
  have hj:=((prs_HQ hl (fuel l)).pos .arrow i e j hi hR).2
  have hff:=okS_fine e hz.2 (by omega)
  have hsm:=small_big e
  obtain⟨k,n,s,o,a,u⟩:=e
  have k1:=c_eDepth 1000000 k n s o a u (by omega) (Nat.le_refl _)
  have k2:=c_eSize k n s o a u (by omega)
  have k3:=c_eRight k n s o a u (by omega) hff
  simp only [go1,Nat.reduceAdd,Int.reduceEq,Int.reduceLT,Int.reduceLE,Int.reduceSub,Int.reduceAdd,oE,k1,k2,k3,Bool.not_true]
  cases g1:decide ((12:Int) < ((Ex.mk k n s o a u).depth:Int))with
  |true=>
   rw[g1,Bool.true_or]at hsm
   simp only [go1,Nat.reduceAdd,Int.reduceEq,Int.reduceLT,Int.reduceLE,Int.reduceSub,Int.reduceAdd,←hsm]
   rfl
  |false=>
   cases g2:decide ((60:Int) < ((Ex.mk k n s o a u).size:Int))with
   |true=>
    rw[g1,g2,Bool.false_or]at hsm
    simp only [go1,Nat.reduceAdd,Int.reduceEq,Int.reduceLT,Int.reduceLE,Int.reduceSub,Int.reduceAdd,←hsm]
    rfl
   |false=>
    rw[g1,g2,Bool.false_or]at hsm
    have hsm2:smallB (.mk k n s o a u)=true:=by cases h:smallB (.mk k n s o a u)with
     |true=>rfl
     |false=>rw[h]at hsm;cases hsm
    simp only [go1,Nat.reduceAdd,Int.reduceEq,Int.reduceLT,Int.reduceLE,Int.reduceSub,Int.reduceAdd,←hsm,hsm2,Bool.true_and]
    cases allB (.mk k n s o a u)<;>(simp only [go1,Nat.reduceAdd,Int.reduceEq,Int.reduceLT,Int.reduceLE,Int.reduceSub,Int.reduceAdd,Bool.not_true,Bool.not_false];rfl)
theorem c_qPart {l:List Tk}(hl:LOK l)(ht:TS l)(hT:TOK l)(i:Nat)(hi:i < l.length):cF 21 [.d (.sl 4 (trows l)), .d (.int .i64 (i:Int))]=some (encP (partS l i)):=by
 have hf:=hl.few
 have hlt:l.length - 1 < l.length:=by omega
 have q1:=in_tk hlt
 have q2:=row_tk hlt
 have q0:=last_at hl.pos hf
 have h2:=QR_cases (c_qArrow hl hT i hi)
 have hne:=readS_ne hl i hi
 have e1:decide ((i:Int) < 0)=false:=decF (by omega)
 have e2:decide ((l.length:Int)≤(i:Int))=false:=decF (by omega)
 have e3:=hl.last
 rw[trows_len]at q1
 unfold partS
 refine cOf (by kernel_rfl) rfl ?_
 rw[g21_eq]
 simp only [g21,go1,Nat.reduceAdd,Int.reduceEq,Int.reduceLT,Int.reduceLE,Int.reduceSub,Int.reduceAdd,trows_len,e1,e2,q0,q1,q2,tkrow,e3,decide_true,Bool.not_true]
 rcases h2 with⟨e,j,hR,h3⟩|⟨e,j,hR,hj,h3⟩
 ·have hz:=readS_sz ht hR
  have hj:=((prs_HQ hl (fuel l)).pos .arrow i e j hi hR).2
  have hff:=okS_fine e hz.2 (by omega)
  have hsm:=small_big e
  obtain⟨k,n,s,o,a,u⟩:=e
  have k1:=c_rDepth 1000000 k n s o a u (by omega) (Nat.le_refl _)
  have k2:=c_rSize 1000000 k n s o a u (by omega) (Nat.le_refl _)
  have k3:=c_reRight k n s o a u (by omega) hff
  rw[hR]
  simp only [go1,Nat.reduceAdd,Int.reduceEq,Int.reduceLT,Int.reduceLE,Int.reduceSub,Int.reduceAdd,oE,h3,valR,Ex.row,List.cons_append,List.nil_append,k1,k2,k3]
  cases g1:decide ((12:Int) < ((Ex.mk k n s o a u).depth:Int))with
  |true=>
   rw[g1,Bool.true_or]at hsm
   simp only [go1,Nat.reduceAdd,Int.reduceEq,Int.reduceLT,Int.reduceLE,Int.reduceSub,Int.reduceAdd,←hsm]
   rfl
  |false=>
   cases g2:decide ((60:Int) < ((Ex.mk k n s o a u).size:Int))with
   |true=>
    rw[g1,g2,Bool.false_or]at hsm
    simp only [go1,Nat.reduceAdd,Int.reduceEq,Int.reduceLT,Int.reduceLE,Int.reduceSub,Int.reduceAdd,←hsm]
    rfl
   |false=>
    rw[g1,g2,Bool.false_or]at hsm
    have hsm2:smallB (.mk k n s o a u)=true:=by cases h:smallB (.mk k n s o a u)with
     |true=>rfl
     |false=>rw[h]at hsm;cases hsm
    simp only [go1,Nat.reduceAdd,Int.reduceEq,Int.reduceLT,Int.reduceLE,Int.reduceSub,Int.reduceAdd,←hsm,hsm2,Bool.true_and]
    cases allB (.mk k n s o a u)<;>(simp only [go1,Nat.reduceAdd,Int.reduceEq,Int.reduceLT,Int.reduceLE,Int.reduceSub,Int.reduceAdd,Bool.not_true,Bool.not_false];rfl)
 ·obtain⟨k,n,s,o,a,u⟩:=e
  rw[hR]
  simp only [go1,Nat.reduceAdd,Int.reduceEq,Int.reduceLT,Int.reduceLE,Int.reduceSub,Int.reduceAdd,oE,h3,valR,Ex.row,List.cons_append,List.nil_append]
  rfl
end Go.Vm
end

section
set_option linter.all false
set_option maxRecDepth 100000
set_option maxHeartbeats 4000000
namespace Go.Vm
open Go.Proofs
theorem partS_at {l:List Tk}(hl:LOK l)(i:Nat)(hi:i < l.length)(hj: ∀j,readS l i= .bad j→j < l.length): ∃p:Nat,(partS l i).2.1=(p:Int)∧p < l.length:=by
 unfold partS
 cases hR:readS l i with
 |out=>exact⟨i,rfl,hi⟩
 |bad j=>exact⟨j,rfl,hj j hR⟩
 |ok e j=>
  have hj:=((prs_HQ hl (fuel l)).pos .arrow i e j hi hR).2
  simp only
  cases smallB e with
  |false=>exact⟨i,rfl,hi⟩
  |true=>
   cases allB e with
   |false=>exact⟨i,rfl,hi⟩
   |true=>exact⟨j,rfl,hj⟩
theorem readS_bad {l:List Tk}(hl:LOK l)(hT:TOK l){i:Nat}(hi:i < l.length){j:Nat}(h:readS l i= .bad j):j < l.length:=by
 rcases QR_cases (c_qArrow hl hT i hi)with⟨a,k,h1,h2⟩|⟨a,k,h1,hj,h2⟩
 ·rw[h1]at h;cases h
 ·rw[h1]at h;cases h;exact hj
theorem row_skip {l:List Tk}{i:Nat}(h:i < l.length):sy.cell (sy.skip 3 (sy.row (trows l) (i:Int))) 0=some (.int .i64 ((tkA l i).a:Int)):=by rw[row_tk h];rfl
theorem row_skip1 {l:List Tk}{i:Nat}(h:i < l.length):sy.cell (sy.skip 1 (sy.row (trows l) (i:Int))) 0=some (.str (tkA l i).s):=by rw[row_tk h];rfl
theorem row_k {l:List Tk}{i:Nat}(h:i < l.length):sy.cell (sy.row (trows l) (i:Int)) 0=some (.int .i64 (tkA l i).k):=by rw[row_tk h];rfl
theorem partS_ok {l:List Tk}(hl:LOK l)(hS:TS l){i:Nat}(hi:i < l.length){e:Ex}{p:Int}(h:partS l i=(e,p,0)): ∃j:Nat,p=(j:Int)∧i < j∧j < l.length∧e.fine∧e.size≤1000000:=by
 unfold partS at h
 cases hR:readS l i with
 |out=>rw[hR]at h;cases h
 |bad j=>rw[hR]at h;cases h
 |ok e2 j=>
  rw[hR]at h
  have hz:=readS_sz hS hR
  have hj:=(prs_HQ hl (fuel l)).pos .arrow i e2 j hi hR
  have hf:=hl.few
  simp only at h
  cases h1:smallB e2 with
  |false=>rw[h1]at h;cases h
  |true=>
   cases h2:allB e2 with
   |false=>rw[h1,h2]at h;cases h
   |true=>
    rw[h1,h2]at h
    cases h
    exact⟨j,rfl,hj.1,hj.2,okS_fine _ hz.2 (by omega),by omega⟩
structure Mv where
 p:ByteArray
 e:Ex
def Mv.row (m:Mv):List D:= .str m.p::m.e.row
def mrows (o:List Mv):List (List D):=o.map Mv.row
theorem mrows_len (o:List Mv):(mrows o).length=o.length:=by simp [mrows]
theorem mrow_at {o:List Mv}{i:Nat}{m:Mv}(h:o[i]? =some m):sy.row (mrows o) (i:Int)=m.row:=by
 show(mrows o).getD (i:Int).toNat []=_
 rw[Int.toNat_natCast,List.getD_eq_getElem?_getD]
 simp [mrows,h]
def isMt (t:Tk)(w:ByteArray):Bool:=decide (t.k=5)&&decide (tb t.s=tb w)
theorem c_mmark (t:Tk)(w:ByteArray):cF 41 [.agg [.d (.int .i64 t.k), .d (.str t.s), .d (.int .i64 t.n), .d (.int .i64 (t.a:Int))], .d (.str w)]=some (.val [.bool (isMt t w)]):=by
 unfold isMt
 refine cOf (by kernel_rfl) rfl ?_
 rw[g41_eq]
 simp only [g41,go1,Nat.reduceAdd,Int.reduceEq,Int.reduceLT,Int.reduceLE,Int.reduceSub,Int.reduceAdd,seq_tb]
 try (cases decide (t.k=5)<;>rfl)
theorem c_mis (t:Tk)(w:ByteArray):cF 20 [.agg [.d (.int .i64 t.k), .d (.str t.s), .d (.int .i64 t.n), .d (.int .i64 (t.a:Int))], .d (.str w)]=some (.val [.bool (isMt t w)]):=by
 unfold isMt
 refine cOf (by kernel_rfl) rfl ?_
 rw[g20_eq]
 simp only [g20,go1,Nat.reduceAdd,Int.reduceEq,Int.reduceLT,Int.reduceLE,Int.reduceSub,Int.reduceAdd,seq_tb]
 try (cases decide (t.k=5)<;>rfl)
def hasP (o:List Mv)(s:ByteArray):Bool:=o.any fun m=>decide (tb m.p=tb s)
theorem hasP_take {o:List Mv}{i:Nat}{m:Mv}{s:ByteArray}(h:o[i]? =some m)(h2:hasP (o.take i) s=false):hasP (o.take (i+1)) s=decide (tb m.p=tb s):=by
 have:o.take (i+1)=o.take i++[m]:=by rw[List.take_add_one,h];rfl
 unfold hasP at h2 ⊢
 rw[this,List.any_append,h2,Bool.false_or]
 simp
theorem hasP_at {o:List Mv}{i:Nat}{m:Mv}{s:ByteArray}(h:o[i]? =some m)(h2:decide (tb m.p=tb s)=true):hasP o s=true:=by
 unfold hasP
 exact List.any_eq_true.2 ⟨m,List.mem_of_getElem? h,h2⟩
def errS (t:Tk)(o:List Mv):Int:=match decide (t.k=4),hasP o t.s,decide ((o.length:Int)=40)with
 |false,_,_=>2
 |true,true,_=>6
 |true,false,true=>4
 |true,false,false=>0
theorem c_mhas (o:List Mv)(s:ByteArray)(ho:o.length≤1000000):cF 19 [.d (.sl 7 (mrows o)), .d (.str s)]=some (.val [.bool (hasP o s)]):=by
 refine cOf (by kernel_rfl) rfl ?_
 rw[g19_eq]
 simp only [g19,go1,Nat.reduceAdd,Int.reduceEq,Int.reduceLT,Int.reduceLE,Int.reduceSub,Int.reduceAdd]
 refine loopF_at (fun i:Nat=>[.sl 7 (mrows o), .str s, .int .i64 (i:Int)]) (fun i=>i≤o.length∧hasP (o.take i) s=false) (fun i=>o.length - i) (fun i hi=> ?_) 0 ⟨Nat.zero_le _,rfl⟩
 obtain⟨h1,h2⟩:=hi
 by_cases hlt:i < o.length
 ·have hx:=List.getElem?_eq_getElem hlt
  generalize o[i]=m at hx
  have hr:=mrow_at hx
  have h3:=hasP_take hx h2
  have w1:IntKind.i64.wrap ((i:Int)+1)=((i+1:Nat):Int):=by rw[wrap_id (by omega) (by omega)];omega
  simp only [go1,Nat.reduceAdd,Int.reduceEq,Int.reduceLT,Int.reduceLE,Int.reduceSub,Int.reduceAdd,mrows_len,ilt_at hlt,inr_at hlt,hr,Mv.row,seq_tb]
  cases hd:decide (tb m.p=tb s)with
  |true=>
   right
   rw[hasP_at hx hd]
   rfl
  |false=>
   left
   rw[hd]at h3
   exact⟨i+1,by simp only [go1,Nat.reduceAdd,Int.reduceEq,Int.reduceLT,Int.reduceLE,Int.reduceSub,Int.reduceAdd,w1],⟨hlt,h3⟩,by omega⟩
 ·right
  have:i=o.length:=by omega
  subst this
  rw[List.take_length]at h2
  simp only [go1,Nat.reduceAdd,Int.reduceEq,Int.reduceLT,Int.reduceLE,Int.reduceSub,Int.reduceAdd,mrows_len,ilt_self,h2]
theorem c_mpath (t:Tk)(o:List Mv)(ho:o.length≤1000000):cF 16 [.agg [.d (.int .i64 t.k), .d (.str t.s), .d (.int .i64 t.n), .d (.int .i64 (t.a:Int))], .d (.sl 7 (mrows o))]=some (.val [.int .i64 (errS t o)]):=by
 refine cOf (by kernel_rfl) rfl ?_
 rw[g16_eq]
 simp only [g16,go1,Nat.reduceAdd,Int.reduceEq,Int.reduceLT,Int.reduceLE,Int.reduceSub,Int.reduceAdd,mrows_len]
 unfold errS
 cases hk:decide (t.k=4)with
 |false=>rfl
 |true=>
  simp only [go1,Nat.reduceAdd,Int.reduceEq,Int.reduceLT,Int.reduceLE,Int.reduceSub,Int.reduceAdd]
  refine loopF_at (fun i:Nat=>[.sl 7 (mrows o), .int .i64 (o.length:Int), .int .i64 (i:Int), .int .i64 t.k, .str t.s, .int .i64 t.n, .int .i64 (t.a:Int), .str t.s]) (fun i=>i≤o.length∧hasP (o.take i) t.s=false) (fun i=>o.length - i) (fun i hi=> ?_) 0 ⟨Nat.zero_le _,rfl⟩
  obtain⟨h1,h2⟩:=hi
  by_cases hlt:i < o.length
  ·have hx:=List.getElem?_eq_getElem hlt
   generalize o[i]=m at hx
   have hr:=mrow_at hx
   have h3:=hasP_take hx h2
   have w1:IntKind.i64.wrap ((i:Int)+1)=((i+1:Nat):Int):=by rw[wrap_id (by omega) (by omega)];omega
   have z0:decide ((0:Int)≤(i:Int))=true:=decide_eq_true (by omega)
   obtain⟨mp,k2,n2,s2,o2,a2,u2⟩:=m
   have hr:sy.row (mrows o) (i:Int)= [.str mp, .int .i64 k2, .int .i64 n2, .str s2, .int .i64 o2, .sl 1 (srows a2), .sl 6 (Ex.rows u2)]:=hr
   simp only [go1,Nat.reduceAdd,Int.reduceEq,Int.reduceLT,Int.reduceLE,Int.reduceSub,Int.reduceAdd,oT,oE,mrows_len,ilt_at hlt,inr_at hlt,hr,seq_tb,z0]
   cases hd:decide (tb mp=tb t.s)with
   |true=>
    right
    rw[hasP_at hx hd]
    rfl
   |false=>
    left
    rw[hd]at h3
    exact⟨i+1,by simp only [go1,Nat.reduceAdd,Int.reduceEq,Int.reduceLT,Int.reduceLE,Int.reduceSub,Int.reduceAdd,w1],⟨hlt,h3⟩,by omega⟩
  ·right
   have:i=o.length:=by omega
   subst this
   rw[List.take_length]at h2
   simp only [go1,Nat.reduceAdd,Int.reduceEq,Int.reduceLT,Int.reduceLE,Int.reduceSub,Int.reduceAdd,oT,oE,mrows_len,ilt_self,h2,Int.reduceLE]
   cases decide ((o.length:Int)=40)<;>rfl
def moveS (l:List Tk)(i:Nat):Ex × Int × Int:=match isMt (tkA l i) (bs [58,61])with
 |false=>(e0,(i:Int),2)
 |true=>match partS l (i+1)with
  |(e,p,r)=>match decide (r=0),isMt (tkA l p.toNat) (bs [59])with
   |false,_=>(e0,p,r)
   |true,false=>(e0,p,2)
   |true,true=>(e,p+1,0)
theorem isMt_k {t:Tk}{w:ByteArray}(h:isMt t w=true):t.k≠6:=by
 unfold isMt at h
 simp only [Bool.and_eq_true,decide_eq_true_eq]at h
 omega
section
variable {l : List Tk} (hl : LOK l) (hS : TS l) (hT : TOK l)
include hl hS hT
theorem c_mmove (i:Nat)(hi:i < l.length):cF 17 [.d (.sl 4 (trows l)), .d (.int .i64 (i:Int))]=some (encP (moveS l i)):=by
 have hf:=hl.few
 have q1:=in_tk hi
 have q2:=row_tk hi
 have m1:=c_mmark (tkA l i) (bs [58,61])
 rw[trows_len]at q1
 unfold moveS
 refine cOf (by kernel_rfl) rfl ?_
 rw[g17_eq]
 cases h1:isMt (tkA l i) (bs [58,61])with
 |false=>
  rw[h1]at m1
  simp only [g17,go1,Nat.reduceAdd,Int.reduceEq,Int.reduceLT,Int.reduceLE,Int.reduceSub,Int.reduceAdd,oT,trows_len,q1,q2,tkrow,m1]
  rfl
 |true=>
  rw[h1]at m1
  have hi1:=hl.next hi (isMt_k h1)
  have h2:=c_pPart hl hS (i+1) hi1
  obtain⟨p,hp1,hp2⟩:=partS_at hl (i+1) hi1 fun j hj=>readS_bad hl hT hi1 hj
  have w1:IntKind.i64.wrap ((i:Int)+1)=((i+1:Nat):Int):=by rw[wrap_id (by omega) (by omega)];omega
  generalize partS l (i+1)=R at hp1 h2 ⊢
  obtain⟨⟨k,n,s1,o,a,u⟩,p1,r⟩:=R
  simp only [encP]at hp1 h2
  subst hp1
  have q3:=in_tk hp2
  have q4:=row_tk hp2
  have m2:=c_mmark (tkA l p) (bs [59])
  have w2:IntKind.i64.wrap ((p:Int)+1)=(p:Int)+1:=by rw[wrap_id (by omega) (by omega)]
  rw[trows_len]at q3
  simp only [g17,go1,Nat.reduceAdd,Int.reduceEq,Int.reduceLT,Int.reduceLE,Int.reduceSub,Int.reduceAdd,oT,oE,trows_len,q1,q2,tkrow,m1,w1,h2,Int.toNat_natCast]
  cases decide (r=0)with
  |false=>rfl
  |true=>
   simp only [go1,Nat.reduceAdd,Int.reduceEq,Int.reduceLT,Int.reduceLE,Int.reduceSub,Int.reduceAdd,q3,q4,tkrow,m2]
   cases isMt (tkA l p) (bs [59])with
   |false=>rfl
   |true=>simp only [go1,Nat.reduceAdd,Int.reduceEq,Int.reduceLT,Int.reduceLE,Int.reduceSub,Int.reduceAdd,w2];rfl
theorem moveS_at (i:Nat)(hi:i < l.length): ∃p:Nat,(moveS l i).2.1=(p:Int)∧p < l.length∧((moveS l i).2.2=0→i < p∧(moveS l i).1.fine∧(moveS l i).1.size≤1000000):=by
 unfold moveS
 cases h1:isMt (tkA l i) (bs [58,61])with
 |false=>exact⟨i,rfl,hi,fun h=>by cases h⟩
 |true=>
  have hi1:=hl.next hi (isMt_k h1)
  obtain⟨p,hp1,hp2⟩:=partS_at hl (i+1) hi1 fun j hj=>readS_bad hl hT hi1 hj
  have hok:=fun e q=>partS_ok hl hS hi1 (e:=e) (p:=q)
  generalize partS l (i+1)=R at hp1 hok ⊢
  obtain⟨e,p1,r⟩:=R
  simp only at hp1 ⊢
  subst hp1
  rw[Int.toNat_natCast]
  cases hr:decide (r=0)with
  |false=>exact⟨p,rfl,hp2,fun h=>by simp only at h;rw[h]at hr;cases hr⟩
  |true=>
   have hr:=of_decide_eq_true hr
   subst hr
   cases hm:isMt (tkA l p) (bs [59])with
   |false=>exact⟨p,rfl,hp2,fun h=>by cases h⟩
   |true=>
    obtain⟨j,hj,h2,h3,h4,h5⟩:=hok e _ rfl
    have:j=p:=by omega
    subst this
    exact⟨j+1,rfl,hl.next hp2 (isMt_k hm),fun _=>⟨by omega,h4,h5⟩⟩
end
inductive MR where
 |out
 |ok (o:List Mv)
 |er (i:Nat) (c:Int)
def mStep (l:List Tk)(o:List Mv)(i:Nat):(List Mv × Nat) ⊕ MR:=match decide ((tkA l i).k=6),decide (errS (tkA l i) o=0)with
 |true,_=> .inr (.ok o)
 |false,false=> .inr (.er i (errS (tkA l i) o))
 |false,true=>match moveS l (i+1)with
  |(e,p,r)=>match decide (r=0)with
   |false=> .inr (.er p.toNat r)
   |true=> .inl (o++[⟨(tkA l i).s,e⟩],p.toNat)
def mRun (l:List Tk):Nat→List Mv→Nat→MR
 |0,_,_=> .out
 |n+1,o,i=>match mStep l o i with
  | .inl x=>mRun l n x.1 x.2
  | .inr r=>r
def encM (l:List Tk)(n:Nat):MR→PRes
 | .out=> .val []
 | .ok o=> .val [.sl 7 (mrows o), .int .i64 (n:Int), .int .i64 0]
 | .er i c=> .val [.sl 7 [], .int .i64 ((tkA l i).a:Int), .int .i64 c]
end Go.Vm
end

section
set_option linter.all false
set_option maxRecDepth 100000
set_option maxHeartbeats 4000000
namespace Go.Vm
open Go.Proofs
def mvFine (o:List Mv):Prop:= ∀m∈o,m.e.fine∧m.e.size≤1000000
theorem mrows_snoc (o:List Mv)(m:Mv):mrows o++[m.row]=mrows (o++[m]):=by simp [mrows]
structure MI (l:List Tk) (N:Nat) (x:Nat × List Mv × Nat):Prop where
 r:mRun l x.1 x.2.1 x.2.2=mRun l N [] 0
 i:x.2.2 < l.length
 n:l.length - x.2.2≤x.1
 o:x.2.1.length≤x.2.2
 f:mvFine x.2.1
def mrFine:MR→Prop
 | .ok o=>mvFine o∧o.length≤1000000
 | .er _ _=>True
 | .out=>False
section
variable {l : List Tk} (hl : LOK l) (hS : TS l) (hT : TOK l)
include hl hS hT
theorem mround {N:Nat}{x:Nat × List Mv × Nat}(h:MI l N x):
  (∃r,mStep l x.2.1 x.2.2= .inr r∧mRun l N [] 0=r∧mrFine r)∨ ∃e p,mStep l x.2.1 x.2.2= .inl (x.2.1++[⟨(tkA l x.2.2).s,e⟩],p)∧moveS l (x.2.2+1)=(e,(p:Int),0)∧x.2.2 < p∧MI l N (x.1 - 1,x.2.1++[⟨(tkA l x.2.2).s,e⟩],p)∧x.1 - 1 < x.1:=by
 obtain⟨n,o,i⟩:=x
 obtain⟨h1,h2,h3,h4,h5⟩:=h
 simp only at h1 h2 h3 h4 h5 ⊢
 obtain⟨n,rfl⟩: ∃q,n=q+1:=⟨n - 1,by omega⟩
 have hf:=hl.few
 rw[mRun]at h1
 cases hs:mStep l o i with
 |inr r=>
  left
  rw[hs]at h1
  refine⟨r,rfl,h1.symm,?_⟩
  unfold mStep at hs
  split at hs
  ·cases hs;exact⟨h5,by omega⟩
  ·cases hs;trivial
  ·split at hs
   rename_i q _ _ _
   split at hs
   ·cases hs;trivial
   ·cases hs
 |inl y=>
  right
  rw[hs]at h1
  unfold mStep at hs
  split at hs
  ·cases hs
  ·cases hs
  ·rename_i hk he
   have hk6:(tkA l i).k≠6:=of_decide_eq_false hk
   have hi1:=hl.next h2 hk6
   obtain⟨p,q1,q2,q3⟩:=moveS_at hl hS hT (i+1) hi1
   split at hs
   rename_i e p1 r hm
   simp only [hm]at q3
   rw[hm]at q1
   have q1:p1=(p:Int):=q1
   subst q1
   split at hs
   ·cases hs
   ·rename_i hr
    have hr:=of_decide_eq_true hr
    subst hr
    obtain⟨q4,q5,q6⟩:=q3 rfl
    rw[Int.toNat_natCast]at hs
    cases hs
    refine⟨e,p,rfl,hm,by omega,⟨?_,q2,?_,?_,?_⟩,by omega⟩
    ·simpa using h1
    ·simp only;omega
    ·simp only [List.length_append,List.length_singleton];omega
    ·intro m hmm
     rcases List.mem_append.1 hmm with hmm|hmm
     ·exact h5 m hmm
     ·rw[List.mem_singleton.1 hmm];exact⟨q5,q6⟩
theorem mloop1 (s:ByteArray): ∃p,loopF (fun ds6=>
  (opS (sy.cell ds6 0)).bind fun s7=>
  oP sy ds6 1 fun l8 n9=>
  (opL (sy.cell ds6 3) 7).bind fun l10=>
  bif (sy.inr n9 (sy.rlen l8))then
   oT sy (sy.row l8 n9) 0 fun n11 s12 n13 n14=>
   bif (sy.ieq n11 6)then
    some (.inr (PRes.val [(.sl 7 l10),(.int .i64 (sy.slen s7)),(.int .i64 0)]))
   else
    (cF 16 [(.agg [(.d (.int .i64 n11)),(.d (.str s12)),(.d (.int .i64 n13)),(.d (.int .i64 n14))]),(.d (.sl 7 l10))]).bind fun p15=>
    (opI (sy.cell p15.leaves 0) .i64).bind fun n17=>
    bif (sy.bnot (sy.ieq n17 0))then
     some (.inr (PRes.val [(.sl 7 []),(.int .i64 n14),(.int .i64 n17)]))
    else
     (cF 17 [(.d (.sl 4 l8)),(.d (.int .i64 (sy.wrap .i64 (sy.add n9 1))))]).bind fun p18=>
     oE sy p18.leaves 0 fun n20 n21 s22 n23 l24 l25=>
     (opI (sy.cell p18.leaves 6) .i64).bind fun n26=>
     (opI (sy.cell p18.leaves 7) .i64).bind fun n27=>
     bif (sy.bnot (sy.ieq n27 0))then
      bif (sy.inr n26 (sy.rlen l8))then
       (opI (sy.cell (sy.skip 3 (sy.row l8 n26)) 0) .i64).bind fun n28=>
       some (.inr (PRes.val [(.sl 7 []),(.int .i64 n28),(.int .i64 n27)]))
      else
       none
     else
      bif (sy.fits l10 [[(.str s12),(.int .i64 n20),(.int .i64 n21),(.str s22),(.int .i64 n23),(.sl 1 l24),(.sl 6 l25)]] 104)then
       some (.inl [(.str s7),(.sl 4 l8),(.int .i64 n26),(.sl 7 (sy.rapp l10 [[(.str s12),(.int .i64 n20),(.int .i64 n21),(.str s22),(.int .i64 n23),(.sl 1 l24),(.sl 6 l25)]]))])
      else
       none
  else
   none
  ) [(.str s),(.sl 4 (trows l)),(.int .i64 0),(.sl 7 [])]=some p∧p=encM l s.size (mRun l l.length [] 0)∧mrFine (mRun l l.length [] 0):=by
 have hf:=hl.few
 refine loopF_ex (fun x:Nat × List Mv × Nat=>[.str s, .sl 4 (trows l), .int .i64 (x.2.2:Int), .sl 7 (mrows x.2.1)]) (MI l l.length) (fun x=>x.1) (fun x hx=> ?_) (l.length,[],0) ⟨rfl,hl.pos,Nat.le_refl _,Nat.le_refl _,by intro m h;cases h⟩
 have hi:=hx.i
 have ho:=hx.o
 have hstep:=mround hl hS hT hx
 obtain⟨n,o,i⟩:=x
 simp only at hi ho hstep ⊢
 have q1:=in_tk hi
 have q2:=row_tk hi
 rw[trows_len]at q1
 have p1:=c_mpath (tkA l i) o (by omega)
 have w1:IntKind.i64.wrap ((i:Int)+1)=((i+1:Nat):Int):=by rw[wrap_id (by omega) (by omega)];omega
 have fit:decide (((mrows o).length+1)*(104+1)≤140737488355328)=true:=decide_eq_true (by rw[mrows_len];omega)
 unfold mStep at hstep
 cases hk:decide ((tkA l i).k=6)with
 |true=>
  right
  rw[hk]at hstep
  rcases hstep with⟨r,h1,h2,h3⟩|⟨e,p,h1,_⟩
  ·cases h1
   refine⟨encM l s.size (mRun l l.length [] 0),?_,rfl,by rw[h2];exact h3⟩
   rw[h2]
   simp only [go1,Nat.reduceAdd,Int.reduceEq,Int.reduceLT,Int.reduceLE,Int.reduceSub,Int.reduceAdd,oP,oT,trows_len,q1,q2,tkrow,hk]
   rfl
  ·cases h1
 |false=>
  rw[hk]at hstep
  cases he:decide (errS (tkA l i) o=0)with
  |false=>
   right
   rw[he]at hstep
   rcases hstep with⟨r,h1,h2,h3⟩|⟨e,p,h1,_⟩
   ·cases h1
    refine⟨encM l s.size (mRun l l.length [] 0),?_,rfl,by rw[h2];exact h3⟩
    rw[h2]
    simp only [go1,Nat.reduceAdd,Int.reduceEq,Int.reduceLT,Int.reduceLE,Int.reduceSub,Int.reduceAdd,oP,oT,trows_len,q1,q2,tkrow,hk,p1,he]
    rfl
   ·cases h1
  |true=>
   rw[he]at hstep
   have hi1:=hl.next hi (of_decide_eq_false hk)
   have m1:=c_mmove hl hS hT (i+1) hi1
   obtain⟨p,r1,r2,_⟩:=moveS_at hl hS hT (i+1) hi1
   generalize moveS l (i+1)=R at hstep m1 r1
   obtain⟨⟨k2,n2,s2,o2,a2,u2⟩,p1',r⟩:=R
   simp only at r1 hstep
   subst r1
   simp only [encP]at m1
   have q3:=in_tk r2
   have q4:=row_skip r2
   rw[trows_len]at q3
   cases hr:decide (r=0)with
   |false=>
    right
    rw[hr]at hstep
    rcases hstep with⟨r',h1,h2,h3⟩|⟨e,p,h1,_⟩
    ·cases h1
     refine⟨encM l s.size (mRun l l.length [] 0),?_,rfl,by rw[h2];exact h3⟩
     rw[h2]
     simp only [go1,Nat.reduceAdd,Int.reduceEq,Int.reduceLT,Int.reduceLE,Int.reduceSub,Int.reduceAdd,oP,oT,oE,trows_len,q1,q2,tkrow,hk,p1,he,w1,m1,hr,q3,q4]
     simp only [encM,Int.toNat_natCast]
    ·cases h1
   |true=>
    left
    have hr':=of_decide_eq_true hr
    subst hr'
    rcases hstep with⟨r',h1,_⟩|⟨e,p2,h1,h2,h3,h4,h5⟩
    ·simp only [decide_true]at h1;cases h1
    ·cases h2
     refine⟨(n - 1,o++[⟨(tkA l i).s, .mk k2 n2 s2 o2 a2 u2⟩],p),?_,h4,h5⟩
     have e1:mrows o++[[.str (tkA l i).s, .int .i64 k2, .int .i64 n2, .str s2, .int .i64 o2, .sl 1 (srows a2), .sl 6 (Ex.rows u2)]]=mrows (o++[⟨(tkA l i).s, .mk k2 n2 s2 o2 a2 u2⟩]):=by rw[←mrows_snoc];rfl
     simp only [go1,Nat.reduceAdd,Int.reduceEq,Int.reduceLT,Int.reduceLE,Int.reduceSub,Int.reduceAdd,oP,oT,oE,trows_len,q1,q2,tkrow,hk,p1,he,w1,m1,List.length_cons,List.length_nil,Nat.zero_add,fit,e1]
end
end Go.Vm
end

section
set_option linter.all false
set_option maxRecDepth 100000
set_option maxHeartbeats 4000000
namespace Go.Vm
open Go.Proofs
theorem tsk3 (a c d:Int)(b:ByteArray):sy.cell (sy.skip 3 [.int .i64 a, .str b, .int .i64 c, .int .i64 d]) 0=some (.int .i64 d):=rfl
def mlS (s:ByteArray):PRes:=match decide ((6000:Int) < ((tb s).length:Int)),(lexS s 0).2.2 with
 |true,_=> .val [.sl 7 [], .int .i64 6000, .int .i64 3]
 |false,false=> .val [.sl 7 [], .int .i64 ((lexS s 0).2.1:Int), .int .i64 2]
 |false,true=>encM (toksS s) s.size (mRun (toksS s) (toksS s).length [] 0)
theorem c_mRead (s:ByteArray)(hs:s.size≤100000):cF 7 [.d (.str s)]=some (mlS s):=by
 have hl:=LOK_toks s hs
 have hT:=TOK_of fun t ht=>(toks_mem hs ht).2
 have hS:=TS_of fun t ht=>(toks_mem hs ht).1
 have h1:=c_All s 6000 hs
 unfold mlS
 unfold allR at h1
 refine cOf (by kernel_rfl) rfl ?_
 rw[g7_eq]
 cases hd:decide ((6000:Int) < ((tb s).length:Int))with
 |true=>
  rw[hd]at h1
  simp only [g7,oP,go1,Nat.reduceAdd,Int.reduceEq,Int.reduceLT,Int.reduceLE,Int.reduceSub,Int.reduceAdd,h1]
  try rfl
 |false=>
  cases hx:(lexS s 0).2.2 with
  |false=>
   rw[hd,hx]at h1
   simp only [g7,oP,go1,Nat.reduceAdd,Int.reduceEq,Int.reduceLT,Int.reduceLE,Int.reduceSub,Int.reduceAdd,h1]
   try rfl
  |true=>
   rw[hd,hx,show(lexS s 0).1++[endT s]=toksS s from rfl]at h1
   obtain⟨p,h2,h3,_⟩:=mloop1 hl hS hT s
   subst h3
   unfold g7
   rw[eF_call,h1]
   exact h2
section
variable {l : List Tk} (hl : LOK l) (hS : TS l) (hT : TOK l)
include hl hS hT
theorem mloop2 (s:ByteArray): ∃p,loopF (fun ds6=>
  (opS (sy.cell ds6 0)).bind fun s7=>
  oP sy ds6 1 fun l8 n9=>
  (opL (sy.cell ds6 3) 7).bind fun l10=>
  bif (sy.inr n9 (sy.rlen l8))then
   (opI (sy.cell (sy.row l8 n9) 0) .i64).bind fun n11=>
   bif (sy.bnot (sy.ieq n11 6))then
    bif (sy.inr n9 (sy.rlen l8))then
     (opI (sy.cell (sy.row l8 n9) 0) .i64).bind fun n12=>
     bif (sy.bnot (sy.ieq n12 4))then
      bif (sy.inr n9 (sy.rlen l8))then
       (opI (sy.cell (sy.skip 3 (sy.row l8 n9)) 0) .i64).bind fun n13=>
       some (.inr (PRes.val [(.sl 7 []),(.int .i64 n13),(.int .i64 2)]))
      else
       none
     else
      bif (sy.inr n9 (sy.rlen l8))then
       (opS (sy.cell (sy.skip 1 (sy.row l8 n9)) 0)).bind fun s14=>
       (cF 19 [(.d (.sl 7 l10)),(.d (.str s14))]).bind fun p15=>
       (opB (sy.cell p15.leaves 0)).bind fun b17=>
       bif b17 then
        bif (sy.inr n9 (sy.rlen l8))then
         (opI (sy.cell (sy.skip 3 (sy.row l8 n9)) 0) .i64).bind fun n18=>
         some (.inr (PRes.val [(.sl 7 []),(.int .i64 n18),(.int .i64 6)]))
        else
         none
       else
        bif (sy.ieq (sy.rlen l10) 40)then
         bif (sy.inr n9 (sy.rlen l8))then
          (opI (sy.cell (sy.skip 3 (sy.row l8 n9)) 0) .i64).bind fun n19=>
          some (.inr (PRes.val [(.sl 7 []),(.int .i64 n19),(.int .i64 4)]))
         else
          none
        else
         bif (sy.inr n9 (sy.rlen l8))then
          (opS (sy.cell (sy.skip 1 (sy.row l8 n9)) 0)).bind fun s20=>
          bif (sy.inr (sy.wrap .i64 (sy.add n9 1)) (sy.rlen l8))then
           (opI (sy.cell (sy.row l8 (sy.wrap .i64 (sy.add n9 1))) 0) .i64).bind fun n21=>
           (opS (sy.cell (sy.row l8 (sy.wrap .i64 (sy.add n9 1))) 1)).bind fun s22=>
           (opI (sy.cell (sy.row l8 (sy.wrap .i64 (sy.add n9 1))) 2) .i64).bind fun n23=>
           (opI (sy.cell (sy.row l8 (sy.wrap .i64 (sy.add n9 1))) 3) .i64).bind fun n24=>
           (cF 20 [(.agg [(.d (.int .i64 n21)),(.d (.str s22)),(.d (.int .i64 n23)),(.d (.int .i64 n24))]),(.d (.str (bs [58,61])))]).bind fun p25=>
           (opB (sy.cell p25.leaves 0)).bind fun b27=>
           bif (sy.bnot b27)then
            bif (sy.inr (sy.wrap .i64 (sy.add n9 1)) (sy.rlen l8))then
             (opI (sy.cell (sy.skip 3 (sy.row l8 (sy.wrap .i64 (sy.add n9 1)))) 0) .i64).bind fun n28=>
             some (.inr (PRes.val [(.sl 7 []),(.int .i64 n28),(.int .i64 2)]))
            else
             none
           else
            (cF 21 [(.d (.sl 4 l8)),(.d (.int .i64 (sy.wrap .i64 (sy.add (sy.wrap .i64 (sy.add n9 1)) 1))))]).bind fun p29=>
            oE sy p29.leaves 0 fun n31 n32 s33 n34 l35 l36=>
            (opI (sy.cell p29.leaves 6) .i64).bind fun n37=>
            (opI (sy.cell p29.leaves 7) .i64).bind fun n38=>
            bif (sy.bnot (sy.ieq n38 0))then
             bif (sy.inr n37 (sy.rlen l8))then
              (opI (sy.cell (sy.skip 3 (sy.row l8 n37)) 0) .i64).bind fun n39=>
              some (.inr (PRes.val [(.sl 7 []),(.int .i64 n39),(.int .i64 n38)]))
             else
              none
            else
             bif (sy.inr n37 (sy.rlen l8))then
              oT sy (sy.row l8 n37) 0 fun n40 s41 n42 n43=>
              (cF 20 [(.agg [(.d (.int .i64 n40)),(.d (.str s41)),(.d (.int .i64 n42)),(.d (.int .i64 n43))]),(.d (.str (bs [59])))]).bind fun p44=>
              (opB (sy.cell p44.leaves 0)).bind fun b46=>
              bif (sy.bnot b46)then
               bif (sy.inr n37 (sy.rlen l8))then
                (opI (sy.cell (sy.skip 3 (sy.row l8 n37)) 0) .i64).bind fun n47=>
                some (.inr (PRes.val [(.sl 7 []),(.int .i64 n47),(.int .i64 2)]))
               else
                none
              else
               bif (sy.fits l10 [[(.str s20),(.int .i64 n31),(.int .i64 n32),(.str s33),(.int .i64 n34),(.sl 1 l35),(.sl 6 l36)]] 104)then
                some (.inl [(.str s7),(.sl 4 l8),(.int .i64 (sy.wrap .i64 (sy.add n37 1))),(.sl 7 (sy.rapp l10 [[(.str s20),(.int .i64 n31),(.int .i64 n32),(.str s33),(.int .i64 n34),(.sl 1 l35),(.sl 6 l36)]]))])
               else
                none
             else
              none
          else
           none
         else
          none
      else
       none
    else
     none
   else
    some (.inr (PRes.val [(.sl 7 l10),(.int .i64 (sy.slen s7)),(.int .i64 0)]))
  else
   none
   ) [(.str s),(.sl 4 (trows l)),(.int .i64 0),(.sl 7 [])]=some p∧p=encM l s.size (mRun l l.length [] 0)∧mrFine (mRun l l.length [] 0):=by
 have hf:=hl.few
 refine loopF_ex (fun x:Nat × List Mv × Nat=>[.str s, .sl 4 (trows l), .int .i64 (x.2.2:Int), .sl 7 (mrows x.2.1)]) (MI l l.length) (fun x=>x.1) (fun x hx=> ?_) (l.length,[],0) ⟨rfl,hl.pos,Nat.le_refl _,Nat.le_refl _,by intro m h;cases h⟩
 have hi:=hx.i
 have ho:=hx.o
 have hstep:=mround hl hS hT hx
 obtain⟨n,o,i⟩:=x
 simp only at hi ho hstep ⊢
 have q1:=in_tk hi
 have q2:=row_k hi
 have q3:=row_skip hi
 have q4:=row_skip1 hi
 rw[trows_len]at q1
 have p1:=c_mhas o (tkA l i).s (by omega)
 have w1:IntKind.i64.wrap ((i:Int)+1)=((i+1:Nat):Int):=by rw[wrap_id (by omega) (by omega)];omega
 have fit:decide (((mrows o).length+1)*(104+1)≤140737488355328)=true:=decide_eq_true (by rw[mrows_len];omega)
 unfold mStep at hstep
 cases hk:decide ((tkA l i).k=6)with
 |true=>
  right
  rw[hk]at hstep
  rcases hstep with⟨r,h1,h2,h3⟩|⟨e,p,h1,_⟩
  ·cases h1
   refine⟨encM l s.size (mRun l l.length [] 0),?_,rfl,by rw[h2];exact h3⟩
   rw[h2]
   simp only [go1,Nat.reduceAdd,Int.reduceEq,Int.reduceLT,Int.reduceLE,Int.reduceSub,Int.reduceAdd,oP,trows_len,q1,q2,hk]
   rfl
  ·cases h1
 |false=>
  rw[hk]at hstep
  have hi1:=hl.next hi (of_decide_eq_false hk)
  unfold errS at hstep
  cases h4:decide ((tkA l i).k=4)with
  |false=>
   right
   rw[h4]at hstep
   rcases hstep with⟨r,h1,h2,h3⟩|⟨e,p,h1,_⟩
   ·cases h1
    refine⟨encM l s.size (mRun l l.length [] 0),?_,rfl,by rw[h2];exact h3⟩
    rw[h2]
    simp only [go1,Nat.reduceAdd,Int.reduceEq,Int.reduceLT,Int.reduceLE,Int.reduceSub,Int.reduceAdd,oP,trows_len,q1,q2,q3,hk,h4]
    rfl
   ·cases h1
  |true=>
   cases h5:hasP o (tkA l i).s with
   |true=>
    right
    rw[h4,h5]at hstep
    rcases hstep with⟨r,h1,h2,h3⟩|⟨e,p,h1,_⟩
    ·cases h1
     refine⟨encM l s.size (mRun l l.length [] 0),?_,rfl,by rw[h2];exact h3⟩
     rw[h2]
     simp only [go1,Nat.reduceAdd,Int.reduceEq,Int.reduceLT,Int.reduceLE,Int.reduceSub,Int.reduceAdd,oP,trows_len,q1,q2,q3,q4,hk,h4,p1,h5]
     rfl
    ·cases h1
   |false=>
    cases h6:decide ((o.length:Int)=40)with
    |true=>
     right
     rw[h4,h5,h6]at hstep
     rcases hstep with⟨r,h1,h2,h3⟩|⟨e,p,h1,_⟩
     ·cases h1
      refine⟨encM l s.size (mRun l l.length [] 0),?_,rfl,by rw[h2];exact h3⟩
      rw[h2]
      simp only [go1,Nat.reduceAdd,Int.reduceEq,Int.reduceLT,Int.reduceLE,Int.reduceSub,Int.reduceAdd,oP,trows_len,mrows_len,q1,q2,q3,q4,hk,h4,p1,h5,h6]
      rfl
     ·cases h1
    |false=>
     rw[h4,h5,h6]at hstep
     simp only [decide_true]at hstep
     have a1:=in_tk hi1
     have a2:=row_tk hi1
     have a3:=row_skip hi1
     rw[trows_len]at a1
     have m1:=c_mis (tkA l (i+1)) (bs [58,61])
     cases hm:isMt (tkA l (i+1)) (bs [58,61])with
     |false=>
      right
      have hM:moveS l (i+1)=(e0,((i+1:Nat):Int),2):=by unfold moveS;rw[hm]
      rw[hM]at hstep
      rw[hm]at m1
      rcases hstep with⟨r',h1,h2,h3⟩|⟨e,p,h1,_⟩
      ·cases h1
       refine⟨encM l s.size (mRun l l.length [] 0),?_,rfl,by rw[h2];exact h3⟩
       rw[h2]
       simp only [go1,Nat.reduceAdd,Int.reduceEq,Int.reduceLT,Int.reduceLE,Int.reduceSub,Int.reduceAdd,oP,trows_len,mrows_len,q1,q2,q3,q4,hk,h4,p1,h5,h6,w1,a1,a2,tkrow,m1]
       rfl
      ·cases h1
     |true=>
      rw[hm]at m1
      have hi2:=hl.next hi1 (isMt_k hm)
      have w2:IntKind.i64.wrap (((i+1:Nat):Int)+1)=((i+1+1:Nat):Int):=by rw[wrap_id (by omega) (by omega)];omega
      have m2:=c_qPart hl hS hT (i+1+1) hi2
      obtain⟨p,r1,r2⟩:=partS_at hl (i+1+1) hi2 fun j hj=>readS_bad hl hT hi2 hj
      generalize hR:partS l (i+1+1)=R at m2 r1
      obtain⟨⟨k2,n2,s2,o2,a2',u2⟩,p1',r⟩:=R
      simp only at r1
      subst r1
      simp only [encP]at m2
      have b1:=in_tk r2
      have b2:=row_tk r2
      have b3:=row_skip r2
      rw[trows_len]at b1
      cases hr:decide (r=0)with
      |false=>
       right
       have hM:moveS l (i+1)=(e0,(p:Int),r):=by unfold moveS;rw[hm];simp only [hR,hr]
       rw[hM]at hstep
       simp only [hr]at hstep
       rcases hstep with⟨r',h1,h2,h3⟩|⟨e,p,h1,_⟩
       ·cases h1
        refine⟨encM l s.size (mRun l l.length [] 0),?_,rfl,by rw[h2];exact h3⟩
        rw[h2]
        simp only [go1,Nat.reduceAdd,Int.reduceEq,Int.reduceLT,Int.reduceLE,Int.reduceSub,Int.reduceAdd,oP,oE,trows_len,mrows_len,q1,q2,q3,q4,hk,h4,p1,h5,h6,w1,a1,a2,tkrow,m1,w2,m2,hr,b1,b3]
        simp only [encM,Int.toNat_natCast]
       ·cases h1
      |true=>
       have hr':=of_decide_eq_true hr
       subst hr'
       have m3:=c_mis (tkA l p) (bs [59])
       have w3:IntKind.i64.wrap ((p:Int)+1)=((p+1:Nat):Int):=by rw[wrap_id (by omega) (by omega)];omega
       cases hm2:isMt (tkA l p) (bs [59])with
       |false=>
        right
        have hM:moveS l (i+1)=(e0,(p:Int),2):=by unfold moveS;rw[hm];simp only [hR,decide_true,Int.toNat_natCast,hm2]
        rw[hM]at hstep
        rw[hm2]at m3
        rcases hstep with⟨r',h1,h2,h3⟩|⟨e,p,h1,_⟩
        ·cases h1
         refine⟨encM l s.size (mRun l l.length [] 0),?_,rfl,by rw[h2];exact h3⟩
         rw[h2]
         simp only [go1,Nat.reduceAdd,Int.reduceEq,Int.reduceLT,Int.reduceLE,Int.reduceSub,Int.reduceAdd,oP,oE,oT,trows_len,mrows_len,q1,q2,q3,q4,hk,h4,p1,h5,h6,w1,a1,a2,tkrow,m1,w2,m2,b1,b2,m3,tsk3]
         simp only [encM,Int.toNat_natCast]
        ·cases h1
       |true=>
        left
        have hM:moveS l (i+1)=(.mk k2 n2 s2 o2 a2' u2,(p:Int)+1,0):=by unfold moveS;rw[hm];simp only [hR,decide_true,Int.toNat_natCast,hm2]
        rw[hM]at hstep
        rw[hm2]at m3
        rcases hstep with⟨r',h1,_⟩|⟨e,p2,h1,h2,h3,h4',h5'⟩
        ·simp only [decide_true]at h1;cases h1
        ·simp only [decide_true]at h1 h2
         have he:e= .mk k2 n2 s2 o2 a2' u2:=(Prod.mk.inj h2).1.symm
         have hp2:(p:Int)+1=(p2:Int):=(Prod.mk.inj (Prod.mk.inj h2).2).1
         have hp3:p2=p+1:=by omega
         subst he
         subst hp3
         refine⟨(n - 1,o++[⟨(tkA l i).s, .mk k2 n2 s2 o2 a2' u2⟩],p+1),?_,h4',h5'⟩
         have e1:mrows o++[[.str (tkA l i).s, .int .i64 k2, .int .i64 n2, .str s2, .int .i64 o2, .sl 1 (srows a2'), .sl 6 (Ex.rows u2)]]=mrows (o++[⟨(tkA l i).s, .mk k2 n2 s2 o2 a2' u2⟩]):=by rw[←mrows_snoc];rfl
         simp only [go1,Nat.reduceAdd,Int.reduceEq,Int.reduceLT,Int.reduceLE,Int.reduceSub,Int.reduceAdd,oP,oE,oT,trows_len,mrows_len,q1,q2,q3,q4,hk,h4,p1,h5,h6,w1,a1,a2,tkrow,m1,w2,m2,b1,b2,m3,w3,List.length_cons,List.length_nil,Nat.zero_add]
         have fit2:decide ((o.length+1)*105≤140737488355328)=true:=decide_eq_true (by omega)
         simp only [go1,Nat.reduceAdd,Int.reduceEq,Int.reduceLT,Int.reduceLE,Int.reduceSub,Int.reduceAdd,fit2,e1]
end
end Go.Vm
end

section
set_option linter.all false
set_option maxRecDepth 100000
set_option maxHeartbeats 4000000
namespace Go.Vm
open Go.Proofs
theorem c_qmRead (s:ByteArray)(hs:s.size≤100000):cF 8 [.d (.str s)]=some (mlS s)∧ ∃(o:List Mv) (p r:Int),mlS s= .val [.sl 7 (mrows o), .int .i64 p, .int .i64 r]∧mvFine o∧o.length≤1000000:=by
 have hl:=LOK_toks s hs
 have hT:=TOK_of fun t ht=>(toks_mem hs ht).2
 have hS:=TS_of fun t ht=>(toks_mem hs ht).1
 have h1:=c_rAll s 6000 hs
 have h0:mvFine []:=fun m h=>by cases h
 unfold mlS
 unfold allR at h1
 cases hd:decide ((6000:Int) < ((tb s).length:Int))with
 |true=>
  rw[hd]at h1
  refine⟨?_,[],_,_,rfl,h0,Nat.zero_le _⟩
  refine cOf (by kernel_rfl) rfl ?_
  rw[g8_eq]
  simp only [g8,oP,go1,Nat.reduceAdd,Int.reduceEq,Int.reduceLT,Int.reduceLE,Int.reduceSub,Int.reduceAdd,h1]
 |false=>
  cases hx:(lexS s 0).2.2 with
  |false=>
   rw[hd,hx]at h1
   refine⟨?_,[],_,_,rfl,h0,Nat.zero_le _⟩
   refine cOf (by kernel_rfl) rfl ?_
   rw[g8_eq]
   simp only [g8,oP,go1,Nat.reduceAdd,Int.reduceEq,Int.reduceLT,Int.reduceLE,Int.reduceSub,Int.reduceAdd,h1]
  |true=>
   rw[hd,hx,show(lexS s 0).1++[endT s]=toksS s from rfl]at h1
   obtain⟨p,h2,h3,h4⟩:=mloop2 hl hS hT s
   subst h3
   refine⟨?_,?_⟩
   ·refine cOf (by kernel_rfl) rfl ?_
    rw[g8_eq]
    unfold g8
    rw[eF_call,h1]
    exact h2
   ·simp only
    generalize mRun (toksS s) (toksS s).length [] 0=R at h4 ⊢
    cases R with
    |out=>exact h4.elim
    |ok o=>exact⟨o,_,_,rfl,h4.1,h4.2⟩
    |er i c=>exact⟨[],_,_,rfl,h0,Nat.zero_le _⟩
theorem c_mSame (o:List Mv)(hf:mvFine o)(ho:o.length≤1000000):cF 9 [.d (.sl 7 (mrows o)), .d (.sl 7 (mrows o))]=some (.val [.bool true]):=by
 refine cOf (by kernel_rfl) rfl ?_
 rw[g9_eq]
 simp only [g9,go1,Nat.reduceAdd,Int.reduceEq,Int.reduceLT,Int.reduceLE,Int.reduceSub,Int.reduceAdd]
 refine loopF_at (fun i:Nat=>[.sl 7 (mrows o), .sl 7 (mrows o), .int .i64 (i:Int)]) (fun i=>i≤o.length) (fun i=>o.length - i) (fun i h1=> ?_) 0 (Nat.zero_le _)
 by_cases hlt:i < o.length
 ·left
  have hx:=List.getElem?_eq_getElem hlt
  have hm:=hf o[i] (List.getElem_mem hlt)
  generalize o[i]=m at hx hm
  obtain⟨mp,k2,n2,s2,o2,a2,u2⟩:=m
  have hr:sy.row (mrows o) (i:Int)= [.str mp, .int .i64 k2, .int .i64 n2, .str s2, .int .i64 o2, .sl 1 (srows a2), .sl 6 (Ex.rows u2)]:=mrow_at hx
  have hsm:=c_reSame 1000000 k2 n2 s2 o2 a2 u2 hm.2 (Nat.le_refl _) hm.1
  have w1:IntKind.i64.wrap ((i:Int)+1)=((i+1:Nat):Int):=by rw[wrap_id (by omega) (by omega)];omega
  have sk: ∀(x:D) (l:List D),sy.skip 1 (x::l)=l:=fun _ _=>rfl
  refine⟨i+1,?_,hlt,by omega⟩
  simp only [go1,Nat.reduceAdd,Int.reduceEq,Int.reduceLT,Int.reduceLE,Int.reduceSub,Int.reduceAdd,oE,mrows_len,ilt_at hlt,inr_at hlt,hr,sk,seq_tb,hsm,w1,Bool.not_true]
 ·right
  have:i=o.length:=by omega
  subst this
  simp only [go1,Nat.reduceAdd,Int.reduceEq,Int.reduceLT,Int.reduceLE,Int.reduceSub,Int.reduceAdd,mrows_len,ilt_self]
def ml0:List Tk:=[⟨4,bs [97,47,110],0,0⟩,⟨5,bs [58,61],0,6⟩,⟨4,bs [110],0,9⟩,⟨5,bs [43],0,13⟩,⟨3,bs [49],1,15⟩,⟨5,bs [59],0,16⟩,⟨6,bs [],0,17⟩]
def mx0:Ex:= .mk 6 0 (bs []) 3 [] [.mk 17 0 (bs [110]) 0 [] [], .mk 1 1 (bs []) 0 [] []]
theorem mlive1:cF 15 [.d (.str (bs [39,97,47,110,39,32,58,61,32,39,110,39,32,43,32,49,59])), .d (.int .i64 6000)]=some (.val [.sl 4 (trows ml0), .int .i64 17, .int .i64 0]):=callF_run 40 fun n=>by
 rw[Nat.add_comm]
 kernel_rfl
theorem mlive2:mRun ml0 ml0.length [] 0= .ok [⟨bs [97,47,110],mx0⟩]:=by kernel_rfl
theorem mlive3:cF 7 [.d (.str (bs [39,97,47,110,39,32,58,61,32,39,110,39,32,43,32,49,59]))]=some (.val [.sl 7 (mrows [⟨bs [97,47,110],mx0⟩]), .int .i64 17, .int .i64 0]):=by
 have hl:LOK ml0:=⟨by decide,rfl,by decide⟩
 have hS:TS ml0:=TS_of (by decide)
 have hT:TOK ml0:=TOK_of (by decide)
 obtain⟨p,h2,h3,_⟩:=mloop1 hl hS hT (bs [39,97,47,110,39,32,58,61,32,39,110,39,32,43,32,49,59])
 rw[mlive2]at h3
 subst h3
 refine cOf (by kernel_rfl) rfl ?_
 rw[g7_eq]
 unfold g7
 rw[eF_call,mlive1]
 exact h2
theorem c_mnum (x:Int):cF 10 [.d (.int .i64 x)]=some (.val [.int .i64 x]):=by
 refine cOf (by kernel_rfl) rfl ?_
 rw[g10_eq]
 simp only [g10,go1,Nat.reduceAdd,Int.reduceEq,Int.reduceLT,Int.reduceLE,Int.reduceSub,Int.reduceAdd]
theorem c_mlive:cF 6 []=some (.val [.bool true]):=by
 have h1:=mlive3
 have h2:=c_mnum 0
 have h3:sy.row (mrows [⟨bs [97,47,110],mx0⟩]) 0=(⟨bs [97,47,110],mx0⟩:Mv).row:=rfl
 have h4:(mrows [⟨bs [97,47,110],mx0⟩]).length=1:=rfl
 have h5:decide ((((mrows [⟨bs [97,47,110],mx0⟩]).length:Nat):Int)=1)=true:=rfl
 have h6:decide ((0:Int)≤0∧(0:Int) < (((mrows [⟨bs [97,47,110],mx0⟩]).length:Nat):Int))=true:=rfl
 have h7:decide ((0:Int) < (((mrows [⟨bs [97,47,110],mx0⟩]).length:Nat):Int))=true:=rfl
 refine cOf (by kernel_rfl) rfl ?_
 rw[g6_eq]
 simp only [g6,go1,Nat.reduceAdd,Int.reduceEq,Int.reduceLT,Int.reduceLE,Int.reduceSub,Int.reduceAdd,h7,h1,h2,h3,h5,h6,Mv.row,seq_tb,decide_true]
theorem c_MReads (s:ByteArray):cF 3 [.d (.str s)]=some (.val [.bool true]):=by
 have h0:=c_mlive
 by_cases hs:s.size≤1500
 ·have h1:=c_mRead s (by omega)
  obtain⟨h2,o,p,r,h3,h4,h5⟩:=c_qmRead s (by omega)
  rw[h3]at h1 h2
  have h6:=c_mSame o h4 h5
  have h7:=c_mnum r
  have hd:decide ((1500:Int) < (s.size:Int))=false:=decF (by omega)
  refine cOf (by kernel_rfl) rfl ?_
  rw[g3_eq]
  simp only [g3,go1,Nat.reduceAdd,Int.reduceEq,Int.reduceLT,Int.reduceLE,Int.reduceSub,Int.reduceAdd,hd,h0,h1,h2,h6,h7]
 ·have hd:decide ((1500:Int) < (s.size:Int))=true:=decT (by omega)
  refine cOf (by kernel_rfl) rfl ?_
  rw[g3_eq]
  simp only [g3,go1,Nat.reduceAdd,Int.reduceEq,Int.reduceLT,Int.reduceLE,Int.reduceSub,Int.reduceAdd,hd,h0]
end Go.Vm
end
