/-
  Part UK of the proof. What is proved by the whole: the statement that the claim names, with no condition. This part: lemmas.
-/
import Derived.Test.YtdckoceiokaelaaGreatDoorUJ
set_option linter.unusedSimpArgs false
set_option linter.unusedVariables false

section
set_option linter.all false
set_option maxRecDepth 100000
set_option maxHeartbeats 4000000
namespace Go.Vm
open Go.Proofs
theorem c_stext1 (k n:Int)(s:ByteArray)(o:Int)(a:List ByteArray)(u:List Ex)(ts:List ByteArray)(hz:Ex.sizes u≤1000)(hts:TS' u ts)(hall:cF 104 [.d (.sl 6 (Ex.rows u))]=some (.own 9 1 (srows ts)))(hpart:partB (.mk k n s o a u)=true)(fs:s.size≤100000)(fa: ∀x∈a,x.size≤100000)(fn:n < 9223372036854775808):
  ∃r,cF 57 [kE k n s o (srows a) (Ex.rows u)]=some (.val [.str r])∧tb r=render (pcK k n s o a (pcsL u))∧r.size≤1000000*(Ex.sizes u+1):=by
 have hl:=sizes_len u
 have tl:ts.length=u.length:=by simpa using congrArg List.length hts.m
 unfold partB at hpart
 simp only [Bool.and_eq_true]at hpart
 obtain⟨hk,h1,h2,h3,h4,h5,h6,h7⟩:=hpart
 have h5:=of_decide_eq_true h5
 have h6:=of_decide_eq_true h6
 rcases kinds k hk with rfl|rfl|rfl|rfl|rfl|rfl|rfl|rfl|rfl|rfl|rfl|rfl|rfl|rfl|rfl|rfl|rfl
 · -- 1
   obtain⟨r,q1,q2,q3⟩:=c_sleaf 1 n s o (srows a) (Ex.rows u) (fun _=>⟨of_decide_eq_true h1,fn⟩) (fun h=>by cases h) fs (fun h=>by cases h) (by decide)
   refine⟨r,?_,q2,by omega⟩
   refine cOf (by kernel_rfl) rfl ?_
   rw[g57_eq]
   simp only [g57,go1,Int.reduceEq,hall,q1]
 · -- 2
   obtain⟨r,q1,q2,q3⟩:=c_sleaf 2 n s o (srows a) (Ex.rows u) (fun h=>by cases h) (fun _=>by simpa [numB]using h1) fs (fun h=>by cases h) (by decide)
   refine⟨r,?_,q2,by omega⟩
   refine cOf (by kernel_rfl) rfl ?_
   rw[g57_eq]
   simp only [g57,go1,Int.reduceEq,hall,q1]
 · -- 3
   obtain⟨r,q1,q2,q3⟩:=c_sleaf 3 n s o (srows a) (Ex.rows u) (fun h=>by cases h) (fun h=>by cases h) fs (fun h=>by cases h) (by decide)
   refine⟨r,?_,q2,by omega⟩
   refine cOf (by kernel_rfl) rfl ?_
   rw[g57_eq]
   simp only [g57,go1,Int.reduceEq,hall,q1]
 · -- 4
   obtain⟨r,q1,q2,q3⟩:=c_sleaf 4 n s o (srows a) (Ex.rows u) (fun h=>by cases h) (fun h=>by cases h) fs (fun h=>by cases h) (by decide)
   refine⟨r,?_,q2,by omega⟩
   refine cOf (by kernel_rfl) rfl ?_
   rw[g57_eq]
   simp only [g57,go1,Int.reduceEq,hall,q1]
 · -- 5
   have hlu:u.length=1:=by simp [hiB,loB]at h5 h6;omega
   by_cases ho:o=1
   ·subst ho
    match u,hlu,hts with
    | [x],_,hts=>
      obtain⟨t,rfl,q0,hb⟩:=hts.l1
      simp only [Ex.sizes]at hz ⊢
      have c0:sy.cell (sy.row (srows [t]) 0) 0=some (.str t):=rfl
      have i0:decide ((0:Int)≤0∧(0:Int) < ((srows [t]).length:Int))=true:=rfl
      have h:=c_round [bs [45],t] (by simp only [List.length_cons,List.length_nil];omega) (by(simp only [tot_cons,tot_nil,bs_sz,List.length_cons,List.length_nil];omega))
      have h:cF 105 [V.d (D.sl 1 [[D.str (bs [45])],[D.str (t)]])]=some (.val [.str (roundB [bs [45],t])]):=h
      refine⟨roundB [bs [45],t],?_,?_,?_⟩
      ·refine cOf (by kernel_rfl) rfl ?_
       rw[g57_eq]
       simp only [g57,go1,Int.reduceEq,c0,i0,hall,h,leaves_own]
      ·rw[tb_round]
       show _=render ([mk 40,mk 45]++pcs x++[mk 41])
       simp only [List.map_cons,List.map_nil,List.flatten_cons,List.flatten_nil,List.append_nil,render_app,List.append_assoc,q0]
       rfl
      ·rw[round_sz]
       simp only [tot_cons,tot_nil,bs_sz,List.length_cons,List.length_nil]
       omega
   ·have e: ∀t,pcK 5 n s o a t= [mk 40,wd kNot,none]++t.getD 0 []++[mk 41]:=fun t=>by unfold pcK;rw[if_pos rfl,if_neg ho]
    rw[e]
    have ho:=decide_eq_false ho
    match u,hlu,hts with
    | [x],_,hts=>
      obtain⟨t,rfl,q0,hb⟩:=hts.l1
      simp only [Ex.sizes]at hz ⊢
      have c0:sy.cell (sy.row (srows [t]) 0) 0=some (.str t):=rfl
      have i0:decide ((0:Int)≤0∧(0:Int) < ((srows [t]).length:Int))=true:=rfl
      have h:=c_round [bs [110,111,116,32],t] (by simp only [List.length_cons,List.length_nil];omega) (by(simp only [tot_cons,tot_nil,bs_sz,List.length_cons,List.length_nil];omega))
      have h:cF 105 [V.d (D.sl 1 [[D.str (bs [110,111,116,32])],[D.str (t)]])]=some (.val [.str (roundB [bs [110,111,116,32],t])]):=h
      refine⟨roundB [bs [110,111,116,32],t],?_,?_,?_⟩
      ·refine cOf (by kernel_rfl) rfl ?_
       rw[g57_eq]
       simp only [g57,go1,Int.reduceEq,c0,i0,hall,ho,h,leaves_own]
      ·rw[tb_round]
       show _=render ([mk 40,wd kNot,none]++pcs x++[mk 41])
       simp only [List.map_cons,List.map_nil,List.flatten_cons,List.flatten_nil,List.append_nil,render_app,List.append_assoc,q0]
       rfl
      ·rw[round_sz]
       simp only [tot_cons,tot_nil,bs_sz,List.length_cons,List.length_nil]
       omega
 · -- 6
   have hlu:u.length=2:=by simp [hiB,loB]at h5 h6;omega
   match u,hlu,hts with
   | [x,y],_,hts=>
     obtain⟨t,v,rfl,q0,q1,hb⟩:=hts.l2
     simp only [Ex.sizes]at hz ⊢
     have ho:3≤o∧o≤16:=by simpa [opB_]using h3
     obtain⟨o,rfl⟩: ∃q:Nat,o=(q:Int):=⟨o.toNat,by omega⟩
     have hsg:=c_sSign o (by omega) (by omega)
     have hss:(signB o).size≤3:=by
      have h1:3≤o:=by omega
      have h2:o≤16:=by omega
      match o,h1,h2 with
      |3,_,_|4,_,_|5,_,_|6,_,_|7,_,_|8,_,_|9,_,_|10,_,_|11,_,_|12,_,_|13,_,_|14,_,_|15,_,_|16,_,_=>decide
      |o+17,_,h=>omega
     have qx:render [none,opK o,none]= [32]++(tb (signB o)++[32]):=by
      show 32::(T.w ⟨if 7≤o∧o≤10 then 1 else 5,tb (signB o),0⟩++[32])=_
      unfold T.w
      rw[if_neg (by simp only;split<;>decide)]
      rfl
     have c0:sy.cell (sy.row (srows [t,v]) 0) 0=some (.str t):=rfl
     have i0:decide ((0:Int)≤0∧(0:Int) < ((srows [t,v]).length:Int))=true:=rfl
     have c1:sy.cell (sy.row (srows [t,v]) 1) 0=some (.str v):=rfl
     have i1:decide ((0:Int)≤1∧(1:Int) < ((srows [t,v]).length:Int))=true:=rfl
     have h:=c_round [t,bs [32],signB o,bs [32],v] (by simp only [List.length_cons,List.length_nil];omega) (by(simp only [tot_cons,tot_nil,bs_sz,List.length_cons,List.length_nil];omega))
     have h:cF 105 [V.d (D.sl 1 [[D.str (t)],[D.str (bs [32])],[D.str (signB o)],[D.str (bs [32])],[D.str (v)]])]=some (.val [.str (roundB [t,bs [32],signB o,bs [32],v])]):=h
     refine⟨roundB [t,bs [32],signB o,bs [32],v],?_,?_,?_⟩
     ·refine cOf (by kernel_rfl) rfl ?_
      rw[g57_eq]
      simp only [g57,go1,Int.reduceEq,c0,i0,c1,i1,hall,hsg,h,leaves_own]
     ·rw[tb_round]
      show _=render ([mk 40]++pcs x++[none,opK o,none]++pcs y++[mk 41])
      simp only [List.map_cons,List.map_nil,List.flatten_cons,List.flatten_nil,List.append_nil,render_app,List.append_assoc,q0,q1,qx]
      rfl
     ·rw[round_sz]
      simp only [tot_cons,tot_nil,bs_sz,List.length_cons,List.length_nil]
      omega
 · -- 7
   have hlu:u.length=3:=by simp [hiB,loB]at h5 h6;omega
   match u,hlu,hts with
   | [x,y,z],_,hts=>
     obtain⟨t,v,w,rfl,q0,q1,q2,hb⟩:=hts.l3
     simp only [Ex.sizes]at hz ⊢
     have c0:sy.cell (sy.row (srows [t,v,w]) 0) 0=some (.str t):=rfl
     have i0:decide ((0:Int)≤0∧(0:Int) < ((srows [t,v,w]).length:Int))=true:=rfl
     have c1:sy.cell (sy.row (srows [t,v,w]) 1) 0=some (.str v):=rfl
     have i1:decide ((0:Int)≤1∧(1:Int) < ((srows [t,v,w]).length:Int))=true:=rfl
     have c2:sy.cell (sy.row (srows [t,v,w]) 2) 0=some (.str w):=rfl
     have i2:decide ((0:Int)≤2∧(2:Int) < ((srows [t,v,w]).length:Int))=true:=rfl
     have h:=c_round [bs [105,102,32],t,bs [32,116,104,101,110,32],v,bs [32,101,108,115,101,32],w] (by simp only [List.length_cons,List.length_nil];omega) (by(simp only [tot_cons,tot_nil,bs_sz,List.length_cons,List.length_nil];omega))
     have h:cF 105 [V.d (D.sl 1 [[D.str (bs [105,102,32])],[D.str (t)],[D.str (bs [32,116,104,101,110,32])],[D.str (v)],[D.str (bs [32,101,108,115,101,32])],[D.str (w)]])]=some (.val [.str (roundB [bs [105,102,32],t,bs [32,116,104,101,110,32],v,bs [32,101,108,115,101,32],w])]):=h
     refine⟨roundB [bs [105,102,32],t,bs [32,116,104,101,110,32],v,bs [32,101,108,115,101,32],w],?_,?_,?_⟩
     ·refine cOf (by kernel_rfl) rfl ?_
      rw[g57_eq]
      simp only [g57,go1,Int.reduceEq,c0,i0,c1,i1,c2,i2,hall,h,leaves_own]
     ·rw[tb_round]
      show _=render ([mk 40,wd kIf,none]++pcs x++[none,wd kThen,none]++pcs y++[none,wd kElse,none]++pcs z++[mk 41])
      simp only [List.map_cons,List.map_nil,List.flatten_cons,List.flatten_nil,List.append_nil,render_app,List.append_assoc,q0,q1,q2]
      rfl
     ·rw[round_sz]
      simp only [tot_cons,tot_nil,bs_sz,List.length_cons,List.length_nil]
      omega
 · -- 8
   have hlu:u.length=2:=by simp [hiB,loB]at h5 h6;omega
   obtain⟨r,q1,q2⟩:=c_sfl8 n s o a u ts hz hts hlu
   refine⟨r,?_,q2⟩
   refine cOf (by kernel_rfl) rfl ?_
   rw[g57_eq]
   simp only [g57,go1,Int.reduceEq,hall,leaves_own,q1]
 · -- 9
   have hlu:u.length=2:=by simp [hiB,loB]at h5 h6;omega
   obtain⟨r,q1,q2⟩:=c_sfl9 n s o a u ts hz hts hlu
   refine⟨r,?_,q2⟩
   refine cOf (by kernel_rfl) rfl ?_
   rw[g57_eq]
   simp only [g57,go1,Int.reduceEq,hall,leaves_own,q1]
 · -- 10
   have hlu:u.length=1:=by simp [hiB,loB]at h5 h6;omega
   obtain⟨r,q1,q2⟩:=c_sfl10 n s o a u ts hz hts hlu
   refine⟨r,?_,q2⟩
   refine cOf (by kernel_rfl) rfl ?_
   rw[g57_eq]
   simp only [g57,go1,Int.reduceEq,hall,leaves_own,q1]
 · -- 11
   have hlu:u.length=1:=by simp [hiB,loB]at h5 h6;omega
   have hla:a.length=1:=by
    unfold armsB at h4
    simp only [Bool.and_eq_true]at h4
    exact of_decide_eq_true h4.2
   obtain⟨r,q1,q2⟩:=c_sfl11 n s o a u ts hz hts hlu hla fs fa
   refine⟨r,?_,q2⟩
   refine cOf (by kernel_rfl) rfl ?_
   rw[g57_eq]
   simp only [g57,go1,Int.reduceEq,hall,leaves_own,q1]
 · -- 12
   have hla:a.length=u.length:=by simp [hiB,loB]at h5 h6;omega
   have hu6:u.length≤6:=by
    unfold armsB at h4
    simp only [Bool.and_eq_true]at h4
    have:=h4.2
    simp only [show decide ((12:Int)=11)=false from rfl,cond_false,decide_true,cond_true,Bool.and_eq_true]at this
    have:=of_decide_eq_true this.2.1
    omega
   obtain⟨r,q1,q2⟩:=c_sfl12 n s o a u ts hz hts hla hu6 fs fa
   refine⟨r,?_,q2⟩
   refine cOf (by kernel_rfl) rfl ?_
   rw[g57_eq]
   simp only [g57,go1,Int.reduceEq,hall,leaves_own,q1]
 · -- 13
   have hn:n=0∨n=1∧u≠[]:=by
    have hn:n=0∨n=1:=by simpa [numB]using h1
    rcases hn with rfl|rfl
    ·exact .inl rfl
    ·refine .inr ⟨rfl,?_⟩
     rintro rfl
     simp [loB]at h5
   obtain⟨r,q1,q2⟩:=c_sfl13 n s o a u ts hz hts fs hn
   refine⟨r,?_,q2⟩
   refine cOf (by kernel_rfl) rfl ?_
   rw[g57_eq]
   simp only [g57,go1,Int.reduceEq,hall,leaves_own,q1]
 · -- 14
   have hzz:=hts.z
   have hj:=sz_joinC ts
   have q1:=c_join ts (bs [44,32]) (by omega) (by omega)
   have f1:sy.sfit (bs [91]) (joinB ts (bs [44,32]))=true:=sfT (by rw[bs_sz];simp only [List.length_cons,List.length_nil];omega)
   have f2:sy.sfit (bs [91]++joinB ts (bs [44,32])) (bs [93])=true:=sfT (by simp only [ByteArray.size_append,bs_sz,List.length_cons,List.length_nil];omega)
   refine⟨bs [91]++joinB ts (bs [44,32])++bs [93],?_,?_,?_⟩
   ·refine cOf (by kernel_rfl) rfl ?_
    rw[g57_eq]
    simp only [g57,go1,Int.reduceEq,hall,leaves_own,q1,f1,f2]
   ·show _=render ([mk 91]++listP (pcsL u)++[mk 93])
    simp only [tb_app,tb_joinC hts.m,render_app]
    rfl
   ·simp only [ByteArray.size_append,bs_sz,List.length_cons,List.length_nil];omega
 · -- 15
   have hlu:u.length=2:=by simp [hiB,loB]at h5 h6;omega
   match u,hlu,hts with
   | [x,y],_,hts=>
     obtain⟨t,v,rfl,q0,q1,hb⟩:=hts.l2
     simp only [Ex.sizes]at hz ⊢
     have c0:sy.cell (sy.row (srows [t,v]) 0) 0=some (.str t):=rfl
     have i0:decide ((0:Int)≤0∧(0:Int) < ((srows [t,v]).length:Int))=true:=rfl
     have c1:sy.cell (sy.row (srows [t,v]) 1) 0=some (.str v):=rfl
     have i1:decide ((0:Int)≤1∧(1:Int) < ((srows [t,v]).length:Int))=true:=rfl
     have f1:sy.sfit t (bs [91])=true:=sfT (by rw[bs_sz];simp only [List.length_cons,List.length_nil];omega)
     have f2:sy.sfit (t++bs [91]) v=true:=sfT (by simp only [ByteArray.size_append,bs_sz,List.length_cons,List.length_nil];omega)
     have f3:sy.sfit (t++bs [91]++v) (bs [93])=true:=sfT (by simp only [ByteArray.size_append,bs_sz,List.length_cons,List.length_nil];omega)
     refine⟨t++bs [91]++v++bs [93],?_,?_,?_⟩
     ·refine cOf (by kernel_rfl) rfl ?_
      rw[g57_eq]
      simp only [g57,go1,Int.reduceEq,hall,leaves_own,c0,i0,c1,i1,f1,f2,f3]
     ·show _=render (pcs x++[mk 91]++pcs y++[mk 93])
      simp only [tb_app,q0,q1,render_app]
      rfl
     ·simp only [ByteArray.size_append,bs_sz,List.length_cons,List.length_nil];omega
 · -- 16
   have hlu:u.length=3:=by simp [hiB,loB]at h5 h6;omega
   match u,hlu,hts with
   | [x,y,z],_,hts=>
     obtain⟨t,v,w,rfl,q0,q1,q2,hb⟩:=hts.l3
     simp only [Ex.sizes]at hz ⊢
     have c0:sy.cell (sy.row (srows [t,v,w]) 0) 0=some (.str t):=rfl
     have i0:decide ((0:Int)≤0∧(0:Int) < ((srows [t,v,w]).length:Int))=true:=rfl
     have c1:sy.cell (sy.row (srows [t,v,w]) 1) 0=some (.str v):=rfl
     have i1:decide ((0:Int)≤1∧(1:Int) < ((srows [t,v,w]).length:Int))=true:=rfl
     have c2:sy.cell (sy.row (srows [t,v,w]) 2) 0=some (.str w):=rfl
     have i2:decide ((0:Int)≤2∧(2:Int) < ((srows [t,v,w]).length:Int))=true:=rfl
     have h:=c_round [t,bs [32,119,105,116,104,32,91],v,bs [93,32,61,32],w] (by simp only [List.length_cons,List.length_nil];omega) (by(simp only [tot_cons,tot_nil,bs_sz,List.length_cons,List.length_nil];omega))
     have h:cF 105 [V.d (D.sl 1 [[D.str (t)],[D.str (bs [32,119,105,116,104,32,91])],[D.str (v)],[D.str (bs [93,32,61,32])],[D.str (w)]])]=some (.val [.str (roundB [t,bs [32,119,105,116,104,32,91],v,bs [93,32,61,32],w])]):=h
     refine⟨roundB [t,bs [32,119,105,116,104,32,91],v,bs [93,32,61,32],w],?_,?_,?_⟩
     ·refine cOf (by kernel_rfl) rfl ?_
      rw[g57_eq]
      simp only [g57,go1,Int.reduceEq,c0,i0,c1,i1,c2,i2,hall,h,leaves_own]
     ·rw[tb_round]
      show _=render ([mk 40]++pcs x++[none,wd kWith,none,mk 91]++pcs y++[mk 93,none,mk 61,none]++pcs z++[mk 41])
      simp only [List.map_cons,List.map_nil,List.flatten_cons,List.flatten_nil,List.append_nil,render_app,List.append_assoc,q0,q1,q2]
      rfl
     ·rw[round_sz]
      simp only [tot_cons,tot_nil,bs_sz,List.length_cons,List.length_nil]
      omega
 · -- 17
   obtain⟨r,q1,q2,q3⟩:=c_sleaf 17 n s o (srows a) (Ex.rows u) (fun h=>by cases h) (fun h=>by cases h) fs (fun _=>h2) (by decide)
   refine⟨r,?_,q2,by omega⟩
   refine cOf (by kernel_rfl) rfl ?_
   rw[g57_eq]
   simp only [g57,go1,Int.reduceEq,hall,q1]
theorem c_stext: ∀(m:Nat) (k n:Int) (s:ByteArray) (o:Int) (a:List ByteArray) (u:List Ex),(Ex.mk k n s o a u).size≤m→m≤1000→allB (.mk k n s o a u)=true→(Ex.mk k n s o a u).fine→(Ex.mk k n s o a u).rng→
  ∃r,cF 57 [kE k n s o (srows a) (Ex.rows u)]=some (.val [.str r])∧tb r=render (pcs (.mk k n s o a u))∧r.size≤1000000*(Ex.mk k n s o a u).size
 |0,k,n,s,o,a,u,h,_,_,_,_=>by simp only [Ex.size]at h;omega
 |m+1,k,n,s,o,a,u,h,hm,hall,hfine,hrng=>by
  have hz:Ex.sizes u≤m:=by simp only [Ex.size]at h;omega
  obtain⟨⟨fs,fa,fal⟩,fu⟩:=hfine
  obtain⟨rn,ru⟩:=hrng
  simp only [allB,Bool.and_eq_true]at hall
  obtain⟨hpart,hu⟩:=hall
  have hT: ∀x∈u,TxtS x:=fun x hx=>by
   rintro k2 n2 s2 o2 a2 u2 rfl
   obtain⟨i,hi⟩:=List.getElem?_of_mem hx
   have h1:=sizes_mem hi
   have h2:=fine_mem hi fu
   have h3:allB (.mk k2 n2 s2 o2 a2 u2)=true:=by
    have: ∀ {l:List Ex},allBs l=true→ ∀x∈l,allB x=true:=by
     intro l
     induction l with
     |nil=>intro _ x h;cases h
     |cons y l ih=>
      intro h x hx
      simp only [allBs,Bool.and_eq_true]at h
      rcases List.mem_cons.1 hx with rfl|hx
      ·exact h.1
      ·exact ih h.2 x hx
    exact this hu _ hx
   have h4:(Ex.mk k2 n2 s2 o2 a2 u2).rng:=by
    have: ∀ {l:List Ex},Ex.rngs l→ ∀x∈l,x.rng:=by
     intro l
     induction l with
     |nil=>intro _ x h;cases h
     |cons y l ih=>
      intro h x hx
      rcases List.mem_cons.1 hx with rfl|hx
      ·exact h.1
      ·exact ih h.2 x hx
    exact this ru _ hx
   exact c_stext m k2 n2 s2 o2 a2 u2 (by omega) (by omega) h3 h2 h4
  obtain⟨ts,t1,t2⟩:=c_sall u (by omega) hT
  exact c_stext1 k n s o a u ts (by omega) t2 t1 hpart fs fa rn
theorem c_sExpr (k n:Int)(s:ByteArray)(o:Int)(a:List ByteArray)(u:List Ex)(hr:smallB (.mk k n s o a u)=true∧allB (.mk k n s o a u)=true)(hf:(Ex.mk k n s o a u).fine)(hn:(Ex.mk k n s o a u).rng):
  ∃r,cF 27 [kE k n s o (srows a) (Ex.rows u)]=some (.val [.str r])∧tb r=render (pcs (.mk k n s o a u))∧r.size≤60000000:=by
 have hz:(Ex.mk k n s o a u).size≤60:=by
  have:=hr.1
  unfold smallB at this
  simp only [Bool.and_eq_true,decide_eq_true_eq]at this
  exact this.1
 obtain⟨r,h1,h2,h3⟩:=c_stext 60 k n s o a u hz (by omega) hr.2 hf hn
 have h0:=c_eRight k n s o a u (by omega) hf
 rw[hr.1,hr.2]at h0
 refine⟨r,?_,h2,by omega⟩
 refine cOf (by kernel_rfl) rfl ?_
 rw[g27_eq]
 simp only [g27,go1,Bool.and_true,h0,h1]
end Go.Vm
end

section
set_option linter.all false
set_option maxRecDepth 100000
set_option maxHeartbeats 4000000
namespace Go.Vm
open Go.Proofs
end Go.Vm
end

section
set_option linter.all false
set_option maxRecDepth 100000
set_option maxHeartbeats 4000000
namespace Go.Vm
open Go.Proofs
theorem take_len_sizes (u:List Ex)(i:Nat)(h:i≤u.length):i≤Ex.sizes (u.take i):=by
 have:=sizes_len (u.take i)
 rw[List.length_take]at this
 omega
theorem c_rcount: ∀(m:Nat) (k n:Int) (s:ByteArray) (o:Int) (a:List ByteArray) (u:List Ex) (left:Nat),(Ex.mk k n s o a u).size≤m→left≤200→
  ∃r:Nat,cF 49 [kE k n s o (srows a) (Ex.rows u), .d (.int .i64 (left:Int))]=some (.val [.int .i64 (r:Int)])∧r≤left∧(0 < r→(Ex.mk k n s o a u).size+r=left)
 |0,k,n,s,o,a,u,left,h,_=>by simp only [Ex.size]at h;omega
 |m+1,k,n,s,o,a,u,left,h,hleft=>by
  have hz:Ex.sizes u≤m:=by simp only [Ex.size]at h;omega
  have core: ∃p,g49 sy eF k n s o (srows a) (Ex.rows u) (left:Int)=some p∧ ∃r:Nat,p= .val [.int .i64 (r:Int)]∧r≤left∧(0 < r→(Ex.mk k n s o a u).size+r=left):=by
   unfold g49
   by_cases h0:left=0
   ·subst h0
    refine⟨_,rfl,0,rfl,Nat.le_refl _,fun h=>by omega⟩
   ·have e0:sy.ile (left:Int) 0=false:=decide_eq_false (by omega)
    have w0:sy.wrap .i64 (sy.sub (left:Int) 1)=((left - 1:Nat):Int):=by
     show IntKind.i64.wrap ((left:Int) - 1)=_
     rw[wrap_id (by omega) (by omega)];omega
    rw[e0,w0]
    refine loopF_ex (fun x:Nat × Nat=>[.int .i64 (x.2:Int), .int .i64 (x.1:Int), .int .i64 k, .int .i64 n, .str s, .int .i64 o, .sl 1 (srows a), .sl 6 (Ex.rows u)]) (fun x=>x.1≤u.length∧x.2 < left∧(0 < x.2→1+Ex.sizes (u.take x.1)+x.2=left)) (fun x=>u.length - x.1) (fun x hx=> ?_) (0,left - 1) ⟨Nat.zero_le _,by simp only;omega,fun _=>by simp [Ex.sizes];omega⟩
    obtain⟨i,r⟩:=x
    obtain⟨h1,h2,h3⟩:=hx
    simp only at h1 h2 h3 ⊢
    by_cases hlt:i < u.length
    ·by_cases hr:0 < r
     ·left
      have hx:=List.getElem?_eq_getElem hlt
      have htk:u.take (i+1)=u.take i++[u[i]]:=by rw[List.take_add_one,hx];rfl
      generalize u[i]=e at hx htk
      have hrow:=xrow hx
      have hem:=sizes_mem hx
      obtain⟨k2,n2,s2,o2,a2,u2⟩:=e
      obtain⟨r2,q1,q2,q3⟩:=c_rcount m k2 n2 s2 o2 a2 u2 r (by omega) (by omega)
      have hi:=take_len_sizes u i h1
      have h3:=h3 hr
      have w1:IntKind.i64.wrap ((i:Int)+1)=((i+1:Nat):Int):=by rw[wrap_id (by omega) (by omega)];omega
      have l0:=ilt_at hlt
      have i0:=inr_at hlt
      have z0:decide ((0:Int) < (r:Int))=true:=decide_eq_true (by omega)
      refine⟨(i+1,r2),?_,⟨hlt,by simp only;omega,fun hp=> ?_⟩,by simp only;omega⟩
      ·simp only [go1,oE,rows_len,l0,i0,z0,hrow,Ex.row,q1,w1]
      ·simp only at hp ⊢
       have:=q3 hp
       rw[htk,sizes_snoc]
       omega
     ·right
      have hr0:r=0:=by omega
      subst hr0
      refine⟨_,?_,0,rfl,Nat.zero_le _,fun h=>by omega⟩
      have l0:=ilt_at hlt
      simp only [go1,oE,rows_len,l0,show decide ((0:Int) < ((0:Nat):Int))=false from rfl]
    ·right
     have:i=u.length:=by omega
     subst this
     rw[List.take_length]at h3
     refine⟨_,?_,r,rfl,by omega,fun hp=> ?_⟩
     ·simp only [go1,oE,rows_len,ilt_self]
     ·have:=h3 hp
      simp only [Ex.size];omega
  obtain⟨p,h1,r,rfl,h2⟩:=core
  exact⟨r,cOf (by kernel_rfl) rfl ((g49_eq _ _ _ _ _ _ _ _ _).trans h1),h2⟩
def okQ:Ex→Prop
 | .mk _ _ s _ a _=>s.size≤200∧a.length≤20∧ ∀x∈a,x.size≤100
theorem row_fields {l:List Ex}{i:Nat}{k n:Int}{s:ByteArray}{o:Int}{a:List ByteArray}{u:List Ex}(h:l[i]? =some (.mk k n s o a u)):
  sy.cell (sy.skip 2 (sy.row (Ex.rows l) (i:Int))) 0=some (.str s)∧sy.cell (sy.skip 4 (sy.row (Ex.rows l) (i:Int))) 0=some (.sl 1 (srows a)):=by
 rw[xrow h]
 exact⟨rfl,rfl⟩
theorem c_rfew (k n:Int)(s:ByteArray)(o:Int)(a:List ByteArray)(u:List Ex)(h:(Ex.mk k n s o a u).size≤1000):
  ∃b,cF 50 [kE k n s o (srows a) (Ex.rows u)]=some (.val [.bool b])∧(b=true→ ∀x∈(Ex.mk k n s o a u).parts,okQ x):=by
 have hp:=c_reParts 1000 k n s o a u h (by omega)
 have hpl:=parts_len (Ex.mk k n s o a u)
 generalize (Ex.mk k n s o a u).parts=P at hp hpl ⊢
 have core: ∃p,g50 sy eF k n s o (srows a) (Ex.rows u)=some p∧ ∃b,p= .val [.bool b]∧(b=true→ ∀x∈P,okQ x):=by
  simp only [g50,go1,hp]
  refine loopF_ex (fun i:Nat=>[.sl 6 (Ex.rows P), .int .i64 (i:Int)]) (fun i=>i≤P.length∧ ∀x∈P.take i,okQ x) (fun i=>P.length - i) (fun i hi=> ?_) 0 ⟨Nat.zero_le _,by simp⟩
  obtain⟨h1,h2⟩:=hi
  by_cases hlt:i < P.length
  ·have hx:=List.getElem?_eq_getElem hlt
   have htk:P.take (i+1)=P.take i++[P[i]]:=by rw[List.take_add_one,hx];rfl
   generalize P[i]=e at hx htk
   obtain⟨k2,n2,s2,o2,a2,u2⟩:=e
   obtain⟨f1,f2⟩:=row_fields hx
   have l0:=ilt_at hlt
   have i0:=inr_at hlt
   have w1:IntKind.i64.wrap ((i:Int)+1)=((i+1:Nat):Int):=by rw[wrap_id (by omega) (by omega)];omega
   by_cases g1:200 < s2.size
   ·right
    refine⟨_,?_,false,rfl,fun h=>by cases h⟩
    simp only [go1,rows_len,l0,i0,f1,decide_eq_true (show(200:Int) < (s2.size:Int) by omega)]
   ·by_cases g2:20 < a2.length
    ·right
     refine⟨_,?_,false,rfl,fun h=>by cases h⟩
     simp only [go1,rows_len,srows_len,l0,i0,f1,f2,decide_eq_false (show ¬(200:Int) < (s2.size:Int) by omega),decide_eq_true (show(20:Int) < (a2.length:Int) by omega)]
    ·simp only [go1,rows_len,srows_len,l0,i0,f1,f2,decide_eq_false (show ¬(200:Int) < (s2.size:Int) by omega),decide_eq_false (show ¬(20:Int) < (a2.length:Int) by omega)]
     have inner: ∃p,loopF (fun ds11=>
         (opL (sy.cell ds11 0) 6).bind fun l12=>
         (opI (sy.cell ds11 1) .i64).bind fun n13=>
         (opI (sy.cell ds11 2) .i64).bind fun n14=>
         bif (sy.inr n13 (sy.rlen l12))then
          (opL (sy.cell (sy.skip 4 (sy.row l12 n13)) 0) 1).bind fun l15=>
          bif (sy.ilt n14 (sy.rlen l15))then
           bif (sy.inr n13 (sy.rlen l12))then
            (opL (sy.cell (sy.skip 4 (sy.row l12 n13)) 0) 1).bind fun l16=>
            bif (sy.inr n14 (sy.rlen l16))then
             (opS (sy.cell (sy.row l16 n14) 0)).bind fun s17=>
             bif (sy.ilt 100 (sy.slen s17))then
              some (.inr ((.inr (PRes.val [(.bool false)])):List D ⊕ PRes))
             else
              some (.inl [(.sl 6 l12),(.int .i64 n13),(.int .i64 (sy.wrap .i64 (sy.add n14 1)))])
            else
             none
           else
            none
          else
           some (.inr (.inl [(.sl 6 l12),(.int .i64 (sy.wrap .i64 (sy.add n13 1)))]))
         else
          none
       ) [(.sl 6 (Ex.rows P)),(.int .i64 (i:Int)),(.int .i64 0)]=some p∧(p= .inr (.val [.bool false])∨p= .inl [.sl 6 (Ex.rows P), .int .i64 ((i+1:Nat):Int)]∧ ∀x∈a2,x.size≤100):=by
      refine loopF_ex (fun j:Nat=>[.sl 6 (Ex.rows P), .int .i64 (i:Int), .int .i64 (j:Int)]) (fun j=>j≤a2.length∧ ∀x∈a2.take j,x.size≤100) (fun j=>a2.length - j) (fun j hj=> ?_) 0 ⟨Nat.zero_le _,by simp⟩
      obtain⟨j1,j2⟩:=hj
      by_cases hj:j < a2.length
      ·have hy:=List.getElem?_eq_getElem hj
       have hyk:a2.take (j+1)=a2.take j++[a2[j]]:=by rw[List.take_add_one,hy];rfl
       generalize a2[j]=y at hy hyk
       have hc:=srows_at hy
       have l1:=ilt_at hj
       have i1:=inr_at hj
       have w2:IntKind.i64.wrap ((j:Int)+1)=((j+1:Nat):Int):=by rw[wrap_id (by omega) (by omega)];omega
       by_cases g3:100 < y.size
       ·right
        refine⟨_,?_, .inl rfl⟩
        simp only [go1,rows_len,srows_len,i0,f2,l1,i1,hc,decide_eq_true (show(100:Int) < (y.size:Int) by omega)]
       ·left
        refine⟨j+1,?_,⟨hj,fun x hx=> ?_⟩,by omega⟩
        ·simp only [go1,rows_len,srows_len,i0,f2,l1,i1,hc,decide_eq_false (show ¬(100:Int) < (y.size:Int) by omega),w2]
        ·rw[hyk]at hx
         rcases List.mem_append.1 hx with hx|hx
         ·exact j2 x hx
         ·rw[List.mem_singleton.1 hx];omega
      ·right
       have:j=a2.length:=by omega
       subst this
       rw[List.take_length]at j2
       refine⟨_,?_, .inr ⟨rfl,j2⟩⟩
       simp only [go1,rows_len,srows_len,i0,f2,ilt_self,w1]
     obtain⟨p,hp1,hp2⟩:=inner
     simp only [go1,Option.bind_some,eq_self,cond_true,cond_false]at hp1
     rcases hp2 with rfl|⟨rfl,hq⟩
     ·right
      exact⟨_,hp1,false,rfl,fun h=>by cases h⟩
     ·left
      refine⟨i+1,hp1,⟨hlt,fun x hx=> ?_⟩,by omega⟩
      rw[htk]at hx
      rcases List.mem_append.1 hx with hx|hx
      ·exact h2 x hx
      ·rw[List.mem_singleton.1 hx]
       exact⟨by omega,by omega,hq⟩
  ·right
   have:i=P.length:=by omega
   subst this
   rw[List.take_length]at h2
   refine⟨_,?_,true,rfl,fun _=>h2⟩
   simp only [go1,rows_len,ilt_self]
 obtain⟨p,h1,b,rfl,h2⟩:=core
 exact⟨b,cOf (by kernel_rfl) rfl ((g50_eq _ _ _ _ _ _ _ _).trans h1),h2⟩
mutual
theorem fine_of: ∀e:Ex,(∀x∈e.parts,okQ x)→e.fine
 | .mk k n s o a u,h=>by
   have h0:okQ (.mk k n s o a u):=h _ (by simp [Ex.parts])
   refine⟨⟨by have:=h0.1;omega,fun x hx=>by have:=h0.2.2 x hx;omega,by have:=h0.2.1;omega⟩,fines_of u fun x hx=>h x (by simp [Ex.parts,hx])⟩
theorem fines_of: ∀u:List Ex,(∀x∈Ex.partsL u,okQ x)→Ex.fines u
 | [],_=>trivial
 |e::u,h=>⟨fine_of e fun x hx=>h x (by simp [Ex.partsL,hx]),fines_of u fun x hx=>h x (by simp [Ex.partsL,hx])⟩
end
theorem c_rSmall (k n:Int)(s:ByteArray)(o:Int)(a:List ByteArray)(u:List Ex): ∃b,cF 23 [kE k n s o (srows a) (Ex.rows u)]=some (.val [.bool b])∧(b=true→(Ex.mk k n s o a u).size≤200∧(Ex.mk k n s o a u).fine):=by
 obtain⟨r,h1,h2,h3⟩:=c_rcount _ k n s o a u 200 (Nat.le_refl _) (Nat.le_refl _)
 have h1:cF 49 [kE k n s o (srows a) (Ex.rows u), .d (.int .i64 200)]=_:=h1
 by_cases hr:0 < r
 ·have h3:=h3 hr
  obtain⟨b,h4,h5⟩:=c_rfew k n s o a u (by omega)
  refine⟨b,?_,fun hb=>⟨by omega,fine_of _ (h5 hb)⟩⟩
  refine cOf (by kernel_rfl) rfl ?_
  rw[g23_eq]
  simp only [g23,go1,Nat.reduceAdd,Int.reduceEq,Int.reduceLT,Int.reduceLE,Int.reduceSub,Int.reduceAdd,h1,h4,decide_eq_true (show(0:Int) < (r:Int) by omega)]
 ·refine⟨false,?_,fun h=>by cases h⟩
  refine cOf (by kernel_rfl) rfl ?_
  rw[g23_eq]
  simp only [g23,go1,Nat.reduceAdd,Int.reduceEq,Int.reduceLT,Int.reduceLE,Int.reduceSub,Int.reduceAdd,h1,decide_eq_false (show ¬(0:Int) < (r:Int) by omega)]
end Go.Vm
end

section
set_option linter.all false
set_option maxRecDepth 100000
set_option maxHeartbeats 4000000
namespace Go.Vm
open Go.Proofs
def Gd {α:Type}(l:List Tk):Rs α→Prop
 | .out=>True
 | .ok _ j=>j < l.length
 | .bad j=>j < l.length
section
variable {l : List Tk}
theorem gd_bind {α β:Type}{r:Rs α}{f:α→Nat→Rs β}(h:Gd l r)(h2: ∀a k,k < l.length→Gd l (f a k)):Gd l (r.bind f):=by
 cases r with
 |ok a k=>exact h2 a k h
 |bad k=>exact h
 |out=>trivial
theorem gd_iter {σ ρ:Type}{st:σ→σ ⊕ Rs ρ}(P:σ→Prop)(h: ∀x,P x→(∃y,st x= .inl y∧P y)∨ ∃r,st x= .inr r∧Gd l r): ∀(n:Nat) (x:σ),P x→Gd l (iterS st n x)
 |0,_,_=>trivial
 |n+1,x,hx=>by
  unfold iterS
  rcases h x hx with⟨y,h1,h2⟩|⟨r,h1,h2⟩
  ·rw[h1];exact gd_iter P h n y h2
  ·rw[h1];exact h2
variable (hl : LOK l)
include hl
theorem nx {i:Nat}{w:ByteArray}(hi:i < l.length)(h:isT l i w=true):i+1 < l.length:=hl.next hi (isT_k h)
theorem gd_name {i:Nat}(hi:i < l.length):Gd l (nameS l i):=by
 cases h:nameS l i with
 |ok n j=>exact nameS_lt hl hi h
 |out=>trivial
 |bad j=>
  unfold nameS at h
  split at h<;>cases h
  exact hi
theorem gd_arm {i:Nat}(hi:i < l.length):Gd l (armS l i):=by
 cases h:armS l i with
 |ok n j=>exact armS_lt hl hi h
 |out=>trivial
 |bad j=>
  unfold armS at h
  split at h<;>cases h
  exact hi
theorem gd_need: ∀(w:List ByteArray) {i:Nat},i < l.length→Gd l (needS l w i)
 | [],i,hi=>hi
 |x::w,i,hi=>by
  unfold needS
  split
  ·rename_i h;exact gd_need w (nx hl hi h)
  ·exact hi
theorem gd_when {i:Nat}(hi:i < l.length):Gd l (whenS l i):=by
 unfold whenS
 split
 ·rename_i h
  exact gd_bind (gd_name hl (nx hl hi h)) fun _ _ hk=>hk
 ·split
  ·exact gd_bind (gd_name hl hi) fun _ _ hk=>hk
  ·exact gd_bind (gd_arm hl hi) fun _ _ hk=>gd_bind (gd_need hl _ hk) fun _ _ hk=>gd_bind (gd_name hl hk) fun _ _ hk=>gd_bind (gd_need hl _ hk) fun _ _ hk=>hk
variable {n : Nat} {p : PR} (hp : ∀ nt i, i < l.length → Gd l (p nt i))
include hp
theorem gd_left (side:Nt)(a m:Nat){i:Nat}(hi:i < l.length):Gd l (leftS l n p side a m i):=by
 refine gd_bind (hp _ _ hi) fun e k hk=>gd_iter (fun x=>x.2 < l.length) (fun x hx=> ?_) n (e,k) hk
 obtain⟨e2,i2⟩:=x
 rw[leftT]
 split
 ·exact .inr ⟨_,rfl,hx⟩
 ·rename_i o ho
  have h3:=hp side (i2+1) (hl.next hx (opS_spec ho).1)
  split
  ·rename_i hq;rw[hq]at h3;exact .inl ⟨_,rfl,h3⟩
  ·rename_i hq;rw[hq]at h3;exact .inr ⟨_,rfl,h3⟩
  ·exact .inr ⟨_,rfl,trivial⟩
theorem gd_list (en:ByteArray){i:Nat}(hi:i < l.length):Gd l (listS l n p en i):=by
 refine gd_bind (hp _ _ hi) fun e k hk=>gd_iter (fun x=>x.2 < l.length) (fun x hx=> ?_) n ([e],k) hk
 obtain⟨e2,i2⟩:=x
 rw[listT]
 split
 ·rename_i ht
  have h3:=hp .arrow (i2+1) (nx hl hx ht)
  split
  ·rename_i hq;rw[hq]at h3;exact .inl ⟨_,rfl,h3⟩
  ·rename_i hq;rw[hq]at h3;exact .inr ⟨_,rfl,h3⟩
  ·exact .inr ⟨_,rfl,trivial⟩
 ·exact .inr ⟨_,rfl,gd_bind (gd_need hl _ hx) fun _ _ hk=>hk⟩
theorem gd_post {i:Nat}(hi:i < l.length):Gd l (postS l n p i):=by
 refine gd_bind (hp _ _ hi) fun e k hk=>gd_iter (fun x=>x.2 < l.length) (fun x hx=> ?_) n (e,k) hk
 obtain⟨e2,i2⟩:=x
 rw[postT]
 split
 ·rename_i ht
  have h3:Gd l (((p .arrow (i2+1)).bind fun a j=>(needS l [bs [93]] j).bind fun _ j=> .ok a j:Rs Ex)):=gd_bind (hp .arrow _ (nx hl hx ht)) fun _ _ hk=>gd_bind (gd_need hl _ hk) fun _ _ hk=>hk
  split
  ·rename_i hq;rw[hq]at h3;exact .inl ⟨_,rfl,h3⟩
  ·rename_i hq;rw[hq]at h3;exact .inr ⟨_,rfl,h3⟩
  ·exact .inr ⟨_,rfl,trivial⟩
 ·split
  ·rename_i ht
   have h3:=gd_when hl (nx hl hx ht)
   split
   ·rename_i hq;rw[hq]at h3;exact .inl ⟨_,rfl,h3⟩
   ·rename_i hq;rw[hq]at h3;exact .inr ⟨_,rfl,h3⟩
   ·exact .inr ⟨_,rfl,trivial⟩
  ·exact .inr ⟨_,rfl,hx⟩
theorem gd_callU (nm:ByteArray)(es:List Ex){i:Nat}(hi:i < l.length):Gd l (callU l p nm es i):=by
 unfold callU
 split
 ·rename_i ht;exact gd_bind (hp _ _ (nx hl hi ht)) fun _ _ hk=>hk
 ·exact hi
theorem gd_merge {i:Nat}(hi:i < l.length):Gd l (mergeS l n p i):=by
 refine gd_bind (gd_name hl hi) fun _ _ hk=>gd_bind (gd_need hl _ hk) fun _ _ hk=>gd_bind (gd_iter (fun x=>x.2.2.1 < l.length) (fun x hx=> ?_) n _ hk) fun _ _ hk=>hk
 obtain⟨ar,es,i2,b⟩:=x
 cases b with
 |false=>exact .inr ⟨_,rfl,hx⟩
 |true=>
  rw[mergeT]
  have h3:Gd l ((armS l i2).bind fun a j=>(needS l [bs [45,62]] j).bind fun _ j=>(p .arrow j).bind fun e j=>(needS l [bs [41]] j).bind fun _ j=> .ok (a,e) j:Rs (ByteArray × Ex)):=gd_bind (gd_arm hl hx) fun _ _ hk=>gd_bind (gd_need hl _ hk) fun _ _ hk=>gd_bind (hp _ _ hk) fun _ _ hk=>gd_bind (gd_need hl _ hk) fun _ _ hk=>hk
  split
  ·rename_i hq
   rw[hq]at h3
   split
   ·rename_i ht;exact .inl ⟨_,rfl,nx hl h3 ht⟩
   ·exact .inl ⟨_,rfl,h3⟩
  ·rename_i hq;rw[hq]at h3;exact .inr ⟨_,rfl,h3⟩
  ·exact .inr ⟨_,rfl,trivial⟩
theorem gd_word {i:Nat}(hi:i < l.length):Gd l (wordS l n p i):=by
 unfold wordS
 split
 ·rename_i ht;exact nx hl hi ht
 split
 ·rename_i ht;exact nx hl hi ht
 split
 ·rename_i ht;exact gd_bind (gd_list hl hp _ (nx hl hi ht)) fun _ _ hk=>hk
 split
 ·rename_i ht
  unfold roundS
  refine gd_bind (hp _ _ (nx hl hi ht)) fun _ j hk=> ?_
  split
  ·rename_i ht
   exact gd_bind (gd_need hl _ (nx hl hk ht)) fun _ _ hk=>gd_bind (hp _ _ hk) fun _ _ hk=>gd_bind (gd_need hl _ hk) fun _ _ hk=>gd_bind (hp _ _ hk) fun _ _ hk=>gd_bind (gd_need hl _ hk) fun _ _ hk=>hk
  ·exact gd_bind (gd_need hl _ hk) fun _ _ hk=>hk
 split
 ·rename_i ht;exact gd_merge hl hp (nx hl hi ht)
 split
 ·rename_i ht
  exact gd_bind (hp _ _ (nx hl hi ht)) fun _ _ hk=>gd_bind (gd_need hl _ hk) fun _ _ hk=>gd_bind (hp _ _ hk) fun _ _ hk=>gd_bind (gd_need hl _ hk) fun _ _ hk=>gd_bind (hp _ _ hk) fun _ _ hk=>hk
 ·refine gd_bind (gd_name hl hi) fun _ j hk=> ?_
  split
  ·rename_i ht
   have hj:=nx hl hk ht
   unfold callS
   split
   ·rename_i ht;exact gd_callU hl hp _ _ (nx hl hj ht)
   ·exact gd_bind (gd_list hl hp _ hj) fun _ _ hk=>gd_callU hl hp _ _ hk
  ·exact hk
theorem gd_step (nt:Nt){i:Nat}(hi:i < l.length):Gd l (ntS l n p nt i):=by
 cases nt with
 |or=>exact gd_left hl hp _ _ _ hi
 |and=>exact gd_left hl hp _ _ _ hi
 |sum=>exact gd_left hl hp _ _ _ hi
 |prod=>exact gd_left hl hp _ _ _ hi
 |post=>exact gd_post hl hp hi
 |arrow=>
  refine gd_bind (hp _ _ hi) fun _ j hk=> ?_
  split
  ·rename_i ht;exact gd_bind (hp _ _ (nx hl hk ht)) fun _ _ hk=>hk
  ·exact hk
 |fby=>
  refine gd_bind (hp _ _ hi) fun _ j hk=> ?_
  split
  ·rename_i ht;exact gd_bind (hp _ _ (nx hl hk ht)) fun _ _ hk=>hk
  ·exact hk
 |cmp=>
  refine gd_bind (hp _ _ hi) fun _ j hk=> ?_
  split
  ·exact hk
  ·rename_i o ho;exact gd_bind (hp _ _ (hl.next hk (opS_spec ho).1)) fun _ _ hk=>hk
 |un=>
  show Gd l (unS l p i)
  unfold unS
  split
  ·rename_i ht;exact gd_bind (hp _ _ (nx hl hi ht)) fun _ _ hk=>hk
  split
  ·rename_i ht;exact gd_bind (hp _ _ (nx hl hi ht)) fun _ _ hk=>hk
  split
  ·rename_i ht;exact gd_bind (hp _ _ (nx hl hi ht)) fun _ _ hk=>hk
  ·exact hp _ _ hi
 |atom=>
  show Gd l (atomS l n p i)
  have ne: ∀k:Int,decide ((tkA l i).k=k)=true→k≠6→i+1 < l.length:=fun k h hk=>hl.next hi (by rw[of_decide_eq_true h];exact hk)
  unfold atomS
  split
  ·rename_i ht;exact ne _ ht (by decide)
  split
  ·rename_i ht;exact ne _ ht (by decide)
  split
  ·rename_i ht;exact ne _ ht (by decide)
  ·exact gd_word hl hp hi
end
theorem gd_prs {l:List Tk}(hl:LOK l): ∀(n:Nat) (nt:Nt) (i:Nat),i < l.length→Gd l (prs l n nt i)
 |0,_,_,_=>trivial
 |n+1,nt,i,hi=>gd_step hl (gd_prs hl n) nt hi
theorem readS_bad {l:List Tk}(hl:LOK l){i:Nat}(hi:i < l.length){j:Nat}(h:readS l i= .bad j):j < l.length:=by
 have:=gd_prs hl (fuel l) .arrow i hi
 unfold readS at h
 rw[h]at this
 exact this
end Go.Vm
end

section
set_option linter.all false
set_option maxRecDepth 100000
set_option maxHeartbeats 4000000
namespace Go.Vm
open Go.Proofs
theorem partS_at {l:List Tk}(hl:LOK l)(i:Nat)(hi:i < l.length)(hj: ∀j,readS l i= .bad j→j < l.length): ∃p:Nat,(partS l i).2.1=(p:Int)∧p < l.length:=by
 unfold partS
 cases hR:readS l i with
 |out=>exact⟨i,rfl,hi⟩
 |bad j=>exact⟨j,rfl,hj j hR⟩
 |ok e j=>
  have hj:=((prs_HQ hl (fuel l)).pos .arrow i e j hi hR).2
  simp only
  cases smallB e with
  |false=>exact⟨i,rfl,hi⟩
  |true=>
   cases allB e with
   |false=>exact⟨i,rfl,hi⟩
   |true=>exact⟨j,rfl,hj⟩
theorem row_skip {l:List Tk}{i:Nat}(h:i < l.length):sy.cell (sy.skip 3 (sy.row (trows l) (i:Int))) 0=some (.int .i64 ((tkA l i).a:Int)):=by rw[row_tk h];rfl
theorem partS_ok {l:List Tk}(hl:LOK l)(hS:TS l){i:Nat}(hi:i < l.length){e:Ex}{p:Int}(h:partS l i=(e,p,0)): ∃j:Nat,p=(j:Int)∧i < j∧j < l.length∧e.fine∧e.size≤1000000:=by
 unfold partS at h
 cases hR:readS l i with
 |out=>rw[hR]at h;cases h
 |bad j=>rw[hR]at h;cases h
 |ok e2 j=>
  rw[hR]at h
  have hz:=readS_sz hS hR
  have hj:=(prs_HQ hl (fuel l)).pos .arrow i e2 j hi hR
  have hf:=hl.few
  simp only at h
  cases h1:smallB e2 with
  |false=>rw[h1]at h;cases h
  |true=>
   cases h2:allB e2 with
   |false=>rw[h1,h2]at h;cases h
   |true=>
    rw[h1,h2]at h
    cases h
    exact⟨j,rfl,hj.1,hj.2,okS_fine _ hz.2 (by omega),by omega⟩
structure Mv where
 p:ByteArray
 e:Ex
def Mv.row (m:Mv):List D:= .str m.p::m.e.row
def mrows (o:List Mv):List (List D):=o.map Mv.row
theorem mrows_len (o:List Mv):(mrows o).length=o.length:=by simp [mrows]
theorem mrow_at {o:List Mv}{i:Nat}{m:Mv}(h:o[i]? =some m):sy.row (mrows o) (i:Int)=m.row:=by
 show(mrows o).getD (i:Int).toNat []=_
 rw[Int.toNat_natCast,List.getD_eq_getElem?_getD]
 simp [mrows,h]
def isMt (t:Tk)(w:ByteArray):Bool:=decide (t.k=5)&&decide (tb t.s=tb w)
theorem c_mmark (t:Tk)(w:ByteArray):cF 41 [.agg [.d (.int .i64 t.k), .d (.str t.s), .d (.int .i64 t.n), .d (.int .i64 (t.a:Int))], .d (.str w)]=some (.val [.bool (isMt t w)]):=by
 unfold isMt
 refine cOf (by kernel_rfl) rfl ?_
 rw[g41_eq]
 simp only [g41,go1,Nat.reduceAdd,Int.reduceEq,Int.reduceLT,Int.reduceLE,Int.reduceSub,Int.reduceAdd,seq_tb]
 try (cases decide (t.k=5)<;>rfl)
def hasP (o:List Mv)(s:ByteArray):Bool:=o.any fun m=>decide (tb m.p=tb s)
theorem hasP_take {o:List Mv}{i:Nat}{m:Mv}{s:ByteArray}(h:o[i]? =some m)(h2:hasP (o.take i) s=false):hasP (o.take (i+1)) s=decide (tb m.p=tb s):=by
 have:o.take (i+1)=o.take i++[m]:=by rw[List.take_add_one,h];rfl
 unfold hasP at h2 ⊢
 rw[this,List.any_append,h2,Bool.false_or]
 simp
theorem hasP_at {o:List Mv}{i:Nat}{m:Mv}{s:ByteArray}(h:o[i]? =some m)(h2:decide (tb m.p=tb s)=true):hasP o s=true:=by
 unfold hasP
 exact List.any_eq_true.2 ⟨m,List.mem_of_getElem? h,h2⟩
def errS (t:Tk)(o:List Mv):Int:=match decide (t.k=4),hasP o t.s,decide ((o.length:Int)=40)with
 |false,_,_=>2
 |true,true,_=>6
 |true,false,true=>4
 |true,false,false=>0
theorem c_mpath (t:Tk)(o:List Mv)(ho:o.length≤1000000):cF 16 [.agg [.d (.int .i64 t.k), .d (.str t.s), .d (.int .i64 t.n), .d (.int .i64 (t.a:Int))], .d (.sl 7 (mrows o))]=some (.val [.int .i64 (errS t o)]):=by
 refine cOf (by kernel_rfl) rfl ?_
 rw[g16_eq]
 simp only [g16,go1,Nat.reduceAdd,Int.reduceEq,Int.reduceLT,Int.reduceLE,Int.reduceSub,Int.reduceAdd,mrows_len]
 unfold errS
 cases hk:decide (t.k=4)with
 |false=>rfl
 |true=>
  simp only [go1,Nat.reduceAdd,Int.reduceEq,Int.reduceLT,Int.reduceLE,Int.reduceSub,Int.reduceAdd]
  refine loopF_at (fun i:Nat=>[.sl 7 (mrows o), .int .i64 (o.length:Int), .int .i64 (i:Int), .int .i64 t.k, .str t.s, .int .i64 t.n, .int .i64 (t.a:Int), .str t.s]) (fun i=>i≤o.length∧hasP (o.take i) t.s=false) (fun i=>o.length - i) (fun i hi=> ?_) 0 ⟨Nat.zero_le _,rfl⟩
  obtain⟨h1,h2⟩:=hi
  by_cases hlt:i < o.length
  ·have hx:=List.getElem?_eq_getElem hlt
   generalize o[i]=m at hx
   have hr:=mrow_at hx
   have h3:=hasP_take hx h2
   have w1:IntKind.i64.wrap ((i:Int)+1)=((i+1:Nat):Int):=by rw[wrap_id (by omega) (by omega)];omega
   have z0:decide ((0:Int)≤(i:Int))=true:=decide_eq_true (by omega)
   obtain⟨mp,k2,n2,s2,o2,a2,u2⟩:=m
   have hr:sy.row (mrows o) (i:Int)= [.str mp, .int .i64 k2, .int .i64 n2, .str s2, .int .i64 o2, .sl 1 (srows a2), .sl 6 (Ex.rows u2)]:=hr
   simp only [go1,Nat.reduceAdd,Int.reduceEq,Int.reduceLT,Int.reduceLE,Int.reduceSub,Int.reduceAdd,oT,oE,mrows_len,ilt_at hlt,inr_at hlt,hr,seq_tb,z0]
   cases hd:decide (tb mp=tb t.s)with
   |true=>
    right
    rw[hasP_at hx hd]
    rfl
   |false=>
    left
    rw[hd]at h3
    exact⟨i+1,by simp only [go1,Nat.reduceAdd,Int.reduceEq,Int.reduceLT,Int.reduceLE,Int.reduceSub,Int.reduceAdd,w1],⟨hlt,h3⟩,by omega⟩
  ·right
   have:i=o.length:=by omega
   subst this
   rw[List.take_length]at h2
   simp only [go1,Nat.reduceAdd,Int.reduceEq,Int.reduceLT,Int.reduceLE,Int.reduceSub,Int.reduceAdd,oT,oE,mrows_len,ilt_self,h2,Int.reduceLE]
   cases decide ((o.length:Int)=40)<;>rfl
def moveS (l:List Tk)(i:Nat):Ex × Int × Int:=match isMt (tkA l i) (bs [58,61])with
 |false=>(e0,(i:Int),2)
 |true=>match partS l (i+1)with
  |(e,p,r)=>match decide (r=0),isMt (tkA l p.toNat) (bs [59])with
   |false,_=>(e0,p,r)
   |true,false=>(e0,p,2)
   |true,true=>(e,p+1,0)
theorem isMt_k {t:Tk}{w:ByteArray}(h:isMt t w=true):t.k≠6:=by
 unfold isMt at h
 simp only [Bool.and_eq_true,decide_eq_true_eq]at h
 omega
section
variable {l : List Tk} (hl : LOK l) (hS : TS l) (hT : TOK l)
include hl hS hT
theorem c_mmove (i:Nat)(hi:i < l.length):cF 17 [.d (.sl 4 (trows l)), .d (.int .i64 (i:Int))]=some (encP (moveS l i)):=by
 have hf:=hl.few
 have q1:=in_tk hi
 have q2:=row_tk hi
 have m1:=c_mmark (tkA l i) (bs [58,61])
 rw[trows_len]at q1
 unfold moveS
 refine cOf (by kernel_rfl) rfl ?_
 rw[g17_eq]
 cases h1:isMt (tkA l i) (bs [58,61])with
 |false=>
  rw[h1]at m1
  simp only [g17,go1,Nat.reduceAdd,Int.reduceEq,Int.reduceLT,Int.reduceLE,Int.reduceSub,Int.reduceAdd,oT,trows_len,q1,q2,tkrow,m1]
  rfl
 |true=>
  rw[h1]at m1
  have hi1:=hl.next hi (isMt_k h1)
  have h2:=c_pPart hl hS (i+1) hi1
  obtain⟨p,hp1,hp2⟩:=partS_at hl (i+1) hi1 fun j hj=>readS_bad hl hi1 hj
  have w1:IntKind.i64.wrap ((i:Int)+1)=((i+1:Nat):Int):=by rw[wrap_id (by omega) (by omega)];omega
  generalize partS l (i+1)=R at hp1 h2 ⊢
  obtain⟨⟨k,n,s1,o,a,u⟩,p1,r⟩:=R
  simp only [encP]at hp1 h2
  subst hp1
  have q3:=in_tk hp2
  have q4:=row_tk hp2
  have m2:=c_mmark (tkA l p) (bs [59])
  have w2:IntKind.i64.wrap ((p:Int)+1)=(p:Int)+1:=by rw[wrap_id (by omega) (by omega)]
  rw[trows_len]at q3
  simp only [g17,go1,Nat.reduceAdd,Int.reduceEq,Int.reduceLT,Int.reduceLE,Int.reduceSub,Int.reduceAdd,oT,oE,trows_len,q1,q2,tkrow,m1,w1,h2,Int.toNat_natCast]
  cases decide (r=0)with
  |false=>rfl
  |true=>
   simp only [go1,Nat.reduceAdd,Int.reduceEq,Int.reduceLT,Int.reduceLE,Int.reduceSub,Int.reduceAdd,q3,q4,tkrow,m2]
   cases isMt (tkA l p) (bs [59])with
   |false=>rfl
   |true=>simp only [go1,Nat.reduceAdd,Int.reduceEq,Int.reduceLT,Int.reduceLE,Int.reduceSub,Int.reduceAdd,w2];rfl
theorem moveS_at (i:Nat)(hi:i < l.length): ∃p:Nat,(moveS l i).2.1=(p:Int)∧p < l.length∧((moveS l i).2.2=0→i < p∧(moveS l i).1.fine∧(moveS l i).1.size≤1000000):=by
 unfold moveS
 cases h1:isMt (tkA l i) (bs [58,61])with
 |false=>exact⟨i,rfl,hi,fun h=>by cases h⟩
 |true=>
  have hi1:=hl.next hi (isMt_k h1)
  obtain⟨p,hp1,hp2⟩:=partS_at hl (i+1) hi1 fun j hj=>readS_bad hl hi1 hj
  have hok:=fun e q=>partS_ok hl hS hi1 (e:=e) (p:=q)
  generalize partS l (i+1)=R at hp1 hok ⊢
  obtain⟨e,p1,r⟩:=R
  simp only at hp1 ⊢
  subst hp1
  rw[Int.toNat_natCast]
  cases hr:decide (r=0)with
  |false=>exact⟨p,rfl,hp2,fun h=>by simp only at h;rw[h]at hr;cases hr⟩
  |true=>
   have hr:=of_decide_eq_true hr
   subst hr
   cases hm:isMt (tkA l p) (bs [59])with
   |false=>exact⟨p,rfl,hp2,fun h=>by cases h⟩
   |true=>
    obtain⟨j,hj,h2,h3,h4,h5⟩:=hok e _ rfl
    have:j=p:=by omega
    subst this
    exact⟨j+1,rfl,hl.next hp2 (isMt_k hm),fun _=>⟨by omega,h4,h5⟩⟩
end
inductive MR where
 |out
 |ok (o:List Mv)
 |er (i:Nat) (c:Int)
def mStep (l:List Tk)(o:List Mv)(i:Nat):(List Mv × Nat) ⊕ MR:=match decide ((tkA l i).k=6),decide (errS (tkA l i) o=0)with
 |true,_=> .inr (.ok o)
 |false,false=> .inr (.er i (errS (tkA l i) o))
 |false,true=>match moveS l (i+1)with
  |(e,p,r)=>match decide (r=0)with
   |false=> .inr (.er p.toNat r)
   |true=> .inl (o++[⟨(tkA l i).s,e⟩],p.toNat)
def mRun (l:List Tk):Nat→List Mv→Nat→MR
 |0,_,_=> .out
 |n+1,o,i=>match mStep l o i with
  | .inl x=>mRun l n x.1 x.2
  | .inr r=>r
def encM (l:List Tk)(n:Nat):MR→PRes
 | .out=> .val []
 | .ok o=> .val [.sl 7 (mrows o), .int .i64 (n:Int), .int .i64 0]
 | .er i c=> .val [.sl 7 [], .int .i64 ((tkA l i).a:Int), .int .i64 c]
end Go.Vm
end

section
set_option linter.all false
set_option maxRecDepth 100000
set_option maxHeartbeats 4000000
namespace Go.Vm
open Go.Proofs
def mvFine (o:List Mv):Prop:= ∀m∈o,m.e.fine∧m.e.size≤1000000
theorem mrows_snoc (o:List Mv)(m:Mv):mrows o++[m.row]=mrows (o++[m]):=by simp [mrows]
structure MI (l:List Tk) (N:Nat) (x:Nat × List Mv × Nat):Prop where
 r:mRun l x.1 x.2.1 x.2.2=mRun l N [] 0
 i:x.2.2 < l.length
 n:l.length - x.2.2≤x.1
 o:x.2.1.length≤x.2.2
 f:mvFine x.2.1
def mrFine:MR→Prop
 | .ok o=>mvFine o∧o.length≤1000000
 | .er _ _=>True
 | .out=>False
section
variable {l : List Tk} (hl : LOK l) (hS : TS l) (hT : TOK l)
include hl hS hT
theorem mround {N:Nat}{x:Nat × List Mv × Nat}(h:MI l N x):
  (∃r,mStep l x.2.1 x.2.2= .inr r∧mRun l N [] 0=r∧mrFine r)∨ ∃e p,mStep l x.2.1 x.2.2= .inl (x.2.1++[⟨(tkA l x.2.2).s,e⟩],p)∧moveS l (x.2.2+1)=(e,(p:Int),0)∧x.2.2 < p∧MI l N (x.1 - 1,x.2.1++[⟨(tkA l x.2.2).s,e⟩],p)∧x.1 - 1 < x.1:=by
 obtain⟨n,o,i⟩:=x
 obtain⟨h1,h2,h3,h4,h5⟩:=h
 simp only at h1 h2 h3 h4 h5 ⊢
 obtain⟨n,rfl⟩: ∃q,n=q+1:=⟨n - 1,by omega⟩
 have hf:=hl.few
 rw[mRun]at h1
 cases hs:mStep l o i with
 |inr r=>
  left
  rw[hs]at h1
  refine⟨r,rfl,h1.symm,?_⟩
  unfold mStep at hs
  split at hs
  ·cases hs;exact⟨h5,by omega⟩
  ·cases hs;trivial
  ·split at hs
   rename_i q _ _ _
   split at hs
   ·cases hs;trivial
   ·cases hs
 |inl y=>
  right
  rw[hs]at h1
  unfold mStep at hs
  split at hs
  ·cases hs
  ·cases hs
  ·rename_i hk he
   have hk6:(tkA l i).k≠6:=of_decide_eq_false hk
   have hi1:=hl.next h2 hk6
   obtain⟨p,q1,q2,q3⟩:=moveS_at hl hS hT (i+1) hi1
   split at hs
   rename_i e p1 r hm
   simp only [hm]at q3
   rw[hm]at q1
   have q1:p1=(p:Int):=q1
   subst q1
   split at hs
   ·cases hs
   ·rename_i hr
    have hr:=of_decide_eq_true hr
    subst hr
    obtain⟨q4,q5,q6⟩:=q3 rfl
    rw[Int.toNat_natCast]at hs
    cases hs
    refine⟨e,p,rfl,hm,by omega,⟨?_,q2,?_,?_,?_⟩,by omega⟩
    ·simpa using h1
    ·simp only;omega
    ·simp only [List.length_append,List.length_singleton];omega
    ·intro m hmm
     rcases List.mem_append.1 hmm with hmm|hmm
     ·exact h5 m hmm
     ·rw[List.mem_singleton.1 hmm];exact⟨q5,q6⟩
theorem mloop1 (s:ByteArray): ∃p,loopF (fun ds6=>
  (opS (sy.cell ds6 0)).bind fun s7=>
  oP sy ds6 1 fun l8 n9=>
  (opL (sy.cell ds6 3) 7).bind fun l10=>
  bif (sy.inr n9 (sy.rlen l8))then
   oT sy (sy.row l8 n9) 0 fun n11 s12 n13 n14=>
   bif (sy.ieq n11 6)then
    some (.inr (PRes.val [(.sl 7 l10),(.int .i64 (sy.slen s7)),(.int .i64 0)]))
   else
    (cF 16 [(.agg [(.d (.int .i64 n11)),(.d (.str s12)),(.d (.int .i64 n13)),(.d (.int .i64 n14))]),(.d (.sl 7 l10))]).bind fun p15=>
    (opI (sy.cell p15.leaves 0) .i64).bind fun n17=>
    bif (sy.bnot (sy.ieq n17 0))then
     some (.inr (PRes.val [(.sl 7 []),(.int .i64 n14),(.int .i64 n17)]))
    else
     (cF 17 [(.d (.sl 4 l8)),(.d (.int .i64 (sy.wrap .i64 (sy.add n9 1))))]).bind fun p18=>
     oE sy p18.leaves 0 fun n20 n21 s22 n23 l24 l25=>
     (opI (sy.cell p18.leaves 6) .i64).bind fun n26=>
     (opI (sy.cell p18.leaves 7) .i64).bind fun n27=>
     bif (sy.bnot (sy.ieq n27 0))then
      bif (sy.inr n26 (sy.rlen l8))then
       (opI (sy.cell (sy.skip 3 (sy.row l8 n26)) 0) .i64).bind fun n28=>
       some (.inr (PRes.val [(.sl 7 []),(.int .i64 n28),(.int .i64 n27)]))
      else
       none
     else
      bif (sy.fits l10 [[(.str s12),(.int .i64 n20),(.int .i64 n21),(.str s22),(.int .i64 n23),(.sl 1 l24),(.sl 6 l25)]] 104)then
       some (.inl [(.str s7),(.sl 4 l8),(.int .i64 n26),(.sl 7 (sy.rapp l10 [[(.str s12),(.int .i64 n20),(.int .i64 n21),(.str s22),(.int .i64 n23),(.sl 1 l24),(.sl 6 l25)]]))])
      else
       none
  else
   none
  ) [(.str s),(.sl 4 (trows l)),(.int .i64 0),(.sl 7 [])]=some p∧p=encM l s.size (mRun l l.length [] 0)∧mrFine (mRun l l.length [] 0):=by
 have hf:=hl.few
 refine loopF_ex (fun x:Nat × List Mv × Nat=>[.str s, .sl 4 (trows l), .int .i64 (x.2.2:Int), .sl 7 (mrows x.2.1)]) (MI l l.length) (fun x=>x.1) (fun x hx=> ?_) (l.length,[],0) ⟨rfl,hl.pos,Nat.le_refl _,Nat.le_refl _,by intro m h;cases h⟩
 have hi:=hx.i
 have ho:=hx.o
 have hstep:=mround hl hS hT hx
 obtain⟨n,o,i⟩:=x
 simp only at hi ho hstep ⊢
 have q1:=in_tk hi
 have q2:=row_tk hi
 rw[trows_len]at q1
 have p1:=c_mpath (tkA l i) o (by omega)
 have w1:IntKind.i64.wrap ((i:Int)+1)=((i+1:Nat):Int):=by rw[wrap_id (by omega) (by omega)];omega
 have fit:decide (((mrows o).length+1)*(104+1)≤140737488355328)=true:=decide_eq_true (by rw[mrows_len];omega)
 unfold mStep at hstep
 cases hk:decide ((tkA l i).k=6)with
 |true=>
  right
  rw[hk]at hstep
  rcases hstep with⟨r,h1,h2,h3⟩|⟨e,p,h1,_⟩
  ·cases h1
   refine⟨encM l s.size (mRun l l.length [] 0),?_,rfl,by rw[h2];exact h3⟩
   rw[h2]
   simp only [go1,Nat.reduceAdd,Int.reduceEq,Int.reduceLT,Int.reduceLE,Int.reduceSub,Int.reduceAdd,oP,oT,trows_len,q1,q2,tkrow,hk]
   rfl
  ·cases h1
 |false=>
  rw[hk]at hstep
  cases he:decide (errS (tkA l i) o=0)with
  |false=>
   right
   rw[he]at hstep
   rcases hstep with⟨r,h1,h2,h3⟩|⟨e,p,h1,_⟩
   ·cases h1
    refine⟨encM l s.size (mRun l l.length [] 0),?_,rfl,by rw[h2];exact h3⟩
    rw[h2]
    simp only [go1,Nat.reduceAdd,Int.reduceEq,Int.reduceLT,Int.reduceLE,Int.reduceSub,Int.reduceAdd,oP,oT,trows_len,q1,q2,tkrow,hk,p1,he]
    rfl
   ·cases h1
  |true=>
   rw[he]at hstep
   have hi1:=hl.next hi (of_decide_eq_false hk)
   have m1:=c_mmove hl hS hT (i+1) hi1
   obtain⟨p,r1,r2,_⟩:=moveS_at hl hS hT (i+1) hi1
   generalize moveS l (i+1)=R at hstep m1 r1
   obtain⟨⟨k2,n2,s2,o2,a2,u2⟩,p1',r⟩:=R
   simp only at r1 hstep
   subst r1
   simp only [encP]at m1
   have q3:=in_tk r2
   have q4:=row_skip r2
   rw[trows_len]at q3
   cases hr:decide (r=0)with
   |false=>
    right
    rw[hr]at hstep
    rcases hstep with⟨r',h1,h2,h3⟩|⟨e,p,h1,_⟩
    ·cases h1
     refine⟨encM l s.size (mRun l l.length [] 0),?_,rfl,by rw[h2];exact h3⟩
     rw[h2]
     simp only [go1,Nat.reduceAdd,Int.reduceEq,Int.reduceLT,Int.reduceLE,Int.reduceSub,Int.reduceAdd,oP,oT,oE,trows_len,q1,q2,tkrow,hk,p1,he,w1,m1,hr,q3,q4]
     simp only [encM,Int.toNat_natCast]
    ·cases h1
   |true=>
    left
    have hr':=of_decide_eq_true hr
    subst hr'
    rcases hstep with⟨r',h1,_⟩|⟨e,p2,h1,h2,h3,h4,h5⟩
    ·simp only [decide_true]at h1;cases h1
    ·cases h2
     refine⟨(n - 1,o++[⟨(tkA l i).s, .mk k2 n2 s2 o2 a2 u2⟩],p),?_,h4,h5⟩
     have e1:mrows o++[[.str (tkA l i).s, .int .i64 k2, .int .i64 n2, .str s2, .int .i64 o2, .sl 1 (srows a2), .sl 6 (Ex.rows u2)]]=mrows (o++[⟨(tkA l i).s, .mk k2 n2 s2 o2 a2 u2⟩]):=by rw[←mrows_snoc];rfl
     simp only [go1,Nat.reduceAdd,Int.reduceEq,Int.reduceLT,Int.reduceLE,Int.reduceSub,Int.reduceAdd,oP,oT,oE,trows_len,q1,q2,tkrow,hk,p1,he,w1,m1,List.length_cons,List.length_nil,Nat.zero_add,fit,e1]
end
end Go.Vm
end

section
set_option linter.all false
set_option maxRecDepth 100000
set_option maxHeartbeats 4000000
namespace Go.Vm
open Go.Proofs
def mlS (s:ByteArray):PRes:=match decide ((6000:Int) < ((tb s).length:Int)),(lexS s 0).2.2 with
 |true,_=> .val [.sl 7 [], .int .i64 6000, .int .i64 3]
 |false,false=> .val [.sl 7 [], .int .i64 ((lexS s 0).2.1:Int), .int .i64 2]
 |false,true=>encM (toksS s) s.size (mRun (toksS s) (toksS s).length [] 0)
theorem c_mRead (s:ByteArray)(hs:s.size≤100000):cF 7 [.d (.str s)]=some (mlS s):=by
 have hl:=LOK_toks s hs
 have hT:=TOK_of fun t ht=>(toks_mem hs ht).2
 have hS:=TS_of fun t ht=>(toks_mem hs ht).1
 have h1:=c_All s 6000 hs
 unfold mlS
 unfold allR at h1
 refine cOf (by kernel_rfl) rfl ?_
 rw[g7_eq]
 cases hd:decide ((6000:Int) < ((tb s).length:Int))with
 |true=>
  rw[hd]at h1
  simp only [g7,oP,go1,Nat.reduceAdd,Int.reduceEq,Int.reduceLT,Int.reduceLE,Int.reduceSub,Int.reduceAdd,h1]
  try rfl
 |false=>
  cases hx:(lexS s 0).2.2 with
  |false=>
   rw[hd,hx]at h1
   simp only [g7,oP,go1,Nat.reduceAdd,Int.reduceEq,Int.reduceLT,Int.reduceLE,Int.reduceSub,Int.reduceAdd,h1]
   try rfl
  |true=>
   rw[hd,hx,show(lexS s 0).1++[endT s]=toksS s from rfl]at h1
   obtain⟨p,h2,h3,_⟩:=mloop1 hl hS hT s
   subst h3
   unfold g7
   rw[eF_call,h1]
   exact h2
section
variable {l : List Tk} (hl : LOK l) (hS : TS l) (hT : TOK l)
include hl hS hT
end
end Go.Vm
end

section
set_option linter.all false
set_option maxRecDepth 100000
set_option maxHeartbeats 4000000
namespace Go.Vm
open Go.Proofs
theorem c_mSame (o:List Mv)(hf:mvFine o)(ho:o.length≤1000000):cF 9 [.d (.sl 7 (mrows o)), .d (.sl 7 (mrows o))]=some (.val [.bool true]):=by
 refine cOf (by kernel_rfl) rfl ?_
 rw[g9_eq]
 simp only [g9,go1,Nat.reduceAdd,Int.reduceEq,Int.reduceLT,Int.reduceLE,Int.reduceSub,Int.reduceAdd]
 refine loopF_at (fun i:Nat=>[.sl 7 (mrows o), .sl 7 (mrows o), .int .i64 (i:Int)]) (fun i=>i≤o.length) (fun i=>o.length - i) (fun i h1=> ?_) 0 (Nat.zero_le _)
 by_cases hlt:i < o.length
 ·left
  have hx:=List.getElem?_eq_getElem hlt
  have hm:=hf o[i] (List.getElem_mem hlt)
  generalize o[i]=m at hx hm
  obtain⟨mp,k2,n2,s2,o2,a2,u2⟩:=m
  have hr:sy.row (mrows o) (i:Int)= [.str mp, .int .i64 k2, .int .i64 n2, .str s2, .int .i64 o2, .sl 1 (srows a2), .sl 6 (Ex.rows u2)]:=mrow_at hx
  have hsm:=c_reSame 1000000 k2 n2 s2 o2 a2 u2 hm.2 (Nat.le_refl _) hm.1
  have w1:IntKind.i64.wrap ((i:Int)+1)=((i+1:Nat):Int):=by rw[wrap_id (by omega) (by omega)];omega
  have sk: ∀(x:D) (l:List D),sy.skip 1 (x::l)=l:=fun _ _=>rfl
  refine⟨i+1,?_,hlt,by omega⟩
  simp only [go1,Nat.reduceAdd,Int.reduceEq,Int.reduceLT,Int.reduceLE,Int.reduceSub,Int.reduceAdd,oE,mrows_len,ilt_at hlt,inr_at hlt,hr,sk,seq_tb,hsm,w1,Bool.not_true]
 ·right
  have:i=o.length:=by omega
  subst this
  simp only [go1,Nat.reduceAdd,Int.reduceEq,Int.reduceLT,Int.reduceLE,Int.reduceSub,Int.reduceAdd,mrows_len,ilt_self]
def ml0:List Tk:=[⟨4,bs [97,47,110],0,0⟩,⟨5,bs [58,61],0,6⟩,⟨4,bs [110],0,9⟩,⟨5,bs [43],0,13⟩,⟨3,bs [49],1,15⟩,⟨5,bs [59],0,16⟩,⟨6,bs [],0,17⟩]
def mx0:Ex:= .mk 6 0 (bs []) 3 [] [.mk 17 0 (bs [110]) 0 [] [], .mk 1 1 (bs []) 0 [] []]
theorem mlive1:cF 15 [.d (.str (bs [39,97,47,110,39,32,58,61,32,39,110,39,32,43,32,49,59])), .d (.int .i64 6000)]=some (.val [.sl 4 (trows ml0), .int .i64 17, .int .i64 0]):=callF_run 40 fun n=>by
 rw[Nat.add_comm]
 kernel_rfl
theorem mlive2:mRun ml0 ml0.length [] 0= .ok [⟨bs [97,47,110],mx0⟩]:=by kernel_rfl
theorem mlive3:cF 7 [.d (.str (bs [39,97,47,110,39,32,58,61,32,39,110,39,32,43,32,49,59]))]=some (.val [.sl 7 (mrows [⟨bs [97,47,110],mx0⟩]), .int .i64 17, .int .i64 0]):=by
 have hl:LOK ml0:=⟨by decide,rfl,by decide⟩
 have hS:TS ml0:=TS_of (by decide)
 have hT:TOK ml0:=TOK_of (by decide)
 obtain⟨p,h2,h3,_⟩:=mloop1 hl hS hT (bs [39,97,47,110,39,32,58,61,32,39,110,39,32,43,32,49,59])
 rw[mlive2]at h3
 subst h3
 refine cOf (by kernel_rfl) rfl ?_
 rw[g7_eq]
 unfold g7
 rw[eF_call,mlive1]
 exact h2
theorem c_mnum (x:Int):cF 10 [.d (.int .i64 x)]=some (.val [.int .i64 x]):=by
 refine cOf (by kernel_rfl) rfl ?_
 rw[g10_eq]
 simp only [g10,go1,Nat.reduceAdd,Int.reduceEq,Int.reduceLT,Int.reduceLE,Int.reduceSub,Int.reduceAdd]
theorem c_mlive:cF 6 []=some (.val [.bool true]):=by
 have h1:=mlive3
 have h2:=c_mnum 0
 have h3:sy.row (mrows [⟨bs [97,47,110],mx0⟩]) 0=(⟨bs [97,47,110],mx0⟩:Mv).row:=rfl
 have h4:(mrows [⟨bs [97,47,110],mx0⟩]).length=1:=rfl
 have h5:decide ((((mrows [⟨bs [97,47,110],mx0⟩]).length:Nat):Int)=1)=true:=rfl
 have h6:decide ((0:Int)≤0∧(0:Int) < (((mrows [⟨bs [97,47,110],mx0⟩]).length:Nat):Int))=true:=rfl
 have h7:decide ((0:Int) < (((mrows [⟨bs [97,47,110],mx0⟩]).length:Nat):Int))=true:=rfl
 refine cOf (by kernel_rfl) rfl ?_
 rw[g6_eq]
 simp only [g6,go1,Nat.reduceAdd,Int.reduceEq,Int.reduceLT,Int.reduceLE,Int.reduceSub,Int.reduceAdd,h7,h1,h2,h3,h5,h6,Mv.row,seq_tb,decide_true]
end Go.Vm
end

section
set_option linter.all false
set_option maxRecDepth 100000
set_option maxHeartbeats 4000000
namespace Go.Vm
open Go.Proofs
def fm:Pc→List T
 | []=>[]
 |none::r=>fm r
 |some t::r=>t::fm r
theorem fm_app: ∀x y:Pc,fm (x++y)=fm x++fm y
 | [],y=>rfl
 |none::x,y=>fm_app x y
 |some t::x,y=>by rw[List.cons_append,fm,fm,fm_app x y];rfl
theorem fm_eq: ∀x:Pc,x.filterMap id=fm x
 | []=>rfl
 |none::x=>by simp [fm,fm_eq x]
 |some t::x=>by simp [fm,fm_eq x]
theorem fm_none (r:Pc):fm (none::r)=fm r:=rfl
theorem fm_some (t:T)(r:Pc):fm (some t::r)=t::fm r:=rfl
theorem fm_nil:fm []= []:=rfl
def Az (l:List Tk):Nat→List T→Prop
 |_,[]=>True
 |i,t::ts=>tkT (tkA l i)=t∧Az l (i+1) ts
theorem at_app {l:List Tk}: ∀ {a b:List T} {i:Nat},Az l i (a++b)↔Az l i a∧Az l (i+a.length) b
 | [],b,i=>by simp [Az]
 |t::a,b,i=>by
  simp only [List.cons_append,Az,at_app (a:=a),List.length_cons,and_assoc]
  rw[show i+1+a.length=i+(a.length+1) by omega]
theorem at_cons {l:List Tk}{t:T}{b:List T}{i:Nat}:Az l i (t::b)↔tkT (tkA l i)=t∧Az l (i+1) b:=Iff.rfl
def isTT (t:T)(w:List Nat):Bool:=decide (t.b=w)&&(decide (t.k=1) || decide (t.k=5))
theorem isT_T (l:List Tk)(i:Nat)(w:ByteArray):isT l i w=isTT (tkT (tkA l i)) (tb w):=rfl
def opQ (t:T):Nat→Nat→Option Nat
 |_,0=>none
 |a,n+1=>match isTT t (tb (signB a))with
  |true=>some a
  |false=>opQ t (a+1) n
theorem opSg_T (l:List Tk)(i:Nat): ∀n a,opSg l i a n=opQ (tkT (tkA l i)) a n
 |0,_=>rfl
 |n+1,a=>by
  rw[opSg,opQ,isT_T,opSg_T l i n]
  cases isTT (tkT (tkA l i)) (tb (signB a))<;>rfl
def nT (t:T)(w:List Nat):Bool:= !isTT t w
def nO (t:T)(a n:Nat):Bool:=(opQ t a n).isNone
def f1 (t:T):Bool:=nT t [40]&&nT t kEvery
def f2 (t:T):Bool:=f1 t&&(nT t [91]&&nT t kWhen)
def f4 (t:T):Bool:=f2 t&&nO t 5 3
def f5 (t:T):Bool:=f4 t&&nO t 3 2
def f6 (t:T):Bool:=f5 t&&nO t 11 6
def f7 (t:T):Bool:=f6 t&&nO t 8 1
def f8 (t:T):Bool:=f7 t&&nO t 9 2
def f9 (t:T):Bool:=f8 t&&nT t kFby
def f10 (t:T):Bool:=f9 t&&nT t [45,62]
def foB:Nt→T→Bool
 | .atom,t=>f1 t
 | .post,t| .un,t=>f2 t
 | .prod,t=>f4 t
 | .sum,t=>f5 t
 | .cmp,t=>f6 t
 | .and,t=>f7 t
 | .or,t=>f8 t
 | .fby,t=>f9 t
 | .arrow,t=>f10 t
def staB (t:T):Bool:=nT t [45]&&(nT t kNot&&(nT t kPre&&nT t [41]))
section
variable (l : List Tk)
def Ev (nt:Nt)(i:Nat)(e:Ex)(j N:Nat):Prop:= ∀m,N≤m→prs l m nt i= .ok e j
end
section
variable {l : List Tk} {i j k N M : Nat} {e x y : Ex}
theorem Ev.mono {nt:Nt}(h:Ev l nt i e j N)(hN:N≤M):Ev l nt i e j M:=fun m hm=>h m (by omega)
theorem nT_isT {w:ByteArray}(h:nT (tkT (tkA l i)) (tb w)=true):isT l i w=false:=by
 rw[isT_T];unfold nT at h;simpa using h
theorem nO_op {a n:Nat}(h:nO (tkT (tkA l i)) a n=true):opSg l i a n=none:=by
 rw[opSg_T];unfold nO at h;simpa using h
theorem up_un (h:Ev l .post i e j N)(hs:staB (tkT (tkA l i))=true):Ev l .un i e j (N+1):=fun m hm=>by
 obtain⟨m,rfl⟩: ∃r,m=r+1:=⟨m - 1,by omega⟩
 unfold staB at hs
 simp only [Bool.and_eq_true]at hs
 show unS l (prs l m) i=_
 unfold unS
 rw[nT_isT (w:=bs [45]) hs.1,nT_isT (w:=bs [110,111,116]) hs.2.1,nT_isT (w:=bs [112,114,101]) hs.2.2.1]
 exact h m (by omega)
theorem left_up {side nt:Nt}{a n:Nat}(hn: ∀m,ntS l m (prs l m) nt i=leftS l m (prs l m) side a n i)(h:Ev l side i e j N)(h1:1≤N)(ho:nO (tkT (tkA l j)) a n=true):Ev l nt i e j (N+1):=fun m hm=>by
 obtain⟨m,rfl⟩: ∃r,m=r+1:=⟨m - 1,by omega⟩
 show ntS l m (prs l m) nt i=_
 rw[hn,leftS,h m (by omega),Rs.bind_ok]
 obtain⟨r,rfl⟩: ∃r,m=r+1:=⟨m - 1,by omega⟩
 rw[iterS,leftT,nO_op ho]
theorem left_bin {side nt:Nt}{a n o:Nat}(hn: ∀m,ntS l m (prs l m) nt i=leftS l m (prs l m) side a n i)(h:Ev l side i x j N)(h1:2≤N)(ho:opSg l j a n=some o)(h2:Ev l side (j+1) y k N)(hk:nO (tkT (tkA l k)) a n=true):Ev l nt i (binE o x y) k (N+1):=fun m hm=>by
 obtain⟨m,rfl⟩: ∃r,m=r+1:=⟨m - 1,by omega⟩
 show ntS l m (prs l m) nt i=_
 rw[hn,leftS,h m (by omega),Rs.bind_ok]
 have h2:=h2 m (by omega)
 have hk:=nO_op hk
 generalize prs l m=p at h2
 obtain⟨r,rfl⟩: ∃r,m=r+2:=⟨m - 2,by omega⟩
 rw[iterS,leftT,ho]
 simp only [h2]
 rw[iterS,leftT,hk]
theorem up_cmp (h:Ev l .sum i e j N)(ho:nO (tkT (tkA l j)) 11 6=true):Ev l .cmp i e j (N+1):=fun m hm=>by
 obtain⟨m,rfl⟩: ∃r,m=r+1:=⟨m - 1,by omega⟩
 show cmpS l (prs l m) i=_
 rw[cmpS,h m (by omega),Rs.bind_ok,nO_op ho]
theorem bin_cmp {o:Nat}(h:Ev l .sum i x j N)(ho:opSg l j 11 6=some o)(h2:Ev l .sum (j+1) y k N):Ev l .cmp i (binE o x y) k (N+1):=fun m hm=>by
 obtain⟨m,rfl⟩: ∃r,m=r+1:=⟨m - 1,by omega⟩
 show cmpS l (prs l m) i=_
 rw[cmpS,h m (by omega),Rs.bind_ok,ho]
 simp only
 rw[h2 m (by omega),Rs.bind_ok]
theorem up_fby (h:Ev l .or i e j N)(ho:nT (tkT (tkA l j)) kFby=true):Ev l .fby i e j (N+1):=fun m hm=>by
 obtain⟨m,rfl⟩: ∃r,m=r+1:=⟨m - 1,by omega⟩
 show fbyS l (prs l m) i=_
 rw[fbyS,h m (by omega),Rs.bind_ok,nT_isT (w:=bs [102,98,121]) ho]
theorem bin_fby (h:Ev l .or i x j N)(ho:tkT (tkA l j)=⟨1,kFby,0⟩)(h2:Ev l .fby (j+1) y k N):Ev l .fby i (ex 8 [x,y]) k (N+1):=fun m hm=>by
 obtain⟨m,rfl⟩: ∃r,m=r+1:=⟨m - 1,by omega⟩
 show fbyS l (prs l m) i=_
 rw[fbyS,h m (by omega),Rs.bind_ok,isT_T,ho,show isTT ⟨1,kFby,0⟩ (tb (bs [102,98,121]))=true from rfl]
 simp only
 rw[h2 m (by omega),Rs.bind_ok]
theorem up_arrow (h:Ev l .fby i e j N)(ho:nT (tkT (tkA l j)) [45,62]=true):Ev l .arrow i e j (N+1):=fun m hm=>by
 obtain⟨m,rfl⟩: ∃r,m=r+1:=⟨m - 1,by omega⟩
 show arrowS l (prs l m) i=_
 rw[arrowS,h m (by omega),Rs.bind_ok,nT_isT (w:=bs [45,62]) ho]
theorem bin_arrow (h:Ev l .fby i x j N)(ho:tkT (tkA l j)=⟨5,[45,62],0⟩)(h2:Ev l .arrow (j+1) y k N):Ev l .arrow i (ex 9 [x,y]) k (N+1):=fun m hm=>by
 obtain⟨m,rfl⟩: ∃r,m=r+1:=⟨m - 1,by omega⟩
 show arrowS l (prs l m) i=_
 rw[arrowS,h m (by omega),Rs.bind_ok,isT_T,ho,show isTT ⟨5,[45,62],0⟩ (tb (bs [45,62]))=true from rfl]
 simp only
 rw[h2 m (by omega),Rs.bind_ok]
theorem and1 {a b:Bool}(h:(a&&b)=true):a=true:=(Bool.and_eq_true _ _▸h).1
theorem and2 {a b:Bool}(h:(a&&b)=true):b=true:=(Bool.and_eq_true _ _▸h).2
theorem u_prod (h:Ev l .un i e j N)(h1:1≤N)(hf:f4 (tkT (tkA l j))=true):Ev l .prod i e j (N+1):=left_up (fun _=>rfl) h h1 (and2 hf)
theorem u_sum (h:Ev l .prod i e j N)(h1:1≤N)(hf:f5 (tkT (tkA l j))=true):Ev l .sum i e j (N+1):=left_up (fun _=>rfl) h h1 (and2 hf)
theorem u_and (h:Ev l .cmp i e j N)(h1:1≤N)(hf:f7 (tkT (tkA l j))=true):Ev l .and i e j (N+1):=left_up (fun _=>rfl) h h1 (and2 hf)
theorem u_or (h:Ev l .and i e j N)(h1:1≤N)(hf:f8 (tkT (tkA l j))=true):Ev l .or i e j (N+1):=left_up (fun _=>rfl) h h1 (and2 hf)
theorem fr_un (h:Ev l .un i e j N)(h1:1≤N): ∀nt,foB nt (tkT (tkA l j))=true→nt≠ .atom→nt≠ .post→Ev l nt i e j (N+9)
 | .un,_,_,_=>h.mono (by omega)
 | .prod,hf,_,_=>(u_prod h h1 hf).mono (by omega)
 | .sum,hf,_,_=>(u_sum (u_prod h h1 (and1 hf)) (by omega) hf).mono (by omega)
 | .cmp,hf,_,_=>(up_cmp (u_sum (u_prod h h1 (and1 (and1 hf))) (by omega) (and1 hf)) (and2 hf)).mono (by omega)
 | .and,hf,_,_=>(u_and (up_cmp (u_sum (u_prod h h1 (and1 (and1 (and1 hf)))) (by omega) (and1 (and1 hf))) (and2 (and1 hf))) (by omega) hf).mono (by omega)
 | .or,hf,_,_=>(u_or (u_and (up_cmp (u_sum (u_prod h h1 (and1 (and1 (and1 (and1 hf))))) (by omega) (and1 (and1 (and1 hf)))) (and2 (and1 (and1 hf)))) (by omega) (and1 hf)) (by omega) hf).mono (by omega)
 | .fby,hf,_,_=>(up_fby (u_or (u_and (up_cmp (u_sum (u_prod h h1 (and1 (and1 (and1 (and1 (and1 hf)))))) (by omega) (and1 (and1 (and1 (and1 hf))))) (and2 (and1 (and1 (and1 hf))))) (by omega) (and1 (and1 hf))) (by omega) (and1 hf)) (and2 hf)).mono (by omega)
 | .arrow,hf,_,_=>(up_arrow (up_fby (u_or (u_and (up_cmp (u_sum (u_prod h h1 (and1 (and1 (and1 (and1 (and1 (and1 hf))))))) (by omega) (and1 (and1 (and1 (and1 (and1 hf)))))) (and2 (and1 (and1 (and1 (and1 hf)))))) (by omega) (and1 (and1 (and1 hf)))) (by omega) (and1 (and1 hf))) (and2 (and1 hf))) (and2 hf)).mono (by omega)
 | .atom,_,h,_=>(h rfl).elim
 | .post,_,_,h=>(h rfl).elim
theorem fr_arrow: ∀nt,Ev l nt i e j N→1≤N→f10 (tkT (tkA l j))=true→nt≠ .atom→nt≠ .post→Ev l .arrow i e j (N+9)
 | .un,h,h1,hf,_,_=>fr_un h h1 .arrow hf (by simp) (by simp)
 | .prod,h,h1,hf,_,_=>(up_arrow (up_fby (u_or (u_and (up_cmp (u_sum h h1 (and1 (and1 (and1 (and1 (and1 hf)))))) (and2 (and1 (and1 (and1 (and1 hf)))))) (by omega) (and1 (and1 (and1 hf)))) (by omega) (and1 (and1 hf))) (and2 (and1 hf))) (and2 hf)).mono (by omega)
 | .sum,h,h1,hf,_,_=>(up_arrow (up_fby (u_or (u_and (up_cmp h (and2 (and1 (and1 (and1 (and1 hf)))))) (by omega) (and1 (and1 (and1 hf)))) (by omega) (and1 (and1 hf))) (and2 (and1 hf))) (and2 hf)).mono (by omega)
 | .cmp,h,h1,hf,_,_=>(up_arrow (up_fby (u_or (u_and h (by omega) (and1 (and1 (and1 hf)))) (by omega) (and1 (and1 hf))) (and2 (and1 hf))) (and2 hf)).mono (by omega)
 | .and,h,h1,hf,_,_=>(up_arrow (up_fby (u_or h (by omega) (and1 (and1 hf))) (and2 (and1 hf))) (and2 hf)).mono (by omega)
 | .or,h,h1,hf,_,_=>(up_arrow (up_fby h (and2 (and1 hf))) (and2 hf)).mono (by omega)
 | .fby,h,h1,hf,_,_=>(up_arrow h (and2 hf)).mono (by omega)
 | .arrow,h,_,_,_,_=>h.mono (by omega)
 | .atom,_,_,_,h,_=>(h rfl).elim
 | .post,_,_,_,_,h=>(h rfl).elim
def AI (l:List Tk)(e:Ex)(i j L:Nat):Prop:= ∃base j0 k,k≤L∧(∀m,20*L≤m→prs l m .atom i= .ok base j0)∧ ∀m,20*L≤m→ ∀r,iterS (postT l (prs l m)) (r+k) (base,j0)=iterS (postT l (prs l m)) r (e,j)
theorem AI_atom {L:Nat}(h:Ev l .atom i e j (20*L)):AI l e i j L:=⟨e,j,0,Nat.zero_le _,h,fun _ _ _=>rfl⟩
theorem AI_post {L:Nat}(hL:1≤L)(h:AI l e i j L)(hf:f2 (tkT (tkA l j))=true):Ev l .post i e j (20*L+1):=fun m hm=>by
 obtain⟨base,j0,k,h1,h2,h3⟩:=h
 obtain⟨m,rfl⟩: ∃r,m=r+1:=⟨m - 1,by omega⟩
 show postS l m (prs l m) i=_
 rw[postS,h2 m (by omega),Rs.bind_ok]
 have h3:=h3 m (by omega) (m - k)
 rw[show m - k+k=m by omega]at h3
 rw[h3]
 obtain⟨r,hr⟩: ∃r,m - k=r+1:=⟨m - k - 1,by omega⟩
 have hf:=and2 hf
 rw[hr,iterS,postT,nT_isT (w:=bs [91]) (and1 hf),nT_isT (w:=bs [119,104,101,110]) (and2 hf)]
theorem AI_ev {L:Nat}(hL:1≤L)(h:AI l e i j L)(hs:staB (tkT (tkA l i))=true)(nt:Nt)(hf:foB nt (tkT (tkA l j))=true)(hn:nt≠ .atom)(h2:f2 (tkT (tkA l j))=true):Ev l nt i e j (20*L+11):=by
 have hp:=AI_post hL h h2
 by_cases he:nt= .post
 ·subst he;exact hp.mono (by omega)
 ·exact(fr_un (up_un hp hs) (by omega) nt hf hn he).mono (by omega)
end
end Go.Vm
end

section
set_option linter.all false
set_option maxRecDepth 100000
set_option maxHeartbeats 4000000
namespace Go.Vm
open Go.Proofs
theorem foB_f2 {t:T}: ∀ {nt:Nt},foB nt t=true→nt≠ .atom→f2 t=true
 | .atom,_,h=>(h rfl).elim
 | .post,h,_| .un,h,_=>h
 | .prod,h,_=>and1 h
 | .sum,h,_=>and1 (and1 h)
 | .cmp,h,_=>and1 (and1 (and1 h))
 | .and,h,_=>and1 (and1 (and1 (and1 h)))
 | .or,h,_=>and1 (and1 (and1 (and1 (and1 h))))
 | .fby,h,_=>and1 (and1 (and1 (and1 (and1 (and1 h)))))
 | .arrow,h,_=>and1 (and1 (and1 (and1 (and1 (and1 (and1 h))))))
def tL (x:Ex):Nat:=(fm (pcs x)).length
def Good (l:List Tk)(x:Ex):Prop:= ∀i,Az l i (fm (pcs x))→f1 (tkT (tkA l (i+tL x)))=true→AI l x i (i+tL x) (tL x)
def St (x:Ex):Prop:= ∃t r,fm (pcs x)=t::r∧staB t=true
section
variable {l : List Tk} {i j k N M n : Nat} {e x y z : Ex} {p : PR}
theorem St.pos (h:St x):1≤tL x:=by
 obtain⟨t,r,h,_⟩:=h
 unfold tL;rw[h];simp
theorem St.at (h:St x)(ha:Az l i (fm (pcs x))):staB (tkT (tkA l i))=true:=by
 obtain⟨t,r,h,hs⟩:=h
 rw[h]at ha
 rw[ha.1];exact hs
theorem ev_of (hg:Good l x)(hs:St x)(nt:Nt)(hn:nt≠ .atom)(ha:Az l i (fm (pcs x)))(hf:foB nt (tkT (tkA l (i+tL x)))=true):Ev l nt i x (i+tL x) (20*tL x+11):=by
 have h2:=foB_f2 hf hn
 exact AI_ev hs.pos (hg i ha (and1 h2)) (hs.at ha) nt hf hn h2
theorem tok_isT {t:T}(h:tkT (tkA l i)=t)(w:ByteArray){b:Bool}(hb:isTT t (tb w)=b):isT l i w=b:=by rw[isT_T,h,hb]
theorem atom_k {t:T}(h:tkT (tkA l i)=t)(h3:decide (t.k=3)=false)(h2:decide (t.k=2)=false)(h4:decide (t.k=4)=false):atomS l n p i=wordS l n p i:=by
 subst h
 unfold atomS
 rw[show decide ((tkA l i).k=3)=false from h3,show decide ((tkA l i).k=2)=false from h2,show decide ((tkA l i).k=4)=false from h4]
theorem word_lp (h:tkT (tkA l i)=⟨5,[40],0⟩):atomS l n p i=roundS l p (i+1):=by
 rw[atom_k h rfl rfl rfl]
 unfold wordS
 rw[tok_isT h bTrue (b:=false) rfl,tok_isT h bFalse (b:=false) rfl,tok_isT h (bs [91]) (b:=false) rfl,tok_isT h (bs [40]) (b:=true) rfl]
theorem word_lb (h:tkT (tkA l i)=⟨5,[91],0⟩):atomS l n p i=(listS l n p (bs [93]) (i+1)).bind fun es j=> .ok (ex 14 es) j:=by
 rw[atom_k h rfl rfl rfl]
 unfold wordS
 rw[tok_isT h bTrue (b:=false) rfl,tok_isT h bFalse (b:=false) rfl,tok_isT h (bs [91]) (b:=true) rfl]
theorem word_merge (h:tkT (tkA l i)=⟨1,kMerge,0⟩):atomS l n p i=mergeS l n p (i+1):=by
 rw[atom_k h rfl rfl rfl]
 unfold wordS
 rw[tok_isT h bTrue (b:=false) rfl,tok_isT h bFalse (b:=false) rfl,tok_isT h (bs [91]) (b:=false) rfl,tok_isT h (bs [40]) (b:=false) rfl,tok_isT h (bs [109,101,114,103,101]) (b:=true) rfl]
theorem word_if (h:tkT (tkA l i)=⟨1,kIf,0⟩):atomS l n p i=choiceS l p (i+1):=by
 rw[atom_k h rfl rfl rfl]
 unfold wordS
 rw[tok_isT h bTrue (b:=false) rfl,tok_isT h bFalse (b:=false) rfl,tok_isT h (bs [91]) (b:=false) rfl,tok_isT h (bs [40]) (b:=false) rfl,tok_isT h (bs [109,101,114,103,101]) (b:=false) rfl,tok_isT h (bs [105,102]) (b:=true) rfl]
theorem low_key {b w:List Nat}(hb:lowN b=true)(hw:wordN w=true):isTT ⟨1,b,0⟩ w=false:=by
 unfold isTT
 have:b≠w:=fun h=>by
  have:=(low_name hb).2
  rw[h,hw]at this
  cases this
 simp only [decide_eq_false this,Bool.false_and]
theorem low_mark {b:List Nat}{c:Nat}(hb:lowN b=true)(hc:smallN c=false):isTT ⟨1,b,0⟩ [c]=false:=by
 unfold isTT
 have:b≠[c]:=fun h=>by
  have:=(name_parts (low_name hb).1).2.1
  rw[h]at this
  simp only [List.getD_cons_zero]at this
  rw[hc]at this
  cases this
 simp only [decide_eq_false this,Bool.false_and]
theorem word_name {b:List Nat}(h:tkT (tkA l i)=⟨1,b,0⟩)(hb:lowN b=true):atomS l n p i=(match isT l (i+1) (bs [40])with
  |true=>callS l n p (tkA l i).s (i+2)
  |false=> .ok (.mk 3 0 (tkA l i).s 0 [] []) (i+1)):=by
 rw[atom_k h rfl rfl rfl]
 unfold wordS
 have hn:nameS l i= .ok (tkA l i).s (i+1):=by
  unfold nameS
  have h1:(tkA l i).k=1:=congrArg T.k h
  have h2:tb (tkA l i).s=b:=congrArg T.b h
  rw[h1,h2,(low_name hb).2]
  rfl
 rw[tok_isT h bTrue (low_key hb rfl),tok_isT h bFalse (low_key hb rfl),tok_isT h (bs [91]) (low_mark hb rfl),tok_isT h (bs [40]) (low_mark hb rfl),tok_isT h (bs [109,101,114,103,101]) (low_key hb rfl),tok_isT h (bs [105,102]) (low_key hb rfl),hn]
 rfl
theorem need1 {w:ByteArray}{t:T}(h:tkT (tkA l i)=t)(hw:isTT t (tb w)=true)(ws:List ByteArray):needS l (w::ws) i=needS l ws (i+1):=by
 rw[needS,tok_isT h w hw]
theorem need0:needS l [] i= .ok () i:=rfl
theorem Ev_atom (h: ∀m,N≤m→atomS l m (prs l m) i= .ok e j):Ev l .atom i e j (N+1):=fun m hm=>by
 obtain⟨m,rfl⟩: ∃r,m=r+1:=⟨m - 1,by omega⟩
 exact h m (by omega)
theorem rnd (h0:tkT (tkA l i)=⟨5,[40],0⟩)(h:Ev l .arrow (i+1) e j N)(h1:tkT (tkA l j)=⟨5,[41],0⟩):Ev l .atom i e (j+1) (N+1):=Ev_atom fun m hm=>by
 rw[word_lp h0,roundS,h m hm,Rs.bind_ok,tok_isT h1 (bs [119,105,116,104]) (b:=false) rfl]
 simp only
 rw[need1 h1 rfl,need0,Rs.bind_ok]
theorem atom_post (h:Ev l .atom i e j N)(h1:1≤N)(hf:f2 (tkT (tkA l j))=true):Ev l .post i e j (N+1):=fun m hm=>by
 obtain⟨m,rfl⟩: ∃r,m=r+1:=⟨m - 1,by omega⟩
 show postS l m (prs l m) i=_
 rw[postS,h m (by omega),Rs.bind_ok]
 obtain⟨r,rfl⟩: ∃r,m=r+1:=⟨m - 1,by omega⟩
 have hf:=and2 hf
 rw[iterS,postT,nT_isT (w:=bs [91]) (and1 hf),nT_isT (w:=bs [119,104,101,110]) (and2 hf)]
theorem post_arrow (h:Ev l .post i e j N)(hs:staB (tkT (tkA l i))=true)(hf:f10 (tkT (tkA l j))=true):Ev l .arrow i e j (N+10):=fr_un (up_un h hs) (by omega) .arrow hf (by simp) (by simp)
theorem un_neg (h0:tkT (tkA l i)=⟨5,[45],0⟩)(h:Ev l .un (i+1) x j N):Ev l .un i (.mk 5 0 (bs []) 1 [] [x]) j (N+1):=fun m hm=>by
 obtain⟨m,rfl⟩: ∃r,m=r+1:=⟨m - 1,by omega⟩
 show unS l (prs l m) i=_
 rw[unS,tok_isT h0 (bs [45]) (b:=true) rfl]
 simp only
 rw[h m (by omega),Rs.bind_ok]
theorem un_not (h0:tkT (tkA l i)=⟨1,kNot,0⟩)(h:Ev l .un (i+1) x j N):Ev l .un i (.mk 5 0 (bs []) 2 [] [x]) j (N+1):=fun m hm=>by
 obtain⟨m,rfl⟩: ∃r,m=r+1:=⟨m - 1,by omega⟩
 show unS l (prs l m) i=_
 rw[unS,tok_isT h0 (bs [45]) (b:=false) rfl,tok_isT h0 (bs [110,111,116]) (b:=true) rfl]
 simp only
 rw[h m (by omega),Rs.bind_ok]
theorem un_pre (h0:tkT (tkA l i)=⟨1,kPre,0⟩)(h:Ev l .un (i+1) x j N):Ev l .un i (ex 10 [x]) j (N+1):=fun m hm=>by
 obtain⟨m,rfl⟩: ∃r,m=r+1:=⟨m - 1,by omega⟩
 show unS l (prs l m) i=_
 rw[unS,tok_isT h0 (bs [45]) (b:=false) rfl,tok_isT h0 (bs [110,111,116]) (b:=false) rfl,tok_isT h0 (bs [112,114,101]) (b:=true) rfl]
 simp only
 rw[h m (by omega),Rs.bind_ok]
theorem at_if (h0:tkT (tkA l i)=⟨1,kIf,0⟩)(hx:Ev l .arrow (i+1) x j N)(h1:tkT (tkA l j)=⟨1,kThen,0⟩)(hy:Ev l .arrow (j+1) y k N)(h2:tkT (tkA l k)=⟨1,kElse,0⟩)(hz:Ev l .arrow (k+1) z M N):Ev l .atom i (ex 7 [x,y,z]) M (N+1):=Ev_atom fun m hm=>by
 rw[word_if h0,choiceS,hx m hm,Rs.bind_ok,need1 h1 rfl,need0,Rs.bind_ok,hy m hm,Rs.bind_ok,need1 h2 rfl,need0,Rs.bind_ok,hz m hm,Rs.bind_ok]
theorem rnd_with {q:Nat}(h0:tkT (tkA l i)=⟨5,[40],0⟩)(hx:Ev l .arrow (i+1) x j N)(h1:tkT (tkA l j)=⟨1,kWith,0⟩)(h2:tkT (tkA l (j+1))=⟨5,[91],0⟩)(hy:Ev l .arrow (j+2) y k N)(h3:tkT (tkA l k)=⟨5,[93],0⟩)(h4:tkT (tkA l (k+1))=⟨5,[61],0⟩)(hz:Ev l .arrow (k+2) z M N)(h5:tkT (tkA l M)=⟨5,[41],0⟩):Ev l .atom i (ex 16 [x,y,z]) (M+1) (N+1):=Ev_atom fun m hm=>by
 rw[word_lp h0,roundS,hx m hm,Rs.bind_ok,tok_isT h1 (bs [119,105,116,104]) (b:=true) rfl]
 simp only
 rw[need1 h2 rfl,need0,Rs.bind_ok,hy m hm,Rs.bind_ok,need1 h3 rfl,need1 h4 rfl,need0,Rs.bind_ok,hz m hm,Rs.bind_ok,need1 h5 rfl,need0,Rs.bind_ok]
theorem listT_ok (c:UInt8)(hc:c=41∨c=93)(m:Nat): ∀(u:List Ex) (es:List Ex) (i r:Nat),(∀x∈u,Good l x∧St x∧20*tL x+11≤m)→Az l i (fm (sepP (pcsL u))++[⟨5,[c.toNat],0⟩])→u.length+1≤r→
  iterS (listT l (prs l m) (bs [c])) r (es,i)= .ok (es++u) (i+(fm (sepP (pcsL u))).length+1)
 | [],es,i,r,_,ha,hr=>by
   obtain⟨r,rfl⟩: ∃q,r=q+1:=⟨r - 1,by omega⟩
   have ha:=ha.1
   have h44:isTT ⟨5,[c.toNat],0⟩ (tb (bs [44]))=false:=by rcases hc with rfl|rfl<;>rfl
   have hcc:isTT ⟨5,[c.toNat],0⟩ (tb (bs [c]))=true:=by rcases hc with rfl|rfl<;>rfl
   rw[iterS,listT,tok_isT ha (bs [44]) h44]
   simp only
   rw[need1 ha hcc,need0,Rs.bind_ok,List.append_nil]
   rfl
 |x::u,es,i,r,h,ha,hr=>by
  obtain⟨r,rfl⟩: ∃q,r=q+1:=⟨r - 1,by omega⟩
  obtain⟨g1,g2,g3⟩:=h x List.mem_cons_self
  have e:fm (sepP (pcsL (x::u)))=⟨5,[44],0⟩::(fm (pcs x)++fm (sepP (pcsL u))):=by
   simp only [pcsL,sepP,List.cons_append,List.nil_append,mk,fm_some,fm_none,fm_app]
  rw[e,List.cons_append,at_cons,List.append_assoc,at_app]at ha
  obtain⟨a1,a2,a3⟩:=ha
  have hf:f10 (tkT (tkA l (i+1+tL x)))=true:=by
   match u,a3 with
   | [],a3=>
     have:=a3.1
     show f10 (tkT (tkA l (i+1+(fm (pcs x)).length)))=true
     rw[this]
     rcases hc with rfl|rfl<;>rfl
   |y::u,a3=>
    have:=a3.1
    show f10 (tkT (tkA l (i+1+(fm (pcs x)).length)))=true
    rw[this];rfl
  have hx:=ev_of g1 g2 .arrow (by simp) a2 hf m g3
  have ih:=listT_ok c hc m u (es++[x]) (i+1+tL x) r (fun y hy=>h y (List.mem_cons_of_mem _ hy)) a3 (by simp only [List.length_cons]at hr;omega)
  rw[iterS,listT,tok_isT a1 (bs [44]) (b:=true) rfl]
  simp only
  rw[hx]
  simp only
  rw[ih,e]
  simp only [List.append_assoc,List.singleton_append,List.length_cons,List.length_append,tL]
  congr 1
  omega
theorem list_ok (c:UInt8)(hc:c=41∨c=93)(m:Nat)(x:Ex)(u:List Ex)(i:Nat)(h: ∀y∈x::u,Good l y∧St y∧20*tL y+11≤m)(ha:Az l i (fm (listP (pcsL (x::u)))++[⟨5,[c.toNat],0⟩]))(hr:u.length+1≤n):
  listS l n (prs l m) (bs [c]) i= .ok (x::u) (i+(fm (listP (pcsL (x::u)))).length+1):=by
 obtain⟨g1,g2,g3⟩:=h x List.mem_cons_self
 have e:fm (listP (pcsL (x::u)))=fm (pcs x)++fm (sepP (pcsL u)):=by simp only [pcsL,listP,fm_app]
 rw[e,List.append_assoc,at_app]at ha
 obtain⟨a2,a3⟩:=ha
 have hf:f10 (tkT (tkA l (i+tL x)))=true:=by
  match u,a3 with
  | [],a3=>
    have:=a3.1
    show f10 (tkT (tkA l (i+(fm (pcs x)).length)))=true
    rw[this]
    rcases hc with rfl|rfl<;>rfl
  |y::u,a3=>
   have:=a3.1
   show f10 (tkT (tkA l (i+(fm (pcs x)).length)))=true
   rw[this];rfl
 have hx:=ev_of g1 g2 .arrow (by simp) a2 hf m g3
 have ih:=listT_ok c hc m u [x] (i+tL x) n (fun y hy=>h y (List.mem_cons_of_mem _ hy)) a3 hr
 rw[listS,hx,Rs.bind_ok,ih,e]
 simp only [List.singleton_append,List.length_append,tL]
 congr 1
 omega
theorem seps_len: ∀u:List Ex,(∀x∈u,St x)→u.length≤(fm (sepP (pcsL u))).length∧ ∀x∈u,tL x+1≤(fm (sepP (pcsL u))).length
 | [],_=>⟨Nat.le_refl _,by simp⟩
 |x::u,h=>by
  obtain⟨h1,h2⟩:=seps_len u fun y hy=>h y (List.mem_cons_of_mem _ hy)
  have e:fm (sepP (pcsL (x::u)))=⟨5,[44],0⟩::(fm (pcs x)++fm (sepP (pcsL u))):=by
   simp only [pcsL,sepP,List.cons_append,List.nil_append,mk,fm_some,fm_none,fm_app]
  rw[e]
  simp only [List.length_cons,List.length_append]
  refine⟨by omega,fun y hy=> ?_⟩
  rcases List.mem_cons.1 hy with rfl|hy
  ·unfold tL;omega
  ·have:=h2 y hy;omega
theorem list_len (x:Ex)(u:List Ex)(h: ∀y∈x::u,St y):u.length+1≤(fm (listP (pcsL (x::u)))).length∧ ∀y∈x::u,tL y≤(fm (listP (pcsL (x::u)))).length:=by
 obtain⟨h1,h2⟩:=seps_len u fun y hy=>h y (List.mem_cons_of_mem _ hy)
 have hx:=(h x List.mem_cons_self).pos
 have e:fm (listP (pcsL (x::u)))=fm (pcs x)++fm (sepP (pcsL u)):=by simp only [pcsL,listP,fm_app]
 rw[e]
 simp only [List.length_append]
 unfold tL at hx
 refine⟨by omega,fun y hy=> ?_⟩
 rcases List.mem_cons.1 hy with rfl|hy
 ·unfold tL;omega
 ·have:=h2 y hy;omega
theorem name_of {b:List Nat}(h:tkT (tkA l i)=⟨1,b,0⟩)(hb:lowN b=true):nameS l i= .ok (tkA l i).s (i+1):=by
 unfold nameS
 have h1:(tkA l i).k=1:=congrArg T.k h
 have h2:tb (tkA l i).s=b:=congrArg T.b h
 rw[h1,h2,(low_name hb).2]
 rfl
theorem arm_tok {a:ByteArray}(ha:armN a=true)(h:tkT (tkA l i)=⟨if highN (tb a)then 2 else 1,tb a,0⟩):armedB l i=true∧(tkA l i).s=a∧isT l i (bs [110,111,116])=false:=by
 have hs:(tkA l i).s=a:=tb_inj (congrArg T.b h)
 have hk:(tkA l i).k=if highN (tb a)then 2 else 1:=congrArg T.k h
 unfold armN at ha
 refine⟨?_,hs,?_⟩
 ·unfold armedB
  cases hh:highN (tb a)with
  |true=>
   rw[hh,if_pos rfl]at hk
   rw[hk];rfl
  |false=>
   rw[hh,Bool.false_or]at ha
   rw[hh,if_neg (by decide)]at hk
   unfold isT
   rw[hs,hk]
   rcases Bool.or_eq_true _ _▸ha with ha|ha<;>(rw[of_decide_eq_true ha];rfl)
 ·unfold isT
  rw[hs,hk]
  cases hh:highN (tb a)with
  |true=>simp
  |false=>
   rw[hh,Bool.false_or]at ha
   rcases Bool.or_eq_true _ _▸ha with ha|ha<;>(rw[of_decide_eq_true ha];rfl)
theorem arm_of {a:ByteArray}(ha:armN a=true)(h:tkT (tkA l i)=⟨if highN (tb a)then 2 else 1,tb a,0⟩):armS l i= .ok a (i+1):=by
 obtain⟨h1,h2,_⟩:=arm_tok ha h
 unfold armS
 rw[h1,h2]
theorem when_ok {s a:ByteArray}(hs:lowN (tb s)=true)(ha:armN a=true)(h:Az l i (fm (onP s a)))(h41:True):whenS l i= .ok (s,a) (i+(fm (onP s a)).length):=by
 unfold onP at h ⊢
 split at h
 ·rename_i ht
  rw[if_pos ht]
  have h0:tkT (tkA l i)=⟨1,tb s,0⟩:=h.1
  have e:(tkA l i).s=s:=tb_inj (congrArg T.b h0)
  have hk:(tkA l i).k=1:=congrArg T.k h0
  have hA:armedB l i=false:=by
   unfold armedB
   rw[hk,tok_isT h0 bTrue (low_key hs rfl),tok_isT h0 bFalse (low_key hs rfl)];rfl
  unfold whenS
  rw[tok_isT h0 (bs [110,111,116]) (low_key hs rfl),hA]
  simp only
  rw[name_of h0 hs,Rs.bind_ok,e,show bTrue=a from tb_inj (by rw[ht];rfl)]
  rfl
 ·rename_i ht
  rw[if_neg ht]
  split at h
  ·rename_i hf
   rw[if_pos hf]
   have h0:tkT (tkA l i)=⟨1,kNot,0⟩:=h.1
   have h1:tkT (tkA l (i+1))=⟨1,tb s,0⟩:=h.2.1
   have e:(tkA l (i+1)).s=s:=tb_inj (congrArg T.b h1)
   unfold whenS
   rw[tok_isT h0 (bs [110,111,116]) (b:=true) rfl]
   simp only
   rw[name_of h1 hs,Rs.bind_ok,e,show bFalse=a from tb_inj (by rw[hf];rfl)]
   rfl
  ·rename_i hf
   rw[if_neg hf]
   have h0:tkT (tkA l i)=⟨if highN (tb a)then 2 else 1,tb a,0⟩:=h.1
   have h1:tkT (tkA l (i+1))=⟨5,[40],0⟩:=h.2.1
   have h2:tkT (tkA l (i+2))=⟨1,tb s,0⟩:=h.2.2.1
   have h3:tkT (tkA l (i+3))=⟨5,[41],0⟩:=h.2.2.2.1
   have e:(tkA l (i+2)).s=s:=tb_inj (congrArg T.b h2)
   obtain⟨q1,q2,q3⟩:=arm_tok ha h0
   unfold whenS
   rw[q3,q1]
   simp only
   rw[arm_of ha h0,Rs.bind_ok,need1 h1 rfl,need0,Rs.bind_ok,name_of h2 hs,Rs.bind_ok,need1 h3 rfl,need0,Rs.bind_ok,e]
   rfl
theorem merge_end {ar:List ByteArray}{es:List Ex}(r:Nat):iterS (mergeT l p) (r+1) (ar,es,i,false)= .ok (ar,es) i:=rfl
theorem merge_it (m:Nat): ∀(a:List ByteArray) (u:List Ex) (ar:List ByteArray) (es:List Ex) (i r:Nat),a.length=u.length→1≤a.length→a.all armN=true→(∀x∈u,Good l x∧St x∧20*tL x+11≤m)→Az l i (fm (mergeP a (pcsL u))++[⟨5,[41],0⟩])→a.length+1≤r→
  iterS (mergeT l (prs l m)) r (ar,es,i+1,true)= .ok (ar++a,es++u) (i+(fm (mergeP a (pcsL u))).length)
 | [],_,_,_,_,_,_,h,_,_,_,_=>by simp at h
 |_::_,[],_,_,_,_,h,_,_,_,_,_=>by simp at h
 |a::at_,x::u,ar,es,i,r,hl,_,ha,h,hA,hr=>by
  obtain⟨r,rfl⟩: ∃q,r=q+1:=⟨r - 1,by omega⟩
  simp only [List.all_cons,Bool.and_eq_true]at ha
  obtain⟨g1,g2,g3⟩:=h x List.mem_cons_self
  have e:fm (mergeP (a::at_) (pcsL (x::u)))=⟨5,[40],0⟩::⟨if highN (tb a)then 2 else 1,tb a,0⟩::⟨5,[45,62],0⟩::(fm (pcs x)++⟨5,[41],0⟩::fm (mergeP at_ (pcsL u))):=by
   simp only [pcsL,mergeP,List.cons_append,List.nil_append,mk,m2,armP,fm_some,fm_none,fm_app,List.append_assoc]
  rw[e]at hA
  simp only [List.cons_append,List.append_assoc]at hA
  rw[at_cons,at_cons,at_cons,at_app]at hA
  obtain⟨a0,a1,a2,a3,a4,a5⟩:=hA
  have hx:=ev_of g1 g2 .arrow (by simp) a3 (by show f10 (tkT (tkA l (i+1+1+1+(fm (pcs x)).length)))=true;rw[a4];rfl) m g3
  have hx:prs l m .arrow (i+1+1+1)= .ok x (i+1+1+1+(fm (pcs x)).length):=hx
  rw[iterS,mergeT,arm_of ha.1 a1,Rs.bind_ok,need1 a2 rfl,need0,Rs.bind_ok,hx,Rs.bind_ok,need1 a4 rfl,need0,Rs.bind_ok,e]
  simp only
  match at_,u,hl,ha.2,a5,hr with
  | [],[],_,_,a5,hr=>
    have a5:=a5.1
    rw[tok_isT a5 (bs [40]) (b:=false) rfl]
    simp only [List.length_cons,List.length_nil]at hr
    obtain⟨r,rfl⟩: ∃q,r=q+1:=⟨r - 1,by omega⟩
    show iterS (mergeT l (prs l m)) (r+1) (ar++[a],es++[x],i+1+1+1+(fm (pcs x)).length+1,false)=_
    rw[merge_end]
    simp only [mergeP,fm,List.length_cons,List.length_append,List.length_nil]
    congr 1
    omega
  |b::bt,y::v,hl,hb,a5,hr=>
   have ih:=merge_it m (b::bt) (y::v) (ar++[a]) (es++[x]) (i+1+1+1+(fm (pcs x)).length+1) r (by simpa using hl) (by simp) hb (fun z hz=>h z (List.mem_cons_of_mem _ hz)) a5 (by simp only [List.length_cons]at hr ⊢;omega)
   have a6:tkT (tkA l (i+1+1+1+(fm (pcs x)).length+1))=⟨5,[40],0⟩:=by
    have e2:fm (mergeP (b::bt) (pcsL (y::v)))=⟨5,[40],0⟩::⟨if highN (tb b)then 2 else 1,tb b,0⟩::⟨5,[45,62],0⟩::(fm (pcs y)++⟨5,[41],0⟩::fm (mergeP bt (pcsL v))):=by
     simp only [pcsL,mergeP,List.cons_append,List.nil_append,mk,m2,armP,fm_some,fm_none,fm_app,List.append_assoc]
    rw[e2]at a5
    exact a5.1
   rw[tok_isT a6 (bs [40]) (b:=true) rfl]
   simp only
   rw[ih]
   simp only [List.append_assoc,List.singleton_append,List.length_cons,List.length_append]
   congr 1
   omega
theorem merge_len: ∀(a:List ByteArray) (u:List Ex),a.length=u.length→a.length≤(fm (mergeP a (pcsL u))).length∧ ∀x∈u,tL x+4≤(fm (mergeP a (pcsL u))).length
 | [],[],_=>⟨Nat.zero_le _,by simp⟩
 | [],_::_,h=>by simp at h
 |_::_,[],h=>by simp at h
 |a::at_,x::u,h=>by
  obtain⟨h1,h2⟩:=merge_len at_ u (by simpa using h)
  have e:fm (mergeP (a::at_) (pcsL (x::u)))=⟨5,[40],0⟩::⟨if highN (tb a)then 2 else 1,tb a,0⟩::⟨5,[45,62],0⟩::(fm (pcs x)++⟨5,[41],0⟩::fm (mergeP at_ (pcsL u))):=by
   simp only [pcsL,mergeP,List.cons_append,List.nil_append,mk,m2,armP,fm_some,fm_none,fm_app,List.append_assoc]
  rw[e]
  simp only [List.length_cons,List.length_append]
  refine⟨by omega,fun y hy=> ?_⟩
  rcases List.mem_cons.1 hy with rfl|hy
  ·unfold tL;omega
  ·have:=h2 y hy;omega
end
end Go.Vm
end

section
set_option linter.all false
set_option maxRecDepth 100000
set_option maxHeartbeats 4000000
namespace Go.Vm
open Go.Proofs
section
variable {l : List Tk} {i j k N : Nat} {e x y : Ex}
theorem good_atom (h: ∀i,Az l i (fm (pcs e))→f1 (tkT (tkA l (i+tL e)))=true→ ∃N,N≤20*tL e∧Ev l .atom i e (i+tL e) N):Good l e:=fun i ha hf=>by
 obtain⟨N,hN,h⟩:=h i ha hf
 exact AI_atom (h.mono hN)
theorem nil_b {s:ByteArray}(h:tb s= []):s=bs []:=tb_inj (by rw[h];rfl)
theorem bin_all (o:Nat)(h3:3≤o)(h16:o≤16)(hj:tkT (tkA l j)=⟨if 7≤o∧o≤10 then 1 else 5,tb (signB o),0⟩)(hk:tkT (tkA l k)=⟨5,[41],0⟩)
  (hx: ∀nt,nt≠ .atom→foB nt (tkT (tkA l j))=true→Ev l nt i x j N) (hy: ∀nt,nt≠ .atom→foB nt (tkT (tkA l k))=true→Ev l nt (j+1) y k N) (hN:2≤N):Ev l .arrow i (binE o x y) k (N+10):=by
 have q: ∀nt,foB nt ⟨5,[41],0⟩=true→foB nt (tkT (tkA l k))=true:=fun nt h=>by rw[hk];exact h
 match o,h3,h16,hj with
 |3,_,_,hj|4,_,_,hj=>exact fr_arrow .sum (left_bin (a:=3) (n:=2) (fun _=>rfl) (hx .prod (by simp) (by rw[hj];rfl)) hN (by rw[opSg_T,hj];rfl) (hy .prod (by simp) (q _ rfl)) (by rw[hk];rfl)) (by omega) (q .arrow rfl) (by simp) (by simp)
 |5,_,_,hj|6,_,_,hj|7,_,_,hj=>exact fr_arrow .prod (left_bin (a:=5) (n:=3) (fun _=>rfl) (hx .un (by simp) (by rw[hj];rfl)) hN (by rw[opSg_T,hj];rfl) (hy .un (by simp) (q _ rfl)) (by rw[hk];rfl)) (by omega) (q .arrow rfl) (by simp) (by simp)
 |8,_,_,hj=>exact fr_arrow .and (left_bin (a:=8) (n:=1) (fun _=>rfl) (hx .cmp (by simp) (by rw[hj];rfl)) hN (by rw[opSg_T,hj];rfl) (hy .cmp (by simp) (q _ rfl)) (by rw[hk];rfl)) (by omega) (q .arrow rfl) (by simp) (by simp)
 |9,_,_,hj|10,_,_,hj=>exact fr_arrow .or (left_bin (a:=9) (n:=2) (fun _=>rfl) (hx .and (by simp) (by rw[hj];rfl)) hN (by rw[opSg_T,hj];rfl) (hy .and (by simp) (q _ rfl)) (by rw[hk];rfl)) (by omega) (q .arrow rfl) (by simp) (by simp)
 |11,_,_,hj|12,_,_,hj|13,_,_,hj|14,_,_,hj|15,_,_,hj|16,_,_,hj=>exact fr_arrow .cmp (bin_cmp (hx .sum (by simp) (by rw[hj];rfl)) (by rw[opSg_T,hj];rfl) (hy .sum (by simp) (q _ rfl))) (by omega) (q .arrow rfl) (by simp) (by simp)
 |o+17,_,h,_=>omega
theorem fo_at {t t':T}(nt:Nt)(h:t=t')(h2:foB nt t'=true):foB nt t=true:=by rw[h];exact h2
theorem good1 (k n:Int)(s:ByteArray)(o:Int)(a:List ByteArray)(u:List Ex)(hp:partB (.mk k n s o a u)=true)(hu: ∀x∈u,Good l x∧St x):Good l (.mk k n s o a u)∧St (.mk k n s o a u):=by
 unfold partB at hp
 simp only [Bool.and_eq_true]at hp
 obtain⟨hk,h1,h2,h3,h4,h5,h6,h7⟩:=hp
 have h5:=of_decide_eq_true h5
 have h6:=of_decide_eq_true h6
 have harm:=all_arms h4
 have e0:pcs (.mk k n s o a u)=pcK k n s o a (pcsL u):=by rw[pcs]
 have hn0:k≠1→k≠2→k≠13→n=0:=fun a b c=>by simpa [numB,a,b,c]using h1
 have ho0:k≠5→k≠6→o=0:=fun a b=>by simpa [opB_,a,b]using h3
 have hs0:k≠3→k≠11→k≠12→k≠13→k≠4→k≠17→s=bs []:=fun a b c d e f=>nil_b (by simpa [nameB,a,b,c,d,e,f]using h2)
 have ha0:k≠11→k≠12→a= []:=fun q r=>by
  unfold armsB at h4
  simp only [Bool.and_eq_true]at h4
  have:=h4.2
  simp only [decide_eq_false q,decide_eq_false r,cond_false]at this
  exact List.length_eq_zero_iff.1 (of_decide_eq_true this)
 rcases kinds k hk with rfl|rfl|rfl|rfl|rfl|rfl|rfl|rfl|rfl|rfl|rfl|rfl|rfl|rfl|rfl|rfl|rfl
 · -- 1
   have hu0:u= []:=List.length_eq_zero_iff.1 (by have h6:(u.length:Int)≤0:=h6;omega)
   have:=hs0 (by decide) (by decide) (by decide) (by decide) (by decide) (by decide)
   have:=ho0 (by decide) (by decide)
   have:=ha0 (by decide) (by decide)
   subst_vars
   refine⟨good_atom fun i ha hf=>⟨1,Nat.le_of_ble_eq_true rfl,Ev_atom (N:=0) fun m _=> ?_⟩,⟨⟨3,digN n.toNat,n⟩,[],rfl,by unfold staB nT isTT;simp⟩⟩
   have h0:tkT (tkA l i)=⟨3,digN n.toNat,n⟩:=ha.1
   have hk:(tkA l i).k=3:=congrArg T.k h0
   have hn:(tkA l i).n=n:=congrArg T.n h0
   unfold atomS
   rw[hk,hn]
   rfl
 · -- 2
   have hu0:u= []:=List.length_eq_zero_iff.1 (by have h6:(u.length:Int)≤0:=h6;omega)
   have:=hs0 (by decide) (by decide) (by decide) (by decide) (by decide) (by decide)
   have:=ho0 (by decide) (by decide)
   have:=ha0 (by decide) (by decide)
   have h1:n=0∨n=1:=by simpa [numB]using h1
   subst_vars
   rcases h1 with rfl|rfl
   ·refine⟨good_atom fun i ha hf=>⟨1,Nat.le_of_ble_eq_true rfl,Ev_atom (N:=0) fun m _=> ?_⟩,⟨_,_,rfl,rfl⟩⟩
    have h0:tkT (tkA l i)=⟨1,kFalse,0⟩:=ha.1
    rw[atom_k h0 rfl rfl rfl]
    unfold wordS
    rw[tok_isT h0 bTrue (b:=false) rfl,tok_isT h0 bFalse (b:=true) rfl]
    rfl
   ·refine⟨good_atom fun i ha hf=>⟨1,Nat.le_of_ble_eq_true rfl,Ev_atom (N:=0) fun m _=> ?_⟩,⟨_,_,rfl,rfl⟩⟩
    have h0:tkT (tkA l i)=⟨1,kTrue,0⟩:=ha.1
    rw[atom_k h0 rfl rfl rfl]
    unfold wordS
    rw[tok_isT h0 bTrue (b:=true) rfl]
    rfl
 · -- 3
   have hu0:u= []:=List.length_eq_zero_iff.1 (by have h6:(u.length:Int)≤0:=h6;omega)
   have:=hn0 (by decide) (by decide) (by decide)
   have:=ho0 (by decide) (by decide)
   have:=ha0 (by decide) (by decide)
   subst_vars
   have h2:lowN (tb s)=true:=h2
   refine⟨good_atom fun i ha hf=>⟨1,Nat.le_of_ble_eq_true rfl,Ev_atom (N:=0) fun m _=> ?_⟩,⟨⟨1,tb s,0⟩,[],rfl,?_⟩⟩
   ·have h0:tkT (tkA l i)=⟨1,tb s,0⟩:=ha.1
    have hs:(tkA l i).s=s:=tb_inj (congrArg T.b h0)
    have hf:f1 (tkT (tkA l (i+1)))=true:=hf
    rw[word_name h0 h2,nT_isT (w:=bs [40]) (and1 hf),hs]
    rfl
   ·unfold staB nT
    rw[low_mark h2 rfl,low_key h2 rfl,low_key h2 rfl,low_mark h2 rfl];rfl
 · -- 4
   have hu0:u= []:=List.length_eq_zero_iff.1 (by have h6:(u.length:Int)≤0:=h6;omega)
   have:=hn0 (by decide) (by decide) (by decide)
   have:=ho0 (by decide) (by decide)
   have:=ha0 (by decide) (by decide)
   subst_vars
   refine⟨good_atom fun i ha hf=>⟨1,Nat.le_of_ble_eq_true rfl,Ev_atom (N:=0) fun m _=> ?_⟩,⟨⟨2,tb s,0⟩,[],rfl,?_⟩⟩
   ·have h0:tkT (tkA l i)=⟨2,tb s,0⟩:=ha.1
    have hs:(tkA l i).s=s:=tb_inj (congrArg T.b h0)
    have hk:(tkA l i).k=2:=congrArg T.k h0
    unfold atomS
    rw[hk,hs]
    rfl
   ·unfold staB nT isTT;simp
 · -- 5
   have hl:u.length=1:=by simp [hiB,loB]at h5 h6;omega
   have:=hn0 (by decide) (by decide) (by decide)
   have:=hs0 (by decide) (by decide) (by decide) (by decide) (by decide) (by decide)
   have:=ha0 (by decide) (by decide)
   match u,hl,hu with
   | [x],_,hu=>
     obtain⟨g,st⟩:=hu x (by simp)
     have hp:=st.pos
     subst_vars
     have h3:o=1∨o=2:=by simp [opB_]at h3;omega
     rcases h3 with rfl|rfl
     ·have e:fm (pcs (.mk 5 0 (bs []) 1 [] [x]))=⟨5,[40],0⟩::⟨5,[45],0⟩::(fm (pcs x)++[⟨5,[41],0⟩]):=by
       rw[e0]
       show fm ([mk 40,mk 45]++pcs x++[mk 41])=_
       simp only [List.cons_append,List.nil_append,mk,fm_some,fm_app,fm_nil]
      have hL:tL (.mk 5 0 (bs []) 1 [] [x])=tL x+3:=by unfold tL;rw[e];simp
      refine⟨good_atom fun i ha hf=>⟨20*tL x+11+1+9+1,by omega,?_⟩,⟨_,_,e,rfl⟩⟩
      rw[e,at_cons,at_cons,at_app]at ha
      obtain⟨a0,a1,a2,a3⟩:=ha
      have a3:tkT (tkA l (i+1+1+tL x))=⟨5,[41],0⟩:=a3.1
      have hx:=ev_of g st .un (by simp) a2 (fo_at _ a3 rfl)
      have:=rnd a0 (fr_arrow .un (un_neg a1 hx) (by omega) (fo_at .arrow a3 rfl) (by simp) (by simp)) a3
      rw[hL,show i+(tL x+3)=i+1+1+tL x+1 by omega]
      exact this
     ·have e:fm (pcs (.mk 5 0 (bs []) 2 [] [x]))=⟨5,[40],0⟩::⟨1,kNot,0⟩::(fm (pcs x)++[⟨5,[41],0⟩]):=by
       rw[e0]
       show fm ([mk 40,wd kNot,none]++pcs x++[mk 41])=_
       simp only [List.cons_append,List.nil_append,mk,wd,fm_some,fm_none,fm_app,fm_nil]
      have hL:tL (.mk 5 0 (bs []) 2 [] [x])=tL x+3:=by unfold tL;rw[e];simp
      refine⟨good_atom fun i ha hf=>⟨20*tL x+11+1+9+1,by omega,?_⟩,⟨_,_,e,rfl⟩⟩
      rw[e,at_cons,at_cons,at_app]at ha
      obtain⟨a0,a1,a2,a3⟩:=ha
      have a3:tkT (tkA l (i+1+1+tL x))=⟨5,[41],0⟩:=a3.1
      have hx:=ev_of g st .un (by simp) a2 (fo_at _ a3 rfl)
      have:=rnd a0 (fr_arrow .un (un_not a1 hx) (by omega) (fo_at .arrow a3 rfl) (by simp) (by simp)) a3
      rw[hL,show i+(tL x+3)=i+1+1+tL x+1 by omega]
      exact this
 · -- 6
   have hl:u.length=2:=by simp [hiB,loB]at h5 h6;omega
   have:=hn0 (by decide) (by decide) (by decide)
   have:=hs0 (by decide) (by decide) (by decide) (by decide) (by decide) (by decide)
   have:=ha0 (by decide) (by decide)
   match u,hl,hu with
   | [x,y],_,hu=>
     obtain⟨g,st⟩:=hu x (by simp)
     obtain⟨g2,st2⟩:=hu y (by simp)
     have hp:=st.pos
     have hp2:=st2.pos
     subst_vars
     have h3:3≤o∧o≤16:=by simpa [opB_]using h3
     obtain⟨o,rfl⟩: ∃q:Nat,o=(q:Int):=⟨o.toNat,by omega⟩
     have e:fm (pcs (.mk 6 0 (bs []) (o:Int) [] [x,y]))=⟨5,[40],0⟩::(fm (pcs x)++⟨if 7≤o∧o≤10 then 1 else 5,tb (signB o),0⟩::(fm (pcs y)++[⟨5,[41],0⟩])):=by
      rw[e0]
      show fm ([mk 40]++pcs x++[none,opK (o:Int).toNat,none]++pcs y++[mk 41])=_
      simp only [List.cons_append,List.nil_append,List.append_assoc,mk,opK,fm_some,fm_none,fm_app,fm_nil,Int.toNat_natCast]
     have hL:tL (.mk 6 0 (bs []) (o:Int) [] [x,y])=tL x+tL y+3:=by unfold tL;rw[e];simp;omega
     refine⟨good_atom fun i ha hf=>⟨20*tL x+20*tL y+11+10+1,by omega,?_⟩,⟨_,_,e,rfl⟩⟩
     rw[e,at_cons,at_app,at_cons,at_app]at ha
     obtain⟨a0,a1,a2,a3,a4⟩:=ha
     have a2:tkT (tkA l (i+1+tL x))=_:=a2
     have a4:tkT (tkA l (i+1+tL x+1+tL y))=⟨5,[41],0⟩:=a4.1
     have:=rnd a0 (bin_all (N:=20*tL x+20*tL y+11) o (by omega) (by omega) a2 a4 (fun nt hn hf=>(ev_of g st nt hn a1 hf).mono (by omega)) (fun nt hn hf=>(ev_of g2 st2 nt hn a3 hf).mono (by omega)) (by omega)) a4
     rw[hL,show i+(tL x+tL y+3)=i+1+tL x+1+tL y+1 by omega]
     exact this
 · -- 7
   have hl:u.length=3:=by simp [hiB,loB]at h5 h6;omega
   have:=hn0 (by decide) (by decide) (by decide)
   have:=hs0 (by decide) (by decide) (by decide) (by decide) (by decide) (by decide)
   have:=ha0 (by decide) (by decide)
   have:=ho0 (by decide) (by decide)
   match u,hl,hu with
   | [x,y,z],_,hu=>
     obtain⟨g,st⟩:=hu x (by simp)
     obtain⟨g2,st2⟩:=hu y (by simp)
     obtain⟨g3,st3⟩:=hu z (by simp)
     have hp:=st.pos
     have hp2:=st2.pos
     have hp3:=st3.pos
     subst_vars
     have e:fm (pcs (.mk 7 0 (bs []) 0 [] [x,y,z]))=⟨5,[40],0⟩::⟨1,kIf,0⟩::(fm (pcs x)++⟨1,kThen,0⟩::(fm (pcs y)++⟨1,kElse,0⟩::(fm (pcs z)++[⟨5,[41],0⟩]))):=by
      rw[e0]
      show fm ([mk 40,wd kIf,none]++pcs x++[none,wd kThen,none]++pcs y++[none,wd kElse,none]++pcs z++[mk 41])=_
      simp only [List.cons_append,List.nil_append,List.append_assoc,mk,wd,fm_some,fm_none,fm_app,fm_nil]
     have hL:tL (.mk 7 0 (bs []) 0 [] [x,y,z])=tL x+tL y+tL z+5:=by unfold tL;rw[e];simp;omega
     refine⟨good_atom fun i ha hf=>⟨20*tL x+20*tL y+20*tL z+11+1+1+10+1,by omega,?_⟩,⟨_,_,e,rfl⟩⟩
     rw[e,at_cons,at_cons,at_app,at_cons,at_app,at_cons,at_app]at ha
     obtain⟨a0,a1,a2,a3,a4,a5,a6,a7⟩:=ha
     have a3:tkT (tkA l (i+1+1+tL x))=_:=a3
     have a5:tkT (tkA l (i+1+1+tL x+1+tL y))=_:=a5
     have a7:tkT (tkA l (i+1+1+tL x+1+tL y+1+tL z))=⟨5,[41],0⟩:=a7.1
     have hx:=(ev_of g st .arrow (by simp) a2 (fo_at _ a3 rfl)).mono (M:=20*tL x+20*tL y+20*tL z+11) (by omega)
     have hy:=(ev_of g2 st2 .arrow (by simp) a4 (fo_at _ a5 rfl)).mono (M:=20*tL x+20*tL y+20*tL z+11) (by omega)
     have hz:=(ev_of g3 st3 .arrow (by simp) a6 (fo_at _ a7 rfl)).mono (M:=20*tL x+20*tL y+20*tL z+11) (by omega)
     have:=rnd a0 (post_arrow (atom_post (at_if a1 hx a3 hy a5 hz) (by omega) (fo_at .un a7 rfl)) (by rw[a1];rfl) (fo_at .arrow a7 rfl)) a7
     rw[hL,show i+(tL x+tL y+tL z+5)=i+1+1+tL x+1+tL y+1+tL z+1 by omega]
     exact this
 · -- 8
   have hl:u.length=2:=by simp [hiB,loB]at h5 h6;omega
   have:=hn0 (by decide) (by decide) (by decide)
   have:=hs0 (by decide) (by decide) (by decide) (by decide) (by decide) (by decide)
   have:=ha0 (by decide) (by decide)
   have:=ho0 (by decide) (by decide)
   match u,hl,hu with
   | [x,y],_,hu=>
     obtain⟨g,st⟩:=hu x (by simp)
     obtain⟨g2,st2⟩:=hu y (by simp)
     have hp:=st.pos
     have hp2:=st2.pos
     subst_vars
     have e:fm (pcs (.mk 8 0 (bs []) 0 [] [x,y]))=⟨5,[40],0⟩::(fm (pcs x)++⟨1,kFby,0⟩::(fm (pcs y)++[⟨5,[41],0⟩])):=by
      rw[e0]
      show fm ([mk 40]++pcs x++[none,wd kFby,none]++pcs y++[mk 41])=_
      simp only [List.cons_append,List.nil_append,List.append_assoc,mk,wd,fm_some,fm_none,fm_app,fm_nil]
     have hL:tL (.mk 8 0 (bs []) 0 [] [x,y])=tL x+tL y+3:=by unfold tL;rw[e];simp;omega
     refine⟨good_atom fun i ha hf=>⟨20*tL x+20*tL y+11+1+9+1,by omega,?_⟩,⟨_,_,e,rfl⟩⟩
     rw[e,at_cons,at_app,at_cons,at_app]at ha
     obtain⟨a0,a1,a2,a3,a4⟩:=ha
     have a2:tkT (tkA l (i+1+tL x))=_:=a2
     have a4:tkT (tkA l (i+1+tL x+1+tL y))=⟨5,[41],0⟩:=a4.1
     have hx:=(ev_of g st .or (by simp) a1 (fo_at _ a2 rfl)).mono (M:=20*tL x+20*tL y+11) (by omega)
     have hy:=(ev_of g2 st2 .fby (by simp) a3 (fo_at _ a4 rfl)).mono (M:=20*tL x+20*tL y+11) (by omega)
     have:=rnd a0 (fr_arrow .fby (bin_fby hx a2 hy) (by omega) (fo_at .arrow a4 rfl) (by simp) (by simp)) a4
     rw[hL,show i+(tL x+tL y+3)=i+1+tL x+1+tL y+1 by omega]
     exact this
 · -- 9
   have hl:u.length=2:=by simp [hiB,loB]at h5 h6;omega
   have:=hn0 (by decide) (by decide) (by decide)
   have:=hs0 (by decide) (by decide) (by decide) (by decide) (by decide) (by decide)
   have:=ha0 (by decide) (by decide)
   have:=ho0 (by decide) (by decide)
   match u,hl,hu with
   | [x,y],_,hu=>
     obtain⟨g,st⟩:=hu x (by simp)
     obtain⟨g2,st2⟩:=hu y (by simp)
     have hp:=st.pos
     have hp2:=st2.pos
     subst_vars
     have e:fm (pcs (.mk 9 0 (bs []) 0 [] [x,y]))=⟨5,[40],0⟩::(fm (pcs x)++⟨5,[45,62],0⟩::(fm (pcs y)++[⟨5,[41],0⟩])):=by
      rw[e0]
      show fm ([mk 40]++pcs x++[none,m2 45 62,none]++pcs y++[mk 41])=_
      simp only [List.cons_append,List.nil_append,List.append_assoc,mk,m2,fm_some,fm_none,fm_app,fm_nil]
     have hL:tL (.mk 9 0 (bs []) 0 [] [x,y])=tL x+tL y+3:=by unfold tL;rw[e];simp;omega
     refine⟨good_atom fun i ha hf=>⟨20*tL x+20*tL y+11+1+1,by omega,?_⟩,⟨_,_,e,rfl⟩⟩
     rw[e,at_cons,at_app,at_cons,at_app]at ha
     obtain⟨a0,a1,a2,a3,a4⟩:=ha
     have a2:tkT (tkA l (i+1+tL x))=_:=a2
     have a4:tkT (tkA l (i+1+tL x+1+tL y))=⟨5,[41],0⟩:=a4.1
     have hx:=(ev_of g st .fby (by simp) a1 (fo_at _ a2 rfl)).mono (M:=20*tL x+20*tL y+11) (by omega)
     have hy:=(ev_of g2 st2 .arrow (by simp) a3 (fo_at _ a4 rfl)).mono (M:=20*tL x+20*tL y+11) (by omega)
     have:=rnd a0 (bin_arrow hx a2 hy) a4
     rw[hL,show i+(tL x+tL y+3)=i+1+tL x+1+tL y+1 by omega]
     exact this
 · -- 10
   have hl:u.length=1:=by simp [hiB,loB]at h5 h6;omega
   have:=hn0 (by decide) (by decide) (by decide)
   have:=hs0 (by decide) (by decide) (by decide) (by decide) (by decide) (by decide)
   have:=ha0 (by decide) (by decide)
   have:=ho0 (by decide) (by decide)
   match u,hl,hu with
   | [x],_,hu=>
     obtain⟨g,st⟩:=hu x (by simp)
     have hp:=st.pos
     subst_vars
     have e:fm (pcs (.mk 10 0 (bs []) 0 [] [x]))=⟨5,[40],0⟩::⟨1,kPre,0⟩::(fm (pcs x)++[⟨5,[41],0⟩]):=by
      rw[e0]
      show fm ([mk 40,wd kPre,none]++pcs x++[mk 41])=_
      simp only [List.cons_append,List.nil_append,mk,wd,fm_some,fm_none,fm_app,fm_nil]
     have hL:tL (.mk 10 0 (bs []) 0 [] [x])=tL x+3:=by unfold tL;rw[e];simp
     refine⟨good_atom fun i ha hf=>⟨20*tL x+11+1+9+1,by omega,?_⟩,⟨_,_,e,rfl⟩⟩
     rw[e,at_cons,at_cons,at_app]at ha
     obtain⟨a0,a1,a2,a3⟩:=ha
     have a3:tkT (tkA l (i+1+1+tL x))=⟨5,[41],0⟩:=a3.1
     have hx:=ev_of g st .un (by simp) a2 (fo_at _ a3 rfl)
     have:=rnd a0 (fr_arrow .un (un_pre a1 hx) (by omega) (fo_at .arrow a3 rfl) (by simp) (by simp)) a3
     rw[hL,show i+(tL x+3)=i+1+1+tL x+1 by omega]
     exact this
 · -- 11
   have hl:u.length=1:=by simp [hiB,loB]at h5 h6;omega
   have hla:a.length=1:=by
    unfold armsB at h4
    simp only [Bool.and_eq_true]at h4
    exact of_decide_eq_true h4.2
   have:=hn0 (by decide) (by decide) (by decide)
   have:=ho0 (by decide) (by decide)
   have h2:lowN (tb s)=true:=h2
   match u,hl,hu,a,hla,harm with
   | [x],_,hu,[ar],_,harm=>
     simp only [List.all_cons,List.all_nil,Bool.and_true]at harm
     obtain⟨g,st⟩:=hu x (by simp)
     have hp:=st.pos
     subst_vars
     have e:fm (pcs (.mk 11 0 s 0 [ar] [x]))=⟨5,[40],0⟩::(fm (pcs x)++⟨1,kWhen,0⟩::(fm (onP s ar)++[⟨5,[41],0⟩])):=by
      rw[e0]
      show fm ([mk 40]++pcs x++[none,wd kWhen,none]++onP s ar++[mk 41])=_
      simp only [List.cons_append,List.nil_append,List.append_assoc,mk,wd,fm_some,fm_none,fm_app,fm_nil]
     have hL:tL (.mk 11 0 s 0 [ar] [x])=tL x+(fm (onP s ar)).length+3:=by unfold tL;rw[e];simp;omega
     refine⟨good_atom fun i ha hf=>⟨20*tL x+3+10+1,by omega,?_⟩,⟨_,_,e,rfl⟩⟩
     rw[e,at_cons,at_app,at_cons,at_app]at ha
     obtain⟨a0,a1,a2,a3,a4⟩:=ha
     have a2:tkT (tkA l (i+1+tL x))=⟨1,kWhen,0⟩:=a2
     have a4:tkT (tkA l (i+1+tL x+1+(fm (onP s ar)).length))=⟨5,[41],0⟩:=a4.1
     have hw:whenS l (i+1+tL x+1)= .ok (s,ar) (i+1+tL x+1+(fm (onP s ar)).length):=when_ok h2 harm a3 trivial
     obtain⟨base,j0,k,q1,q2,q3⟩:=g (i+1) a1 (by rw[a2];rfl)
     have hpost:Ev l .post (i+1) (.mk 11 0 s 0 [ar] [x]) (i+1+tL x+1+(fm (onP s ar)).length) (20*tL x+3):=fun m hm=>by
      obtain⟨m,rfl⟩: ∃r,m=r+1:=⟨m - 1,by omega⟩
      show postS l m (prs l m) (i+1)=_
      rw[postS,q2 m (by omega),Rs.bind_ok]
      have q3:=q3 m (by omega) (m - k)
      rw[show m - k+k=m by omega]at q3
      rw[q3]
      obtain⟨r,hr⟩: ∃r,m - k=r+2:=⟨m - k - 2,by omega⟩
      rw[hr,iterS,postT,tok_isT a2 (bs [91]) (b:=false) rfl,tok_isT a2 (bs [119,104,101,110]) (b:=true) rfl]
      simp only
      rw[hw]
      simp only
      rw[iterS,postT,tok_isT a4 (bs [91]) (b:=false) rfl,tok_isT a4 (bs [119,104,101,110]) (b:=false) rfl]
     have:=rnd a0 (post_arrow hpost (st.at a1) (by rw[a4];rfl)) a4
     rw[hL,show i+(tL x+(fm (onP s ar)).length+3)=i+1+tL x+1+(fm (onP s ar)).length+1 by omega]
     exact this
 · -- 12
   have hla:1≤a.length:=by
    unfold armsB at h4
    simp only [Bool.and_eq_true]at h4
    have:=h4.2
    simp only [show decide ((12:Int)=11)=false from rfl,cond_false,decide_true,cond_true,Bool.and_eq_true]at this
    exact of_decide_eq_true this.1
   have hl:a.length=u.length:=by simp [hiB,loB]at h5 h6;omega
   have:=hn0 (by decide) (by decide) (by decide)
   have:=ho0 (by decide) (by decide)
   have h2:lowN (tb s)=true:=h2
   subst_vars
   have e:fm (pcs (.mk 12 0 s 0 a u))=⟨5,[40],0⟩::⟨1,kMerge,0⟩::⟨1,tb s,0⟩::(fm (mergeP a (pcsL u))++[⟨5,[41],0⟩]):=by
    rw[e0]
    show fm ([mk 40,wd kMerge,none,wd (tb s)]++mergeP a (pcsL u)++[mk 41])=_
    simp only [List.cons_append,List.nil_append,List.append_assoc,mk,wd,fm_some,fm_none,fm_app,fm_nil]
   have hL:tL (.mk 12 0 s 0 a u)=(fm (mergeP a (pcsL u))).length+4:=by unfold tL;rw[e];simp
   obtain⟨m1,m2⟩:=merge_len a u hl
   refine⟨good_atom fun i ha hf=>⟨20*(fm (mergeP a (pcsL u))).length+11+1+1+10+1,by omega,?_⟩,⟨_,_,e,rfl⟩⟩
   rw[e,at_cons,at_cons,at_cons]at ha
   obtain⟨a0,a1,a2,a3⟩:=ha
   have a4:=(at_app.1 a3).2
   have a4:tkT (tkA l (i+1+1+1+(fm (mergeP a (pcsL u))).length))=⟨5,[41],0⟩:=a4.1
   have a5:tkT (tkA l (i+1+1+1))=⟨5,[40],0⟩:=by
    match a,u,hla,hl,a3 with
    |b::bt,y::v,_,_,a3=>
     have e2:fm (mergeP (b::bt) (pcsL (y::v)))=⟨5,[40],0⟩::⟨if highN (tb b)then 2 else 1,tb b,0⟩::⟨5,[45,62],0⟩::(fm (pcs y)++⟨5,[41],0⟩::fm (mergeP bt (pcsL v))):=by
      simp only [pcsL,mergeP,List.cons_append,List.nil_append,mk,Go.Vm.m2,armP,fm_some,fm_none,fm_app,List.append_assoc]
     rw[e2]at a3
     exact a3.1
   have hs:(tkA l (i+1+1)).s=s:=tb_inj (congrArg T.b a2)
   have hat:Ev l .atom (i+1) (.mk 12 0 s 0 a u) (i+1+1+1+(fm (mergeP a (pcsL u))).length) (20*(fm (mergeP a (pcsL u))).length+11+1):=Ev_atom fun m hm=>by
    rw[word_merge a1,mergeS,name_of a2 h2,Rs.bind_ok,need1 a5 rfl,need0,Rs.bind_ok]
    have:=merge_it (l:=l) m a u [] [] (i+1+1+1) m hl hla harm (fun x hx=>⟨(hu x hx).1,(hu x hx).2,by have:=m2 x hx;omega⟩) a3 (by omega)
    rw[this,Rs.bind_ok,hs]
    rfl
   have:=rnd a0 (post_arrow (atom_post hat (by omega) (by rw[a4];rfl)) (by rw[a1];rfl) (by rw[a4];rfl)) a4
   rw[hL,show i+((fm (mergeP a (pcsL u))).length+4)=i+1+1+1+(fm (mergeP a (pcsL u))).length+1 by omega]
   exact this
 · -- 13
   have:=ho0 (by decide) (by decide)
   have:=ha0 (by decide) (by decide)
   have h2:lowN (tb s)=true:=h2
   have h1:n=0∨n=1:=by simpa [numB]using h1
   subst_vars
   have calls: ∀(v:List Ex) (i m n:Nat),(∀x∈v,Good l x∧St x)→Az l i (fm (listP (pcsL v))++[⟨5,[41],0⟩])→20*(fm (listP (pcsL v))).length+11≤m→20*(fm (listP (pcsL v))).length+11≤n→callS l n (prs l m) s i=callU l (prs l m) s v (i+(fm (listP (pcsL v))).length+1):=by
    intro v i m n hv ha hm hn
    unfold callS
    match v,hv,ha,hm,hn with
    | [],_,ha,_,_=>
      rw[tok_isT ha.1 (bs [41]) (b:=true) rfl]
      rfl
    |x::v,hv,ha,hm,hn=>
     obtain⟨l1,l2⟩:=list_len x v fun y hy=>(hv y hy).2
     have hst:isT l i (bs [41])=false:=by
      have e2:fm (listP (pcsL (x::v)))=fm (pcs x)++fm (sepP (pcsL v)):=by simp only [pcsL,listP,fm_app]
      rw[e2,List.append_assoc,at_app]at ha
      have:=(hv x (by simp)).2.at ha.1
      unfold staB at this
      exact nT_isT (w:=bs [41]) (and2 (and2 (and2 this)))
     rw[hst]
     simp only
     rw[list_ok 41 (.inl rfl) m x v i (fun y hy=>⟨(hv y hy).1,(hv y hy).2,by have:=l2 y hy;omega⟩) ha (by omega),Rs.bind_ok]
   rcases h1 with rfl|rfl
   ·have e:fm (pcs (.mk 13 0 s 0 [] u))=⟨1,tb s,0⟩::⟨5,[40],0⟩::(fm (listP (pcsL u))++[⟨5,[41],0⟩]):=by
     rw[e0]
     show fm ([wd (tb s),mk 40]++listP (pcsL u)++[mk 41])=_
     simp only [List.cons_append,List.nil_append,List.append_assoc,mk,wd,fm_some,fm_none,fm_app,fm_nil]
    have hL:tL (.mk 13 0 s 0 [] u)=(fm (listP (pcsL u))).length+3:=by unfold tL;rw[e];simp
    refine⟨good_atom fun i ha hf=>⟨20*(fm (listP (pcsL u))).length+11+1,by omega,?_⟩,⟨_,_,e,?_⟩⟩
    ·rw[e,at_cons,at_cons]at ha
     obtain⟨a0,a1,a2⟩:=ha
     have hs:(tkA l i).s=s:=tb_inj (congrArg T.b a0)
     rw[hL]at hf ⊢
     refine Ev_atom fun m hm=> ?_
     rw[word_name a0 h2,tok_isT a1 (bs [40]) (b:=true) rfl,hs]
     simp only
     rw[show i+2=i+1+1 by omega,calls u (i+1+1) m m hu a2 hm hm]
     unfold callU
     rw[show i+1+1+(fm (listP (pcsL u))).length+1=i+((fm (listP (pcsL u))).length+3) by omega,nT_isT (w:=bs [101,118,101,114,121]) (and2 hf)]
    ·unfold staB nT
     rw[low_mark h2 rfl,low_key h2 rfl,low_key h2 rfl,low_mark h2 rfl];rfl
   ·have hne:u≠[]:=by rintro rfl;simp [loB]at h5
    obtain⟨v,x,rfl⟩: ∃v x,u=v++[x]:=⟨_,_,(List.dropLast_concat_getLast hne).symm⟩
    have hx:=hu x (by simp)
    have hv: ∀y∈v,Good l y∧St y:=fun y hy=>hu y (by simp [hy])
    have hpx:=hx.2.pos
    have pl: ∀v:List Ex,pcsL (v++[x])=pcsL v++[pcs x]:=by
     intro v
     induction v with
     |nil=>rfl
     |cons y v ih=>simp only [List.cons_append,pcsL,ih]
    have e:fm (pcs (.mk 13 1 s 0 [] (v++[x])))=⟨5,[40],0⟩::⟨1,tb s,0⟩::⟨5,[40],0⟩::(fm (listP (pcsL v))++⟨5,[41],0⟩::⟨1,kEvery,0⟩::(fm (pcs x)++[⟨5,[41],0⟩])):=by
     rw[e0,pl v]
     show fm ([mk 40,wd (tb s),mk 40]++listP ((pcsL v++[pcs x]).take ((pcsL v++[pcs x]).length - 1))++[mk 41,none,wd kEvery,none]++(pcsL v++[pcs x]).getD ((pcsL v++[pcs x]).length - 1) []++[mk 41])=_
     have t1:(pcsL v++[pcs x]).length - 1=(pcsL v).length:=by simp
     rw[t1,List.take_left,List.getD_eq_getElem?_getD,List.getElem?_concat_length]
     simp only [List.cons_append,List.nil_append,List.append_assoc,mk,wd,fm_some,fm_none,fm_app,fm_nil,Option.getD_some]
    have hL:tL (.mk 13 1 s 0 [] (v++[x]))=(fm (listP (pcsL v))).length+tL x+6:=by unfold tL;rw[e];simp;omega
    refine⟨good_atom fun i ha hf=>⟨20*(fm (listP (pcsL v))).length+20*tL x+11+1+1+10+1,by omega,?_⟩,⟨_,_,e,rfl⟩⟩
    rw[e,at_cons,at_cons,at_cons,at_app,at_cons,at_cons,at_app]at ha
    obtain⟨a0,a1,a2,a3,a4,a5,a6,a7⟩:=ha
    have a7:tkT (tkA l (i+1+1+1+(fm (listP (pcsL v))).length+1+1+tL x))=⟨5,[41],0⟩:=a7.1
    have hs:(tkA l (i+1)).s=s:=tb_inj (congrArg T.b a1)
    have px:=(ev_of hx.1 hx.2 .post (by simp) a6 (fo_at _ a7 rfl))
    have hat:Ev l .atom (i+1) (.mk 13 1 s 0 [] (v++[x])) (i+1+1+1+(fm (listP (pcsL v))).length+1+1+tL x) (20*(fm (listP (pcsL v))).length+20*tL x+11+1):=Ev_atom fun m hm=>by
     rw[word_name a1 h2,tok_isT a2 (bs [40]) (b:=true) rfl,hs]
     simp only
     rw[show i+1+2=i+1+1+1 by omega,calls v (i+1+1+1) m m hv (at_app.2 ⟨a3,a4,trivial⟩) (by omega) (by omega)]
     unfold callU
     rw[tok_isT a5 (bs [101,118,101,114,121]) (b:=true) rfl]
     simp only
     rw[px m (by omega),Rs.bind_ok]
    have:=rnd a0 (post_arrow (atom_post hat (by omega) (by rw[a7];rfl)) (by
     rw[a1];unfold staB nT
     rw[low_mark h2 rfl,low_key h2 rfl,low_key h2 rfl,low_mark h2 rfl];rfl) (by rw[a7];rfl)) a7
    rw[hL,show i+((fm (listP (pcsL v))).length+tL x+6)=i+1+1+1+(fm (listP (pcsL v))).length+1+1+tL x+1 by omega]
    exact this
 · -- 14
   have:=hn0 (by decide) (by decide) (by decide)
   have:=hs0 (by decide) (by decide) (by decide) (by decide) (by decide) (by decide)
   have:=ha0 (by decide) (by decide)
   have:=ho0 (by decide) (by decide)
   subst_vars
   match u,hu,h5 with
   | [],_,h5=>simp [loB]at h5
   |x::v,hu,_=>
    have e:fm (pcs (.mk 14 0 (bs []) 0 [] (x::v)))=⟨5,[91],0⟩::(fm (listP (pcsL (x::v)))++[⟨5,[93],0⟩]):=by
     rw[e0]
     show fm ([mk 91]++listP (pcsL (x::v))++[mk 93])=_
     simp only [List.cons_append,List.nil_append,List.append_assoc,mk,fm_some,fm_app,fm_nil]
    have hL:tL (.mk 14 0 (bs []) 0 [] (x::v))=(fm (listP (pcsL (x::v)))).length+2:=by unfold tL;rw[e];simp
    obtain⟨l1,l2⟩:=list_len x v fun y hy=>(hu y hy).2
    refine⟨good_atom fun i ha hf=>⟨20*(fm (listP (pcsL (x::v)))).length+11+1,by omega,Ev_atom fun m hm=> ?_⟩,⟨_,_,e,rfl⟩⟩
    rw[e,at_cons]at ha
    rw[word_lb ha.1,list_ok 93 (.inr rfl) m x v (i+1) (fun y hy=>⟨(hu y hy).1,(hu y hy).2,by have:=l2 y hy;omega⟩) ha.2 (by omega),Rs.bind_ok,hL]
    show Rs.ok _ _=_
    congr 1
    omega
 · -- 15
   have hl:u.length=2:=by simp [hiB,loB]at h5 h6;omega
   have:=hn0 (by decide) (by decide) (by decide)
   have:=hs0 (by decide) (by decide) (by decide) (by decide) (by decide) (by decide)
   have:=ha0 (by decide) (by decide)
   have:=ho0 (by decide) (by decide)
   match u,hl,hu with
   | [x,y],_,hu=>
     obtain⟨g,st⟩:=hu x (by simp)
     obtain⟨g2,st2⟩:=hu y (by simp)
     have hp:=st.pos
     have hp2:=st2.pos
     subst_vars
     have e:fm (pcs (.mk 15 0 (bs []) 0 [] [x,y]))=fm (pcs x)++⟨5,[91],0⟩::(fm (pcs y)++[⟨5,[93],0⟩]):=by
      rw[e0]
      show fm (pcs x++[mk 91]++pcs y++[mk 93])=_
      simp only [List.cons_append,List.nil_append,List.append_assoc,mk,fm_some,fm_none,fm_app,fm_nil]
     have hL:tL (.mk 15 0 (bs []) 0 [] [x,y])=tL x+tL y+2:=by unfold tL;rw[e];simp;omega
     refine⟨fun i ha hf=> ?_,?_⟩
     ·rw[e,at_app,at_cons,at_app]at ha
      obtain⟨a1,a2,a3,a4⟩:=ha
      have a2:tkT (tkA l (i+tL x))=⟨5,[91],0⟩:=a2
      have a4:tkT (tkA l (i+tL x+1+tL y))=⟨5,[93],0⟩:=a4.1
      obtain⟨base,j0,k,q1,q2,q3⟩:=g i a1 (by rw[a2];rfl)
      have hy:=ev_of g2 st2 .arrow (by simp) a3 (fo_at _ a4 rfl)
      have hy:Ev l .arrow (i+tL x+1) y (i+tL x+1+tL y) (20*tL y+11):=hy
      rw[hL]
      refine⟨base,j0,k+1,by omega,fun m hm=>q2 m (by omega),fun m hm r=> ?_⟩
      have q3:=q3 m (by omega) (r+1)
      rw[show r+(k+1)=r+1+k by omega,q3,iterS,postT,tok_isT a2 (bs [91]) (b:=true) rfl]
      simp only
      rw[hy m (by omega),Rs.bind_ok,need1 a4 rfl,need0,Rs.bind_ok]
      simp only
      rw[show i+tL x+1+tL y+1=i+(tL x+tL y+2) by omega]
      rfl
     ·obtain⟨t,r,h,hs⟩:=st
      exact⟨t,_,by rw[e,h,List.cons_append],hs⟩
 · -- 16
   have hl:u.length=3:=by simp [hiB,loB]at h5 h6;omega
   have:=hn0 (by decide) (by decide) (by decide)
   have:=hs0 (by decide) (by decide) (by decide) (by decide) (by decide) (by decide)
   have:=ha0 (by decide) (by decide)
   have:=ho0 (by decide) (by decide)
   match u,hl,hu with
   | [x,y,z],_,hu=>
     obtain⟨g,st⟩:=hu x (by simp)
     obtain⟨g2,st2⟩:=hu y (by simp)
     obtain⟨g3,st3⟩:=hu z (by simp)
     have hp:=st.pos
     have hp2:=st2.pos
     have hp3:=st3.pos
     subst_vars
     have e:fm (pcs (.mk 16 0 (bs []) 0 [] [x,y,z]))=⟨5,[40],0⟩::(fm (pcs x)++⟨1,kWith,0⟩::⟨5,[91],0⟩::(fm (pcs y)++⟨5,[93],0⟩::⟨5,[61],0⟩::(fm (pcs z)++[⟨5,[41],0⟩]))):=by
      rw[e0]
      show fm ([mk 40]++pcs x++[none,wd kWith,none,mk 91]++pcs y++[mk 93,none,mk 61,none]++pcs z++[mk 41])=_
      simp only [List.cons_append,List.nil_append,List.append_assoc,mk,wd,fm_some,fm_none,fm_app,fm_nil]
     have hL:tL (.mk 16 0 (bs []) 0 [] [x,y,z])=tL x+tL y+tL z+6:=by unfold tL;rw[e];simp;omega
     refine⟨good_atom fun i ha hf=>⟨20*tL x+20*tL y+20*tL z+11+1,by omega,?_⟩,⟨_,_,e,rfl⟩⟩
     rw[e,at_cons,at_app,at_cons,at_cons,at_app,at_cons,at_cons,at_app]at ha
     obtain⟨a0,a1,a2,a3,a4,a5,a6,a7,a8⟩:=ha
     have a2:tkT (tkA l (i+1+tL x))=_:=a2
     have a3:tkT (tkA l (i+1+tL x+1))=_:=a3
     have a4:Az l (i+1+tL x+2) (fm (pcs y)):=a4
     have a5:tkT (tkA l (i+1+tL x+2+tL y))=_:=a5
     have a6:tkT (tkA l (i+1+tL x+2+tL y+1))=_:=a6
     have a7:Az l (i+1+tL x+2+tL y+2) (fm (pcs z)):=a7
     have a8:tkT (tkA l (i+1+tL x+2+tL y+2+tL z))=⟨5,[41],0⟩:=a8.1
     have hx:=(ev_of g st .arrow (by simp) a1 (fo_at _ a2 rfl)).mono (M:=20*tL x+20*tL y+20*tL z+11) (by omega)
     have hy:=(ev_of g2 st2 .arrow (by simp) a4 (fo_at _ a5 rfl)).mono (M:=20*tL x+20*tL y+20*tL z+11) (by omega)
     have hz:=(ev_of g3 st3 .arrow (by simp) a7 (fo_at _ a8 rfl)).mono (M:=20*tL x+20*tL y+20*tL z+11) (by omega)
     have:=rnd_with (q:=0) a0 hx a2 a3 hy a5 a6 hz a8
     rw[hL,show i+(tL x+tL y+tL z+6)=i+1+tL x+2+tL y+2+tL z+1 by omega]
     exact this
 · -- 17
   have hu0:u= []:=List.length_eq_zero_iff.1 (by have h6:(u.length:Int)≤0:=h6;omega)
   have:=hn0 (by decide) (by decide) (by decide)
   have:=ho0 (by decide) (by decide)
   have:=ha0 (by decide) (by decide)
   subst_vars
   refine⟨good_atom fun i ha hf=>⟨1,Nat.le_of_ble_eq_true rfl,Ev_atom (N:=0) fun m _=> ?_⟩,⟨⟨4,tb s,0⟩,[],rfl,?_⟩⟩
   ·have h0:tkT (tkA l i)=⟨4,tb s,0⟩:=ha.1
    have hs:(tkA l i).s=s:=tb_inj (congrArg T.b h0)
    have hk:(tkA l i).k=4:=congrArg T.k h0
    unfold atomS
    rw[hk,hs]
    rfl
   ·unfold staB nT isTT;simp
mutual
theorem good_all: ∀e:Ex,allB e=true→Good l e∧St e
 | .mk k n s o a u,h=>by
   simp only [allB,Bool.and_eq_true]at h
   exact good1 k n s o a u h.1 (goods_all u h.2)
theorem goods_all: ∀u:List Ex,allBs u=true→ ∀x∈u,Good l x∧St x
 | [],_,x,h=>by cases h
 |e::u,h,x,hx=>by
  simp only [allBs,Bool.and_eq_true]at h
  rcases List.mem_cons.1 hx with he|hx
  ·rw[he];exact good_all e h.1
  ·exact goods_all u h.2 x hx
end
end
end Go.Vm
end

section
set_option linter.all false
set_option maxRecDepth 100000
set_option maxHeartbeats 4000000
namespace Go.Vm
open Go.Proofs
theorem az_of {l:List Tk}: ∀ {ts:List T} {a b:List Tk},a.map tkT=ts→Az (l++(a++b)) l.length ts
 | [],[],b,_=>trivial
 | [],_::_,b,h=>by cases h
 |_::_,[],b,h=>by cases h
 |t::ts,x::a,b,h=>by
  rw[List.map_cons,List.cons.injEq]at h
  refine⟨?_,?_⟩
  ·have:tkA (l++(x::a++b)) l.length=x:=by
    unfold tkA
    rw[List.getD_eq_getElem?_getD]
    simp
   rw[this];exact h.1
  ·have:=az_of (l:=l++[x]) (a:=a) (b:=b) h.2
   simpa using this
def rnT:Pc→List Nat→Prop
 | [],l=>l= []
 |none::r,l=> ∃c m,l=c::m∧(c=32∨c=10)∧rnT r m
 |some t::r,l=> ∃m,l=t.w++m∧rnT r m
theorem rnT_render: ∀p:Pc,rnT p (render p)
 | []=>rfl
 |none::r=>⟨32,_,rfl, .inl rfl,rnT_render r⟩
 |some t::r=>⟨_,rfl,rnT_render r⟩
theorem rnT_app: ∀ {p q:Pc} {x y:List Nat},rnT p x→rnT q y→rnT (p++q) (x++y)
 | [],q,x,y,h1,h2=>by cases h1;exact h2
 |none::r,q,x,y,⟨c,m,e,hc,h1⟩,h2=>⟨c,m++y,by rw[e];rfl,hc,rnT_app h1 h2⟩
 |some t::r,q,x,y,⟨m,e,h1⟩,h2=>⟨m++y,by rw[e,List.append_assoc],rnT_app h1 h2⟩
theorem aj_lf (t:T):ajB t 10=ajB t 32:=by
 unfold ajB
 split
 ·rfl
 ·split
  ·split
   ·rename_i c _
    have h: ∀d,d=10∨d=32→twoN.contains [c,d]=false:=fun d hd=>by
     cases hx:twoN.contains [c,d]with
     |false=>rfl
     |true=>
      have:=List.contains_iff_mem.1 hx
      unfold twoN at this
      simp at this
      omega
    rw[h 10 (.inl rfl),h 32 (.inr rfl)]
    have e1:decide ((10:Nat)=45)=false:=rfl
    have e2:decide ((32:Nat)=45)=false:=rfl
    rw[e1,e2]
   ·rfl
  ·rfl
theorem w_pos {t:T}(h:t.OK):0 < t.w.length:=by
 have e: ∀d,ajB t d=true→0 < t.w.length:=fun d hd=>by
  have hb:tb (⟨(t.w.map UInt8.ofNat).toArray⟩:ByteArray)=t.w.map (fun c=>(UInt8.ofNat c).toNat):=by simp [tb]
  unfold T.w
  rcases h with⟨h1,h2,h3,h4⟩|⟨h1,h2,h3⟩|⟨h1,h2⟩|⟨h1,h2,h3,h4⟩|⟨h1,h2,h3⟩|⟨h1,c,h2,h3,h4⟩
  ·rw[if_neg (by omega)];exact(name_parts h3).1
  ·rw[if_neg (by omega)];exact(name_parts h2).1
  ·rw[if_neg (by omega)];exact h2.2.1
  ·rw[if_pos h1];simp
  ·rw[if_neg (by omega)]
   obtain⟨i,hi,he⟩:=two_in.1 h2
   rw[he]
   match i,hi with
   |0,_|1,_|2,_|3,_|4,_=>decide
  ·rw[if_neg (by omega),h3];exact Nat.one_pos
 by_cases h4:t.k=4
 ·unfold T.w;rw[if_pos h4];simp
 ·by_cases h5:t.k=5
  ·rcases h with⟨h1,_⟩|⟨h1,_⟩|⟨h1,_⟩|⟨h1,_⟩|⟨h1,h2,h3⟩|⟨h1,c,h2,h3,h4'⟩<;>try omega
   ·obtain⟨i,hi,he⟩:=two_in.1 h2
    unfold T.w
    rw[if_neg h4,he]
    match i,hi with
    |0,_|1,_|2,_|3,_|4,_=>decide
   ·unfold T.w;rw[if_neg h4,h3];exact Nat.one_pos
  ·refine e 32 ?_
   unfold ajB
   rw[if_neg h4,if_neg h5];rfl
theorem aj_rnT {t:T}{p:Pc}{l:List Nat}(ho: ∀x,some x∈p→x.OK)(h:rnT p l):ajB t (hd 0 p)=ajB t (l.getD 0 0):=by
 match p,h,ho with
 | [],h,_=>cases h;rfl
 |none::r,⟨c,m,e,hc,_⟩,_=>
  subst e
  show ajB t 32=ajB t c
  rcases hc with rfl|rfl
  ·rfl
  ·exact(aj_lf t).symm
 |some x::r,⟨m,e,_⟩,ho=>
  have hp:=w_pos (ho x List.mem_cons_self)
  rw[hd_some _ _ _ hp,e,getD_app hp]
theorem lexS_white (s:ByteArray)(a c:Nat)(hc:c=32∨c=10)(h:(tb s).drop a=c::(tb s).drop (a+1)):lexS s a=lexS s (a+1):=by
 have hg:a+gapN ((tb s).drop a)=a+1+gapN ((tb s).drop (a+1)):=by
  rw[h,gap_blank _ (by rcases hc with rfl|rfl<;>rfl)];omega
 rw[lexS.eq_def s a,lexS.eq_def s (a+1)]
 simp only [hg]
theorem lex_rnT (s:ByteArray): ∀(ps:Pc) (a:Nat),a≤(tb s).length→rnT ps ((tb s).drop a)→(∀t,some t∈ps→t.OK)→chain 0 ps=true→
  ∃l:List Tk,l.map tkT=ps.filterMap id∧lexS s a=(l,(tb s).length,true)
 | [],a,ha,hd,_,_=>by
   have hd:(tb s).drop a= []:=hd
   have h0:a=(tb s).length:=by
    have:=congrArg List.length hd
    simp only [List.length_drop,List.length_nil]at this
    omega
   refine⟨[],rfl,?_⟩
   rw[lexS.eq_def,hd]
   have hg:gapN []=0:=gap_stop rfl rfl
   rw[hg,dif_neg (by omega)]
   subst h0;rfl
 |none::ps,a,ha,⟨c,m,hd,hc,hm⟩,ho,hch=>by
  have hd1:(tb s).drop (a+1)=m:=drop_step (x:=[c]) hd
  have hlt:a < (tb s).length:=by
   have:=congrArg List.length hd
   simp only [List.length_drop,List.length_cons]at this
   omega
  obtain⟨l,h1,h2⟩:=lex_rnT s ps (a+1) hlt (by rw[hd1];exact hm) (fun t h=>ho t (List.mem_cons_of_mem _ h)) hch
  refine⟨l,by simpa using h1,?_⟩
  rw[lexS_white s a c hc (by rw[hd,hd1]),h2]
 |some t::ps,a,ha,⟨m,hd,hm⟩,ho,hc=>by
  rw[chain,Bool.and_eq_true]at hc
  have hlen:=congrArg List.length hd
  simp only [List.length_drop,List.length_append]at hlen
  have e1:tb (s.extract a (tb s).length)=t.w++m:=by rw[tb_ext,List.take_length];exact hd
  have haj:ajB t (m.getD 0 0)=true:=by
   rw[←aj_rnT (fun x h=>ho x (List.mem_cons_of_mem _ h)) hm];exact hc.1
  obtain⟨hk,hg,hw⟩:=tok_is e1 (ho t List.mem_cons_self) haj
  rw[tb_ext,List.take_length]at hg
  obtain⟨l,h1,h2⟩:=lex_rnT s ps (a+t.w.length) (by omega) (by rw[drop_step hd];exact hm) (fun t h=>ho t (List.mem_cons_of_mem _ h)) hc.2
  have heq:=lexS.eq_def s a
  simp only [hg,Nat.add_zero]at heq
  rw[dif_pos (by omega),dif_pos ⟨hk.ok,by rw[hk.w];exact hw⟩,hk.w,h2]at heq
  refine⟨_::l,?_,heq⟩
  simp only [List.map_cons,List.filterMap_cons,id,h1]
  congr 1
  obtain⟨k,b,n⟩:=t
  simp only [tkT,hk.k,hk.b,hk.n]
end Go.Vm
end

section
set_option linter.all false
set_option maxRecDepth 100000
set_option maxHeartbeats 4000000
namespace Go.Vm
open Go.Proofs
def pcsM:List Mv→Pc
 | []=>[]
 |m::l=>some ⟨4,tb m.p,0⟩::none::m2 58 61::none::(pcs m.e++mk 59::none::pcsM l)
def txtM:List Mv→List Nat
 | []=>[]
 |m::l=>(39::(tb m.p++[39]))++([32,58,61,32]++(render (pcs m.e)++([59,10]++txtM l)))
theorem rnT_M: ∀l:List Mv,rnT (pcsM l) (txtM l)
 | []=>rfl
 |m::l=>⟨_,rfl,32,_,rfl, .inl rfl,[32]++(render (pcs m.e)++([59,10]++txtM l)),rfl,32,_,rfl, .inl rfl,rnT_app (rnT_render _) ⟨10::txtM l,rfl,10,_,rfl, .inr rfl,rnT_M l⟩⟩
def okMv (m:Mv):Bool:=pathN (tb m.p)&&(smallB m.e&&allB m.e)
def oneM:List Mv→Bool
 | []=>true
 |m::l=> !hasP l m.p&&oneM l
theorem OK_M: ∀l:List Mv,(∀m∈l,okMv m=true∧m.e.rng)→okP (pcsM l)∧chain 0 (pcsM l)=true
 | [],_=>⟨trivial,rfl⟩
 |m::l,h=>by
  obtain⟨h1,h2⟩:=h m List.mem_cons_self
  obtain⟨h3,h4⟩:=OK_M l fun x hx=>h x (List.mem_cons_of_mem _ hx)
  unfold okMv at h1
  simp only [Bool.and_eq_true]at h1
  have hp:=PV_pcs m.e h1.2.2 h2
  refine⟨⟨OK_path h1.1,OK_m2 rfl,(okP_app _ _).2 ⟨hp.ok,OK_mk rfl,h3⟩⟩,?_⟩
  show chain 0 (some ⟨4,tb m.p,0⟩::none::m2 58 61::none::(pcs m.e++mk 59::none::pcsM l))=true
  rw[ch_path,ch_none,ch_m2,ch_none,chain_app,hd_mk,hp.ch 59 rfl,ch_mk,aj_mk (by decide),ch_none,h4]
  rfl
def lenM:List Mv→Nat
 | []=>0
 |m::l=>tL m.e+3+lenM l
theorem fm_M: ∀l:List Mv,(fm (pcsM l)).length=lenM l
 | []=>rfl
 |m::l=>by
  show(fm (some ⟨4,tb m.p,0⟩::none::m2 58 61::none::(pcs m.e++mk 59::none::pcsM l))).length=_
  simp only [fm_some,fm_none,m2,mk,fm_app,List.length_cons,List.length_append,fm_M l,lenM,tL]
  omega
theorem len_M: ∀l:List Mv,l.length≤lenM l
 | []=>Nat.le_refl _
 |m::l=>by have:=len_M l;simp only [List.length_cons,lenM];omega
theorem hasP_app (a b:List Mv)(s:ByteArray):hasP (a++b) s=(hasP a s || hasP b s):=by unfold hasP;rw[List.any_append]
def freeM (a l:List Mv):Prop:= ∀m∈l,hasP a m.p=false
theorem isMt_T {t:Tk}{w:List Nat}{n:Int}(h:tkT t=⟨5,w,n⟩){b:ByteArray}(hb:tb b=w):isMt t b=true:=by
 unfold isMt
 have h1:t.k=5:=congrArg T.k h
 have h2:tb t.s=w:=congrArg T.b h
 rw[h1,h2,hb,decide_eq_true rfl,decide_eq_true rfl];rfl
section
variable {L : List Tk} (hN : L.length ≤ 1000000)
include hN
theorem part_back {e:Ex}{i:Nat}(h:allB e=true)(hm:smallB e=true)(ha:Az L i (fm (pcs e)))(hn:tkT (tkA L (i+tL e))=⟨5,[59],0⟩)(hl:i+tL e < L.length):partS L i=(e,((i+tL e:Nat):Int),0):=by
 obtain⟨g,st⟩:=good_all (l:=L) e h
 have hev:=ev_of g st .arrow (by simp) ha (by rw[hn];rfl)
 have hread:readS L i= .ok e (i+tL e):=by
  unfold readS
  refine hev _ ?_
  unfold fuel
  omega
 unfold partS
 rw[hread]
 simp only [hm,h,Bool.not_true,cond_false]
theorem mRun_back: ∀(l a:List Mv) (i n:Nat),Az L i (fm (pcsM l))→i+lenM l+1=L.length→(tkA L (i+lenM l)).k=6→(∀m∈l,okMv m=true)→freeM a l→oneM l=true→a.length+l.length≤40→l.length < n→mRun L n a i= .ok (a++l)
 | [],a,i,n+1,_,_,hk,_,_,_,_,_=>by
   have hk:(tkA L i).k=6:=hk
   rw[mRun,mStep,hk,List.append_nil]
   rfl
 |m::l,a,i,n+1,ha,hL,hk,hok,hf,h1,hc,hn=>by
  have ha:Az L i (fm (some ⟨4,tb m.p,0⟩::none::m2 58 61::none::(pcs m.e++mk 59::none::pcsM l))):=ha
  simp only [fm_some,fm_none,m2,mk,fm_app,Az,at_app]at ha
  obtain⟨t1,t2,t3,t4,t5⟩:=ha
  have hl0:lenM (m::l)=tL m.e+3+lenM l:=rfl
  rw[hl0]at hL hk
  have hm:=hok m List.mem_cons_self
  unfold okMv at hm
  simp only [Bool.and_eq_true]at hm
  simp only [oneM,Bool.and_eq_true,Bool.not_eq_true']at h1
  have hcl:a.length+(l.length+1)≤40:=hc
  have hnl:l.length+1 < n+1:=hn
  have k1:(tkA L i).k=4:=congrArg T.k t1
  have k2:(tkA L i).s=m.p:=tb_inj (congrArg T.b t1)
  have hfa:=hf m List.mem_cons_self
  have hpart:=part_back hN hm.2.2 hm.2.1 t3 t4 (by omega)
  have hmv:moveS L (i+1)=(m.e,((i+1+1+tL m.e:Nat):Int)+1,0):=by
   unfold moveS
   rw[isMt_T t2 (b:=bs [58,61]) rfl]
   simp only [hpart,decide_true,Int.toNat_natCast]
   have:isMt (tkA L (i+1+1+tL m.e)) (bs [59])=true:=isMt_T t4 rfl
   rw[this]
  have herr:errS (tkA L i) a=0:=by
   unfold errS
   rw[k1,k2,hfa,decide_eq_false (show ¬(a.length:Int)=40 by omega)]
   rfl
  have hstep:mStep L a i= .inl (a++[m],i+1+1+tL m.e+1):=by
   unfold mStep
   rw[k1,herr,hmv]
   have:((((i+1+1+tL m.e:Nat):Int)+1).toNat)=i+1+1+tL m.e+1:=by omega
   simp only [decide_true,this,k2,show decide ((4:Int)=6)=false from rfl]
  rw[mRun,hstep]
  simp only
  have hfr:freeM (a++[m]) l:=fun x hx=>by
   rw[hasP_app,hf x (List.mem_cons_of_mem _ hx),Bool.false_or]
   cases hq:hasP [m] x.p with
   |false=>rfl
   |true=>
    exfalso
    have e1:tb m.p=tb x.p:=by
     unfold hasP at hq
     simpa using hq
    have:hasP l m.p=true:=by
     unfold hasP
     refine List.any_eq_true.2 ⟨x,hx,decide_eq_true e1.symm⟩
    rw[h1.1]at this;cases this
  have:=mRun_back l (a++[m]) (i+1+1+tL m.e+1) n (by simpa [tL]using t5) (by omega) (by rw[←hk];congr 2;omega) (fun x hx=>hok x (List.mem_cons_of_mem _ hx)) hfr h1.2 (by simp only [List.length_append,List.length_singleton];omega) (by omega)
  rw[this,List.append_assoc];rfl
end
theorem mlS_back (s:ByteArray)(l:List Mv)(hs:tb s=txtM l)(hl:(tb s).length≤6000)(hok: ∀m∈l,okMv m=true∧m.e.rng)(h1:oneM l=true)(hc:l.length≤40):
  mlS s= .val [.sl 7 (mrows l), .int .i64 (s.size:Int), .int .i64 0]:=by
 obtain⟨o1,o2⟩:=OK_M l hok
 obtain⟨t,q1,q2⟩:=lex_rnT s (pcsM l) 0 (Nat.zero_le _) (by rw[List.drop_zero,hs];exact rnT_M l) (okP_iff.1 o1) o2
 rw[fm_eq]at q1
 have hlen:t.length=lenM l:=by rw[←fm_M,←q1,List.length_map]
 have ht:toksS s=t++[endT s]:=by unfold toksS;rw[q2]
 have hN:=(LOK_toks s (by rw[←tb_len];omega)).few
 have haz:Az (toksS s) 0 (fm (pcsM l)):=by
  have:=az_of (l:=[]) (b:=[endT s]) q1
  rw[ht];exact this
 have hend:tkA (toksS s) (lenM l)=endT s:=by
  unfold tkA
  rw[ht,List.getD_eq_getElem?_getD,←hlen]
  simp
 have hll:=len_M l
 have hL:lenM l+1=(toksS s).length:=by rw[ht,List.length_append,hlen];rfl
 have hr:=mRun_back hN l [] 0 (toksS s).length haz (by omega) (by rw[Nat.zero_add,hend];rfl) (fun m hm=>(hok m hm).1) (fun m _=>rfl) h1 (by simpa using hc) (by omega)
 unfold mlS
 rw[q2,decide_eq_false (by omega: ¬(6000:Int) < ((tb s).length:Int))]
 simp only [hr,List.nil_append,encM]
end Go.Vm
end

section
set_option linter.all false
set_option maxRecDepth 100000
set_option maxHeartbeats 4000000
namespace Go.Vm
open Go.Proofs
def Mv.v (m:Mv):V:=match m with
 |⟨p, .mk k n s o a u⟩=> .agg [.d (.str p), .d (.int .i64 k), .d (.int .i64 n), .d (.str s), .d (.int .i64 o), .d (.sl 1 (srows a)), .d (.sl 6 (Ex.rows u))]
theorem c_mFew (l:List Mv): ∃b,cF 11 [.d (.sl 7 (mrows l))]=some (.val [.bool b])∧(b=true→l.length≤50∧ ∀m∈l,m.p.size≤300∧m.e.size≤200∧m.e.fine):=by
 have core: ∃p,g11 sy eF (mrows l)=some p∧ ∃b,p= .val [.bool b]∧(b=true→l.length≤50∧ ∀m∈l,m.p.size≤300∧m.e.size≤200∧m.e.fine):=by
  unfold g11
  refine loopF_ex (fun i:Nat=>[.sl 7 (mrows l), .int .i64 (i:Int)]) (fun i=>i≤l.length∧i≤60∧ ∀m∈l.take i,m.p.size≤300∧m.e.size≤200∧m.e.fine) (fun i=>l.length - i) (fun i hi=> ?_) 0 ⟨Nat.zero_le _,Nat.zero_le _,by simp⟩
  obtain⟨h1,h60,h2⟩:=hi
  by_cases hlt:i < l.length
  ·by_cases h6:i < 60
   ·have hx:=List.getElem?_eq_getElem hlt
    have htk:l.take (i+1)=l.take i++[l[i]]:=by rw[List.take_add_one,hx];rfl
    generalize l[i]=m at hx htk
    obtain⟨p,k,n,s,o,a,w⟩:=m
    have hr:sy.row (mrows l) (i:Int)= [.str p, .int .i64 k, .int .i64 n, .str s, .int .i64 o, .sl 1 (srows a), .sl 6 (Ex.rows w)]:=mrow_at hx
    have sk: ∀(x:D) (l:List D),sy.skip 1 (x::l)=l:=fun _ _=>rfl
    obtain⟨b,hb,hb2⟩:=c_rSmall k n s o a w
    have w1:IntKind.i64.wrap ((i:Int)+1)=((i+1:Nat):Int):=by rw[wrap_id (by omega) (by omega)];omega
    have d6:decide ((i:Int) < 60)=true:=decide_eq_true (by omega)
    have l0:=ilt_at hlt
    have i0:=inr_at hlt
    by_cases h3:300 < p.size
    ·right
     refine⟨_,?_,false,rfl,fun h=>by cases h⟩
     simp only [go1,Nat.reduceAdd,Int.reduceEq,Int.reduceLT,Int.reduceLE,Int.reduceSub,Int.reduceAdd,mrows_len,l0,i0,hr,d6,decide_eq_true (show(300:Int) < (p.size:Int) by omega)]
    ·have d3:decide ((300:Int) < (p.size:Int))=false:=decide_eq_false (by omega)
     cases b with
     |false=>
      right
      refine⟨_,?_,false,rfl,fun h=>by cases h⟩
      simp only [go1,Nat.reduceAdd,Int.reduceEq,Int.reduceLT,Int.reduceLE,Int.reduceSub,Int.reduceAdd,mrows_len,l0,i0,hr,d6,d3,sk,oE,hb]
     |true=>
      left
      obtain⟨hz,hfn⟩:=hb2 rfl
      refine⟨i+1,?_,⟨hlt,h6,fun m hm=> ?_⟩,by omega⟩
      ·simp only [go1,Nat.reduceAdd,Int.reduceEq,Int.reduceLT,Int.reduceLE,Int.reduceSub,Int.reduceAdd,mrows_len,l0,i0,hr,d6,d3,sk,oE,hb,w1]
      ·rw[htk]at hm
       rcases List.mem_append.1 hm with hm|hm
       ·exact h2 m hm
       ·rw[List.mem_singleton.1 hm];exact⟨by show p.size≤300;omega,hz,hfn⟩
   ·right
    refine⟨_,?_,false,rfl,fun h=>by cases h⟩
    simp only [go1,Nat.reduceAdd,Int.reduceEq,Int.reduceLT,Int.reduceLE,Int.reduceSub,Int.reduceAdd,mrows_len,ilt_at hlt,decide_eq_false (show ¬(i:Int) < 60 by omega),decide_eq_false (show ¬(l.length:Int)≤50 by omega)]
  ·right
   have:i=l.length:=by omega
   subst this
   rw[List.take_length]at h2
   refine⟨_,?_,decide ((l.length:Int)≤50),rfl,fun h=>⟨by have:=of_decide_eq_true h;omega,h2⟩⟩
   simp only [go1,Nat.reduceAdd,Int.reduceEq,Int.reduceLT,Int.reduceLE,Int.reduceSub,Int.reduceAdd,mrows_len,ilt_self]
 obtain⟨p,h1,b,rfl,h2⟩:=core
 exact⟨b,cOf (by kernel_rfl) rfl ((g11_eq _ _ _).trans h1),h2⟩
end Go.Vm
end

section
set_option linter.all false
set_option maxRecDepth 100000
set_option maxHeartbeats 4000000
namespace Go.Vm
open Go.Proofs
theorem rngs_app: ∀a b:List Ex,Ex.rngs (a++b)↔Ex.rngs a∧Ex.rngs b
 | [],b=>by simp [Ex.rngs]
 |e::a,b=>by simp [Ex.rngs,rngs_app a b,and_assoc]
def TN (l:List Tk):Prop:= ∀j,(tkA l j).n < 9223372036854775808
theorem n0:(0:Int) < 9223372036854775808:=by decide
theorem n1:(1:Int) < 9223372036854775808:=by decide
def HG (p:PR):Prop:= ∀nt i e j,p nt i= .ok e j→e.rng
section
variable {l : List Tk} (ht : TN l) {n : Nat} {p : PR} (hp : HG p)
include ht hp
theorem left_rg (side:Nt)(a m i:Nat)(e:Ex)(j:Nat)(h:leftS l n p side a m i= .ok e j):e.rng:=by
 unfold leftS at h
 obtain⟨e1,k,h1,h⟩:=bind_inv h
 refine iterS_inv (fun x:Ex × Nat=>x.1.rng) (fun r j=>r.rng) (fun x y hx hs=> ?_) (fun x r j hx hs=> ?_) n (e1,k) e j (hp _ _ _ _ h1) h
 ·obtain⟨e2,i2⟩:=x
  rw[leftT]at hs
  split at hs
  ·cases hs
  ·split at hs<;>cases hs
   have:=hp _ _ _ _ ‹_›
   (simp only [binE,ex,Ex.rng,Ex.rngs,rngs_app]at*;simp_all [n0,n1])
 ·obtain⟨e2,i2⟩:=x
  rw[leftT]at hs
  split at hs
  ·cases hs;exact hx
  ·split at hs<;>cases hs
theorem list_rg (en:ByteArray)(i:Nat)(e:List Ex)(j:Nat)(h:listS l n p en i= .ok e j):Ex.rngs e:=by
 unfold listS at h
 obtain⟨e1,k,h1,h⟩:=bind_inv h
 have h0:=hp _ _ _ _ h1
 refine iterS_inv (fun x:List Ex × Nat=>Ex.rngs x.1) (fun r j=>Ex.rngs r) (fun x y hx hs=> ?_) (fun x r j hx hs=> ?_) n ([e1],k) e j (by(simp only [binE,ex,Ex.rng,Ex.rngs,rngs_app]at*;simp_all [n0,n1])) h
 ·obtain⟨e2,i2⟩:=x
  rw[listT]at hs
  split at hs
  ·split at hs<;>cases hs
   have:=hp _ _ _ _ ‹_›
   (simp only [binE,ex,Ex.rng,Ex.rngs,rngs_app]at*;simp_all [n0,n1])
  ·cases hs
 ·obtain⟨e2,i2⟩:=x
  rw[listT]at hs
  split at hs
  ·split at hs<;>cases hs
  ·obtain⟨_,k2,h2,h⟩:=bind_inv (Sum.inr.inj hs)
   have:=needS_le h2
   cases h
   (simp only [binE,ex,Ex.rng,Ex.rngs,rngs_app]at*;simp_all [n0,n1])
theorem post_rg (i:Nat)(e:Ex)(j:Nat)(h:postS l n p i= .ok e j):e.rng:=by
 unfold postS at h
 obtain⟨e1,k,h1,h⟩:=bind_inv h
 refine iterS_inv (fun x:Ex × Nat=>x.1.rng) (fun r j=>r.rng) (fun x y hx hs=> ?_) (fun x r j hx hs=> ?_) n (e1,k) e j (hp _ _ _ _ h1) h
 ·obtain⟨e2,i2⟩:=x
  rw[postT]at hs
  split at hs
  ·split at hs<;>cases hs
   obtain⟨_,k2,h2,h⟩:=bind_inv ‹_›
   obtain⟨_,k3,h3,h⟩:=bind_inv h
   have:=hp _ _ _ _ h2
   have:=needS_le h3
   cases h
   (simp only [binE,ex,Ex.rng,Ex.rngs,rngs_app]at*;simp_all [n0,n1])
  ·split at hs
   ·split at hs<;>cases hs
    (simp only [binE,ex,Ex.rng,Ex.rngs,rngs_app]at*;simp_all [n0,n1])
   ·cases hs
 ·obtain⟨e2,i2⟩:=x
  rw[postT]at hs
  split at hs
  ·split at hs<;>cases hs
  ·split at hs
   ·split at hs<;>cases hs
   ·cases hs;exact hx
theorem callU_rg (nm:ByteArray)(es:List Ex)(i:Nat)(e:Ex)(j:Nat)(he:Ex.rngs es)(h:callU l p nm es i= .ok e j):e.rng:=by
 unfold callU at h
 split at h
 ·obtain⟨_,k2,h2,h⟩:=bind_inv h
  have:=hp _ _ _ _ h2
  cases h
  (simp only [binE,ex,Ex.rng,Ex.rngs,rngs_app]at*;simp_all [n0,n1])
 ·cases h
  (simp only [binE,ex,Ex.rng,Ex.rngs,rngs_app]at*;simp_all [n0,n1])
theorem word_rg (i:Nat)(e:Ex)(j:Nat)(h:wordS l n p i= .ok e j):e.rng:=by
 unfold wordS at h
 split at h
 ·cases h;(simp only [binE,ex,Ex.rng,Ex.rngs,rngs_app]at*;simp_all [n0,n1])
 split at h
 ·cases h;(simp only [binE,ex,Ex.rng,Ex.rngs,rngs_app]at*;simp_all [n0,n1])
 split at h
 ·obtain⟨_,k2,h2,h⟩:=bind_inv h
  have:=list_rg ht hp _ _ _ _ h2
  cases h
  (simp only [binE,ex,Ex.rng,Ex.rngs,rngs_app]at*;simp_all [n0,n1])
 split at h
 ·unfold roundS at h
  obtain⟨_,k1,h1,h⟩:=bind_inv h
  have:=hp _ _ _ _ h1
  split at h
  ·obtain⟨_,k2,h2,h⟩:=bind_inv h
   obtain⟨_,k3,h3,h⟩:=bind_inv h
   obtain⟨_,k4,h4,h⟩:=bind_inv h
   obtain⟨_,k5,h5,h⟩:=bind_inv h
   obtain⟨_,k6,h6,h⟩:=bind_inv h
   have:=needS_le h2;have:=hp _ _ _ _ h3;have:=needS_le h4;have:=hp _ _ _ _ h5;have:=needS_le h6
   cases h
   (simp only [binE,ex,Ex.rng,Ex.rngs,rngs_app]at*;simp_all [n0,n1])
  ·obtain⟨_,k2,h2,h⟩:=bind_inv h
   have:=needS_le h2
   cases h
   (simp only [binE,ex,Ex.rng,Ex.rngs,rngs_app]at*;simp_all [n0,n1])
 split at h
 ·unfold mergeS at h
  obtain⟨nm,k1,h1,h⟩:=bind_inv h
  obtain⟨_,k2,h2,h⟩:=bind_inv h
  obtain⟨q,k3,h3,h⟩:=bind_inv h
  have:=nameS_le h1;have:=needS_le h2
  have key:=iterS_inv (fun x:List ByteArray × List Ex × Nat × Bool=>Ex.rngs x.2.1) (fun r j=>Ex.rngs r.2) (fun x y hx hs=> ?_) (fun x r j hx hs=> ?_) n ([],[],k2,true) q k3 (by simp [Ex.rngs]) h3
  ·cases h
   exact⟨n0,key⟩
  ·obtain⟨ar,es,i2,b⟩:=x
   cases b with
   |false=>cases hs
   |true=>
    rw[mergeT]at hs
    split at hs
    ·obtain⟨a,g1,r1,r⟩:=bind_inv ‹_›
     obtain⟨_,g2,r2,r⟩:=bind_inv r
     obtain⟨e2,g3,r3,r⟩:=bind_inv r
     obtain⟨_,g4,r4,r⟩:=bind_inv r
     have z:=hp _ _ _ _ r3
     cases r
     split at hs<;>cases hs<;>exact(rngs_app _ _).2 ⟨hx,z,trivial⟩
    ·cases hs
    ·cases hs
  ·obtain⟨ar,es,i2,b⟩:=x
   cases b with
   |false=>cases hs;exact hx
   |true=>
    rw[mergeT]at hs
    split at hs
    ·split at hs<;>cases hs
    ·cases hs
    ·cases hs
 split at h
 ·unfold choiceS at h
  obtain⟨_,k1,h1,h⟩:=bind_inv h
  obtain⟨_,k2,h2,h⟩:=bind_inv h
  obtain⟨_,k3,h3,h⟩:=bind_inv h
  obtain⟨_,k4,h4,h⟩:=bind_inv h
  obtain⟨_,k5,h5,h⟩:=bind_inv h
  have:=hp _ _ _ _ h1;have:=needS_le h2;have:=hp _ _ _ _ h3;have:=needS_le h4;have:=hp _ _ _ _ h5
  cases h
  (simp only [binE,ex,Ex.rng,Ex.rngs,rngs_app]at*;simp_all [n0,n1])
 ·obtain⟨nm,k1,h1,h⟩:=bind_inv h
  have:=nameS_le h1
  split at h
  ·unfold callS at h
   split at h
   ·exact callU_rg ht hp _ [] _ _ _ trivial h
   ·obtain⟨es,k2,h2,h⟩:=bind_inv h
    have q2:=list_rg ht hp _ _ _ _ h2
    exact callU_rg ht hp _ _ _ _ _ q2 h
  ·cases h
   (simp only [binE,ex,Ex.rng,Ex.rngs,rngs_app]at*;simp_all [n0,n1])
theorem step_rg (nt:Nt)(i:Nat)(e:Ex)(j:Nat)(h:ntS l n p nt i= .ok e j):e.rng:=by
 cases nt with
 |or=>exact left_rg ht hp _ _ _ _ _ _ h
 |and=>exact left_rg ht hp _ _ _ _ _ _ h
 |sum=>exact left_rg ht hp _ _ _ _ _ _ h
 |prod=>exact left_rg ht hp _ _ _ _ _ _ h
 |post=>exact post_rg ht hp _ _ _ h
 |arrow=>
  obtain⟨_,k1,h1,h⟩:=bind_inv (show arrowS l p i= .ok e j from h)
  have:=hp _ _ _ _ h1
  split at h
  ·obtain⟨_,k2,h2,h⟩:=bind_inv h
   have:=hp _ _ _ _ h2
   cases h
   (simp only [binE,ex,Ex.rng,Ex.rngs,rngs_app]at*;simp_all [n0,n1])
  ·cases h;exact this
 |fby=>
  obtain⟨_,k1,h1,h⟩:=bind_inv (show fbyS l p i= .ok e j from h)
  have:=hp _ _ _ _ h1
  split at h
  ·obtain⟨_,k2,h2,h⟩:=bind_inv h
   have:=hp _ _ _ _ h2
   cases h
   (simp only [binE,ex,Ex.rng,Ex.rngs,rngs_app]at*;simp_all [n0,n1])
  ·cases h;exact this
 |cmp=>
  obtain⟨_,k1,h1,h⟩:=bind_inv (show cmpS l p i= .ok e j from h)
  have:=hp _ _ _ _ h1
  split at h
  ·cases h;exact this
  ·obtain⟨_,k2,h2,h⟩:=bind_inv h
   have:=hp _ _ _ _ h2
   cases h
   (simp only [binE,ex,Ex.rng,Ex.rngs,rngs_app]at*;simp_all [n0,n1])
 |un=>
  have h:unS l p i= .ok e j:=h
  unfold unS at h
  split at h
  ·obtain⟨_,k2,h2,h⟩:=bind_inv h
   have:=hp _ _ _ _ h2
   cases h
   (simp only [binE,ex,Ex.rng,Ex.rngs,rngs_app]at*;simp_all [n0,n1])
  split at h
  ·obtain⟨_,k2,h2,h⟩:=bind_inv h
   have:=hp _ _ _ _ h2
   cases h
   (simp only [binE,ex,Ex.rng,Ex.rngs,rngs_app]at*;simp_all [n0,n1])
  split at h
  ·obtain⟨_,k2,h2,h⟩:=bind_inv h
   have:=hp _ _ _ _ h2
   cases h
   (simp only [binE,ex,Ex.rng,Ex.rngs,rngs_app]at*;simp_all [n0,n1])
  ·exact hp _ _ _ _ h
 |atom=>
  have h:atomS l n p i= .ok e j:=h
  have:=ht i
  unfold atomS at h
  split at h
  ·cases h;(simp only [binE,ex,Ex.rng,Ex.rngs,rngs_app]at*;simp_all [n0,n1])
  split at h
  ·cases h;(simp only [binE,ex,Ex.rng,Ex.rngs,rngs_app]at*;simp_all [n0,n1])
  split at h
  ·cases h;(simp only [binE,ex,Ex.rng,Ex.rngs,rngs_app]at*;simp_all [n0,n1])
  ·exact word_rg ht hp _ _ _ h
end
theorem prs_HG {l:List Tk}(ht:TN l): ∀n,HG (prs l n)
 |0=>fun nt i e j h=>by cases h
 |n+1=>fun nt i e j h=>step_rg ht (prs_HG ht n) nt i e j h
theorem readS_rg {l:List Tk}(ht:TN l){i j:Nat}{e:Ex}(h:readS l i= .ok e j):e.rng:=prs_HG ht _ _ _ _ _ h
theorem pnum_lt (s:ByteArray)(h:pokB s=true):pnumI s < 9223372036854775808:=by
 unfold pokB at h
 unfold pnumI
 cases hp:Lib.parseIntB 64 s.data.toList with
 |ok v=>exact(Lib.parseIntB_bounds hp).2
 |_=>rw[hp]at h;cases h
def TI (t:Tk):Prop:=t.n < 9223372036854775808∧(t.k=4→pathN (tb t.s)=true)
theorem nextT0_I (s:ByteArray)(h:(nextT0 s).ok=true):(nextT0 s).n < 9223372036854775808∧((nextT0 s).k=4→pathN (tb (nextT0 s).s)=true):=by
 have e4: ∀k:Int,k=4→k≠1∧k≠2∧k≠3∧k≠5:=fun k h=>by omega
 unfold nextT0 at h ⊢
 simp only at h ⊢
 split
 ·unfold wordT
  simp only
  split
  ·exact⟨n0,fun h=>by cases h⟩
  ·exact⟨n0,fun h=>by cases h⟩
 ·rename_i h1 h2
  rw[h1,h2]at h
  have h:(numberT s).ok=true:=h
  unfold numberT at h ⊢
  simp only [Bool.and_eq_true]at h
  exact⟨pnum_lt _ h.1,fun h=>by cases h⟩
 ·rename_i h1 h2 h3
  rw[h1,h2,h3]at h
  have h:(pathT s).ok=true:=h
  unfold pathT at h ⊢
  split
  ·rename_i hi;rw[hi]at h;cases h
  ·rename_i i hi
   rw[hi]at h
   exact⟨n0,fun _=>h⟩
 ·unfold markT
  split
  ·exact⟨n0,fun h=>by cases h⟩
  ·exact⟨n0,fun h=>by cases h⟩
  ·exact⟨n0,fun h=>by cases h⟩
theorem lexS_I (s:ByteArray): ∀(m a:Nat),(tb s).length - a≤m→ ∀t∈(lexS s a).1,TI t
 |m,a,hm=>by
  rw[lexS]
  split
  ·rename_i hp
   split
   ·rename_i h
    have ih:=lexS_I s (m - 1) (a+gapN ((tb s).drop a)+(nextT0 (s.extract (a+gapN ((tb s).drop a)) (tb s).length)).w) (by omega)
    intro t ht
    rcases List.mem_cons.1 ht with rfl|ht
    ·exact nextT0_I _ h.1
    ·exact ih t ht
   ·simp
  ·simp
 termination_by m a=>(tb s).length - a
 decreasing_by omega
theorem toks_I (s:ByteArray)(j:Nat):TI (tkA (toksS s) j):=by
 refine tkA_prop (Q:=TI) ⟨n0,fun h=>by cases h⟩ (fun t ht=> ?_) j
 rcases List.mem_append.1 ht with h|h
 ·exact lexS_I s _ 0 (Nat.le_refl _) t h
 ·rw[List.mem_singleton.1 h];exact⟨n0,fun h=>by cases h⟩
end Go.Vm
end

section
set_option linter.all false
set_option maxRecDepth 100000
set_option maxHeartbeats 4000000
namespace Go.Vm
open Go.Proofs
theorem partS_good {l:List Tk}(hn:TN l){i:Nat}{e:Ex}{p:Int}(h:partS l i=(e,p,0)):smallB e=true∧allB e=true∧e.rng:=by
 unfold partS at h
 cases hR:readS l i with
 |out=>rw[hR]at h;cases h
 |bad j=>rw[hR]at h;cases h
 |ok e2 j=>
  rw[hR]at h
  have hr:=readS_rg hn hR
  simp only at h
  cases h1:smallB e2 with
  |false=>rw[h1]at h;cases h
  |true=>
   cases h2:allB e2 with
   |false=>rw[h1,h2]at h;cases h
   |true=>
    rw[h1,h2]at h
    cases h
    exact⟨h1,h2,hr⟩
theorem moveS_good {l:List Tk}(hn:TN l){i:Nat}{e:Ex}{p:Int}(h:moveS l i=(e,p,0)):smallB e=true∧allB e=true∧e.rng:=by
 unfold moveS at h
 split at h
 ·cases h
 ·split at h
  rename_i e2 p2 r hp
  split at h
  ·rename_i hr
   cases h
   exact absurd hr (by decide)
  ·cases h
  ·rename_i hr _
   have hr:=of_decide_eq_true hr
   subst hr
   cases h
   exact partS_good hn hp
structure GM (o:List Mv):Prop where
 ok: ∀m∈o,okMv m=true∧m.e.rng
 one:oneM o=true
 few:o.length≤40
theorem oneM_snoc: ∀ {o:List Mv} {m:Mv},oneM o=true→hasP o m.p=false→oneM (o++[m])=true
 | [],m,_,_=>rfl
 |x::o,m,h,h2=>by
  simp only [oneM,Bool.and_eq_true,Bool.not_eq_true']at h
  have h3:decide (tb x.p=tb m.p)=false∧hasP o m.p=false:=by
   unfold hasP at h2
   rw[List.any_cons,Bool.or_eq_false_iff]at h2
   exact h2
  have h4:decide (tb m.p=tb x.p)=false:=decide_eq_false fun e=>of_decide_eq_false h3.1 e.symm
  simp only [List.cons_append,oneM,hasP_app,h.1,Bool.false_or,oneM_snoc h.2 h3.2,Bool.and_true,Bool.not_eq_true']
  unfold hasP
  rw[List.any_cons,h4];rfl
theorem mRun_good {l:List Tk}(hT: ∀j,TI (tkA l j)): ∀(n:Nat) (o:List Mv) (i:Nat) (r:List Mv),GM o→mRun l n o i= .ok r→GM r
 |0,_,_,_,_,h=>by cases h
 |n+1,o,i,r,hg,h=>by
  rw[mRun]at h
  cases hs:mStep l o i with
  |inr q=>
   rw[hs]at h
   simp only at h
   subst h
   unfold mStep at hs
   split at hs
   ·cases hs;exact hg
   ·cases hs
   ·split at hs
    split at hs<;>cases hs
  |inl y=>
   rw[hs]at h
   unfold mStep at hs
   split at hs
   ·cases hs
   ·cases hs
   ·rename_i he
    split at hs
    rename_i e p q hm
    split at hs
    ·cases hs
    ·rename_i hq
     have hq:=of_decide_eq_true hq
     subst hq
     cases hs
     have he:=of_decide_eq_true he
     unfold errS at he
     split at he
     ·cases he
     ·cases he
     ·cases he
     ·rename_i h4 h5 h6
      have h4:=of_decide_eq_true h4
      have h6:=of_decide_eq_false h6
      obtain⟨g1,g2,g3⟩:=moveS_good (fun j=>(hT j).1) hm
      have hf:=hg.few
      refine mRun_good hT n _ _ r ⟨fun m hmm=> ?_,oneM_snoc hg.one h5,?_⟩ h
      ·rcases List.mem_append.1 hmm with hmm|hmm
       ·exact hg.ok m hmm
       ·rw[List.mem_singleton.1 hmm]
        refine⟨?_,g3⟩
        unfold okMv
        rw[(hT i).2 h4,g1,g2];rfl
      ·simp only [List.length_append,List.length_singleton];omega
theorem mRun_er {l:List Tk}: ∀(n:Nat) (o:List Mv) (i:Nat) {j:Nat} {c:Int},mRun l n o i= .er j c→c≠0
 |0,_,_,_,_,h=>by cases h
 |n+1,o,i,j,c,h=>by
  rw[mRun]at h
  cases hs:mStep l o i with
  |inl y=>rw[hs]at h;exact mRun_er n _ _ h
  |inr q=>
   rw[hs]at h
   simp only at h
   subst h
   unfold mStep at hs
   split at hs
   ·cases hs
   ·rename_i hc
    cases hs
    exact of_decide_eq_false hc
   ·split at hs
    split at hs
    ·rename_i hc
     cases hs
     exact of_decide_eq_false hc
    ·cases hs
end Go.Vm
end
