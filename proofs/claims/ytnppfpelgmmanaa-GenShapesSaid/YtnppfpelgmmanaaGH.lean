/- Part GH of the proof. What is proved by the whole: the statement that the claim names, with no condition. -/
import Derived.Test.YtnppfpelgmmanaaGG
import Derived.Laws.Strings
set_option linter.all false
section
namespace Go.Vm


end Go.Vm
end
section
set_option maxRecDepth 100000
set_option maxHeartbeats 8000000
namespace Go.Vm
open Go.Proofs
def irow (n:Int):List D:=[.int .i64 n]
def irows (l:List Int):List (List D):=l.map irow
theorem irows_len (l:List Int):(irows l).length=l.length:=by simp [irows]
theorem irows_app (a b:List Int):irows a++irows b=irows (a++b):=by simp [irows]
structure Shp where
 ctors:List Int
 kinds:List Int
 lo:Int
 hi:Int
structure Ins where
 op:Int
 a:Int
 b:Int
 n:Int
 deriving Inhabited
def Ins.row (x:Ins):List D:=[.int .i64 x.op, .int .i64 x.a, .int .i64 x.b, .int .i64 x.n]
def crows (l:List Ins):List (List D):=l.map Ins.row
def srow (s:ByteArray):List D:=[.str s]
def srows (l:List ByteArray):List (List D):=l.map srow
theorem srows_len (l:List ByteArray):(srows l).length=l.length:=by simp [srows]
theorem srows_row {l:List ByteArray}{i:Nat}{x:ByteArray}(h:l[i]? =some x):sy.row (srows l) (i:Int)= [.str x]:=by
 rw[sy_row,Int.toNat_natCast,List.getD_eq_getElem?_getD]
 unfold srows
 rw[List.getElem?_map,h];rfl
theorem srows_at {l:List ByteArray}{i:Nat}{x:ByteArray}(h:l[i]? =some x):sy.cell (sy.row (srows l) (i:Int)) 0=some (.str x):=by rw[srows_row h];rfl
theorem rep_loop {α:Type}{b:List D→Option (List D ⊕ α)}{r:α}(n:Nat)(mk:Nat→List D)(hb: ∀i,i < n→b (mk i)=some (.inl (mk (i+1))))(hend:b (mk n)=some (.inr r)):loopF b (mk 0)=some r:=by
 refine loopF_at mk (fun i=>i≤n) (fun i=>n - i) (fun i hi=> ?_) 0 (Nat.zero_le _)
 by_cases h:i < n
 ·exact .inl ⟨i+1,hb i h,h,by omega⟩
 ·have:i=n:=by omega
  subst this
  exact .inr hend
theorem rep_loop2 {α:Type}{b:List D→Option (List D ⊕ α)}{r:α}{ds:List D}(n:Nat)(mk:Nat→List D)(h0:ds=mk 0)(hb: ∀i,i < n→b (mk i)=some (.inl (mk (i+1))))(hend:b (mk n)=some (.inr r)):loopF b ds=some r:=by
 rw[h0];exact rep_loop n mk hb hend
structure Enm where
 name:ByteArray
 ctors:List ByteArray
instance :Inhabited Enm:=⟨⟨ByteArray.empty,[]⟩⟩
def Enm.row (x:Enm):List D:=[.str x.name, .sl 1 (srows x.ctors)]
def erows (l:List Enm):List (List D):=l.map Enm.row
theorem erows_len (l:List Enm):(erows l).length=l.length:=by simp [erows]
theorem erows_at {l:List Enm}{i:Nat}{x:Enm}(h:l[i]? =some x):sy.row (erows l) (i:Int)=x.row:=by
 rw[sy_row,Int.toNat_natCast,List.getD_eq_getElem?_getD]
 unfold erows
 rw[List.getElem?_map,h];rfl
structure Tyy where
 k:Int
 e:Int
 n:Int
 deriving DecidableEq
instance :Inhabited Tyy:=⟨⟨0,0,0⟩⟩
def Tyy.v (t:Tyy):V:= .agg [.d (.int .i64 t.k), .d (.int .i64 t.e), .d (.int .i64 t.n)]
def Tyy.c (t:Tyy):Int:=min (max t.n 1) 8
theorem c_cells (t:Tyy):cF 14 [t.v]=some (.val [.int .i64 t.c]):=by
 unfold Tyy.v
 refine cOf (by kernel_rfl) rfl ?_
 rw[g14_eq]
 simp only [g14,go1,Nat.reduceAdd,Int.reduceEq,Int.reduceLT,Int.reduceLE,Int.reduceSub,Int.reduceAdd]
 rfl
theorem c_rcells (t:Tyy):cF 24 [t.v]=some (.val [.int .i64 t.c]):=by
 unfold Tyy.v
 refine cOf (by kernel_rfl) rfl ?_
 rw[g24_eq]
 simp only [g24,go1,Nat.reduceAdd,Int.reduceEq,Int.reduceLT,Int.reduceLE,Int.reduceSub,Int.reduceAdd]
 unfold Tyy.c
 by_cases h1:t.n < 1
 ·rw[decT h1,show min (max t.n 1) 8=1 by omega];rfl
 ·by_cases h8:8 < t.n
  ·rw[decF h1,decT h8,show min (max t.n 1) 8=8 by omega];rfl
  ·rw[decF h1,decF h8,show min (max t.n 1) 8=t.n by omega];rfl
structure Slt where
 path:ByteArray
 ty:Tyy
 at_:Int
 init:List Int
instance :Inhabited Slt:=⟨⟨ByteArray.empty,default,0,[]⟩⟩
def Slt.row (x:Slt):List D:=[.str x.path, .int .i64 x.ty.k, .int .i64 x.ty.e, .int .i64 x.ty.n, .int .i64 x.at_, .sl 1 (irows x.init)]
def slrows (l:List Slt):List (List D):=l.map Slt.row
theorem slrows_len (l:List Slt):(slrows l).length=l.length:=by simp [slrows]
theorem slt_at {l:List Slt}{i:Nat}{x:Slt}(h:l[i]? =some x):sy.row (slrows l) (i:Int)= [.str x.path, .int .i64 x.ty.k, .int .i64 x.ty.e, .int .i64 x.ty.n, .int .i64 x.at_, .sl 1 (irows x.init)]:=by
 rw[sy_row,Int.toNat_natCast,List.getD_eq_getElem?_getD]
 unfold slrows
 rw[List.getElem?_map,h];rfl
theorem skip1 (a:D)(l:List D):sy.skip 1 (a::l)=l:=rfl
theorem c_pos (t:Tyy):1≤t.c∧t.c≤8:=by unfold Tyy.c;omega
theorem cells_u (t:Tyy):cF 14 [V.agg [.d (.int .i64 t.k), .d (.int .i64 t.e), .d (.int .i64 t.n)]]=some (.val [.int .i64 t.c]):=c_cells t
theorem rcells_u (t:Tyy):cF 24 [V.agg [.d (.int .i64 t.k), .d (.int .i64 t.e), .d (.int .i64 t.n)]]=some (.val [.int .i64 t.c]):=c_rcells t
structure Prt where
 name:ByteArray
 ty:Tyy
instance :Inhabited Prt:=⟨⟨ByteArray.empty,default⟩⟩
def Prt.row (x:Prt):List D:=[.str x.name, .int .i64 x.ty.k, .int .i64 x.ty.e, .int .i64 x.ty.n]
def prows (l:List Prt):List (List D):=l.map Prt.row
theorem prows_len (l:List Prt):(prows l).length=l.length:=by simp [prows]
theorem prt_at {l:List Prt}{i:Nat}{x:Prt}(h:l[i]? =some x):sy.row (prows l) (i:Int)= [.str x.name, .int .i64 x.ty.k, .int .i64 x.ty.e, .int .i64 x.ty.n]:=by
 rw[sy_row,Int.toNat_natCast,List.getD_eq_getElem?_getD]
 unfold prows
 rw[List.getElem?_map,h];rfl
structure Img where
 enums:List Enm
 ins:List Prt
 outs:List Prt
 slots:List Slt
 locals:List Int
 code:List Ins
def Img.v (x:Img):V:= .agg [.d (.sl 2 (erows x.enums)), .d (.sl 4 (prows x.ins)), .d (.sl 4 (prows x.outs)), .d (.sl 6 (slrows x.slots)), .d (.sl 1 (irows x.locals)), .d (.sl 4 (crows x.code))]
structure IB (x:Img):Prop where
 en:x.enums.length≤8
 pn:x.ins.length+x.outs.length≤100
 sn:x.slots.length≤150
 ln:x.locals.length≤1100
theorem enm_at {l:List Enm}{i:Nat}{x:Enm}(h:l[i]? =some x):sy.row (erows l) (i:Int)= [.str x.name, .sl 1 (srows x.ctors)]:=erows_at h
theorem inner_lp {X:Option (List D ⊕ PRes)}{P E:Prop}{R:PRes→Prop}{L:List D}(key: ∃r,X=some r∧((r= .inl L∧E)∨ ∃q,r= .inr q∧R q))(k:X=some (.inl L)→E→P):P∨ ∃q,X=some (.inr q)∧R q:=by
 obtain⟨r,h,h2⟩:=key
 rcases h2 with⟨rfl,e⟩|⟨q,rfl,h3⟩
 ·exact .inl (k h e)
 ·exact .inr ⟨q,h,h3⟩
def EB (x:Enm):Prop:=x.name.size≤100∧x.ctors.length≤12∧ ∀c∈x.ctors,c.size≤100
theorem c_rSmall (l:List Enm): ∃p,cF 4 [.d (.sl 2 (erows l))]=some p∧ ∃b,p= .val [.bool b]∧(b=true→l.length≤8∧ ∀x∈l,EB x):=by
 refine cOfP (by kernel_rfl) rfl ?_
 rw[g4_eq]
 unfold g4
 by_cases h8:8 < (l.length:Int)
 ·refine⟨_,?_,false,rfl,fun h=>by cases h⟩
  rw[show sy.ilt 8 (sy.rlen (erows l))=true from decT (by rw[sy_rlen,erows_len];exact h8)];rfl
 ·rw[show sy.ilt 8 (sy.rlen (erows l))=false from decF (by rw[sy_rlen,erows_len];exact h8),cond_false,eF_lp]
  refine loopF_ex (fun i:Nat=>[.sl 2 (erows l), .int .i64 (i:Int)]) (fun i=>i≤l.length∧ ∀j (h:j < l.length),j < i→EB l[j]) (fun i=>l.length - i) (fun i hi=> ?_) 0 ⟨Nat.zero_le _,by omega⟩
  obtain⟨hi,hE⟩:=hi
  by_cases hlt:i < l.length
  ·have hx:=List.getElem?_eq_getElem hlt
   by_cases h12:l[i].ctors.length≤12
   ·by_cases h100:l[i].name.size≤100
    ·simp only [go1,Nat.reduceAdd,Int.reduceEq,Int.reduceLT,Int.reduceLE,Int.reduceSub,Int.reduceAdd,erows_len,srows_len,ilt_at hlt,inr_at hlt,enm_at hx,skip1,decF (p:=12 < (l[i].ctors.length:Int)) (by omega),decF (p:=100 < (l[i].name.size:Int)) (by omega)]
     refine inner_lp (L:=[D.sl 2 (erows l),D.int IntKind.i64 ((i:Int)+1)]) (E:= ∀c∈l[i].ctors,c.size≤100) ?_ (fun hr he=>⟨i+1,hr,⟨hlt,fun j hj hji=> ?_⟩,by omega⟩)
     ·refine loopF_ex (fun j:Nat=>[.sl 2 (erows l), .int .i64 (i:Int), .int .i64 (j:Int)]) (fun j=>j≤l[i].ctors.length∧ ∀k (h:k < l[i].ctors.length),k < j→l[i].ctors[k].size≤100) (fun j=>l[i].ctors.length - j) (fun j hj=> ?_) 0 ⟨Nat.zero_le _,by omega⟩
      obtain⟨hj,hC⟩:=hj
      by_cases hjl:j < l[i].ctors.length
      ·have hy:=List.getElem?_eq_getElem hjl
       by_cases hc:l[i].ctors[j].size≤100
       ·left
        refine⟨j+1,?_,⟨hjl,fun k hk hkj=> ?_⟩,by omega⟩
        ·simp only [go1,Nat.reduceAdd,Int.reduceEq,Int.reduceLT,Int.reduceLE,Int.reduceSub,Int.reduceAdd,erows_len,srows_len,inr_at hlt,ilt_at hjl,inr_at hjl,enm_at hx,skip1,srows_at hy,decF (p:=100 < (l[i].ctors[j].size:Int)) (by omega),wrap_succ hjl (by omega)]
         rfl
        ·by_cases e:k=j
         ·subst e;exact hc
         ·exact hC k hk (by omega)
       ·right
        refine⟨.inr (.val [.bool false]),?_, .inr ⟨_,rfl,false,rfl,fun h=>by cases h⟩⟩
        simp only [go1,Nat.reduceAdd,Int.reduceEq,Int.reduceLT,Int.reduceLE,Int.reduceSub,Int.reduceAdd,erows_len,srows_len,inr_at hlt,ilt_at hjl,inr_at hjl,enm_at hx,skip1,srows_at hy,decT (p:=100 < (l[i].ctors[j].size:Int)) (by omega)]
      ·have:j=l[i].ctors.length:=by omega
       subst this
       right
       refine⟨_,?_, .inl ⟨rfl,fun c hc=> ?_⟩⟩
       ·simp only [go1,Nat.reduceAdd,Int.reduceEq,Int.reduceLT,Int.reduceLE,Int.reduceSub,Int.reduceAdd,erows_len,srows_len,inr_at hlt,ilt_self,enm_at hx,skip1,wrap_succ hlt (by omega)]
       ·obtain⟨k,hk,rfl⟩:=List.getElem_of_mem hc
        exact hC k hk hk
     ·by_cases e:j=i
      ·subst e;exact⟨h100,h12,he⟩
      ·exact hE j hj (by omega)
    ·right
     refine⟨.val [.bool false],?_,false,rfl,fun h=>by cases h⟩
     simp only [go1,Nat.reduceAdd,Int.reduceEq,Int.reduceLT,Int.reduceLE,Int.reduceSub,Int.reduceAdd,erows_len,srows_len,ilt_at hlt,inr_at hlt,enm_at hx,skip1,decF (p:=12 < (l[i].ctors.length:Int)) (by omega),decT (p:=100 < (l[i].name.size:Int)) (by omega)]
   ·right
    refine⟨.val [.bool false],?_,false,rfl,fun h=>by cases h⟩
    simp only [go1,Nat.reduceAdd,Int.reduceEq,Int.reduceLT,Int.reduceLE,Int.reduceSub,Int.reduceAdd,erows_len,srows_len,ilt_at hlt,inr_at hlt,enm_at hx,skip1,decT (p:=12 < (l[i].ctors.length:Int)) (by omega)]
  ·right
   have:i=l.length:=by omega
   subst this
   refine⟨.val [.bool true],?_,true,rfl,fun _=>⟨by omega,fun x hx=> ?_⟩⟩
   ·simp only [go1,Nat.reduceAdd,Int.reduceEq,Int.reduceLT,Int.reduceLE,Int.reduceSub,Int.reduceAdd,erows_len,ilt_self]
   ·obtain⟨k,hk,rfl⟩:=List.getElem_of_mem hx
    exact hE k hk hk
def kindN (t:Tyy):Int:=bif decide (t.k=1) || decide (t.k=2)then t.k else bif (decide (t.k=3)&&decide (0≤t.e))&&decide (t.e≤1000)then 3+t.e else 0
theorem c_vKind (t:Tyy):cF 15 [V.agg [.d (.int .i64 t.k), .d (.int .i64 t.e), .d (.int .i64 t.n)]]=some (.val [.int .i64 (kindN t)]):=by
 unfold kindN
 refine cOf (by kernel_rfl) rfl ?_
 rw[g15_eq]
 simp only [g15,go1,Nat.reduceAdd,Int.reduceEq,Int.reduceLT,Int.reduceLE,Int.reduceSub,Int.reduceAdd]
 cases h1:decide (t.k=1) || decide (t.k=2)with
 |true=>simp only [go1,Nat.reduceAdd,Int.reduceEq,Int.reduceLT,Int.reduceLE,Int.reduceSub,Int.reduceAdd]
 |false=>
  cases h2:(decide (t.k=3)&&decide (0≤t.e))&&decide (t.e≤1000)with
  |false=>simp only [go1,Nat.reduceAdd,Int.reduceEq,Int.reduceLT,Int.reduceLE,Int.reduceSub,Int.reduceAdd]
  |true=>
   simp only [Bool.and_eq_true,decide_eq_true_eq]at h2
   simp only [go1,Nat.reduceAdd,Int.reduceEq,Int.reduceLT,Int.reduceLE,Int.reduceSub,Int.reduceAdd]
   rw[wrap_id (by omega) (by omega)]
theorem c_rvKind (t:Tyy):cF 25 [V.agg [.d (.int .i64 t.k), .d (.int .i64 t.e), .d (.int .i64 t.n)]]=some (.val [.int .i64 (kindN t)]):=by
 unfold kindN
 refine cOf (by kernel_rfl) rfl ?_
 rw[g25_eq]
 simp only [g25,go1,Nat.reduceAdd,Int.reduceEq,Int.reduceLT,Int.reduceLE,Int.reduceSub,Int.reduceAdd]
 cases h1:decide (t.k=1) || decide (t.k=2)with
 |true=>simp only [go1,Nat.reduceAdd,Int.reduceEq,Int.reduceLT,Int.reduceLE,Int.reduceSub,Int.reduceAdd]
 |false=>
  cases h2:(decide (t.k=3)&&decide (0≤t.e))&&decide (t.e≤1000)with
  |false=>simp only [go1,Nat.reduceAdd,Int.reduceEq,Int.reduceLT,Int.reduceLE,Int.reduceSub,Int.reduceAdd]
  |true=>
   simp only [Bool.and_eq_true,decide_eq_true_eq]at h2
   simp only [go1,Nat.reduceAdd,Int.reduceEq,Int.reduceLT,Int.reduceLE,Int.reduceSub,Int.reduceAdd]
   rw[wrap_id (by omega) (by omega)]
def kindsT (ts:List Tyy):List Int:=ts.flatMap fun t=>List.replicate t.c.toNat (kindN t)
theorem kindsT_take {ts:List Tyy}{i:Nat}{t:Tyy}(h:ts[i]? =some t):kindsT (ts.take (i+1))=kindsT (ts.take i)++List.replicate t.c.toNat (kindN t):=by
 rw[List.take_add_one,h];simp [kindsT]
theorem kindsT_len: ∀ts:List Tyy,(kindsT ts).length≤8*ts.length
 | []=>by simp [kindsT]
 |t::ts=>by
  have h1:=c_pos t
  have h2:=kindsT_len ts
  unfold kindsT at*
  simp only [List.flatMap_cons,List.length_append,List.length_replicate,List.length_cons]
  omega
theorem kindsT_tlen (ts:List Tyy)(i:Nat):(kindsT (ts.take i)).length≤8*ts.length:=by
 have h1:=kindsT_len (ts.take i)
 have h2:(ts.take i).length≤ts.length:=by simp;omega
 omega
def ctorsN (l:List Enm):List Int:=l.map fun e=>(e.ctors.length:Int)
theorem ctorsN_take {l:List Enm}{i:Nat}{x:Enm}(h:l[i]? =some x):ctorsN (l.take (i+1))=ctorsN (l.take i)++[(x.ctors.length:Int)]:=by
 rw[List.take_add_one,h];simp [ctorsN]
theorem ctorsN_len (l:List Enm):(ctorsN l).length=l.length:=by simp [ctorsN]
def kS (x:Img):List Int:=kindsT (x.slots.map (·.ty))
def kI (x:Img):List Int:=kS x++kindsT (x.ins.map (·.ty))
def kO (x:Img):List Int:=kI x++kindsT (x.outs.map (·.ty))
def shpOf (x:Img):Shp:=⟨ctorsN x.enums,kO x++x.locals,(kS x).length,(kI x).length⟩
def shpR (s:Shp):PRes:= .val [.sl 1 (irows s.ctors), .sl 1 (irows s.kinds), .int .i64 s.lo, .int .i64 s.hi]
theorem irows_snoc (a:List Int)(x:Int):irows (a++[x])=irows a++[[.int .i64 x]]:=by rw[←irows_app];rfl
theorem rep_snoc (n:Nat)(x:Int):List.replicate (n+1) x=List.replicate n x++[x]:=List.replicate_succ'
theorem ty_at {α:Type}{l:List α}{f:α→Tyy}{i:Nat}{x:α}(h:l[i]? =some x):(l.map f)[i]? =some (f x):=by rw[List.getElem?_map,h];rfl
theorem c_rgShape (x:Img)(hx:IB x):cF 9 [x.v]=some (shpR (shpOf x)):=by
 have b1:=hx.en
 have b2:=hx.pn
 have b3:=hx.sn
 have b4:=hx.ln
 unfold shpR shpOf kO kI kS
 obtain⟨enums,ins,outs,slots,locals,code⟩:=x
 clear hx
 unfold Img.v
 simp only at b1 b2 b3 b4 ⊢
 have s1:=kindsT_len (slots.map (·.ty))
 have s2:=kindsT_len (ins.map (·.ty))
 have s3:=kindsT_len (outs.map (·.ty))
 simp only [List.length_map]at s1 s2 s3
 refine cOf (by kernel_rfl) rfl ?_
 rw[g9_eq]
 simp only [g9,go1,Nat.reduceAdd,Int.reduceEq,Int.reduceLT,Int.reduceLE,Int.reduceSub,Int.reduceAdd]
 refine rep_loop2 enums.length (fun i=>[.int .i64 (i:Int), .sl 2 (erows enums), .sl 4 (prows ins), .sl 4 (prows outs), .sl 6 (slrows slots), .sl 1 (irows locals), .sl 4 (crows code), .int .i64 0, .int .i64 0, .int .i64 0, .int .i64 0, .sl 1 (irows (ctorsN (enums.take i))), .sl 1 (irows [])]) rfl (fun i hlt=> ?_) ?_
 ·have hx:=List.getElem?_eq_getElem hlt
  have hf:decide (((enums.take i).length+1)*9≤140737488355328)=true:=decT (by rw[List.length_take];omega)
  rw[ctorsN_take hx,irows_snoc]
  simp only [go1,Nat.reduceAdd,Int.reduceEq,Int.reduceLT,Int.reduceLE,Int.reduceSub,Int.reduceAdd,erows_len,srows_len,irows_len,ctorsN_len,ilt_at hlt,inr_at hlt,enm_at hx,skip1,List.length_cons,List.length_nil,hf,wrap_succ hlt (by omega)]
  rfl
 simp only [go1,Nat.reduceAdd,Int.reduceEq,Int.reduceLT,Int.reduceLE,Int.reduceSub,Int.reduceAdd,erows_len,ilt_self,List.take_length]
 refine rep_loop2 slots.length (fun i=>[.int .i64 (i:Int), .sl 2 (erows enums), .sl 4 (prows ins), .sl 4 (prows outs), .sl 6 (slrows slots), .sl 1 (irows locals), .sl 4 (crows code), .int .i64 0, .int .i64 0, .int .i64 0, .int .i64 0, .sl 1 (irows (ctorsN enums)), .sl 1 (irows (kindsT ((slots.map (·.ty)).take i)))]) (by simp [kindsT,irows]) (fun i hlt=> ?_) ?_
 ·have hx:=List.getElem?_eq_getElem hlt
  have hc:=c_pos slots[i].ty
  have hL:=kindsT_tlen (slots.map (·.ty)) i
  rw[List.length_map]at hL
  rw[kindsT_take (ty_at (f:=fun q=>q.ty) hx)]
  simp only [go1,Nat.reduceAdd,Int.reduceEq,Int.reduceLT,Int.reduceLE,Int.reduceSub,Int.reduceAdd,slrows_len,ilt_at hlt,inr_at hlt,slt_at hx,skip1]
  refine rep_loop2 slots[i].ty.c.toNat (fun k=>[.int .i64 (k:Int), .sl 2 (erows enums), .sl 4 (prows ins), .sl 4 (prows outs), .sl 6 (slrows slots), .sl 1 (irows locals), .sl 4 (crows code), .int .i64 0, .int .i64 0, .int .i64 0, .int .i64 0, .sl 1 (irows (ctorsN enums)), .sl 1 (irows ((kindsT ((slots.map (·.ty)).take i))++List.replicate k (kindN slots[i].ty))), .int .i64 slots[i].ty.k, .int .i64 slots[i].ty.e, .int .i64 slots[i].ty.n]) (by rw[List.replicate_zero,List.append_nil];rfl) (fun k hk=> ?_) ?_
  ·have hf:decide (((kindsT ((slots.map (·.ty)).take i)).length+k+1)*9≤140737488355328)=true:=decT (by first|omega|(rw[List.length_append];omega)|(rw[List.length_append,List.length_append];omega))
   rw[rep_snoc,←List.append_assoc,irows_snoc]
   simp only [go1,Nat.reduceAdd,Int.reduceEq,Int.reduceLT,Int.reduceLE,Int.reduceSub,Int.reduceAdd,rcells_u,c_rvKind,decT (p:=(k:Int) < slots[i].ty.c) (by omega),irows_len,List.length_append,List.length_replicate,List.length_cons,List.length_nil,wrap_succ (n:=100) (i:=k) (by omega) (by omega)]at hf ⊢
   rw[hf]
   rfl
  ·simp only [go1,Nat.reduceAdd,Int.reduceEq,Int.reduceLT,Int.reduceLE,Int.reduceSub,Int.reduceAdd,rcells_u,decF (p:=((slots[i].ty.c.toNat:Nat):Int) < slots[i].ty.c) (by omega),wrap_succ hlt (by omega)]
   rfl
 simp only [go1,Nat.reduceAdd,Int.reduceEq,Int.reduceLT,Int.reduceLE,Int.reduceSub,Int.reduceAdd,slrows_len,ilt_self,show ∀l:List Tyy,l.take slots.length=l.take slots.length from fun _=>rfl,show(slots.map fun q=>q.ty).take slots.length=slots.map fun q=>q.ty from List.take_of_length_le (by simp)]
 refine rep_loop2 ins.length (fun i=>[.int .i64 (i:Int), .sl 2 (erows enums), .sl 4 (prows ins), .sl 4 (prows outs), .sl 6 (slrows slots), .sl 1 (irows locals), .sl 4 (crows code), .int .i64 0, .int .i64 0, .int .i64 ((kindsT (slots.map (·.ty))).length:Int), .int .i64 0, .sl 1 (irows (ctorsN enums)), .sl 1 (irows (kindsT (slots.map (·.ty))++kindsT ((ins.map (·.ty)).take i)))]) (by simp [kindsT,irows]) (fun i hlt=> ?_) ?_
 ·have hx:=List.getElem?_eq_getElem hlt
  have hc:=c_pos ins[i].ty
  have hL:=kindsT_tlen (ins.map (·.ty)) i
  rw[List.length_map]at hL
  rw[kindsT_take (ty_at (f:=fun q=>q.ty) hx)]
  simp only [go1,Nat.reduceAdd,Int.reduceEq,Int.reduceLT,Int.reduceLE,Int.reduceSub,Int.reduceAdd,prows_len,ilt_at hlt,inr_at hlt,prt_at hx,skip1]
  refine rep_loop2 ins[i].ty.c.toNat (fun k=>[.int .i64 (k:Int), .sl 2 (erows enums), .sl 4 (prows ins), .sl 4 (prows outs), .sl 6 (slrows slots), .sl 1 (irows locals), .sl 4 (crows code), .int .i64 0, .int .i64 0, .int .i64 ((kindsT (slots.map (·.ty))).length:Int), .int .i64 0, .sl 1 (irows (ctorsN enums)), .sl 1 (irows ((kindsT (slots.map (·.ty))++kindsT ((ins.map (·.ty)).take i))++List.replicate k (kindN ins[i].ty))), .int .i64 ins[i].ty.k, .int .i64 ins[i].ty.e, .int .i64 ins[i].ty.n]) (by rw[List.replicate_zero,List.append_nil];rfl) (fun k hk=> ?_) ?_
  ·have hf:decide (((kindsT (slots.map (·.ty))++kindsT ((ins.map (·.ty)).take i)).length+k+1)*9≤140737488355328)=true:=decT (by first|omega|(rw[List.length_append];omega)|(rw[List.length_append,List.length_append];omega))
   rw[rep_snoc,←List.append_assoc,irows_snoc]
   simp only [go1,Nat.reduceAdd,Int.reduceEq,Int.reduceLT,Int.reduceLE,Int.reduceSub,Int.reduceAdd,rcells_u,c_rvKind,decT (p:=(k:Int) < ins[i].ty.c) (by omega),irows_len,List.length_append,List.length_replicate,List.length_cons,List.length_nil,wrap_succ (n:=100) (i:=k) (by omega) (by omega)]at hf ⊢
   rw[hf]
   rfl
  ·simp only [go1,Nat.reduceAdd,Int.reduceEq,Int.reduceLT,Int.reduceLE,Int.reduceSub,Int.reduceAdd,rcells_u,decF (p:=((ins[i].ty.c.toNat:Nat):Int) < ins[i].ty.c) (by omega),wrap_succ hlt (by omega),List.append_assoc]
   rfl
 simp only [go1,Nat.reduceAdd,Int.reduceEq,Int.reduceLT,Int.reduceLE,Int.reduceSub,Int.reduceAdd,prows_len,ilt_self,show ∀l:List Tyy,l.take ins.length=l.take ins.length from fun _=>rfl,show(ins.map fun q=>q.ty).take ins.length=ins.map fun q=>q.ty from List.take_of_length_le (by simp)]
 refine rep_loop2 outs.length (fun i=>[.int .i64 (i:Int), .sl 2 (erows enums), .sl 4 (prows ins), .sl 4 (prows outs), .sl 6 (slrows slots), .sl 1 (irows locals), .sl 4 (crows code), .int .i64 0, .int .i64 0, .int .i64 ((kindsT (slots.map (·.ty))).length:Int), .int .i64 ((kindsT (slots.map (·.ty))++kindsT (ins.map (·.ty))).length:Int), .sl 1 (irows (ctorsN enums)), .sl 1 (irows (kindsT (slots.map (·.ty))++kindsT (ins.map (·.ty))++kindsT ((outs.map (·.ty)).take i)))]) (by simp [kindsT,irows]) (fun i hlt=> ?_) ?_
 ·have hx:=List.getElem?_eq_getElem hlt
  have hc:=c_pos outs[i].ty
  have hL:=kindsT_tlen (outs.map (·.ty)) i
  rw[List.length_map]at hL
  rw[kindsT_take (ty_at (f:=fun q=>q.ty) hx)]
  simp only [go1,Nat.reduceAdd,Int.reduceEq,Int.reduceLT,Int.reduceLE,Int.reduceSub,Int.reduceAdd,prows_len,ilt_at hlt,inr_at hlt,prt_at hx,skip1]
  refine rep_loop2 outs[i].ty.c.toNat (fun k=>[.int .i64 (k:Int), .sl 2 (erows enums), .sl 4 (prows ins), .sl 4 (prows outs), .sl 6 (slrows slots), .sl 1 (irows locals), .sl 4 (crows code), .int .i64 0, .int .i64 0, .int .i64 ((kindsT (slots.map (·.ty))).length:Int), .int .i64 ((kindsT (slots.map (·.ty))++kindsT (ins.map (·.ty))).length:Int), .sl 1 (irows (ctorsN enums)), .sl 1 (irows ((kindsT (slots.map (·.ty))++kindsT (ins.map (·.ty))++kindsT ((outs.map (·.ty)).take i))++List.replicate k (kindN outs[i].ty))), .int .i64 outs[i].ty.k, .int .i64 outs[i].ty.e, .int .i64 outs[i].ty.n]) (by rw[List.replicate_zero,List.append_nil];rfl) (fun k hk=> ?_) ?_
  ·have hf:decide (((kindsT (slots.map (·.ty))++kindsT (ins.map (·.ty))++kindsT ((outs.map (·.ty)).take i)).length+k+1)*9≤140737488355328)=true:=decT (by first|omega|(rw[List.length_append];omega)|(rw[List.length_append,List.length_append];omega))
   rw[rep_snoc,←List.append_assoc,irows_snoc]
   simp only [go1,Nat.reduceAdd,Int.reduceEq,Int.reduceLT,Int.reduceLE,Int.reduceSub,Int.reduceAdd,rcells_u,c_rvKind,decT (p:=(k:Int) < outs[i].ty.c) (by omega),irows_len,List.length_append,List.length_replicate,List.length_cons,List.length_nil,wrap_succ (n:=100) (i:=k) (by omega) (by omega)]at hf ⊢
   rw[hf]
   rfl
  ·simp only [go1,Nat.reduceAdd,Int.reduceEq,Int.reduceLT,Int.reduceLE,Int.reduceSub,Int.reduceAdd,rcells_u,decF (p:=((outs[i].ty.c.toNat:Nat):Int) < outs[i].ty.c) (by omega),wrap_succ hlt (by omega),List.append_assoc]
   rfl
 simp only [go1,Nat.reduceAdd,Int.reduceEq,Int.reduceLT,Int.reduceLE,Int.reduceSub,Int.reduceAdd,prows_len,ilt_self,show ∀l:List Tyy,l.take outs.length=l.take outs.length from fun _=>rfl,show(outs.map fun q=>q.ty).take outs.length=outs.map fun q=>q.ty from List.take_of_length_le (by simp)]
 have hf:decide ((((kindsT (slots.map (·.ty))++kindsT (ins.map (·.ty)))++kindsT (outs.map (·.ty))).length+locals.length)*9≤140737488355328)=true:=decT (by simp only [List.length_append];omega)
 simp only [go1,Nat.reduceAdd,Int.reduceEq,Int.reduceLT,Int.reduceLE,Int.reduceSub,Int.reduceAdd,irows_len,irows_app,List.append_assoc]at hf ⊢
 rw[hf]
 rfl
theorem c_gShape (x:Img)(hx:IB x):cF 8 [x.v]=some (shpR (shpOf x)):=by
 have b1:=hx.en
 have b2:=hx.pn
 have b3:=hx.sn
 have b4:=hx.ln
 unfold shpR shpOf kO kI kS
 obtain⟨enums,ins,outs,slots,locals,code⟩:=x
 clear hx
 unfold Img.v
 simp only at b1 b2 b3 b4 ⊢
 have s1:=kindsT_len (slots.map (·.ty))
 have s2:=kindsT_len (ins.map (·.ty))
 have s3:=kindsT_len (outs.map (·.ty))
 simp only [List.length_map]at s1 s2 s3
 refine cOf (by kernel_rfl) rfl ?_
 rw[g8_eq]
 simp only [g8,go1,Nat.reduceAdd,Int.reduceEq,Int.reduceLT,Int.reduceLE,Int.reduceSub,Int.reduceAdd,erows_len]
 refine rep_loop2 enums.length (fun i=>[.sl 2 (erows enums), .int .i64 (enums.length:Int), .int .i64 (i:Int), .sl 2 (erows enums), .sl 4 (prows ins), .sl 4 (prows outs), .sl 6 (slrows slots), .sl 1 (irows locals), .sl 4 (crows code), .int .i64 0, .int .i64 0, .int .i64 0, .int .i64 0, .sl 1 (irows (ctorsN (enums.take i))), .sl 1 (irows [])]) rfl (fun i hlt=> ?_) ?_
 ·have hx:=List.getElem?_eq_getElem hlt
  have hf:decide (((enums.take i).length+1)*9≤140737488355328)=true:=decT (by rw[List.length_take];omega)
  rw[ctorsN_take hx,irows_snoc]
  simp only [go1,Nat.reduceAdd,Int.reduceEq,Int.reduceLT,Int.reduceLE,Int.reduceSub,Int.reduceAdd,erows_len,srows_len,irows_len,ctorsN_len,ilt_at hlt,inr_at hlt,enm_at hx,skip1,List.length_cons,List.length_nil,hf,wrap_succ hlt (by omega)]
  rfl
 simp only [go1,Nat.reduceAdd,Int.reduceEq,Int.reduceLT,Int.reduceLE,Int.reduceSub,Int.reduceAdd,erows_len,slrows_len,ilt_self,List.take_length]
 refine rep_loop2 slots.length (fun i=>[.sl 6 (slrows slots), .int .i64 (slots.length:Int), .int .i64 (i:Int), .sl 2 (erows enums), .sl 4 (prows ins), .sl 4 (prows outs), .sl 6 (slrows slots), .sl 1 (irows locals), .sl 4 (crows code), .int .i64 0, .int .i64 0, .int .i64 0, .int .i64 0, .sl 1 (irows (ctorsN enums)), .sl 1 (irows (kindsT ((slots.map (·.ty)).take i)))]) (by simp [kindsT,irows]) (fun i hlt=> ?_) ?_
 ·have hx:=List.getElem?_eq_getElem hlt
  have hc:=c_pos slots[i].ty
  have hL:=kindsT_tlen (slots.map (·.ty)) i
  rw[List.length_map]at hL
  rw[kindsT_take (ty_at (f:=fun q=>q.ty) hx)]
  simp only [go1,Nat.reduceAdd,Int.reduceEq,Int.reduceLT,Int.reduceLE,Int.reduceSub,Int.reduceAdd,slrows_len,ilt_at hlt,inr_at hlt,slt_at hx,cells_u]
  refine rep_loop2 slots[i].ty.c.toNat (fun k=>[.int .i64 slots[i].ty.c, .int .i64 (k:Int), .sl 2 (erows enums), .sl 4 (prows ins), .sl 4 (prows outs), .sl 6 (slrows slots), .sl 1 (irows locals), .sl 4 (crows code), .int .i64 0, .int .i64 0, .int .i64 0, .int .i64 0, .sl 1 (irows (ctorsN enums)), .sl 1 (irows ((kindsT ((slots.map (·.ty)).take i))++List.replicate k (kindN slots[i].ty))), .str slots[i].path, .int .i64 slots[i].ty.k, .int .i64 slots[i].ty.e, .int .i64 slots[i].ty.n, .int .i64 slots[i].at_, .sl 1 (irows slots[i].init), .int .i64 slots[i].ty.k, .int .i64 slots[i].ty.e, .int .i64 slots[i].ty.n]) (by rw[List.replicate_zero,List.append_nil];rfl) (fun k hk=> ?_) ?_
  ·have hf:decide (((kindsT ((slots.map (·.ty)).take i)).length+k+1)*9≤140737488355328)=true:=decT (by first|omega|(rw[List.length_append];omega)|(rw[List.length_append,List.length_append];omega))
   rw[rep_snoc,←List.append_assoc,irows_snoc]
   simp only [go1,Nat.reduceAdd,Int.reduceEq,Int.reduceLT,Int.reduceLE,Int.reduceSub,Int.reduceAdd,c_vKind,decT (p:=(k:Int) < slots[i].ty.c) (by omega),irows_len,List.length_append,List.length_replicate,List.length_cons,List.length_nil,wrap_succ (n:=100) (i:=k) (by omega) (by omega)]at hf ⊢
   rw[hf]
   rfl
  ·simp only [go1,Nat.reduceAdd,Int.reduceEq,Int.reduceLT,Int.reduceLE,Int.reduceSub,Int.reduceAdd,decF (p:=((slots[i].ty.c.toNat:Nat):Int) < slots[i].ty.c) (by omega),wrap_succ hlt (by omega)]
   rfl
 simp only [go1,Nat.reduceAdd,Int.reduceEq,Int.reduceLT,Int.reduceLE,Int.reduceSub,Int.reduceAdd,slrows_len,prows_len,ilt_self,show(slots.map fun q=>q.ty).take slots.length=slots.map fun q=>q.ty from List.take_of_length_le (by simp)]
 refine rep_loop2 ins.length (fun i=>[.sl 4 (prows ins), .int .i64 (ins.length:Int), .int .i64 (i:Int), .sl 2 (erows enums), .sl 4 (prows ins), .sl 4 (prows outs), .sl 6 (slrows slots), .sl 1 (irows locals), .sl 4 (crows code), .int .i64 0, .int .i64 0, .int .i64 ((kindsT (slots.map (·.ty))).length:Int), .int .i64 0, .sl 1 (irows (ctorsN enums)), .sl 1 (irows (kindsT (slots.map (·.ty))++kindsT ((ins.map (·.ty)).take i)))]) (by simp [kindsT,irows]) (fun i hlt=> ?_) ?_
 ·have hx:=List.getElem?_eq_getElem hlt
  have hc:=c_pos ins[i].ty
  have hL:=kindsT_tlen (ins.map (·.ty)) i
  rw[List.length_map]at hL
  rw[kindsT_take (ty_at (f:=fun q=>q.ty) hx)]
  simp only [go1,Nat.reduceAdd,Int.reduceEq,Int.reduceLT,Int.reduceLE,Int.reduceSub,Int.reduceAdd,prows_len,ilt_at hlt,inr_at hlt,prt_at hx,cells_u]
  refine rep_loop2 ins[i].ty.c.toNat (fun k=>[.int .i64 ins[i].ty.c, .int .i64 (k:Int), .sl 2 (erows enums), .sl 4 (prows ins), .sl 4 (prows outs), .sl 6 (slrows slots), .sl 1 (irows locals), .sl 4 (crows code), .int .i64 0, .int .i64 0, .int .i64 ((kindsT (slots.map (·.ty))).length:Int), .int .i64 0, .sl 1 (irows (ctorsN enums)), .sl 1 (irows ((kindsT (slots.map (·.ty))++kindsT ((ins.map (·.ty)).take i))++List.replicate k (kindN ins[i].ty))), .str ins[i].name, .int .i64 ins[i].ty.k, .int .i64 ins[i].ty.e, .int .i64 ins[i].ty.n, .int .i64 ins[i].ty.k, .int .i64 ins[i].ty.e, .int .i64 ins[i].ty.n]) (by rw[List.replicate_zero,List.append_nil];rfl) (fun k hk=> ?_) ?_
  ·have hf:decide (((kindsT (slots.map (·.ty))++kindsT ((ins.map (·.ty)).take i)).length+k+1)*9≤140737488355328)=true:=decT (by first|omega|(rw[List.length_append];omega)|(rw[List.length_append,List.length_append];omega))
   rw[rep_snoc,←List.append_assoc,irows_snoc]
   simp only [go1,Nat.reduceAdd,Int.reduceEq,Int.reduceLT,Int.reduceLE,Int.reduceSub,Int.reduceAdd,c_vKind,decT (p:=(k:Int) < ins[i].ty.c) (by omega),irows_len,List.length_append,List.length_replicate,List.length_cons,List.length_nil,wrap_succ (n:=100) (i:=k) (by omega) (by omega)]at hf ⊢
   rw[hf]
   rfl
  ·simp only [go1,Nat.reduceAdd,Int.reduceEq,Int.reduceLT,Int.reduceLE,Int.reduceSub,Int.reduceAdd,decF (p:=((ins[i].ty.c.toNat:Nat):Int) < ins[i].ty.c) (by omega),wrap_succ hlt (by omega),List.append_assoc]
   rfl
 simp only [go1,Nat.reduceAdd,Int.reduceEq,Int.reduceLT,Int.reduceLE,Int.reduceSub,Int.reduceAdd,slrows_len,prows_len,ilt_self,show(ins.map fun q=>q.ty).take ins.length=ins.map fun q=>q.ty from List.take_of_length_le (by simp)]
 refine rep_loop2 outs.length (fun i=>[.sl 4 (prows outs), .int .i64 (outs.length:Int), .int .i64 (i:Int), .sl 2 (erows enums), .sl 4 (prows ins), .sl 4 (prows outs), .sl 6 (slrows slots), .sl 1 (irows locals), .sl 4 (crows code), .int .i64 0, .int .i64 0, .int .i64 ((kindsT (slots.map (·.ty))).length:Int), .int .i64 ((kindsT (slots.map (·.ty))++kindsT (ins.map (·.ty))).length:Int), .sl 1 (irows (ctorsN enums)), .sl 1 (irows (kindsT (slots.map (·.ty))++kindsT (ins.map (·.ty))++kindsT ((outs.map (·.ty)).take i)))]) (by simp [kindsT,irows]) (fun i hlt=> ?_) ?_
 ·have hx:=List.getElem?_eq_getElem hlt
  have hc:=c_pos outs[i].ty
  have hL:=kindsT_tlen (outs.map (·.ty)) i
  rw[List.length_map]at hL
  rw[kindsT_take (ty_at (f:=fun q=>q.ty) hx)]
  simp only [go1,Nat.reduceAdd,Int.reduceEq,Int.reduceLT,Int.reduceLE,Int.reduceSub,Int.reduceAdd,prows_len,ilt_at hlt,inr_at hlt,prt_at hx,cells_u]
  refine rep_loop2 outs[i].ty.c.toNat (fun k=>[.int .i64 outs[i].ty.c, .int .i64 (k:Int), .sl 2 (erows enums), .sl 4 (prows ins), .sl 4 (prows outs), .sl 6 (slrows slots), .sl 1 (irows locals), .sl 4 (crows code), .int .i64 0, .int .i64 0, .int .i64 ((kindsT (slots.map (·.ty))).length:Int), .int .i64 ((kindsT (slots.map (·.ty))++kindsT (ins.map (·.ty))).length:Int), .sl 1 (irows (ctorsN enums)), .sl 1 (irows ((kindsT (slots.map (·.ty))++kindsT (ins.map (·.ty))++kindsT ((outs.map (·.ty)).take i))++List.replicate k (kindN outs[i].ty))), .str outs[i].name, .int .i64 outs[i].ty.k, .int .i64 outs[i].ty.e, .int .i64 outs[i].ty.n, .int .i64 outs[i].ty.k, .int .i64 outs[i].ty.e, .int .i64 outs[i].ty.n]) (by rw[List.replicate_zero,List.append_nil];rfl) (fun k hk=> ?_) ?_
  ·have hf:decide (((kindsT (slots.map (·.ty))++kindsT (ins.map (·.ty))++kindsT ((outs.map (·.ty)).take i)).length+k+1)*9≤140737488355328)=true:=decT (by first|omega|(rw[List.length_append];omega)|(rw[List.length_append,List.length_append];omega))
   rw[rep_snoc,←List.append_assoc,irows_snoc]
   simp only [go1,Nat.reduceAdd,Int.reduceEq,Int.reduceLT,Int.reduceLE,Int.reduceSub,Int.reduceAdd,c_vKind,decT (p:=(k:Int) < outs[i].ty.c) (by omega),irows_len,List.length_append,List.length_replicate,List.length_cons,List.length_nil,wrap_succ (n:=100) (i:=k) (by omega) (by omega)]at hf ⊢
   rw[hf]
   rfl
  ·simp only [go1,Nat.reduceAdd,Int.reduceEq,Int.reduceLT,Int.reduceLE,Int.reduceSub,Int.reduceAdd,decF (p:=((outs[i].ty.c.toNat:Nat):Int) < outs[i].ty.c) (by omega),wrap_succ hlt (by omega),List.append_assoc]
   rfl
 simp only [go1,Nat.reduceAdd,Int.reduceEq,Int.reduceLT,Int.reduceLE,Int.reduceSub,Int.reduceAdd,slrows_len,prows_len,ilt_self,show(outs.map fun q=>q.ty).take outs.length=outs.map fun q=>q.ty from List.take_of_length_le (by simp)]
 have hf:decide ((((kindsT (slots.map (·.ty))++kindsT (ins.map (·.ty)))++kindsT (outs.map (·.ty))).length+locals.length)*9≤140737488355328)=true:=decT (by simp only [List.length_append];omega)
 simp only [go1,Nat.reduceAdd,Int.reduceEq,Int.reduceLT,Int.reduceLE,Int.reduceSub,Int.reduceAdd,irows_len,irows_app,List.append_assoc]at hf ⊢
 rw[hf]
 rfl
theorem c_rFew (l:List Slt): ∃p,cF 5 [.d (.sl 6 (slrows l))]=some p∧ ∃b,p= .val [.bool b]∧(b=true→l.length≤150):=by
 refine cOfP (by kernel_rfl) rfl ?_
 rw[g5_eq]
 unfold g5
 rw[eF_lp]
 refine loopF_ex (fun i:Nat=>[.sl 6 (slrows l), .int .i64 (i:Int)]) (fun i=>i≤l.length∧i≤200) (fun i=>l.length - i) (fun i hi=> ?_) 0 ⟨Nat.zero_le _,by omega⟩
 obtain⟨hi,h2⟩:=hi
 have last: ∀c:Bool,(some (.inr (PRes.val [.bool (decide ((l.length:Int)≤150))])):Option (List D ⊕ PRes))=some (.inr (.val [.bool (decide ((l.length:Int)≤150))])):=fun _=>rfl
 have fin: ∃b,PRes.val [.bool (decide ((l.length:Int)≤150))]= .val [.bool b]∧(b=true→l.length≤150):=⟨_,rfl,fun h=>by have:=of_decide_eq_true h;omega⟩
 by_cases hlt:i < l.length
 ·by_cases h200:i < 200
  ·have hx:=List.getElem?_eq_getElem hlt
   by_cases hp:200 < (l[i].path.size:Int)
   ·right
    refine⟨.val [.bool false],?_,false,rfl,fun h=>by cases h⟩
    simp only [go1,slrows_len,irows_len,ilt_at hlt,inr_at hlt,slt_at hx,decT (p:=(i:Int) < 200) (by omega),decT hp]
   ·by_cases hq:20 < (l[i].init.length:Int)
    ·right
     refine⟨.val [.bool false],?_,false,rfl,fun h=>by cases h⟩
     simp only [go1,slrows_len,irows_len,ilt_at hlt,inr_at hlt,slt_at hx,decT (p:=(i:Int) < 200) (by omega),decF hp,show ∀a b c d e f:D,sy.skip 5 [a,b,c,d,e,f]= [f]from fun _ _ _ _ _ _=>rfl,decT hq]
    ·left
     refine⟨i+1,?_,⟨hlt,by omega⟩,by omega⟩
     simp only [go1,slrows_len,irows_len,ilt_at hlt,inr_at hlt,slt_at hx,decT (p:=(i:Int) < 200) (by omega),decF hp,show ∀a b c d e f:D,sy.skip 5 [a,b,c,d,e,f]= [f]from fun _ _ _ _ _ _=>rfl,decF hq,wrap_succ (n:=1000) (i:=i) (by omega) (by omega)]
     rfl
  ·right
   refine⟨_,?_,fin⟩
   simp only [go1,slrows_len,ilt_at hlt,decF (p:=(i:Int) < 200) (by omega)]
 ·have:i=l.length:=by omega
  subst this
  right
  refine⟨_,?_,fin⟩
  simp only [go1,slrows_len,ilt_self]
theorem irow_at {l:List Int}{i:Nat}{x:Int}(h:l[i]? =some x):sy.row (irows l) (i:Int)= [.int .i64 x]:=by
 rw[sy_row,Int.toNat_natCast,List.getD_eq_getElem?_getD]
 unfold irows
 rw[List.getElem?_map,h];rfl
theorem c_sameInts (l:List Int)(hl:l.length≤1000000):cF 12 [.d (.sl 1 (irows l)), .d (.sl 1 (irows l))]=some (.val [.bool true]):=by
 refine cOf (by kernel_rfl) rfl ?_
 rw[g12_eq]
 unfold g12
 rw[show sy.bnot (sy.ieq (sy.rlen (irows l)) (sy.rlen (irows l)))=false by simp [sy_bnot,sy_ieq],cond_false,eF_lp]
 refine rep_loop2 l.length (fun i=>[.sl 1 (irows l), .sl 1 (irows l), .int .i64 (i:Int)]) rfl (fun i hlt=> ?_) ?_
 ·have hx:=List.getElem?_eq_getElem hlt
  simp only [go1,irows_len,ilt_at hlt,inr_at hlt,irow_at hx,decide_true,Bool.not_true,wrap_succ hlt (by omega)]
  rfl
 ·simp only [go1,irows_len,ilt_self]
theorem c_sameShape (s:Shp)(h1:s.ctors.length≤1000000)(h2:s.kinds.length≤1000000):cF 7 [.agg [.d (.sl 1 (irows s.ctors)), .d (.sl 1 (irows s.kinds)), .d (.int .i64 s.lo), .d (.int .i64 s.hi)], .agg [.d (.sl 1 (irows s.ctors)), .d (.sl 1 (irows s.kinds)), .d (.int .i64 s.lo), .d (.int .i64 s.hi)]]=some (.val [.bool true]):=by
 refine cOf (by kernel_rfl) rfl ?_
 rw[g7_eq]
 simp only [g7,go1,c_sameInts _ h1,c_sameInts _ h2,decide_true]
theorem c_GenShapes (x:Img):cF 3 [x.v]=some (.val [.bool true]):=by
 obtain⟨_,hS,bS,rfl,hb⟩:=c_rSmall x.enums
 obtain⟨_,hF,bF,rfl,hf⟩:=c_rFew x.slots
 have hv:=c_live32
 have hG:=fun h=>c_gShape x h
 have hR:=fun h=>c_rgShape x h
 refine cOf (by kernel_rfl) rfl ?_
 unfold Img.v at hG hR ⊢
 rw[g3_eq]
 cases bS with
 |false=>simp only [g3,go1,hS,hv]
 |true=>
  cases bF with
  |false=>simp only [g3,go1,hS,hF,hv]
  |true=>
   by_cases h1:50 < (x.ins.length:Int)
   ·simp only [g3,go1,hS,hF,hv,prows_len,decT h1]
   ·by_cases h2:50 < (x.outs.length:Int)
    ·simp only [g3,go1,hS,hF,hv,prows_len,decF h1,decT h2]
    ·by_cases h3:1100 < (x.locals.length:Int)
     ·simp only [g3,go1,hS,hF,hv,prows_len,irows_len,decF h1,decF h2,decT h3]
     ·have hB:IB x:=⟨(hb rfl).1,by omega,hf rfl,by omega⟩
      have hK:(shpOf x).kinds.length≤1000000:=by
       have s1:=kindsT_len (x.slots.map (·.ty))
       have s2:=kindsT_len (x.ins.map (·.ty))
       have s3:=kindsT_len (x.outs.map (·.ty))
       have b1:=hB.sn
       simp only [List.length_map]at s1 s2 s3
       simp only [shpOf,kO,kI,kS,List.length_append]
       omega
      have hC:(shpOf x).ctors.length≤1000000:=by
       have b1:=hB.en
       simp only [shpOf,ctorsN_len]
       omega
      have e1:=hG hB
      have e2:=hR hB
      have e3:=c_sameShape (shpOf x) hC hK
      unfold shpR at e1 e2
      simp only [g3,go1,hS,hF,hv,prows_len,irows_len,decF h1,decF h2,decF h3,e1,e2,e3]
end Go.Vm
end
