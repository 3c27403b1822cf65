/-
  Part K of the proof. What is proved by the whole: the statement that the claim names, with no condition. This part: lemmas.
-/
import Derived.Test.YtbfcmcjblknhbaaGreatDoorJ
set_option linter.unusedSimpArgs false
set_option linter.unusedVariables false

section
set_option linter.all false
set_option maxRecDepth 100000
set_option maxHeartbeats 4000000
namespace Go.Vm
open Go.Proofs
mutual
def Ex.parts:Ex→List Ex
 | .mk k n s o a u=> .mk k n s o a u::Ex.partsL u
def Ex.partsL:List Ex→List Ex
 | []=>[]
 |e::l=>e.parts++Ex.partsL l
end
mutual
theorem parts_len: ∀e:Ex,e.parts.length=e.size
 | .mk k n s o a u=>by simp only [Ex.parts,Ex.size,List.length_cons,partsL_len u]
theorem partsL_len: ∀u:List Ex,(Ex.partsL u).length=Ex.sizes u
 | []=>rfl
 |e::l=>by simp only [Ex.partsL,Ex.sizes,List.length_append,parts_len e,partsL_len l]
end
mutual
theorem parts_all: ∀e:Ex,e.parts.all partB=allB e
 | .mk k n s o a u=>by simp only [Ex.parts,allB,List.all_cons,partsL_all u]
theorem partsL_all: ∀u:List Ex,(Ex.partsL u).all partB=allBs u
 | []=>rfl
 |e::l=>by simp only [Ex.partsL,allBs,List.all_append,parts_all e,partsL_all l]
end
mutual
theorem parts_fine: ∀e:Ex,e.fine→ ∀x∈e.parts,x.fine∧x.size≤e.size
 | .mk k n s o a u,h,x,hx=>by
   simp only [Ex.parts]at hx
   rcases List.mem_cons.1 hx with rfl|hx
   ·exact⟨h,Nat.le_refl _⟩
   ·have:=partsL_fine u h.2 x hx
    exact⟨this.1,by simp only [Ex.size];omega⟩
theorem partsL_fine: ∀u:List Ex,Ex.fines u→ ∀x∈Ex.partsL u,x.fine∧x.size≤Ex.sizes u
 | [],_,x,hx=>by cases hx
 |e::l,h,x,hx=>by
  simp only [Ex.partsL]at hx
  rcases List.mem_append.1 hx with hx|hx
  ·have:=parts_fine e h.1 x hx
   exact⟨this.1,by simp only [Ex.sizes];omega⟩
  ·have:=partsL_fine l h.2 x hx
   exact⟨this.1,by simp only [Ex.sizes];omega⟩
end
theorem partsL_app: ∀a b:List Ex,Ex.partsL (a++b)=Ex.partsL a++Ex.partsL b
 | [],b=>rfl
 |e::a,b=>by simp only [List.cons_append,Ex.partsL,partsL_app a b,List.append_assoc]
theorem rows_app: ∀a b:List Ex,Ex.rows (a++b)=Ex.rows a++Ex.rows b
 | [],b=>rfl
 |e::a,b=>by simp only [List.cons_append,Ex.rows,rows_app a b]
theorem c_reParts: ∀(m:Nat) (k n:Int) (s:ByteArray) (o:Int) (a:List ByteArray) (u:List Ex),(Ex.mk k n s o a u).size≤m→m≤1000000→
  cF 37 [kE k n s o (srows a) (Ex.rows u)]=some (.own 37 6 (Ex.rows (Ex.mk k n s o a u).parts))
 |0,k,n,s,o,a,u,h,_=>by simp only [Ex.size]at h;omega
 |m+1,k,n,s,o,a,u,h,hm=>by
  have hz:Ex.sizes u≤m:=by simp only [Ex.size]at h;omega
  have hl:=sizes_len u
  refine cOf (by kernel_rfl) rfl ?_
  rw[g37_eq]
  simp only [g37,go1,Nat.reduceAdd]
  refine loopF_at (fun i:Nat=>[.int .i64 (i:Int), .int .i64 k, .int .i64 n, .str s, .int .i64 o, .sl 1 (srows a), .sl 6 (Ex.rows u), .sl 6 (Ex.rows (.mk k n s o a u::Ex.partsL (u.take i)))]) (fun i=>i≤u.length) (fun i=>u.length - i) (fun i hi=> ?_) 0 (Nat.zero_le _)
  by_cases hlt:i < u.length
  ·left
   refine⟨i+1,?_,hlt,by omega⟩
   have hx:=List.getElem?_eq_getElem hlt
   have hd:Ex.partsL (u.take (i+1))=Ex.partsL (u.take i)++u[i].parts:=by rw[List.take_add_one,hx,partsL_app];simp [Ex.partsL]
   have hsz:Ex.sizes (u.take i)≤Ex.sizes u:=by
    have:=sizes_app (u.take i) (u.drop i);rw[List.take_append_drop]at this;omega
   rw[hd]
   generalize u[i]=e at hx
   have he:=sizes_mem hx
   obtain⟨k2,n2,s2,o2,a2,u2⟩:=e
   have h2:=c_reParts (Ex.mk k2 n2 s2 o2 a2 u2).size k2 n2 s2 o2 a2 u2 (Nat.le_refl _) (by omega)
   have hf:decide (((Ex.rows (.mk k n s o a u::Ex.partsL (u.take i))).length+(Ex.rows (Ex.mk k2 n2 s2 o2 a2 u2).parts).length)*(88+1)≤140737488355328)=true:=by
    refine decide_eq_true ?_
    rw[rows_len,rows_len,List.length_cons,partsL_len,parts_len]
    omega
   simp only [go1,Nat.reduceAdd,rows_len,ilt_at hlt,inr_at hlt,row_of hx,oE,h2,wrap_succ hlt (by omega)]
   simp only [rows_len]at hf
   simp only [hf,go1,rows_app,←List.cons_append]
   rfl
  ·right
   have:i=u.length:=by omega
   subst this
   simp only [go1,Nat.reduceAdd,oE,rows_len,ilt_self,List.take_length,Ex.parts]
 termination_by m=>m
 decreasing_by omega
theorem c_reRight (k n:Int)(s:ByteArray)(o:Int)(a:List ByteArray)(u:List Ex)(h:(Ex.mk k n s o a u).size≤1000000)(hf:(Ex.mk k n s o a u).fine):cF 20 [kE k n s o (srows a) (Ex.rows u)]=some (.val [.bool (smallB (.mk k n s o a u)&&allB (.mk k n s o a u))]):=by
 have h1:=c_rSize 1000000 k n s o a u h (Nat.le_refl _)
 have h2:=c_rDepth 1000000 k n s o a u h (Nat.le_refl _)
 have h3:=c_reParts 1000000 k n s o a u h (Nat.le_refl _)
 have e1:decide ((60:Int) < ((Ex.mk k n s o a u).size:Int))= !decide ((Ex.mk k n s o a u).size≤60):=by rw[Bool.eq_iff_iff];simp;try omega
 have e2:decide ((12:Int) < ((Ex.mk k n s o a u).depth:Int))= !decide ((Ex.mk k n s o a u).depth≤12):=by rw[Bool.eq_iff_iff];simp;try omega
 refine cOf (by kernel_rfl) rfl ?_
 rw[g20_eq]
 simp only [g20,go1,h1,h2,h3,e1,e2]
 rw[←parts_all]
 have hlen:=parts_len (.mk k n s o a u)
 have hpf:=parts_fine _ hf
 generalize (Ex.mk k n s o a u).parts=ps at*
 have hloop: ∀b:List D→Option (List D ⊕ PRes),(∀(i:Nat) e,ps[i]? =some e→b [.sl 6 (Ex.rows ps), .int .i64 (i:Int)]=bif partB e then some (.inl [.sl 6 (Ex.rows ps), .int .i64 ((i+1:Nat):Int)])else some (.inr (.val [.bool false])))→b [.sl 6 (Ex.rows ps), .int .i64 (ps.length:Int)]=some (.inr (.val [.bool true]))→
     loopF b [.sl 6 (Ex.rows ps), .int .i64 0]=some (.val [.bool (ps.all partB)]):=fun b h1 h2=>
  all_loop2 partB ps (fun i:Nat=>[.sl 6 (Ex.rows ps), .int .i64 (i:Int)]) rfl (r0:= .val [.bool false]) (r1:= .val [.bool true]) h1 (fun _=>h2) (by cases ps.all partB<;>rfl)
 unfold smallB
 cases decide ((Ex.mk k n s o a u).size≤60)with
 |false=>rfl
 |true=>
  cases decide ((Ex.mk k n s o a u).depth≤12)with
  |false=>rfl
  |true=>
   simp only [go1,Bool.and_self]
   refine hloop _ (fun i e hx=> ?_) ?_
   ·have hlt:=(List.getElem?_eq_some_iff.1 hx).1
    have hm:=hpf e (List.mem_of_getElem? hx)
    obtain⟨k2,n2,s2,o2,a2,u2⟩:=e
    obtain⟨⟨⟨f1,f2,f3⟩,f4⟩,f5⟩:=hm
    have hc:=c_repart k2 n2 s2 o2 a2 u2 f1 f2 f3 (by simp only [Ex.size]at f5 h;omega)
    simp only [go1,rows_len,ilt_at hlt,inr_at hlt,row_of hx,oE,hc]
    cases partB (.mk k2 n2 s2 o2 a2 u2)with
    |true=>simp only [go1,wrap_succ hlt (by omega)];rfl
    |false=>rfl
   ·simp only [go1,rows_len,ilt_self]
theorem c_rNames (a:List ByteArray)(ha:a.length≤1000000):cF 32 [.d (.sl 1 (srows a)), .d (.sl 1 (srows a))]=some (.val [.bool true]):=by
 refine cOf (by kernel_rfl) rfl ?_
 rw[g32_eq]
 simp only [g32,go1,srows_len]
 refine loopF_at (fun i:Nat=>[.sl 1 (srows a), .sl 1 (srows a), .int .i64 (i:Int)]) (fun i=>i≤a.length) (fun i=>a.length - i) (fun i hi=> ?_) 0 (Nat.zero_le _)
 by_cases hlt:i < a.length
 ·left
  refine⟨i+1,?_,hlt,by omega⟩
  have hx:=List.getElem?_eq_getElem hlt
  simp only [go1,srows_len,ilt_at hlt,inr_at hlt,srows_at hx,seq_tb,wrap_succ hlt (by omega)]
  rfl
 ·right
  have:i=a.length:=by omega
  subst this
  simp only [go1,srows_len,ilt_self]
theorem c_reSame: ∀(m:Nat) (k n:Int) (s:ByteArray) (o:Int) (a:List ByteArray) (u:List Ex),(Ex.mk k n s o a u).size≤m→m≤1000000→(Ex.mk k n s o a u).fine→
  cF 17 [kE k n s o (srows a) (Ex.rows u),kE k n s o (srows a) (Ex.rows u)]=some (.val [.bool true])
 |0,k,n,s,o,a,u,h,_,_=>by simp only [Ex.size]at h;omega
 |m+1,k,n,s,o,a,u,h,hm,hf=>by
  have hz:Ex.sizes u≤m:=by simp only [Ex.size]at h;omega
  have hl:=sizes_len u
  obtain⟨⟨f1,f2,f3⟩,f4⟩:=hf
  have h1:=c_rNames a f3
  refine cOf (by kernel_rfl) rfl ?_
  rw[g17_eq]
  simp only [g17,go1,rows_len,seq_tb,h1]
  refine loopF_at (fun i:Nat=>[.int .i64 (i:Int), .int .i64 k, .int .i64 n, .str s, .int .i64 o, .sl 1 (srows a), .sl 6 (Ex.rows u), .int .i64 k, .int .i64 n, .str s, .int .i64 o, .sl 1 (srows a), .sl 6 (Ex.rows u)]) (fun i=>i≤u.length) (fun i=>u.length - i) (fun i hi=> ?_) 0 (Nat.zero_le _)
  by_cases hlt:i < u.length
  ·left
   refine⟨i+1,?_,hlt,by omega⟩
   have hx:=List.getElem?_eq_getElem hlt
   generalize u[i]=e at hx
   have he:=sizes_mem hx
   have hfe:=fine_mem hx f4
   obtain⟨k2,n2,s2,o2,a2,u2⟩:=e
   have h2:=c_reSame (Ex.mk k2 n2 s2 o2 a2 u2).size k2 n2 s2 o2 a2 u2 (Nat.le_refl _) (by omega) hfe
   simp only [go1,Nat.reduceAdd,rows_len,ilt_at hlt,inr_at hlt,row_of hx,oE,h2,wrap_succ hlt (by omega)]
   rfl
  ·right
   have:i=u.length:=by omega
   subst this
   simp only [go1,Nat.reduceAdd,oE,rows_len,ilt_self]
 termination_by m=>m
 decreasing_by omega
end Go.Vm
end

section
set_option linter.all false
set_option maxRecDepth 100000
set_option maxHeartbeats 4000000
namespace Go.Vm
open Go.Proofs
end Go.Vm
end

section
set_option linter.all false
set_option maxRecDepth 100000
set_option maxHeartbeats 4000000
namespace Go.Vm
open Go.Proofs
theorem span_cons1 {p:Nat→Bool}{c:Nat}{r:List Nat}(h:p c=true):spanN p (c::r)=1+spanN p r:=by
 unfold spanN;rw[List.takeWhile_cons,if_pos h,List.length_cons];omega
theorem span_cons0 {p:Nat→Bool}{c:Nat}{r:List Nat}(h:p c=false):spanN p (c::r)=0:=by
 unfold spanN;rw[List.takeWhile_cons,h];rfl
end Go.Vm
end

section
set_option linter.all false
set_option maxRecDepth 100000
set_option maxHeartbeats 4000000
namespace Go.Vm
open Go.Proofs
theorem gap_blank {c:Nat}(r:List Nat)(hc:blankN c=true):gapN (c::r)=1+gapN r:=by
 have h1:=gapN.eq_def (c::r)
 have h2:=gapN.eq_def r
 have hs:spanN blankN (c::r)=1+spanN blankN r:=span_cons1 hc
 rw[hs]at h1
 have hd:(c::r).drop (1+spanN blankN r)=r.drop (spanN blankN r):=by rw[Nat.add_comm,List.drop_succ_cons]
 have hd2: ∀k,(c::r).drop (1+spanN blankN r+k)=r.drop (spanN blankN r+k):=fun k=>by
  rw[show 1+spanN blankN r+k=(spanN blankN r+k)+1 by omega,List.drop_succ_cons]
 rw[hd,hd2]at h1
 rw[h1,h2]
 split<;>omega
theorem span0 {p:Nat→Bool}{l:List Nat}(h:p (l.getD 0 0)=false):spanN p l=0:=by
 match l,h with
 | [],_=>rfl
 |c::r,h=>exact span_cons0 h
theorem gap_stop {l:List Nat}(hc:blankN (l.getD 0 0)=false)(hr:hasN remN l=false):gapN l=0:=by
 have h1:=gapN.eq_def l
 rw[span0 hc,List.drop_zero,hr]at h1
 simpa using h1
theorem gap_rem {l:List Nat}(hr:hasN remN l=true):gapN l=spanN nlineN l+gapN (l.drop (spanN nlineN l)):=by
 have h1:=gapN.eq_def l
 have hc:blankN (l.getD 0 0)=false:=by
  have:=of_decide_eq_true hr
  match l,this with
  |a::b::r,h=>simp [remN]at h;obtain⟨rfl,rfl⟩:=h;rfl
  | [a],h=>simp [remN]at h
  | [],h=>simp [remN]at h
 rw[span0 hc,List.drop_zero,hr]at h1
 simpa using h1
theorem rem_iff (l:List Nat):hasN remN l=(decide (l.getD 0 0=45)&&(decide (1 < l.length)&&decide (l.getD 1 0=45))):=by
 match l with
 | []=>rfl
 | [a]=>simp [hasN,remN]
 |a::b::r=>simp [hasN,remN]
def valN:Nat→List Nat→Nat
 |n,[]=>n
 |n,c::r=>valN (n*10+(c - 48)) r
theorem valN_ge: ∀(l:List Nat) (n:Nat),n≤valN n l
 | [],n=>Nat.le_refl _
 |c::r,n=>by
  have:=valN_ge r (n*10+(c - 48))
  show n≤valN (n*10+(c - 48)) r
  omega
theorem parseM: ∀(l:List UInt8) (acc:Nat),(l.map UInt8.toNat).all digitN=true→acc≤18446744073709551615→
  Lib.parseUintM 18446744073709551615 acc l=if valN acc (l.map UInt8.toNat)≤18446744073709551615 then .ok (valN acc (l.map UInt8.toNat))else .range
 | [],acc,_,h=>by
   rw[Lib.parseUintM,List.map_nil]
   show _=if acc≤_ then _ else _
   rw[if_pos h];rfl
 |c::r,acc,hd,h=>by
  rw[List.map_cons,List.all_cons,Bool.and_eq_true]at hd
  obtain⟨h1,h2⟩:=hd
  have hc:48≤c.toNat∧c.toNat≤57:=by
   unfold digitN at h1
   simpa using h1
  rw[Lib.parseUintM,if_pos hc,List.map_cons]
  show _=if valN (acc*10+(c.toNat - 48)) (r.map UInt8.toNat)≤_ then Lib.NumEnd.ok (valN (acc*10+(c.toNat - 48)) (r.map UInt8.toNat))else _
  have hg:=valN_ge (r.map UInt8.toNat) (acc*10+(c.toNat - 48))
  by_cases h3:1844674407370955162≤acc
  ·rw[if_pos h3,if_neg (by omega)]
  ·rw[if_neg h3]
   by_cases h4:18446744073709551615 < acc*10+(c.toNat - 48)
   ·rw[if_pos h4,if_neg (by omega)]
   ·rw[if_neg h4]
    exact parseM r _ h2 (by omega)
theorem parse_digits (s:ByteArray)(hd:(tb s).all digitN=true)(hne:0 < (tb s).length):
  pokB s=decide (valN 0 (tb s) < 9223372036854775808)∧(valN 0 (tb s) < 9223372036854775808→pnumI s=(valN 0 (tb s):Int)):=by
 unfold pokB pnumI
 unfold tb at hd hne ⊢
 generalize s.data.toList=l at hd hne ⊢
 match l,hne with
 |c::r,_=>
  have hp:=parseM (c::r) 0 hd (by omega)
  rw[List.map_cons,List.all_cons,Bool.and_eq_true]at hd
  have hc:48≤c.toNat∧c.toNat≤57:=by
   have:=hd.1
   unfold digitN at this
   simpa using this
  have e1: ¬(c.toNat=43∨c.toNat=45):=by omega
  have e2: ¬c.toNat=45:=by omega
  generalize valN 0 ((c::r).map UInt8.toNat)=v at hp ⊢
  have hp2:Lib.parseUintB 64 (c::r)=if v≤18446744073709551615 then .ok v else .range:=by
   unfold Lib.parseUintB
   rw[if_neg (by simp)]
   exact hp
  unfold Lib.parseIntB
  simp only [if_neg e1,hp2]
  by_cases hv:v≤18446744073709551615
  ·rw[if_pos hv]
   simp only [e2,not_false_eq_true,true_and,if_false,false_and]
   by_cases hv2:9223372036854775808≤v
   ·have:(2:Nat) ^ (64 - 1)≤v:=hv2
    simp only [this,if_true]
    exact⟨by rw[decF (by omega)],fun h=>by omega⟩
   ·have: ¬(2:Nat) ^ (64 - 1)≤v:=hv2
    simp only [this,if_false]
    exact⟨by rw[decT (by omega)],fun _=>trivial⟩
  ·rw[if_neg hv]
   exact⟨by rw[decF (by omega)],fun h=>by omega⟩
end Go.Vm
end

section
set_option linter.all false
set_option maxRecDepth 100000
set_option maxHeartbeats 4000000
namespace Go.Vm
open Go.Proofs
theorem getD_drop0 (l:List Nat)(n:Nat):(l.drop n).getD 0 0=l.getD n 0:=by
 rw[List.getD_eq_getElem?_getD,List.getElem?_drop,Nat.add_zero,List.getD_eq_getElem?_getD]
theorem getD_drop1 (l:List Nat)(n:Nat):(l.drop n).getD 1 0=l.getD (n+1) 0:=by
 rw[List.getD_eq_getElem?_getD,List.getElem?_drop,List.getD_eq_getElem?_getD]
theorem drop_cons {l:List Nat}{n:Nat}(h:n < l.length):l.drop n=l.getD n 0::l.drop (n+1):=by
 rw[List.drop_eq_getElem_cons h,List.getD_eq_getElem?_getD,List.getElem?_eq_getElem h];rfl
theorem c_inner (s:ByteArray)(hs:s.size≤100000)(a:Nat)(ha:a≤(tb s).length):loopF (α:=List D ⊕ PRes) (fun ds14=>
  (opS (sy.cell ds14 0)).bind fun s15=>
   (opI (sy.cell ds14 1) IntKind.i64).bind fun n16=>
    cutO
     (bif decide (n16 < ((tb s15).length:Int))then
      bif decide (0≤n16∧n16 < ((tb s15).length:Int))then
       some (Sum.inl [D.bool !decide (((s15.data.getD n16.toNat 0).toNat:Int)=10)])
      else none
     else some (Sum.inl [D.bool false]))
     fun ds17=>
     (opB (sy.cell ds17 0)).bind fun b18=>
      bif b18 then some (Sum.inl [D.str s15,D.int IntKind.i64 (IntKind.i64.wrap (n16+1))])
      else some (Sum.inr (Sum.inl [D.str s15,D.int IntKind.i64 n16])))
  [D.str s,D.int IntKind.i64 (a:Int)]=some (.inl [D.str s,D.int IntKind.i64 ((a+spanN nlineN ((tb s).drop a):Nat):Int)]):=by
 have hlen:(tb s).length≤100000:=by rw[tb_len];exact hs
 refine loopF_at (fun n:Nat=>[.str s, .int .i64 (n:Int)]) (fun n=>n≤(tb s).length∧n+spanN nlineN ((tb s).drop n)=a+spanN nlineN ((tb s).drop a)) (fun n=>(tb s).length - n) (fun n hn=> ?_) a ⟨ha,rfl⟩
 obtain⟨hle,hg⟩:=hn
 by_cases hlt:n < (tb s).length
 ·have hq:((s.data.getD (n:Int).toNat 0).toNat:Int)=(((tb s).getD n 0:Nat):Int):=by rw[Int.toNat_natCast,tb_getD]
  have hd:=drop_cons hlt
  simp only [go1]
  simp (disch:=omega) only [wrap_id,decT,go1,hq]
  rw[dec_iff (show(((tb s).getD n 0:Nat):Int)=10↔(tb s).getD n 0=10 by omega)]
  cases h10:decide ((tb s).getD n 0=10)with
  |false=>
   left
   have:nlineN ((tb s).getD n 0)=true:=by unfold nlineN;rw[h10];rfl
   rw[hd,span_cons1 this]at hg
   exact⟨n+1,by rw[Int.natCast_add];rfl,⟨hlt,by omega⟩,by omega⟩
  |true=>
   right
   have:nlineN ((tb s).getD n 0)=false:=by unfold nlineN;rw[h10];rfl
   rw[hd,span_cons0 this]at hg
   rw[←hg];rfl
 ·right
  have:n=(tb s).length:=by omega
  subst this
  rw[List.drop_length]at hg
  rw[←hg]
  simp only [go1]
  simp (disch:=omega) only [wrap_id,decF,go1]
  rfl
theorem c_rskip (s:ByteArray)(hs:s.size≤100000)(a:Nat)(ha:a≤(tb s).length):cF 28 [.d (.str s), .d (.int .i64 (a:Int))]=some (.val [.int .i64 ((a+gapN ((tb s).drop a):Nat):Int)]):=by
 have hlen:(tb s).length≤100000:=by rw[tb_len];exact hs
 refine cOf (by kernel_rfl) rfl ?_
 rw[g28_eq]
 simp only [g28,go1]
 refine loopF_at (fun n:Nat=>[.str s, .int .i64 (n:Int)]) (fun n=>n≤(tb s).length∧n+gapN ((tb s).drop n)=a+gapN ((tb s).drop a)) (fun n=>(tb s).length - n) (fun n hn=> ?_) a ⟨ha,rfl⟩
 obtain⟨hle,hg⟩:=hn
 by_cases hlt:n < (tb s).length
 ·have hq:((s.data.getD (n:Int).toNat 0).toNat:Int)=(((tb s).getD n 0:Nat):Int):=by rw[Int.toNat_natCast,tb_getD]
  have hd:=drop_cons hlt
  simp only [go1]
  simp (disch:=omega) only [wrap_id,decT,go1,size_tb,hq]
  rw[dec_iff (show(((tb s).getD n 0:Nat):Int)=9↔(tb s).getD n 0=9 by omega),dec_iff (show(((tb s).getD n 0:Nat):Int)=10↔(tb s).getD n 0=10 by omega),dec_iff (show(((tb s).getD n 0:Nat):Int)=13↔(tb s).getD n 0=13 by omega),dec_iff (show(((tb s).getD n 0:Nat):Int)=32↔(tb s).getD n 0=32 by omega),dec_iff (show(((tb s).getD n 0:Nat):Int)=45↔(tb s).getD n 0=45 by omega)]
  have hb:(decide ((tb s).getD n 0=9) || decide ((tb s).getD n 0=10) || decide ((tb s).getD n 0=13) || decide ((tb s).getD n 0=32))=blankN ((tb s).getD n 0):=by
   unfold blankN
   cases decide ((tb s).getD n 0=9)<;>cases decide ((tb s).getD n 0=10)<;>cases decide ((tb s).getD n 0=13)<;>cases decide ((tb s).getD n 0=32)<;>rfl
  rw[hb]
  cases h0:blankN ((tb s).getD n 0)with
  |true=>
   left
   rw[hd,gap_blank _ h0]at hg
   exact⟨n+1,by rw[Int.natCast_add];rfl,⟨hlt,by omega⟩,by omega⟩
  |false=>
   have hr:=rem_iff ((tb s).drop n)
   rw[getD_drop0,getD_drop1,List.length_drop]at hr
   have stop:hasN remN ((tb s).drop n)=false→n=a+gapN ((tb s).drop a):=fun h=>by
    rw[gap_stop (by rw[getD_drop0];exact h0) h]at hg
    omega
   cases h45:decide ((tb s).getD n 0=45)with
   |false=>
    right
    rw[←stop (by rw[hr,h45];rfl)]
    rfl
   |true=>
    by_cases h1:n+1 < (tb s).length
    ·have hq1:((s.data.getD ((n:Int)+1).toNat 0).toNat:Int)=(((tb s).getD (n+1) 0:Nat):Int):=by
      have:((n:Int)+1).toNat=n+1:=by omega
      rw[this,tb_getD]
     rw[h45,decT (p:=1 < (tb s).length - n) (by omega)]at hr
     simp (disch:=omega) only [wrap_id,decT,decF,go1,hq1]
     rw[dec_iff (show(((tb s).getD (n+1) 0:Nat):Int)=45↔(tb s).getD (n+1) 0=45 by omega)]
     cases h46:decide ((tb s).getD (n+1) 0=45)with
     |false=>
      right
      rw[←stop (by rw[hr,h46];rfl)]
      rfl
     |true=>
      left
      have hrt:hasN remN ((tb s).drop n)=true:=by rw[hr,h46];rfl
      have h2:=rem_span hrt
      have hk:=spanN_le nlineN ((tb s).drop n)
      rw[List.length_drop]at hk
      rw[gap_rem hrt,List.drop_drop]at hg
      refine⟨n+spanN nlineN ((tb s).drop n),?_,⟨by omega,by omega⟩,by omega⟩
      simp only [go1]
      rw[c_inner s hs n hle]
    ·right
     rw[←stop (by rw[hr,h45,decF (p:=1 < (tb s).length - n) (by omega)];rfl)]
     simp (disch:=omega) only [wrap_id,decT,decF,go1]
     try rfl
 ·right
  have:n=(tb s).length:=by omega
  subst this
  have e0:gapN []=0:=by
   have:=gapN_le _ [] (Nat.le_refl _)
   simpa using this
  rw[List.drop_length,e0]at hg
  rw[←hg]
  simp only [go1]
  simp (disch:=omega) only [wrap_id,decT,decF,go1,size_tb]
  rfl
end Go.Vm
end

section
set_option linter.all false
set_option maxRecDepth 100000
set_option maxHeartbeats 4000000
namespace Go.Vm
open Go.Proofs
theorem wrap_u8 {n:Int}(h1:0≤n)(h2:n≤255):IntKind.u8.wrap n=n:=by
 unfold IntKind.wrap
 simp only [IntKind.bits,IntKind.signed]
 simp
 omega
theorem wrap_u64 {n:Int}(h1:0≤n)(h2:n≤18446744073709551615):IntKind.u64.wrap n=n:=by
 unfold IntKind.wrap
 simp only [IntKind.bits,IntKind.signed]
 simp
 omega
theorem valN_snoc: ∀(l:List Nat) (n c:Nat),valN n (l++[c])=valN n l*10+(c - 48)
 | [],_,_=>rfl
 |x::r,n,c=>valN_snoc r (n*10+(x - 48)) c
theorem valN_app: ∀(l r:List Nat) (n:Nat),valN n (l++r)=valN (valN n l) r
 | [],_,_=>rfl
 |x::l,r,n=>valN_app l r (n*10+(x - 48))
def numR (s:ByteArray)(a:Nat):PRes:=
 let m:=spanN digitN ((tb s).drop a)
 match decide (valN 0 (((tb s).drop a).take m) < 9223372036854775808)&&(!decide ((tb s).getD a 0=48) || decide (m=1))with
 |true=> .val [.int .i64 3, .str (s.extract a (a+m)), .int .i64 (valN 0 (((tb s).drop a).take m):Int), .int .i64 (a:Int), .bool true]
 |false=> .val [.int .i64 0, .str (bs []), .int .i64 0, .int .i64 0, .bool false]
theorem c_rxin (n a b:Nat):cF 60 [.d (.int .u8 (n:Int)), .d (.int .u8 (a:Int)), .d (.int .u8 (b:Int))]=some (.val [.bool (decide (a≤n)&&decide (n≤b))]):=by
 refine cOf (by kernel_rfl) rfl ?_
 rw[g60_eq]
 simp only [g60,go1]
 rw[dec_iff (show(a:Int)≤(n:Int)↔a≤n by omega),dec_iff (show(n:Int)≤(b:Int)↔n≤b by omega)]
def mkN (s:ByteArray)(a x:Nat):List D:=[.str s, .int .i64 (a:Int), .int .u64 ((valN 0 (((tb s).drop a).take x):Nat):Int), .int .i64 ((a+x:Nat):Int), .int .i64 0, .str (bs []), .int .i64 0, .int .i64 0]
theorem span_at {p:Nat→Bool}: ∀(l:List Nat) (i:Nat),i < spanN p l→p (l.getD i 0)=true
 | [],i,h=>by simp [spanN]at h
 |c::r,i,h=>by
  cases hc:p c with
  |false=>rw[span_cons0 hc]at h;omega
  |true=>
   rw[span_cons1 hc]at h
   cases i with
   |zero=>exact hc
   |succ i=>exact span_at r i (by omega)
theorem span_end {p:Nat→Bool}: ∀(l:List Nat),spanN p l < l.length→p (l.getD (spanN p l) 0)=false
 | [],h=>by simp at h
 |c::r,h=>by
  cases hc:p c with
  |false=>rw[span_cons0 hc];exact hc
  |true=>
   rw[span_cons1 hc]at h ⊢
   have:=span_end (p:=p) r (by simp at h;omega)
   rw[Nat.add_comm]
   exact this
theorem getD_drop (l:List Nat)(a i:Nat):(l.drop a).getD i 0=l.getD (a+i) 0:=by
 rw[List.getD_eq_getElem?_getD,List.getElem?_drop,List.getD_eq_getElem?_getD]
theorem take_snoc (l:List Nat)(x:Nat)(h:x < l.length):l.take (x+1)=l.take x++[l.getD x 0]:=by
 rw[List.take_add_one,List.getElem?_eq_getElem h,List.getD_eq_getElem?_getD,List.getElem?_eq_getElem h];rfl
theorem big_pos:0 < 9223372036854775808:=by decide
theorem c_rnumber (s:ByteArray)(hs:s.size≤100000)(a:Nat)(ha:a < (tb s).length)(hda:digitN ((tb s).getD a 0)=true):cF 61 [.d (.str s), .d (.int .i64 (a:Int))]=some (numR s a):=by
 have hlen:(tb s).length≤100000:=by rw[tb_len];exact hs
 have hmle:=spanN_le digitN ((tb s).drop a)
 have hpos:0 < spanN digitN ((tb s).drop a):=span_pos (by rw[getD_drop];exact hda) (by rw[List.length_drop];omega)
 have hdg:=span_at (p:=digitN) ((tb s).drop a)
 have hnd:=span_end (p:=digitN) ((tb s).drop a)
 rw[List.length_drop]at hmle hnd
 simp only [getD_drop]at hdg hnd
 refine cOf (by kernel_rfl) rfl ?_
 rw[g61_eq]
 simp only [g61,go1,Int.reduceEq]
 unfold numR
 simp only
 generalize spanN digitN ((tb s).drop a)=m at*
 have em:([D.str s,D.int .i64 (a:Int),D.int .u64 0,D.int .i64 (a:Int),D.int .i64 0,D.str (bs []),D.int .i64 0,D.int .i64 0]:List D)=mkN s a 0:=by
  unfold mkN
  rw[List.take_zero,show valN 0 []=0 from rfl,Nat.add_zero];rfl
 rw[em]
 refine loopF_at (mkN s a) (fun x=>x≤m∧valN 0 (((tb s).drop a).take x) < 9223372036854775808∧(2≤x→(tb s).getD a 0≠48)) (fun x=>m - x) (fun x hx=> ?_) 0 ?h0
 case h0=>
  have e0:valN 0 (((tb s).drop a).take 0)=0:=rfl
  exact And.intro (Nat.zero_le m) (And.intro (Nat.lt_of_le_of_lt (Nat.le_of_eq e0) big_pos) (fun h=>absurd h (by decide)))
 obtain⟨hxm,hv,hz⟩:=hx
 have hqa:((s.data.getD ((a:Int)).toNat 0).toNat:Int)=(((tb s).getD a 0:Nat):Int):=by rw[Int.toNat_natCast,tb_getD]
 have hq:((s.data.getD (((a+x:Nat):Int)).toNat 0).toNat:Int)=(((tb s).getD (a+x) 0:Nat):Int):=by rw[Int.toNat_natCast,tb_getD]
 have hc:=c_rxin ((tb s).getD (a+x) 0) 48 57
 have e48:((48:Nat):Int)=48:=rfl
 have e57:((57:Nat):Int)=57:=rfl
 rw[e48,e57]at hc
 by_cases hlt:x < m
 ·have hdx:=hdg x hlt
  have hbd:48≤(tb s).getD (a+x) 0∧(tb s).getD (a+x) 0≤57:=by
   unfold digitN at hdx
   simpa using hdx
  have hsn:valN 0 (((tb s).drop a).take (x+1))=valN 0 (((tb s).drop a).take x)*10+((tb s).getD (a+x) 0 - 48):=by
   rw[take_snoc _ _ (by rw[List.length_drop];omega),valN_snoc,getD_drop]
  have hge:valN 0 (((tb s).drop a).take (x+1))≤valN 0 (((tb s).drop a).take m):=by
   have e:((tb s).drop a).take m=((tb s).drop a).take (x+1)++(((tb s).drop a).drop (x+1)).take (m - (x+1)):=by
    rw[←List.take_add];congr 1;omega
   rw[e,valN_app]
   exact valN_ge _ _
  unfold mkN
  generalize hvv:valN 0 (((tb s).drop a).take x)=v at*
  generalize hcc:(tb s).getD (a+x) 0=c at*
  have q1:IntKind.u8.wrap ((c:Int) - 48)=(c:Int) - 48:=wrap_u8 (by omega) (by omega)
  have q2:IntKind.u64.wrap ((c:Int) - 48)=(c:Int) - 48:=wrap_u64 (by omega) (by omega)
  have q3:IntKind.u64.wrap (9223372036854775807 - ((c:Int) - 48))=9223372036854775807 - ((c:Int) - 48):=wrap_u64 (by omega) (by omega)
  have q4:sy.quo (9223372036854775807 - ((c:Int) - 48)) 10=(9223372036854775807 - ((c:Int) - 48)) / 10:=by
   rw[sy_quo];exact Int.tdiv_eq_ediv_of_nonneg (by omega)
  have q5:IntKind.u64.wrap ((9223372036854775807 - ((c:Int) - 48)) / 10)=(9223372036854775807 - ((c:Int) - 48)) / 10:=wrap_u64 (by omega) (by omega)
  have hc2:(decide (48≤c)&&decide (c≤57))=true:=by rw[decT hbd.1,decT hbd.2];rfl
  rw[hc2]at hc
  simp only [go1]
  simp (disch:=omega) only [wrap_id,decT,go1,size_tb,hq,hqa,hc,q1,q2,q3,q4,q5]
  rw[dec_iff (show(((tb s).getD a 0:Nat):Int)=48↔(tb s).getD a 0=48 by omega),dec_iff (show(a:Int) < ((a+x:Nat):Int)↔0 < x by omega)]
  by_cases h1:v*10+(c - 48) < 9223372036854775808
  ·rw[decF (p:=(9223372036854775807 - ((c:Int) - 48)) / 10 < (v:Int)) (by omega)]
   by_cases h2:0 < x∧(tb s).getD a 0=48
   ·right
    rw[decT h2.1,decT h2.2,decF (p:=m=1) (by omega)]
    cases decide (valN 0 (((tb s).drop a).take m) < 9223372036854775808)<;>rfl
   ·left
    have hb:(false || decide (0 < x)&&decide ((tb s).getD a 0=48))=false:=by
     rw[Bool.false_or,Bool.eq_false_iff]
     intro h
     rw[Bool.and_eq_true,decide_eq_true_eq,decide_eq_true_eq]at h
     exact h2 h
    rw[hb]
    have w1:IntKind.u64.wrap ((v:Int)*10)=(v:Int)*10:=wrap_u64 (by omega) (by omega)
    have w2:IntKind.u64.wrap ((v:Int)*10+((c:Int) - 48))=((v*10+(c - 48):Nat):Int):=by rw[wrap_u64 (by omega) (by omega)];omega
    refine⟨x+1,?_,⟨by omega,by rw[hsn];exact h1,fun h h48=>h2 ⟨by omega,h48⟩⟩,by omega⟩
    have e9:((a+x:Nat):Int)+1=((a+(x+1):Nat):Int):=by omega
    rw[w1,w2,hsn,e9]
    rfl
  ·right
   rw[decT (p:=(9223372036854775807 - ((c:Int) - 48)) / 10 < (v:Int)) (by omega)]
   rw[decF (p:=valN 0 (((tb s).drop a).take m) < 9223372036854775808) (by omega)]
   rfl
 ·right
  have:x=m:=by omega
  subst this
  have e9:(((a+x:Nat):Int)).toNat=a+x:=Int.toNat_natCast _
  have e8:((a:Int)).toNat=a:=Int.toNat_natCast _
  have hsp:(decide (valN 0 (((tb s).drop a).take x) < 9223372036854775808)&&(!decide ((tb s).getD a 0=48) || decide (x=1)))=true:=by
   rw[decT hv,Bool.true_and]
   by_cases h:(tb s).getD a 0=48
   ·rw[decT (p:=x=1) (by
     by_cases h2:2≤x
     ·exact absurd h (hz h2)
     ·omega)];simp
   ·rw[decF h];rfl
  rw[hsp]
  unfold mkN
  generalize valN 0 (((tb s).drop a).take x)=v at*
  by_cases hend:a+x < (tb s).length
  ·have hnd':=hnd (by omega)
   have hc2:(decide (48≤(tb s).getD (a+x) 0)&&decide ((tb s).getD (a+x) 0≤57))=false:=by
    unfold digitN at hnd';exact hnd'
   rw[hc2]at hc
   have hq2:((s.data.getD (a+x) 0).toNat:Int)=(((tb s).getD (a+x) 0:Nat):Int):=by rw[tb_getD]
   simp only [go1]
   simp (disch:=omega) only [wrap_id,decT,go1,size_tb,hq2,hc,e9,e8]
  ·simp only [go1]
   simp (disch:=omega) only [wrap_id,decT,decF,go1,size_tb,e9,e8]
end Go.Vm
end

section
set_option linter.all false
set_option maxRecDepth 100000
set_option maxHeartbeats 4000000
namespace Go.Vm
open Go.Proofs
def rtok (k:Int)(s:ByteArray)(n p w:Int)(ok:Bool):PRes:= .val [.int .i64 k, .str s, .int .i64 n, .int .i64 p, .int .i64 w, .bool ok]
theorem tb_tail (s:ByteArray)(a:Nat):tb (s.extract a (tb s).length)=(tb s).drop a:=by rw[tb_ext,List.take_length]
theorem ext_ext (s:ByteArray)(a i j:Nat)(h:a+j≤(tb s).length):(s.extract a (tb s).length).extract i j=s.extract (a+i) (a+j):=by
 apply tb_inj
 rw[tb_ext,tb_tail,tb_ext,←List.drop_drop,List.take_drop]
theorem idx_step {c x:Nat}{r:List Nat}(h:x≠c):idxN c (x::r)=(idxN c r).map (· +1):=by
 rw[idxN,if_neg h]
 try (cases idxN c r<;>rfl)
theorem c_rpath (s:ByteArray)(hs:s.size≤100000)(a:Nat)(ha:a < (tb s).length):cF 59 [.d (.str s), .d (.int .i64 (a:Int))]=some (match idxN 39 ((tb s).drop (a+1))with
  |none=>rtok 0 (bs []) 0 0 (a:Int) false
  |some j=>rtok 4 (s.extract (a+1) (a+1+j)) 0 (a:Int) ((a+1+j+1:Nat):Int) (pathN (tb (s.extract (a+1) (a+1+j))))):=by
 have hlen:(tb s).length≤100000:=by rw[tb_len];exact hs
 have e1:IntKind.i64.wrap ((a:Int)+1)=((a+1+0:Nat):Int):=by rw[wrap_id (by omega) (by omega)];omega
 refine cOf (by kernel_rfl) rfl ?_
 rw[g59_eq]
 simp only [g59,go1,e1]
 refine loopF_at (fun x:Nat=>[.str s, .int .i64 (a:Int), .int .i64 ((a+1+x:Nat):Int), .int .i64 0, .str (bs []), .int .i64 0, .int .i64 0])
  (fun x=>a+1+x≤(tb s).length∧idxN 39 ((tb s).drop (a+1))=(idxN 39 ((tb s).drop (a+1+x))).map (· +x)) (fun x=>(tb s).length - x) (fun x hx=> ?_) 0 ⟨by omega,by rw[Nat.add_zero];cases idxN 39 ((tb s).drop (a+1))<;>rfl⟩
 obtain⟨hle,hi⟩:=hx
 by_cases hlt:a+1+x < (tb s).length
 ·have hq:((s.data.getD (((a+1+x:Nat):Int)).toNat 0).toNat:Int)=(((tb s).getD (a+1+x) 0:Nat):Int):=by rw[Int.toNat_natCast,tb_getD]
  have hd:=drop_cons hlt
  simp only [go1]
  simp (disch:=omega) only [wrap_id,decT,go1,size_tb,hq]
  rw[dec_iff (show(((tb s).getD (a+1+x) 0:Nat):Int)=39↔(tb s).getD (a+1+x) 0=39 by omega)]
  by_cases h39:(tb s).getD (a+1+x) 0=39
  ·right
   rw[decT h39]
   have hj:idxN 39 ((tb s).drop (a+1))=some x:=by
    rw[hi,hd,h39,idxN,if_pos rfl];simp
   have e2:((a:Int)+1).toNat=a+1:=by omega
   have e3:(((a+1+x:Nat):Int)).toNat=a+1+x:=Int.toNat_natCast _
   have z:(s.extract (a+1) (a+1+x)).size≤100000:=by rw[←tb_len,ext_len _ _ _ (by omega) (by omega)];omega
   have k:=c_rPath _ z
   rw[hj]
   simp (disch:=omega) only [wrap_id,go1,e2,e3,k]
   rw[Int.natCast_add (a+1+x) 1];rfl
  ·left
   rw[decF h39]
   refine⟨x+1,?_,⟨by omega,?_⟩,by omega⟩
   ·have:((a+1+x:Nat):Int)+1=((a+1+(x+1):Nat):Int):=by omega
    rw[this];rfl
   ·rw[hi,hd,idx_step h39]
    have:a+1+x+1=a+1+(x+1):=by omega
    rw[this]
    cases idxN 39 ((tb s).drop (a+1+(x+1)))with
    |none=>rfl
    |some j=>simp;omega
 ·right
  have:(tb s).length=a+1+x:=by omega
  have ed:(tb s).drop (a+1+x)= []:=List.drop_of_length_le (by omega)
  rw[ed]at hi
  rw[hi,show idxN 39 []=none from rfl]
  simp only [go1]
  simp (disch:=omega) only [wrap_id,decT,decF,go1,size_tb]
  rfl
theorem c_rmark (t:ByteArray)(hs:t.size≤100000)(h0:0 < (tb t).length):cF 66 [.d (.str t)]=some (.val [.str (match (markT t).ok with
  |true=>(markT t).s
  |false=>bs [])]):=by
 have hlen:(tb t).length≤100000:=by rw[tb_len];exact hs
 refine cOf (by kernel_rfl) rfl ?_
 rw[g66_eq]
 simp only [g66,go1,Int.reduceLE]
 refine loopF_at (fun i:Nat=>[.str t, .int .i64 (i:Int), .sl 1 (srows twoB)]) (fun i=>i≤5∧ ∀j,j < i→(tb t).take 2≠twoN.getD j []) (fun i=>5 - i) (fun i hi=> ?_) 0 ⟨by omega,fun j hj=>by omega⟩
 obtain⟨hle,hno⟩:=hi
 have hrl:((srows twoB).length:Int)=5:=rfl
 by_cases hlt:i < 5
 ·obtain⟨m,hm,htm,hl2⟩:=two_at i hlt
  have hrow:sy.rown (srows twoB) i= [.str m]:=by
   rw[sy_rown,List.getD_eq_getElem?_getD]
   unfold srows
   rw[List.getElem?_map,hm];rfl
  by_cases h2:2≤(tb t).length
  ·have e:((t.extract (0:Int).toNat (2:Int).toNat).toList == m.toList)=decide ((tb t).take 2=twoN.getD i []):=by
    rw[seq_tb,tb_scut,htm];rfl
   simp only [go1]
   simp (disch:=omega) only [wrap_id,decT,go1,size_tb,hrl,Int.toNat_natCast,hrow,e]
   cases hh:decide ((tb t).take 2=twoN.getD i [])with
   |true=>
    right
    have he:=of_decide_eq_true hh
    have hc:twoN.contains ((tb t).take 2)=true:=two_in.2 ⟨i,hlt,he⟩
    have hx:m=t.extract 0 2:=tb_inj (by rw[tb_ext,List.drop_zero,he,htm])
    unfold markT
    rw[hc,←hx]
    rfl
   |false=>
    left
    have he:=of_decide_eq_false hh
    exact⟨i+1,by rw[Int.natCast_add];rfl,⟨by omega,fun j hj=>by
     by_cases e:j=i
     ·subst e;exact he
     ·exact hno j (by omega)⟩,by omega⟩
  ·left
   simp only [go1]
   simp (disch:=omega) only [wrap_id,decT,decF,go1,size_tb,hrl]
   have he:(tb t).take 2≠twoN.getD i []:=fun h=>by
    have:=congrArg List.length h
    rw[hl2,List.length_take]at this
    omega
   exact⟨i+1,by rw[Int.natCast_add];rfl,⟨by omega,fun j hj=>by
    by_cases e:j=i
    ·subst e;exact he
    ·exact hno j (by omega)⟩,by omega⟩
 ·right
  have:i=5:=by omega
  subst this
  have hc:twoN.contains ((tb t).take 2)=false:=by
   rw[Bool.eq_false_iff]
   intro h
   obtain⟨j,hj,he⟩:=two_in.1 h
   exact hno j hj he
  simp only [go1]
  simp (disch:=omega) only [wrap_id,decF,go1,hrl]
  have ho:bs [40,41,123,125,91,93,44,59,58,61,60,62,43,45,42,47]=bs oneL:=rfl
  rw[ho]
  have hol:((tb (bs oneL)).length:Int)=16:=rfl
  have htb:tb (bs oneL)=oneN:=rfl
  refine loopF_at (fun i:Nat=>[.str t, .str (bs oneL), .int .i64 (i:Int)]) (fun i=>i≤16∧ ∀j,j < i→(tb t).getD 0 0≠oneN.getD j 0) (fun i=>16 - i) (fun i hi=> ?_) 0 ⟨by omega,fun j hj=>by omega⟩
  obtain⟨hle,hno⟩:=hi
  by_cases hlt:i < 16
  ·have hq:((t.data.getD (0:Int).toNat 0).toNat:Int)=(((tb t).getD 0 0:Nat):Int):=by rw[toNat0,hd_tb]
   have hq2:(((bs oneL).data.getD ((i:Nat):Int).toNat 0).toNat:Int)=((oneN.getD i 0:Nat):Int):=by rw[Int.toNat_natCast,←htb,tb_getD]
   simp only [go1]
   simp (disch:=omega) only [wrap_id,decT,go1,size_tb,hol,hq,hq2]
   rw[dec_iff (show(((tb t).getD 0 0:Nat):Int)=((oneN.getD i 0:Nat):Int)↔(tb t).getD 0 0=oneN.getD i 0 by omega)]
   by_cases he:(tb t).getD 0 0=oneN.getD i 0
   ·right
    rw[decT he]
    have hin:oneN.contains ((tb t).getD 0 0)=true:=by
     rw[he,List.contains_iff_mem,List.getD_eq_getElem?_getD,List.getElem?_eq_getElem (show i < oneN.length from hlt)]
     exact List.getElem_mem _
    have hx:(bs oneL).extract i (i+1)=t.extract 0 1:=tb_inj (by
     rw[tb_ext,tb_ext,htb,List.drop_zero,take_snoc _ _ (show i < oneN.length from hlt),List.drop_append_of_le_length (by simp [oneN];omega),List.drop_of_length_le (by rw[List.length_take];omega),←he,List.nil_append]
     match tb t,h0 with
     |c::r,_=>rfl)
    unfold markT
    rw[hc,hin]
    have e4:(((i:Nat):Int)).toNat=i:=Int.toNat_natCast _
    have e5:((((i:Nat):Int))+1).toNat=i+1:=by omega
    simp (disch:=omega) only [wrap_id,go1,e4,e5,hx]
    try rfl
   ·left
    rw[decF he]
    exact⟨i+1,by rw[Int.natCast_add];rfl,⟨by omega,fun j hj=>by
     by_cases e:j=i
     ·subst e;exact he
     ·exact hno j (by omega)⟩,by omega⟩
  ·right
   have:i=16:=by omega
   subst this
   have hin:oneN.contains ((tb t).getD 0 0)=false:=by
    rw[Bool.eq_false_iff]
    intro h
    rw[List.contains_iff_mem]at h
    obtain⟨j,hj,he⟩:=List.mem_iff_getElem.1 h
    refine hno j hj ?_
    rw[List.getD_eq_getElem?_getD (l:=oneN),List.getElem?_eq_getElem hj];exact he.symm
   unfold markT
   rw[hc,hin]
   simp only [go1]
   simp (disch:=omega) only [wrap_id,decT,decF,go1,size_tb,hol]
   rfl
end Go.Vm
end

section
set_option linter.all false
set_option maxRecDepth 100000
set_option maxHeartbeats 4000000
namespace Go.Vm
open Go.Proofs
theorem c_rxsmall (n:Nat):cF 60 [.d (.int .u8 (n:Int)), .d (.int .u8 97), .d (.int .u8 122)]=some (.val [.bool (smallN n)]):=c_rxin n 97 122
theorem c_rxgreat (n:Nat):cF 60 [.d (.int .u8 (n:Int)), .d (.int .u8 65), .d (.int .u8 90)]=some (.val [.bool (greatN n)]):=c_rxin n 65 90
theorem c_rxdigit (n:Nat):cF 60 [.d (.int .u8 (n:Int)), .d (.int .u8 48), .d (.int .u8 57)]=some (.val [.bool (digitN n)]):=c_rxin n 48 57
theorem c_rxinner (n:Nat):cF 62 [.d (.int .u8 (n:Int))]=some (.val [.bool (innerN n)]):=by
 refine cOf (by kernel_rfl) rfl ?_
 rw[g62_eq]
 simp only [g62,go1,c_rxsmall,c_rxgreat,c_rxdigit]
 rw[dec_iff (show(n:Int)=95↔n=95 by omega)]
 unfold innerN
 cases smallN n<;>cases greatN n<;>cases digitN n<;>cases decide (n=95)<;>rfl
def SameTok (t:Tok)(a:Nat)(p:PRes):Prop:= ∃k s n q w,p=rtok k s n q w t.ok∧(t.ok=true→k=t.k∧s=t.s∧n=t.n∧q=(a:Int)∧w=((a+t.w:Nat):Int))
theorem number_same (s:ByteArray)(a:Nat)(ha:a < (tb s).length)(hda:digitN ((tb s).getD a 0)=true):
  ∃k u n q w ok,numR s a= .val [.int .i64 k, .str u, .int .i64 n, .int .i64 q, .bool ok]∧ok=(numberT (s.extract a (tb s).length)).ok∧w=u.size∧
   (ok=true→k=3∧u=(numberT (s.extract a (tb s).length)).s∧n=(numberT (s.extract a (tb s).length)).n∧q=(a:Int)∧w=(numberT (s.extract a (tb s).length)).w):=by
 have hmle:=spanN_le digitN ((tb s).drop a)
 rw[List.length_drop]at hmle
 have hpos:0 < spanN digitN ((tb s).drop a):=span_pos (by rw[getD_drop];exact hda) (by rw[List.length_drop];omega)
 have hx:(s.extract a (tb s).length).extract 0 (spanN digitN ((tb s).drop a))=s.extract a (a+spanN digitN ((tb s).drop a)):=ext_ext s a 0 _ (by omega)
 have htw:tb (s.extract a (a+spanN digitN ((tb s).drop a)))=((tb s).drop a).take (spanN digitN ((tb s).drop a)):=by
  rw[tb_ext,List.drop_take,Nat.add_sub_cancel_left]
 have hall:(tb (s.extract a (a+spanN digitN ((tb s).drop a)))).all digitN=true:=by rw[htw,take_span];exact List.all_takeWhile
 have hl:(tb (s.extract a (a+spanN digitN ((tb s).drop a)))).length=spanN digitN ((tb s).drop a):=by rw[htw,List.length_take,List.length_drop];omega
 obtain⟨p1,p2⟩:=parse_digits _ hall (by omega)
 unfold numberT numR
 simp only [tb_tail,getD_drop0,hx]
 rw[p1]
 rw[htw]at p2 ⊢
 have hsz:(s.extract a (a+spanN digitN ((tb s).drop a))).size=spanN digitN ((tb s).drop a):=by rw[←tb_len,hl]
 cases hb:(decide (valN 0 (((tb s).drop a).take (spanN digitN ((tb s).drop a))) < 9223372036854775808)&&(!decide ((tb s).getD a 0=48) || decide (spanN digitN ((tb s).drop a)=1)))with
 |false=>exact⟨_,_,_,_,_,_,rfl,rfl,rfl,fun h=>by cases h⟩
 |true=>
  have hv:=(Bool.and_eq_true _ _▸hb).1
  exact⟨_,_,_,_,_,_,rfl,rfl,rfl,fun _=>⟨rfl,rfl,(p2 (of_decide_eq_true hv)).symm,rfl,hsz⟩⟩
theorem c_rone (s:ByteArray)(hs:s.size≤100000)(a:Nat)(ha:a < (tb s).length): ∃p,cF 29 [.d (.str s), .d (.int .i64 (a:Int))]=some p∧SameTok (nextT0 (s.extract a (tb s).length)) a p:=by
 have hlen:(tb s).length≤100000:=by rw[tb_len];exact hs
 have hq:((s.data.getD (a:Int).toNat 0).toNat:Int)=(((tb s).getD a 0:Nat):Int):=by rw[Int.toNat_natCast,tb_getD]
 have kd:=c_rxdigit ((tb s).getD a 0)
 have ks:=c_rxsmall ((tb s).getD a 0)
 have kg:=c_rxgreat ((tb s).getD a 0)
 have hh:(tb (s.extract a (tb s).length)).getD 0 0=(tb s).getD a 0:=by rw[tb_tail,getD_drop0]
 refine cOfP (by kernel_rfl) rfl ?_
 rw[g29_eq]
 simp only [g29,go1]
 simp (disch:=omega) only [wrap_id,decT,go1,size_tb,hq]
 rw[dec_iff (show(((tb s).getD a 0:Nat):Int)=39↔(tb s).getD a 0=39 by omega)]
 have htl:=tb_tail s a
 have e8:((a:Int)).toNat=a:=Int.toNat_natCast _
 have e7:(((tb s).length:Nat):Int).toNat=(tb s).length:=Int.toNat_natCast _
 by_cases h39:(tb s).getD a 0=39
 ·rw[decT h39]
  have kp:=c_rpath s hs a ha
  have hn:nextT0 (s.extract a (tb s).length)=pathT (s.extract a (tb s).length):=by
   unfold nextT0
   simp only [hh,h39]
   rfl
  rw[hn]
  unfold pathT
  rw[htl,List.drop_drop]
  cases hi:idxN 39 ((tb s).drop (a+1))with
  |none=>
   rw[hi]at kp
   simp only [rtok]at kp
   simp only [go1,kp]
   exact⟨_,rfl,_,_,_,_,_,rfl,fun h=>by cases h⟩
  |some j=>
   rw[hi]at kp
   have hlt:=(idxN_some hi).1
   simp only [List.length_drop]at hlt
   simp only [rtok]at kp
   simp only [go1,kp]
   have hx:=ext_ext s a 1 (j+1) (by omega)
   have e2:a+(j+1)=a+1+j:=by omega
   rw[e2]at hx
   refine⟨_,rfl,4,s.extract (a+1) (a+1+j),0,(a:Int),((a+1+j+1:Nat):Int),?_,fun _=>⟨rfl,hx.symm,rfl,rfl,?_⟩⟩
   ·show _=rtok _ _ _ _ _ (pathN (tb ((s.extract a (tb s).length).extract 1 (j+1))))
    rw[hx];rfl
   ·show((a+1+j+1:Nat):Int)=((a+(j+2):Nat):Int)
    omega
 ·rw[decF h39]
  cases hd:digitN ((tb s).getD a 0)with
  |true=>
   have kn:=c_rnumber s hs a ha hd
   obtain⟨k,u,n,q,w,ok,h1,h2,h3,h4⟩:=number_same s a ha hd
   rw[h1]at kn
   have hn:nextT0 (s.extract a (tb s).length)=numberT (s.extract a (tb s).length):=by
    unfold nextT0
    have hs1:smallN ((tb s).getD a 0)=false:=by
     unfold digitN at hd;unfold smallN
     simp only [Bool.and_eq_true,decide_eq_true_eq]at hd
     rw[decF (by omega)];rfl
    have hs2:greatN ((tb s).getD a 0)=false:=by
     unfold digitN at hd;unfold greatN
     simp only [Bool.and_eq_true,decide_eq_true_eq]at hd
     rw[decF (by omega)];rfl
    simp only [hh,hd,hs1,hs2,Bool.false_or]
   rw[hd]at kd
   rw[hn]
   simp only [go1,kd,kn]
   refine⟨_,rfl,k,u,n,q,IntKind.i64.wrap ((a:Int)+((tb u).length:Int)),?_,fun hok=> ?_⟩
   ·rw[←h2];rfl
   ·rw[←h2]at hok
    obtain⟨i1,i2,i3,i4,i5⟩:=h4 hok
    refine⟨i1,i2,i3,i4,?_⟩
    rw[tb_len,←h3,i5]
    have hw:(numberT (s.extract a (tb s).length)).w≤(tb s).length - a:=by
     have:=spanN_le digitN (tb (s.extract a (tb s).length))
     rw[htl,List.length_drop]at this
     unfold numberT
     rw[htl];exact this
    rw[wrap_id (by omega) (by omega)];omega
  |false=>
   cases hl:(smallN ((tb s).getD a 0) || greatN ((tb s).getD a 0))with
   |true=>
    have hin:innerN ((tb s).getD a 0)=true:=by unfold innerN;rw[hl];rfl
    have hn:nextT0 (s.extract a (tb s).length)=wordT (s.extract a (tb s).length):=by
     unfold nextT0
     simp only [hh,hl]
    have hmle:=spanN_le innerN ((tb s).drop a)
    have hpos:0 < spanN innerN ((tb s).drop a):=span_pos (by rw[getD_drop];exact hin) (by rw[List.length_drop];omega)
    have hdg:=span_at (p:=innerN) ((tb s).drop a)
    have hnd:=span_end (p:=innerN) ((tb s).drop a)
    rw[List.length_drop]at hmle hnd
    simp only [getD_drop]at hdg hnd
    have hx:(s.extract a (tb s).length).extract 0 (spanN innerN ((tb s).drop a))=s.extract a (a+spanN innerN ((tb s).drop a)):=ext_ext s a 0 _ (by omega)
    rw[hd]at kd
    rw[hn]
    unfold wordT
    simp only [htl,hx,getD_drop0]
    generalize spanN innerN ((tb s).drop a)=m at*
    have z:(s.extract a (a+m)).size≤100000:=by rw[←tb_len,ext_len _ _ _ (by omega) (by omega)];omega
    have r1:=c_rHigh _ z
    have r2:=c_rLow _ z
    have r3:=c_rWord (s.extract a (a+m))
    refine⟨rtok (match greatN ((tb s).getD a 0)with|true=>2|false=>1) (s.extract a (a+m)) 0 (a:Int) ((a+m:Nat):Int) (match greatN ((tb s).getD a 0)with|true=>highN (tb (s.extract a (a+m)))|false=>lowN (tb (s.extract a (a+m))) || wordN (tb (s.extract a (a+m)))),?_,?_⟩
    ·have hb:(cutO (bif smallN ((tb s).getD a 0)then some (Sum.inl [D.bool true])else some (Sum.inl [D.bool (greatN ((tb s).getD a 0))])) fun ds=>opB (sy.cell ds 0))=some true:=by
      cases hs1:smallN ((tb s).getD a 0)with
      |true=>rfl
      |false=>rw[hs1,Bool.false_or]at hl;rw[hl];rfl
     have key: ∀b1 b2:Bool,(b1 || b2)=true→ ∀(X Y:Option PRes),(bif (b1 || b2)then X else Y)=X:=fun b1 b2 h X Y=>by rw[h];rfl
     simp only [go1,kd,ks,kg,hl]
     refine loopF_at (fun x:Nat=>[.str s, .int .i64 (a:Int), .int .u8 (((tb s).getD a 0:Nat):Int), .int .i64 ((a+x:Nat):Int), .int .i64 0, .str (bs []), .int .i64 0, .int .i64 0]) (fun x=>x≤m) (fun x=>m - x) (fun x hxm=> ?_) 0 (Nat.zero_le _)
     have hq1:((s.data.getD (((a+x:Nat):Int)).toNat 0).toNat:Int)=(((tb s).getD (a+x) 0:Nat):Int):=by rw[Int.toNat_natCast,tb_getD]
     have ki:=c_rxinner ((tb s).getD (a+x) 0)
     by_cases hlt:x < m
     ·left
      have hdx:=hdg x hlt
      rw[hdx]at ki
      simp only [go1]
      simp (disch:=omega) only [wrap_id,decT,go1,hq1,ki]
      have e9:((a+x:Nat):Int)+1=((a+(x+1):Nat):Int):=by omega
      exact⟨x+1,by rw[e9],by omega,by omega⟩
     ·right
      have:x=m:=by omega
      subst this
      have e9:(((a+x:Nat):Int)).toNat=a+x:=Int.toNat_natCast _
      by_cases hend:a+x < (tb s).length
      ·have hnd':=hnd (by omega)
       rw[hnd']at ki
       simp only [go1]
       have hq2:((s.data.getD (a+x) 0).toNat:Int)=(((tb s).getD (a+x) 0:Nat):Int):=by rw[tb_getD]
       simp (disch:=omega) only [wrap_id,decT,go1,hq2,ki,e8,e9,kg]
       cases greatN ((tb s).getD a 0)with
       |true=>
        simp (disch:=omega) only [wrap_id,go1,r1]
        try rfl
       |false=>
        simp only [go1,r2]
        cases lowN (tb (s.extract a (a+x)))with
        |true=>simp only [go1];try rfl
        |false=>simp only [go1,r3];try rfl
      ·simp only [go1]
       simp (disch:=omega) only [wrap_id,decT,decF,go1,e8,e9,kg]
       cases greatN ((tb s).getD a 0)with
       |true=>
        simp (disch:=omega) only [wrap_id,go1,r1]
        try rfl
       |false=>
        simp only [go1,r2]
        cases lowN (tb (s.extract a (a+x)))with
        |true=>simp only [go1];try rfl
        |false=>simp only [go1,r3];try rfl
    ·cases greatN ((tb s).getD a 0)with
     |true=>exact⟨_,_,_,_,_,rfl,fun _=>⟨rfl,rfl,rfl,rfl,rfl⟩⟩
     |false=>exact⟨_,_,_,_,_,rfl,fun _=>⟨rfl,rfl,rfl,rfl,rfl⟩⟩
   |false=>
    have hl2:=hl
    rw[Bool.or_eq_false_iff]at hl2
    have hn:nextT0 (s.extract a (tb s).length)=markT (s.extract a (tb s).length):=by
     unfold nextT0
     simp only [hh,hl,hd,decF h39]
    have z:(s.extract a (tb s).length).size≤100000:=by rw[←tb_len,htl,List.length_drop];omega
    have hp:0 < (tb (s.extract a (tb s).length)).length:=by rw[htl,List.length_drop];omega
    have km:=c_rmark _ z hp
    have hok:=markT_ok _ hp
    rw[hn]
    rw[hd]at kd
    rw[hl2.1]at ks
    rw[hl2.2]at kg
    have hwl:(markT (s.extract a (tb s).length)).ok=true→(tb (markT (s.extract a (tb s).length)).s).length=(markT (s.extract a (tb s).length)).w∧1≤(markT (s.extract a (tb s).length)).w∧(markT (s.extract a (tb s).length)).w≤(tb s).length - a:=fun h=>by
     obtain⟨q1,q2,q3,q4,q5⟩:=hok h
     have hk:(markT (s.extract a (tb s).length)).k≠4:=by
      unfold markT at h ⊢
      revert h
      split<;>intro h<;>first|exact(by decide:(5:Int)≠4)|cases h
     rw[htl,List.length_drop]at q2
     refine⟨?_,q1,q2⟩
     rw[q5 hk,htl,List.length_take,List.length_drop];omega
    have hzz:(markT (s.extract a (tb s).length)).k=5∨(markT (s.extract a (tb s).length)).ok=false:=by
     unfold markT
     split
     ·exact .inl rfl
     ·exact .inl rfl
     ·exact .inr rfl
    have hnn:(markT (s.extract a (tb s).length)).n=0:=by
     unfold markT
     split<;>rfl
    generalize markT (s.extract a (tb s).length)=t at*
    simp only [go1,kd,ks,kg]
    simp (disch:=omega) only [wrap_id,e8,e7]
    cases hb:t.ok with
    |false=>
     rw[hb]at km
     have hse:((bs []).toList == (bs []).toList)=true:=by rw[seq_tb];exact decT rfl
     simp only [go1,km,hse]
     exact⟨_,rfl,5,bs [],0,(a:Int),IntKind.i64.wrap ((a:Int)+((tb (bs [])).length:Int)),by rw[hb];rfl,fun h=>by rw[hb]at h;cases h⟩
    |true=>
     rw[hb]at km
     obtain⟨w1,w2,w3⟩:=hwl hb
     have hk5:t.k=5:=by
      rcases hzz with h|h
      ·exact h
      ·rw[hb]at h;cases h
     have hsq:(t.s.toList == (bs []).toList)=false:=by
      rw[seq_tb]
      refine decF fun h=> ?_
      have:=congrArg List.length h
      rw[w1,tb_bs]at this
      simp at this;omega
     simp only [go1,km,hsq]
     refine⟨_,rfl,5,t.s,0,(a:Int),IntKind.i64.wrap ((a:Int)+((tb t.s).length:Int)),?_,fun _=>⟨hk5.symm,rfl,hnn.symm,rfl,?_⟩⟩
     ·rw[hb];rfl
     ·rw[w1,wrap_id (by omega) (by omega)];omega
end Go.Vm
end

section
set_option linter.all false
set_option maxRecDepth 100000
set_option maxHeartbeats 4000000
namespace Go.Vm
open Go.Proofs
theorem c_rAll (s:ByteArray)(most:Int)(hs:s.size≤100000):cF 9 [.d (.str s), .d (.int .i64 most)]=some (allR s most):=by
 have hlen:(tb s).length≤100000:=by rw[tb_len];exact hs
 have k0:=c_rskip s hs 0 (Nat.zero_le _)
 refine cOf (by kernel_rfl) rfl ?_
 rw[g9_eq]
 simp only [g9,go1,Nat.reduceAdd]
 unfold allR
 rw[size_tb]
 cases hm:decide (most < ((tb s).length:Int))with
 |true=>simp only [go1]
 |false=>
  rw[show((0:Nat):Int)=0 from rfl]at k0
  simp only [go1,k0]
  rw[show gapN (List.drop 0 (tb s))=0+gapN (List.drop 0 (tb s))from(Nat.zero_add _).symm]
  refine loopF_at (fun x:Nat × List Tk=>[.str s, .int .i64 ((x.1+gapN ((tb s).drop x.1):Nat):Int), .sl 4 (trows x.2)]) (fun x=>x.1≤(tb s).length∧x.2.length≤x.1∧lexS s 0=(x.2++(lexS s x.1).1,(lexS s x.1).2)) (fun x=>(tb s).length - x.1) (fun x hx=> ?_) (0,[]) ⟨Nat.zero_le _,Nat.le_refl _,by simp⟩
  obtain⟨a,acc⟩:=x
  obtain⟨h1,h2,h3⟩:=hx
  simp only at h1 h2 h3
  have hg:=gapN_le _ _ (Nat.le_refl ((tb s).drop a).length)
  simp only [List.length_drop]at hg
  have heq:=lexS.eq_def s a
  simp only
  generalize gapN ((tb s).drop a)=g at hg heq ⊢
  have hal:(trows acc).length=acc.length:=trows_len acc
  by_cases hp:a+g < (tb s).length
  ·rw[dif_pos hp]at heq
   obtain⟨p,k1,k,u,n,q,w,rfl,hsm⟩:=c_rone s hs (a+g) hp
   have hpos:0 < (tb (s.extract (a+g) (tb s).length)).length:=by rw[tb_tail,List.length_drop];omega
   have hok:=nextT0_ok (s.extract (a+g) (tb s).length) hpos
   rw[tb_tail]at hok
   generalize nextT0 (s.extract (a+g) (tb s).length)=t at k1 hsm hok heq
   simp only [rtok]at k1
   simp only [go1]
   simp (disch:=omega) only [wrap_id,decT,go1,size_tb,k1]
   cases hb:t.ok with
   |false=>
    right
    rw[dif_neg (by rw[hb];simp)]at heq
    rw[h3,heq]
    simp only [go1]
   |true=>
    left
    obtain⟨q1,q2,_⟩:=hok hb
    obtain⟨rfl,rfl,rfl,rfl,rfl⟩:=hsm hb
    simp only [List.length_drop]at q2
    rw[dif_pos ⟨hb,q1⟩]at heq
    have k2:=c_rskip s hs (a+g+t.w) (by omega)
    refine⟨(a+g+t.w,acc++[⟨t.k,t.s,t.n,a+g⟩]),?_,⟨by simp only;omega,by simp;omega,?_⟩,by simp only;omega⟩
    ·simp (disch:=omega) only [wrap_id,decT,go1,hal,List.length_singleton,k2]
     rw[←trows_app]
     rfl
    ·rw[h3,heq];simp
  ·right
   rw[dif_neg hp]at heq
   have hpe:a+g=(tb s).length:=by omega
   rw[h3,heq,←trows_app,←trows_app]
   simp only [go1]
   simp (disch:=omega) only [wrap_id,decT,decF,go1,size_tb,hal,List.length_singleton]
   rw[show trows ([]:List Tk)= []from rfl,List.append_nil]
   rfl
end Go.Vm
end

section
set_option linter.all false
set_option maxRecDepth 100000
set_option maxHeartbeats 4000000
namespace Go.Vm
open Go.Proofs
theorem ext_sz (s:ByteArray)(a b:Nat):(s.extract a b).size≤s.size:=by
 rw[ByteArray.size_extract];omega
theorem nextT0_s (s:ByteArray):(nextT0 s).s.size≤s.size:=by
 have h0:(bs []).size≤s.size:=Nat.zero_le _
 unfold nextT0
 simp only
 split
 ·unfold wordT
  simp only
  split<;>exact ext_sz _ _ _
 ·exact ext_sz _ _ _
 ·unfold pathT
  split
  ·exact h0
  ·exact ext_sz _ _ _
 ·unfold markT
  split
  ·exact ext_sz _ _ _
  ·exact ext_sz _ _ _
  ·exact h0
theorem nextT0_5 (s:ByteArray)(h:(nextT0 s).k=5):(nextT0 s).s.size≤2:=by
 unfold nextT0 at h ⊢
 simp only at h ⊢
 split at h
 ·rename_i hc;unfold wordT at h;simp only at h;split at h<;>cases h
 ·cases h
 ·unfold pathT at h
  split at h<;>cases h
 ·rename_i h1 h2 h3
  unfold markT at h ⊢
  split
  ·show(s.extract 0 2).size≤2
   rw[ByteArray.size_extract];omega
  ·show(s.extract 0 1).size≤2
   rw[ByteArray.size_extract];omega
  ·rename_i h4 h5
   rw[h4,h5]at h
   cases h
theorem lexS_tok (s:ByteArray): ∀(m a:Nat),(tb s).length - a≤m→(∀t∈(lexS s a).1,t.s.size≤s.size∧(t.k=5→t.s.size≤2))∧(lexS s a).1.length≤(tb s).length - a
 |m,a,hm=>by
  rw[lexS]
  split
  ·rename_i hp
   split
   ·rename_i h
    have ih:=lexS_tok s (m - 1) (a+gapN ((tb s).drop a)+(nextT0 (s.extract (a+gapN ((tb s).drop a)) (tb s).length)).w) (by omega)
    refine⟨fun t ht=> ?_,?_⟩
    ·rcases List.mem_cons.1 ht with rfl|ht
     ·exact⟨Nat.le_trans (nextT0_s _) (ext_sz _ _ _),fun h5=>nextT0_5 _ h5⟩
     ·exact ih.1 t ht
    ·simp only [List.length_cons]
     omega
   ·exact⟨(by simp),Nat.zero_le _⟩
  ·exact⟨(by simp),Nat.zero_le _⟩
 termination_by m a=>(tb s).length - a
 decreasing_by omega
def toksS (s:ByteArray):List Tk:=(lexS s 0).1++[endT s]
theorem toks_mem {s:ByteArray}(hs:s.size≤100000){t:Tk}(h:t∈toksS s):t.s.size≤100000∧(t.k=5→t.s.size≤2):=by
 rcases List.mem_append.1 h with h|h
 ·have:=(lexS_tok s _ 0 (Nat.le_refl _)).1 t h
  exact⟨by omega,this.2⟩
 ·rw[List.mem_singleton.1 h]
  exact⟨bs0_size,fun h=>by cases h⟩
theorem tkA_prop {l:List Tk}{Q:Tk→Prop}(h0:Q ⟨6,bs [],0,0⟩)(h: ∀t∈l,Q t)(j:Nat):Q (tkA l j):=by
 unfold tkA
 rw[List.getD_eq_getElem?_getD]
 cases hx:l[j]? with
 |none=>exact h0
 |some t=>exact h t (List.mem_of_getElem? hx)
theorem TS_of {l:List Tk}(h: ∀t∈l,t.s.size≤100000):TS l:=fun j=>tkA_prop (Q:=fun t=>t.s.size≤100000) (by decide) h j
theorem TOK_of {l:List Tk}(h: ∀t∈l,t.k=5→t.s.size≤2):TOK l:=fun j hj=>by
 have:=tkA_prop (Q:=fun t=>t.k=5→t.s.size≤2) (fun _=>by decide) h j hj
 refine⟨fun e=> ?_,fun e=> ?_⟩<;>(rw[e]at this;revert this;decide)
theorem LOK_toks (s:ByteArray)(hs:s.size≤100000):LOK (toksS s):=by
 have h:=(lexS_tok s _ 0 (Nat.le_refl _)).2
 have h2:(tb s).length≤100000:=by rw[tb_len];exact hs
 refine⟨by simp [toksS],?_,?_⟩
 ·simp [tkA,toksS,endT]
 ·simp only [toksS,List.length_append,List.length_cons,List.length_nil];omega
def okTok (l:List Tk)(i:Int):Bool:=decide (0≤i)&&(decide (i < (l.length:Int))&&decide ((tkA l (l.length - 1)).k=6))
theorem last_at {l:List Tk}(h:0 < l.length)(hl:l.length≤1000000):IntKind.i64.wrap ((l.length:Int) - 1)=((l.length - 1:Nat):Int):=by
 rw[wrap_id (by omega) (by omega)];omega
theorem c_ptokens (l:List Tk)(i:Int)(hl:l.length≤1000000):cF 40 [.d (.sl 4 (trows l)), .d (.int .i64 i)]=some (.val [.bool (okTok l i)]):=by
 refine cOf (by kernel_rfl) rfl ?_
 rw[g40_eq]
 simp only [g40,go1,trows_len]
 unfold okTok
 cases h0:decide (0≤i)with
 |false=>rfl
 |true=>
  cases h1:decide (i < (l.length:Int))with
  |false=>rfl
  |true=>
   have h0:=of_decide_eq_true h0
   have h1:=of_decide_eq_true h1
   have hpos:0 < l.length:=by omega
   have hlt:l.length - 1 < l.length:=by omega
   have q1:=in_tk hlt
   have q2:=row_tk hlt
   rw[trows_len]at q1
   simp only [go1,last_at hpos hl,q1,q2,tkrow]
def encP:Ex × Int × Int→PRes
 |(.mk k n s o a u,p,r)=> .val [.int .i64 k, .int .i64 n, .str s, .int .i64 o, .sl 1 (srows a), .sl 6 (Ex.rows u), .int .i64 p, .int .i64 r]
def partS (l:List Tk)(i:Nat):Ex × Int × Int:=match readS l i with
 | .out=>(e0,(i:Int),1)
 | .bad j=>(e0,(j:Int),2)
 | .ok e j=>bif !smallB e then(e0,(i:Int),3)else bif !allB e then(e0,(i:Int),1)else(e,(j:Int),0)
theorem small_big (e:Ex):(decide ((12:Int) < (e.depth:Int)) || decide ((60:Int) < (e.size:Int)))= !smallB e:=by
 unfold smallB
 rw[nlt,nlt]
 have e1:decide ((e.depth:Int)≤12)=decide (e.depth≤12):=by rw[Bool.eq_iff_iff];simp;try omega
 have e2:decide ((e.size:Int)≤60)=decide (e.size≤60):=by rw[Bool.eq_iff_iff];simp;try omega
 rw[e1,e2]
 cases decide (e.depth≤12)<;>cases decide (e.size≤60)<;>rfl
theorem c_pread {l:List Tk}(hl:LOK l)(i:Nat)(hi:i < l.length):cF 41 [.d (.sl 4 (trows l)), .d (.int .i64 (i:Int))]=some (match readS l i with
  | .ok (.mk k n s o a u) j=> .val [.int .i64 k, .int .i64 n, .str s, .int .i64 o, .sl 1 (srows a), .sl 6 (Ex.rows u), .int .i64 (j:Int), .bool true]
  | .bad j=> .val [.int .i64 0, .int .i64 0, .str (bs []), .int .i64 0, .sl 1 [], .sl 6 [], .int .i64 (j:Int), .bool false]
  | .out=> .val []):=by
 have h:=c_parrow hl i hi
 have hne:=readS_ne hl i hi
 refine cOf (by kernel_rfl) rfl ?_
 rw[g41_eq]
 simp only [g41,go1,h]
 cases hR:readS l i with
 |out=>exact(hne hR).elim
 |bad j=>rfl
 |ok e j=>obtain⟨k,n,s,o,a,u⟩:=e;rfl
theorem c_pPart {l:List Tk}(hl:LOK l)(ht:TS l)(i:Nat)(hi:i < l.length):cF 22 [.d (.sl 4 (trows l)), .d (.int .i64 (i:Int))]=some (encP (partS l i)):=by
 have hf:=hl.few
 have h1:=c_ptokens l (i:Int) hf
 have h0:okTok l (i:Int)=true:=by
  unfold okTok;rw[decT (by omega),decT (by omega),hl.last];rfl
 rw[h0]at h1
 have h2:=c_pread hl i hi
 have hne:=readS_ne hl i hi
 unfold partS
 refine cOf (by kernel_rfl) rfl ?_
 rw[g22_eq]
 simp only [g22,go1,h1,h2]
 cases hR:readS l i with
 |out=>exact(hne hR).elim
 |bad j=>rfl
 |ok e j=>
  have hz:=readS_sz ht hR
  have hj:=((prs_HQ hl (fuel l)).pos .arrow i e j hi hR).2
  have hff:=okS_fine e hz.2 (by omega)
  have hsm:=small_big e
  obtain⟨k,n,s,o,a,u⟩:=e
  have k1:=c_eDepth 1000000 k n s o a u (by omega) (Nat.le_refl _)
  have k2:=c_eSize k n s o a u (by omega)
  have k3:=c_eRight k n s o a u (by omega) hff
  simp only [go1,oE,k1,k2,k3]
  cases g1:decide ((12:Int) < ((Ex.mk k n s o a u).depth:Int))with
  |true=>
   rw[g1,Bool.true_or]at hsm
   simp only [go1,←hsm]
   rfl
  |false=>
   cases g2:decide ((60:Int) < ((Ex.mk k n s o a u).size:Int))with
   |true=>
    rw[g1,g2,Bool.false_or]at hsm
    simp only [go1,←hsm]
    rfl
   |false=>
    rw[g1,g2,Bool.false_or]at hsm
    have hsm2:smallB (.mk k n s o a u)=true:=by cases h:smallB (.mk k n s o a u)with
     |true=>rfl
     |false=>rw[h]at hsm;cases hsm
    simp only [go1,hsm2]
    cases allB (.mk k n s o a u)<;>(simp only [go1];rfl)
theorem c_qPart {l:List Tk}(hl:LOK l)(ht:TS l)(hT:TOK l)(i:Nat)(hi:i < l.length):cF 24 [.d (.sl 4 (trows l)), .d (.int .i64 (i:Int))]=some (encP (partS l i)):=by
 have hf:=hl.few
 have hlt:l.length - 1 < l.length:=by omega
 have q1:=in_tk hlt
 have q2:=row_tk hlt
 have q0:=last_at hl.pos hf
 have h2:=QR_cases (c_qArrow hl hT i hi)
 have hne:=readS_ne hl i hi
 have e1:decide ((i:Int) < 0)=false:=decF (by omega)
 have e2:decide ((l.length:Int)≤(i:Int))=false:=decF (by omega)
 have e3:=hl.last
 rw[trows_len]at q1
 unfold partS
 refine cOf (by kernel_rfl) rfl ?_
 rw[g24_eq]
 simp only [g24,go1,trows_len,e1,e2,q0,q1,q2,tkrow,e3]
 rcases h2 with⟨e,j,hR,h3⟩|⟨e,j,hR,hj,h3⟩
 ·have hz:=readS_sz ht hR
  have hj:=((prs_HQ hl (fuel l)).pos .arrow i e j hi hR).2
  have hff:=okS_fine e hz.2 (by omega)
  have hsm:=small_big e
  obtain⟨k,n,s,o,a,u⟩:=e
  have k1:=c_rDepth 1000000 k n s o a u (by omega) (Nat.le_refl _)
  have k2:=c_rSize 1000000 k n s o a u (by omega) (Nat.le_refl _)
  have k3:=c_reRight k n s o a u (by omega) hff
  rw[hR]
  simp only [go1,oE,h3,valR,Ex.row,List.cons_append,List.nil_append,k1,k2,k3]
  cases g1:decide ((12:Int) < ((Ex.mk k n s o a u).depth:Int))with
  |true=>
   rw[g1,Bool.true_or]at hsm
   simp only [go1,←hsm]
   rfl
  |false=>
   cases g2:decide ((60:Int) < ((Ex.mk k n s o a u).size:Int))with
   |true=>
    rw[g1,g2,Bool.false_or]at hsm
    simp only [go1,←hsm]
    rfl
   |false=>
    rw[g1,g2,Bool.false_or]at hsm
    have hsm2:smallB (.mk k n s o a u)=true:=by cases h:smallB (.mk k n s o a u)with
     |true=>rfl
     |false=>rw[h]at hsm;cases hsm
    simp only [go1,hsm2]
    cases allB (.mk k n s o a u)<;>(simp only [go1];rfl)
 ·obtain⟨k,n,s,o,a,u⟩:=e
  rw[hR]
  simp only [go1,oE,h3,valR,Ex.row,List.cons_append,List.nil_append]
  rfl
end Go.Vm
end

section
set_option maxRecDepth 1000000
set_option maxHeartbeats 0
namespace Go.Vm
open Go.Proofs
noncomputable section
def g21 (A:Sy)(E:Env)(e_0:Int)(e_1:Int)(e_2:ByteArray)(e_3:Int)(e_4:List (List D))(e_5:List (List D)):Option PRes:=
 (E.call 20 [(kE e_0 e_1 e_2 e_3 e_4 e_5)]).bind fun p1=>
 (opB (A.cell p1.leaves 0)).bind fun b3=>
 bif (A.bnot b3)then
  some (.val [(.str (bs []))])
 else
  (E.call 39 [(kE e_0 e_1 e_2 e_3 e_4 e_5)]).bind fun p4=>
  (opS (A.cell p4.leaves 0)).bind fun s6=>
  some (.val [(.str s6)])
theorem g21_eq (A:Sy)(E:Env)(e_0:Int)(e_1:Int)(e_2:ByteArray)(e_3:Int)(e_4:List (List D))(e_5:List (List D)):(funT A Tryz.prog cs 21 [.agg [.d (.int .i64 e_0),V.d (.int .i64 e_1),V.d (.str e_2),V.d (.int .i64 e_3),V.d (.sl 1 e_4),V.d (.sl 6 e_5)]]).run E=g21 A E e_0 e_1 e_2 e_3 e_4 e_5:=by kernel_rfl
end
end Go.Vm
end

section
set_option linter.all false
set_option maxRecDepth 100000
set_option maxHeartbeats 4000000
namespace Go.Vm
open Go.Proofs
def l0:List Tk:=[⟨1,bs [97],0,0⟩,⟨5,bs [43],0,2⟩,⟨3,bs [49],1,4⟩,⟨5,bs [42],0,6⟩,⟨1,bs [98],0,8⟩,⟨6,bs [],0,9⟩]
def e1:Ex:= .mk 6 0 (bs []) 3 [] [.mk 3 0 (bs [97]) 0 [] [], .mk 6 0 (bs []) 5 [] [.mk 1 1 (bs []) 0 [] [], .mk 3 0 (bs [98]) 0 [] []]]
theorem live1:cF 8 [.d (.str (bs [97,32,43,32,49,32,42,32,98])), .d (.int .i64 6000)]=some (.val [.sl 4 (trows l0), .int .i64 9, .int .i64 0]):=callF_run 40 fun n=>by
 rw[Nat.add_comm]
 kernel_rfl
theorem live2:partS l0 0=(e1,5,0):=by kernel_rfl
theorem live3:cF 39 [kE 6 0 (bs []) 3 [] (Ex.rows [.mk 3 0 (bs [97]) 0 [] [], .mk 6 0 (bs []) 5 [] [.mk 1 1 (bs []) 0 [] [], .mk 3 0 (bs [98]) 0 [] []]])]=some (.val [.str (bs [40,97,32,43,32,40,49,32,42,32,98,41,41])]):=callF_run 40 fun n=>by
 rw[Nat.add_comm]
 kernel_rfl
end Go.Vm
end

section
set_option linter.all false
set_option maxRecDepth 100000
set_option maxHeartbeats 4000000
namespace Go.Vm
open Go.Proofs
theorem live4:cF 15 [.d (.str (bs [97,32,43,32,49,32,42,32,98]))]=some (.val [.int .i64 6, .int .i64 0, .str (bs []), .int .i64 3, .sl 1 [], .sl 6 (Ex.rows [.mk 3 0 (bs [97]) 0 [] [], .mk 6 0 (bs []) 5 [] [.mk 1 1 (bs []) 0 [] [], .mk 3 0 (bs [98]) 0 [] []]]), .int .i64 9, .int .i64 0]):=by
 have hl:LOK l0:=⟨by decide,rfl,by decide⟩
 have hS:TS l0:=TS_of (by decide)
 have h1:=live1
 have h2:=c_pPart hl hS 0 hl.pos
 have h2:cF 22 [.d (.sl 4 (trows l0)), .d (.int .i64 0)]=_:=h2
 rw[live2]at h2
 simp only [encP,e1]at h2
 refine cOf (by kernel_rfl) rfl ?_
 rw[g15_eq]
 simp only [g15,go1,Int.reduceLE,h1,h2,oP,oE]
 rfl
theorem live5:cF 21 [kE 6 0 (bs []) 3 [] (Ex.rows [.mk 3 0 (bs [97]) 0 [] [], .mk 6 0 (bs []) 5 [] [.mk 1 1 (bs []) 0 [] [], .mk 3 0 (bs [98]) 0 [] []]])]=some (.val [.str (bs [40,97,32,43,32,40,49,32,42,32,98,41,41])]):=by
 have h1:=c_reRight 6 0 (bs []) 3 [] [.mk 3 0 (bs [97]) 0 [] [], .mk 6 0 (bs []) 5 [] [.mk 1 1 (bs []) 0 [] [], .mk 3 0 (bs [98]) 0 [] []]] (by decide) ⟨⟨bs0_size,(fun _ h=>(by cases h)),by decide⟩,⟨⟨by decide,(fun _ h=>(by cases h)),by decide⟩,trivial⟩,⟨⟨bs0_size,(fun _ h=>(by cases h)),by decide⟩,⟨⟨bs0_size,(fun _ h=>(by cases h)),by decide⟩,trivial⟩,⟨⟨by decide,(fun _ h=>(by cases h)),by decide⟩,trivial⟩,trivial⟩,trivial⟩
 have h1:cF 20 [kE 6 0 (bs []) 3 [] (Ex.rows [.mk 3 0 (bs [97]) 0 [] [], .mk 6 0 (bs []) 5 [] [.mk 1 1 (bs []) 0 [] [], .mk 3 0 (bs [98]) 0 [] []]])]=some (.val [.bool true]):=h1
 have h2:=live3
 refine cOf (by kernel_rfl) rfl ?_
 rw[g21_eq]
 simp only [g21,go1,h1,h2]
theorem c_Pnum (x:Int):cF 18 [.d (.int .i64 x)]=some (.val [.int .i64 x]):=by
 refine cOf (by kernel_rfl) rfl ?_
 rw[g18_eq]
 simp only [g18]
theorem c_Plive:cF 14 []=some (.val [.bool true]):=by
 have h1:=live4
 have h2:=c_Pnum 0
 have h3:=live5
 refine cOf (by kernel_rfl) rfl ?_
 rw[g14_eq]
 simp only [g14,go1,h1,h2,h3,oE,seq_tb]
end Go.Vm
end

section
set_option linter.all false
set_option maxRecDepth 100000
set_option maxHeartbeats 4000000
namespace Go.Vm
open Go.Proofs
def exprS (s:ByteArray):Ex × Int × Int:=match decide ((6000:Int) < ((tb s).length:Int)),(lexS s 0).2.2 with
 |true,_=>(e0,6000,3)
 |false,false=>(e0,((lexS s 0).2.1:Int),2)
 |false,true=>match partS (toksS s) 0 with
  |(e,p,r)=>bif !decide (r=0)then(e0,((tkA (toksS s) p.toNat).a:Int),r)else
   bif !decide ((tkA (toksS s) p.toNat).k=6)then(e0,((tkA (toksS s) p.toNat).a:Int),2)else(e,((tb s).length:Int),0)
theorem partS_at {l:List Tk}(hl:LOK l)(i:Nat)(hi:i < l.length)(hj: ∀j,readS l i= .bad j→j < l.length): ∃p:Nat,(partS l i).2.1=(p:Int)∧p < l.length:=by
 unfold partS
 cases hR:readS l i with
 |out=>exact⟨i,rfl,hi⟩
 |bad j=>exact⟨j,rfl,hj j hR⟩
 |ok e j=>
  have hj:=((prs_HQ hl (fuel l)).pos .arrow i e j hi hR).2
  simp only
  cases smallB e with
  |false=>exact⟨i,rfl,hi⟩
  |true=>
   cases allB e with
   |false=>exact⟨i,rfl,hi⟩
   |true=>exact⟨j,rfl,hj⟩
theorem readS_bad {l:List Tk}(hl:LOK l)(hT:TOK l){i:Nat}(hi:i < l.length){j:Nat}(h:readS l i= .bad j):j < l.length:=by
 rcases QR_cases (c_qArrow hl hT i hi)with⟨a,k,h1,h2⟩|⟨a,k,h1,hj,h2⟩
 ·rw[h1]at h;cases h
 ·rw[h1]at h;cases h;exact hj
theorem row_skip {l:List Tk}{i:Nat}(h:i < l.length):sy.cell (sy.skip 3 (sy.row (trows l) (i:Int))) 0=some (.int .i64 ((tkA l i).a:Int)):=by rw[row_tk h];rfl
theorem row_k {l:List Tk}{i:Nat}(h:i < l.length):sy.cell (sy.row (trows l) (i:Int)) 0=some (.int .i64 (tkA l i).k):=by rw[row_tk h];rfl
theorem c_pExpr (s:ByteArray)(hs:s.size≤100000):cF 15 [.d (.str s)]=some (encP (exprS s)):=by
 have hl:=LOK_toks s hs
 have hT:=TOK_of fun t ht=>(toks_mem hs ht).2
 have hS:=TS_of fun t ht=>(toks_mem hs ht).1
 have h1:=c_All s 6000 hs
 have h2:=c_pPart hl hS 0 hl.pos
 have h2:cF 22 [.d (.sl 4 (trows (toksS s))), .d (.int .i64 0)]=_:=h2
 unfold exprS
 unfold allR at h1
 refine cOf (by kernel_rfl) rfl ?_
 rw[g15_eq]
 simp only [g15,go1,h1]
 cases hd:decide ((6000:Int) < ((tb s).length:Int))with
 |true=>rfl
 |false=>
  cases hx:(lexS s 0).2.2 with
  |false=>rfl
  |true=>
   rw[show(lexS s 0).1++[endT s]=toksS s from rfl]
   simp only [go1]
   obtain⟨p,hp1,hp2⟩:=partS_at hl 0 hl.pos fun j hj=>readS_bad hl hT hl.pos hj
   generalize partS (toksS s) 0=R at hp1 h2 ⊢
   obtain⟨⟨k,n,s1,o,a,u⟩,p1,r⟩:=R
   simp only [encP]at hp1 h2
   subst hp1
   have q1:=in_tk hp2
   have q2:=row_skip hp2
   have q3:=row_k hp2
   rw[trows_len]at q1
   simp only [go1,oE,oP,encP,trows_len,q1,q2,q3,h2,Int.toNat_natCast]
   cases decide (r=0)with
   |false=>simp only [go1];rfl
   |true=>
    cases decide ((tkA (toksS s) p).k=6)with
    |false=>simp only [go1];rfl
    |true=>simp only [go1,size_tb];try rfl
theorem c_qExpr (s:ByteArray)(hs:s.size≤100000):cF 16 [.d (.str s)]=some (encP (exprS s)):=by
 have hl:=LOK_toks s hs
 have hT:=TOK_of fun t ht=>(toks_mem hs ht).2
 have hS:=TS_of fun t ht=>(toks_mem hs ht).1
 have h1:=c_rAll s 6000 hs
 have h2:=c_qPart hl hS hT 0 hl.pos
 have h2:cF 24 [.d (.sl 4 (trows (toksS s))), .d (.int .i64 0)]=_:=h2
 unfold exprS
 unfold allR at h1
 refine cOf (by kernel_rfl) rfl ?_
 rw[g16_eq]
 simp only [g16,go1,h1]
 cases hd:decide ((6000:Int) < ((tb s).length:Int))with
 |true=>rfl
 |false=>
  cases hx:(lexS s 0).2.2 with
  |false=>rfl
  |true=>
   rw[show(lexS s 0).1++[endT s]=toksS s from rfl]
   simp only [go1]
   obtain⟨p,hp1,hp2⟩:=partS_at hl 0 hl.pos fun j hj=>readS_bad hl hT hl.pos hj
   generalize partS (toksS s) 0=R at hp1 h2 ⊢
   obtain⟨⟨k,n,s1,o,a,u⟩,p1,r⟩:=R
   simp only [encP]at hp1 h2
   subst hp1
   have q1:=in_tk hp2
   have q2:=row_skip hp2
   have q3:=row_k hp2
   rw[trows_len]at q1
   simp only [go1,oE,oP,encP,trows_len,q1,q2,q3,h2,Int.toNat_natCast]
   cases decide (r=0)with
   |false=>simp only [go1];rfl
   |true=>
    cases decide ((tkA (toksS s) p).k=6)with
    |false=>simp only [go1];rfl
    |true=>simp only [go1,size_tb];try rfl
theorem exprS_fine (s:ByteArray)(hs:s.size≤100000):(exprS s).1.fine∧(exprS s).1.size≤1000000:=by
 have h0:e0.fine∧e0.size≤1000000:=⟨⟨⟨bs0_size,(fun _ h=>(by cases h)),Nat.zero_le _⟩,trivial⟩,by decide⟩
 have hl:=LOK_toks s hs
 have hS:=TS_of fun t ht=>(toks_mem hs ht).1
 unfold exprS
 split
 ·exact h0
 ·exact h0
 ·unfold partS
  cases hR:readS (toksS s) 0 with
  |out=>exact h0
  |bad j=>exact h0
  |ok e j=>
   have hz:=readS_sz hS hR
   have hj:=((prs_HQ hl (fuel (toksS s))).pos .arrow 0 e j hl.pos hR).2
   have hf:=hl.few
   simp only
   cases smallB e with
   |false=>exact h0
   |true=>
    cases allB e with
    |false=>exact h0
    |true=>
     simp only [Bool.not_true,cond_false,decide_true,Int.toNat_natCast]
     cases decide ((tkA (toksS s) j).k=6)with
     |false=>exact h0
     |true=>exact⟨okS_fine e hz.2 (by omega),by show e.size≤1000000;omega⟩
theorem c_PReads (s:ByteArray):cF 4 [.d (.str s)]=some (.val [.bool true]):=by
 have h0:=c_Plive
 by_cases hs:s.size≤800
 ·have h1:=c_pExpr s (by omega)
  have h2:=c_qExpr s (by omega)
  have h3:=exprS_fine s (by omega)
  have hd:decide ((800:Int) < (s.size:Int))=false:=decF (by omega)
  refine cOf (by kernel_rfl) rfl ?_
  rw[g4_eq]
  simp only [g4,go1,hd]
  generalize exprS s=R at*
  obtain⟨⟨k,n,s1,o,a,u⟩,p,r⟩:=R
  have h4:=c_reSame 1000000 k n s1 o a u h3.2 (Nat.le_refl _) h3.1
  have h5:=c_Pnum r
  simp only [encP]at h1 h2
  simp only [go1,oE,h1,h2,h4,h5,h0]
 ·have hd:decide ((800:Int) < (s.size:Int))=true:=decT (by omega)
  refine cOf (by kernel_rfl) rfl ?_
  rw[g4_eq]
  simp only [g4,go1,hd,h0]
end Go.Vm
end

section
set_option linter.all false
set_option maxRecDepth 100000
set_option maxHeartbeats 4000000
namespace Go.Vm
open Go.Proofs
section
variable {l : List Tk} (hl : LOK l) (ht : TS l) (hT : TOK l) (i : Int)
include hl ht hT
end
end Go.Vm
end

section
set_option linter.all false
set_option maxRecDepth 100000
set_option maxHeartbeats 4000000
namespace Go.Vm
open Go.Proofs
theorem sk2 (t:Tk):sy.cell (sy.skip 2 (tkrow t)) 0=some (.int .i64 t.n):=rfl
end Go.Vm
end
