/- Part SB of the proof. What is proved by the whole: the statement that the claim names, with no condition. -/
import Derived.Test.YtfbonmbkmbofaaaGreatDoorSA
import Derived.Lib.AppendZeros
import Derived.Laws.StructEq
import Derived.Still
import Derived.WalkKit
import Derived.TacticsIn
import Derived.OrdersIn
import Derived.RangeFuncRecord
import Derived.Deep.LoopGhost
import Derived.Scope
import Derived.Laws.CopyRow
import Derived.Lib.Bytealg
import Derived.Laws.Externs
set_option linter.all false
section
namespace Go.Vm
section
variable {P : Program} {M : List Nat} {h h' : List Box} {O : Operand -> V} {o : Oper} {x : V}
def gives_capNil {y:Operand}{ts:Array TypeId}{t e:TypeId}(hop:o.op= .call { callee:= .builtin .cap,args:= #[y],argTypes:=ts })(ht:ts[0]? =some t)(hu:P.underlying t=some (.slice e))(hy1:O y= .nils):
  Gives P [] h h O o (.d (.int .i64 0)):=
 .pure fun g O' w hs hy=>by
  have hr:=hy y;rw[hy1]at hr;generalize hu0:O' y=u0 at hr;cases hr;refine⟨.int .i64 0,?_, .d (.int _ _)⟩;simp[execOp,hop,resolve,invoke,builtin,Builtin.cap_,ht,hu0,run_underlying hu,goInt]
def gives_sliceNil {t e:TypeId}{y:Operand}{lo hi:Option Operand}{sz:Nat}{l r:Int}(hop:o.op= .slice t y lo hi none)(hk:elO P t=some (e,sz))
  (hy1:O y= .nils) (hl:bndV 0 (lo.map O)=some l) (hh:bndV 0 (hi.map O)=some r) (h0:l=0) (h1:r=0):Gives P [] h h O o .nils:=
 .pure fun g O' w hs hy=>by
  obtain⟨hu,hn⟩:=elO_spec hk;have hr:=hy y;rw[hy1]at hr;generalize hu0:O' y=u0 at hr;cases hr;subst h0;subst h1;have hb:=run_bounds (P:=P) (w:=w) (isl:=true) (n:=0) (cap:=0) hy hl hh (Int.le_refl _) (Int.le_refl _) (Int.le_refl _) (Nat.le_refl _);refine⟨.slice none 0 0,?_, .nils⟩;simp[execOp,hop,hu0,Instr.sliceAt,run_underlying hu,Instr.slice,hb,run_sizeOf_of hn]
def gives_sliceOwn {t e e':TypeId}{y:Operand}{lo hi:Option Operand}{sz b:Nat}{rows:LL}{l r:Int}(hop:o.op= .slice t y lo hi none)(hk:elO P t=some (e,sz))
  (hy1:O y= .own b) (hb:h[b]? =some (.arr e' sz rows)) (hl:bndV 0 (lo.map O)=some l) (hh:bndV rows.length (hi.map O)=some r) (h0:l=0) (h1:0<=r) (h2:r<=rows.length):
  Gives P [b] h ((h.map (Box.kill [b])).set b (.arr e' sz (rows.take r.toNat))) O o (.own b):=
 .of_run fun g O' w hs hy=>by
  obtain⟨hu,hn⟩:=elO_spec hk;subst h0;obtain⟨e1,hbn⟩:=rep_own_inv (hy1▸hy y);obtain⟨hlen,hbr⟩:=hs.rep b _ hb;have hlr: ∀(i:Nat) (q:List D),(rows.take r.toNat)[i]? =some q->rows[i]? =some q:=by
   intro i q hq;rw[List.getElem?_take]at hq;split at hq
   ·exact hq
   ·cases hq
  rcases hbr with⟨k1,rfl⟩|⟨us,cap,k1,k2,k2',k3,k4,k5⟩
  ·have hr0:r=0:=by simp at h2;omega
   subst hr0;have hbd:=run_bounds (P:=P) (w:=w) (isl:=true) (n:=0) (cap:=0) hy hl hh (Int.le_refl _) (Int.le_refl _) (Int.le_refl _) (Nat.le_refl _);refine⟨g.val b,w,g,?_, .own b hbn,Keep.turn (g':=g) hs hb [b] (.inr rfl) rfl rfl rfl (fun _ _=>⟨rfl,rfl⟩) (Fr.refl _ _) ?_ (fun k hk=> .inl hk)⟩
   ·rw[k1]at e1;simp[execOp,hop,e1,k1,Instr.sliceAt,run_underlying hu,Instr.slice,hbd,run_sizeOf_of hn]
   ·exact⟨by simp, .inl ⟨k1,rfl⟩⟩
  ·have hbd:=run_bounds (P:=P) (w:=w) (isl:=true) (n:=rows.length) (cap:=cap) hy hl hh (Int.le_refl _) h1 h2 k2
   let g':Gh:= { g with val:=fun c=>if c=b then .slice (some ⟨g.blk b,0,none⟩) r.toNat cap else g.val c }
   have hgv:g'.val b= .slice (some ⟨g.blk b,0,none⟩) r.toNat cap:=by simp[g']
   refine⟨.slice (some ⟨g.blk b,0,none⟩) r.toNat cap,w,g',?_,?_,Keep.turn hs hb [b] (.inr rfl) rfl rfl rfl (fun c hc=>by simp[g',hc]) (Fr.refl _ _) ?_ (fun k hk=> .inl ?_)⟩
   ·rw[k1]at e1;simp[execOp,hop,e1,Instr.sliceAt,run_underlying hu,Instr.slice,hbd,run_sizeOf_of hn,add_lit']
   ·have:=Rep.own (w:=w) (g:=g') b hbn
    rwa [hgv]at this
   ·have hl2:(rows.take r.toNat).length=r.toNat:=by simp;omega
    refine⟨fun i q hq=>hlen i q (hlr i q hq), .inr ⟨us,cap,by rw[hgv,hl2],by rw[hl2];omega,k2',k3,k4,fun i q j c hi hj=>k5 i q j c (hlr i q hi) hj⟩⟩
   ·simp only[Box.at?,hgv]at hk;simp only[Box.at?,k1];exact hk
def gives_appendZeros {t tn e:TypeId}{y z:Operand}{sz by_:Nat}{zv:Value}{ss:List Sh}{k kn:IntKind}{n:Int}
  (hop:o.op= .call { callee:= .builtin .append,args:= #[y,z],argTypes:= #[t,tn] }) (ht:elT P t=some (e,sz,by_,zv)) (htn:P.underlying tn=some (.int kn)) (hzo:zeroOK ss zv.cells.toList=true) (hsz:ss.length=sz) (hpos:0 < sz)
  (hy1:O y= .nils) (hz1:O z= .d (.int k n)) (h0:0 < n) (hby:n.toNat*by_<=281474976710656) (h63:n.toNat<=maxLen):
  Gives P [] h (h++[.arr e sz (List.replicate n.toNat (ss.map zeroD))]) O o (.own h.length):=
 .of_run fun g O' w hs hy=>by
  obtain⟨hu,i,hi,hz0,hz1',hz2⟩:=elT_spec ht;obtain⟨c,rfl⟩:=Int.eq_ofNat_of_zero_le (Int.le_of_lt h0);have e2:=rep_int_inv (hz1▸hy z);have hr:=hy y;rw[hy1]at hr;generalize hu0:O' y=u0 at hr;cases hr;simp only[Int.toNat_natCast]at*;have hc0:0 < c:=by omega
  have hrun:=Lib.run_append_nil_zeros (P:=P) w t tn o.type e i zv k kn hu htn hi hz0 c hc0 (by omega) (by simp only[maxLen]at h63;omega) (by rw[hz2];exact hby)
  have hzl:zv.cells.size=sz:=by have:=(zeroOK_spec (w:=w) (Z:=g.Z) hzo).1;rw[<-hsz,<-this];simp
  generalize hcap:grownCap w c 0 e=cap at hrun;have hcc:c<=cap:=by rw[<-hcap];exact grownCap_ge w c 0 e
  have hcm:cap<=maxLen:=by rw[<-hcap];exact grownCap_le_maxLen w c 0 e h63
  generalize hw':w.drew.alloc (.cells (Builtin.zeroCells zv.cells c++Builtin.zeroCells zv.cells (cap - c)) e)=w' at hrun;have hheap:w'.heap[w.heap.size]? =some (.cells (Builtin.zeroCells zv.cells c++Builtin.zeroCells zv.cells (cap - c)) e (0,0)):=by rw[<-hw'];exact(MapKept.heap_alloc w.drew _).1
  have hgr:w.grownBy w' none:=by
   rw[<-hw'];exact⟨rfl,rfl,rfl,by show w.heap.size<=(w.heap.push _).size;simp,fun k hk _=>(MapKept.heap_alloc w.drew _).2 k hk⟩
  have hv:(g.push w.heap.size (.slice (some ⟨w.heap.size,0,none⟩) c cap)).val g.n= .slice (some ⟨w.heap.size,0,none⟩) c cap:=by simp[Gh.push]
  have hbk:(g.push w.heap.size (.slice (some ⟨w.heap.size,0,none⟩) c cap)).blk g.n=w.heap.size:=by simp[Gh.push]
  have hb:BoxRep w' (g.push w.heap.size (.slice (some ⟨w.heap.size,0,none⟩) c cap)) g.n (.arr e sz (List.replicate c (ss.map zeroD))):=by
   refine⟨fun i' r hr=> ?_, .inr ⟨_,cap,by rw[hv,hbk,List.length_replicate],by simpa using hcc,hcm,by rw[hbk];exact hheap,?_,fun i' r j d hr hd=> ?_⟩⟩
   ·have:=List.eq_of_mem_replicate (List.mem_of_getElem? hr);subst this;simpa using hsz
   ·simp only[Array.size_append,size_zeroCells,hzl,<-Nat.add_mul];rw[Nat.add_sub_cancel' hcc]
   ·have hil:i' < c:=by have:=(List.getElem?_eq_some_iff.1 hr).1;simpa using this
    have:=List.eq_of_mem_replicate (List.mem_of_getElem? hr);subst this;rw[List.getElem?_map,Option.map_eq_some_iff]at hd;obtain⟨s,hs',rfl⟩:=hd;have hjl:j < sz:=by rw[<-hsz];exact(List.getElem?_eq_some_iff.1 hs').1
    have hlt:i'*sz+j < c*sz:=by
     calc i'*sz+j < i'*sz+sz:=by omega
      _=(i'+1)*sz:=by rw[Nat.add_mul,Nat.one_mul]
      _<=c*sz:=Nat.mul_le_mul_right _ hil
    have hjc:j < zv.cells.size:=by omega
    refine⟨zv.cells[j],?_,(zeroOK_spec hzo).2 j s _ hs' (by rw[Array.getElem?_toList];exact Array.getElem?_eq_getElem hjc)⟩
    rw[Array.getElem?_append,if_pos (by simp[size_zeroCells,hzl];exact hlt)]
    simp only[Builtin.zeroCells,Array.getElem?_map];rw[Array.getElem?_range,if_pos (by rw[hzl];exact hlt)]
    have hmod:(i'*sz+j) % zv.cells.size=j:=by rw[hzl,Nat.mul_comm,Nat.mul_add_mod];exact Nat.mod_eq_of_lt hjl
    simp[hmod,hjc]
  obtain⟨hkk,hrr⟩:=keep_own hs _ w.heap.size hgr (.inr ⟨c,cap,rfl⟩) (Nat.le_refl _) hb;exact⟨_,w',_,by simp[execOp,hop,resolve,invoke,builtin,hu0,e2,hrun],hrr,hkk⟩
end
section
variable {P : Program} {M : List Nat} {h h' : List Box} {O : Operand -> V} {o : Oper} {x : V}
def D.shE:D->Option Sh
 | .int k _=>some (.int k)
 | .bool _=>some .bool
 | .str _=>some .str
 | .sl _ _=>none
def shD:List D->Option (List Sh)
 | []=>some []
 |x::xs=>match x.shE,shD xs with
  |some s,some ss=>some (s::ss)
  |_,_=>none
def leafB (P:Program)(t:TypeId)(s:Sh):Bool:=match P.underlying t,s with
 |some (.int _), .int _=>true
 |some .bool, .bool=>true
 |some .string, .str=>true
 |_,_=>false
def okF (P:Program):Nat->List Field->List Sh->Bool
 |_,[],[]=>true
 |i,f::fs,s::ss=>f.name != "_" &&decide (f.offset=i)&&leafB P f.type s&&okF P (i+1) fs ss
 |_,_,_=>false
def nestB (P:Program)(t:TypeId)(ss:List Sh):Option Nat:=match P.underlying t with
 |some (.struct gs)=>match !P.stoodInHeld t&&okF P 0 gs.toList (ss.take gs.size)&&decide (szO P t=some gs.size)&&aggB P t with
  |true=>some gs.size
  |false=>none
 |_=>none
def okN (P:Program):Nat->List Field->List Sh->Bool
 |_,[],[]=>true
 |i,f::fs,ss=>f.name != "_" &&decide (f.offset=i)&&match nestB P f.type ss with
  |some n=>okN P (i+n) fs (ss.drop n)
  |none=>match ss with
   |s::r=>leafB P f.type s&&okN P (i+1) fs r
   | []=>false
 |_,_,_=>false
def stokB (P:Program)(t:TypeId)(ss:List Sh):Bool:=match P.underlying t with
 |some (.struct fs)=> !P.stoodInHeld t&& !P.eqGuardType P.depth t&&okN P 0 fs.toList ss
 |_=>false
def eqD:D->D->Bool
 | .int _ a, .int _ b=>a == b
 | .bool a, .bool b=>a == b
 | .str a, .str b=>a.toList == b.toList
 |_,_=>false
def eqDs:List D->List D->Bool
 |x::xs,y::ys=>eqD x y&&eqDs xs ys
 |_,_=>true
def run_leaf_eq {w:World}{Z:Nat->Nat->Prop}{t:TypeId}{s:Sh}{c e:D}{u v:Value}(d:Nat)(hl:leafB P t s=true)(hc:c.shE=some s)(he:e.shE=some s)(hu:RepD w Z u c)(hv:RepD w Z v e):
  (Op.equalIn (d+1) t u v).run P w= .ok (eqD c e) w:=by
 cases hu with
 |int k n=>
  cases hc;cases hv with
  |int k' n'=>
   simp only[D.shE,Option.some.injEq,Sh.int.injEq]at he;subst he;unfold leafB at hl;split at hl
   ·rw[run_equalIn_int w d t _ _ _ _ ‹_›];rfl
   ·rename_i h1 h2;cases h2
   ·rename_i h1 h2;cases h2
   ·cases hl
  |_=>cases he
 |bool b=>
  cases hc;cases hv with
  |bool b'=>
   unfold leafB at hl;split at hl
   ·rename_i h1 h2;cases h2
   ·rw[run_equalIn_bool' w d t _ _ ‹_›];rfl
   ·rename_i h1 h2;cases h2
   ·cases hl
  |_=>cases he
 |str b=>
  cases hc;cases hv with
  |str b'=>
   unfold leafB at hl;split at hl
   ·rename_i h1 h2;cases h2
   ·rename_i h1 h2;cases h2
   ·rw[run_equalIn_string w d t _ _ ‹_›];rfl
   ·cases hl
  |_=>cases he
 |_=>cases hc
def leaf_agg {t:TypeId}{s:Sh}(hl:leafB P t s=true):(P.underlying t).isSome=true/\aggB P t=false:=by
 unfold leafB at hl;unfold aggB;split at hl<;>simp_all
def shD_drop: ∀(cs:List D) (i:Nat) {s:Sh} {ss:List Sh},shD (cs.drop i)=some (s::ss)-> ∃c,cs[i]? =some c/\c.shE=some s/\shD (cs.drop (i+1))=some ss/\cs.drop i=c::cs.drop (i+1):=by
 intro cs i s ss h;cases hd:cs.drop i with
 |nil=>rw[hd]at h;simp[shD]at h
 |cons c r=>
  rw[hd]at h;have hr:r=cs.drop (i+1):=by rw[<-List.drop_drop,hd];rfl
  have hi:cs[i]? =some c:=by
   have:=congrArg (·[0]?) hd
   simpa using this
  unfold shD at h;split at h
  ·rename_i s' ss' h1 h2;simp only[Option.some.injEq,List.cons.injEq]at h;obtain⟨rfl,rfl⟩:=h;exact⟨c,hi,h1,hr▸h2,by rw[hr]⟩
  ·cases h
def run_eqFields {w:World}{Z:Nat->Nat->Prop}{xs ys:Array Value}{cs ds:List D}(d:Nat)(hx: ∀(j:Nat) c,cs[j]? =some c-> ∃u,xs[j]? =some u/\RepD w Z u c)
  (hy: ∀(j:Nat) c,ds[j]? =some c-> ∃u,ys[j]? =some u/\RepD w Z u c): ∀(fs:List Field) (ss:List Sh) (i:Nat),okF P i fs ss=true->shD (cs.drop i)=some ss->shD (ds.drop i)=some ss->
  (Op.eqFields (d+1) xs ys fs).run P w= .ok (eqDs (cs.drop i) (ds.drop i)) w
 | [],ss,i,ho,h1,h2=>by
   cases ss with
   |cons s ss=>simp[okF]at ho
   |nil=>
    have:cs.drop i= []:=by
     cases hd:cs.drop i with
     |nil=>rfl
     |cons c r=>rw[hd]at h1;unfold shD at h1;split at h1<;>simp at h1
    rw[this];simp[Op.eqFields,eqDs]
 |f::fs,[],i,ho,h1,h2=>by simp[okF]at ho
 |f::fs,s::ss,i,ho,h1,h2=>by
  obtain⟨c,hc,hcs,h1',e1⟩:=shD_drop cs i h1;obtain⟨e,he,hes,h2',e2⟩:=shD_drop ds i h2;obtain⟨u,hu,ru⟩:=hx i c hc;obtain⟨v,hv,rv⟩:=hy i e he;unfold okF at ho;simp only[Bool.and_eq_true,bne_iff_ne,decide_eq_true_eq]at ho;obtain⟨⟨⟨hn,hoff⟩,hl⟩,ho⟩:=ho;obtain⟨ha1,ha2⟩:=leaf_agg hl;have ih:=run_eqFields d hx hy fs ss (i+1) ho h1' h2';have p1:(part f.type xs f.offset).run P w= .ok u w:=by
   simp only[part,Sem.run_bind,run_isAgg_of ha1 ha2,Result.andThen_ok,hoff,hu];simp
  have p2:(part f.type ys f.offset).run P w= .ok v w:=by
   simp only[part,Sem.run_bind,run_isAgg_of ha1 ha2,Result.andThen_ok,hoff,hv];simp
  rw[e1,e2];unfold Op.eqFields eqDs;rw[if_pos hn];simp only[Sem.run_bind,p1,p2,Result.andThen_ok,run_leaf_eq d hl hcs hes ru rv];cases hq:eqD c e with
  |false=>simp
  |true=>simpa using ih
def shD_len: ∀ {cs:List D} {ss:List Sh},shD cs=some ss->cs.length=ss.length
 | [],ss,h=>by cases h;rfl
 |c::cs,ss,h=>by
  unfold shD at h;split at h
  ·rename_i s ss' h1 h2;cases h;simp[shD_len h2]
  ·cases h
def shD_take: ∀(n:Nat) {cs:List D} {ss:List Sh},shD cs=some ss->shD (cs.take n)=some (ss.take n)/\shD (cs.drop n)=some (ss.drop n)
 |0,cs,ss,h=>⟨by simp[shD],by simpa using h⟩
 |n+1,[],ss,h=>by cases h;exact⟨rfl,rfl⟩
 |n+1,c::cs,ss,h=>by
  unfold shD at h;split at h
  ·rename_i s ss' h1 h2;cases h;obtain⟨h3,h4⟩:=shD_take n h2;refine⟨?_,by simpa using h4⟩
   simp only[List.take_succ_cons];unfold shD;rw[h1,h3]
  ·cases h
def eqDs_split: ∀(n:Nat) (xs ys:List D),eqDs xs ys=(eqDs (xs.take n) (ys.take n)&&eqDs (xs.drop n) (ys.drop n))
 |0,xs,ys=>by simp[eqDs]
 |n+1,[],ys=>by simp[eqDs]
 |n+1,x::xs,[]=>by simp[eqDs]
 |n+1,x::xs,y::ys=>by
  simp only[List.take_succ_cons,List.drop_succ_cons,eqDs];rw[eqDs_split n xs ys,Bool.and_assoc]
def run_eqFieldsN {w:World}{Z:Nat->Nat->Prop}{xs ys:Array Value}{cs ds:List D}(d:Nat)(hx: ∀(j:Nat) c,cs[j]? =some c-> ∃u,xs[j]? =some u/\RepD w Z u c)
  (hy: ∀(j:Nat) c,ds[j]? =some c-> ∃u,ys[j]? =some u/\RepD w Z u c): ∀(fs:List Field) (ss:List Sh) (i:Nat),okN P i fs ss=true->shD (cs.drop i)=some ss->shD (ds.drop i)=some ss->
  (Op.eqFields (d+2) xs ys fs).run P w= .ok (eqDs (cs.drop i) (ds.drop i)) w
 | [],ss,i,ho,h1,h2=>by
   cases ss with
   |cons s ss=>simp[okN]at ho
   |nil=>
    have:cs.drop i= []:=List.length_eq_zero_iff.1 (by rw[shD_len h1];rfl)
    rw[this];simp[Op.eqFields,eqDs]
 |f::fs,ss,i,ho,h1,h2=>by
  unfold okN at ho;simp only[Bool.and_eq_true,bne_iff_ne,decide_eq_true_eq]at ho;obtain⟨⟨hn,hoff⟩,ho⟩:=ho;split at ho
  ·rename_i n hnb;unfold nestB at hnb;split at hnb
   ·rename_i gs hu;split at hnb
    ·rename_i hc;cases hnb;simp only[Bool.and_eq_true,Bool.not_eq_true',decide_eq_true_eq]at hc;obtain⟨⟨⟨s1,s2⟩,s3⟩,s4⟩:=hc;obtain⟨t1,d1⟩:=shD_take gs.size h1;obtain⟨t2,d2⟩:=shD_take gs.size h2;rw[List.drop_drop]at d1 d2;have ih:=run_eqFieldsN d hx hy fs _ (i+gs.size) ho d1 d2;have hsub: ∀ {zs:Array Value} {es:List D},(∀(j:Nat) c,es[j]? =some c-> ∃u,zs[j]? =some u/\RepD w Z u c)-> ∀(j:Nat) c,((es.drop i).take gs.size)[j]? =some c-> ∃u,(zs.extract i (i+gs.size))[j]? =some u/\RepD w Z u c:=by
      intro zs es hz j c hj;rw[List.getElem?_take]at hj;split at hj
      ·rename_i hlt;rw[List.getElem?_drop]at hj;obtain⟨u,hu,hr⟩:=hz (i+j) c hj;have hsz:i+j < zs.size:=(Array.getElem?_eq_some_iff.1 hu).1;refine⟨u,?_,hr⟩;rw[Array.getElem?_extract,if_pos (by omega)]
       exact hu
      ·cases hj
     have p: ∀(zs:Array Value),(part f.type zs f.offset).run P w= .ok (.agg (zs.extract i (i+gs.size))) w:=fun zs=>by
      simp only[part,Sem.run_bind,run_isAgg_of (by rw[hu];rfl) s4,Result.andThen_ok,hoff]
      simp only[if_true,run_sizeOf_of s3,Sem.run_bind,Sem.run_pure,Result.andThen_ok]
     have hf:P.fieldsOf f.type=gs:=by unfold Program.fieldsOf;rw[hu]
     have key:(Op.equalIn (d+2) f.type (.agg (xs.extract i (i+gs.size))) (.agg (ys.extract i (i+gs.size)))).run P w= .ok (eqDs ((cs.drop i).take gs.size) ((ds.drop i).take gs.size)) w:=by
      rw[run_equalIn_struct w (d+1) f.type _ _ (by rw[hf];exact hu) s1,hf]
      have:=run_eqFields d (hsub hx) (hsub hy) gs.toList (ss.take gs.size) 0 s2 (by simpa using t1) (by simpa using t2)
      simpa using this
     rw[eqDs_split gs.size (cs.drop i),List.drop_drop,List.drop_drop];unfold Op.eqFields;rw[if_pos hn];simp only[Sem.run_bind,p,Result.andThen_ok,key];cases hq:eqDs ((cs.drop i).take gs.size) ((ds.drop i).take gs.size)with
     |false=>simp
     |true=>simpa using ih
    ·cases hnb
   ·cases hnb
  ·split at ho
   ·rename_i s r _;simp only[Bool.and_eq_true]at ho;obtain⟨hl,ho⟩:=ho;obtain⟨c,hc,hcs,h1',e1⟩:=shD_drop cs i h1;obtain⟨e,he,hes,h2',e2⟩:=shD_drop ds i h2;obtain⟨u,hu,ru⟩:=hx i c hc;obtain⟨v,hv,rv⟩:=hy i e he;obtain⟨ha1,ha2⟩:=leaf_agg hl;have ih:=run_eqFieldsN d hx hy fs r (i+1) ho h1' h2';have p1:(part f.type xs f.offset).run P w= .ok u w:=by
     simp only[part,Sem.run_bind,run_isAgg_of ha1 ha2,Result.andThen_ok,hoff,hu];simp
    have p2:(part f.type ys f.offset).run P w= .ok v w:=by
     simp only[part,Sem.run_bind,run_isAgg_of ha1 ha2,Result.andThen_ok,hoff,hv];simp
    rw[e1,e2];unfold Op.eqFields eqDs;rw[if_pos hn];simp only[Sem.run_bind,p1,p2,Result.andThen_ok,run_leaf_eq (d+1) hl hcs hes ru rv];cases hq:eqD c e with
    |false=>simp
    |true=>simpa using ih
   ·cases ho
def rep_aggD {w:World}{g:Gh}{u:Value}{cs:List D}(hr:Rep w g u (.agg (cs.map .d))): ∃us,u= .agg us/\ ∀(j:Nat) c,cs[j]? =some c-> ∃u,us[j]? =some u/\RepD w g.Z u c:=by
 cases hr with
 |agg us cs' hl h=>
  refine⟨us,rfl,fun j c hc=> ?_⟩
  have hj:j < us.size:=by rw[hl];simp;exact(List.getElem?_eq_some_iff.1 hc).1
  have hu:us[j]? =some us[j]:=Array.getElem?_eq_getElem hj;exact⟨_,hu,rep_d_inv (h j _ (.d c) hu (by simp[hc]))⟩
def gives_binE {op:BinOp}{t u:TypeId}{y z:Operand}{cs ds:List D}{ss:List Sh}{c:Bool}(hop:o.op= .binOp op t y z u)(hy1:O y= .agg (cs.map .d))(hz1:O z= .agg (ds.map .d))
  (hs:stokB P t ss=true) (h1:shD cs=some ss) (h2:shD ds=some ss) (hd:(match op with| .eql=>some (eqDs cs ds)| .neq=>some (!eqDs cs ds)|_=>none)=some c):Gives P [] h h O o (.d (.bool c)):=
 .pure fun g O' w _ hy=>by
  obtain⟨xs,e1,hx⟩:=rep_aggD (hy1▸hy y);obtain⟨ys,e2,hyy⟩:=rep_aggD (hz1▸hy z);unfold stokB at hs;split at hs
  ·rename_i fs hu;simp only[Bool.and_eq_true,Bool.not_eq_true']at hs;obtain⟨⟨s1,s2⟩,s3⟩:=hs;have hf:P.fieldsOf t=fs:=by unfold Program.fieldsOf;rw[hu]
   have key:(Op.equalIn 10000 t (.agg xs) (.agg ys)).run P w= .ok (eqDs cs ds) w:=by
    rw[run_equalIn_struct w 9999 t xs ys (by rw[hf];exact hu) s1,hf]
    exact run_eqFieldsN 9997 hx hyy fs.toList ss 0 s3 h1 h2
   refine⟨.bool c,?_, .d (.bool _)⟩;cases op<;>cases hd<;>
    simp only[execOp,hop,e1,e2,Sem.run_bind,run_eqGuard_agg _ _ _ _ _ _ _ s2,Result.andThen_ok,run_eql_struct,run_neq_struct,key,Sem.run_pure]
  ·cases hs
end
section
variable {P : Program} {M : List Nat} {h h' : List Box} {O : Operand -> V} {o : Oper} {x : V}
def Reps (w:World)(g:Gh)(us:List Value)(vs:List V):Prop:=us.length=vs.length/\ ∀(i:Nat) u v,us[i]? =some u->vs[i]? =some v->Rep w g u v
def HCall (P:Program)(M:List Nat)(f:FuncId)(args:List V)(h:List Box)(r:V)(h':List Box):Prop:=
 ∀(g:Gh) (w:World) (us:List Value),SimH g h w->Reps w g us args->
  Calls P f us.toArray w fun e w'=> ∃u g',e= .returned u/\Rep w' g' u r/\Keep M g h w g' h' w'
def g0 (Z:Nat->Nat->Prop):Gh:= { Z:=Z,n:=0,blk:=fun _=>0,val:=fun _=>undef,cd:=fun _=>none }
def PCall (P:Program)(f:FuncId)(args:List V)(r:V):Prop:=HCall P [] f args [] r []
def V.pureC:V->Bool
 | .any| .nils| .d _| .pel _| .nilp| .nilf| .ifn _| .ifc .. | .ifo .. =>true
 |_=>false
def V.pureB:V->Bool
 | .agg cs=>cs.all V.pureC
 | .tup cs=>cs.all V.pureC
 | .fn _ cs=>cs.all V.pureC
 |v=>v.pureC
def V.pureT:V->Bool
 | .tup cs=>cs.all V.pureB
 |v=>v.pureB
def pureC_rep {w:World}{g g':Gh}(hz:g'.Z=g.Z){u:Value}{v:V}(hp:v.pureC=true)(hr:Rep w g u v):Rep w g' u v:=by
 cases hr with
 |any u=>exact .any u
 |nils=>exact .nils
 |d h=>exact .d (by rwa [hz])
 |pel blk off cs U hZ hc hr=>exact .pel blk off cs U (by rwa [hz]) hc (by rwa [hz])
 |nilp=>exact .nilp
 |nilf=>exact .nilf
 |ifn0=>exact .ifn0
 |ifn1 t p=>exact .ifn1 t p
 |ifc t us cs hl h=>exact .ifc t us cs hl (by rwa [hz])
 |ifo0 t cs=>exact .ifo0 t cs
 |ifo1 t us cs hl h=>exact .ifo1 t us cs hl (by rwa [hz])
 |_=>simp[V.pureC]at hp
def pureB_rep {w:World}{g g':Gh}(hz:g'.Z=g.Z){u:Value}{v:V}(hp:v.pureB=true)(hr:Rep w g u v):Rep w g' u v:=by
 have aux: ∀(us:Array Value) (cs:List V),(∀(i:Nat) u c,us[i]? =some u->cs[i]? =some c->Rep w g u c)->cs.all V.pureC=true->
     ∀(i:Nat) u c,us[i]? =some u->cs[i]? =some c->Rep w g' u c:=fun us cs h ha i u c hu hc=>
  pureC_rep hz (List.all_eq_true.1 ha c (List.mem_of_getElem? hc)) (h i u c hu hc)
 cases hr with
 |agg us cs hl h=>exact .agg us cs hl (aux us cs h hp)
 |tup us cs hl h=>exact .tup us cs hl (aux us cs h hp)
 |fn f us cs hl h=>exact .fn f us cs hl (aux us cs h hp)
 |any u=>exact .any u
 |nils=>exact .nils
 |d h=>exact .d (by rwa [hz])
 |pel blk off cs U hZ hc hr=>exact .pel blk off cs U (by rwa [hz]) hc (by rwa [hz])
 |nilp=>exact .nilp
 |nilf=>exact .nilf
 |ifn0=>exact .ifn0
 |ifn1 t p=>exact .ifn1 t p
 |ifc t us cs hl h=>exact .ifc t us cs hl (by rwa [hz])
 |ifo0 t cs=>exact .ifo0 t cs
 |ifo1 t us cs hl h=>exact .ifo1 t us cs hl (by rwa [hz])
 |own b hb=>simp[V.pureB,V.pureC]at hp
 |ptr b off hb=>simp[V.pureB,V.pureC]at hp
 |mv f b off hb=>simp[V.pureB,V.pureC]at hp
 |ifp f b off hb=>simp[V.pureB,V.pureC]at hp
 |pml b sz i off hb=>simp[V.pureB,V.pureC]at hp
 |map b hb=>simp[V.pureB,V.pureC]at hp
 |yld b R hb hc=>simp[V.pureB,V.pureC]at hp
 |osl b sz lo n u hb hu=>simp[V.pureB,V.pureC]at hp
def pureT_rep {w:World}{g g':Gh}(hz:g'.Z=g.Z){u:Value}{v:V}(hp:v.pureT=true)(hr:Rep w g u v):Rep w g' u v:=by
 cases hr with
 |tup us cs hl h=>exact .tup us cs hl fun i u c hu hc=>pureB_rep hz (List.all_eq_true.1 hp c (List.mem_of_getElem? hc)) (h i u c hu hc)
 |agg us cs hl h=>exact pureB_rep hz hp (.agg us cs hl h)
 |fn f us cs hl h=>exact pureB_rep hz hp (.fn f us cs hl h)
 |any u=>exact .any u
 |nils=>exact .nils
 |d h=>exact .d (by rwa [hz])
 |pel blk off cs U hZ hc hr=>exact .pel blk off cs U (by rwa [hz]) hc (by rwa [hz])
 |nilp=>exact .nilp
 |nilf=>exact .nilf
 |ifn0=>exact .ifn0
 |ifn1 t p=>exact .ifn1 t p
 |ifc t us cs hl h=>exact .ifc t us cs hl (by rwa [hz])
 |ifo0 t cs=>exact .ifo0 t cs
 |ifo1 t us cs hl h=>exact .ifo1 t us cs hl (by rwa [hz])
 |own b hb=>simp[V.pureT,V.pureB,V.pureC]at hp
 |ptr b off hb=>simp[V.pureT,V.pureB,V.pureC]at hp
 |mv f b off hb=>simp[V.pureT,V.pureB,V.pureC]at hp
 |ifp f b off hb=>simp[V.pureT,V.pureB,V.pureC]at hp
 |pml b sz i off hb=>simp[V.pureT,V.pureB,V.pureC]at hp
 |map b hb=>simp[V.pureT,V.pureB,V.pureC]at hp
 |yld b R hb hc=>simp[V.pureT,V.pureB,V.pureC]at hp
 |osl b sz lo n u hb hu=>simp[V.pureT,V.pureB,V.pureC]at hp
def simH_nil {Z:Nat->Nat->Prop}{w:World}(hz: ∀b o,Z b o->b < w.heap.size)(ht:TabOK Z w):SimH (g0 Z) [] w:=
 ⟨rfl,by simp,by simp,by rintro k o ⟨b,x,hx,_⟩;simp at hx,hz,ht⟩
def PCall.hcall {f:FuncId}{args:List V}{r:V}(hp:PCall P f args r)(ha:args.all V.pureB=true)(hr:r.pureT=true)(h:List Box):HCall P [] f args h r h:=by
 intro g w us hs hu;refine(hp (g0 g.Z) w us (simH_nil hs.zlt hs.tab) ⟨hu.1,fun i u v h1 h2=>pureB_rep (g:=g) (g':=g0 g.Z) rfl (List.all_eq_true.1 ha v (List.mem_of_getElem? h2)) (hu.2 i u v h1 h2)⟩).mono ?_
 rintro e w' ⟨u,g',rfl,hru,hk⟩
 have hfr:Fr (fun _=>False) w w':=hk.fr.mono fun k hk=>by obtain⟨b,x,hx,_⟩:=hk;simp at hx
 let g2:Gh:= { g with Z:=g'.Z }
 have hle:g.Le (· ∈([]:List Nat)) g2:=⟨hk.le.Z,Nat.le_refl _,fun _ _ _=>rfl,fun _ _ _=>rfl,fun _ _=>rfl⟩
 have ho:Over [] w g w' g2:=⟨hle,fun b o hz=>hfr.cell (hs.zlt b o hz) (fun h=>h)⟩
 have hzn: ∀b o,g'.Z b o->g.Z b o\/w.heap.size<=b:=fun b o hz=>by
  rcases hk.znew b o hz with h1|h1|h1
  ·exact .inl h1
  ·exact .inr h1
  ·obtain⟨c,x,hx,_⟩:=h1;simp at hx
 have hat: ∀(b:Nat) (x:Box),x.at? g2 b=x.at? g b:=fun b x=>by cases x<;>rfl
 have hown: ∀k,Owned g2 h k↔Owned g h k:=fun k=>⟨fun ⟨b,x,h1,h2⟩=>⟨b,x,h1,by rwa [hat]at h2⟩,fun ⟨b,x,h1,h2⟩=>⟨b,x,h1,by rwa [hat]⟩⟩
 refine⟨u,g2,rfl,pureT_rep (g:=g') (g':=g2) rfl hr hru,⟨⟨hs.n,?_,?_,?_,hk.heap.zlt,hk.heap.tab⟩,hle,hfr.mono (fun _ h=>h.elim),fun b o hz=> ?_,fun k hk=> .inl ((hown k).1 hk)⟩⟩
 ·intro b x hx;have:=BoxRep.over ho (by rw[hs.n];exact(List.getElem?_eq_some_iff.1 hx).1) (by simp) (fun k hk=>hfr.block k ((hs.rep b x hx).lt hk) (fun h=>h)) (hs.rep b x hx)
  rwa [Box.kill_nil]at this
 ·intro b c x y k h1 h2 h3 h4;rw[hat]at h3 h4;exact hs.sep b c x y k h1 h2 h3 h4
 ·intro k o hk hz;rw[hown]at hk;rcases hzn k o hz with h1|h1
  ·exact hs.zsep k o hk h1
  ·have:=hs.owned_lt hk;omega
 ·rcases hzn b o hz with h1|h1
  ·exact .inl h1
  ·exact .inr (.inl h1)
def MCall (P:Program)(f:FuncId)(args:List V)(e:TypeId)(sz:Nat)(rows:LL):Prop:=HCall P [] f args [] (.own 0) [.arr e sz rows]
def MCall.hcall {f:FuncId}{args:List V}{e:TypeId}{sz:Nat}{rows:LL}(hp:MCall P f args e sz rows)(ha:args.all V.pureB=true)(h:List Box):HCall P [] f args h (.own h.length) (h++[.arr e sz rows]):=by
 intro g w us hs hu;refine(hp (g0 g.Z) w us (simH_nil hs.zlt hs.tab) ⟨hu.1,fun i u v h1 h2=>pureB_rep (g:=g) (g':=g0 g.Z) rfl (List.all_eq_true.1 ha v (List.mem_of_getElem? h2)) (hu.2 i u v h1 h2)⟩).mono ?_
 rintro _ w' ⟨u,g',rfl,hru,hk⟩
 have hfr:Fr (fun _=>False) w w':=hk.fr.mono fun k hk=>by obtain⟨b,x,hx,_⟩:=hk;simp at hx
 let g3:Gh:= { Z:=g'.Z,n:=g.n+1,blk:=fun b=>if b=g.n then g'.blk 0 else g.blk b,val:=fun b=>if b=g.n then g'.val 0 else g.val b,cd:=fun b=>if b=g.n then none else g.cd b }
 have hb3: ∀b,b < g.n->g3.blk b=g.blk b/\g3.val b=g.val b:=fun b hb=>by simp[g3,Nat.ne_of_lt hb]
 have hn3:g3.blk g.n=g'.blk 0/\g3.val g.n=g'.val 0:=by simp[g3]
 have hle:g.Le (· ∈([]:List Nat)) g3:=⟨hk.le.Z,Nat.le_succ _,fun b hb _=>(hb3 b hb).1,fun b hb _=>(hb3 b hb).2,fun b hb=>by simp[g3,Nat.ne_of_lt hb]⟩
 have ho:Over [] w g w' g3:=⟨hle,fun b o hz=>hfr.cell (hs.zlt b o hz) (fun h=>h)⟩
 have hzn: ∀b o,g'.Z b o->g.Z b o\/w.heap.size<=b:=fun b o hz=>by
  rcases hk.znew b o hz with h1|h1|h1
  ·exact .inl h1
  ·exact .inr h1
  ·obtain⟨c,x,hx,_⟩:=h1;simp at hx
 have hat: ∀(b:Nat) (x:Box),b < g.n->x.at? g3 b=x.at? g b:=fun b x hb=>Box.at?_congr (hb3 b hb).1 (hb3 b hb).2 x
 have hat0:(Box.arr e sz rows).at? g3 g.n=(Box.arr e sz rows).at? g' 0:=by simp only[Box.at?,hn3.2]
 have hnew: ∀k,(Box.arr e sz rows).at? g3 g.n=some k->w.heap.size<=k/\Owned g' [.arr e sz rows] k:=fun k hk'=>by
  rw[hat0]at hk';have hO:Owned g' [.arr e sz rows] k:=⟨0,_,rfl,hk'⟩;rcases hk.own k hO with h1|h1
  ·obtain⟨c,x,hx,_⟩:=h1;simp at hx
  ·exact⟨h1,hO⟩
 have hget: ∀(b:Nat) y,(h++[Box.arr e sz rows])[b]? =some y->(b < g.n/\h[b]? =some y)\/(b=g.n/\y= .arr e sz rows):=by
  intro b y hy;rw[List.getElem?_append]at hy;split at hy
  ·rename_i hb;exact .inl ⟨by rw[hs.n];exact hb,hy⟩
  ·rename_i hb;have h0:b - h.length=0:=by
    rcases Nat.eq_zero_or_pos (b - h.length)with h0|h0
    ·exact h0
    ·rw[List.getElem?_eq_none (by simp;omega)]at hy;cases hy
   rw[h0]at hy;simp at hy;exact .inr ⟨by rw[hs.n];omega,hy.symm⟩
 have hown: ∀k,Owned g3 (h++[.arr e sz rows]) k->Owned g h k\/(w.heap.size<=k/\Owned g' [.arr e sz rows] k):=by
  rintro k ⟨b,y,hy,hk'⟩
  rcases hget b y hy with⟨hb,hy⟩|⟨rfl,rfl⟩
  ·rw[hat b y hb]at hk';exact .inl ⟨b,y,hy,hk'⟩
  ·exact .inr (hnew k hk')
 refine⟨u,g3,rfl,?_,⟨⟨by simp[g3,hs.n],?_,?_,?_,hk.heap.zlt,hk.heap.tab⟩,hle,hfr.mono (fun _ h=>h.elim),fun b o hz=> ?_,fun k hk=> ?_⟩⟩
 ·obtain⟨e1,_⟩:=rep_own_inv hru;have:=Rep.own (w:=w') (g:=g3) g.n (by simp[g3])
  rw[hn3.2,<-e1,hs.n]at this;exact this
 ·intro b x hx;rcases hget b x hx with⟨hb,hx⟩|⟨rfl,rfl⟩
  ·have:=BoxRep.over ho hb (by simp) (fun k hk=>hfr.block k ((hs.rep b x hx).lt hk) (fun h=>h)) (hs.rep b x hx)
   rwa [Box.kill_nil]at this
  ·have:=hk.heap.rep 0 _ rfl;simp only[BoxRep,hn3.1,hn3.2]at this ⊢;exact this
 ·intro b c x y k h1 h2 h3 h4;rcases hget b x h1 with⟨hb,h1'⟩|⟨hb,hx⟩<;>rcases hget c y h2 with⟨hc,h2'⟩|⟨hc,hy⟩
  ·rw[hat b x hb]at h3;rw[hat c y hc]at h4;exact hs.sep b c x y k h1' h2' h3 h4
  ·rw[hat b x hb]at h3;have:=(hs.rep b x h1').lt h3;subst hc;subst hy;have:=(hnew k h4).1;omega
  ·rw[hat c y hc]at h4;have:=(hs.rep c y h2').lt h4;subst hb;subst hx;have:=(hnew k h3).1;omega
  ·rw[hb,hc]
 ·intro k o hk' hz;rcases hown k hk' with h1|⟨h1,h2⟩
  ·rcases hzn k o hz with h3|h3
   ·exact hs.zsep k o h1 h3
   ·have:=hs.owned_lt h1;omega
  ·exact hk.heap.zsep k o h2 hz
 ·rcases hzn b o hz with h1|h1
  ·exact .inl h1
  ·exact .inr (.inl h1)
 ·rcases hown k hk with h1|⟨h1,_⟩
  ·exact .inl h1
  ·exact .inr h1
def goodF (P:Program)(f:FuncId):Bool:=match P.funcs[f]? with
 |some fn=> !(fn.name == "runtime.NumGoroutine")&&fn.body.isSome
 |none=>false
def sigP (P:Program)(f:FuncId):Option (List TypeId):=match goodF P f,P.funcs[f]? with
 |true,some fn=>some fn.resultTypes.toList
 |_,_=>none
def sigP_some {f:FuncId}{ts:List TypeId}(h:sigP P f=some ts):goodF P f=true:=by
 unfold sigP at h;split at h
 ·assumption
 ·cases h
def run_callFunc {f:FuncId}(hf:goodF P f=true)(args:Array Value)(w:World):(callFunc f args).run P w= .ok (.enter f args) w:=by
 unfold goodF at hf;split at hf
 ·rename_i fn hfn;simp only[Bool.and_eq_true,Bool.not_eq_true']at hf;obtain⟨h1,h2⟩:=hf;have h3:fn.body.isNone=false:=by cases hb:fn.body<;>simp_all
  unfold callFunc;simp only[Sem.run_bind,run_program,Result.andThen_ok,hfn,h1,h3,Bool.false_eq_true,if_false,Sem.run_pure]
 ·cases hf
def V.blindC (v:V):V:=match v.pureC with
 |true=>v
 |false=> .any
def V.blind:V->V
 | .agg cs=> .agg (cs.map V.blindC)
 | .fn f cs=> .fn f (cs.map V.blindC)
 |v=>v.blindC
def blindL (f:FuncId)(vs:List V):List V:=match gB.contains f with
 |true=>vs.map V.blind
 |false=>vs
def rep_blindC {w:World}{g:Gh}{u:Value}{v:V}(hr:Rep w g u v):Rep w g u v.blindC:=by
 unfold V.blindC;split
 ·exact hr
 ·exact .any u
def rep_blind {w:World}{g:Gh}{u:Value}{v:V}(hr:Rep w g u v):Rep w g u v.blind:=by
 have aux: ∀(us:Array Value) (cs:List V),(∀(i:Nat) u c,us[i]? =some u->cs[i]? =some c->Rep w g u c)->
     ∀(i:Nat) u c,us[i]? =some u->(cs.map V.blindC)[i]? =some c->Rep w g u c:=by
  intro us cs h i u c hu hc;rw[List.getElem?_map,Option.map_eq_some_iff]at hc;obtain⟨c',hc',rfl⟩:=hc;exact rep_blindC (h i u c' hu hc')
 cases v with
 |agg cs=>
  cases hr with
  |agg us _ hl h=>exact .agg us _ (by simpa using hl) (aux us cs h)
 |fn f cs=>
  cases hr with
  |fn _ us _ hl h=>exact .fn f us _ (by simpa using hl) (aux us cs h)
 |_=>exact rep_blindC hr
def reps_blind {w:World}{g:Gh}{us:List Value}{vs:List V}(f:FuncId)(hr:Reps w g us vs):Reps w g us (blindL f vs):=by
 unfold blindL;split
 ·refine⟨by simpa using hr.1,fun i u v h1 h2=> ?_⟩
  rw[List.getElem?_map,Option.map_eq_some_iff]at h2;obtain⟨v',hv',rfl⟩:=h2;exact rep_blind (hr.2 i u v' h1 hv')
 ·exact hr
def bindV (v:V)(args:List V):Option (FuncId × List V):=match v with
 | .fn f caps=>some (f,blindL f (args++caps))
 | .mv f b off=>some (f,blindL f (.ptr b off::args))
 |_=>none
def bind_run {g:Gh}{a:Act}{w:World}{y:Operand}{f:FuncId}{vs:List V}{args:Array Operand}{ts:Array TypeId}(hop:o.op= .call { callee:= .value y,args:=args,argTypes:=ts })(hf:goodF P f=true)
  (hy: ∀y,Rep w g (a.eval y) (O y)) (hb:bindV (O y) (args.toList.map O)=some (f,vs)): ∃us:List Value,Reps w g us vs/\(execOp a.eval o).run P w= .ok (.enter f us.toArray) w:=by
 have hr:=hy y;have hargs:Reps w g (args.toList.map a.eval) (args.toList.map O):=⟨by simp,fun i u v h1 h2=>by
  rw[List.getElem?_map,Option.map_eq_some_iff]at h1 h2;obtain⟨q,hq,rfl⟩:=h1;obtain⟨q',hq',rfl⟩:=h2;rw[hq]at hq';cases hq';exact hy q⟩
 generalize hu0:a.eval y=u0 at hr;generalize O y=v0 at hr hb;cases hr with
 |fn f0 us cs hl hcap=>
  cases hb;refine⟨args.toList.map a.eval++us.toList,reps_blind _ ⟨by simp[hl],fun i u v h1 h2=> ?_⟩,?_⟩
  ·rw[List.getElem?_append]at h1 h2;simp only[List.length_map]at h1 h2;split at h1
   ·rename_i hi;rw[if_pos hi]at h2;exact hargs.2 i u v h1 h2
   ·rename_i hi;rw[if_neg hi]at h2;exact hcap _ u v (by rwa [Array.getElem?_toList]at h1) h2
  ·have:(args.toList.map a.eval++us.toList).toArray=(#[]++args.map a.eval)++us:=by
    apply Array.ext';simp
   rw[this];simp[execOp,hop,resolve,hu0,Deferred.ofValue,invoke,run_callFunc hf]
 |mv f0 b off hb0=>
  cases hb;refine⟨.pointer (some ⟨g.blk b,off,none⟩)::args.toList.map a.eval,reps_blind _ ⟨by simp,fun i u v h1 h2=> ?_⟩,?_⟩
  ·cases i with
   |zero=>simp at h1 h2;subst h1;subst h2;exact .ptr b off hb0
   |succ i=>exact hargs.2 i u v (by simpa using h1) (by simpa using h2)
  ·have:(Value.pointer (some ⟨g.blk b,off,none⟩)::args.toList.map a.eval).toArray=(#[.pointer (some ⟨g.blk b,off,none⟩)]++args.map a.eval)++ #[]:=by
    apply Array.ext';simp
   rw[this];simp[execOp,hop,resolve,hu0,Deferred.ofValue,invoke,run_callFunc hf]
 |_=>cases hb
def gives_callV {y:Operand}{f:FuncId}{vs:List V}{args:Array Operand}{ts:Array TypeId}{r:V}(hop:o.op= .call { callee:= .value y,args:=args,argTypes:=ts })(hb:bindV (O y) (args.toList.map O)=some (f,vs))(hf:goodF P f=true)
  (hc:HCall P M f vs h r h'):Gives P M h h' O o r:=by
 intro g a w hs hy K Q hK;obtain⟨us,hargs,hrun⟩:=bind_run hop hf hy hb;unfold Oper.wp;rw[hrun,Oper.upon_enter];refine(hc g w _ hs hargs).mono ?_
 rintro e w' ⟨u,g',rfl,hr,hk⟩
 exact hK u w' g' hr hk
structure Ent where
 w:World
 g:Gh
 h:List Box
 M:List Nat
 len:Nat
 ds:List Deferred
 nr:Bool
def DefOK (ds:List Deferred)(nr:Bool)(n0:Nat)(a:Act)(g:Gh)(h:List Box)(w:World):Prop:= ∃Ds:List Nat,(a.defers=Ds.map (fun D=> { target:= .collected D,args:= #[] })++ds/\(nr=true->Ds= []))/\Ds.Nodup/\
 ∀D∈Ds,n0<=D/\w.heap[D]? =some (.deferred (some []))/\ ¬Owned g h D/\ ∀o,¬g.Z D o
def DefOK.keep {ds:List Deferred}{nr:Bool}{n0:Nat}{a:Act}{M:List Nat}{g g':Gh}{h h':List Box}{w w':World}(hd:DefOK ds nr n0 a g h w)(hk:Keep M g h w g' h' w'):DefOK ds nr n0 a g' h' w':=by
 obtain⟨Ds,h1,h2,h3⟩:=hd;refine⟨Ds,h1,h2,fun D hD=> ?_⟩
 obtain⟨k1,k2,k3,k4⟩:=h3 D hD;have hlt:D < w.heap.size:=(Array.getElem?_eq_some_iff.1 k2).1;refine⟨k1,(hk.fr.block D hlt k3).trans k2,fun ho=> ?_,fun o hz=> ?_⟩
 ·rcases hk.own D ho with q|q
  ·exact k3 q
  ·omega
 ·rcases hk.znew D o hz with q|q|q
  ·exact k4 o q
  ·omega
  ·exact k3 q
def DefOK.put {ds:List Deferred}{nr:Bool}{n0:Nat}{a:Act}{g:Gh}{h:List Box}{w:World}(hd:DefOK ds nr n0 a g h w)(d:Option Tmp)(u:Value):DefOK ds nr n0 (a.put d u) g h w:=by cases d<;>exact hd
def DefOK.less {ds:List Deferred}{nr:Bool}{n0:Nat}{a:Act}{g g':Gh}{h h':List Box}{w:World}(hd:DefOK ds nr n0 a g h w)(ho: ∀k,Owned g' h' k->Owned g h k)(hz:g'.Z=g.Z):DefOK ds nr n0 a g' h' w:=by
 obtain⟨Ds,h1,h2,h3⟩:=hd;refine⟨Ds,h1,h2,fun D hD=> ?_⟩
 obtain⟨k1,k2,k3,k4⟩:=h3 D hD;exact⟨k1,k2,fun q=>k3 (ho D q),by rw[hz];exact k4⟩
def DefOK.none {nr:Bool}{n0:Nat}{t:Array Value}{g:Gh}{h:List Box}{w:World}:DefOK [] nr n0 ⟨t,[]⟩ g h w:=⟨[],⟨rfl,fun _=>rfl⟩,List.nodup_nil,by simp⟩
structure Sim (E:Ent) (s:VSt) (a:Act) (w:World) (g:Gh):Prop where
 heap:SimH g s.h w
 size:a.tmps.size=s.t.length
 tmps: ∀(i:Nat) u v,a.tmps[i]? =some u->s.t[i]? =some v->Rep w g u v
 defers:DefOK E.ds E.nr E.w.heap.size a g s.h w
 keep:E.g.Le (· ∈E.M) g/\Fr (Owned E.g E.h) E.w w/\(∀b o,g.Z b o->E.g.Z b o\/E.w.heap.size<=b\/Owned E.g E.h b)/\(∀k,Owned g s.h k->Owned E.g E.h k\/E.w.heap.size<=k)
 len:s.t.length=E.len
def SimE (E:Ent)(s:VSt)(a:Act)(w:World):Prop:= ∃g,Sim E s a w g
def okM (n:Nat)(ME M:List Nat):Bool:=M.all fun b=>ME.contains b || decide (n<=b)
def Sim.step {E:Ent}{s:VSt}{a:Act}{w w':World}{g g':Gh}(hs:Sim E s a w g)(hk:Keep M g s.h w g' h' w')(hM:okM E.g.n E.M M=true):
  E.g.Le (· ∈E.M) g'/\Fr (Owned E.g E.h) E.w w'/\(∀b o,g'.Z b o->E.g.Z b o\/E.w.heap.size<=b\/Owned E.g E.h b)/\(∀k,Owned g' h' k->Owned E.g E.h k\/E.w.heap.size<=k):=by
 obtain⟨k1,k2,k3,k4⟩:=hs.keep;have hM': ∀b,b < E.g.n->b∈M->b∈E.M:=fun b hb hm=>by
  have:=List.all_eq_true.1 hM b hm;simp at this;rcases this with h1|h1
  ·exact h1
  ·omega
 refine⟨⟨fun b o hz=>hk.le.Z b o (k1.Z b o hz),Nat.le_trans k1.n hk.le.n,fun b hb hm=> ?_,fun b hb hm=> ?_,fun b hb=> ?_⟩,k2.trans' hk.fr k4,fun b o hz=> ?_,fun k hk'=> ?_⟩
 ·exact(hk.le.blk b (Nat.lt_of_lt_of_le hb k1.n) (fun h=>hm (hM' b hb h))).trans (k1.blk b hb hm)
 ·exact(hk.le.val b (Nat.lt_of_lt_of_le hb k1.n) (fun h=>hm (hM' b hb h))).trans (k1.val b hb hm)
 ·exact(hk.le.cd b (Nat.lt_of_lt_of_le hb k1.n)).trans (k1.cd b hb)
 ·rcases hk.znew b o hz with h1|h1|h1
  ·exact k3 b o h1
  ·exact .inr (.inl (Nat.le_trans k2.size h1))
  ·rcases k4 b h1 with h2|h2
   ·exact .inr (.inr h2)
   ·exact .inr (.inl h2)
 ·rcases hk.own k hk' with h1|h1
  ·exact k4 k h1
  ·exact .inr (Nat.le_trans k2.size h1)
def VSt.next (s:VSt)(M:List Nat)(h':List Box)(dst:Option Tmp)(x:V):VSt:=
 let t:=match M with
  | []=>s.t
  |_=>s.t.map (V.kill M)
 { t:=match dst with|some d=>t.set d x|none=>t,h:=h' }
def next_t (s:VSt)(M:List Nat)(h':List Box)(dst:Option Tmp)(x:V):
  (s.next M h' dst x).t=match dst with|some d=>(s.t.map (V.kill M)).set d x|none=>s.t.map (V.kill M):=by
 have:(match M with| []=>s.t|_=>s.t.map (V.kill M))=s.t.map (V.kill M):=by
  cases M with
  |nil=>rw[show V.kill []=id from funext V.kill_nil];simp
  |cons=>rfl
 unfold VSt.next;simp only[this]
def Sim.next {E:Ent}{s:VSt}{a:Act}{w w':World}{g g':Gh}(hs:Sim E s a w g)(hk:Keep M g s.h w g' h' w')(hM:okM E.g.n E.M M=true){u:Value}(hu:Rep w' g' u x)(dst:Option Tmp):
  Sim E (s.next M h' dst x) (a.put dst u) w' g':=by
 have ho:=hk.over hs.heap;have hput:(a.put dst u).tmps=match dst with|some d=>a.tmps.setIfInBounds d u|none=>a.tmps:=by cases dst<;>rfl
 refine⟨hk.heap,?_,?_,(hs.defers.keep hk).put dst u,hs.step hk hM,by rw[next_t,<-hs.len];cases dst<;>simp⟩
 ·rw[next_t,hput];cases dst<;>simp[hs.size]
 ·intro i u' v' h1 h2;rw[next_t]at h2;rw[hput]at h1;have old: ∀ {u' v'},a.tmps[i]? =some u'->(s.t.map (V.kill M))[i]? =some v'->Rep w' g' u' v':=by
   intro u' v' h1 h2;rw[List.getElem?_map,Option.map_eq_some_iff]at h2;obtain⟨v0,h0,rfl⟩:=h2;exact ho.kill (hs.tmps i u' v0 h1 h0)
  cases dst with
  |none=>exact old h1 h2
  |some d=>
   simp only at h1 h2;rw[Array.getElem?_setIfInBounds]at h1;rw[List.getElem?_set]at h2
   by_cases hd:d=i
   ·subst hd;rw[if_pos rfl]at h1 h2;split at h1
    ·split at h2
     ·cases h1;cases h2;exact hu
     ·cases h2
    ·cases h1
   ·rw[if_neg hd]at h1 h2;exact old h1 h2
def Sim.get {E:Ent}{s:VSt}{a:Act}{w:World}{g:Gh}(hs:Sim E s a w g)(y:Operand):Rep w g (a.eval y) (s.get y):=by
 cases y with
 |tmp t=>
  simp only[Act.eval,VSt.get]
  by_cases ht:t < s.t.length
  ·have h1:t < a.tmps.size:=by rw[hs.size];exact ht
   exact hs.tmps t (a.tmps.getD t undef) (s.t.getD t .any) (by simp[h1]) (by simp[ht])
  ·have:s.t.getD t .any= .any:=by simp[List.getElem?_eq_none (Nat.le_of_not_lt ht)]
   rw[this];exact .any _
 |const v=>exact rep_ofConst w g v
 |func f=>exact .fn f #[] [] rfl (by simp)
 |global k=>exact .any _
def Gives.sim {E:Ent}{s:VSt}{a:Act}{w:World}(hg:Gives P M s.h h' s.get o x)(hs:SimE E s a w)(hM:okM E.g.n E.M M=true){K:Act->World->Prop}{Q:Exit->Act->World->Prop}
  (hK: ∀a' w',SimE E (s.next M h' o.dst x) a' w'->K a' w'):o.wp P a w K Q:=by
 obtain⟨g,hs⟩:=hs;exact hg g a w hs.heap hs.get K Q fun u w' g' hu hk=>hK _ _ ⟨g',hs.next hk hM hu o.dst⟩
def SimE.frz {E:Ent}{s:VSt}{a:Act}{w:World}{b:Nat}{e:TypeId}{sz:Nat}{rows:LL}(hs:SimE E s a w)(hb:s.h[b]? =some (.arr e sz rows)):
  SimE E { t:=s.t.map (V.frz b (.sl sz rows)),h:=(s.h.map (Box.frz b (.sl sz rows))).set b .gone } a w:=by
 obtain⟨g,hs⟩:=hs;obtain⟨g',hk,hr⟩:=freeze_step hs.heap hb;refine⟨g',hk.heap,by simpa using hs.size,fun i u v h1 h2=> ?_,hs.defers.keep hk,hs.step hk (by simp[okM]),by simpa using hs.len⟩
 rw[List.getElem?_map,Option.map_eq_some_iff]at h2;obtain⟨v0,h0,rfl⟩:=h2;exact hr _ _ (hs.tmps i u v0 h1 h0)
def SimE.frp {E:Ent}{s:VSt}{a:Act}{w:World}{b:Nat}{t:TypeId}{vs:List V}{cs:List D}(hs:SimE E s a w)(hb:s.h[b]? =some (.cells (.ty t) vs))(hc:allDs vs=some cs):
  SimE E { t:=s.t.map (V.frp b cs),h:=(s.h.map (Box.frp b cs)).set b .gone } a w:=by
 obtain⟨g,hs⟩:=hs;rw[allDs_spec hc]at hb;obtain⟨g',hk,hr⟩:=freezeP_step hs.heap hb;refine⟨g',hk.heap,by simpa using hs.size,fun i u v h1 h2=> ?_,hs.defers.keep hk,hs.step hk (by simp[okM]),by simpa using hs.len⟩
 rw[List.getElem?_map,Option.map_eq_some_iff]at h2;obtain⟨v0,h0,rfl⟩:=h2;exact hr _ _ (hs.tmps i u v0 h1 h0)
def VSt.frz (s:VSt):List Nat->VSt
 | []=>s
 |b::bs=>match s.h[b]? with
  |some (.arr _ sz rows)=>VSt.frz { t:=s.t.map (V.frz b (.sl sz rows)),h:=(s.h.map (Box.frz b (.sl sz rows))).set b .gone } bs
  |some (.cells (.ty _) vs)=>match allDs vs with
   |some cs=>VSt.frz { t:=s.t.map (V.frp b cs),h:=(s.h.map (Box.frp b cs)).set b .gone } bs
   |none=>VSt.frz s bs
  |_=>VSt.frz s bs
def SimE.frzs {E:Ent}{a:Act}{w:World}: ∀ {bs:List Nat} {s:VSt},SimE E s a w->SimE E (s.frz bs) a w
 | [],_,h=>h
 |b::bs,s,h=>by
  unfold VSt.frz;split
  ·rename_i e sz rows hb;exact SimE.frzs (h.frz hb)
  ·rename_i t vs hb;split
   ·rename_i cs hc;exact SimE.frzs (h.frp hb hc)
   ·exact SimE.frzs h
  ·exact SimE.frzs h
def SimE.setT {E:Ent}{s:VSt}{a:Act}{w:World}(hs:SimE E s a w){t:Tmp}{v:V}(hv: ∀u g,a.tmps[t]? =some u->Rep w g u v):SimE E { s with t:=s.t.set t v } a w:=by
 obtain⟨g,hs⟩:=hs;refine⟨g,hs.heap,by simpa using hs.size,fun i u v' h1 h2=> ?_,hs.defers,hs.keep,by simpa using hs.len⟩
 simp only at h2;rw[List.getElem?_set]at h2
 by_cases hd:t=i
 ·subst hd;rw[if_pos rfl]at h2;split at h2
  ·cases h2;exact hv u g h1
  ·cases h2
 ·rw[if_neg hd]at h2;exact hs.tmps i u v' h1 h2
end
section
variable {P : Program} {M : List Nat} {h h' : List Box} {O : Operand -> V} {o : Oper} {x : V}
mutual
def V.ren (σ:Nat->Nat):V->V
 | .own b=> .own (σ b)
 | .ptr b o=> .ptr (σ b) o
 | .mv f b o=> .mv f (σ b) o
 | .ifp f b o=> .ifp f (σ b) o
 | .pml b s i o=> .pml (σ b) s i o
 | .map b=> .map (σ b)
 | .yld b R=> .yld (σ b) R
 | .osl b s l n=> .osl (σ b) s l n
 | .agg cs=> .agg (V.renL σ cs)
 | .tup cs=> .tup (V.renL σ cs)
 | .fn f cs=> .fn f (V.renL σ cs)
 | .any=> .any
 | .nils=> .nils
 | .d x=> .d x
 | .pel cs=> .pel cs
 | .nilp=> .nilp
 | .nilf=> .nilf
 | .ifn b=> .ifn b
 | .ifc t cs=> .ifc t cs
 | .ifo t b cs=> .ifo t b cs
def V.renL (σ:Nat->Nat):List V->List V
 | []=>[]
 |c::cs=>c.ren σ::V.renL σ cs
end
mutual
def V.scB (n:Nat):V->Bool
 | .own b=>decide (b < n)
 | .ptr b _=>decide (b < n)
 | .mv _ b _=>decide (b < n)
 | .ifp _ b _=>decide (b < n)
 | .pml b _ _ _=>decide (b < n)
 | .map b=>decide (b < n)
 | .yld b _=>decide (b < n)
 | .osl b _ _ _=>decide (b < n)
 | .agg cs=>V.scL n cs
 | .tup cs=>V.scL n cs
 | .fn _ cs=>V.scL n cs
 |_=>true
def V.scL (n:Nat):List V->Bool
 | []=>true
 |c::cs=>c.scB n&&V.scL n cs
end
def Box.ren (σ:Nat->Nat):Box->Box
 | .cells t vs=> .cells t (V.renL σ vs)
 |x=>x
def Box.scB (n:Nat):Box->Bool
 | .cells _ vs=>V.scL n vs
 |_=>true
def renL_map (σ:Nat->Nat): ∀cs:List V,V.renL σ cs=cs.map (V.ren σ)
 | []=>rfl
 |c::cs=>by unfold V.renL;rw[renL_map σ cs];rfl
def scL_all (n:Nat): ∀cs:List V,V.scL n cs=cs.all (V.scB n)
 | []=>rfl
 |c::cs=>by unfold V.scL;rw[scL_all n cs];rfl
def ren_rep {w:World}{g g':Gh}{σ:Nat->Nat}(hz: ∀b o,g.Z b o->g'.Z b o)(hσ: ∀b,b < g.n->g'.blk (σ b)=g.blk b/\g'.val (σ b)=g.val b/\σ b < g'.n/\g'.cd (σ b)=g.cd b){u:Value}{v:V}(hr:Rep w g u v):Rep w g' u (v.ren σ):=by
 have aux: ∀(us:Array Value) (cs:List V),(∀(i:Nat) u c,us[i]? =some u->cs[i]? =some c->Rep w g' u (c.ren σ))->
     ∀(i:Nat) u c,us[i]? =some u->(V.renL σ cs)[i]? =some c->Rep w g' u c:=by
  intro us cs h i u c hu hc;rw[renL_map,List.getElem?_map,Option.map_eq_some_iff]at hc;obtain⟨c',hc',rfl⟩:=hc;exact h i u c' hu hc'
 induction hr with
 |any u=>exact .any u
 |nils=>exact .nils
 |d h=>exact .d (h.mono hz (fun _ _ _=>rfl))
 |agg us cs hl h ih=>exact .agg us _ (by rw[renL_map,List.length_map];exact hl) (aux us cs ih)
 |tup us cs hl h ih=>exact .tup us _ (by rw[renL_map,List.length_map];exact hl) (aux us cs ih)
 |fn f us cs hl h ih=>exact .fn f us _ (by rw[renL_map,List.length_map];exact hl) (aux us cs ih)
 |own b hb=>rw[<-(hσ b hb).2.1];exact .own (σ b) (hσ b hb).2.2.1
 |map b hb=>rw[<-(hσ b hb).2.1];exact .map (σ b) (hσ b hb).2.2.1
 |ptr b off hb=>rw[<-(hσ b hb).1];exact .ptr (σ b) off (hσ b hb).2.2.1
 |mv f b off hb=>rw[<-(hσ b hb).1];exact .mv f (σ b) off (hσ b hb).2.2.1
 |ifp f b off hb=>rw[<-(hσ b hb).1];exact .ifp f (σ b) off (hσ b hb).2.2.1
 |pml b sz i off hb=>rw[<-(hσ b hb).1];exact .pml (σ b) sz i off (hσ b hb).2.2.1
 |yld b R hb hc=>rw[<-(hσ b hb).1];exact .yld (σ b) R (hσ b hb).2.2.1 (rc_eq (hσ b hb).2.2.2 hc)
 |osl b s l n u hb hu=>exact .osl (σ b) s l n u (hσ b hb).2.2.1 (by rw[(hσ b hb).1];exact hu)
 |pel blk off cs U hZ hc hr=>exact .pel blk off cs U (fun j c h=>hz _ _ (hZ j c h)) hc (fun j c h=>(hr j c h).mono hz (fun _ _ _=>rfl))
 |nilp=>exact .nilp
 |nilf=>exact .nilf
 |ifn0=>exact .ifn0
 |ifn1 t p=>exact .ifn1 t p
 |ifc t us cs hl h=>exact .ifc t us cs hl fun i u c h1 h2=>(h i u c h1 h2).mono hz (fun _ _ _=>rfl)
 |ifo0 t cs=>exact .ifo0 t cs
 |ifo1 t us cs hl h=>exact .ifo1 t us cs hl fun i u c h1 h2=>(h i u c h1 h2).mono hz (fun _ _ _=>rfl)
def ren_back {w:World}{g g0:Gh}{σ:Nat->Nat}(hz:g0.Z=g.Z)(hσ: ∀b,b < g0.n->g0.blk b=g.blk (σ b)/\g0.val b=g.val (σ b)/\g0.cd b=g.cd (σ b)){u:Value}{v':V}(hr:Rep w g u v'):
  ∀ {v:V},v'=v.ren σ->v.scB g0.n=true->Rep w g0 u v:=by
 have aux: ∀(us:Array Value) (cs' cs:List V),(∀(i:Nat) u c,us[i]? =some u->cs'[i]? =some c-> ∀ {v:V},c=v.ren σ->v.scB g0.n=true->Rep w g0 u v)->cs'=V.renL σ cs->V.scL g0.n cs=true->
     ∀(i:Nat) u c,us[i]? =some u->cs[i]? =some c->Rep w g0 u c:=by
  intro us cs' cs h he hs i u c hu hc;rw[scL_all]at hs;refine h i u (c.ren σ) hu ?_ rfl (List.all_eq_true.1 hs c (List.mem_of_getElem? hc));rw[he,renL_map,List.getElem?_map,hc];rfl
 induction hr with
 |any u=>intro v he hs;cases v<;>simp[V.ren]at he;exact .any u
 |nils=>intro v he hs;cases v<;>simp[V.ren]at he;exact .nils
 |d h=>intro v he hs;cases v<;>simp[V.ren]at he;subst he;exact .d (by rwa [hz])
 |agg us cs hl h ih=>
  intro v he hs;cases v<;>simp[V.ren]at he
  rename_i cs0;exact .agg us cs0 (by rw[hl,he,renL_map,List.length_map]) (aux us cs cs0 ih he (by simpa[V.scB]using hs))
 |tup us cs hl h ih=>
  intro v he hs;cases v<;>simp[V.ren]at he
  rename_i cs0;exact .tup us cs0 (by rw[hl,he,renL_map,List.length_map]) (aux us cs cs0 ih he (by simpa[V.scB]using hs))
 |fn f us cs hl h ih=>
  intro v he hs;cases v<;>simp[V.ren]at he
  rename_i f0 cs0;obtain⟨rfl,he⟩:=he;exact .fn f us cs0 (by rw[hl,he,renL_map,List.length_map]) (aux us cs cs0 ih he (by simpa[V.scB]using hs))
 |own b hb=>
  intro v he hs;cases v<;>simp[V.ren]at he
  rename_i b0;have hb0:b0 < g0.n:=by simpa[V.scB]using hs
  subst he;rw[<-(hσ b0 hb0).2.1];exact .own b0 hb0
 |map b hb=>
  intro v he hs;cases v<;>simp[V.ren]at he
  rename_i b0;have hb0:b0 < g0.n:=by simpa[V.scB]using hs
  subst he;rw[<-(hσ b0 hb0).2.1];exact .map b0 hb0
 |ptr b off hb=>
  intro v he hs;cases v<;>simp[V.ren]at he
  rename_i b0 off0;have hb0:b0 < g0.n:=by simpa[V.scB]using hs
  obtain⟨rfl,rfl⟩:=he;rw[<-(hσ b0 hb0).1];exact .ptr b0 _ hb0
 |mv f b off hb=>
  intro v he hs;cases v<;>simp[V.ren]at he
  rename_i f0 b0 off0;have hb0:b0 < g0.n:=by simpa[V.scB]using hs
  obtain⟨rfl,rfl,rfl⟩:=he;rw[<-(hσ b0 hb0).1];exact .mv _ b0 _ hb0
 |ifp f b off hb=>
  intro v he hs;cases v<;>simp[V.ren]at he
  rename_i f0 b0 off0;have hb0:b0 < g0.n:=by simpa[V.scB]using hs
  obtain⟨rfl,rfl,rfl⟩:=he;rw[<-(hσ b0 hb0).1];exact .ifp _ b0 _ hb0
 |pml b sz i off hb=>
  intro v he hs;cases v<;>simp[V.ren]at he
  rename_i b0 sz0 i0 off0;have hb0:b0 < g0.n:=by simpa[V.scB]using hs
  obtain⟨rfl,rfl,rfl,rfl⟩:=he;rw[<-(hσ b0 hb0).1];exact .pml b0 _ _ _ hb0
 |yld b R hb hc=>
  intro v he hs;cases v<;>simp[V.ren]at he
  rename_i b0 R0;have hb0:b0 < g0.n:=by simpa[V.scB]using hs
  obtain⟨rfl,rfl⟩:=he;rw[<-(hσ b0 hb0).1];exact .yld b0 _ hb0 (rc_eq (hσ b0 hb0).2.2 hc)
 |osl b s l n u hb hu=>
  intro v he hs;cases v<;>simp[V.ren]at he
  rename_i b0 s0 l0 n0;have hb0:b0 < g0.n:=by simpa[V.scB]using hs
  obtain⟨rfl,rfl,rfl,rfl⟩:=he;exact .osl b0 _ _ _ u hb0 (by rw[(hσ b0 hb0).1];exact hu)
 |pel blk off cs U hZ hc hr=>intro v he hs;cases v<;>simp[V.ren]at he;subst he;exact .pel blk off cs U (by rwa [hz]) hc (by rwa [hz])
 |nilp=>intro v he hs;cases v<;>simp[V.ren]at he;exact .nilp
 |nilf=>intro v he hs;cases v<;>simp[V.ren]at he;exact .nilf
 |ifn0=>intro v he hs;cases v<;>simp[V.ren]at he;subst he;exact .ifn0
 |ifn1 t p=>intro v he hs;cases v<;>simp[V.ren]at he;subst he;exact .ifn1 t p
 |ifc t us cs hl h=>intro v he hs;cases v<;>simp[V.ren]at he;obtain⟨rfl,rfl⟩:=he;exact .ifc _ us _ hl (by rwa [hz])
 |ifo0 t cs=>intro v he hs;cases v<;>simp[V.ren]at he;obtain⟨rfl,rfl,rfl⟩:=he;exact .ifo0 _ _
 |ifo1 t us cs hl h=>intro v he hs;cases v<;>simp[V.ren]at he;obtain⟨rfl,rfl,rfl⟩:=he;exact .ifo1 _ us _ hl (by rwa [hz])
def ren_box {w:World}{g g':Gh}{σ:Nat->Nat}(hz: ∀b o,g.Z b o->g'.Z b o)(hσ: ∀b,b < g.n->g'.blk (σ b)=g.blk b/\g'.val (σ b)=g.val b/\σ b < g'.n/\g'.cd (σ b)=g.cd b){b:Nat}(hb:b < g.n){x:Box}(hr:BoxRep w g b x):BoxRep w g' (σ b) (x.ren σ):=by
 obtain⟨e1,e2,_,e3⟩:=hσ b hb;cases x with
 |gone=>trivial
 |mp kk rows=>
  obtain⟨ens,clock,h1,h2,h3,h4⟩:=hr;refine⟨ens,clock,by rw[e1];exact h1,by rw[e2,e1];exact h2,h3,fun i e r he hr=> ?_⟩
  obtain⟨k,v,p1,p2,p3,p4⟩:=h4 i e r he hr;exact⟨k,v,p1,p2,p3.mono hz (fun _ _ _=>rfl),p4.mono hz (fun _ _ _=>rfl)⟩
 |cells t vs=>
  obtain⟨us,o,h1,h0,h2,h3⟩:=hr;refine⟨us,o,by rw[e1];exact h1,by rw[e3];exact h0,by rw[renL_map,List.length_map];exact h2,fun i u v hu hv=> ?_⟩
  rw[renL_map,List.getElem?_map,Option.map_eq_some_iff]at hv;obtain⟨v',hv',rfl⟩:=hv;exact ren_rep hz hσ (h3 i u v' hu hv')
 |arr e sz rows=>
  obtain⟨hl,hr⟩:=hr;refine⟨hl,?_⟩;rcases hr with⟨h1,h2⟩|⟨us,cap,h1,h2,h2',h3,h4,h5⟩
  ·exact .inl ⟨e2.trans h1,h2⟩
  ·refine .inr ⟨us,cap,by rw[e1,e2];exact h1,h2,h2',by rw[e1];exact h3,h4,fun i r j c hi hj=> ?_⟩
   obtain⟨u,hu,hd⟩:=h5 i r j c hi hj;exact⟨u,hu,hd.mono hz (fun _ _ _=>rfl)⟩
def back_box {w:World}{g g0:Gh}{σ:Nat->Nat}(hz:g0.Z=g.Z)(hσ: ∀b,b < g0.n->g0.blk b=g.blk (σ b)/\g0.val b=g.val (σ b)/\g0.cd b=g.cd (σ b)){b:Nat}(hb:b < g0.n){x:Box}(hsc:x.scB g0.n=true)(hr:BoxRep w g (σ b) (x.ren σ)):BoxRep w g0 b x:=by
 obtain⟨e1,e2,e3⟩:=hσ b hb;cases x with
 |gone=>trivial
 |mp kk rows=>
  obtain⟨ens,clock,h1,h2,h3,h4⟩:=hr;exact⟨ens,clock,by rw[e1];exact h1,by rw[e2,e1];exact h2,h3,by rw[hz];exact h4⟩
 |cells t vs=>
  obtain⟨us,o,h1,h0,h2,h3⟩:=hr;refine⟨us,o,by rw[e1];exact h1,by rw[e3];exact h0,by rw[renL_map,List.length_map]at h2;exact h2,fun i u v hu hv=> ?_⟩
  refine ren_back hz hσ (h3 i u (v.ren σ) hu (by rw[renL_map,List.getElem?_map,hv];rfl)) rfl ?_
  have:vs.all (V.scB g0.n)=true:=by rw[<-scL_all];exact hsc
  exact List.all_eq_true.1 this v (List.mem_of_getElem? hv)
 |arr e sz rows=>
  obtain⟨hl,hr⟩:=hr;refine⟨hl,?_⟩;rcases hr with⟨h1,h2⟩|⟨us,cap,h1,h2,h2',h3,h4,h5⟩
  ·exact .inl ⟨e2.trans h1,h2⟩
  ·exact .inr ⟨us,cap,by rw[e1,e2];exact h1,h2,h2',by rw[e1];exact h3,h4,by rw[hz];exact h5⟩
def ren_at (σ:Nat->Nat){g g':Gh}{b:Nat}(e1:g'.blk (σ b)=g.blk b)(e2:g'.val (σ b)=g.val b)(x:Box):(x.ren σ).at? g' (σ b)=x.at? g b:=by
 cases x<;>simp[Box.ren,Box.at?,e1,e2]
def ext (L:List Nat)(n i:Nat):Nat:=match L[i]? with
 |some b=>b
 |none=>n+(i - L.length)
def idxOf_some {L:List Nat}{b i:Nat}(h:L.idxOf? b=some i):L[i]? =some b:=by
 rw[List.idxOf?,List.findIdx?_eq_some_iff_getElem]at h;obtain⟨hi,h1,_⟩:=h;rw[List.getElem?_eq_getElem hi,eq_of_beq h1]
def idxOf_none {L:List Nat}{b:Nat}(h:L.idxOf? b=none):b ∉ L:=by
 rw[List.idxOf?,List.findIdx?_eq_none_iff]at h;intro hb;have:=h b hb;simp at this
def idxOf_at {L:List Nat}(hnd:L.Nodup){b i:Nat}(h:L[i]? =some b):L.idxOf? b=some i:=by
 cases hq:L.idxOf? b with
 |none=>exact absurd (List.mem_of_getElem? h) (idxOf_none hq)
 |some j=>
  have hj:=idxOf_some hq;obtain⟨hi',e1⟩:=List.getElem?_eq_some_iff.1 h;obtain⟨hj',e2⟩:=List.getElem?_eq_some_iff.1 hj;have hpw:=List.pairwise_iff_getElem.1 hnd;rcases Nat.lt_trichotomy i j with hlt|heq|hgt
  ·exact absurd (e1.trans e2.symm) (hpw i j hi' hj' hlt)
  ·rw[heq]
  ·exact absurd (e2.trans e1.symm) (hpw j i hj' hi' hgt)
mutual
def V.refs:V->List Nat
 | .own b=>[b]
 | .ptr b _=>[b]
 | .mv _ b _=>[b]
 | .ifp _ b _=>[b]
 | .pml b _ _ _=>[b]
 | .map b=>[b]
 | .yld b _=>[b]
 | .osl b _ _ _=>[b]
 | .agg cs=>V.refsL cs
 | .tup cs=>V.refsL cs
 | .fn _ cs=>V.refsL cs
 |_=>[]
def V.refsL:List V->List Nat
 | []=>[]
 |c::cs=>c.refs++V.refsL cs
end
mutual
def V.inB (L:List Nat):V->Bool
 | .own b=>L.contains b
 | .ptr b _=>L.contains b
 | .mv _ b _=>L.contains b
 | .ifp _ b _=>L.contains b
 | .pml b _ _ _=>L.contains b
 | .map b=>L.contains b
 | .yld b _=>L.contains b
 | .osl b _ _ _=>L.contains b
 | .agg cs=>V.inLs L cs
 | .tup cs=>V.inLs L cs
 | .fn _ cs=>V.inLs L cs
 |_=>true
def V.inLs (L:List Nat):List V->Bool
 | []=>true
 |c::cs=>c.inB L&&V.inLs L cs
end
def Box.refs:Box->List Nat
 | .cells _ vs=>V.refsL vs
 |_=>[]
def Box.inB (L:List Nat):Box->Bool
 | .cells _ vs=>V.inLs L vs
 |_=>true
def addAll (L:List Nat):List Nat->List Nat
 | []=>L
 |b::bs=>match L.contains b with
  |true=>addAll L bs
  |false=>addAll (L++[b]) bs
def close (h:List Box):Nat->List Nat->List Nat
 |0,L=>L
 |n+1,L=>
  let L':=addAll L (L.flatMap fun b=>(h.getD b .gone).refs)
  match decide (L'.length=L.length)with
  |true=>L
  |false=>close h n L'
def tau (L:List Nat)(b:Nat):Nat:=match L.idxOf? b with
 |some i=>i
 |none=>0
def nodupB:List Nat->Bool
 | []=>true
 |b::bs=> !bs.contains b&&nodupB bs
def nodupB_spec: ∀ {L:List Nat},nodupB L=true->L.Nodup
 | [],_=>List.nodup_nil
 |b::bs,h=>by
  unfold nodupB at h;simp only[Bool.and_eq_true,Bool.not_eq_true',List.contains_eq_mem,decide_eq_false_iff_not]at h;exact List.nodup_cons.2 ⟨h.1,nodupB_spec h.2⟩
def tau_spec {L:List Nat}{b:Nat}(h:L.contains b=true):L[tau L b]? =some b/\tau L b < L.length:=by
 have hb:b∈L:=by simpa using h
 unfold tau;cases hq:L.idxOf? b with
 |none=>exact absurd hb (idxOf_none hq)
 |some i=>exact⟨idxOf_some hq,(List.getElem?_eq_some_iff.1 (idxOf_some hq)).1⟩
def ext_tau {L:List Nat}{n b:Nat}(h:L.contains b=true):ext L n (tau L b)=b:=by
 unfold ext;rw[(tau_spec h).1]
mutual
def V.ren_ren {L:List Nat}{n:Nat}: ∀ {v:V},v.inB L=true->(v.ren (tau L)).ren (ext L n)=v
 | .own b,h=>by simp only[V.ren];rw[ext_tau h]
 | .ptr b o,h=>by simp only[V.ren];rw[ext_tau h]
 | .mv f b o,h=>by simp only[V.ren];rw[ext_tau h]
 | .ifp f b o,h=>by simp only[V.ren];rw[ext_tau h]
 | .pml b s i o,h=>by simp only[V.ren];rw[ext_tau h]
 | .map b,h=>by simp only[V.ren];rw[ext_tau h]
 | .yld b R,h=>by simp only[V.ren];rw[ext_tau h]
 | .osl b s l n,h=>by simp only[V.ren];rw[ext_tau h]
 | .agg cs,h=>by simp only[V.ren];rw[V.renL_renL h]
 | .tup cs,h=>by simp only[V.ren];rw[V.renL_renL h]
 | .fn f cs,h=>by simp only[V.ren];rw[V.renL_renL h]
 | .any,_=>rfl
 | .nils,_=>rfl
 | .d _,_=>rfl
 | .pel _,_=>rfl
 | .nilp,_=>rfl
 | .nilf,_=>rfl
 | .ifn _,_=>rfl
 | .ifc ..,_=>rfl
 | .ifo ..,_=>rfl
def V.renL_renL {L:List Nat}{n:Nat}: ∀ {cs:List V},V.inLs L cs=true->V.renL (ext L n) (V.renL (tau L) cs)=cs
 | [],_=>rfl
 |c::cs,h=>by
  have h':(c.inB L&&V.inLs L cs)=true:=h;rw[Bool.and_eq_true]at h';simp only[V.renL];rw[V.ren_ren h'.1,V.renL_renL h'.2]
end
mutual
def V.ren_sc {L:List Nat}: ∀ {v:V},v.inB L=true->(v.ren (tau L)).scB L.length=true
 | .own b,h=>by simp only[V.ren,V.scB];exact decide_eq_true (tau_spec h).2
 | .ptr b o,h=>by simp only[V.ren,V.scB];exact decide_eq_true (tau_spec h).2
 | .mv f b o,h=>by simp only[V.ren,V.scB];exact decide_eq_true (tau_spec h).2
 | .ifp f b o,h=>by simp only[V.ren,V.scB];exact decide_eq_true (tau_spec h).2
 | .pml b s i o,h=>by simp only[V.ren,V.scB];exact decide_eq_true (tau_spec h).2
 | .map b,h=>by simp only[V.ren,V.scB];exact decide_eq_true (tau_spec h).2
 | .yld b R,h=>by simp only[V.ren,V.scB];exact decide_eq_true (tau_spec h).2
 | .osl b s l n,h=>by simp only[V.ren,V.scB];exact decide_eq_true (tau_spec h).2
 | .agg cs,h=>by simp only[V.ren,V.scB];exact V.renL_sc h
 | .tup cs,h=>by simp only[V.ren,V.scB];exact V.renL_sc h
 | .fn f cs,h=>by simp only[V.ren,V.scB];exact V.renL_sc h
 | .any,_=>rfl
 | .nils,_=>rfl
 | .d _,_=>rfl
 | .pel _,_=>rfl
 | .nilp,_=>rfl
 | .nilf,_=>rfl
 | .ifn _,_=>rfl
 | .ifc ..,_=>rfl
 | .ifo ..,_=>rfl
def V.renL_sc {L:List Nat}: ∀ {cs:List V},V.inLs L cs=true->V.scL L.length (V.renL (tau L) cs)=true
 | [],_=>rfl
 |c::cs,h=>by
  have h':(c.inB L&&V.inLs L cs)=true:=h;rw[Bool.and_eq_true]at h';simp only[V.renL,V.scL];rw[V.ren_sc h'.1,V.renL_sc h'.2];rfl
end
def Box.ren_ren {L:List Nat}{n:Nat}{x:Box}(h:x.inB L=true):(x.ren (tau L)).ren (ext L n)=x:=by
 cases x with
 |cells t vs=>simp only[Box.ren];rw[V.renL_renL h]
 |_=>rfl
def Box.ren_sc {L:List Nat}{x:Box}(h:x.inB L=true):(x.ren (tau L)).scB L.length=true:=by
 cases x with
 |cells t vs=>exact V.renL_sc h
 |_=>rfl
def reachV (h:List Box)(L0:List Nat)(vs:List V):List Nat:=close h h.length (addAll L0 (V.refsL vs))
def smallH (h:List Box)(L:List Nat):List Box:=L.map fun b=>(h.getD b .gone).ren (tau L)
def reachOK (h:List Box)(L:List Nat)(vs:List V):Bool:=nodupB L&&L.all (fun b=>decide (b < h.length))&&V.inLs L vs&&L.all fun b=>(h.getD b .gone).inB L
structure ReachOK (h:List Box) (L:List Nat) (vs:List V):Prop where
 nd:L.Nodup
 lt: ∀b∈L,b < h.length
 vs:V.inLs L vs=true
 bx: ∀b∈L,(h.getD b .gone).inB L=true
def reachOK_spec {h:List Box}{L:List Nat}{vs:List V}(hr:reachOK h L vs=true):ReachOK h L vs:=by
 unfold reachOK at hr;simp only[Bool.and_eq_true]at hr;obtain⟨⟨⟨h1,h2⟩,h3⟩,h4⟩:=hr;exact⟨nodupB_spec h1,fun b hb=>of_decide_eq_true (List.all_eq_true.1 h2 b hb),h3,fun b hb=>List.all_eq_true.1 h4 b hb⟩
def Keep.tell {g g':Gh}{w w':World}{hs:List Box}(hk:Keep M g h w g' hs w')(hg:g.n=h.length){L:List Nat}{vs:List V}(hL:reachOK hs L vs=true)(hid: ∀i,i < h.length->L[i]? =some i):
  ∃g'',Keep M g h w g'' (smallH hs L) w'/\ ∀u v,Rep w' g' u v->v.inB L=true->Rep w' g'' u (v.ren (tau L)):=by
 obtain⟨q1,q2,q3,q4⟩:=reachOK_spec hL
 let σ:=ext L hs.length
 let g2:Gh:= { Z:=g'.Z,n:=L.length,blk:=fun i=>g'.blk (σ i),val:=fun i=>g'.val (σ i),cd:=fun i=>g'.cd (σ i) }
 have hσ: ∀b,b < g2.n->g2.blk b=g'.blk (σ b)/\g2.val b=g'.val (σ b)/\g2.cd b=g'.cd (σ b):=fun b _=>⟨rfl,rfl,rfl⟩
 have hrep: ∀u v,Rep w' g' u v->v.inB L=true->Rep w' g2 u (v.ren (tau L)):=fun u v hr hv=>
  ren_back (g:=g') (g0:=g2) (σ:=σ) rfl hσ hr (V.ren_ren hv).symm (V.ren_sc hv)
 have hbox: ∀(i:Nat) x,(smallH hs L)[i]? =some x-> ∃b y,L[i]? =some b/\σ i=b/\hs[b]? =some y/\y.inB L=true/\x=y.ren (tau L)/\i < L.length:=by
  intro i x hx;simp only[smallH,List.getElem?_map,Option.map_eq_some_iff]at hx;obtain⟨b,hb,rfl⟩:=hx;have hlt:=q2 b (List.mem_of_getElem? hb);refine⟨b,hs[b],hb,by simp[σ,ext,hb],List.getElem?_eq_getElem hlt,?_,?_,(List.getElem?_eq_some_iff.1 hb).1⟩
  ·have:=q4 b (List.mem_of_getElem? hb)
   rwa [List.getD_eq_getElem?_getD,List.getElem?_eq_getElem hlt]at this
  ·rw[List.getD_eq_getElem?_getD,List.getElem?_eq_getElem hlt];rfl
 have hat: ∀(i:Nat) (y:Box),(y.ren (tau L)).at? g2 i=y.at? g' (σ i):=fun i y=>by cases y<;>rfl
 have hown: ∀k,Owned g2 (smallH hs L) k->Owned g' hs k:=by
  rintro k ⟨i,x,hx,hk'⟩
  obtain⟨b,y,hb,e,hy,_,rfl,_⟩:=hbox i x hx;rw[hat,e]at hk';exact⟨b,y,hy,hk'⟩
 refine⟨g2,⟨⟨by simp[smallH,g2],fun i x hx=> ?_,fun i j x y k hx hy hkx hky=> ?_,fun k o hk' hz=>hk.heap.zsep k o (hown k hk') hz,hk.heap.zlt,hk.heap.tab⟩,
  ⟨hk.le.Z,?_,fun b hb hm=> ?_,fun b hb hm=> ?_,fun b hb=> ?_⟩,hk.fr,hk.znew,fun k hk'=>hk.own k (hown k hk')⟩,hrep⟩
 ·obtain⟨b,y,hb,e,hy,hin,rfl,hi⟩:=hbox i x hx;refine back_box (g:=g') (g0:=g2) (σ:=σ) rfl hσ hi (Box.ren_sc hin) ?_;rw[Box.ren_ren hin,e];exact hk.heap.rep b y hy
 ·obtain⟨b,y',hb,e,hy',_,rfl,_⟩:=hbox i x hx;obtain⟨c,z',hc,e',hz',_,rfl,_⟩:=hbox j y hy;rw[hat,e]at hkx;rw[hat,e']at hky;have:=hk.heap.sep b c y' z' k hy' hz' hkx hky;subst this;have a1:=idxOf_at q1 hb;have a2:=idxOf_at q1 hc;rw[a1]at a2;exact Option.some.inj a2
 ·show g.n<=L.length;rcases Nat.eq_zero_or_pos h.length with h0|h0
  ·omega
  ·have:=(List.getElem?_eq_some_iff.1 (hid (h.length - 1) (by omega))).1
   omega
 ·have hi:=hid b (by omega)
  show g'.blk (σ b)=g.blk b;rw[show σ b=b by simp[σ,ext,hi]]
  exact hk.le.blk b hb hm
 ·have hi:=hid b (by omega)
  show g'.val (σ b)=g.val b;rw[show σ b=b by simp[σ,ext,hi]]
  exact hk.le.val b hb hm
 ·have hi:=hid b (by omega)
  show g'.cd (σ b)=g.cd b;rw[show σ b=b by simp[σ,ext,hi]]
  exact hk.le.cd b hb
end
section
variable {P : Program} {M : List Nat} {h h' h2 : List Box} {O : Operand -> V} {o : Oper} {x : V}
def shOf (P:Program):Nat->TypeId->Option (List Sh)
 |0,_=>none
 |n+1,t=>match P.underlying t with
  |some (.int k)=>some [.int k]
  |some .bool=>some [.bool]
  |some .string=>some [.str]
  |some (.slice e)=>(szO P e).map fun sz=>[.sl sz]
  |some (.struct fs)=>fs.toList.foldr (fun f acc=>match shOf P n f.type,acc with
   |some a,some b=>some (a++b)
   |_,_=>none) (some [])
  |some (.array m e)=>(shOf P n e).map fun l=>(List.replicate m l).flatten
  |_=>none
def Pre (h h2:List Box):Prop:= ∀(b:Nat) x,h[b]? =some x->x= .gone\/h2[b]? =some x
def Pre.at (hp:Pre h h2){b:Nat}{x:Box}(hb:h[b]? =some x)(hx:x≠ .gone):h2[b]? =some x:=(hp b x hb).resolve_left hx
def Pre.refl (h:List Box):Pre h h:=fun _ _ h=> .inr h
def addF (v:V)(k:Nat):Option V:=match v with
 | .ptr b off=>some (.ptr b (off+k))
 | .pel cs=>some (.pel (cs.drop k))
 | .pml b sz i off=>some (.pml b sz i (off+k))
 |_=>none
def lenV_pre {v:V}{n:Int}(hp:Pre h h2)(hn:lenV h v=some n):lenV h2 v=some n:=by
 unfold lenV at hn ⊢;split<;>simp_all
 split at hn
 ·rename_i heq;rw[hp.at heq nofun];simpa using hn
 ·cases hn
def liveC_pre {v:V}(hp:Pre h h2)(hn:v.liveC h=true):v.liveC h2=true:=by
 unfold V.liveC at hn ⊢;split<;>simp_all
 all_goals
  split at hn
  ·rename_i heq;rw[hp.at heq nofun]
  ·cases hn
end
section
variable {P : Program} {M : List Nat} {h h' h2 : List Box} {O : Operand -> V} {o : Oper} {x : V}
def gives_appendNil {y z:Operand}{ts:Array TypeId}{t e:TypeId}{sz by_:Nat}{zv:Value}{news:LL}
  (hop:o.op= .call { callee:= .builtin .append,args:= #[y,z],argTypes:=ts }) (hts:ts= #[t,t]) (ht:elT P t=some (e,sz,by_,zv)) (hzs:zv.cells.size=sz) (hsz:0 < sz)
  (hy1:O y= .nils) (hz:rowsV h sz (O z)=some news)
  (h63:news.length<=maxLen) (hby:news.length*by_<=140737488355328):
  Gives P [] h (h++[.arr e sz news]) O o (.own h.length):=
 .of_run fun g O' w hs hy=>by
  obtain⟨hu,i,hi,hz0,hz1,hz2⟩:=elT_spec ht;have hr:=hy y;rw[hy1]at hr;have e1:O' y= .slice none 0 0:=by
   generalize hu0:O' y=u0 at hr;cases hr;rfl
  obtain⟨hnl,hsrc⟩:=rows_cells hs (hy z) hz;have hown0:w.ownsRow 0 e sz (.slice none 0 0) 0 []:=⟨by simp, .inl ⟨rfl,rfl⟩⟩
  rcases hsrc with⟨e2,rfl⟩|⟨ad,cap,nl,e2,hnlen,hnc,hn1,hnr⟩
  ·obtain⟨hkk,hrr⟩:=keep_own (e:=e) (sz:=sz) (rows:=[]) hs (.slice none 0 0) w.heap.size (w':=w) ⟨rfl,rfl,rfl,Nat.le_refl _,fun _ _ _=>rfl⟩ (.inl rfl) (Nat.le_refl _) ⟨by simp, .inl ⟨by simp[Gh.push],rfl⟩⟩
   refine⟨_,w,_,?_,hrr,hkk⟩;have hrun:=run_append_owned_none (P:=P) w 0 t o.type e i sz hu hi _ _ [] hown0;simp[execOp,hop,resolve,invoke,builtin,hts,e1,e2,hrun]
  ·obtain⟨v',w',hrun,h2,h3,hnil,h5⟩:=run_append_own_at (P:=P) w 0 t o.type e i zv sz by_ hu hi hz0 hz1 hz2 hzs hsz _ _ [] hown0 ad news.length cap nl hnlen hnc hn1 (by omega) (by rwa [Nat.zero_add]) (Nat.zero_le _)
   have hfr:Fr (fun _=>False) w w':=⟨h3.os,h3.tape,h3.output,h3.size,fun k hk _=>h3.block k hk (by simp[Value.ownBlock])⟩
   have hcz: ∀k o,g.Z k o->w'.cell? ⟨k,o,none⟩=w.cell? ⟨k,o,none⟩:=fun k o hz=>hfr.cell (hs.zlt k o hz) (fun h=>h)
   have hv:(g.push w.heap.size v').val g.n=v':=by simp[Gh.push]
   have hbk:(g.push w.heap.size v').blk g.n=w.heap.size:=by simp[Gh.push]
   simp only[Nat.zero_add,List.nil_append]at h2;have hform:v'= .slice none 0 0\/ ∃n c,v'= .slice (some ⟨w.heap.size,0,none⟩) n c:=by
    rcases h2.2 with⟨q,_⟩|⟨k,cap',cur,q,_⟩
    ·exact .inl q
    ·right
     subst q;simp only[Value.ownBlock,reduceCtorEq,false_or,Option.some.injEq]at h5;subst h5;exact⟨_,_,rfl⟩
   have hb:BoxRep w' (g.push w.heap.size v') g.n (.arr e sz news):=by
    refine own_arr (base:=0) (xs:=nl) (by rw[hv];exact h2) hnl (fun i' r j c hi' hj=> ?_) (fun k hk=> ?_)
    ·obtain⟨u,hu',hd⟩:=hnr i' r j c hi' hj;exact⟨u,hu',hd.mono (fun _ _ h=>h) hcz⟩
    ·rw[hv]at hk;rw[hbk];rcases hform with rfl|⟨n,c,rfl⟩
     ·simp[Value.ownBlock]at hk
     ·simpa[Value.ownBlock]using hk
   obtain⟨hkk,hrr⟩:=keep_own (w':=w') hs v' w.heap.size ⟨h3.os,h3.tape,h3.output,h3.size,fun k hk _=>h3.block k hk (by simp[Value.ownBlock])⟩ hform (Nat.le_refl _) hb
   refine⟨_,w',_,?_,hrr,hkk⟩;simp[execOp,hop,resolve,invoke,builtin,hts,e1,e2,hrun]
def V.owns:V->List Nat
 | .own b=>[b]
 | .agg cs=>cs.filterMap fun| .own b=>some b|_=>none
 |_=>[]
def V.fnPts (h:List Box):V->List Nat
 | .fn _ cs=>cs.flatMap fun v=>match v with
   | .ptr b _=>(match h[b]? with
     |some (.cells (.ty _) vs)=>vs.flatMap V.owns
     |_=>[])++[b]
   |v=>v.owns
 |_=>[]
def fzl (s:VSt)(o:Oper):List Nat:=match o.op with
 | .call ⟨.value f,args,_⟩=>(args.toList.flatMap fun y=>(s.get y).owns++(s.get y).fnPts s.h)++(s.get f).fnPts s.h
 | .store _ a z=>match s.get a with
   | .pml .. =>(s.get z).owns
   |_=>[]
 | .buildSlice _ _ parts=>parts.toList.flatMap fun q=>(s.get q.2).owns
 | .mapUpdate _ _ _ z=>(s.get z).owns
 | .slice _ y lo _ _=>match lo with
   |some _=>(s.get y).owns
   |none=>[]
 | .convert _ _ y=>(s.get y).owns
 |_=>[]
def VSt.setT (s:VSt)(t:Nat)(b:Bool):VSt:= { s with t:=s.t.set t (.d (.bool b)) }
def setT_sim {E:Ent}{s:VSt}{a:Act}{w:World}{t:Nat}{c:Bool}(hs:SimE E s a w)(ht:s.t[t]? =some (.d (.bool c))):SimE E (s.setT t c) a w/\a.tmps[t]? =some (.bool c):=by
 have hlt:t < s.t.length:=(List.getElem?_eq_some_iff.1 ht).1;obtain⟨g,hs'⟩:=hs;have hlt':t < a.tmps.size:=by rw[hs'.size];exact hlt
 have hu:=hs'.tmps t _ _ (Array.getElem?_eq_getElem hlt') ht;have e:=rep_bool_inv hu;refine⟨SimE.setT ⟨g,hs'⟩ (fun u g' hu'=> ?_),by rw[Array.getElem?_eq_getElem hlt',e]⟩
 rw[Array.getElem?_eq_getElem hlt',e]at hu';cases hu';exact .d (.bool c)
end
section
variable {P : Program} {M : List Nat} {h h' h2 : List Box} {O : Operand -> V} {o : Oper} {x : V}
def V.belowC (n:Nat):V->Bool
 | .own b| .map b=>decide (b < n)
 | .pml b _ _ _=>decide (b < n)
 | .ptr b _=>decide (b < n)
 | .mv _ b _=>decide (b < n)
 | .ifp _ b _=>decide (b < n)
 | .yld b _=>decide (b < n)
 | .osl b _ _ _=>decide (b < n)
 | .agg _| .tup _| .fn _ _=>false
 |_=>true
def V.belowB (n:Nat):V->Bool
 | .agg cs=>cs.all (V.belowC n)
 | .tup cs=>cs.all (V.belowC n)
 | .fn _ cs=>cs.all (V.belowC n)
 |v=>v.belowC n
def Gh.cut (g:Gh)(n:Nat):Gh:= { g with n:=n }
def belowC_rep {w:World}{g:Gh}{n:Nat}{u:Value}{v:V}(hv:v.belowC n=true)(hr:Rep w g u v):Rep w (g.cut n) u v:=by
 cases hr with
 |any u=>exact .any u
 |nils=>exact .nils
 |d h=>exact .d h
 |pel blk off cs U hZ hc hr=>exact .pel blk off cs U hZ hc hr
 |nilp=>exact .nilp
 |nilf=>exact .nilf
 |ifn0=>exact .ifn0
 |ifn1 t p=>exact .ifn1 t p
 |ifc t us cs hl h=>exact .ifc t us cs hl h
 |ifo0 t cs=>exact .ifo0 t cs
 |ifo1 t us cs hl h=>exact .ifo1 t us cs hl h
 |own b hb=>exact .own (g:=g.cut n) b (of_decide_eq_true hv)
 |ptr b off hb=>exact .ptr (g:=g.cut n) b off (of_decide_eq_true hv)
 |mv f b off hb=>exact .mv (g:=g.cut n) f b off (of_decide_eq_true hv)
 |ifp f b off hb=>exact .ifp (g:=g.cut n) f b off (of_decide_eq_true hv)
 |pml b sz i off hb=>exact .pml (g:=g.cut n) b sz i off (of_decide_eq_true hv)
 |map b hb=>exact .map (g:=g.cut n) b (of_decide_eq_true hv)
 |yld b R hb hc=>exact .yld (g:=g.cut n) b R (of_decide_eq_true hv) hc
 |osl b sz lo k u hb hu=>exact .osl (g:=g.cut n) b sz lo k u (of_decide_eq_true hv) hu
 |_=>simp[V.belowC]at hv
def belowB_rep {w:World}{g:Gh}{n:Nat}{u:Value}{v:V}(hv:v.belowB n=true)(hr:Rep w g u v):Rep w (g.cut n) u v:=by
 have aux: ∀(us:Array Value) (cs:List V),(∀(i:Nat) u c,us[i]? =some u->cs[i]? =some c->Rep w g u c)->cs.all (V.belowC n)=true->
     ∀(i:Nat) u c,us[i]? =some u->cs[i]? =some c->Rep w (g.cut n) u c:=fun us cs h ha i u c hu hc=>
  belowC_rep (List.all_eq_true.1 ha c (List.mem_of_getElem? hc)) (h i u c hu hc)
 cases hr with
 |agg us cs hl h=>exact .agg us cs hl (aux us cs h hv)
 |tup us cs hl h=>exact .tup us cs hl (aux us cs h hv)
 |fn f us cs hl h=>exact .fn f us cs hl (aux us cs h hv)
 |any u=>exact .any u
 |nils=>exact .nils
 |d h=>exact .d h
 |pel blk off cs U hZ hc hr=>exact .pel blk off cs U hZ hc hr
 |nilp=>exact .nilp
 |nilf=>exact .nilf
 |ifn0=>exact .ifn0
 |ifn1 t p=>exact .ifn1 t p
 |ifc t us cs hl h=>exact .ifc t us cs hl h
 |ifo0 t cs=>exact .ifo0 t cs
 |ifo1 t us cs hl h=>exact .ifo1 t us cs hl h
 |own b hb=>exact belowC_rep hv (.own b hb)
 |ptr b off hb=>exact belowC_rep hv (.ptr b off hb)
 |mv f b off hb=>exact belowC_rep hv (.mv f b off hb)
 |ifp f b off hb=>exact belowC_rep hv (.ifp f b off hb)
 |pml b sz i off hb=>exact belowC_rep hv (.pml b sz i off hb)
 |map b hb=>exact belowC_rep hv (.map b hb)
 |yld b R hb hc=>exact belowC_rep hv (.yld b R hb hc)
 |osl b sz lo k u hb hu=>exact belowC_rep hv (.osl b sz lo k u hb hu)
def Wk (n:Nat)(v' v:V):Prop:= ∀(w:World) (g:Gh) (u:Value),Rep w g u v'->Rep w (g.cut n) u v
def Wk.any (n:Nat)(v':V):Wk n v' .any:=fun _ _ u _=> .any u
def Box.belowB (n:Nat):Box->Bool
 | .cells _ vs=>vs.all (V.belowB n)
 |_=>true
end
section
variable {P : Program} {M : List Nat} {h h' h2 h0 : List Box} {O ρ2 : Operand -> V} {o : Oper} {x : V} {ops : Array Oper}
open Classical in
noncomputable def restr (o:Oper) (O:Operand->V):Operand->V:=fun y=>match y with
 | .func f=> .fn f []
 |y=>if y∈o.op.operands.toList then O y else .any
def restr_func (o:Oper)(O:Operand->V)(f:FuncId):restr o O (.func f)= .fn f []:=rfl
def restr_at (hf: ∀f,O (.func f)= .fn f []){y:Operand}(hy:y∈o.op.operands.toList):restr o O y=O y:=by
 cases y<;>simp only[restr,hf]<;>rw[if_pos hy]
def restr_rep {w:World}{g:Gh}{a:Act}(hy: ∀y,y∈o.op.operands.toList->Rep w g (a.eval y) (O y)): ∀y,Rep w g (a.eval y) (restr o O y):=by
 intro y;cases y with
 |func f=>exact .fn f #[] [] rfl (by simp)
 |_=>simp only[restr];split<;>first|exact hy _ ‹_› |exact .any _
def wantV (ops:Array Oper)(o:Oper)(t:List V):Option Bool:=match o.guard with
 |none=>some true
 |some (j,want)=>match (ops[j]?).bind (·.dst)with
  |some k=>match t[k]? with
   |some (.d (.bool c))=>some (c == want)
   |some (.tup [])=>some false
   |_=>none
  |none=>none
def wantV_sim {E:Ent}{s:VSt}{a:Act}{w:World}(hs:SimE E s a w){c:Bool}(hw:wantV ops o s.t=some c):Region.wanted o (yielded ops a.tmps)=c:=by
 unfold wantV at hw;split at hw
 ·rename_i hg;cases hw;simp[Region.wanted,hg]
 ·rename_i j want hg;split at hw
  ·rename_i k hk;split at hw
   ·rename_i c' hc;cases hw;have hy:yielded ops a.tmps j=some c':=by simp[yielded,hk,(setT_sim hs hc).2]
    simp only[Region.wanted,hg,hy];cases c'<;>cases want<;>rfl
   ·rename_i hc;cases hw;have hy:yielded ops a.tmps j=none:=by
     have hlt:k < s.t.length:=(List.getElem?_eq_some_iff.1 hc).1;obtain⟨g,hs'⟩:=hs;have hlt':k < a.tmps.size:=by rw[hs'.size];exact hlt
     have hu:=hs'.tmps k _ _ (Array.getElem?_eq_getElem hlt') hc;have ha:a.tmps[k]? =some a.tmps[k]:=Array.getElem?_eq_getElem hlt';generalize a.tmps[k]=u at hu ha;cases hu with
     |tup us cs hl h=>simp[yielded,hk,ha]
    simp[Region.wanted,hg,hy]
   ·cases hw
  ·cases hw
def putV (t:List V)(dst:Option Tmp)(x:V):List V:=match dst with
 |some d=>t.set d x
 |none=>t
def Val (P:Program)(h0:List Box)(o:Oper)(t:List V)(x:V):Prop:= ∀h2,Pre h0 h2->Gives P [] h2 h2 (restr o (VSt.get ⟨t,h0⟩)) o x
def allocV (P:Program)(o:Oper):Option Box:=match o.op with
 | .alloc t=>match zeroO P t with
   |some z=>match (ofConst z).cellsV with
    |some vs=>some (.cells (.ty t) vs)
    |none=>none
   |none=>none
 |_=>none
def Out (P:Program)(ops:Array Oper)(h0:List Box)(o:Oper)(t:List V)(hb:List Box)(x:V)(hb':List Box):Prop:=
 (wantV ops o t=some true/\((hb'=hb/\Val P h0 o t x)\/(hb= []/\x= .ptr h0.length 0/\ ∃b,allocV P o=some b/\hb'= [b])))\/(wantV ops o t=some false/\x= .tup []/\hb'=hb)
def pre_append (h0 hb:List Box):Pre h0 (h0++hb):=fun b x hx=> .inr <| by
 rw[List.getElem?_append,if_pos (List.getElem?_eq_some_iff.1 hx).1];exact hx
def get_h (t:List V)(h h':List Box):VSt.get ⟨t,h⟩=VSt.get ⟨t,h'⟩:=by funext y;cases y<;>rfl
def Gives.of_restr (hg:Gives P M h h' (restr o O) o x):Gives P M h h' O o x:=
 fun g a w hs hy K Q hK=>hg g a w hs (restr_rep fun y _=>hy y) K Q hK
def Out.wp {E:Ent}{t:List V}{hb hb':List Box}{a:Act}{w:World}(ho:Out P ops h0 o t hb x hb')(hs:SimE E ⟨t,h0++hb⟩ a w){K:Act->World->Prop}{Q:Exit->Act->World->Prop}
  (hK: ∀a' w',SimE E ⟨putV t o.dst x,h0++hb'⟩ a' w'->K a' w'):if Region.wanted o (yielded ops a.tmps)then o.wp P a w K Q else K (a.put o.dst undef) w:=by
 have hnext: ∀h' x,VSt.next ⟨t,h0++hb⟩ [] h' o.dst x=⟨putV t o.dst x,h'⟩:=fun h' x=>by first|(simp only[VSt.next,putV];done)|(simp only[VSt.next,putV];cases o.dst<;>rfl)
 rcases ho with⟨hw,hv⟩|⟨hw,rfl,rfl⟩
 ·rw[if_pos (wantV_sim hs hw)];rcases hv with⟨rfl,hv⟩|⟨rfl,rfl,b,hb,rfl⟩
  ·have hg:=hv (h0++hb') (pre_append _ _);rw[get_h t h0 (h0++hb')]at hg;refine Gives.sim (s:=⟨t,h0++hb'⟩) hg.of_restr hs (by simp[okM]) fun a' w' hs'=>hK a' w' ?_
   rwa [hnext]at hs'
  ·unfold allocV at hb;split at hb
   ·rename_i ty hop;split at hb
    ·rename_i z hz;split at hb
     ·rename_i vs hvs;cases hb;have hg:Gives P [] (h0++[]) ((h0++[])++[.cells (.ty ty) vs]) (VSt.get ⟨t,h0++[]⟩) o (.ptr (h0++[]).length 0):=gives_alloc hop hz hvs;refine Gives.sim (s:=⟨t,h0++[]⟩) hg hs (by simp[okM]) fun a' w' hs'=>hK a' w' ?_
      rw[hnext]at hs'
      simpa using hs'
     ·cases hb
    ·cases hb
   ·cases hb
 ·rw[if_neg (by rw[wantV_sim hs hw];simp)]
  refine hK _ _ ?_;obtain⟨g,hs⟩:=hs;have:=hs.next (.refl hs.heap) (by simp[okM]) (.tup (w:=w) (g:=g) #[] [] rfl (by simp)) o.dst
  rw[hnext]at this;exact⟨g,this⟩
def wantV_put {d:Option Tmp}(hd: ∀k,d=some k->k ∉ o.looksAt ops)(t:List V):wantV ops o (putV t d x)=wantV ops o t:=by
 cases d with
 |none=>rfl
 |some k=>
  unfold wantV;split
  ·rfl
  ·rename_i j want hg;split
   ·rename_i q hq;have hne:k≠q:=fun e=>hd k rfl (by subst e;simp[Oper.looksAt,hg,hq])
    simp only[putV,List.getElem?_set,if_neg hne]
   ·rfl
def restr_put {d:Option Tmp}(hd: ∀k,d=some k->k ∉ o.looksAt ops)(t:List V)(h:List Box):restr o (VSt.get ⟨putV t d x,h⟩)=restr o (VSt.get ⟨t,h⟩):=by
 funext y;cases y with
 |tmp q=>
  simp only[restr];split
  ·rename_i hy;cases d with
   |none=>rfl
   |some k=>
    have hne:k≠q:=fun e=>hd k rfl (by
     subst e;exact List.mem_append_left _ (List.mem_filterMap.2 ⟨.tmp k,hy,rfl⟩))
    simp[VSt.get,putV,hne]
  ·rfl
 |const v=>simp only[restr];rfl
 |func f=>rfl
 |global k=>simp only[restr];rfl
def putV_comm {d e:Option Tmp}(hde: ∀k,d=some k->e≠some k)(t:List V)(u v:V):putV (putV t d u) e v=putV (putV t e v) d u:=by
 cases d with
 |none=>rfl
 |some k=>cases e with
  |none=>rfl
  |some q=>exact List.set_comm _ _ (fun hh=>hde k rfl (by rw[hh]))
def Out.put {oi oj:Oper}{t:List V}{hb hbi hbj:List Box}{xi xj:V}(hap:oi.apart ops oj=true)
  (hi:Out P ops h0 oi t hb xi hbi) (hj:Out P ops h0 oj (putV t oi.dst xi) hbi xj hbj):
  ∃hb1,Out P ops h0 oj t hb xj hb1/\Out P ops h0 oi (putV t oj.dst xj) hb1 xi hbj/\putV (putV t oj.dst xj) oi.dst xi=putV (putV t oi.dst xi) oj.dst xj:=by
 obtain⟨a1,a2,a3⟩:=Oper.apart_spec hap;have hcomm:=putV_comm a2 t xi xj;have toj: ∀ {x},Val P h0 oj (putV t oi.dst xi) x↔Val P h0 oj t x:=fun {x}=>by simp only[Val,restr_put a1]
 have toi: ∀ {x},Val P h0 oi (putV t oj.dst xj) x↔Val P h0 oi t x:=fun {x}=>by simp only[Val,restr_put a3]
 have wj:=wantV_put (o:=oj) (x:=xi) a1 t;have wi:=wantV_put (o:=oi) (x:=xj) a3 t;simp only[Out,wj,toj]at hj;rcases hi with⟨hw,(⟨rfl,hv⟩|⟨rfl,rfl,b,hb1,rfl⟩)⟩|⟨hw,rfl,rfl⟩
 ·refine⟨hbj,hj, .inl ⟨by rw[wi];exact hw, .inl ⟨rfl,toi.2 hv⟩⟩,hcomm.symm⟩
 ·rcases hj with⟨hw',(⟨rfl,hv'⟩|⟨hne,_⟩)⟩|⟨hw',rfl,rfl⟩
  ·exact⟨[], .inl ⟨hw', .inl ⟨rfl,hv'⟩⟩, .inl ⟨by rw[wi];exact hw, .inr ⟨rfl,rfl,b,hb1,rfl⟩⟩,hcomm.symm⟩
  ·cases hne
  ·exact⟨[], .inr ⟨hw',rfl,rfl⟩, .inl ⟨by rw[wi];exact hw, .inr ⟨rfl,rfl,b,hb1,rfl⟩⟩,hcomm.symm⟩
 ·exact⟨hbj,hj, .inr ⟨by rw[wi];exact hw,rfl,rfl⟩,hcomm.symm⟩
end
def Fw (ro:Option Nat):Fence:= { Fence.wide with round:=ro }
def noDef (o:Oper):Bool:=match o.op with
 | .defer _=>false
 |_=>true
def noDef_spec {o:Oper}(h:noDef o=true): ∀c,o.op≠ .defer c:=fun c hc=>by simp[noDef,hc]at h
section
variable {P : Program} {o : Oper} {a : Act} {w : World} {K : Act -> World -> Prop} {Q : Exit -> Act -> World -> Prop} {ro : Option Nat} {n : Nat}
def callsIn_Fw {f:FuncId}{args:Array Value}{R:Ending->World->Prop}:CallsIn (Fw ro) n P f args w R↔Calls P f args w R:=callsIn_wide (n:=n)
def wpIn_of_wp (hnd:noDef o=true)(h:o.wp P a w K Q):o.wpIn (Fw ro) n P a w K Q:=by
 refine⟨fun f _=>trivial,?_⟩
 have e:o.semAt (Fw ro).round a.eval=execOp a.eval o:=Oper.semAt_eq _ _ _ (noDef_spec hnd);rw[e];unfold Oper.wp at h;generalize (execOp a.eval o).run P w=r at h;cases r with
 |ok x w'=>
  cases x with
  |value v=>exact h
  |skip=>exact h
  |defer d=>exact h
  |enter f args=>exact⟨fun h=>by simp[Fw,Fence.wide]at h,callsIn_Fw.2 h⟩
  |row row args=>
   refine⟨fun h=>by simp[Fw,Fence.wide]at h,fun c cs _=> ?_⟩
   obtain⟨v,w2,h1,h2⟩:=h c cs;exact⟨v,w2,h1,stepsIn_wide.2 h2⟩
  |_=>first|exact h|exact h.elim
 |halt x w'=>cases x<;>first|exact h|exact h.elim
def listIn_step {ops:Array Oper}{rest:List Oper}(h:if Region.wanted o (yielded ops a.tmps)then o.wpIn (Fw ro) 0 P a w (wpListIn (Fw ro) 0 P ops Q rest) Q else wpListIn (Fw ro) 0 P ops Q rest (a.put o.dst undef) w):wpListIn (Fw ro) 0 P ops Q (o::rest) a w:=by
 unfold wpListIn;split
 ·rename_i hw;rw[if_pos hw]at h;exact h
 ·rename_i hw;rw[if_neg hw]at h;exact⟨fun _ _=>trivial,h⟩
def wpIn_rounds {F:Fence}{rm:Nat}{c:Code}(I:Nat->Act->World->Prop)(n₀:Nat)(h₀:I n₀ a w)
  (round: ∀n a w,I n a w->c.wpIn F rm P (Exit.then (fun a' w'=> ∃n',n' < n/\I n' a' w') Q) a w):(Code.loop c).wpIn F rm P Q a w:=by
 refine wpIn_loop (fun a w=> ∃n,I n a w) (fun a w=>leastOf (fun n=>I n a w)) ⟨n₀,h₀⟩ ?_
 intro a w hI;refine wpIn_mono (round _ a w (leastOf_spec hI).1) fun e a' w' hq=> ?_
 cases e with
 |normal=>
  obtain⟨n',hlt,hI'⟩:=hq;exact show(∃n,I n a' w')/\leastOf (fun n=>I n a' w') < leastOf (fun n=>I n a w)from⟨⟨n',hI'⟩,Nat.lt_of_le_of_lt ((leastOf_spec ⟨n',hI'⟩).2 n' hI') hlt⟩
 |_=>exact hq
end
section
variable {P : Program} {M : List Nat} {h h' h2 h0 : List Box} {O ρ2 : Operand -> V} {o : Oper} {x : V} {ops : Array Oper}
def vAny (P:Program)(ops:Array Oper)(h0:List Box)(m:Nat)(K:List V->List Box->Prop):Nat->Array Bool->List V->List Box->Prop
 |0,listed,t,hb=>(∀j∈Region.ready .any ops listed,m<=j)/\K t hb
 |fuel+1,listed,t,hb=>Region.ready .any ops listed≠[]/\ ∀i∈Region.ready .any ops listed,i < m/\ ∃o x hb',ops[i]? =some o/\Out P ops h0 o t hb x hb'/\vAny P ops h0 m K fuel (listed.setIfInBounds i true) (putV t o.dst x) hb'
def edgeOn (o:Oper)(i:Nat):Bool:=o.after.any fun e=>Region.binds .any e&&e.on == i
def edgeOn_spec {o:Oper}{i:Nat}(h:edgeOn o i=true): ∃e∈o.after,Region.binds .any e=true/\e.on=i:=by
 obtain⟨e,he,hb⟩:=Array.any_eq_true'.1 h;simp only[Bool.and_eq_true,beq_iff_eq]at hb;exact⟨e,he,hb.1,hb.2⟩
def edgeR (ops:Array Oper):Nat->Oper->Nat->Bool
 |0,o,i=>edgeOn o i
 |n+1,o,i=>edgeOn o i || o.after.any fun e=>Region.binds .any e&&(match ops[e.on]? with
  |some ok=>edgeR ops n ok i
  |none=>false)
def ClosedL (ops:Array Oper)(listed:Array Bool):Prop:= ∀(k:Nat) ok,ops[k]? =some ok->listed.getD k false=true-> ∀e∈ok.after,Region.binds .any e=true->listed.getD e.on false=true
def edgeR_listed {listed:Array Bool}(hc:ClosedL ops listed){i:Nat}: ∀(n:Nat) {o:Oper},(∀e∈o.after,Region.binds .any e=true->listed.getD e.on false=true)->edgeR ops n o i=true->listed.getD i false=true
 |0,o,ho,h=>by obtain⟨e,he,hb,rfl⟩:=edgeOn_spec h;exact ho e he hb
 |n+1,o,ho,h=>by
  unfold edgeR at h;rw[Bool.or_eq_true]at h;rcases h with h|h
  ·obtain⟨e,he,hb,rfl⟩:=edgeOn_spec h;exact ho e he hb
  ·obtain⟨e,he,hb⟩:=Array.any_eq_true'.1 h;simp only[Bool.and_eq_true]at hb;obtain⟨hb1,hb2⟩:=hb;split at hb2
   ·rename_i ok hok;exact edgeR_listed hc n (hc e.on ok hok (ho e he hb1)) hb2
   ·cases hb2
def ClosedL.step {listed:Array Bool}(hc:ClosedL ops listed){i:Nat}(hi:i∈Region.ready .any ops listed):ClosedL ops (listed.setIfInBounds i true):=by
 have mono: ∀k,listed.getD k false=true->(listed.setIfInBounds i true).getD k false=true:=fun k hk=>by
  by_cases h:i=k
  ·subst h;simp only[Array.getD_eq_getD_getElem?,Array.getElem?_setIfInBounds,if_pos];split
   ·rfl
   ·rename_i hlt;rw[Array.getD_eq_getD_getElem?,Array.getElem?_eq_none (Nat.le_of_not_lt hlt)]at hk;exact hk
  ·rw[getD_set_ne false h];exact hk
 intro k ok hok hk e he hb
 by_cases h:i=k
 ·subst h;obtain⟨_,oi',hoi',hall⟩:=mem_ready.1 hi;rw[hok]at hoi';cases hoi';exact mono _ (hall e he hb)
 ·rw[getD_set_ne false h]at hk;exact mono _ (hc k ok hok hk e he hb)
def sufOK (ops:Array Oper)(m:Nat):Bool:=(List.range ops.size).all fun j=>decide (j < m) || match ops[j]? with
 |some oj=>(List.range m).all fun i=>edgeR ops 9 oj i
 |none=>true
def sufOK_spec {m:Nat}(hs:sufOK ops m=true){i:Nat}(hi:i < m){listed:Array Bool}(hcl:ClosedL ops listed)(hun:listed.getD i false=false){j:Nat}(hj:j∈Region.ready .any ops listed):j < m:=by
 obtain⟨_,oj,hoj,hall⟩:=mem_ready.1 hj;rcases Nat.lt_or_ge j m with h1|h1
 ·exact h1
 ·have:=List.all_eq_true.1 hs j (List.mem_range.2 (Array.getElem?_eq_some_iff.1 hoj).1);simp only[hoj,Bool.or_eq_true,decide_eq_true_eq]at this;rcases this with h2|h2
  ·omega
  ·have:=edgeR_listed hcl 9 hall (List.all_eq_true.1 h2 i (List.mem_range.2 hi));rw[hun]at this;cases this
def not_listed {i:Nat}{listed:Array Bool}(hi:i∈Region.ready .any ops listed):listed.getD i false=false:=by
 have h0:=(mem_ready.1 hi).1;rcases Nat.lt_or_ge i listed.size with h'|h'
 ·simp[h']at h0 ⊢;exact h0
 ·simp[Array.getElem?_eq_none h']
def vAny_first {m:Nat}{K:List V->List Box->Prop}(hsuf:sufOK ops m=true){i:Nat}{oi:Oper}{xi:V}(hi:ops[i]? =some oi)(him:i < m):
  ∀(fuel:Nat) (listed:Array Bool) (t:List V) (hb hbi:List Box),ClosedL ops listed->
   (∀j oj,ops[j]? =some oj->j≠i->listed.getD j true=false->(∀e∈oj.after,Region.binds .any e=true->e.on≠i)->oi.apart ops oj=true)->
   i∈Region.ready .any ops listed->Out P ops h0 oi t hb xi hbi->
   vAny P ops h0 m K fuel (listed.setIfInBounds i true) (putV t oi.dst xi) hbi->vAny P ops h0 m K (fuel+1) listed t hb:=by
 intro fuel
 induction fuel with
 |zero=>
  intro listed t hb hbi hcl _ hr ho H;refine⟨fun h=>(by rw[h]at hr;cases hr),fun j hj=> ?_⟩
  have hjm:=sufOK_spec hsuf him hcl (not_listed hr) hj
  by_cases hji:j=i
  ·subst hji;exact⟨him,oi,xi,hbi,hi,ho,H⟩
  ·have:=H.1 j (ready_mono hj hji);omega
 |succ fuel ih=>
  intro listed t hb hbi hcl hfree hr ho H;refine⟨fun h=>(by rw[h]at hr;cases hr),fun j hj=> ?_⟩
  have hjm:=sufOK_spec hsuf him hcl (not_listed hr) hj
  by_cases hji:j=i
  ·subst hji;exact⟨him,oi,xi,hbi,hi,ho,H⟩
  ·obtain⟨_,oj,xj,hbj,hoj,hout,hrest⟩:=H.2 j (ready_mono hj hji);obtain⟨hjun,oj',hoj',hall⟩:=mem_ready.1 hj;rw[hoj]at hoj';cases hoj';have hnot: ∀e∈oj.after,Region.binds .any e=true->e.on≠i:=fun e he hb heq=>by
    have h1:=hall e he hb;rw[heq,not_listed hr]at h1;cases h1
   obtain⟨hb1,o1,o2,e1⟩:=Out.put (hfree j oj hoj hji hjun hnot) ho hout;refine⟨hjm,oj,xj,hb1,hoj,o1,ih (listed.setIfInBounds j true) _ hb1 hbj (hcl.step hj) (fun k ok hk hki hun hno=> ?_) (ready_mono hr (Ne.symm hji)) o2 ?_⟩
   ·refine hfree k ok hk hki ?_ hno
    by_cases hjk:j=k
    ·subst hjk;exact hjun
    ·rw[getD_set_ne true hjk]at hun;exact hun
   ·rw[Array.setIfInBounds_comm _ _ hji,e1];exact hrest
def vLex (P:Program)(ops:Array Oper)(h0:List Box)(K:List V->List Box->Prop):List Oper->List V->List Box->Prop
 | [],t,hb=>K t hb
 |o::os,t,hb=> ∃x hb',Out P ops h0 o t hb x hb'/\vLex P ops h0 K os (putV t o.dst x) hb'
def lexOK (ops:Array Oper)(m:Nat):Nat->Nat->Array Bool->Bool
 |0,_,listed=>(Region.ready .any ops listed).all fun j=>decide (m<=j)
 |n+1,k,listed=>(Region.ready .any ops listed).contains k&&decide (k < m)&&Region.free .any ops listed k&&lexOK ops m n (k+1) (listed.setIfInBounds k true)
def vAny_lex {m:Nat}{K:List V->List Box->Prop}(hsuf:sufOK ops m=true): ∀(l:List Oper) (k:Nat) (listed:Array Bool) (t:List V) (hb:List Box),ClosedL ops listed->(∀j,j < l.length->l[j]? =ops[k+j]?)->
  lexOK ops m l.length k listed=true->vLex P ops h0 K l t hb->vAny P ops h0 m K l.length listed t hb
 | [],_,_,_,_,_,_,hB,h=>⟨by simpa[lexOK]using hB,h⟩
 |o::l,k,listed,t,hb,hcl,hl,hB,⟨x,hb',ho,h⟩=>by
  have h0:ops[k]? =some o:=by simpa using(hl 0 (by simp)).symm
  simp only[List.length_cons,lexOK,Bool.and_eq_true,decide_eq_true_eq]at hB;obtain⟨⟨⟨hr,hkm⟩,hf⟩,hB'⟩:=hB;exact vAny_first hsuf h0 hkm l.length listed t hb hb' hcl (Region.free_spec h0 hf) (by simpa using hr) ho
   (vAny_lex hsuf l (k+1) _ _ _ (hcl.step (by simpa using hr)) (fun j hj=>by have:=hl (j+1) (by simpa using hj);simpa[Nat.add_assoc,Nat.add_comm 1 j]using this) hB' h)
def listedTo (n m:Nat):Array Bool:=((List.range n).map fun i=>decide (i < m)).toArray
def backOK (ops:Array Oper)(m:Nat):Bool:=decide (m<=ops.size)&&(List.range m).all fun i=>match ops[i]? with
 |some o=>o.after.all fun e=> !Region.binds .any e || decide (e.on < i)
 |none=>false
def back_ready {m:Nat}(hb:backOK ops m=true){listed:Array Bool}(hsz:listed.size=ops.size)(hno: ∀j∈Region.ready .any ops listed,m<=j): ∀i,i < m->listed.getD i false=true:=by
 simp only[backOK,Bool.and_eq_true,decide_eq_true_eq]at hb;intro i
 induction i using Nat.strongRecOn with
 |_ i ih=>
  intro him;have hi:i < listed.size:=by omega
  cases hc:listed.getD i false with
  |true=>rfl
  |false=>
   exfalso;have hlt:i < ops.size:=by omega
   have hoi:ops[i]? =some ops[i]:=Array.getElem?_eq_getElem hlt;have h1:=List.all_eq_true.1 hb.2 i (List.mem_range.2 him);simp only[hoi]at h1;have:i∈Region.ready .any ops listed:=mem_ready.2 ⟨by simp[hi]at hc ⊢;exact hc,_,hoi,fun e he hbd=>by
    have:=Array.all_eq_true_iff_forall_mem.1 h1 e he;simp only[hbd,Bool.not_true,Bool.false_or,decide_eq_true_eq]at this;exact ih e.on this (by omega)⟩
   have:=hno i this;omega
def vAny_sound {ro:Option Nat}{E:Ent}{m:Nat}{K:List V->List Box->Prop}{Q:Exit->Act->World->Prop}(hnd: ∀(i:Nat) o,ops[i]? =some o->noDef o=true)(hback:backOK ops m=true){rest:Nat}
  (hK: ∀t hb a w,K t hb->SimE E ⟨t,h0++hb⟩ a w->wpAnyIn (Fw ro) 0 P .any ops Q rest (listedTo ops.size m) a w):
  ∀(fuel:Nat) (listed:Array Bool) (t:List V) (hb:List Box) (a:Act) (w:World),vAny P ops h0 m K fuel listed t hb->listed.size=ops.size->(∀k,m<=k->listed.getD k false=false)->
   SimE E ⟨t,h0++hb⟩ a w->wpAnyIn (Fw ro) 0 P .any ops Q (rest+fuel) listed a w
 |0,listed,t,hb,a,w,⟨hno,hk⟩,hsz,hun,hs=>by
  have hl:listed=listedTo ops.size m:=by
   apply Array.ext
   ·simp[listedTo,hsz]
   ·intro i h1 h2;have e:listed.getD i false=listed[i]:=by simp[h1]
    rcases Nat.lt_or_ge i m with hi|hi
    ·have:=back_ready hback hsz hno i hi;rw[e]at this;rw[this];simp[listedTo,hi]
    ·have:=hun i hi;rw[e]at this;rw[this];simp[listedTo];omega
  rw[hl];exact hK t hb a w hk hs
 |fuel+1,listed,t,hb,a,w,⟨hne,hall⟩,hsz,hun,hs=>by
  refine⟨fun h=>(hne h).elim,fun i hi=> ?_⟩
  obtain⟨him,o,x,hb',ho,hout,hrest⟩:=hall i hi;unfold wpOpIn;simp only[ho];have h1:=hout.wp (Q:=Q) hs (K:=wpAnyIn (Fw ro) 0 P .any ops Q (rest+fuel) (listed.setIfInBounds i true)) fun a' w' hs'=>
   vAny_sound hnd hback hK fuel _ _ _ a' w' hrest (by simpa using hsz) (fun k hk=>by
    rw[getD_set_ne false (by omega)];exact hun k hk) hs'
  split
  ·rename_i hw;rw[if_pos hw]at h1;exact wpIn_of_wp (hnd i o ho) h1
  ·rename_i hw;rw[if_neg hw]at h1;exact⟨fun _ _=>trivial,h1⟩
def seqOK (ops:Array Oper):Nat->Nat->Array Bool->Bool
 |0,_,listed=>(Region.ready .any ops listed).isEmpty
 |n+1,k,listed=>(Region.ready .any ops listed == [k])&&seqOK ops n (k+1) (listed.setIfInBounds k true)
def seq_any {ro:Option Nat}{Q:Exit->Act->World->Prop}: ∀(l:List Oper) (k:Nat) (listed:Array Bool) (a:Act) (w:World),(∀j,l[j]? =ops[k+j]?)->seqOK ops l.length k listed=true->
  wpListIn (Fw ro) 0 P ops Q l a w->wpAnyIn (Fw ro) 0 P .any ops Q l.length listed a w
 | [],k,listed,a,w,_,hB,h=>⟨by simpa[seqOK]using hB,h⟩
 |o::l,k,listed,a,w,hl,hB,h=>by
  have h0:ops[k]? =some o:=by simpa using(hl 0).symm
  simp only[List.length_cons,seqOK,Bool.and_eq_true,beq_iff_eq]at hB;obtain⟨hr,hB'⟩:=hB;have ih:=fun a w=>seq_any (ro:=ro) (Q:=Q) l (k+1) (listed.setIfInBounds k true) a w (fun j=>by have:=hl (j+1);simpa[Nat.add_assoc,Nat.add_comm 1 j]using this) hB'
  refine⟨fun h=>(by rw[hr]at h;cases h),fun i hi=> ?_⟩
  rw[hr,List.mem_singleton]at hi;subst hi;unfold wpOpIn;simp only[h0];unfold wpListIn at h;split
  ·rename_i hw;rw[if_pos hw]at h;exact Oper.wpIn_mono ih h
  ·rename_i hw;rw[if_neg hw]at h;exact⟨h.1,ih _ _ h.2⟩
def calm (o:Oper):Bool:=match o.op with
 | .store .. | .mapUpdate .. | .insert .. | .makeMap .. | .makeSlice .. | .box .. | .panic .. =>false
 | .call ⟨.builtin .append,_,_⟩| .call ⟨.builtin .copy,_,_⟩| .call ⟨.builtin .delete,_,_⟩=>false
 |_=>true
def set_self {α:Type}{l:List α}{k:Nat}{v:α}(hv:l[k]? =some v):l.set k v=l:=by
 apply List.ext_getElem?;intro i;rw[List.getElem?_set]
 by_cases hi:k=i
 ·subst hi;rw[if_pos rfl,if_pos (List.getElem?_eq_some_iff.1 hv).1,hv]
 ·rw[if_neg hi]
def SimE.drew {E:Ent}{s:VSt}{a:Act}{w:World}(hs:SimE E s a w):SimE E s a w.drew:=by
 obtain⟨g,hs⟩:=hs;have ho:Over [] w g w.drew g:=⟨Gh.Le.refl _ _,fun _ _ _=>rfl⟩
 have hk:Keep [] g s.h w g s.h w.drew:=⟨⟨hs.heap.n,fun b x hx=>by
  have:=BoxRep.over ho (by rw[hs.heap.n];exact(List.getElem?_eq_some_iff.1 hx).1) (by simp) (fun k _=>rfl) (hs.heap.rep b x hx)
  rwa [Box.kill_nil]at this,hs.heap.sep,hs.heap.zsep,hs.heap.zlt,hs.heap.tab⟩,Gh.Le.refl _ _,Fr.drew _ _,fun _ _ h=> .inl h,fun _ h=> .inl h⟩
 exact⟨g,hk.heap,hs.size,fun i u v h1 h2=>ho.repC_nil (hs.tmps i u v h1 h2),hs.defers.keep hk,hs.step hk (by simp[okM]),hs.len⟩
end
section
variable {P : Program} {M : List Nat} {h h' h2 h0 hh : List Box} {O ρ2 : Operand -> V} {o : Oper} {x : V} {ops : Array Oper} {W : List Nat}
def isSt (o:Oper):Bool:=match o.op with
 | .store .. =>true
 |_=>false
def early (ops:Array Oper)(i:Nat):Bool:=(List.range ops.size).all fun j=>match ops[j]? with
 |some oj=> !isSt oj || edgeOn oj i
 |none=>true
def stOK (ops:Array Oper):Bool:=(List.range ops.size).all fun j=>match ops[j]? with
 |some oj=> !isSt oj || (List.range j).all fun i=>match ops[i]? with
  |some oi=> !isSt oi || edgeOn oj i
  |none=>true
 |none=>true
def PreW (W:List Nat)(h0 h2:List Box):Prop:= ∀(b:Nat) x,b ∉ W->h0[b]? =some x->h2[b]? =some x
def hideB (h:List Box):List Nat->List Box
 | []=>h
 |b::bs=>hideB (h.set b .gone) bs
def hideB_at: ∀ {W:List Nat} {h:List Box} {b:Nat} {x:Box},(hideB h W)[b]? =some x->x= .gone\/(b ∉ W/\h[b]? =some x)
 | [],h,b,x,hx=> .inr ⟨by simp,hx⟩
 |c::W,h,b,x,hx=>by
  rcases hideB_at (W:=W) hx with h1|⟨h1,h2⟩
  ·exact .inl h1
  ·rw[List.getElem?_set]at h2
   by_cases hc:c=b
   ·subst hc;rw[if_pos rfl]at h2;split at h2
    ·cases h2;exact .inl rfl
    ·cases h2
   ·rw[if_neg hc]at h2;exact .inr ⟨by simp;exact⟨fun e=>hc e.symm,h1⟩,h2⟩
def PreW.pre (hp:PreW W h0 h2):Pre (hideB h0 W) h2:=fun b x hx=>by
 rcases hideB_at hx with h1|⟨h1,h3⟩
 ·exact .inl h1
 ·exact .inr (hp b x h1 h3)
inductive Eff where
 |no
 |late
 |early
 |alloc (b:Box)
 |st (b:Nat) (c c':Box)
def Eff.ok (W:List Nat)(h0 hh:List Box):Eff->Prop
 | .no=>True
 | .late=>PreW W h0 hh
 | .early=>Pre h0 hh
 | .alloc _=>hh.length=h0.length
 | .st b c _=>hh[b]? =some c/\PreW W h0 hh/\b∈W/\b < h0.length
def Eff.run (hh:List Box):Eff->List Box
 | .alloc b=>hh++[b]
 | .st b _ c'=>hh.set b c'
 |_=>hh
def Fact (P:Program)(ops:Array Oper)(W:List Nat)(h0:List Box)(i:Nat)(o:Oper)(t:List V)(x:V):Eff->Prop
 | .no=>wantV ops o t=some false/\x= .tup []
 | .late=>wantV ops o t=some true/\ ∀h2,PreW W h0 h2->Gives P [] h2 h2 (restr o (VSt.get ⟨t,h0⟩)) o x
 | .early=>wantV ops o t=some true/\early ops i=true/\ ∀h2,Pre h0 h2->Gives P [] h2 h2 (restr o (VSt.get ⟨t,h0⟩)) o x
 | .alloc b=>wantV ops o t=some true/\x= .ptr h0.length 0/\allocV P o=some b
 | .st b c c'=>wantV ops o t=some true/\isSt o=true/\ ∀h2,PreW W h0 h2->h2[b]? =some c->Gives P [] h2 (h2.set b c') (restr o (VSt.get ⟨t,h0⟩)) o x
def Fact.put {i:Nat}{t:List V}{d:Option Tmp}{y:V}(hd: ∀k,d=some k->k ∉ o.looksAt ops)(e:Eff):Fact P ops W h0 i o (putV t d y) x e↔Fact P ops W h0 i o t x e:=by
 cases e<;>simp only[Fact,wantV_put hd,restr_put hd]
def preW_app (hl:hh.length=h0.length)(b:Box):PreW W h0 (hh++[b])↔PreW W h0 hh:=by
 constructor<;>intro hp c x hc hx<;>have hlt:=(List.getElem?_eq_some_iff.1 hx).1<;>have:=hp c x hc hx
 ·rwa [List.getElem?_append,if_pos (by omega)]at this
 ·rw[List.getElem?_append,if_pos (by omega)];exact this
def pre_app (hl:hh.length=h0.length)(b:Box):Pre h0 (hh++[b])↔Pre h0 hh:=by
 constructor<;>intro hp c x hx<;>have hlt:=(List.getElem?_eq_some_iff.1 hx).1<;>rcases hp c x hx with h1|h1
 ·exact .inl h1
 ·rw[List.getElem?_append,if_pos (by omega)]at h1;exact .inr h1
 ·exact .inl h1
 ·refine .inr ?_;rw[List.getElem?_append,if_pos (by omega)];exact h1
def preW_set {b:Nat}(hb:b∈W)(c:Box):PreW W h0 (hh.set b c)↔PreW W h0 hh:=by
 constructor<;>intro hp k x hk hx<;>have hne:b≠k:=(fun e=>hk (e▸hb))<;>have:=hp k x hk hx
 ·rwa [List.getElem?_set,if_neg hne]at this
 ·rw[List.getElem?_set,if_neg hne];exact this
def Eff.isSt:Eff->Bool
 | .st .. =>true
 |_=>false
def Eff.isEarly:Eff->Bool
 | .early=>true
 |_=>false
def Eff.swap {e1 e2:Eff}(h1:e1.ok W h0 hh)(h2:e2.ok W h0 (e1.run hh))(hss:e1.isSt=true->e2.isSt=true->False)(hse:e1.isSt=true->e2.isEarly=true->False)(hes:e1.isEarly=true->e2.isSt=true->False):
  e2.ok W h0 hh/\e1.ok W h0 (e2.run hh)/\e1.run (e2.run hh)=e2.run (e1.run hh):=by
 cases e1 with
 |no=>exact⟨h2,trivial,rfl⟩
 |late=>
  cases e2 with
  |no=>exact⟨h2,h1,rfl⟩
  |late=>exact⟨h2,h1,rfl⟩
  |early=>exact⟨h2,h1,rfl⟩
  |alloc b=>exact⟨h2,(preW_app h2 b).2 h1,rfl⟩
  |st b c c'=>exact⟨h2,(preW_set h2.2.2.1 c').2 h1,rfl⟩
 |early=>
  cases e2 with
  |no=>exact⟨h2,h1,rfl⟩
  |late=>exact⟨h2,h1,rfl⟩
  |early=>exact⟨h2,h1,rfl⟩
  |alloc b=>exact⟨h2,(pre_app h2 b).2 h1,rfl⟩
  |st b c c'=>exact(hes rfl rfl).elim
 |alloc b=>
  have h1:hh.length=h0.length:=h1;cases e2 with
  |no=>exact⟨trivial,h1,rfl⟩
  |late=>exact⟨(preW_app h1 b).1 h2,h1,rfl⟩
  |early=>exact⟨(pre_app h1 b).1 h2,h1,rfl⟩
  |alloc b'=>
   have h2:(hh++[b]).length=h0.length:=h2;simp at h2;omega
  |st k c c'=>
   obtain⟨q1,q2,q3,q4⟩:=h2;have hk:k < hh.length:=by omega
   refine⟨⟨?_,(preW_app h1 b).1 q2,q3,q4⟩,?_,?_⟩
   ·have q1:(hh++[b])[k]? =some c:=q1
    rwa [List.getElem?_append,if_pos hk]at q1
   ·show(hh.set k c').length=h0.length;simpa using h1
   ·show hh.set k c'++[b]=(hh++[b]).set k c';rw[List.set_append_left _ _ hk]
 |st k c c'=>
  obtain⟨q1,q2,q3,q4⟩:=h1;cases e2 with
  |no=>exact⟨trivial,⟨q1,q2,q3,q4⟩,rfl⟩
  |late=>exact⟨q2,⟨q1,q2,q3,q4⟩,rfl⟩
  |early=>exact(hse rfl rfl).elim
  |alloc b'=>
   have h2:(hh.set k c').length=h0.length:=h2;have h2:hh.length=h0.length:=by simpa using h2
   have hk:k < hh.length:=by omega
   refine⟨h2,⟨?_,(preW_app h2 b').2 q2,q3,q4⟩,?_⟩
   ·show(hh++[b'])[k]? =some c;rw[List.getElem?_append,if_pos hk];exact q1
   ·show(hh++[b']).set k c'=hh.set k c'++[b'];rw[List.set_append_left _ _ hk]
  |st=>exact(hss rfl rfl).elim
def Out2 (P:Program)(ops:Array Oper)(W:List Nat)(h0:List Box)(i:Nat)(o:Oper)(t:List V)(hh:List Box)(x:V)(hh':List Box):Prop:=
 ∃e,Fact P ops W h0 i o t x e/\Eff.ok W h0 hh e/\hh'=e.run hh
def fact_st {i:Nat}{t:List V}{e:Eff}(hf:Fact P ops W h0 i o t x e):(e.isSt=true->isSt o=true)/\(e.isEarly=true->early ops i=true):=by
 cases e with
 |st=>exact⟨fun _=>hf.2.1,fun h=>by simp[Eff.isEarly]at h⟩
 |early=>exact⟨fun h=>by simp[Eff.isSt]at h,fun _=>hf.2.1⟩
 |_=>exact⟨fun h=>by simp[Eff.isSt]at h,fun h=>by simp[Eff.isEarly]at h⟩
def Out2.put {i j:Nat}{oi oj:Oper}{t:List V}{hi' hj':List Box}{xi xj:V}(hap:oi.apart ops oj=true)(hss:isSt oi=true->isSt oj=true->False)(hse:isSt oi=true->early ops j=true->False)(hes:early ops i=true->isSt oj=true->False)
  (hi:Out2 P ops W h0 i oi t hh xi hi') (hj:Out2 P ops W h0 j oj (putV t oi.dst xi) hi' xj hj'):
  ∃hh1,Out2 P ops W h0 j oj t hh xj hh1/\Out2 P ops W h0 i oi (putV t oj.dst xj) hh1 xi hj'/\putV (putV t oj.dst xj) oi.dst xi=putV (putV t oi.dst xi) oj.dst xj:=by
 obtain⟨a1,a2,a3⟩:=Oper.apart_spec hap;obtain⟨e1,f1,k1,rfl⟩:=hi;obtain⟨e2,f2,k2,rfl⟩:=hj;rw[Fact.put a1]at f2;obtain⟨s1,s2⟩:=fact_st f1;obtain⟨s3,s4⟩:=fact_st f2;obtain⟨q1,q2,q3⟩:=Eff.swap k1 k2 (fun h1 h2=>hss (s1 h1) (s3 h2)) (fun h1 h2=>hse (s1 h1) (s4 h2)) (fun h1 h2=>hes (s2 h1) (s3 h2))
 exact⟨_,⟨e2,f2,q1,rfl⟩,⟨e1,(Fact.put a3 e1).2 f1,q2,q3.symm⟩,(putV_comm a2 t xi xj).symm⟩
def Out2.wp {E:Ent}{i:Nat}{t:List V}{hh':List Box}{a:Act}{w:World}(ho:Out2 P ops W h0 i o t hh x hh')(hs:SimE E ⟨t,hh⟩ a w){K:Act->World->Prop}{Q:Exit->Act->World->Prop}
  (hK: ∀a' w',SimE E ⟨putV t o.dst x,hh'⟩ a' w'->K a' w'):if Region.wanted o (yielded ops a.tmps)then o.wp P a w K Q else K (a.put o.dst undef) w:=by
 have hnext: ∀h' x,VSt.next ⟨t,hh⟩ [] h' o.dst x=⟨putV t o.dst x,h'⟩:=fun h' x=>by first|(simp only[VSt.next,putV];done)|(simp only[VSt.next,putV];cases o.dst<;>rfl)
 have go: ∀ {h'},Gives P [] hh h' (restr o (VSt.get ⟨t,h0⟩)) o x->hh'=h'->wantV ops o t=some true->if Region.wanted o (yielded ops a.tmps)then o.wp P a w K Q else K (a.put o.dst undef) w:=by
  intro h' hg he hw;subst he;rw[if_pos (wantV_sim hs hw)];rw[get_h t h0 hh]at hg;refine Gives.sim (s:=⟨t,hh⟩) hg.of_restr hs (by simp[okM]) fun a' w' hs'=>hK a' w' ?_
  rwa [hnext]at hs'
 obtain⟨e,hf,hok,he⟩:=ho;cases e with
 |no=>
  obtain⟨hw,rfl⟩:=hf;have he:hh'=hh:=he;subst he;rw[if_neg (by rw[wantV_sim hs hw];simp)]
  refine hK _ _ ?_;obtain⟨g,hs⟩:=hs;have:=hs.next (.refl hs.heap) (by simp[okM]) (.tup (w:=w) (g:=g) #[] [] rfl (by simp)) o.dst
  rw[hnext]at this;exact⟨g,this⟩
 |late=>exact go (hf.2 hh hok) he hf.1
 |early=>exact go (hf.2.2 hh hok) he hf.1
 |st b c c'=>exact go (hf.2.2 hh hok.2.1 hok.1) he hf.1
 |alloc b=>
  obtain⟨hw,rfl,hb⟩:=hf;have hl:hh.length=h0.length:=hok;have he:hh'=hh++[b]:=he;subst he;unfold allocV at hb;split at hb
  ·rename_i ty hop;split at hb
   ·rename_i z hz;split at hb
    ·rename_i vs hvs;cases hb;have hg:Gives P [] hh (hh++[.cells (.ty ty) vs]) (VSt.get ⟨t,hh⟩) o (.ptr hh.length 0):=gives_alloc hop hz hvs;rw[if_pos (wantV_sim hs hw)];refine Gives.sim (s:=⟨t,hh⟩) hg hs (by simp[okM]) fun a' w' hs'=>hK a' w' ?_
     rw[hnext,hl]at hs';exact hs'
    ·cases hb
   ·cases hb
  ·cases hb
def vAny2 (P:Program)(ops:Array Oper)(W:List Nat)(h0:List Box)(K:List V->List Box->Prop):Nat->Array Bool->List V->List Box->Prop
 |0,listed,t,hh=>Region.ready .any ops listed= []/\K t hh
 |fuel+1,listed,t,hh=>Region.ready .any ops listed≠[]/\ ∀i∈Region.ready .any ops listed,∃o x hh',ops[i]? =some o/\Out2 P ops W h0 i o t hh x hh'/\vAny2 P ops W h0 K fuel (listed.setIfInBounds i true) (putV t o.dst x) hh'
def early_spec {i j:Nat}{oj:Oper}(he:early ops i=true)(hj:ops[j]? =some oj)(hs:isSt oj=true):edgeOn oj i=true:=by
 have:=List.all_eq_true.1 he j (List.mem_range.2 (Array.getElem?_eq_some_iff.1 hj).1);rw[hj]at this
 simpa[hs]using this
def stOK_spec (h:stOK ops=true){i j:Nat}{oi oj:Oper}(hi:ops[i]? =some oi)(hj:ops[j]? =some oj)(hij:i < j)(s1:isSt oi=true)(s2:isSt oj=true):edgeOn oj i=true:=by
 have:=List.all_eq_true.1 h j (List.mem_range.2 (Array.getElem?_eq_some_iff.1 hj).1);rw[hj]at this;simp only[s2,Bool.not_true,Bool.false_or]at this;have:=List.all_eq_true.1 this i (List.mem_range.2 hij);rw[hi]at this
 simpa[s1]using this
def vAny2_first {K:List V->List Box->Prop}(hst:stOK ops=true){i:Nat}{oi:Oper}{xi:V}(hi:ops[i]? =some oi):
  ∀(fuel:Nat) (listed:Array Bool) (t:List V) (hh hhi:List Box),
   (∀j oj,ops[j]? =some oj->j≠i->listed.getD j true=false->(∀e∈oj.after,Region.binds .any e=true->e.on≠i)->oi.apart ops oj=true)->
   i∈Region.ready .any ops listed->Out2 P ops W h0 i oi t hh xi hhi->
   vAny2 P ops W h0 K fuel (listed.setIfInBounds i true) (putV t oi.dst xi) hhi->vAny2 P ops W h0 K (fuel+1) listed t hh:=by
 intro fuel
 induction fuel with
 |zero=>
  intro listed t hh hhi _ hr ho H;refine⟨fun h=>(by rw[h]at hr;cases hr),fun j hj=> ?_⟩
  by_cases hji:j=i
  ·subst hji;exact⟨oi,xi,hhi,hi,ho,H⟩
  ·have:=ready_mono hj hji;rw[H.1]at this;cases this
 |succ fuel ih=>
  intro listed t hh hhi hfree hr ho H;refine⟨fun h=>(by rw[h]at hr;cases hr),fun j hj=> ?_⟩
  by_cases hji:j=i
  ·subst hji;exact⟨oi,xi,hhi,hi,ho,H⟩
  ·obtain⟨oj,xj,hbj,hoj,hout,hrest⟩:=H.2 j (ready_mono hj hji);obtain⟨hjun,oj',hoj',hall⟩:=mem_ready.1 hj;rw[hoj]at hoj';cases hoj';obtain⟨hiun,oi',hoi',halli⟩:=mem_ready.1 hr;rw[hi]at hoi';cases hoi';have hnot: ∀e∈oj.after,Region.binds .any e=true->e.on≠i:=fun e he hb heq=>by
    have h1:=hall e he hb;rw[heq,not_listed hr]at h1;cases h1
   have hnoti: ∀e∈oi.after,Region.binds .any e=true->e.on≠j:=fun e he hb heq=>by
    have h1:=halli e he hb;rw[heq,not_listed hj]at h1;cases h1
   have no1:edgeOn oj i=true->False:=fun h=>by obtain⟨e,he,hb,ho⟩:=edgeOn_spec h;exact hnot e he hb ho
   have no2:edgeOn oi j=true->False:=fun h=>by obtain⟨e,he,hb,ho⟩:=edgeOn_spec h;exact hnoti e he hb ho
   obtain⟨hb1,o1,o2,e1⟩:=Out2.put (hfree j oj hoj hji hjun hnot)
    (fun s1 s2=>by
     rcases Nat.lt_or_gt_of_ne hji with hlt|hgt
     ·exact no2 (stOK_spec hst hoj hi hlt s2 s1)
     ·exact no1 (stOK_spec hst hi hoj hgt s1 s2))
    (fun s1 he=>no2 (early_spec he hi s1)) (fun he s2=>no1 (early_spec he hoj s2)) ho hout
   refine⟨oj,xj,hb1,hoj,o1,ih (listed.setIfInBounds j true) _ hb1 hbj (fun k ok hk hki hun hno=> ?_) (ready_mono hr (Ne.symm hji)) o2 ?_⟩
   ·refine hfree k ok hk hki ?_ hno
    by_cases hjk:j=k
    ·subst hjk;exact hjun
    ·rw[getD_set_ne true hjk]at hun;exact hun
   ·rw[Array.setIfInBounds_comm _ _ hji,e1];exact hrest
def vLex2 (P:Program)(ops:Array Oper)(W:List Nat)(h0:List Box)(K:List V->List Box->Prop):Nat->List Oper->List V->List Box->Prop
 |_,[],t,hh=>K t hh
 |k,o::os,t,hh=> ∃x hh',Out2 P ops W h0 k o t hh x hh'/\vLex2 P ops W h0 K (k+1) os (putV t o.dst x) hh'
def lexOK2 (ops:Array Oper):Nat->Nat->Array Bool->Bool
 |0,_,listed=>(Region.ready .any ops listed).isEmpty
 |n+1,k,listed=>(Region.ready .any ops listed).contains k&&Region.free .any ops listed k&&lexOK2 ops n (k+1) (listed.setIfInBounds k true)
def vAny2_lex {K:List V->List Box->Prop}(hst:stOK ops=true): ∀(l:List Oper) (k:Nat) (listed:Array Bool) (t:List V) (hh:List Box),(∀j,l[j]? =ops[k+j]?)->
  lexOK2 ops l.length k listed=true->vLex2 P ops W h0 K k l t hh->vAny2 P ops W h0 K l.length listed t hh
 | [],_,_,_,_,_,hB,h=>⟨by simpa[lexOK2]using hB,h⟩
 |o::l,k,listed,t,hh,hl,hB,⟨x,hh',ho,h⟩=>by
  have h0:ops[k]? =some o:=by simpa using(hl 0).symm
  simp only[List.length_cons,lexOK2,Bool.and_eq_true]at hB;obtain⟨⟨hr,hf⟩,hB'⟩:=hB;exact vAny2_first hst h0 l.length listed t hh hh' (Region.free_spec h0 hf) (by simpa using hr) ho
   (vAny2_lex hst l (k+1) _ _ _ (fun j=>by have:=hl (j+1);simpa[Nat.add_assoc,Nat.add_comm 1 j]using this) hB' h)
def vAny2_sound {ro:Option Nat}{E:Ent}{K:List V->List Box->Prop}{Q:Exit->Act->World->Prop}(hnd: ∀(i:Nat) o,ops[i]? =some o->noDef o=true)(hK: ∀t hh a w,K t hh->SimE E ⟨t,hh⟩ a w->Q .normal a w):
  ∀(fuel:Nat) (listed:Array Bool) (t:List V) (hh:List Box) (a:Act) (w:World),vAny2 P ops W h0 K fuel listed t hh->SimE E ⟨t,hh⟩ a w->wpAnyIn (Fw ro) 0 P .any ops Q fuel listed a w
 |0,listed,t,hh,a,w,⟨hno,hk⟩,hs=>⟨hno,hK t hh a w hk hs⟩
 |fuel+1,listed,t,hh,a,w,⟨hne,hall⟩,hs=>by
  refine⟨fun h=>(hne h).elim,fun i hi=> ?_⟩
  obtain⟨o,x,hh',ho,hout,hrest⟩:=hall i hi;unfold wpOpIn;simp only[ho];have h1:=hout.wp (Q:=Q) hs (K:=wpAnyIn (Fw ro) 0 P .any ops Q fuel (listed.setIfInBounds i true)) fun a' w' hs'=>
   vAny2_sound hnd hK fuel _ _ _ a' w' hrest hs'
  split
  ·rename_i hw;rw[if_pos hw]at h1;exact wpIn_of_wp (hnd i o ho) h1
  ·rename_i hw;rw[if_neg hw]at h1;exact⟨fun _ _=>trivial,h1⟩
def addrV (P:Program)(ops:Array Oper)(s:VSt):Nat->Operand->Option V
 |0,_=>none
 |n+1,y=>match y with
  | .tmp a=>match ops.toList.find? fun o=>o.dst == some a with
    |none=>some (s.t.getD a .any)
    |some o=>match o.op with
     | .move z=>addrV P ops s n z
     | .assign z=>addrV P ops s n z
     | .nilCheck z=>addrV P ops s n z
     | .fieldAddr st z f=>match addrV P ops s n z,fldO P st f with
       |some v,some k=>addF v k
       |_,_=>none
     | .load _ z=>match addrV P ops s n z with
       |some (.ptr b off)=>match s.h[b]? with
        |some (.cells (.ty _) vs)=>vs[off]?
        |_=>none
       |_=>none
     | .indexAddr _ z _=>match addrV P ops s n z with
       |some (.own b)=>some (.pml b 0 0 0)
       |_=>none
     |_=>none
  |_=>none
def stBox (P:Program)(ops:Array Oper)(s:VSt)(o:Oper):List Nat:=match o.op with
 | .store _ y _=>match addrV P ops s 12 y with
   |some (.ptr b _)=>[b]
   |some (.pml b _ _ _)=>[b]
   |_=>[]
 | .mapUpdate _ y _ _=>match addrV P ops s 12 y with
   |some (.map b)=>[b]
   |_=>[]
 |_=>[]
def oneB_pre {v:V}(hp:Pre h h2)(hn:v.oneB h=true):v.oneB h2=true:=by
 unfold V.oneB at hn ⊢;split<;>simp_all
 all_goals
  split at hn
  ·rename_i heq;rw[hp.at heq nofun]
  ·cases hn
def drawOK2 (ops:Array Oper):Bool:=stOK ops&&lexOK2 ops ops.size 0 (Array.replicate ops.size false)
end
section
variable {P : Program} {M : List Nat} {h h' h2 h0 : List Box} {O ρ2 : Operand -> V} {o : Oper} {x : V} {ops : Array Oper}
def leadKey:Code->Nat
 | .region id _ _=>3*id+1
 | .cond (.tmp t) _ _=>3*t+2
 | .block id _=>3*id+3
 | .seq a _=>leadKey a
 |_=>0
def VSt.setC (s:VSt)(c:Operand)(b:Bool):VSt:=match c with
 | .tmp k=>s.setT k b
 |_=>s
def setC_sim {E:Ent}{s:VSt}{a:Act}{w:World}{c:Operand}{b:Bool}(hs:SimE E s a w)(ht:s.get c= .d (.bool b)):SimE E (s.setC c b) a w:=by
 cases c with
 |tmp k=>
  refine(setT_sim hs (t:=k) (c:=b) ?_).1;have ht:s.t.getD k .any= .d (.bool b):=ht;rw[List.getD_eq_getElem?_getD]at ht;cases hq:s.t[k]? with
  |none=>rw[hq]at ht;cases ht
  |some v=>rw[hq]at ht;exact congrArg some ht
 |_=>exact hs
def SimE.len {E:Ent}{s:VSt}{a:Act}{w:World}(hs:SimE E s a w):s.t.length=E.len:=by obtain⟨g,hs⟩:=hs;exact hs.len
def resOne (P:Program)(s:VSt):ResultVar->Option V
 | .tmp t=>some (s.t.getD t .any)
 | .cell a t=>match s.t.getD a .any,szO P t,(P.underlying t).isSome,aggB P t with
   | .ptr b off,some n,true,ag=>match s.h[b]? with
     |some (.cells (.ty _) vs)=>match ag with
      |true=>match decide (off+n<=vs.length)with
       |true=>some (.agg ((vs.drop off).take n))
       |false=>none
      |false=>vs[off]?
     |_=>none
   |_,_,_,_=>none
def resList (P:Program)(s:VSt):List ResultVar->Option (List V)
 | []=>some []
 |r::rs=>match resOne P s r,resList P s rs with
  |some v,some vs=>some (v::vs)
  |_,_=>none
def resV (P:Program)(s:VSt)(rs:List ResultVar):Option V:=match resList P s rs with
 |some [v]=>some v
 |some vs=>some (.tup vs)
 |none=>none
def runOne (r:ResultVar)(tmps:Array Value):Sem Value:=match r with
 | .tmp t=>pure (tmps.getD t undef)
 | .cell a t=>do loadVar t (<-asAddr (tmps.getD a undef))
def resOne_run {E:Ent}{s:VSt}{a:Act}{w:World}{g:Gh}(hs:Sim E s a w g){r:ResultVar}{v:V}(hr:resOne P s r=some v): ∃u,(runOne r a.tmps).run P w= .ok u w/\Rep w g u v:=by
 cases r with
 |tmp t=>simp only[resOne,Option.some.injEq]at hr;subst hr;exact⟨_,rfl,hs.get (.tmp t)⟩
 |cell q t=>
  simp only[resOne]at hr;split at hr
  ·rename_i b off n hq hn hu;have hG:=hs.get (.tmp q);rw[show s.get (.tmp q)=_ from hq]at hG;obtain⟨e,hbn⟩:=rep_ptr_inv hG;have e:a.tmps.getD q undef= .pointer (some ⟨g.blk b,off,none⟩):=e;split at hr
   ·rename_i bt vs hb;obtain⟨us,hh,hsz,hr'⟩:=boxRep_cells (hs.heap.rep b _ hb);split at hr
    ·have ha:= ‹aggB P t=true›;split at hr
     ·rename_i hle;have hle:=of_decide_eq_true hle;cases hr;have hl:=run_loadCells (P:=P) w ⟨g.blk b,off,none⟩ n (fun j=>us[off+j]?.getD undef) (fun j hj=>by
       rw[add_lit',cell_of_heap hh];simp[show off+j < us.size by omega])
      refine⟨.agg ((List.range n).map fun j=>us[off+j]?.getD undef).toArray,?_, .agg _ _ ?_ ?_⟩
      ·simp only[runOne,e,asAddr,loadVar,Sem.run_bind,run_isAgg_of hu ha,Sem.run_pure,Result.andThen_ok,if_true,run_sizeOf_of hn,hl]
      ·simp;omega
      ·intro i u c hu' hc;rw[List.getElem?_take,List.getElem?_drop]at hc;split at hc
       ·rename_i hi;have e1:u=us[off+i]?.getD undef:=by simp[hi]at hu';exact hu'.symm
        have hlt:off+i < us.size:=by
         have:=(List.getElem?_eq_some_iff.1 hc).1;omega
        refine hr' (off+i) u c ?_ hc;rw[e1];simp[hlt]
       ·cases hc
     ·cases hr
    ·have ha:= ‹aggB P t=false›;have hlt:off < us.size:=by rw[hsz];exact(List.getElem?_eq_some_iff.1 hr).1
     have hu':us[off]? =some us[off]:=Array.getElem?_eq_getElem hlt;refine⟨us[off],?_,hr' off _ _ hu' hr⟩;simp[runOne,e,asAddr,loadVar,run_isAgg_of hu ha,run_load,cell_of_heap hh,hu']
   ·cases hr
  ·cases hr
def resList_run {E:Ent}{s:VSt}{a:Act}{w:World}{g:Gh}(hs:Sim E s a w g): ∀ {rs:List ResultVar} {vs:List V},resList P s rs=some vs->
  ∃us:List Value,(rs.mapM fun r=>runOne r a.tmps).run P w= .ok us w/\Reps w g us vs
 | [],vs,hr=>by cases hr;exact⟨[],by simp,rfl,by simp⟩
 |r::rs,vs,hr=>by
  simp only[resList]at hr;split at hr
  ·rename_i v vs' h1 h2;cases hr;obtain⟨u,e1,r1⟩:=resOne_run hs h1;obtain⟨us,e2,r2,r3⟩:=resList_run hs h2;refine⟨u::us,by simp[List.mapM_cons,e1,e2],by simp[r2],fun i u' v' hu hv=> ?_⟩
   cases i with
   |zero=>simp at hu hv;subst hu;subst hv;exact r1
   |succ i=>exact r3 i u' v' (by simpa using hu) (by simpa using hv)
  ·cases hr
def resV_run {E:Ent}{s:VSt}{a:Act}{w:World}{g:Gh}(hs:Sim E s a w g){fn:Func}{v:V}(hr:resV P s fn.results.toList=some v):
  ∃u,(results fn a.tmps).run P w= .ok u w/\Rep w g u v:=by
 have key: ∀ {vs:List V},resList P s fn.results.toList=some vs-> ∃us:List Value,(results fn a.tmps).run P w= .ok (if h:us.toArray.size=1 then us.toArray[0]else .tuple us.toArray) w/\Reps w g us vs:=by
  intro vs hvs;obtain⟨us,e,hus⟩:=resList_run hs hvs;refine⟨us,?_,hus⟩;have:(fn.results.mapM fun r=>runOne r a.tmps).run P w= .ok us.toArray w:=by
   rw[Array.mapM_eq_mapM_toList];simp[e]
  unfold results;simp only[Sem.run_bind];exact(congrArg (fun r=>r.andThen fun (a:Array Value) w'=>Sem.run P (pure (if h:a.size=1 then a[0]else Value.tuple a)) w') this).trans rfl
 unfold resV at hr;split at hr
 ·rename_i v' hvs;cases hr;obtain⟨us,e,h1,h2⟩:=key hvs
  match us,h1,h2,e with
  | [u],_,h2,e=>exact⟨u,e,h2 0 u v rfl rfl⟩
 ·rename_i vs hne hvs;cases hr;obtain⟨us,e,h1,h2⟩:=key hvs;have hn1:us.toArray.size≠1:=by
   intro hc;have:vs.length=1:=by rw[<-h1];simpa using hc
   match vs,this with
   | [v],_=>exact hne v rfl
  rw[dif_neg hn1]at e;exact⟨_,e, .tup us.toArray vs (by simpa using h1) fun i u c hu hc=>h2 i u c (by simpa using hu) hc⟩
 ·cases hr
def V.ownsT:V->List Nat
 | .tup cs=>cs.flatMap V.owns
 |v=>v.owns
def entryS (fn:Func)(args:List V)(h:List Box):VSt:= { t:=args++List.replicate (fn.ntmps - args.length) .any,h:=h }
def entry_simG {fn:Func}{args:List V}{g:Gh}{w:World}{us:List Value}(M:List Nat)(nr:Bool:=false)(hs:SimH g h w)(hu:Reps w g us args):
  Sim ⟨w,g,h,M,(entryS fn args h).t.length,[],nr⟩ (entryS fn args h) { tmps:=us.toArray++Array.replicate (fn.ntmps - us.toArray.size) undef,defers:=[] } w g:=by
 have hl:us.toArray.size=args.length:=by simpa using hu.1
 refine⟨hs,by simp[entryS,hu.1],fun i u v h1 h2=> ?_, .none,⟨Gh.Le.refl _ _,Fr.refl _ _,fun _ _ h=> .inl h,fun _ h=> .inl h⟩,rfl⟩
 simp only[entryS,List.getElem?_append]at h2;rw[Array.getElem?_append,hl]at h1;split at h2
 ·rename_i hi;rw[if_pos hi]at h1;exact hu.2 i u v (by simpa using h1) h2
 ·have:=List.eq_of_mem_replicate (List.mem_of_getElem? h2);subst this;exact .any u
def entry_sim {fn:Func}{args:List V}{g:Gh}{w:World}{us:List Value}(M:List Nat)(nr:Bool:=false)(hs:SimH g h w)(hu:Reps w g us args):
  SimE ⟨w,g,h,M,(entryS fn args h).t.length,[],nr⟩ (entryS fn args h) { tmps:=us.toArray++Array.replicate (fn.ntmps - us.toArray.size) undef,defers:=[] } w:=⟨g,entry_simG M (nr:=nr) (hs:=hs) (hu:=hu)⟩
end
section
variable {P : Program} {M : List Nat} {h h' : List Box} {O : Operand -> V} {o : Oper} {x : V}
def gives_range {t:TypeId}{y:Operand}{s:BA}(hop:o.op= .range t y)(hu:P.underlying t=some .string)(hy1:O y= .d (.str s)):
  Gives P [] h (h++[.cells .sit [.d (.str s), .d (.int .i64 0)]]) O o (.ptr h.length 0):=
 .of_run fun g O' w hs hy=>by
  have e1:=rep_str_inv (hy1▸hy y);have hb:(g.push w.heap.size undef).blk g.n=w.heap.size:=by simp[Gh.push]
  have hfr:Fr (fun _=>False) w (w.alloc (.stringIter s 0)):=Fr.alloc _ _ _
  have hk:=Keep.push (R:=none) hs w.heap.size undef (.cells .sit [.d (.str s), .d (.int .i64 0)]) hfr
   ⟨#[.string s, .int .i64 (0:Nat)],_,by rw[hb];exact heap_alloc_at w _,⟨s,0,rfl,rfl⟩,rfl,fun i u v hu' hv=>by
     match i with
     |0=>simp at hu' hv;subst hu';subst hv;exact .d (.str _)
     |1=>simp at hu' hv;subst hu';subst hv;exact .d (.int _ _)
     |i+2=>simp at hv⟩ (fun k' hk'=>by simp only[Box.at?,hb,Option.some.injEq]at hk';omega)
  refine⟨.pointer (some ⟨w.heap.size,0,none⟩),_,_,?_,?_,hk⟩
  ·simp only[execOp,hop,Instr.range,e1,Sem.run_bind,run_underlying hu,Result.andThen_ok,Sem.run_pure,run_newObj,World.alloc_eq]
  ·have:=Rep.ptr (w:=w.alloc (.stringIter s 0)) (g:=g.push w.heap.size undef) g.n 0 (by simp[Gh.push])
   rwa [hb,hs.n]at this
def decR (s:BA)(p:Int):Int:=((Utf8.decode s p.toNat).1:Int)
def decW (s:BA)(p:Int):Int:=((Utf8.decode s p.toNat).2:Int)
def boxRep_sit {w:World}{g:Gh}{b:Nat}{s:BA}{p:Int}(hr:BoxRep w g b (.cells .sit [.d (.str s), .d (.int .i64 p)])):
  ∃n:Nat,p=n/\w.heap[g.blk b]? =some (.stringIter s n):=by
 obtain⟨us,o,h1,⟨s',n,rfl,rfl⟩,h3,h4⟩:=hr;have e0:=rep_str_inv (h4 0 _ _ rfl rfl);have e1:=rep_int_inv (h4 1 _ _ rfl rfl);cases e0;injection e1 with _ e1
 exact⟨n,e1.symm,h1⟩
def gives_next_more {i:Operand}{b:Nat}{s:BA}{p:Int}(hop:o.op= .next i true)(hy1:O i= .ptr b 0)(hb:h[b]? =some (.cells .sit [.d (.str s), .d (.int .i64 p)]))(hp:p < s.size):
  Gives P [] h (h.set b (.cells .sit [.d (.str s), .d (.int .i64 (p+decW s p))])) O o (.tup [.d (.bool true), .d (.int .i64 p), .d (.int .i32 (decR s p))]):=
 .of_run fun g O' w hs hy=>by
  obtain⟨e1,hbn⟩:=rep_ptr_inv (hy1▸hy i);obtain⟨n,rfl,hn⟩:=boxRep_sit (hs.rep b _ hb);have hlt:n < s.size:=by omega
  have hget:(getObj (g.blk b)).run P w= .ok (.stringIter s n) w:=by simp[getObj,Sem.run,hn]
  have hset:(setObj (g.blk b) (.stringIter s (n+(Utf8.decode s n).2))).run P w= .ok () { w with heap:=w.heap.setIfInBounds (g.blk b) (.stringIter s (n+(Utf8.decode s n).2)) }:=by simp[setObj,Sem.run,hn]
  generalize hw':({ w with heap:=w.heap.setIfInBounds (g.blk b) (.stringIter s (n+(Utf8.decode s n).2)) }:World)=w' at hset
  have hheap:w'.heap[g.blk b]? =some (.stringIter s (n+(Utf8.decode s n).2)):=by
   rw[<-hw'];have:=(Array.getElem?_eq_some_iff.1 hn).1;simp[this]
  have hfr:Fr (fun k=>(Box.cells CK.sit [.d (.str s), .d (.int .i64 n)]).at? g b=some k) w w':=by
   rw[<-hw'];refine⟨rfl,rfl,rfl,by simp,fun k hk hnk=> ?_⟩
   have:g.blk b≠k:=fun e=>hnk (by simp only[Box.at?,e])
   simp[Array.getElem?_setIfInBounds_ne this]
  have hk:=Keep.turn (g':=g) (y:= .cells .sit [.d (.str s), .d (.int .i64 (n+decW s n))]) hs hb [] (.inl ⟨rfl,rfl⟩) rfl rfl rfl (fun _ _=>⟨rfl,rfl⟩) hfr
   ⟨#[.string s, .int .i64 ((n+(Utf8.decode s n).2:Nat):Int)],_,hheap,⟨s,_,rfl,rfl⟩,rfl,fun i u v hu' hv=>by
     match i with
     |0=>simp at hu' hv;subst hu';subst hv;exact .d (.str _)
     |1=>
      simp at hu' hv;subst hu';subst hv;simp only[decW,Int.toNat_natCast];exact .d (.int _ _)
     |i+2=>simp at hv⟩ (fun k hk=> .inl hk)
  rw[map_kill_nil]at hk;refine⟨.tuple #[.bool true,goInt n, .int .i32 (Utf8.decode s n).1],w',g,?_, .tup _ _ rfl fun i u c hu' hc=> ?_,hk⟩
  ·simp only[execOp,hop,Instr.next,e1,Sem.run_bind,hget,Result.andThen_ok,if_pos hlt,hset,Sem.run_pure]
  ·match i with
   |0=>simp at hu' hc;subst hu';subst hc;exact .d (.bool _)
   |1=>simp at hu' hc;subst hu';subst hc;exact .d (.int _ _)
   |2=>simp at hu' hc;subst hu';subst hc;simp only[decR,Int.toNat_natCast];exact .d (.int _ _)
   |i+3=>simp at hc
def gives_next_over {i:Operand}{b:Nat}{s:BA}{p:Int}(hop:o.op= .next i true)(hy1:O i= .ptr b 0)(hb:h[b]? =some (.cells .sit [.d (.str s), .d (.int .i64 p)]))(hp: ¬p < s.size):
  Gives P [] h h O o (.tup [.d (.bool false)]):=
 .pure fun g O' w hs hy=>by
  obtain⟨e1,hbn⟩:=rep_ptr_inv (hy1▸hy i);obtain⟨n,rfl,hn⟩:=boxRep_sit (hs.rep b _ hb);have hge: ¬n < s.size:=by omega
  have hget:(getObj (g.blk b)).run P w= .ok (.stringIter s n) w:=by simp[getObj,Sem.run,hn]
  refine⟨.tuple #[.bool false],?_, .tup _ _ rfl fun i u c hu' hc=> ?_⟩
  ·simp only[execOp,hop,Instr.next,e1,Sem.run_bind,hget,Result.andThen_ok,if_neg hge,Sem.run_pure]
  ·match i with
   |0=>simp at hu' hc;subst hu';subst hc;exact .d (.bool _)
   |i+1=>simp at hc
def gives_sliceOsl {t e e':TypeId}{y:Operand}{lo hi:Option Operand}{sz b:Nat}{rows:LL}{l r:Int}(hop:o.op= .slice t y lo hi none)(hk:elO P t=some (e,sz))
  (hy1:O y= .own b) (hb:h[b]? =some (.arr e' sz rows)) (hl:bndV 0 (lo.map O)=some l) (hh:bndV rows.length (hi.map O)=some r) (h0:0<=l) (h1:l<=r) (h2:r<=rows.length):
  Gives P [] h h O o (.osl b sz l (r - l)):=
 .pure fun g O' w hs hy=>by
  obtain⟨hu,hn⟩:=elO_spec hk;obtain⟨e1,hbn⟩:=rep_own_inv (hy1▸hy y);obtain⟨hlen,hbr⟩:=hs.rep b _ hb;rcases hbr with⟨k1,rfl⟩|⟨us,cap,k1,k2,k2',k3,k4,k5⟩
  ·have hbd:=run_bounds (P:=P) (w:=w) (isl:=true) (n:=0) (cap:=0) hy hl hh h0 h1 h2 (Nat.le_refl _);have hr0:r=0:=by simp at h2;omega
   have hl0:l=0:=by omega
   subst hr0;subst hl0;refine⟨.slice none 0 0,?_, .osl b sz 0 _ _ hbn ⟨by omega,by omega, .inl ⟨rfl,none,0,rfl⟩⟩⟩
   rw[k1]at e1;simp[execOp,hop,e1,Instr.sliceAt,run_underlying hu,Instr.slice,hbd,run_sizeOf_of hn]
  ·have hbd:=run_bounds (P:=P) (w:=w) (isl:=true) (n:=rows.length) (cap:=cap) hy hl hh h0 h1 h2 k2;rw[k1]at e1;refine⟨_,by simp only[execOp,hop,e1,Instr.sliceAt,Sem.run_bind,run_underlying hu,Result.andThen_ok,Instr.slice,Option.map_none,hbd,run_sizeOf_of hn,Sem.run_pure];rfl, .osl b sz l _ _ hbn ⟨h0,by omega,?_⟩⟩
   by_cases hc:cap=l.toNat
   ·left
    refine⟨by omega,?_⟩
    rw[show r.toNat - l.toNat=0 by omega]
    exact⟨_,_,rfl⟩
   ·right
    refine⟨cap - l.toNat,?_,by omega⟩
    rw[show(r - l).toNat=r.toNat - l.toNat by omega]
    simp[hc,add_lit']
def run_copy_zero (w:World)(dT sT ty elem:TypeId)(A B:Option Addr)(dLen dCap sLen sCap:Nat)(hu:P.underlying dT=some (.slice elem))(hs:(P.info? elem).map (·.size)=some 1)(hm:Nat.min sLen dLen=0):
  (Builtin.copy_ #[dT,sT] ty #[.slice A dLen dCap, .slice B sLen sCap]).run P w= .ok (goInt 0) w:=by
 cases hq:P.info? elem with
 |none=>simp[hq]at hs
 |some i=>
  have hi:i.size=1:=by simpa[hq]using hs
  have hm':min sLen dLen=0:=hm;cases B<;>cases A<;>simp[Builtin.copy_,run_underlying hu,Builtin.lenOf,Builtin.firstCells,sizeOf,typeInfo,hq,hm',loadCells,loadCellsFrom,storeCells]
def splice_keep {g:Gh}{w:World}(hs:SimH g h w){b:Nat}{e':TypeId}{rows news:LL}(hb:h[b]? =some (.arr e' 1 rows)){us:Array Value}{ucap lo m:Nat}
  (k1:g.val b= .slice (some ⟨g.blk b,0,none⟩) rows.length ucap) (k2:rows.length<=ucap) (k2':ucap<=maxLen) (k3:w.heap[g.blk b]? =some (.cells us e' (0,0))) (k4:us.size=ucap*1)
  (k5: ∀(i:Nat) (r:List D) (j:Nat) (c:D),rows[i]? =some r->r[j]? =some c-> ∃u,us[i*1+j]? =some u/\RepD w g.Z u c) (hlen: ∀(i:Nat) (r:List D),rows[i]? =some r->r.length=1)
  (hnl: ∀(i:Nat) (r:List D),news[i]? =some r->r.length=1) (hnt:news.length=m) (hrl:lo+m<=rows.length) {cs:List Value} (hcl:cs.length=m)
  (hnr: ∀(i:Nat) (r:List D) (c:D),news[i]? =some r->r[0]? =some c-> ∃u,cs[i]? =some u/\RepD w g.Z u c):
  Keep [] g h w g (h.set b (.arr e' 1 (rows.take lo++news++rows.drop (lo+m)))) (w.setRow (g.blk b) (us.toList.take lo++cs++us.toList.drop (lo+m)).toArray):=by
 have hus:us.size=ucap:=by simpa using k4
 generalize hW:w.setRow (g.blk b) (us.toList.take lo++cs++us.toList.drop (lo+m)).toArray=W;have hrow:W.heap[g.blk b]? =some (.cells (us.toList.take lo++cs++us.toList.drop (lo+m)).toArray e' (0,0)):=by
  rw[<-hW];exact setRow_heap w _ us _ e' (0,0) k3
 have hfr:Fr (fun k=>k=g.blk b) w W:=by rw[<-hW];exact setRow_fr w _ _
 have hatb: ∀k,(Box.arr e' 1 rows).at? g b=some k↔k=g.blk b:=fun k=>by simp[Box.at?,k1,eq_comm]
 have ho:Over [] w g W g:=⟨Gh.Le.refl _ _,fun k o hz=>hfr.cell (hs.zlt k o hz) (fun e=>hs.zsep k o ⟨b,_,hb,(hatb k).2 e⟩ hz)⟩
 have hrowsl:(rows.take lo++news++rows.drop (lo+m)).length=rows.length:=by simp;omega
 have hsp: ∀i,(rows.take lo++news++rows.drop (lo+m))[i]? =if i < lo then rows[i]? else if i < lo+m then news[i - lo]? else rows[i]? :=fun i=>by
  have:=splice_at rows news lo i (by rw[hnt];omega)
  rwa [hnt]at this
 have hspu: ∀i,(us.toList.take lo++cs++us.toList.drop (lo+m))[i]? =if i < lo then us.toList[i]? else if i < lo+m then cs[i - lo]? else us.toList[i]? :=fun i=>by
  have:=splice_at us.toList cs lo i (by rw[hcl,Array.length_toList];omega)
  rwa [hcl]at this
 have hrlen: ∀(i:Nat) (r:List D),(rows.take lo++news++rows.drop (lo+m))[i]? =some r->r.length=1:=fun i r hi=>by
  rw[hsp]at hi;split at hi
  ·exact hlen i r hi
  ·split at hi
   ·exact hnl _ r hi
   ·exact hlen i r hi
 have hk':Keep [] g h w g ((h.map (Box.kill [])).set b (.arr e' 1 (rows.take lo++news++rows.drop (lo+m)))) W:=by
  refine Keep.turn hs hb [] (.inl ⟨rfl,rfl⟩) rfl rfl rfl (fun _ _=>⟨rfl,rfl⟩) (hfr.mono fun k hk=>(hatb k).2 hk) ⟨hrlen, .inr ⟨_,ucap,?_,?_,k2',hrow,?_,fun i r j cc hi hj=> ?_⟩⟩
   (fun k hk=> .inl (by simpa[Box.at?,k1]using hk))
  ·rw[hrowsl];exact k1
  ·rw[hrowsl];exact k2
  ·simp[hcl];omega
  ·have hj0:j=0:=by
    have hr1:=hrlen i r hi;have:=(List.getElem?_eq_some_iff.1 hj).1;omega
   subst hj0;simp only[List.getElem?_toArray,Nat.mul_one,Nat.add_zero];rw[hspu];rw[hsp]at hi
   by_cases c1:i < lo
   ·rw[if_pos c1]at hi ⊢;obtain⟨u,hu',hd'⟩:=k5 i r 0 cc hi hj;exact⟨u,by rw[Array.getElem?_toList];simpa using hu',ho.repD hd'⟩
   ·rw[if_neg c1]at hi ⊢
    by_cases c2:i < lo+m
    ·rw[if_pos c2]at hi ⊢;obtain⟨u,hu',hd'⟩:=hnr _ r cc hi hj;exact⟨u,hu',ho.repD hd'⟩
    ·rw[if_neg c2]at hi ⊢;obtain⟨u,hu',hd'⟩:=k5 i r 0 cc hi hj;exact⟨u,by rw[Array.getElem?_toList];simpa using hu',ho.repD hd'⟩
 rwa [map_kill_nil]at hk'
def dstV (h:List Box):V->Option (Nat × Int × Int)
 | .own b=>match h[b]? with
   |some (.arr _ 1 rows)=>some (b,0,rows.length)
   |_=>none
 | .osl b 1 lo n=>some (b,lo,n)
 |_=>none
def gives_copyB {y z:Operand}{t t' e e':TypeId}{b:Nat}{lo n:Int}{rows news:LL}(hop:o.op= .call { callee:= .builtin .copy,args:= #[y,z],argTypes:= #[t,t'] })(hk:elO P t=some (e,1))
  (hd:dstV h (O y)=some (b,lo,n)) (hb:h[b]? =some (.arr e' 1 rows)) (hz:rowsV h 1 (O z)=some news) (h0:0<=lo) (h1:0<=n) (h2:lo+n<=rows.length):
  Gives P [] h (h.set b (.arr e' 1 (rows.take lo.toNat++news.take (min n.toNat news.length)++rows.drop (lo.toNat+min n.toNat news.length)))) O o (.d (.int .i64 (min n news.length))):=
 .of_run fun g O' w hs hy=>by
  obtain⟨hu,hn⟩:=elO_spec hk;have hinfo:(P.info? e).map (·.size)=some 1:=hn;obtain⟨hnl,hsrc⟩:=rows_cells hs (hy z) hz;have hbn:b < g.n:=by rw[hs.n];exact(List.getElem?_eq_some_iff.1 hb).1
  obtain⟨hlen,hbr⟩:=hs.rep b _ hb;have hdst:(n.toNat=0/\ ∃A c,O' y= .slice A 0 c)\/ ∃c,O' y= .slice (some ⟨g.blk b,lo.toNat,none⟩) n.toNat c:=by
   have hr:=hy y;unfold dstV at hd;split at hd
   ·rename_i b' hyv;rw[hyv]at hr;split at hd
    ·rename_i e'' rows' hb';cases hd;rw[hb]at hb';cases hb';obtain⟨e1,_⟩:=rep_own_inv hr;rcases hbr with⟨k1,hrows⟩|⟨us,cap,k1,_⟩
     ·left;rw[hrows];exact⟨rfl,none,0,by rw[e1,k1]⟩
     ·right;exact⟨cap,by rw[e1,k1];simp⟩
    ·cases hd
   ·rename_i b' lo' n' hyv;cases hd;rw[hyv]at hr;generalize O' y=u0 at hr;cases hr with
    |osl _ _ _ _ u hb' hu'=>
     rcases hu'.2.2 with⟨q1,A,c,q2⟩|⟨c,q2,_⟩
     ·exact .inl ⟨q1,A,c,q2⟩
     ·exact .inr ⟨c,by rw[q2,Nat.mul_one]⟩
   ·cases hd
  have hres:(min n (news.length:Int))=((min n.toNat news.length:Nat):Int):=by omega
  have zero:min n.toNat news.length=0-> ∀A dC B sL sC,O' y= .slice A n.toNat dC->O' z= .slice B sL sC->sL=news.length->
      ∃u w' g',(execOp O' o).run P w= .ok (.value u) w'/\Rep w' g' u (.d (.int .i64 (min n news.length)))/\Keep [] g h w g' (h.set b (.arr e' 1 (rows.take lo.toNat++news.take (min n.toNat news.length)++rows.drop (lo.toNat+min n.toNat news.length)))) w':=by
   intro hm A dC B sL sC e1 e2 e3;subst e3;have hrun:=run_copy_zero (P:=P) w t t' o.type e A B n.toNat dC news.length sC hu hinfo (by show min _ _=0;omega)
   refine⟨goInt 0,w,g,by simp[execOp,hop,resolve,invoke,builtin,e1,e2,hrun],by rw[hres,hm];exact .d (.int _ _),?_⟩
   rw[hm];have:h.set b (.arr e' 1 (rows.take lo.toNat++news.take 0++rows.drop (lo.toNat+0)))=h:=by
    simp only[List.take_zero,List.append_nil,Nat.add_zero,List.take_append_drop];exact set_self hb
   rw[this];exact .refl hs
  rcases hsrc with⟨e2,rfl⟩|⟨ad,cap,nl,e2,hnlen,hnc,hn1,hnr⟩
  ·rcases hdst with⟨q1,A,c,q2⟩|⟨c,q2⟩
   ·exact zero (by simp) A c none 0 0 (by rw[q2,q1]) e2 rfl
   ·exact zero (by simp) _ c none 0 0 q2 e2 rfl
  rcases Nat.eq_zero_or_pos (min n.toNat news.length)with hm0|hmp
  ·rcases hdst with⟨q1,A,c,q2⟩|⟨c,q2⟩
   ·exact zero hm0 A c _ _ _ (by rw[q2,q1]) e2 rfl
   ·exact zero hm0 _ c _ _ _ q2 e2 rfl
  generalize hm:min n.toNat news.length=m at hmp hres;have hmn:m<=n.toNat/\m<=news.length:=by omega
  rcases hdst with⟨q1,_⟩|⟨c,q2⟩
  ·omega
  rcases hbr with⟨k1,rfl⟩|⟨us,ucap,k1,k2,k2',k3,k4,k5⟩
  ·simp at h2;omega
  have hnlen':nl.length=news.length:=by simpa using hnlen
  have hcl:(nl.take m).length=m:=by simp;omega
  have hrl:lo.toNat+m<=rows.length:=by omega
  have hus:us.size=ucap:=by simpa using k4
  have hrun:=run_copy_row (P:=P) w t t' o.type e (g.blk b) lo.toNat n.toNat c ad news.length cap us e' (nl.take m) hu hinfo k3 (by rw[hcl];show m=min _ _;omega)
   (fun j v hj=>by
    rw[List.getElem?_take]at hj;split at hj
    ·exact hnc j v hj
    ·cases hj) (by rw[hcl];omega) (fun v hv=>hn1 v (List.mem_of_mem_take hv))
  rw[hcl]at hrun;have hk':=splice_keep (news:=news.take m) (cs:=nl.take m) (lo:=lo.toNat) (m:=m) hs hb k1 k2 k2' k3 k4 k5 hlen (fun i r hi=>by
   rw[List.getElem?_take]at hi;split at hi
   ·exact hnl _ r hi
   ·cases hi) (by simp;omega) hrl hcl (fun i r c hi hc=>by
   rw[List.getElem?_take]at hi ⊢;split at hi
   ·rename_i hlt;rw[if_pos hlt];obtain⟨u,hu',hd'⟩:=hnr _ r 0 c hi hc;exact⟨u,by simpa using hu',hd'⟩
   ·cases hi)
  exact⟨goInt m,_,g,by simp[execOp,hop,resolve,invoke,builtin,q2,e2,hrun],by rw[hres];exact .d (.int _ _),hk'⟩
def gives_clear {y:Operand}{t e e':TypeId}{b by_:Nat}{zv:Value}{s:Sh}{lo n:Int}{rows:LL}(hop:o.op= .call { callee:= .builtin .clear,args:= #[y],argTypes:= #[t] })(hk:elT P t=some (e,1,by_,zv))
  (hzo:zeroOK [s] zv.cells.toList=true) (hy1:O y= .osl b 1 lo n) (hb:h[b]? =some (.arr e' 1 rows)) (h2:lo+n<=rows.length):
  Gives P [] h (h.set b (.arr e' 1 (rows.take lo.toNat++List.replicate n.toNat [zeroD s]++rows.drop (lo.toNat+n.toNat)))) O o (.tup []):=
 .of_run fun g O' w hs hy=>by
  obtain⟨hu,i,hi,hz0,hz1,hz2⟩:=elT_spec hk;obtain⟨hlen,hbr⟩:=hs.rep b _ hb;have hr:=hy y;rw[hy1]at hr;generalize hu0:O' y=u0 at hr;cases hr with
  |osl _ _ _ _ u hbn hu'=>
  obtain⟨hlo,hn0,hu'⟩:=hu';have hzs:=zeroOK_spec (w:=w) (Z:=g.Z) hzo;obtain⟨v,hv⟩: ∃v,zv.cells= #[v]:=by
   have hl:zv.cells.toList.length=1:=hzs.1
   match hq:zv.cells with
   |⟨[v]⟩=>exact⟨v,rfl⟩
   |⟨[]⟩=>rw[hq]at hl;simp at hl
   |⟨_::_::_⟩=>rw[hq]at hl;simp at hl
  have hrv:RepD w g.Z v (zeroD s):=hzs.2 0 s v rfl (by rw[hv];rfl)
  have zero: ∀A c,O' y= .slice A n.toNat c->n.toNat=0-> ∃u w' g',(execOp O' o).run P w= .ok (.value u) w'/\Rep w' g' u (.tup [])/\Keep [] g h w g' (h.set b (.arr e' 1 (rows.take lo.toNat++List.replicate n.toNat [zeroD s]++rows.drop (lo.toNat+n.toNat)))) w':=by
   intro A c e1 e2;refine⟨.tuple #[],w,g,?_, .tup #[] [] rfl (by simp),?_⟩
   ·rw[e2]at e1;cases A<;>simp[execOp,hop,resolve,invoke,builtin,Builtin.clear_,e1,run_underlying hu]
   ·rw[e2];have:h.set b (.arr e' 1 (rows.take lo.toNat++List.replicate 0 [zeroD s]++rows.drop (lo.toNat+0)))=h:=by
     simp only[List.replicate_zero,List.append_nil,Nat.add_zero,List.take_append_drop];exact set_self hb
    rw[this];exact .refl hs
  rcases hu' with⟨q1,A,c,rfl⟩|⟨c,rfl,_⟩
  ·exact zero A c (by rw[hu0,q1]) q1
  rcases Nat.eq_zero_or_pos n.toNat with hm0|hmp
  ·exact zero _ c hu0 hm0
  rcases hbr with⟨k1,rfl⟩|⟨us,ucap,k1,k2,k2',k3,k4,k5⟩
  ·simp at h2;omega
  have hus:us.size=ucap:=by simpa using k4
  have hcl:(List.replicate n.toNat v).length=n.toNat:=by simp
  have hst:=run_storeCells_at P (g.blk b) lo.toNat e' (List.replicate n.toNat v) 0 us w k3 (by simp;omega) (fun x hx=>by rw[List.eq_of_mem_replicate hx];exact repD_one hrv)
  simp only[Nat.add_zero,hcl]at hst;have hk':=splice_keep (news:=List.replicate n.toNat [zeroD s]) (cs:=List.replicate n.toNat v) (lo:=lo.toNat) (m:=n.toNat) hs hb k1 k2 k2' k3 k4 k5 hlen (fun i r hi=>by
   rw[List.eq_of_mem_replicate (List.mem_of_getElem? hi)];rfl) (by simp) (by omega) hcl (fun i r c hi hc=>by
   have hil:i < n.toNat:=by have:=(List.getElem?_eq_some_iff.1 hi).1;simpa using this
   rw[List.eq_of_mem_replicate (List.mem_of_getElem? hi)]at hc;simp at hc;subst hc;exact⟨v,by simp[hil],hrv⟩)
  have hzc:(Builtin.zeroCells zv.cells n.toNat).toList=List.replicate n.toNat v:=by
   rw[hv];simp only[Builtin.zeroCells];apply List.ext_getElem
   ·simp
   ·intro i h1 h2;simp[Nat.mod_one]
  have hzv:(zeroValue e).run P w= .ok zv w:=run_zero_of (by unfold zeroO;rw[hi];exact hz0) w
  have hne: ¬n.toNat=0:=by omega
  obtain⟨m,hm⟩: ∃m,n.toNat=m+1:=⟨n.toNat - 1,by omega⟩
  refine⟨.tuple #[],_,g,?_, .tup #[] [] rfl (by simp),hk'⟩
  rw[Nat.mul_one]at hu0;rw[hm]at hu0 hzc hst ⊢;simp[execOp,hop,resolve,invoke,builtin,Builtin.clear_,hu0,run_underlying hu,hzv,hzc,hst]
end
inductive Tree:Type->Type 1 where
 |ret {α:Type} (a:α):Tree α
 |fail {α:Type}:Tree α
 |ite {α:Type} (c:Bool) (x y:Tree α):Tree α
 |cI {α:Type} (v:Option D) (k:IntKind) (K:Int->Tree α):Tree α
 |cB {α:Type} (v:Option D) (K:Bool->Tree α):Tree α
 |cS {α:Type} (v:Option D) (K:BA->Tree α):Tree α
 |cL {α:Type} (v:Option D) (sz:Nat) (K:LL->Tree α):Tree α
 |call {α:Type} (f:FuncId) (args:List V) (K:List D->Tree α):Tree α
 |mint {α:Type} (f:FuncId) (args:List V) (e:TypeId) (sz:Nat) (K:LL->Tree α):Tree α
 |loop {α:Type} (body:List D->Tree (List D ⊕ α)) (ds:List D):Tree α
 |cut {α:Type} (x:Tree (List D ⊕ α)) (K:List D->Tree α):Tree α
def Tree.map: {α:Type}->Tree α-> {β:Type}->(α->β)->Tree β
 |_, .ret a,_,f=> .ret (f a)
 |_, .fail,_,_=> .fail
 |_, .ite c x y,_,f=> .ite c (x.map f) (y.map f)
 |_, .cI v k K,_,f=> .cI v k fun n=>(K n).map f
 |_, .cB v K,_,f=> .cB v fun n=>(K n).map f
 |_, .cS v K,_,f=> .cS v fun n=>(K n).map f
 |_, .cL v sz K,_,f=> .cL v sz fun n=>(K n).map f
 |_, .call g args K,_,f=> .call g args fun n=>(K n).map f
 |_, .mint g args e sz K,_,f=> .mint g args e sz fun n=>(K n).map f
 |_, .loop body ds,_,f=> .loop (fun ds=>(body ds).map fun s=>match s with
  | .inl d=> .inl d
  | .inr a=> .inr (f a)) ds
 |_, .cut x K,_,f=> .cut (x.map fun s=>match s with
  | .inl d=> .inl d
  | .inr a=> .inr (f a)) fun ds=>(K ds).map f
def Tree.bind: {α:Type}->Tree α-> {β:Type}->(α->Tree β)->Tree β
 |_, .ret a,_,f=>f a
 |_, .fail,_,_=> .fail
 |_, .ite c x y,_,f=> .ite c (x.bind f) (y.bind f)
 |_, .cI v k K,_,f=> .cI v k fun n=>(K n).bind f
 |_, .cB v K,_,f=> .cB v fun n=>(K n).bind f
 |_, .cS v K,_,f=> .cS v fun n=>(K n).bind f
 |_, .cL v sz K,_,f=> .cL v sz fun n=>(K n).bind f
 |_, .call g args K,_,f=> .call g args fun n=>(K n).bind f
 |_, .mint g args e sz K,_,f=> .mint g args e sz fun n=>(K n).bind f
 |_, .loop body ds,_,f=> .loop (fun ds=>(body ds).bind fun s=>match s with
  | .inl d=> .ret (.inl d)
  | .inr a=>(f a).map .inr) ds
 |_, .cut x K,_,f=> .cut (x.bind fun s=>match s with
  | .inl d=> .ret (.inl d)
  | .inr a=>(f a).map .inr) fun ds=>(K ds).bind f
def chk {α:Type}(c:Bool)(x:Tree α):Tree α:= .ite c x .fail
inductive PRes where
 |val (ds:List D)
 |own (e:TypeId) (sz:Nat) (rows:LL)
def PRes.leaves:PRes->List D
 | .val ds=>ds
 | .own _ sz rows=>[.sl sz rows]
structure Env where
 call:FuncId->List V->Option PRes
 lp: {α:Type}->(List D->Option (List D ⊕ α))->List D->Option α
def opI (v:Option D)(k:IntKind):Option Int:=match v with
 |some (.int k' n)=>match decide (k'=k)with
  |true=>some n
  |false=>none
 |_=>none
def opB (v:Option D):Option Bool:=match v with
 |some (.bool b)=>some b
 |_=>none
def opS (v:Option D):Option BA:=match v with
 |some (.str b)=>some b
 |_=>none
def opL (v:Option D)(sz:Nat):Option LL:=match v with
 |some (.sl sz' rows)=>match decide (sz'=sz)with
  |true=>some rows
  |false=>none
 |_=>none
def opM (p:Option PRes)(e:TypeId)(sz:Nat):Option LL:=match p with
 |some (.own e' sz' rows)=>match decide (e'=e/\sz'=sz)with
  |true=>some rows
  |false=>none
 |_=>none
def Tree.run (E:Env): {α:Type}->Tree α->Option α
 |_, .ret a=>some a
 |_, .fail=>none
 |_, .ite c x y=>match c with
  |true=>x.run E
  |false=>y.run E
 |_, .cI v k K=>(opI v k).bind fun n=>(K n).run E
 |_, .cB v K=>(opB v).bind fun n=>(K n).run E
 |_, .cS v K=>(opS v).bind fun n=>(K n).run E
 |_, .cL v sz K=>(opL v sz).bind fun n=>(K n).run E
 |_, .call f args K=>(E.call f args).bind fun p=>(K p.leaves).run E
 |_, .mint f args e sz K=>(opM (E.call f args) e sz).bind fun rows=>(K rows).run E
 |_, .loop body ds=>E.lp (fun ds=>(body ds).run E) ds
 |_, .cut x K=>(x.run E).bind fun s=>match s with
  | .inl ds=>(K ds).run E
  | .inr a=>some a
def opI_some {v:Option D}{k:IntKind}{n:Int}(h:opI v k=some n):v=some (.int k n):=by
 unfold opI at h;split at h
 ·split at h
  ·rename_i hd;have:=of_decide_eq_true hd;subst this;cases h;rfl
  ·cases h
 ·cases h
def opB_some {v:Option D}{n:Bool}(h:opB v=some n):v=some (.bool n):=by
 unfold opB at h;split at h<;>cases h;rfl
def opS_some {v:Option D}{n:BA}(h:opS v=some n):v=some (.str n):=by
 unfold opS at h;split at h<;>cases h;rfl
def opL_some {v:Option D}{sz:Nat}{n:LL}(h:opL v sz=some n):v=some (.sl sz n):=by
 unfold opL at h;split at h
 ·split at h
  ·rename_i hd;have:=of_decide_eq_true hd;subst this;cases h;rfl
  ·cases h
 ·cases h
def opM_some {p:Option PRes}{e:TypeId}{sz:Nat}{rows:LL}(h:opM p e sz=some rows):p=some (.own e sz rows):=by
 unfold opM at h;split at h
 ·split at h
  ·rename_i hd;obtain⟨rfl,rfl⟩:=of_decide_eq_true hd;cases h;rfl
  ·cases h
 ·cases h
def Env.Ok (E:Env):Prop:= ∀ {α β:Type} (b:List D->Option (List D ⊕ α)) (f:α->Option β) (ds:List D),
 E.lp (fun ds=>(b ds).bind fun s=>match s with
  | .inl d=>some (.inl d)
  | .inr a=>(f a).map .inr) ds=(E.lp b ds).bind f
def run_map {E:Env}(hE:E.Ok): ∀ {α:Type} (t:Tree α) {β:Type} (f:α->β),(t.map f).run E=(t.run E).map f:=by
 intro α t
 induction t with
 |ret a=>intro β f;rfl
 |fail=>intro β f;rfl
 |ite c x y ihx ihy=>intro β f;cases c<;>simp only[Tree.map,Tree.run,ihx,ihy]
 |cI v k K ih=>intro β f;simp only[Tree.map,Tree.run];cases opI v k<;>simp[ih]
 |cB v K ih=>intro β f;simp only[Tree.map,Tree.run];cases opB v<;>simp[ih]
 |cS v K ih=>intro β f;simp only[Tree.map,Tree.run];cases opS v<;>simp[ih]
 |cL v sz K ih=>intro β f;simp only[Tree.map,Tree.run];cases opL v sz<;>simp[ih]
 |call g args K ih=>intro β f;simp only[Tree.map,Tree.run];cases E.call g args<;>simp[ih]
 |mint g args e sz K ih=>intro β f;simp only[Tree.map,Tree.run];cases opM (E.call g args) e sz<;>simp[ih]
 |loop body ds ih=>
  intro β f;simp only[Tree.map,Tree.run,ih];rw[Option.map_eq_bind,<-hE];congr 1;funext ds;cases(body ds).run E with
  |none=>rfl
  |some s=>cases s<;>rfl
 |cut x K ihx ihK=>
  intro β f;simp only[Tree.map,Tree.run,ihx,ihK];cases x.run E with
  |none=>rfl
  |some s=>cases s<;>rfl
def run_bind {E:Env}(hE:E.Ok): ∀ {α:Type} (t:Tree α) {β:Type} (f:α->Tree β),(t.bind f).run E=(t.run E).bind fun a=>(f a).run E:=by
 intro α t
 induction t with
 |ret a=>intro β f;rfl
 |fail=>intro β f;rfl
 |ite c x y ihx ihy=>intro β f;cases c<;>simp only[Tree.bind,Tree.run,ihx,ihy]
 |cI v k K ih=>intro β f;simp only[Tree.bind,Tree.run];cases opI v k<;>simp[ih]
 |cB v K ih=>intro β f;simp only[Tree.bind,Tree.run];cases opB v<;>simp[ih]
 |cS v K ih=>intro β f;simp only[Tree.bind,Tree.run];cases opS v<;>simp[ih]
 |cL v sz K ih=>intro β f;simp only[Tree.bind,Tree.run];cases opL v sz<;>simp[ih]
 |call g args K ih=>intro β f;simp only[Tree.bind,Tree.run];cases E.call g args<;>simp[ih]
 |mint g args e sz K ih=>intro β f;simp only[Tree.bind,Tree.run];cases opM (E.call g args) e sz<;>simp[ih]
 |loop body ds ih=>
  intro β f;simp only[Tree.bind,Tree.run,ih];rw[<-hE];congr 1;funext ds;cases(body ds).run E with
  |none=>rfl
  |some s=>cases s with
   |inl d=>rfl
   |inr a=>simp only[Option.bind_some,run_map hE]
 |cut x K ihx ihK=>
  intro β f;simp only[Tree.bind,Tree.run,ihx,ihK];cases x.run E with
  |none=>rfl
  |some s=>cases s with
   |inl d=>rfl
   |inr a=>simp only[Option.bind_some,run_map hE];cases(f a).run E<;>rfl
def run_bind_some {E:Env}(hE:E.Ok){α β:Type}{t:Tree α}{f:α->Tree β}{b:β}(h:(t.bind f).run E=some b): ∃a,t.run E=some a/\(f a).run E=some b:=by
 rw[run_bind hE]at h;cases ht:t.run E with
 |none=>rw[ht]at h;cases h
 |some a=>rw[ht]at h;exact⟨a,rfl,h⟩
def chk_some {E:Env}{α:Type}{c:Bool}{x:Tree α}{a:α}(h:(chk c x).run E=some a):c=true/\x.run E=some a:=by
 cases c with
 |true=>exact⟨rfl,h⟩
 |false=>cases h
def iterN {α:Type}:Nat->(List D->Option (List D ⊕ α))->List D->Option α
 |0,_,_=>none
 |n+1,b,ds=>match b ds with
  |some (.inl d)=>iterN n b d
  |some (.inr a)=>some a
  |none=>none
def iterN_bind {α β:Type}(f:α->Option β)(b:List D->Option (List D ⊕ α)): ∀(n:Nat) (ds:List D),iterN n (fun ds=>(b ds).bind fun s=>match s with
  | .inl d=>some (.inl d)
  | .inr a=>(f a).map .inr) ds=(iterN n b ds).bind f
 |0,ds=>rfl
 |n+1,ds=>by
  simp only[iterN];cases b ds with
  |none=>rfl
  |some s=>cases s with
   |inl d=>exact iterN_bind f b n d
   |inr a=>simp only[Option.bind_some];cases f a<;>rfl
def envN (n:Nat)(c:FuncId->List V->Option PRes):Env:=⟨c,fun b ds=>iterN n b ds⟩
def envN_ok (n:Nat)(c:FuncId->List V->Option PRes):(envN n c).Ok:=fun b f ds=>iterN_bind f b n ds
def iterN_mono {α:Type}{b:List D->Option (List D ⊕ α)}{a:α}: ∀ {n:Nat} {ds:List D},iterN n b ds=some a-> ∀ {m:Nat},n<=m->iterN m b ds=some a
 |0,_,h,_,_=>by cases h
 |n+1,ds,h,m,hm=>by
  obtain⟨m,rfl⟩: ∃k,m=k+1:=⟨m - 1,by omega⟩
  simp only[iterN]at h ⊢;cases hb:b ds with
  |none=>rw[hb]at h;cases h
  |some s=>rw[hb]at h;cases s with
   |inl d=>exact iterN_mono h (by omega)
   |inr a'=>exact h
open Classical in
noncomputable def loopF {α:Type} (b:List D->Option (List D ⊕ α)) (ds:List D):Option α:=
 if h: ∃a n,iterN n b ds=some a then some (Classical.choose h)else none
def loopF_some {α:Type}{b:List D->Option (List D ⊕ α)}{ds:List D}{a:α}:loopF b ds=some a↔ ∃n,iterN n b ds=some a:=by
 unfold loopF;constructor
 ·intro h;split at h
  ·rename_i hx;cases h;exact Classical.choose_spec hx
  ·cases h
 ·rintro⟨n,h⟩
  have hx: ∃a n,iterN n b ds=some a:=⟨a,n,h⟩
  rw[dif_pos hx];obtain⟨m,hm⟩:=Classical.choose_spec hx;have h1:=iterN_mono h (Nat.le_max_left n m);have h2:=iterN_mono hm (Nat.le_max_right n m);rw[h1]at h2;exact h2.symm
def loopF_eq {α:Type}(b:List D->Option (List D ⊕ α))(ds:List D):loopF b ds=match b ds with
  |some (.inl d)=>loopF b d
  |some (.inr a)=>some a
  |none=>none:=by
 apply Option.ext;intro a;rw[loopF_some];constructor
 ·rintro⟨n,h⟩
  cases n with
  |zero=>cases h
  |succ n=>
   simp only[iterN]at h;cases hb:b ds with
   |none=>rw[hb]at h;cases h
   |some s=>rw[hb]at h;cases s with
    |inl d=>exact loopF_some.2 ⟨n,h⟩
    |inr a'=>exact h
 ·intro h;cases hb:b ds with
  |none=>rw[hb]at h;cases h
  |some s=>rw[hb]at h;cases s with
   |inl d=>
    obtain⟨n,hn⟩:=loopF_some.1 h;exact⟨n+1,by simp only[iterN,hb];exact hn⟩
   |inr a'=>exact⟨1,by simp only[iterN,hb];exact h⟩
def loopF_at {σ α:Type}{b:List D->Option (List D ⊕ α)}{r:α}(mk:σ->List D)(I:σ->Prop)(μ:σ->Nat)
  (h: ∀x,I x->(∃y,b (mk x)=some (.inl (mk y))/\I y/\μ y < μ x)\/b (mk x)=some (.inr r)) (x:σ) (h0:I x):loopF b (mk x)=some r:=by
 suffices ∀n x,μ x < n->I x->loopF b (mk x)=some r from this _ x (Nat.lt_succ_self _) h0
 intro n
 induction n with
 |zero=>intro x h;omega
 |succ n ih=>
  intro x hlt hi;rw[loopF_eq];rcases h x hi with⟨d,h1,h2,h3⟩|h1
  ·rw[h1];exact ih d (by omega) h2
  ·rw[h1]
def Evl {α:Type}(f:Nat->Nat->Option α)(a:α):Prop:= ∃N,∀n m,N<=n->N<=m->f n m=some a
noncomputable def envF (c:FuncId->List V->Option PRes):Env:=⟨c,fun b ds=>loopF b ds⟩
def run_evl {cF:FuncId->List V->Option PRes}{cN:Nat->FuncId->List V->Option PRes}(hc: ∀f args p,cF f args=some p-> ∃N,∀n,N<=n->cN n f args=some p):
  ∀ {α:Type} (t:Tree α) (a:α),t.run (envF cF)=some a->Evl (fun n m=>t.run (envN m (cN n))) a:=by
 intro α t
 induction t with
 |ret a=>intro b h;exact⟨0,fun _ _ _ _=>h⟩
 |fail=>intro b h;cases h
 |ite c x y ihx ihy=>
  intro b h;cases c with
  |true=>exact ihx b h
  |false=>exact ihy b h
 |cI v k K ih=>
  intro b h;simp only[Tree.run]at h ⊢;obtain⟨n,h1,h2⟩:=Option.bind_eq_some_iff.1 h;simp only[h1,Option.bind_some];exact ih n b h2
 |cB v K ih=>
  intro b h;simp only[Tree.run]at h ⊢;obtain⟨n,h1,h2⟩:=Option.bind_eq_some_iff.1 h;simp only[h1,Option.bind_some];exact ih n b h2
 |cS v K ih=>
  intro b h;simp only[Tree.run]at h ⊢;obtain⟨n,h1,h2⟩:=Option.bind_eq_some_iff.1 h;simp only[h1,Option.bind_some];exact ih n b h2
 |cL v sz K ih=>
  intro b h;simp only[Tree.run]at h ⊢;obtain⟨n,h1,h2⟩:=Option.bind_eq_some_iff.1 h;simp only[h1,Option.bind_some];exact ih n b h2
 |call g args K ih=>
  intro b h;simp only[Tree.run]at h;obtain⟨p,hp,h2⟩:=Option.bind_eq_some_iff.1 h;obtain⟨N1,h1⟩:=hc _ _ _ hp;obtain⟨N2,h2⟩:=ih _ b h2;refine⟨max N1 N2,fun n m hn hm=> ?_⟩
  simp only[Tree.run];rw[show(envN m (cN n)).call g args=some p from h1 n (by omega)]
  exact h2 n m (by omega) (by omega)
 |mint g args e sz K ih=>
  intro b h;simp only[Tree.run]at h;obtain⟨rows,hp,h2⟩:=Option.bind_eq_some_iff.1 h;obtain⟨N1,h1⟩:=hc _ _ _ (opM_some hp);obtain⟨N2,h2⟩:=ih _ b h2;refine⟨max N1 N2,fun n m hn hm=> ?_⟩
  simp only[Tree.run];rw[show(envN m (cN n)).call g args=some (.own e sz rows)from h1 n (by omega)]
  rw[opM_some hp]at hp;rw[hp];exact h2 n m (by omega) (by omega)
 |loop body ds ih=>
  intro b h;have h:loopF (fun ds=>(body ds).run (envF cF)) ds=some b:=h
  obtain⟨k,hk⟩:=loopF_some.1 h;clear h
  suffices ∀k ds,iterN k (fun ds=>(body ds).run (envF cF)) ds=some b-> ∃N,∀n m q,N<=n->N<=m->N<=q->iterN q (fun ds=>(body ds).run (envN m (cN n))) ds=some b by
   obtain⟨N,hN⟩:=this k ds hk;exact⟨N,fun n m hn hm=>hN n m m hn hm hm⟩
  intro k
  induction k with
  |zero=>intro ds hk;cases hk
  |succ k ihk=>
   intro ds hk;simp only[iterN]at hk;cases hb:(body ds).run (envF cF)with
   |none=>rw[hb]at hk;cases hk
   |some s=>
    rw[hb]at hk;obtain⟨N1,h1⟩:=ih ds s hb;cases s with
    |inl d=>
     obtain⟨N2,h2⟩:=ihk d hk;refine⟨max N1 N2+1,fun n m q hn hm hq=> ?_⟩
     obtain⟨q,rfl⟩: ∃k,q=k+1:=⟨q - 1,by omega⟩
     simp only[iterN,h1 n m (by omega) (by omega)]
     exact h2 n m q (by omega) (by omega) (by omega)
    |inr a=>
     refine⟨N1+1,fun n m q hn hm hq=> ?_⟩
     obtain⟨q,rfl⟩: ∃k,q=k+1:=⟨q - 1,by omega⟩
     simp only[iterN,h1 n m (by omega) (by omega)]
     exact hk
 |cut x K ihx ihK=>
  intro b h;simp only[Tree.run]at h;cases hx:x.run (envF cF)with
  |none=>rw[hx]at h;cases h
  |some s=>
   rw[hx]at h;obtain⟨N1,h1⟩:=ihx s hx;cases s with
   |inl d=>
    obtain⟨N2,h2⟩:=ihK d b h;refine⟨max N1 N2,fun n m hn hm=> ?_⟩
    simp only[Tree.run,h1 n m (by omega) (by omega),Option.bind_some]
    exact h2 n m (by omega) (by omega)
   |inr a=>
    refine⟨N1,fun n m hn hm=> ?_⟩
    simp only[Tree.run,h1 n m (by omega) (by omega),Option.bind_some]
    exact h
section
variable {P : Program} {h : List Box} {O : Operand -> V} {o : Oper}
def find_idx {fn:Func}(hn:fn.name= "internal/bytealg.IndexByteString")(ho:fn.origin= ""):Extern.find fn=some Extern.BytealgIndexByte.indexByte/\Extern.findNext fn=none:=by
 unfold Extern.find Extern.findNext;simp only[hn,ho];constructor<;>kernel_rfl
def find_cnt {fn:Func}(hn:fn.name= "internal/bytealg.CountString")(ho:fn.origin= ""):Extern.find fn=some Extern.BytealgCount.count/\Extern.findNext fn=none:=by
 unfold Extern.find Extern.findNext;simp only[hn,ho];constructor<;>kernel_rfl
def gives_ext {q y z:Operand}{ts:Array TypeId}{f:FuncId}{fn:Func}{e:Array Value->Sem Value}{s:BA}{c r:Int}(hop:o.op= .call { callee:= .value q,args:= #[y,z],argTypes:=ts })(hq:O q= .fn f [])(hf:P.funcs[f]? =some fn)(hb:fn.body=none)
  (hname:(fn.name == "runtime.NumGoroutine")=false) (he:Extern.find fn=some e) (hn:Extern.findNext fn=none) (hy1:O y= .d (.str s)) (hz1:O z= .d (.int .u8 c)) (hrun: ∀w,(e #[.string s, .int .u8 c]).run P w= .ok (.int .i64 r) w):Gives P [] h h O o (.d (.int .i64 r)):=
 .pure fun g O' w hs hy=>by
  have e1:=rep_str_inv (hy1▸hy y);have e2:=rep_int_inv (hz1▸hy z);have e3:=hy q;rw[hq]at e3;refine⟨.int .i64 r,?_, .d (.int _ _)⟩;generalize hu:O' q=u at e3;cases e3 with
  |fn _ us _ hl _=>
   have:us= #[]:=Array.eq_empty_of_size_eq_zero hl;subst this;have hr:=run_callFunc_extern (P:=P) hf hname (by rw[hb];rfl) hn he #[.string s, .int .u8 c] w
   rw[hrun]at hr;simp[execOp,hop,resolve,hu,Deferred.ofValue,invoke,e1,e2,hr,Result.andThen]
def gives_field {y:Operand}{t:TypeId}{f:Nat}{fs:Array Field}{fl:Field}{cs:List V}{v:V}(hop:o.op= .field t y f)(hu:P.underlying t=some (.struct fs))(hf:fs[f]? =some fl)(hy1:O y= .agg cs)
  (hx:(P.underlying fl.type).isSome=true) (ha:aggB P fl.type=false) (hv:cs[fl.offset]? =some v):Gives P [] h h O o v:=
 .pure fun g O' w hs hy=>by
  have hr:=hy y;rw[hy1]at hr;generalize hu0:O' y=u0 at hr;cases hr with
  |agg us _ hl hr=>
   have hi:fl.offset < us.size:=by rw[hl];exact(List.getElem?_eq_some_iff.1 hv).1
   refine⟨us[fl.offset],?_,hr _ _ _ (Array.getElem?_eq_getElem hi) hv⟩;simp[execOp,hop,hu0,Instr.field,run_underlying hu,hf,part,asAgg,run_isAgg_of hx ha,Array.getElem?_eq_getElem hi]
def gives_fieldA {y:Operand}{t:TypeId}{f n:Nat}{fs:Array Field}{fl:Field}{cs:List V}(hop:o.op= .field t y f)(hu:P.underlying t=some (.struct fs))(hf:fs[f]? =some fl)(hy1:O y= .agg cs)
  (hx:(P.underlying fl.type).isSome=true) (ha:aggB P fl.type=true) (hn:szO P fl.type=some n) (hle:fl.offset+n<=cs.length):Gives P [] h h O o (.agg ((cs.drop fl.offset).take n)):=
 .pure fun g O' w hs hy=>by
  have hr:=hy y;rw[hy1]at hr;generalize hu0:O' y=u0 at hr;cases hr with
  |agg us _ hl hr=>
   refine⟨.agg (us.extract fl.offset (fl.offset+n)),?_, .agg _ _ ?_ fun i u c hu' hc=> ?_⟩
   ·simp only[execOp,hop,hu0,Instr.field,Sem.run_bind,run_underlying hu,Result.andThen_ok,hf,part,asAgg,run_isAgg_of hx ha,Sem.run_pure,if_true,run_sizeOf_of hn]
   ·simp;omega
   ·rw[List.getElem?_take]at hc;split at hc
    ·rw[List.getElem?_drop]at hc;rw[Array.getElem?_extract]at hu';split at hu'
     ·exact hr _ _ _ hu' hc
     ·cases hu'
    ·cases hc
end
end Go.Vm
end
