/- Part GI of the proof. What is proved by the whole: the statement that the claim names, with no condition. -/
import Derived.Test.YtnppfpelgmmanaaGH
import Derived.Carry
import Derived.ProofKit
import Derived.MakeChecks
import Derived.Test.YtnppfpelgmmanaaRows
set_option linter.all false
section
namespace Go.Vm
open Go.RowKit
section
variable {H : Type} {enc : TypeId × Value → H} {P : Program} {w : World} {held : Bool} {sp : Nat → Bool}
def Typed (P:Program):Nat→TypeId→List D→Prop
 |0,_,_=>False
 |n+1,t,xs=>match P.underlying t with
  |some .bool=> ∃b,xs= [.bool b]
  |some (.int k)=> ∃m,xs= [.int k m]∧(Lit.int k m).wf=true
  |some .string=> ∃s,xs= [.str s]∧s.size≤maxLen
  |some (.slice e)=> ∃rows,xs= [.sl (P.cellsOf e) rows]∧rows.length≤maxLen∧ ∀r∈rows,Typed P n e r
  |some (.struct fs)=> ∃parts:List (List D),parts.length=fs.size∧xs=parts.flatten∧ ∀(i:Nat) f p,fs.toList[i]? =some f→parts[i]? =some p→Typed P n f.type p
  |_=>False
def contig (P:Program):Nat→List Field→Option Nat
 |o,[]=>some o
 |o,f::fs=>if f.offset=o then contig P (o+P.cellsOf f.type) fs else none
def okIn (P:Program)(S:List TypeId)(t:TypeId):Bool:=match P.underlying t with
 |some .bool|some (.int _)|some .string=>true
 |some (.slice e)=>decide (0 < P.cellsOf e)&&S.contains e
 |some (.struct fs)=>decide (contig P 0 fs.toList=some (P.cellsOf t))&&fs.toList.all fun f=>S.contains f.type
 |_=>false
def closedOK (P:Program)(S:List TypeId):Bool:=S.all (okIn P S)
theorem choose_list {α:Type}{Q:Nat→α→Prop}: ∀ {n:Nat},(∀i,i < n→ ∃x,Q i x)→ ∃l:List α,l.length=n∧ ∀(i:Nat) x,l[i]? =some x→Q i x
 |0,_=>⟨[],rfl,by simp⟩
 |n+1,h=>by
  obtain⟨l,h1,h2⟩:=choose_list (n:=n) (fun i hi=>h i (by omega))
  obtain⟨x,hx⟩:=h n (by omega)
  refine⟨l++[x],by simp [h1],fun i y hy=> ?_⟩
  rw[List.getElem?_append]at hy
  split at hy
  ·exact h2 i y hy
  ·rename_i hi
   have hi0:i - l.length=0:=by
    rcases Nat.eq_zero_or_pos (i - l.length)with h0|h0
    ·exact h0
    ·rw[List.getElem?_eq_none (by simp;omega)]at hy;cases hy
   rw[hi0]at hy
   simp at hy
   subst hy
   rwa [show i=n by omega]
theorem mapM_at {α β:Type}{f:α→Option β}: ∀ {as_:List α} {bs:List β},as_.mapM f=some bs→bs.length=as_.length∧ ∀(i:Nat) a,as_[i]? =some a→ ∃b,bs[i]? =some b∧f a=some b
 | [],bs,h=>by simp at h;subst h;simp
 |a::as_,bs,h=>by
  rw[List.mapM_cons]at h
  cases hf:f a with
  |none=>simp [hf]at h
  |some b=>
   cases hr:as_.mapM f with
   |none=>simp [hf,hr]at h
   |some bs'=>
    simp [hf,hr]at h
    subst h
    obtain⟨h1,h2⟩:=mapM_at hr
    refine⟨by simp [h1],fun i c hc=> ?_⟩
    cases i with
    |zero=>simp at hc;subst hc;exact⟨b,rfl,hf⟩
    |succ i=>obtain⟨b',e1,e2⟩:=h2 i c (by simpa using hc);exact⟨b',by simpa using e1,e2⟩
theorem cells_at {a:Addr}{n:Nat}{cs:List Value}(h:w.cells? 0 a n=some cs):cs.length=n∧ ∀(i:Nat) u,cs[i]? =some u→w.cell? (a.add i)=some u:=by
 unfold World.cells? at h
 rw[if_pos (Nat.zero_le _)]at h
 obtain⟨h1,h2⟩:=mapM_at h
 refine⟨by simpa using h1,fun i u hu=> ?_⟩
 have hi:i < n:=by have:=(List.getElem?_eq_some_iff.1 hu).1;rw[h1]at this;simpa using this
 obtain⟨b,e1,e2⟩:=h2 i i (by simp [hi])
 rw[hu]at e1;cases e1;exact e2
def ZW (w:World):Nat→Nat→Prop:=fun b _=>b < w.heap.size
theorem cell_lt {b o:Nat}{s:Option Nat}{u:Value}(h:w.cell? ⟨b,o,s⟩=some u):b < w.heap.size∧s=none:=by
 unfold World.cell? at h
 split at h
 ·rename_i c _ _ hc
  refine⟨(Array.getElem?_eq_some_iff.1 hc).1,?_⟩
  cases s with
  |none=>rfl
  |some k=>simp at h
 ·cases h
theorem fields_bridge {cs:List Value}{m fuel:Nat}{S:List TypeId}(ih: ∀(t:TypeId) (cs:List Value) (x:DataW H × List MemPlace),S.contains t=true→DataW.trod enc P w 0 sp held fuel t cs=some x→
  ∃xs,Typed P m t xs∧xs.length=cs.length∧ ∀(j:Nat) u c,cs[j]? =some u→xs[j]? =some c→RepD w (ZW w) u c):
  ∀(fs:List Field) (o e:Nat) (ys:List (DataW H × List MemPlace)),contig P o fs=some e→cs.length=e→fs.all (fun f=>S.contains f.type)=true→
   (fs.mapM fun f=>DataW.trod enc P w 0 sp held fuel f.type ((cs.drop f.offset).take (P.cellsOf f.type)))=some ys→
   o≤e∧ ∃parts:List (List D),parts.length=fs.length∧parts.flatten.length=e - o∧(∀(i:Nat) f p,fs[i]? =some f→parts[i]? =some p→Typed P m f.type p)∧
    ∀(j:Nat) u c,cs[o+j]? =some u→parts.flatten[j]? =some c→RepD w (ZW w) u c
 | [],o,e,ys,hc,hl,ha,hm=>by
   cases hc
   exact⟨Nat.le_refl _,[],rfl,by simp,by simp,by simp⟩
 |f::fs,o,e,ys,hc,hl,ha,hm=>by
  unfold contig at hc
  split at hc
  ·rename_i ho
   rw[List.mapM_cons]at hm
   cases h1:DataW.trod enc P w 0 sp held fuel f.type ((cs.drop f.offset).take (P.cellsOf f.type))with
   |none=>simp [h1]at hm
   |some y=>
    cases h2:(fs.mapM fun f=>DataW.trod enc P w 0 sp held fuel f.type ((cs.drop f.offset).take (P.cellsOf f.type)))with
    |none=>simp [h1,h2]at hm
    |some ys'=>
     simp only [List.all_cons,Bool.and_eq_true]at ha
     obtain⟨xs,t1,t2,t3⟩:=ih _ _ _ ha.1 h1
     obtain⟨hle,parts,p1,p2,p3,p4⟩:=fields_bridge ih fs _ e ys' hc hl ha.2 h2
     have hxl:xs.length=P.cellsOf f.type:=by rw[t2,ho];simp;omega
     refine⟨by omega,xs::parts,by simp [p1],by simp only [List.flatten_cons,List.length_append];omega,fun i g p hg hp=> ?_,fun j u c hu hc'=> ?_⟩
     ·cases i with
      |zero=>simp at hg hp;subst hg;subst hp;exact t1
      |succ i=>exact p3 i g p (by simpa using hg) (by simpa using hp)
     ·simp only [List.flatten_cons]at hc'
      rw[List.getElem?_append]at hc'
      split at hc'
      ·rename_i hj
       refine t3 j u c ?_ hc'
       rw[List.getElem?_take,if_pos (by omega),List.getElem?_drop,ho];exact hu
      ·rename_i hj
       refine p4 (j - xs.length) u c ?_ hc'
       rw[show o+P.cellsOf f.type+(j - xs.length)=o+j by omega];exact hu
  ·cases hc
theorem bridge {S:List TypeId}(hS:closedOK P S=true): ∀(fuel:Nat) (t:TypeId) (cs:List Value) (x:DataW H × List MemPlace),S.contains t=true→DataW.trod enc P w 0 sp held fuel t cs=some x→
  ∃xs,Typed P fuel t xs∧xs.length=cs.length∧ ∀(j:Nat) u c,cs[j]? =some u→xs[j]? =some c→RepD w (ZW w) u c
 |0,_,_,_,_,h=>by simp [DataW.trod]at h
 |fuel+1,t,cs,x,hp,h=>by
  have one: ∀(u:Value) (c:D),RepD w (ZW w) u c→ ∀(j:Nat) u' c',[u][j]? =some u'→[c][j]? =some c'→RepD w (ZW w) u' c':=by
   intro u c hr j u' c' h1 h2
   cases j with
   |zero=>simp at h1 h2;subst h1;subst h2;exact hr
   |succ j=>simp at h1
  have hp:okIn P S t=true:=List.all_eq_true.1 hS t (List.contains_iff_mem.1 hp)
  unfold okIn at hp
  split at hp
  ·rename_i hu
   obtain⟨b,rfl⟩: ∃b,cs= [.bool b]:=by
    simp only [DataW.trod,hu]at h
    split at h<;>simp_all
   exact⟨[.bool b],by simp only [Typed,hu];exact⟨b,rfl⟩,rfl,one _ _ (.bool b)⟩
  ·rename_i k hu
   obtain⟨n,rfl,hwf⟩: ∃n,cs= [.int k n]∧(Lit.int k n).wf=true:=by
    simp only [DataW.trod,hu]at h
    split at h<;>simp_all
   exact⟨[.int k n],by simp only [Typed,hu];exact⟨n,rfl,hwf⟩,rfl,one _ _ (.int k n)⟩
  ·rename_i hu
   obtain⟨s,rfl,hs⟩: ∃s,cs= [.string s]∧s.size≤maxLen:=by
    simp only [DataW.trod,hu]at h
    split at h<;>simp_all
   exact⟨[.str s],by simp only [Typed,hu];exact⟨s,rfl,hs⟩,rfl,one _ _ (.str s)⟩
  ·rename_i e hu
   simp only [Bool.and_eq_true,decide_eq_true_eq]at hp
   obtain⟨hsz,hp⟩:=hp
   have hcs:cs= [.slice none 0 0]∨ ∃a len cap,cs= [.slice (some a) len cap]:=by
    simp only [DataW.trod,hu]at h
    split at h<;>simp_all
   rcases hcs with rfl|⟨a,len,cap,rfl⟩
   ·exact⟨[.sl (P.cellsOf e) []],by simp only [Typed,hu];exact⟨[],rfl,by simp,by simp⟩,rfl,one _ _ (.slnil _)⟩
   ·simp only [DataW.trod,hu]at h
    split at h
    ·rename_i hb
     obtain⟨_,hlc,hcm⟩:=hb
     cases h1:(List.range len).mapM (fun i=>(w.cells? 0 (a.add (i*P.cellsOf e)) (P.cellsOf e)).bind (DataW.trod enc P w 0 sp held fuel e))with
     |none=>simp [h1]at h
     |some elems=>
      obtain⟨_,h3⟩:=mapM_at h1
      have hel: ∀i,i < len→ ∃r:List D,Typed P fuel e r∧r.length=P.cellsOf e∧ ∃ci:List Value,w.cells? 0 (a.add (i*P.cellsOf e)) (P.cellsOf e)=some ci∧ ∀(j:Nat) u c,ci[j]? =some u→r[j]? =some c→RepD w (ZW w) u c:=by
       intro i hi
       obtain⟨b,_,hb⟩:=h3 i i (by simp [hi])
       cases hci:w.cells? 0 (a.add (i*P.cellsOf e)) (P.cellsOf e)with
       |none=>simp [hci]at hb
       |some ci=>
        simp only [hci,Option.bind_some]at hb
        obtain⟨r,r1,r2,r3⟩:=bridge hS fuel e ci b hp hb
        exact⟨r,r1,by rw[r2,(cells_at hci).1],ci,rfl,r3⟩
      obtain⟨rows,q1,q2⟩:=choose_list hel
      have htr: ∀r∈rows,Typed P fuel e r:=fun r hr=>by
       obtain⟨i,hi⟩:=List.mem_iff_getElem?.1 hr
       exact(q2 i r hi).1
      refine⟨[.sl (P.cellsOf e) rows],by simp only [Typed,hu];exact⟨rows,rfl,by omega,htr⟩,rfl,one _ _ ?_⟩
      ·rcases Nat.eq_zero_or_pos len with h0|h0
       ·have:rows= []:=List.eq_nil_of_length_eq_zero (by omega)
        subst h0;subst this
        exact .slemp a cap _
       ·obtain⟨r0,hr0⟩: ∃r0,rows[0]? =some r0:=⟨rows[0],List.getElem?_eq_getElem (by omega)⟩
        obtain⟨_,hl0,c0,hc0,_⟩:=q2 0 r0 hr0
        obtain⟨hcl0,hca0⟩:=cells_at hc0
        have hz:w.cell? a=some (c0[0]'(by omega)):=by
         have:=hca0 0 (c0[0]'(by omega)) (List.getElem?_eq_getElem (by omega))
         rw[Nat.zero_mul]at this
         exact this
        obtain⟨ab,ao,as_⟩:=a
        obtain⟨hlt,hsn⟩:=cell_lt hz
        subst hsn
        have hall: ∀(i:Nat) (r:List D) (j:Nat) (c:D),rows[i]? =some r→r[j]? =some c→ ∃u,w.cell? ⟨ab,ao+(i*P.cellsOf e+j),none⟩=some u∧RepD w (ZW w) u c:=by
         intro i r j c hi hj
         obtain⟨_,hlr,ci,hci,hrep⟩:=q2 i r hi
         obtain⟨hcl,hca⟩:=cells_at hci
         have hj':j < ci.length:=by rw[hcl,←hlr];exact(List.getElem?_eq_some_iff.1 hj).1
         refine⟨ci[j],?_,hrep j ci[j] c (List.getElem?_eq_getElem hj') hj⟩
         have:=hca j ci[j] (List.getElem?_eq_getElem hj')
         rw[add_lit',add_lit',Nat.add_assoc]at this
         exact this
        exact .sl ab ao len cap (P.cellsOf e) rows (fun i j=>(w.cell? ⟨ab,ao+(i*P.cellsOf e+j),none⟩).getD undef) q1 hlc (fun i r hi=>(q2 i r hi).2.1)
         (fun i r j c hi hj=>hlt) (fun i r j c hi hj=>by obtain⟨u,hu',_⟩:=hall i r j c hi hj;rw[hu'];rfl)
         (fun i r j c hi hj=>by obtain⟨u,hu',hr'⟩:=hall i r j c hi hj;rw[hu'];exact hr')
    ·cases h
  ·rename_i fs hu
   simp only [Bool.and_eq_true,decide_eq_true_eq]at hp
   obtain⟨hct,hp⟩:=hp
   simp only [DataW.trod,hu]at h
   split at h
   ·rename_i hl
    cases h1:(fs.toList.mapM fun f=>DataW.trod enc P w 0 sp held fuel f.type ((cs.drop f.offset).take (P.cellsOf f.type)))with
    |none=>simp [h1]at h
    |some ys=>
     obtain⟨_,parts,p1,p2,p3,p4⟩:=fields_bridge (cs:=cs) (m:=fuel) (fun t cs x a b=>bridge hS fuel t cs x a b) fs.toList 0 _ ys hct hl hp h1
     refine⟨parts.flatten,by simp only [Typed,hu];exact⟨parts,by simpa using p1,rfl,p3⟩,by omega,fun j u c hu' hc'=>p4 j u c (by rw[Nat.zero_add];exact hu') hc'⟩
   ·cases h
  ·cases hp
theorem bridge_val {S:List TypeId}(hS:closedOK P S=true){t:TypeId}{v:Value}{d:DataW H}{ps:List MemPlace}(hp:S.contains t=true)(h:DataW.Trod enc P w 0 sp held t v d ps):
  ∃n xs,Typed P n t xs∧xs.length=v.cells.toList.length∧ ∀(j:Nat) u c,v.cells.toList[j]? =some u→xs[j]? =some c→RepD w (ZW w) u c:=by
 obtain⟨fuel,h⟩:=h
 obtain⟨xs,h⟩:=bridge hS fuel t _ _ hp h
 exact⟨fuel,xs,h⟩
end
end Go.Vm
end
section
namespace Go.Vm
open Go.RowKit Go.ChangeShapes Go.WideShapes
section
variable {H : Type} {enc : TypeId × Value → H} {P : Program} {W W' : World}
theorem trodAll_stays {sp:Nat→Bool}(hl:laidOutB P=true)(hb:Below W.heap.size W W'): ∀ {ts:List TypeId} {vs:List Value} {ds:List (DataW H)} {ps:List MemPlace},(ts.all fun t=>P.readableRec t&&decide (t < P.types.size))=true→
  DataW.TrodAll enc P W 0 (fun _=>true) true ts vs ds ps→(∀p∈ps,p.block < W.heap.size)→(∀p∈ps,sp p.block=true)→DataW.TrodAll enc P W' 0 sp true ts vs ds ps
 | [],[],[],_,_,h,_,_=>h
 |t::ts,v::vs,d::ds,_,ht,⟨p,q,h1,h2,e⟩,hlt,hsp=>by
  subst e
  simp only [List.all_cons,Bool.and_eq_true,decide_eq_true_eq]at ht
  exact⟨p,q,WideElems.Trod_stays hl ht.1.1 ht.1.2 h1 (fun x hx=>hb.same (hlt x (List.mem_append_left _ hx))) (fun x hx=>hsp x (List.mem_append_left _ hx)),
   trodAll_stays hl hb (by simpa using ht.2) h2 (fun x hx=>hlt x (List.mem_append_right _ hx)) (fun x hx=>hsp x (List.mem_append_right _ hx)),rfl⟩
theorem post_true {f:Func}{s:ChangeSpec}{args:Array Value}{ds:List (DataW H)}{before:List MemPlace}{t:TypeId}(hl:laidOutB P=true)(hts:(f.params.toList.all fun t=>P.readableRec t&&decide (t < P.types.size))=true)
  (hv:s.vars= []) (hW:DataW.Whole enc P f.params.toList s.vars false W args.toList ds [] before) (hb:Below W.heap.size W W')
  (hr:(s.fn H (ds++[])).results= [.lit (.bool true)]) (ha:(s.fn H (ds++[])).args=ds) (hn:(s.fn H (ds++[])).vars= []) (ht:f.resultTypes= #[t]) (hu:P.underlying t=some .bool):
  s.post enc P f false true false false W args (.bool true) W':=by
 have hlt: ∀p∈before,p.block < W.heap.size:=fun p hp=>hW.lt p hp
 have hW0:=hW
 obtain⟨p,q,hA,hV,hpq,hz,hnd⟩:=hW
 rw[hv]at hV
 obtain⟨_,hq⟩:=trodVars_none hV
 subst hq
 rw[List.append_nil]at hpq
 subst hpq
 refine⟨ds,[],before,[],before,[],hW0,?_,?_,?_,hb.frame _,fun h=>by cases h⟩
 ·rw[hr,ht]
  exact trodAll_mk1 (shut_bool hu true)
 ·rw[ha]
  exact trodAll_stays hl hb hts hA hlt (fun p hp=>by simpa using hlt p hp)
 ·rw[hn,hv];rfl
theorem calls_true {f:FuncId}{vs:List V}{us:List Value}(ht:TabOK (ZW W) W)(hc:PCall P f vs (.d (.bool true)))(hr:Reps W (g0 (ZW W)) us vs):Calls P f us.toArray W fun e w'=>e= .returned (.bool true)∧Below W.heap.size W w':=by
 refine(hc (g0 (ZW W)) W us (simH_nil (fun b o h=>h) ht) hr).mono ?_
 rintro e w' ⟨u,g',rfl,hru,hk⟩
 rw[rep_bool_inv hru]
 exact⟨rfl,hk.fr.below fun i _ ⟨b,x,hx,_⟩=>by simp at hx⟩
end
section
variable {P : Program} {w : World}
end
end Go.Vm
end
section
set_option maxRecDepth 100000
namespace Go.Vm
open Go.Proofs
open Go.RowKit Go.ChangeShapes Go.WideShapes
theorem PGood.truth {f:FuncId}{args:List V}{b:Bool}{t:TypeId}(hs:sigP Try.prog f=some [t])(hm:mkV Try.prog [t] [.bool b]=some (.d (.bool b)))
  (h:PGood Try.prog f args (.val [.bool b])):PCall Try.prog f args (.d (.bool b)):=by
 obtain⟨ts,ss,v,h1,h2,h3,h4,h5⟩:=h
 rw[hs]at h1
 cases h1
 rw[hm]at h4
 cases h4
 exact h5
theorem F3_call (x:Img):PCall Try.prog 3 [x.v] (.d (.bool true)):=
 PGood.truth (t:=4) (by kernel_rfl) (by kernel_rfl) (callF_good mixedOrders kn_good (by kernel_rfl) rfl (c_GenShapes x))
theorem typed_str {P:Program}{n:Nat}{t:TypeId}{xs:List D}(hu:P.underlying t=some .string)(h:Typed P n t xs): ∃s,xs= [.str s]:=by
 cases n with
 |zero=>exact h.elim
 |succ n=>simp only [Typed,hu]at h;obtain⟨s,hs,_⟩:=h;exact⟨s,hs⟩
theorem typed_slice {P:Program}{n:Nat}{t e:TypeId}{xs:List D}(hu:P.underlying t=some (.slice e))(h:Typed P (n+1) t xs): ∃rows,xs= [.sl (P.cellsOf e) rows]∧ ∀r∈rows,Typed P n e r:=by
 simp only [Typed,hu]at h
 obtain⟨rows,h1,h0,h2⟩:=h
 exact⟨rows,h1,h2⟩
theorem typed_int {P:Program}{n:Nat}{t:TypeId}{xs:List D}(hu:P.underlying t=some (.int .i64))(h:Typed P n t xs): ∃m:Int,xs= [.int .i64 m]:=by
 cases n with
 |zero=>exact h.elim
 |succ n=>
  simp only [Typed,hu]at h
  obtain⟨m,hm,hw⟩:=h
  exact⟨m,hm⟩
theorem typed_struct {P:Program}{n:Nat}{t:TypeId}{fs:Array Field}{xs:List D}(hu:P.underlying t=some (.struct fs))(h:Typed P (n+1) t xs): ∃parts:List (List D),parts.length=fs.size∧xs=parts.flatten∧ ∀(i:Nat) f p,fs.toList[i]? =some f→parts[i]? =some p→Typed P n f.type p:=by
 simp only [Typed,hu]at h;exact h
theorem rows_of {α:Type}(f:α→List D){P:List D→Prop}(h: ∀r,P r→ ∃x,r=f x): ∀rows:List (List D),(∀r∈rows,P r)→ ∃l:List α,rows=l.map f
 | [],_=>⟨[],rfl⟩
 |r::rs,hr=>by
  obtain⟨x,hx⟩:=h r (hr r (by simp))
  obtain⟨l,h1⟩:=rows_of f h rs fun r h=>hr r (by simp [h])
  exact⟨x::l,by rw[hx,h1];rfl⟩
theorem typed_rows {α:Type}{P:Program}{n:Nat}{t e:TypeId}{xs:List D}(f:α→List D)(hu:P.underlying t=some (.slice e))(hf: ∀ {n:Nat} {r:List D},Typed P n e r→ ∃x,r=f x)(h:Typed P n t xs): ∃l:List α,xs= [.sl (P.cellsOf e) (l.map f)]:=by
 match n,h with
 |n+1,h=>
  obtain⟨rows,h1,h2⟩:=typed_slice hu h
  obtain⟨l,hl⟩:=rows_of f (fun r hr=>hf hr) rows h2
  exact⟨l,by rw[h1,hl]⟩
theorem typed41 {n:Nat}{xs:List D}(h:Typed Try.prog n 41 xs): ∃t:Tyy,xs= [.int .i64 t.k, .int .i64 t.e, .int .i64 t.n]:=by
 match n,h with
 |n+1,h=>
  obtain⟨parts,h1,h2,h3⟩:=typed_struct Try.underlying41 h
  obtain⟨p0,p1,p2,rfl⟩: ∃a b c,parts= [a,b,c]:=by
   match parts,h1 with
   | [a,b,c],_=>exact⟨a,b,c,rfl⟩
  obtain⟨k,e0⟩:=typed_int Try.underlying3 (h3 0 _ p0 rfl rfl)
  obtain⟨e,e1⟩:=typed_int Try.underlying3 (h3 1 _ p1 rfl rfl)
  obtain⟨c,e2⟩:=typed_int Try.underlying3 (h3 2 _ p2 rfl rfl)
  exact⟨⟨k,e,c⟩,by rw[h2,e0,e1,e2];rfl⟩
theorem typed39 {n:Nat}{xs:List D}(h:Typed Try.prog n 39 xs): ∃x:Enm,xs=x.row:=by
 match n,h with
 |n+1,h=>
  obtain⟨parts,h1,h2,h3⟩:=typed_struct Try.underlying39 h
  obtain⟨p0,p1,rfl⟩: ∃a b,parts= [a,b]:=by
   match parts,h1 with
   | [a,b],_=>exact⟨a,b,rfl⟩
  obtain⟨s,e0⟩:=typed_str Try.underlying9 (h3 0 _ p0 rfl rfl)
  obtain⟨l,e1⟩:=typed_rows srow Try.underlying37 (fun h=>typed_str Try.underlying9 h) (h3 1 _ p1 rfl rfl)
  exact⟨⟨s,l⟩,by rw[h2,e0,e1,show Try.prog.cellsOf 9=1 by kernel_rfl];rfl⟩
theorem typed70 {n:Nat}{xs:List D}(h:Typed Try.prog n 70 xs): ∃x:Prt,xs=x.row:=by
 match n,h with
 |n+1,h=>
  obtain⟨parts,h1,h2,h3⟩:=typed_struct Try.underlying70 h
  obtain⟨p0,p1,rfl⟩: ∃a b,parts= [a,b]:=by
   match parts,h1 with
   | [a,b],_=>exact⟨a,b,rfl⟩
  obtain⟨s,e0⟩:=typed_str Try.underlying9 (h3 0 _ p0 rfl rfl)
  obtain⟨t,e1⟩:=typed41 (h3 1 _ p1 rfl rfl)
  exact⟨⟨s,t⟩,by rw[h2,e0,e1];rfl⟩
theorem typed44 {n:Nat}{xs:List D}(h:Typed Try.prog n 44 xs): ∃x:Slt,xs=x.row:=by
 match n,h with
 |n+1,h=>
  obtain⟨parts,h1,h2,h3⟩:=typed_struct Try.underlying44 h
  obtain⟨p0,p1,p2,p3,rfl⟩: ∃a b c d,parts= [a,b,c,d]:=by
   match parts,h1 with
   | [a,b,c,d],_=>exact⟨a,b,c,d,rfl⟩
  obtain⟨s,e0⟩:=typed_str Try.underlying9 (h3 0 _ p0 rfl rfl)
  obtain⟨t,e1⟩:=typed41 (h3 1 _ p1 rfl rfl)
  obtain⟨a,e2⟩:=typed_int Try.underlying3 (h3 2 _ p2 rfl rfl)
  obtain⟨l,e3⟩:=typed_rows irow Try.underlying42 (fun h=>typed_int Try.underlying2 h) (h3 3 _ p3 rfl rfl)
  exact⟨⟨s,t,a,l⟩,by rw[h2,e0,e1,e2,e3,show Try.prog.cellsOf 2=1 by kernel_rfl];rfl⟩
theorem typed65 {n:Nat}{xs:List D}(h:Typed Try.prog n 65 xs): ∃x:Ins,xs=x.row:=by
 match n,h with
 |n+1,h=>
  obtain⟨parts,h1,h2,h3⟩:=typed_struct Try.underlying65 h
  obtain⟨p0,p1,p2,p3,rfl⟩: ∃a b c d,parts= [a,b,c,d]:=by
   match parts,h1 with
   | [a,b,c,d],_=>exact⟨a,b,c,d,rfl⟩
  obtain⟨a,e0⟩:=typed_int Try.underlying3 (h3 0 _ p0 rfl rfl)
  obtain⟨b,e1⟩:=typed_int Try.underlying3 (h3 1 _ p1 rfl rfl)
  obtain⟨c,e2⟩:=typed_int Try.underlying3 (h3 2 _ p2 rfl rfl)
  obtain⟨d,e3⟩:=typed_int Try.underlying2 (h3 3 _ p3 rfl rfl)
  exact⟨⟨a,b,c,d⟩,by rw[h2,e0,e1,e2,e3];rfl⟩
theorem typed28 {n:Nat}{xs:List D}(h:Typed Try.prog n 28 xs): ∃x:Img,xs= [.sl 2 (erows x.enums), .sl 4 (prows x.ins), .sl 4 (prows x.outs), .sl 6 (slrows x.slots), .sl 1 (irows x.locals), .sl 4 (crows x.code)]:=by
 match n,h with
 |n+1,h=>
  obtain⟨parts,h1,h2,h3⟩:=typed_struct Try.underlying28 h
  obtain⟨p0,p1,p2,p3,p4,p5,rfl⟩: ∃a b c d e f,parts= [a,b,c,d,e,f]:=by
   match parts,h1 with
   | [a,b,c,d,e,f],_=>exact⟨a,b,c,d,e,f,rfl⟩
  obtain⟨a,e0⟩:=typed_rows Enm.row Try.underlying22 (fun h=>typed39 h) (h3 0 _ p0 rfl rfl)
  obtain⟨b,e1⟩:=typed_rows Prt.row Try.underlying23 (fun h=>typed70 h) (h3 1 _ p1 rfl rfl)
  obtain⟨c,e2⟩:=typed_rows Prt.row Try.underlying23 (fun h=>typed70 h) (h3 2 _ p2 rfl rfl)
  obtain⟨d,e3⟩:=typed_rows Slt.row Try.underlying24 (fun h=>typed44 h) (h3 3 _ p3 rfl rfl)
  obtain⟨e,e4⟩:=typed_rows irow Try.underlying25 (fun h=>typed_int Try.underlying3 h) (h3 4 _ p4 rfl rfl)
  obtain⟨f,e5⟩:=typed_rows Ins.row Try.underlying26 (fun h=>typed65 h) (h3 5 _ p5 rfl rfl)
  exact⟨⟨a,b,c,d,e,f⟩,by rw[h2,e0,e1,e2,e3,e4,e5,show Try.prog.cellsOf 39=2 by kernel_rfl,show Try.prog.cellsOf 70=4 by kernel_rfl,show Try.prog.cellsOf 44=6 by kernel_rfl,show Try.prog.cellsOf 3=1 by kernel_rfl,show Try.prog.cellsOf 65=4 by kernel_rfl];rfl⟩
theorem closed28:closedOK Try.prog [28,22,39,9,37,23,70,41,3,24,44,42,2,25,26,65]=true:=by kernel_rfl
section
variable {H : Type} {enc : TypeId × Value → H} {W : World} {base : Nat}
theorem rep_agg {w:World}{cs:Array Value}{xs:List D}(hl:xs.length=(Value.agg cs).cells.toList.length)(h: ∀(j:Nat) u c,(Value.agg cs).cells.toList[j]? =some u→xs[j]? =some c→RepD w (ZW w) u c):Rep w (g0 (ZW w)) (.agg cs) (.agg (xs.map .d)):=by
 refine .agg cs _ (by simp [Value.cells]at hl;simp [hl]) fun i u c hu hc=> ?_
 rw[List.getElem?_map,Option.map_eq_some_iff]at hc
 obtain⟨d,hd,rfl⟩:=hc
 exact .d (h i u d (by simpa [Value.cells]using hu) hd)
theorem open28 {v:Value}{d:DataW H}{p:List MemPlace}(hv:Value.okWide Try.prog W .any base 28 v)(h:DataW.Trod enc Try.prog W 0 (fun _=>true) true 28 v d p): ∃x:Img,Rep W (g0 (ZW W)) v x.v:=by
 unfold Value.okWide at hv
 rw[Try.underlying28]at hv
 obtain⟨cs,rfl,_,_⟩:=hv
 obtain⟨n,xs,h1,h2,h3⟩:=bridge_val closed28 rfl h
 obtain⟨x,rfl⟩:=typed28 h1
 exact⟨x,rep_agg h2 h3⟩
end
theorem tab_none {Z:Nat→Nat→Prop}{w:World}:TabOK Z w:=⟨fun b h=>by simp [gI]at h,fun q h=>by simp [gV]at h⟩
end Go.Vm
end
section
namespace Go.Proofs.Ytnppfpelgmmanaa
open Go.ChangeShapes Go.WideShapes Go.ChangeAt Go.RowKit Go.Vm
theorem own_:ownKnob Try.prog.godebug=none:=by kernel_rfl
theorem laid_:laidOutB Try.prog=true:=by kernel_rfl
set_option maxRecDepth 100000 in
theorem genShapes_lifted (os:Os)(started:os.Started)(H:Type)(enc:TypeId × Value→H):
  ReturnsInHanded {} Try.checked os 3 .any (Rows.genShapesSpec.pre6 enc Try.prog Try.f3 Rows.genShapesRow.domain false) (Rows.genShapesSpec.post enc Try.prog Try.f3 false true false false):=by
 refine returnsInHanded_of_change (C:=Try.checked) own_ started (by kernel_rfl) Try.func3
  (ChangeSpec.witness6 (enc:=enc) (C:=Try.checked) false ⟨#[], #[.agg #[.slice none 0 0, .slice none 0 0, .slice none 0 0, .slice none 0 0, .slice none 0 0, .slice none 0 0]],[]⟩ 8 (by kernel_rfl) (by kernel_rfl) (by kernel_rfl) (by kernel_rfl)) ?_
 intro W base args ds gs before hval0 hW hcnd _
 have hval: ∀(j:Nat) t v,Try.f3.params[j]? =some t→args[j]? =some v→Value.okWide Try.prog W .any base t v:=hval0
 have hW':=hW
 obtain⟨p,q,hA0,hV,rfl,hfz,hnd⟩:=hW
 have hA:DataW.TrodAll enc Try.prog W 0 (fun _=>true) true Try.f3.params.toList args.toList ds p:=hA0
 rw[Try.params3]at hA hval
 obtain⟨v0,d0,rfl,rfl,h0⟩:=trodAll_one hA
 obtain⟨rfl,rfl⟩:=trodVars_none hV
 obtain⟨x,r0⟩:=open28 (hval 0 28 v0 rfl rfl) h0
 have hc:=calls_true (us:=[v0]) tab_none (F3_call x) ⟨rfl,fun i u v hu hv=>by
  match i with
  |0=>simp at hu hv;subst hu;subst hv;exact r0
  |i+1=>simp at hu⟩
 refine hc.mono fun e W' ⟨he,hb⟩=> ?_
 subst he
 exact⟨_,rfl,post_true laid_ (by kernel_rfl) rfl hW' hb rfl rfl rfl (by kernel_rfl) Try.underlying4⟩
theorem genShapes_holds:Rows.GenShapesSaid:=
 OpenClaim.holds_of_wide 3 Try.f3 rfl rfl rfl rfl rfl rfl rfl ⟨rfl,rfl,rfl,rfl,rfl⟩ rfl rfl rfl rfl rfl (by kernel_rfl) Try.func3 (by kernel_rfl)
  (of_decide_eq_true (by kernel_rfl)) (by unfold Func.isWrapper;first|(rw[if_pos (by decide+kernel)];kernel_rfl)|(rw[if_neg (by decide+kernel)];exact⟨rfl,rfl⟩))
  (fun os started H enc _=>genShapes_lifted os started H enc)
#print axioms genShapes_holds
end Go.Proofs.Ytnppfpelgmmanaa
end
