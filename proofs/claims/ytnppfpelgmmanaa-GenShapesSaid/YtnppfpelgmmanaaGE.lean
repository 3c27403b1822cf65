/- Part GE of the proof. What is proved by the whole: the statement that the claim names, with no condition. -/
import Derived.Test.YtnppfpelgmmanaaGD
import Derived.ScopeJumps
set_option linter.all false
section
namespace Go.Vm
section
variable {P : Program} {h h' h2 h0 hh hx hx' : List Box} {ρ ρ2 : Operand → V} {o : Oper} {x : V} {ops : Array Oper} {W Z M : List Nat} {T : Nat → List Nat} {t t2 : List V} {En : Ent} {E : Env} {C : CfgO}
def bigI (C:CfgO)(o:Oper):Bool:=match o.op with
 | .store .. =>true
 | .alloc _=>true
 | .buildSlice .. =>true
 | .call ⟨.builtin .append,_,_⟩=>true
 | .call ⟨.value (.tmp _),_,_⟩=>true
 | .call ⟨.value (.func f),_,_⟩=>C.inl.contains f
 | .call ⟨.builtin .copy,_,_⟩=>true
 | .mapUpdate .. =>true
 |_=>false
def isCallT (C:CfgO)(o:Oper):Bool:=match o.op with
 | .call ⟨.value (.tmp _),_,_⟩=>true
 | .call ⟨.value (.func f),_,_⟩=>C.inl.contains f
 |_=>false
def isAl (o:Oper):Bool:=match o.op with
 | .alloc _=>true
 |_=>false
def bigOK (C:CfgO)(ops:Array Oper):Bool:=(List.range ops.size).all fun j=>match ops[j]? with
 |some oj=> !bigI C oj || (List.range j).all fun i=>match ops[i]? with
  |some oi=> !bigI C oi || (edgeR ops 5 oj i || (isCallT C oi&&isAl oj))
  |none=>true
 |none=>true
def quietN (ops:Array Oper)(k:Nat):Bool:=(List.range ops.size).any fun j=>match ops[j]? with
 |some oj=>isAl oj&& !edgeR ops 5 oj k
 |none=>false
theorem quietN_at {ops:Array Oper}{k j:Nat}{oj:Oper}(hj:ops[j]? =some oj)(ha:isAl oj=true)(he:edgeR ops 5 oj k=true→False):quietN ops k=true:=by
 refine List.any_eq_true.2 ⟨j,List.mem_range.2 (Array.getElem?_eq_some_iff.1 hj).1,?_⟩
 rw[hj]
 simp only [ha,Bool.true_and,Bool.not_eq_true']
 cases h:edgeR ops 5 oj k with
 |true=>exact(he h).elim
 |false=>rfl
def pinI (C:CfgO)(ops:Array Oper)(i:Nat):Bool:=(List.range ops.size).all fun j=>match ops[j]? with
 |some oj=> !bigI C oj || edgeR ops 5 oj i || (match ops[i]? with
  |some oi=>edgeR ops 5 oi j
  |none=>false)
 |none=>true
def mkI (o:Oper):Bool:=match o.op with
 | .alloc _=>true
 | .buildSlice .. =>true
 |_=>false
def midI (C:CfgO)(ops:Array Oper)(i:Nat):Bool:=(List.range ops.size).all fun j=>match ops[j]? with
 |some oj=> !bigI C oj || mkI oj || isCallT C oj || edgeR ops 5 oj i || (match ops[i]? with
  |some oi=>edgeR ops 5 oi j
  |none=>false)
 |none=>true
def killT (M:List Nat)(t:List V):List V:=match M with
 | []=>t
 |_=>t.map (V.kill M)
theorem killT_eq (M:List Nat)(t:List V):killT M t=t.map (V.kill M):=by
 cases M with
 |nil=>rw[show V.kill []=id from funext V.kill_nil];simp [killT]
 |cons=>rfl
theorem next_kill (s:VSt)(M:List Nat)(h':List Box)(d:Option Tmp)(x:V):s.next M h' d x=⟨putV (killT M s.t) d x,h'⟩:=by
 unfold VSt.next putV killT
 cases M<;>cases d<;>rfl
def calmC (Z:List Nat):V→Bool
 | .d _=>true
 | .nils=>true
 | .nilp=>true
 | .nilf=>true
 | .ifn _=>true
 | .pel _=>true
 | .own b=> !Z.contains b
 | .map b=> !Z.contains b
 | .ptr b _=> !Z.contains b
 | .mv _ b _=> !Z.contains b
 | .ifp _ b _=> !Z.contains b
 | .pml b _ _ _=> !Z.contains b
 | .yld b _=> !Z.contains b
 | .osl b _ _ _=> !Z.contains b
 |_=>false
def calmB (Z:List Nat):V→Bool
 | .agg cs=>cs.all (calmC Z)
 | .tup cs=>cs.all (calmC Z)
 |v=>calmC Z v
theorem notin {b:Nat}(hM: ∀b∈M,b∈Z)(h:(!Z.contains b)=true):(!M.contains b)=true:=by
 simp only [Bool.not_eq_true',List.contains_eq_mem,decide_eq_false_iff_not]at h ⊢
 exact fun hb=>h (hM b hb)
theorem calmC_kill {v:V}(hM: ∀b∈M,b∈Z)(h:calmC Z v=true):v.killC M=v:=by
 cases v with
 |any=>cases h
 |agg cs=>cases h
 |tup cs=>cases h
 |fn f cs=>cases h
 |own b=>exact congrArg (fun q=>bif q then V.own b else .any) (notin hM h)
 |map b=>exact congrArg (fun q=>bif q then V.map b else .any) (notin hM h)
 |ptr b off=>exact congrArg (fun q=>bif q then V.ptr b off else .any) (notin hM h)
 |mv f b off=>exact congrArg (fun q=>bif q then V.mv f b off else .any) (notin hM h)
 |ifp f b off=>exact congrArg (fun q=>bif q then V.ifp f b off else .any) (notin hM h)
 |pml b sz i off=>exact congrArg (fun q=>bif q then V.pml b sz i off else .any) (notin hM h)
 |yld b R=>exact congrArg (fun q=>bif q then V.yld b R else .any) (notin hM h)
 |osl b s l n=>exact congrArg (fun q=>bif q then V.osl b s l n else .any) (notin hM h)
 |_=>rfl
theorem calmC_of {v:V}(h:calmC Z (v.killC M)=true):v.killC M=v:=by
 unfold V.killC at h ⊢
 cases hf:v.freeC M with
 |true=>rfl
 |false=>rw[hf]at h;cases h
theorem calm_kill {v:V}(hM: ∀b∈M,b∈Z)(h:calmB Z v=true):v.kill M=v:=by
 have aux: ∀cs:List V,cs.all (calmC Z)=true→cs.map (V.killC M)=cs:=fun cs hc=>by
  have:cs.map (V.killC M)=cs.map id:=List.map_congr_left fun v hv=>calmC_kill hM (List.all_eq_true.1 hc v hv)
  simpa using this
 cases v with
 |agg cs=>exact congrArg V.agg (aux cs h)
 |tup cs=>exact congrArg V.tup (aux cs h)
 |fn f cs=>cases h
 |_=>exact calmC_kill hM h
theorem calm_of {v:V}(h:calmB Z (v.kill M)=true):v.kill M=v:=by
 have aux: ∀cs:List V,(cs.map (V.killC M)).all (calmC Z)=true→cs.map (V.killC M)=cs:=fun cs hc=>by
  have:cs.map (V.killC M)=cs.map id:=List.map_congr_left fun v hv=>calmC_of (List.all_eq_true.1 hc _ (List.mem_map_of_mem hv))
  simpa using this
 have aux2: ∀v:V,calmB Z (bif V.freeC M v then v else .any)=true→(bif V.freeC M v then v else .any)=v:=fun v h=>by
  cases hf:v.freeC M with
  |true=>rfl
  |false=>rw[hf]at h;cases h
 cases v with
 |agg cs=>exact congrArg V.agg (aux cs h)
 |tup cs=>exact congrArg V.tup (aux cs h)
 |fn f cs=>cases h
 |any=>cases h
 |own b=>exact aux2 (.own b) h
 |map b=>exact aux2 (.map b) h
 |ptr b off=>exact aux2 (.ptr b off) h
 |mv f b off=>exact aux2 (.mv f b off) h
 |ifp f b off=>exact aux2 (.ifp f b off) h
 |pml b sz i off=>exact aux2 (.pml b sz i off) h
 |yld b R=>exact aux2 (.yld b R) h
 |osl b s l n=>exact aux2 (.osl b s l n) h
 |_=>rfl
theorem get_at_kill (M:List Nat)(t:List V)(h:List Box)(y:Operand):VSt.get ⟨killT M t,h⟩ y=VSt.get ⟨t,h⟩ y∨VSt.get ⟨killT M t,h⟩ y=(VSt.get ⟨t,h⟩ y).kill M:=by
 rw[killT_eq]
 cases y with
 |tmp k=>
  right
  show(t.map (V.kill M)).getD k .any=(t.getD k .any).kill M
  rw[List.getD_eq_getElem?_getD,List.getD_eq_getElem?_getD,List.getElem?_map]
  cases t[k]? <;>rfl
 |const v=>left;rfl
 |func f=>left;rfl
 |global k=>left;rfl
theorem get_calm {y:Operand}(hM: ∀b∈M,b∈Z)(hc:calmB Z (VSt.get ⟨t,h⟩ y)=true):VSt.get ⟨killT M t,h⟩ y=VSt.get ⟨t,h⟩ y:=by
 rcases get_at_kill M t h y with h1|h1
 ·exact h1
 ·rw[h1,calm_kill hM hc]
theorem get_calm_of {y:Operand}(hc:calmB Z (VSt.get ⟨killT M t,h⟩ y)=true):VSt.get ⟨killT M t,h⟩ y=VSt.get ⟨t,h⟩ y:=by
 rcases get_at_kill M t h y with h1|h1
 ·exact h1
 ·rw[h1]at hc ⊢;exact calm_of hc
theorem restr_of {y:Operand}(he:restr o (VSt.get ⟨t2,h⟩)=restr o (VSt.get ⟨t,h⟩))(hy:y∈o.op.operands.toList):VSt.get ⟨t2,h⟩ y=VSt.get ⟨t,h⟩ y:=by
 have:=congrFun he y
 rwa [restr_at (fun _=>rfl) hy,restr_at (fun _=>rfl) hy]at this
theorem restr_eq (he: ∀y∈o.op.operands.toList,VSt.get ⟨t2,h⟩ y=VSt.get ⟨t,h⟩ y):restr o (VSt.get ⟨t2,h⟩)=restr o (VSt.get ⟨t,h⟩):=by
 funext y
 cases y with
 |func f=>rfl
 |tmp k=>simp only [restr];split<;>first|exact he _ ‹_› |rfl
 |const v=>simp only [restr];split<;>first|exact he _ ‹_› |rfl
 |global k=>simp only [restr];split<;>first|exact he _ ‹_› |rfl
theorem wantV_kill {b:Bool}:wantV ops o (killT M t)=some b↔wantV ops o t=some b:=by
 rw[killT_eq]
 unfold wantV
 split
 ·rfl
 ·rename_i j want hg
  split
  ·rename_i k hk
   rw[List.getElem?_map]
   cases hv:t[k]? with
   |none=>rfl
   |some v=>
    cases v with
    |d x=>rfl
    |tup cs=>
     cases cs with
     |nil=>rfl
     |cons c cs=>rfl
    |agg cs=>rfl
    |fn f cs=>rfl
    |_=>
     simp only [Option.map_some,V.kill,V.killC]
     cases V.freeC M _<;>rfl
  ·rfl
theorem killT_put (hc:x.kill M=x)(d:Option Tmp):killT M (putV t d x)=putV (killT M t) d x:=by
 rw[killT_eq,killT_eq]
 cases d with
 |none=>rfl
 |some k=>show(t.set k x).map _=(t.map _).set k x;rw[List.map_set,hc]
inductive Eff3 where
 |no
 |late
 |pin (hx:List Box)
 |mid (hb:List Box)
 |big (hx hx':List Box) (M:List Nat)
def Eff3.ok (W:List Nat)(h0 hh:List Box):Eff3→Prop
 | .no=>True
 | .late=>PreW W h0 hh
 | .pin hx=>hh=hx
 | .mid hb=>Pre hb hh
 | .big hx _ _=>hh=hx
def Eff3.run (hh:List Box):Eff3→List Box
 | .big _ hx' _=>hx'
 |_=>hh
def Eff3.km:Eff3→List Nat
 | .big _ _ M=>M
 |_=>[]
def SStep (P:Program)(En:Ent)(o:Oper)(t:List V)(hx:List Box)(M:List Nat)(x:V)(hx':List Box):Prop:=
 ∀t2,restr o (VSt.get ⟨t2,[]⟩)=restr o (VSt.get ⟨t,[]⟩)→ ∀(a:Act) (w:World) (K:Act→World→Prop) (Q:Exit→Act→World→Prop),SimE En ⟨t2,hx⟩ a w→
  (∀a' w',SimE En ⟨putV (killT M t2) o.dst x,hx'⟩ a' w'→K a' w')→o.wp P a w K Q
def Fact3 (P:Program)(C:CfgO)(En:Ent)(ops:Array Oper)(W Z:List Nat)(T:Nat→List Nat)(h0:List Box)(i:Nat)(o:Oper)(t:List V)(x:V):Eff3→Prop
 | .no=>wantV ops o t=some false∧x= .tup []
 | .late=>wantV ops o t=some true∧(Z= []∨(calmB Z x=true∧ ∀y∈o.op.operands.toList,calmB Z (VSt.get ⟨t,[]⟩ y)=true))∧ ∀h2,PreW W h0 h2→Gives P [] h2 h2 (restr o (VSt.get ⟨t,[]⟩)) o x
 | .pin hx=>wantV ops o t=some true∧pinI C ops i=true∧SStep P En o t hx [] x hx
 | .mid hb=>wantV ops o t=some true∧midI C ops i=true∧hb.length≤h0.length∧(∀j oj,ops[j]? =some oj→bigI C oj=true→isCallT C oj=true→edgeR ops 5 oj i=true∨edgeR ops 5 o j=true∨ ∀b∈T j,∀x,hb[b]? =some x→x= .gone)∧ ∀h2,Pre hb h2→Gives P [] h2 h2 (restr o (VSt.get ⟨t,[]⟩)) o x
 | .big hx hx' M=>wantV ops o t=some true∧bigI C o=true∧(∀b∈M,b∈Z)∧PreW W h0 hx∧PreW W h0 hx'∧SStep P En o t hx M x hx'∧h0.length≤hx.length∧(mkI o=true→M= []∧ ∃l,hx'=hx++l)∧(isCallT C o=true→M= []∧ ∀k,k < h0.length→k ∉ T i→hx'[k]? =hx[k]?)∧(isCallT C o=true→quietN ops i=true→hx'.length=hx.length∧ ∀l,SStep P En o t (hx++l) M x (hx'++l))∧(isAl o=true→ ∃l,hx'=hx++l∧ ∀hz,hz.length=hx.length→SStep P En o t hz [] x (hz++l))
theorem SStep.put {d:Option Tmp}{y:V}(hd: ∀k,d=some k→k ∉ o.looksAt ops):SStep P En o (putV t d y) hx M x hx'↔SStep P En o t hx M x hx':=by
 unfold SStep
 rw[restr_put hd]
theorem SStep.congr (he:restr o (VSt.get ⟨t2,[]⟩)=restr o (VSt.get ⟨t,[]⟩))(hs:SStep P En o t hx M x hx'):SStep P En o t2 hx M x hx':=by
 unfold SStep
 rw[he]
 exact hs
theorem calm_put {d:Option Tmp}{y:V}(hd: ∀k,d=some k→k ∉ o.looksAt ops):(∀q∈o.op.operands.toList,calmB Z (VSt.get ⟨putV t d y,[]⟩ q)=true)↔ ∀q∈o.op.operands.toList,calmB Z (VSt.get ⟨t,[]⟩ q)=true:=by
 have:=restr_put (x:=y) hd t []
 constructor<;>intro hh q hq<;>have:=restr_of this hq
 ·rw[←this];exact hh q hq
 ·rw[this];exact hh q hq
theorem Fact3.put {i:Nat}{d:Option Tmp}{y:V}(hd: ∀k,d=some k→k ∉ o.looksAt ops)(e:Eff3):Fact3 P C En ops W Z T h0 i o (putV t d y) x e↔Fact3 P C En ops W Z T h0 i o t x e:=by
 cases e<;>simp only [Fact3,wantV_put hd,restr_put hd,SStep.put hd,calm_put hd]
theorem Fact3.kill {i:Nat}{e:Eff3}(hM: ∀b∈M,b∈Z)(he:e= .no∨e= .late):Fact3 P C En ops W Z T h0 i o (killT M t) x e↔Fact3 P C En ops W Z T h0 i o t x e:=by
 rcases he with rfl|rfl
 ·simp only [Fact3,wantV_kill]
 ·simp only [Fact3,wantV_kill]
  cases Z with
  |nil=>
   have hM:M= []:=List.eq_nil_iff_forall_not_mem.2 fun b hb=>by simpa using hM b hb
   subst hM
   rfl
  |cons z zs=>
   constructor
   ·rintro⟨h1,h2,h3⟩
    rcases h2 with h2|⟨h2,h4⟩
    ·cases h2
    ·have e:=fun q hq=>get_calm_of (h4 q hq)
     refine⟨h1, .inr ⟨h2,fun q hq=>by rw[←e q hq];exact h4 q hq⟩,?_⟩
     rw[restr_eq e]at h3
     exact h3
   ·rintro⟨h1,h2,h3⟩
    rcases h2 with h2|⟨h2,h4⟩
    ·cases h2
    ·have e:=fun q hq=>get_calm hM (h4 q hq)
     refine⟨h1, .inr ⟨h2,fun q hq=>by rw[e q hq];exact h4 q hq⟩,?_⟩
     rw[restr_eq e]
     exact h3
theorem Fact3.calm {i:Nat}{e:Eff3}(hM: ∀b∈M,b∈Z)(he:e= .no∨e= .late)(hf:Fact3 P C En ops W Z T h0 i o t x e):x.kill M=x:=by
 rcases he with rfl|rfl
 ·rw[hf.2];rfl
 ·rcases hf.2.1 with h|h
  ·subst h
   have hM:M= []:=List.eq_nil_iff_forall_not_mem.2 fun b hb=>by simpa using hM b hb
   subst hM
   exact V.kill_nil x
  ·exact calm_kill hM h.1
def Out3 (P:Program)(C:CfgO)(En:Ent)(ops:Array Oper)(W Z:List Nat)(T:Nat→List Nat)(h0:List Box)(i:Nat)(o:Oper)(t:List V)(hh:List Box)(x:V)(t':List V)(hh':List Box):Prop:=
 ∃e,Fact3 P C En ops W Z T h0 i o t x e∧Eff3.ok W h0 hh e∧t'=putV (killT e.km t) o.dst x∧hh'=e.run hh
theorem swap_light {i j:Nat}{oi oj:Oper}{xi xj:V}{e1 e2:Eff3}(hap:oi.apart ops oj=true)(m1:e1.km= [])(m2:e2.km= [])(r1: ∀hh,e1.run hh=hh)(r2: ∀hh,e2.run hh=hh)
  (f1:Fact3 P C En ops W Z T h0 i oi t xi e1) (k1:Eff3.ok W h0 hh e1) (f2:Fact3 P C En ops W Z T h0 j oj (putV (killT e1.km t) oi.dst xi) xj e2) (k2:Eff3.ok W h0 (e1.run hh) e2):
  ∃t1 hh1,Out3 P C En ops W Z T h0 j oj t hh xj t1 hh1∧Out3 P C En ops W Z T h0 i oi t1 hh1 xi (putV (killT e2.km (putV (killT e1.km t) oi.dst xi)) oj.dst xj) (e2.run (e1.run hh)):=by
 obtain⟨a1,a2,a3⟩:=Oper.apart_spec hap
 rw[m1]at f2 ⊢
 rw[m2]
 have k: ∀t:List V,killT [] t=t:=fun _=>rfl
 rw[k]at f2
 rw[Fact3.put a1]at f2
 rw[r1]at k2 ⊢
 refine⟨_,_,⟨e2,f2,k2,rfl,rfl⟩,⟨e1,(by rw[m2,k];exact(Fact3.put a3 e1).2 f1),by rw[r2];exact k1,?_,by rw[r1]⟩⟩
 rw[m1,m2,k,k,k]
 exact(putV_comm a2 t xi xj)
theorem swap_big1 {i j:Nat}{oi oj:Oper}{xi xj:V}{e2:Eff3}(hap:oi.apart ops oj=true)(he:e2= .no∨e2= .late)
  (f1:Fact3 P C En ops W Z T h0 i oi t xi (.big hx hx' M)) (k1:hh=hx) (f2:Fact3 P C En ops W Z T h0 j oj (putV (killT M t) oi.dst xi) xj e2):
  ∃t1 hh1,Out3 P C En ops W Z T h0 j oj t hh xj t1 hh1∧Out3 P C En ops W Z T h0 i oi t1 hh1 xi (putV (putV (killT M t) oi.dst xi) oj.dst xj) hx':=by
 obtain⟨a1,a2,a3⟩:=Oper.apart_spec hap
 rw[Fact3.put a1,Fact3.kill f1.2.2.1 he]at f2
 subst k1
 have m2:e2.km= []:=by rcases he with rfl|rfl<;>rfl
 refine⟨_,_,⟨e2,f2,by rcases he with rfl|rfl<;>first|exact f1.2.2.2.1|exact trivial,rfl,rfl⟩,⟨.big hh hx' M,(by rw[m2];exact(Fact3.put a3 _).2 f1),by rcases he with rfl|rfl<;>rfl,?_,rfl⟩⟩
 rw[m2]
 show _=putV (killT M (putV t oj.dst xj)) oi.dst xi
 rw[killT_put (Fact3.calm f1.2.2.1 he f2)]
 exact putV_comm a2 _ xi xj
theorem swap_big2 {i j:Nat}{oi oj:Oper}{xi xj:V}{e1:Eff3}(hap:oi.apart ops oj=true)(he:e1= .no∨e1= .late)
  (f1:Fact3 P C En ops W Z T h0 i oi t xi e1) (f2:Fact3 P C En ops W Z T h0 j oj (putV t oi.dst xi) xj (.big hx hx' M)) (k2:hh=hx):
  ∃t1 hh1,Out3 P C En ops W Z T h0 j oj t hh xj t1 hh1∧Out3 P C En ops W Z T h0 i oi t1 hh1 xi (putV (killT M (putV t oi.dst xi)) oj.dst xj) hx':=by
 obtain⟨a1,a2,a3⟩:=Oper.apart_spec hap
 rw[Fact3.put a1]at f2
 subst k2
 have m1:e1.km= []:=by rcases he with rfl|rfl<;>rfl
 refine⟨_,_,⟨.big hh hx' M,f2,rfl,rfl,rfl⟩,⟨e1,((Fact3.put a3 e1).2 ((Fact3.kill f2.2.2.1 he).2 f1)),by rcases he with rfl|rfl<;>first|exact f2.2.2.2.2.1|exact trivial,?_,by rcases he with rfl|rfl<;>rfl⟩⟩
 rw[m1,killT_put (Fact3.calm f2.2.2.1 he f1)]
 exact putV_comm a2 _ xi xj
theorem pre_left {hb hx l:List Box}(hp:Pre hb (hx++l))(hl:hb.length≤hx.length):Pre hb hx:=fun k x hk=>by
 rcases hp k x hk with h1|h1
 ·exact .inl h1
 ·have hlt:=(List.getElem?_eq_some_iff.1 hk).1
  rw[List.getElem?_append,if_pos (by omega)]at h1
  exact .inr h1
theorem pre_right {hb hx l:List Box}(hp:Pre hb hx):Pre hb (hx++l):=fun k x hk=>by
 rcases hp k x hk with h1|h1
 ·exact .inl h1
 ·have hlt:=(List.getElem?_eq_some_iff.1 h1).1
  right
  rw[List.getElem?_append,if_pos (by omega)]
  exact h1
theorem swap_big1m {i j:Nat}{oi oj:Oper}{xi xj:V}{hb:List Box}(hap:oi.apart ops oj=true)(hmk:mkI oi=true)
  (f1:Fact3 P C En ops W Z T h0 i oi t xi (.big hx hx' M)) (k1:hh=hx) (f2:Fact3 P C En ops W Z T h0 j oj (putV (killT M t) oi.dst xi) xj (.mid hb)) (k2:Pre hb hx'):
  ∃t1 hh1,Out3 P C En ops W Z T h0 j oj t hh xj t1 hh1∧Out3 P C En ops W Z T h0 i oi t1 hh1 xi (putV (putV (killT M t) oi.dst xi) oj.dst xj) hx':=by
 obtain⟨a1,a2,a3⟩:=Oper.apart_spec hap
 obtain⟨rfl,l,rfl⟩:=f1.2.2.2.2.2.2.2.1 hmk
 have k: ∀t:List V,killT [] t=t:=fun _=>rfl
 rw[k]at f2 ⊢
 rw[Fact3.put a1]at f2
 subst k1
 refine⟨_,_,⟨.mid hb,f2,pre_left k2 (Nat.le_trans f2.2.2.1 f1.2.2.2.2.2.2.1),rfl,rfl⟩,⟨.big hh _ [],(Fact3.put a3 _).2 f1,rfl,?_,rfl⟩⟩
 exact putV_comm a2 t xi xj
theorem swap_big2m {i j:Nat}{oi oj:Oper}{xi xj:V}{hb:List Box}(hap:oi.apart ops oj=true)(hmk:mkI oj=true)
  (f1:Fact3 P C En ops W Z T h0 i oi t xi (.mid hb)) (k1:Pre hb hh) (f2:Fact3 P C En ops W Z T h0 j oj (putV t oi.dst xi) xj (.big hx hx' M)) (k2:hh=hx):
  ∃t1 hh1,Out3 P C En ops W Z T h0 j oj t hh xj t1 hh1∧Out3 P C En ops W Z T h0 i oi t1 hh1 xi (putV (killT M (putV t oi.dst xi)) oj.dst xj) hx':=by
 obtain⟨a1,a2,a3⟩:=Oper.apart_spec hap
 rw[Fact3.put a1]at f2
 obtain⟨rfl,l,rfl⟩:=f2.2.2.2.2.2.2.2.1 hmk
 subst k2
 exact⟨_,_,⟨.big hh _ [],f2,rfl,rfl,rfl⟩,⟨.mid hb,(Fact3.put a3 _).2 f1,pre_right k1,putV_comm a2 t xi xj,rfl⟩⟩
theorem pre_turn {hb hx hx':List Box}{n:Nat}{Ts:List Nat}(hT: ∀b∈Ts,∀x,hb[b]? =some x→x= .gone)(hl:hb.length≤n)(he: ∀k,k < n→k ∉ Ts→hx'[k]? =hx[k]?):Pre hb hx↔Pre hb hx':=by
 constructor
 ·intro hp k x hk
  by_cases hm:k∈Ts
  ·exact .inl (hT k hm x hk)
  ·rw[he k (by have:=(List.getElem?_eq_some_iff.1 hk).1;omega) hm];exact hp k x hk
 ·intro hp k x hk
  by_cases hm:k∈Ts
  ·exact .inl (hT k hm x hk)
  ·rw[←he k (by have:=(List.getElem?_eq_some_iff.1 hk).1;omega) hm];exact hp k x hk
theorem swap_big1c {i j:Nat}{oi oj:Oper}{xi xj:V}{hb:List Box}(hap:oi.apart ops oj=true)(hct:isCallT C oi=true)(hi:ops[i]? =some oi)(no1:edgeR ops 5 oj i=true→False)(no2:edgeR ops 5 oi j=true→False)
  (f1:Fact3 P C En ops W Z T h0 i oi t xi (.big hx hx' M)) (k1:hh=hx) (f2:Fact3 P C En ops W Z T h0 j oj (putV (killT M t) oi.dst xi) xj (.mid hb)) (k2:Pre hb hx'):
  ∃t1 hh1,Out3 P C En ops W Z T h0 j oj t hh xj t1 hh1∧Out3 P C En ops W Z T h0 i oi t1 hh1 xi (putV (putV (killT M t) oi.dst xi) oj.dst xj) hx':=by
 obtain⟨a1,a2,a3⟩:=Oper.apart_spec hap
 obtain⟨rfl,hturn⟩:=f1.2.2.2.2.2.2.2.2.1 hct
 have k: ∀t:List V,killT [] t=t:=fun _=>rfl
 rw[k]at f2 ⊢
 rw[Fact3.put a1]at f2
 subst k1
 have hT:=((f2.2.2.2.1 i oi hi f1.2.1 hct).resolve_left no2).resolve_left no1
 refine⟨_,_,⟨.mid hb,f2,(pre_turn hT f2.2.2.1 hturn).2 k2,rfl,rfl⟩,⟨.big hh _ [],(Fact3.put a3 _).2 f1,rfl,?_,rfl⟩⟩
 exact putV_comm a2 t xi xj
theorem swap_big2c {i j:Nat}{oi oj:Oper}{xi xj:V}{hb:List Box}(hap:oi.apart ops oj=true)(hct:isCallT C oj=true)(hj:ops[j]? =some oj)(no1:edgeR ops 5 oj i=true→False)(no2:edgeR ops 5 oi j=true→False)
  (f1:Fact3 P C En ops W Z T h0 i oi t xi (.mid hb)) (k1:Pre hb hh) (f2:Fact3 P C En ops W Z T h0 j oj (putV t oi.dst xi) xj (.big hx hx' M)) (k2:hh=hx):
  ∃t1 hh1,Out3 P C En ops W Z T h0 j oj t hh xj t1 hh1∧Out3 P C En ops W Z T h0 i oi t1 hh1 xi (putV (killT M (putV t oi.dst xi)) oj.dst xj) hx':=by
 obtain⟨a1,a2,a3⟩:=Oper.apart_spec hap
 rw[Fact3.put a1]at f2
 obtain⟨rfl,hturn⟩:=f2.2.2.2.2.2.2.2.2.1 hct
 subst k2
 have hT:=((f1.2.2.2.1 j oj hj f2.2.1 hct).resolve_left no1).resolve_left no2
 exact⟨_,_,⟨.big hh _ [],f2,rfl,rfl,rfl⟩,⟨.mid hb,(Fact3.put a3 _).2 f1,(pre_turn hT f1.2.2.1 hturn).1 k1,putV_comm a2 t xi xj,rfl⟩⟩
theorem isAl_mk (h:isAl o=true):mkI o=true∧isCallT C o=false:=by
 unfold isAl at h
 unfold mkI isCallT
 split at h
 ·rename_i hop
  rw[hop]
  exact⟨rfl,rfl⟩
 ·cases h
theorem preW_apl {W:List Nat}{h0 h2:List Box}(hp:PreW W h0 h2)(l:List Box):PreW W h0 (h2++l):=fun b x hb hx=>by
 have:=hp b x hb hx
 rw[List.getElem?_append_left (List.getElem?_eq_some_iff.1 this).1]
 exact this
theorem swap_bigs {i j:Nat}{oi oj:Oper}{xi xj:V}{hy hy':List Box}{M':List Nat}(hap:oi.apart ops oj=true)(hct:isCallT C oi=true)(hq:quietN ops i=true)(hal:isAl oj=true)
  (f1:Fact3 P C En ops W Z T h0 i oi t xi (.big hx hx' M)) (k1:hh=hx) (f2:Fact3 P C En ops W Z T h0 j oj (putV (killT M t) oi.dst xi) xj (.big hy hy' M')) (k2:hx'=hy):
  ∃t1 hh1,Out3 P C En ops W Z T h0 j oj t hh xj t1 hh1∧Out3 P C En ops W Z T h0 i oi t1 hh1 xi (putV (killT M' (putV (killT M t) oi.dst xi)) oj.dst xj) hy':=by
 obtain⟨a1,a2,a3⟩:=Oper.apart_spec hap
 have k: ∀t:List V,killT [] t=t:=fun _=>rfl
 obtain⟨w1,w2,w3,w4,w5,w6,w7,w8,w9,w10,w11⟩:=f1
 obtain⟨rfl,hturn⟩:=w9 hct
 obtain⟨hlen,hall⟩:=w10 hct hq
 rw[k]at f2 ⊢
 rw[Fact3.put a1]at f2
 obtain⟨v1,v2,v3,v4,v5,v6,v7,v8,v9,v10,v11⟩:=f2
 obtain⟨rfl,_⟩:=v8 (isAl_mk (C:=C) hal).1
 obtain⟨l,rfl,hmk⟩:=v11 hal
 subst k1
 subst k2
 have hmi:mkI oi=false:=by
  unfold isCallT at hct
  unfold mkI
  split<;>simp_all
 have hai:isAl oi=false:=by
  cases h:isAl oi with
  |false=>rfl
  |true=>rw[(isAl_mk (C:=C) h).2]at hct;cases hct
 refine⟨_,_,⟨.big hh (hh++l) [],⟨v1,v2,fun b hb=>by simp at hb,w4,preW_apl w4 l,hmk hh hlen.symm,w7,fun _=>⟨rfl,l,rfl⟩,(fun h=>by rw[(isAl_mk (C:=C) hal).2]at h;cases h),(fun h=>by rw[(isAl_mk (C:=C) hal).2]at h;cases h),fun _=>⟨l,rfl,fun hz hz'=>hmk hz (hz'.trans hlen.symm)⟩⟩,rfl,rfl,rfl⟩,⟨.big (hh++l) (hx'++l) [],?_,rfl,?_,rfl⟩⟩
 ·show Fact3 P C En ops W Z T h0 i oi (putV (killT [] t) oj.dst xj) xi (Eff3.big (hh++l) (hx'++l) [])
  rw[k,Fact3.put a3]
  refine⟨w1,w2,fun b hb=>by simp at hb,preW_apl w4 l,preW_apl w5 l,hall l,by rw[List.length_append];omega,(fun h=>by rw[hmi]at h;cases h),fun _=>⟨rfl,fun k hk hkT=> ?_⟩,fun _ _=>⟨by rw[List.length_append,List.length_append,hlen],fun l'=> ?_⟩,(fun h=>by rw[hai]at h;cases h)⟩
  ·rw[List.getElem?_append_left (by omega),List.getElem?_append_left (by omega)]
   exact hturn k hk hkT
  ·rw[List.append_assoc,List.append_assoc]
   exact hall _
 ·exact putV_comm a2 t xi xj
theorem Out3.swap {i j:Nat}{oi oj:Oper}{xi xj:V}{ti tj:List V}{hi' hj':List Box}(hap:oi.apart ops oj=true)(hbb:bigI C oi=true→bigI C oj=true→isCallT C oi=true∧isAl oj=true∧quietN ops i=true)(hbp:bigI C oi=true→pinI C ops j=true→False)(hpb:pinI C ops i=true→bigI C oj=true→False)(hbm:bigI C oi=true→mkI oi=false→isCallT C oi=false→midI C ops j=true→False)(hmb:midI C ops i=true→bigI C oj=true→mkI oj=false→isCallT C oj=false→False)
  (hoi:ops[i]? =some oi) (hoj:ops[j]? =some oj) (no1:edgeR ops 5 oj i=true→False) (no2:edgeR ops 5 oi j=true→False)
  (hi:Out3 P C En ops W Z T h0 i oi t hh xi ti hi') (hj:Out3 P C En ops W Z T h0 j oj ti hi' xj tj hj'):
  ∃t1 hh1,Out3 P C En ops W Z T h0 j oj t hh xj t1 hh1∧Out3 P C En ops W Z T h0 i oi t1 hh1 xi tj hj':=by
 obtain⟨e1,f1,k1,rfl,rfl⟩:=hi
 obtain⟨e2,f2,k2,rfl,rfl⟩:=hj
 cases e1 with
 |big hx hx' M=>cases e2 with
  |big=>exact swap_bigs hap (hbb f1.2.1 f2.2.1).1 (hbb f1.2.1 f2.2.1).2.2 (hbb f1.2.1 f2.2.1).2.1 f1 k1 f2 k2
  |pin=>exact(hbp f1.2.1 f2.2.1).elim
  |mid hb=>cases hm:mkI oi with
   |true=>exact swap_big1m hap hm f1 k1 f2 k2
   |false=>cases hct:isCallT C oi with
    |true=>exact swap_big1c hap hct hoi no1 no2 f1 k1 f2 k2
    |false=>exact(hbm f1.2.1 hm hct f2.2.1).elim
  |no=>exact swap_big1 hap (.inl rfl) f1 k1 f2
  |late=>exact swap_big1 hap (.inr rfl) f1 k1 f2
 |no=>cases e2 with
  |big=>exact swap_big2 hap (.inl rfl) f1 f2 k2
  |_=>exact swap_light hap rfl rfl (fun _=>rfl) (fun _=>rfl) f1 k1 f2 k2
 |late=>cases e2 with
  |big=>exact swap_big2 hap (.inr rfl) f1 f2 k2
  |_=>exact swap_light hap rfl rfl (fun _=>rfl) (fun _=>rfl) f1 k1 f2 k2
 |pin=>cases e2 with
  |big=>exact(hpb f1.2.1 f2.2.1).elim
  |_=>exact swap_light hap rfl rfl (fun _=>rfl) (fun _=>rfl) f1 k1 f2 k2
 |mid hb=>cases e2 with
  |big=>cases hm:mkI oj with
   |true=>exact swap_big2m hap hm f1 k1 f2 k2
   |false=>cases hct:isCallT C oj with
    |true=>exact swap_big2c hap hct hoj no1 no2 f1 k1 f2 k2
    |false=>exact(hmb f1.2.1 f2.2.1 hm hct).elim
  |_=>exact swap_light hap rfl rfl (fun _=>rfl) (fun _=>rfl) f1 k1 f2 k2
theorem Out3.wp {i:Nat}{t':List V}{hh':List Box}{a:Act}{w:World}(ho:Out3 P C En ops W Z T h0 i o t hh x t' hh')(hs:SimE En ⟨t,hh⟩ a w){K:Act→World→Prop}{Q:Exit→Act→World→Prop}
  (hK: ∀a' w',SimE En ⟨t',hh'⟩ a' w'→K a' w'):if Region.wanted o (yielded ops a.tmps)then o.wp P a w K Q else K (a.put o.dst undef) w:=by
 obtain⟨e,hf,hok,rfl,rfl⟩:=ho
 cases e with
 |no=>
  obtain⟨hw,rfl⟩:=hf
  rw[if_neg (by rw[wantV_sim hs hw];simp)]
  refine hK _ _ ?_
  obtain⟨g,hs⟩:=hs
  have:=hs.next (.refl hs.heap) (by simp [okM]) (.tup (w:=w) (g:=g) #[] [] rfl (by simp)) o.dst
  rw[next_kill]at this
  exact⟨g,this⟩
 |late=>
  rw[if_pos (wantV_sim hs hf.1)]
  have hg:=hf.2.2 hh hok
  rw[get_h t [] hh]at hg
  refine Gives.sim (s:=⟨t,hh⟩) hg.of_restr hs (by simp [okM]) fun a' w' hs'=>hK a' w' ?_
  rwa [next_kill]at hs'
 |pin hx=>
  have hok:hh=hx:=hok
  subst hok
  rw[if_pos (wantV_sim hs hf.1)]
  exact hf.2.2 t rfl a w K Q hs hK
 |mid hb=>
  rw[if_pos (wantV_sim hs hf.1)]
  have hg:=hf.2.2.2.2 hh hok
  rw[get_h t [] hh]at hg
  refine Gives.sim (s:=⟨t,hh⟩) hg.of_restr hs (by simp [okM]) fun a' w' hs'=>hK a' w' ?_
  rwa [next_kill]at hs'
 |big hx hx' M=>
  have hok:hh=hx:=hok
  subst hok
  rw[if_pos (wantV_sim hs hf.1)]
  exact hf.2.2.2.2.2.1 t rfl a w K Q hs hK
theorem big_spec (h:bigOK C ops=true){i j:Nat}{oi oj:Oper}(hi:ops[i]? =some oi)(hj:ops[j]? =some oj)(hij:i < j)(s1:bigI C oi=true)(s2:bigI C oj=true):edgeR ops 5 oj i=true∨(isCallT C oi=true∧isAl oj=true):=by
 have:=List.all_eq_true.1 h j (List.mem_range.2 (Array.getElem?_eq_some_iff.1 hj).1)
 rw[hj]at this
 simp only [s2,Bool.not_true,Bool.false_or]at this
 have:=List.all_eq_true.1 this i (List.mem_range.2 hij)
 rw[hi]at this
 simpa [s1]using this
theorem pin_spec {i j:Nat}{oi oj:Oper}(h:pinI C ops i=true)(hi:ops[i]? =some oi)(hj:ops[j]? =some oj)(s2:bigI C oj=true):edgeR ops 5 oj i=true∨edgeR ops 5 oi j=true:=by
 have:=List.all_eq_true.1 h j (List.mem_range.2 (Array.getElem?_eq_some_iff.1 hj).1)
 rw[hj,hi]at this
 simpa [s2]using this
theorem mid_spec {i j:Nat}{oi oj:Oper}(h:midI C ops i=true)(hi:ops[i]? =some oi)(hj:ops[j]? =some oj)(s2:bigI C oj=true)(s3:mkI oj=false)(s4:isCallT C oj=false):edgeR ops 5 oj i=true∨edgeR ops 5 oi j=true:=by
 have:=List.all_eq_true.1 h j (List.mem_range.2 (Array.getElem?_eq_some_iff.1 hj).1)
 rw[hj,hi]at this
 simpa [s2,s3,s4]using this
def lateI (ops:Array Oper)(i:Nat):Bool:=(List.range ops.size).all fun j=> !decide (i < j) || match ops[j]? with
 |some oj=>edgeR ops 5 oj i
 |none=>true
theorem late_spec {i j:Nat}{oj:Oper}(h:lateI ops i=true)(hj:ops[j]? =some oj)(hij:i < j):edgeR ops 5 oj i=true:=by
 have:=List.all_eq_true.1 h j (List.mem_range.2 (Array.getElem?_eq_some_iff.1 hj).1)
 rw[hj]at this
 simpa [hij]using this
def SPan (P:Program)(En:Ent)(o:Oper)(t:List V)(hx:List Box)(p:V)(hx':List Box):Prop:=
 ∀t2,restr o (VSt.get ⟨t2,[]⟩)=restr o (VSt.get ⟨t,[]⟩)→ ∀(a:Act) (w:World) (K:Act→World→Prop) (Q:Exit→Act→World→Prop),SimE En ⟨t2,hx⟩ a w→
  (∀e a' w',PanX En p hx' e a' w'→Q e a' w')→o.wp P a w K Q
def PanAt (P:Program)(C:CfgO)(En:Ent)(ops:Array Oper)(i:Nat)(o:Oper)(t:List V)(hh:List Box)(p:V)(h':List Box):Prop:=
 wantV ops o t=some true∧bigI C o=true∧mkI o=false∧lateI ops i=true∧SPan P En o t hh p h'
theorem PanAt.put {i:Nat}{d:Option Tmp}{y p:V}(hd: ∀k,d=some k→k ∉ o.looksAt ops):PanAt P C En ops i o (putV t d y) hh p h'↔PanAt P C En ops i o t hh p h':=by
 simp only [PanAt,wantV_put hd,SPan,restr_put hd]
def vAny3 (P:Program)(C:CfgO)(En:Ent)(ops:Array Oper)(W Z:List Nat)(T:Nat→List Nat)(h0:List Box)(K:List V→List Box→Prop)(Kp:V→List Box→Prop):Nat→Array Bool→List V→List Box→Prop
 |0,listed,t,hh=>Region.ready .any ops listed= []∧K t hh
 |fuel+1,listed,t,hh=>Region.ready .any ops listed≠[]∧ ∀i∈Region.ready .any ops listed,∃o,ops[i]? =some o∧((∃x t' hh',Out3 P C En ops W Z T h0 i o t hh x t' hh'∧vAny3 P C En ops W Z T h0 K Kp fuel (listed.setIfInBounds i true) t' hh')∨
  ∃p h',PanAt P C En ops i o t hh p h'∧Kp p h')
theorem vAny3_first {K:List V→List Box→Prop}{Kp:V→List Box→Prop}(hst:bigOK C ops=true){i:Nat}{oi:Oper}{xi:V}(hi:ops[i]? =some oi):
  ∀(fuel:Nat) (listed:Array Bool) (t ti:List V) (hh hhi:List Box),ClosedL ops listed→(∀j,j < i→listed.getD j true=true)→
   (∀j oj,ops[j]? =some oj→j≠i→listed.getD j true=false→(∀e∈oj.after,Region.binds .any e=true→e.on≠i)→oi.apart ops oj=true)→
   i∈Region.ready .any ops listed→Out3 P C En ops W Z T h0 i oi t hh xi ti hhi→
   vAny3 P C En ops W Z T h0 K Kp fuel (listed.setIfInBounds i true) ti hhi→vAny3 P C En ops W Z T h0 K Kp (fuel+1) listed t hh:=by
 intro fuel
 induction fuel with
 |zero=>
  intro listed t ti hh hhi _ _ _ hr ho H
  refine⟨fun h=>(by rw[h]at hr;cases hr),fun j hj=> ?_⟩
  by_cases hji:j=i
  ·subst hji;exact⟨oi,hi, .inl ⟨xi,ti,hhi,ho,H⟩⟩
  ·have:=ready_mono hj hji
   rw[H.1]at this;cases this
 |succ fuel ih=>
  intro listed t ti hh hhi hcl hmin hfree hr ho H
  refine⟨fun h=>(by rw[h]at hr;cases hr),fun j hj=> ?_⟩
  by_cases hji:j=i
  ·subst hji;exact⟨oi,hi, .inl ⟨xi,ti,hhi,ho,H⟩⟩
  ·obtain⟨oj,hoj,hcase⟩:=H.2 j (ready_mono hj hji)
   obtain⟨hjun,oj',hoj',hall⟩:=mem_ready.1 hj
   rw[hoj]at hoj';cases hoj'
   obtain⟨hiun,oi',hoi',halli⟩:=mem_ready.1 hr
   rw[hi]at hoi';cases hoi'
   have hnot: ∀e∈oj.after,Region.binds .any e=true→e.on≠i:=fun e he hb heq=>by
    have h1:=hall e he hb
    rw[heq,not_listed hr]at h1
    cases h1
   have hnoti: ∀e∈oi.after,Region.binds .any e=true→e.on≠j:=fun e he hb heq=>by
    have h1:=halli e he hb
    rw[heq,not_listed hj]at h1
    cases h1
   have no1:edgeR ops 5 oj i=true→False:=fun h=>by
    have:=edgeR_listed hcl 5 hall h
    rw[not_listed hr]at this;cases this
   have no2:edgeR ops 5 oi j=true→False:=fun h=>by
    have:=edgeR_listed hcl 5 halli h
    rw[not_listed hj]at this;cases this
   have hij:i < j:=by
    rcases Nat.lt_or_gt_of_ne hji with hlt|hgt
    ·have:=hmin j hlt;rw[hjun]at this;cases this
    ·exact hgt
   have hbb:bigI C oi=true→bigI C oj=true→isCallT C oi=true∧isAl oj=true∧quietN ops i=true:=fun s1 s2=>by
    rcases big_spec hst hi hoj hij s1 s2 with h|h
    ·exact(no1 h).elim
    ·exact⟨h.1,h.2,quietN_at hoj h.2 no1⟩
   rcases hcase with⟨xj,tj,hbj,hout,hrest⟩|⟨p,h',hpan,hkp⟩
   ·obtain⟨t1,hb1,o1,o2⟩:=Out3.swap (hfree j oj hoj hji hjun hnot) hbb
     (fun s1 he=>(pin_spec he hoj hi s1).elim no2 no1) (fun he s2=>(pin_spec he hi hoj s2).elim no1 no2)
     (fun s1 s3 s4 he=>(mid_spec he hoj hi s1 s3 s4).elim no2 no1) (fun he s2 s3 s4=>(mid_spec he hi hoj s2 s3 s4).elim no1 no2) hi hoj no1 no2 ho hout
    refine⟨oj,hoj, .inl ⟨xj,t1,hb1,o1,ih (listed.setIfInBounds j true) _ tj hb1 hbj (hcl.step hj) (fun k hk=>by rw[getD_set_ne true (fun e=>by subst e;omega)];exact hmin k hk) (fun k ok hk hki hun hno=> ?_) (ready_mono hr (Ne.symm hji)) o2 ?_⟩⟩
    ·refine hfree k ok hk hki ?_ hno
     by_cases hjk:j=k
     ·subst hjk;exact hjun
     ·rw[getD_set_ne true hjk]at hun;exact hun
    ·rw[Array.setIfInBounds_comm _ _ hji]
     exact hrest
   ·obtain⟨a1,_,_⟩:=Oper.apart_spec (hfree j oj hoj hji hjun hnot)
    obtain⟨e1,f1,k1,rfl,rfl⟩:=ho
    have fin:e1.km= []→e1.run hh=hh→ ∃o,ops[j]? =some o∧((∃x t' hh',Out3 P C En ops W Z T h0 j o t hh x t' hh'∧vAny3 P C En ops W Z T h0 K Kp (fuel+1) (listed.setIfInBounds j true) t' hh')∨ ∃p h',PanAt P C En ops j o t hh p h'∧Kp p h'):=fun m1 r1=>by
     rw[m1,r1]at hpan
     exact⟨oj,hoj, .inr ⟨p,h',(PanAt.put a1).1 hpan,hkp⟩⟩
    cases e1 with
    |big=>exact(by have:=(isAl_mk (C:=C) (hbb f1.2.1 hpan.2.1).2.1).1;rw[hpan.2.2.1]at this;cases this)
    |pin=>exact((pin_spec f1.2.1 hi hoj hpan.2.1).elim no1 no2).elim
    |mid=>exact fin rfl rfl
    |no=>exact fin rfl rfl
    |late=>exact fin rfl rfl
def vLex3 (P:Program)(C:CfgO)(En:Ent)(ops:Array Oper)(W Z:List Nat)(T:Nat→List Nat)(h0:List Box)(K:List V→List Box→Prop)(Kp:V→List Box→Prop):Nat→List Oper→List V→List Box→Prop
 |_,[],t,hh=>K t hh
 |k,o::os,t,hh=>(∃x t' hh',Out3 P C En ops W Z T h0 k o t hh x t' hh'∧vLex3 P C En ops W Z T h0 K Kp (k+1) os t' hh')∨ ∃p h',PanAt P C En ops k o t hh p h'∧Kp p h'
theorem vAny3_lex {K:List V→List Box→Prop}{Kp:V→List Box→Prop}(hst:bigOK C ops=true): ∀(l:List Oper) (k:Nat) (listed:Array Bool) (t:List V) (hh:List Box),ClosedL ops listed→(∀j,j < k→listed.getD j true=true)→(∀j,l[j]? =ops[k+j]?)→
  lexOK2 ops l.length k listed=true→vLex3 P C En ops W Z T h0 K Kp k l t hh→vAny3 P C En ops W Z T h0 K Kp l.length listed t hh
 | [],_,_,_,_,_,_,_,hB,h=>⟨by simpa [lexOK2]using hB,h⟩
 |o::l,k,listed,t,hh,hcl,hpre,hl,hB,h=>by
  have h0:ops[k]? =some o:=by simpa using(hl 0).symm
  simp only [List.length_cons,lexOK2,Bool.and_eq_true]at hB
  obtain⟨⟨hr,hf⟩,hB'⟩:=hB
  have hr:k∈Region.ready .any ops listed:=by simpa using hr
  rcases h with⟨x,t',hh',ho,h⟩|⟨p,h',hpan,hkp⟩
  ·refine vAny3_first hst h0 l.length listed t t' hh hh' hcl hpre (Region.free_spec h0 hf) hr ho
    (vAny3_lex hst l (k+1) _ _ _ (hcl.step hr) (fun j hj=> ?_) (fun j=>by have:=hl (j+1);simpa [Nat.add_assoc,Nat.add_comm 1 j]using this) hB' h)
   by_cases hjk:k=j
   ·subst hjk
    rw[Array.getD_eq_getD_getElem?,Array.getElem?_setIfInBounds]
    simp only [if_true]
    split<;>rfl
   ·rw[getD_set_ne true hjk];exact hpre j (by omega)
  ·refine⟨fun h=>(by rw[h]at hr;cases hr),fun j hj=> ?_⟩
   by_cases hjk:j=k
   ·subst hjk;exact⟨o,h0, .inr ⟨p,h',hpan,hkp⟩⟩
   ·exfalso
    obtain⟨hjun,oj,hoj,hall⟩:=mem_ready.1 hj
    have hkj:k < j:=by
     rcases Nat.lt_trichotomy j k with h1|h1|h1
     ·have:=hpre j h1;rw[hjun]at this;cases this
     ·exact(hjk h1).elim
     ·exact h1
    have:=edgeR_listed hcl 5 hall (late_spec hpan.2.2.2.1 hoj hkj)
    rw[not_listed hr]at this;cases this
theorem vAny3_sound {ro:Option Nat}{K:List V→List Box→Prop}{Kp:V→List Box→Prop}{Q:Exit→Act→World→Prop}(hnd: ∀(i:Nat) o,ops[i]? =some o→noDef o=true)(hK: ∀t hh a w,K t hh→SimE En ⟨t,hh⟩ a w→Q .normal a w)
  (hKp: ∀p hh e a w,Kp p hh→PanX En p hh e a w→Q e a w):
  ∀(fuel:Nat) (listed:Array Bool) (t:List V) (hh:List Box) (a:Act) (w:World),vAny3 P C En ops W Z T h0 K Kp fuel listed t hh→SimE En ⟨t,hh⟩ a w→wpAnyIn (Fw ro) 0 P .any ops Q fuel listed a w
 |0,listed,t,hh,a,w,⟨hno,hk⟩,hs=>⟨hno,hK t hh a w hk hs⟩
 |fuel+1,listed,t,hh,a,w,⟨hne,hall⟩,hs=>by
  refine⟨fun h=>(hne h).elim,fun i hi=> ?_⟩
  obtain⟨o,ho,hcase⟩:=hall i hi
  unfold wpOpIn
  simp only [ho]
  have h1:if Region.wanted o (yielded ops a.tmps)then o.wp P a w (wpAnyIn (Fw ro) 0 P .any ops Q fuel (listed.setIfInBounds i true)) Q else wpAnyIn (Fw ro) 0 P .any ops Q fuel (listed.setIfInBounds i true) (a.put o.dst undef) w:=by
   rcases hcase with⟨x,t',hh',hout,hrest⟩|⟨p,h',hpan,hkp⟩
   ·exact hout.wp (Q:=Q) hs (K:=wpAnyIn (Fw ro) 0 P .any ops Q fuel (listed.setIfInBounds i true)) fun a' w' hs'=>
     vAny3_sound hnd hK hKp fuel _ _ _ a' w' hrest hs'
   ·rw[if_pos (wantV_sim hs hpan.1)]
    exact hpan.2.2.2.2 t rfl a w _ Q hs fun e a' w' h=>hKp p h' e a' w' hkp h
  split
  ·rename_i hw;rw[if_pos hw]at h1;exact wpIn_of_wp (hnd i o ho) h1
  ·rename_i hw;rw[if_neg hw]at h1;exact⟨fun _ _=>trivial,h1⟩
theorem SStep.of_gives (hM:okM En.g.n En.M M=true)(hg:Gives P M hx hx' (restr o (VSt.get ⟨t,[]⟩)) o x):SStep P En o t hx M x hx':=by
 intro t2 he a w K Q hs hK
 rw[←he,get_h t2 [] hx]at hg
 refine Gives.sim (s:=⟨t2,hx⟩) hg.of_restr hs hM fun a' w' hs'=>hK a' w' ?_
 rwa [next_kill]at hs'
def frzF:List Box→List Nat→V→V
 |_,[],v=>v
 |h,b::bs,v=>match h[b]? with
  |some (.arr _ sz rows)=>frzF ((h.map (Box.frz b (.sl sz rows))).set b .gone) bs (V.frz b (.sl sz rows) v)
  |some (.cells (.ty _) vs)=>match allDs vs with
   |some cs=>frzF ((h.map (Box.frp b cs)).set b .gone) bs (V.frp b cs v)
   |none=>frzF h bs v
  |_=>frzF h bs v
theorem frz_t: ∀ {bs:List Nat} {h:List Box} {t:List V},(VSt.frz ⟨t,h⟩ bs).t=t.map (frzF h bs)
 | [],h,t=>by show t=_;rw[show frzF h []=id from rfl];simp
 |b::bs,h,t=>by
  have e:frzF h (b::bs)=fun v=>match h[b]? with
   |some (.arr _ sz rows)=>frzF ((h.map (Box.frz b (.sl sz rows))).set b .gone) bs (V.frz b (.sl sz rows) v)
   |some (.cells (.ty _) vs)=>match allDs vs with
    |some cs=>frzF ((h.map (Box.frp b cs)).set b .gone) bs (V.frp b cs v)
    |none=>frzF h bs v
   |_=>frzF h bs v:=rfl
  rw[e]
  unfold VSt.frz
  simp only
  cases hb:h[b]? with
  |none=>simp only [frz_t]
  |some bx=>cases bx with
   |arr e sz rows=>simp only [frz_t,List.map_map];rfl
   |cells t vs=>cases t with
    |ty t=>cases hc:allDs vs with
     |none=>simp only [hc,frz_t]
     |some cs=>simp only [hc,frz_t,List.map_map];rfl
    |_=>simp only [frz_t]
   |_=>simp only [frz_t]
theorem frzF_any: ∀ {bs:List Nat} {h:List Box},frzF h bs .any= .any
 | [],h=>rfl
 |b::bs,h=>by
  unfold frzF
  split
  ·exact frzF_any
  ·split<;>exact frzF_any
  ·exact frzF_any
theorem frz_get {bs:List Nat}{y:Operand}(he:VSt.get ⟨t2,h⟩ y=VSt.get ⟨t,h⟩ y):(VSt.frz ⟨t2,h⟩ bs).get y=(VSt.frz ⟨t,h⟩ bs).get y:=by
 cases y with
 |tmp k=>
  have he:t2.getD k .any=t.getD k .any:=he
  show(VSt.frz ⟨t2,h⟩ bs).t.getD k .any=(VSt.frz ⟨t,h⟩ bs).t.getD k .any
  rw[frz_t,frz_t]
  have aux: ∀t:List V,(t.map (frzF h bs)).getD k .any=frzF h bs (t.getD k .any):=fun t=>by
   rw[List.getD_eq_getElem?_getD,List.getD_eq_getElem?_getD,List.getElem?_map]
   cases t[k]? with
   |none=>exact frzF_any.symm
   |some v=>rfl
  rw[aux,aux,he]
 |const v=>rfl
 |func f=>rfl
 |global k=>rfl
end
section
variable (A : Sy) (P : Program) (C : CfgO)
def borrowT (hh:List Box)(t:List V)(o:Oper):Tree V:=match callOf P (VSt.frz ⟨t,hh⟩ (fzl ⟨t,hh⟩ o)).get o with
 |some (f,vs0)=>match C.inl.contains f,sigP P f with
  |false,some ts=>match canL P (parP P f) vs0 with
   |vs=>match vs.all V.pureB,shR P ts with
    |true,some ss=>match ss.all Sh.flat with
     |true=>callT A P f vs ts
     |false=> .fail
    |_,_=> .fail
  |_,_=> .fail
 |none=> .fail
def pinXT0 (hh:List Box)(t:List V)(o:Oper):Tree V:=match callOf P (VSt.get ⟨t,hh⟩) o with
 |some (f,vs0)=>match (canL P (parP P f) vs0).all V.pureB with
  |true=>opXT A P C hh (VSt.get ⟨t,hh⟩) o
  |false=>borrowT A P C hh t o
 |none=>opXT A P C hh (VSt.get ⟨t,hh⟩) o
def pinXT (hh:List Box)(t:List V)(o:Oper):Tree V:=match o.op,o.dst with
 | .slice st y lo hi none,some d=>match C.osl.contains d with
   |true=>oslT A P hh st (VSt.get ⟨t,hh⟩ y) (lo.map (VSt.get ⟨t,hh⟩)) (hi.map (VSt.get ⟨t,hh⟩))
   |false=>pinXT0 A P C hh t o
 |_,_=>pinXT0 A P C hh t o
def Box.fitK (c:Nat):Box→Bool
 | .cells _ vs=>vs.all fun v=>v.freeB [c]
 |_=>true
def V.isAt (b:Nat):V→Prop
 | .ptr c _=>c=b
 | .pml c _ _ _=>c=b
 |_=>False
def bigW (W:List Nat)(n0:Nat)(hh:List Box)(o:Oper)(ρ:Operand→V):Bool:=match o.op with
 | .store _ y _=>match ρ y with
   | .ptr b _=>W.contains b || decide (n0≤b)
   | .pml b _ _ _=>W.contains b || decide (n0≤b)
   |_=>false
 | .alloc _=>true
 | .buildSlice .. =>true
 | .call c=>match c with
   |⟨.builtin .append,⟨[y,_]⟩,⟨[t,t']⟩⟩=>decide (t'=t)&&match ρ y with
    | .own c=>(W.contains c || decide (n0≤c))&&hh.zipIdx.all fun xk=>W.contains xk.2 || decide (n0≤xk.2) || xk.1.fitK c
    | .nils=>true
    |_=>false
   |⟨.builtin .copy,⟨[y,_]⟩,⟨[_,_]⟩⟩=>match ρ y with
    | .own b=>W.contains b || decide (n0≤b)
    | .osl b _ _ _=>W.contains b || decide (n0≤b)
    |_=>false
   |_=>false
 | .mapUpdate _ y _ _=>match ρ y with
   | .map b=>W.contains b || decide (n0≤b)
   |_=>false
 |_=>false
end
section
variable {P : Program} {h h' h2 h0 hh hx hx' : List Box} {ρ ρ2 : Operand → V} {o : Oper} {x : V} {ops : Array Oper} {W Z M : List Nat} {T : Nat → List Nat} {t t2 : List V} {En : Ent} {E : Env} {C : CfgO}
theorem borrowT_sound (hE:E.Ok)(hG:EnvGood P E)(hk:(borrowT sy P C hh t o).run E=some x):SStep P En o t hh [] x hh:=by
 intro t2 he a w K Q hs hK
 unfold borrowT at hk
 generalize hL:fzl ⟨t,hh⟩ o=L at hk
 have hs1:SimE En (VSt.frz ⟨t2,hh⟩ L) a w:=hs.frzs
 rw[get_h t2 [] hh,get_h t [] hh]at he
 have hco:callOf P (VSt.frz ⟨t2,hh⟩ L).get o=callOf P (VSt.frz ⟨t,hh⟩ L).get o:=callOf_congr fun y hy=>frz_get (restr_of he hy)
 rw[←hco]at hk
 split at hk
 ·rename_i f vs hc1
  split at hk
  ·rename_i ts _ hsig
   simp only at hk
   generalize hcan:canL P (parP P f) vs=vc at hk
   split at hk
   ·rename_i ss hp hss
    split at hk
    ·rename_i hfl
     obtain⟨y,args,tys,hop,hy⟩:=callOf_some hc1 (fun f=>rfl)
     have hg:=sigP_some hsig
     obtain⟨q1,q2,q3⟩:=callT_sound hE hG hp hsig hk
     refine call_borrow hs hs1 hop hy (by rw[hcan];exact hp) hg (by rw[hcan];exact q1) (q3 ss hss hfl) fun a' w' hs'=>hK a' w' ?_
     rwa [next_kill]at hs'
    ·cases hk
   ·cases hk
  ·cases hk
 ·cases hk
theorem pinXT0_sound (hE:E.Ok)(hG:EnvGood P E)(hk:(pinXT0 sy P C hh t o).run E=some x):SStep P En o t hh [] x hh:=by
 have aux:(opXT sy P C hh (VSt.get ⟨t,hh⟩) o).run E=some x→SStep P En o t hh [] x hh:=fun h=>by
  have:=opXT_sound hE hG (fun f=>rfl) h hh (Pre.refl hh)
  rw[get_h t hh []]at this
  exact SStep.of_gives (by simp [okM]) this
 unfold pinXT0 at hk
 split at hk
 ·split at hk
  ·exact aux hk
  ·exact borrowT_sound hE hG hk
 ·exact aux hk
theorem pinXT_sound (hE:E.Ok)(hG:EnvGood P E)(hk:(pinXT sy P C hh t o).run E=some x):SStep P En o t hh [] x hh:=by
 unfold pinXT at hk
 split at hk
 ·rename_i st y lo hi d hop hd
  split at hk
  ·have e: ∀q,q∈o.op.operands.toList→VSt.get ⟨t,hh⟩ q=restr o (VSt.get ⟨t,hh⟩) q:=fun q hq=>(restr_at (fun f=>rfl) hq).symm
   have e1:lo.map (VSt.get ⟨t,hh⟩)=lo.map (restr o (VSt.get ⟨t,hh⟩)):=by cases lo with
    |none=>rfl
    |some q=>simp [e q (by simp [hop,Op.operands])]
   have e2:hi.map (VSt.get ⟨t,hh⟩)=hi.map (restr o (VSt.get ⟨t,hh⟩)):=by cases hi with
    |none=>rfl
    |some q=>simp [e q (by simp [hop,Op.operands])]
   rw[e y (by simp [hop,Op.operands]),e1,e2]at hk
   have:=oslT_sound (E:=E) hop hk
   rw[get_h t hh []]at this
   exact SStep.of_gives (by simp [okM]) this
  ·exact pinXT0_sound hE hG hk
 ·exact pinXT0_sound hE hG hk
theorem storeT_set {t:TypeId}{a v:V}{r:List Box}(hk:(storeT sy P h t a v).run E=some r): ∃b c,V.isAt b a∧r=h.set b c:=by
 unfold storeT at hk
 split at hk
 ·split at hk
  ·split at hk
   ·split at hk
    ·cases hk;exact⟨_,_,rfl,rfl⟩
    ·cases hk
   ·cases hk
  ·split at hk
   ·split at hk
    ·split at hk
     ·obtain⟨hi,hk⟩:=chk_some hk;cases hk;exact⟨_,_,rfl,rfl⟩
     ·cases hk
    ·cases hk
   ·cases hk
  ·cases hk
 ·cases hk
theorem preW_apl2 (hp:PreW W h0 hh)(l:List Box):PreW W h0 (hh++l):=fun k x hk hx=>by
 have:=hp k x hk hx
 rw[List.getElem?_append,if_pos (List.getElem?_eq_some_iff.1 this).1];exact this
theorem preW_set2 {b:Nat}(hb:(W.contains b || decide (h0.length≤b))=true)(hp:PreW W h0 hh)(c:Box):PreW W h0 (hh.set b c):=fun k x hk hx=>by
 have hlt:=(List.getElem?_eq_some_iff.1 hx).1
 have hne:b≠k:=fun e=>by
  subst e
  simp only [Bool.or_eq_true,List.contains_eq_mem,decide_eq_true_eq]at hb
  rcases hb with h1|h1
  ·exact hk h1
  ·omega
 rw[List.getElem?_set,if_neg hne];exact hp k x hk hx
theorem fitK_kill {c:Nat}{b:Box}(h:b.fitK c=true):b.kill [c]=b:=by
 cases b with
 |cells t vs=>
  show Box.cells t (vs.map _)=_
  have:vs.map (V.kill [c])=vs.map id:=List.map_congr_left fun v hv=>by
   have hf:=List.all_eq_true.1 h v hv
   have aux: ∀cs:List V,cs.all (V.freeC [c])=true→cs.map (V.killC [c])=cs:=fun cs hc=>by
    have:cs.map (V.killC [c])=cs.map id:=List.map_congr_left fun u hu=>by
     have:=List.all_eq_true.1 hc u hu
     simp [V.killC,this]
    simpa using this
   cases v with
   |agg cs=>exact congrArg V.agg (aux cs hf)
   |tup cs=>exact congrArg V.tup (aux cs hf)
   |fn f cs=>exact congrArg (V.fn f) (aux cs hf)
   |any=>rfl
   |nils=>rfl
   |d x=>rfl
   |pel cs=>rfl
   |nilp=>rfl
   |nilf=>rfl
   |ifn b=>rfl
   |ifc t cs=>rfl
   |ifo t b cs=>rfl
   |own b=>exact congrArg (fun q=>bif q then V.own b else .any) hf
   |map b=>exact congrArg (fun q=>bif q then V.map b else .any) hf
   |ptr b off=>exact congrArg (fun q=>bif q then V.ptr b off else .any) hf
   |mv f b off=>exact congrArg (fun q=>bif q then V.mv f b off else .any) hf
   |ifp f b off=>exact congrArg (fun q=>bif q then V.ifp f b off else .any) hf
   |pml b sz i off=>exact congrArg (fun q=>bif q then V.pml b sz i off else .any) hf
   |yld b R=>exact congrArg (fun q=>bif q then V.yld b R else .any) hf
   |osl b s l n=>exact congrArg (fun q=>bif q then V.osl b s l n else .any) hf
  rw[this];simp
 |_=>rfl
end
section
variable (A : Sy) (P : Program) (C : CfgO)
def bigT (h:List Box)(ρ:Operand→V)(o:Oper):Tree (List Nat × List Box × V):=match o.op with
 | .alloc t=>match zeroO P t with
   |some z=>match (ofConst z).cellsV with
    |some vs=> .ret ([],h++[.cells (.ty t) vs], .ptr h.length 0)
    |none=> .fail
   |none=> .fail
 | .store t y z=>(storeT A P h t (ρ y) (ρ z)).bind fun h'=> .ret ([],h', .any)
 | .buildSlice t n parts=>match litV P t n (parts.toList.map fun q=>(q.1,ρ q.2)),(parts.toList.all fun q=>(ρ q.2).liveC h)with
   |some (e,sz,vs),true=>match shOf P 9 e with
    |some ss=>match rowsOf ss sz n vs,decide (n≤16777216)with
     |some rows,true=> .ret ([],h++[.arr e sz rows], .own h.length)
     |_,_=> .fail
    |none=> .fail
   |_,_=> .fail
 | .call c=>match c with
   |⟨.builtin .append,⟨[y,z]⟩,⟨[t,t']⟩⟩=>match decide (t'=t)with
    |true=>appendT A P h t (ρ y) (ρ z)
    |false=> .fail
   |⟨.builtin .copy,⟨[y,z]⟩,⟨[t,_]⟩⟩=>(copyT A P h t (ρ y) (ρ z)).bind fun r=> .ret ([],r.1,r.2)
   |_=> .fail
 | .mapUpdate t y z r=>(putT A P h t (ρ y) (ρ z) (ρ r)).bind fun h'=> .ret ([],h', .any)
 |_=> .fail
end
section
variable {P : Program} {h h' h2 h0 hh hx hx' : List Box} {ρ ρ2 : Operand → V} {o : Oper} {x : V} {ops : Array Oper} {W Z M : List Nat} {T : Nat → List Nat} {t t2 : List V} {En : Ent} {E : Env} {C : CfgO} {r : List Nat × List Box × V}
theorem copyT_set {t:TypeId}{v w:V}{r:List Box × V}(hk:(copyT sy P h t v w).run E=some r): ∃b c,((v= .own b)∨ ∃sz lo n,v= .osl b sz lo n)∧r.1=h.set b c:=by
 unfold copyT at hk
 split at hk
 ·rename_i e b lo n news hel hd hz
  split at hk
  ·obtain⟨hf,hk⟩:=chk_some hk
   cases hk
   refine⟨b,_,?_,rfl⟩
   unfold dstT at hd
   split at hd
   ·split at hd
    ·cases hd;exact .inl rfl
    ·cases hd
   ·cases hd;exact .inr ⟨_,_,_,rfl⟩
   ·cases hd
  ·cases hk
 ·cases hk
theorem putT_set {t:TypeId}{a q v:V}{r:List Box}(hk:(putT sy P h t a q v).run E=some r): ∃b c,a= .map b∧r=h.set b c:=by
 unfold putT at hk
 split at hk
 ·split at hk
  ·split at hk
   ·cases hk;exact⟨_,_,rfl,rfl⟩
   ·cases hk
  ·cases hk
 ·cases hk
theorem bigT_sound (hE:E.Ok)(he: ∀y,y∈o.op.operands.toList→ρ y=ρ2 y)(hk:(bigT sy P h ρ o).run E=some r):Gives P r.1 h r.2.1 ρ2 o r.2.2:=by
 unfold bigT at hk
 split at hk
 ·rename_i t hop
  split at hk
  ·rename_i z hz
   split at hk
   ·rename_i vs hv;cases hk;exact gives_alloc hop hz hv
   ·cases hk
  ·cases hk
 ·rename_i t y z hop
  rw[he y (by simp [hop,Op.operands]),he z (by simp [hop,Op.operands])]at hk
  obtain⟨h1,q1,hk⟩:=run_bind_some hE hk
  cases hk
  exact storeT_sound hop q1
 ·rename_i t n parts hop
  have e1:(parts.toList.map fun q=>(q.1,ρ q.2))=parts.toList.map fun q=>(q.1,ρ2 q.2):=List.map_congr_left fun q hq=>by
   rw[he q.2 (by simp only [hop,Op.operands];exact List.mem_map.2 ⟨q,hq,rfl⟩)]
  have e2:(parts.toList.all fun q=>(ρ q.2).liveC h)=parts.toList.all fun q=>(ρ2 q.2).liveC h:=by
   rw[Bool.eq_iff_iff,List.all_eq_true,List.all_eq_true]
   refine⟨fun hh q hq=> ?_,fun hh q hq=> ?_⟩
   ·rw[←he q.2 (by simp only [hop,Op.operands];exact List.mem_map.2 ⟨q,hq,rfl⟩)];exact hh q hq
   ·rw[he q.2 (by simp only [hop,Op.operands];exact List.mem_map.2 ⟨q,hq,rfl⟩)];exact hh q hq
  rw[e1,e2]at hk
  split at hk
  ·rename_i e sz vs hlit hl
   split at hk
   ·rename_i ss hss
    split at hk
    ·rename_i rows hr hn
     cases hk
     exact gives_buildSlice hop hlit hl hr (by have:=of_decide_eq_true hn;simp only [maxLen];omega)
    ·cases hk
   ·cases hk
  ·cases hk
 ·rename_i c hop
  split at hk
  ·rename_i y z t t'
   rw[he y (by simp [hop,Op.operands,Call.operands]),he z (by simp [hop,Op.operands,Call.operands])]at hk
   split at hk
   ·rename_i ht
    have ht:=of_decide_eq_true ht
    subst ht
    exact appendT_sound hop rfl hk
   ·cases hk
  ·rename_i y z t t'
   rw[he y (by simp [hop,Op.operands,Call.operands]),he z (by simp [hop,Op.operands,Call.operands])]at hk
   obtain⟨q,q1,hk⟩:=run_bind_some hE hk
   cases hk
   exact copyT_sound hop q1
  ·cases hk
 ·rename_i t y z q hop
  rw[he y (by simp [hop,Op.operands]),he z (by simp [hop,Op.operands]),he q (by simp [hop,Op.operands])]at hk
  obtain⟨h1,q1,hk⟩:=run_bind_some hE hk
  cases hk
  exact putT_sound (.inl hop) q1
 ·cases hk
theorem bigT_pre (hE:E.Ok)(hk:(bigT sy P hh ρ o).run E=some r)(hw:bigW W h0.length hh o ρ=true)(hp:PreW W h0 hh):PreW W h0 r.2.1:=by
 unfold bigT at hk
 split at hk
 ·split at hk
  ·split at hk
   ·cases hk;exact preW_apl2 hp _
   ·cases hk
  ·cases hk
 ·rename_i t y z hop
  obtain⟨h1,q1,hk⟩:=run_bind_some hE hk
  cases hk
  obtain⟨b,c,hb,rfl⟩:=storeT_set q1
  unfold bigW at hw
  rw[hop]at hw
  simp only at hw
  split at hw
  ·rename_i b' off hy
   rw[hy]at hb
   have hb:b'=b:=hb
   subst hb
   exact preW_set2 hw hp c
  ·rename_i b' sz i off hy
   rw[hy]at hb
   have hb:b'=b:=hb
   subst hb
   exact preW_set2 hw hp c
  ·cases hw
 ·split at hk
  ·split at hk
   ·split at hk
    ·cases hk;exact preW_apl2 hp _
    ·cases hk
   ·cases hk
  ·cases hk
 ·rename_i c hop
  split at hk
  ·rename_i y z t t'
   unfold bigW at hw
   rw[hop]at hw
   simp only [Bool.and_eq_true]at hw
   obtain⟨ht,hw⟩:=hw
   rw[ht]at hk
   simp only at hk
   unfold appendT at hk
   split at hk
   ·split at hk
    ·split at hk
     ·rename_i c hy
      rw[hy]at hw
      simp only [Bool.and_eq_true]at hw
      split at hk
      ·split at hk
       ·obtain⟨hf,hk⟩:=chk_some hk
        cases hk
        show PreW W h0 ((hh.map (Box.kill [c])).set c _)
        refine preW_set2 hw.1 (fun k x hk hx=> ?_) _
        have h1:=hp k x hk hx
        have hlt:=(List.getElem?_eq_some_iff.1 hx).1
        have h2:=List.all_eq_true.1 hw.2 (x,k) (by
         rw[List.mem_zipIdx_iff_getElem?];exact h1)
        simp only [Bool.or_eq_true,List.contains_eq_mem,decide_eq_true_eq]at h2
        have hf:x.fitK c=true:=by
         rcases h2 with(h2|h2)|h2
         ·exact absurd h2 hk
         ·omega
         ·exact h2
        rw[List.getElem?_map,h1,Option.map_some,fitK_kill hf]
       ·cases hk
      ·cases hk
     ·obtain⟨hf,hk⟩:=chk_some hk
      cases hk
      exact preW_apl2 hp _
     ·cases hk
    ·cases hk
   ·cases hk
  ·rename_i y z t t'
   obtain⟨q,q1,hk⟩:=run_bind_some hE hk
   cases hk
   obtain⟨b,c,hb,hq⟩:=copyT_set q1
   unfold bigW at hw
   rw[hop]at hw
   simp only at hw
   show PreW W h0 q.1
   rw[hq]
   rcases hb with hb|⟨_,_,_,hb⟩
   ·rw[hb]at hw;exact preW_set2 hw hp c
   ·rw[hb]at hw;exact preW_set2 hw hp c
  ·cases hk
 ·rename_i t y z q hop
  obtain⟨h1,q1,hk⟩:=run_bind_some hE hk
  cases hk
  obtain⟨b,c,hb,rfl⟩:=putT_set q1
  unfold bigW at hw
  rw[hop]at hw
  simp only [hb]at hw
  exact preW_set2 hw hp c
 ·cases hk
end
section
variable (A : Sy) (P : Program) (C : CfgO)
def quietB (L:List Nat)(v:V)(h':List Box):Bool:=decide (h'.length=L.length)&&v.scB L.length&&h'.all (Box.scB L.length)
def callBT (ent:Callee→List V→List Box→Tree (List Nat × V × List Box))(qf:Bool)(W Tk:List Nat)(n1:Nat)(t:List V)(hh:List Box)(o:Oper):Tree (Option V × List Box × V):=match callOf P (VSt.get ⟨t,hh⟩) o with
 |some (f,vs)=>match C.inl.contains f,sigP P f with
  |true,some _=>forceSp (reachV hh [] vs) fun L=>match reachOK hh L vs&&L.all (fun b=>(W.contains b&&Tk.contains b) || decide (n1≤b))with
   |true=>(ent (.fn f) (vs.map (V.ren (tau L))) (smallH hh L)).bind fun r=>match r.1 with
    | []=>match panOf r.2.1 with
      |none=>match !qf || quietB L r.2.1 r.2.2 with
       |true=> .ret (none,amongH hh L [] r.2.2,r.2.1.ren (ext L hh.length))
       |false=> .fail
      |some p=> .ret (some (p.ren (ext L hh.length)),amongH hh L [] r.2.2, .any)
    |_=> .fail
   |false=> .fail
  |_,_=>match qf with
   |true=> .fail
   |false=>(pinXT A P C hh t o).bind fun x=> .ret (none,hh,x)
 |none=> .fail
def callBox (ops:Array Oper)(s:VSt)(o:Oper):List Nat:=match o.op with
 | .call ⟨.value (.tmp y),args,_⟩=>reachV s.h [] ((addrV P ops s 12 (.tmp y)).toList++args.toList.filterMap (addrV P ops s 12))
 | .call ⟨.value (.func f),args,_⟩=>match C.inl.contains f with
   |true=>reachV s.h [] (args.toList.filterMap (addrV P ops s 12))
   |false=>[]
 |_=>[]
def isApp (o:Oper):Bool:=match o.op with
 | .call ⟨.builtin .append,_,_⟩=>true
 |_=>false
def isMint (o:Oper):Bool:=match o.op with
 | .buildSlice .. =>true
 |_=>isApp o
def pref (ops:Array Oper)(k:Nat):Array Oper:=(ops.toList.take k).toArray
def copyBox (ops:Array Oper)(s:VSt)(o:Oper):List Nat:=match o.op with
 | .call ⟨.builtin .copy,⟨[.tmp y,_]⟩,_⟩=>match ops.toList.find? fun q=>q.dst == some y with
   |some q=>match q.op with
    | .slice _ z _ _ _=>match addrV P ops s 12 z with
      |some (.own b)=>[b]
      |_=>[]
    | .move z=>match addrV P ops s 12 z with
      |some (.own b)=>[b]
      |some (.osl b _ _ _)=>[b]
      |_=>[]
    |_=>[]
   |none=>[]
 |_=>[]
def isCopy (o:Oper):Bool:=match o.op with
 | .call ⟨.builtin .copy,_,_⟩=>true
 | .mapUpdate .. =>true
 |_=>false
def appBox (ops:Array Oper)(s:VSt)(o:Oper):List Nat:=match o.op with
 | .call ⟨.builtin .append,⟨[y,_]⟩,_⟩=>match addrV P ops s 12 y with
   |some (.own b)=>[b]
   |_=>[]
 |_=>[]
def bigZ (ops:Array Oper)(s:VSt):List Nat:=match ops.any isApp with
 |true=>(List.range ops.size).map (s.h.length+ ·)++ops.toList.zipIdx.flatMap fun ok=>appBox P (pref ops ok.2) s ok.1
 |false=>[]
def midW (ops:Array Oper)(Ts:List (List Nat))(k:Nat)(o:Oper):List Nat:=(List.range ops.size).flatMap fun j=>match ops[j]? with
 |some oj=>match bigI C oj&&isCallT C oj&& !edgeR ops 5 oj k&& !edgeR ops 5 o j with
  |true=>Ts.getD j []
  |false=>[]
 |none=>[]
def calmO (Z:List Nat)(o:Oper)(t:List V)(x:V):Bool:=Z.isEmpty || (calmB Z x&&o.op.operands.toList.all fun y=>calmB Z (VSt.get ⟨t,[]⟩ y))
def pre3T (ent:Callee→List V→List Box→Tree (List Nat × V × List Box))(ops:Array Oper)(W Z:List Nat)(Ts:List (List Nat))(h0:List Box)(n0:Nat)(M0:List Nat):Nat→List Oper→List V→List Box→Tree (Option V × List V × List Box)
 |_,[],t,hh=> .ret (none,t,hh)
 |k,o::os,t,hh=>guardT ops o t (fun t=>match bigI C o with
   |true=>match isCallT C o with
    |true=>(callBT A P C ent (quietN ops k) W (Ts.getD k []) h0.length t hh o).bind fun r=>match r.1 with
     |none=>forceL (putV t o.dst r.2.2) fun t=>forceH r.2.1 fun hh=>pre3T ent ops W Z Ts h0 n0 M0 (k+1) os t hh
     |some p=>match lateI ops k with
      |true=> .ret (some p,t,r.2.1)
      |false=> .fail
    |false=>(bigT A P hh (VSt.get ⟨t,hh⟩) o).bind fun r=>match okM n0 M0 r.1&&r.1.all Z.contains&&bigW W h0.length hh o (VSt.get ⟨t,hh⟩)with
     |true=>forceL (putV (killT r.1 t) o.dst r.2.2) fun t=>forceH r.2.1 fun hh=>pre3T ent ops W Z Ts h0 n0 M0 (k+1) os t hh
     |false=> .fail
   |false=>match pinI C ops k,midI C ops k with
    |true,_=>(pinXT A P C hh t o).bind fun x=>forceL (putV t o.dst x) fun t=>pre3T ent ops W Z Ts h0 n0 M0 (k+1) os t hh
    |false,true=>(opXT A P C (hideB (hh.take h0.length) (midW C ops Ts k o)) (VSt.get ⟨t,[]⟩) o).bind fun x=>forceL (putV t o.dst x) fun t=>pre3T ent ops W Z Ts h0 n0 M0 (k+1) os t hh
    |false,false=>(opXT A P C (hideB h0 W) (VSt.get ⟨t,[]⟩) o).bind fun x=>match calmO Z o t x with
     |true=>forceL (putV t o.dst x) fun t=>pre3T ent ops W Z Ts h0 n0 M0 (k+1) os t hh
     |false=> .fail)
  (fun t=>forceL (putV t o.dst (.tup [])) fun t=>pre3T ent ops W Z Ts h0 n0 M0 (k+1) os t hh)
def drawOK3 (ops:Array Oper):Bool:=(decide (2≤(ops.toList.filter (bigI C)).length) || ops.any (isCallT C) || ops.any isCopy)&&bigOK C ops&&lexOK2 ops ops.size 0 (Array.replicate ops.size false)
variable (ent : Callee → List V → List Box → Tree (List Nat × V × List Box)) (n0 : Nat) (M0 : List Nat)
def stopI (o:Oper):Bool:=match o.dst with
 |some d=>C.stop.contains d
 |none=>false
def drawT1 (ops:Array Oper)(s:VSt):Tree (Option V × VSt):=match (!drawOKs C ops || (ops.any isMint&& !ops.any (stopI C)))&&drawOK3 C ops with
 |true=>forceS (iceT P C ops s) fun s=>forceSp (ops.toList.zipIdx.flatMap fun ok=>stBox P (pref ops ok.2) s ok.1++appBox P (pref ops ok.2) s ok.1++callBox P C (pref ops ok.2) s ok.1++copyBox P (pref ops ok.2) s ok.1) fun W=>forceSp (bigZ P ops s) fun Z=>forceSp (ops.toList.zipIdx.map fun ok=>callBox P C (pref ops ok.2) s ok.1) fun Ts=>(pre3T A P C ent ops W Z Ts s.h n0 M0 0 ops.toList s.t s.h).bind fun r=> .ret (r.1,⟨r.2.1,r.2.2⟩)
 |false=>drawT0 A P C ent n0 M0 ops s
def drawT (ops:Array Oper)(s:VSt):Tree (Option V × VSt):=match ops.toList.all noDef with
 |true=>drawT1 A P C ent n0 M0 ops s
 |false=> .fail
end
section
variable {P : Program} {h h' h2 h0 hh hx hx' : List Box} {ρ ρ2 : Operand → V} {o : Oper} {x : V} {ops : Array Oper} {W Z M : List Nat} {T : Nat → List Nat} {t t2 : List V} {En : Ent} {E : Env} {C : CfgO}
theorem calmO_spec (h:calmO Z o t x=true):Z= []∨(calmB Z x=true∧ ∀y∈o.op.operands.toList,calmB Z (VSt.get ⟨t,[]⟩ y)=true):=by
 unfold calmO at h
 rw[Bool.or_eq_true,Bool.and_eq_true]at h
 rcases h with h|⟨h1,h2⟩
 ·exact .inl (by simpa using h)
 ·exact .inr ⟨h1,fun y hy=>List.all_eq_true.1 h2 y hy⟩
theorem bigT_mk {r:List Nat × List Box × V}(hE:E.Ok)(hk:(bigT sy P h ρ o).run E=some r)(hm:mkI o=true):r.1= []∧ ∃l,r.2.1=h++l:=by
 unfold bigT at hk
 split at hk
 ·split at hk
  ·split at hk
   ·cases hk;exact⟨rfl,_,rfl⟩
   ·cases hk
  ·cases hk
 ·rename_i hop;simp [mkI,hop]at hm
 ·split at hk
  ·split at hk
   ·split at hk
    ·cases hk;exact⟨rfl,_,rfl⟩
    ·cases hk
   ·cases hk
  ·cases hk
 ·rename_i hop;simp [mkI,hop]at hm
 ·rename_i hop;simp [mkI,hop]at hm
 ·cases hk
theorem bigT_al {r:List Nat × List Box × V}(hE:E.Ok)(hk:(bigT sy P hh (VSt.get ⟨t,hh⟩) o).run E=some r)(hm:isAl o=true): ∃l,r.2.1=hh++l∧ ∀hz,hz.length=hh.length→SStep P En o t hz [] r.2.2 (hz++l):=by
 unfold bigT at hk
 split at hk
 ·rename_i t' hop
  split at hk
  ·rename_i z hz
   split at hk
   ·rename_i vs hv
    cases hk
    refine⟨_,rfl,fun hz' hl=> ?_⟩
    have:=gives_alloc (P:=P) (h:=hz') (ρ:=restr o (VSt.get ⟨t,[]⟩)) hop hz hv
    rw[hl]at this
    exact SStep.of_gives (by simp [okM]) this
   ·cases hk
  ·cases hk
 all_goals (rename_i hop;simp [isAl,hop]at hm)
theorem bigT_len {r:List Nat × List Box × V}(hE:E.Ok)(hk:(bigT sy P h ρ o).run E=some r):h.length≤r.2.1.length:=by
 unfold bigT at hk
 split at hk
 ·split at hk
  ·split at hk
   ·cases hk;simp
   ·cases hk
  ·cases hk
 ·obtain⟨h1,q1,hk⟩:=run_bind_some hE hk
  cases hk
  obtain⟨b,c,hb,rfl⟩:=storeT_set q1
  simp
 ·split at hk
  ·split at hk
   ·split at hk
    ·cases hk;simp
    ·cases hk
   ·cases hk
  ·cases hk
 ·split at hk
  ·split at hk
   ·unfold appendT at hk
    split at hk
    ·split at hk
     ·split at hk
      ·split at hk
       ·split at hk
        ·obtain⟨hf,hk⟩:=chk_some hk;cases hk;simp
        ·cases hk
       ·cases hk
      ·obtain⟨hf,hk⟩:=chk_some hk;cases hk;simp
      ·cases hk
     ·cases hk
    ·cases hk
   ·cases hk
  ·obtain⟨q,q1,hk⟩:=run_bind_some hE hk
   cases hk
   obtain⟨b,c,_,hq⟩:=copyT_set q1
   show h.length≤q.1.length
   rw[hq];simp
  ·cases hk
 ·obtain⟨h1,q1,hk⟩:=run_bind_some hE hk
  cases hk
  obtain⟨b,c,_,rfl⟩:=putT_set q1
  simp
 ·cases hk
theorem among_get {L M':List Nat}{h h':List Box}{k:Nat}{x:Box}(hx:h[k]? =some x)(hL:k ∉ L):(amongH h L M' h')[k]? =some (x.kill M'):=by
 have hk:=(List.getElem?_eq_some_iff.1 hx).1
 unfold amongH
 rw[List.getElem?_append_left (by simpa using hk),List.getElem?_map,List.getElem?_zipIdx,hx]
 simp only [Option.map_some,Nat.zero_add]
 cases hq:L.idxOf? k with
 |none=>rfl
 |some i=>exact absurd (List.mem_of_getElem? (idxOf_some hq)) hL
mutual
theorem V.ren_congr {σ τ:Nat→Nat}{n:Nat}(he: ∀i,i < n→σ i=τ i): ∀ {v:V},v.scB n=true→v.ren σ=v.ren τ
 | .own b,h=>by simp only [V.ren];rw[he b (of_decide_eq_true h)]
 | .ptr b o,h=>by simp only [V.ren];rw[he b (of_decide_eq_true h)]
 | .mv f b o,h=>by simp only [V.ren];rw[he b (of_decide_eq_true h)]
 | .ifp f b o,h=>by simp only [V.ren];rw[he b (of_decide_eq_true h)]
 | .pml b s i o,h=>by simp only [V.ren];rw[he b (of_decide_eq_true h)]
 | .map b,h=>by simp only [V.ren];rw[he b (of_decide_eq_true h)]
 | .yld b R,h=>by simp only [V.ren];rw[he b (of_decide_eq_true h)]
 | .osl b s l n,h=>by simp only [V.ren];rw[he b (of_decide_eq_true h)]
 | .agg cs,h=>by simp only [V.ren];rw[V.renL_congr he h]
 | .tup cs,h=>by simp only [V.ren];rw[V.renL_congr he h]
 | .fn f cs,h=>by simp only [V.ren];rw[V.renL_congr he h]
 | .any,_=>rfl
 | .nils,_=>rfl
 | .d x,_=>rfl
 | .pel cs,_=>rfl
 | .nilp,_=>rfl
 | .nilf,_=>rfl
 | .ifn b,_=>rfl
 | .ifc t cs,_=>rfl
 | .ifo t b cs,_=>rfl
theorem V.renL_congr {σ τ:Nat→Nat}{n:Nat}(he: ∀i,i < n→σ i=τ i): ∀ {cs:List V},V.scL n cs=true→V.renL σ cs=V.renL τ cs
 | [],_=>rfl
 |c::cs,h=>by
  have h:(c.scB n&&V.scL n cs)=true:=h
  rw[Bool.and_eq_true]at h
  unfold V.renL
  rw[V.ren_congr he h.1,V.renL_congr he h.2]
end
theorem Box.ren_congr {σ τ:Nat→Nat}{n:Nat}(he: ∀i,i < n→σ i=τ i): ∀ {x:Box},x.scB n=true→x.ren σ=x.ren τ
 | .cells t vs,h=>by simp only [Box.ren];rw[V.renL_congr he h]
 | .gone,_=>rfl
 | .arr ..,_=>rfl
 | .mp ..,_=>rfl
theorem ext_low {L:List Nat}(n m:Nat): ∀i,i < L.length→ext L n i=ext L m i:=fun i hi=>by
 unfold ext
 rw[List.getElem?_eq_getElem hi]
theorem quiet_among {L:List Nat}{v:V}{h h':List Box}(l:List Box)(hq:quietB L v h'=true)(hlt: ∀b∈L,b < h.length):v.ren (ext L (h++l).length)=v.ren (ext L h.length)∧amongH (h++l) L [] h'=amongH h L [] h'++l∧(amongH h L [] h').length=h.length:=by
 unfold quietB at hq
 simp only [Bool.and_eq_true,decide_eq_true_eq]at hq
 obtain⟨⟨q1,q2⟩,q3⟩:=hq
 have e1:=ext_low (L:=L) (h++l).length h.length
 refine⟨V.ren_congr e1 q2,?_,?_⟩
 ·unfold amongH
  rw[List.drop_eq_nil_of_le (by omega),List.map_nil,List.map_nil,List.append_nil,List.append_nil,List.zipIdx_append,List.map_append]
  congr 1
  ·refine List.map_congr_left fun xb hxb=> ?_
   cases hi:L.idxOf? xb.2 with
   |none=>rfl
   |some i=>
    have hlen:i < h'.length:=by rw[q1];exact(List.getElem?_eq_some_iff.1 (idxOf_some hi)).1
    refine Box.ren_congr e1 ?_
    rw[List.getD_eq_getElem?_getD,List.getElem?_eq_getElem hlen]
    exact List.all_eq_true.1 q3 _ (List.getElem_mem hlen)
  ·refine List.ext_getElem? fun k=> ?_
   rw[List.getElem?_map,List.getElem?_zipIdx]
   cases hk:l[k]? with
   |none=>rfl
   |some x=>
    simp only [Option.map_some,Nat.zero_add]
    cases hi:L.idxOf? (h.length+k)with
    |none=>simp only [Box.kill_nil]
    |some i=>have:=hlt _ (List.mem_of_getElem? (idxOf_some hi));omega
 ·unfold amongH
  rw[List.drop_eq_nil_of_le (by omega)]
  simp
theorem reachOK_app {h:List Box}{L:List Nat}{vs:List V}(l:List Box)(hr:reachOK h L vs=true):reachOK (h++l) L vs=true∧smallH (h++l) L=smallH h L:=by
 have hlt:=(reachOK_spec hr).lt
 have hg: ∀b∈L,(h++l).getD b .gone=h.getD b .gone:=fun b hb=>by
  rw[List.getD_eq_getElem?_getD,List.getD_eq_getElem?_getD,List.getElem?_append_left (hlt b hb)]
 constructor
 ·unfold reachOK at hr ⊢
  simp only [Bool.and_eq_true]at hr ⊢
  obtain⟨⟨⟨r1,r2⟩,r3⟩,r4⟩:=hr
  refine⟨⟨⟨r1,List.all_eq_true.2 fun b hb=>decide_eq_true (by have:=hlt b hb;rw[List.length_append];omega)⟩,r3⟩,List.all_eq_true.2 fun b hb=> ?_⟩
  rw[hg b hb]
  exact List.all_eq_true.1 r4 b hb
 ·unfold smallH
  exact List.map_congr_left fun b hb=>by rw[hg b hb]
theorem callBT_sound (hE:E.Ok)(hG:EnvGood P E){ent:Callee→List V→List Box→Tree (List Nat × V × List Box)}(hent:EntGood P E ent){r:Option V × List Box × V}{Tk:List Nat}(hpw:PreW W h0 hh)(hl0:h0.length≤hh.length){qf:Bool}(hk:(callBT sy P C ent qf W Tk h0.length t hh o).run E=some r):
  (r.1=none→SStep P En o t hh [] r.2.2 r.2.1∧PreW W h0 r.2.1∧h0.length≤r.2.1.length∧(∀k,k < h0.length→k ∉ Tk→r.2.1[k]? =hh[k]?)∧(qf=true→r.2.1.length=hh.length∧ ∀l,SStep P En o t (hh++l) [] r.2.2 (r.2.1++l)))∧ ∀p,r.1=some p→SPan P En o t hh p r.2.1:=by
 unfold callBT at hk
 split at hk
 ·rename_i f vs hc
  split at hk
  ·rename_i hi hsig
   rw[forceSp_eq]at hk
   generalize reachV hh [] vs=L at hk
   split at hk
   ·rename_i hL
    simp only [Bool.and_eq_true]at hL
    obtain⟨hL,hW⟩:=hL
    obtain⟨q,h1,hk⟩:=run_bind_some hE hk
    split at hk
    ·rename_i hq
     have hcall:=hent.1 _ _ _ _ h1
     rw[hq]at hcall
     have hc2:callOf P (restr o (VSt.get ⟨t,hh⟩)) o=some (f,vs):=by
      rw[←hc]
      exact callOf_congr fun y hy=>restr_at (fun f=>rfl) hy
     split at hk
     ·rename_i hp
      split at hk
      rename_i hqf
      cases hk
      have hA:=HCall.among hL (hcall.none hp)
      rw[List.map_nil]at hA
      obtain⟨y,args,tys,hop,hy⟩:=callOf_some hc2 (restr_func o _)
      refine⟨fun _=>⟨?_,fun k x hkW hx=> ?_,?_,fun k hk0 hkT=> ?_,fun hq=> ?_⟩,fun p h=>(by cases h)⟩
      ·have:=gives_callV hop hy (sigP_some hsig) hA
       rw[get_h t hh []]at this
       exact SStep.of_gives (by simp [okM]) this
      ·have hkL:k ∉ L:=fun hm=>by
        have:=List.all_eq_true.1 hW k hm
        simp only [Bool.or_eq_true,Bool.and_eq_true,List.contains_eq_mem,decide_eq_true_eq]at this
        rcases this with h2|h2
        ·exact hkW h2.1
        ·have:=(List.getElem?_eq_some_iff.1 hx).1;omega
       show(amongH hh L [] q.2.2)[k]? =some x
       rw[among_get (hpw k x hkW hx) hkL,Box.kill_nil]
      ·show h0.length≤(amongH hh L [] q.2.2).length
       unfold amongH
       simp only [List.length_append,List.length_map,List.length_zipIdx]
       omega
      ·have hkL:k ∉ L:=fun hm=>by
        have:=List.all_eq_true.1 hW k hm
        simp only [Bool.or_eq_true,Bool.and_eq_true,List.contains_eq_mem,decide_eq_true_eq]at this
        rcases this with h2|h2
        ·exact hkT h2.2
        ·omega
       show(amongH hh L [] q.2.2)[k]? =_
       have hx:hh[k]? =some hh[k]:=List.getElem?_eq_getElem (by omega)
       rw[among_get hx hkL,Box.kill_nil,hx]
      ·rw[hq]at hqf
       have hlt:=(reachOK_spec hL).lt
       refine⟨(quiet_among [] (by simpa using hqf) hlt).2.2,fun l=> ?_⟩
       obtain⟨e1,e2,_⟩:=quiet_among l (by simpa using hqf) hlt
       obtain⟨s1,s2⟩:=reachOK_app l hL
       have hB:=HCall.among (h:=hh++l) s1 (by rw[s2];exact hcall.none hp)
       rw[List.map_nil,e1,e2]at hB
       have:=gives_callV hop hy (sigP_some hsig) hB
       rw[get_h t hh []]at this
       exact SStep.of_gives (by simp [okM]) this
      ·cases hk
     ·rename_i p hp
      cases hk
      have hA:=XCall.amongP hL (hcall.some hp)
      rw[List.map_nil]at hA
      refine⟨fun h=>(by cases h),fun p' hp'=> ?_⟩
      cases hp'
      intro t2 he a w K Q hs hQ
      have hc3:callOf P (VSt.get ⟨t2,hh⟩) o=some (f,vs):=by
       have e:restr o (VSt.get ⟨t2,hh⟩)=restr o (VSt.get ⟨t,hh⟩):=by rw[←get_h t2 [] hh,←get_h t [] hh];exact he
       rw[←hc2,←e]
       exact callOf_congr fun y hy=>(restr_at (fun f=>rfl) hy).symm
      obtain⟨y,args,tys,hop,hy⟩:=callOf_some hc3 (fun f=>rfl)
      exact pan_call (s:=⟨t2,hh⟩) hop hy (sigP_some hsig) hA (by simp [okM]) hs fun e a' w' h=>hQ e a' w' ⟨_,h⟩
    ·cases hk
   ·cases hk
  ·split at hk
   ·cases hk
   ·obtain⟨x,q1,hk⟩:=run_bind_some hE hk
    cases hk
    exact⟨fun _=>⟨pinXT_sound hE hG q1,hpw,hl0,fun _ _ _=>rfl,fun h=>by cases h⟩,fun p h=>by cases h⟩
 ·cases hk
theorem hideB_len: ∀ {W:List Nat} {h:List Box},(hideB h W).length=h.length
 | [],_=>rfl
 |b::W,h=>by show(hideB (h.set b .gone) W).length=_;rw[hideB_len,List.length_set]
theorem pre3T_lex {Ts:List (List Nat)}(hT:T=fun k=>Ts.getD k [])(hE:E.Ok)(hG:EnvGood P E){ent:Callee→List V→List Box→Tree (List Nat × V × List Box)}(hent:EntGood P E ent){r:Option V × List V × List Box}: ∀ {os:List Oper} {k:Nat} {t:List V} {hh:List Box},PreW W h0 hh→h0.length≤hh.length→(pre3T sy P C ent ops W Z Ts h0 En.g.n En.M k os t hh).run E=some r→vLex3 P C En ops W Z T h0 (fun t hh=>(none,t,hh)=r) (fun p hh=>r.1=some p∧r.2.2=hh) k os t hh
 | [],_,_,_,_,_,hk=>by cases hk;rfl
 |o::os,k,t,hh,hpw,hl0,hk=>by
  unfold pre3T at hk
  rcases guardT_run hk with⟨hw,hk⟩|⟨hw,hk⟩
  ·split at hk
   ·rename_i hbig
    split at hk
    ·rename_i hct
     obtain⟨r1,q1,hk⟩:=run_bind_some hE hk
     have hmk:mkI o=false:=by
      unfold mkI
      unfold isCallT at hct
      split<;>simp_all
     obtain⟨kn,kp⟩:=callBT_sound (En:=En) hE hG hent hpw hl0 q1
     have hTk:Ts.getD k []=T k:=by rw[hT]
     rw[hTk]at kn
     obtain⟨p1,r1⟩:=r1
     cases p1 with
     |some p=>
      simp only at hk
      split at hk
      ·rename_i hlate
       cases hk
       exact .inr ⟨p,r1.1,⟨hw,hbig,hmk,hlate,kp p rfl⟩,rfl,rfl⟩
      ·cases hk
     |none=>
     simp only at hk
     rw[forceL_eq,forceH_eq]at hk
     obtain⟨k1,k2,k3,k4,k5⟩:=kn rfl
     exact .inl ⟨r1.2,_,r1.1,⟨.big hh r1.1 [],⟨hw,hbig,fun b hb=>by simp at hb,hpw,k2,k1,hl0,(fun hm=>by rw[hmk]at hm;cases hm),fun _=>⟨rfl,k4⟩,fun _ hq=>k5 hq,fun ha=>by rw[(isAl_mk (C:=C) ha).1]at hmk;cases hmk⟩,rfl,rfl,rfl⟩,pre3T_lex hT hE hG hent k2 k3 hk⟩
    rename_i hnc
    obtain⟨r1,q1,hk⟩:=run_bind_some hE hk
    split at hk
    ·rename_i hc
     simp only [Bool.and_eq_true]at hc
     obtain⟨⟨c1,c2⟩,c3⟩:=hc
     rw[forceL_eq,forceH_eq]at hk
     have hg:=bigT_sound (ρ2:=restr o (VSt.get ⟨t,hh⟩)) hE (fun y hy=>(restr_at (fun f=>rfl) hy).symm) q1
     have hp2:=bigT_pre hE q1 c3 hpw
     rw[get_h t hh []]at hg
     exact .inl ⟨r1.2.2,_,r1.2.1,⟨.big hh r1.2.1 r1.1,⟨hw,hbig,fun b hb=>by have:=List.all_eq_true.1 c2 b hb;simpa using this,hpw,hp2,SStep.of_gives c1 hg,hl0,(fun hm=>bigT_mk hE q1 hm),(fun hct=>by rw[hnc]at hct;cases hct),(fun hct=>by rw[hnc]at hct;cases hct),fun ha=>bigT_al (En:=En) hE q1 ha⟩,rfl,rfl,rfl⟩,pre3T_lex hT hE hG hent hp2 (Nat.le_trans hl0 (bigT_len hE q1)) hk⟩
    ·cases hk
   ·split at hk
    ·rename_i hpin
     obtain⟨x,q1,hk⟩:=run_bind_some hE hk
     rw[forceL_eq]at hk
     exact .inl ⟨x,_,hh,⟨.pin hh,⟨hw,hpin,pinXT_sound hE hG q1⟩,rfl,rfl,rfl⟩,pre3T_lex hT hE hG hent hpw hl0 hk⟩
    ·rename_i hmid
     obtain⟨x,q1,hk⟩:=run_bind_some hE hk
     rw[forceL_eq]at hk
     have q2:=opXT_sound hE hG (fun f=>rfl) q1
     refine .inl ⟨x,_,hh,⟨.mid (hideB (hh.take h0.length) (midW C ops Ts k o)),⟨hw,hmid,by rw[hideB_len];simp;omega,fun j oj hj s1 s2=> ?_,q2⟩,fun b y hy=>(hideB_at hy).imp id fun h1=>(by
      have hy:=h1.2
      rw[List.getElem?_take]at hy
      split at hy
      ·exact hy
      ·cases hy),rfl,rfl⟩,pre3T_lex hT hE hG hent hpw hl0 hk⟩
     cases e1:edgeR ops 5 oj k with
     |true=>exact .inl rfl
     |false=>cases e2:edgeR ops 5 o j with
      |true=>exact .inr (.inl rfl)
      |false=>
       refine .inr (.inr fun b hb y hy=>(hideB_at hy).resolve_right fun h1=>h1.1 ?_)
       refine List.mem_flatMap.2 ⟨j,List.mem_range.2 (Array.getElem?_eq_some_iff.1 hj).1,?_⟩
       rw[hT]at hb
       simp only [hj,s1,s2,e1,e2]
       exact hb
    ·obtain⟨x,q1,hk⟩:=run_bind_some hE hk
     split at hk
     ·rename_i hc
      rw[forceL_eq]at hk
      exact .inl ⟨x,_,hh,⟨.late,⟨hw,calmO_spec hc,fun h2 hp=>opXT_sound hE hG (fun f=>rfl) q1 h2 hp.pre⟩,hpw,rfl,rfl⟩,pre3T_lex hT hE hG hent hpw hl0 hk⟩
     ·cases hk
  ·rw[forceL_eq]at hk
   exact .inl ⟨.tup [],_,hh,⟨.no,⟨hw,rfl⟩,trivial,rfl,rfl⟩,pre3T_lex hT hE hG hent hpw hl0 hk⟩
theorem drawT1_sound (hnd: ∀(i:Nat) o,ops[i]? =some o→noDef o=true){ro:Option Nat}(hE:E.Ok)(hG:EnvGood P E){ent:Callee→List V→List Box→Tree (List Nat × V × List Box)}(hent:EntGood P E ent){En:Ent}{id:Nat}{Q:Exit→Act→World→Prop}{s:VSt}{q:Option V × VSt}{a:Act}{w:World}(hm:P.follows .mixedOrders=true)
  (hk:(drawT1 sy P C ent En.g.n En.M ops s).run E=some q) (hs:SimE En s a w) (hq: ∀e a' w',OpRX En q e a' w'→Q e a' w'):(Code.region id ops true).wpIn (Fw ro) 0 P Q a w:=by
 unfold drawT1 at hk
 split at hk
 ·rename_i hB
  rw[forceS_eq,forceSp_eq,forceSp_eq,forceSp_eq]at hk
  have hs:SimE En (iceT P C ops s) a w:=hs.frzs
  generalize iceT P C ops s=s at hk hs
  obtain⟨r,h1,hk⟩:=run_bind_some hE hk
  cases hk
  simp only [drawOK3,Bool.and_eq_true]at hB
  have hlex:=pre3T_lex rfl hE hG hent (fun b x _ h=>h) (Nat.le_refl _) h1
  have hany:=vAny3_lex hB.2.1.2 ops.toList 0 (Array.replicate ops.size false) s.t s.h (fun k ok hok hk=>by have hlt:=(Array.getElem?_eq_some_iff.1 hok).1;simp [Array.getElem?_replicate,hlt]at hk) (fun j hj=>by omega) (fun j=>by simp) (by simpa using hB.2.2) hlex
  refine wpIn_region_any hm ?_
  have:=vAny3_sound (ro:=ro) (Q:=Q) (En:=En) hnd (fun t hh a w hk' hs=>by subst hk';exact hq .normal a w ⟨rfl,hs⟩) (fun p hh e a w hk' hp=>hq e a w (by obtain⟨h1,h2⟩:=hk';subst h2;unfold OpRX;simp only [h1];exact hp)) ops.toList.length _ s.t s.h a w.drew hany hs.drew
  simpa using this
 ·exact drawT0_sound hnd hE hG hent hm hk hs hq
theorem drawT_sound {ro:Option Nat}(hE:E.Ok)(hG:EnvGood P E){ent:Callee→List V→List Box→Tree (List Nat × V × List Box)}(hent:EntGood P E ent){En:Ent}{id:Nat}{Q:Exit→Act→World→Prop}{s:VSt}{q:Option V × VSt}{a:Act}{w:World}(hm:P.follows .mixedOrders=true)
  (hk:(drawT sy P C ent En.g.n En.M ops s).run E=some q) (hs:SimE En s a w) (hq: ∀e a' w',OpRX En q e a' w'→Q e a' w'):(Code.region id ops true).wpIn (Fw ro) 0 P Q a w:=by
 unfold drawT at hk
 split at hk
 ·rename_i hd
  exact drawT1_sound (fun i o ho=>List.all_eq_true.1 hd o (by rw[←Array.getElem?_toList]at ho;exact List.mem_of_getElem? ho)) hE hG hent hm hk hs hq
 ·cases hk
end
inductive Sk where
 |any
 |nils
 |d (s:Sh)
 |agg (l:List Sk)
 |tup (l:List Sk)
 |own (b:Nat)
 |ptr (b off:Nat)
 |mv (f:FuncId) (b off:Nat)
 |ifp (t:TypeId) (b off:Nat)
 |pel (l:List Sh)
 |pml (b sz i off:Nat)
 |nilp
 |fn (f:FuncId) (l:List Sk)
 |nilf
 |ifn
 |ifo (t:TypeId) (l:List Sh)
 |map (b:Nat)
 |yld (b:Nat) (R:RecI)
 |osl (b sz:Nat)
def D.sh:D→Sh
 | .int k _=> .int k
 | .bool _=> .bool
 | .str _=> .str
 | .sl sz _=> .sl sz
mutual
def V.sk:V→Sk
 | .any=> .any
 | .nils=> .nils
 | .d x=> .d x.sh
 | .agg cs=> .agg (V.skL cs)
 | .tup cs=> .tup (V.skL cs)
 | .own b=> .own b
 | .ptr b off=> .ptr b off
 | .mv f b off=> .mv f b off
 | .ifp f b off=> .ifp f b off
 | .pel cs=> .pel (cs.map D.sh)
 | .pml b sz i off=> .pml b sz i off
 | .nilp=> .nilp
 | .fn f cs=> .fn f (V.skL cs)
 | .nilf=> .nilf
 | .ifn _=> .ifn
 | .ifc .. => .any
 | .ifo t _ cs=> .ifo t (cs.map D.sh)
 | .map b=> .map b
 | .yld b R=> .yld b R
 | .osl b sz _ _=> .osl b sz
def V.skL:List V→List Sk
 | []=>[]
 |c::cs=>c.sk::V.skL cs
end
def fitDs:List Sh→List D→Option (List D)
 | [],[]=>some []
 |s::ss,x::xs=>match decide (x.sh=s),fitDs ss xs with
  |true,some ds=>some (x::ds)
  |_,_=>none
 |_,_=>none
mutual
def Sk.fit (n:Nat):Sk→V→Option (List D)
 | .any,_=>some []
 | .nils, .nils=>some []
 | .d s, .d x=>match decide (x.sh=s)with
   |true=>some [x]
   |false=>none
 | .d (.sl sz), .nils=>some [.sl sz []]
 | .agg l, .agg cs=>Sk.fitL n l cs
 | .tup l, .tup cs=>Sk.fitL n l cs
 | .own b, .own b'=>match decide (b'=b∧b < n)with
   |true=>some []
   |false=>none
 | .ptr b off, .ptr b' off'=>match decide (b'=b∧off'=off∧b < n)with
   |true=>some []
   |false=>none
 | .mv f b off, .mv f' b' off'=>match decide (f'=f∧b'=b∧off'=off∧b < n)with
   |true=>some []
   |false=>none
 | .ifp f b off, .ifp f' b' off'=>match decide (f'=f∧b'=b∧off'=off∧b < n)with
   |true=>some []
   |false=>none
 | .pel l, .pel cs=>fitDs l cs
 | .pml b sz i off, .pml b' sz' i' off'=>match decide (b'=b∧sz'=sz∧i'=i∧off'=off∧b < n)with
   |true=>some []
   |false=>none
 | .nilp, .nilp=>some []
 | .fn f l, .fn f' cs=>match decide (f'=f)with
   |true=>Sk.fitL n l cs
   |false=>none
 | .nilf, .nilf=>some []
 | .ifn, .ifn b=>some [.bool b]
 | .ifo _ l, .ifn true=>some (.bool true::l.map zeroD)
 | .ifo t l, .ifc t' cs=>match decide (t'=t),fitDs l cs with
   |true,some ds=>some (.bool false::ds)
   |_,_=>none
 | .ifo t l, .ifo t' b cs=>match decide (t'=t),fitDs l cs with
   |true,some ds=>some (.bool b::ds)
   |_,_=>none
 | .map b, .map b'=>match decide (b'=b∧b < n)with
   |true=>some []
   |false=>none
 | .yld b _, .yld b' _=>match decide (b'=b∧b < n)with
   |true=>some []
   |false=>none
 | .osl b sz, .osl b' sz' lo k=>match decide (b'=b∧sz'=sz∧b < n)with
   |true=>some [.int .i64 lo, .int .i64 k]
   |false=>none
 |_,_=>none
def Sk.fitL (n:Nat):List Sk→List V→Option (List D)
 | [],[]=>some []
 |k::ks,v::vs=>match Sk.fit n k v,Sk.fitL n ks vs with
  |some a,some b=>some (a++b)
  |_,_=>none
 |_,_=>none
end
section
variable (A : Sy)
mutual
def openSk:Sk→List D→Nat→Tree (V × Nat)
 | .any,_,j=> .ret (.any,j)
 | .nils,_,j=> .ret (.nils,j)
 | .d s,ds,j=>(openT s (A.cell ds j)).bind fun x=> .ret (.d x,j+1)
 | .agg l,ds,j=>(openSkL l ds j).bind fun r=> .ret (.agg r.1,r.2)
 | .tup l,ds,j=>(openSkL l ds j).bind fun r=> .ret (.tup r.1,r.2)
 | .own b,_,j=> .ret (.own b,j)
 | .ptr b off,_,j=> .ret (.ptr b off,j)
 | .mv f b off,_,j=> .ret (.mv f b off,j)
 | .ifp f b off,_,j=> .ret (.ifp f b off,j)
 | .pel l,ds,j=>(openRT A l ds j).bind fun xs=> .ret (.pel xs,j+l.length)
 | .pml b sz i off,_,j=> .ret (.pml b sz i off,j)
 | .nilp,_,j=> .ret (.nilp,j)
 | .fn f l,ds,j=>(openSkL l ds j).bind fun r=> .ret (.fn f r.1,r.2)
 | .nilf,_,j=> .ret (.nilf,j)
 | .ifn,ds,j=> .cB (A.cell ds j) fun b=> .ret (.ifn b,j+1)
 | .ifo t l,ds,j=> .cB (A.cell ds j) fun b=>(openRT A l ds (j+1)).bind fun xs=> .ret (.ifo t b xs,j+1+l.length)
 | .map b,_,j=> .ret (.map b,j)
 | .yld b R,_,j=> .ret (.yld b R,j)
 | .osl b sz,ds,j=> .cI (A.cell ds j) .i64 fun lo=> .cI (A.cell ds (j+1)) .i64 fun k=> .ret (.osl b sz lo k,j+2)
def openSkL:List Sk→List D→Nat→Tree (List V × Nat)
 | [],_,j=> .ret ([],j)
 |k::ks,ds,j=>(openSk k ds j).bind fun r=>(openSkL ks ds r.2).bind fun q=> .ret (r.1::q.1,q.2)
end
end
mutual
def Sk.okY (c:Nat→Option RecI):Sk→Prop
 | .yld b R=>c b=some R
 | .agg l=>Sk.okYL c l
 | .tup l=>Sk.okYL c l
 | .fn _ l=>Sk.okYL c l
 |_=>True
def Sk.okYL (c:Nat→Option RecI):List Sk→Prop
 | []=>True
 |k::ks=>k.okY c∧Sk.okYL c ks
end
mutual
def Sk.yB (n:Nat):Sk→Bool
 | .yld b _=>decide (b < n)
 | .agg l=>Sk.yBL n l
 | .tup l=>Sk.yBL n l
 | .fn _ l=>Sk.yBL n l
 |_=>true
def Sk.yBL (n:Nat):List Sk→Bool
 | []=>true
 |k::ks=>k.yB n&&Sk.yBL n ks
end
def CK.fitB:CK→CK→Bool
 | .ty t, .ty t'=>decide (t'=t)
 | .rcd .ready, .rcd .ready=>true
 | .rcd .busy, .rcd .busy=>true
 | .rcd (.done .ret), .rcd (.done .ret)=>true
 | .sit, .sit=>true
 |_,_=>false
theorem CK.fitB_spec {k k':CK}(h:CK.fitB k k'=true):k'=k:=by
 unfold CK.fitB at h
 split at h
 ·rw[of_decide_eq_true h]
 ·rfl
 ·rfl
 ·rfl
 ·rfl
 ·cases h
inductive BSk where
 |gone
 |mp (kk:KK)
 |cells (k:CK) (l:List Sk)
 |arr (e:TypeId) (sz:Nat)
def Box.sk:Box→BSk
 | .gone=> .gone
 | .mp kk _=> .mp kk
 | .cells t vs=> .cells t (V.skL vs)
 | .arr e sz _=> .arr e sz
def BSk.fit (n:Nat):BSk→Box→Option (List D)
 | .gone,_=>some []
 | .mp kk, .mp kk' rows=>match decide (kk'=kk)with
   |true=>some [.sl 2 rows]
   |false=>none
 | .cells t l, .cells t' vs=>match CK.fitB t t' with
   |true=>Sk.fitL n l vs
   |false=>none
 | .arr e sz, .arr e' sz' rows=>match decide (e'=e∧sz'=sz)with
   |true=>some [.sl sz rows]
   |false=>none
 |_,_=>none
def BSk.fitL (n:Nat):List BSk→List Box→Option (List D)
 | [],_=>some []
 |k::ks,x::xs=>match BSk.fit n k x,BSk.fitL n ks xs with
  |some a,some b=>some (a++b)
  |_,_=>none
 |_::_,[]=>none
section
variable (A : Sy)
def openBSk:BSk→List D→Nat→Tree (Box × Nat)
 | .gone,_,j=> .ret (.gone,j)
 | .mp kk,ds,j=> .cL (A.cell ds j) 2 fun rows=> .ret (.mp kk rows,j+1)
 | .cells t l,ds,j=>(openSkL A l ds j).bind fun r=> .ret (.cells t r.1,r.2)
 | .arr e sz,ds,j=> .cL (A.cell ds j) sz fun rows=> .ret (.arr e sz rows,j+1)
def openBL:List BSk→List D→Nat→Tree (List Box × Nat)
 | [],_,j=> .ret ([],j)
 |k::ks,ds,j=>(openBSk A k ds j).bind fun r=>(openBL ks ds r.2).bind fun q=> .ret (r.1::q.1,q.2)
end
structure LAn where
 slots:List (Nat × Option Sk)
 nb:Nat:=1000
 gone:List Nat:=[]
 ice:List Nat:=[]
 own:List (Nat × Nat × TypeId):=[]
 sole:List Nat:=[]
 own2:List (Nat × Nat × Nat × Nat × TypeId):=[]
 dat:List (Nat × Nat × TypeId):=[]
def soleS (ks:List Nat)(s:VSt):VSt:=match ks with
 | []=>s
 |_=>⟨s.t,s.h.map (Box.kill (ks.flatMap fun k=>(s.t.getD k .any).owns))⟩
theorem SimE.soleS {En:Ent}{a:Act}{w:World}{s:VSt}(ks:List Nat)(hs:SimE En s a w):SimE En (Go.Vm.soleS ks s) a w:=by
 cases ks with
 |nil=>exact hs
 |cons k ks=>
  unfold Go.Vm.soleS
  simp only
  generalize (List.flatMap (fun k=>(s.t.getD k .any).owns) (k::ks))=M
  obtain⟨g,hs⟩:=hs
  have ho:Over M w g w g:=⟨Gh.Le.refl _ _,fun _ _ _=>rfl⟩
  have hown: ∀k,Owned g (s.h.map (Box.kill M)) k→Owned g s.h k:=by
   rintro k ⟨b,x,hb,hx⟩
   rw[List.getElem?_map,Option.map_eq_some_iff]at hb
   obtain⟨x0,h0,rfl⟩:=hb
   exact⟨b,x0,h0,by rwa [Box.at?_kill]at hx⟩
  obtain⟨k1,k2,k3,k4⟩:=hs.keep
  refine⟨g,⟨by simpa using hs.heap.n,fun b x hb=> ?_,fun b c x y k hb hc hx hy=> ?_,fun k o hk=>hs.heap.zsep k o (hown k hk),hs.heap.zlt,hs.heap.tab⟩,hs.size,hs.tmps,hs.defers.less hown rfl,⟨k1,k2,k3,fun k hk=>k4 k (hown k hk)⟩,hs.len⟩
  ·simp only at hb
   rw[List.getElem?_map,Option.map_eq_some_iff]at hb
   obtain⟨x0,h0,rfl⟩:=hb
   have hr:=hs.heap.rep b x0 h0
   cases x0 with
   |cells t vs=>
    obtain⟨us,o,h1,h0,h2,h3⟩:=hr
    refine⟨us,o,h1,h0,by simpa using h2,fun i u v hu hv=> ?_⟩
    rw[List.getElem?_map,Option.map_eq_some_iff]at hv
    obtain⟨v',hv',rfl⟩:=hv
    exact ho.kill (h3 i u v' hu hv')
   |_=>exact hr
  ·simp only at hb hc
   rw[List.getElem?_map,Option.map_eq_some_iff]at hb hc
   obtain⟨x0,h0,rfl⟩:=hb
   obtain⟨y0,h1,rfl⟩:=hc
   rw[Box.at?_kill]at hx hy
   exact hs.heap.sep b c x0 y0 k h0 h1 hx hy
structure Hd where
 slots:List (Nat × Sk)
 boxes:List BSk
def headS (n0:Nat)(an:LAn)(s:VSt):Hd:=
 let live:=reachV s.h (List.range n0) (an.slots.map fun q=>s.t.getD q.1 .any)
 { slots:=an.slots.map fun q=>(q.1,match q.2 with
   |some sk=>sk
   |none=>(s.t.getD q.1 .any).sk)
   boxes:=((s.h.take an.nb).zipIdx.map fun xb=>match live.contains xb.2&& !an.gone.contains xb.2 with
    |true=>xb.1.sk
    |false=> .gone) }
def BSk.okY (c:Nat→Option RecI):BSk→Prop
 | .cells _ l=>Sk.okYL c l
 |_=>True
def BSk.yB (n:Nat):BSk→Bool
 | .cells _ l=>Sk.yBL n l
 |_=>true
def Hd.okY (c:Nat→Option RecI)(hd:Hd):Prop:=(∀q∈hd.slots,q.2.okY c)∧ ∀x∈hd.boxes,x.okY c
def Hd.yB (n:Nat)(hd:Hd):Bool:=(hd.slots.all fun q=>q.2.yB n)&&hd.boxes.all (BSk.yB n)
def fitS' (n:Nat)(t:List V):List (Nat × Sk)→Option (List D)
 | []=>some []
 |(k,sk)::ls=>match Sk.fit n sk (t.getD k .any),fitS' n t ls with
  |some a,some b=>some (a++b)
  |_,_=>none
def fitHd (hd:Hd)(s:VSt):Option (List D):=match fitS' hd.boxes.length s.t hd.slots,BSk.fitL hd.boxes.length hd.boxes s.h with
 |some a,some b=>some (a++b)
 |_,_=>none
section
variable (A : Sy)
def openS:List (Nat × Sk)→List D→Nat→List V→Tree (List V × Nat)
 | [],_,j,acc=> .ret (acc,j)
 |(k,sk)::ls,ds,j,acc=>(openSk A sk ds j).bind fun r=>openS ls ds r.2 (acc.set k r.1)
def openHd (hd:Hd)(len:Nat)(ds:List D):Tree VSt:=
 (openS A hd.slots ds 0 (List.replicate len .any)).bind fun r=>(openBL A hd.boxes ds r.2).bind fun q=> .ret ⟨r.1,q.1⟩
end
structure CfgT where
 me:FuncId:=0
 o:CfgO
 loops:Nat→LAn
 cuts:Nat→Option LAn
 turn:Bool:=true
 rt:Option (List Nat):=none
 labs:Nat→Option LAn:=fun _=>none
 bx:Bool:=false
 dfr:Bool:=false
 pn:Option TypeId:=none
 rl:Option (List Nat):=none
def keepL:Nat→List Nat→List V→List V
 |_,_,[]=>[]
 |i,l,v::vs=>(match l.contains i with
  |true=>v
  |false=> .any)::keepL (i+1) l vs
def keepS (l:Option (List Nat))(s:VSt):VSt:=match l with
 |none=>s
 |some l=>⟨keepL 0 l s.t,s.h⟩
section
variable (A : Sy) (P : Program) (inR : Bool) (C : CfgT) (ent : Callee → List V → List Box → Tree (List Nat × V × List Box)) (n0 : Nat) (M0 : List Nat)
def inBl (id:Nat)(r:Exit × VSt):Exit × VSt:=match r.1 with
 | .exit id'=>match decide (id'=id)with
   |true=>(.normal,r.2)
   |false=>r
 |_=>r
def endR (hd:Hd)(r:Exit × VSt):Tree (List D ⊕ (Exit × VSt)):=match r.1 with
 | .normal=>match fitHd hd r.2 with
   |some ds=> .ret (.inl ds)
   |none=> .fail
 |_=> .ret (.inr r)
def endG (l:Nat)(hd:Hd)(r:Exit × VSt):Tree (List D ⊕ (Exit × VSt)):=match r.1 with
 | .goto l'=>match decide (l'=l),fitHd hd r.2 with
   |true,some ds=> .ret (.inl ds)
   |_,_=> .fail
 |_=> .ret (.inr r)
def labX:Code→Option (Nat × LAn)
 | .label l=>match C.labs l with
   |some an=>some (l,an)
   |none=>none
 |_=>none
def labS:Bool→Code→Option (Nat × LAn)
 |true,x=>labX C x
 |false,_=>none
def flatX:Code→Bool
 | .seq .. =>false
 | .label _=>false
 |_=>true
def endO (q:Option V × VSt):Exit × VSt:=match q.1 with
 |none=>(.normal,q.2)
 |some p=>(.outgrown,⟨p::q.2.t,q.2.h⟩)
def endD (s:VSt)(q:Option V × VSt):Exit × VSt:=match q.1 with
 |none=>(.normal,q.2)
 |some p=>(.outgrown,⟨p::s.t.map (fun _=>V.any),q.2.h⟩)
def datX (l:List (Nat × Nat × TypeId))(r:Exit × VSt):Exit × VSt:=match r.1 with
 | .outgrown=>r
 |x=>(x,datB P r.2 l)
def codeT:Bool→Nat→Code→VSt→Tree (Exit × VSt)
 |_,_, .skip,s=> .ret (.normal,s)
 |_,_, .region _ ops draw,s=>match draw with
  |false=>(opsT A P ent C.o n0 M0 ops 0 ops.toList s).bind fun q=> .ret (endO q)
  |true=>(drawT A P C.o ent n0 M0 ops s).bind fun q=> .ret (endD s q)
 |sc,b, .seq x y,s=>match labS C sc x with
  |some (l,an)=>
   let hd:=headS n0 an s
   match decide (n0≤hd.boxes.length)&&hd.yB n0&&an.slots.all (fun q=>match q.2 with
    |some sk=>sk.yB 0
    |none=>true),fitHd hd s with
   |true,some ds0=> .loop (fun ds=>(openHd A hd s.t.length ds).bind fun s1=>forceL s1.t fun t=>(codeT false b y ⟨t,s1.h⟩).bind (endG l hd)) ds0
   |_,_=> .fail
  |none=>match C.cuts (leadKey y)with
   |none=>(codeT false b x s).bind fun r=>match r.1 with
    | .normal=>codeT (sc&&flatX x) b y r.2
    |_=> .ret r
   |some an=>
    let s0:=datB P s an.dat
    let hd:=headS n0 an s0
    match decide (n0≤hd.boxes.length)&&hd.yB n0&&an.slots.all (fun q=>match q.2 with
     |some sk=>sk.yB 0
     |none=>true)with
    |true=> .cut ((codeT false b x s0).bind fun r=>endR hd (datX P an.dat r)) fun ds=>(openHd A hd s0.t.length ds).bind fun s1=>forceL s1.t fun t=>codeT (sc&&flatX x) b y ⟨t,s1.h⟩
    |false=> .fail
 |_,b, .cond c x y,s=>match s.get c with
  | .d (.bool t)=> .ite t (codeT false b x (s.setC c true)) (codeT false b y (s.setC c false))
  |_=> .fail
 |_,_, .block id c,s=>(codeT false id c s).bind fun r=> .ret (inBl id r)
 |_,b, .loop c,s=>
  let s0:=datB P (soleS (C.loops b).sole (mintB P (mintP P (s.frz (C.loops b).ice) (C.loops b).own2) (C.loops b).own)) (C.loops b).dat
  let hd:=headS n0 (C.loops b) s0
  match decide (n0≤hd.boxes.length)&&hd.yB n0&&(C.loops b).slots.all (fun q=>match q.2 with
   |some sk=>sk.yB 0
   |none=>true),fitHd hd s0 with
  |true,some ds0=> .loop (fun ds=>(openHd A hd s0.t.length ds).bind fun s1=>forceL s1.t fun t=>(codeT false b c ⟨t,s1.h⟩).bind fun r=>endR hd (datX P (C.loops b).dat r)) ds0
  |_,_=> .fail
 |_,_, .exit id,s=> .ret (.exit id,s)
 |_,_, .ret,s=> .ret (.ret,s)
 |_,_, .label _,s=> .ret (.normal,s)
 |_,_, .goto l,s=> .ret (.goto l,s)
 |_,b, .scope c,s=>match inR with
  |true=> .fail
  |false=>(codeT true b c s).bind fun r=>match r.1 with
   | .goto _=> .fail
   |_=> .ret r
 |_,_, .rangeFunc y ps assign body,s=>match inR,s.get y with
  |false, .fn f caps=>match sigP P f with
   |some _=>(ent (.fn f) (.yld s.h.length ⟨C.me,ps,assign,body⟩::caps) (s.h++[.cells (.rcd .ready) (keepS C.rl s).t])).bind fun r=>match panOf r.2.1 with
    |some _=> .fail
    |none=>match okM n0 M0 r.1&& !r.1.contains s.h.length,r.2.2[s.h.length]? with
     |true,some (.cells (.rcd .ready) vs)=> .ret (.normal,⟨vs,r.2.2.set s.h.length .gone⟩)
     |true,some (.cells (.rcd (.done .ret)) vs)=> .ret (.ret,⟨vs,r.2.2.set s.h.length .gone⟩)
     |true,some (.cells (.rcd (.done (.exit id))) vs)=> .ret (.exit id,⟨vs,r.2.2.set s.h.length .gone⟩)
     |_,_=> .fail
   |none=> .fail
  |_,_=> .fail
 |_,_,_,_=> .fail
end
section
variable {P : Program} {E : Env}
theorem fitDs_same: ∀ {ss:List Sh} {xs ds:List D},fitDs ss xs=some ds→ds=xs∧xs.length=ss.length∧ ∀(i:Nat) x s,xs[i]? =some x→ss[i]? =some s→x.sh=s
 | [],[],ds,h=>by cases h;simp
 | [],_::_,ds,h=>by cases h
 |_::_,[],ds,h=>by cases h
 |s::ss,x::xs,ds,h=>by
  unfold fitDs at h
  split at h
  ·rename_i ds' hd h2
   cases h
   obtain⟨rfl,h3,h4⟩:=fitDs_same h2
   refine⟨rfl,by simp [h3],fun i y s' hy hs=> ?_⟩
   cases i with
   |zero=>simp at hy hs;subst hy;subst hs;exact of_decide_eq_true hd
   |succ i=>exact h4 i y s' (by simpa using hy) (by simpa using hs)
  ·cases h
theorem openT_at {x:D}{v:Option D}{s:Sh}(h:v=some x)(hs:x.sh=s):(openT s v).run E=some x:=by
 subst h;subst hs
 cases x<;>simp [D.sh,openT,Tree.run,opI,opB,opS,opL]
def At (full:List D)(j:Nat)(ds:List D):Prop:= ∀(i:Nat) x,ds[i]? =some x→full[j+i]? =some x
theorem At.left {full:List D}{j:Nat}{a b:List D}(h:At full j (a++b)):At full j a:=fun i x hx=>h i x (by
 rw[List.getElem?_append,if_pos (List.getElem?_eq_some_iff.1 hx).1];exact hx)
theorem At.right {full:List D}{j:Nat}{a b:List D}(h:At full j (a++b)):At full (j+a.length) b:=fun i x hx=>by
 have:=h (a.length+i) x (by rw[List.getElem?_append_right (by omega),Nat.add_sub_cancel_left];exact hx)
 rwa [←Nat.add_assoc]at this
theorem At.head {full:List D}{j:Nat}{x:D}{b:List D}(h:At full j (x::b)):sy.cell full j=some x:=h 0 x rfl
theorem openRT_at (hE:E.Ok): ∀ {ss:List Sh} {full:List D} {j:Nat} {xs:List D},xs.length=ss.length→(∀(i:Nat) x s,xs[i]? =some x→ss[i]? =some s→x.sh=s)→At full j xs→(openRT sy ss full j).run E=some xs
 | [],full,j,xs,hl,_,_=>by
   have:xs= []:=by simpa using hl
   subst this;rfl
 |s::ss,full,j,[],hl,_,_=>by simp at hl
 |s::ss,full,j,x::xs,hl,hs,ha=>by
  unfold openRT
  have h1:(openT s (sy.cell full j)).run E=some x:=openT_at ha.head (hs 0 x s rfl rfl)
  have h2:=openRT_at hE (ss:=ss) (full:=full) (j:=j+1) (xs:=xs) (by simpa using hl) (fun i y s' hy hs'=>hs (i+1) y s' (by simpa using hy) (by simpa using hs')) (fun i y hy=>by
   have:=ha (i+1) y (by simpa using hy)
   rwa [show j+1+i=j+(i+1) by omega])
  rw[run_bind hE,h1]
  simp only [Option.bind_some]
  rw[run_bind hE,h2]
  rfl
def WkY (n:Nat)(c:Nat→Option RecI)(v' v:V):Prop:= ∀(w:World) (g:Gh) (u:Value),(∀b x,c b=some x→g.rc b=some x)→Rep w g u v'→Rep w (g.cut n) u v
def WkBY (n:Nat)(c:Nat→Option RecI)(x y:Box):Prop:=(∀(w:World) (g:Gh) (b:Nat),(∀b x,c b=some x→g.rc b=some x)→BoxRep w g b x→BoxRep w (g.cut n) b y)∧ ∀(g:Gh) (b k:Nat),y.at? (g.cut n) b=some k→x.at? g b=some k
theorem okYL_of {c:Nat→Option RecI}: ∀ {cs:List V},(∀(i:Nat) v,cs[i]? =some v→v.sk.okY c)→Sk.okYL c (V.skL cs)
 | [],_=>trivial
 |v::cs,h=>⟨h 0 v rfl,okYL_of fun i v hv=>h (i+1) v (by simpa using hv)⟩
theorem rep_okY {w:World}{g:Gh}{u:Value}{v:V}(hr:Rep w g u v):v.sk.okY g.rc:=by
 have aux: ∀(us:Array Value) (cs:List V),us.size=cs.length→(∀(i:Nat) u c,us[i]? =some u→cs[i]? =some c→c.sk.okY g.rc)→Sk.okYL g.rc (V.skL cs):=fun us cs hl h=>
  okYL_of fun i v hv=>by
   have hi:i < us.size:=by rw[hl];exact(List.getElem?_eq_some_iff.1 hv).1
   exact h i _ v (Array.getElem?_eq_getElem hi) hv
 induction hr with
 |agg us cs hl h ih=>exact aux us cs hl ih
 |tup us cs hl h ih=>exact aux us cs hl ih
 |fn f us cs hl h ih=>exact aux us cs hl ih
 |yld b R hb hc=>exact hc
 |_=>exact trivial
mutual
theorem okY_below {c c':Nat→Option RecI}{n:Nat}(hc: ∀b,b < n→c' b=c b): ∀(sk:Sk),sk.okY c→sk.yB n=true→sk.okY c'
 | .yld b R,h,hb=>by
   have h:c b=some R:=h
   have hb:b < n:=of_decide_eq_true hb
   show c' b=some R
   rw[hc b hb,h]
 | .agg l,h,hb=>okYL_below hc l h hb
 | .tup l,h,hb=>okYL_below hc l h hb
 | .fn _ l,h,hb=>okYL_below hc l h hb
 | .any,_,_=>trivial
 | .nils,_,_=>trivial
 | .d _,_,_=>trivial
 | .own _,_,_=>trivial
 | .ptr _ _,_,_=>trivial
 | .mv ..,_,_=>trivial
 | .ifp ..,_,_=>trivial
 | .pel _,_,_=>trivial
 | .pml ..,_,_=>trivial
 | .nilp,_,_=>trivial
 | .nilf,_,_=>trivial
 | .ifn,_,_=>trivial
 | .ifo ..,_,_=>trivial
 | .map _,_,_=>trivial
 | .osl ..,_,_=>trivial
theorem okYL_below {c c':Nat→Option RecI}{n:Nat}(hc: ∀b,b < n→c' b=c b): ∀(l:List Sk),Sk.okYL c l→Sk.yBL n l=true→Sk.okYL c' l
 | [],_,_=>trivial
 |k::ks,h,hb=>by
  have hb:(k.yB n&&Sk.yBL n ks)=true:=hb
  rw[Bool.and_eq_true]at hb
  exact⟨okY_below hc k h.1 hb.1,okYL_below hc ks h.2 hb.2⟩
end
mutual
theorem okY_none {c:Nat→Option RecI}: ∀(sk:Sk),sk.yB 0=true→sk.okY c
 | .yld b R,hb=>by
   have hb:b < 0:=of_decide_eq_true hb
   omega
 | .agg l,hb=>okYL_none l hb
 | .tup l,hb=>okYL_none l hb
 | .fn _ l,hb=>okYL_none l hb
 | .any,_=>trivial
 | .nils,_=>trivial
 | .d _,_=>trivial
 | .own _,_=>trivial
 | .ptr _ _,_=>trivial
 | .mv ..,_=>trivial
 | .ifp ..,_=>trivial
 | .pel _,_=>trivial
 | .pml ..,_=>trivial
 | .nilp,_=>trivial
 | .nilf,_=>trivial
 | .ifn,_=>trivial
 | .ifo ..,_=>trivial
 | .map _,_=>trivial
 | .osl ..,_=>trivial
theorem okYL_none {c:Nat→Option RecI}: ∀(l:List Sk),Sk.yBL 0 l=true→Sk.okYL c l
 | [],_=>trivial
 |k::ks,hb=>by
  have hb:(k.yB 0&&Sk.yBL 0 ks)=true:=hb
  rw[Bool.and_eq_true]at hb
  exact⟨okY_none k hb.1,okYL_none ks hb.2⟩
end
theorem boxRep_okY {w:World}{g:Gh}{b:Nat}{x:Box}(hr:BoxRep w g b x):x.sk.okY g.rc:=by
 cases x with
 |cells k vs=>
  obtain⟨us,o,h1,h0,h2,h3⟩:=hr
  exact okYL_of fun i v hv=>by
   have hi:i < us.size:=by rw[h2];exact(List.getElem?_eq_some_iff.1 hv).1
   exact rep_okY (h3 i _ v (Array.getElem?_eq_getElem hi) hv)
 |_=>exact trivial
def cdE (En:Ent):Nat→Option RecI:=fun b=>if b < En.g.n then En.g.rc b else none
theorem cdE_spec {En:Ent}{s:VSt}{a:Act}{w:World}{g:Gh}(hs:Sim En s a w g){b:Nat}{x:RecI}(h:cdE En b=some x):g.rc b=some x:=by
 unfold cdE at h
 split at h
 ·rename_i hb;exact rc_eq (hs.keep.1.cd b hb) h
 ·cases h
theorem headS_okY {En:Ent}{s:VSt}{a:Act}{w:World}{an:LAn}(hs:SimE En s a w)(hb:(headS En.g.n an s).yB En.g.n=true)(ha:an.slots.all (fun q=>match q.2 with
  |some sk=>sk.yB 0
  |none=>true)=true):(headS En.g.n an s).okY (cdE En):=by
 obtain⟨g,hs⟩:=hs
 have hc: ∀b,b < En.g.n→cdE En b=g.rc b:=fun b hb=>by unfold cdE Gh.rc;rw[if_pos hb,hs.keep.1.cd b hb]
 unfold Hd.yB at hb
 rw[Bool.and_eq_true]at hb
 obtain⟨b1,b2⟩:=hb
 constructor
 ·intro q hq
  have y1:=List.all_eq_true.1 b1 q hq
  simp only [headS,List.mem_map]at hq
  obtain⟨q0,hq0,rfl⟩:=hq
  have y2:=List.all_eq_true.1 ha q0 hq0
  cases h2:q0.2 with
  |some sk=>simp only [h2]at y2 ⊢;exact okY_none sk y2
  |none=>
   simp only [h2]at y1 ⊢
   exact okY_below hc _ (rep_okY (hs.get (.tmp q0.1))) y1
 ·intro x hx
  have y1:=List.all_eq_true.1 b2 x hx
  simp only [headS,List.mem_map]at hx
  obtain⟨⟨y,i⟩,hy,rfl⟩:=hx
  simp only at y1 ⊢
  split
  ·rename_i hl
   simp only [hl]at y1
   have hyi:s.h[i]? =some y:=by
    have:=List.mem_zipIdx hy
    obtain⟨h1,h2,h3⟩:=this
    simp only [Nat.sub_zero,Nat.zero_add]at h2 h3
    have h4:(s.h.take an.nb)[i]? =some y:=by rw[h3];exact List.getElem?_eq_getElem _
    rw[List.getElem?_take]at h4
    split at h4
    ·exact h4
    ·cases h4
   have hr:=boxRep_okY (hs.heap.rep i y hyi)
   cases y with
   |cells k vs=>exact okYL_below hc _ hr y1
   |_=>exact trivial
  ·exact trivial
mutual
theorem fit_open (hE:E.Ok){n:Nat}{c:Nat→Option RecI}{full:List D}: ∀(sk:Sk) {v:V} {ds:List D} {j:Nat},Sk.fit n sk v=some ds→sk.okY c→At full j ds→ ∃v',(openSk sy sk full j).run E=some (v',j+ds.length)∧WkY n c v v'
 | .any,v,ds,j,h,hy,_=>by
   have:ds= []:=by cases v<;>(unfold Sk.fit at h;cases h;rfl)
   subst this
   exact⟨.any,rfl,fun _ _ u _ _=> .any u⟩
 | .nils,v,ds,j,h,hy,_=>by
   cases v<;>unfold Sk.fit at h<;>first|(cases h;done)|skip
   cases h
   exact⟨.nils,rfl,fun w g u hcd hr=>belowB_rep (n:=n) rfl hr⟩
 | .d s,v,ds,j,h,hy,ha=>by
   cases v with
   |d x=>
    have h:(match decide (x.sh=s)with|true=>some [x]|false=>none)=some ds:=by unfold Sk.fit at h;exact h
    split at h
    ·rename_i hd
     cases h
     refine⟨.d x,?_,fun w g u hcd hr=>belowB_rep (n:=n) rfl hr⟩
     unfold openSk
     rw[run_bind hE,openT_at ha.head (of_decide_eq_true hd)]
     rfl
    ·cases h
   |nils=>
    cases s<;>unfold Sk.fit at h<;>first|(cases h;done)|skip
    cases h
    rename_i sz
    refine⟨.d (.sl sz []),?_,fun w g u hcd hr=>by cases hr;exact .d (.slnil sz)⟩
    unfold openSk
    have q:(openT (.sl sz) (sy.cell full j)).run E=some (.sl sz []):=openT_at ha.head rfl
    rw[run_bind hE,q]
    rfl
   |_=>cases s<;>(unfold Sk.fit at h;cases h)
 | .agg l,v,ds,j,h,hy,ha=>by
   cases v<;>unfold Sk.fit at h<;>first|(cases h;done)|skip
   obtain⟨vs,h1,h2,h3⟩:=fit_openL hE l h hy ha
   refine⟨.agg vs,by unfold openSk;rw[run_bind hE,h1];rfl,fun w g u hcd hr=> ?_⟩
   cases hr with
   |agg us _ hl hr=>
    refine .agg us vs (by rw[hl,h2]) fun i u c hu hc=> ?_
    have hi:=(Array.getElem?_eq_some_iff.1 hu).1
    exact h3 i _ c (List.getElem?_eq_getElem (by omega)) hc w g u hcd (hr i u _ hu (List.getElem?_eq_getElem (by omega)))
 | .tup l,v,ds,j,h,hy,ha=>by
   cases v<;>unfold Sk.fit at h<;>first|(cases h;done)|skip
   obtain⟨vs,h1,h2,h3⟩:=fit_openL hE l h hy ha
   refine⟨.tup vs,by unfold openSk;rw[run_bind hE,h1];rfl,fun w g u hcd hr=> ?_⟩
   cases hr with
   |tup us _ hl hr=>
    refine .tup us vs (by rw[hl,h2]) fun i u c hu hc=> ?_
    have hi:=(Array.getElem?_eq_some_iff.1 hu).1
    exact h3 i _ c (List.getElem?_eq_getElem (by omega)) hc w g u hcd (hr i u _ hu (List.getElem?_eq_getElem (by omega)))
 | .own b,v,ds,j,h,hy,_=>by
   cases v<;>unfold Sk.fit at h<;>first|(cases h;done)|skip
   split at h
   ·rename_i hd
    obtain⟨rfl,hd⟩:=of_decide_eq_true hd
    cases h
    exact⟨.own _,rfl,fun w g u hcd hr=>scB_rep hr (by simpa [V.scB]using hd)⟩
   ·cases h
 | .ptr b off,v,ds,j,h,hy,_=>by
   cases v<;>unfold Sk.fit at h<;>first|(cases h;done)|skip
   split at h
   ·rename_i hd
    obtain⟨rfl,rfl,hd⟩:=of_decide_eq_true hd
    cases h
    exact⟨.ptr _ _,rfl,fun w g u hcd hr=>scB_rep hr (by simpa [V.scB]using hd)⟩
   ·cases h
 | .mv f b off,v,ds,j,h,hy,_=>by
   cases v<;>unfold Sk.fit at h<;>first|(cases h;done)|skip
   split at h
   ·rename_i hd
    obtain⟨rfl,rfl,rfl,hd⟩:=of_decide_eq_true hd
    cases h
    exact⟨.mv _ _ _,rfl,fun w g u hcd hr=>scB_rep hr (by simpa [V.scB]using hd)⟩
   ·cases h
 | .ifp f b off,v,ds,j,h,hy,_=>by
   cases v<;>unfold Sk.fit at h<;>first|(cases h;done)|skip
   split at h
   ·rename_i hd
    obtain⟨rfl,rfl,rfl,hd⟩:=of_decide_eq_true hd
    cases h
    exact⟨.ifp _ _ _,rfl,fun w g u hcd hr=>scB_rep hr (by simpa [V.scB]using hd)⟩
   ·cases h
 | .pel l,v,ds,j,h,hy,ha=>by
   cases v<;>unfold Sk.fit at h<;>first|(cases h;done)|skip
   obtain⟨rfl,h2,h3⟩:=fitDs_same h
   refine⟨.pel _,?_,fun w g u hcd hr=>belowB_rep (n:=n) rfl hr⟩
   unfold openSk
   rw[run_bind hE,openRT_at hE h2 h3 ha,←h2]
   rfl
 | .pml b sz i off,v,ds,j,h,hy,_=>by
   cases v<;>unfold Sk.fit at h<;>first|(cases h;done)|skip
   split at h
   ·rename_i hd
    obtain⟨rfl,rfl,rfl,rfl,hd⟩:=of_decide_eq_true hd
    cases h
    exact⟨.pml _ _ _ _,rfl,fun w g u hcd hr=>scB_rep hr (by simpa [V.scB]using hd)⟩
   ·cases h
 | .nilp,v,ds,j,h,hy,_=>by
   cases v<;>unfold Sk.fit at h<;>first|(cases h;done)|skip
   cases h
   exact⟨.nilp,rfl,fun w g u hcd hr=>belowB_rep (n:=n) rfl hr⟩
 | .fn f l,v,ds,j,h,hy,ha=>by
   cases v<;>unfold Sk.fit at h<;>first|(cases h;done)|skip
   split at h
   ·rename_i hd
    have hd:=of_decide_eq_true hd
    subst hd
    obtain⟨vs,h1,h2,h3⟩:=fit_openL hE l h hy ha
    refine⟨.fn _ vs,by unfold openSk;rw[run_bind hE,h1];rfl,fun w g u hcd hr=> ?_⟩
    cases hr with
    |fn _ us _ hl hr=>
     refine .fn _ us vs (by rw[hl,h2]) fun i u c hu hc=> ?_
     have hi:=(Array.getElem?_eq_some_iff.1 hu).1
     exact h3 i _ c (List.getElem?_eq_getElem (by omega)) hc w g u hcd (hr i u _ hu (List.getElem?_eq_getElem (by omega)))
   ·cases h
 | .ifn,v,ds,j,h,hy,ha=>by
   cases v<;>unfold Sk.fit at h<;>first|(cases h;done)|skip
   rename_i b
   cases h
   refine⟨.ifn b,?_,fun w g u hcd hr=>belowB_rep (n:=n) rfl hr⟩
   unfold openSk
   simp only [Tree.run]
   rw[ha.head];rfl
 | .ifo t l,v,ds,j,h,hy,ha=>by
   have fin: ∀(b:Bool) (xs:List D),xs.length=l.length→(∀(i:Nat) x s,xs[i]? =some x→l[i]? =some s→x.sh=s)→ds= .bool b::xs→(openSk sy (.ifo t l) full j).run E=some (.ifo t b xs,j+ds.length):=by
    intro b xs hl hsh hds
    subst hds
    unfold openSk
    simp only [Tree.run]
    rw[ha.head]
    show(Tree.bind (openRT sy l full (j+1)) fun xs=> .ret (V.ifo t b xs,j+1+l.length)).run E=_
    have h9:(openRT sy l full (j+1)).run E=some xs:=openRT_at hE hl hsh (ha.right (a:=[.bool b]) (b:=xs))
    rw[run_bind hE,h9]
    show some (V.ifo t b xs,j+1+l.length)=some (V.ifo t b xs,j+(xs.length+1))
    rw[hl,Nat.add_assoc,Nat.add_comm 1]
   have zs: ∀(i:Nat) x s,(l.map zeroD)[i]? =some x→l[i]? =some s→x.sh=s:=fun i x s hx hs=>by
    rw[List.getElem?_map,hs]at hx
    cases hx
    cases s<;>rfl
   cases v with
   |ifn b=>
    cases b with
    |true=>
     unfold Sk.fit at h
     cases h
     exact⟨_,fin true _ (List.length_map _) zs rfl,fun w g u hcd hr=>by cases hr;exact .ifo0 _ _⟩
    |false=>unfold Sk.fit at h;cases h
   |ifc t' cs=>
    unfold Sk.fit at h
    split at h
    ·rename_i xs hd h2
     have hd:=of_decide_eq_true hd
     subst hd
     cases h
     obtain⟨rfl,hl,hsh⟩:=fitDs_same h2
     exact⟨_,fin false _ hl hsh rfl,fun w g u hcd hr=>by
      cases hr with
      |ifc _ us _ hl h=>exact .ifo1 _ us _ hl h⟩
    ·cases h
   |ifo t' b cs=>
    unfold Sk.fit at h
    split at h
    ·rename_i xs hd h2
     have hd:=of_decide_eq_true hd
     subst hd
     cases h
     obtain⟨rfl,hl,hsh⟩:=fitDs_same h2
     exact⟨_,fin b _ hl hsh rfl,fun w g u hcd hr=>by
      cases hr with
      |ifo0=>exact .ifo0 _ _
      |ifo1 _ us _ hl h=>exact .ifo1 _ us _ hl h⟩
    ·cases h
   |_=>unfold Sk.fit at h;cases h
 | .nilf,v,ds,j,h,hy,_=>by
   cases v<;>unfold Sk.fit at h<;>first|(cases h;done)|skip
   cases h
   exact⟨.nilf,rfl,fun w g u hcd hr=>belowB_rep (n:=n) rfl hr⟩
 | .map b,v,ds,j,h,hy,_=>by
   cases v<;>unfold Sk.fit at h<;>first|(cases h;done)|skip
   split at h
   ·rename_i hd
    obtain⟨rfl,hd⟩:=of_decide_eq_true hd
    cases h
    exact⟨.map _,rfl,fun w g u hcd hr=>scB_rep hr (by simpa [V.scB]using hd)⟩
   ·cases h
 | .yld b R,v,ds,j,h,hy,_=>by
   cases v<;>unfold Sk.fit at h<;>first|(cases h;done)|skip
   split at h
   ·rename_i hd
    obtain⟨rfl,hd⟩:=of_decide_eq_true hd
    cases h
    have hy:c _=some R:=hy
    exact⟨.yld _ R,rfl,fun w g u hcd hr=>by cases hr with|yld _ R' hb hc=>exact .yld (g:=g.cut n) _ R hd (hcd _ _ hy)⟩
   ·cases h
 | .osl b sz,v,ds,j,h,_,ha=>by
   cases v<;>unfold Sk.fit at h<;>first|(cases h;done)|skip
   rename_i lo k
   split at h
   ·rename_i hd
    obtain⟨rfl,rfl,hd⟩:=of_decide_eq_true hd
    cases h
    refine⟨.osl _ _ lo k,?_,fun w g u hcd hr=>scB_rep hr (by simpa [V.scB]using hd)⟩
    have e0:sy.cell full j=some (.int .i64 lo):=ha 0 _ rfl
    have e1:sy.cell full (j+1)=some (.int .i64 k):=ha 1 _ rfl
    simp only [openSk,Tree.run,e0,e1,opI,decide_true,Option.bind_some]
    rfl
   ·cases h
theorem fit_openL (hE:E.Ok){n:Nat}{c:Nat→Option RecI}{full:List D}: ∀(l:List Sk) {vs:List V} {ds:List D} {j:Nat},Sk.fitL n l vs=some ds→Sk.okYL c l→At full j ds→
  ∃vs',(openSkL sy l full j).run E=some (vs',j+ds.length)∧vs'.length=vs.length∧ ∀(i:Nat) v v',vs[i]? =some v→vs'[i]? =some v'→WkY n c v v'
 | [],[],ds,j,h,hy,_=>by
   unfold Sk.fitL at h
   cases h
   exact⟨[],rfl,rfl,by simp⟩
 | [],_::_,ds,j,h,hy,_=>by unfold Sk.fitL at h;cases h
 |_::_,[],ds,j,h,hy,_=>by unfold Sk.fitL at h;cases h
 |k::ks,v::vs,ds,j,h,hy,ha=>by
  unfold Sk.fitL at h
  split at h
  ·rename_i a b h1 h2
   cases h
   obtain⟨v',e1,w1⟩:=fit_open hE k h1 hy.1 ha.left
   obtain⟨vs',e2,l2,w2⟩:=fit_openL hE ks h2 hy.2 ha.right
   refine⟨v'::vs',?_,by simp [l2],fun i x x' hx hx'=> ?_⟩
   ·unfold openSkL
    rw[run_bind hE,e1]
    simp only [Option.bind_some]
    rw[run_bind hE,e2]
    simp only [Option.bind_some,Tree.run,List.length_append,Nat.add_assoc]
   ·cases i with
    |zero=>simp at hx hx';subst hx;subst hx';exact w1
    |succ i=>exact w2 i x x' (by simpa using hx) (by simpa using hx')
  ·cases h
end
theorem bfit_open (hE:E.Ok){n:Nat}{c:Nat→Option RecI}{full:List D}(sk:BSk){x:Box}{ds:List D}{j:Nat}(h:BSk.fit n sk x=some ds)(hok:sk.okY c)(ha:At full j ds): ∃y,(openBSk sy sk full j).run E=some (y,j+ds.length)∧WkBY n c x y:=by
 cases sk with
 |gone=>
  have:ds= []:=by cases x<;>(simp only [BSk.fit]at h;cases h;rfl)
  subst this
  exact⟨.gone,rfl,fun _ _ _ _ _=>trivial,fun g b k hy=>by simp [Box.at?]at hy⟩
 |mp kk=>
  cases x<;>simp only [BSk.fit]at h<;>first|(cases h;done)|skip
  split at h
  ·rename_i rows _ hd
   have:=of_decide_eq_true hd
   subst this
   cases h
   refine⟨.mp _ rows,?_,fun w g b _ hr=>hr,fun g b k hy=>hy⟩
   simp only [openBSk,Tree.run]
   rw[ha.head]
   simp [opL]
  ·cases h
 |cells t l=>
  cases x<;>simp only [BSk.fit]at h<;>first|(cases h;done)|skip
  split at h
  ·rename_i vs _ hd
   have:=CK.fitB_spec hd
   subst this
   obtain⟨vs',e1,l1,w1⟩:=fit_openL hE l h hok ha
   refine⟨.cells _ vs',by unfold openBSk;rw[run_bind hE,e1];rfl,fun w g b hcd hr=> ?_,fun g b k hy=>hy⟩
   obtain⟨us,o,q1,q0,q2,q3⟩:=hr
   refine⟨us,o,q1,q0,by rw[q2,l1],fun i u v hu hv=> ?_⟩
   have hi:i < vs.length:=by rw[←l1];exact(List.getElem?_eq_some_iff.1 hv).1
   exact w1 i vs[i] v (List.getElem?_eq_getElem hi) hv w g u hcd (q3 i u _ hu (List.getElem?_eq_getElem hi))
  ·cases h
 |arr e sz=>
  cases x<;>simp only [BSk.fit]at h<;>first|(cases h;done)|skip
  split at h
  ·rename_i rows _ hd
   obtain⟨rfl,rfl⟩:=of_decide_eq_true hd
   cases h
   refine⟨.arr _ _ rows,?_,fun w g b _ hr=>hr,fun g b k hy=>hy⟩
   simp only [openBSk,Tree.run]
   rw[ha.head]
   simp [opL]
  ·cases h
theorem bfit_openL (hE:E.Ok){n:Nat}{c:Nat→Option RecI}{full:List D}: ∀(l:List BSk) {xs:List Box} {ds:List D} {j:Nat},BSk.fitL n l xs=some ds→(∀x∈l,x.okY c)→At full j ds→
  ∃ys,(openBL sy l full j).run E=some (ys,j+ds.length)∧ys.length=l.length∧l.length≤xs.length∧ ∀(i:Nat) y,ys[i]? =some y→ ∃x,xs[i]? =some x∧WkBY n c x y
 | [],xs,ds,j,h,_,_=>by
   have:ds= []:=by cases xs<;>(unfold BSk.fitL at h;cases h;rfl)
   subst this
   exact⟨[],rfl,rfl,Nat.zero_le _,by simp⟩
 |_::_,[],ds,j,h,_,_=>by unfold BSk.fitL at h;cases h
 |k::ks,x::xs,ds,j,h,hok,ha=>by
  unfold BSk.fitL at h
  split at h
  ·rename_i a b h1 h2
   cases h
   obtain⟨y,e1,w1⟩:=bfit_open hE k h1 (hok k List.mem_cons_self) ha.left
   obtain⟨ys,e2,l2,l3,w2⟩:=bfit_openL hE ks h2 (fun x hx=>hok x (List.mem_cons_of_mem _ hx)) ha.right
   refine⟨y::ys,?_,by simp [l2],by simp;exact l3,fun i y' hy'=> ?_⟩
   ·unfold openBL
    rw[run_bind hE,e1]
    simp only [Option.bind_some]
    rw[run_bind hE,e2]
    simp only [Option.bind_some,Tree.run,List.length_append,Nat.add_assoc]
   ·cases i with
    |zero=>simp at hy';subst hy';exact⟨x,rfl,w1⟩
    |succ i=>obtain⟨x',hx,hw⟩:=w2 i y' (by simpa using hy');exact⟨x',by simpa using hx,hw⟩
  ·cases h
theorem openS_at (hE:E.Ok){n:Nat}{c:Nat→Option RecI}{full:List D}{t:List V}: ∀ {ls:List (Nat × Sk)} {ds:List D} {j:Nat} {acc:List V},fitS' n t ls=some ds→(∀q∈ls,q.2.okY c)→At full j ds→acc.length=t.length→
  (∀(k:Nat) v',acc[k]? =some v'→WkY n c (t.getD k .any) v')→ ∃acc',(openS sy ls full j acc).run E=some (acc',j+ds.length)∧acc'.length=t.length∧ ∀(k:Nat) v',acc'[k]? =some v'→WkY n c (t.getD k .any) v'
 | [],ds,j,acc,h,_,_,hl,hw=>by cases h;exact⟨acc,rfl,hl,hw⟩
 |(k,sk)::ls,ds,j,acc,h,hok,ha,hl,hw=>by
  unfold fitS' at h
  split at h
  ·rename_i a b h1 h2
   cases h
   obtain⟨v',e1,w1⟩:=fit_open hE sk h1 (hok _ List.mem_cons_self) ha.left
   obtain⟨acc',e2,l2,w2⟩:=openS_at hE (acc:=acc.set k v') h2 (fun q hq=>hok q (List.mem_cons_of_mem _ hq)) ha.right (by simpa using hl) (fun i v hv=>by
    rw[List.getElem?_set]at hv
    by_cases hi:k=i
    ·subst hi
     rw[if_pos rfl]at hv
     split at hv
     ·cases hv;exact w1
     ·cases hv
    ·rw[if_neg hi]at hv;exact hw i v hv)
   refine⟨acc',?_,l2,w2⟩
   unfold openS
   rw[run_bind hE,e1]
   simp only [Option.bind_some,e2,List.length_append,Nat.add_assoc]
  ·cases h
theorem open_sim (hE:E.Ok){En:Ent}{hd:Hd}{s:VSt}{ds:List D}{a:Act}{w:World}{len:Nat}(hf:fitHd hd s=some ds)(hok:hd.okY (cdE En))(hn:En.g.n≤hd.boxes.length)(hlen:s.t.length=len)(hs:SimE En s a w):
  ∃s1,(openHd sy hd len ds).run E=some s1∧SimE En s1 a w:=by
 unfold fitHd at hf
 split at hf
 ·rename_i d1 d2 f1 f2
  cases hf
  have hat:At (d1++d2) 0 (d1++d2):=fun i x hx=>by rwa [Nat.zero_add]
  obtain⟨ts,e1,l1,w1⟩:=openS_at hE (acc:=List.replicate len .any) f1 hok.1 hat.left (by simp [hlen]) (fun k v' hv=>by
   have:=List.eq_of_mem_replicate (List.mem_of_getElem? hv);subst this;exact fun _ _ u _ _=> .any u)
  obtain⟨ys,e2,l2,l3,w2⟩:=bfit_openL hE hd.boxes f2 hok.2 hat.right
  refine⟨⟨ts,ys⟩,?_,?_⟩
  ·unfold openHd
   rw[run_bind hE,e1]
   simp only [Option.bind_some]
   rw[run_bind hE,e2]
   rfl
  ·obtain⟨g,hs⟩:=hs
   have hcd: ∀b x,cdE En b=some x→g.rc b=some x:=fun b x=>cdE_spec hs
   have hown: ∀k,Owned (g.cut hd.boxes.length) ys k→Owned g s.h k:=by
    rintro k ⟨b,y,hy,hat⟩
    obtain⟨x,hx,hw⟩:=w2 b y hy
    exact⟨b,x,hx,hw.2 g b k hat⟩
   refine⟨g.cut hd.boxes.length,⟨by simp [Gh.cut,l2],fun b y hy=> ?_,fun b c y z k hb hc hat hat'=> ?_,fun k o hk hz=>hs.heap.zsep k o (hown k hk) hz,hs.heap.zlt,hs.heap.tab⟩,by rw[hs.size,l1],fun i u v hu hv=> ?_,hs.defers.less hown rfl,?_,by rw[l1];exact hs.len⟩
   ·obtain⟨x,hx,hw⟩:=w2 b y hy
    exact hw.1 w g b hcd (hs.heap.rep b x hx)
   ·obtain⟨x,hx,hw⟩:=w2 b y hb
    obtain⟨x',hx',hw'⟩:=w2 c z hc
    exact hs.heap.sep b c x x' k hx hx' (hw.2 g b k hat) (hw'.2 g c k hat')
   ·have hi:i < s.t.length:=by rw[←l1];exact(List.getElem?_eq_some_iff.1 hv).1
    exact w1 i v hv w g u hcd (hs.tmps i u _ hu (by rw[List.getD_eq_getElem?_getD,List.getElem?_eq_getElem hi];rfl))
   ·obtain⟨k1,k2,k3,k4⟩:=hs.keep
    exact⟨⟨k1.Z,hn,k1.blk,k1.val,k1.cd⟩,k2,k3,fun k hk=>k4 k (hown k hk)⟩
 ·cases hf
def EnvN (E:Env):Prop:= ∃n,∀ {α:Type} (b:List D→Option (List D ⊕ α)) (ds:List D),E.lp b ds=iterN n b ds
theorem map_inj' {α β:Type}{f:α→β}(hf: ∀x y,f x=f y→x=y): ∀ {l m:List α},l.map f=m.map f→l=m
 | [],[],_=>rfl
 | [],_::_,h=>by cases h
 |_::_,[],h=>by cases h
 |x::l,y::m,h=>by
  simp only [List.map_cons,List.cons.injEq]at h
  rw[hf x y h.1,map_inj' hf h.2]
theorem keepL_len: ∀(i:Nat) (l:List Nat) (vs:List V),(keepL i l vs).length=vs.length
 |_,_,[]=>rfl
 |i,l,v::vs=>by simp only [keepL,List.length_cons,keepL_len]
theorem keepL_at: ∀(i:Nat) (l:List Nat) (vs:List V) (j:Nat) (v:V),(keepL i l vs)[j]? =some v→vs[j]? =some v∨v= .any
 |_,_,[],j,v,h=>by simp [keepL]at h
 |i,l,x::vs,0,v,h=>by
  simp only [keepL,List.getElem?_cons_zero,Option.some.injEq]at h
  subst h
  split
  ·exact .inl rfl
  ·exact .inr rfl
 |i,l,x::vs,j+1,v,h=>by
  simp only [keepL,List.getElem?_cons_succ]at h ⊢
  exact keepL_at (i+1) l vs j v h
theorem Sim.keepS {En:Ent}{s:VSt}{a:Act}{w:World}{g:Gh}(hs:Sim En s a w g)(l:Option (List Nat)):Sim En (Go.Vm.keepS l s) a w g:=by
 cases l with
 |none=>exact hs
 |some l=>
  refine⟨hs.heap,by rw[hs.size];exact(keepL_len 0 l s.t).symm,fun i u v hu hv=> ?_,hs.defers,hs.keep,by rw[←hs.len];exact keepL_len 0 l s.t⟩
  rcases keepL_at 0 l s.t i v hv with h|rfl
  ·exact hs.tmps i u v hu h
  ·exact .any _
theorem range_sound {En:Ent}{s:VSt}{a:Act}{w:World}{g:Gh}{y:Operand}{f:FuncId}{caps:List V}{ps:Array Tmp}{assign body:Code}{me:FuncId}{r1:List Nat × V × List Box}{r:Exit × VSt}
  (hs:Sim En s a w g) (hnr:En.nr=false) (hr:Rep w g (a.eval y) (.fn f caps)) (hg:goodF P f=true)
  (hcall:HCall P r1.1 f (.yld s.h.length ⟨me,ps,assign,body⟩::caps) (s.h++[.cells (.rcd .ready) s.t]) r1.2.1 r1.2.2)
  (hk:Tree.run E (match okM En.g.n En.M r1.1&& !r1.1.contains s.h.length,r1.2.2[s.h.length]? with
     |true,some (.cells (.rcd .ready) vs)=> .ret (.normal,⟨vs,r1.2.2.set s.h.length .gone⟩)
     |true,some (.cells (.rcd (.done .ret)) vs)=> .ret (.ret,⟨vs,r1.2.2.set s.h.length .gone⟩)
     |true,some (.cells (.rcd (.done (.exit id))) vs)=> .ret (.exit id,⟨vs,r1.2.2.set s.h.length .gone⟩)
     |_,_=> .fail)=some r):
  (Code.rangeFunc y ps assign body).wpIn (Fw none) 0 P (fun e a' w'=>e=r.1∧SimE En r.2 a' w') a w:=by
 refine wpIn_rangeFunc fun fn _=> ?_
 have hn:g.n=s.h.length:=hs.heap.n
 let rec0:Loop:= { state:= .ready,pending:=none,fn:=fn,tmps:=a.tmps,params:=ps,assign:=assign,body:=body,defers:=w.heap.size }
 let w1:World:=(w.alloc (.deferred (some []))).alloc (.loop rec0)
 let R:RecI:=⟨me,ps,assign,body⟩
 let G:RecG:=⟨R,a.tmps⟩
 let g1:Gh:=g.push (w.heap.size+1) undef (some G)
 generalize hu0:a.eval y=u0 at hr
 cases hr with
 |fn _ us _ hl hcap=>
 have hsz1:w1.heap.size=w.heap.size+2:=by show((w.heap.push _).push _).size=_;simp
 have hD1:w1.heap[w.heap.size]? =some (.deferred (some [])):=by show((w.heap.push _).push _)[w.heap.size]? =_;rw[Array.getElem?_push,if_neg (by simp),Array.getElem?_push,if_pos rfl]
 have hL1:w1.heap[w.heap.size+1]? =some (.loop rec0):=by show((w.heap.push _).push _)[w.heap.size+1]? =_;rw[Array.getElem?_push,if_pos (by simp)]
 have hfr1:Fr (fun _=>False) w w1:=⟨rfl,rfl,rfl,by omega,fun k hk _=>by show((w.heap.push _).push _)[k]? =_;rw[Array.getElem?_push,if_neg (by simp;omega),Array.getElem?_push,if_neg (by omega)]⟩
 have hb1:g1.blk g.n=w.heap.size+1:=by simp [g1,Gh.push]
 have hc1:g1.cd g.n=some G:=by simp [g1,Gh.push]
 have ho1:Over [] w g w1 g1:=⟨g.push_le _ _ _,fun b o hz=>hfr1.cell (hs.heap.zlt b o hz) (fun h=>h)⟩
 have hk1:Keep [] g s.h w g1 (s.h++[.cells (.rcd .ready) s.t]) w1:=
  Keep.push hs.heap _ _ _ hfr1 ⟨a.tmps,_,by rw[show(g.push (w.heap.size+1) undef (some G)).blk g.n=_ from hb1];exact hL1,⟨fn,w.heap.size,G,hc1,rfl,rfl⟩,hs.size,fun i u v hu hv=>ho1.repC_nil (hs.tmps i u v hu hv)⟩
   (fun k' hk'=>by simp only [Box.at?,Option.some.injEq]at hk';rw[show(g.push (w.heap.size+1) undef (some G)).blk g.n=_ from hb1]at hk';omega)
 have hDo: ¬Owned g1 (s.h++[.cells (.rcd .ready) s.t]) w.heap.size:=by
  rintro⟨b,x,hx,hat⟩
  rcases hk1.own _ ⟨b,x,hx,hat⟩with q|q
  ·have:=hs.heap.owned_lt q;omega
  ·rw[List.getElem?_append]at hx
   split at hx
   ·rename_i hlt
    have hbn:b < g.n:=by omega
    rw[Box.at?_congr ((g.push_le _ _ _).blk b hbn (by simp)) ((g.push_le _ _ _).val b hbn (by simp))]at hat
    have:=(hs.heap.rep b x hx).lt hat
    omega
   ·rename_i hlt
    have hb0:b - s.h.length=0:=by
     rcases Nat.eq_zero_or_pos (b - s.h.length)with h0|h0
     ·exact h0
     ·rw[List.getElem?_eq_none (by simp;omega)]at hx;cases hx
    rw[hb0]at hx
    simp at hx
    subst hx
    have hbn:b=g.n:=by omega
    subst hbn
    simp only [Box.at?,Option.some.injEq,hb1]at hat
    omega
 refine⟨w.heap.size+1,[{ target:= .collected w.heap.size,args:= #[] }],w1,{ target:= .fn (.func f) us,args:= #[.func (.yield (w.heap.size+1)) #[] #[]] },w1,f,
  #[.func (.yield (w.heap.size+1)) #[] #[]]++us,w1,run_enterLoop_outer _ _ _ _ _,?_,fun _ _=>trivial,?_,fun h=>by simp [Fw,Fence.wide]at h,?_⟩
 ·simp only [resolve,hu0]
  simp [go_sem]
 ·simp [invoke,go_sem,run_callFunc hg]
 ·refine callsIn_Fw.2 ?_
  have hargs:Reps w1 g1 (.func (.yield (w.heap.size+1)) #[] #[]::us.toList) (.yld s.h.length R::caps):=by
   refine⟨by simp [hl],fun i u v h1 h2=> ?_⟩
   cases i with
   |zero=>
    simp at h1 h2;subst h1;subst h2
    have:=Rep.yld (w:=w1) (g:=g1) g.n R (by simp [g1,Gh.push]) (by unfold Gh.rc;rw[hc1];rfl)
    rwa [hb1,hn]at this
   |succ i=>simp at h1 h2;exact ho1.repC_nil (hcap i u v h1 h2)
  have hc:=hcall g1 w1 _ hk1.heap hargs
  have e0:(Value.func (.yield (w.heap.size+1)) #[] #[]::us.toList).toArray= #[.func (.yield (w.heap.size+1)) #[] #[]]++us:=by apply Array.ext';simp
  rw[e0]at hc
  refine hc.mono ?_
  rintro _ w2 ⟨u,g2,rfl,hru,hk2⟩
  let a':Act:= { a with defers:=[{ target:= .collected w.heap.size,args:= #[] }]++a.defers }
  have hs1:Sim En ⟨s.t,s.h++[.cells (.rcd .ready) s.t]⟩ a' w1 g1:=by
   refine⟨hk1.heap,hs.size,fun i u v hu hv=>ho1.repC_nil (hs.tmps i u v hu hv),?_,hs.step hk1 (by simp [okM]),hs.len⟩
   obtain⟨Ds,d1,d2,d3⟩:=hs.defers.keep hk1
   refine⟨w.heap.size::Ds,⟨by simp [a',d1.1],fun h=>(by rw[hnr]at h;cases h)⟩,List.nodup_cons.2 ⟨fun hm=> ?_,d2⟩,fun D hD=> ?_⟩
   ·obtain⟨Ds',e1,_,e3⟩:=hs.defers
    have:Ds'=Ds:=by
     have:=List.append_cancel_right (e1.1.symm.trans d1.1)
     exact map_inj' (fun x y h=>by simpa using h) this
    subst this
    have:=(Array.getElem?_eq_some_iff.1 (e3 _ hm).2.1).1
    omega
   ·rcases List.mem_cons.1 hD with rfl|hD
    ·refine⟨hs.keep.2.1.size,hD1,hDo,fun o hz=> ?_⟩
     have:=hs.heap.zlt _ o hz
     omega
    ·exact d3 D hD
  have fin: ∀(st:RSt) (vs:List V),(okM En.g.n En.M r1.1&& !r1.1.contains s.h.length)=true→r1.2.2[s.h.length]? =some (.cells (.rcd st) vs)→st.state≠ .busy→
      ∃w4,(Instr.endLoop (w.heap.size+1)).run P w2= .ok st.pend w4∧SimE En ⟨vs,r1.2.2.set s.h.length .gone⟩ a' w4:=by
   intro st vs hM hbx hst
   simp only [Bool.and_eq_true,Bool.not_eq_true',List.contains_eq_mem,decide_eq_false_iff_not]at hM
   have hgn:g1.n=g.n+1:=rfl
   have hb2:g2.blk s.h.length=w.heap.size+1:=by rw[hk2.le.blk _ (by omega) hM.2,←hn,hb1]
   obtain⟨us2,o2,q1,⟨fn2,D2,x2,q2,q2',rfl⟩,q3,q4⟩:=hk2.heap.rep _ _ hbx
   have hx2:x2=G:=by
    have h1:=hk2.le.cd s.h.length (by omega)
    rw[←hn]at h1 q2
    rw[h1,hc1]at q2
    exact(Option.some.inj q2).symm
   subst hx2
   subst q2'
   have q1':=q1
   rw[hb2]at q1
   have hs2:=hs1.next hk2 hM.1 hru none
   refine⟨_,run_endLoop q1 hst,?_⟩
   generalize hw4:w2.putObj (w.heap.size+1) _=w4
   have hfr:Fr (fun k=>(Box.cells (.rcd st) vs).at? g2 s.h.length=some k) w2 w4:=by
    rw[←hw4]
    refine⟨rfl,rfl,rfl,by simp,fun k hk hnk=>World.putObj_heap_other fun e=>hnk ?_⟩
    simp only [Box.at?,hb2,e]
   have hk3:=Keep.turn (y:= .gone) hk2.heap hbx [] (.inl ⟨rfl,rfl⟩) rfl rfl rfl (fun _ _=>⟨rfl,rfl⟩) hfr trivial (fun k hk=>by simp [Box.at?]at hk)
   rw[map_kill_nil]at hk3
   have ho3:=hk3.over hk2.heap
   refine⟨g2,hk3.heap,by rw[←q3],fun i u v hu hv=>ho3.repC_nil (q4 i u v hu hv),hs2.defers.keep hk3,hs2.step hk3 (by simp [okM]),?_⟩
   rw[←hs.len]
   show vs.length=s.t.length
   rw[←q3,←hs.size]
  show rangePost _ _ _ _ _ _ _ _
  split at hk
  ·rename_i vs hM hbx
   obtain⟨w4,e1,hs4⟩:=fin _ _ hM hbx (by simp [RSt.state])
   cases hk
   exact⟨none,w4,e1,rfl,hs4⟩
  ·rename_i vs hM hbx
   obtain⟨w4,e1,hs4⟩:=fin _ _ hM hbx (by simp [RSt.state])
   cases hk
   exact⟨some .ret,w4,e1,wpIn_ret ⟨rfl,hs4⟩⟩
  ·rename_i id vs hM hbx
   obtain⟨w4,e1,hs4⟩:=fin _ _ hM hbx (by simp [RSt.state])
   cases hk
   exact⟨some (.exit id),w4,e1,wpIn_exit ⟨rfl,hs4⟩⟩
  ·cases hk
theorem least {p:Nat→Prop}(h: ∃n,p n): ∃n,p n∧ ∀m,m < n→ ¬p m:=by
 obtain⟨n,hn⟩:=h
 induction n using Nat.strongRecOn with
 |_ n ih=>
  by_cases hx: ∃m,m < n∧p m
  ·obtain⟨m,hm,hp⟩:=hx
   exact ih m hm hp
  ·exact⟨n,hn,fun m hm hp=>hx ⟨m,hm,hp⟩⟩
theorem jump_mono {l:Nat}{J J':Act→World→Prop}{Q:Exit→Act→World→Prop}(h: ∀a w,J a w→J' a w): ∀e a w,Exit.jump l J Q e a w→Exit.jump l J' Q e a w:=by
 intro e a w hq
 cases e<;>first|exact hq|exact⟨hq.1,h _ _ hq.2⟩
theorem wp_scope_rounds {c rest:Code}{a:Act}{w:World}{Q:Exit→Act→World→Prop}(l:Nat)(J:Nat→Act→World→Prop)(hf:findLabel c l=some rest)
  (first:c.wp P (Exit.jump l (fun a w=> ∃n,J n a w) Q) a w)
  (pass: ∀n a w,J n a w→rest.wp P (Exit.jump l (fun a' w'=> ∃m,m < n∧J m a' w') Q) a w):(Code.scope c).wp P Q a w:=by
 have hl: ∀a w,∃k,(∃n,J n a w)→J k a w∧ ∀m,m < k→ ¬J m a w:=fun a w=>by
  by_cases h: ∃n,J n a w
  ·obtain⟨k,h1,h2⟩:=least h
   exact⟨k,fun _=>⟨h1,h2⟩⟩
  ·exact⟨0,fun h'=>(h h').elim⟩
 refine wp_scope_jumps l (fun a w=> ∃n,J n a w) (fun a w=>Classical.choose (hl a w)) hf first fun a w hJ=> ?_
 have hs:=Classical.choose_spec (hl a w) hJ
 refine wp_mono (pass _ a w hs.1) (jump_mono fun a' w' ⟨m,hm,hj⟩=>⟨⟨m,hj⟩,?_⟩)
 have hs':=Classical.choose_spec (hl a' w') ⟨m,hj⟩
 have: ¬m < Classical.choose (hl a' w'):=fun h=>hs'.2 m h hj
 show Classical.choose (hl a' w') < Classical.choose (hl a w)
 omega
def spineOf (C:CfgT):Code→Option (Nat × Code)
 | .seq x y=>match labX C x with
   |some (l,_)=>some (l,y)
   |none=>match flatX x with
    |true=>spineOf C y
    |false=>none
 |_=>none
theorem labX_some {C:CfgT}{x:Code}{l:Nat}{an:LAn}(h:labX C x=some (l,an)):x= .label l∧C.labs l=some an:=by
 unfold labX at h
 split at h
 ·split at h
  ·cases h;exact⟨rfl,by assumption⟩
  ·cases h
 ·cases h
theorem spine_label {C:CfgT}: ∀ {c:Code} {l:Nat} {y:Code},spineOf C c=some (l,y)→findLabel c l=some (.seq .skip y):=by
 intro c
 induction c with
 |seq x z ihx ihz=>
  intro l y h
  unfold spineOf at h
  split at h
  ·rename_i l' an hx
   cases h
   obtain⟨rfl,_⟩:=labX_some hx
   simp [findLabel]
  ·split at h
   ·rename_i hfx
    have:findLabel x l=none:=by cases x<;>simp [flatX]at hfx<;>rfl
    simp only [findLabel,this]
    exact ihz h
   ·cases h
 |_=>intro l y h;cases h
def ER (En:Ent)(r:Exit × VSt)(e:Exit)(a:Act)(w:World):Prop:=(r.1= .outgrown∧ ∃p t,r.2.t=p::t∧PanE En p t r.2.h e a w)∨(r.1≠ .outgrown∧e=r.1∧SimE En r.2 a w)
theorem ER.ok {En:Ent}{x:Exit}{s:VSt}{a:Act}{w:World}(hs:SimE En s a w)(hx:x≠ .outgrown:=by simp):ER En (x,s) x a w:= .inr ⟨hx,rfl,hs⟩
theorem ER.of_op {En:Ent}{q:Option V × VSt}{e:Exit}{a:Act}{w:World}(h:OpR En q e a w):ER En (endO q) e a w:=by
 obtain⟨p,s⟩:=q
 cases p with
 |none=>obtain⟨rfl,h⟩:=h;exact .inr ⟨by simp [endO],rfl,h⟩
 |some p=>exact .inl ⟨rfl,p,s.t,rfl,h⟩
theorem ER.of_opX {En:Ent}{q:Option V × VSt}{e:Exit}{s:VSt}{a a0:Act}{w w0:World}(h0:SimE En s a0 w0)(h:OpRX En q e a w):ER En (endD s q) e a w:=by
 obtain⟨p,s⟩:=q
 cases p with
 |none=>obtain⟨rfl,h⟩:=h;exact .inr ⟨by simp [endD],rfl,h⟩
 |some p=>
  obtain⟨t,g,u,he,hr,hs⟩:=h
  obtain⟨g0,h0⟩:=h0
  have hl:=h0.len
  have hl2:=hs.len
  exact .inl ⟨rfl,p,_,rfl,g,u,he,hr,hs.heap,by rw[hs.size];simp only [List.length_map];rw[hl];exact hl2,fun i u v hu hv=>by
   rw[List.getElem?_map,Option.map_eq_some_iff]at hv
   obtain⟨_,_,rfl⟩:=hv
   exact .any u,hs.defers,hs.keep,by simpa using hl⟩
theorem ER.split {En:Ent}{x:Exit}{s:VSt}{e:Exit}{a:Act}{w:World}(h:ER En (x,s) e a w):(x= .outgrown∧(∃u,e= .panic [{ v:=u,recovered:=false }])∧ ∃p t,s.t=p::t∧PanE En p t s.h e a w)∨(x≠ .outgrown∧e=x∧SimE En s a w):=by
 rcases h with⟨h1,p,t,h2,h3⟩|h
 ·obtain⟨g,u,he,h4⟩:=id h3
  exact .inl ⟨h1,⟨u,he⟩,p,t,h2,h3⟩
 ·exact .inr h
def JumpAt (P:Program)(E:Env)(inR:Bool)(C:CfgT)(ent:Callee→List V→List Box→Tree (List Nat × V × List Box))(En:Ent)(b l:Nat)(y:Code)(r:Exit × VSt)(k:Nat)(a:Act)(w:World):Prop:=
 ∃hd,En.g.n≤hd.boxes.length∧hd.okY (cdE En)∧ ∃ds s1,iterN k (fun ds:List D=>Tree.run E ((openHd sy hd En.len ds).bind fun s1=>forceL s1.t fun t=>(codeT sy P inR C ent En.g.n En.M false b y ⟨t,s1.h⟩).bind (endG l hd))) ds=some r∧fitHd hd s1=some ds∧SimE En s1 a w
theorem jump_pass {inR:Bool}{ro:Option Nat}(hE:E.Ok){C:CfgT}{ent:Callee→List V→List Box→Tree (List Nat × V × List Box)}{En:Ent}{y:Code}{b l:Nat}{r:Exit × VSt}
  (ih: ∀(b:Nat) (s:VSt) (a:Act) (w:World) (r:Exit × VSt),(codeT sy P inR C ent En.g.n En.M false b y s).run E=some r→SimE En s a w→y.wpIn (Fw ro) 0 P (ER En r) a w)
  (k:Nat) (a:Act) (w:World) (hJ:JumpAt P E inR C ent En b l y r k a w):
  y.wpIn (Fw ro) 0 P (fun e a' w'=>ER En r e a' w'∨(e= .goto l∧ ∃m,m < k∧JumpAt P E inR C ent En b l y r m a' w')) a w:=by
 obtain⟨hd,hd0,hok,ds,s1,hi,hf,hs1⟩:=hJ
 generalize hbody:(fun ds:List D=>Tree.run E ((openHd sy hd En.len ds).bind fun s1=>forceL s1.t fun t=>(codeT sy P inR C ent En.g.n En.M false b y ⟨t,s1.h⟩).bind (endG l hd)))=body at hi
 cases k with
 |zero=>cases hi
 |succ k=>
  simp only [iterN]at hi
  obtain⟨s2,e1,hs2⟩:=open_sim (len:=En.len) hE hf hok hd0 hs1.len hs1
  have hb:body ds=Tree.run E ((codeT sy P inR C ent En.g.n En.M false b y s2).bind (endG l hd)):=by
   rw[←hbody]
   simp only
   rw[run_bind hE,e1]
   simp only [Option.bind_some,forceL_eq]
  rw[hb]at hi
  cases hq:Tree.run E ((codeT sy P inR C ent En.g.n En.M false b y s2).bind (endG l hd))with
  |none=>rw[hq]at hi;cases hi
  |some q=>
   rw[hq]at hi
   obtain⟨r1,h1,h2⟩:=run_bind_some hE hq
   refine wpIn_mono (ih b s2 a w r1 h1 hs2) fun e a' w' hr=> ?_
   obtain⟨x,s'⟩:=r1
   cases x with
   |goto l'=>
    obtain⟨h0,_⟩|⟨_,rfl,hs'⟩:=hr.split
    ·cases h0
    simp only [endG]at h2
    split at h2
    ·rename_i ds' hl hf'
     have hl:=of_decide_eq_true hl
     subst hl
     cases h2
     refine .inr ⟨rfl,k,Nat.lt_succ_self k,hd,hd0,hok,ds',_,?_,hf',hs'⟩
     rw[hbody];exact hi
    ·cases h2
   |_=>cases h2;cases hi;exact .inl hr
theorem codeT_soundJ {inR:Bool}{ro:Option Nat}(hro:inR=false→ro=none)(hE:E.Ok)(hN:EnvN E)(hG:EnvGood P E){C:CfgT}{ent:Callee→List V→List Box→Tree (List Nat × V × List Box)}(hent:EntGood P E ent){En:Ent}(hnr:inR=false→En.nr=false)(hm:P.follows .mixedOrders=true):
  ∀(c:Code),(∀(sc:Bool) (b:Nat) (s:VSt) (a:Act) (w:World) (r:Exit × VSt),(codeT sy P inR C ent En.g.n En.M sc b c s).run E=some r→SimE En s a w→
  c.wpIn (Fw ro) 0 P (fun e a' w'=>ER En r e a' w'∨(sc=true∧ ∃l y,spineOf C c=some (l,y)∧e= .goto l∧ ∃k,JumpAt P E inR C ent En b l y r k a' w')) a w)∧
  (∀l y,spineOf C c=some (l,y)→ ∀(b:Nat) (s:VSt) (a:Act) (w:World) (r:Exit × VSt),(codeT sy P inR C ent En.g.n En.M false b y s).run E=some r→SimE En s a w→y.wpIn (Fw ro) 0 P (ER En r) a w):=by
 have noJ: ∀ {sc:Bool} {e:Exit} {X Y:Prop},sc=false→(X∨(sc=true∧Y))→X:=fun h hx=>by
  rcases hx with hx|⟨h1,_⟩
  ·exact hx
  ·rw[h]at h1;cases h1
 intro c
 induction c with
 |skip=>exact⟨fun sc b s a w r hk hs=>by cases hk;exact wpIn_skip (.inl (ER.ok hs)),fun l y h=>by cases h⟩
 |region id ops draw=>
  refine⟨fun sc b s a w r hk hs=> ?_,fun l y h=>by cases h⟩
  unfold codeT at hk
  cases draw with
  |false=>
   obtain⟨s',h1,hk⟩:=run_bind_some hE hk
   cases hk
   exact wpIn_region_list (opsT_sound hE hG hent _ (Nat.le_refl _) h1 hs fun e a' w' h=> .inl (ER.of_op h))
  |true=>
   obtain⟨s',h1,hk⟩:=run_bind_some hE hk
   cases hk
   exact drawT_sound hE hG hent hm h1 hs fun e a' w' h=> .inl (ER.of_opX hs h)
 |seq x y ihx ihy=>
  have ihx0: ∀(b:Nat) (s:VSt) (a:Act) (w:World) (r:Exit × VSt),(codeT sy P inR C ent En.g.n En.M false b x s).run E=some r→SimE En s a w→x.wpIn (Fw ro) 0 P (ER En r) a w:=
   fun b s a w r hk hs=>wpIn_mono (ihx.1 false b s a w r hk hs) fun e a' w' h=>noJ (e:=e) rfl h
  have ihy0: ∀(b:Nat) (s:VSt) (a:Act) (w:World) (r:Exit × VSt),(codeT sy P inR C ent En.g.n En.M false b y s).run E=some r→SimE En s a w→y.wpIn (Fw ro) 0 P (ER En r) a w:=
   fun b s a w r hk hs=>wpIn_mono (ihy.1 false b s a w r hk hs) fun e a' w' h=>noJ (e:=e) rfl h
  refine⟨fun sc b s a w r hk hs=> ?_,fun l z h=> ?_⟩
  ·unfold codeT at hk
   split at hk
   ·rename_i l an hlab
    have hsc:sc=true∧labX C x=some (l,an):=by cases sc<;>simp [labS]at hlab<;>simp [hlab]
    obtain⟨rfl,hx⟩:=hsc
    have hsp:spineOf C (.seq x y)=some (l,y):=by unfold spineOf;rw[hx]
    obtain⟨rfl,_⟩:=labX_some hx
    simp only at hk
    generalize hhd:headS En.g.n an s=hd at hk
    split at hk
    ·rename_i ds0 hd0 hf0
     simp only [Bool.and_eq_true,decide_eq_true_eq]at hd0
     obtain⟨⟨hd0,hyB⟩,hann⟩:=hd0
     have hok:hd.okY (cdE En):=by rw[←hhd]at hyB ⊢;exact headS_okY hs hyB hann
     simp only [Tree.run]at hk
     obtain⟨n,hn⟩:=hN
     rw[hn,hs.len]at hk
     refine wpIn_seq (wpIn_label ?_)
     have hJ:JumpAt P E inR C ent En b l y r n a w:=⟨hd,hd0,hok,ds0,s,hk,hf0,hs⟩
     refine wpIn_mono (jump_pass hE ihy0 n a w hJ) fun e a' w' h=> ?_
     rcases h with h|⟨he,m,_,hJ⟩
     ·exact .inl h
     ·exact .inr ⟨rfl,l,y,hsp,he,m,hJ⟩
    ·cases hk
   ·rename_i hlab
    have key: ∀(s':VSt) (a':Act) (w':World),(codeT sy P inR C ent En.g.n En.M (sc&&flatX x) b y s').run E=some r→SimE En s' a' w'→
        y.wpIn (Fw ro) 0 P (fun e a' w'=>ER En r e a' w'∨(sc=true∧ ∃l z,spineOf C (.seq x y)=some (l,z)∧e= .goto l∧ ∃k,JumpAt P E inR C ent En b l z r k a' w')) a' w':=by
     intro s' a' w' hk hs'
     refine wpIn_mono (ihy.1 _ b s' a' w' r hk hs') fun e a2 w2 h=> ?_
     rcases h with h|⟨hsc,l,z,hsp,he⟩
     ·exact .inl h
     ·simp only [Bool.and_eq_true]at hsc
      refine .inr ⟨hsc.1,l,z,?_,he⟩
      have hl:labX C x=none:=by rw[hsc.1]at hlab;exact hlab
      unfold spineOf
      rw[hl,hsc.2];exact hsp
    split at hk
    ·obtain⟨r1,h1,hk⟩:=run_bind_some hE hk
     refine wpIn_seq (wpIn_mono (ihx0 b s a w r1 h1 hs) fun e a' w' hr=> ?_)
     obtain⟨x,s'⟩:=r1
     rcases hr.split with⟨rfl,⟨u,rfl⟩,_⟩|⟨hx,rfl,hs'⟩
     ·cases hk;exact .inl hr
     ·cases e with
      |normal=>exact key s' a' w' hk hs'
      |_=>cases hk;exact .inl hr
    ·rename_i an _
     simp only at hk
     have hs:=hs.datB (P:=P) an.dat
     generalize datB P s an.dat=s0 at hk hs
     split at hk
     ·rename_i hd
      simp only [Bool.and_eq_true,decide_eq_true_eq]at hd
      obtain⟨⟨hd,hyB⟩,hann⟩:=hd
      have hok:=headS_okY hs hyB hann
      simp only [Tree.run]at hk
      obtain⟨q,h1,hk⟩:=Option.bind_eq_some_iff.1 hk
      obtain⟨r1,h1,h2⟩:=run_bind_some hE h1
      refine wpIn_seq (wpIn_mono (ihx0 b s0 a w r1 h1 hs) fun e a' w' hr=> ?_)
      obtain⟨x,s'⟩:=r1
      rcases hr.split with⟨rfl,⟨u,rfl⟩,_⟩|⟨hx,rfl,hs'⟩
      ·cases h2;cases hk;exact .inl hr
      cases e with
      |outgrown=>exact(hx rfl).elim
      |normal=>
       simp only [datX,endR]at h2
       split at h2
       ·rename_i ds hf
        cases h2
        simp only at hk
        have hs':=hs'.datB (P:=P) an.dat
        have hlen:(datB P s' an.dat).t.length=s0.t.length:=by rw[hs'.len,hs.len]
        obtain⟨s1,e1,hs1⟩:=open_sim hE hf hok hd hlen hs'
        obtain⟨s2,e2,hk⟩:=run_bind_some hE hk
        rw[e1]at e2;cases e2
        rw[forceL_eq]at hk
        exact key s1 a' w' hk hs1
       ·cases h2
      |_=>cases h2;cases hk;exact .inl (ER.ok (hs'.datB (P:=P) an.dat))
     ·cases hk
  ·unfold spineOf at h
   split at h
   ·cases h;exact ihy0
   ·split at h
    ·exact ihy.2 l z h
    ·cases h
 |cond c x y ihx ihy=>
  refine⟨fun sc b s a w r hk hs=> ?_,fun l y h=>by cases h⟩
  unfold codeT at hk
  split at hk
  ·rename_i t ht
   obtain⟨g,hs'⟩:=hs
   have e1:=rep_bool_inv (ht▸hs'.get c)
   cases t with
   |true=>exact wpIn_cond_true e1 (wpIn_mono (ihx.1 false b _ a w r hk (setC_sim ⟨g,hs'⟩ ht)) fun e a' w' h=> .inl (noJ (e:=e) rfl h))
   |false=>exact wpIn_cond_false e1 (wpIn_mono (ihy.1 false b _ a w r hk (setC_sim ⟨g,hs'⟩ ht)) fun e a' w' h=> .inl (noJ (e:=e) rfl h))
  ·cases hk
 |block id c ih0=>
  have ih:=fun b s a w r hk hs=>wpIn_mono (ih0.1 false b s a w r hk hs) fun e a' w' h=>noJ (e:=e) rfl h
  refine⟨fun sc b s a w r hk hs=> ?_,fun l y h=>by cases h⟩
  unfold codeT at hk
  obtain⟨r1,h1,hk⟩:=run_bind_some hE hk
  cases hk
  refine wpIn_block (wpIn_mono (ih id s a w r1 h1 hs) fun e a' w' hr=> ?_)
  obtain⟨x,s'⟩:=r1
  rcases hr.split with⟨rfl,⟨u,rfl⟩,_⟩|⟨hx,rfl,hs'⟩
  ·exact .inl hr
  cases e with
  |exit id'=>
   simp only [Exit.inBlock,inBl]
   split
   ·rename_i hd;rw[decide_eq_true hd];exact .inl (ER.ok hs')
   ·rename_i hd;rw[decide_eq_false hd];exact .inl (ER.ok hs')
  |_=>exact .inl hr
 |loop c ih0=>
  have ih:=fun b s a w r hk hs=>wpIn_mono (ih0.1 false b s a w r hk hs) fun e a' w' h=>noJ (e:=e) rfl h
  refine⟨fun sc b s a w r hk hs=> ?_,fun l y h=>by cases h⟩
  unfold codeT at hk
  simp only at hk
  have hs:=((((hs.frzs (bs:=(C.loops b).ice)).mintP (P:=P) (C.loops b).own2).mintB (P:=P) (C.loops b).own).soleS (C.loops b).sole).datB (P:=P) (C.loops b).dat
  generalize datB P (soleS (C.loops b).sole (mintB P (mintP P (s.frz (C.loops b).ice) (C.loops b).own2) (C.loops b).own)) (C.loops b).dat=s0 at hk hs
  generalize hhd:headS En.g.n (C.loops b) s0=hd at hk
  split at hk
  ·rename_i ds0 hd0 hf0
   simp only [Bool.and_eq_true,decide_eq_true_eq]at hd0
   obtain⟨⟨hd0,hyB⟩,hann⟩:=hd0
   have hok:hd.okY (cdE En):=by rw[←hhd]at hyB ⊢;exact headS_okY hs hyB hann
   simp only [Tree.run]at hk
   obtain⟨n,hn⟩:=hN
   rw[hn]at hk
   generalize hbody:(fun ds:List D=>Tree.run E ((openHd sy hd s0.t.length ds).bind fun s1=>forceL s1.t fun t=>(codeT sy P inR C ent En.g.n En.M false b c ⟨t,s1.h⟩).bind fun r=>endR hd (datX P (C.loops b).dat r)))=body at hk
   have hlen:=hs.len
   refine wpIn_rounds (fun k a w=> ∃ds s1,iterN k body ds=some r∧fitHd hd s1=some ds∧SimE En s1 a w) n ⟨ds0,s0,hk,hf0,hs⟩ ?_
   rintro k a w ⟨ds,s1,hi,hf,hs1⟩
   cases k with
   |zero=>cases hi
   |succ k=>
    simp only [iterN]at hi
    obtain⟨s2,e1,hs2⟩:=open_sim (len:=s0.t.length) hE hf hok hd0 (by rw[hs1.len,hlen]) hs1
    have hb:body ds=Tree.run E ((codeT sy P inR C ent En.g.n En.M false b c s2).bind fun r=>endR hd (datX P (C.loops b).dat r)):=by
     rw[←hbody]
     simp only
     rw[run_bind hE,e1]
     simp only [Option.bind_some,forceL_eq]
    rw[hb]at hi
    cases hq:Tree.run E ((codeT sy P inR C ent En.g.n En.M false b c s2).bind fun r=>endR hd (datX P (C.loops b).dat r))with
    |none=>rw[hq]at hi;cases hi
    |some q=>
     rw[hq]at hi
     obtain⟨r1,h1,h2⟩:=run_bind_some hE hq
     refine wpIn_mono (ih b s2 a w r1 h1 hs2) fun e a' w' hr=> ?_
     obtain⟨x,s'⟩:=r1
     rcases hr.split with⟨rfl,⟨u,rfl⟩,_⟩|⟨hx,rfl,hs'⟩
     ·cases h2;cases hi;exact .inl hr
     cases e with
     |outgrown=>exact(hx rfl).elim
     |normal=>
      simp only [datX,endR]at h2
      split at h2
      ·rename_i ds' hf'
       cases h2
       exact⟨k,Nat.lt_succ_self k,ds',_,hi,hf',hs'.datB (P:=P) (C.loops b).dat⟩
      ·cases h2
     |_=>cases h2;cases hi;exact .inl (ER.ok (hs'.datB (P:=P) (C.loops b).dat))
  ·cases hk
 |exit id=>exact⟨fun sc b s a w r hk hs=>by cases hk;exact wpIn_exit (.inl (ER.ok hs)),fun l y h=>by cases h⟩
 |ret=>exact⟨fun sc b s a w r hk hs=>by cases hk;exact wpIn_ret (.inl (ER.ok hs)),fun l y h=>by cases h⟩
 |label l=>exact⟨fun sc b s a w r hk hs=>by cases hk;exact wpIn_label (.inl (ER.ok hs)),fun l y h=>by cases h⟩
 |goto l=>exact⟨fun sc b s a w r hk hs=>by cases hk;exact wpIn_goto (.inl (ER.ok hs)),fun l y h=>by cases h⟩
 |scope c ih=>
  refine⟨fun sc b s a w r hk hs=> ?_,fun l y h=>by cases h⟩
  unfold codeT at hk
  cases inR with
  |true=>cases hk
  |false=>
   have hro:=hro rfl
   subst hro
   obtain⟨r1,h1,hk⟩:=run_bind_some hE hk
   have h0:=ih.1 true b s a w r1 h1 hs
   obtain⟨e0,s0⟩:=r1
   have hr:r=(e0,s0)∧ ∀l,e0≠ .goto l:=by cases e0<;>first|(cases hk;exact⟨rfl,by simp⟩)|cases hk
   obtain⟨rfl,hng⟩:=hr
   cases hsp:spineOf C c with
   |none=>
    refine wpIn_wide.2 (wp_scope_straight (wpIn_wide.1 (wpIn_mono h0 fun e a' w' h=> ?_)))
    rcases h with hr|⟨_,l,y,h,_⟩
    ·rcases hr.split with⟨rfl,⟨u,rfl⟩,_⟩|⟨hx,rfl,hs'⟩
     ·exact .inl hr
     ·cases e<;>first|exact .inl hr|exact(hng _ rfl).elim
    ·rw[hsp]at h;cases h
   |some ly=>
    obtain⟨l,y⟩:=ly
    refine wpIn_wide.2 (wp_scope_rounds l (JumpAt P E false C ent En b l y (e0,s0)) (spine_label hsp) (wpIn_wide.1 (wpIn_mono h0 fun e a' w' h=> ?_)) fun k a' w' hJ=> ?_)
    ·rcases h with hr|⟨_,l',y',h,he,hJ⟩
     ·rcases hr.split with⟨rfl,⟨u,rfl⟩,_⟩|⟨hx,rfl,hs'⟩
      ·exact .inl hr
      ·cases e<;>first|exact .inl hr|exact(hng _ rfl).elim
     ·rw[hsp]at h;cases h
      subst he
      exact⟨rfl,hJ⟩
    ·refine wpIn_wide.1 (wpIn_seq (wpIn_skip (wpIn_mono (jump_pass (ro:=none) hE (ih.2 l y hsp) k a' w' hJ) fun e a2 w2 h=> ?_)))
     rcases h with hr|⟨he,hJ⟩
     ·rcases hr.split with⟨rfl,⟨u,rfl⟩,_⟩|⟨hx,rfl,hs'⟩
      ·exact .inl hr
      ·cases e<;>first|exact .inl hr|exact(hng _ rfl).elim
     ·subst he
      exact⟨rfl,hJ⟩
 |rangeFunc y ps assign body iha ihb=>
  refine⟨fun sc b s a w r hk hs=> ?_,fun l y h=>by cases h⟩
  unfold codeT at hk
  cases inR with
  |true=>cases hk
  |false=>
   have hro:=hro rfl
   subst hro
   cases hy:s.get y<;>simp only [hy]at hk<;>first|(cases hk;done)|skip
   rename_i f caps
   cases hsig:sigP P f<;>simp only [hsig]at hk<;>first|(cases hk;done)|skip
   rename_i ts
   obtain⟨r1,h1,hk⟩:=run_bind_some hE hk
   split at hk
   ·cases hk
   ·rename_i hp
    have hcall:=(hent.1 _ _ _ _ h1).none hp
    obtain⟨g,hs⟩:=hs
    have hry:=hs.get y
    rw[hy]at hry
    have key:(Code.rangeFunc y ps assign body).wpIn (Fw none) 0 P (fun e a' w'=>e=r.1∧SimE En r.2 a' w') a w:=by
     clear h1
     cases hrl:C.rl with
     |none=>rw[hrl]at hcall;exact range_sound (s:=s) hs (hnr rfl) hry (sigP_some hsig) hcall hk
     |some l=>rw[hrl]at hcall;exact range_sound (s:=Go.Vm.keepS (some l) s) (hs.keepS (some l)) (hnr rfl) hry (sigP_some hsig) hcall hk
    refine wpIn_mono key fun e a' w' h=> .inl (.inr ⟨?_,h⟩)
    split at hk<;>cases hk<;>simp
 |_=>refine⟨fun sc b s a w r hk hs=> ?_,fun l y h=> ?_⟩<;>first|cases hk|cases h
theorem codeT_sound {inR:Bool}{ro:Option Nat}(hro:inR=false→ro=none)(hE:E.Ok)(hN:EnvN E)(hG:EnvGood P E){C:CfgT}{ent:Callee→List V→List Box→Tree (List Nat × V × List Box)}(hent:EntGood P E ent){En:Ent}(hnr:inR=false→En.nr=false)(hm:P.follows .mixedOrders=true)(c:Code)(b:Nat)(s:VSt)(a:Act)(w:World)(r:Exit × VSt)
  (hk:(codeT sy P inR C ent En.g.n En.M false b c s).run E=some r) (hs:SimE En s a w):c.wpIn (Fw ro) 0 P (ER En r) a w:=
 wpIn_mono ((codeT_soundJ hro hE hN hG hent hnr hm c).1 false b s a w r hk hs) fun e a' w' h=>by
  rcases h with h|⟨h,_⟩
  ·exact h
  ·cases h
end
end Go.Vm
end
