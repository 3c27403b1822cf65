/- Part KD of the proof. What is proved by the whole: the statement that the claim names, with no condition. -/
import Derived.Test.YtggdkkdfeblooaaGreatDoorKC
import Derived.ScopeJumps
set_option linter.all false
section
namespace Go.Vm
section
variable {P : Program} {h h' h2 h0 hh hx hx' : List Box} {ρ ρ2 : Operand -> V} {o : Oper} {x : V} {ops : Array Oper} {W Z M : List Nat} {T : Nat -> List Nat} {t t2 : List V} {En : Ent} {E : Env} {C : CfgO}
def z3j (C:CfgO)(o:Oper):Bool:=match o.op with
 | .store .. =>true
 | .alloc _=>true
 | .buildSlice .. =>true
 | .call ⟨.builtin .append,_,_⟩=>true
 | .call ⟨.value (.tmp _),_,_⟩=>true
 | .call ⟨.value (.func f),_,_⟩=>C.inl.contains f
 | .call ⟨.builtin .copy,_,_⟩=>true
 | .mapUpdate .. =>true
 |_=>false
def w7f (C:CfgO)(ops:Array Oper):Bool:=(List.range ops.size).all fun j=>match ops[j]? with
 |some oj=> !z3j C oj || (List.range j).all fun i=>match ops[i]? with
  |some oi=> !z3j C oi || x5g ops 5 oj i
  |none=>true
 |none=>true
def k0z (C:CfgO)(ops:Array Oper)(i:Nat):Bool:=(List.range ops.size).all fun j=>match ops[j]? with
 |some oj=> !z3j C oj || x5g ops 5 oj i || (match ops[i]? with
  |some oi=>x5g ops 5 oi j
  |none=>false)
 |none=>true
def mkI (o:Oper):Bool:=match o.op with
 | .alloc _=>true
 | .buildSlice .. =>true
 |_=>false
def x5o (C:CfgO)(o:Oper):Bool:=match o.op with
 | .call ⟨.value (.tmp _),_,_⟩=>true
 | .call ⟨.value (.func f),_,_⟩=>C.inl.contains f
 |_=>false
def k1t (C:CfgO)(ops:Array Oper)(i:Nat):Bool:=(List.range ops.size).all fun j=>match ops[j]? with
 |some oj=> !z3j C oj || mkI oj || x5o C oj || x5g ops 5 oj i || (match ops[i]? with
  |some oi=>x5g ops 5 oi j
  |none=>false)
 |none=>true
def x4r (M:List Nat)(t:List V):List V:=match M with
 | []=>t
 |_=>t.map (V.kill M)
def y9e (M:List Nat)(t:List V):x4r M t=t.map (V.kill M):=by
 cases M with
 |nil=>rw[show V.kill []=id from funext V.j0c];simp[x4r]
 |cons=>rfl
def y2a (s:VSt)(M:List Nat)(h':List Box)(d:Option Tmp)(x:V):s.next M h' d x=⟨x3l (x4r M s.t) d x,h'⟩:=by
 unfold VSt.next x3l x4r;cases M<;>cases d<;>rfl
def u6g (Z:List Nat):V->Bool
 | .d _=>true
 | .nils=>true
 | .nilp=>true
 | .nilf=>true
 | .ifn _=>true
 | .pel _=>true
 | .own b=> !Z.contains b
 | .map b=> !Z.contains b
 | .ptr b _=> !Z.contains b
 | .mv _ b _=> !Z.contains b
 | .ifp _ b _=> !Z.contains b
 | .pml b _ _ _=> !Z.contains b
 | .yld b _=> !Z.contains b
 | .osl b _ _ _=> !Z.contains b
 |_=>false
def y6x (Z:List Nat):V->Bool
 | .agg cs=>cs.all (u6g Z)
 | .tup cs=>cs.all (u6g Z)
 |v=>u6g Z v
def u0k {b:Nat}(hM: ∀b∈M,b∈Z)(h:(!Z.contains b)=true):(!M.contains b)=true:=by
 simp only[Bool.not_eq_true',List.contains_eq_mem,decide_eq_false_iff_not]at h ⊢;exact fun hb=>h (hM b hb)
def z5q {v:V}(hM: ∀b∈M,b∈Z)(h:u6g Z v=true):v.j0d M=v:=by
 cases v with
 |any=>cases h
 |agg cs=>cases h
 |tup cs=>cases h
 |fn f cs=>cases h
 |own b=>exact congrArg (fun q=>bif q then V.own b else .any) (u0k hM h)
 |map b=>exact congrArg (fun q=>bif q then V.map b else .any) (u0k hM h)
 |ptr b off=>exact congrArg (fun q=>bif q then V.ptr b off else .any) (u0k hM h)
 |mv f b off=>exact congrArg (fun q=>bif q then V.mv f b off else .any) (u0k hM h)
 |ifp f b off=>exact congrArg (fun q=>bif q then V.ifp f b off else .any) (u0k hM h)
 |pml b sz i off=>exact congrArg (fun q=>bif q then V.pml b sz i off else .any) (u0k hM h)
 |yld b R=>exact congrArg (fun q=>bif q then V.yld b R else .any) (u0k hM h)
 |osl b s l n=>exact congrArg (fun q=>bif q then V.osl b s l n else .any) (u0k hM h)
 |_=>rfl
def w6g {v:V}(h:u6g Z (v.j0d M)=true):v.j0d M=v:=by
 unfold V.j0d at h ⊢;cases hf:v.j0k M with
 |true=>rfl
 |false=>rw[hf]at h;cases h
def u2s {v:V}(hM: ∀b∈M,b∈Z)(h:y6x Z v=true):v.kill M=v:=by
 have aux: ∀cs:List V,cs.all (u6g Z)=true->cs.map (V.j0d M)=cs:=fun cs hc=>by
  have:cs.map (V.j0d M)=cs.map id:=a2g fun v hv=>z5q hM (a0l.1 hc v hv)
  simpa using this
 cases v with
 |agg cs=>exact congrArg V.agg (aux cs h)
 |tup cs=>exact congrArg V.tup (aux cs h)
 |fn f cs=>cases h
 |_=>exact z5q hM h
def q5n {v:V}(h:y6x Z (v.kill M)=true):v.kill M=v:=by
 have aux: ∀cs:List V,(cs.map (V.j0d M)).all (u6g Z)=true->cs.map (V.j0d M)=cs:=fun cs hc=>by
  have:cs.map (V.j0d M)=cs.map id:=a2g fun v hv=>w6g (a0l.1 hc _ (List.mem_map_of_mem hv))
  simpa using this
 have aux2: ∀v:V,y6x Z (bif V.j0k M v then v else .any)=true->(bif V.j0k M v then v else .any)=v:=fun v h=>by
  cases hf:v.j0k M with
  |true=>rfl
  |false=>rw[hf]at h;cases h
 cases v with
 |agg cs=>exact congrArg V.agg (aux cs h)
 |tup cs=>exact congrArg V.tup (aux cs h)
 |fn f cs=>cases h
 |any=>cases h
 |own b=>exact aux2 (.own b) h
 |map b=>exact aux2 (.map b) h
 |ptr b off=>exact aux2 (.ptr b off) h
 |mv f b off=>exact aux2 (.mv f b off) h
 |ifp f b off=>exact aux2 (.ifp f b off) h
 |pml b sz i off=>exact aux2 (.pml b sz i off) h
 |yld b R=>exact aux2 (.yld b R) h
 |osl b s l n=>exact aux2 (.osl b s l n) h
 |_=>rfl
def z2b (M:List Nat)(t:List V)(h:List Box)(y:Operand):VSt.get ⟨x4r M t,h⟩ y=VSt.get ⟨t,h⟩ y\/VSt.get ⟨x4r M t,h⟩ y=(VSt.get ⟨t,h⟩ y).kill M:=by
 rw[y9e];cases y with
 |tmp k=>
  right
  show(t.map (V.kill M)).getD k .any=(t.getD k .any).kill M;rw[a0i,a0i,a0o];cases t[k]? <;>rfl
 |const v=>left;rfl
 |func f=>left;rfl
 |global k=>left;rfl
def w5l {y:Operand}(hM: ∀b∈M,b∈Z)(hc:y6x Z (VSt.get ⟨t,h⟩ y)=true):VSt.get ⟨x4r M t,h⟩ y=VSt.get ⟨t,h⟩ y:=by
 rcases z2b M t h y with h1|h1
 ·exact h1
 ·rw[h1,u2s hM hc]
def u5r {y:Operand}(hc:y6x Z (VSt.get ⟨x4r M t,h⟩ y)=true):VSt.get ⟨x4r M t,h⟩ y=VSt.get ⟨t,h⟩ y:=by
 rcases z2b M t h y with h1|h1
 ·exact h1
 ·rw[h1]at hc ⊢;exact q5n hc
def u7r {y:Operand}(he:x3n o (VSt.get ⟨t2,h⟩)=x3n o (VSt.get ⟨t,h⟩))(hy:y∈o.op.operands.toList):VSt.get ⟨t2,h⟩ y=VSt.get ⟨t,h⟩ y:=by
 have:=congrFun he y
 rwa [x7g (fun _=>rfl) hy,x7g (fun _=>rfl) hy]at this
def u7s (he: ∀y∈o.op.operands.toList,VSt.get ⟨t2,h⟩ y=VSt.get ⟨t,h⟩ y):x3n o (VSt.get ⟨t2,h⟩)=x3n o (VSt.get ⟨t,h⟩):=by
 funext y;cases y with
 |func f=>rfl
 |tmp k=>simp only[x3n];split<;>first|exact he _ ‹_› |rfl
 |const v=>simp only[x3n];split<;>first|exact he _ ‹_› |rfl
 |global k=>simp only[x3n];split<;>first|exact he _ ‹_› |rfl
def z4f {b:Bool}:x5v ops o (x4r M t)=some b↔x5v ops o t=some b:=by
 rw[y9e];unfold x5v;split
 ·rfl
 ·rename_i j want hg;split
  ·rename_i k hk;rw[a0o];cases hv:t[k]? with
   |none=>rfl
   |some v=>
    cases v with
    |d x=>rfl
    |tup cs=>
     cases cs with
     |nil=>rfl
     |cons c cs=>rfl
    |agg cs=>rfl
    |fn f cs=>rfl
    |_=>
     simp only[Option.map_some,V.kill,V.j0d];cases V.j0k M _<;>rfl
  ·rfl
def u0y (hc:x.kill M=x)(d:Option Tmp):x4r M (x3l t d x)=x3l (x4r M t) d x:=by
 rw[y9e,y9e];cases d with
 |none=>rfl
 |some k=>show(t.set k x).map _=(t.map _).set k x;rw[List.map_set,hc]
inductive Eff3 where
 |no
 |late
 |pin (hx:List Box)
 |mid (hb:List Box)
 |big (hx hx':List Box) (M:List Nat)
def Eff3.ok (W:List Nat)(h0 hh:List Box):Eff3->Prop
 | .no=>True
 | .late=>y7z W h0 hh
 | .pin hx=>hh=hx
 | .mid hb=>Pre hb hh
 | .big hx _ _=>hh=hx
def Eff3.run (hh:List Box):Eff3->List Box
 | .big _ hx' _=>hx'
 |_=>hh
def Eff3.km:Eff3->List Nat
 | .big _ _ M=>M
 |_=>[]
def x9e (P:Program)(En:Ent)(o:Oper)(t:List V)(hx:List Box)(M:List Nat)(x:V)(hx':List Box):Prop:=
 ∀t2,x3n o (VSt.get ⟨t2,[]⟩)=x3n o (VSt.get ⟨t,[]⟩)-> ∀(a:Act) (w:World) (K:Act->World->Prop) (Q:Exit->Act->World->Prop),x1t En ⟨t2,hx⟩ a w->
  (∀a' w',x1t En ⟨x3l (x4r M t2) o.dst x,hx'⟩ a' w'->K a' w')->o.wp P a w K Q
def x3k (P:Program)(C:CfgO)(En:Ent)(ops:Array Oper)(W Z:List Nat)(T:Nat->List Nat)(h0:List Box)(i:Nat)(o:Oper)(t:List V)(x:V):Eff3->Prop
 | .no=>x5v ops o t=some false/\x= .tup []
 | .late=>x5v ops o t=some true/\(Z= []\/(y6x Z x=true/\ ∀y∈o.op.operands.toList,y6x Z (VSt.get ⟨t,[]⟩ y)=true))/\ ∀h2,y7z W h0 h2->x0p P [] h2 h2 (x3n o (VSt.get ⟨t,[]⟩)) o x
 | .pin hx=>x5v ops o t=some true/\k0z C ops i=true/\x9e P En o t hx [] x hx
 | .mid hb=>x5v ops o t=some true/\k1t C ops i=true/\hb.length<=h0.length/\(∀j oj,ops[j]? =some oj->z3j C oj=true->x5o C oj=true->x5g ops 5 oj i=true\/x5g ops 5 o j=true\/ ∀b∈T j,∀x,hb[b]? =some x->x= .gone)/\ ∀h2,Pre hb h2->x0p P [] h2 h2 (x3n o (VSt.get ⟨t,[]⟩)) o x
 | .big hx hx' M=>x5v ops o t=some true/\z3j C o=true/\(∀b∈M,b∈Z)/\y7z W h0 hx/\y7z W h0 hx'/\x9e P En o t hx M x hx'/\h0.length<=hx.length/\(mkI o=true->M= []/\ ∃l,hx'=hx++l)/\(x5o C o=true->M= []/\ ∀k,k < h0.length->k ∉ T i->hx'[k]? =hx[k]?)
def x9e.put {d:Option Tmp}{y:V}(hd: ∀k,d=some k->k ∉ o.looksAt ops):x9e P En o (x3l t d y) hx M x hx'↔x9e P En o t hx M x hx':=by
 unfold x9e;rw[x7v hd]
def x9e.congr (he:x3n o (VSt.get ⟨t2,[]⟩)=x3n o (VSt.get ⟨t,[]⟩))(hs:x9e P En o t hx M x hx'):x9e P En o t2 hx M x hx':=by
 unfold x9e;rw[he];exact hs
def w6f {d:Option Tmp}{y:V}(hd: ∀k,d=some k->k ∉ o.looksAt ops):(∀q∈o.op.operands.toList,y6x Z (VSt.get ⟨x3l t d y,[]⟩ q)=true)↔ ∀q∈o.op.operands.toList,y6x Z (VSt.get ⟨t,[]⟩ q)=true:=by
 have:=x7v (x:=y) hd t [];constructor<;>intro hh q hq<;>have:=u7r this hq
 ·rw[<-this];exact hh q hq
 ·rw[this];exact hh q hq
def x3k.put {i:Nat}{d:Option Tmp}{y:V}(hd: ∀k,d=some k->k ∉ o.looksAt ops)(e:Eff3):x3k P C En ops W Z T h0 i o (x3l t d y) x e↔x3k P C En ops W Z T h0 i o t x e:=by
 cases e<;>simp only[x3k,y1o hd,x7v hd,x9e.put hd,w6f hd]
def x3k.kill {i:Nat}{e:Eff3}(hM: ∀b∈M,b∈Z)(he:e= .no\/e= .late):x3k P C En ops W Z T h0 i o (x4r M t) x e↔x3k P C En ops W Z T h0 i o t x e:=by
 rcases he with rfl|rfl
 ·simp only[x3k,z4f]
 ·simp only[x3k,z4f];cases Z with
  |nil=>
   have hM:M= []:=List.eq_nil_iff_forall_not_mem.2 fun b hb=>by simpa using hM b hb
   subst hM;rfl
  |cons z zs=>
   constructor
   ·rintro⟨h1,h2,h3⟩
    rcases h2 with h2|⟨h2,h4⟩
    ·cases h2
    ·have e:=fun q hq=>u5r (h4 q hq)
     refine⟨h1, .inr ⟨h2,fun q hq=>by rw[<-e q hq];exact h4 q hq⟩,?_⟩
     rw[u7s e]at h3;exact h3
   ·rintro⟨h1,h2,h3⟩
    rcases h2 with h2|⟨h2,h4⟩
    ·cases h2
    ·have e:=fun q hq=>w5l hM (h4 q hq)
     refine⟨h1, .inr ⟨h2,fun q hq=>by rw[e q hq];exact h4 q hq⟩,?_⟩
     rw[u7s e];exact h3
def x3k.calm {i:Nat}{e:Eff3}(hM: ∀b∈M,b∈Z)(he:e= .no\/e= .late)(hf:x3k P C En ops W Z T h0 i o t x e):x.kill M=x:=by
 rcases he with rfl|rfl
 ·rw[hf.2];rfl
 ·rcases hf.2.1 with h|h
  ·subst h;have hM:M= []:=List.eq_nil_iff_forall_not_mem.2 fun b hb=>by simpa using hM b hb
   subst hM;exact V.j0c x
  ·exact u2s hM h.1
def y8a (P:Program)(C:CfgO)(En:Ent)(ops:Array Oper)(W Z:List Nat)(T:Nat->List Nat)(h0:List Box)(i:Nat)(o:Oper)(t:List V)(hh:List Box)(x:V)(t':List V)(hh':List Box):Prop:=
 ∃e,x3k P C En ops W Z T h0 i o t x e/\Eff3.ok W h0 hh e/\t'=x3l (x4r e.km t) o.dst x/\hh'=e.run hh
def y2o {i j:Nat}{oi oj:Oper}{xi xj:V}{e1 e2:Eff3}(hap:oi.apart ops oj=true)(m1:e1.km= [])(m2:e2.km= [])(r1: ∀hh,e1.run hh=hh)(r2: ∀hh,e2.run hh=hh)
  (f1:x3k P C En ops W Z T h0 i oi t xi e1) (k1:Eff3.ok W h0 hh e1) (f2:x3k P C En ops W Z T h0 j oj (x3l (x4r e1.km t) oi.dst xi) xj e2) (k2:Eff3.ok W h0 (e1.run hh) e2):
  ∃t1 hh1,y8a P C En ops W Z T h0 j oj t hh xj t1 hh1/\y8a P C En ops W Z T h0 i oi t1 hh1 xi (x3l (x4r e2.km (x3l (x4r e1.km t) oi.dst xi)) oj.dst xj) (e2.run (e1.run hh)):=by
 obtain⟨a1,a2,a3⟩:=Oper.apart_spec hap;rw[m1]at f2 ⊢;rw[m2];have k: ∀t:List V,x4r [] t=t:=fun _=>rfl
 rw[k]at f2;rw[x3k.put a1]at f2;rw[r1]at k2 ⊢;refine⟨_,_,⟨e2,f2,k2,rfl,rfl⟩,⟨e1,(by rw[m2,k];exact(x3k.put a3 e1).2 f1),by rw[r2];exact k1,?_,by rw[r1]⟩⟩
 rw[m1,m2,k,k,k];exact(x5k a2 t xi xj)
def z9c {i j:Nat}{oi oj:Oper}{xi xj:V}{e2:Eff3}(hap:oi.apart ops oj=true)(he:e2= .no\/e2= .late)
  (f1:x3k P C En ops W Z T h0 i oi t xi (.big hx hx' M)) (k1:hh=hx) (f2:x3k P C En ops W Z T h0 j oj (x3l (x4r M t) oi.dst xi) xj e2):
  ∃t1 hh1,y8a P C En ops W Z T h0 j oj t hh xj t1 hh1/\y8a P C En ops W Z T h0 i oi t1 hh1 xi (x3l (x3l (x4r M t) oi.dst xi) oj.dst xj) hx':=by
 obtain⟨a1,a2,a3⟩:=Oper.apart_spec hap;rw[x3k.put a1,x3k.kill f1.2.2.1 he]at f2;subst k1;have m2:e2.km= []:=by rcases he with rfl|rfl<;>rfl
 refine⟨_,_,⟨e2,f2,by rcases he with rfl|rfl<;>first|exact f1.2.2.2.1|exact trivial,rfl,rfl⟩,⟨.big hh hx' M,(by rw[m2];exact(x3k.put a3 _).2 f1),by rcases he with rfl|rfl<;>rfl,?_,rfl⟩⟩
 rw[m2];show _=x3l (x4r M (x3l t oj.dst xj)) oi.dst xi;rw[u0y (x3k.calm f1.2.2.1 he f2)];exact x5k a2 _ xi xj
def z9b {i j:Nat}{oi oj:Oper}{xi xj:V}{e1:Eff3}(hap:oi.apart ops oj=true)(he:e1= .no\/e1= .late)
  (f1:x3k P C En ops W Z T h0 i oi t xi e1) (f2:x3k P C En ops W Z T h0 j oj (x3l t oi.dst xi) xj (.big hx hx' M)) (k2:hh=hx):
  ∃t1 hh1,y8a P C En ops W Z T h0 j oj t hh xj t1 hh1/\y8a P C En ops W Z T h0 i oi t1 hh1 xi (x3l (x4r M (x3l t oi.dst xi)) oj.dst xj) hx':=by
 obtain⟨a1,a2,a3⟩:=Oper.apart_spec hap;rw[x3k.put a1]at f2;subst k2;have m1:e1.km= []:=by rcases he with rfl|rfl<;>rfl
 refine⟨_,_,⟨.big hh hx' M,f2,rfl,rfl,rfl⟩,⟨e1,((x3k.put a3 e1).2 ((x3k.kill f2.2.2.1 he).2 f1)),by rcases he with rfl|rfl<;>first|exact f2.2.2.2.2.1|exact trivial,?_,by rcases he with rfl|rfl<;>rfl⟩⟩
 rw[m1,u0y (x3k.calm f2.2.2.1 he f1)];exact x5k a2 _ xi xj
def w4c {hb hx l:List Box}(hp:Pre hb (hx++l))(hl:hb.length<=hx.length):Pre hb hx:=fun k x hk=>by
 rcases hp k x hk with h1|h1
 ·exact .inl h1
 ·have hlt:=(a0c.1 hk).1;rw[a0y,if_pos (by omega)]at h1
  exact .inr h1
def v7g {hb hx l:List Box}(hp:Pre hb hx):Pre hb (hx++l):=fun k x hk=>by
 rcases hp k x hk with h1|h1
 ·exact .inl h1
 ·have hlt:=(a0c.1 h1).1
  right
  rw[a0y,if_pos (by omega)]
  exact h1
def v1g {i j:Nat}{oi oj:Oper}{xi xj:V}{hb:List Box}(hap:oi.apart ops oj=true)(hmk:mkI oi=true)
  (f1:x3k P C En ops W Z T h0 i oi t xi (.big hx hx' M)) (k1:hh=hx) (f2:x3k P C En ops W Z T h0 j oj (x3l (x4r M t) oi.dst xi) xj (.mid hb)) (k2:Pre hb hx'):
  ∃t1 hh1,y8a P C En ops W Z T h0 j oj t hh xj t1 hh1/\y8a P C En ops W Z T h0 i oi t1 hh1 xi (x3l (x3l (x4r M t) oi.dst xi) oj.dst xj) hx':=by
 obtain⟨a1,a2,a3⟩:=Oper.apart_spec hap;obtain⟨rfl,l,rfl⟩:=f1.2.2.2.2.2.2.2.1 hmk;have k: ∀t:List V,x4r [] t=t:=fun _=>rfl
 rw[k]at f2 ⊢;rw[x3k.put a1]at f2;subst k1;refine⟨_,_,⟨.mid hb,f2,w4c k2 (a1b f2.2.2.1 f1.2.2.2.2.2.2.1),rfl,rfl⟩,⟨.big hh _ [],(x3k.put a3 _).2 f1,rfl,?_,rfl⟩⟩;exact x5k a2 t xi xj
def v1e {i j:Nat}{oi oj:Oper}{xi xj:V}{hb:List Box}(hap:oi.apart ops oj=true)(hmk:mkI oj=true)
  (f1:x3k P C En ops W Z T h0 i oi t xi (.mid hb)) (k1:Pre hb hh) (f2:x3k P C En ops W Z T h0 j oj (x3l t oi.dst xi) xj (.big hx hx' M)) (k2:hh=hx):
  ∃t1 hh1,y8a P C En ops W Z T h0 j oj t hh xj t1 hh1/\y8a P C En ops W Z T h0 i oi t1 hh1 xi (x3l (x4r M (x3l t oi.dst xi)) oj.dst xj) hx':=by
 obtain⟨a1,a2,a3⟩:=Oper.apart_spec hap;rw[x3k.put a1]at f2;obtain⟨rfl,l,rfl⟩:=f2.2.2.2.2.2.2.2.1 hmk;subst k2;exact⟨_,_,⟨.big hh _ [],f2,rfl,rfl,rfl⟩,⟨.mid hb,(x3k.put a3 _).2 f1,v7g k1,x5k a2 t xi xj,rfl⟩⟩
def u8b {hb hx hx':List Box}{n:Nat}{Ts:List Nat}(hT: ∀b∈Ts,∀x,hb[b]? =some x->x= .gone)(hl:hb.length<=n)(he: ∀k,k < n->k ∉ Ts->hx'[k]? =hx[k]?):Pre hb hx↔Pre hb hx':=by
 constructor
 ·intro hp k x hk
  by_cases hm:k∈Ts
  ·exact .inl (hT k hm x hk)
  ·rw[he k (by have:=(a0c.1 hk).1;omega) hm];exact hp k x hk
 ·intro hp k x hk
  by_cases hm:k∈Ts
  ·exact .inl (hT k hm x hk)
  ·rw[<-he k (by have:=(a0c.1 hk).1;omega) hm];exact hp k x hk
def v1h {i j:Nat}{oi oj:Oper}{xi xj:V}{hb:List Box}(hap:oi.apart ops oj=true)(hct:x5o C oi=true)(hi:ops[i]? =some oi)(no1:x5g ops 5 oj i=true->False)(no2:x5g ops 5 oi j=true->False)
  (f1:x3k P C En ops W Z T h0 i oi t xi (.big hx hx' M)) (k1:hh=hx) (f2:x3k P C En ops W Z T h0 j oj (x3l (x4r M t) oi.dst xi) xj (.mid hb)) (k2:Pre hb hx'):
  ∃t1 hh1,y8a P C En ops W Z T h0 j oj t hh xj t1 hh1/\y8a P C En ops W Z T h0 i oi t1 hh1 xi (x3l (x3l (x4r M t) oi.dst xi) oj.dst xj) hx':=by
 obtain⟨a1,a2,a3⟩:=Oper.apart_spec hap;obtain⟨rfl,hturn⟩:=f1.2.2.2.2.2.2.2.2 hct;have k: ∀t:List V,x4r [] t=t:=fun _=>rfl
 rw[k]at f2 ⊢;rw[x3k.put a1]at f2;subst k1;have hT:=((f2.2.2.2.1 i oi hi f1.2.1 hct).resolve_left no2).resolve_left no1;refine⟨_,_,⟨.mid hb,f2,(u8b hT f2.2.2.1 hturn).2 k2,rfl,rfl⟩,⟨.big hh _ [],(x3k.put a3 _).2 f1,rfl,?_,rfl⟩⟩;exact x5k a2 t xi xj
def v1f {i j:Nat}{oi oj:Oper}{xi xj:V}{hb:List Box}(hap:oi.apart ops oj=true)(hct:x5o C oj=true)(hj:ops[j]? =some oj)(no1:x5g ops 5 oj i=true->False)(no2:x5g ops 5 oi j=true->False)
  (f1:x3k P C En ops W Z T h0 i oi t xi (.mid hb)) (k1:Pre hb hh) (f2:x3k P C En ops W Z T h0 j oj (x3l t oi.dst xi) xj (.big hx hx' M)) (k2:hh=hx):
  ∃t1 hh1,y8a P C En ops W Z T h0 j oj t hh xj t1 hh1/\y8a P C En ops W Z T h0 i oi t1 hh1 xi (x3l (x4r M (x3l t oi.dst xi)) oj.dst xj) hx':=by
 obtain⟨a1,a2,a3⟩:=Oper.apart_spec hap;rw[x3k.put a1]at f2;obtain⟨rfl,hturn⟩:=f2.2.2.2.2.2.2.2.2 hct;subst k2;have hT:=((f1.2.2.2.1 j oj hj f2.2.1 hct).resolve_left no1).resolve_left no2;exact⟨_,_,⟨.big hh _ [],f2,rfl,rfl,rfl⟩,⟨.mid hb,(x3k.put a3 _).2 f1,(u8b hT f1.2.2.1 hturn).1 k1,x5k a2 t xi xj,rfl⟩⟩
def y8a.swap {i j:Nat}{oi oj:Oper}{xi xj:V}{ti tj:List V}{hi' hj':List Box}(hap:oi.apart ops oj=true)(hbb:z3j C oi=true->z3j C oj=true->False)(hbp:z3j C oi=true->k0z C ops j=true->False)(hpb:k0z C ops i=true->z3j C oj=true->False)(hbm:z3j C oi=true->mkI oi=false->x5o C oi=false->k1t C ops j=true->False)(hmb:k1t C ops i=true->z3j C oj=true->mkI oj=false->x5o C oj=false->False)
  (hoi:ops[i]? =some oi) (hoj:ops[j]? =some oj) (no1:x5g ops 5 oj i=true->False) (no2:x5g ops 5 oi j=true->False)
  (hi:y8a P C En ops W Z T h0 i oi t hh xi ti hi') (hj:y8a P C En ops W Z T h0 j oj ti hi' xj tj hj'):
  ∃t1 hh1,y8a P C En ops W Z T h0 j oj t hh xj t1 hh1/\y8a P C En ops W Z T h0 i oi t1 hh1 xi tj hj':=by
 obtain⟨e1,f1,k1,rfl,rfl⟩:=hi;obtain⟨e2,f2,k2,rfl,rfl⟩:=hj;cases e1 with
 |big hx hx' M=>cases e2 with
  |big=>exact(hbb f1.2.1 f2.2.1).elim
  |pin=>exact(hbp f1.2.1 f2.2.1).elim
  |mid hb=>cases hm:mkI oi with
   |true=>exact v1g hap hm f1 k1 f2 k2
   |false=>cases hct:x5o C oi with
    |true=>exact v1h hap hct hoi no1 no2 f1 k1 f2 k2
    |false=>exact(hbm f1.2.1 hm hct f2.2.1).elim
  |no=>exact z9c hap (.inl rfl) f1 k1 f2
  |late=>exact z9c hap (.inr rfl) f1 k1 f2
 |no=>cases e2 with
  |big=>exact z9b hap (.inl rfl) f1 f2 k2
  |_=>exact y2o hap rfl rfl (fun _=>rfl) (fun _=>rfl) f1 k1 f2 k2
 |late=>cases e2 with
  |big=>exact z9b hap (.inr rfl) f1 f2 k2
  |_=>exact y2o hap rfl rfl (fun _=>rfl) (fun _=>rfl) f1 k1 f2 k2
 |pin=>cases e2 with
  |big=>exact(hpb f1.2.1 f2.2.1).elim
  |_=>exact y2o hap rfl rfl (fun _=>rfl) (fun _=>rfl) f1 k1 f2 k2
 |mid hb=>cases e2 with
  |big=>cases hm:mkI oj with
   |true=>exact v1e hap hm f1 k1 f2 k2
   |false=>cases hct:x5o C oj with
    |true=>exact v1f hap hct hoj no1 no2 f1 k1 f2 k2
    |false=>exact(hmb f1.2.1 f2.2.1 hm hct).elim
  |_=>exact y2o hap rfl rfl (fun _=>rfl) (fun _=>rfl) f1 k1 f2 k2
def y8a.wp {i:Nat}{t':List V}{hh':List Box}{a:Act}{w:World}(ho:y8a P C En ops W Z T h0 i o t hh x t' hh')(hs:x1t En ⟨t,hh⟩ a w){K:Act->World->Prop}{Q:Exit->Act->World->Prop}
  (hK: ∀a' w',x1t En ⟨t',hh'⟩ a' w'->K a' w'):if Region.wanted o (yielded ops a.tmps)then o.wp P a w K Q else K (a.put o.dst undef) w:=by
 obtain⟨e,hf,hok,rfl,rfl⟩:=ho;cases e with
 |no=>
  obtain⟨hw,rfl⟩:=hf;rw[if_neg (by rw[x4d hs hw];simp)]
  refine hK _ _ ?_;obtain⟨g,hs⟩:=hs;have:=hs.next (.refl hs.heap) (by simp[okM]) (.tup (w:=w) (g:=g) #[] [] rfl (by simp)) o.dst
  rw[y2a]at this;exact⟨g,this⟩
 |late=>
  rw[if_pos (x4d hs hf.1)];have hg:=hf.2.2 hh hok;rw[y8k t [] hh]at hg;refine x0p.sim (s:=⟨t,hh⟩) hg.j0p hs (by simp[okM]) fun a' w' hs'=>hK a' w' ?_
  rwa [y2a]at hs'
 |pin hx=>
  have hok:hh=hx:=hok;subst hok;rw[if_pos (x4d hs hf.1)];exact hf.2.2 t rfl a w K Q hs hK
 |mid hb=>
  rw[if_pos (x4d hs hf.1)];have hg:=hf.2.2.2.2 hh hok;rw[y8k t [] hh]at hg;refine x0p.sim (s:=⟨t,hh⟩) hg.j0p hs (by simp[okM]) fun a' w' hs'=>hK a' w' ?_
  rwa [y2a]at hs'
 |big hx hx' M=>
  have hok:hh=hx:=hok;subst hok;rw[if_pos (x4d hs hf.1)];exact hf.2.2.2.2.2.1 t rfl a w K Q hs hK
def v0n (h:w7f C ops=true){i j:Nat}{oi oj:Oper}(hi:ops[i]? =some oi)(hj:ops[j]? =some oj)(hij:i < j)(s1:z3j C oi=true)(s2:z3j C oj=true):x5g ops 5 oj i=true:=by
 have:=a0l.1 h j (List.mem_range.2 (a0r.1 hj).1);rw[hj]at this;simp only[s2,Bool.not_true,a1d]at this;have:=a0l.1 this i (List.mem_range.2 hij);rw[hi]at this
 simpa[s1]using this
def z6u {i j:Nat}{oi oj:Oper}(h:k0z C ops i=true)(hi:ops[i]? =some oi)(hj:ops[j]? =some oj)(s2:z3j C oj=true):x5g ops 5 oj i=true\/x5g ops 5 oi j=true:=by
 have:=a0l.1 h j (List.mem_range.2 (a0r.1 hj).1);rw[hj,hi]at this
 simpa[s2]using this
def u8q {i j:Nat}{oi oj:Oper}(h:k1t C ops i=true)(hi:ops[i]? =some oi)(hj:ops[j]? =some oj)(s2:z3j C oj=true)(s3:mkI oj=false)(s4:x5o C oj=false):x5g ops 5 oj i=true\/x5g ops 5 oi j=true:=by
 have:=a0l.1 h j (List.mem_range.2 (a0r.1 hj).1);rw[hj,hi]at this
 simpa[s2,s3,s4]using this
def q3y (ops:Array Oper)(i:Nat):Bool:=(List.range ops.size).all fun j=> !decide (i < j) || match ops[j]? with
 |some oj=>x5g ops 5 oj i
 |none=>true
def v8m {i j:Nat}{oj:Oper}(h:q3y ops i=true)(hj:ops[j]? =some oj)(hij:i < j):x5g ops 5 oj i=true:=by
 have:=a0l.1 h j (List.mem_range.2 (a0r.1 hj).1);rw[hj]at this
 simpa[hij]using this
def SPan (P:Program)(En:Ent)(o:Oper)(t:List V)(hx:List Box)(p:V)(hx':List Box):Prop:=
 ∀t2,x3n o (VSt.get ⟨t2,[]⟩)=x3n o (VSt.get ⟨t,[]⟩)-> ∀(a:Act) (w:World) (K:Act->World->Prop) (Q:Exit->Act->World->Prop),x1t En ⟨t2,hx⟩ a w->
  (∀e a' w',PanX En p hx' e a' w'->Q e a' w')->o.wp P a w K Q
def u3m (P:Program)(C:CfgO)(En:Ent)(ops:Array Oper)(i:Nat)(o:Oper)(t:List V)(hh:List Box)(p:V)(h':List Box):Prop:=
 x5v ops o t=some true/\z3j C o=true/\mkI o=false/\q3y ops i=true/\SPan P En o t hh p h'
def u3m.put {i:Nat}{d:Option Tmp}{y p:V}(hd: ∀k,d=some k->k ∉ o.looksAt ops):u3m P C En ops i o (x3l t d y) hh p h'↔u3m P C En ops i o t hh p h':=by
 simp only[u3m,y1o hd,SPan,x7v hd]
def v1b (P:Program)(C:CfgO)(En:Ent)(ops:Array Oper)(W Z:List Nat)(T:Nat->List Nat)(h0:List Box)(K:List V->List Box->Prop)(Kp:V->List Box->Prop):Nat->Array Bool->List V->List Box->Prop
 |0,listed,t,hh=>Region.ready .any ops listed= []/\K t hh
 |fuel+1,listed,t,hh=>Region.ready .any ops listed≠[]/\ ∀i∈Region.ready .any ops listed,∃o,ops[i]? =some o/\((∃x t' hh',y8a P C En ops W Z T h0 i o t hh x t' hh'/\v1b P C En ops W Z T h0 K Kp fuel (listed.setIfInBounds i true) t' hh')\/
  ∃p h',u3m P C En ops i o t hh p h'/\Kp p h')
def u4b {K:List V->List Box->Prop}{Kp:V->List Box->Prop}(hst:w7f C ops=true){i:Nat}{oi:Oper}{xi:V}(hi:ops[i]? =some oi):
  ∀(fuel:Nat) (listed:Array Bool) (t ti:List V) (hh hhi:List Box),y1c ops listed->
   (∀j oj,ops[j]? =some oj->j≠i->listed.getD j true=false->(∀e∈oj.after,Region.binds .any e=true->e.on≠i)->oi.apart ops oj=true)->
   i∈Region.ready .any ops listed->y8a P C En ops W Z T h0 i oi t hh xi ti hhi->
   v1b P C En ops W Z T h0 K Kp fuel (listed.setIfInBounds i true) ti hhi->v1b P C En ops W Z T h0 K Kp (fuel+1) listed t hh:=by
 intro fuel
 induction fuel with
 |zero=>
  intro listed t ti hh hhi _ _ hr ho H;refine⟨fun h=>(by rw[h]at hr;cases hr),fun j hj=> ?_⟩
  by_cases hji:j=i
  ·subst hji;exact⟨oi,hi, .inl ⟨xi,ti,hhi,ho,H⟩⟩
  ·have:=ready_mono hj hji;rw[H.1]at this;cases this
 |succ fuel ih=>
  intro listed t ti hh hhi hcl hfree hr ho H;refine⟨fun h=>(by rw[h]at hr;cases hr),fun j hj=> ?_⟩
  by_cases hji:j=i
  ·subst hji;exact⟨oi,hi, .inl ⟨xi,ti,hhi,ho,H⟩⟩
  ·obtain⟨oj,hoj,hcase⟩:=H.2 j (ready_mono hj hji);obtain⟨hjun,oj',hoj',hall⟩:=mem_ready.1 hj;rw[hoj]at hoj';cases hoj';obtain⟨hiun,oi',hoi',halli⟩:=mem_ready.1 hr;rw[hi]at hoi';cases hoi';have hnot: ∀e∈oj.after,Region.binds .any e=true->e.on≠i:=fun e he hb heq=>by
    have h1:=hall e he hb;rw[heq,x3y hr]at h1;cases h1
   have hnoti: ∀e∈oi.after,Region.binds .any e=true->e.on≠j:=fun e he hb heq=>by
    have h1:=halli e he hb;rw[heq,x3y hj]at h1;cases h1
   have no1:x5g ops 5 oj i=true->False:=fun h=>by
    have:=x6r hcl 5 hall h;rw[x3y hr]at this;cases this
   have no2:x5g ops 5 oi j=true->False:=fun h=>by
    have:=x6r hcl 5 halli h;rw[x3y hj]at this;cases this
   have hbb:z3j C oi=true->z3j C oj=true->False:=fun s1 s2=>by
    rcases Nat.lt_or_gt_of_ne hji with hlt|hgt
    ·exact no2 (v0n hst hoj hi hlt s2 s1)
    ·exact no1 (v0n hst hi hoj hgt s1 s2)
   rcases hcase with⟨xj,tj,hbj,hout,hrest⟩|⟨p,h',hpan,hkp⟩
   ·obtain⟨t1,hb1,o1,o2⟩:=y8a.swap (hfree j oj hoj hji hjun hnot) hbb
     (fun s1 he=>(z6u he hoj hi s1).elim no2 no1) (fun he s2=>(z6u he hi hoj s2).elim no1 no2)
     (fun s1 s3 s4 he=>(u8q he hoj hi s1 s3 s4).elim no2 no1) (fun he s2 s3 s4=>(u8q he hi hoj s2 s3 s4).elim no1 no2) hi hoj no1 no2 ho hout
    refine⟨oj,hoj, .inl ⟨xj,t1,hb1,o1,ih (listed.setIfInBounds j true) _ tj hb1 hbj (hcl.step hj) (fun k ok hk hki hun hno=> ?_) (ready_mono hr (Ne.symm hji)) o2 ?_⟩⟩
    ·refine hfree k ok hk hki ?_ hno
     by_cases hjk:j=k
     ·subst hjk;exact hjun
     ·rw[getD_set_ne true hjk]at hun;exact hun
    ·rw[Array.setIfInBounds_comm _ _ hji];exact hrest
   ·obtain⟨a1,_,_⟩:=Oper.apart_spec (hfree j oj hoj hji hjun hnot);obtain⟨e1,f1,k1,rfl,rfl⟩:=ho;have fin:e1.km= []->e1.run hh=hh-> ∃o,ops[j]? =some o/\((∃x t' hh',y8a P C En ops W Z T h0 j o t hh x t' hh'/\v1b P C En ops W Z T h0 K Kp (fuel+1) (listed.setIfInBounds j true) t' hh')\/ ∃p h',u3m P C En ops j o t hh p h'/\Kp p h'):=fun m1 r1=>by
     rw[m1,r1]at hpan;exact⟨oj,hoj, .inr ⟨p,h',(u3m.put a1).1 hpan,hkp⟩⟩
    cases e1 with
    |big=>exact(hbb f1.2.1 hpan.2.1).elim
    |pin=>exact((z6u f1.2.1 hi hoj hpan.2.1).elim no1 no2).elim
    |mid=>exact fin rfl rfl
    |no=>exact fin rfl rfl
    |late=>exact fin rfl rfl
def q1a (P:Program)(C:CfgO)(En:Ent)(ops:Array Oper)(W Z:List Nat)(T:Nat->List Nat)(h0:List Box)(K:List V->List Box->Prop)(Kp:V->List Box->Prop):Nat->List Oper->List V->List Box->Prop
 |_,[],t,hh=>K t hh
 |k,o::os,t,hh=>(∃x t' hh',y8a P C En ops W Z T h0 k o t hh x t' hh'/\q1a P C En ops W Z T h0 K Kp (k+1) os t' hh')\/ ∃p h',u3m P C En ops k o t hh p h'/\Kp p h'
def z8v {K:List V->List Box->Prop}{Kp:V->List Box->Prop}(hst:w7f C ops=true): ∀(l:List Oper) (k:Nat) (listed:Array Bool) (t:List V) (hh:List Box),y1c ops listed->(∀j,j < k->listed.getD j true=true)->(∀j,l[j]? =ops[k+j]?)->
  y4z ops l.length k listed=true->q1a P C En ops W Z T h0 K Kp k l t hh->v1b P C En ops W Z T h0 K Kp l.length listed t hh
 | [],_,_,_,_,_,_,_,hB,h=>⟨by simpa[y4z]using hB,h⟩
 |o::l,k,listed,t,hh,hcl,hpre,hl,hB,h=>by
  have h0:ops[k]? =some o:=by simpa using(hl 0).symm
  simp only[a0a,y4z,a0g]at hB;obtain⟨⟨hr,hf⟩,hB'⟩:=hB;have hr:k∈Region.ready .any ops listed:=by simpa using hr
  rcases h with⟨x,t',hh',ho,h⟩|⟨p,h',hpan,hkp⟩
  ·refine u4b hst h0 l.length listed t t' hh hh' hcl (Region.free_spec h0 hf) hr ho
    (z8v hst l (k+1) _ _ _ (hcl.step hr) (fun j hj=> ?_) (fun j=>by have:=hl (j+1);simpa[a2e,Nat.add_comm 1 j]using this) hB' h)
   by_cases hjk:k=j
   ·subst hjk;rw[Array.getD_eq_getD_getElem?,Array.getElem?_setIfInBounds];simp only[if_true];split<;>rfl
   ·rw[getD_set_ne true hjk];exact hpre j (by omega)
  ·refine⟨fun h=>(by rw[h]at hr;cases hr),fun j hj=> ?_⟩
   by_cases hjk:j=k
   ·subst hjk;exact⟨o,h0, .inr ⟨p,h',hpan,hkp⟩⟩
   ·exfalso;obtain⟨hjun,oj,hoj,hall⟩:=mem_ready.1 hj;have hkj:k < j:=by
     rcases Nat.lt_trichotomy j k with h1|h1|h1
     ·have:=hpre j h1;rw[hjun]at this;cases this
     ·exact(hjk h1).elim
     ·exact h1
    have:=x6r hcl 5 hall (v8m hpan.2.2.2.1 hoj hkj);rw[x3y hr]at this;cases this
def y9r {ro:Option Nat}{K:List V->List Box->Prop}{Kp:V->List Box->Prop}{Q:Exit->Act->World->Prop}(hnd: ∀(i:Nat) o,ops[i]? =some o->z1a o=true)(hK: ∀t hh a w,K t hh->x1t En ⟨t,hh⟩ a w->Q .normal a w)
  (hKp: ∀p hh e a w,Kp p hh->PanX En p hh e a w->Q e a w):
  ∀(fuel:Nat) (listed:Array Bool) (t:List V) (hh:List Box) (a:Act) (w:World),v1b P C En ops W Z T h0 K Kp fuel listed t hh->x1t En ⟨t,hh⟩ a w->wpAnyIn (Fw ro) 0 P .any ops Q fuel listed a w
 |0,listed,t,hh,a,w,⟨hno,hk⟩,hs=>⟨hno,hK t hh a w hk hs⟩
 |fuel+1,listed,t,hh,a,w,⟨hne,hall⟩,hs=>by
  refine⟨fun h=>(hne h).elim,fun i hi=> ?_⟩
  obtain⟨o,ho,hcase⟩:=hall i hi;unfold wpOpIn;simp only[ho];have h1:if Region.wanted o (yielded ops a.tmps)then o.wp P a w (wpAnyIn (Fw ro) 0 P .any ops Q fuel (listed.setIfInBounds i true)) Q else wpAnyIn (Fw ro) 0 P .any ops Q fuel (listed.setIfInBounds i true) (a.put o.dst undef) w:=by
   rcases hcase with⟨x,t',hh',hout,hrest⟩|⟨p,h',hpan,hkp⟩
   ·exact hout.wp (Q:=Q) hs (K:=wpAnyIn (Fw ro) 0 P .any ops Q fuel (listed.setIfInBounds i true)) fun a' w' hs'=>
     y9r hnd hK hKp fuel _ _ _ a' w' hrest hs'
   ·rw[if_pos (x4d hs hpan.1)];exact hpan.2.2.2.2 t rfl a w _ Q hs fun e a' w' h=>hKp p h' e a' w' hkp h
  split
  ·rename_i hw;rw[if_pos hw]at h1;exact x9f (hnd i o ho) h1
  ·rename_i hw;rw[if_neg hw]at h1;exact⟨fun _ _=>trivial,h1⟩
def x9e.j1d (hM:okM En.g.n En.M M=true)(hg:x0p P M hx hx' (x3n o (VSt.get ⟨t,[]⟩)) o x):x9e P En o t hx M x hx':=by
 intro t2 he a w K Q hs hK;rw[<-he,y8k t2 [] hx]at hg;refine x0p.sim (s:=⟨t2,hx⟩) hg.j0p hs hM fun a' w' hs'=>hK a' w' ?_
 rwa [y2a]at hs'
def u5s:List Box->List Nat->V->V
 |_,[],v=>v
 |h,b::bs,v=>match h[b]? with
  |some (.arr _ sz rows)=>u5s ((h.map (Box.frz b (.sl sz rows))).set b .gone) bs (V.frz b (.sl sz rows) v)
  |some (.cells (.ty _) vs)=>match y8n vs with
   |some cs=>u5s ((h.map (Box.frp b cs)).set b .gone) bs (V.frp b cs v)
   |none=>u5s h bs v
  |_=>u5s h bs v
def u1u: ∀ {bs:List Nat} {h:List Box} {t:List V},(VSt.frz ⟨t,h⟩ bs).t=t.map (u5s h bs)
 | [],h,t=>by show t=_;rw[show u5s h []=id from rfl];simp
 |b::bs,h,t=>by
  have e:u5s h (b::bs)=fun v=>match h[b]? with
   |some (.arr _ sz rows)=>u5s ((h.map (Box.frz b (.sl sz rows))).set b .gone) bs (V.frz b (.sl sz rows) v)
   |some (.cells (.ty _) vs)=>match y8n vs with
    |some cs=>u5s ((h.map (Box.frp b cs)).set b .gone) bs (V.frp b cs v)
    |none=>u5s h bs v
   |_=>u5s h bs v:=rfl
  rw[e];unfold VSt.frz;simp only;cases hb:h[b]? with
  |none=>simp only[u1u]
  |some bx=>cases bx with
   |arr e sz rows=>simp only[u1u,List.map_map];rfl
   |cells t vs=>cases t with
    |ty t=>cases hc:y8n vs with
     |none=>simp only[hc,u1u]
     |some cs=>simp only[hc,u1u,List.map_map];rfl
    |_=>simp only[u1u]
   |_=>simp only[u1u]
def y9j: ∀ {bs:List Nat} {h:List Box},u5s h bs .any= .any
 | [],h=>rfl
 |b::bs,h=>by
  unfold u5s;split
  ·exact y9j
  ·split<;>exact y9j
  ·exact y9j
def q4q {bs:List Nat}{y:Operand}(he:VSt.get ⟨t2,h⟩ y=VSt.get ⟨t,h⟩ y):(VSt.frz ⟨t2,h⟩ bs).get y=(VSt.frz ⟨t,h⟩ bs).get y:=by
 cases y with
 |tmp k=>
  have he:t2.getD k .any=t.getD k .any:=he;show(VSt.frz ⟨t2,h⟩ bs).t.getD k .any=(VSt.frz ⟨t,h⟩ bs).t.getD k .any;rw[u1u,u1u];have aux: ∀t:List V,(t.map (u5s h bs)).getD k .any=u5s h bs (t.getD k .any):=fun t=>by
   rw[a0i,a0i,a0o];cases t[k]? with
   |none=>exact y9j.symm
   |some v=>rfl
  rw[aux,aux,he]
 |const v=>rfl
 |func f=>rfl
 |global k=>rfl
end
section
variable (A : Sy) (P : Program) (C : CfgO)
def u6o (hh:List Box)(t:List V)(o:Oper):Tree V:=match x5z P (VSt.frz ⟨t,hh⟩ (fzl ⟨t,hh⟩ o)).get o with
 |some (f,vs0)=>match C.inl.contains f,z3o P f with
  |false,some ts=>match u3u P (w8w P f) vs0 with
   |vs=>match vs.all V.j0e,shR P ts with
    |true,some ss=>match ss.all Sh.flat with
     |true=>u2u A P f vs ts
     |false=> .fail
    |_,_=> .fail
  |_,_=> .fail
 |none=> .fail
def v7i (hh:List Box)(t:List V)(o:Oper):Tree V:=match x5z P (VSt.get ⟨t,hh⟩) o with
 |some (f,vs0)=>match (u3u P (w8w P f) vs0).all V.j0e with
  |true=>w2m A P C hh (VSt.get ⟨t,hh⟩) o
  |false=>u6o A P C hh t o
 |none=>w2m A P C hh (VSt.get ⟨t,hh⟩) o
def q2x (hh:List Box)(t:List V)(o:Oper):Tree V:=v7i A P C hh t o
def Box.j2v (c:Nat):Box->Bool
 | .cells _ vs=>vs.all fun v=>v.j2u [c]
 |_=>true
def V.j2y (b:Nat):V->Prop
 | .ptr c _=>c=b
 | .pml c _ _ _=>c=b
 |_=>False
def k6p (W:List Nat)(n0:Nat)(hh:List Box)(o:Oper)(ρ:Operand->V):Bool:=match o.op with
 | .store _ y _=>match ρ y with
   | .ptr b _=>W.contains b || decide (n0<=b)
   | .pml b _ _ _=>W.contains b || decide (n0<=b)
   |_=>false
 | .alloc _=>true
 | .buildSlice .. =>true
 | .call c=>match c with
   |⟨.builtin .append,⟨[y,_]⟩,⟨[t,t']⟩⟩=>decide (t'=t)&&match ρ y with
    | .own c=>(W.contains c || decide (n0<=c))&&hh.zipIdx.all fun xk=>W.contains xk.2 || decide (n0<=xk.2) || xk.1.j2v c
    | .nils=>true
    |_=>false
   |_=>false
 | .mapUpdate _ y _ _=>match ρ y with
   | .map b=>W.contains b || decide (n0<=b)
   |_=>false
 |_=>false
end
section
variable {P : Program} {h h' h2 h0 hh hx hx' : List Box} {ρ ρ2 : Operand -> V} {o : Oper} {x : V} {ops : Array Oper} {W Z M : List Nat} {T : Nat -> List Nat} {t t2 : List V} {En : Ent} {E : Env} {C : CfgO}
def z8l (hE:E.Ok)(hG:x2l P E)(hk:(u6o sy P C hh t o).run E=some x):x9e P En o t hh [] x hh:=by
 intro t2 he a w K Q hs hK;unfold u6o at hk;generalize hL:fzl ⟨t,hh⟩ o=L at hk;have hs1:x1t En (VSt.frz ⟨t2,hh⟩ L) a w:=hs.frzs;rw[y8k t2 [] hh,y8k t [] hh]at he;have hco:x5z P (VSt.frz ⟨t2,hh⟩ L).get o=x5z P (VSt.frz ⟨t,hh⟩ L).get o:=x8p fun y hy=>q4q (u7r he hy)
 rw[<-hco]at hk;split at hk
 ·rename_i f vs hc1;split at hk
  ·rename_i ts _ hsig;simp only at hk;generalize hcan:u3u P (w8w P f) vs=vc at hk;split at hk
   ·rename_i ss hp hss;split at hk
    ·rename_i hfl;obtain⟨y,args,tys,hop,hy⟩:=x3u hc1 (fun f=>rfl)
     have hg:=x3w hsig;obtain⟨q1,q2,q3⟩:=x6i hE hG hp hsig hk;refine y3y hs hs1 hop hy (by rw[hcan];exact hp) hg (by rw[hcan];exact q1) (q3 ss hss hfl) fun a' w' hs'=>hK a' w' ?_
     rwa [y2a]at hs'
    ·cases hk
   ·cases hk
  ·cases hk
 ·cases hk
def z9y (hE:E.Ok)(hG:x2l P E)(hk:(v7i sy P C hh t o).run E=some x):x9e P En o t hh [] x hh:=by
 have aux:(w2m sy P C hh (VSt.get ⟨t,hh⟩) o).run E=some x->x9e P En o t hh [] x hh:=fun h=>by
  have:=x7l hE hG (fun f=>rfl) h hh (Pre.refl hh)
  rw[y8k t hh []]at this;exact x9e.j1d (by simp[okM]) this
 unfold v7i at hk;split at hk
 ·split at hk
  ·exact aux hk
  ·exact z8l hE hG hk
 ·exact aux hk
def z0r (hE:E.Ok)(hG:x2l P E)(hk:(q2x sy P C hh t o).run E=some x):x9e P En o t hh [] x hh:=by
 exact z9y hE hG hk
def z4m {t:TypeId}{a v:V}{r:List Box}(hk:(z4n sy P h t a v).run E=some r): ∃b c,V.j2y b a/\r=h.set b c:=by
 unfold z4n at hk;split at hk
 ·split at hk
  ·split at hk
   ·split at hk
    ·cases hk;exact⟨_,_,rfl,rfl⟩
    ·cases hk
   ·cases hk
  ·split at hk
   ·split at hk
    ·split at hk
     ·obtain⟨hi,hk⟩:=x1b hk;cases hk;exact⟨_,_,rfl,rfl⟩
     ·cases hk
    ·cases hk
   ·cases hk
  ·cases hk
 ·cases hk
def y4l (hp:y7z W h0 hh)(l:List Box):y7z W h0 (hh++l):=fun k x hk hx=>by
 have:=hp k x hk hx;rw[a0y,if_pos (a0c.1 this).1];exact this
def y4k {b:Nat}(hb:(W.contains b || decide (h0.length<=b))=true)(hp:y7z W h0 hh)(c:Box):y7z W h0 (hh.set b c):=fun k x hk hx=>by
 have hlt:=(a0c.1 hx).1;have hne:b≠k:=fun e=>by
  subst e;simp only[Bool.or_eq_true,List.contains_eq_mem,a0p]at hb;rcases hb with h1|h1
  ·exact hk h1
  ·omega
 rw[a1k,if_neg hne];exact hp k x hk hx
def v9t {c:Nat}{b:Box}(h:b.j2v c=true):b.kill [c]=b:=by
 cases b with
 |cells t vs=>
  show Box.cells t (vs.map _)=_;have:vs.map (V.kill [c])=vs.map id:=a2g fun v hv=>by
   have hf:=a0l.1 h v hv;have aux: ∀cs:List V,cs.all (V.j0k [c])=true->cs.map (V.j0d [c])=cs:=fun cs hc=>by
    have:cs.map (V.j0d [c])=cs.map id:=a2g fun u hu=>by
     have:=a0l.1 hc u hu;simp[V.j0d,this]
    simpa using this
   cases v with
   |agg cs=>exact congrArg V.agg (aux cs hf)
   |tup cs=>exact congrArg V.tup (aux cs hf)
   |fn f cs=>exact congrArg (V.fn f) (aux cs hf)
   |any=>rfl
   |nils=>rfl
   |d x=>rfl
   |pel cs=>rfl
   |nilp=>rfl
   |nilf=>rfl
   |ifn b=>rfl
   |ifc t cs=>rfl
   |ifo t b cs=>rfl
   |own b=>exact congrArg (fun q=>bif q then V.own b else .any) hf
   |map b=>exact congrArg (fun q=>bif q then V.map b else .any) hf
   |ptr b off=>exact congrArg (fun q=>bif q then V.ptr b off else .any) hf
   |mv f b off=>exact congrArg (fun q=>bif q then V.mv f b off else .any) hf
   |ifp f b off=>exact congrArg (fun q=>bif q then V.ifp f b off else .any) hf
   |pml b sz i off=>exact congrArg (fun q=>bif q then V.pml b sz i off else .any) hf
   |yld b R=>exact congrArg (fun q=>bif q then V.yld b R else .any) hf
   |osl b s l n=>exact congrArg (fun q=>bif q then V.osl b s l n else .any) hf
  rw[this];simp
 |_=>rfl
end
section
variable (A : Sy) (P : Program) (C : CfgO)
def w7e (h:List Box)(ρ:Operand->V)(o:Oper):Tree (List Nat × List Box × V):=match o.op with
 | .alloc t=>match z3k P t with
   |some z=>match (x5l z).j0f with
    |some vs=> .ret ([],h++[.cells (.ty t) vs], .ptr h.length 0)
    |none=> .fail
   |none=> .fail
 | .store t y z=>(z4n A P h t (ρ y) (ρ z)).bind fun h'=> .ret ([],h', .any)
 | .buildSlice t n parts=>match q3s P t n (parts.toList.map fun q=>(q.1,ρ q.2)),(parts.toList.all fun q=>(ρ q.2).j0g h)with
   |some (e,sz,vs),true=>match z3p P 9 e with
    |some ss=>match y7k ss sz n vs,decide (n<=16777216)with
     |some rows,true=> .ret ([],h++[.arr e sz rows], .own h.length)
     |_,_=> .fail
    |none=> .fail
   |_,_=> .fail
 | .call c=>match c with
   |⟨.builtin .append,⟨[y,z]⟩,⟨[t,t']⟩⟩=>match decide (t'=t)with
    |true=>y7e A P h t (ρ y) (ρ z)
    |false=> .fail
   |_=> .fail
 | .mapUpdate t y z r=>(q2r A P h t (ρ y) (ρ z) (ρ r)).bind fun h'=> .ret ([],h', .any)
 |_=> .fail
end
section
variable {P : Program} {h h' h2 h0 hh hx hx' : List Box} {ρ ρ2 : Operand -> V} {o : Oper} {x : V} {ops : Array Oper} {W Z M : List Nat} {T : Nat -> List Nat} {t t2 : List V} {En : Ent} {E : Env} {C : CfgO} {r : List Nat × List Box × V}
def u8a {t:TypeId}{a q v:V}{r:List Box}(hk:(q2r sy P h t a q v).run E=some r): ∃b c,a= .map b/\r=h.set b c:=by
 unfold q2r at hk;split at hk
 ·split at hk
  ·split at hk
   ·cases hk;exact⟨_,_,rfl,rfl⟩
   ·cases hk
  ·cases hk
 ·cases hk
def v3x (hE:E.Ok)(he: ∀y,y∈o.op.operands.toList->ρ y=ρ2 y)(hk:(w7e sy P h ρ o).run E=some r):x0p P r.1 h r.2.1 ρ2 o r.2.2:=by
 unfold w7e at hk;split at hk
 ·rename_i t hop;split at hk
  ·rename_i z hz;split at hk
   ·rename_i vs hv;cases hk;exact y0w hop hz hv
   ·cases hk
  ·cases hk
 ·rename_i t y z hop;rw[he y (by simp[hop,Op.operands]),he z (by simp[hop,Op.operands])]at hk
  obtain⟨h1,q1,hk⟩:=x0c hE hk;cases hk;exact y7i hop q1
 ·rename_i t n parts hop;have e1:(parts.toList.map fun q=>(q.1,ρ q.2))=parts.toList.map fun q=>(q.1,ρ2 q.2):=a2g fun q hq=>by
   rw[he q.2 (by simp only[hop,Op.operands];exact a2b.2 ⟨q,hq,rfl⟩)]
  have e2:(parts.toList.all fun q=>(ρ q.2).j0g h)=parts.toList.all fun q=>(ρ2 q.2).j0g h:=by
   rw[a1g,a0l,a0l];refine⟨fun hh q hq=> ?_,fun hh q hq=> ?_⟩
   ·rw[<-he q.2 (by simp only[hop,Op.operands];exact a2b.2 ⟨q,hq,rfl⟩)];exact hh q hq
   ·rw[he q.2 (by simp only[hop,Op.operands];exact a2b.2 ⟨q,hq,rfl⟩)];exact hh q hq
  rw[e1,e2]at hk;split at hk
  ·rename_i e sz vs hlit hl;split at hk
   ·rename_i ss hss;split at hk
    ·rename_i rows hr hn;cases hk;exact y1g hop hlit hl hr (by have:=a0e hn;simp only[maxLen];omega)
    ·cases hk
   ·cases hk
  ·cases hk
 ·rename_i c hop;split at hk
  ·rename_i y z t t';rw[he y (by simp[hop,Op.operands,Call.operands]),he z (by simp[hop,Op.operands,Call.operands])]at hk
   split at hk
   ·rename_i ht;have ht:=a0e ht;subst ht;exact y5t hop rfl hk
   ·cases hk
  ·cases hk
 ·rename_i t y z q hop;rw[he y (by simp[hop,Op.operands]),he z (by simp[hop,Op.operands]),he q (by simp[hop,Op.operands])]at hk
  obtain⟨h1,q1,hk⟩:=x0c hE hk;cases hk;exact y6d (.inl hop) q1
 ·cases hk
def w7c (hE:E.Ok)(hk:(w7e sy P hh ρ o).run E=some r)(hw:k6p W h0.length hh o ρ=true)(hp:y7z W h0 hh):y7z W h0 r.2.1:=by
 unfold w7e at hk;split at hk
 ·split at hk
  ·split at hk
   ·cases hk;exact y4l hp _
   ·cases hk
  ·cases hk
 ·rename_i t y z hop;obtain⟨h1,q1,hk⟩:=x0c hE hk;cases hk;obtain⟨b,c,hb,rfl⟩:=z4m q1;unfold k6p at hw;rw[hop]at hw;simp only at hw;split at hw
  ·rename_i b' off hy;rw[hy]at hb;have hb:b'=b:=hb;subst hb;exact y4k hw hp c
  ·rename_i b' sz i off hy;rw[hy]at hb;have hb:b'=b:=hb;subst hb;exact y4k hw hp c
  ·cases hw
 ·split at hk
  ·split at hk
   ·split at hk
    ·cases hk;exact y4l hp _
    ·cases hk
   ·cases hk
  ·cases hk
 ·rename_i c hop;split at hk
  ·rename_i y z t t';unfold k6p at hw;rw[hop]at hw;simp only[a0g]at hw;obtain⟨ht,hw⟩:=hw;rw[ht]at hk;simp only at hk;unfold y7e at hk;split at hk
   ·unfold z8p at hk;split at hk
    ·split at hk
     ·split at hk
      ·obtain⟨_,hk⟩:=x1b hk;obtain⟨_,hk⟩:=x1b hk;cases hk;exact y4l hp _
      ·cases hk
     ·cases hk
    ·cases hk
   unfold y9o at hk;split at hk
   ·split at hk
    ·split at hk
     ·rename_i c hy;rw[hy]at hw;simp only[a0g]at hw;split at hk
      ·split at hk
       ·obtain⟨hf,hk⟩:=x1b hk;cases hk;show y7z W h0 ((hh.map (Box.kill [c])).set c _);refine y4k hw.1 (fun k x hk hx=> ?_) _
        have h1:=hp k x hk hx;have hlt:=(a0c.1 hx).1;have h2:=a0l.1 hw.2 (x,k) (by
         rw[List.mem_zipIdx_iff_getElem?];exact h1)
        simp only[Bool.or_eq_true,List.contains_eq_mem,a0p]at h2;have hf:x.j2v c=true:=by
         rcases h2 with(h2|h2)|h2
         ·exact absurd h2 hk
         ·omega
         ·exact h2
        rw[a0o,h1,Option.map_some,v9t hf]
       ·cases hk
      ·cases hk
     ·obtain⟨hf,hk⟩:=x1b hk;cases hk;exact y4l hp _
     ·cases hk
    ·cases hk
   ·cases hk
  ·cases hk
 ·rename_i t y z q hop;obtain⟨h1,q1,hk⟩:=x0c hE hk;cases hk;obtain⟨b,c,hb,rfl⟩:=u8a q1;unfold k6p at hw;rw[hop]at hw;simp only[hb]at hw;exact y4k hw hp c
 ·cases hk
end
section
variable (A : Sy) (P : Program) (C : CfgO)
def w0r (ent:Callee->List V->List Box->Tree (List Nat × V × List Box))(W Tk:List Nat)(n1:Nat)(t:List V)(hh:List Box)(o:Oper):Tree (Option V × List Box × V):=match x5z P (VSt.get ⟨t,hh⟩) o with
 |some (f,vs)=>match C.inl.contains f,z3o P f with
  |true,some _=>forceSp (y7n hh [] vs) fun L=>match x8u hh L vs&&L.all (fun b=>(W.contains b&&Tk.contains b) || decide (n1<=b))with
   |true=>(ent (.fn f) (vs.map (V.ren (tau L))) (x5j hh L)).bind fun r=>match r.1 with
    | []=>match y1l r.2.1 with
      |none=> .ret (none,x6s hh L [] r.2.2,r.2.1.ren (ext L hh.length))
      |some p=> .ret (some (p.ren (ext L hh.length)),x6s hh L [] r.2.2, .any)
    |_=> .fail
   |false=> .fail
  |_,_=>(q2x A P C hh t o).bind fun x=> .ret (none,hh,x)
 |none=> .fail
def w0q (ops:Array Oper)(s:VSt)(o:Oper):List Nat:=match o.op with
 | .call ⟨.value (.tmp y),args,_⟩=>y7n s.h [] ((y7g P ops s 12 (.tmp y)).toList++args.toList.filterMap (y7g P ops s 12))
 | .call ⟨.value (.func f),args,_⟩=>match C.inl.contains f with
   |true=>y7n s.h [] (args.toList.filterMap (y7g P ops s 12))
   |false=>[]
 |_=>[]
def k2d (o:Oper):Bool:=match o.op with
 | .call ⟨.builtin .append,_,_⟩=>true
 |_=>false
def k2c (o:Oper):Bool:=match o.op with
 | .buildSlice .. =>true
 |_=>k2d o
def k0y (ops:Array Oper)(k:Nat):Array Oper:=(ops.toList.take k).toArray
def q0k (ops:Array Oper)(s:VSt)(o:Oper):List Nat:=match o.op with
 | .call ⟨.builtin .append,⟨[y,_]⟩,_⟩=>match y7g P ops s 12 y with
   |some (.own b)=>[b]
   |_=>[]
 |_=>[]
def bigZ (ops:Array Oper)(s:VSt):List Nat:=match ops.any k2d with
 |true=>(List.range ops.size).map (s.h.length+ ·)++ops.toList.zipIdx.flatMap fun ok=>q0k P (k0y ops ok.2) s ok.1
 |false=>[]
def midW (ops:Array Oper)(Ts:List (List Nat))(k:Nat)(o:Oper):List Nat:=(List.range ops.size).flatMap fun j=>match ops[j]? with
 |some oj=>match z3j C oj&&x5o C oj&& !x5g ops 5 oj k&& !x5g ops 5 o j with
  |true=>Ts.getD j []
  |false=>[]
 |none=>[]
def q5o (Z:List Nat)(o:Oper)(t:List V)(x:V):Bool:=Z.isEmpty || (y6x Z x&&o.op.operands.toList.all fun y=>y6x Z (VSt.get ⟨t,[]⟩ y))
def z6s (ent:Callee->List V->List Box->Tree (List Nat × V × List Box))(ops:Array Oper)(W Z:List Nat)(Ts:List (List Nat))(h0:List Box)(n0:Nat)(M0:List Nat):Nat->List Oper->List V->List Box->Tree (Option V × List V × List Box)
 |_,[],t,hh=> .ret (none,t,hh)
 |k,o::os,t,hh=>u1i ops o t (fun t=>match z3j C o with
   |true=>match x5o C o with
    |true=>(w0r A P C ent W (Ts.getD k []) h0.length t hh o).bind fun r=>match r.1 with
     |none=>forceL (x3l t o.dst r.2.2) fun t=>forceH r.2.1 fun hh=>z6s ent ops W Z Ts h0 n0 M0 (k+1) os t hh
     |some p=>match q3y ops k with
      |true=> .ret (some p,t,r.2.1)
      |false=> .fail
    |false=>(w7e A P hh (VSt.get ⟨t,hh⟩) o).bind fun r=>match okM n0 M0 r.1&&r.1.all Z.contains&&k6p W h0.length hh o (VSt.get ⟨t,hh⟩)with
     |true=>forceL (x3l (x4r r.1 t) o.dst r.2.2) fun t=>forceH r.2.1 fun hh=>z6s ent ops W Z Ts h0 n0 M0 (k+1) os t hh
     |false=> .fail
   |false=>match k0z C ops k,k1t C ops k with
    |true,_=>(q2x A P C hh t o).bind fun x=>forceL (x3l t o.dst x) fun t=>z6s ent ops W Z Ts h0 n0 M0 (k+1) os t hh
    |false,true=>(w2m A P C (z1i (hh.take h0.length) (midW C ops Ts k o)) (VSt.get ⟨t,[]⟩) o).bind fun x=>forceL (x3l t o.dst x) fun t=>z6s ent ops W Z Ts h0 n0 M0 (k+1) os t hh
    |false,false=>(w2m A P C (z1i h0 W) (VSt.get ⟨t,[]⟩) o).bind fun x=>match q5o Z o t x with
     |true=>forceL (x3l t o.dst x) fun t=>z6s ent ops W Z Ts h0 n0 M0 (k+1) os t hh
     |false=> .fail)
  (fun t=>forceL (x3l t o.dst (.tup [])) fun t=>z6s ent ops W Z Ts h0 n0 M0 (k+1) os t hh)
def w0h (ops:Array Oper):Bool:=(decide (2<=(ops.toList.filter (z3j C)).length) || ops.any (x5o C))&&w7f C ops&&y4z ops ops.size 0 (Array.replicate ops.size false)
variable (ent : Callee -> List V -> List Box -> Tree (List Nat × V × List Box)) (n0 : Nat) (M0 : List Nat)
def w0f (ops:Array Oper)(s:VSt):Tree (Option V × VSt):=match (!u6a C ops || ops.any k2c)&&w0h C ops with
 |true=>x5t (w5j P C ops s) fun s=>forceSp (ops.toList.zipIdx.flatMap fun ok=>k0m P (k0y ops ok.2) s ok.1++q0k P (k0y ops ok.2) s ok.1++w0q P C (k0y ops ok.2) s ok.1) fun W=>forceSp (bigZ P ops s) fun Z=>forceSp (ops.toList.zipIdx.map fun ok=>w0q P C (k0y ops ok.2) s ok.1) fun Ts=>(z6s A P C ent ops W Z Ts s.h n0 M0 0 ops.toList s.t s.h).bind fun r=> .ret (r.1,⟨r.2.1,r.2.2⟩)
 |false=>w0g A P C ent n0 M0 ops s
def q5f (ops:Array Oper)(s:VSt):Tree (Option V × VSt):=match ops.toList.all z1a with
 |true=>w0f A P C ent n0 M0 ops s
 |false=> .fail
end
section
variable {P : Program} {h h' h2 h0 hh hx hx' : List Box} {ρ ρ2 : Operand -> V} {o : Oper} {x : V} {ops : Array Oper} {W Z M : List Nat} {T : Nat -> List Nat} {t t2 : List V} {En : Ent} {E : Env} {C : CfgO}
def v3h (h:q5o Z o t x=true):Z= []\/(y6x Z x=true/\ ∀y∈o.op.operands.toList,y6x Z (VSt.get ⟨t,[]⟩ y)=true):=by
 unfold q5o at h;rw[Bool.or_eq_true,a0g]at h;rcases h with h|⟨h1,h2⟩
 ·exact .inl (by simpa using h)
 ·exact .inr ⟨h1,fun y hy=>a0l.1 h2 y hy⟩
def q7g {r:List Nat × List Box × V}(hE:E.Ok)(hk:(w7e sy P h ρ o).run E=some r)(hm:mkI o=true):r.1= []/\ ∃l,r.2.1=h++l:=by
 unfold w7e at hk;split at hk
 ·split at hk
  ·split at hk
   ·cases hk;exact⟨rfl,_,rfl⟩
   ·cases hk
  ·cases hk
 ·rename_i hop;simp[mkI,hop]at hm
 ·split at hk
  ·split at hk
   ·split at hk
    ·cases hk;exact⟨rfl,_,rfl⟩
    ·cases hk
   ·cases hk
  ·cases hk
 ·rename_i hop;simp[mkI,hop]at hm
 ·rename_i hop;simp[mkI,hop]at hm
 ·cases hk
def w7d {r:List Nat × List Box × V}(hE:E.Ok)(hk:(w7e sy P h ρ o).run E=some r):h.length<=r.2.1.length:=by
 unfold w7e at hk;split at hk
 ·split at hk
  ·split at hk
   ·cases hk;simp
   ·cases hk
  ·cases hk
 ·obtain⟨h1,q1,hk⟩:=x0c hE hk;cases hk;obtain⟨b,c,hb,rfl⟩:=z4m q1;simp
 ·split at hk
  ·split at hk
   ·split at hk
    ·cases hk;simp
    ·cases hk
   ·cases hk
  ·cases hk
 ·split at hk
  ·split at hk
   ·unfold y7e at hk;split at hk
    ·unfold z8p at hk;split at hk
     ·split at hk
      ·split at hk
       ·obtain⟨_,hk⟩:=x1b hk;obtain⟨_,hk⟩:=x1b hk;cases hk;simp
       ·cases hk
      ·cases hk
     ·cases hk
    unfold y9o at hk;split at hk
    ·split at hk
     ·split at hk
      ·split at hk
       ·split at hk
        ·obtain⟨hf,hk⟩:=x1b hk;cases hk;simp
        ·cases hk
       ·cases hk
      ·obtain⟨hf,hk⟩:=x1b hk;cases hk;simp
      ·cases hk
     ·cases hk
    ·cases hk
   ·cases hk
  ·cases hk
 ·obtain⟨h1,q1,hk⟩:=x0c hE hk;cases hk;obtain⟨b,c,_,rfl⟩:=u8a q1;simp
 ·cases hk
def u3l {L M':List Nat}{h h':List Box}{k:Nat}{x:Box}(hx:h[k]? =some x)(hL:k ∉ L):(x6s h L M' h')[k]? =some (x.kill M'):=by
 have hk:=(a0c.1 hx).1;unfold x6s;rw[List.getElem?_append_left (by simpa using hk),a0o,List.getElem?_zipIdx,hx]
 simp only[Option.map_some,a1z];cases hq:L.idxOf? k with
 |none=>rfl
 |some i=>exact absurd (a0j (x5b hq)) hL
def u2x (hE:E.Ok)(hG:x2l P E){ent:Callee->List V->List Box->Tree (List Nat × V × List Box)}(hent:x7b P E ent){r:Option V × List Box × V}{Tk:List Nat}(hpw:y7z W h0 hh)(hl0:h0.length<=hh.length)(hk:(w0r sy P C ent W Tk h0.length t hh o).run E=some r):
  (r.1=none->x9e P En o t hh [] r.2.2 r.2.1/\y7z W h0 r.2.1/\h0.length<=r.2.1.length/\ ∀k,k < h0.length->k ∉ Tk->r.2.1[k]? =hh[k]?)/\ ∀p,r.1=some p->SPan P En o t hh p r.2.1:=by
 unfold w0r at hk;split at hk
 ·rename_i f vs hc;split at hk
  ·rename_i hi hsig;rw[forceSp_eq]at hk;generalize y7n hh [] vs=L at hk;split at hk
   ·rename_i hL;simp only[a0g]at hL;obtain⟨hL,hW⟩:=hL;obtain⟨q,h1,hk⟩:=x0c hE hk;split at hk
    ·rename_i hq;have hcall:=hent.1 _ _ _ _ h1;rw[hq]at hcall;have hc2:x5z P (x3n o (VSt.get ⟨t,hh⟩)) o=some (f,vs):=by
      rw[<-hc];exact x8p fun y hy=>x7g (fun f=>rfl) hy
     split at hk
     ·rename_i hp;cases hk;have hA:=y1b.j2d hL (hcall.none hp);rw[a1w]at hA;obtain⟨y,args,tys,hop,hy⟩:=x3u hc2 (z4r o _);refine⟨fun _=>⟨?_,fun k x hkW hx=> ?_,?_,fun k hk0 hkT=> ?_⟩,fun p h=>(by cases h)⟩
      ·have:=x6d hop hy (x3w hsig) hA;rw[y8k t hh []]at this;exact x9e.j1d (by simp[okM]) this
      ·have hkL:k ∉ L:=fun hm=>by
        have:=a0l.1 hW k hm;simp only[Bool.or_eq_true,a0g,List.contains_eq_mem,a0p]at this;rcases this with h2|h2
        ·exact hkW h2.1
        ·have:=(a0c.1 hx).1;omega
       show(x6s hh L [] q.2.2)[k]? =some x;rw[u3l (hpw k x hkW hx) hkL,Box.j0c]
      ·show h0.length<=(x6s hh L [] q.2.2).length;unfold x6s;simp only[a0k,a1f,List.length_zipIdx];omega
      ·have hkL:k ∉ L:=fun hm=>by
        have:=a0l.1 hW k hm;simp only[Bool.or_eq_true,a0g,List.contains_eq_mem,a0p]at this;rcases this with h2|h2
        ·exact hkT h2.2
        ·omega
       show(x6s hh L [] q.2.2)[k]? =_;have hx:hh[k]? =some hh[k]:=a0b (by omega)
       rw[u3l hx hkL,Box.j0c,hx]
     ·rename_i p hp;cases hk;have hA:=x9d.j2h hL (hcall.some hp);rw[a1w]at hA;refine⟨fun h=>(by cases h),fun p' hp'=> ?_⟩
      cases hp';intro t2 he a w K Q hs hQ;have hc3:x5z P (VSt.get ⟨t2,hh⟩) o=some (f,vs):=by
       have e:x3n o (VSt.get ⟨t2,hh⟩)=x3n o (VSt.get ⟨t,hh⟩):=by rw[<-y8k t2 [] hh,<-y8k t [] hh];exact he
       rw[<-hc2,<-e];exact x8p fun y hy=>(x7g (fun f=>rfl) hy).symm
      obtain⟨y,args,tys,hop,hy⟩:=x3u hc3 (fun f=>rfl)
      exact u8d (s:=⟨t2,hh⟩) hop hy (x3w hsig) hA (by simp[okM]) hs fun e a' w' h=>hQ e a' w' ⟨_,h⟩
    ·cases hk
   ·cases hk
  ·obtain⟨x,q1,hk⟩:=x0c hE hk;cases hk;exact⟨fun _=>⟨z0r hE hG q1,hpw,hl0,fun _ _ _=>rfl⟩,fun p h=>by cases h⟩
 ·cases hk
def u1h: ∀ {W:List Nat} {h:List Box},(z1i h W).length=h.length
 | [],_=>rfl
 |b::W,h=>by show(z1i (h.set b .gone) W).length=_;rw[u1h,List.length_set]
def x7y {Ts:List (List Nat)}(hT:T=fun k=>Ts.getD k [])(hE:E.Ok)(hG:x2l P E){ent:Callee->List V->List Box->Tree (List Nat × V × List Box)}(hent:x7b P E ent){r:Option V × List V × List Box}: ∀ {os:List Oper} {k:Nat} {t:List V} {hh:List Box},y7z W h0 hh->h0.length<=hh.length->(z6s sy P C ent ops W Z Ts h0 En.g.n En.M k os t hh).run E=some r->q1a P C En ops W Z T h0 (fun t hh=>(none,t,hh)=r) (fun p hh=>r.1=some p/\r.2.2=hh) k os t hh
 | [],_,_,_,_,_,hk=>by cases hk;rfl
 |o::os,k,t,hh,hpw,hl0,hk=>by
  unfold z6s at hk;rcases y6u hk with⟨hw,hk⟩|⟨hw,hk⟩
  ·split at hk
   ·rename_i hbig;split at hk
    ·rename_i hct;obtain⟨r1,q1,hk⟩:=x0c hE hk;have hmk:mkI o=false:=by
      unfold mkI;unfold x5o at hct;split<;>simp_all
     obtain⟨kn,kp⟩:=u2x (En:=En) hE hG hent hpw hl0 q1;have hTk:Ts.getD k []=T k:=by rw[hT]
     rw[hTk]at kn;obtain⟨p1,r1⟩:=r1;cases p1 with
     |some p=>
      simp only at hk;split at hk
      ·rename_i hlate;cases hk;exact .inr ⟨p,r1.1,⟨hw,hbig,hmk,hlate,kp p rfl⟩,rfl,rfl⟩
      ·cases hk
     |none=>
     simp only at hk;rw[forceL_eq,forceH_eq]at hk;obtain⟨k1,k2,k3,k4⟩:=kn rfl;exact .inl ⟨r1.2,_,r1.1,⟨.big hh r1.1 [],⟨hw,hbig,fun b hb=>by simp at hb,hpw,k2,k1,hl0,(fun hm=>by rw[hmk]at hm;cases hm),fun _=>⟨rfl,k4⟩⟩,rfl,rfl,rfl⟩,x7y hT hE hG hent k2 k3 hk⟩
    rename_i hnc;obtain⟨r1,q1,hk⟩:=x0c hE hk;split at hk
    ·rename_i hc;simp only[a0g]at hc;obtain⟨⟨c1,c2⟩,c3⟩:=hc;rw[forceL_eq,forceH_eq]at hk;have hg:=v3x (ρ2:=x3n o (VSt.get ⟨t,hh⟩)) hE (fun y hy=>(x7g (fun f=>rfl) hy).symm) q1
     have hp2:=w7c hE q1 c3 hpw;rw[y8k t hh []]at hg;exact .inl ⟨r1.2.2,_,r1.2.1,⟨.big hh r1.2.1 r1.1,⟨hw,hbig,fun b hb=>by have:=a0l.1 c2 b hb;simpa using this,hpw,hp2,x9e.j1d c1 hg,hl0,(fun hm=>q7g hE q1 hm),fun hct=>by rw[hnc]at hct;cases hct⟩,rfl,rfl,rfl⟩,x7y hT hE hG hent hp2 (a1b hl0 (w7d hE q1)) hk⟩
    ·cases hk
   ·split at hk
    ·rename_i hpin;obtain⟨x,q1,hk⟩:=x0c hE hk;rw[forceL_eq]at hk;exact .inl ⟨x,_,hh,⟨.pin hh,⟨hw,hpin,z0r hE hG q1⟩,rfl,rfl,rfl⟩,x7y hT hE hG hent hpw hl0 hk⟩
    ·rename_i hmid;obtain⟨x,q1,hk⟩:=x0c hE hk;rw[forceL_eq]at hk;have q2:=x7l hE hG (fun f=>rfl) q1
     refine .inl ⟨x,_,hh,⟨.mid (z1i (hh.take h0.length) (midW C ops Ts k o)),⟨hw,hmid,by rw[u1h];simp;omega,fun j oj hj s1 s2=> ?_,q2⟩,fun b y hy=>(y9g hy).imp id fun h1=>(by
      have hy:=h1.2;rw[a1s]at hy;split at hy
      ·exact hy
      ·cases hy),rfl,rfl⟩,x7y hT hE hG hent hpw hl0 hk⟩
     cases e1:x5g ops 5 oj k with
     |true=>exact .inl rfl
     |false=>cases e2:x5g ops 5 o j with
      |true=>exact .inr (.inl rfl)
      |false=>
       refine .inr (.inr fun b hb y hy=>(y9g hy).resolve_right fun h1=>h1.1 ?_)
       refine List.mem_flatMap.2 ⟨j,List.mem_range.2 (a0r.1 hj).1,?_⟩;rw[hT]at hb;simp only[hj,s1,s2,e1,e2];exact hb
    ·obtain⟨x,q1,hk⟩:=x0c hE hk;split at hk
     ·rename_i hc;rw[forceL_eq]at hk;exact .inl ⟨x,_,hh,⟨.late,⟨hw,v3h hc,fun h2 hp=>x7l hE hG (fun f=>rfl) q1 h2 hp.pre⟩,hpw,rfl,rfl⟩,x7y hT hE hG hent hpw hl0 hk⟩
     ·cases hk
  ·rw[forceL_eq]at hk;exact .inl ⟨.tup [],_,hh,⟨.no,⟨hw,rfl⟩,trivial,rfl,rfl⟩,x7y hT hE hG hent hpw hl0 hk⟩
def u2i (hnd: ∀(i:Nat) o,ops[i]? =some o->z1a o=true){ro:Option Nat}(hE:E.Ok)(hG:x2l P E){ent:Callee->List V->List Box->Tree (List Nat × V × List Box)}(hent:x7b P E ent){En:Ent}{id:Nat}{Q:Exit->Act->World->Prop}{s:VSt}{q:Option V × VSt}{a:Act}{w:World}(hm:P.follows .mixedOrders=true)
  (hk:(w0f sy P C ent En.g.n En.M ops s).run E=some q) (hs:x1t En s a w) (hq: ∀e a' w',q9b En q e a' w'->Q e a' w'):(Code.region id ops true).wpIn (Fw ro) 0 P Q a w:=by
 unfold w0f at hk;split at hk
 ·rename_i hB;rw[x4g,forceSp_eq,forceSp_eq,forceSp_eq]at hk;have hs:x1t En (w5j P C ops s) a w:=hs.frzs;generalize w5j P C ops s=s at hk hs;obtain⟨r,h1,hk⟩:=x0c hE hk;cases hk;simp only[w0h,a0g]at hB;have hlex:=x7y rfl hE hG hent (fun b x _ h=>h) (a0q _) h1
  have hany:=z8v hB.2.1.2 ops.toList 0 (Array.replicate ops.size false) s.t s.h (fun k ok hok hk=>by have hlt:=(a0r.1 hok).1;simp[Array.getElem?_replicate,hlt]at hk) (fun j hj=>by omega) (fun j=>by simp) (by simpa using hB.2.2) hlex
  refine wpIn_region_any hm ?_;have:=y9r (ro:=ro) (Q:=Q) (En:=En) hnd (fun t hh a w hk' hs=>by subst hk';exact hq .normal a w ⟨rfl,hs⟩) (fun p hh e a w hk' hp=>hq e a w (by obtain⟨h1,h2⟩:=hk';subst h2;unfold q9b;simp only[h1];exact hp)) ops.toList.length _ s.t s.h a w.drew hany hs.drew
  simpa using this
 ·exact u2j hnd hE hG hent hm hk hs hq
def u5z {ro:Option Nat}(hE:E.Ok)(hG:x2l P E){ent:Callee->List V->List Box->Tree (List Nat × V × List Box)}(hent:x7b P E ent){En:Ent}{id:Nat}{Q:Exit->Act->World->Prop}{s:VSt}{q:Option V × VSt}{a:Act}{w:World}(hm:P.follows .mixedOrders=true)
  (hk:(q5f sy P C ent En.g.n En.M ops s).run E=some q) (hs:x1t En s a w) (hq: ∀e a' w',q9b En q e a' w'->Q e a' w'):(Code.region id ops true).wpIn (Fw ro) 0 P Q a w:=by
 unfold q5f at hk;split at hk
 ·rename_i hd;exact u2i (fun i o ho=>a0l.1 hd o (by rw[<-a1a]at ho;exact a0j ho)) hE hG hent hm hk hs hq
 ·cases hk
end
inductive Sk where
 |any
 |nils
 |d (s:Sh)
 |agg (l:List Sk)
 |tup (l:List Sk)
 |own (b:Nat)
 |ptr (b off:Nat)
 |mv (f:FuncId) (b off:Nat)
 |ifp (t:TypeId) (b off:Nat)
 |pel (l:List Sh)
 |pml (b sz i off:Nat)
 |nilp
 |fn (f:FuncId) (l:List Sk)
 |nilf
 |ifn
 |ifo (t:TypeId) (l:List Sh)
 |map (b:Nat)
 |yld (b:Nat) (R:RecI)
 |osl (b sz:Nat)
def D.sh:D->Sh
 | .int k _=> .int k
 | .bool _=> .bool
 | .str _=> .str
 | .sl sz _=> .sl sz
mutual
def V.sk:V->Sk
 | .any=> .any
 | .nils=> .nils
 | .d x=> .d x.sh
 | .agg cs=> .agg (V.skL cs)
 | .tup cs=> .tup (V.skL cs)
 | .own b=> .own b
 | .ptr b off=> .ptr b off
 | .mv f b off=> .mv f b off
 | .ifp f b off=> .ifp f b off
 | .pel cs=> .pel (cs.map D.sh)
 | .pml b sz i off=> .pml b sz i off
 | .nilp=> .nilp
 | .fn f cs=> .fn f (V.skL cs)
 | .nilf=> .nilf
 | .ifn _=> .ifn
 | .ifc .. => .any
 | .ifo t _ cs=> .ifo t (cs.map D.sh)
 | .map b=> .map b
 | .yld b R=> .yld b R
 | .osl b sz _ _=> .osl b sz
def V.skL:List V->List Sk
 | []=>[]
 |c::cs=>c.sk::V.skL cs
end
def u5v:List Sh->List D->Option (List D)
 | [],[]=>some []
 |s::ss,x::xs=>match decide (x.sh=s),u5v ss xs with
  |true,some ds=>some (x::ds)
  |_,_=>none
 |_,_=>none
mutual
def Sk.fit (n:Nat):Sk->V->Option (List D)
 | .any,_=>some []
 | .nils, .nils=>some []
 | .d s, .d x=>match decide (x.sh=s)with
   |true=>some [x]
   |false=>none
 | .d (.sl sz), .nils=>some [.sl sz []]
 | .agg l, .agg cs=>Sk.j0w n l cs
 | .tup l, .tup cs=>Sk.j0w n l cs
 | .own b, .own b'=>match decide (b'=b/\b < n)with
   |true=>some []
   |false=>none
 | .ptr b off, .ptr b' off'=>match decide (b'=b/\off'=off/\b < n)with
   |true=>some []
   |false=>none
 | .mv f b off, .mv f' b' off'=>match decide (f'=f/\b'=b/\off'=off/\b < n)with
   |true=>some []
   |false=>none
 | .ifp f b off, .ifp f' b' off'=>match decide (f'=f/\b'=b/\off'=off/\b < n)with
   |true=>some []
   |false=>none
 | .pel l, .pel cs=>u5v l cs
 | .pml b sz i off, .pml b' sz' i' off'=>match decide (b'=b/\sz'=sz/\i'=i/\off'=off/\b < n)with
   |true=>some []
   |false=>none
 | .nilp, .nilp=>some []
 | .fn f l, .fn f' cs=>match decide (f'=f)with
   |true=>Sk.j0w n l cs
   |false=>none
 | .nilf, .nilf=>some []
 | .ifn, .ifn b=>some [.bool b]
 | .ifo _ l, .ifn true=>some (.bool true::l.map y8b)
 | .ifo t l, .ifc t' cs=>match decide (t'=t),u5v l cs with
   |true,some ds=>some (.bool false::ds)
   |_,_=>none
 | .ifo t l, .ifo t' b cs=>match decide (t'=t),u5v l cs with
   |true,some ds=>some (.bool b::ds)
   |_,_=>none
 | .map b, .map b'=>match decide (b'=b/\b < n)with
   |true=>some []
   |false=>none
 | .yld b _, .yld b' _=>match decide (b'=b/\b < n)with
   |true=>some []
   |false=>none
 | .osl b sz, .osl b' sz' lo k=>match decide (b'=b/\sz'=sz/\b < n)with
   |true=>some [.int .i64 lo, .int .i64 k]
   |false=>none
 |_,_=>none
def Sk.j0w (n:Nat):List Sk->List V->Option (List D)
 | [],[]=>some []
 |k::ks,v::vs=>match Sk.fit n k v,Sk.j0w n ks vs with
  |some a,some b=>some (a++b)
  |_,_=>none
 |_,_=>none
end
section
variable (A : Sy)
mutual
def x9q:Sk->List D->Nat->Tree (V × Nat)
 | .any,_,j=> .ret (.any,j)
 | .nils,_,j=> .ret (.nils,j)
 | .d s,ds,j=>(y6g s (A.cell ds j)).bind fun x=> .ret (.d x,j+1)
 | .agg l,ds,j=>(y3r l ds j).bind fun r=> .ret (.agg r.1,r.2)
 | .tup l,ds,j=>(y3r l ds j).bind fun r=> .ret (.tup r.1,r.2)
 | .own b,_,j=> .ret (.own b,j)
 | .ptr b off,_,j=> .ret (.ptr b off,j)
 | .mv f b off,_,j=> .ret (.mv f b off,j)
 | .ifp f b off,_,j=> .ret (.ifp f b off,j)
 | .pel l,ds,j=>(x7z A l ds j).bind fun xs=> .ret (.pel xs,j+l.length)
 | .pml b sz i off,_,j=> .ret (.pml b sz i off,j)
 | .nilp,_,j=> .ret (.nilp,j)
 | .fn f l,ds,j=>(y3r l ds j).bind fun r=> .ret (.fn f r.1,r.2)
 | .nilf,_,j=> .ret (.nilf,j)
 | .ifn,ds,j=> .cB (A.cell ds j) fun b=> .ret (.ifn b,j+1)
 | .ifo t l,ds,j=> .cB (A.cell ds j) fun b=>(x7z A l ds (j+1)).bind fun xs=> .ret (.ifo t b xs,j+1+l.length)
 | .map b,_,j=> .ret (.map b,j)
 | .yld b R,_,j=> .ret (.yld b R,j)
 | .osl b sz,ds,j=> .cI (A.cell ds j) .i64 fun lo=> .cI (A.cell ds (j+1)) .i64 fun k=> .ret (.osl b sz lo k,j+2)
def y3r:List Sk->List D->Nat->Tree (List V × Nat)
 | [],_,j=> .ret ([],j)
 |k::ks,ds,j=>(x9q k ds j).bind fun r=>(y3r ks ds r.2).bind fun q=> .ret (r.1::q.1,q.2)
end
end
mutual
def Sk.okY (c:Nat->Option RecI):Sk->Prop
 | .yld b R=>c b=some R
 | .agg l=>Sk.j1u c l
 | .tup l=>Sk.j1u c l
 | .fn _ l=>Sk.j1u c l
 |_=>True
def Sk.j1u (c:Nat->Option RecI):List Sk->Prop
 | []=>True
 |k::ks=>k.okY c/\Sk.j1u c ks
end
mutual
def Sk.yB (n:Nat):Sk->Bool
 | .yld b _=>decide (b < n)
 | .agg l=>Sk.yBL n l
 | .tup l=>Sk.yBL n l
 | .fn _ l=>Sk.yBL n l
 |_=>true
def Sk.yBL (n:Nat):List Sk->Bool
 | []=>true
 |k::ks=>k.yB n&&Sk.yBL n ks
end
def CK.fitB:CK->CK->Bool
 | .ty t, .ty t'=>decide (t'=t)
 | .rcd .ready, .rcd .ready=>true
 | .rcd .busy, .rcd .busy=>true
 | .rcd (.done .ret), .rcd (.done .ret)=>true
 | .sit, .sit=>true
 |_,_=>false
def CK.j2b {k k':CK}(h:CK.fitB k k'=true):k'=k:=by
 unfold CK.fitB at h;split at h
 ·rw[a0e h]
 ·rfl
 ·rfl
 ·rfl
 ·rfl
 ·cases h
inductive BSk where
 |gone
 |mp (kk:KK)
 |cells (k:CK) (l:List Sk)
 |arr (e:TypeId) (sz:Nat)
 |ful (sz:Nat)
def Box.sk:Box->BSk
 | .gone=> .gone
 | .mp kk _=> .mp kk
 | .cells t vs=> .cells t (V.skL vs)
 | .arr e sz _=> .arr e sz
 | .ful sz _=> .ful sz
def BSk.fit (n:Nat):BSk->Box->Option (List D)
 | .gone,_=>some []
 | .mp kk, .mp kk' rows=>match decide (kk'=kk)with
   |true=>some [.sl 2 rows]
   |false=>none
 | .cells t l, .cells t' vs=>match CK.fitB t t' with
   |true=>Sk.j0w n l vs
   |false=>none
 | .arr e sz, .arr e' sz' rows=>match decide (e'=e/\sz'=sz)with
   |true=>some [.sl sz rows]
   |false=>none
 | .ful sz, .ful sz' rows=>match decide (sz'=sz)with
   |true=>some [.sl sz rows]
   |false=>none
 |_,_=>none
def BSk.j0w (n:Nat):List BSk->List Box->Option (List D)
 | [],_=>some []
 |k::ks,x::xs=>match BSk.fit n k x,BSk.j0w n ks xs with
  |some a,some b=>some (a++b)
  |_,_=>none
 |_::_,[]=>none
section
variable (A : Sy)
def y6h:BSk->List D->Nat->Tree (Box × Nat)
 | .gone,_,j=> .ret (.gone,j)
 | .mp kk,ds,j=> .cL (A.cell ds j) 2 fun rows=> .ret (.mp kk rows,j+1)
 | .cells t l,ds,j=>(y3r A l ds j).bind fun r=> .ret (.cells t r.1,r.2)
 | .arr e sz,ds,j=> .cL (A.cell ds j) sz fun rows=> .ret (.arr e sz rows,j+1)
 | .ful sz,ds,j=> .cL (A.cell ds j) sz fun rows=> .ret (.ful sz rows,j+1)
def y4o:List BSk->List D->Nat->Tree (List Box × Nat)
 | [],_,j=> .ret ([],j)
 |k::ks,ds,j=>(y6h A k ds j).bind fun r=>(y4o ks ds r.2).bind fun q=> .ret (r.1::q.1,q.2)
end
structure LAn where
 slots:List (Nat × Option Sk)
 nb:Nat:=1000
 gone:List Nat:=[]
 ice:List Nat:=[]
 own:List (Nat × Nat × TypeId):=[]
 sole:List Nat:=[]
 own2:List (Nat × Nat × Nat × Nat × TypeId):=[]
 dat:List (Nat × Nat × TypeId):=[]
def soleS (ks:List Nat)(s:VSt):VSt:=match ks with
 | []=>s
 |_=>⟨s.t,s.h.map (Box.kill (ks.flatMap fun k=>(s.t.getD k .any).j1s))⟩
def x1t.soleS {En:Ent}{a:Act}{w:World}{s:VSt}(ks:List Nat)(hs:x1t En s a w):x1t En (Go.Vm.soleS ks s) a w:=by
 cases ks with
 |nil=>exact hs
 |cons k ks=>
  unfold Go.Vm.soleS;simp only;generalize (List.flatMap (fun k=>(s.t.getD k .any).j1s) (k::ks))=M
  obtain⟨g,hs⟩:=hs;have ho:Over M w g w g:=⟨Gh.Le.refl _ _,fun _ _ _=>rfl⟩
  have hown: ∀k,x2r g (s.h.map (Box.kill M)) k->x2r g s.h k:=by
   rintro k ⟨b,x,hb,hx⟩
   rw[a0o,a0n]at hb;obtain⟨x0,h0,rfl⟩:=hb;exact⟨b,x0,h0,by rwa [Box.at?_kill]at hx⟩
  obtain⟨k1,k2,k3,k4⟩:=hs.keep;refine⟨g,⟨by simpa using hs.heap.n,fun b x hb=> ?_,fun b c x y k hb hc hx hy=> ?_,fun k o hk=>hs.heap.zsep k o (hown k hk),hs.heap.zlt,hs.heap.tab⟩,hs.size,hs.tmps,hs.defers.less hown rfl,⟨k1,k2,k3,fun k hk=>k4 k (hown k hk)⟩,hs.len⟩
  ·simp only at hb;rw[a0o,a0n]at hb;obtain⟨x0,h0,rfl⟩:=hb;have hr:=hs.heap.rep b x0 h0;cases x0 with
   |cells t vs=>
    obtain⟨us,o,h1,h0,h2,h3⟩:=hr;refine⟨us,o,h1,h0,by simpa using h2,fun i u v hu hv=> ?_⟩
    rw[a0o,a0n]at hv;obtain⟨v',hv',rfl⟩:=hv;exact ho.kill (h3 i u v' hu hv')
   |_=>exact hr
  ·simp only at hb hc;rw[a0o,a0n]at hb hc;obtain⟨x0,h0,rfl⟩:=hb;obtain⟨y0,h1,rfl⟩:=hc;rw[Box.at?_kill]at hx hy;exact hs.heap.sep b c x0 y0 k h0 h1 hx hy
structure Hd where
 slots:List (Nat × Sk)
 boxes:List BSk
def z7j (n0:Nat)(an:LAn)(s:VSt):Hd:=
 let live:=y7n s.h (List.range n0) (an.slots.map fun q=>s.t.getD q.1 .any)
 { slots:=an.slots.map fun q=>(q.1,match q.2 with
   |some sk=>sk
   |none=>(s.t.getD q.1 .any).sk)
   boxes:=((s.h.take an.nb).zipIdx.map fun xb=>match live.contains xb.2&& !an.gone.contains xb.2 with
    |true=>xb.1.sk
    |false=> .gone) }
def BSk.okY (c:Nat->Option RecI):BSk->Prop
 | .cells _ l=>Sk.j1u c l
 |_=>True
def BSk.yB (n:Nat):BSk->Bool
 | .cells _ l=>Sk.yBL n l
 |_=>true
def Hd.okY (c:Nat->Option RecI)(hd:Hd):Prop:=(∀q∈hd.slots,q.2.okY c)/\ ∀x∈hd.boxes,x.okY c
def Hd.yB (n:Nat)(hd:Hd):Bool:=(hd.slots.all fun q=>q.2.yB n)&&hd.boxes.all (BSk.yB n)
def w5o (n:Nat)(t:List V):List (Nat × Sk)->Option (List D)
 | []=>some []
 |(k,sk)::ls=>match Sk.fit n sk (t.getD k .any),w5o n t ls with
  |some a,some b=>some (a++b)
  |_,_=>none
def u1y (hd:Hd)(s:VSt):Option (List D):=match w5o hd.boxes.length s.t hd.slots,BSk.j0w hd.boxes.length hd.boxes s.h with
 |some a,some b=>some (a++b)
 |_,_=>none
section
variable (A : Sy)
def w4j:List (Nat × Sk)->List D->Nat->List V->Tree (List V × Nat)
 | [],_,j,acc=> .ret (acc,j)
 |(k,sk)::ls,ds,j,acc=>(x9q A sk ds j).bind fun r=>w4j ls ds r.2 (acc.set k r.1)
def y7p (hd:Hd)(len:Nat)(ds:List D):Tree VSt:=
 (w4j A hd.slots ds 0 (List.replicate len .any)).bind fun r=>(y4o A hd.boxes ds r.2).bind fun q=> .ret ⟨r.1,q.1⟩
end
structure CfgT where
 me:FuncId:=0
 o:CfgO
 loops:Nat->LAn
 cuts:Nat->Option LAn
 turn:Bool:=true
 rt:Option (List Nat):=none
 labs:Nat->Option LAn:=fun _=>none
 bx:Bool:=false
 dfr:Bool:=false
 pn:Option TypeId:=none
 rl:Option (List Nat):=none
def u0z:Nat->List Nat->List V->List V
 |_,_,[]=>[]
 |i,l,v::vs=>(match l.contains i with
  |true=>v
  |false=> .any)::u0z (i+1) l vs
def keepS (l:Option (List Nat))(s:VSt):VSt:=match l with
 |none=>s
 |some l=>⟨u0z 0 l s.t,s.h⟩
section
variable (A : Sy) (P : Program) (inR : Bool) (C : CfgT) (ent : Callee -> List V -> List Box -> Tree (List Nat × V × List Box)) (n0 : Nat) (M0 : List Nat)
def inBl (id:Nat)(r:Exit × VSt):Exit × VSt:=match r.1 with
 | .exit id'=>match decide (id'=id)with
   |true=>(.normal,r.2)
   |false=>r
 |_=>r
def q5b (hd:Hd)(r:Exit × VSt):Tree (List D ⊕ (Exit × VSt)):=match r.1 with
 | .normal=>match u1y hd r.2 with
   |some ds=> .ret (.inl ds)
   |none=> .fail
 |_=> .ret (.inr r)
def q8v (l:Nat)(hd:Hd)(r:Exit × VSt):Tree (List D ⊕ (Exit × VSt)):=match r.1 with
 | .goto l'=>match decide (l'=l),u1y hd r.2 with
   |true,some ds=> .ret (.inl ds)
   |_,_=> .fail
 |_=> .ret (.inr r)
def q8m:Code->Option (Nat × LAn)
 | .label l=>match C.labs l with
   |some an=>some (l,an)
   |none=>none
 |_=>none
def labS:Bool->Code->Option (Nat × LAn)
 |true,x=>q8m C x
 |false,_=>none
def v9q:Code->Bool
 | .seq .. =>false
 | .label _=>false
 |_=>true
def endO (q:Option V × VSt):Exit × VSt:=match q.1 with
 |none=>(.normal,q.2)
 |some p=>(.outgrown,⟨p::q.2.t,q.2.h⟩)
def endD (s:VSt)(q:Option V × VSt):Exit × VSt:=match q.1 with
 |none=>(.normal,q.2)
 |some p=>(.outgrown,⟨p::s.t.map (fun _=>V.any),q.2.h⟩)
def q5i (l:List (Nat × Nat × TypeId))(r:Exit × VSt):Exit × VSt:=match r.1 with
 | .outgrown=>r
 |x=>(x,datB P r.2 l)
def x3j:Bool->Nat->Code->VSt->Tree (Exit × VSt)
 |_,_, .skip,s=> .ret (.normal,s)
 |_,_, .region _ ops draw,s=>match draw with
  |false=>(u0c A P ent C.o n0 M0 ops 0 ops.toList s).bind fun q=> .ret (endO q)
  |true=>(q5f A P C.o ent n0 M0 ops s).bind fun q=> .ret (endD s q)
 |sc,b, .seq x y,s=>match labS C sc x with
  |some (l,an)=>
   let hd:=z7j n0 an s
   match decide (n0<=hd.boxes.length)&&hd.yB n0&&an.slots.all (fun q=>match q.2 with
    |some sk=>sk.yB 0
    |none=>true),u1y hd s with
   |true,some ds0=> .loop (fun ds=>(y7p A hd s.t.length ds).bind fun s1=>forceL s1.t fun t=>(x3j false b y ⟨t,s1.h⟩).bind (q8v l hd)) ds0
   |_,_=> .fail
  |none=>match C.cuts (v8l y)with
   |none=>(x3j false b x s).bind fun r=>match r.1 with
    | .normal=>x3j (sc&&v9q x) b y r.2
    |_=> .ret r
   |some an=>
    let s0:=datB P s an.dat
    let hd:=z7j n0 an s0
    match decide (n0<=hd.boxes.length)&&hd.yB n0&&an.slots.all (fun q=>match q.2 with
     |some sk=>sk.yB 0
     |none=>true)with
    |true=> .cut ((x3j false b x s0).bind fun r=>q5b hd (q5i P an.dat r)) fun ds=>(y7p A hd s0.t.length ds).bind fun s1=>forceL s1.t fun t=>x3j (sc&&v9q x) b y ⟨t,s1.h⟩
    |false=> .fail
 |_,b, .cond c x y,s=>match s.get c with
  | .d (.bool t)=> .ite t (x3j false b x (s.j2r c true)) (x3j false b y (s.j2r c false))
  |_=> .fail
 |_,_, .block id c,s=>(x3j false id c s).bind fun r=> .ret (inBl id r)
 |_,b, .loop c,s=>
  let s0:=datB P (soleS (C.loops b).sole (mintB P (mintP P (s.frz (C.loops b).ice) (C.loops b).own2) (C.loops b).own)) (C.loops b).dat
  let hd:=z7j n0 (C.loops b) s0
  match decide (n0<=hd.boxes.length)&&hd.yB n0&&(C.loops b).slots.all (fun q=>match q.2 with
   |some sk=>sk.yB 0
   |none=>true),u1y hd s0 with
  |true,some ds0=> .loop (fun ds=>(y7p A hd s0.t.length ds).bind fun s1=>forceL s1.t fun t=>(x3j false b c ⟨t,s1.h⟩).bind fun r=>q5b hd (q5i P (C.loops b).dat r)) ds0
  |_,_=> .fail
 |_,_, .exit id,s=> .ret (.exit id,s)
 |_,_, .ret,s=> .ret (.ret,s)
 |_,_, .label _,s=> .ret (.normal,s)
 |_,_, .goto l,s=> .ret (.goto l,s)
 |_,b, .scope c,s=>match inR with
  |true=> .fail
  |false=>(x3j true b c s).bind fun r=>match r.1 with
   | .goto _=> .fail
   |_=> .ret r
 |_,_, .rangeFunc y ps assign body,s=>match inR,s.get y with
  |false, .fn f caps=>match z3o P f with
   |some _=>(ent (.fn f) (.yld s.h.length ⟨C.me,ps,assign,body⟩::caps) (s.h++[.cells (.rcd .ready) (keepS C.rl s).t])).bind fun r=>match y1l r.2.1 with
    |some _=> .fail
    |none=>match okM n0 M0 r.1&& !r.1.contains s.h.length,r.2.2[s.h.length]? with
     |true,some (.cells (.rcd .ready) vs)=> .ret (.normal,⟨vs,r.2.2.set s.h.length .gone⟩)
     |true,some (.cells (.rcd (.done .ret)) vs)=> .ret (.ret,⟨vs,r.2.2.set s.h.length .gone⟩)
     |true,some (.cells (.rcd (.done (.exit id))) vs)=> .ret (.exit id,⟨vs,r.2.2.set s.h.length .gone⟩)
     |_,_=> .fail
   |none=> .fail
  |_,_=> .fail
 |_,_,_,_=> .fail
end
section
variable {P : Program} {E : Env}
def y0a: ∀ {ss:List Sh} {xs ds:List D},u5v ss xs=some ds->ds=xs/\xs.length=ss.length/\ ∀(i:Nat) x s,xs[i]? =some x->ss[i]? =some s->x.sh=s
 | [],[],ds,h=>by cases h;simp
 | [],_::_,ds,h=>by cases h
 |_::_,[],ds,h=>by cases h
 |s::ss,x::xs,ds,h=>by
  unfold u5v at h;split at h
  ·rename_i ds' hd h2;cases h;obtain⟨rfl,h3,h4⟩:=y0a h2;refine⟨rfl,by simp[h3],fun i y s' hy hs=> ?_⟩
   cases i with
   |zero=>simp at hy hs;subst hy;subst hs;exact a0e hd
   |succ i=>exact h4 i y s' (by simpa using hy) (by simpa using hs)
  ·cases h
def z6x {x:D}{v:Option D}{s:Sh}(h:v=some x)(hs:x.sh=s):(y6g s v).run E=some x:=by
 subst h;subst hs;cases x<;>simp[D.sh,y6g,Tree.run,opI,opB,opS,opL]
def At (full:List D)(j:Nat)(ds:List D):Prop:= ∀(i:Nat) x,ds[i]? =some x->full[j+i]? =some x
def At.left {full:List D}{j:Nat}{a b:List D}(h:At full j (a++b)):At full j a:=fun i x hx=>h i x (by
 rw[a0y,if_pos (a0c.1 hx).1];exact hx)
def At.right {full:List D}{j:Nat}{a b:List D}(h:At full j (a++b)):At full (j+a.length) b:=fun i x hx=>by
 have:=h (a.length+i) x (by rw[List.getElem?_append_right (by omega),Nat.add_sub_cancel_left];exact hx)
 rwa [<-a2e]at this
def At.head {full:List D}{j:Nat}{x:D}{b:List D}(h:At full j (x::b)):sy.cell full j=some x:=h 0 x rfl
def z0w (hE:E.Ok): ∀ {ss:List Sh} {full:List D} {j:Nat} {xs:List D},xs.length=ss.length->(∀(i:Nat) x s,xs[i]? =some x->ss[i]? =some s->x.sh=s)->At full j xs->(x7z sy ss full j).run E=some xs
 | [],full,j,xs,hl,_,_=>by
   have:xs= []:=by simpa using hl
   subst this;rfl
 |s::ss,full,j,[],hl,_,_=>by simp at hl
 |s::ss,full,j,x::xs,hl,hs,ha=>by
  unfold x7z;have h1:(y6g s (sy.cell full j)).run E=some x:=z6x ha.head (hs 0 x s rfl rfl);have h2:=z0w hE (ss:=ss) (full:=full) (j:=j+1) (xs:=xs) (by simpa using hl) (fun i y s' hy hs'=>hs (i+1) y s' (by simpa using hy) (by simpa using hs')) (fun i y hy=>by
   have:=ha (i+1) y (by simpa using hy)
   rwa [show j+1+i=j+(i+1) by omega])
  rw[run_bind hE,h1];simp only[a1i];rw[run_bind hE,h2];rfl
def WkY (n:Nat)(c:Nat->Option RecI)(v' v:V):Prop:= ∀(w:World) (g:Gh) (u:Value),(∀b x,c b=some x->g.rc b=some x)->Rep w g u v'->Rep w (g.cut n) u v
def WkBY (n:Nat)(c:Nat->Option RecI)(x y:Box):Prop:=(∀(w:World) (g:Gh) (b:Nat),(∀b x,c b=some x->g.rc b=some x)->x1r w g b x->x1r w (g.cut n) b y)/\ ∀(g:Gh) (b k:Nat),y.at? (g.cut n) b=some k->x.at? g b=some k
def u4t {c:Nat->Option RecI}: ∀ {cs:List V},(∀(i:Nat) v,cs[i]? =some v->v.sk.okY c)->Sk.j1u c (V.skL cs)
 | [],_=>trivial
 |v::cs,h=>⟨h 0 v rfl,u4t fun i v hv=>h (i+1) v (by simpa using hv)⟩
def v6r {w:World}{g:Gh}{u:Value}{v:V}(hr:Rep w g u v):v.sk.okY g.rc:=by
 have aux: ∀(us:Array Value) (cs:List V),us.size=cs.length->(∀(i:Nat) u c,us[i]? =some u->cs[i]? =some c->c.sk.okY g.rc)->Sk.j1u g.rc (V.skL cs):=fun us cs hl h=>
  u4t fun i v hv=>by
   have hi:i < us.size:=by rw[hl];exact(a0c.1 hv).1
   exact h i _ v (a0x hi) hv
 induction hr with
 |agg us cs hl h ih=>exact aux us cs hl ih
 |tup us cs hl h ih=>exact aux us cs hl ih
 |fn f us cs hl h ih=>exact aux us cs hl ih
 |yld b R hb hc=>exact hc
 |_=>exact trivial
mutual
def u0e {c c':Nat->Option RecI}{n:Nat}(hc: ∀b,b < n->c' b=c b): ∀(sk:Sk),sk.okY c->sk.yB n=true->sk.okY c'
 | .yld b R,h,hb=>by
   have h:c b=some R:=h;have hb:b < n:=a0e hb;show c' b=some R;rw[hc b hb,h]
 | .agg l,h,hb=>x9t hc l h hb
 | .tup l,h,hb=>x9t hc l h hb
 | .fn _ l,h,hb=>x9t hc l h hb
 | .any,_,_=>trivial
 | .nils,_,_=>trivial
 | .d _,_,_=>trivial
 | .own _,_,_=>trivial
 | .ptr _ _,_,_=>trivial
 | .mv ..,_,_=>trivial
 | .ifp ..,_,_=>trivial
 | .pel _,_,_=>trivial
 | .pml ..,_,_=>trivial
 | .nilp,_,_=>trivial
 | .nilf,_,_=>trivial
 | .ifn,_,_=>trivial
 | .ifo ..,_,_=>trivial
 | .map _,_,_=>trivial
 | .osl ..,_,_=>trivial
def x9t {c c':Nat->Option RecI}{n:Nat}(hc: ∀b,b < n->c' b=c b): ∀(l:List Sk),Sk.j1u c l->Sk.yBL n l=true->Sk.j1u c' l
 | [],_,_=>trivial
 |k::ks,h,hb=>by
  have hb:(k.yB n&&Sk.yBL n ks)=true:=hb;rw[a0g]at hb;exact⟨u0e hc k h.1 hb.1,x9t hc ks h.2 hb.2⟩
end
mutual
def u8h {c:Nat->Option RecI}: ∀(sk:Sk),sk.yB 0=true->sk.okY c
 | .yld b R,hb=>by
   have hb:b < 0:=a0e hb;omega
 | .agg l,hb=>x9s l hb
 | .tup l,hb=>x9s l hb
 | .fn _ l,hb=>x9s l hb
 | .any,_=>trivial
 | .nils,_=>trivial
 | .d _,_=>trivial
 | .own _,_=>trivial
 | .ptr _ _,_=>trivial
 | .mv ..,_=>trivial
 | .ifp ..,_=>trivial
 | .pel _,_=>trivial
 | .pml ..,_=>trivial
 | .nilp,_=>trivial
 | .nilf,_=>trivial
 | .ifn,_=>trivial
 | .ifo ..,_=>trivial
 | .map _,_=>trivial
 | .osl ..,_=>trivial
def x9s {c:Nat->Option RecI}: ∀(l:List Sk),Sk.yBL 0 l=true->Sk.j1u c l
 | [],_=>trivial
 |k::ks,hb=>by
  have hb:(k.yB 0&&Sk.yBL 0 ks)=true:=hb;rw[a0g]at hb;exact⟨u8h k hb.1,x9s ks hb.2⟩
end
def v3u {w:World}{g:Gh}{b:Nat}{x:Box}(hr:x1r w g b x):x.sk.okY g.rc:=by
 cases x with
 |cells k vs=>
  obtain⟨us,o,h1,h0,h2,h3⟩:=hr;exact u4t fun i v hv=>by
   have hi:i < us.size:=by rw[h2];exact(a0c.1 hv).1
   exact v6r (h3 i _ v (a0x hi) hv)
 |_=>exact trivial
def cdE (En:Ent):Nat->Option RecI:=fun b=>if b < En.g.n then En.g.rc b else none
def w6e {En:Ent}{s:VSt}{a:Act}{w:World}{g:Gh}(hs:Sim En s a w g){b:Nat}{x:RecI}(h:cdE En b=some x):g.rc b=some x:=by
 unfold cdE at h;split at h
 ·rename_i hb;exact v6z (hs.keep.1.cd b hb) h
 ·cases h
def z1j {En:Ent}{s:VSt}{a:Act}{w:World}{an:LAn}(hs:x1t En s a w)(hb:(z7j En.g.n an s).yB En.g.n=true)(ha:an.slots.all (fun q=>match q.2 with
  |some sk=>sk.yB 0
  |none=>true)=true):(z7j En.g.n an s).okY (cdE En):=by
 obtain⟨g,hs⟩:=hs;have hc: ∀b,b < En.g.n->cdE En b=g.rc b:=fun b hb=>by unfold cdE Gh.rc;rw[if_pos hb,hs.keep.1.cd b hb]
 unfold Hd.yB at hb;rw[a0g]at hb;obtain⟨b1,b2⟩:=hb;constructor
 ·intro q hq;have y1:=a0l.1 b1 q hq;simp only[z7j,a2b]at hq;obtain⟨q0,hq0,rfl⟩:=hq;have y2:=a0l.1 ha q0 hq0;cases h2:q0.2 with
  |some sk=>simp only[h2]at y2 ⊢;exact u8h sk y2
  |none=>
   simp only[h2]at y1 ⊢;exact u0e hc _ (v6r (hs.get (.tmp q0.1))) y1
 ·intro x hx;have y1:=a0l.1 b2 x hx;simp only[z7j,a2b]at hx;obtain⟨⟨y,i⟩,hy,rfl⟩:=hx;simp only at y1 ⊢;split
  ·rename_i hl;simp only[hl]at y1;have hyi:s.h[i]? =some y:=by
    have:=List.mem_zipIdx hy;obtain⟨h1,h2,h3⟩:=this;simp only[Nat.sub_zero,a1z]at h2 h3;have h4:(s.h.take an.nb)[i]? =some y:=by rw[h3];exact a0b _
    rw[a1s]at h4;split at h4
    ·exact h4
    ·cases h4
   have hr:=v3u (hs.heap.rep i y hyi);cases y with
   |cells k vs=>exact x9t hc _ hr y1
   |_=>exact trivial
  ·exact trivial
mutual
def u9m (hE:E.Ok){n:Nat}{c:Nat->Option RecI}{full:List D}: ∀(sk:Sk) {v:V} {ds:List D} {j:Nat},Sk.fit n sk v=some ds->sk.okY c->At full j ds-> ∃v',(x9q sy sk full j).run E=some (v',j+ds.length)/\WkY n c v v'
 | .any,v,ds,j,h,hy,_=>by
   have:ds= []:=by cases v<;>(unfold Sk.fit at h;cases h;rfl)
   subst this;exact⟨.any,rfl,fun _ _ u _ _=> .any u⟩
 | .nils,v,ds,j,h,hy,_=>by
   cases v<;>unfold Sk.fit at h<;>first|(cases h;done)|skip
   cases h;exact⟨.nils,rfl,fun w g u hcd hr=>x7p (n:=n) rfl hr⟩
 | .d s,v,ds,j,h,hy,ha=>by
   cases v with
   |d x=>
    have h:(match decide (x.sh=s)with|true=>some [x]|false=>none)=some ds:=by unfold Sk.fit at h;exact h
    split at h
    ·rename_i hd;cases h;refine⟨.d x,?_,fun w g u hcd hr=>x7p (n:=n) rfl hr⟩
     unfold x9q;rw[run_bind hE,z6x ha.head (a0e hd)];rfl
    ·cases h
   |nils=>
    cases s<;>unfold Sk.fit at h<;>first|(cases h;done)|skip
    cases h;rename_i sz;refine⟨.d (.sl sz []),?_,fun w g u hcd hr=>by cases hr;exact .d (.slnil sz)⟩
    unfold x9q;have q:(y6g (.sl sz) (sy.cell full j)).run E=some (.sl sz []):=z6x ha.head rfl;rw[run_bind hE,q];rfl
   |_=>cases s<;>(unfold Sk.fit at h;cases h)
 | .agg l,v,ds,j,h,hy,ha=>by
   cases v<;>unfold Sk.fit at h<;>first|(cases h;done)|skip
   obtain⟨vs,h1,h2,h3⟩:=y2f hE l h hy ha;refine⟨.agg vs,by unfold x9q;rw[run_bind hE,h1];rfl,fun w g u hcd hr=> ?_⟩
   cases hr with
   |agg us _ hl hr=>
    refine .agg us vs (by rw[hl,h2]) fun i u c hu hc=> ?_
    have hi:=(a0r.1 hu).1;exact h3 i _ c (a0b (by omega)) hc w g u hcd (hr i u _ hu (a0b (by omega)))
 | .tup l,v,ds,j,h,hy,ha=>by
   cases v<;>unfold Sk.fit at h<;>first|(cases h;done)|skip
   obtain⟨vs,h1,h2,h3⟩:=y2f hE l h hy ha;refine⟨.tup vs,by unfold x9q;rw[run_bind hE,h1];rfl,fun w g u hcd hr=> ?_⟩
   cases hr with
   |tup us _ hl hr=>
    refine .tup us vs (by rw[hl,h2]) fun i u c hu hc=> ?_
    have hi:=(a0r.1 hu).1;exact h3 i _ c (a0b (by omega)) hc w g u hcd (hr i u _ hu (a0b (by omega)))
 | .own b,v,ds,j,h,hy,_=>by
   cases v<;>unfold Sk.fit at h<;>first|(cases h;done)|skip
   split at h
   ·rename_i hd;obtain⟨rfl,hd⟩:=a0e hd;cases h;exact⟨.own _,rfl,fun w g u hcd hr=>x7u hr (by simpa[V.scB]using hd)⟩
   ·cases h
 | .ptr b off,v,ds,j,h,hy,_=>by
   cases v<;>unfold Sk.fit at h<;>first|(cases h;done)|skip
   split at h
   ·rename_i hd;obtain⟨rfl,rfl,hd⟩:=a0e hd;cases h;exact⟨.ptr _ _,rfl,fun w g u hcd hr=>x7u hr (by simpa[V.scB]using hd)⟩
   ·cases h
 | .mv f b off,v,ds,j,h,hy,_=>by
   cases v<;>unfold Sk.fit at h<;>first|(cases h;done)|skip
   split at h
   ·rename_i hd;obtain⟨rfl,rfl,rfl,hd⟩:=a0e hd;cases h;exact⟨.mv _ _ _,rfl,fun w g u hcd hr=>x7u hr (by simpa[V.scB]using hd)⟩
   ·cases h
 | .ifp f b off,v,ds,j,h,hy,_=>by
   cases v<;>unfold Sk.fit at h<;>first|(cases h;done)|skip
   split at h
   ·rename_i hd;obtain⟨rfl,rfl,rfl,hd⟩:=a0e hd;cases h;exact⟨.ifp _ _ _,rfl,fun w g u hcd hr=>x7u hr (by simpa[V.scB]using hd)⟩
   ·cases h
 | .pel l,v,ds,j,h,hy,ha=>by
   cases v<;>unfold Sk.fit at h<;>first|(cases h;done)|skip
   obtain⟨rfl,h2,h3⟩:=y0a h;refine⟨.pel _,?_,fun w g u hcd hr=>x7p (n:=n) rfl hr⟩
   unfold x9q;rw[run_bind hE,z0w hE h2 h3 ha,<-h2];rfl
 | .pml b sz i off,v,ds,j,h,hy,_=>by
   cases v<;>unfold Sk.fit at h<;>first|(cases h;done)|skip
   split at h
   ·rename_i hd;obtain⟨rfl,rfl,rfl,rfl,hd⟩:=a0e hd;cases h;exact⟨.pml _ _ _ _,rfl,fun w g u hcd hr=>x7u hr (by simpa[V.scB]using hd)⟩
   ·cases h
 | .nilp,v,ds,j,h,hy,_=>by
   cases v<;>unfold Sk.fit at h<;>first|(cases h;done)|skip
   cases h;exact⟨.nilp,rfl,fun w g u hcd hr=>x7p (n:=n) rfl hr⟩
 | .fn f l,v,ds,j,h,hy,ha=>by
   cases v<;>unfold Sk.fit at h<;>first|(cases h;done)|skip
   split at h
   ·rename_i hd;have hd:=a0e hd;subst hd;obtain⟨vs,h1,h2,h3⟩:=y2f hE l h hy ha;refine⟨.fn _ vs,by unfold x9q;rw[run_bind hE,h1];rfl,fun w g u hcd hr=> ?_⟩
    cases hr with
    |fn _ us _ hl hr=>
     refine .fn _ us vs (by rw[hl,h2]) fun i u c hu hc=> ?_
     have hi:=(a0r.1 hu).1;exact h3 i _ c (a0b (by omega)) hc w g u hcd (hr i u _ hu (a0b (by omega)))
   ·cases h
 | .ifn,v,ds,j,h,hy,ha=>by
   cases v<;>unfold Sk.fit at h<;>first|(cases h;done)|skip
   rename_i b;cases h;refine⟨.ifn b,?_,fun w g u hcd hr=>x7p (n:=n) rfl hr⟩
   unfold x9q;simp only[Tree.run];rw[ha.head];rfl
 | .ifo t l,v,ds,j,h,hy,ha=>by
   have fin: ∀(b:Bool) (xs:List D),xs.length=l.length->(∀(i:Nat) x s,xs[i]? =some x->l[i]? =some s->x.sh=s)->ds= .bool b::xs->(x9q sy (.ifo t l) full j).run E=some (.ifo t b xs,j+ds.length):=by
    intro b xs hl hsh hds;subst hds;unfold x9q;simp only[Tree.run];rw[ha.head];show(Tree.bind (x7z sy l full (j+1)) fun xs=> .ret (V.ifo t b xs,j+1+l.length)).run E=_
    have h9:(x7z sy l full (j+1)).run E=some xs:=z0w hE hl hsh (ha.right (a:=[.bool b]) (b:=xs));rw[run_bind hE,h9];show some (V.ifo t b xs,j+1+l.length)=some (V.ifo t b xs,j+(xs.length+1));rw[hl,a2e,Nat.add_comm 1]
   have zs: ∀(i:Nat) x s,(l.map y8b)[i]? =some x->l[i]? =some s->x.sh=s:=fun i x s hx hs=>by
    rw[a0o,hs]at hx;cases hx;cases s<;>rfl
   cases v with
   |ifn b=>
    cases b with
    |true=>
     unfold Sk.fit at h;cases h;exact⟨_,fin true _ (a1f _) zs rfl,fun w g u hcd hr=>by cases hr;exact .ifo0 _ _⟩
    |false=>unfold Sk.fit at h;cases h
   |ifc t' cs=>
    unfold Sk.fit at h;split at h
    ·rename_i xs hd h2;have hd:=a0e hd;subst hd;cases h;obtain⟨rfl,hl,hsh⟩:=y0a h2;exact⟨_,fin false _ hl hsh rfl,fun w g u hcd hr=>by
      cases hr with
      |ifc _ us _ hl h=>exact .ifo1 _ us _ hl h⟩
    ·cases h
   |ifo t' b cs=>
    unfold Sk.fit at h;split at h
    ·rename_i xs hd h2;have hd:=a0e hd;subst hd;cases h;obtain⟨rfl,hl,hsh⟩:=y0a h2;exact⟨_,fin b _ hl hsh rfl,fun w g u hcd hr=>by
      cases hr with
      |ifo0=>exact .ifo0 _ _
      |ifo1 _ us _ hl h=>exact .ifo1 _ us _ hl h⟩
    ·cases h
   |_=>unfold Sk.fit at h;cases h
 | .nilf,v,ds,j,h,hy,_=>by
   cases v<;>unfold Sk.fit at h<;>first|(cases h;done)|skip
   cases h;exact⟨.nilf,rfl,fun w g u hcd hr=>x7p (n:=n) rfl hr⟩
 | .map b,v,ds,j,h,hy,_=>by
   cases v<;>unfold Sk.fit at h<;>first|(cases h;done)|skip
   split at h
   ·rename_i hd;obtain⟨rfl,hd⟩:=a0e hd;cases h;exact⟨.map _,rfl,fun w g u hcd hr=>x7u hr (by simpa[V.scB]using hd)⟩
   ·cases h
 | .yld b R,v,ds,j,h,hy,_=>by
   cases v<;>unfold Sk.fit at h<;>first|(cases h;done)|skip
   split at h
   ·rename_i hd;obtain⟨rfl,hd⟩:=a0e hd;cases h;have hy:c _=some R:=hy;exact⟨.yld _ R,rfl,fun w g u hcd hr=>by cases hr with|yld _ R' hb hc=>exact .yld (g:=g.cut n) _ R hd (hcd _ _ hy)⟩
   ·cases h
 | .osl b sz,v,ds,j,h,_,ha=>by
   cases v<;>unfold Sk.fit at h<;>first|(cases h;done)|skip
   rename_i lo k;split at h
   ·rename_i hd;obtain⟨rfl,rfl,hd⟩:=a0e hd;cases h;refine⟨.osl _ _ lo k,?_,fun w g u hcd hr=>x7u hr (by simpa[V.scB]using hd)⟩
    have e0:sy.cell full j=some (.int .i64 lo):=ha 0 _ rfl;have e1:sy.cell full (j+1)=some (.int .i64 k):=ha 1 _ rfl;simp only[x9q,Tree.run,e0,e1,opI,decide_true,a1i];rfl
   ·cases h
def y2f (hE:E.Ok){n:Nat}{c:Nat->Option RecI}{full:List D}: ∀(l:List Sk) {vs:List V} {ds:List D} {j:Nat},Sk.j0w n l vs=some ds->Sk.j1u c l->At full j ds->
  ∃vs',(y3r sy l full j).run E=some (vs',j+ds.length)/\vs'.length=vs.length/\ ∀(i:Nat) v v',vs[i]? =some v->vs'[i]? =some v'->WkY n c v v'
 | [],[],ds,j,h,hy,_=>by
   unfold Sk.j0w at h;cases h;exact⟨[],rfl,rfl,by simp⟩
 | [],_::_,ds,j,h,hy,_=>by unfold Sk.j0w at h;cases h
 |_::_,[],ds,j,h,hy,_=>by unfold Sk.j0w at h;cases h
 |k::ks,v::vs,ds,j,h,hy,ha=>by
  unfold Sk.j0w at h;split at h
  ·rename_i a b h1 h2;cases h;obtain⟨v',e1,w1⟩:=u9m hE k h1 hy.1 ha.left;obtain⟨vs',e2,l2,w2⟩:=y2f hE ks h2 hy.2 ha.right;refine⟨v'::vs',?_,by simp[l2],fun i x x' hx hx'=> ?_⟩
   ·unfold y3r;rw[run_bind hE,e1];simp only[a1i];rw[run_bind hE,e2];simp only[a1i,Tree.run,a0k,a2e]
   ·cases i with
    |zero=>simp at hx hx';subst hx;subst hx';exact w1
    |succ i=>exact w2 i x x' (by simpa using hx) (by simpa using hx')
  ·cases h
end
def w1w (hE:E.Ok){n:Nat}{c:Nat->Option RecI}{full:List D}(sk:BSk){x:Box}{ds:List D}{j:Nat}(h:BSk.fit n sk x=some ds)(hok:sk.okY c)(ha:At full j ds): ∃y,(y6h sy sk full j).run E=some (y,j+ds.length)/\WkBY n c x y:=by
 cases sk with
 |gone=>
  have:ds= []:=by cases x<;>(simp only[BSk.fit]at h;cases h;rfl)
  subst this;exact⟨.gone,rfl,fun _ _ _ _ _=>trivial,fun g b k hy=>by simp[Box.at?]at hy⟩
 |mp kk=>
  cases x<;>simp only[BSk.fit]at h<;>first|(cases h;done)|skip
  split at h
  ·rename_i rows _ hd;have:=a0e hd;subst this;cases h;refine⟨.mp _ rows,?_,fun w g b _ hr=>hr,fun g b k hy=>hy⟩
   simp only[y6h,Tree.run];rw[ha.head];simp[opL]
  ·cases h
 |cells t l=>
  cases x<;>simp only[BSk.fit]at h<;>first|(cases h;done)|skip
  split at h
  ·rename_i vs _ hd;have:=CK.j2b hd;subst this;obtain⟨vs',e1,l1,w1⟩:=y2f hE l h hok ha;refine⟨.cells _ vs',by unfold y6h;rw[run_bind hE,e1];rfl,fun w g b hcd hr=> ?_,fun g b k hy=>hy⟩
   obtain⟨us,o,q1,q0,q2,q3⟩:=hr;refine⟨us,o,q1,q0,by rw[q2,l1],fun i u v hu hv=> ?_⟩
   have hi:i < vs.length:=by rw[<-l1];exact(a0c.1 hv).1
   exact w1 i vs[i] v (a0b hi) hv w g u hcd (q3 i u _ hu (a0b hi))
  ·cases h
 |arr e sz=>
  cases x<;>simp only[BSk.fit]at h<;>first|(cases h;done)|skip
  split at h
  ·rename_i rows _ hd;obtain⟨rfl,rfl⟩:=a0e hd;cases h;refine⟨.arr _ _ rows,?_,fun w g b _ hr=>hr,fun g b k hy=>hy⟩
   simp only[y6h,Tree.run];rw[ha.head];simp[opL]
  ·cases h
 |ful sz=>
  cases x<;>simp only[BSk.fit]at h<;>first|(cases h;done)|skip
  split at h
  ·rename_i rows _ hd;have:=a0e hd;subst this;cases h;refine⟨.ful _ rows,?_,fun w g b _ hr=>hr,fun g b k hy=>hy⟩
   simp only[y6h,Tree.run];rw[ha.head];simp[opL]
  ·cases h
def y7b (hE:E.Ok){n:Nat}{c:Nat->Option RecI}{full:List D}: ∀(l:List BSk) {xs:List Box} {ds:List D} {j:Nat},BSk.j0w n l xs=some ds->(∀x∈l,x.okY c)->At full j ds->
  ∃ys,(y4o sy l full j).run E=some (ys,j+ds.length)/\ys.length=l.length/\l.length<=xs.length/\ ∀(i:Nat) y,ys[i]? =some y-> ∃x,xs[i]? =some x/\WkBY n c x y
 | [],xs,ds,j,h,_,_=>by
   have:ds= []:=by cases xs<;>(unfold BSk.j0w at h;cases h;rfl)
   subst this;exact⟨[],rfl,rfl,a0w _,by simp⟩
 |_::_,[],ds,j,h,_,_=>by unfold BSk.j0w at h;cases h
 |k::ks,x::xs,ds,j,h,hok,ha=>by
  unfold BSk.j0w at h;split at h
  ·rename_i a b h1 h2;cases h;obtain⟨y,e1,w1⟩:=w1w hE k h1 (hok k a0t) ha.left;obtain⟨ys,e2,l2,l3,w2⟩:=y7b hE ks h2 (fun x hx=>hok x (a0v _ hx)) ha.right
   refine⟨y::ys,?_,by simp[l2],by simp;exact l3,fun i y' hy'=> ?_⟩
   ·unfold y4o;rw[run_bind hE,e1];simp only[a1i];rw[run_bind hE,e2];simp only[a1i,Tree.run,a0k,a2e]
   ·cases i with
    |zero=>simp at hy';subst hy';exact⟨x,rfl,w1⟩
    |succ i=>obtain⟨x',hx,hw⟩:=w2 i y' (by simpa using hy');exact⟨x',by simpa using hx,hw⟩
  ·cases h
def u8f (hE:E.Ok){n:Nat}{c:Nat->Option RecI}{full:List D}{t:List V}: ∀ {ls:List (Nat × Sk)} {ds:List D} {j:Nat} {acc:List V},w5o n t ls=some ds->(∀q∈ls,q.2.okY c)->At full j ds->acc.length=t.length->
  (∀(k:Nat) v',acc[k]? =some v'->WkY n c (t.getD k .any) v')-> ∃acc',(w4j sy ls full j acc).run E=some (acc',j+ds.length)/\acc'.length=t.length/\ ∀(k:Nat) v',acc'[k]? =some v'->WkY n c (t.getD k .any) v'
 | [],ds,j,acc,h,_,_,hl,hw=>by cases h;exact⟨acc,rfl,hl,hw⟩
 |(k,sk)::ls,ds,j,acc,h,hok,ha,hl,hw=>by
  unfold w5o at h;split at h
  ·rename_i a b h1 h2;cases h;obtain⟨v',e1,w1⟩:=u9m hE sk h1 (hok _ a0t) ha.left;obtain⟨acc',e2,l2,w2⟩:=u8f hE (acc:=acc.set k v') h2 (fun q hq=>hok q (a0v _ hq)) ha.right (by simpa using hl) (fun i v hv=>by
    rw[a1k]at hv
    by_cases hi:k=i
    ·subst hi;rw[if_pos rfl]at hv;split at hv
     ·cases hv;exact w1
     ·cases hv
    ·rw[if_neg hi]at hv;exact hw i v hv)
   refine⟨acc',?_,l2,w2⟩;unfold w4j;rw[run_bind hE,e1];simp only[a1i,e2,a0k,a2e]
  ·cases h
def z6w (hE:E.Ok){En:Ent}{hd:Hd}{s:VSt}{ds:List D}{a:Act}{w:World}{len:Nat}(hf:u1y hd s=some ds)(hok:hd.okY (cdE En))(hn:En.g.n<=hd.boxes.length)(hlen:s.t.length=len)(hs:x1t En s a w):
  ∃s1,(y7p sy hd len ds).run E=some s1/\x1t En s1 a w:=by
 unfold u1y at hf;split at hf
 ·rename_i d1 d2 f1 f2;cases hf;have hat:At (d1++d2) 0 (d1++d2):=fun i x hx=>by rwa [a1z]
  obtain⟨ts,e1,l1,w1⟩:=u8f hE (acc:=List.replicate len .any) f1 hok.1 hat.left (by simp[hlen]) (fun k v' hv=>by
   have:=List.eq_of_mem_replicate (a0j hv);subst this;exact fun _ _ u _ _=> .any u)
  obtain⟨ys,e2,l2,l3,w2⟩:=y7b hE hd.boxes f2 hok.2 hat.right;refine⟨⟨ts,ys⟩,?_,?_⟩
  ·unfold y7p;rw[run_bind hE,e1];simp only[a1i];rw[run_bind hE,e2];rfl
  ·obtain⟨g,hs⟩:=hs;have hcd: ∀b x,cdE En b=some x->g.rc b=some x:=fun b x=>w6e hs
   have hown: ∀k,x2r (g.cut hd.boxes.length) ys k->x2r g s.h k:=by
    rintro k ⟨b,y,hy,hat⟩
    obtain⟨x,hx,hw⟩:=w2 b y hy;exact⟨b,x,hx,hw.2 g b k hat⟩
   refine⟨g.cut hd.boxes.length,⟨by simp[Gh.cut,l2],fun b y hy=> ?_,fun b c y z k hb hc hat hat'=> ?_,fun k o hk hz=>hs.heap.zsep k o (hown k hk) hz,hs.heap.zlt,hs.heap.tab⟩,by rw[hs.size,l1],fun i u v hu hv=> ?_,hs.defers.less hown rfl,?_,by rw[l1];exact hs.len⟩
   ·obtain⟨x,hx,hw⟩:=w2 b y hy;exact hw.1 w g b hcd (hs.heap.rep b x hx)
   ·obtain⟨x,hx,hw⟩:=w2 b y hb;obtain⟨x',hx',hw'⟩:=w2 c z hc;exact hs.heap.sep b c x x' k hx hx' (hw.2 g b k hat) (hw'.2 g c k hat')
   ·have hi:i < s.t.length:=by rw[<-l1];exact(a0c.1 hv).1
    exact w1 i v hv w g u hcd (hs.tmps i u _ hu (by rw[a0i,a0b hi];rfl))
   ·obtain⟨k1,k2,k3,k4⟩:=hs.keep;exact⟨⟨k1.Z,hn,k1.blk,k1.val,k1.cd⟩,k2,k3,fun k hk=>k4 k (hown k hk)⟩
 ·cases hf
def q0q (E:Env):Prop:= ∃n,∀ {α:Type} (b:List D->Option (List D ⊕ α)) (ds:List D),E.lp b ds=x5x n b ds
def y9a {α β:Type}{f:α->β}(hf: ∀x y,f x=f y->x=y): ∀ {l m:List α},l.map f=m.map f->l=m
 | [],[],_=>rfl
 | [],_::_,h=>by cases h
 |_::_,[],h=>by cases h
 |x::l,y::m,h=>by
  simp only[a1m,List.cons.injEq]at h;rw[hf x y h.1,y9a hf h.2]
def z1g: ∀(i:Nat) (l:List Nat) (vs:List V),(u0z i l vs).length=vs.length
 |_,_,[]=>rfl
 |i,l,v::vs=>by simp only[u0z,a0a,z1g]
def u9a: ∀(i:Nat) (l:List Nat) (vs:List V) (j:Nat) (v:V),(u0z i l vs)[j]? =some v->vs[j]? =some v\/v= .any
 |_,_,[],j,v,h=>by simp[u0z]at h
 |i,l,x::vs,0,v,h=>by
  simp only[u0z,List.getElem?_cons_zero,Option.some.injEq]at h;subst h;split
  ·exact .inl rfl
  ·exact .inr rfl
 |i,l,x::vs,j+1,v,h=>by
  simp only[u0z,List.getElem?_cons_succ]at h ⊢;exact u9a (i+1) l vs j v h
def Sim.keepS {En:Ent}{s:VSt}{a:Act}{w:World}{g:Gh}(hs:Sim En s a w g)(l:Option (List Nat)):Sim En (Go.Vm.keepS l s) a w g:=by
 cases l with
 |none=>exact hs
 |some l=>
  refine⟨hs.heap,by rw[hs.size];exact(z1g 0 l s.t).symm,fun i u v hu hv=> ?_,hs.defers,hs.keep,by rw[<-hs.len];exact z1g 0 l s.t⟩
  rcases u9a 0 l s.t i v hv with h|rfl
  ·exact hs.tmps i u v hu h
  ·exact .any _
def z0o {En:Ent}{s:VSt}{a:Act}{w:World}{g:Gh}{y:Operand}{f:FuncId}{caps:List V}{ps:Array Tmp}{assign body:Code}{me:FuncId}{r1:List Nat × V × List Box}{r:Exit × VSt}
  (hs:Sim En s a w g) (hnr:En.nr=false) (hr:Rep w g (a.eval y) (.fn f caps)) (hg:x4o P f=true)
  (hcall:y1b P r1.1 f (.yld s.h.length ⟨me,ps,assign,body⟩::caps) (s.h++[.cells (.rcd .ready) s.t]) r1.2.1 r1.2.2)
  (hk:Tree.run E (match okM En.g.n En.M r1.1&& !r1.1.contains s.h.length,r1.2.2[s.h.length]? with
     |true,some (.cells (.rcd .ready) vs)=> .ret (.normal,⟨vs,r1.2.2.set s.h.length .gone⟩)
     |true,some (.cells (.rcd (.done .ret)) vs)=> .ret (.ret,⟨vs,r1.2.2.set s.h.length .gone⟩)
     |true,some (.cells (.rcd (.done (.exit id))) vs)=> .ret (.exit id,⟨vs,r1.2.2.set s.h.length .gone⟩)
     |_,_=> .fail)=some r):
  (Code.rangeFunc y ps assign body).wpIn (Fw none) 0 P (fun e a' w'=>e=r.1/\x1t En r.2 a' w') a w:=by
 refine wpIn_rangeFunc fun fn _=> ?_
 have hn:g.n=s.h.length:=hs.heap.n
 let u7y:Loop:= { state:= .ready,pending:=none,fn:=fn,tmps:=a.tmps,params:=ps,assign:=assign,body:=body,defers:=w.heap.size }
 let w1:World:=(w.alloc (.deferred (some []))).alloc (.loop u7y)
 let R:RecI:=⟨me,ps,assign,body⟩
 let G:RecG:=⟨R,a.tmps⟩
 let g1:Gh:=g.push (w.heap.size+1) undef (some G)
 generalize hu0:a.eval y=u0 at hr;cases hr with
 |fn _ us _ hl hcap=>
 have hsz1:w1.heap.size=w.heap.size+2:=by show((w.heap.push _).push _).size=_;simp
 have hD1:w1.heap[w.heap.size]? =some (.deferred (some [])):=by show((w.heap.push _).push _)[w.heap.size]? =_;rw[a2d,if_neg (by simp),a2d,if_pos rfl]
 have hL1:w1.heap[w.heap.size+1]? =some (.loop u7y):=by show((w.heap.push _).push _)[w.heap.size+1]? =_;rw[a2d,if_pos (by simp)]
 have hfr1:Fr (fun _=>False) w w1:=⟨rfl,rfl,rfl,by omega,fun k hk _=>by show((w.heap.push _).push _)[k]? =_;rw[a2d,if_neg (by simp;omega),a2d,if_neg (by omega)]⟩
 have hb1:g1.blk g.n=w.heap.size+1:=by simp[g1,Gh.push]
 have hc1:g1.cd g.n=some G:=by simp[g1,Gh.push]
 have ho1:Over [] w g w1 g1:=⟨g.j0u _ _ _,fun b o hz=>hfr1.cell (hs.heap.zlt b o hz) (fun h=>h)⟩
 have hk1:Keep [] g s.h w g1 (s.h++[.cells (.rcd .ready) s.t]) w1:=
  Keep.push hs.heap _ _ _ hfr1 ⟨a.tmps,_,by rw[show(g.push (w.heap.size+1) undef (some G)).blk g.n=_ from hb1];exact hL1,⟨fn,w.heap.size,G,hc1,rfl,rfl⟩,hs.size,fun i u v hu hv=>ho1.j0b (hs.tmps i u v hu hv)⟩
   (fun k' hk'=>by simp only[Box.at?,Option.some.injEq]at hk';rw[show(g.push (w.heap.size+1) undef (some G)).blk g.n=_ from hb1]at hk';omega)
 have hDo: ¬x2r g1 (s.h++[.cells (.rcd .ready) s.t]) w.heap.size:=by
  rintro⟨b,x,hx,hat⟩
  rcases hk1.own _ ⟨b,x,hx,hat⟩with q|q
  ·have:=hs.heap.j0r q;omega
  ·rw[a0y]at hx;split at hx
   ·rename_i hlt;have hbn:b < g.n:=by omega
    rw[Box.at?_congr ((g.j0u _ _ _).blk b hbn (by simp)) ((g.j0u _ _ _).val b hbn (by simp))]at hat
    have:=(hs.heap.rep b x hx).lt hat
    omega
   ·rename_i hlt;have hb0:b - s.h.length=0:=by
     rcases Nat.eq_zero_or_pos (b - s.h.length)with h0|h0
     ·exact h0
     ·rw[a2c (by simp;omega)]at hx;cases hx
    rw[hb0]at hx;simp at hx;subst hx;have hbn:b=g.n:=by omega
    subst hbn;simp only[Box.at?,Option.some.injEq,hb1]at hat
    omega
 refine⟨w.heap.size+1,[{ target:= .collected w.heap.size,args:= #[] }],w1,{ target:= .fn (.func f) us,args:= #[.func (.yield (w.heap.size+1)) #[] #[]] },w1,f,
  #[.func (.yield (w.heap.size+1)) #[] #[]]++us,w1,run_enterLoop_outer _ _ _ _ _,?_,fun _ _=>trivial,?_,fun h=>by simp[Fw,Fence.wide]at h,?_⟩
 ·simp only[resolve,hu0];simp[go_sem]
 ·simp[invoke,go_sem,x8h hg]
 ·refine z5r.2 ?_;have hargs:z5x w1 g1 (.func (.yield (w.heap.size+1)) #[] #[]::us.toList) (.yld s.h.length R::caps):=by
   refine⟨by simp[hl],fun i u v h1 h2=> ?_⟩
   cases i with
   |zero=>
    simp at h1 h2;subst h1;subst h2;have:=Rep.yld (w:=w1) (g:=g1) g.n R (by simp[g1,Gh.push]) (by unfold Gh.rc;rw[hc1];rfl)
    rwa [hb1,hn]at this
   |succ i=>simp at h1 h2;exact ho1.j0b (hcap i u v h1 h2)
  have hc:=hcall g1 w1 _ hk1.heap hargs;have e0:(Value.func (.yield (w.heap.size+1)) #[] #[]::us.toList).toArray= #[.func (.yield (w.heap.size+1)) #[] #[]]++us:=by apply Array.ext';simp
  rw[e0]at hc;refine hc.mono ?_
  rintro _ w2 ⟨u,g2,rfl,hru,hk2⟩
  let a':Act:= { a with defers:=[{ target:= .collected w.heap.size,args:= #[] }]++a.defers }
  have hs1:Sim En ⟨s.t,s.h++[.cells (.rcd .ready) s.t]⟩ a' w1 g1:=by
   refine⟨hk1.heap,hs.size,fun i u v hu hv=>ho1.j0b (hs.tmps i u v hu hv),?_,hs.step hk1 (by simp[okM]),hs.len⟩
   obtain⟨Ds,d1,d2,d3⟩:=hs.defers.keep hk1;refine⟨w.heap.size::Ds,⟨by simp[a',d1.1],fun h=>(by rw[hnr]at h;cases h)⟩,List.nodup_cons.2 ⟨fun hm=> ?_,d2⟩,fun D hD=> ?_⟩
   ·obtain⟨Ds',e1,_,e3⟩:=hs.defers;have:Ds'=Ds:=by
     have:=List.append_cancel_right (e1.1.symm.trans d1.1);exact y9a (fun x y h=>by simpa using h) this
    subst this;have:=(a0r.1 (e3 _ hm).2.1).1;omega
   ·rcases a1n.1 hD with rfl|hD
    ·refine⟨hs.keep.2.1.size,hD1,hDo,fun o hz=> ?_⟩
     have:=hs.heap.zlt _ o hz;omega
    ·exact d3 D hD
  have fin: ∀(st:RSt) (vs:List V),(okM En.g.n En.M r1.1&& !r1.1.contains s.h.length)=true->r1.2.2[s.h.length]? =some (.cells (.rcd st) vs)->st.state≠ .busy->
      ∃w4,(Instr.endLoop (w.heap.size+1)).run P w2= .ok st.j2g w4/\x1t En ⟨vs,r1.2.2.set s.h.length .gone⟩ a' w4:=by
   intro st vs hM hbx hst;simp only[a0g,Bool.not_eq_true',List.contains_eq_mem,decide_eq_false_iff_not]at hM;have hgn:g1.n=g.n+1:=rfl;have hb2:g2.blk s.h.length=w.heap.size+1:=by rw[hk2.le.blk _ (by omega) hM.2,<-hn,hb1]
   obtain⟨us2,o2,q1,⟨fn2,D2,x2,q2,q2',rfl⟩,q3,q4⟩:=hk2.heap.rep _ _ hbx;have hx2:x2=G:=by
    have h1:=hk2.le.cd s.h.length (by omega)
    rw[<-hn]at h1 q2;rw[h1,hc1]at q2;exact(Option.some.inj q2).symm
   subst hx2;subst q2';have q1':=q1;rw[hb2]at q1;have hs2:=hs1.next hk2 hM.1 hru none;refine⟨_,run_endLoop q1 hst,?_⟩;generalize hw4:w2.putObj (w.heap.size+1) _=w4;have hfr:Fr (fun k=>(Box.cells (.rcd st) vs).at? g2 s.h.length=some k) w2 w4:=by
    rw[<-hw4];refine⟨rfl,rfl,rfl,by simp,fun k hk hnk=>World.putObj_heap_other fun e=>hnk ?_⟩
    simp only[Box.at?,hb2,e]
   have hk3:=Keep.turn (y:= .gone) hk2.heap hbx [] (.inl ⟨rfl,rfl⟩) rfl rfl rfl (fun _ _=>⟨rfl,rfl⟩) hfr trivial (fun k hk=>by simp[Box.at?]at hk)
   rw[x2v]at hk3;have ho3:=hk3.over hk2.heap;refine⟨g2,hk3.heap,by rw[<-q3],fun i u v hu hv=>ho3.j0b (q4 i u v hu hv),hs2.defers.keep hk3,hs2.step hk3 (by simp[okM]),?_⟩
   rw[<-hs.len];show vs.length=s.t.length;rw[<-q3,<-hs.size]
  show rangePost _ _ _ _ _ _ _ _;split at hk
  ·rename_i vs hM hbx;obtain⟨w4,e1,hs4⟩:=fin _ _ hM hbx (by simp[RSt.state])
   cases hk;exact⟨none,w4,e1,rfl,hs4⟩
  ·rename_i vs hM hbx;obtain⟨w4,e1,hs4⟩:=fin _ _ hM hbx (by simp[RSt.state])
   cases hk;exact⟨some .ret,w4,e1,wpIn_ret ⟨rfl,hs4⟩⟩
  ·rename_i id vs hM hbx;obtain⟨w4,e1,hs4⟩:=fin _ _ hM hbx (by simp[RSt.state])
   cases hk;exact⟨some (.exit id),w4,e1,wpIn_exit ⟨rfl,hs4⟩⟩
  ·cases hk
def least {p:Nat->Prop}(h: ∃n,p n): ∃n,p n/\ ∀m,m < n-> ¬p m:=by
 obtain⟨n,hn⟩:=h
 induction n using Nat.strongRecOn with
 |_ n ih=>
  by_cases hx: ∃m,m < n/\p m
  ·obtain⟨m,hm,hp⟩:=hx;exact ih m hm hp
  ·exact⟨n,hn,fun m hm hp=>hx ⟨m,hm,hp⟩⟩
def v8p {l:Nat}{J J':Act->World->Prop}{Q:Exit->Act->World->Prop}(h: ∀a w,J a w->J' a w): ∀e a w,Exit.jump l J Q e a w->Exit.jump l J' Q e a w:=by
 intro e a w hq;cases e<;>first|exact hq|exact⟨hq.1,h _ _ hq.2⟩
def y9p {c rest:Code}{a:Act}{w:World}{Q:Exit->Act->World->Prop}(l:Nat)(J:Nat->Act->World->Prop)(hf:findLabel c l=some rest)
  (first:c.wp P (Exit.jump l (fun a w=> ∃n,J n a w) Q) a w)
  (pass: ∀n a w,J n a w->rest.wp P (Exit.jump l (fun a' w'=> ∃m,m < n/\J m a' w') Q) a w):(Code.scope c).wp P Q a w:=by
 have hl: ∀a w,∃k,(∃n,J n a w)->J k a w/\ ∀m,m < k-> ¬J m a w:=fun a w=>by
  by_cases h: ∃n,J n a w
  ·obtain⟨k,h1,h2⟩:=least h;exact⟨k,fun _=>⟨h1,h2⟩⟩
  ·exact⟨0,fun h'=>(h h').elim⟩
 refine wp_scope_jumps l (fun a w=> ∃n,J n a w) (fun a w=>Classical.choose (hl a w)) hf first fun a w hJ=> ?_
 have hs:=Classical.choose_spec (hl a w) hJ;refine wp_mono (pass _ a w hs.1) (v8p fun a' w' ⟨m,hm,hj⟩=>⟨⟨m,hj⟩,?_⟩)
 have hs':=Classical.choose_spec (hl a' w') ⟨m,hj⟩;have: ¬m < Classical.choose (hl a' w'):=fun h=>hs'.2 m h hj
 show Classical.choose (hl a' w') < Classical.choose (hl a w);omega
def x7t (C:CfgT):Code->Option (Nat × Code)
 | .seq x y=>match q8m C x with
   |some (l,_)=>some (l,y)
   |none=>match v9q x with
    |true=>x7t C y
    |false=>none
 |_=>none
def u0x {C:CfgT}{x:Code}{l:Nat}{an:LAn}(h:q8m C x=some (l,an)):x= .label l/\C.labs l=some an:=by
 unfold q8m at h;split at h
 ·split at h
  ·cases h;exact⟨rfl,by assumption⟩
  ·cases h
 ·cases h
def u4j {C:CfgT}: ∀ {c:Code} {l:Nat} {y:Code},x7t C c=some (l,y)->findLabel c l=some (.seq .skip y):=by
 intro c
 induction c with
 |seq x z ihx ihz=>
  intro l y h;unfold x7t at h;split at h
  ·rename_i l' an hx;cases h;obtain⟨rfl,_⟩:=u0x hx;simp[findLabel]
  ·split at h
   ·rename_i hfx;have:findLabel x l=none:=by cases x<;>simp[v9q]at hfx<;>rfl
    simp only[findLabel,this];exact ihz h
   ·cases h
 |_=>intro l y h;cases h
def ER (En:Ent)(r:Exit × VSt)(e:Exit)(a:Act)(w:World):Prop:=(r.1= .outgrown/\ ∃p t,r.2.t=p::t/\q7v En p t r.2.h e a w)\/(r.1≠ .outgrown/\e=r.1/\x1t En r.2 a w)
def ER.ok {En:Ent}{x:Exit}{s:VSt}{a:Act}{w:World}(hs:x1t En s a w)(hx:x≠ .outgrown:=by simp):ER En (x,s) x a w:= .inr ⟨hx,rfl,hs⟩
def ER.j2t {En:Ent}{q:Option V × VSt}{e:Exit}{a:Act}{w:World}(h:OpR En q e a w):ER En (endO q) e a w:=by
 obtain⟨p,s⟩:=q;cases p with
 |none=>obtain⟨rfl,h⟩:=h;exact .inr ⟨by simp[endO],rfl,h⟩
 |some p=>exact .inl ⟨rfl,p,s.t,rfl,h⟩
def ER.j2m {En:Ent}{q:Option V × VSt}{e:Exit}{s:VSt}{a a0:Act}{w w0:World}(h0:x1t En s a0 w0)(h:q9b En q e a w):ER En (endD s q) e a w:=by
 obtain⟨p,s⟩:=q;cases p with
 |none=>obtain⟨rfl,h⟩:=h;exact .inr ⟨by simp[endD],rfl,h⟩
 |some p=>
  obtain⟨t,g,u,he,hr,hs⟩:=h;obtain⟨g0,h0⟩:=h0;have hl:=h0.len;have hl2:=hs.len;exact .inl ⟨rfl,p,_,rfl,g,u,he,hr,hs.heap,by rw[hs.size];simp only[a1f];rw[hl];exact hl2,fun i u v hu hv=>by
   rw[a0o,a0n]at hv;obtain⟨_,_,rfl⟩:=hv;exact .any u,hs.defers,hs.keep,by simpa using hl⟩
def ER.split {En:Ent}{x:Exit}{s:VSt}{e:Exit}{a:Act}{w:World}(h:ER En (x,s) e a w):(x= .outgrown/\(∃u,e= .panic [{ v:=u,recovered:=false }])/\ ∃p t,s.t=p::t/\q7v En p t s.h e a w)\/(x≠ .outgrown/\e=x/\x1t En s a w):=by
 rcases h with⟨h1,p,t,h2,h3⟩|h
 ·obtain⟨g,u,he,h4⟩:=id h3;exact .inl ⟨h1,⟨u,he⟩,p,t,h2,h3⟩
 ·exact .inr h
def z5y (P:Program)(E:Env)(inR:Bool)(C:CfgT)(ent:Callee->List V->List Box->Tree (List Nat × V × List Box))(En:Ent)(b l:Nat)(y:Code)(r:Exit × VSt)(k:Nat)(a:Act)(w:World):Prop:=
 ∃hd,En.g.n<=hd.boxes.length/\hd.okY (cdE En)/\ ∃ds s1,x5x k (fun ds:List D=>Tree.run E ((y7p sy hd En.len ds).bind fun s1=>forceL s1.t fun t=>(x3j sy P inR C ent En.g.n En.M false b y ⟨t,s1.h⟩).bind (q8v l hd))) ds=some r/\u1y hd s1=some ds/\x1t En s1 a w
def u1c {inR:Bool}{ro:Option Nat}(hE:E.Ok){C:CfgT}{ent:Callee->List V->List Box->Tree (List Nat × V × List Box)}{En:Ent}{y:Code}{b l:Nat}{r:Exit × VSt}
  (ih: ∀(b:Nat) (s:VSt) (a:Act) (w:World) (r:Exit × VSt),(x3j sy P inR C ent En.g.n En.M false b y s).run E=some r->x1t En s a w->y.wpIn (Fw ro) 0 P (ER En r) a w)
  (k:Nat) (a:Act) (w:World) (hJ:z5y P E inR C ent En b l y r k a w):
  y.wpIn (Fw ro) 0 P (fun e a' w'=>ER En r e a' w'\/(e= .goto l/\ ∃m,m < k/\z5y P E inR C ent En b l y r m a' w')) a w:=by
 obtain⟨hd,hd0,hok,ds,s1,hi,hf,hs1⟩:=hJ;generalize hbody:(fun ds:List D=>Tree.run E ((y7p sy hd En.len ds).bind fun s1=>forceL s1.t fun t=>(x3j sy P inR C ent En.g.n En.M false b y ⟨t,s1.h⟩).bind (q8v l hd)))=body at hi
 cases k with
 |zero=>cases hi
 |succ k=>
  simp only[x5x]at hi;obtain⟨s2,e1,hs2⟩:=z6w (len:=En.len) hE hf hok hd0 hs1.len hs1;have hb:body ds=Tree.run E ((x3j sy P inR C ent En.g.n En.M false b y s2).bind (q8v l hd)):=by
   rw[<-hbody];simp only;rw[run_bind hE,e1];simp only[a1i,forceL_eq]
  rw[hb]at hi;cases hq:Tree.run E ((x3j sy P inR C ent En.g.n En.M false b y s2).bind (q8v l hd))with
  |none=>rw[hq]at hi;cases hi
  |some q=>
   rw[hq]at hi;obtain⟨r1,h1,h2⟩:=x0c hE hq;refine wpIn_mono (ih b s2 a w r1 h1 hs2) fun e a' w' hr=> ?_
   obtain⟨x,s'⟩:=r1;cases x with
   |goto l'=>
    obtain⟨h0,_⟩|⟨_,rfl,hs'⟩:=hr.split
    ·cases h0
    simp only[q8v]at h2;split at h2
    ·rename_i ds' hl hf';have hl:=a0e hl;subst hl;cases h2;refine .inr ⟨rfl,k,a1p k,hd,hd0,hok,ds',_,?_,hf',hs'⟩;rw[hbody];exact hi
    ·cases h2
   |_=>cases h2;cases hi;exact .inl hr
def u2q {inR:Bool}{ro:Option Nat}(hro:inR=false->ro=none)(hE:E.Ok)(hN:q0q E)(hG:x2l P E){C:CfgT}{ent:Callee->List V->List Box->Tree (List Nat × V × List Box)}(hent:x7b P E ent){En:Ent}(hnr:inR=false->En.nr=false)(hm:P.follows .mixedOrders=true):
  ∀(c:Code),(∀(sc:Bool) (b:Nat) (s:VSt) (a:Act) (w:World) (r:Exit × VSt),(x3j sy P inR C ent En.g.n En.M sc b c s).run E=some r->x1t En s a w->
  c.wpIn (Fw ro) 0 P (fun e a' w'=>ER En r e a' w'\/(sc=true/\ ∃l y,x7t C c=some (l,y)/\e= .goto l/\ ∃k,z5y P E inR C ent En b l y r k a' w')) a w)/\
  (∀l y,x7t C c=some (l,y)-> ∀(b:Nat) (s:VSt) (a:Act) (w:World) (r:Exit × VSt),(x3j sy P inR C ent En.g.n En.M false b y s).run E=some r->x1t En s a w->y.wpIn (Fw ro) 0 P (ER En r) a w):=by
 have noJ: ∀ {sc:Bool} {e:Exit} {X Y:Prop},sc=false->(X\/(sc=true/\Y))->X:=fun h hx=>by
  rcases hx with hx|⟨h1,_⟩
  ·exact hx
  ·rw[h]at h1;cases h1
 intro c
 induction c with
 |skip=>exact⟨fun sc b s a w r hk hs=>by cases hk;exact wpIn_skip (.inl (ER.ok hs)),fun l y h=>by cases h⟩
 |region id ops draw=>
  refine⟨fun sc b s a w r hk hs=> ?_,fun l y h=>by cases h⟩
  unfold x3j at hk;cases draw with
  |false=>
   obtain⟨s',h1,hk⟩:=x0c hE hk;cases hk;exact wpIn_region_list (x9p hE hG hent _ (a0q _) h1 hs fun e a' w' h=> .inl (ER.j2t h))
  |true=>
   obtain⟨s',h1,hk⟩:=x0c hE hk;cases hk;exact u5z hE hG hent hm h1 hs fun e a' w' h=> .inl (ER.j2m hs h)
 |seq x y ihx ihy=>
  have ihx0: ∀(b:Nat) (s:VSt) (a:Act) (w:World) (r:Exit × VSt),(x3j sy P inR C ent En.g.n En.M false b x s).run E=some r->x1t En s a w->x.wpIn (Fw ro) 0 P (ER En r) a w:=
   fun b s a w r hk hs=>wpIn_mono (ihx.1 false b s a w r hk hs) fun e a' w' h=>noJ (e:=e) rfl h
  have ihy0: ∀(b:Nat) (s:VSt) (a:Act) (w:World) (r:Exit × VSt),(x3j sy P inR C ent En.g.n En.M false b y s).run E=some r->x1t En s a w->y.wpIn (Fw ro) 0 P (ER En r) a w:=
   fun b s a w r hk hs=>wpIn_mono (ihy.1 false b s a w r hk hs) fun e a' w' h=>noJ (e:=e) rfl h
  refine⟨fun sc b s a w r hk hs=> ?_,fun l z h=> ?_⟩
  ·unfold x3j at hk;split at hk
   ·rename_i l an hlab;have hsc:sc=true/\q8m C x=some (l,an):=by cases sc<;>simp[labS]at hlab<;>simp[hlab]
    obtain⟨rfl,hx⟩:=hsc;have hsp:x7t C (.seq x y)=some (l,y):=by unfold x7t;rw[hx]
    obtain⟨rfl,_⟩:=u0x hx;simp only at hk;generalize hhd:z7j En.g.n an s=hd at hk;split at hk
    ·rename_i ds0 hd0 hf0;simp only[a0g,a0p]at hd0;obtain⟨⟨hd0,hyB⟩,hann⟩:=hd0;have hok:hd.okY (cdE En):=by rw[<-hhd]at hyB ⊢;exact z1j hs hyB hann
     simp only[Tree.run]at hk;obtain⟨n,hn⟩:=hN;rw[hn,hs.len]at hk;refine wpIn_seq (wpIn_label ?_);have hJ:z5y P E inR C ent En b l y r n a w:=⟨hd,hd0,hok,ds0,s,hk,hf0,hs⟩;refine wpIn_mono (u1c hE ihy0 n a w hJ) fun e a' w' h=> ?_
     rcases h with h|⟨he,m,_,hJ⟩
     ·exact .inl h
     ·exact .inr ⟨rfl,l,y,hsp,he,m,hJ⟩
    ·cases hk
   ·rename_i hlab;have key: ∀(s':VSt) (a':Act) (w':World),(x3j sy P inR C ent En.g.n En.M (sc&&v9q x) b y s').run E=some r->x1t En s' a' w'->
        y.wpIn (Fw ro) 0 P (fun e a' w'=>ER En r e a' w'\/(sc=true/\ ∃l z,x7t C (.seq x y)=some (l,z)/\e= .goto l/\ ∃k,z5y P E inR C ent En b l z r k a' w')) a' w':=by
     intro s' a' w' hk hs';refine wpIn_mono (ihy.1 _ b s' a' w' r hk hs') fun e a2 w2 h=> ?_
     rcases h with h|⟨hsc,l,z,hsp,he⟩
     ·exact .inl h
     ·simp only[a0g]at hsc;refine .inr ⟨hsc.1,l,z,?_,he⟩;have hl:q8m C x=none:=by rw[hsc.1]at hlab;exact hlab
      unfold x7t;rw[hl,hsc.2];exact hsp
    split at hk
    ·obtain⟨r1,h1,hk⟩:=x0c hE hk;refine wpIn_seq (wpIn_mono (ihx0 b s a w r1 h1 hs) fun e a' w' hr=> ?_)
     obtain⟨x,s'⟩:=r1;rcases hr.split with⟨rfl,⟨u,rfl⟩,_⟩|⟨hx,rfl,hs'⟩
     ·cases hk;exact .inl hr
     ·cases e with
      |normal=>exact key s' a' w' hk hs'
      |_=>cases hk;exact .inl hr
    ·rename_i an _;simp only at hk;have hs:=hs.datB (P:=P) an.dat
     generalize datB P s an.dat=s0 at hk hs;split at hk
     ·rename_i hd;simp only[a0g,a0p]at hd;obtain⟨⟨hd,hyB⟩,hann⟩:=hd;have hok:=z1j hs hyB hann;simp only[Tree.run]at hk;obtain⟨q,h1,hk⟩:=a1l.1 hk;obtain⟨r1,h1,h2⟩:=x0c hE h1;refine wpIn_seq (wpIn_mono (ihx0 b s0 a w r1 h1 hs) fun e a' w' hr=> ?_)
      obtain⟨x,s'⟩:=r1;rcases hr.split with⟨rfl,⟨u,rfl⟩,_⟩|⟨hx,rfl,hs'⟩
      ·cases h2;cases hk;exact .inl hr
      cases e with
      |outgrown=>exact(hx rfl).elim
      |normal=>
       simp only[q5i,q5b]at h2;split at h2
       ·rename_i ds hf;cases h2;simp only at hk;have hs':=hs'.datB (P:=P) an.dat
        have hlen:(datB P s' an.dat).t.length=s0.t.length:=by rw[hs'.len,hs.len]
        obtain⟨s1,e1,hs1⟩:=z6w hE hf hok hd hlen hs';obtain⟨s2,e2,hk⟩:=x0c hE hk;rw[e1]at e2;cases e2;rw[forceL_eq]at hk;exact key s1 a' w' hk hs1
       ·cases h2
      |_=>cases h2;cases hk;exact .inl (ER.ok (hs'.datB (P:=P) an.dat))
     ·cases hk
  ·unfold x7t at h;split at h
   ·cases h;exact ihy0
   ·split at h
    ·exact ihy.2 l z h
    ·cases h
 |cond c x y ihx ihy=>
  refine⟨fun sc b s a w r hk hs=> ?_,fun l y h=>by cases h⟩
  unfold x3j at hk;split at hk
  ·rename_i t ht;obtain⟨g,hs'⟩:=hs;have e1:=x4f (ht▸hs'.get c);cases t with
   |true=>exact wpIn_cond_true e1 (wpIn_mono (ihx.1 false b _ a w r hk (u7m ⟨g,hs'⟩ ht)) fun e a' w' h=> .inl (noJ (e:=e) rfl h))
   |false=>exact wpIn_cond_false e1 (wpIn_mono (ihy.1 false b _ a w r hk (u7m ⟨g,hs'⟩ ht)) fun e a' w' h=> .inl (noJ (e:=e) rfl h))
  ·cases hk
 |block id c ih0=>
  have ih:=fun b s a w r hk hs=>wpIn_mono (ih0.1 false b s a w r hk hs) fun e a' w' h=>noJ (e:=e) rfl h
  refine⟨fun sc b s a w r hk hs=> ?_,fun l y h=>by cases h⟩
  unfold x3j at hk;obtain⟨r1,h1,hk⟩:=x0c hE hk;cases hk;refine wpIn_block (wpIn_mono (ih id s a w r1 h1 hs) fun e a' w' hr=> ?_)
  obtain⟨x,s'⟩:=r1;rcases hr.split with⟨rfl,⟨u,rfl⟩,_⟩|⟨hx,rfl,hs'⟩
  ·exact .inl hr
  cases e with
  |exit id'=>
   simp only[Exit.inBlock,inBl];split
   ·rename_i hd;rw[a0s hd];exact .inl (ER.ok hs')
   ·rename_i hd;rw[decide_eq_false hd];exact .inl (ER.ok hs')
  |_=>exact .inl hr
 |loop c ih0=>
  have ih:=fun b s a w r hk hs=>wpIn_mono (ih0.1 false b s a w r hk hs) fun e a' w' h=>noJ (e:=e) rfl h
  refine⟨fun sc b s a w r hk hs=> ?_,fun l y h=>by cases h⟩
  unfold x3j at hk;simp only at hk;have hs:=((((hs.frzs (bs:=(C.loops b).ice)).mintP (P:=P) (C.loops b).own2).mintB (P:=P) (C.loops b).own).soleS (C.loops b).sole).datB (P:=P) (C.loops b).dat
  generalize datB P (soleS (C.loops b).sole (mintB P (mintP P (s.frz (C.loops b).ice) (C.loops b).own2) (C.loops b).own)) (C.loops b).dat=s0 at hk hs;generalize hhd:z7j En.g.n (C.loops b) s0=hd at hk;split at hk
  ·rename_i ds0 hd0 hf0;simp only[a0g,a0p]at hd0;obtain⟨⟨hd0,hyB⟩,hann⟩:=hd0;have hok:hd.okY (cdE En):=by rw[<-hhd]at hyB ⊢;exact z1j hs hyB hann
   simp only[Tree.run]at hk;obtain⟨n,hn⟩:=hN;rw[hn]at hk;generalize hbody:(fun ds:List D=>Tree.run E ((y7p sy hd s0.t.length ds).bind fun s1=>forceL s1.t fun t=>(x3j sy P inR C ent En.g.n En.M false b c ⟨t,s1.h⟩).bind fun r=>q5b hd (q5i P (C.loops b).dat r)))=body at hk
   have hlen:=hs.len;refine u3y (fun k a w=> ∃ds s1,x5x k body ds=some r/\u1y hd s1=some ds/\x1t En s1 a w) n ⟨ds0,s0,hk,hf0,hs⟩ ?_
   rintro k a w ⟨ds,s1,hi,hf,hs1⟩
   cases k with
   |zero=>cases hi
   |succ k=>
    simp only[x5x]at hi;obtain⟨s2,e1,hs2⟩:=z6w (len:=s0.t.length) hE hf hok hd0 (by rw[hs1.len,hlen]) hs1
    have hb:body ds=Tree.run E ((x3j sy P inR C ent En.g.n En.M false b c s2).bind fun r=>q5b hd (q5i P (C.loops b).dat r)):=by
     rw[<-hbody];simp only;rw[run_bind hE,e1];simp only[a1i,forceL_eq]
    rw[hb]at hi;cases hq:Tree.run E ((x3j sy P inR C ent En.g.n En.M false b c s2).bind fun r=>q5b hd (q5i P (C.loops b).dat r))with
    |none=>rw[hq]at hi;cases hi
    |some q=>
     rw[hq]at hi;obtain⟨r1,h1,h2⟩:=x0c hE hq;refine wpIn_mono (ih b s2 a w r1 h1 hs2) fun e a' w' hr=> ?_
     obtain⟨x,s'⟩:=r1;rcases hr.split with⟨rfl,⟨u,rfl⟩,_⟩|⟨hx,rfl,hs'⟩
     ·cases h2;cases hi;exact .inl hr
     cases e with
     |outgrown=>exact(hx rfl).elim
     |normal=>
      simp only[q5i,q5b]at h2;split at h2
      ·rename_i ds' hf';cases h2;exact⟨k,a1p k,ds',_,hi,hf',hs'.datB (P:=P) (C.loops b).dat⟩
      ·cases h2
     |_=>cases h2;cases hi;exact .inl (ER.ok (hs'.datB (P:=P) (C.loops b).dat))
  ·cases hk
 |exit id=>exact⟨fun sc b s a w r hk hs=>by cases hk;exact wpIn_exit (.inl (ER.ok hs)),fun l y h=>by cases h⟩
 |ret=>exact⟨fun sc b s a w r hk hs=>by cases hk;exact wpIn_ret (.inl (ER.ok hs)),fun l y h=>by cases h⟩
 |label l=>exact⟨fun sc b s a w r hk hs=>by cases hk;exact wpIn_label (.inl (ER.ok hs)),fun l y h=>by cases h⟩
 |goto l=>exact⟨fun sc b s a w r hk hs=>by cases hk;exact wpIn_goto (.inl (ER.ok hs)),fun l y h=>by cases h⟩
 |scope c ih=>
  refine⟨fun sc b s a w r hk hs=> ?_,fun l y h=>by cases h⟩
  unfold x3j at hk;cases inR with
  |true=>cases hk
  |false=>
   have hro:=hro rfl;subst hro;obtain⟨r1,h1,hk⟩:=x0c hE hk;have h0:=ih.1 true b s a w r1 h1 hs;obtain⟨e0,s0⟩:=r1;have hr:r=(e0,s0)/\ ∀l,e0≠ .goto l:=by cases e0<;>first|(cases hk;exact⟨rfl,by simp⟩)|cases hk
   obtain⟨rfl,hng⟩:=hr;cases hsp:x7t C c with
   |none=>
    refine wpIn_wide.2 (wp_scope_straight (wpIn_wide.1 (wpIn_mono h0 fun e a' w' h=> ?_)))
    rcases h with hr|⟨_,l,y,h,_⟩
    ·rcases hr.split with⟨rfl,⟨u,rfl⟩,_⟩|⟨hx,rfl,hs'⟩
     ·exact .inl hr
     ·cases e<;>first|exact .inl hr|exact(hng _ rfl).elim
    ·rw[hsp]at h;cases h
   |some ly=>
    obtain⟨l,y⟩:=ly;refine wpIn_wide.2 (y9p l (z5y P E false C ent En b l y (e0,s0)) (u4j hsp) (wpIn_wide.1 (wpIn_mono h0 fun e a' w' h=> ?_)) fun k a' w' hJ=> ?_)
    ·rcases h with hr|⟨_,l',y',h,he,hJ⟩
     ·rcases hr.split with⟨rfl,⟨u,rfl⟩,_⟩|⟨hx,rfl,hs'⟩
      ·exact .inl hr
      ·cases e<;>first|exact .inl hr|exact(hng _ rfl).elim
     ·rw[hsp]at h;cases h;subst he;exact⟨rfl,hJ⟩
    ·refine wpIn_wide.1 (wpIn_seq (wpIn_skip (wpIn_mono (u1c (ro:=none) hE (ih.2 l y hsp) k a' w' hJ) fun e a2 w2 h=> ?_)))
     rcases h with hr|⟨he,hJ⟩
     ·rcases hr.split with⟨rfl,⟨u,rfl⟩,_⟩|⟨hx,rfl,hs'⟩
      ·exact .inl hr
      ·cases e<;>first|exact .inl hr|exact(hng _ rfl).elim
     ·subst he;exact⟨rfl,hJ⟩
 |rangeFunc y ps assign body iha ihb=>
  refine⟨fun sc b s a w r hk hs=> ?_,fun l y h=>by cases h⟩
  unfold x3j at hk;cases inR with
  |true=>cases hk
  |false=>
   have hro:=hro rfl;subst hro;cases hy:s.get y<;>simp only[hy]at hk<;>first|(cases hk;done)|skip
   rename_i f caps;cases hsig:z3o P f<;>simp only[hsig]at hk<;>first|(cases hk;done)|skip
   rename_i ts;obtain⟨r1,h1,hk⟩:=x0c hE hk;split at hk
   ·cases hk
   ·rename_i hp;have hcall:=(hent.1 _ _ _ _ h1).none hp;obtain⟨g,hs⟩:=hs;have hry:=hs.get y;rw[hy]at hry;have key:(Code.rangeFunc y ps assign body).wpIn (Fw none) 0 P (fun e a' w'=>e=r.1/\x1t En r.2 a' w') a w:=by
     clear h1;cases hrl:C.rl with
     |none=>rw[hrl]at hcall;exact z0o (s:=s) hs (hnr rfl) hry (x3w hsig) hcall hk
     |some l=>rw[hrl]at hcall;exact z0o (s:=Go.Vm.keepS (some l) s) (hs.keepS (some l)) (hnr rfl) hry (x3w hsig) hcall hk
    refine wpIn_mono key fun e a' w' h=> .inl (.inr ⟨?_,h⟩)
    split at hk<;>cases hk<;>simp
 |_=>refine⟨fun sc b s a w r hk hs=> ?_,fun l y h=> ?_⟩<;>first|cases hk|cases h
def x4i {inR:Bool}{ro:Option Nat}(hro:inR=false->ro=none)(hE:E.Ok)(hN:q0q E)(hG:x2l P E){C:CfgT}{ent:Callee->List V->List Box->Tree (List Nat × V × List Box)}(hent:x7b P E ent){En:Ent}(hnr:inR=false->En.nr=false)(hm:P.follows .mixedOrders=true)(c:Code)(b:Nat)(s:VSt)(a:Act)(w:World)(r:Exit × VSt)
  (hk:(x3j sy P inR C ent En.g.n En.M false b c s).run E=some r) (hs:x1t En s a w):c.wpIn (Fw ro) 0 P (ER En r) a w:=
 wpIn_mono ((u2q hro hE hN hG hent hnr hm c).1 false b s a w r hk hs) fun e a' w' h=>by
  rcases h with h|⟨h,_⟩
  ·exact h
  ·cases h
end
end Go.Vm
end
