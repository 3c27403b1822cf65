/- Part KE of the proof. What is proved by the whole: the statement that the claim names, with no condition. -/
import Derived.Test.YtggdkkdfeblooaaGreatDoorKD
import Derived.RecoverIn
import Derived.KernelRfl
set_option linter.all false
section
namespace Go.Vm
section
variable (A : Sy) (P : Program) (Cs : FuncId -> CfgT)
def w5f:Box->Bool
 | .arr .. =>true
 |_=>false
def w3k (h:List Box)(vs:List V):List Nat:=(y7n h [] vs).filter fun b=>w5f (h.getD b .gone)
def z3m (C:CfgT)(h:List Box)(vs:List V):List Nat:=match C.turn with
 |true=>w3k h vs
 |false=>[]
def z8x (C:CfgT)(h:List Box)(b:Nat)(R:RecI)(vs t0:List V):List Nat:=match C.rt with
 |none=>w3k h (.yld b R::vs)
 |some ks=>w3k h (ks.map fun k=>t0.getD k .any)
def z8r (n0:Nat)(M0:List Nat)(v:V)(h:List Box):List Nat × V × List Box:=match decide (n0<=h.length)&&v.scB n0&&(h.take n0).all (Box.scB n0)with
 |true=>(M0,v,h.take n0)
 |false=>(M0,v,h)
def endE (fn:Func)(n0:Nat)(M0:List Nat)(r:Exit × VSt):Tree (List Nat × V × List Box):=
 let fin:Tree (List Nat × V × List Box):=match z9p P r.2 fn.results.toList with
  |some v=>match y1l v with
   |none=> .ret (z8r n0 M0 v r.2.h)
   |some _=> .fail
  |none=> .fail
 match r.1 with
 | .normal=>fin
 | .ret=>fin
 | .outgrown=>match r.2.t with
   |p::_=> .ret (z8r n0 M0 (v7n p) r.2.h)
   | []=> .fail
 |_=> .fail
def v7c (t:List V)(l:List (Tmp × V)):List V:=l.foldl (fun t q=>t.set q.1 q.2) t
def k9h (ent:Callee->List V->List Box->Tree (List Nat × V × List Box))(b:Nat)(R:RecI)(vs:List V)(h:List Box):Tree (List Nat × V × List Box):=match h[b]?,decide (vs.length=R.ps.size)with
 |some (.cells (.rcd .ready) t0),true=>forceL (v7c t0 (R.ps.toList.zip vs)) fun t=>
  (x3j A P true (Cs R.me) ent h.length (z8x (Cs R.me) h b R vs t0) false 0 R.assign ⟨t,h⟩).bind fun r1=>match r1.1,r1.2.h[b]? with
   | .normal,some (.cells (.rcd .ready) t1)=>forceH (r1.2.h.set b (.cells (.rcd .busy) t1)) fun h1=>
     (x3j A P true (Cs R.me) ent h.length (z8x (Cs R.me) h b R vs t0) false 0 R.body ⟨r1.2.t,h1⟩).bind fun r2=>match r2.1,r2.2.h[b]? with
      | .normal,some (.cells (.rcd .busy) t2)=> .ret (z8r h.length (z8x (Cs R.me) h b R vs t0) (.d (.bool true)) (r2.2.h.set b (.cells (.rcd .ready) t2)))
      | .ret,some (.cells (.rcd .busy) t2)=> .ret (z8r h.length (z8x (Cs R.me) h b R vs t0) (.d (.bool false)) (r2.2.h.set b (.cells (.rcd (.done .ret)) t2)))
      | .exit id,some (.cells (.rcd .busy) t2)=> .ret (z8r h.length (z8x (Cs R.me) h b R vs t0) (.d (.bool false)) (r2.2.h.set b (.cells (.rcd (.done (.exit id))) t2)))
      |_,_=> .fail
   |_,_=> .fail
 |_,_=> .fail
def encX:Box->Option V
 | .cells (.ty t) vs=>some (.fn t vs)
 | .arr e sz rows=>some (.tup [.d (.int .i64 e), .d (.sl sz rows)])
 | .cells (.rcd .ready) vs=>some (.agg vs)
 | .gone=>some .nilf
 | .mp .str rows=>some (.tup [.nils, .d (.sl 2 rows)])
 | .mp (.int .i64) rows=>some (.tup [.nilp, .d (.sl 2 rows)])
 |_=>none
def decX:V->Option Box
 | .fn t vs=>some (.cells (.ty t) vs)
 | .tup [.d (.int .i64 e), .d (.sl sz rows)]=>some (.arr e.toNat sz rows)
 | .agg vs=>some (.cells (.rcd .ready) vs)
 | .nilf=>some .gone
 | .tup [.nils, .d (.sl 2 rows)]=>some (.mp .str rows)
 | .tup [.nilp, .d (.sl 2 rows)]=>some (.mp (.int .i64) rows)
 |_=>none
def w5t:List Box->Option (List V)
 | []=>some []
 |x::xs=>match encX x,w5t xs with
  |some v,some vs=>some (v::vs)
  |_,_=>none
def w6a:List V->Option (List Box)
 | []=>some []
 |x::xs=>match decX x,w6a xs with
  |some v,some vs=>some (v::vs)
  |_,_=>none
def encB (pn:Nat)(args:List V)(hs:List Box):Option (List V):=match w5t hs with
 |some l=>some (.d (.int .i64 pn):: .d (.int .i64 args.length)::(args++l))
 |none=>none
def y0d:List V->Option (Nat × List V × List Box)
 | .d (.int .i64 pn):: .d (.int .i64 n)::l=>match w6a (l.drop n.toNat)with
   |some hs=>some (pn.toNat,l.take n.toNat,hs)
   |none=>none
 |_=>none
def isNT:Box->Bool
 | .cells (.ty t) _=>gNT.contains t
 |_=>false
def x8f (hs:List Box):List Nat:=match hs.any isNT with
 |true=>[]
 |false=>(List.range hs.length).filter fun b=>w5f (hs.getD b .gone)
def y8m (f:Nat):Nat:=f+1000000
def v1c (f:Nat):Nat:=f - 1000000
def v8r (f:Nat):Bool:=decide (1000000<=f)
def yldA:List V->Option (Nat × RecI)
 | []=>none
 | .yld b R::_=>some (b,R)
 |_::vs=>yldA vs
def k9n (R:RecI)(l0:List Sk):List Sk:=match P.funcs[R.me]? with
 |some fn=>(fn.results.toList.zip fn.resultTypes.toList).foldl (fun l q=>match q.1,z3p P 9 q.2,y4c P q.2 with
  | .tmp t,some [s],false=>l.set t (.d s)
  | .tmp t,some ss,true=>l.set t (.agg (ss.map .d))
  | .cell t _,_,_=>l.set t (l0.getD t .any)
  |_,_,_=>l) (l0.map fun _=> .any)
 |none=>l0
def w7j (as:List V)(hs:List Box):Option (List BSk):=match yldA as with
 |some (b,R)=>match hs[b]? with
  |some (.cells (.rcd _) vs)=>some ((hs.map Box.sk).set b (.cells (.rcd (.done .ret)) (k9n P R (V.skL vs))))
  |_=>none
 |none=>none
def u3e (ss:List Sh)(mk:List D->Option V)(sks:List BSk)(ds:List D)(j:Nat):Tree (V × List Box):=
 (x7z A ss ds j).bind fun xs=>match mk xs with
  |some v=>(y4o A sks ds (j+ss.length)).bind fun q=> .ret (v,q.1)
  |none=> .fail
def v3s (pn:Nat)(ts:List TypeId)(as:List V)(hs:List Box)(ds:List D):Tree (V × List Box):=match shR P ts with
 |some ss=>match pn with
  |0=>match w7j P as hs with
   |none=>u3e A ss (mkV P ts) (hs.map Box.sk) ds 0
   |some sk2=> .cB (A.cell ds 0) fun b=> .ite b (u3e A ss (mkV P ts) sk2 ds 1) (u3e A ss (mkV P ts) (hs.map Box.sk) ds 1)
  |pn=>match z3p P 9 pn with
   |some ps=> .cB (A.cell ds 0) fun b=> .ite b (u3e A ps (fun xs=>some (v7n (.ifc pn xs))) (hs.map Box.sk) ds 1) (u3e A ss (mkV P ts) (hs.map Box.sk) ds 1)
   |none=> .fail
 |none=> .fail
def boxT (f:FuncId)(vs:List V)(h:List Box):Tree (List Nat × V × List Box):=match z3o P f,x4o P (y8m f)with
 |some ts,false=>forceSp (y7n h [] vs) fun L=>match x8u h L vs with
  |true=>forceH (x5j h L) fun hs=>match encB ((Cs f).pn.getD 0) (vs.map (V.ren (tau L))) hs with
   |some key=> .call (y8m f) key fun ds=>(v3s A P ((Cs f).pn.getD 0) ts (vs.map (V.ren (tau L))) hs ds).bind fun q=>match y1l q.1 with
    |none=> .ret ((x8f hs).map (ext L h.length),q.1.ren (ext L h.length),x6s h L ((x8f hs).map (ext L h.length)) q.2)
    |some p=> .ret ((x8f hs).map (ext L h.length),v7n (p.ren (ext L h.length)),x6s h L ((x8f hs).map (ext L h.length)) q.2)
   |none=> .fail
  |false=> .fail
 |_,_=> .fail
def u3t:Nat->Callee->List V->List Box->Tree (List Nat × V × List Box)
 |0,_,_,_=> .fail
 |n+1, .fn f,vs,h=>match (Cs f).bx with
  |true=>boxT A P Cs f vs h
  |false=>match P.funcs[f]? with
   |some fn=>match fn.body with
    |some c=>forceL (x4h fn vs h).t fun t=>(x3j A P false (Cs f) (u3t n) h.length (z3m (Cs f) h vs) false 0 c ⟨t,h⟩).bind (endE P fn h.length (z3m (Cs f) h vs))
    |none=> .fail
   |none=> .fail
 |n+1, .yld b R,vs,h=>k9h A P Cs (u3t n) b R vs h
def k1d:List TypeId->List V->Option (List D)
 | [],[]=>some []
 |t::ts,v::vs=>match q8k P t v,k1d ts vs with
  |some a,some b=>some (a++b)
  |_,_=>none
 |_,_=>none
def v1u (ts:List TypeId)(v:V):Option (List D):=match ts,v with
 | [t],v=>k1d P [t] [v]
 |ts, .tup vs=>k1d P ts vs
 |_,_=>none
def k8b (fn:Func)(r:Exit × VSt):Tree PRes:=
 let fin:Tree PRes:=match z9p P r.2 fn.results.toList with
  |some v=>match v,fn.resultTypes.toList with
   | .own b,[t]=>match r.2.h[b]?,elO P t with
     |some (.arr e sz rows),some (e',sz')=>match decide (e'=e/\sz'=sz)with
      |true=> .ret (.own e sz rows)
      |false=> .fail
     |_,_=> .fail
   |v,ts=>match z9p P (r.2.frz v.j1c) fn.results.toList with
    |some v'=>match v1u P ts v' with
     |some ds=> .ret (.val ds)
     |none=> .fail
    |none=> .fail
  |none=> .fail
 match r.1 with
 | .normal=>fin
 | .ret=>fin
 |_=> .fail
def w5n (pn:Nat)(b:Bool):List D:=match pn with
 |0=>[]
 |_=>[.bool b]
def fitB (as:List V)(hs h:List Box)(pn:Nat):Option (List D × List D):=match pn,w7j P as hs with
 |0,some sk2=>match BSk.j0w hs.length (hs.map Box.sk) h with
  |some xs=>some ([.bool false],xs)
  |none=>match BSk.j0w hs.length sk2 h,sk2.all (BSk.yB 0)with
   |some xs,true=>some ([.bool true],xs)
   |_,_=>none
 |pn,_=>match BSk.j0w hs.length (hs.map Box.sk) h with
  |some xs=>some (w5n pn false,xs)
  |none=>none
def endB (fn:Func)(pn:Nat)(as:List V)(hs:List Box)(r:Exit × VSt):Tree PRes:=
 let fin:Tree PRes:=match z9p P r.2 fn.results.toList with
  |some v0=>match z9p P (r.2.frz v0.j1c) fn.results.toList with
   |some v=>match v1u P fn.resultTypes.toList v,fitB P as hs (r.2.frz v0.j1c).h pn with
    |some ds,some (fl,xs)=> .ret (.val (fl++ds++xs))
    |_,_=> .fail
   |none=> .fail
  |none=> .fail
 match r.1 with
 | .normal=>fin
 | .ret=>fin
 | .outgrown=>match pn,r.2.t with
   |0,_=> .fail
   |pn, .ifc t cs::_=>match decide (t=pn),z3p P 9 pn with
    |true,some ps=>match u5v ps cs,BSk.j0w hs.length (hs.map Box.sk) r.2.h with
     |some ds,some xs=> .ret (.val (w5n pn true++ds++xs))
     |_,_=> .fail
    |_,_=> .fail
   |_,_=> .fail
 |_=> .fail
def q4p (f:FuncId)(pn:Nat)(args:List V)(hs:List Box):Tree PRes:=match P.funcs[f]?,(hs.map Box.sk).all (BSk.yB 0)with
 |some fn,true=>match fn.body with
  |some c=>forceL (x4h fn args hs).t fun t=>(x3j A P false (Cs f) (u3t A P Cs 8) hs.length (x8f hs) false 0 c ⟨t,hs⟩).bind (endB P fn pn args hs)
  |none=> .fail
 |_,_=> .fail
def dfrO:Code->Option (FuncId × Array Operand)
 | .region _ ⟨[⟨none, .defer ⟨.value (.func f),args,_⟩,_,_,_,none⟩]⟩ false=>some (f,args)
 |_=>none
def k9p:Code->Option Tmp
 | .region _ ⟨[⟨some d, .call ⟨.builtin .recover,⟨[]⟩,_⟩,_,_,_,none⟩]⟩ false=>some d
 |_=>none
def y5s (ent:Callee->List V->List Box->Tree (List Nat × V × List Box))(f:FuncId)(p:V)(vs:List V)(s:VSt):Tree (Exit × VSt):=match x4o P f,P.funcs[f]? with
 |true,some fd=>match fd.body,fd.results with
  |some (.seq x y),⟨[]⟩=>match k9p x with
   |some d=>forceL ((x4h fd vs s.h).t.set d p) fun t=>(x3j A P true (Cs f) ent s.h.length [] false 0 y ⟨t,s.h⟩).bind fun r=>match r.1 with
    | .normal=> .ret (.ret,⟨s.t,r.2.h⟩)
    | .ret=> .ret (.ret,⟨s.t,r.2.h⟩)
    |_=> .fail
   |none=> .fail
  |_,_=> .fail
 |_,_=> .fail
def k8d (C:CfgT)(ent:Callee->List V->List Box->Tree (List Nat × V × List Box))(n0:Nat):Code->VSt->Tree (Exit × VSt)
 | .seq x y,s=>match dfrO x with
   |some (f,args)=>(x3j A P true C ent s.h.length [] false 0 y s).bind fun r=>match r.1 with
    | .normal=>y5s A P Cs ent f (.ifn true) (args.toList.map s.get) r.2
    | .ret=>y5s A P Cs ent f (.ifn true) (args.toList.map s.get) r.2
    | .outgrown=>match r.2.t with
      |p::t=>y5s A P Cs ent f p (args.toList.map s.get) ⟨t,r.2.h⟩
      | []=> .fail
    |_=> .fail
   |none=>(x3j A P true C ent n0 [] false 0 x s).bind fun r=>match r.1 with
    | .normal=>k8d C ent n0 y r.2
    |_=> .fail
 |_,_=> .fail
def k6l (f:FuncId)(c:Code)(s:VSt):Tree (Exit × VSt):=match (Cs f).dfr with
 |false=>x3j A P false (Cs f) (u3t A P Cs 8) 0 [] false 0 c s
 |true=>k8d A P Cs (Cs f) (u3t A P Cs 8) 0 c s
def k2l (f:FuncId)(args:List V):Tree PRes:=match P.funcs[f]? with
 |some fn=>match fn.body with
  |some c=>forceL (x4h fn args []).t fun t=>(k6l A P Cs f c ⟨t,[]⟩).bind (k8b P fn)
  |none=> .fail
 |none=> .fail
end
section
variable {P : Program} {E : Env} {Cs : FuncId -> CfgT}
def Sim.shut {En:Ent}(hds:En.ds= [])(hnr:En.nr=false){s:VSt}{tmps:Array Value}{D:Nat}{Ds:List Nat}{w:World}{g:Gh}(hs:Sim En s ⟨tmps,(D::Ds).map fun D=> { target:= .collected D,args:= #[] }⟩ w g):
  w.heap[D]? =some (.deferred (some []))/\Sim En s ⟨tmps,Ds.map fun D=> { target:= .collected D,args:= #[] }⟩ (w.putObj D (.deferred none)) g:=by
 obtain⟨Ds',⟨d1,_⟩,d2,d3⟩:=hs.defers;rw[hds,a0z]at d1;have:Ds'=D::Ds:=(y9a (fun x y h=>by simpa using h) d1).symm
 subst this;obtain⟨k1,k2,k3,k4⟩:=d3 D a0t;have hoth: ∀k,k≠D->(w.putObj D (.deferred none)).heap[k]? =w.heap[k]? :=fun k hk=>World.putObj_heap_other hk
 have hcell: ∀b o,g.Z b o->(w.putObj D (.deferred none)).cell? ⟨b,o,none⟩=w.cell? ⟨b,o,none⟩:=fun b o hz=>by
  have:b≠D:=fun e=>k4 o (e▸hz)
  simp only[World.cell?,hoth b this]
 have ho:Over [] w g (w.putObj D (.deferred none)) g:=⟨Gh.Le.refl _ _,hcell⟩;have hsz:(w.putObj D (.deferred none)).heap.size=w.heap.size:=World.putObj_size;obtain⟨p1,p2,p3,p4⟩:=hs.keep;refine⟨k2,⟨hs.heap.n,fun b x hx=> ?_,hs.heap.sep,hs.heap.zsep,fun b o hz=>by rw[hsz];exact hs.heap.zlt b o hz,hs.heap.tab.mono (fun _ _ h=>h) hcell⟩,hs.size,fun i u v hu hv=>ho.j0b (hs.tmps i u v hu hv),⟨Ds,⟨by rw[hds,a0z],fun h=>(by rw[hnr]at h;cases h)⟩,(List.nodup_cons.1 d2).2,fun D' hD'=> ?_⟩,
  ⟨p1,⟨p2.os,p2.tape,p2.output,by rw[hsz];exact p2.size,fun k hk hn=>(hoth k (by omega)).trans (p2.block k hk hn)⟩,p3,p4⟩,hs.len⟩
 ·have:=x1r.over ho (by rw[hs.heap.n];exact(a0c.1 hx).1) (by simp) (fun k hk=>hoth k fun e=>k3 ⟨b,x,hx,e▸hk⟩) (hs.heap.rep b x hx)
  rwa [Box.j0c]at this
 ·obtain⟨q1,q2,q3,q4⟩:=d3 D' (a0v _ hD');exact⟨q1,(hoth D' fun e=>(List.nodup_cons.1 d2).1 (e▸hD')).trans q2,q3,q4⟩
def y7r {fn:Func}{Rp:Ending->World->Prop}{En:Ent}(hds:En.ds= [])(hnr:En.nr=false){s:VSt}{tmps:Array Value}{g:Gh}: ∀(Ds:List Nat) (w:World),Sim En s ⟨tmps,Ds.map fun D=> { target:= .collected D,args:= #[] }⟩ w g->
  (∀w',Sim En s ⟨tmps,[]⟩ w' g-> ∃v,(results fn tmps).run P w'= .ok v w'/\Rp (.returned v) w')->LeavesInM Fence.wide 0 P fn tmps Rp (Ds.map fun D=> { target:= .collected D,args:= #[] }) .returning w
 | [],w,hs,h=>h w hs
 |D::Ds,w,hs,h=>by
  obtain⟨h1,h2⟩:=hs.shut hds hnr;exact⟨by simp, .inl ⟨D,_,rfl,run_takeDeferred h1,y7r hds hnr Ds _ h2 h⟩⟩
def y6q {fn:Func}{Rp:Ending->World->Prop}{En:Ent}(hds:En.ds= [])(hnr:En.nr=false){s:VSt}{a:Act}{w:World}{g:Gh}(hs:Sim En s a w g)
  (h: ∀a' w',a'.tmps=a.tmps->Sim En s a' w' g-> ∃v,(results fn a.tmps).run P w'= .ok v w'/\Rp (.returned v) w'):LeavesInM Fence.wide 0 P fn a.tmps Rp a.defers .returning w:=by
 obtain⟨Ds,⟨d1,_⟩,d2,d3⟩:=hs.defers;rw[hds,a0z]at d1;rw[d1];have e:a=⟨a.tmps,Ds.map fun D=> { target:= .collected D,args:= #[] }⟩:=by rw[<-d1]
 rw[e]at hs;exact y7r hds hnr Ds w hs fun w' hs'=>h ⟨a.tmps,[]⟩ w' rfl hs'
def Sim.j2q {En:Ent}(hds:En.ds= []){s:VSt}{tmps:Array Value}{D:Nat}{Ds:List Nat}{w:World}{g:Gh}(hs:Sim En s ⟨tmps,(D::Ds).map fun D=> { target:= .collected D,args:= #[] }⟩ w g){u:Value}{v:V}(hr:Rep w g u v):
  Rep (w.putObj D (.deferred none)) g u v:=by
 obtain⟨Ds',⟨d1,_⟩,d2,d3⟩:=hs.defers;rw[hds,a0z]at d1;have:Ds'=D::Ds:=(y9a (fun x y h=>by simpa using h) d1).symm
 subst this;obtain⟨k1,k2,k3,k4⟩:=d3 D a0t;have ho:Over [] w g (w.putObj D (.deferred none)) g:=⟨Gh.Le.refl _ _,fun b o hz=>by
  have:b≠D:=fun e=>k4 o (e▸hz)
  simp only[World.cell?,World.putObj_heap_other this]⟩
 exact ho.j0b hr
def y5a {fn:Func}{Rp:Ending->World->Prop}{En:Ent}(hds:En.ds= [])(hnr:En.nr=false){s:VSt}{tmps:Array Value}{g:Gh}{ch:List PanicEntry}{u:Value}{v:V}: ∀(Ds:List Nat) (w:World),Sim En s ⟨tmps,Ds.map fun D=> { target:= .collected D,args:= #[] }⟩ w g->Rep w g u v->
  (∀w',Sim En s ⟨tmps,[]⟩ w' g->Rep w' g u v->Rp (.panicked ch) w')->LeavesInM Fence.wide 0 P fn tmps Rp (Ds.map fun D=> { target:= .collected D,args:= #[] }) (.panicking ch) w
 | [],w,hs,hr,h=>h w hs hr
 |D::Ds,w,hs,hr,h=>by
  obtain⟨h1,h2⟩:=hs.shut hds hnr;exact⟨by simp, .inl ⟨D,_,rfl,run_takeDeferred h1,y5a hds hnr Ds _ h2 (hs.j2q hds hr) h⟩⟩
def z1f {fn:Func}{Rp:Ending->World->Prop}{En:Ent}(hds:En.ds= [])(hnr:En.nr=false){s:VSt}{a:Act}{w:World}{g:Gh}{ch:List PanicEntry}{u:Value}{v:V}(hs:Sim En s a w g)(hr:Rep w g u v)
  (h: ∀a' w',a'.tmps=a.tmps->Sim En s a' w' g->Rep w' g u v->Rp (.panicked ch) w'):LeavesInM Fence.wide 0 P fn a.tmps Rp a.defers (.panicking ch) w:=by
 obtain⟨Ds,⟨d1,_⟩,d2,d3⟩:=hs.defers;rw[hds,a0z]at d1;rw[d1];have e:a=⟨a.tmps,Ds.map fun D=> { target:= .collected D,args:= #[] }⟩:=by rw[<-d1]
 rw[e]at hs;exact y5a hds hnr Ds w hs hr fun w' hs' hr'=>h ⟨a.tmps,[]⟩ w' rfl hs' hr'
def u7x {g:Gh}{h:List Box}{w:World}{b:Nat}{st:RSt}{t:List V}(hs:SimH g h w)(hb:h[b]? =some (.cells (.rcd st) t)):
  ∃rc:Loop,w.heap[g.blk b]? =some (.loop rc)/\rc.state=st.state/\rc.pending=st.j2g/\ ∀st':RSt,Keep [] g h w g (h.set b (.cells (.rcd st') t)) (w.putObj (g.blk b) (.loop { rc with state:=st'.state,pending:=st'.j2g })):=by
 obtain⟨us,o,q1,⟨fn,D,x,q2,q3,rfl⟩,q4,q5⟩:=hs.rep b _ hb;refine⟨_,q1,rfl,rfl,fun st'=> ?_⟩
 generalize hw':w.putObj (g.blk b) _=w';have hfr:Fr (fun k=>(Box.cells (.rcd st) t).at? g b=some k) w w':=by
  rw[<-hw'];refine⟨rfl,rfl,rfl,by simp,fun k hk hnk=>World.putObj_heap_other fun e=>hnk ?_⟩
  simp only[Box.at?,e]
 have hcell: ∀k o,g.Z k o->w'.cell? ⟨k,o,none⟩=w.cell? ⟨k,o,none⟩:=fun k o hz=>hfr.cell (hs.zlt k o hz) (fun hk=>hs.zsep k o ⟨b,_,hb,hk⟩ hz)
 have ho:Over [] w g w' g:=⟨Gh.Le.refl _ _,hcell⟩;have:=Keep.turn (g':=g) (y:= .cells (.rcd st') t) hs hb [] (.inl ⟨rfl,rfl⟩) rfl rfl rfl (fun _ _=>⟨rfl,rfl⟩) hfr
  ⟨us,_,by rw[<-hw'];exact World.putObj_heap_same (a0r.1 q1).1,⟨fn,D,x,q2,q3,rfl⟩,q4,fun i u v hu hv=>ho.j0b (q5 i u v hu hv)⟩ (fun k hk=> .inl hk)
 rwa [x2v]at this
def v5h {h:List Box}{vs:List V}{b:Nat}(hb:b∈w3k h vs):w5f (h.getD b .gone)=true:=(List.mem_filter.1 hb).2
def v5g {C:CfgT}{h:List Box}{c:Nat}{R:RecI}{vs t0:List V}{b:Nat}(hb:b∈z8x C h c R vs t0):w5f (h.getD b .gone)=true:=by
 unfold z8x at hb;split at hb<;>exact v5h hb
def z9s {w:World}{g:Gh}: ∀(ps:List Tmp) (vs:List V) (us:List Value) (t:List V) (ts:Array Value),ts.size=t.length->(∀(i:Nat) u v,ts[i]? =some u->t[i]? =some v->Rep w g u v)->z5x w g us vs->
  ((ps.zip us).foldl (fun tm q=>tm.setIfInBounds q.1 q.2) ts).size=(v7c t (ps.zip vs)).length/\ ∀(i:Nat) u v,((ps.zip us).foldl (fun tm q=>tm.setIfInBounds q.1 q.2) ts)[i]? =some u->(v7c t (ps.zip vs))[i]? =some v->Rep w g u v
 | [],_,_,t,ts,hl,hr,_=>⟨hl,hr⟩
 |_::_,[],us,t,ts,hl,hr,hu=>by
  have:us= []:=by have:=hu.1;simpa using this
  subst this;exact⟨hl,hr⟩
 |q::ps,v::vs,us,t,ts,hl,hr,hu=>by
  cases us with
  |nil=>have:=hu.1;simp at this
  |cons u us=>
   refine z9s ps vs us (t.set q v) (ts.setIfInBounds q u) (by simpa using hl) (fun i u' v' h1 h2=> ?_) ⟨by have:=hu.1;simpa using this,fun i u' v' h1 h2=>hu.2 (i+1) u' v' (by simpa using h1) (by simpa using h2)⟩
   rw[Array.getElem?_setIfInBounds]at h1;rw[a1k]at h2
   by_cases hi:q=i
   ·subst hi;rw[if_pos rfl]at h1 h2;split at h1
    ·split at h2
     ·cases h1;cases h2;exact hu.2 0 _ _ rfl rfl
     ·cases h2
    ·cases h1
   ·rw[if_neg hi]at h1 h2;exact hr i u' v' h1 h2
def u2e {g g':Gh}{h h':List Box}{w w':World}{M0:List Nat}{v:V}{u:Value}(hn:g.n=h.length)(hk:Keep M0 g h w g' h' w')(hr:Rep w' g' u v):
  ∃g2,Rep w' g2 u (z8r h.length M0 v h').2.1/\Keep (z8r h.length M0 v h').1 g h w g2 (z8r h.length M0 v h').2.2 w':=by
 unfold z8r;split
 ·rename_i hc;simp only[a0g,a0p]at hc;exact⟨g'.cut h.length,x7u hr hc.1.2,hk.j2o (by rw[hn];exact a0q _) hc.1.1 hc.2⟩
 ·exact⟨g',hr,hk⟩
def w5s {g g':Gh}{h h':List Box}{w w':World}{M0:List Nat}{p:V}{u:Value}(hn:g.n=h.length)(hk:Keep M0 g h w g' h' w')(hr:Rep w' g' u p):
  y1l (z8r h.length M0 (v7n p) h').2.1=some p/\ ∃g2,Rep w' g2 u p/\Keep (z8r h.length M0 (v7n p) h').1 g h w g2 (z8r h.length M0 (v7n p) h').2.2 w':=by
 unfold z8r;split
 ·rename_i hc;simp only[a0g,a0p]at hc;have hp:p.scB h.length=true:=by
   have:=hc.1.2;simp only[v7n,V.scB,V.scL,a2a,a2k]at this;exact this
  exact⟨rfl,g'.cut h.length,x7u hr hp,hk.j2o (by rw[hn];exact a0q _) hc.1.1 hc.2⟩
 ·exact⟨rfl,g',hr,hk⟩
def v1m (hE:E.Ok)(hN:q0q E)(hG:x2l P E)(hm:P.follows .mixedOrders=true){ent:Callee->List V->List Box->Tree (List Nat × V × List Box)}(hent:x7b P E ent){b:Nat}{R:RecI}{vs:List V}{h:List Box}{r:List Nat × V × List Box}
  (hk:(k9h sy P Cs ent b R vs h).run E=some r):q0o P r.1 b R vs h r.2.1 r.2.2:=by
 unfold k9h at hk;split at hk
 ·rename_i t0 hb hlen;have hlen:=a0e hlen;rw[forceL_eq]at hk;obtain⟨r1,h1,hk⟩:=x0c hE hk;intro g w us hs hu hbn hrc;generalize hM0:z8x (Cs R.me) h b R vs t0=M0 at h1 hk;have hbM:b ∉ M0:=fun hm'=>by
   rw[<-hM0]at hm';have:=v5g hm';rw[a0i,hb]at this;cases this
  obtain⟨us0,o,q1,⟨fn,D,x,q2,q3,rfl⟩,q4,q5⟩:=hs.rep b _ hb;have hx:x.r=R:=by
   unfold Gh.rc at hrc;rw[q2]at hrc;exact Option.some.inj hrc
  have hy:=run_yield (P:=P) (args:=us.toArray) q1 (by simp only[List.size_toArray,hx];rw[hu.1,hlen])
  refine⟨_,_,_,_,hy,?_⟩;simp only[hx];have hfold:(R.ps.zip us.toArray).foldl (fun tmps q=>tmps.setIfInBounds q.1 q.2) us0=(R.ps.toList.zip us).foldl (fun tm q=>tm.setIfInBounds q.1 q.2) us0:=by
   rw[<-Array.foldl_toList];simp
  obtain⟨s1,s2⟩:=z9s R.ps.toList vs us t0 us0 q4 q5 hu
  let En:Ent:=⟨w,g,h,M0,(v7c t0 (R.ps.toList.zip vs)).length,[],false⟩
  have hS:x1t En ⟨v7c t0 (R.ps.toList.zip vs),h⟩ ⟨(R.ps.toList.zip us).foldl (fun tm q=>tm.setIfInBounds q.1 q.2) us0,[]⟩ w:=
   ⟨g,hs,s1,s2, .none,⟨Gh.Le.refl _ _,Fr.refl _ _,fun _ _ h=> .inl h,fun _ h=> .inl h⟩,rfl⟩
  have hn:g.n=h.length:=hs.n;refine roundIn_of_wpIn trivial ?_;show R.assign.wpIn (Fw (some (g.blk b))) 0 P _ _ _;have e0:(Array.foldl (fun (tmps:Array Value) (x:Tmp × Value)=>tmps.setIfInBounds x.1 x.2) us0 (R.ps.zip us.toArray))=(R.ps.toList.zip us).foldl (fun tm q=>tm.setIfInBounds q.1 q.2) us0:=hfold
  refine(congrArg (fun tm=>R.assign.wpIn (Fw (some (g.blk b))) 0 P _ { tmps:=tm,defers:=[] } w) e0).mpr ?_
  refine wpIn_mono (x4i (inR:=true) (ro:=some (g.blk b)) (En:=En) (fun h=>by cases h) hE hN hG hent (fun _=>rfl) hm R.assign 0 _ _ _ r1 (by rw[<-hn]at h1;exact h1) hS) ?_
  rintro e a1 w1 hr1
  obtain⟨e1,st1⟩:=r1;split at hk
  ·rename_i t1 he1 hb1;simp only at he1 hb1;subst he1;obtain⟨h0,_⟩|⟨_,rfl,g1,hs1⟩:=hr1.split
   ·cases h0
   show ∃w₂,(Instr.beginRound (g.blk b)).run P w1= .ok () w₂/\R.body.wpIn (Fw (some (g.blk b))) 0 P (roundPost P (g.blk b) _) a1 w₂
   rw[forceH_eq]at hk;obtain⟨r2,h2,hk⟩:=x0c hE hk;have hbe:g1.blk b=g.blk b:=hs1.keep.1.blk b hbn hbM;obtain⟨rc,c1,c2,c3,c4⟩:=u7x hs1.heap hb1;rw[hbe]at c1 c4;have hbr:=run_beginRound (P:=P) c1 (by rw[c2];rfl)
   have hk4:=c4 .busy;have erc:({ rc with state:= .busy }:Loop)= { rc with state:=RSt.busy.state,pending:=RSt.busy.j2g }:=by
    cases rc;simp only[RSt.j2g]at c3;simp only[RSt.state,RSt.j2g,c3]
   refine⟨_,hbr,?_⟩;rw[erc];have hs2:=hs1.next hk4 (by simp[okM]) (x:= .any) (u:=undef) (.any undef) none
   refine wpIn_mono (x4i (inR:=true) (ro:=some (g.blk b)) (En:=En) (fun h=>by cases h) hE hN hG hent (fun _=>rfl) hm R.body 0 _ _ _ r2 (by rw[<-hn]at h2;exact h2) ⟨g1,hs2⟩) ?_
   rintro e a2 w3 hr2
   obtain⟨e2,st2⟩:=r2;obtain⟨rfl,_⟩|⟨_,rfl,g3,hs3⟩:=hr2.split
   ·cases hk
   have hbe3:g3.blk b=g.blk b:=hs3.keep.1.blk b hbn hbM;have fin: ∀(st':RSt) (jump:Option Code) (t2:List V),st2.h[b]? =some (.cells (.rcd .busy) t2)->st'.state=(if jump.isNone then .ready else .done)->st'.j2g=jump->
       r=z8r h.length M0 (.d (.bool jump.isNone)) (st2.h.set b (.cells (.rcd st') t2))->
       ∃v w',(Instr.endRound (g.blk b) jump).run P w3= .ok v w'/\ ∃u g',Ending.returned v= .returned u/\Rep w' g' u r.2.1/\Keep r.1 g h w g' r.2.2 w':=by
    intro st' jump t2 hb2 e1 e2 hr;obtain⟨rc3,d1,d2,d3,d4⟩:=u7x hs3.heap hb2;rw[hbe3]at d1 d4;have hen:=run_endRound (P:=P) jump d1;have hk5:=d4 st';rw[e1,e2]at hk5;have hs4:=hs3.next hk5 (by simp[okM]) (x:= .any) (u:=undef) (.any undef) none
    obtain⟨k1,k2,k3,k4⟩:=hs4.keep;have hkeep:Keep M0 g h w g3 (st2.h.set b (.cells (.rcd st') t2)) _:=⟨hs4.heap,k1,k2,k3,k4⟩;obtain⟨g5,p1,p2⟩:=u2e hn hkeep (v:= .d (.bool jump.isNone)) (u:= .bool jump.isNone) (.d (.bool _));exact⟨_,_,hen, .bool jump.isNone,g5,rfl,by rw[hr];exact p1,by rw[hr];exact p2⟩
   split at hk
   ·rename_i t2 he2 hb2;simp only at he2 hb2;subst he2;cases hk;exact fin .ready none t2 hb2 rfl rfl rfl
   ·rename_i t2 he2 hb2;simp only at he2 hb2;subst he2;cases hk;exact fin (.done .ret) (some .ret) t2 hb2 rfl rfl rfl
   ·rename_i id t2 he2 hb2;simp only at he2 hb2;subst he2;cases hk;exact fin (.done (.exit id)) (some (.exit id)) t2 hb2 rfl rfl rfl
   ·cases hk
  ·cases hk
 ·cases hk
def w5u {x:Box}{v:V}(h:encX x=some v):decX v=some x:=by
 unfold encX at h;split at h<;>cases h<;>simp[decX]
def u2f: ∀ {hs:List Box} {l:List V},w5t hs=some l->w6a l=some hs
 | [],l,h=>by cases h;rfl
 |x::xs,l,h=>by
  unfold w5t at h;split at h
  ·rename_i v vs h1 h2;cases h;simp only[w6a,w5u h1,u2f h2]
  ·cases h
def w5v {pn:Nat}{as:List V}{hs:List Box}{key:List V}(h:encB pn as hs=some key):y0d key=some (pn,as,hs):=by
 unfold encB at h;split at h
 ·rename_i l hl;cases h;simp[y0d,u2f hl]
 ·cases h
def z4y {v p:V}(h:y1l v=some p):v=v7n p:=by
 unfold y1l at h;split at h
 ·cases h;rfl
 ·cases h
def v7o {v:V}{σ:Nat->Nat}(h:y1l v=none):y1l (v.ren σ)=none:=by
 cases hq:y1l (v.ren σ)with
 |none=>rfl
 |some p=>
  exfalso;have e:=z4y hq;cases v<;>simp only[V.ren,v7n]at e<;>first|(cases e;done)|skip
  rename_i cs
  match cs,e,h with
  | [a,b],e,h=>
    simp only[V.j1b,V.tup.injEq,List.cons.injEq,and_true]at e;obtain⟨e1,_⟩:=e;cases a<;>simp only[V.ren]at e1<;>first|(cases e1;done)|skip
    rename_i ds
    match ds,e1,h with
    | [],_,h=>cases h
    |_::_,e1,_=>simp[V.j1b]at e1
  | [],e,_=>simp[V.j1b]at e
  | [_],e,_=>simp[V.j1b]at e
  |_::_::_::_,e,_=>simp[V.j1b]at e
def q8d (P:Program)(f:FuncId)(pn:Nat)(as:List V)(hs:List Box)(p:PRes):Prop:=
 ∀(ts:List TypeId) (E:Env) (q:V × List Box),E.Ok->z3o P f=some ts->(v3s sy P pn ts as hs p.leaves).run E=some q->z8s P (x8f hs) f as hs q.1 q.2
def q8a (P:Program)(E:Env):Prop:= ∀f key pn as hs p,x4o P (y8m f)=false->y0d key=some (pn,as,hs)->E.call (y8m f) key=some p->q8d P f pn as hs p
def v3t (hE:E.Ok)(hB:q8a P E){f:FuncId}{vs:List V}{h:List Box}{r:List Nat × V × List Box}(hk:(boxT sy P Cs f vs h).run E=some r):z8s P r.1 f vs h r.2.1 r.2.2:=by
 unfold boxT at hk;split at hk
 ·rename_i ts hsig hg;rw[forceSp_eq]at hk;generalize y7n h [] vs=L at hk;split at hk
  ·rename_i hL;rw[forceH_eq]at hk;split at hk
   ·rename_i key hkey;simp only[Tree.run]at hk;obtain⟨p,hp,hk⟩:=a1l.1 hk;obtain⟨q,h1,hk⟩:=x0c hE hk;have hend:=hB _ _ _ _ _ _ hg (w5v hkey) hp ts E q hE hsig h1;split at hk
    ·rename_i hq;cases hk;have:=y1b.j2d hL (hend.none hq);unfold z8s;rw[v7o hq];exact this
    ·rename_i p' hq;cases hk;exact x9d.j2h hL (hend.some hq)
   ·cases hk
  ·cases hk
 ·cases hk
def w7q (v:V):Ending->World->Gh->Prop:=match y1l v with
 |some p=>q7u p
 |none=>RetV v
def z8s.of {M:List Nat}{f:FuncId}{args:List V}{h h':List Box}{v:V}(hc:x9d P M f args h (w7q v) h'):z8s P M f args h v h':=by
 unfold z8s;unfold w7q at hc;split
 ·rename_i p hp;rw[hp]at hc;exact hc
 ·rename_i hp;rw[hp]at hc;exact x9d.ret.1 hc
def z8s.x {M:List Nat}{f:FuncId}{args:List V}{h h':List Box}{v:V}(hc:z8s P M f args h v h'):x9d P M f args h (w7q v) h':=by
 unfold z8s at hc;unfold w7q;split
 ·rename_i p hp;rw[hp]at hc;exact hc
 ·rename_i hp;rw[hp]at hc;exact x9d.ret.2 hc
def q0b {n0:Nat}{M0:List Nat}{v:V}{h:List Box}:(z8r n0 M0 v h).2.1=v:=by unfold z8r;split<;>rfl
def x6f (hE:E.Ok)(hN:q0q E)(hG:x2l P E)(hB:q8a P E)(hm:P.follows .mixedOrders=true): ∀n,x7b P E (u3t sy P Cs n)
 |0=>⟨fun f vs h r hk=>(by cases hk),fun b R vs h r hk=>(by cases hk)⟩
 |n+1=>by
  refine⟨fun f vs h r hk=> ?_,fun b R vs h r hk=>v1m hE hN hG hm (x6f hE hN hG hB hm n) hk⟩
  unfold u3t at hk;split at hk
  ·exact v3t hE hB hk
  split at hk
  ·rename_i fn hf;split at hk
   ·rename_i c hb;rw[forceL_eq]at hk;obtain⟨r1,h1,hk⟩:=x0c hE hk;refine z8s.of fun g w us hs hu=> ?_
    refine callsIn_wide.1 (callsIn_of_wp_marks (F:=Fence.wide) (n:=0) hf hb trivial ?_);have hEn:=z2i (fn:=fn) (z3m (Cs f) h vs) (hs:=hs) (hu:=hu);have h1':(x3j sy P false (Cs f) (u3t sy P Cs n) g.n (z3m (Cs f) h vs) false 0 c (x4h fn vs h)).run E=some r1:=by rw[hs.n];exact h1
    refine wpIn_mono (x4i (ro:=none) (En:=⟨w,g,h,z3m (Cs f) h vs,(x4h fn vs h).t.length,[],false⟩) (fun _=>rfl) hE hN hG (x6f hE hN hG hB hm n) (fun _=>rfl) hm c 0 _ _ _ r1 h1' hEn) fun e a' w' hr=> ?_
    obtain⟨e1,s'⟩:=r1;rcases hr.split with⟨rfl,⟨u,rfl⟩,p,t,ht,hpan⟩|⟨hx,rfl,g',hs'⟩
    ·have hk:Tree.run E (match s'.t with
      |p::_=> .ret (z8r h.length (z3m (Cs f) h vs) (v7n p) s'.h)
      | []=> .fail)=some r:=hk
     rw[ht]at hk;cases hk;obtain⟨g',u',he,hru,hs'⟩:=hpan;cases he;refine z1f rfl rfl hs' hru fun a2 w2 ha2 hs2 hru=> ?_
     obtain⟨k1,k2,k3,k4⟩:=hs2.keep;have hkeep:Keep (z3m (Cs f) h vs) g h w g' s'.h w2:=⟨hs2.heap,k1,k2,fun b o hz=>(k3 b o hz),k4⟩
     obtain⟨q1,g2,q2,q3⟩:=w5s hs.n hkeep hru;refine⟨g2,?_,q3⟩;unfold w7q;rw[q1];exact⟨_,rfl,q2⟩
    ·have fin: ∀(e:Exit),(e= .normal\/e= .ret)->(endE P fn h.length (z3m (Cs f) h vs) (e,s')).run E=some r->LeavesInM Fence.wide 0 P fn a'.tmps (fun e w'=> ∃g',w7q r.2.1 e w' g'/\Keep r.1 g h w g' r.2.2 w') a'.defers .returning w':=by
      intro e he hq;have hq:Tree.run E (match z9p P s' fn.results.toList with
       |some v=>match y1l v with
        |none=> .ret (z8r h.length (z3m (Cs f) h vs) v s'.h)
        |some _=> .fail
       |none=> .fail)=some r:=by rcases he with rfl|rfl<;>exact hq
      refine y6q rfl rfl hs' fun a2 w2 ha2 hs2=> ?_
      rw[<-ha2];obtain⟨k1,k2,k3,k4⟩:=hs2.keep;have hkeep:Keep (z3m (Cs f) h vs) g h w g' s'.h w2:=⟨hs2.heap,k1,k2,fun b o hz=>(k3 b o hz),k4⟩
      split at hq
      ·rename_i v hv;obtain⟨u,hu,hr⟩:=y0n hs2 hv;split at hq
       ·rename_i hp;cases hq;obtain⟨g2,q1,q2⟩:=u2e hs.n hkeep hr;refine⟨u,hu,g2,?_,q2⟩;unfold w7q;rw[q0b,hp];rw[q0b]at q1;exact⟨u,rfl,q1⟩
       ·cases hq
      ·cases hq
     cases e with
     |normal=>exact fin _ (.inl rfl) hk
     |ret=>exact fin _ (.inr rfl) hk
     |outgrown=>exact(hx rfl).elim
     |_=>cases hk
   ·cases hk
  ·cases hk
def u7a: ∀ {ss:List Sh} {vs:List V} {xs:List D},v4d ss vs=some xs->xs.length=ss.length
 | [],[],xs,h=>by cases h;rfl
 | [],_::_,xs,h=>by cases h
 |_::_,[],xs,h=>by cases h
 |s::ss,v::vs,xs,h=>by
  unfold v4d at h;split at h
  ·rename_i x xs' _ h2;cases h;simp[u7a h2]
  ·cases h
def q2z {t:TypeId}{v:V}{ds rest:List D}{ts:List TypeId}{vs:List V}(h:q8k P t v=some ds)(h2:u4w P ts rest=some vs):
  ∃v',u4w P (t::ts) (ds++rest)=some (v'::vs)/\(∀(w:World) (g g':Gh) (u:Value),g'.Z=g.Z->Rep w g u v->Rep w g' u v')/\ ∃ss,z3p P 9 t=some ss/\ds.length=ss.length:=by
 unfold q8k at h;split at h
 ·rename_i ss cs h1 ha;have hl:=u7a h;refine⟨.agg (ds.map .d),?_,fun w g g' u hz hr=> ?_,ss,h1,hl⟩
  ·unfold u4w;simp only[h1,ha];rw[show decide (ss.length<=(ds++rest).length)=true from a0s (by simp;omega),show(ds++rest).drop ss.length=rest by rw[<-hl];simp,h2]
   simp only[show(ds++rest).take ss.length=ds by rw[<-hl];simp]
  ·obtain⟨q1,q2⟩:=y1p h;cases hr with
   |agg us _ hl hr=>
    refine .agg us _ (by simp[hl,q1]) fun i u c hu hc=> ?_
    rw[a0o,a0n]at hc;obtain⟨x,hx,rfl⟩:=hc;have hi:=(a0r.1 hu).1;have hcs:=a0b (l:=cs) (i:=i) (by omega)
    obtain⟨s,hs⟩:=q2 i _ x hcs hx;exact .d (by rw[hz];exact y1q (hr i u _ hu hcs) hs)
 ·rename_i s h1 ha;split at h
  ·rename_i x hx;cases h;refine⟨.d x,?_,fun w g g' u hz hr=> .d (by rw[hz];exact y1q hr hx),[s],h1,rfl⟩
   unfold u4w;simp only[h1,ha,a0f,a0h,h2]
  ·cases h
 ·cases h
def u4p: ∀ {ts:List TypeId} {vs:List V} {ds:List D},k1d P ts vs=some ds-> ∃vs',u4w P ts ds=some vs'/\vs'.length=vs.length/\(∀(i:Nat) v v',vs[i]? =some v->vs'[i]? =some v'-> ∀(w:World) (g g':Gh) (u:Value),g'.Z=g.Z->Rep w g u v->Rep w g' u v')/\
  ∃ss,shR P ts=some ss/\ds.length=ss.length
 | [],[],ds,h=>by cases h;exact⟨[],rfl,rfl,by simp,[],rfl,rfl⟩
 | [],_::_,ds,h=>by cases h
 |_::_,[],ds,h=>by cases h
 |t::ts,v::vs,ds,h=>by
  unfold k1d at h;split at h
  ·rename_i a b h1 h2;cases h;obtain⟨vs',e1,l1,r1,ss,q1,q2⟩:=u4p h2;obtain⟨v',e2,r2,ss',q3,q4⟩:=q2z h1 e1;refine⟨v'::vs',e2,by simp[l1],fun i x x' hx hx'=> ?_,ss'++ss,by simp only[shR,q3,q1],by simp[q2,q4]⟩
   cases i with
   |zero=>simp at hx hx';subst hx;subst hx';exact r2
   |succ i=>exact r1 i x x' (by simpa using hx) (by simpa using hx')
  ·cases h
def u8e {ts:List TypeId}{v:V}{ds:List D}(h:v1u P ts v=some ds): ∃v',mkV P ts ds=some v'/\(∀(w:World) (g g':Gh) (u:Value),g'.Z=g.Z->Rep w g u v->Rep w g' u v')/\ ∃ss,shR P ts=some ss/\ds.length=ss.length:=by
 unfold v1u at h;split at h
 ·obtain⟨vs',e1,l1,r1,ss,q1,q2⟩:=u4p h
  match vs',l1 with
  | [v'],_=>exact⟨v',by simp[mkV,e1],r1 0 _ v' rfl rfl,ss,q1,q2⟩
 ·rename_i ts0 vs hne;obtain⟨vs',e1,l1,r1,ss,q1,q2⟩:=u4p h;have hlen:=(y2b e1).2;have hn1:ts.length≠1:=fun h1=>by
   match ts,h1,hne with
   | [t],_,hne=>exact hne t rfl
  refine⟨.tup vs',?_,fun w g g' u hz hr=> ?_,ss,q1,q2⟩
  ·unfold mkV;rw[e1]
   match vs',hlen with
   | [],_=>rfl
   | [x],h1=>exact(hn1 (by simpa using h1.symm)).elim
   |_::_::_,_=>rfl
  ·cases hr with
   |tup us _ hl hr=>
    refine .tup us vs' (by rw[hl,l1]) fun i u c hu hc=> ?_
    have hi:=(a0r.1 hu).1;exact r1 i _ c (a0b (by omega)) hc w g g' u hz (hr i u _ hu (a0b (by omega)))
 ·cases h
def k1s {ts:List TypeId}{ds:List D}{v:V}(h:mkV P ts ds=some v){w:World}{g:Gh}{u:Value}(hr:Rep w g u v):Rep w (g.cut 0) u v:=z9t (g:=g) (g':=g.cut 0) rfl (u8p h) hr
def w0j {c:Code}{f:FuncId}{args:Array Operand}(h:dfrO c=some (f,args)): ∃id ts ty pos af,c= .region id #[⟨none, .defer ⟨.value (.func f),args,ts⟩,ty,pos,af,none⟩] false:=by
 unfold dfrO at h;split at h
 ·cases h;exact⟨_,_,_,_,_,rfl⟩
 ·cases h
def v6y {c:Code}{d:Tmp}(h:k9p c=some d): ∃id ts ty pos af,c= .region id #[⟨some d, .call ⟨.builtin .recover, #[],ts⟩,ty,pos,af,none⟩] false:=by
 unfold k9p at h;split at h
 ·cases h;exact⟨_,_,_,_,_,rfl⟩
 ·cases h
def Sim.through {En:Ent}(hds:En.ds= []){s1 s2:VSt}{a1 a2:Act}{w1 w2:World}{g1 g2:Gh}{ds:List Deferred}{nr:Bool}(h1:Sim En s1 a1 w1 g1)(h2:Sim ⟨w1,g1,s1.h,[],s1.t.length,ds,nr⟩ s2 a2 w2 g2):
  Sim En s2 ⟨a2.tmps,[]⟩ w2 g2:=by
 obtain⟨k1,k2,k3,k4⟩:=h2.keep;have hk:Keep [] g1 s1.h w1 g2 s2.h w2:=⟨h2.heap,k1,k2,k3,k4⟩;exact⟨h2.heap,h2.size,h2.tmps,by rw[hds];exact .none,h1.step hk (by simp[okM]),h2.len.trans h1.len⟩
def u2r (hE:E.Ok)(hN:q0q E)(hG:x2l P E)(hB:q8a P E)(hm:P.follows .mixedOrders=true){fn:Func}{R:Ending->World->Prop}{En:Ent}(hds:En.ds= []){f:FuncId}{p:V}{vs:List V}{s:VSt}{a:Act}{w:World}{g:Gh}{r:Exit × VSt}{us:List Value}{u:FrameMode}{v:Value}
  (hk:(y5s sy P Cs (u3t sy P Cs 8) f p vs s).run E=some r) (hs:Sim En s ⟨a.tmps,[]⟩ w g) (hu:z5x w g us vs) (hp:Rep w g v p)
  (hmode:(u= .returning/\v= .nilIface)\/u= .panicking [{ v:=v,recovered:=false }])
  (hR: ∀w' g',Sim En r.2 ⟨a.tmps,[]⟩ w' g'-> ∃v,(results fn a.tmps).run P w'= .ok v w'/\R (.returned v) w'):
  CallsDIn Fence.wide 0 P f us.toArray u w (fun e u' w'=>match e with
   | .returned _=>LeavesIn Fence.wide 0 P fn a.tmps R [] (settle u') w'
   | .panicked x3b=>LeavesIn Fence.wide 0 P fn a.tmps R [] (raised u' x3b) w'
   | .outgrown=>R .outgrown w'):=by
 unfold y5s at hk;split at hk
 ·rename_i fd _ hfd;split at hk
  ·rename_i x y hbody hres;split at hk
   ·rename_i d hrec;rw[forceL_eq]at hk;obtain⟨r1,h1,hk⟩:=x0c hE hk;obtain⟨id,ts,ty,pos,af,rfl⟩:=v6y hrec;have hEn:=y6w (fn:=fd) (args:=vs) [] (nr:=true) (hs:=hs.heap) (hu:=hu);have hEn1:x1t ⟨w,g,s.h,[],(x4h fd vs s.h).t.length,[],true⟩ ⟨(x4h fd vs s.h).t.set d p,s.h⟩ (({ tmps:=us.toArray++Array.replicate (fd.ntmps - us.toArray.size) undef,defers:=[] }:Act).put (some d) v) w:=
     ⟨g,⟨hs.heap,by simpa[Act.put]using hEn.size,fun i u' v' h1' h2'=>by
       simp only[Act.put,Array.getElem?_setIfInBounds]at h1';simp only[a1k]at h2'
       by_cases hd:d=i
       ·subst hd;rw[if_pos rfl]at h1' h2';split at h1'
        ·split at h2'
         ·cases h1';cases h2';exact hp
         ·cases h2'
        ·cases h1'
       ·rw[if_neg hd]at h1' h2';exact hEn.tmps i u' v' h1' h2', .none,⟨Gh.Le.refl _ _,Fr.refl _ _,fun _ _ h=> .inl h,fun _ h=> .inl h⟩,by simp⟩⟩
    have hrun:(x3j sy P true (Cs f) (u3t sy P Cs 8) g.n [] false 0 y ⟨(x4h fd vs s.h).t.set d p,s.h⟩).run E=some r1:=by rw[hs.heap.n];exact h1
    have fin: ∀(c0:Frame) (cs:List Frame) (u':FrameMode),settle u'= .returning->y.wpSIn Fence.wide 0 P (bodyPostS P fd c0 cs (fun e u' w'=>match e with
        | .returned _=>LeavesIn Fence.wide 0 P fn a.tmps R [] (settle u') w'
        | .panicked x3b=>LeavesIn Fence.wide 0 P fn a.tmps R [] (raised u' x3b) w'
        | .outgrown=>R .outgrown w')) (({ tmps:=us.toArray++Array.replicate (fd.ntmps - us.toArray.size) undef,defers:=[] }:Act).put (some d) v) ({ c0 with mode:=u' }::cs) w:=by
     intro c0 cs u' hset;refine wpSIn_of_wpIn rfl (wpIn_mono (x4i (ro:=none) (En:=⟨w,g,s.h,[],(x4h fd vs s.h).t.length,[],true⟩) (fun h=>by cases h) hE hN hG (x6f hE hN hG hB hm 8) (fun h=>by cases h) hm y 0 _ _ _ r1 hrun hEn1) fun e a' w' hr=> ?_)
     obtain⟨e1,s'⟩:=r1;rcases hr.split with⟨rfl,_⟩|⟨hx,rfl,g',hs'⟩
     ·cases hk
     have hdf:a'.defers= []:=by
      obtain⟨Ds,⟨d1,d2⟩,_⟩:=hs'.defers;rw[d1,d2 rfl];rfl
     have hth: ∀s2,(some (Exit.ret,(⟨s.t,s'.h⟩:VSt))=some r)->s2=r.2->Sim En s2 ⟨a.tmps,[]⟩ w' g':=by
      intro s2 hk e2;cases hk;subst e2;obtain⟨k1,k2,k3,k4⟩:=hs'.keep;have hkp:Keep [] g s.h w g' s'.h w':=⟨hs'.heap,k1,k2,k3,k4⟩;have ho:=hkp.over hs.heap;exact⟨hs'.heap,hs.size,fun i u v h1 h2=>ho.j0b (hs.tmps i u v h1 h2),by rw[hds];exact .none,hs.step hkp (by simp[okM]),hs.len⟩
     obtain⟨ur,hres',_⟩:=y0n hs' (fn:=fd) (v:= .tup []) (by rw[hres];rfl)
     have last: ∀s2,(some (Exit.ret,(⟨s.t,s'.h⟩:VSt))=some r)->s2=r.2->LeavesIn Fence.wide 0 P fn a.tmps R [] (settle u') w':=fun s2 h1 h2=>by
      rw[hset];exact hR w' g' (h2▸hth s2 h1 h2)
     cases e with
     |normal=>exact⟨hdf,u',rfl,_,hres',last _ hk rfl⟩
     |ret=>exact⟨hdf,u',rfl,_,hres',last _ hk rfl⟩
     |_=>cases hk
    refine callsDIn_of_wpSIn hfd hbody trivial fun c0 cs hc0=>wpSIn_seq (wpSIn_region ?_)
    rw[show List.range #[(⟨some d, .call ⟨.builtin .recover, #[],ts⟩,ty,pos,af,none⟩:Oper)].size= [0]from rfl];have hex: ∀(ρ:Operand->Value),(execOp ρ (⟨some d, .call ⟨.builtin .recover, #[],ts⟩,ty,pos,af,none⟩:Oper)).run P w= .ok .recover w:=fun ρ=>rfl
    simp only[wpOpsSIn,List.getElem?_toArray,List.getElem?_cons_zero,Region.wanted,if_true,hex];refine⟨fun _ _=>trivial,?_⟩
    rcases hmode with⟨h1,h2⟩|h1
    ·subst h1 h2;have:recoverD (c0::cs)=none:=by simp only[recoverD,hc0]
     rw[this];have:=fin c0 cs .returning rfl;rw[<-hc0]at this;exact this
    ·subst h1;have:recoverD (c0::cs)=some (v,{ c0 with mode:= .panicking [{ v:=v,recovered:=true }] }::cs):=by simp only[recoverD,hc0]
     rw[this];exact fin c0 cs _ rfl
   ·cases hk
  ·cases hk
 ·cases hk
def v3b (hE:E.Ok)(hN:q0q E)(hG:x2l P E)(hB:q8a P E)(hm:P.follows .mixedOrders=true){fn:Func}{R:Ending->World->Prop}{En:Ent}(hds:En.ds= [])(hM:En.M= [])(hnr:En.nr=true){C:CfgT}{r:Exit × VSt}
  (hR: ∀t w' g',Sim En r.2 ⟨t,[]⟩ w' g'->r.1= .ret-> ∃v,(results fn t).run P w'= .ok v w'/\R (.returned v) w'):
  ∀(c:Code) (s:VSt) (a:Act) (w:World),(k8d sy P Cs C (u3t sy P Cs 8) En.g.n c s).run E=some r->x1t En s a w->c.wpIn Fence.wide 0 P (bodyPostDIn Fence.wide 0 P fn R) a w:=by
 intro c
 induction c with
 |seq x y ihx ihy=>
  intro s a w hk hs;unfold k8d at hk;split at hk
  ·rename_i f args hd;obtain⟨id,ts,ty,pos,af,rfl⟩:=w0j hd;obtain⟨r1,h1,hk⟩:=x0c hE hk;obtain⟨g,hs⟩:=hs;have hdf:a.defers= []:=by
    obtain⟨Ds,⟨d1,d2⟩,_⟩:=hs.defers;rw[d1,d2 hnr,hds];rfl
   refine wpIn_seq (wpIn_region ?_);rw[show List.range #[(⟨none, .defer ⟨.value (.func f),args,ts⟩,ty,pos,af,none⟩:Oper)].size= [0]from rfl]
   let d:Deferred:= { target:= .fn (.func f) #[],args:=args.map a.eval }
   have hex:((⟨none, .defer ⟨.value (.func f),args,ts⟩,ty,pos,af,none⟩:Oper).semAt (Fence.wide).round a.eval).run P w= .ok (.defer d) w:=by
    have e:(⟨none, .defer ⟨.value (.func f),args,ts⟩,ty,pos,af,none⟩:Oper).semAt (Fence.wide).round a.eval=execOp a.eval ⟨none, .defer ⟨.value (.func f),args,ts⟩,ty,pos,af,none⟩:=Oper.semAt_none _ _;rw[e];simp[execOp,resolve,Act.eval,Deferred.ofValue,Sem.run_pure,d]
   simp only[wpOpsIn,List.getElem?_toArray,List.getElem?_cons_zero,Region.wanted,if_true,Oper.wpIn,hex,Oper.uponIn_defer];refine⟨fun _ _=>trivial,?_⟩
   have hs1:x1t ⟨w,g,s.h,[],s.t.length,[d],true⟩ s { a with defers:=[d] } w:=
    ⟨g,hs.heap,hs.size,hs.tmps,⟨[],⟨rfl,fun _=>rfl⟩,List.nodup_nil,by simp⟩,⟨Gh.Le.refl _ _,Fr.refl _ _,fun _ _ h=> .inl h,fun _ h=> .inl h⟩,rfl⟩
   have hargs:z5x w g (args.toList.map a.eval) (args.toList.map s.get):=⟨by simp,fun i u v h1 h2=>by
    rw[a0o,a0n]at h1 h2;obtain⟨q,hq,rfl⟩:=h1;obtain⟨q',hq',rfl⟩:=h2;rw[hq]at hq';cases hq';exact hs.get q⟩
   have h1':(x3j sy P true C (u3t sy P Cs 8) g.n [] false 0 y s).run E=some r1:=by rw[hs.heap.n];exact h1
   rw[hdf];refine wpIn_mono (x4i (ro:=none) (En:=⟨w,g,s.h,[],s.t.length,[d],true⟩) (fun h=>by cases h) hE hN hG (x6f hE hN hG hB hm 8) (fun h=>by cases h) hm y 0 _ _ _ r1 h1' hs1) fun e a' w' hr=> ?_
   have key: ∀(s2:VSt) (g2:Gh) (u:FrameMode) (p:V) (v:Value),Sim ⟨w,g,s.h,[],s.t.length,[d],true⟩ s2 a' w' g2->Rep w' g2 v p->u≠ .run->
       ((u= .returning/\v= .nilIface)\/u= .panicking [{ v:=v,recovered:=false }])->(y5s sy P Cs (u3t sy P Cs 8) f p (args.toList.map s.get) s2).run E=some r->LeavesIn Fence.wide 0 P fn a'.tmps R a'.defers u w':=by
    intro s2 g2 u p v hs2 hp hu hmode hk;have hdf2:a'.defers= [d]:=by
     obtain⟨Ds,⟨d1,d2⟩,_⟩:=hs2.defers;rw[d1,d2 rfl];rfl
    rw[hdf2];obtain⟨k1,k2,k3,k4⟩:=hs2.keep;have hkp:Keep [] g s.h w g2 s2.h w':=⟨hs2.heap,k1,k2,k3,k4⟩;have ho:=hkp.over hs.heap;have hargs2:z5x w' g2 (args.toList.map a.eval) (args.toList.map s.get):=⟨hargs.1,fun i u v h1 h2=>ho.j0b (hargs.2 i u v h1 h2)⟩
    have hgf:x4o P f=true:=by
     unfold y5s at hk;split at hk
     ·assumption
     ·cases hk
    have hinv:(invoke (.fn (.func f) #[]) (args.map a.eval)).run P w'= .ok (.enter f (args.toList.map a.eval).toArray) w':=by
     rw[show(args.toList.map a.eval).toArray=args.map a.eval++ #[] by apply Array.ext';simp]
     exact x8h hgf _ _
    refine leavesIn_cons hu (fun h=>by simp[Fence.wide]at h) hinv (fun _ _=>trivial) ?_
    have hret:r.1= .ret:=by
     unfold y5s at hk;split at hk
     ·split at hk
      ·split at hk
       ·rw[forceL_eq]at hk;obtain⟨r1,_,hk⟩:=x0c hE hk;split at hk<;>cases hk<;>rfl
       ·cases hk
      ·cases hk
     ·cases hk
    exact(u2r hE hN hG hB hm hds hk (hs.through hds hs2) hargs2 hp hmode fun w2 g3 h3=>hR _ _ _ h3 hret).mono fun e u2 w2 h=>by
     cases e<;>exact h
   obtain⟨e1,s'⟩:=r1;rcases hr.split with⟨rfl,⟨u,rfl⟩,p,t,ht,hpan⟩|⟨hx,rfl,g',hs'⟩
   ·obtain⟨g',u',he,hru,hs2⟩:=hpan;cases he;have hk:Tree.run E (match s'.t with
     |p::t=>y5s sy P Cs (u3t sy P Cs 8) f p (args.toList.map s.get) ⟨t,s'.h⟩
     | []=> .fail)=some r:=hk
    rw[ht]at hk;exact key _ g' _ p u hs2 hru (by simp) (.inr rfl) hk
   ·cases e with
    |normal=>exact key s' g' _ _ .nilIface hs' .ifn0 (by simp) (.inl ⟨rfl,rfl⟩) hk
    |ret=>exact key s' g' _ _ .nilIface hs' .ifn0 (by simp) (.inl ⟨rfl,rfl⟩) hk
    |outgrown=>exact(hx rfl).elim
    |_=>cases hk
  ·obtain⟨r1,h1,hk⟩:=x0c hE hk;refine wpIn_seq (wpIn_mono (x4i (inR:=true) (ro:=none) (En:=En) (fun h=>by cases h) hE hN hG (x6f hE hN hG hB hm 8) (fun h=>by cases h) hm x 0 _ _ _ r1 (by rw[hM];exact h1) hs) fun e a' w' hr=> ?_)
   obtain⟨e1,s'⟩:=r1;rcases hr.split with⟨rfl,_⟩|⟨hx,rfl,hs'⟩
   ·cases hk
   cases e with
   |normal=>exact ihy s' a' w' hk hs'
   |_=>cases hk
 |_=>intro s a w hk;cases hk
def v2s (hE:E.Ok)(hN:q0q E)(hG:x2l P E)(hB:q8a P E)(hm:P.follows .mixedOrders=true){f:FuncId}{args:List V}{p:PRes}(hsig: ∀fn,P.funcs[f]? =some fn->x4o P f=true)(hk:(k2l sy P Cs f args).run E=some p):u3n P f args p:=by
 unfold k2l at hk;split at hk
 ·rename_i fn hf;split at hk
  ·rename_i c hb;rw[forceL_eq]at hk;obtain⟨r1,h1,hk⟩:=x0c hE hk;have hsg:z3o P f=some fn.resultTypes.toList:=by
    unfold z3o;rw[hsig fn hf,hf]
   have run: ∀(g:Gh) (w:World) (us:List Value),SimH g [] w->z5x w g us args->
       Calls P f us.toArray w fun e w'=> ∃a' g',(r1.1= .normal\/r1.1= .ret)/\Sim ⟨w,g,[],[],(x4h fn args []).t.length,[],false⟩ r1.2 a' w' g'/\ ∃v,(results fn a'.tmps).run P w'= .ok v w'/\e= .returned v:=by
    intro g w us hs hu;unfold k6l at h1;split at h1
    rotate_left
    ·have hEn:=y6w (fn:=fn) [] (nr:=true) (hs:=hs) (hu:=hu);refine callsIn_wide.1 (callsIn_of_wp_defers (F:=Fence.wide) (n:=0) hf hb trivial ?_);refine v3b (En:=⟨w,g,[],[],(x4h fn args []).t.length,[],true⟩) hE hN hG hB hm rfl rfl rfl (r:=r1) (fun t w' g' hs' he=> ?_) c _ _ _ (by rw[hs.n];exact h1) ⟨g,hEn⟩
     obtain⟨e,s'⟩:=r1;have he:e= .ret:=he;subst he;have hq: ∃v,z9p P s' fn.results.toList=some v:=by
      cases hv:z9p P s' fn.results.toList with
      |some v=>exact⟨v,rfl⟩
      |none=>simp only[k8b,hv]at hk;cases hk
     obtain⟨v,hv⟩:=hq;obtain⟨u,hu,_⟩:=y0n hs' hv;exact⟨u,hu,⟨t,[]⟩,g', .inr rfl,⟨hs'.heap,hs'.size,hs'.tmps, .none,hs'.keep,hs'.len⟩,u,hu,rfl⟩
    refine callsIn_wide.1 (callsIn_of_wp_marks (F:=Fence.wide) (n:=0) hf hb trivial ?_);have hEn:=z2i (fn:=fn) [] (hs:=hs) (hu:=hu);have h1':(x3j sy P false (Cs f) (u3t sy P Cs 8) g.n [] false 0 c (x4h fn args [])).run E=some r1:=by rw[hs.n];exact h1
    refine wpIn_mono (x4i (ro:=none) (En:=⟨w,g,[],[],(x4h fn args []).t.length,[],false⟩) (fun _=>rfl) hE hN hG (x6f hE hN hG hB hm 8) (fun _=>rfl) hm c 0 _ _ _ r1 h1' hEn) fun e a' w' hr=> ?_
    obtain⟨e1,s'⟩:=r1;obtain⟨rfl,_⟩|⟨hx,rfl,g',hs'⟩:=hr.split
    ·cases hk
    have fin: ∀(e:Exit),(e= .normal\/e= .ret)->(k8b P fn (e,s')).run E=some p->LeavesInM Fence.wide 0 P fn a'.tmps (fun e0 w'=> ∃a' g',(e= .normal\/e= .ret)/\Sim ⟨w,g,[],[],(x4h fn args []).t.length,[],false⟩ s' a' w' g'/\ ∃v',(results fn a'.tmps).run P w'= .ok v' w'/\e0= .returned v') a'.defers .returning w':=by
     intro e he hq;have hq: ∃v,z9p P s' fn.results.toList=some v:=by
      cases hv:z9p P s' fn.results.toList with
      |some v=>exact⟨v,rfl⟩
      |none=>rcases he with rfl|rfl<;>(simp only[k8b,hv]at hq;cases hq)
     obtain⟨v,hv⟩:=hq;refine y6q rfl rfl hs' fun a2 w2 ha2 hs2=> ?_
     rw[<-ha2];obtain⟨u,hu,_⟩:=y0n hs2 hv;exact⟨u,hu,a2,g',he,hs2,u,hu,rfl⟩
    cases e with
    |normal=>exact fin _ (.inl rfl) hk
    |ret=>exact fin _ (.inr rfl) hk
    |_=>cases hk
   obtain⟨e,s'⟩:=r1;have hk:Tree.run E (match z9p P s' fn.results.toList with
    |some v=>match v,fn.resultTypes.toList with
     | .own b,[t]=>match s'.h[b]?,elO P t with
       |some (.arr e sz rows),some (e',sz')=>match decide (e'=e/\sz'=sz)with
        |true=> .ret (.own e sz rows)
        |false=> .fail
       |_,_=> .fail
     |v,ts=>match z9p P (s'.frz v.j1c) fn.results.toList with
      |some v'=>match v1u P ts v' with
       |some ds=> .ret (.val ds)
       |none=> .fail
      |none=> .fail
    |none=> .fail)=some p:=by
    cases e with
    |normal=>exact hk
    |ret=>exact hk
    |_=>cases hk
   split at hk
   ·rename_i v hv;split at hk
    ·rename_i b t hts;split at hk
     ·rename_i ee sze rows e' sz' hbx hel;split at hk
      ·rename_i hd;obtain⟨e3,e4⟩:=a0e hd;rw[e3,e4]at hel;clear hd e3 e4 e' sz';cases hk;refine⟨t,by rw[hsg,hts],hel,fun g w us hs hu=>(run g w us hs hu).mono ?_⟩
       rintro e0 w' ⟨a',g',_,hs',v,hres,rfl⟩
       obtain⟨u,hu',hr⟩:=y0n hs' hv;rw[hres]at hu';cases hu';obtain⟨k1,k2,k3,k4⟩:=hs'.keep;have hkeep:Keep [] g [] w g' s'.h w':=⟨hs'.heap,k1,k2,k3,k4⟩;have hbl:b < s'.h.length:=(a0c.1 hbx).1;have hge:s'.h.getD b .gone= .arr ee sze rows:=by rw[a0i,hbx];rfl
       have hL:x8u s'.h [b] [.own b]=true:=by
        simp only[x8u,u0m,a1r,List.all_nil,hge,a2a,V.j1n,V.inB,Box.inB];simp[hbl]
       obtain⟨g2,hk2,hrep⟩:=hkeep.tell hs.n hL (fun i hi=>by simp at hi)
       refine⟨v,g2,rfl,?_,?_⟩
       ·have:=hrep v _ hr (by simp[V.inB])
        simpa[V.ren,tau,List.idxOf?]using this
       ·have e2:x5j s'.h [b]= [.arr ee sze rows]:=by simp only[x5j,a1m,a1w,hge,Box.ren]
        rw[e2]at hk2;exact hk2
      ·cases hk
     ·cases hk
    ·rename_i v0 ts0 hne;split at hk
     ·rename_i v' hv';obtain⟨L,hL⟩: ∃L,z9p P (s'.frz L) fn.results.toList=some v':=⟨_,hv'⟩
      split at hk
      ·rename_i ds hds;cases hk;obtain⟨v2,m1,m2,ss,m3,m4⟩:=u8e hds;refine⟨_,ss,v2,hsg,m3,m4,m1,fun g w us hs hu=>(run g w us hs hu).mono ?_⟩
       rintro e0 w' ⟨a',g',_,hs',u0,hres,rfl⟩
       obtain⟨g1,hs1⟩:=x1t.frzs (bs:=L) ⟨g',hs'⟩;obtain⟨u,hu',hr⟩:=y0n hs1 hL;rw[hres]at hu';cases hu';obtain⟨k1,k2,k3,k4⟩:=hs1.keep;have hkeep:Keep [] g [] w g1 (s'.frz L).h w':=⟨hs1.heap,k1,k2,k3,k4⟩;have hn:g.n=0:=hs.n;exact⟨u0,g1.cut 0,rfl,k1s m1 (m2 w' g1 g1 u0 rfl hr),hkeep.j2o (n:=0) (by omega) (by omega) rfl⟩
      ·cases hk
     ·cases hk
   ·cases hk
  ·cases hk
 ·cases hk
def Keep.less {M:List Nat}{g g':Gh}{h h' ys:List Box}{w w':World}(hk:Keep M g h w g' h' w')(hn:g.n<=ys.length)
  (hw: ∀(i:Nat) y,ys[i]? =some y-> ∃x,h'[i]? =some x/\WkBY ys.length (fun _=>none) x y):Keep M g h w (g'.cut ys.length) ys w':=by
 have hown: ∀k,x2r (g'.cut ys.length) ys k->x2r g' h' k:=by
  rintro k ⟨b,y,hy,hat⟩
  obtain⟨x,hx,hw⟩:=hw b y hy;exact⟨b,x,hx,hw.2 g' b k hat⟩
 refine⟨⟨rfl,fun b y hy=> ?_,fun b c y z k hb hc hat hat'=> ?_,fun k o hk' hz=>hk.heap.zsep k o (hown k hk') hz,hk.heap.zlt,hk.heap.tab⟩,⟨hk.le.Z,hn,hk.le.blk,hk.le.val,hk.le.cd⟩,hk.fr,hk.znew,fun k hk'=>hk.own k (hown k hk')⟩
 ·obtain⟨x,hx,hw⟩:=hw b y hy;exact hw.1 w' g' b (fun _ _ h=>by cases h) (hk.heap.rep b x hx)
 ·obtain⟨x,hx,hw1⟩:=hw b y hb;obtain⟨x',hx',hw2⟩:=hw c z hc;exact hk.heap.sep b c x x' k hx hx' (hw1.2 g' b k hat) (hw2.2 g' c k hat')
def u3d {E:Env}(hE:E.Ok){ss:List Sh}{mk:List D->Option V}{sks:List BSk}{ds:List D}{j:Nat}{q:V × List Box}(h:(u3e sy ss mk sks ds j).run E=some q):
  ∃xs k,xs.length=ss.length/\(∀(i:Nat) x,xs[i]? =some x->ds[j+i]? =some x)/\mk xs=some q.1/\(y4o sy sks ds (j+ss.length)).run E=some (q.2,k):=by
 unfold u3e at h;obtain⟨xs,h1,h⟩:=x0c hE h;obtain⟨q1,q2⟩:=x9r hE h1;split at h
 ·rename_i v hv;obtain⟨q',h2,h⟩:=x0c hE h;cases h;exact⟨xs,q'.2,q1,q2,hv,h2⟩
 ·cases h
def v7k {xs ds full:List D}{j:Nat}(hl:xs.length=ds.length)(hx: ∀(i:Nat) x,xs[i]? =some x->full[j+i]? =some x)(hd:At full j ds):xs=ds:=by
 apply List.ext_getElem?;intro i;cases hi:xs[i]? with
 |none=>
  have:=List.getElem?_eq_none_iff.1 hi;exact(List.getElem?_eq_none_iff.2 (by omega)).symm
 |some x=>
  have h1:=hx i x hi;have hlt:i < ds.length:=by rw[<-hl];exact(a0c.1 hi).1
  have h2:=hd i ds[i] (a0b hlt);rw[a0b hlt,<-h1,h2]
def y2s: ∀ {ts:List TypeId} {ds:List D} {vs:List V},u4w P ts ds=some vs-> ∀v∈vs,(∃cs,v= .agg cs)\/ ∃d,v= .d d
 | [],[],vs,h=>by cases h;simp
 | [],_::_,vs,h=>by cases h
 |t::ts,ds,vs,h=>by
  unfold u4w at h;split at h
  ·split at h
   ·rename_i vs' _ h2;cases h;intro v hv;rcases a1n.1 hv with rfl|hv
    ·exact .inl ⟨_,rfl⟩
    ·exact y2s h2 v hv
   ·cases h
  ·split at h
   ·split at h
    ·rename_i vs' h2;cases h;intro v hv;rcases a1n.1 hv with rfl|hv
     ·exact .inr ⟨_,rfl⟩
     ·exact y2s h2 v hv
    ·cases h
   ·cases h
  ·cases h
def q3l {ts:List TypeId}{ds:List D}{v:V}(h:mkV P ts ds=some v):y1l v=none:=by
 cases hp:y1l v with
 |none=>rfl
 |some p=>
  exfalso;have e:=z4y hp;subst e;unfold mkV at h;split at h
  ·rename_i v hv;cases h;rcases y2s hv _ a0t with⟨cs,h⟩|⟨d,h⟩<;>cases h
  ·rename_i vs _ hv;cases h;rcases y2s hv _ a0t with⟨cs,h⟩|⟨d,h⟩<;>cases h
  ·cases h
def At.self (a b c:List D):At (a++b++c) a.length b:=fun i x hx=>by
 have hi:=(a0c.1 hx).1;rw[List.append_assoc,List.getElem?_append_right (by omega),Nat.add_sub_cancel_left,List.getElem?_append_left hi];exact hx
def At.last (a b c:List D):At (a++b++c) (a.length+b.length) c:=fun i x hx=>by
 rw[List.getElem?_append_right (by simp only[a0k];omega),a0k,Nat.add_sub_cancel_left];exact hx
def v2t (hE:E.Ok)(hN:q0q E)(hG:x2l P E)(hB:q8a P E)(hm:P.follows .mixedOrders=true){f:FuncId}{pn:Nat}{args:List V}{hs:List Box}{p:PRes}(hk:(q4p sy P Cs f pn args hs).run E=some p):q8d P f pn args hs p:=by
 unfold q4p at hk;split at hk
 ·rename_i fn hf hyb;split at hk
  ·rename_i c hb;rw[forceL_eq]at hk;obtain⟨r1,h1,hk⟩:=x0c hE hk;intro ts E' q hE' hsig hq;have hts:ts=fn.resultTypes.toList:=by
    have hg:=x3w hsig;unfold z3o at hsig;rw[hg,hf]at hsig;exact(Option.some.inj hsig).symm
   have hok: ∀x∈hs.map Box.sk,x.okY (fun _=>none):=fun x hx=>by
    have hy:=a0l.1 hyb x hx;cases x with
    |cells k l=>exact x9s l hy
    |_=>exact trivial
   refine z8s.of fun g w us hs' hu=> ?_
   have hgn:g.n=hs.length:=hs'.n;have weak: ∀ {sks:List BSk} {g2:Gh} {h2 ys:List Box} {w2:World} {xs full:List D} {j k:Nat},sks.length=hs.length->(∀x∈sks,x.okY (fun _=>none))->Keep (x8f hs) g hs w g2 h2 w2->BSk.j0w hs.length sks h2=some xs->At full j xs->
       (y4o sy sks full j).run E'=some (ys,k)->Keep (x8f hs) g hs w (g2.cut ys.length) ys w2:=by
    intro sks g2 h2 ys w2 xs full j k hsl hok hk hfit hat hop;obtain⟨ys',e2,l2,l3,w2'⟩:=y7b hE' (n:=hs.length) (c:=fun _=>none) sks hfit hok hat
    rw[e2]at hop;cases hop;have hl:ys.length=hs.length:=by rw[l2,hsl]
    exact hk.less (by omega) (by rw[hl];exact w2')
   refine callsIn_wide.1 (callsIn_of_wp_marks (F:=Fence.wide) (n:=0) hf hb trivial ?_);have hEn:=z2i (fn:=fn) (x8f hs) (hs:=hs') (hu:=hu);have h1':(x3j sy P false (Cs f) (u3t sy P Cs 8) g.n (x8f hs) false 0 c (x4h fn args hs)).run E=some r1:=by rw[hs'.n];exact h1
   refine wpIn_mono (x4i (ro:=none) (En:=⟨w,g,hs,x8f hs,(x4h fn args hs).t.length,[],false⟩) (fun _=>rfl) hE hN hG (x6f hE hN hG hB hm 8) (fun _=>rfl) hm c 0 _ _ _ r1 h1' hEn) fun e a' w' hr=> ?_
   obtain⟨e1,s'⟩:=r1;rcases hr.split with⟨rfl,⟨u,rfl⟩,p0,t,ht,hpan⟩|⟨hx,rfl,g',hs2⟩
   ·obtain⟨g',u',he,hru,hs2⟩:=hpan;cases he;refine z1f rfl rfl hs2 hru fun a2 w2 ha2 hs3 hru=> ?_
    obtain⟨k1,k2,k3,k4⟩:=hs3.keep;have hkeep:Keep (x8f hs) g hs w g' s'.h w2:=⟨hs3.heap,k1,k2,fun b o hz=>(k3 b o hz),k4⟩
    cases pn with
    |zero=>cases hk
    |succ m=>
     unfold endB at hk;simp only[ht]at hk;cases p0 with
     |ifc tt cs=>
      simp only at hk;split at hk
      ·rename_i ps hd hps;have hd:=a0e hd;subst hd;split at hk
       ·rename_i ds xs hfit hbx;cases hk;obtain⟨rfl,hl,_⟩:=y0a hfit;unfold v3s at hq;split at hq
        ·rename_i ss hss;simp only[hps,Tree.run,PRes.leaves,w5n]at hq;have e0:opB (sy.cell ([D.bool true]++ds++xs) 0)=some true:=rfl;rw[e0]at hq;simp only[a1i]at hq;obtain⟨xs0,k0,l0,x0,mk0,op0⟩:=u3d hE' hq;have e1:xs0=ds:=v7k (by omega) x0 (At.self [D.bool true] ds xs)
         subst e1;have e2:q.1=v7n (.ifc (m+1) xs0):=(Option.some.inj mk0).symm;have hw:=weak (a1f _) hok hkeep hbx (At.last [D.bool true] xs0 xs) (by rw[hl];exact op0)
         refine⟨_,?_,hw⟩;rw[e2];show q7u _ _ _ _;refine⟨_,rfl,?_⟩;cases hru with
         |ifc _ us _ hl' h'=>exact .ifc _ us _ hl' h'
        ·cases hq
       ·cases hk
      ·cases hk
     |_=>cases hk
   ·have fin: ∀(e:Exit),(e= .normal\/e= .ret)->(endB P fn pn args hs (e,s')).run E=some p->LeavesInM Fence.wide 0 P fn a'.tmps (fun e w'=> ∃g',w7q q.1 e w' g'/\Keep (x8f hs) g hs w g' q.2 w') a'.defers .returning w':=by
     intro e he hk;have hk:Tree.run E (match z9p P s' fn.results.toList with
      |some v0=>match z9p P (s'.frz v0.j1c) fn.results.toList with
       |some v=>match v1u P fn.resultTypes.toList v,fitB P args hs (s'.frz v0.j1c).h pn with
        |some ds,some (fl,xs)=> .ret (.val (fl++ds++xs))
        |_,_=> .fail
       |none=> .fail
      |none=> .fail)=some p:=by rcases he with rfl|rfl<;>exact hk
     refine y6q rfl rfl hs2 fun a2 w2 ha2 hs3=> ?_
     rw[<-ha2];split at hk
     ·rename_i v0 hv0;split at hk
      ·rename_i v hv;split at hk
       ·rename_i ds fl xs hds hbx;cases hk;obtain⟨g1,hs4⟩:=x1t.frzs (bs:=v0.j1c) ⟨g',hs3⟩;obtain⟨k1,k2,k3,k4⟩:=hs4.keep;have hkeep:Keep (x8f hs) g hs w g1 (s'.frz v0.j1c).h w2:=⟨hs4.heap,k1,k2,fun b o hz=>(k3 b o hz),k4⟩
        obtain⟨u,hu',hr⟩:=y0n hs4 hv;obtain⟨v2,m1,m2,ss,m3,m4⟩:=u8e hds;rw[<-hts]at m1 m3;have key: ∃sks k0,sks.length=hs.length/\(∀x∈sks,x.okY (fun _=>none))/\BSk.j0w hs.length sks (s'.frz v0.j1c).h=some xs/\mkV P ts ds=some q.1/\(y4o sy sks (fl++ds++xs) (fl.length+ds.length)).run E'=some (q.2,k0):=by
         unfold v3s at hq;rw[m3]at hq;unfold fitB at hbx;have step: ∀ {sks:List BSk},(u3e sy ss (mkV P ts) sks (fl++ds++xs) fl.length).run E'=some q-> ∃k0,mkV P ts ds=some q.1/\(y4o sy sks (fl++ds++xs) (fl.length+ds.length)).run E'=some (q.2,k0):=by
          intro sks hq;obtain⟨xs0,k0,l0,x0,mk0,op0⟩:=u3d hE' hq;have e1:xs0=ds:=v7k (by omega) x0 (At.self fl ds xs)
          subst e1;exact⟨k0,mk0,by rw[m4];exact op0⟩
         cases pn with
         |zero=>
          simp only at hq hbx;cases ha:w7j P args hs with
          |none=>
           rw[ha]at hq hbx;simp only at hq hbx;split at hbx
           ·rename_i xs' hx';cases hbx;obtain⟨k0,h1,h2⟩:=step hq;exact⟨_,k0,a1f _,hok,hx',h1,h2⟩
           ·cases hbx
          |some sk2=>
           rw[ha]at hq hbx;simp only at hq hbx;split at hbx
           ·rename_i xs' hx';cases hbx;simp only[Tree.run,PRes.leaves]at hq;have e0:opB (sy.cell ([D.bool false]++ds++xs) 0)=some false:=rfl;rw[e0]at hq;simp only[a1i]at hq;obtain⟨k0,h1,h2⟩:=step hq;exact⟨_,k0,a1f _,hok,hx',h1,h2⟩
           ·split at hbx
            ·rename_i xs' hx' hyb2;cases hbx;simp only[Tree.run,PRes.leaves]at hq;have e0:opB (sy.cell ([D.bool true]++ds++xs) 0)=some true:=rfl;rw[e0]at hq;simp only[a1i]at hq;obtain⟨k0,h1,h2⟩:=step hq;refine⟨_,k0,?_,fun x hx=> ?_,hx',h1,h2⟩
             ·unfold w7j at ha;split at ha
              ·split at ha
               ·cases ha;simp
               ·cases ha
              ·cases ha
             ·have hy:=a0l.1 hyb2 x hx;cases x with
              |cells k l=>exact x9s l hy
              |_=>exact trivial
            ·cases hbx
         |succ m=>
          simp only at hq hbx;split at hbx
          ·rename_i xs' hx';cases hbx;split at hq
           ·simp only[Tree.run,PRes.leaves,w5n]at hq;have e0:opB (sy.cell ([D.bool false]++ds++xs) 0)=some false:=rfl;rw[e0]at hq;simp only[a1i]at hq;obtain⟨k0,h1,h2⟩:=step hq;exact⟨_,k0,a1f _,hok,hx',h1,h2⟩
           ·cases hq
          ·cases hbx
        obtain⟨sks,k0,hsl,hsok,hsfit,hmk,hop⟩:=key;have hw:=weak hsl hsok hkeep hsfit (At.last fl ds xs) hop;refine⟨u,hu',_,?_,hw⟩;unfold w7q;rw[q3l hmk];rw[m1]at hmk;refine⟨u,rfl,?_⟩;rw[<-Option.some.inj hmk];exact m2 w2 g1 _ u rfl hr
       ·cases hk
      ·cases hk
     ·cases hk
    cases e with
    |normal=>exact fin _ (.inl rfl) hk
    |ret=>exact fin _ (.inr rfl) hk
    |outgrown=>exact(hx rfl).elim
    |_=>cases hk
  ·cases hk
 ·cases hk
def q7y (P:Program)(K:FuncId->List V->Option PRes):Prop:=KV P/\(∀f args p,x4o P f=true->args.all V.j0e=true->K f args=some p->u3n P f args p)/\ ∀f key pn as hs p,x4o P (y8m f)=false->y0d key=some (pn,as,hs)->K (y8m f) key=some p->q8d P f pn as hs p
def x7j (P:Program)(Cs:FuncId->CfgT)(K:FuncId->List V->Option PRes):Nat->FuncId->List V->Option PRes
 |0,_,_=>none
 |n+1,f,args=>match K f args with
  |some p=>some p
  |none=>match x4o P f with
   |true=>(k2l sy P Cs f args).run (u3s n (x7j P Cs K n))
   |false=>match y0d args,v8r f with
    |some (pn,as,hs),true=>(q4p sy P Cs (v1c f) pn as hs).run (u3s n (x7j P Cs K n))
    |_,_=>none
def v0j (f:Nat):v1c (y8m f)=f:=by unfold y8m v1c;omega
def w1q (f:Nat):v8r (y8m f)=true:=a0s (by unfold y8m;omega)
def w6i {K:FuncId->List V->Option PRes}{n:Nat}{f k:FuncId}{key as:List V}{pn:Nat}{hs:List Box}(h2:v8r k=true)(h1:v1c k=f)(hg:x4o P k=false)(hd:y0d key=some (pn,as,hs))(hk:K k key=none):
  x7j P Cs K (n+1) k key=(q4p sy P Cs f pn as hs).run (u3s n (x7j P Cs K n)):=by
 subst h1;rw[x7j];rw[hk];simp only;rw[hg];simp only;rw[hd,h2]
def u6h {K:FuncId->List V->Option PRes}{n:Nat}{k:FuncId}{key:List V}{p:PRes}(hk:K k key=some p):x7j P Cs K (n+1) k key=some p:=by
 rw[x7j];rw[hk]
def u2v {K:FuncId->List V->Option PRes}{n:Nat}{f:FuncId}{key as:List V}{pn:Nat}{hs:List Box}(hg:x4o P (y8m f)=false)(hd:y0d key=some (pn,as,hs))(hk:K (y8m f) key=none):
  x7j P Cs K (n+1) (y8m f) key=(q4p sy P Cs f pn as hs).run (u3s n (x7j P Cs K n)):=w6i (w1q f) (v0j f) hg hd hk
variable {K : FuncId -> List V -> Option PRes}
def z5s (hm:P.follows .mixedOrders=true)(hK:q7y P K): ∀n m,x2l P (u3s m (x7j P Cs K n))/\q8a P (u3s m (x7j P Cs K n))
 |0,m=>⟨⟨hK.1,fun f args p _ _ h=>by cases h⟩,fun f key pn as hs p _ _ h=>by cases h⟩
 |n+1,m=>by
  have ih:=z5s hm hK n n;refine⟨⟨hK.1,fun f args p hg hp h=> ?_⟩,fun f key pn as hs p hg hd h=> ?_⟩
  ·have h:x7j P Cs K (n+1) f args=some p:=h;unfold x7j at h;split at h
   ·rename_i hk;cases h;exact hK.2.1 f args _ hg hp hk
   ·rw[hg]at h;exact v2s (w0c n _) ⟨n,fun b ds=>rfl⟩ ih.1 ih.2 hm (fun _ _=>hg) h
  ·have h:x7j P Cs K (n+1) (y8m f) key=some p:=h;cases hk:K (y8m f) key with
   |some p'=>
    rw[u6h hk]at h;cases h;exact hK.2.2 f key pn as hs _ hg hd hk
   |none=>
    rw[u2v hg hd hk]at h;exact v2t (w0c n _) ⟨n,fun b ds=>rfl⟩ ih.1 ih.2 hm h
open Classical in
noncomputable def z4d (P:Program) (Cs:FuncId->CfgT) (K:FuncId->List V->Option PRes) (f:FuncId) (args:List V):Option PRes:=
 if h: ∃p N,∀n,N<=n->x7j P Cs K n f args=some p then some (Classical.choose h)else none
def x7o {f:FuncId}{args:List V}{p:PRes}:z4d P Cs K f args=some p↔ ∃N,∀n,N<=n->x7j P Cs K n f args=some p:=by
 unfold z4d;constructor
 ·intro h;split at h
  ·rename_i hx;cases h;exact Classical.choose_spec hx
  ·cases h
 ·rintro⟨N,h⟩
  have hx: ∃p N,∀n,N<=n->x7j P Cs K n f args=some p:=⟨p,N,h⟩
  rw[dif_pos hx];obtain⟨N',h'⟩:=Classical.choose_spec hx;have h1:=h (max N N') (by omega)
  have h2:=h' (max N N') (by omega)
  rw[h1]at h2;exact h2.symm
def z7x {f:FuncId}{args:List V}{p:PRes}(hg:x4o P f=true)(hk:K f args=none)(h:(k2l sy P Cs f args).run (v4h (z4d P Cs K))=some p):z4d P Cs K f args=some p:=by
 obtain⟨N,hN⟩:=v6m (cN:=x7j P Cs K) (fun f args p h=>x7o.1 h) _ p h
 refine x7o.2 ⟨N+1,fun n hn=> ?_⟩
 obtain⟨n,rfl⟩: ∃k,n=k+1:=⟨n - 1,by omega⟩
 simp only[x7j,hk,hg];exact hN n n (by omega) (by omega)
def u2w {f:FuncId}{pn:Nat}{as key:List V}{hs:List Box}{p:PRes}(hg:x4o P (y8m f)=false)(hk:K (y8m f) key=none)(hd:y0d key=some (pn,as,hs))(h:(q4p sy P Cs f pn as hs).run (v4h (z4d P Cs K))=some p):z4d P Cs K (y8m f) key=some p:=by
 obtain⟨N,hN⟩:=v6m (cN:=x7j P Cs K) (fun f args p h=>x7o.1 h) _ p h
 refine x7o.2 ⟨N+1,fun n hn=> ?_⟩
 obtain⟨n,rfl⟩: ∃k,n=k+1:=⟨n - 1,by omega⟩
 rw[u2v hg hd hk];exact hN n n (by omega) (by omega)
def x8c {f:FuncId}{args:List V}{p:PRes}(hk:K f args=some p):z4d P Cs K f args=some p:=
 x7o.2 ⟨1,fun n hn=>by
  obtain⟨n,rfl⟩: ∃k,n=k+1:=⟨n - 1,by omega⟩
  simp only[x7j,hk]⟩
def v3j (hm:P.follows .mixedOrders=true)(hK:q7y P K){f:FuncId}{args:List V}{p:PRes}(hg:x4o P f=true)(hp:args.all V.j0e=true)(h:z4d P Cs K f args=some p):u3n P f args p:=by
 obtain⟨N,hN⟩:=x7o.1 h;exact(z5s hm hK N 0).1.2 f args p hg hp (hN N (a0q _))
end
def bs (l:List UInt8):BA:=⟨⟨l⟩⟩
def v3e {α:Type}(x:Option (List D ⊕ α))(K:List D->Option α):Option α:=x.bind fun s=>match s with
 | .inl ds=>K ds
 | .inr a=>some a
def u1z:Code->Option (Array Tmp × Code × Code)
 | .rangeFunc _ ps a b=>some (ps,a,b)
 | .seq a b=>match u1z a with
   |some x=>some x
   |none=>u1z b
 | .cond _ a b=>match u1z a with
   |some x=>some x
   |none=>u1z b
 | .block _ b=>u1z b
 | .loop b=>u1z b
 | .scope b=>u1z b
 |_=>none
def k9o (P:Program)(f:Nat):RecI:=match (P.funcs[f]?).bind (·.body)with
 |some c=>match u1z c with
  |some (ps,a,b)=>⟨f,ps,a,b⟩
  |none=>⟨0, #[], .skip, .skip⟩
 |none=>⟨0, #[], .skip, .skip⟩
section
variable (a b c : Int) (k : IntKind) (l m : LL) (s u : BA) (p q : Bool) (n j : Nat) (ds es : List D) (d e : D)
def v5l:sy.wrap k a=k.wrap a:=rfl
def w8n:sy.add a b=a+b:=rfl
def w8c:sy.sub a b=a - b:=rfl
def w8e:sy.mul a b=a*b:=rfl
def w8i:sy.ieq a b=decide (a=b):=rfl
def v5s:sy.ilt a b=decide (a < b):=rfl
def w8h:sy.ile a b=decide (a<=b):=rfl
def u7d:sy.seq s u=(s.toList == u.toList):=rfl
def w8m:sy.beq p q=(p == q):=rfl
def w8l:sy.bor p q=(p || q):=rfl
def v5v:sy.bnot p= !p:=rfl
def v5r:sy.imax a b=max a b:=rfl
def v5q:sy.imin a b=min a b:=rfl
def z6h:sy.rlen l=l.length:=rfl
def z0a:sy.slen s=s.size:=rfl
def u4i:sy.sapp s u=s++u:=rfl
def w8g:sy.inr a b=decide (0<=a/\a < b):=rfl
def w8d:sy.nat a=a.toNat:=rfl
def z6i:sy.cell (d::ds) 0=some d:=rfl
def u7h:sy.cell (d::ds) (n+1)=sy.cell ds n:=rfl
def u7c:sy.skip 0 ds=ds:=rfl
def v5p:sy.inrn n l=decide (n < l.length):=rfl
def v5n:sy.rapp l m=l++m:=rfl
def v5u:sy.fits l m n=decide ((l.length+m.length)*(n+1)<=140737488355328):=rfl
def u7g:sy.cutok a b c=decide (0<=a/\a<=b/\b<=c):=rfl
def w8k:sy.cut l a b=(l.take b.toNat).drop a.toNat:=rfl
def u4h:sy.scut s a b=s.extract a.toNat b.toNat:=rfl
def u7e:sy.sbyte s a=((s.data.getD a.toNat 0).toNat:Int):=rfl
def v5o:sy.mkok a b n=decide (a=b/\0<=a/\a*(n+1)<=140737488355328):=rfl
def u7f:sy.mkok0 a n=decide (0<=a/\a*(n+1)<=140737488355328):=rfl
def w8f:sy.mkz a n=decide (0 < a/\a*(n+1)<=140737488355328):=rfl
def v5m:sy.rep a ds=List.replicate a.toNat ds:=rfl
def v5t:sy.head l a=l.take a.toNat:=rfl
def w8j:sy.deq ds es=y7u ds es:=rfl
def y5z:sy.rdec s a=u2n s a:=rfl
def y5y:sy.rwid s a=w6b s a:=rfl
def q1y:sy.sidx s a=Lib.indexByte s.data.toList a.toNat.toUInt8:=rfl
def q1z:sy.scnt s a=(Lib.countByte s.data.toList a.toNat.toUInt8:Nat):=rfl
def y1r:sy.row l a=l.getD a.toNat []:=rfl
def q2a:sy.rown l n=l.getD n []:=rfl
def u4q:opI (some (.int k a)) k=some a:=by simp[opI]
def u8g:opB (some (.bool p))=some p:=rfl
def v7q:opS (some (.str s))=some s:=rfl
def w8y:opL (some (.sl n l)) n=some l:=by simp[opL]
def v7r (t:TypeId):opM (some (.own t n l)) t n=some l:=by simp[opM]
def y6p:(PRes.val ds).leaves=ds:=rfl
def z5f (t:TypeId):(PRes.own t n l).leaves= [.sl n l]:=rfl
def u9o:y7u [] es=true:=by cases es<;>rfl
def u9p:y7u (.int k a::ds) (.int k b::es)=(decide (a=b)&&y7u ds es):=by
 show((a == b)&&_)=_;congr 1
end
section
variable {α β : Type} (x y : Option (List D ⊕ α)) (K : List D -> Option α) (ds : List D) (a : α) (c p q : Bool)
def u9w:v3e (some (.inl ds)) K=K ds:=rfl
def u9v:v3e (some (.inr a)) K=some a:=rfl
def u2o:v3e (bif c then some (.inl [.bool p])else some (.inl [.bool q])) K=K [.bool (bif c then p else q)]:=by cases c<;>rfl
def v0o:(bif c then some (Sum.inl [D.bool p])else some (Sum.inl [D.bool q]):Option (List D ⊕ α))=some (.inl [.bool (bif c then p else q)]):=by cases c<;>rfl
end
def x0v {n:Int}(h1: -9223372036854775808<=n)(h2:n<=9223372036854775807):IntKind.i64.wrap n=n:=by
 simp[IntKind.wrap,IntKind.bits,IntKind.signed];omega

def u0v {α:Type}(d:α):List (Nat × α)->Nat->α
 | [],_=>d
 |(k,x)::r,n=>match Nat.beq k n with
  |true=>x
  |false=>u0v d r n
def q3q:List (Nat × List (Nat × LAn)):=[(7,[(2,{ slots:=[(1,none),(3,none),(5,none)] }),(0,{ slots:=[(1,none),(3,none),(4,none)] })]),
 (8,[(0,{ slots:=[(2,none),(3,none),(5,none)] })]),
 (10,[(2,{ slots:=[(2,none),(4,none),(17,none),(18,none),(19,none),(25,none),(26,none),(27,none)] }),(0,{ slots:=[(2,none),(17,none),(18,none),(19,none)] })]),
 (12,[(0,{ slots:=[(1,none),(4,none),(5,none),(6,none),(7,none)] })]),
 (13,[(0,{ slots:=[(0,none),(3,none),(4,none)] })]),
 (14,[(0,{ slots:=[(3,none),(5,none),(6,none)] })]),
 (15,[(0,{ slots:=[(0,none),(1,none),(5,none)] })]),
 (16,[(0,{ slots:=[(2,none),(3,none),(5,none)] })]),
 (17,[(0,{ slots:=[(0,none),(7,none),(8,none)],own:=[(1000,7,52)] })]),
 (18,[(2,{ slots:=[(0,none),(2,none),(4,none)],own:=[(3,1,24)] }),(0,{ slots:=[(0,none),(2,none),(4,none)],own:=[(3,1,24)],own2:=[(3,0,1,2,23)],dat:=[(1,3,65)] })]),
 (20,[(0,{ slots:=[(1,none),(4,none),(14,none),(15,none),(16,none)],own:=[(1000,4,41)] })]),
 (21,[(2,{ slots:=[(2,none),(4,none),(5,none),(6,none),(7,none),(8,none),(16,none),(17,none),(18,none)] }),(0,{ slots:=[(2,none),(16,none),(17,none),(18,none)] })]),
 (24,[(4,{ slots:=[(3,none),(4,none),(7,none)] }),(2,{ slots:=[(0,none),(3,none),(4,none),(6,none)] }),(0,{ slots:=[(0,none),(3,none),(4,none),(5,none)] })]),
 (25,[(2,{ slots:=[(3,none),(7,none)] }),(0,{ slots:=[(0,none),(3,none),(5,none),(6,none)] })]),
 (26,[(2,{ slots:=[(0,none),(3,none),(4,none)] }),(0,{ slots:=[(0,none),(3,none)] })]),
 (27,[(0,{ slots:=[(0,none),(3,none),(4,none)] })]),
 (29,[(0,{ slots:=[(0,none),(1,none),(5,none),(6,none)] })]),
 (31,[(0,{ slots:=[(0,none),(1,none),(5,none)] })]),
 (32,[(0,{ slots:=[(0,none),(1,none),(5,none)] })]),
 (33,[(0,{ slots:=[(2,none),(3,none),(5,none)] })]),
 (38,[(0,{ slots:=[(0,none),(2,none),(3,none)],own:=[(3,4,47)] })]),
 (45,[(3,{ slots:=[(1,none),(3,none),(6,none),(48,none),(49,none),(50,none)] }),(0,{ slots:=[(0,none),(1,none),(3,none),(6,none)] })]),
 (46,[(0,{ slots:=[(0,none),(3,none),(4,none),(5,none),(12,none),(13,none),(14,none)],own:=[(1000,3,41),(0,0,41)] })]),
 (50,[(2,{ slots:=[(3,none),(36,none),(37,none),(38,none)] }),(0,{ slots:=[(3,none),(5,none),(14,none),(15,none),(16,none)] })]),
 (52,[(0,{ slots:=[(3,none),(7,none),(8,none),(9,none)],own:=[(1000,3,41)] })]),
 (53,[(0,{ slots:=[(3,none),(7,none),(8,none),(9,none)] })]),
 (54,[(0,{ slots:=[(1,none),(2,none),(14,none),(15,none)] })]),
 (55,[(2,{ slots:=[(1,none),(4,none),(5,none),(6,none),(16,none),(17,none)] }),(0,{ slots:=[(1,none),(4,none),(5,none)] })]),
 (62,[(0,{ slots:=[(1,none),(3,none)] })]),
 (64,[(0,{ slots:=[(3,none),(4,none)] })]),
 (65,[(3,{ slots:=[(1,none),(3,none),(5,none),(6,none)] }),(0,{ slots:=[(1,none),(3,none),(4,none)] })]),
 (66,[(0,{ slots:=[(0,none),(1,none),(5,none)] })]),
 (76,[(0,{ slots:=[(0,none),(2,none),(7,none),(8,none),(9,none)] })]),
 (79,[(0,{ slots:=[(0,none),(6,none),(7,none),(8,none)] })]),
 (80,[(0,{ slots:=[(0,none),(1,none),(5,none)] })]),
 (81,[(0,{ slots:=[(0,none),(1,none),(5,none)] })]),
 (96,[(0,{ slots:=[(1,none),(2,none),(14,none),(15,none),(16,none)] })]),
 (97,[(2,{ slots:=[(1,none),(2,none),(4,none),(46,none),(47,none),(48,none)] }),(0,{ slots:=[(1,none),(2,none),(3,none),(4,none),(28,none),(29,none),(30,none)] })]),
 (98,[(2,{ slots:=[(1,none),(2,none),(3,none),(12,none),(13,none),(14,none),(26,none),(27,none),(28,none)] }),(0,{ slots:=[(1,none),(2,none),(3,none),(12,none),(13,none),(14,none)] })]),
 (100,[(0,{ slots:=[(3,none),(12,none),(13,none),(14,none)] })]),
 (101,[(0,{ slots:=[(0,none),(1,none),(7,none),(8,none)] })]),
 (102,[(0,{ slots:=[(2,none),(4,none),(6,none),(9,none),(10,none),(11,none)] })]),
 (107,[(0,{ slots:=[(0,none),(1,none),(4,none)] })]),
 (108,[(0,{ slots:=[(0,none),(1,none),(3,none),(4,none),(10,none),(11,none),(12,none),(13,none),(14,none),(15,none),(16,none)] }),(2,{ slots:=[(0,none),(1,none),(3,none),(4,none),(10,none),(11,none),(12,none),(13,none),(17,none)] })]),
 (109,[(0,{ slots:=[(0,none),(7,none)] })]),
 (110,[(0,{ slots:=[(0,none),(3,none),(4,none)] })]),
 (115,[(0,{ slots:=[(1,none),(3,none),(4,none)] })]),
 (116,[(0,{ slots:=[(1,none),(3,none),(4,none)] })]),
 (117,[(0,{ slots:=[(1,none),(3,none),(4,none)] })]),
 (121,[(0,{ slots:=[(0,none),(3,none),(4,none)] })]),
 (128,[(0,{ slots:=[(6,none),(7,none),(8,none)] })]),
 (129,[(6,{ slots:=[(0,none),(9,none),(10,none),(12,none)] }),(4,{ slots:=[(0,none),(9,none),(10,none),(11,none),(12,none)] }),(2,{ slots:=[(0,none),(9,none),(10,none),(12,none)] }),(0,{ slots:=[(0,none),(3,none),(4,none),(5,none),(6,none)] })]),
 (135,[(0,{ slots:=[(0,none),(1,none),(8,none)] })]),
 (137,[(2,{ slots:=[(0,none),(3,none),(7,none),(8,none),(9,none),(15,none),(16,none),(17,none)] }),(0,{ slots:=[(0,none),(7,none),(8,none),(9,none)],own:=[(0,0,41)] })]),
 (139,[(0,{ slots:=[(0,none),(1,none),(7,none),(8,none)] })]),
 (143,[(2,{ slots:=[(6,none),(25,none),(26,none),(27,none)] }),(0,{ slots:=[(0,none),(3,none),(9,none),(10,none),(11,none)] })]),
 (144,[(0,{ slots:=[(0,none),(1,none),(7,none),(8,none)] })]),
 (148,[(0,{ slots:=[(1,none),(2,none),(14,none),(15,none)] })]),
 (149,[(2,{ slots:=[(1,none),(2,none),(4,none),(42,none),(43,none),(44,none)] }),(0,{ slots:=[(1,none),(2,none),(4,none),(19,none),(20,none),(21,none)] })]),
 (150,[(0,{ slots:=[(2,none),(8,none),(27,none),(28,none),(29,none)] })]),
 (152,[(0,{ slots:=[(5,none),(27,none),(28,none),(29,none)] })]),
 (163,[(0,{ slots:=[(1,none),(3,none)] })]),
 (165,[(0,{ slots:=[(1,none),(3,none)] })]),
 (166,[(0,{ slots:=[(0,none),(3,none),(4,none)] })]),
 (169,[(1,{ slots:=[(0,none),(1,none),(5,none),(6,none),(7,none),(8,none),(9,none),(10,none)] })]),
 (172,[(2,{ slots:=[(0,none),(9,none),(47,none),(48,none),(49,none)] }),(0,{ slots:=[(0,none),(1,none),(5,none),(6,none),(14,none)] })]),
 (178,[(0,{ slots:=[(0,none),(1,none),(7,none),(8,none)] })]),
 (182,[(0,{ slots:=[(3,none),(7,none),(8,none),(9,none)] })]),
 (185,[(0,{ slots:=[(0,none),(1,none),(7,none),(8,none)] })]),
 (186,[(2,{ slots:=[(5,none),(37,none),(38,none),(39,none)] }),(0,{ slots:=[(5,none),(22,none),(23,none),(24,none)] })]),
 (187,[(4,{ slots:=[(0,none),(2,none),(3,none),(65,none),(66,none),(67,none)] }),(2,{ slots:=[(0,none),(2,none),(3,none),(4,none),(39,none),(40,none),(41,none)] }),(0,{ slots:=[(0,none),(2,none),(3,none),(4,none),(25,none),(26,none),(27,none)] })]),
 (190,[(0,{ slots:=[(1,none),(2,none),(6,none),(9,none)] })]),
 (195,[(1,{ slots:=[(3,none),(29,none),(30,none),(31,none)] })]),
 (198,[(2,{ slots:=[(3,none),(4,none),(6,none),(7,none)] }),(0,{ slots:=[(3,none),(4,none)] })]),
 (201,[(3,{ slots:=[(1,none),(8,none),(9,none),(10,none),(11,none),(12,none),(13,none),(99,none),(100,none),(101,none)] })]),
 (208,[(2,{ slots:=[(0,none),(1,none),(5,none),(6,none),(7,none),(8,none),(10,none)] }),(0,{ slots:=[(0,none),(1,none),(5,none),(6,none),(7,none),(8,none),(9,none)] })]),
 (209,[(0,{ slots:=[(0,none),(1,none),(2,none),(3,none),(9,none),(10,none)] })]),
 (211,[(0,{ slots:=[(0,none),(6,none)] })]),
 (219,[(0,{ slots:=[(1,none),(12,none),(13,none),(14,none)] })]),
 (226,[(0,{ slots:=[(2,none),(3,none),(4,none),(10,none),(11,none),(12,none),(26,none)] })]),
 (229,[(0,{ slots:=[(9,none),(11,none),(42,none),(43,none),(44,none)] })]),
 (231,[(0,{ slots:=[(1,none),(2,none),(15,none),(16,none),(17,none)] })]),
 (232,[(0,{ slots:=[(0,none),(2,none),(3,none)] })]),
 (233,[(0,{ slots:=[(0,none),(1,none),(12,none),(13,none)] })]),
 (235,[(0,{ slots:=[(3,none),(4,none),(7,none),(34,none),(35,none),(36,none)] })]),
 (238,[(0,{ slots:=[(0,none),(1,none),(5,none),(6,none),(7,none)] })]),
 (240,[(0,{ slots:=[(0,none),(3,none),(4,none),(5,none)] })]),
 (243,[(2,{ slots:=[(4,none),(6,none),(7,none),(8,none)] }),(0,{ slots:=[(0,none),(4,none),(5,none)] })]),
 (244,[(0,{ slots:=[(0,none),(1,none),(6,none),(7,none)] })]),
 (245,[(0,{ slots:=[(0,none),(1,none),(5,none)] })]),
 (247,[(2,{ slots:=[(0,none),(1,none),(7,none),(8,none)] }),(0,{ slots:=[(0,none),(1,none),(19,none),(20,none)] })]),
 (248,[(2,{ slots:=[(0,none),(1,none),(7,none),(8,none)] }),(0,{ slots:=[(0,none),(1,none),(15,none),(16,none)] })]),
 (264,[(0,{ slots:=[(2,none),(6,none),(12,none),(13,none),(14,none)] })]),
 (266,[(0,{ slots:=[(0,none),(1,none),(7,none),(8,none)] })]),
 (267,[(0,{ slots:=[(2,none),(4,none)] })]),
 (282,[(0,{ slots:=[(1,none),(2,none),(15,none),(16,none),(17,none)] })]),
 (287,[(0,{ slots:=[(0,none),(6,none),(7,none),(8,none)] })]),
 (291,[(0,{ slots:=[(0,none),(5,none),(7,none),(8,none),(14,none),(15,none),(16,none)] })]),
 (300,[(0,{ slots:=[(0,none),(1,none),(2,none),(3,none),(8,none),(9,none)] })]),
 (305,[(0,{ slots:=[(0,none),(1,none),(12,none),(13,none)] })]),
 (307,[(0,{ slots:=[(0,none),(2,none),(8,none)] })]),
 (310,[(0,{ slots:=[(0,none),(1,none),(7,none),(8,none)] })]),
 (316,[(0,{ slots:=[(0,none),(2,none),(3,none)],dat:=[(2,4,41),(2,5,69)] })]),
 (319,[(0,{ slots:=[(0,none),(1,none),(5,none)] })]),
 (321,[(0,{ slots:=[(0,none),(2,none),(3,none),(4,none)],own:=[(2,4,41),(2,5,69)] })])]
def k2f:List (Nat × List Nat):=[(9,[39,40,77,36,41,78,79,80,37,214,175,176,131,81,132,82,38,18,19]),(18,[39,40,77,36,41,78,79,80,37,214,175,176,131,81,132,82,38]),(20,[47,90,139,48,49,51]),(36,[39,40,77,36,41,78,79,80,37,214,175,176,131,81,132,82,38]),(37,[39,40,77,36,41,78,79,80,37,214,175,176,131,81,132,82,38]),(38,[39,40,77,36,41,78,79,80,37,214,175,176,131,81,132,82,38]),(41,[39,40,77,36,41,78,79,80,37,214,175,176,131,81,132,82,38]),(46,[88,137]),(47,[90,139,48,49,51]),(50,[91,140,94,144,93]),(55,[98,99,100,146,153,185]),(56,[101]),(78,[39,40,77,36,41,78,79,80,37,214,175,176,131,81,132,82,38]),(79,[39,40,77,36,41,78,79,80,37,214,175,176,131,81,132,82,38]),(80,[39,40,77,36,41,78,79,80,37,214,175,176,131,81,132,82,38]),(81,[39,40,77,36,41,78,79,80,37,214,175,176,131,81,132,82,38]),(82,[39,40,77,36,41,78,79,80,37,214,175,176,131,81,132,82,38]),(86,[133,178,249,134]),(90,[139,48,49,51]),(94,[144,93]),(95,[146,185,147]),(98,[]),(99,[146,153,185]),(131,[39,40,77,36,41,78,79,80,37,214,175,176,131,81,132,82,38]),(132,[39,40,77,36,41,78,79,80,37,214,175,176,131,81,132,82,38]),(133,[178,249,134]),(137,[]),(139,[48,49,51,290]),(144,[93,275]),(145,[183]),(146,[147,153,185,192,258,273]),(148,[146,183,185,186,187,218,224,225,226,257,258,259,260,273]),(151,[146,185,192]),(175,[39,40,77,36,41,78,79,80,37,214,175,176,131,81,132,82,38]),(176,[39,40,77,36,41,78,79,80,37,214,175,176,131,81,132,82,38]),(178,[249,134]),(181,[183]),(185,[147,153,185,192,258,273]),(186,[146,183,185,187,218,224,225,226,257,258,259,260,273]),(187,[146,183,185,186,218,224,225,226,257,258,259,260,273]),(189,[230,231]),(190,[232]),(194,[236,237,266]),(214,[39,40,77,36,41,78,79,80,37,214,175,176,131,81,132,82,38,178,249]),(217,[252]),(218,[219]),(219,[219]),(224,[146,183,185,186,187,218,225,226,257,258,259,260,273]),(225,[146,183,185,186,187,218,224,226,257,258,259,260,273]),(226,[146,183,185,186,187,218,224,225,257,258,259,260,273]),(227,[144,261,275]),(231,[230]),(236,[237,266]),(250,[270]),(252,[252,270,271,272,284,285,286,287,288,289,298,299,300,301,307,309,312,314,315,316,317,318,319,320,321,322,323]),(257,[146,183,185,186,187,218,224,225,226,258,259,260,273]),(258,[146,183,185,186,187,218,224,225,226,257,259,260,273]),(259,[146,183,185,186,187,218,224,225,226,257,258,260,273]),(260,[146,183,185,186,187,218,224,225,226,257,258,259,273]),(262,[88,137]),(265,[281,282]),(266,[237,266]),(270,[252,270,271,272,284,285,286,287,288,289,298,299,300,301,307,309,312,314,315,316,317,318,319,320,321,322,323]),(271,[252,270,271,272,284,285,286,287,288,289,298,299,300,301,307,309,312,314,315,316,317,318,319,320,321,322,323]),(272,[252,270,271,272,284,285,286,287,288,289,298,299,300,301,307,309,312,314,315,316,317,318,319,320,321,322,323]),(273,[146,183,185,186,187,218,224,225,226,257,258,259,260]),(274,[139,290]),(282,[281]),(284,[252,270,271,272,284,285,286,287,288,289,298,299,300,301,307,309,312,314,315,316,317,318,319,320,321,322,323]),(285,[252,270,271,272,284,285,286,287,288,289,298,299,300,301,307,309,312,314,315,316,317,318,319,320,321,322,323]),(286,[252,270,271,272,284,285,286,287,288,289,298,299,300,301,307,309,312,314,315,316,317,318,319,320,321,322,323]),(287,[252,270,271,272,284,285,286,287,288,289,298,299,300,301,307,309,312,314,315,316,317,318,319,320,321,322,323]),(288,[252,270,271,272,284,285,286,287,288,289,298,299,300,301,307,309,312,314,315,316,317,318,319,320,321,322,323]),(289,[252,270,271,272,284,285,286,287,288,289,298,299,300,301,307,309,312,314,315,316,317,318,319,320,321,322,323]),(292,[303,304,310]),(298,[252,270,271,272,284,285,286,287,288,289,298,299,300,301,307,309,312,314,315,316,317,318,319,320,321,322,323]),(299,[252,270,271,272,284,285,286,287,288,289,298,299,300,301,307,309,312,314,315,316,317,318,319,320,321,322,323]),(300,[252,270,271,272,284,285,286,287,288,289,298,299,300,301,307,309,312,314,315,316,317,318,319,320,321,322,323]),(301,[252,270,271,272,284,285,286,287,288,289,298,299,300,301,307,309,312,314,315,316,317,318,319,320,321,322,323]),(303,[304,310]),(307,[252,270,271,272,284,285,286,287,288,289,298,299,300,301,307,309,312,314,315,316,317,318,319,320,321,322,323]),(309,[252,270,271,272,284,285,286,287,288,289,298,299,300,301,307,309,312,314,315,316,317,318,319,320,321,322,323]),(310,[304]),(312,[252,270,271,272,284,285,286,287,288,289,298,299,300,301,307,309,312,314,315,316,317,318,319,320,321,322,323]),(314,[252,270,271,272,284,285,286,287,288,289,298,299,300,301,307,309,312,314,315,316,317,318,319,320,321,322,323]),(315,[252,270,271,272,284,285,286,287,288,289,298,299,300,301,307,309,312,314,315,316,317,318,319,320,321,322,323]),(316,[252,270,271,272,284,285,286,287,288,289,298,299,300,301,307,309,312,314,315,316,317,318,319,320,321,322,323]),(317,[252,270,271,272,284,285,286,287,288,289,298,299,300,301,307,309,312,314,315,316,317,318,319,320,321,322,323]),(318,[252,270,271,272,284,285,286,287,288,289,298,299,300,301,307,309,312,314,315,316,317,318,319,320,321,322,323]),(319,[252,270,271,272,284,285,286,287,288,289,298,299,300,301,307,309,312,314,315,316,317,318,319,320,321,322,323]),(320,[252,270,271,272,284,285,286,287,288,289,298,299,300,301,307,309,312,314,315,316,317,318,319,320,321,322,323]),(321,[252,270,271,272,284,285,286,287,288,289,298,299,300,301,307,309,312,314,315,316,317,318,319,320,321,322,323]),(322,[252,270,271,272,284,285,286,287,288,289,298,299,300,301,307,309,312,314,315,316,317,318,319,320,321,322,323]),(323,[252,270,271,272,284,285,286,287,288,289,298,299,300,301,307,309,312,314,315,316,317,318,319,320,321,322,323])]
def q3m:List (Nat × List Nat):=[(143,[180]),(152,[195])]
def k1e:List (Nat × List Nat):=[]
def q2f:List (Nat × List Nat):=[(300,[27])]
def q5h:List (Nat × List Nat):=[]
def k1c:List (Nat × List (Nat × List (Nat × Nat))):=[(46,[(4,[(0,41)])])]
def k5r:List (Nat × List (Nat × Option LAn)):=[(20,[(95,some { slots:=[(1,none),(4,none),(31,some (.d .bool))] }),(122,some { slots:=[(1,none),(4,none),(40,some (.d .bool))] }),(134,some { slots:=[(1,none),(4,none),(44,some (.d .bool))] })]),(38,[(19,some { slots:=[(0,none),(2,none),(3,none)],nb:=4,dat:=[(3,1,46)] }),(37,some { slots:=[(0,none),(2,none),(3,none)],nb:=4,dat:=[(3,3,46)] })]),(50,[(104,some { slots:=[(3,none),(34,some (.d .bool))] })])]
def k9g:List (Nat × Option (List Nat)):=[]
def k1y:List (Nat × List (Nat × Option LAn)):=[(34,[(0,some { slots:=[(0,none),(3,none)] })])]
def k6k:List (Nat × List Nat):=[(19,[0]),(36,[0]),(37,[0]),(38,[0]),(41,[0]),(78,[0]),(79,[0]),(80,[0]),(81,[0]),(82,[0]),(99,[0]),(100,[0]),(131,[0]),(132,[0]),(175,[0]),(176,[0]),(187,[0]),(214,[0]),(219,[0]),(226,[0]),(252,[339]),(259,[0]),(260,[0]),(270,[339]),(271,[339]),(272,[0]),(284,[339]),(285,[0]),(286,[339]),(287,[339]),(288,[339]),(301,[339]),(307,[0]),(309,[339]),(312,[339]),(314,[339]),(315,[339]),(316,[339]),(317,[339]),(318,[339]),(320,[339]),(321,[339]),(322,[339]),(323,[339])]
def k9m:List (Nat × Option (List Nat)):=[(145,some [2]),(181,some [3])]
def dfrL:List Nat:=[217,250]
def k1m:List Nat:=[39,40,47,48,49,51,77,90,93,94,99,133,134,139,140,144,146,147,153,178,185,192,224,225,230,231,232,236,237,249,257,258,260,266,273,275,281,282,290,303,304,310]
def k9y:LAn:= { slots:=[] }
def bxL (f:Nat):Bool:=match u0v [] k6k f with
 | []=>false
 |_=>true
def pnL (f:Nat):Option TypeId:=match u0v [] k6k f with
 | [n]=>match Nat.beq n 0 with
   |true=>none
   |false=>some n
 |_=>none
def cs:FuncId->CfgT:=fun f=> { me:=f,o:= { inl:=u0v [] k2f f,mint:=u0v [] q3m f,osl:=u0v [] k1e f,dead:=u0v [] q5h f,own:=u0v [] k1c f,stop:=u0v [] q2f f },loops:=u0v k9y (u0v [] q3q f),cuts:=u0v none (u0v [] k5r f),turn:= !(k1m.contains f),rt:=u0v none k9g f,labs:=u0v none (u0v [] k1y f),bx:=bxL f,pn:=pnL f,rl:=u0v none k9m f,dfr:=dfrL.contains f }
end Go.Vm
end
