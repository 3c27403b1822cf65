/- Part GF of the proof. What is proved by the whole: the statement that the claim names, with no condition. -/
import Derived.Test.YtnppfpelgmmanaaGE
import Derived.RecoverIn
import Derived.KernelRfl
set_option linter.all false
section
namespace Go.Vm
section
variable (A : Sy) (P : Program) (Cs : FuncId → CfgT)
def isArr:Box→Bool
 | .arr .. =>true
 |_=>false
def turnL (h:List Box)(vs:List V):List Nat:=(reachV h [] vs).filter fun b=>isArr (h.getD b .gone)
def turnF (C:CfgT)(h:List Box)(vs:List V):List Nat:=match C.turn with
 |true=>turnL h vs
 |false=>[]
def turnR (C:CfgT)(h:List Box)(b:Nat)(R:RecI)(vs t0:List V):List Nat:=match C.rt with
 |none=>turnL h (.yld b R::vs)
 |some ks=>turnL h (ks.map fun k=>t0.getD k .any)
def endN (n0:Nat)(M0:List Nat)(v:V)(h:List Box):List Nat × V × List Box:=match decide (n0≤h.length)&&v.scB n0&&(h.take n0).all (Box.scB n0)with
 |true=>(M0,v,h.take n0)
 |false=>(M0,v,h)
def endE (fn:Func)(n0:Nat)(M0:List Nat)(r:Exit × VSt):Tree (List Nat × V × List Box):=
 let fin:Tree (List Nat × V × List Box):=match resV P r.2 fn.results.toList with
  |some v=>match panOf v with
   |none=> .ret (endN n0 M0 v r.2.h)
   |some _=> .fail
  |none=> .fail
 match r.1 with
 | .normal=>fin
 | .ret=>fin
 | .outgrown=>match r.2.t with
   |p::_=> .ret (endN n0 M0 (panV p) r.2.h)
   | []=> .fail
 |_=> .fail
def putPs (t:List V)(l:List (Tmp × V)):List V:=l.foldl (fun t q=>t.set q.1 q.2) t
def rndT (ent:Callee→List V→List Box→Tree (List Nat × V × List Box))(b:Nat)(R:RecI)(vs:List V)(h:List Box):Tree (List Nat × V × List Box):=match h[b]?,decide (vs.length=R.ps.size)with
 |some (.cells (.rcd .ready) t0),true=>forceL (putPs t0 (R.ps.toList.zip vs)) fun t=>
  (codeT A P true (Cs R.me) ent h.length (turnR (Cs R.me) h b R vs t0) false 0 R.assign ⟨t,h⟩).bind fun r1=>match r1.1,r1.2.h[b]? with
   | .normal,some (.cells (.rcd .ready) t1)=>forceH (r1.2.h.set b (.cells (.rcd .busy) t1)) fun h1=>
     (codeT A P true (Cs R.me) ent h.length (turnR (Cs R.me) h b R vs t0) false 0 R.body ⟨r1.2.t,h1⟩).bind fun r2=>match r2.1,r2.2.h[b]? with
      | .normal,some (.cells (.rcd .busy) t2)=> .ret (endN h.length (turnR (Cs R.me) h b R vs t0) (.d (.bool true)) (r2.2.h.set b (.cells (.rcd .ready) t2)))
      | .ret,some (.cells (.rcd .busy) t2)=> .ret (endN h.length (turnR (Cs R.me) h b R vs t0) (.d (.bool false)) (r2.2.h.set b (.cells (.rcd (.done .ret)) t2)))
      | .exit id,some (.cells (.rcd .busy) t2)=> .ret (endN h.length (turnR (Cs R.me) h b R vs t0) (.d (.bool false)) (r2.2.h.set b (.cells (.rcd (.done (.exit id))) t2)))
      |_,_=> .fail
   |_,_=> .fail
 |_,_=> .fail
def encX:Box→Option V
 | .cells (.ty t) vs=>some (.fn t vs)
 | .arr e sz rows=>some (.tup [.d (.int .i64 e), .d (.sl sz rows)])
 | .cells (.rcd .ready) vs=>some (.agg vs)
 | .gone=>some .nilf
 | .mp .str rows=>some (.tup [.nils, .d (.sl 2 rows)])
 | .mp (.int .i64) rows=>some (.tup [.nilp, .d (.sl 2 rows)])
 |_=>none
def decX:V→Option Box
 | .fn t vs=>some (.cells (.ty t) vs)
 | .tup [.d (.int .i64 e), .d (.sl sz rows)]=>some (.arr e.toNat sz rows)
 | .agg vs=>some (.cells (.rcd .ready) vs)
 | .nilf=>some .gone
 | .tup [.nils, .d (.sl 2 rows)]=>some (.mp .str rows)
 | .tup [.nilp, .d (.sl 2 rows)]=>some (.mp (.int .i64) rows)
 |_=>none
def encXs:List Box→Option (List V)
 | []=>some []
 |x::xs=>match encX x,encXs xs with
  |some v,some vs=>some (v::vs)
  |_,_=>none
def decXs:List V→Option (List Box)
 | []=>some []
 |x::xs=>match decX x,decXs xs with
  |some v,some vs=>some (v::vs)
  |_,_=>none
def encB (pn:Nat)(args:List V)(hs:List Box):Option (List V):=match encXs hs with
 |some l=>some (.d (.int .i64 pn):: .d (.int .i64 args.length)::(args++l))
 |none=>none
def decB:List V→Option (Nat × List V × List Box)
 | .d (.int .i64 pn):: .d (.int .i64 n)::l=>match decXs (l.drop n.toNat)with
   |some hs=>some (pn.toNat,l.take n.toNat,hs)
   |none=>none
 |_=>none
def isNT:Box→Bool
 | .cells (.ty t) _=>gNT.contains t
 |_=>false
def arrsOf (hs:List Box):List Nat:=match hs.any isNT with
 |true=>[]
 |false=>(List.range hs.length).filter fun b=>isArr (hs.getD b .gone)
def bkey (f:Nat):Nat:=f+1000000
def unkey (f:Nat):Nat:=f - 1000000
def isKey (f:Nat):Bool:=decide (1000000≤f)
def yldA:List V→Option (Nat × RecI)
 | []=>none
 | .yld b R::_=>some (b,R)
 |_::vs=>yldA vs
def retSk (R:RecI)(l0:List Sk):List Sk:=match P.funcs[R.me]? with
 |some fn=>(fn.results.toList.zip fn.resultTypes.toList).foldl (fun l q=>match q.1,shOf P 9 q.2,aggB P q.2 with
  | .tmp t,some [s],false=>l.set t (.d s)
  | .tmp t,some ss,true=>l.set t (.agg (ss.map .d))
  | .cell t _,_,_=>l.set t (l0.getD t .any)
  |_,_,_=>l) (l0.map fun _=> .any)
 |none=>l0
def altSk (as:List V)(hs:List Box):Option (List BSk):=match yldA as with
 |some (b,R)=>match hs[b]? with
  |some (.cells (.rcd _) vs)=>some ((hs.map Box.sk).set b (.cells (.rcd (.done .ret)) (retSk P R (V.skL vs))))
  |_=>none
 |none=>none
def bres1 (ss:List Sh)(mk:List D→Option V)(sks:List BSk)(ds:List D)(j:Nat):Tree (V × List Box):=
 (openRT A ss ds j).bind fun xs=>match mk xs with
  |some v=>(openBL A sks ds (j+ss.length)).bind fun q=> .ret (v,q.1)
  |none=> .fail
def bresT (pn:Nat)(ts:List TypeId)(as:List V)(hs:List Box)(ds:List D):Tree (V × List Box):=match shR P ts with
 |some ss=>match pn with
  |0=>match altSk P as hs with
   |none=>bres1 A ss (mkV P ts) (hs.map Box.sk) ds 0
   |some sk2=> .cB (A.cell ds 0) fun b=> .ite b (bres1 A ss (mkV P ts) sk2 ds 1) (bres1 A ss (mkV P ts) (hs.map Box.sk) ds 1)
  |pn=>match shOf P 9 pn with
   |some ps=> .cB (A.cell ds 0) fun b=> .ite b (bres1 A ps (fun xs=>some (panV (.ifc pn xs))) (hs.map Box.sk) ds 1) (bres1 A ss (mkV P ts) (hs.map Box.sk) ds 1)
   |none=> .fail
 |none=> .fail
def boxT (f:FuncId)(vs:List V)(h:List Box):Tree (List Nat × V × List Box):=match sigP P f,goodF P (bkey f)with
 |some ts,false=>forceSp (reachV h [] vs) fun L=>match reachOK h L vs with
  |true=>forceH (smallH h L) fun hs=>match encB ((Cs f).pn.getD 0) (vs.map (V.ren (tau L))) hs with
   |some key=> .call (bkey f) key fun ds=>(bresT A P ((Cs f).pn.getD 0) ts (vs.map (V.ren (tau L))) hs ds).bind fun q=>match panOf q.1 with
    |none=> .ret ((arrsOf hs).map (ext L h.length),q.1.ren (ext L h.length),amongH h L ((arrsOf hs).map (ext L h.length)) q.2)
    |some p=> .ret ((arrsOf hs).map (ext L h.length),panV (p.ren (ext L h.length)),amongH h L ((arrsOf hs).map (ext L h.length)) q.2)
   |none=> .fail
  |false=> .fail
 |_,_=> .fail
def entT:Nat→Callee→List V→List Box→Tree (List Nat × V × List Box)
 |0,_,_,_=> .fail
 |n+1, .fn f,vs,h=>match (Cs f).bx with
  |true=>boxT A P Cs f vs h
  |false=>match P.funcs[f]? with
   |some fn=>match fn.body with
    |some c=>forceL (entryS fn vs h).t fun t=>(codeT A P false (Cs f) (entT n) h.length (turnF (Cs f) h vs) false 0 c ⟨t,h⟩).bind (endE P fn h.length (turnF (Cs f) h vs))
    |none=> .fail
   |none=> .fail
 |n+1, .yld b R,vs,h=>rndT A P Cs (entT n) b R vs h
def outL:List TypeId→List V→Option (List D)
 | [],[]=>some []
 |t::ts,v::vs=>match out1 P t v,outL ts vs with
  |some a,some b=>some (a++b)
  |_,_=>none
 |_,_=>none
def outDs (ts:List TypeId)(v:V):Option (List D):=match ts,v with
 | [t],v=>outL P [t] [v]
 |ts, .tup vs=>outL P ts vs
 |_,_=>none
def endP (fn:Func)(r:Exit × VSt):Tree PRes:=
 let fin:Tree PRes:=match resV P r.2 fn.results.toList with
  |some v=>match v,fn.resultTypes.toList with
   | .own b,[t]=>match r.2.h[b]?,elO P t with
     |some (.arr e sz rows),some (e',sz')=>match decide (e'=e∧sz'=sz)with
      |true=> .ret (.own e sz rows)
      |false=> .fail
     |_,_=> .fail
   |v,ts=>match resV P (r.2.frz v.ownsT) fn.results.toList with
    |some v'=>match outDs P ts v' with
     |some ds=> .ret (.val ds)
     |none=> .fail
    |none=> .fail
  |none=> .fail
 match r.1 with
 | .normal=>fin
 | .ret=>fin
 |_=> .fail
def flagD (pn:Nat)(b:Bool):List D:=match pn with
 |0=>[]
 |_=>[.bool b]
def fitB (as:List V)(hs h:List Box)(pn:Nat):Option (List D × List D):=match pn,altSk P as hs with
 |0,some sk2=>match BSk.fitL hs.length (hs.map Box.sk) h with
  |some xs=>some ([.bool false],xs)
  |none=>match BSk.fitL hs.length sk2 h,sk2.all (BSk.yB 0)with
   |some xs,true=>some ([.bool true],xs)
   |_,_=>none
 |pn,_=>match BSk.fitL hs.length (hs.map Box.sk) h with
  |some xs=>some (flagD pn false,xs)
  |none=>none
def endB (fn:Func)(pn:Nat)(as:List V)(hs:List Box)(r:Exit × VSt):Tree PRes:=
 let fin:Tree PRes:=match resV P r.2 fn.results.toList with
  |some v0=>match resV P (r.2.frz v0.ownsT) fn.results.toList with
   |some v=>match outDs P fn.resultTypes.toList v,fitB P as hs (r.2.frz v0.ownsT).h pn with
    |some ds,some (fl,xs)=> .ret (.val (fl++ds++xs))
    |_,_=> .fail
   |none=> .fail
  |none=> .fail
 match r.1 with
 | .normal=>fin
 | .ret=>fin
 | .outgrown=>match pn,r.2.t with
   |0,_=> .fail
   |pn, .ifc t cs::_=>match decide (t=pn),shOf P 9 pn with
    |true,some ps=>match fitDs ps cs,BSk.fitL hs.length (hs.map Box.sk) r.2.h with
     |some ds,some xs=> .ret (.val (flagD pn true++ds++xs))
     |_,_=> .fail
    |_,_=> .fail
   |_,_=> .fail
 |_=> .fail
def funB (f:FuncId)(pn:Nat)(args:List V)(hs:List Box):Tree PRes:=match P.funcs[f]?,(hs.map Box.sk).all (BSk.yB 0)with
 |some fn,true=>match fn.body with
  |some c=>forceL (entryS fn args hs).t fun t=>(codeT A P false (Cs f) (entT A P Cs 8) hs.length (arrsOf hs) false 0 c ⟨t,hs⟩).bind (endB P fn pn args hs)
  |none=> .fail
 |_,_=> .fail
def dfrO:Code→Option (FuncId × Array Operand)
 | .region _ ⟨[⟨none, .defer ⟨.value (.func f),args,_⟩,_,_,_,none⟩]⟩ false=>some (f,args)
 |_=>none
def recO:Code→Option Tmp
 | .region _ ⟨[⟨some d, .call ⟨.builtin .recover,⟨[]⟩,_⟩,_,_,_,none⟩]⟩ false=>some d
 |_=>none
def catchT (ent:Callee→List V→List Box→Tree (List Nat × V × List Box))(f:FuncId)(p:V)(vs:List V)(s:VSt):Tree (Exit × VSt):=match goodF P f,P.funcs[f]? with
 |true,some fd=>match fd.body,fd.results with
  |some (.seq x y),⟨[]⟩=>match recO x with
   |some d=>forceL ((entryS fd vs s.h).t.set d p) fun t=>(codeT A P true (Cs f) ent s.h.length [] false 0 y ⟨t,s.h⟩).bind fun r=>match r.1 with
    | .normal=> .ret (.ret,⟨s.t,r.2.h⟩)
    | .ret=> .ret (.ret,⟨s.t,r.2.h⟩)
    |_=> .fail
   |none=> .fail
  |_,_=> .fail
 |_,_=> .fail
def dfrT (C:CfgT)(ent:Callee→List V→List Box→Tree (List Nat × V × List Box))(n0:Nat):Code→VSt→Tree (Exit × VSt)
 | .seq x y,s=>match dfrO x with
   |some (f,args)=>(codeT A P true C ent s.h.length [] false 0 y s).bind fun r=>match r.1 with
    | .normal=>catchT A P Cs ent f (.ifn true) (args.toList.map s.get) r.2
    | .ret=>catchT A P Cs ent f (.ifn true) (args.toList.map s.get) r.2
    | .outgrown=>match r.2.t with
      |p::t=>catchT A P Cs ent f p (args.toList.map s.get) ⟨t,r.2.h⟩
      | []=> .fail
    |_=> .fail
   |none=>(codeT A P true C ent n0 [] false 0 x s).bind fun r=>match r.1 with
    | .normal=>dfrT C ent n0 y r.2
    |_=> .fail
 |_,_=> .fail
def bodyT (f:FuncId)(c:Code)(s:VSt):Tree (Exit × VSt):=match (Cs f).dfr with
 |false=>codeT A P false (Cs f) (entT A P Cs 8) 0 [] false 0 c s
 |true=>dfrT A P Cs (Cs f) (entT A P Cs 8) 0 c s
def funT (f:FuncId)(args:List V):Tree PRes:=match P.funcs[f]? with
 |some fn=>match fn.body with
  |some c=>forceL (entryS fn args []).t fun t=>(bodyT A P Cs f c ⟨t,[]⟩).bind (endP P fn)
  |none=> .fail
 |none=> .fail
end
section
variable {P : Program} {E : Env} {Cs : FuncId → CfgT}
theorem Sim.shut {En:Ent}(hds:En.ds= [])(hnr:En.nr=false){s:VSt}{tmps:Array Value}{D:Nat}{Ds:List Nat}{w:World}{g:Gh}(hs:Sim En s ⟨tmps,(D::Ds).map fun D=> { target:= .collected D,args:= #[] }⟩ w g):
  w.heap[D]? =some (.deferred (some []))∧Sim En s ⟨tmps,Ds.map fun D=> { target:= .collected D,args:= #[] }⟩ (w.putObj D (.deferred none)) g:=by
 obtain⟨Ds',⟨d1,_⟩,d2,d3⟩:=hs.defers
 rw[hds,List.append_nil]at d1
 have:Ds'=D::Ds:=(map_inj' (fun x y h=>by simpa using h) d1).symm
 subst this
 obtain⟨k1,k2,k3,k4⟩:=d3 D List.mem_cons_self
 have hoth: ∀k,k≠D→(w.putObj D (.deferred none)).heap[k]? =w.heap[k]? :=fun k hk=>World.putObj_heap_other hk
 have hcell: ∀b o,g.Z b o→(w.putObj D (.deferred none)).cell? ⟨b,o,none⟩=w.cell? ⟨b,o,none⟩:=fun b o hz=>by
  have:b≠D:=fun e=>k4 o (e▸hz)
  simp only [World.cell?,hoth b this]
 have ho:Over [] w g (w.putObj D (.deferred none)) g:=⟨Gh.Le.refl _ _,hcell⟩
 have hsz:(w.putObj D (.deferred none)).heap.size=w.heap.size:=World.putObj_size
 obtain⟨p1,p2,p3,p4⟩:=hs.keep
 refine⟨k2,⟨hs.heap.n,fun b x hx=> ?_,hs.heap.sep,hs.heap.zsep,fun b o hz=>by rw[hsz];exact hs.heap.zlt b o hz,hs.heap.tab.mono (fun _ _ h=>h) hcell⟩,hs.size,fun i u v hu hv=>ho.repC_nil (hs.tmps i u v hu hv),⟨Ds,⟨by rw[hds,List.append_nil],fun h=>(by rw[hnr]at h;cases h)⟩,(List.nodup_cons.1 d2).2,fun D' hD'=> ?_⟩,
  ⟨p1,⟨p2.os,p2.tape,p2.output,by rw[hsz];exact p2.size,fun k hk hn=>(hoth k (by omega)).trans (p2.block k hk hn)⟩,p3,p4⟩,hs.len⟩
 ·have:=BoxRep.over ho (by rw[hs.heap.n];exact(List.getElem?_eq_some_iff.1 hx).1) (by simp) (fun k hk=>hoth k fun e=>k3 ⟨b,x,hx,e▸hk⟩) (hs.heap.rep b x hx)
  rwa [Box.kill_nil]at this
 ·obtain⟨q1,q2,q3,q4⟩:=d3 D' (List.mem_cons_of_mem _ hD')
  exact⟨q1,(hoth D' fun e=>(List.nodup_cons.1 d2).1 (e▸hD')).trans q2,q3,q4⟩
theorem leaves_marks {fn:Func}{Rp:Ending→World→Prop}{En:Ent}(hds:En.ds= [])(hnr:En.nr=false){s:VSt}{tmps:Array Value}{g:Gh}: ∀(Ds:List Nat) (w:World),Sim En s ⟨tmps,Ds.map fun D=> { target:= .collected D,args:= #[] }⟩ w g→
  (∀w',Sim En s ⟨tmps,[]⟩ w' g→ ∃v,(results fn tmps).run P w'= .ok v w'∧Rp (.returned v) w')→LeavesInM Fence.wide 0 P fn tmps Rp (Ds.map fun D=> { target:= .collected D,args:= #[] }) .returning w
 | [],w,hs,h=>h w hs
 |D::Ds,w,hs,h=>by
  obtain⟨h1,h2⟩:=hs.shut hds hnr
  exact⟨by simp, .inl ⟨D,_,rfl,run_takeDeferred h1,leaves_marks hds hnr Ds _ h2 h⟩⟩
theorem leaves_sim {fn:Func}{Rp:Ending→World→Prop}{En:Ent}(hds:En.ds= [])(hnr:En.nr=false){s:VSt}{a:Act}{w:World}{g:Gh}(hs:Sim En s a w g)
  (h: ∀a' w',a'.tmps=a.tmps→Sim En s a' w' g→ ∃v,(results fn a.tmps).run P w'= .ok v w'∧Rp (.returned v) w'):LeavesInM Fence.wide 0 P fn a.tmps Rp a.defers .returning w:=by
 obtain⟨Ds,⟨d1,_⟩,d2,d3⟩:=hs.defers
 rw[hds,List.append_nil]at d1
 rw[d1]
 have e:a=⟨a.tmps,Ds.map fun D=> { target:= .collected D,args:= #[] }⟩:=by rw[←d1]
 rw[e]at hs
 exact leaves_marks hds hnr Ds w hs fun w' hs'=>h ⟨a.tmps,[]⟩ w' rfl hs'
theorem Sim.shutR {En:Ent}(hds:En.ds= []){s:VSt}{tmps:Array Value}{D:Nat}{Ds:List Nat}{w:World}{g:Gh}(hs:Sim En s ⟨tmps,(D::Ds).map fun D=> { target:= .collected D,args:= #[] }⟩ w g){u:Value}{v:V}(hr:Rep w g u v):
  Rep (w.putObj D (.deferred none)) g u v:=by
 obtain⟨Ds',⟨d1,_⟩,d2,d3⟩:=hs.defers
 rw[hds,List.append_nil]at d1
 have:Ds'=D::Ds:=(map_inj' (fun x y h=>by simpa using h) d1).symm
 subst this
 obtain⟨k1,k2,k3,k4⟩:=d3 D List.mem_cons_self
 have ho:Over [] w g (w.putObj D (.deferred none)) g:=⟨Gh.Le.refl _ _,fun b o hz=>by
  have:b≠D:=fun e=>k4 o (e▸hz)
  simp only [World.cell?,World.putObj_heap_other this]⟩
 exact ho.repC_nil hr
theorem leaves_marksP {fn:Func}{Rp:Ending→World→Prop}{En:Ent}(hds:En.ds= [])(hnr:En.nr=false){s:VSt}{tmps:Array Value}{g:Gh}{ch:List PanicEntry}{u:Value}{v:V}: ∀(Ds:List Nat) (w:World),Sim En s ⟨tmps,Ds.map fun D=> { target:= .collected D,args:= #[] }⟩ w g→Rep w g u v→
  (∀w',Sim En s ⟨tmps,[]⟩ w' g→Rep w' g u v→Rp (.panicked ch) w')→LeavesInM Fence.wide 0 P fn tmps Rp (Ds.map fun D=> { target:= .collected D,args:= #[] }) (.panicking ch) w
 | [],w,hs,hr,h=>h w hs hr
 |D::Ds,w,hs,hr,h=>by
  obtain⟨h1,h2⟩:=hs.shut hds hnr
  exact⟨by simp, .inl ⟨D,_,rfl,run_takeDeferred h1,leaves_marksP hds hnr Ds _ h2 (hs.shutR hds hr) h⟩⟩
theorem leaves_simP {fn:Func}{Rp:Ending→World→Prop}{En:Ent}(hds:En.ds= [])(hnr:En.nr=false){s:VSt}{a:Act}{w:World}{g:Gh}{ch:List PanicEntry}{u:Value}{v:V}(hs:Sim En s a w g)(hr:Rep w g u v)
  (h: ∀a' w',a'.tmps=a.tmps→Sim En s a' w' g→Rep w' g u v→Rp (.panicked ch) w'):LeavesInM Fence.wide 0 P fn a.tmps Rp a.defers (.panicking ch) w:=by
 obtain⟨Ds,⟨d1,_⟩,d2,d3⟩:=hs.defers
 rw[hds,List.append_nil]at d1
 rw[d1]
 have e:a=⟨a.tmps,Ds.map fun D=> { target:= .collected D,args:= #[] }⟩:=by rw[←d1]
 rw[e]at hs
 exact leaves_marksP hds hnr Ds w hs hr fun w' hs' hr'=>h ⟨a.tmps,[]⟩ w' rfl hs' hr'
theorem rec_turn {g:Gh}{h:List Box}{w:World}{b:Nat}{st:RSt}{t:List V}(hs:SimH g h w)(hb:h[b]? =some (.cells (.rcd st) t)):
  ∃rc:Loop,w.heap[g.blk b]? =some (.loop rc)∧rc.state=st.state∧rc.pending=st.pend∧ ∀st':RSt,Keep [] g h w g (h.set b (.cells (.rcd st') t)) (w.putObj (g.blk b) (.loop { rc with state:=st'.state,pending:=st'.pend })):=by
 obtain⟨us,o,q1,⟨fn,D,x,q2,q3,rfl⟩,q4,q5⟩:=hs.rep b _ hb
 refine⟨_,q1,rfl,rfl,fun st'=> ?_⟩
 generalize hw':w.putObj (g.blk b) _=w'
 have hfr:Fr (fun k=>(Box.cells (.rcd st) t).at? g b=some k) w w':=by
  rw[←hw']
  refine⟨rfl,rfl,rfl,by simp,fun k hk hnk=>World.putObj_heap_other fun e=>hnk ?_⟩
  simp only [Box.at?,e]
 have hcell: ∀k o,g.Z k o→w'.cell? ⟨k,o,none⟩=w.cell? ⟨k,o,none⟩:=fun k o hz=>hfr.cell (hs.zlt k o hz) (fun hk=>hs.zsep k o ⟨b,_,hb,hk⟩ hz)
 have ho:Over [] w g w' g:=⟨Gh.Le.refl _ _,hcell⟩
 have:=Keep.turn (g':=g) (y:= .cells (.rcd st') t) hs hb [] (.inl ⟨rfl,rfl⟩) rfl rfl rfl (fun _ _=>⟨rfl,rfl⟩) hfr
  ⟨us,_,by rw[←hw'];exact World.putObj_heap_same (Array.getElem?_eq_some_iff.1 q1).1,⟨fn,D,x,q2,q3,rfl⟩,q4,fun i u v hu hv=>ho.repC_nil (q5 i u v hu hv)⟩ (fun k hk=> .inl hk)
 rwa [map_kill_nil]at this
theorem turnL_arr {h:List Box}{vs:List V}{b:Nat}(hb:b∈turnL h vs):isArr (h.getD b .gone)=true:=(List.mem_filter.1 hb).2
theorem turnR_arr {C:CfgT}{h:List Box}{c:Nat}{R:RecI}{vs t0:List V}{b:Nat}(hb:b∈turnR C h c R vs t0):isArr (h.getD b .gone)=true:=by
 unfold turnR at hb
 split at hb<;>exact turnL_arr hb
theorem putPs_sim {w:World}{g:Gh}: ∀(ps:List Tmp) (vs:List V) (us:List Value) (t:List V) (ts:Array Value),ts.size=t.length→(∀(i:Nat) u v,ts[i]? =some u→t[i]? =some v→Rep w g u v)→Reps w g us vs→
  ((ps.zip us).foldl (fun tm q=>tm.setIfInBounds q.1 q.2) ts).size=(putPs t (ps.zip vs)).length∧ ∀(i:Nat) u v,((ps.zip us).foldl (fun tm q=>tm.setIfInBounds q.1 q.2) ts)[i]? =some u→(putPs t (ps.zip vs))[i]? =some v→Rep w g u v
 | [],_,_,t,ts,hl,hr,_=>⟨hl,hr⟩
 |_::_,[],us,t,ts,hl,hr,hu=>by
  have:us= []:=by have:=hu.1;simpa using this
  subst this
  exact⟨hl,hr⟩
 |q::ps,v::vs,us,t,ts,hl,hr,hu=>by
  cases us with
  |nil=>have:=hu.1;simp at this
  |cons u us=>
   refine putPs_sim ps vs us (t.set q v) (ts.setIfInBounds q u) (by simpa using hl) (fun i u' v' h1 h2=> ?_) ⟨by have:=hu.1;simpa using this,fun i u' v' h1 h2=>hu.2 (i+1) u' v' (by simpa using h1) (by simpa using h2)⟩
   rw[Array.getElem?_setIfInBounds]at h1
   rw[List.getElem?_set]at h2
   by_cases hi:q=i
   ·subst hi
    rw[if_pos rfl]at h1 h2
    split at h1
    ·split at h2
     ·cases h1;cases h2;exact hu.2 0 _ _ rfl rfl
     ·cases h2
    ·cases h1
   ·rw[if_neg hi]at h1 h2;exact hr i u' v' h1 h2
theorem endN_keep {g g':Gh}{h h':List Box}{w w':World}{M0:List Nat}{v:V}{u:Value}(hn:g.n=h.length)(hk:Keep M0 g h w g' h' w')(hr:Rep w' g' u v):
  ∃g2,Rep w' g2 u (endN h.length M0 v h').2.1∧Keep (endN h.length M0 v h').1 g h w g2 (endN h.length M0 v h').2.2 w':=by
 unfold endN
 split
 ·rename_i hc
  simp only [Bool.and_eq_true,decide_eq_true_eq]at hc
  exact⟨g'.cut h.length,scB_rep hr hc.1.2,hk.cutN (by rw[hn];exact Nat.le_refl _) hc.1.1 hc.2⟩
 ·exact⟨g',hr,hk⟩
theorem endN_pan {g g':Gh}{h h':List Box}{w w':World}{M0:List Nat}{p:V}{u:Value}(hn:g.n=h.length)(hk:Keep M0 g h w g' h' w')(hr:Rep w' g' u p):
  panOf (endN h.length M0 (panV p) h').2.1=some p∧ ∃g2,Rep w' g2 u p∧Keep (endN h.length M0 (panV p) h').1 g h w g2 (endN h.length M0 (panV p) h').2.2 w':=by
 unfold endN
 split
 ·rename_i hc
  simp only [Bool.and_eq_true,decide_eq_true_eq]at hc
  have hp:p.scB h.length=true:=by
   have:=hc.1.2
   simp only [panV,V.scB,V.scL,Bool.and_true,Bool.true_and]at this
   exact this
  exact⟨rfl,g'.cut h.length,scB_rep hr hp,hk.cutN (by rw[hn];exact Nat.le_refl _) hc.1.1 hc.2⟩
 ·exact⟨rfl,g',hr,hk⟩
theorem rndT_sound (hE:E.Ok)(hN:EnvN E)(hG:EnvGood P E)(hm:P.follows .mixedOrders=true){ent:Callee→List V→List Box→Tree (List Nat × V × List Box)}(hent:EntGood P E ent){b:Nat}{R:RecI}{vs:List V}{h:List Box}{r:List Nat × V × List Box}
  (hk:(rndT sy P Cs ent b R vs h).run E=some r):HRound P r.1 b R vs h r.2.1 r.2.2:=by
 unfold rndT at hk
 split at hk
 ·rename_i t0 hb hlen
  have hlen:=of_decide_eq_true hlen
  rw[forceL_eq]at hk
  obtain⟨r1,h1,hk⟩:=run_bind_some hE hk
  intro g w us hs hu hbn hrc
  generalize hM0:turnR (Cs R.me) h b R vs t0=M0 at h1 hk
  have hbM:b ∉ M0:=fun hm'=>by
   rw[←hM0]at hm'
   have:=turnR_arr hm'
   rw[List.getD_eq_getElem?_getD,hb]at this
   cases this
  obtain⟨us0,o,q1,⟨fn,D,x,q2,q3,rfl⟩,q4,q5⟩:=hs.rep b _ hb
  have hx:x.r=R:=by
   unfold Gh.rc at hrc
   rw[q2]at hrc
   exact Option.some.inj hrc
  have hy:=run_yield (P:=P) (args:=us.toArray) q1 (by simp only [List.size_toArray,hx];rw[hu.1,hlen])
  refine⟨_,_,_,_,hy,?_⟩
  simp only [hx]
  have hfold:(R.ps.zip us.toArray).foldl (fun tmps q=>tmps.setIfInBounds q.1 q.2) us0=(R.ps.toList.zip us).foldl (fun tm q=>tm.setIfInBounds q.1 q.2) us0:=by
   rw[←Array.foldl_toList];simp
  obtain⟨s1,s2⟩:=putPs_sim R.ps.toList vs us t0 us0 q4 q5 hu
  let En:Ent:=⟨w,g,h,M0,(putPs t0 (R.ps.toList.zip vs)).length,[],false⟩
  have hS:SimE En ⟨putPs t0 (R.ps.toList.zip vs),h⟩ ⟨(R.ps.toList.zip us).foldl (fun tm q=>tm.setIfInBounds q.1 q.2) us0,[]⟩ w:=
   ⟨g,hs,s1,s2, .none,⟨Gh.Le.refl _ _,Fr.refl _ _,fun _ _ h=> .inl h,fun _ h=> .inl h⟩,rfl⟩
  have hn:g.n=h.length:=hs.n
  refine roundIn_of_wpIn trivial ?_
  show R.assign.wpIn (Fw (some (g.blk b))) 0 P _ _ _
  have e0:(Array.foldl (fun (tmps:Array Value) (x:Tmp × Value)=>tmps.setIfInBounds x.1 x.2) us0 (R.ps.zip us.toArray))=(R.ps.toList.zip us).foldl (fun tm q=>tm.setIfInBounds q.1 q.2) us0:=hfold
  refine(congrArg (fun tm=>R.assign.wpIn (Fw (some (g.blk b))) 0 P _ { tmps:=tm,defers:=[] } w) e0).mpr ?_
  refine wpIn_mono (codeT_sound (inR:=true) (ro:=some (g.blk b)) (En:=En) (fun h=>by cases h) hE hN hG hent (fun _=>rfl) hm R.assign 0 _ _ _ r1 (by rw[←hn]at h1;exact h1) hS) ?_
  rintro e a1 w1 hr1
  obtain⟨e1,st1⟩:=r1
  split at hk
  ·rename_i t1 he1 hb1
   simp only at he1 hb1
   subst he1
   obtain⟨h0,_⟩|⟨_,rfl,g1,hs1⟩:=hr1.split
   ·cases h0
   show ∃w₂,(Instr.beginRound (g.blk b)).run P w1= .ok () w₂∧R.body.wpIn (Fw (some (g.blk b))) 0 P (roundPost P (g.blk b) _) a1 w₂
   rw[forceH_eq]at hk
   obtain⟨r2,h2,hk⟩:=run_bind_some hE hk
   have hbe:g1.blk b=g.blk b:=hs1.keep.1.blk b hbn hbM
   obtain⟨rc,c1,c2,c3,c4⟩:=rec_turn hs1.heap hb1
   rw[hbe]at c1 c4
   have hbr:=run_beginRound (P:=P) c1 (by rw[c2];rfl)
   have hk4:=c4 .busy
   have erc:({ rc with state:= .busy }:Loop)= { rc with state:=RSt.busy.state,pending:=RSt.busy.pend }:=by
    cases rc
    simp only [RSt.pend]at c3
    simp only [RSt.state,RSt.pend,c3]
   refine⟨_,hbr,?_⟩
   rw[erc]
   have hs2:=hs1.next hk4 (by simp [okM]) (x:= .any) (u:=undef) (.any undef) none
   refine wpIn_mono (codeT_sound (inR:=true) (ro:=some (g.blk b)) (En:=En) (fun h=>by cases h) hE hN hG hent (fun _=>rfl) hm R.body 0 _ _ _ r2 (by rw[←hn]at h2;exact h2) ⟨g1,hs2⟩) ?_
   rintro e a2 w3 hr2
   obtain⟨e2,st2⟩:=r2
   obtain⟨rfl,_⟩|⟨_,rfl,g3,hs3⟩:=hr2.split
   ·cases hk
   have hbe3:g3.blk b=g.blk b:=hs3.keep.1.blk b hbn hbM
   have fin: ∀(st':RSt) (jump:Option Code) (t2:List V),st2.h[b]? =some (.cells (.rcd .busy) t2)→st'.state=(if jump.isNone then .ready else .done)→st'.pend=jump→
       r=endN h.length M0 (.d (.bool jump.isNone)) (st2.h.set b (.cells (.rcd st') t2))→
       ∃v w',(Instr.endRound (g.blk b) jump).run P w3= .ok v w'∧ ∃u g',Ending.returned v= .returned u∧Rep w' g' u r.2.1∧Keep r.1 g h w g' r.2.2 w':=by
    intro st' jump t2 hb2 e1 e2 hr
    obtain⟨rc3,d1,d2,d3,d4⟩:=rec_turn hs3.heap hb2
    rw[hbe3]at d1 d4
    have hen:=run_endRound (P:=P) jump d1
    have hk5:=d4 st'
    rw[e1,e2]at hk5
    have hs4:=hs3.next hk5 (by simp [okM]) (x:= .any) (u:=undef) (.any undef) none
    obtain⟨k1,k2,k3,k4⟩:=hs4.keep
    have hkeep:Keep M0 g h w g3 (st2.h.set b (.cells (.rcd st') t2)) _:=⟨hs4.heap,k1,k2,k3,k4⟩
    obtain⟨g5,p1,p2⟩:=endN_keep hn hkeep (v:= .d (.bool jump.isNone)) (u:= .bool jump.isNone) (.d (.bool _))
    exact⟨_,_,hen, .bool jump.isNone,g5,rfl,by rw[hr];exact p1,by rw[hr];exact p2⟩
   split at hk
   ·rename_i t2 he2 hb2
    simp only at he2 hb2
    subst he2
    cases hk
    exact fin .ready none t2 hb2 rfl rfl rfl
   ·rename_i t2 he2 hb2
    simp only at he2 hb2
    subst he2
    cases hk
    exact fin (.done .ret) (some .ret) t2 hb2 rfl rfl rfl
   ·rename_i id t2 he2 hb2
    simp only at he2 hb2
    subst he2
    cases hk
    exact fin (.done (.exit id)) (some (.exit id)) t2 hb2 rfl rfl rfl
   ·cases hk
  ·cases hk
 ·cases hk
theorem encX_dec {x:Box}{v:V}(h:encX x=some v):decX v=some x:=by
 unfold encX at h
 split at h<;>cases h<;>simp [decX]
theorem encXs_dec: ∀ {hs:List Box} {l:List V},encXs hs=some l→decXs l=some hs
 | [],l,h=>by cases h;rfl
 |x::xs,l,h=>by
  unfold encXs at h
  split at h
  ·rename_i v vs h1 h2
   cases h
   simp only [decXs,encX_dec h1,encXs_dec h2]
  ·cases h
theorem encB_dec {pn:Nat}{as:List V}{hs:List Box}{key:List V}(h:encB pn as hs=some key):decB key=some (pn,as,hs):=by
 unfold encB at h
 split at h
 ·rename_i l hl
  cases h
  simp [decB,encXs_dec hl]
 ·cases h
theorem panOf_spec {v p:V}(h:panOf v=some p):v=panV p:=by
 unfold panOf at h
 split at h
 ·cases h;rfl
 ·cases h
theorem panOf_ren {v:V}{σ:Nat→Nat}(h:panOf v=none):panOf (v.ren σ)=none:=by
 cases hq:panOf (v.ren σ)with
 |none=>rfl
 |some p=>
  exfalso
  have e:=panOf_spec hq
  cases v<;>simp only [V.ren,panV]at e<;>first|(cases e;done)|skip
  rename_i cs
  match cs,e,h with
  | [a,b],e,h=>
    simp only [V.renL,V.tup.injEq,List.cons.injEq,and_true]at e
    obtain⟨e1,_⟩:=e
    cases a<;>simp only [V.ren]at e1<;>first|(cases e1;done)|skip
    rename_i ds
    match ds,e1,h with
    | [],_,h=>cases h
    |_::_,e1,_=>simp [V.renL]at e1
  | [],e,_=>simp [V.renL]at e
  | [_],e,_=>simp [V.renL]at e
  |_::_::_::_,e,_=>simp [V.renL]at e
def BGood (P:Program)(f:FuncId)(pn:Nat)(as:List V)(hs:List Box)(p:PRes):Prop:=
 ∀(ts:List TypeId) (E:Env) (q:V × List Box),E.Ok→sigP P f=some ts→(bresT sy P pn ts as hs p.leaves).run E=some q→HEnd P (arrsOf hs) f as hs q.1 q.2
def EnvB (P:Program)(E:Env):Prop:= ∀f key pn as hs p,goodF P (bkey f)=false→decB key=some (pn,as,hs)→E.call (bkey f) key=some p→BGood P f pn as hs p
theorem boxT_sound (hE:E.Ok)(hB:EnvB P E){f:FuncId}{vs:List V}{h:List Box}{r:List Nat × V × List Box}(hk:(boxT sy P Cs f vs h).run E=some r):HEnd P r.1 f vs h r.2.1 r.2.2:=by
 unfold boxT at hk
 split at hk
 ·rename_i ts hsig hg
  rw[forceSp_eq]at hk
  generalize reachV h [] vs=L at hk
  split at hk
  ·rename_i hL
   rw[forceH_eq]at hk
   split at hk
   ·rename_i key hkey
    simp only [Tree.run]at hk
    obtain⟨p,hp,hk⟩:=Option.bind_eq_some_iff.1 hk
    obtain⟨q,h1,hk⟩:=run_bind_some hE hk
    have hend:=hB _ _ _ _ _ _ hg (encB_dec hkey) hp ts E q hE hsig h1
    split at hk
    ·rename_i hq
     cases hk
     have:=HCall.among hL (hend.none hq)
     unfold HEnd
     rw[panOf_ren hq]
     exact this
    ·rename_i p' hq
     cases hk
     exact XCall.amongP hL (hend.some hq)
   ·cases hk
  ·cases hk
 ·cases hk
def EndR (v:V):Ending→World→Gh→Prop:=match panOf v with
 |some p=>PanV p
 |none=>RetV v
theorem HEnd.of {M:List Nat}{f:FuncId}{args:List V}{h h':List Box}{v:V}(hc:XCall P M f args h (EndR v) h'):HEnd P M f args h v h':=by
 unfold HEnd
 unfold EndR at hc
 split
 ·rename_i p hp;rw[hp]at hc;exact hc
 ·rename_i hp;rw[hp]at hc;exact XCall.ret.1 hc
theorem HEnd.x {M:List Nat}{f:FuncId}{args:List V}{h h':List Box}{v:V}(hc:HEnd P M f args h v h'):XCall P M f args h (EndR v) h':=by
 unfold HEnd at hc
 unfold EndR
 split
 ·rename_i p hp;rw[hp]at hc;exact hc
 ·rename_i hp;rw[hp]at hc;exact XCall.ret.2 hc
theorem endN_v {n0:Nat}{M0:List Nat}{v:V}{h:List Box}:(endN n0 M0 v h).2.1=v:=by unfold endN;split<;>rfl
theorem entT_sound (hE:E.Ok)(hN:EnvN E)(hG:EnvGood P E)(hB:EnvB P E)(hm:P.follows .mixedOrders=true): ∀n,EntGood P E (entT sy P Cs n)
 |0=>⟨fun f vs h r hk=>(by cases hk),fun b R vs h r hk=>(by cases hk)⟩
 |n+1=>by
  refine⟨fun f vs h r hk=> ?_,fun b R vs h r hk=>rndT_sound hE hN hG hm (entT_sound hE hN hG hB hm n) hk⟩
  unfold entT at hk
  split at hk
  ·exact boxT_sound hE hB hk
  split at hk
  ·rename_i fn hf
   split at hk
   ·rename_i c hb
    rw[forceL_eq]at hk
    obtain⟨r1,h1,hk⟩:=run_bind_some hE hk
    refine HEnd.of fun g w us hs hu=> ?_
    refine callsIn_wide.1 (callsIn_of_wp_marks (F:=Fence.wide) (n:=0) hf hb trivial ?_)
    have hEn:=entry_sim (fn:=fn) (turnF (Cs f) h vs) (hs:=hs) (hu:=hu)
    have h1':(codeT sy P false (Cs f) (entT sy P Cs n) g.n (turnF (Cs f) h vs) false 0 c (entryS fn vs h)).run E=some r1:=by rw[hs.n];exact h1
    refine wpIn_mono (codeT_sound (ro:=none) (En:=⟨w,g,h,turnF (Cs f) h vs,(entryS fn vs h).t.length,[],false⟩) (fun _=>rfl) hE hN hG (entT_sound hE hN hG hB hm n) (fun _=>rfl) hm c 0 _ _ _ r1 h1' hEn) fun e a' w' hr=> ?_
    obtain⟨e1,s'⟩:=r1
    rcases hr.split with⟨rfl,⟨u,rfl⟩,p,t,ht,hpan⟩|⟨hx,rfl,g',hs'⟩
    ·have hk:Tree.run E (match s'.t with
      |p::_=> .ret (endN h.length (turnF (Cs f) h vs) (panV p) s'.h)
      | []=> .fail)=some r:=hk
     rw[ht]at hk
     cases hk
     obtain⟨g',u',he,hru,hs'⟩:=hpan
     cases he
     refine leaves_simP rfl rfl hs' hru fun a2 w2 ha2 hs2 hru=> ?_
     obtain⟨k1,k2,k3,k4⟩:=hs2.keep
     have hkeep:Keep (turnF (Cs f) h vs) g h w g' s'.h w2:=⟨hs2.heap,k1,k2,fun b o hz=>(k3 b o hz),k4⟩
     obtain⟨q1,g2,q2,q3⟩:=endN_pan hs.n hkeep hru
     refine⟨g2,?_,q3⟩
     unfold EndR
     rw[q1]
     exact⟨_,rfl,q2⟩
    ·have fin: ∀(e:Exit),(e= .normal∨e= .ret)→(endE P fn h.length (turnF (Cs f) h vs) (e,s')).run E=some r→LeavesInM Fence.wide 0 P fn a'.tmps (fun e w'=> ∃g',EndR r.2.1 e w' g'∧Keep r.1 g h w g' r.2.2 w') a'.defers .returning w':=by
      intro e he hq
      have hq:Tree.run E (match resV P s' fn.results.toList with
       |some v=>match panOf v with
        |none=> .ret (endN h.length (turnF (Cs f) h vs) v s'.h)
        |some _=> .fail
       |none=> .fail)=some r:=by rcases he with rfl|rfl<;>exact hq
      refine leaves_sim rfl rfl hs' fun a2 w2 ha2 hs2=> ?_
      rw[←ha2]
      obtain⟨k1,k2,k3,k4⟩:=hs2.keep
      have hkeep:Keep (turnF (Cs f) h vs) g h w g' s'.h w2:=⟨hs2.heap,k1,k2,fun b o hz=>(k3 b o hz),k4⟩
      split at hq
      ·rename_i v hv
       obtain⟨u,hu,hr⟩:=resV_run hs2 hv
       split at hq
       ·rename_i hp
        cases hq
        obtain⟨g2,q1,q2⟩:=endN_keep hs.n hkeep hr
        refine⟨u,hu,g2,?_,q2⟩
        unfold EndR
        rw[endN_v,hp]
        rw[endN_v]at q1
        exact⟨u,rfl,q1⟩
       ·cases hq
      ·cases hq
     cases e with
     |normal=>exact fin _ (.inl rfl) hk
     |ret=>exact fin _ (.inr rfl) hk
     |outgrown=>exact(hx rfl).elim
     |_=>cases hk
   ·cases hk
  ·cases hk
theorem toDs_len: ∀ {ss:List Sh} {vs:List V} {xs:List D},toDs ss vs=some xs→xs.length=ss.length
 | [],[],xs,h=>by cases h;rfl
 | [],_::_,xs,h=>by cases h
 |_::_,[],xs,h=>by cases h
 |s::ss,v::vs,xs,h=>by
  unfold toDs at h
  split at h
  ·rename_i x xs' _ h2
   cases h
   simp [toDs_len h2]
  ·cases h
theorem out1_mk {t:TypeId}{v:V}{ds rest:List D}{ts:List TypeId}{vs:List V}(h:out1 P t v=some ds)(h2:mkVs P ts rest=some vs):
  ∃v',mkVs P (t::ts) (ds++rest)=some (v'::vs)∧(∀(w:World) (g g':Gh) (u:Value),g'.Z=g.Z→Rep w g u v→Rep w g' u v')∧ ∃ss,shOf P 9 t=some ss∧ds.length=ss.length:=by
 unfold out1 at h
 split at h
 ·rename_i ss cs h1 ha
  have hl:=toDs_len h
  refine⟨.agg (ds.map .d),?_,fun w g g' u hz hr=> ?_,ss,h1,hl⟩
  ·unfold mkVs
   simp only [h1,ha]
   rw[show decide (ss.length≤(ds++rest).length)=true from decide_eq_true (by simp;omega),show(ds++rest).drop ss.length=rest by rw[←hl];simp,h2]
   simp only [show(ds++rest).take ss.length=ds by rw[←hl];simp]
  ·obtain⟨q1,q2⟩:=toDs_spec h
   cases hr with
   |agg us _ hl hr=>
    refine .agg us _ (by simp [hl,q1]) fun i u c hu hc=> ?_
    rw[List.getElem?_map,Option.map_eq_some_iff]at hc
    obtain⟨x,hx,rfl⟩:=hc
    have hi:=(Array.getElem?_eq_some_iff.1 hu).1
    have hcs:=List.getElem?_eq_getElem (l:=cs) (i:=i) (by omega)
    obtain⟨s,hs⟩:=q2 i _ x hcs hx
    exact .d (by rw[hz];exact toD_rep (hr i u _ hu hcs) hs)
 ·rename_i s h1 ha
  split at h
  ·rename_i x hx
   cases h
   refine⟨.d x,?_,fun w g g' u hz hr=> .d (by rw[hz];exact toD_rep hr hx),[s],h1,rfl⟩
   unfold mkVs
   simp only [h1,ha,List.cons_append,List.nil_append,h2]
  ·cases h
 ·cases h
theorem outL_mk: ∀ {ts:List TypeId} {vs:List V} {ds:List D},outL P ts vs=some ds→ ∃vs',mkVs P ts ds=some vs'∧vs'.length=vs.length∧(∀(i:Nat) v v',vs[i]? =some v→vs'[i]? =some v'→ ∀(w:World) (g g':Gh) (u:Value),g'.Z=g.Z→Rep w g u v→Rep w g' u v')∧
  ∃ss,shR P ts=some ss∧ds.length=ss.length
 | [],[],ds,h=>by cases h;exact⟨[],rfl,rfl,by simp,[],rfl,rfl⟩
 | [],_::_,ds,h=>by cases h
 |_::_,[],ds,h=>by cases h
 |t::ts,v::vs,ds,h=>by
  unfold outL at h
  split at h
  ·rename_i a b h1 h2
   cases h
   obtain⟨vs',e1,l1,r1,ss,q1,q2⟩:=outL_mk h2
   obtain⟨v',e2,r2,ss',q3,q4⟩:=out1_mk h1 e1
   refine⟨v'::vs',e2,by simp [l1],fun i x x' hx hx'=> ?_,ss'++ss,by simp only [shR,q3,q1],by simp [q2,q4]⟩
   cases i with
   |zero=>simp at hx hx';subst hx;subst hx';exact r2
   |succ i=>exact r1 i x x' (by simpa using hx) (by simpa using hx')
  ·cases h
theorem outDs_mk {ts:List TypeId}{v:V}{ds:List D}(h:outDs P ts v=some ds): ∃v',mkV P ts ds=some v'∧(∀(w:World) (g g':Gh) (u:Value),g'.Z=g.Z→Rep w g u v→Rep w g' u v')∧ ∃ss,shR P ts=some ss∧ds.length=ss.length:=by
 unfold outDs at h
 split at h
 ·obtain⟨vs',e1,l1,r1,ss,q1,q2⟩:=outL_mk h
  match vs',l1 with
  | [v'],_=>exact⟨v',by simp [mkV,e1],r1 0 _ v' rfl rfl,ss,q1,q2⟩
 ·rename_i ts0 vs hne
  obtain⟨vs',e1,l1,r1,ss,q1,q2⟩:=outL_mk h
  have hlen:=(mkVs_pure e1).2
  have hn1:ts.length≠1:=fun h1=>by
   match ts,h1,hne with
   | [t],_,hne=>exact hne t rfl
  refine⟨.tup vs',?_,fun w g g' u hz hr=> ?_,ss,q1,q2⟩
  ·unfold mkV
   rw[e1]
   match vs',hlen with
   | [],_=>rfl
   | [x],h1=>exact(hn1 (by simpa using h1.symm)).elim
   |_::_::_,_=>rfl
  ·cases hr with
   |tup us _ hl hr=>
    refine .tup us vs' (by rw[hl,l1]) fun i u c hu hc=> ?_
    have hi:=(Array.getElem?_eq_some_iff.1 hu).1
    exact r1 i _ c (List.getElem?_eq_getElem (by omega)) hc w g g' u hz (hr i u _ hu (List.getElem?_eq_getElem (by omega)))
 ·cases h
theorem mkV_sc {ts:List TypeId}{ds:List D}{v:V}(h:mkV P ts ds=some v){w:World}{g:Gh}{u:Value}(hr:Rep w g u v):Rep w (g.cut 0) u v:=pureT_rep (g:=g) (g':=g.cut 0) rfl (mkV_pure h) hr
theorem dfrO_some {c:Code}{f:FuncId}{args:Array Operand}(h:dfrO c=some (f,args)): ∃id ts ty pos af,c= .region id #[⟨none, .defer ⟨.value (.func f),args,ts⟩,ty,pos,af,none⟩] false:=by
 unfold dfrO at h
 split at h
 ·cases h;exact⟨_,_,_,_,_,rfl⟩
 ·cases h
theorem recO_some {c:Code}{d:Tmp}(h:recO c=some d): ∃id ts ty pos af,c= .region id #[⟨some d, .call ⟨.builtin .recover, #[],ts⟩,ty,pos,af,none⟩] false:=by
 unfold recO at h
 split at h
 ·cases h;exact⟨_,_,_,_,_,rfl⟩
 ·cases h
theorem Sim.through {En:Ent}(hds:En.ds= []){s1 s2:VSt}{a1 a2:Act}{w1 w2:World}{g1 g2:Gh}{ds:List Deferred}{nr:Bool}(h1:Sim En s1 a1 w1 g1)(h2:Sim ⟨w1,g1,s1.h,[],s1.t.length,ds,nr⟩ s2 a2 w2 g2):
  Sim En s2 ⟨a2.tmps,[]⟩ w2 g2:=by
 obtain⟨k1,k2,k3,k4⟩:=h2.keep
 have hk:Keep [] g1 s1.h w1 g2 s2.h w2:=⟨h2.heap,k1,k2,k3,k4⟩
 exact⟨h2.heap,h2.size,h2.tmps,by rw[hds];exact .none,h1.step hk (by simp [okM]),h2.len.trans h1.len⟩
theorem catchT_sound (hE:E.Ok)(hN:EnvN E)(hG:EnvGood P E)(hB:EnvB P E)(hm:P.follows .mixedOrders=true){fn:Func}{R:Ending→World→Prop}{En:Ent}(hds:En.ds= []){f:FuncId}{p:V}{vs:List V}{s:VSt}{a:Act}{w:World}{g:Gh}{r:Exit × VSt}{us:List Value}{u:FrameMode}{v:Value}
  (hk:(catchT sy P Cs (entT sy P Cs 8) f p vs s).run E=some r) (hs:Sim En s ⟨a.tmps,[]⟩ w g) (hu:Reps w g us vs) (hp:Rep w g v p)
  (hmode:(u= .returning∧v= .nilIface)∨u= .panicking [{ v:=v,recovered:=false }])
  (hR: ∀w' g',Sim En r.2 ⟨a.tmps,[]⟩ w' g'→ ∃v,(results fn a.tmps).run P w'= .ok v w'∧R (.returned v) w'):
  CallsDIn Fence.wide 0 P f us.toArray u w (fun e u' w'=>match e with
   | .returned _=>LeavesIn Fence.wide 0 P fn a.tmps R [] (settle u') w'
   | .panicked chain=>LeavesIn Fence.wide 0 P fn a.tmps R [] (raised u' chain) w'
   | .outgrown=>R .outgrown w'):=by
 unfold catchT at hk
 split at hk
 ·rename_i fd _ hfd
  split at hk
  ·rename_i x y hbody hres
   split at hk
   ·rename_i d hrec
    rw[forceL_eq]at hk
    obtain⟨r1,h1,hk⟩:=run_bind_some hE hk
    obtain⟨id,ts,ty,pos,af,rfl⟩:=recO_some hrec
    have hEn:=entry_simG (fn:=fd) (args:=vs) [] (nr:=true) (hs:=hs.heap) (hu:=hu)
    have hEn1:SimE ⟨w,g,s.h,[],(entryS fd vs s.h).t.length,[],true⟩ ⟨(entryS fd vs s.h).t.set d p,s.h⟩ (({ tmps:=us.toArray++Array.replicate (fd.ntmps - us.toArray.size) undef,defers:=[] }:Act).put (some d) v) w:=
     ⟨g,⟨hs.heap,by simpa [Act.put]using hEn.size,fun i u' v' h1' h2'=>by
       simp only [Act.put,Array.getElem?_setIfInBounds]at h1'
       simp only [List.getElem?_set]at h2'
       by_cases hd:d=i
       ·subst hd
        rw[if_pos rfl]at h1' h2'
        split at h1'
        ·split at h2'
         ·cases h1';cases h2';exact hp
         ·cases h2'
        ·cases h1'
       ·rw[if_neg hd]at h1' h2'
        exact hEn.tmps i u' v' h1' h2', .none,⟨Gh.Le.refl _ _,Fr.refl _ _,fun _ _ h=> .inl h,fun _ h=> .inl h⟩,by simp⟩⟩
    have hrun:(codeT sy P true (Cs f) (entT sy P Cs 8) g.n [] false 0 y ⟨(entryS fd vs s.h).t.set d p,s.h⟩).run E=some r1:=by rw[hs.heap.n];exact h1
    have fin: ∀(c0:Frame) (cs:List Frame) (u':FrameMode),settle u'= .returning→y.wpSIn Fence.wide 0 P (bodyPostS P fd c0 cs (fun e u' w'=>match e with
        | .returned _=>LeavesIn Fence.wide 0 P fn a.tmps R [] (settle u') w'
        | .panicked chain=>LeavesIn Fence.wide 0 P fn a.tmps R [] (raised u' chain) w'
        | .outgrown=>R .outgrown w')) (({ tmps:=us.toArray++Array.replicate (fd.ntmps - us.toArray.size) undef,defers:=[] }:Act).put (some d) v) ({ c0 with mode:=u' }::cs) w:=by
     intro c0 cs u' hset
     refine wpSIn_of_wpIn rfl (wpIn_mono (codeT_sound (ro:=none) (En:=⟨w,g,s.h,[],(entryS fd vs s.h).t.length,[],true⟩) (fun h=>by cases h) hE hN hG (entT_sound hE hN hG hB hm 8) (fun h=>by cases h) hm y 0 _ _ _ r1 hrun hEn1) fun e a' w' hr=> ?_)
     obtain⟨e1,s'⟩:=r1
     rcases hr.split with⟨rfl,_⟩|⟨hx,rfl,g',hs'⟩
     ·cases hk
     have hdf:a'.defers= []:=by
      obtain⟨Ds,⟨d1,d2⟩,_⟩:=hs'.defers
      rw[d1,d2 rfl]
      rfl
     have hth: ∀s2,(some (Exit.ret,(⟨s.t,s'.h⟩:VSt))=some r)→s2=r.2→Sim En s2 ⟨a.tmps,[]⟩ w' g':=by
      intro s2 hk e2
      cases hk
      subst e2
      obtain⟨k1,k2,k3,k4⟩:=hs'.keep
      have hkp:Keep [] g s.h w g' s'.h w':=⟨hs'.heap,k1,k2,k3,k4⟩
      have ho:=hkp.over hs.heap
      exact⟨hs'.heap,hs.size,fun i u v h1 h2=>ho.repC_nil (hs.tmps i u v h1 h2),by rw[hds];exact .none,hs.step hkp (by simp [okM]),hs.len⟩
     obtain⟨ur,hres',_⟩:=resV_run hs' (fn:=fd) (v:= .tup []) (by rw[hres];rfl)
     have last: ∀s2,(some (Exit.ret,(⟨s.t,s'.h⟩:VSt))=some r)→s2=r.2→LeavesIn Fence.wide 0 P fn a.tmps R [] (settle u') w':=fun s2 h1 h2=>by
      rw[hset]
      exact hR w' g' (h2▸hth s2 h1 h2)
     cases e with
     |normal=>exact⟨hdf,u',rfl,_,hres',last _ hk rfl⟩
     |ret=>exact⟨hdf,u',rfl,_,hres',last _ hk rfl⟩
     |_=>cases hk
    refine callsDIn_of_wpSIn hfd hbody trivial fun c0 cs hc0=>wpSIn_seq (wpSIn_region ?_)
    rw[show List.range #[(⟨some d, .call ⟨.builtin .recover, #[],ts⟩,ty,pos,af,none⟩:Oper)].size= [0]from rfl]
    have hex: ∀(ρ:Operand→Value),(execOp ρ (⟨some d, .call ⟨.builtin .recover, #[],ts⟩,ty,pos,af,none⟩:Oper)).run P w= .ok .recover w:=fun ρ=>rfl
    simp only [wpOpsSIn,List.getElem?_toArray,List.getElem?_cons_zero,Region.wanted,if_true,hex]
    refine⟨fun _ _=>trivial,?_⟩
    rcases hmode with⟨h1,h2⟩|h1
    ·subst h1 h2
     have:recoverD (c0::cs)=none:=by simp only [recoverD,hc0]
     rw[this]
     have:=fin c0 cs .returning rfl
     rw[←hc0]at this
     exact this
    ·subst h1
     have:recoverD (c0::cs)=some (v,{ c0 with mode:= .panicking [{ v:=v,recovered:=true }] }::cs):=by simp only [recoverD,hc0]
     rw[this]
     exact fin c0 cs _ rfl
   ·cases hk
  ·cases hk
 ·cases hk
theorem dfrT_sound (hE:E.Ok)(hN:EnvN E)(hG:EnvGood P E)(hB:EnvB P E)(hm:P.follows .mixedOrders=true){fn:Func}{R:Ending→World→Prop}{En:Ent}(hds:En.ds= [])(hM:En.M= [])(hnr:En.nr=true){C:CfgT}{r:Exit × VSt}
  (hR: ∀t w' g',Sim En r.2 ⟨t,[]⟩ w' g'→r.1= .ret→ ∃v,(results fn t).run P w'= .ok v w'∧R (.returned v) w'):
  ∀(c:Code) (s:VSt) (a:Act) (w:World),(dfrT sy P Cs C (entT sy P Cs 8) En.g.n c s).run E=some r→SimE En s a w→c.wpIn Fence.wide 0 P (bodyPostDIn Fence.wide 0 P fn R) a w:=by
 intro c
 induction c with
 |seq x y ihx ihy=>
  intro s a w hk hs
  unfold dfrT at hk
  split at hk
  ·rename_i f args hd
   obtain⟨id,ts,ty,pos,af,rfl⟩:=dfrO_some hd
   obtain⟨r1,h1,hk⟩:=run_bind_some hE hk
   obtain⟨g,hs⟩:=hs
   have hdf:a.defers= []:=by
    obtain⟨Ds,⟨d1,d2⟩,_⟩:=hs.defers
    rw[d1,d2 hnr,hds]
    rfl
   refine wpIn_seq (wpIn_region ?_)
   rw[show List.range #[(⟨none, .defer ⟨.value (.func f),args,ts⟩,ty,pos,af,none⟩:Oper)].size= [0]from rfl]
   let d:Deferred:= { target:= .fn (.func f) #[],args:=args.map a.eval }
   have hex:((⟨none, .defer ⟨.value (.func f),args,ts⟩,ty,pos,af,none⟩:Oper).semAt (Fence.wide).round a.eval).run P w= .ok (.defer d) w:=by
    have e:(⟨none, .defer ⟨.value (.func f),args,ts⟩,ty,pos,af,none⟩:Oper).semAt (Fence.wide).round a.eval=execOp a.eval ⟨none, .defer ⟨.value (.func f),args,ts⟩,ty,pos,af,none⟩:=Oper.semAt_none _ _
    rw[e]
    simp [execOp,resolve,Act.eval,Deferred.ofValue,Sem.run_bind,Sem.run_pure,Result.andThen_ok,d]
   simp only [wpOpsIn,List.getElem?_toArray,List.getElem?_cons_zero,Region.wanted,if_true,Oper.wpIn,hex,Oper.uponIn_defer]
   refine⟨fun _ _=>trivial,?_⟩
   have hs1:SimE ⟨w,g,s.h,[],s.t.length,[d],true⟩ s { a with defers:=[d] } w:=
    ⟨g,hs.heap,hs.size,hs.tmps,⟨[],⟨rfl,fun _=>rfl⟩,List.nodup_nil,by simp⟩,⟨Gh.Le.refl _ _,Fr.refl _ _,fun _ _ h=> .inl h,fun _ h=> .inl h⟩,rfl⟩
   have hargs:Reps w g (args.toList.map a.eval) (args.toList.map s.get):=⟨by simp,fun i u v h1 h2=>by
    rw[List.getElem?_map,Option.map_eq_some_iff]at h1 h2
    obtain⟨q,hq,rfl⟩:=h1
    obtain⟨q',hq',rfl⟩:=h2
    rw[hq]at hq';cases hq'
    exact hs.get q⟩
   have h1':(codeT sy P true C (entT sy P Cs 8) g.n [] false 0 y s).run E=some r1:=by rw[hs.heap.n];exact h1
   rw[hdf]
   refine wpIn_mono (codeT_sound (ro:=none) (En:=⟨w,g,s.h,[],s.t.length,[d],true⟩) (fun h=>by cases h) hE hN hG (entT_sound hE hN hG hB hm 8) (fun h=>by cases h) hm y 0 _ _ _ r1 h1' hs1) fun e a' w' hr=> ?_
   have key: ∀(s2:VSt) (g2:Gh) (u:FrameMode) (p:V) (v:Value),Sim ⟨w,g,s.h,[],s.t.length,[d],true⟩ s2 a' w' g2→Rep w' g2 v p→u≠ .run→
       ((u= .returning∧v= .nilIface)∨u= .panicking [{ v:=v,recovered:=false }])→(catchT sy P Cs (entT sy P Cs 8) f p (args.toList.map s.get) s2).run E=some r→LeavesIn Fence.wide 0 P fn a'.tmps R a'.defers u w':=by
    intro s2 g2 u p v hs2 hp hu hmode hk
    have hdf2:a'.defers= [d]:=by
     obtain⟨Ds,⟨d1,d2⟩,_⟩:=hs2.defers
     rw[d1,d2 rfl]
     rfl
    rw[hdf2]
    obtain⟨k1,k2,k3,k4⟩:=hs2.keep
    have hkp:Keep [] g s.h w g2 s2.h w':=⟨hs2.heap,k1,k2,k3,k4⟩
    have ho:=hkp.over hs.heap
    have hargs2:Reps w' g2 (args.toList.map a.eval) (args.toList.map s.get):=⟨hargs.1,fun i u v h1 h2=>ho.repC_nil (hargs.2 i u v h1 h2)⟩
    have hgf:goodF P f=true:=by
     unfold catchT at hk
     split at hk
     ·assumption
     ·cases hk
    have hinv:(invoke (.fn (.func f) #[]) (args.map a.eval)).run P w'= .ok (.enter f (args.toList.map a.eval).toArray) w':=by
     rw[show(args.toList.map a.eval).toArray=args.map a.eval++ #[] by apply Array.ext';simp]
     exact run_callFunc hgf _ _
    refine leavesIn_cons hu (fun h=>by simp [Fence.wide]at h) hinv (fun _ _=>trivial) ?_
    have hret:r.1= .ret:=by
     unfold catchT at hk
     split at hk
     ·split at hk
      ·split at hk
       ·rw[forceL_eq]at hk
        obtain⟨r1,_,hk⟩:=run_bind_some hE hk
        split at hk<;>cases hk<;>rfl
       ·cases hk
      ·cases hk
     ·cases hk
    exact(catchT_sound hE hN hG hB hm hds hk (hs.through hds hs2) hargs2 hp hmode fun w2 g3 h3=>hR _ _ _ h3 hret).mono fun e u2 w2 h=>by
     cases e<;>exact h
   obtain⟨e1,s'⟩:=r1
   rcases hr.split with⟨rfl,⟨u,rfl⟩,p,t,ht,hpan⟩|⟨hx,rfl,g',hs'⟩
   ·obtain⟨g',u',he,hru,hs2⟩:=hpan
    cases he
    have hk:Tree.run E (match s'.t with
     |p::t=>catchT sy P Cs (entT sy P Cs 8) f p (args.toList.map s.get) ⟨t,s'.h⟩
     | []=> .fail)=some r:=hk
    rw[ht]at hk
    exact key _ g' _ p u hs2 hru (by simp) (.inr rfl) hk
   ·cases e with
    |normal=>exact key s' g' _ _ .nilIface hs' .ifn0 (by simp) (.inl ⟨rfl,rfl⟩) hk
    |ret=>exact key s' g' _ _ .nilIface hs' .ifn0 (by simp) (.inl ⟨rfl,rfl⟩) hk
    |outgrown=>exact(hx rfl).elim
    |_=>cases hk
  ·obtain⟨r1,h1,hk⟩:=run_bind_some hE hk
   refine wpIn_seq (wpIn_mono (codeT_sound (inR:=true) (ro:=none) (En:=En) (fun h=>by cases h) hE hN hG (entT_sound hE hN hG hB hm 8) (fun h=>by cases h) hm x 0 _ _ _ r1 (by rw[hM];exact h1) hs) fun e a' w' hr=> ?_)
   obtain⟨e1,s'⟩:=r1
   rcases hr.split with⟨rfl,_⟩|⟨hx,rfl,hs'⟩
   ·cases hk
   cases e with
   |normal=>exact ihy s' a' w' hk hs'
   |_=>cases hk
 |_=>intro s a w hk;cases hk
theorem funT_sound (hE:E.Ok)(hN:EnvN E)(hG:EnvGood P E)(hB:EnvB P E)(hm:P.follows .mixedOrders=true){f:FuncId}{args:List V}{p:PRes}(hsig: ∀fn,P.funcs[f]? =some fn→goodF P f=true)(hk:(funT sy P Cs f args).run E=some p):PGood P f args p:=by
 unfold funT at hk
 split at hk
 ·rename_i fn hf
  split at hk
  ·rename_i c hb
   rw[forceL_eq]at hk
   obtain⟨r1,h1,hk⟩:=run_bind_some hE hk
   have hsg:sigP P f=some fn.resultTypes.toList:=by
    unfold sigP
    rw[hsig fn hf,hf]
   have run: ∀(g:Gh) (w:World) (us:List Value),SimH g [] w→Reps w g us args→
       Calls P f us.toArray w fun e w'=> ∃a' g',(r1.1= .normal∨r1.1= .ret)∧Sim ⟨w,g,[],[],(entryS fn args []).t.length,[],false⟩ r1.2 a' w' g'∧ ∃v,(results fn a'.tmps).run P w'= .ok v w'∧e= .returned v:=by
    intro g w us hs hu
    unfold bodyT at h1
    split at h1
    rotate_left
    ·have hEn:=entry_simG (fn:=fn) [] (nr:=true) (hs:=hs) (hu:=hu)
     refine callsIn_wide.1 (callsIn_of_wp_defers (F:=Fence.wide) (n:=0) hf hb trivial ?_)
     refine dfrT_sound (En:=⟨w,g,[],[],(entryS fn args []).t.length,[],true⟩) hE hN hG hB hm rfl rfl rfl (r:=r1) (fun t w' g' hs' he=> ?_) c _ _ _ (by rw[hs.n];exact h1) ⟨g,hEn⟩
     obtain⟨e,s'⟩:=r1
     have he:e= .ret:=he
     subst he
     have hq: ∃v,resV P s' fn.results.toList=some v:=by
      cases hv:resV P s' fn.results.toList with
      |some v=>exact⟨v,rfl⟩
      |none=>simp only [endP,hv]at hk;cases hk
     obtain⟨v,hv⟩:=hq
     obtain⟨u,hu,_⟩:=resV_run hs' hv
     exact⟨u,hu,⟨t,[]⟩,g', .inr rfl,⟨hs'.heap,hs'.size,hs'.tmps, .none,hs'.keep,hs'.len⟩,u,hu,rfl⟩
    refine callsIn_wide.1 (callsIn_of_wp_marks (F:=Fence.wide) (n:=0) hf hb trivial ?_)
    have hEn:=entry_sim (fn:=fn) [] (hs:=hs) (hu:=hu)
    have h1':(codeT sy P false (Cs f) (entT sy P Cs 8) g.n [] false 0 c (entryS fn args [])).run E=some r1:=by rw[hs.n];exact h1
    refine wpIn_mono (codeT_sound (ro:=none) (En:=⟨w,g,[],[],(entryS fn args []).t.length,[],false⟩) (fun _=>rfl) hE hN hG (entT_sound hE hN hG hB hm 8) (fun _=>rfl) hm c 0 _ _ _ r1 h1' hEn) fun e a' w' hr=> ?_
    obtain⟨e1,s'⟩:=r1
    obtain⟨rfl,_⟩|⟨hx,rfl,g',hs'⟩:=hr.split
    ·cases hk
    have fin: ∀(e:Exit),(e= .normal∨e= .ret)→(endP P fn (e,s')).run E=some p→LeavesInM Fence.wide 0 P fn a'.tmps (fun e0 w'=> ∃a' g',(e= .normal∨e= .ret)∧Sim ⟨w,g,[],[],(entryS fn args []).t.length,[],false⟩ s' a' w' g'∧ ∃v',(results fn a'.tmps).run P w'= .ok v' w'∧e0= .returned v') a'.defers .returning w':=by
     intro e he hq
     have hq: ∃v,resV P s' fn.results.toList=some v:=by
      cases hv:resV P s' fn.results.toList with
      |some v=>exact⟨v,rfl⟩
      |none=>rcases he with rfl|rfl<;>(simp only [endP,hv]at hq;cases hq)
     obtain⟨v,hv⟩:=hq
     refine leaves_sim rfl rfl hs' fun a2 w2 ha2 hs2=> ?_
     rw[←ha2]
     obtain⟨u,hu,_⟩:=resV_run hs2 hv
     exact⟨u,hu,a2,g',he,hs2,u,hu,rfl⟩
    cases e with
    |normal=>exact fin _ (.inl rfl) hk
    |ret=>exact fin _ (.inr rfl) hk
    |_=>cases hk
   obtain⟨e,s'⟩:=r1
   have hk:Tree.run E (match resV P s' fn.results.toList with
    |some v=>match v,fn.resultTypes.toList with
     | .own b,[t]=>match s'.h[b]?,elO P t with
       |some (.arr e sz rows),some (e',sz')=>match decide (e'=e∧sz'=sz)with
        |true=> .ret (.own e sz rows)
        |false=> .fail
       |_,_=> .fail
     |v,ts=>match resV P (s'.frz v.ownsT) fn.results.toList with
      |some v'=>match outDs P ts v' with
       |some ds=> .ret (.val ds)
       |none=> .fail
      |none=> .fail
    |none=> .fail)=some p:=by
    cases e with
    |normal=>exact hk
    |ret=>exact hk
    |_=>cases hk
   split at hk
   ·rename_i v hv
    split at hk
    ·rename_i b t hts
     split at hk
     ·rename_i ee sze rows e' sz' hbx hel
      split at hk
      ·rename_i hd
       obtain⟨e3,e4⟩:=of_decide_eq_true hd
       rw[e3,e4]at hel
       clear hd e3 e4 e' sz'
       cases hk
       refine⟨t,by rw[hsg,hts],hel,fun g w us hs hu=>(run g w us hs hu).mono ?_⟩
       rintro e0 w' ⟨a',g',_,hs',v,hres,rfl⟩
       obtain⟨u,hu',hr⟩:=resV_run hs' hv
       rw[hres]at hu';cases hu'
       obtain⟨k1,k2,k3,k4⟩:=hs'.keep
       have hkeep:Keep [] g [] w g' s'.h w':=⟨hs'.heap,k1,k2,k3,k4⟩
       have hbl:b < s'.h.length:=(List.getElem?_eq_some_iff.1 hbx).1
       have hge:s'.h.getD b .gone= .arr ee sze rows:=by rw[List.getD_eq_getElem?_getD,hbx];rfl
       have hL:reachOK s'.h [b] [.own b]=true:=by
        simp only [reachOK,nodupB,List.all_cons,List.all_nil,hge,Bool.and_true,V.inLs,V.inB,Box.inB]
        simp [hbl]
       obtain⟨g2,hk2,hrep⟩:=hkeep.tell hs.n hL (fun i hi=>by simp at hi)
       refine⟨v,g2,rfl,?_,?_⟩
       ·have:=hrep v _ hr (by simp [V.inB])
        simpa [V.ren,tau,List.idxOf?]using this
       ·have e2:smallH s'.h [b]= [.arr ee sze rows]:=by simp only [smallH,List.map_cons,List.map_nil,hge,Box.ren]
        rw[e2]at hk2
        exact hk2
      ·cases hk
     ·cases hk
    ·rename_i v0 ts0 hne
     split at hk
     ·rename_i v' hv'
      obtain⟨L,hL⟩: ∃L,resV P (s'.frz L) fn.results.toList=some v':=⟨_,hv'⟩
      split at hk
      ·rename_i ds hds
       cases hk
       obtain⟨v2,m1,m2,ss,m3,m4⟩:=outDs_mk hds
       refine⟨_,ss,v2,hsg,m3,m4,m1,fun g w us hs hu=>(run g w us hs hu).mono ?_⟩
       rintro e0 w' ⟨a',g',_,hs',u0,hres,rfl⟩
       obtain⟨g1,hs1⟩:=SimE.frzs (bs:=L) ⟨g',hs'⟩
       obtain⟨u,hu',hr⟩:=resV_run hs1 hL
       rw[hres]at hu';cases hu'
       obtain⟨k1,k2,k3,k4⟩:=hs1.keep
       have hkeep:Keep [] g [] w g1 (s'.frz L).h w':=⟨hs1.heap,k1,k2,k3,k4⟩
       have hn:g.n=0:=hs.n
       exact⟨u0,g1.cut 0,rfl,mkV_sc m1 (m2 w' g1 g1 u0 rfl hr),hkeep.cutN (n:=0) (by omega) (by omega) rfl⟩
      ·cases hk
     ·cases hk
   ·cases hk
  ·cases hk
 ·cases hk
theorem Keep.less {M:List Nat}{g g':Gh}{h h' ys:List Box}{w w':World}(hk:Keep M g h w g' h' w')(hn:g.n≤ys.length)
  (hw: ∀(i:Nat) y,ys[i]? =some y→ ∃x,h'[i]? =some x∧WkBY ys.length (fun _=>none) x y):Keep M g h w (g'.cut ys.length) ys w':=by
 have hown: ∀k,Owned (g'.cut ys.length) ys k→Owned g' h' k:=by
  rintro k ⟨b,y,hy,hat⟩
  obtain⟨x,hx,hw⟩:=hw b y hy
  exact⟨b,x,hx,hw.2 g' b k hat⟩
 refine⟨⟨rfl,fun b y hy=> ?_,fun b c y z k hb hc hat hat'=> ?_,fun k o hk' hz=>hk.heap.zsep k o (hown k hk') hz,hk.heap.zlt,hk.heap.tab⟩,⟨hk.le.Z,hn,hk.le.blk,hk.le.val,hk.le.cd⟩,hk.fr,hk.znew,fun k hk'=>hk.own k (hown k hk')⟩
 ·obtain⟨x,hx,hw⟩:=hw b y hy
  exact hw.1 w' g' b (fun _ _ h=>by cases h) (hk.heap.rep b x hx)
 ·obtain⟨x,hx,hw1⟩:=hw b y hb
  obtain⟨x',hx',hw2⟩:=hw c z hc
  exact hk.heap.sep b c x x' k hx hx' (hw1.2 g' b k hat) (hw2.2 g' c k hat')
theorem bres1_run {E:Env}(hE:E.Ok){ss:List Sh}{mk:List D→Option V}{sks:List BSk}{ds:List D}{j:Nat}{q:V × List Box}(h:(bres1 sy ss mk sks ds j).run E=some q):
  ∃xs k,xs.length=ss.length∧(∀(i:Nat) x,xs[i]? =some x→ds[j+i]? =some x)∧mk xs=some q.1∧(openBL sy sks ds (j+ss.length)).run E=some (q.2,k):=by
 unfold bres1 at h
 obtain⟨xs,h1,h⟩:=run_bind_some hE h
 obtain⟨q1,q2⟩:=openRT_run hE h1
 split at h
 ·rename_i v hv
  obtain⟨q',h2,h⟩:=run_bind_some hE h
  cases h
  exact⟨xs,q'.2,q1,q2,hv,h2⟩
 ·cases h
theorem part_eq {xs ds full:List D}{j:Nat}(hl:xs.length=ds.length)(hx: ∀(i:Nat) x,xs[i]? =some x→full[j+i]? =some x)(hd:At full j ds):xs=ds:=by
 apply List.ext_getElem?
 intro i
 cases hi:xs[i]? with
 |none=>
  have:=List.getElem?_eq_none_iff.1 hi
  exact(List.getElem?_eq_none_iff.2 (by omega)).symm
 |some x=>
  have h1:=hx i x hi
  have hlt:i < ds.length:=by rw[←hl];exact(List.getElem?_eq_some_iff.1 hi).1
  have h2:=hd i ds[i] (List.getElem?_eq_getElem hlt)
  rw[List.getElem?_eq_getElem hlt,←h1,h2]
theorem mkVs_flatV: ∀ {ts:List TypeId} {ds:List D} {vs:List V},mkVs P ts ds=some vs→ ∀v∈vs,(∃cs,v= .agg cs)∨ ∃d,v= .d d
 | [],[],vs,h=>by cases h;simp
 | [],_::_,vs,h=>by cases h
 |t::ts,ds,vs,h=>by
  unfold mkVs at h
  split at h
  ·split at h
   ·rename_i vs' _ h2
    cases h
    intro v hv
    rcases List.mem_cons.1 hv with rfl|hv
    ·exact .inl ⟨_,rfl⟩
    ·exact mkVs_flatV h2 v hv
   ·cases h
  ·split at h
   ·split at h
    ·rename_i vs' h2
     cases h
     intro v hv
     rcases List.mem_cons.1 hv with rfl|hv
     ·exact .inr ⟨_,rfl⟩
     ·exact mkVs_flatV h2 v hv
    ·cases h
   ·cases h
  ·cases h
theorem mkV_pan {ts:List TypeId}{ds:List D}{v:V}(h:mkV P ts ds=some v):panOf v=none:=by
 cases hp:panOf v with
 |none=>rfl
 |some p=>
  exfalso
  have e:=panOf_spec hp
  subst e
  unfold mkV at h
  split at h
  ·rename_i v hv
   cases h
   rcases mkVs_flatV hv _ List.mem_cons_self with⟨cs,h⟩|⟨d,h⟩<;>cases h
  ·rename_i vs _ hv
   cases h
   rcases mkVs_flatV hv _ List.mem_cons_self with⟨cs,h⟩|⟨d,h⟩<;>cases h
  ·cases h
theorem At.self (a b c:List D):At (a++b++c) a.length b:=fun i x hx=>by
 have hi:=(List.getElem?_eq_some_iff.1 hx).1
 rw[List.append_assoc,List.getElem?_append_right (by omega),Nat.add_sub_cancel_left,List.getElem?_append_left hi];exact hx
theorem At.last (a b c:List D):At (a++b++c) (a.length+b.length) c:=fun i x hx=>by
 rw[List.getElem?_append_right (by simp only [List.length_append];omega),List.length_append,Nat.add_sub_cancel_left];exact hx
theorem funB_sound (hE:E.Ok)(hN:EnvN E)(hG:EnvGood P E)(hB:EnvB P E)(hm:P.follows .mixedOrders=true){f:FuncId}{pn:Nat}{args:List V}{hs:List Box}{p:PRes}(hk:(funB sy P Cs f pn args hs).run E=some p):BGood P f pn args hs p:=by
 unfold funB at hk
 split at hk
 ·rename_i fn hf hyb
  split at hk
  ·rename_i c hb
   rw[forceL_eq]at hk
   obtain⟨r1,h1,hk⟩:=run_bind_some hE hk
   intro ts E' q hE' hsig hq
   have hts:ts=fn.resultTypes.toList:=by
    have hg:=sigP_some hsig
    unfold sigP at hsig
    rw[hg,hf]at hsig
    exact(Option.some.inj hsig).symm
   have hok: ∀x∈hs.map Box.sk,x.okY (fun _=>none):=fun x hx=>by
    have hy:=List.all_eq_true.1 hyb x hx
    cases x with
    |cells k l=>exact okYL_none l hy
    |_=>exact trivial
   refine HEnd.of fun g w us hs' hu=> ?_
   have hgn:g.n=hs.length:=hs'.n
   have weak: ∀ {sks:List BSk} {g2:Gh} {h2 ys:List Box} {w2:World} {xs full:List D} {j k:Nat},sks.length=hs.length→(∀x∈sks,x.okY (fun _=>none))→Keep (arrsOf hs) g hs w g2 h2 w2→BSk.fitL hs.length sks h2=some xs→At full j xs→
       (openBL sy sks full j).run E'=some (ys,k)→Keep (arrsOf hs) g hs w (g2.cut ys.length) ys w2:=by
    intro sks g2 h2 ys w2 xs full j k hsl hok hk hfit hat hop
    obtain⟨ys',e2,l2,l3,w2'⟩:=bfit_openL hE' (n:=hs.length) (c:=fun _=>none) sks hfit hok hat
    rw[e2]at hop
    cases hop
    have hl:ys.length=hs.length:=by rw[l2,hsl]
    exact hk.less (by omega) (by rw[hl];exact w2')
   refine callsIn_wide.1 (callsIn_of_wp_marks (F:=Fence.wide) (n:=0) hf hb trivial ?_)
   have hEn:=entry_sim (fn:=fn) (arrsOf hs) (hs:=hs') (hu:=hu)
   have h1':(codeT sy P false (Cs f) (entT sy P Cs 8) g.n (arrsOf hs) false 0 c (entryS fn args hs)).run E=some r1:=by rw[hs'.n];exact h1
   refine wpIn_mono (codeT_sound (ro:=none) (En:=⟨w,g,hs,arrsOf hs,(entryS fn args hs).t.length,[],false⟩) (fun _=>rfl) hE hN hG (entT_sound hE hN hG hB hm 8) (fun _=>rfl) hm c 0 _ _ _ r1 h1' hEn) fun e a' w' hr=> ?_
   obtain⟨e1,s'⟩:=r1
   rcases hr.split with⟨rfl,⟨u,rfl⟩,p0,t,ht,hpan⟩|⟨hx,rfl,g',hs2⟩
   ·obtain⟨g',u',he,hru,hs2⟩:=hpan
    cases he
    refine leaves_simP rfl rfl hs2 hru fun a2 w2 ha2 hs3 hru=> ?_
    obtain⟨k1,k2,k3,k4⟩:=hs3.keep
    have hkeep:Keep (arrsOf hs) g hs w g' s'.h w2:=⟨hs3.heap,k1,k2,fun b o hz=>(k3 b o hz),k4⟩
    cases pn with
    |zero=>cases hk
    |succ m=>
     unfold endB at hk
     simp only [ht]at hk
     cases p0 with
     |ifc tt cs=>
      simp only at hk
      split at hk
      ·rename_i ps hd hps
       have hd:=of_decide_eq_true hd
       subst hd
       split at hk
       ·rename_i ds xs hfit hbx
        cases hk
        obtain⟨rfl,hl,_⟩:=fitDs_same hfit
        unfold bresT at hq
        split at hq
        ·rename_i ss hss
         simp only [hps,Tree.run,PRes.leaves,flagD]at hq
         have e0:opB (sy.cell ([D.bool true]++ds++xs) 0)=some true:=rfl
         rw[e0]at hq
         simp only [Option.bind_some]at hq
         obtain⟨xs0,k0,l0,x0,mk0,op0⟩:=bres1_run hE' hq
         have e1:xs0=ds:=part_eq (by omega) x0 (At.self [D.bool true] ds xs)
         subst e1
         have e2:q.1=panV (.ifc (m+1) xs0):=(Option.some.inj mk0).symm
         have hw:=weak (List.length_map _) hok hkeep hbx (At.last [D.bool true] xs0 xs) (by rw[hl];exact op0)
         refine⟨_,?_,hw⟩
         rw[e2]
         show PanV _ _ _ _
         refine⟨_,rfl,?_⟩
         cases hru with
         |ifc _ us _ hl' h'=>exact .ifc _ us _ hl' h'
        ·cases hq
       ·cases hk
      ·cases hk
     |_=>cases hk
   ·have fin: ∀(e:Exit),(e= .normal∨e= .ret)→(endB P fn pn args hs (e,s')).run E=some p→LeavesInM Fence.wide 0 P fn a'.tmps (fun e w'=> ∃g',EndR q.1 e w' g'∧Keep (arrsOf hs) g hs w g' q.2 w') a'.defers .returning w':=by
     intro e he hk
     have hk:Tree.run E (match resV P s' fn.results.toList with
      |some v0=>match resV P (s'.frz v0.ownsT) fn.results.toList with
       |some v=>match outDs P fn.resultTypes.toList v,fitB P args hs (s'.frz v0.ownsT).h pn with
        |some ds,some (fl,xs)=> .ret (.val (fl++ds++xs))
        |_,_=> .fail
       |none=> .fail
      |none=> .fail)=some p:=by rcases he with rfl|rfl<;>exact hk
     refine leaves_sim rfl rfl hs2 fun a2 w2 ha2 hs3=> ?_
     rw[←ha2]
     split at hk
     ·rename_i v0 hv0
      split at hk
      ·rename_i v hv
       split at hk
       ·rename_i ds fl xs hds hbx
        cases hk
        obtain⟨g1,hs4⟩:=SimE.frzs (bs:=v0.ownsT) ⟨g',hs3⟩
        obtain⟨k1,k2,k3,k4⟩:=hs4.keep
        have hkeep:Keep (arrsOf hs) g hs w g1 (s'.frz v0.ownsT).h w2:=⟨hs4.heap,k1,k2,fun b o hz=>(k3 b o hz),k4⟩
        obtain⟨u,hu',hr⟩:=resV_run hs4 hv
        obtain⟨v2,m1,m2,ss,m3,m4⟩:=outDs_mk hds
        rw[←hts]at m1 m3
        have key: ∃sks k0,sks.length=hs.length∧(∀x∈sks,x.okY (fun _=>none))∧BSk.fitL hs.length sks (s'.frz v0.ownsT).h=some xs∧mkV P ts ds=some q.1∧(openBL sy sks (fl++ds++xs) (fl.length+ds.length)).run E'=some (q.2,k0):=by
         unfold bresT at hq
         rw[m3]at hq
         unfold fitB at hbx
         have step: ∀ {sks:List BSk},(bres1 sy ss (mkV P ts) sks (fl++ds++xs) fl.length).run E'=some q→ ∃k0,mkV P ts ds=some q.1∧(openBL sy sks (fl++ds++xs) (fl.length+ds.length)).run E'=some (q.2,k0):=by
          intro sks hq
          obtain⟨xs0,k0,l0,x0,mk0,op0⟩:=bres1_run hE' hq
          have e1:xs0=ds:=part_eq (by omega) x0 (At.self fl ds xs)
          subst e1
          exact⟨k0,mk0,by rw[m4];exact op0⟩
         cases pn with
         |zero=>
          simp only at hq hbx
          cases ha:altSk P args hs with
          |none=>
           rw[ha]at hq hbx
           simp only at hq hbx
           split at hbx
           ·rename_i xs' hx'
            cases hbx
            obtain⟨k0,h1,h2⟩:=step hq
            exact⟨_,k0,List.length_map _,hok,hx',h1,h2⟩
           ·cases hbx
          |some sk2=>
           rw[ha]at hq hbx
           simp only at hq hbx
           split at hbx
           ·rename_i xs' hx'
            cases hbx
            simp only [Tree.run,PRes.leaves]at hq
            have e0:opB (sy.cell ([D.bool false]++ds++xs) 0)=some false:=rfl
            rw[e0]at hq
            simp only [Option.bind_some]at hq
            obtain⟨k0,h1,h2⟩:=step hq
            exact⟨_,k0,List.length_map _,hok,hx',h1,h2⟩
           ·split at hbx
            ·rename_i xs' hx' hyb2
             cases hbx
             simp only [Tree.run,PRes.leaves]at hq
             have e0:opB (sy.cell ([D.bool true]++ds++xs) 0)=some true:=rfl
             rw[e0]at hq
             simp only [Option.bind_some]at hq
             obtain⟨k0,h1,h2⟩:=step hq
             refine⟨_,k0,?_,fun x hx=> ?_,hx',h1,h2⟩
             ·unfold altSk at ha
              split at ha
              ·split at ha
               ·cases ha;simp
               ·cases ha
              ·cases ha
             ·have hy:=List.all_eq_true.1 hyb2 x hx
              cases x with
              |cells k l=>exact okYL_none l hy
              |_=>exact trivial
            ·cases hbx
         |succ m=>
          simp only at hq hbx
          split at hbx
          ·rename_i xs' hx'
           cases hbx
           split at hq
           ·simp only [Tree.run,PRes.leaves,flagD]at hq
            have e0:opB (sy.cell ([D.bool false]++ds++xs) 0)=some false:=rfl
            rw[e0]at hq
            simp only [Option.bind_some]at hq
            obtain⟨k0,h1,h2⟩:=step hq
            exact⟨_,k0,List.length_map _,hok,hx',h1,h2⟩
           ·cases hq
          ·cases hbx
        obtain⟨sks,k0,hsl,hsok,hsfit,hmk,hop⟩:=key
        have hw:=weak hsl hsok hkeep hsfit (At.last fl ds xs) hop
        refine⟨u,hu',_,?_,hw⟩
        unfold EndR
        rw[mkV_pan hmk]
        rw[m1]at hmk
        refine⟨u,rfl,?_⟩
        rw[←Option.some.inj hmk]
        exact m2 w2 g1 _ u rfl hr
       ·cases hk
      ·cases hk
     ·cases hk
    cases e with
    |normal=>exact fin _ (.inl rfl) hk
    |ret=>exact fin _ (.inr rfl) hk
    |outgrown=>exact(hx rfl).elim
    |_=>cases hk
  ·cases hk
 ·cases hk
def KGood (P:Program)(K:FuncId→List V→Option PRes):Prop:=KV P∧(∀f args p,goodF P f=true→args.all V.pureB=true→K f args=some p→PGood P f args p)∧ ∀f key pn as hs p,goodF P (bkey f)=false→decB key=some (pn,as,hs)→K (bkey f) key=some p→BGood P f pn as hs p
def callN (P:Program)(Cs:FuncId→CfgT)(K:FuncId→List V→Option PRes):Nat→FuncId→List V→Option PRes
 |0,_,_=>none
 |n+1,f,args=>match K f args with
  |some p=>some p
  |none=>match goodF P f with
   |true=>(funT sy P Cs f args).run (envN n (callN P Cs K n))
   |false=>match decB args,isKey f with
    |some (pn,as,hs),true=>(funB sy P Cs (unkey f) pn as hs).run (envN n (callN P Cs K n))
    |_,_=>none
theorem bkey_sub (f:Nat):unkey (bkey f)=f:=by unfold bkey unkey;omega
theorem bkey_le (f:Nat):isKey (bkey f)=true:=decide_eq_true (by unfold bkey;omega)
theorem callN_at {K:FuncId→List V→Option PRes}{n:Nat}{f k:FuncId}{key as:List V}{pn:Nat}{hs:List Box}(h2:isKey k=true)(h1:unkey k=f)(hg:goodF P k=false)(hd:decB key=some (pn,as,hs))(hk:K k key=none):
  callN P Cs K (n+1) k key=(funB sy P Cs f pn as hs).run (envN n (callN P Cs K n)):=by
 subst h1
 rw[callN]
 rw[hk]
 simp only
 rw[hg]
 simp only
 rw[hd,h2]
theorem callN_known {K:FuncId→List V→Option PRes}{n:Nat}{k:FuncId}{key:List V}{p:PRes}(hk:K k key=some p):callN P Cs K (n+1) k key=some p:=by
 rw[callN]
 rw[hk]
theorem callN_key {K:FuncId→List V→Option PRes}{n:Nat}{f:FuncId}{key as:List V}{pn:Nat}{hs:List Box}(hg:goodF P (bkey f)=false)(hd:decB key=some (pn,as,hs))(hk:K (bkey f) key=none):
  callN P Cs K (n+1) (bkey f) key=(funB sy P Cs f pn as hs).run (envN n (callN P Cs K n)):=callN_at (bkey_le f) (bkey_sub f) hg hd hk
variable {K : FuncId → List V → Option PRes}
theorem callN_good (hm:P.follows .mixedOrders=true)(hK:KGood P K): ∀n m,EnvGood P (envN m (callN P Cs K n))∧EnvB P (envN m (callN P Cs K n))
 |0,m=>⟨⟨hK.1,fun f args p _ _ h=>by cases h⟩,fun f key pn as hs p _ _ h=>by cases h⟩
 |n+1,m=>by
  have ih:=callN_good hm hK n n
  refine⟨⟨hK.1,fun f args p hg hp h=> ?_⟩,fun f key pn as hs p hg hd h=> ?_⟩
  ·have h:callN P Cs K (n+1) f args=some p:=h
   unfold callN at h
   split at h
   ·rename_i hk
    cases h
    exact hK.2.1 f args _ hg hp hk
   ·rw[hg]at h
    exact funT_sound (envN_ok n _) ⟨n,fun b ds=>rfl⟩ ih.1 ih.2 hm (fun _ _=>hg) h
  ·have h:callN P Cs K (n+1) (bkey f) key=some p:=h
   cases hk:K (bkey f) key with
   |some p'=>
    rw[callN_known hk]at h
    cases h
    exact hK.2.2 f key pn as hs _ hg hd hk
   |none=>
    rw[callN_key hg hd hk]at h
    exact funB_sound (envN_ok n _) ⟨n,fun b ds=>rfl⟩ ih.1 ih.2 hm h
open Classical in
noncomputable def callF (P:Program) (Cs:FuncId→CfgT) (K:FuncId→List V→Option PRes) (f:FuncId) (args:List V):Option PRes:=
 if h: ∃p N,∀n,N≤n→callN P Cs K n f args=some p then some (Classical.choose h)else none
theorem callF_some {f:FuncId}{args:List V}{p:PRes}:callF P Cs K f args=some p↔ ∃N,∀n,N≤n→callN P Cs K n f args=some p:=by
 unfold callF
 constructor
 ·intro h
  split at h
  ·rename_i hx;cases h;exact Classical.choose_spec hx
  ·cases h
 ·rintro⟨N,h⟩
  have hx: ∃p N,∀n,N≤n→callN P Cs K n f args=some p:=⟨p,N,h⟩
  rw[dif_pos hx]
  obtain⟨N',h'⟩:=Classical.choose_spec hx
  have h1:=h (max N N') (by omega)
  have h2:=h' (max N N') (by omega)
  rw[h1]at h2
  exact h2.symm
theorem callF_of {f:FuncId}{args:List V}{p:PRes}(hg:goodF P f=true)(hk:K f args=none)(h:(funT sy P Cs f args).run (envF (callF P Cs K))=some p):callF P Cs K f args=some p:=by
 obtain⟨N,hN⟩:=run_evl (cN:=callN P Cs K) (fun f args p h=>callF_some.1 h) _ p h
 refine callF_some.2 ⟨N+1,fun n hn=> ?_⟩
 obtain⟨n,rfl⟩: ∃k,n=k+1:=⟨n - 1,by omega⟩
 simp only [callN,hk,hg]
 exact hN n n (by omega) (by omega)
theorem callF_ofB {f:FuncId}{pn:Nat}{as key:List V}{hs:List Box}{p:PRes}(hg:goodF P (bkey f)=false)(hk:K (bkey f) key=none)(hd:decB key=some (pn,as,hs))(h:(funB sy P Cs f pn as hs).run (envF (callF P Cs K))=some p):callF P Cs K (bkey f) key=some p:=by
 obtain⟨N,hN⟩:=run_evl (cN:=callN P Cs K) (fun f args p h=>callF_some.1 h) _ p h
 refine callF_some.2 ⟨N+1,fun n hn=> ?_⟩
 obtain⟨n,rfl⟩: ∃k,n=k+1:=⟨n - 1,by omega⟩
 rw[callN_key hg hd hk]
 exact hN n n (by omega) (by omega)
theorem callF_known {f:FuncId}{args:List V}{p:PRes}(hk:K f args=some p):callF P Cs K f args=some p:=
 callF_some.2 ⟨1,fun n hn=>by
  obtain⟨n,rfl⟩: ∃k,n=k+1:=⟨n - 1,by omega⟩
  simp only [callN,hk]⟩
theorem callF_good (hm:P.follows .mixedOrders=true)(hK:KGood P K){f:FuncId}{args:List V}{p:PRes}(hg:goodF P f=true)(hp:args.all V.pureB=true)(h:callF P Cs K f args=some p):PGood P f args p:=by
 obtain⟨N,hN⟩:=callF_some.1 h
 exact(callN_good hm hK N 0).1.2 f args p hg hp (hN N (Nat.le_refl _))
end
def bs (l:List UInt8):ByteArray:=⟨⟨l⟩⟩
def cutO {α:Type}(x:Option (List D ⊕ α))(K:List D→Option α):Option α:=x.bind fun s=>match s with
 | .inl ds=>K ds
 | .inr a=>some a
section
variable (a b c : Int) (k : IntKind) (l m : List (List D)) (s u : ByteArray) (p q : Bool) (n j : Nat) (ds es : List D) (d e : D)
theorem sy_wrap:sy.wrap k a=k.wrap a:=rfl
theorem sy_add:sy.add a b=a+b:=rfl
theorem sy_sub:sy.sub a b=a - b:=rfl
theorem sy_mul:sy.mul a b=a*b:=rfl
theorem sy_ieq:sy.ieq a b=decide (a=b):=rfl
theorem sy_ilt:sy.ilt a b=decide (a < b):=rfl
theorem sy_ile:sy.ile a b=decide (a≤b):=rfl
theorem sy_seq:sy.seq s u=(s.toList == u.toList):=rfl
theorem sy_beq:sy.beq p q=(p == q):=rfl
theorem sy_bor:sy.bor p q=(p || q):=rfl
theorem sy_bnot:sy.bnot p= !p:=rfl
theorem sy_imax:sy.imax a b=max a b:=rfl
theorem sy_imin:sy.imin a b=min a b:=rfl
theorem sy_rlen:sy.rlen l=l.length:=rfl
theorem sy_slen:sy.slen s=s.size:=rfl
theorem sy_sapp:sy.sapp s u=s++u:=rfl
theorem sy_inr:sy.inr a b=decide (0≤a∧a < b):=rfl
theorem sy_nat:sy.nat a=a.toNat:=rfl
theorem sy_cell0:sy.cell (d::ds) 0=some d:=rfl
theorem sy_cellS:sy.cell (d::ds) (n+1)=sy.cell ds n:=rfl
theorem sy_skip0:sy.skip 0 ds=ds:=rfl
theorem sy_inrn:sy.inrn n l=decide (n < l.length):=rfl
theorem sy_rapp:sy.rapp l m=l++m:=rfl
theorem sy_fits:sy.fits l m n=decide ((l.length+m.length)*(n+1)≤140737488355328):=rfl
theorem sy_cutok:sy.cutok a b c=decide (0≤a∧a≤b∧b≤c):=rfl
theorem sy_cut:sy.cut l a b=(l.take b.toNat).drop a.toNat:=rfl
theorem sy_scut:sy.scut s a b=s.extract a.toNat b.toNat:=rfl
theorem sy_sbyte:sy.sbyte s a=((s.data.getD a.toNat 0).toNat:Int):=rfl
theorem sy_mkok:sy.mkok a b n=decide (a=b∧0≤a∧a*(n+1)≤140737488355328):=rfl
theorem sy_mkok0:sy.mkok0 a n=decide (0≤a∧a*(n+1)≤140737488355328):=rfl
theorem sy_mkz:sy.mkz a n=decide (0 < a∧a*(n+1)≤140737488355328):=rfl
theorem sy_rep:sy.rep a ds=List.replicate a.toNat ds:=rfl
theorem sy_head:sy.head l a=l.take a.toNat:=rfl
theorem sy_deq:sy.deq ds es=eqDs ds es:=rfl
theorem sy_row:sy.row l a=l.getD a.toNat []:=rfl
theorem opI_int:opI (some (.int k a)) k=some a:=by simp [opI]
theorem opB_bool:opB (some (.bool p))=some p:=rfl
theorem opS_str:opS (some (.str s))=some s:=rfl
theorem opL_sl:opL (some (.sl n l)) n=some l:=by simp [opL]
theorem opM_own (t:TypeId):opM (some (.own t n l)) t n=some l:=by simp [opM]
theorem leaves_val:(PRes.val ds).leaves=ds:=rfl
theorem leaves_own (t:TypeId):(PRes.own t n l).leaves= [.sl n l]:=rfl
theorem eqDs_nil:eqDs [] es=true:=by cases es<;>rfl
theorem eqDs_int:eqDs (.int k a::ds) (.int k b::es)=(decide (a=b)&&eqDs ds es):=by
 show((a == b)&&_)=_
 congr 1
end
section
variable {α β : Type} (x y : Option (List D ⊕ α)) (K : List D → Option α) (ds : List D) (a : α) (c p q : Bool)
theorem cutO_inl:cutO (some (.inl ds)) K=K ds:=rfl
theorem cutO_inr:cutO (some (.inr a)) K=some a:=rfl
theorem cutO_bool:cutO (bif c then some (.inl [.bool p])else some (.inl [.bool q])) K=K [.bool (bif c then p else q)]:=by cases c<;>rfl
theorem bif_bool:(bif c then some (Sum.inl [D.bool p])else some (Sum.inl [D.bool q]):Option (List D ⊕ α))=some (.inl [.bool (bif c then p else q)]):=by cases c<;>rfl
end
theorem wrap_id {n:Int}(h1: -9223372036854775808≤n)(h2:n≤9223372036854775807):IntKind.i64.wrap n=n:=by
 simp [IntKind.wrap,IntKind.bits,IntKind.signed]
 omega

def look {α:Type}(d:α):List (Nat × α)→Nat→α
 | [],_=>d
 |(k,x)::r,n=>match Nat.beq k n with
  |true=>x
  |false=>look d r n
def loopTab:List (Nat × List (Nat × LAn)):=[(4,[(2,{ slots:=[(0,none),(3,none),(4,none)] }),(0,{ slots:=[(0,none),(3,none)] })]),
 (5,[(0,{ slots:=[(0,none),(3,none)] })]),
 (8,[(6,{ slots:=[(1,none),(2,none),(3,none),(6,none),(63,none),(64,none),(65,none)] }),(4,{ slots:=[(1,none),(2,none),(3,none),(6,none),(47,none),(48,none),(49,none)] }),(2,{ slots:=[(1,none),(2,none),(3,none),(6,none),(31,none),(32,none),(33,none)] }),(0,{ slots:=[(1,none),(2,none),(3,none),(14,none),(15,none),(16,none)] })]),
 (9,[(6,{ slots:=[(1,none),(2,none),(3,none),(7,none)] }),(4,{ slots:=[(1,none),(2,none),(3,none),(6,none)] }),(2,{ slots:=[(1,none),(2,none),(3,none),(5,none)] }),(0,{ slots:=[(1,none),(2,none),(3,none),(4,none)],own:=[(2,0,25),(2,1,25)] })]),
 (10,[(0,{ slots:=[(1,none),(2,none),(6,none),(8,none),(9,none),(10,none),(54,none),(55,none),(56,none)] })]),
 (12,[(0,{ slots:=[(0,none),(1,none),(5,none)] })]),
 (13,[(0,{ slots:=[(1,none),(2,none),(4,none),(5,none)] })]),
 (16,[(0,{ slots:=[(0,none),(3,none),(5,none)],sole:=[0] })]),
 (18,[(0,{ slots:=[(5,none),(7,none),(8,none),(26,none),(27,none),(28,none)],own:=[(1000,7,24)] })]),
 (19,[(0,{ slots:=[(3,none),(6,none),(7,none),(8,none)] })]),
 (20,[(2,{ slots:=[(2,none),(5,none),(6,none),(7,none),(8,none),(30,none),(31,none)] }),(0,{ slots:=[(2,none),(6,none),(7,none),(8,none)] })]),
 (21,[(0,{ slots:=[(1,none),(7,none),(8,none),(9,none)] })]),
 (23,[(0,{ slots:=[(3,none),(6,none),(7,none),(8,none)] })]),
 (26,[(0,{ slots:=[(2,none),(5,none),(20,none),(21,none),(22,none)] })]),
 (29,[(0,{ slots:=[(2,none),(5,none),(6,none),(7,none),(18,none),(19,none),(20,none)] })]),
 (30,[(0,{ slots:=[(3,none),(8,none),(9,none),(10,none)] })]),
 (31,[(0,{ slots:=[(2,none),(3,none),(4,none),(18,none),(19,none),(20,none)],own:=[(2,4,100),(1000,4,100)] })]),
 (32,[(4,{ slots:=[(55,none),(56,none),(57,none)] }),(2,{ slots:=[(2,none),(4,none),(45,none),(46,none),(47,none)] }),(0,{ slots:=[(2,none),(3,none),(4,none),(12,none),(13,none),(14,none)] })]),
 (33,[(0,{ slots:=[(3,none),(6,none),(7,none),(8,none)] })]),
 (35,[(0,{ slots:=[(1,none),(2,none),(6,none),(22,none),(23,none)],own:=[(1,0,130)] })]),
 (40,[(0,{ slots:=[(0,none),(1,none),(5,none),(6,none),(9,none),(10,none)] })]),
 (42,[(0,{ slots:=[(1,none),(5,none),(10,none),(11,none)] })]),
 (47,[(1,{ slots:=[(2,none),(4,none),(5,none),(59,none),(60,none)] })]),
 (51,[(2,{ slots:=[(6,none),(25,none),(26,none),(27,none)] }),(0,{ slots:=[(0,none),(3,none),(9,none),(10,none),(11,none)] })]),
 (52,[(0,{ slots:=[(0,none),(1,none),(7,none),(8,none)] })]),
 (54,[(0,{ slots:=[(0,none),(1,none),(12,none),(13,none)] })]),
 (60,[(2,{ slots:=[(2,none),(4,none),(72,none),(73,none),(74,none)] }),(0,{ slots:=[(2,none),(3,none),(4,none),(39,none),(40,none),(41,none)] })]),
 (62,[(0,{ slots:=[(2,none),(4,none),(5,none),(7,none),(10,none),(11,none)] })]),
 (64,[(0,{ slots:=[(0,none),(6,none),(7,none),(8,none)] })]),
 (65,[(0,{ slots:=[(0,none),(2,none),(12,none),(13,none),(14,none)] })]),
 (68,[(0,{ slots:=[(2,none),(3,none),(4,none),(6,none),(14,none),(15,none),(16,none)] })]),
 (70,[(2,{ slots:=[(91,none),(92,none),(93,none)] }),(0,{ slots:=[(2,none),(4,none),(5,none),(7,none),(8,none),(9,none),(10,none),(31,none),(32,none),(33,none)] })]),
 (71,[(1,{ slots:=[(2,none),(4,none),(8,none),(50,none),(51,none),(52,none)] })]),
 (72,[(2,{ slots:=[(2,none),(3,none),(6,none),(8,none),(23,none),(24,none),(25,none),(35,none),(36,none),(37,none)] }),(0,{ slots:=[(2,none),(3,none),(6,none),(23,none),(24,none),(25,none)] })]),
 (73,[(0,{ slots:=[(0,none),(1,none),(7,none),(8,none)] })]),
 (76,[(1,{ slots:=[(2,none),(18,none),(19,none),(20,none)] })])]
def inlTab:List (Nat × List Nat):=[(8,[13]),(9,[16]),(10,[20,21,22,32,44,45,46,47,56,57,58,59,60,62,63,67,68,69,70,71,72,75,76,77]),(18,[28,38]),(20,[20,21,22,32,44,45,46,47,56,57,58,59,60,62,63,67,68,69,70,71,72,75,76,77]),(21,[20,21,22,32,44,45,46,47,56,57,58,59,60,62,63,67,68,69,70,71,72,75,76,77]),(22,[20,21,22,32,44,45,46,47,56,57,58,59,60,62,63,67,68,69,70,71,72,75,76,77]),(27,[36,37]),(32,[20,21,22,32,44,45,46,47,56,57,58,59,60,62,63,67,68,69,70,71,72,75,76,77]),(35,[48,49,64,65]),(36,[36,37,48,49,64,65]),(39,[52,53]),(44,[20,21,22,32,44,45,46,47,56,57,58,59,60,62,63,67,68,69,70,71,72,75,76,77]),(45,[20,21,22,32,44,45,46,47,56,57,58,59,60,62,63,67,68,69,70,71,72,75,76,77]),(46,[20,21,22,32,44,45,46,47,56,57,58,59,60,62,63,67,68,69,70,71,72,75,76,77]),(47,[20,21,22,32,44,45,46,47,56,57,58,59,60,62,63,67,68,69,70,71,72,75,76,77]),(51,[66]),(52,[53]),(56,[20,21,22,32,44,45,46,47,56,57,58,59,60,62,63,67,68,69,70,71,72,75,76,77]),(57,[20,21,22,32,44,45,46,47,56,57,58,59,60,62,63,67,68,69,70,71,72,75,76,77]),(58,[20,21,22,32,44,45,46,47,56,57,58,59,60,62,63,67,68,69,70,71,72,75,76,77]),(59,[20,21,22,32,44,45,46,47,56,57,58,59,60,62,63,67,68,69,70,71,72,75,76,77]),(60,[20,21,22,32,44,45,46,47,56,57,58,59,60,62,63,67,68,69,70,71,72,75,76,77]),(61,[73,74]),(62,[20,21,22,32,44,45,46,47,56,57,58,59,60,62,63,67,68,69,70,71,72,75,76,77]),(63,[20,21,22,32,44,45,46,47,56,57,58,59,60,62,63,67,68,69,70,71,72,75,76,77]),(67,[20,21,22,32,44,45,46,47,56,57,58,59,60,62,63,67,68,69,70,71,72,75,76,77]),(68,[20,21,22,32,44,45,46,47,56,57,58,59,60,62,63,67,68,69,70,71,72,75,76,77]),(69,[20,21,22,32,44,45,46,47,56,57,58,59,60,62,63,67,68,69,70,71,72,75,76,77]),(70,[20,21,22,32,44,45,46,47,56,57,58,59,60,62,63,67,68,69,70,71,72,75,76,77]),(71,[20,21,22,32,44,45,46,47,56,57,58,59,60,62,63,67,68,69,70,71,72,75,76,77]),(72,[20,21,22,32,44,45,46,47,56,57,58,59,60,62,63,67,68,69,70,71,72,75,76,77]),(73,[74]),(75,[20,21,22,32,44,45,46,47,56,57,58,59,60,62,63,67,68,69,70,71,72,75,76,77]),(76,[20,21,22,32,44,45,46,47,56,57,58,59,60,62,63,67,68,69,70,71,72,75,76,77]),(77,[20,21,22,32,44,45,46,47,56,57,58,59,60,62,63,67,68,69,70,71,72,75,76,77])]
def mintTab:List (Nat × List Nat):=[(42,[55])]
def oslTab:List (Nat × List Nat):=[]
def stopTab:List (Nat × List Nat):=[(18,[33]),(36,[28,44]),(68,[37])]
def deadTab:List (Nat × List Nat):=[]
def ownTab:List (Nat × List (Nat × List (Nat × Nat))):=[(8,[(3,[(0,25),(1,25)])]),(9,[(3,[(0,25),(1,25)])]),(10,[(43,[(0,26),(5,25)])]),(27,[(8,[(0,89)])])]
def cutTab:List (Nat × List (Nat × Option LAn)):=[]
def rtTab:List (Nat × Option (List Nat)):=[]
def labTab:List (Nat × List (Nat × Option LAn)):=[]
def noTurn:List Nat:=[]
def noLAn:LAn:= { slots:=[] }
def cs:FuncId→CfgT:=fun f=> { me:=f,o:= { inl:=look [] inlTab f,mint:=look [] mintTab f,osl:=look [] oslTab f,dead:=look [] deadTab f,own:=look [] ownTab f,stop:=look [] stopTab f },loops:=look noLAn (look [] loopTab f),cuts:=look none (look [] cutTab f),turn:= !(noTurn.contains f),rt:=look none rtTab f,labs:=look none (look [] labTab f) }
end Go.Vm
end
