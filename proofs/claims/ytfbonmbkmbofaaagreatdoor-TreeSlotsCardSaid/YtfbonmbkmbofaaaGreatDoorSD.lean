/- Part SD of the proof. What is proved by the whole: the statement that the claim names, with no condition. -/
import Derived.Test.YtfbonmbkmbofaaaGreatDoorSC
set_option linter.all false
section
namespace Go.Vm
section
variable (A : Sy) (P : Program) (C : CfgO)
def opXT (h:List Box)(O:Operand->V)(o:Oper):Tree V:=match callOf P O o with
 |some (f,vs0)=>match canL P (parP P f) vs0 with
  |vs=>match C.inl.contains f,vs.all V.pureB,sigP P f with
  |false,true,some ts=>callT A P f vs ts
  |_,_,_=> .fail
 |none=>opPT A P h O o
def guardT {β:Type}(ops:Array Oper)(o:Oper)(t:List V)(exec pass:List V->Tree β):Tree β:=match o.guard with
 |none=>exec t
 |some (j,want)=>match (ops[j]?).bind (·.dst)with
  |some k=>match t[k]? with
   |some (.d (.bool c))=>match want with
    |true=> .ite c (exec (t.set k (.d (.bool true)))) (pass (t.set k (.d (.bool false))))
    |false=> .ite c (pass (t.set k (.d (.bool true)))) (exec (t.set k (.d (.bool false))))
   |some (.tup [])=>pass t
   |_=> .fail
  |none=> .fail
def preT (ops:Array Oper)(h0:List Box):List Oper->List V->List Box->Tree (List V × List Box)
 | [],t,hb=> .ret (t,hb)
 |o::os,t,hb=>guardT ops o t (fun t=>match allocV P o,hb with
   |some b,[]=>forceL (putV t o.dst (.ptr h0.length 0)) fun t=>preT ops h0 os t [b]
   |some _,_=> .fail
   |none,_=>(opXT A P C h0 (VSt.get ⟨t,h0⟩) o).bind fun x=>forceL (putV t o.dst x) fun t=>preT ops h0 os t hb)
  (fun t=>forceL (putV t o.dst (.tup [])) fun t=>preT ops h0 os t hb)
def stT (hW:List Box)(W:List Nat)(n0:Nat)(hh:List Box)(t:TypeId)(a v:V):Tree (Nat × Box):=
 match v.cellsV,v.liveC hW with
 |some ns,true=>match a with
  | .ptr b off=>match W.contains b&&decide (b < n0),hh[b]? with
    |true,some (.cells (.ty bt) vs)=>match ns.all (V.oneB hW),decide (szO P t=some ns.length),decide (off+ns.length<=vs.length)with
     |true,true,true=> .ret (b, .cells (.ty bt) (vs.take off++ns++vs.drop (off+ns.length)))
     |_,_,_=> .fail
    |_,_=> .fail
  | .pml b sz i off=>match W.contains b&&decide (b < n0),hh[b]?,shOf P 9 t with
    |true,some (.arr e sz' rows),some ss=>match decide (sz'=sz),toDs ss ns with
     |true,some ds=>match decide (szO P t=some ds.length),decide (off+ds.length<=sz)with
      |true,true=>chk (A.inrn i rows) (.ret (b, .arr e sz (A.rput rows i off ds)))
      |_,_=> .fail
     |_,_=> .fail
    |_,_,_=> .fail
  |_=> .fail
 |_,_=> .fail
def pre2T (ops:Array Oper)(W:List Nat)(h0:List Box):Nat->List Oper->Bool->List V->List Box->Tree (List V × List Box)
 |_,[],_,t,hh=> .ret (t,hh)
 |k,o::os,cl,t,hh=>guardT ops o t (fun t=>match o.op with
   | .store ty y z=>(stT A P (hideB h0 W) W h0.length hh ty (VSt.get ⟨t,h0⟩ y) (VSt.get ⟨t,h0⟩ z)).bind fun r=>forceL (putV t o.dst .any) fun t=>forceH (hh.set r.1 r.2) fun hh=>pre2T ops W h0 (k+1) os false t hh
   |_=>match allocV P o with
    |some b=>match decide (hh.length=h0.length)with
     |true=>forceL (putV t o.dst (.ptr h0.length 0)) fun t=>pre2T ops W h0 (k+1) os cl t (hh++[b])
     |false=> .fail
    |none=>match cl&&early ops k with
     |true=>(opXT A P C h0 (VSt.get ⟨t,h0⟩) o).bind fun x=>forceL (putV t o.dst x) fun t=>pre2T ops W h0 (k+1) os cl t hh
     |false=>(opXT A P C (hideB h0 W) (VSt.get ⟨t,h0⟩) o).bind fun x=>forceL (putV t o.dst x) fun t=>pre2T ops W h0 (k+1) os cl t hh)
  (fun t=>forceL (putV t o.dst (.tup [])) fun t=>pre2T ops W h0 (k+1) os cl t hh)
variable (ent : Callee -> List V -> List Box -> Tree (List Nat × V × List Box)) (n0 : Nat) (M0 : List Nat)
def iceT (ops:Array Oper)(s:VSt):VSt:=s.frz (ops.toList.flatMap fun o=>match o.op with
 | .call ⟨.value f,args,_⟩=>fzl s o++(match f with
   | .func f=>match C.inl.contains f with
     |true=>[]
     |false=>args.toList.flatMap fun y=>match addrV P ops s 12 y with
      |some (.own b)=>[b]
      |_=>[]
   |_=>[])
 |_=>[])
def drawS (o:Oper):Bool:=(match o.op with
    | .call ⟨.value (.func f),_,_⟩=>C.inl.contains f
    |_=>false) || (match o.dst with
    |some d=>C.stop.contains d
    |none=>false)
def drawMs (ops:Array Oper):Nat:=(ops.toList.takeWhile fun o=>calm o&& !drawS C o).length
def drawOKs (ops:Array Oper):Bool:=sufOK ops (drawMs C ops)&&backOK ops (drawMs C ops)&&lexOK ops (drawMs C ops) (drawMs C ops) 0 (Array.replicate ops.size false)&&seqOK ops (ops.size - drawMs C ops) (drawMs C ops) (listedTo ops.size (drawMs C ops))
def drawT0 (ops:Array Oper)(s:VSt):Tree (Option V × VSt):=match drawOKs C ops with
 |true=>forceS (iceT P C ops s) fun s=>forceSp (ops.toList.take (drawMs C ops)) fun l1=>forceSp (ops.toList.drop (drawMs C ops)) fun l2=>(preT A P C ops s.h l1 s.t []).bind fun r=>forceS ⟨r.1,s.h++r.2⟩ fun s=>opsT A P ent C n0 M0 ops 0 l2 s
 |false=>match drawOK2 ops with
  |true=>forceS (iceT P C ops s) fun s=>forceSp (ops.toList.flatMap (stBox P ops s)) fun W=>(pre2T A P C ops W s.h 0 ops.toList true s.t s.h).bind fun r=> .ret (none,⟨r.1,r.2⟩)
  |false=> .fail
end
section
variable {P : Program} {M : List Nat} {h h' h2 h0 hh : List Box} {O ρ2 : Operand -> V} {o : Oper} {x : V} {ops : Array Oper} {W : List Nat} {E : Env} {C : CfgO}
def opPT_congr (he: ∀y,y∈o.op.operands.toList->O y=ρ2 y)(hk:(opPT sy P h O o).run E=some x):(opPT sy P h ρ2 o).run E=some x:=by
 unfold opPT at hk ⊢;cases hop:o.op<;>simp only[hop]at hk ⊢ <;>(try (cases hk;done))
 case move y=>rw[<-he y (by simp[hop,Op.operands])];exact hk
 case assign y=>rw[<-he y (by simp[hop,Op.operands])];exact hk
 case pick c a b=>rw[<-he c (by simp[hop,Op.operands]),<-he a (by simp[hop,Op.operands]),<-he b (by simp[hop,Op.operands])];exact hk
 case build t parts=>
  have e1:(parts.toList.map fun q=>(q.1,O q.2))=parts.toList.map fun q=>(q.1,ρ2 q.2):=List.map_congr_left fun q hq=>by
   rw[he q.2 (by simp only[hop,Op.operands];exact List.mem_map.2 ⟨q,hq,rfl⟩)]
  have e2:(parts.toList.all fun q=>(O q.2).liveC h)=parts.toList.all fun q=>(ρ2 q.2).liveC h:=by
   rw[Bool.eq_iff_iff,List.all_eq_true,List.all_eq_true];refine⟨fun hh q hq=> ?_,fun hh q hq=> ?_⟩
   ·rw[<-he q.2 (by simp only[hop,Op.operands];exact List.mem_map.2 ⟨q,hq,rfl⟩)];exact hh q hq
   ·rw[he q.2 (by simp only[hop,Op.operands];exact List.mem_map.2 ⟨q,hq,rfl⟩)];exact hh q hq
  rw[<-e1,<-e2];exact hk
 case buildSlice t n parts=>
  have e1:(parts.toList.map fun q=>(q.1,O q.2))=parts.toList.map fun q=>(q.1,ρ2 q.2):=List.map_congr_left fun q hq=>by
   rw[he q.2 (by simp only[hop,Op.operands];exact List.mem_map.2 ⟨q,hq,rfl⟩)]
  have e2:(parts.toList.all fun q=>(O q.2).liveC h)=parts.toList.all fun q=>(ρ2 q.2).liveC h:=by
   rw[Bool.eq_iff_iff,List.all_eq_true,List.all_eq_true];refine⟨fun hh q hq=> ?_,fun hh q hq=> ?_⟩
   ·rw[<-he q.2 (by simp only[hop,Op.operands];exact List.mem_map.2 ⟨q,hq,rfl⟩)];exact hh q hq
   ·rw[he q.2 (by simp only[hop,Op.operands];exact List.mem_map.2 ⟨q,hq,rfl⟩)];exact hh q hq
  rw[<-e1,<-e2];exact hk
 case load t y=>rw[<-he y (by simp[hop,Op.operands])];exact hk
 case nilCheck y=>rw[<-he y (by simp[hop,Op.operands])];exact hk
 case binOp op t y z u=>rw[<-he y (by simp[hop,Op.operands]),<-he z (by simp[hop,Op.operands])];exact hk
 case unOp op t y=>rw[<-he y (by simp[hop,Op.operands])];exact hk
 case convert s t y=>rw[<-he y (by simp[hop,Op.operands])];exact hk
 case makeFunc fn first caps=>
  have e1:caps.toList.map O=caps.toList.map ρ2:=List.map_congr_left fun q hq=>he q (by simp[hop,Op.operands];right;simpa using hq)
  have e2: ∀y∈first.toList,O y=ρ2 y:=fun y hy=>he y (by simp[hop,Op.operands];left;simpa using hy)
  obtain⟨l⟩:=first;cases fn<;>(try (cases hk;done))
  match l,hk,e2 with
  | [],hk,_=>simp only at hk ⊢;rw[<-e1];exact hk
  | [y],hk,e2=>simp only at hk ⊢;rw[<-e2 y (by simp)];exact hk
  |_::_::_,hk,_=>cases hk
 case typeAssert y _ _ _=>rw[<-he y (by simp[hop,Op.operands])];exact hk
 case makeInterface t y=>rw[<-he y (by simp[hop,Op.operands])];exact hk
 case slice t y lo hi mx=>
  have e1:lo.map O=lo.map ρ2:=by cases lo with
   |none=>rfl
   |some q=>simp[he q (by simp[hop,Op.operands])]
  have e2:hi.map O=hi.map ρ2:=by cases hi with
   |none=>rfl
   |some q=>simp[he q (by simp[hop,Op.operands])]
  rw[<-he y (by simp[hop,Op.operands]),<-e1,<-e2]
  cases mx with
  |none=>exact hk
  |some m=>cases hi with
   |none=>exact hk
   |some r=>
    simp only at hk ⊢;rw[<-he r (by simp[hop,Op.operands]),<-he m (by simp[hop,Op.operands])];exact hk
 case fieldAddr s y f=>rw[<-he y (by simp[hop,Op.operands])];exact hk
 case field t y f=>rw[<-he y (by simp[hop,Op.operands])];exact hk
 case lookup t y z c=>rw[<-he y (by simp[hop,Op.operands]),<-he z (by simp[hop,Op.operands])];exact hk
 case indexAddr t y z=>rw[<-he y (by simp[hop,Op.operands]),<-he z (by simp[hop,Op.operands])];exact hk
 case index t y z=>rw[<-he y (by simp[hop,Op.operands]),<-he z (by simp[hop,Op.operands])];exact hk
 case extract y i=>rw[<-he y (by simp[hop,Op.operands])];exact hk
 case call c=>
  obtain⟨cal,args,ts⟩:=c;have hargs:args.toList.map O=args.toList.map ρ2:=List.map_congr_left fun q hq=>he q (by
   simp only[hop,Op.operands,Call.operands,Array.toList_append,List.mem_append];right;exact hq)
  cases cal with
  |value q=>
   have hmem: ∀q,q∈args.toList->O q=ρ2 q:=fun q hq=>he q (by
    simp only[hop,Op.operands,Call.operands,Array.toList_append,List.mem_append];right;exact hq)
   have hq:O q=ρ2 q:=he q (by simp[hop,Op.operands,Call.operands])
   obtain⟨l⟩:=args
   match l,hk,hmem with
   | [],hk,_=>cases hk
   | [_],hk,_=>cases hk
   | [y,z],hk,hmem=>simp only at hk ⊢;rw[<-hq,<-hmem y (by simp),<-hmem z (by simp)];exact hk
   |_::_::_::_,hk,_=>cases hk
  |invoke r m=>cases hk
  |builtin b=>
   have hmem: ∀q,q∈args.toList->O q=ρ2 q:=fun q hq=>he q (by
    simp only[hop,Op.operands,Call.operands,Array.toList_append,List.mem_append];right;exact hq)
   obtain⟨l⟩:=args;cases b<;>(try (cases hk;done))
   case len=>
    match l,hk,hmem with
    | [y],hk,hmem=>simp only at hk ⊢;rw[<-hmem y (by simp)];exact hk
   case cap=>
    match l,hk,hmem with
    | [y],hk,hmem=>simp only at hk ⊢;rw[<-hmem y (by simp)];exact hk
   case max=>
    match l,hk,hmem with
    | [y,z],hk,hmem=>simp only at hk ⊢;rw[<-hmem y (by simp),<-hmem z (by simp)];exact hk
   case min=>
    match l,hk,hmem with
    | [y,z],hk,hmem=>simp only at hk ⊢;rw[<-hmem y (by simp),<-hmem z (by simp)];exact hk
def callOf_congr (he: ∀y,y∈o.op.operands.toList->O y=ρ2 y):callOf P O o=callOf P ρ2 o:=by
 unfold callOf;split
 ·rename_i y args ts hop;have hargs:args.toList.map O=args.toList.map ρ2:=List.map_congr_left fun q hq=>he q (by
   simp only[hop,Op.operands,Call.operands,Array.toList_append,List.mem_append];right;exact hq)
  have hy:O y=ρ2 y:=he y (by simp[hop,Op.operands,Call.operands])
  rw[hargs];cases y<;>first|rfl|simp only[hy]
 ·rfl
def opXT_sound (hE:E.Ok)(hG:EnvGood P E)(hf: ∀f,O (.func f)= .fn f [])(hk:(opXT sy P C h O o).run E=some x): ∀h2,Pre h h2->Gives P [] h2 h2 (restr o O) o x:=by
 have hc0:=callOf_congr (P:=P) (O:=O) (ρ2:=restr o O) (o:=o) (fun y hy=>(restr_at hf hy).symm)
 unfold opXT at hk;rw[hc0]at hk;split at hk
 ·rename_i f vs hc;simp only at hk;split at hk
  ·rename_i hp hs;obtain⟨y,args,ts,hop,hy⟩:=callOf_some hc (restr_func o O);obtain⟨q1,q2,_⟩:=callT_sound hE hG hp hs hk;exact fun h2 _=>gives_callV hop hy (sigP_some hs) (q1.hcall hp q2 h2).can
  ·cases hk
 ·exact opPT_sound hE (opPT_congr (fun y hy=>(restr_at hf hy).symm) hk)
def guardT_run {β:Type}{t:List V}{exec pass:List V->Tree β}{r:β}(hk:(guardT ops o t exec pass).run E=some r):
  (wantV ops o t=some true/\(exec t).run E=some r)\/(wantV ops o t=some false/\(pass t).run E=some r):=by
 unfold guardT at hk;split at hk
 ·rename_i hg;exact .inl ⟨by simp[wantV,hg],hk⟩
 ·rename_i j want hg;split at hk
  ·rename_i k hjk;split at hk
   ·rename_i c hc;have hw:wantV ops o t=some (c == want):=by simp[wantV,hg,hjk,hc]
    split at hk<;>cases c<;>simp only[Tree.run,set_self hc]at hk
    ·exact .inr ⟨by rw[hw];rfl,hk⟩
    ·exact .inl ⟨by rw[hw];rfl,hk⟩
    ·exact .inl ⟨by rw[hw];rfl,hk⟩
    ·exact .inr ⟨by rw[hw];rfl,hk⟩
   ·rename_i hc;exact .inr ⟨by simp[wantV,hg,hjk,hc],hk⟩
   ·cases hk
  ·cases hk
def preT_lex (hE:E.Ok)(hG:EnvGood P E){r:List V × List Box}: ∀ {os:List Oper} {t:List V} {hb:List Box},(preT sy P C ops h0 os t hb).run E=some r->vLex P ops h0 (fun t hb=>(t,hb)=r) os t hb
 | [],_,_,hk=>by cases hk;rfl
 |o::os,t,hb,hk=>by
  unfold preT at hk;rcases guardT_run hk with⟨hw,hk⟩|⟨hw,hk⟩
  ·cases hal:allocV P o with
   |some b=>
    simp only[hal]at hk;cases hb with
    |nil=>simp only[forceL_eq]at hk;exact⟨_,_, .inl ⟨hw, .inr ⟨rfl,rfl,b,hal,rfl⟩⟩,preT_lex hE hG hk⟩
    |cons=>cases hk
   |none=>
    simp only[hal]at hk;obtain⟨x,h1,hk⟩:=run_bind_some hE hk;rw[forceL_eq]at hk;exact⟨x,hb, .inl ⟨hw, .inl ⟨rfl,opXT_sound hE hG (fun f=>rfl) h1⟩⟩,preT_lex hE hG hk⟩
  ·rw[forceL_eq]at hk;exact⟨.tup [],hb, .inr ⟨hw,rfl,rfl⟩,preT_lex hE hG hk⟩
def stT_sound {t:TypeId}{y z:Operand}{r:Nat × Box}(hop:o.op= .store t y z)(hk:(stT sy P (hideB h0 W) W h0.length hh t (O y) (O z)).run E=some r):
  ∃c,hh[r.1]? =some c/\r.1∈W/\r.1 < h0.length/\(∀h2,PreW W h0 h2->h2[r.1]? =some c->Gives P [] h2 (h2.set r.1 r.2) O o .any):=by
 unfold stT at hk;split at hk
 ·rename_i ns hn hl;split at hk
  ·rename_i b off hy;split at hk
   ·rename_i bt vs hW hb;simp only[Bool.and_eq_true,List.contains_eq_mem,decide_eq_true_eq]at hW;split at hk
    ·rename_i c1 c2 c3;cases hk;exact⟨_,hb,hW.1,hW.2,fun h2 hp hb2=>gives_store_box hop hy hb2 hn (List.all_eq_true.2 fun q hq=>oneB_pre hp.pre (List.all_eq_true.1 c1 q hq)) (of_decide_eq_true c2) (of_decide_eq_true c3) (liveC_pre hp.pre hl)⟩
    ·cases hk
   ·cases hk
  ·rename_i b sz i off hy;split at hk
   ·rename_i e sz' rows ss hW hb hss;simp only[Bool.and_eq_true,List.contains_eq_mem,decide_eq_true_eq]at hW;split at hk
    ·rename_i ds c1 hd;have c1:=of_decide_eq_true c1;subst c1;split at hk
     ·rename_i c2 c3;obtain⟨hi,hk⟩:=chk_some hk;cases hk;exact⟨_,hb,hW.1,hW.2,fun h2 hp hb2=>gives_store_pml hop hy hb2 (of_decide_eq_true hi) hn hd (of_decide_eq_true c2) (of_decide_eq_true c3) (liveC_pre hp.pre hl)⟩
     ·cases hk
    ·cases hk
   ·cases hk
  ·cases hk
 ·cases hk
def pre2T_lex (hE:E.Ok)(hG:EnvGood P E){r:List V × List Box}: ∀ {os:List Oper} {k:Nat} {cl:Bool} {t:List V} {hh:List Box},PreW W h0 hh->(cl=true->Pre h0 hh)->(pre2T sy P C ops W h0 k os cl t hh).run E=some r->vLex2 P ops W h0 (fun t hh=>(t,hh)=r) k os t hh
 | [],_,_,_,_,_,_,hk=>by cases hk;rfl
 |o::os,k,cl,t,hh,hpw,hpc,hk=>by
  unfold pre2T at hk;rcases guardT_run hk with⟨hw,hk⟩|⟨hw,hk⟩
  ·split at hk
   ·rename_i ty y z hop;have e1:restr o (VSt.get ⟨t,h0⟩) y=VSt.get ⟨t,h0⟩ y:=restr_at (fun f=>rfl) (by rw[hop];simp[Op.operands])
    have e2:restr o (VSt.get ⟨t,h0⟩) z=VSt.get ⟨t,h0⟩ z:=restr_at (fun f=>rfl) (by rw[hop];simp[Op.operands])
    rw[<-e1,<-e2]at hk;obtain⟨⟨b,c'⟩,h1,hk⟩:=run_bind_some hE hk;obtain⟨c,hb,hbW,hbn,hg⟩:=stT_sound hop h1;simp only[forceL_eq,forceH_eq]at hk;refine⟨.any,_,⟨.st b c c',⟨hw,by simp[isSt,hop],hg⟩,⟨hb,hpw,hbW,hbn⟩,rfl⟩,pre2T_lex hE hG ((preW_set hbW c').2 hpw) (fun h=>by cases h) hk⟩
   ·split at hk
    ·rename_i b hal;split at hk
     ·rename_i hl;have hl:=of_decide_eq_true hl;rw[forceL_eq]at hk;exact⟨_,_,⟨.alloc b,⟨hw,rfl,hal⟩,hl,rfl⟩,pre2T_lex hE hG ((preW_app hl b).2 hpw) (fun hc=>(pre_app hl b).2 (hpc hc)) hk⟩
     ·cases hk
    ·split at hk
     ·rename_i hce;simp only[Bool.and_eq_true]at hce;obtain⟨x,h1,hk⟩:=run_bind_some hE hk;rw[forceL_eq]at hk;exact⟨x,hh,⟨.early,⟨hw,hce.2,opXT_sound hE hG (fun f=>rfl) h1⟩,hpc hce.1,rfl⟩,pre2T_lex hE hG hpw hpc hk⟩
     ·obtain⟨x,h1,hk⟩:=run_bind_some hE hk;rw[forceL_eq]at hk;have h1:=opXT_sound hE hG (fun f=>rfl) h1
      exact⟨x,hh,⟨.late,⟨hw,fun h2 hp=>h1 h2 hp.pre⟩,hpw,rfl⟩,pre2T_lex hE hG hpw hpc hk⟩
  ·rw[forceL_eq]at hk;exact⟨.tup [],hh,⟨.no,⟨hw,rfl⟩,trivial,rfl⟩,pre2T_lex hE hG hpw hpc hk⟩
def drawT0_sound (hnd: ∀(i:Nat) o,ops[i]? =some o->noDef o=true){ro:Option Nat}(hE:E.Ok)(hG:EnvGood P E){ent:Callee->List V->List Box->Tree (List Nat × V × List Box)}(hent:EntGood P E ent){En:Ent}{id:Nat}{Q:Exit->Act->World->Prop}{s:VSt}{q:Option V × VSt}{a:Act}{w:World}(hm:P.follows .mixedOrders=true)
  (hk:(drawT0 sy P C ent En.g.n En.M ops s).run E=some q) (hs:SimE En s a w) (hq: ∀e a' w',OpRX En q e a' w'->Q e a' w'):(Code.region id ops true).wpIn (Fw ro) 0 P Q a w:=by
 unfold drawT0 at hk;split at hk
 ·rename_i hB;rw[forceS_eq,forceSp_eq,forceSp_eq]at hk;have hs:SimE En (iceT P C ops s) a w:=hs.frzs;generalize iceT P C ops s=s at hk hs;obtain⟨r,h1,hk⟩:=run_bind_some hE hk;rw[forceS_eq]at hk;simp only[drawOKs,Bool.and_eq_true]at hB;obtain⟨⟨⟨q1,q2⟩,q3⟩,q4⟩:=hB;have hml:drawMs C ops<=ops.size:=by simp only[backOK,Bool.and_eq_true,decide_eq_true_eq]at q2;exact q2.1
  have hlen:(ops.toList.take (drawMs C ops)).length=drawMs C ops:=by simp[hml]
  have hany:=vAny_lex (P:=P) (h0:=s.h) q1 (ops.toList.take (drawMs C ops)) 0 (Array.replicate ops.size false) s.t [] (fun k ok hok hk=>by have hlt:=(Array.getElem?_eq_some_iff.1 hok).1;simp[Array.getElem?_replicate,hlt]at hk) (fun j hj=>by
   rw[hlen]at hj;rw[List.getElem?_take,if_pos hj,Nat.zero_add];simp) (by rw[hlen];exact q3) (preT_lex hE hG h1)
  rw[hlen]at hany;refine wpIn_region_any hm ?_;have:=vAny_sound (ro:=ro) (Q:=Q) (E:=En) hnd q2 (rest:=ops.size - drawMs C ops) (fun t hb a w hk' hs=> ?_) (drawMs C ops) _ s.t [] a w.drew hany (by simp) (fun k hk=>by simp[Array.getElem?_replicate];split<;>rfl) (by rw[List.append_nil];exact hs.drew)
  ·rw[Nat.sub_add_cancel hml]at this;exact this
  ·have hl2:(ops.toList.drop (drawMs C ops)).length=ops.size - drawMs C ops:=by simp
   subst hk';have:=seq_any (ro:=ro) (P:=P) (Q:=Q) (ops.toList.drop (drawMs C ops)) (drawMs C ops) (listedTo ops.size (drawMs C ops)) a w (fun j=>by simp) (by rw[hl2];exact q4) (opsT_sound hE hG hent _ (Nat.le_refl _) hk hs fun e a2 w2 h=>hq e a2 w2 h.unk)
   rwa [hl2]at this
 ·split at hk
  ·rename_i hB;rw[forceS_eq,forceSp_eq]at hk;have hs:SimE En (iceT P C ops s) a w:=hs.frzs;generalize iceT P C ops s=s at hk hs;obtain⟨r,h1,hk⟩:=run_bind_some hE hk;cases hk;simp only[drawOK2,Bool.and_eq_true]at hB;have hlex:=pre2T_lex hE hG (fun b x _ h=>h) (fun _=>Pre.refl s.h) h1
   have hany:=vAny2_lex hB.1 ops.toList 0 (Array.replicate ops.size false) s.t s.h (fun j=>by simp) (by simpa using hB.2) hlex
   refine wpIn_region_any hm ?_;have:=vAny2_sound (ro:=ro) (Q:=Q) (E:=En) hnd (fun t hh a w hk' hs=>by subst hk';exact hq .normal a w ⟨rfl,hs⟩) ops.toList.length _ s.t s.h a w.drew hany hs.drew
   simpa using this
  ·cases hk
end
section
variable {P : Program} {h h' h2 h0 hh hx hx' : List Box} {O ρ2 : Operand -> V} {o : Oper} {x : V} {ops : Array Oper} {W Z M : List Nat} {T : Nat -> List Nat} {t t2 : List V} {En : Ent} {E : Env} {C : CfgO}
def bigI (C:CfgO)(o:Oper):Bool:=match o.op with
 | .store .. =>true
 | .alloc _=>true
 | .buildSlice .. =>true
 | .call ⟨.builtin .append,_,_⟩=>true
 | .call ⟨.value (.tmp _),_,_⟩=>true
 | .call ⟨.value (.func f),_,_⟩=>C.inl.contains f
 | .call ⟨.builtin .copy,_,_⟩=>true
 | .mapUpdate .. =>true
 |_=>false
def stopI (C:CfgO)(o:Oper):Bool:=match o.dst with
 |some d=>C.stop.contains d
 |none=>false
def isCallT (C:CfgO)(o:Oper):Bool:=match o.op with
 | .call ⟨.value (.tmp _),_,_⟩=>true
 | .call ⟨.value (.func f),_,_⟩=>C.inl.contains f&& !stopI C o
 |_=>false
def isCallM (C:CfgO)(o:Oper):Bool:=match o.op with
 | .call ⟨.value (.func f),_,_⟩=>C.inl.contains f&&stopI C o
 |_=>false
def isAl (o:Oper):Bool:=match o.op with
 | .alloc _=>true
 |_=>false
def bigOK (C:CfgO)(ops:Array Oper):Bool:=(List.range ops.size).all fun j=>match ops[j]? with
 |some oj=> !bigI C oj || (List.range j).all fun i=>match ops[i]? with
  |some oi=> !bigI C oi || (edgeR ops 5 oj i || ((isCallT C oi || isCallM C oi)&&isAl oj))
  |none=>true
 |none=>true
def quietN (ops:Array Oper)(k:Nat):Bool:=(List.range ops.size).any fun j=>match ops[j]? with
 |some oj=>isAl oj&& !edgeR ops 5 oj k
 |none=>false
def quietN_at {ops:Array Oper}{k j:Nat}{oj:Oper}(hj:ops[j]? =some oj)(ha:isAl oj=true)(he:edgeR ops 5 oj k=true->False):quietN ops k=true:=by
 refine List.any_eq_true.2 ⟨j,List.mem_range.2 (Array.getElem?_eq_some_iff.1 hj).1,?_⟩;rw[hj];simp only[ha,Bool.true_and,Bool.not_eq_true'];cases h:edgeR ops 5 oj k with
 |true=>exact(he h).elim
 |false=>rfl
def pinI (C:CfgO)(ops:Array Oper)(i:Nat):Bool:=(List.range ops.size).all fun j=>match ops[j]? with
 |some oj=> !bigI C oj || edgeR ops 5 oj i || (match ops[i]? with
  |some oi=>edgeR ops 5 oi j
  |none=>false)
 |none=>true
def mkI (o:Oper):Bool:=match o.op with
 | .alloc _=>true
 | .buildSlice .. =>true
 |_=>false
def midI (C:CfgO)(ops:Array Oper)(i:Nat):Bool:=(List.range ops.size).all fun j=>match ops[j]? with
 |some oj=> !bigI C oj || mkI oj || (isCallT C oj || isCallM C oj) || edgeR ops 5 oj i || (match ops[i]? with
  |some oi=>edgeR ops 5 oi j
  |none=>false)
 |none=>true
def killT (M:List Nat)(t:List V):List V:=match M with
 | []=>t
 |_=>t.map (V.kill M)
def killT_eq (M:List Nat)(t:List V):killT M t=t.map (V.kill M):=by
 cases M with
 |nil=>rw[show V.kill []=id from funext V.kill_nil];simp[killT]
 |cons=>rfl
def next_kill (s:VSt)(M:List Nat)(h':List Box)(d:Option Tmp)(x:V):s.next M h' d x=⟨putV (killT M s.t) d x,h'⟩:=by
 unfold VSt.next putV killT;cases M<;>cases d<;>rfl
def calmC (Z:List Nat):V->Bool
 | .d _=>true
 | .nils=>true
 | .nilp=>true
 | .nilf=>true
 | .ifn _=>true
 | .pel _=>true
 | .own b=> !Z.contains b
 | .map b=> !Z.contains b
 | .ptr b _=> !Z.contains b
 | .mv _ b _=> !Z.contains b
 | .ifp _ b _=> !Z.contains b
 | .pml b _ _ _=> !Z.contains b
 | .yld b _=> !Z.contains b
 | .osl b _ _ _=> !Z.contains b
 |_=>false
def calmB (Z:List Nat):V->Bool
 | .agg cs=>cs.all (calmC Z)
 | .tup cs=>cs.all (calmC Z)
 |v=>calmC Z v
def calmX (Z:List Nat):Box->Bool
 | .cells _ vs=>vs.all (calmB Z)
 |_=>true
def notin {b:Nat}(hM: ∀b∈M,b∈Z)(h:(!Z.contains b)=true):(!M.contains b)=true:=by
 simp only[Bool.not_eq_true',List.contains_eq_mem,decide_eq_false_iff_not]at h ⊢;exact fun hb=>h (hM b hb)
def calmC_kill {v:V}(hM: ∀b∈M,b∈Z)(h:calmC Z v=true):v.killC M=v:=by
 cases v with
 |any=>cases h
 |agg cs=>cases h
 |tup cs=>cases h
 |fn f cs=>cases h
 |own b=>exact congrArg (fun q=>bif q then V.own b else .any) (notin hM h)
 |map b=>exact congrArg (fun q=>bif q then V.map b else .any) (notin hM h)
 |ptr b off=>exact congrArg (fun q=>bif q then V.ptr b off else .any) (notin hM h)
 |mv f b off=>exact congrArg (fun q=>bif q then V.mv f b off else .any) (notin hM h)
 |ifp f b off=>exact congrArg (fun q=>bif q then V.ifp f b off else .any) (notin hM h)
 |pml b sz i off=>exact congrArg (fun q=>bif q then V.pml b sz i off else .any) (notin hM h)
 |yld b R=>exact congrArg (fun q=>bif q then V.yld b R else .any) (notin hM h)
 |osl b s l n=>exact congrArg (fun q=>bif q then V.osl b s l n else .any) (notin hM h)
 |_=>rfl
def calmC_of {v:V}(h:calmC Z (v.killC M)=true):v.killC M=v:=by
 unfold V.killC at h ⊢;cases hf:v.freeC M with
 |true=>rfl
 |false=>rw[hf]at h;cases h
def calm_kill {v:V}(hM: ∀b∈M,b∈Z)(h:calmB Z v=true):v.kill M=v:=by
 have aux: ∀cs:List V,cs.all (calmC Z)=true->cs.map (V.killC M)=cs:=fun cs hc=>by
  have:cs.map (V.killC M)=cs.map id:=List.map_congr_left fun v hv=>calmC_kill hM (List.all_eq_true.1 hc v hv)
  simpa using this
 cases v with
 |agg cs=>exact congrArg V.agg (aux cs h)
 |tup cs=>exact congrArg V.tup (aux cs h)
 |fn f cs=>cases h
 |_=>exact calmC_kill hM h
def calm_of {v:V}(h:calmB Z (v.kill M)=true):v.kill M=v:=by
 have aux: ∀cs:List V,(cs.map (V.killC M)).all (calmC Z)=true->cs.map (V.killC M)=cs:=fun cs hc=>by
  have:cs.map (V.killC M)=cs.map id:=List.map_congr_left fun v hv=>calmC_of (List.all_eq_true.1 hc _ (List.mem_map_of_mem hv))
  simpa using this
 have aux2: ∀v:V,calmB Z (bif V.freeC M v then v else .any)=true->(bif V.freeC M v then v else .any)=v:=fun v h=>by
  cases hf:v.freeC M with
  |true=>rfl
  |false=>rw[hf]at h;cases h
 cases v with
 |agg cs=>exact congrArg V.agg (aux cs h)
 |tup cs=>exact congrArg V.tup (aux cs h)
 |fn f cs=>cases h
 |any=>cases h
 |own b=>exact aux2 (.own b) h
 |map b=>exact aux2 (.map b) h
 |ptr b off=>exact aux2 (.ptr b off) h
 |mv f b off=>exact aux2 (.mv f b off) h
 |ifp f b off=>exact aux2 (.ifp f b off) h
 |pml b sz i off=>exact aux2 (.pml b sz i off) h
 |yld b R=>exact aux2 (.yld b R) h
 |osl b s l n=>exact aux2 (.osl b s l n) h
 |_=>rfl
def get_at_kill (M:List Nat)(t:List V)(h:List Box)(y:Operand):VSt.get ⟨killT M t,h⟩ y=VSt.get ⟨t,h⟩ y\/VSt.get ⟨killT M t,h⟩ y=(VSt.get ⟨t,h⟩ y).kill M:=by
 rw[killT_eq];cases y with
 |tmp k=>
  right
  show(t.map (V.kill M)).getD k .any=(t.getD k .any).kill M;rw[List.getD_eq_getElem?_getD,List.getD_eq_getElem?_getD,List.getElem?_map];cases t[k]? <;>rfl
 |const v=>left;rfl
 |func f=>left;rfl
 |global k=>left;rfl
def get_calm {y:Operand}(hM: ∀b∈M,b∈Z)(hc:calmB Z (VSt.get ⟨t,h⟩ y)=true):VSt.get ⟨killT M t,h⟩ y=VSt.get ⟨t,h⟩ y:=by
 rcases get_at_kill M t h y with h1|h1
 ·exact h1
 ·rw[h1,calm_kill hM hc]
def get_calm_of {y:Operand}(hc:calmB Z (VSt.get ⟨killT M t,h⟩ y)=true):VSt.get ⟨killT M t,h⟩ y=VSt.get ⟨t,h⟩ y:=by
 rcases get_at_kill M t h y with h1|h1
 ·exact h1
 ·rw[h1]at hc ⊢;exact calm_of hc
def restr_of {y:Operand}(he:restr o (VSt.get ⟨t2,h⟩)=restr o (VSt.get ⟨t,h⟩))(hy:y∈o.op.operands.toList):VSt.get ⟨t2,h⟩ y=VSt.get ⟨t,h⟩ y:=by
 have:=congrFun he y
 rwa [restr_at (fun _=>rfl) hy,restr_at (fun _=>rfl) hy]at this
def restr_eq (he: ∀y∈o.op.operands.toList,VSt.get ⟨t2,h⟩ y=VSt.get ⟨t,h⟩ y):restr o (VSt.get ⟨t2,h⟩)=restr o (VSt.get ⟨t,h⟩):=by
 funext y;cases y with
 |func f=>rfl
 |tmp k=>simp only[restr];split<;>first|exact he _ ‹_› |rfl
 |const v=>simp only[restr];split<;>first|exact he _ ‹_› |rfl
 |global k=>simp only[restr];split<;>first|exact he _ ‹_› |rfl
def wantV_kill {b:Bool}:wantV ops o (killT M t)=some b↔wantV ops o t=some b:=by
 rw[killT_eq];unfold wantV;split
 ·rfl
 ·rename_i j want hg;split
  ·rename_i k hk;rw[List.getElem?_map];cases hv:t[k]? with
   |none=>rfl
   |some v=>
    cases v with
    |d x=>rfl
    |tup cs=>
     cases cs with
     |nil=>rfl
     |cons c cs=>rfl
    |agg cs=>rfl
    |fn f cs=>rfl
    |_=>
     simp only[Option.map_some,V.kill,V.killC];cases V.freeC M _<;>rfl
  ·rfl
def killT_put (hc:x.kill M=x)(d:Option Tmp):killT M (putV t d x)=putV (killT M t) d x:=by
 rw[killT_eq,killT_eq];cases d with
 |none=>rfl
 |some k=>show(t.set k x).map _=(t.map _).set k x;rw[List.map_set,hc]
inductive Eff3 where
 |no
 |late
 |pin (hx:List Box)
 |mid (hb:List Box)
 |big (hx hx':List Box) (M:List Nat)
def Eff3.ok (W:List Nat)(h0 hh:List Box):Eff3->Prop
 | .no=>True
 | .late=>PreW W h0 hh
 | .pin hx=>hh=hx
 | .mid hb=>Pre hb hh
 | .big hx _ _=>hh=hx
def Eff3.run (hh:List Box):Eff3->List Box
 | .big _ hx' _=>hx'
 |_=>hh
def Eff3.km:Eff3->List Nat
 | .big _ _ M=>M
 |_=>[]
def SStep (P:Program)(En:Ent)(o:Oper)(t:List V)(hx:List Box)(M:List Nat)(x:V)(hx':List Box):Prop:=
 ∀t2,restr o (VSt.get ⟨t2,[]⟩)=restr o (VSt.get ⟨t,[]⟩)-> ∀(a:Act) (w:World) (K:Act->World->Prop) (Q:Exit->Act->World->Prop),SimE En ⟨t2,hx⟩ a w->
  (∀a' w',SimE En ⟨putV (killT M t2) o.dst x,hx'⟩ a' w'->K a' w')->o.wp P a w K Q
def Fact3 (P:Program)(C:CfgO)(En:Ent)(ops:Array Oper)(W Z:List Nat)(T:Nat->List Nat)(h0:List Box)(i:Nat)(o:Oper)(t:List V)(x:V):Eff3->Prop
 | .no=>wantV ops o t=some false/\x= .tup []
 | .late=>wantV ops o t=some true/\(Z= []\/(calmB Z x=true/\ ∀y∈o.op.operands.toList,calmB Z (VSt.get ⟨t,[]⟩ y)=true))/\ ∀h2,PreW W h0 h2->Gives P [] h2 h2 (restr o (VSt.get ⟨t,[]⟩)) o x
 | .pin hx=>wantV ops o t=some true/\pinI C ops i=true/\SStep P En o t hx [] x hx
 | .mid hb=>wantV ops o t=some true/\midI C ops i=true/\hb.length<=h0.length/\(∀j oj,ops[j]? =some oj->bigI C oj=true->(isCallT C oj || isCallM C oj)=true->edgeR ops 5 oj i=true\/edgeR ops 5 o j=true\/((∀b∈T j,∀x,hb[b]? =some x->x= .gone)/\(isCallM C oj=true->calmB (T j) x=true/\ ∀y∈o.op.operands.toList,calmB (T j) (VSt.get ⟨t,[]⟩ y)=true)))/\ ∀h2,Pre hb h2->Gives P [] h2 h2 (restr o (VSt.get ⟨t,[]⟩)) o x
 | .big hx hx' M=>wantV ops o t=some true/\bigI C o=true/\(∀b∈M,b∈Z)/\PreW W h0 hx/\PreW W h0 hx'/\SStep P En o t hx M x hx'/\h0.length<=hx.length/\(mkI o=true->M= []/\ ∃l,hx'=hx++l)/\((isCallT C o || isCallM C o)=true->(isCallT C o=true->M= [])/\(∀b∈M,b∈T i)/\ ∀k,k < h0.length->k ∉ T i->hx'[k]? =hx[k]?)/\((isCallT C o || isCallM C o)=true->quietN ops i=true->hx'.length=hx.length/\(∀b∈M,b < hx.length)/\ ∀l,(∀M,l.map (Box.kill M)=l)->SStep P En o t (hx++l) M x (hx'++l))/\(isAl o=true-> ∃l,hx'=hx++l/\(∀M,l.map (Box.kill M)=l)/\(∀M:List Nat,(∀b∈M,b < hx.length)->x.kill M=x)/\ ∀hz,hz.length=hx.length->SStep P En o t hz [] x (hz++l))
def SStep.put {d:Option Tmp}{y:V}(hd: ∀k,d=some k->k ∉ o.looksAt ops):SStep P En o (putV t d y) hx M x hx'↔SStep P En o t hx M x hx':=by
 unfold SStep;rw[restr_put hd]
def SStep.congr (he:restr o (VSt.get ⟨t2,[]⟩)=restr o (VSt.get ⟨t,[]⟩))(hs:SStep P En o t hx M x hx'):SStep P En o t2 hx M x hx':=by
 unfold SStep;rw[he];exact hs
def calm_put {d:Option Tmp}{y:V}(hd: ∀k,d=some k->k ∉ o.looksAt ops):(∀q∈o.op.operands.toList,calmB Z (VSt.get ⟨putV t d y,[]⟩ q)=true)↔ ∀q∈o.op.operands.toList,calmB Z (VSt.get ⟨t,[]⟩ q)=true:=by
 have:=restr_put (x:=y) hd t [];constructor<;>intro hh q hq<;>have:=restr_of this hq
 ·rw[<-this];exact hh q hq
 ·rw[this];exact hh q hq
def Fact3.put {i:Nat}{d:Option Tmp}{y:V}(hd: ∀k,d=some k->k ∉ o.looksAt ops)(e:Eff3):Fact3 P C En ops W Z T h0 i o (putV t d y) x e↔Fact3 P C En ops W Z T h0 i o t x e:=by
 cases e<;>simp only[Fact3,wantV_put hd,restr_put hd,SStep.put hd,calm_put hd]
def Fact3.kill {i:Nat}{e:Eff3}(hM: ∀b∈M,b∈Z)(he:e= .no\/e= .late):Fact3 P C En ops W Z T h0 i o (killT M t) x e↔Fact3 P C En ops W Z T h0 i o t x e:=by
 rcases he with rfl|rfl
 ·simp only[Fact3,wantV_kill]
 ·simp only[Fact3,wantV_kill];cases Z with
  |nil=>
   have hM:M= []:=List.eq_nil_iff_forall_not_mem.2 fun b hb=>by simpa using hM b hb
   subst hM;rfl
  |cons z zs=>
   constructor
   ·rintro⟨h1,h2,h3⟩
    rcases h2 with h2|⟨h2,h4⟩
    ·cases h2
    ·have e:=fun q hq=>get_calm_of (h4 q hq)
     refine⟨h1, .inr ⟨h2,fun q hq=>by rw[<-e q hq];exact h4 q hq⟩,?_⟩
     rw[restr_eq e]at h3;exact h3
   ·rintro⟨h1,h2,h3⟩
    rcases h2 with h2|⟨h2,h4⟩
    ·cases h2
    ·have e:=fun q hq=>get_calm hM (h4 q hq)
     refine⟨h1, .inr ⟨h2,fun q hq=>by rw[e q hq];exact h4 q hq⟩,?_⟩
     rw[restr_eq e];exact h3
def Fact3.kmid {i:Nat}{hb:List Box}{Z2:List Nat}(hM: ∀b∈M,b∈Z2)(hc: ∀q∈o.op.operands.toList,calmB Z2 (VSt.get ⟨killT M t,[]⟩ q)=true)(hf:Fact3 P C En ops W Z T h0 i o (killT M t) x (.mid hb)):Fact3 P C En ops W Z T h0 i o t x (.mid hb):=by
 have e:=fun q hq=>get_calm_of (hc q hq)
 obtain⟨f1,f2,f3,f4,f5⟩:=hf;refine⟨wantV_kill.1 f1,f2,f3,fun j oj hj s1 s2=> ?_,?_⟩
 ·rcases f4 j oj hj s1 s2 with h|h|⟨h1,h2⟩
  ·exact .inl h
  ·exact .inr (.inl h)
  ·exact .inr (.inr ⟨h1,fun hm=>⟨(h2 hm).1,fun y hy=>by rw[<-e y hy];exact(h2 hm).2 y hy⟩⟩)
 ·rw[restr_eq e]at f5;exact f5
def Fact3.kmid' {i:Nat}{hb:List Box}{Z2:List Nat}(hM: ∀b∈M,b∈Z2)(hc: ∀q∈o.op.operands.toList,calmB Z2 (VSt.get ⟨t,[]⟩ q)=true)(hf:Fact3 P C En ops W Z T h0 i o t x (.mid hb)):Fact3 P C En ops W Z T h0 i o (killT M t) x (.mid hb):=by
 have e:=fun q hq=>get_calm (h:=[]) hM (hc q hq)
 obtain⟨f1,f2,f3,f4,f5⟩:=hf;refine⟨wantV_kill.2 f1,f2,f3,fun j oj hj s1 s2=> ?_,?_⟩
 ·rcases f4 j oj hj s1 s2 with h|h|⟨h1,h2⟩
  ·exact .inl h
  ·exact .inr (.inl h)
  ·exact .inr (.inr ⟨h1,fun hm=>⟨(h2 hm).1,fun y hy=>by rw[e y hy];exact(h2 hm).2 y hy⟩⟩)
 ·rw[restr_eq e];exact f5
def Fact3.calm {i:Nat}{e:Eff3}(hM: ∀b∈M,b∈Z)(he:e= .no\/e= .late)(hf:Fact3 P C En ops W Z T h0 i o t x e):x.kill M=x:=by
 rcases he with rfl|rfl
 ·rw[hf.2];rfl
 ·rcases hf.2.1 with h|h
  ·subst h;have hM:M= []:=List.eq_nil_iff_forall_not_mem.2 fun b hb=>by simpa using hM b hb
   subst hM;exact V.kill_nil x
  ·exact calm_kill hM h.1
def Out3 (P:Program)(C:CfgO)(En:Ent)(ops:Array Oper)(W Z:List Nat)(T:Nat->List Nat)(h0:List Box)(i:Nat)(o:Oper)(t:List V)(hh:List Box)(x:V)(t':List V)(hh':List Box):Prop:=
 ∃e,Fact3 P C En ops W Z T h0 i o t x e/\Eff3.ok W h0 hh e/\t'=putV (killT e.km t) o.dst x/\hh'=e.run hh
def swap_light {i j:Nat}{oi oj:Oper}{xi xj:V}{e1 e2:Eff3}(hap:oi.apart ops oj=true)(m1:e1.km= [])(m2:e2.km= [])(r1: ∀hh,e1.run hh=hh)(r2: ∀hh,e2.run hh=hh)
  (f1:Fact3 P C En ops W Z T h0 i oi t xi e1) (k1:Eff3.ok W h0 hh e1) (f2:Fact3 P C En ops W Z T h0 j oj (putV (killT e1.km t) oi.dst xi) xj e2) (k2:Eff3.ok W h0 (e1.run hh) e2):
  ∃t1 hh1,Out3 P C En ops W Z T h0 j oj t hh xj t1 hh1/\Out3 P C En ops W Z T h0 i oi t1 hh1 xi (putV (killT e2.km (putV (killT e1.km t) oi.dst xi)) oj.dst xj) (e2.run (e1.run hh)):=by
 obtain⟨a1,a2,a3⟩:=Oper.apart_spec hap;rw[m1]at f2 ⊢;rw[m2];have k: ∀t:List V,killT [] t=t:=fun _=>rfl
 rw[k]at f2;rw[Fact3.put a1]at f2;rw[r1]at k2 ⊢;refine⟨_,_,⟨e2,f2,k2,rfl,rfl⟩,⟨e1,(by rw[m2,k];exact(Fact3.put a3 e1).2 f1),by rw[r2];exact k1,?_,by rw[r1]⟩⟩
 rw[m1,m2,k,k,k];exact(putV_comm a2 t xi xj)
def swap_big1 {i j:Nat}{oi oj:Oper}{xi xj:V}{e2:Eff3}(hap:oi.apart ops oj=true)(he:e2= .no\/e2= .late)
  (f1:Fact3 P C En ops W Z T h0 i oi t xi (.big hx hx' M)) (k1:hh=hx) (f2:Fact3 P C En ops W Z T h0 j oj (putV (killT M t) oi.dst xi) xj e2):
  ∃t1 hh1,Out3 P C En ops W Z T h0 j oj t hh xj t1 hh1/\Out3 P C En ops W Z T h0 i oi t1 hh1 xi (putV (putV (killT M t) oi.dst xi) oj.dst xj) hx':=by
 obtain⟨a1,a2,a3⟩:=Oper.apart_spec hap;rw[Fact3.put a1,Fact3.kill f1.2.2.1 he]at f2;subst k1;have m2:e2.km= []:=by rcases he with rfl|rfl<;>rfl
 refine⟨_,_,⟨e2,f2,by rcases he with rfl|rfl<;>first|exact f1.2.2.2.1|exact trivial,rfl,rfl⟩,⟨.big hh hx' M,(by rw[m2];exact(Fact3.put a3 _).2 f1),by rcases he with rfl|rfl<;>rfl,?_,rfl⟩⟩
 rw[m2];show _=putV (killT M (putV t oj.dst xj)) oi.dst xi;rw[killT_put (Fact3.calm f1.2.2.1 he f2)];exact putV_comm a2 _ xi xj
def swap_big2 {i j:Nat}{oi oj:Oper}{xi xj:V}{e1:Eff3}(hap:oi.apart ops oj=true)(he:e1= .no\/e1= .late)
  (f1:Fact3 P C En ops W Z T h0 i oi t xi e1) (f2:Fact3 P C En ops W Z T h0 j oj (putV t oi.dst xi) xj (.big hx hx' M)) (k2:hh=hx):
  ∃t1 hh1,Out3 P C En ops W Z T h0 j oj t hh xj t1 hh1/\Out3 P C En ops W Z T h0 i oi t1 hh1 xi (putV (killT M (putV t oi.dst xi)) oj.dst xj) hx':=by
 obtain⟨a1,a2,a3⟩:=Oper.apart_spec hap;rw[Fact3.put a1]at f2;subst k2;have m1:e1.km= []:=by rcases he with rfl|rfl<;>rfl
 refine⟨_,_,⟨.big hh hx' M,f2,rfl,rfl,rfl⟩,⟨e1,((Fact3.put a3 e1).2 ((Fact3.kill f2.2.2.1 he).2 f1)),by rcases he with rfl|rfl<;>first|exact f2.2.2.2.2.1|exact trivial,?_,by rcases he with rfl|rfl<;>rfl⟩⟩
 rw[m1,killT_put (Fact3.calm f2.2.2.1 he f1)];exact putV_comm a2 _ xi xj
def pre_left {hb hx l:List Box}(hp:Pre hb (hx++l))(hl:hb.length<=hx.length):Pre hb hx:=fun k x hk=>by
 rcases hp k x hk with h1|h1
 ·exact .inl h1
 ·have hlt:=(List.getElem?_eq_some_iff.1 hk).1;rw[List.getElem?_append,if_pos (by omega)]at h1
  exact .inr h1
def pre_right {hb hx l:List Box}(hp:Pre hb hx):Pre hb (hx++l):=fun k x hk=>by
 rcases hp k x hk with h1|h1
 ·exact .inl h1
 ·have hlt:=(List.getElem?_eq_some_iff.1 h1).1
  right
  rw[List.getElem?_append,if_pos (by omega)]
  exact h1
def swap_big1m {i j:Nat}{oi oj:Oper}{xi xj:V}{hb:List Box}(hap:oi.apart ops oj=true)(hmk:mkI oi=true)
  (f1:Fact3 P C En ops W Z T h0 i oi t xi (.big hx hx' M)) (k1:hh=hx) (f2:Fact3 P C En ops W Z T h0 j oj (putV (killT M t) oi.dst xi) xj (.mid hb)) (k2:Pre hb hx'):
  ∃t1 hh1,Out3 P C En ops W Z T h0 j oj t hh xj t1 hh1/\Out3 P C En ops W Z T h0 i oi t1 hh1 xi (putV (putV (killT M t) oi.dst xi) oj.dst xj) hx':=by
 obtain⟨a1,a2,a3⟩:=Oper.apart_spec hap;obtain⟨rfl,l,rfl⟩:=f1.2.2.2.2.2.2.2.1 hmk;have k: ∀t:List V,killT [] t=t:=fun _=>rfl
 rw[k]at f2 ⊢;rw[Fact3.put a1]at f2;subst k1;refine⟨_,_,⟨.mid hb,f2,pre_left k2 (Nat.le_trans f2.2.2.1 f1.2.2.2.2.2.2.1),rfl,rfl⟩,⟨.big hh _ [],(Fact3.put a3 _).2 f1,rfl,?_,rfl⟩⟩;exact putV_comm a2 t xi xj
def swap_big2m {i j:Nat}{oi oj:Oper}{xi xj:V}{hb:List Box}(hap:oi.apart ops oj=true)(hmk:mkI oj=true)
  (f1:Fact3 P C En ops W Z T h0 i oi t xi (.mid hb)) (k1:Pre hb hh) (f2:Fact3 P C En ops W Z T h0 j oj (putV t oi.dst xi) xj (.big hx hx' M)) (k2:hh=hx):
  ∃t1 hh1,Out3 P C En ops W Z T h0 j oj t hh xj t1 hh1/\Out3 P C En ops W Z T h0 i oi t1 hh1 xi (putV (killT M (putV t oi.dst xi)) oj.dst xj) hx':=by
 obtain⟨a1,a2,a3⟩:=Oper.apart_spec hap;rw[Fact3.put a1]at f2;obtain⟨rfl,l,rfl⟩:=f2.2.2.2.2.2.2.2.1 hmk;subst k2;exact⟨_,_,⟨.big hh _ [],f2,rfl,rfl,rfl⟩,⟨.mid hb,(Fact3.put a3 _).2 f1,pre_right k1,putV_comm a2 t xi xj,rfl⟩⟩
def pre_turn {hb hx hx':List Box}{n:Nat}{Ts:List Nat}(hT: ∀b∈Ts,∀x,hb[b]? =some x->x= .gone)(hl:hb.length<=n)(he: ∀k,k < n->k ∉ Ts->hx'[k]? =hx[k]?):Pre hb hx↔Pre hb hx':=by
 constructor
 ·intro hp k x hk
  by_cases hm:k∈Ts
  ·exact .inl (hT k hm x hk)
  ·rw[he k (by have:=(List.getElem?_eq_some_iff.1 hk).1;omega) hm];exact hp k x hk
 ·intro hp k x hk
  by_cases hm:k∈Ts
  ·exact .inl (hT k hm x hk)
  ·rw[<-he k (by have:=(List.getElem?_eq_some_iff.1 hk).1;omega) hm];exact hp k x hk
def swap_big1c {i j:Nat}{oi oj:Oper}{xi xj:V}{hb:List Box}(hap:oi.apart ops oj=true)(hct:(isCallT C oi || isCallM C oi)=true)(hi:ops[i]? =some oi)(no1:edgeR ops 5 oj i=true->False)(no2:edgeR ops 5 oi j=true->False)
  (f1:Fact3 P C En ops W Z T h0 i oi t xi (.big hx hx' M)) (k1:hh=hx) (f2:Fact3 P C En ops W Z T h0 j oj (putV (killT M t) oi.dst xi) xj (.mid hb)) (k2:Pre hb hx'):
  ∃t1 hh1,Out3 P C En ops W Z T h0 j oj t hh xj t1 hh1/\Out3 P C En ops W Z T h0 i oi t1 hh1 xi (putV (putV (killT M t) oi.dst xi) oj.dst xj) hx':=by
 obtain⟨a1,a2,a3⟩:=Oper.apart_spec hap;obtain⟨hM0,hMT,hturn⟩:=f1.2.2.2.2.2.2.2.2.1 hct;rw[Fact3.put a1]at f2;subst k1;obtain⟨hT,hcm⟩:=((f2.2.2.2.1 i oi hi f1.2.1 hct).resolve_left no2).resolve_left no1;obtain⟨f3,hxk⟩:Fact3 P C En ops W Z T h0 j oj t xj (.mid hb)/\xj.kill M=xj:=by
  cases hm:isCallM C oi with
  |true=>
   obtain⟨c1,c2⟩:=hcm hm;exact⟨Fact3.kmid hMT c2 f2,calm_kill hMT c1⟩
  |false=>
   rw[hm,Bool.or_false]at hct;have:=hM0 hct;subst this;exact⟨f2,V.kill_nil xj⟩
 refine⟨_,_,⟨.mid hb,f3,(pre_turn hT f3.2.2.1 hturn).2 k2,rfl,rfl⟩,⟨.big hh _ M,(Fact3.put a3 _).2 f1,rfl,?_,rfl⟩⟩;show _=putV (killT M (putV t oj.dst xj)) oi.dst xi;rw[killT_put hxk];exact putV_comm a2 _ xi xj
def swap_big2c {i j:Nat}{oi oj:Oper}{xi xj:V}{hb:List Box}(hap:oi.apart ops oj=true)(hct:(isCallT C oj || isCallM C oj)=true)(hj:ops[j]? =some oj)(no1:edgeR ops 5 oj i=true->False)(no2:edgeR ops 5 oi j=true->False)
  (f1:Fact3 P C En ops W Z T h0 i oi t xi (.mid hb)) (k1:Pre hb hh) (f2:Fact3 P C En ops W Z T h0 j oj (putV t oi.dst xi) xj (.big hx hx' M)) (k2:hh=hx):
  ∃t1 hh1,Out3 P C En ops W Z T h0 j oj t hh xj t1 hh1/\Out3 P C En ops W Z T h0 i oi t1 hh1 xi (putV (killT M (putV t oi.dst xi)) oj.dst xj) hx':=by
 obtain⟨a1,a2,a3⟩:=Oper.apart_spec hap;rw[Fact3.put a1]at f2;obtain⟨hM0,hMT,hturn⟩:=f2.2.2.2.2.2.2.2.2.1 hct;subst k2;obtain⟨hT,hcm⟩:=((f1.2.2.2.1 j oj hj f2.2.1 hct).resolve_left no1).resolve_left no2;obtain⟨f3,hxk⟩:Fact3 P C En ops W Z T h0 i oi (killT M t) xi (.mid hb)/\xi.kill M=xi:=by
  cases hm:isCallM C oj with
  |true=>
   obtain⟨c1,c2⟩:=hcm hm;exact⟨Fact3.kmid' hMT c2 f1,calm_kill hMT c1⟩
  |false=>
   rw[hm,Bool.or_false]at hct;have:=hM0 hct;subst this;exact⟨f1,V.kill_nil xi⟩
 refine⟨_,_,⟨.big hh _ M,f2,rfl,rfl,rfl⟩,⟨.mid hb,(Fact3.put a3 _).2 f3,(pre_turn hT f1.2.2.1 hturn).1 k1,?_,rfl⟩⟩;show putV (killT M (putV t oi.dst xi)) oj.dst xj=putV (putV (killT M t) oj.dst xj) oi.dst xi;rw[killT_put hxk];exact putV_comm a2 _ xi xj
def isAl_mk (h:isAl o=true):mkI o=true/\isCallT C o=false:=by
 unfold isAl at h;unfold mkI isCallT;split at h
 ·rename_i hop;rw[hop];exact⟨rfl,rfl⟩
 ·cases h
def isAl_mk2 (h:isAl o=true):isCallM C o=false:=by
 unfold isAl at h;unfold isCallM;split at h
 ·rename_i hop;rw[hop]
 ·cases h
def preW_apl {W:List Nat}{h0 h2:List Box}(hp:PreW W h0 h2)(l:List Box):PreW W h0 (h2++l):=fun b x hb hx=>by
 have:=hp b x hb hx;rw[List.getElem?_append_left (List.getElem?_eq_some_iff.1 this).1];exact this
def swap_bigs {i j:Nat}{oi oj:Oper}{xi xj:V}{hy hy':List Box}{M':List Nat}(hap:oi.apart ops oj=true)(hct:(isCallT C oi || isCallM C oi)=true)(hq:quietN ops i=true)(hal:isAl oj=true)
  (f1:Fact3 P C En ops W Z T h0 i oi t xi (.big hx hx' M)) (k1:hh=hx) (f2:Fact3 P C En ops W Z T h0 j oj (putV (killT M t) oi.dst xi) xj (.big hy hy' M')) (k2:hx'=hy):
  ∃t1 hh1,Out3 P C En ops W Z T h0 j oj t hh xj t1 hh1/\Out3 P C En ops W Z T h0 i oi t1 hh1 xi (putV (killT M' (putV (killT M t) oi.dst xi)) oj.dst xj) hy':=by
 obtain⟨a1,a2,a3⟩:=Oper.apart_spec hap;have k: ∀t:List V,killT [] t=t:=fun _=>rfl
 have f1':=f1;obtain⟨w1,w2,w3,w4,w5,w6,w7,w8,w9,w10,w11⟩:=f1;obtain⟨hlen,hMl,hall⟩:=w10 hct hq;rw[Fact3.put a1]at f2;obtain⟨v1,v2,v3,v4,v5,v6,v7,v8,v9,v10,v11⟩:=f2;obtain⟨rfl,_⟩:=v8 (isAl_mk (C:=C) hal).1;obtain⟨l,rfl,hl1,hl2,hmk⟩:=v11 hal;subst k1;subst k2;have hmi:mkI oi=false:=by
  cases h:isCallT C oi with
  |true=>
   unfold isCallT at h;unfold mkI;split<;>simp_all
  |false=>
   rw[h,Bool.false_or]at hct;unfold isCallM at hct;unfold mkI;split<;>simp_all
 have hai:isAl oi=false:=by
  cases h:isAl oi with
  |false=>rfl
  |true=>rw[(isAl_mk (C:=C) h).2,isAl_mk2 (C:=C) h]at hct;cases hct
 have hno: ∀y,y ∉ oj.op.operands.toList:=fun y hy=>by
  unfold isAl at hal;split at hal
  ·rename_i hop;rw[hop]at hy;simp[Op.operands]at hy
  ·cases hal
 have hre: ∀t2:List V,restr oj (VSt.get ⟨t2,[]⟩)=restr oj (VSt.get ⟨killT M t,[]⟩):=fun t2=>restr_eq fun y hy=>absurd hy (hno y)
 refine⟨_,_,⟨.big hh (hh++l) [],⟨wantV_kill.1 v1,v2,fun b hb=>by simp at hb,w4,preW_apl w4 l,(hmk hh hlen.symm).congr (hre t),w7,fun _=>⟨rfl,l,rfl⟩,(fun h=>by rw[(isAl_mk (C:=C) hal).2,isAl_mk2 (C:=C) hal]at h;cases h),(fun h=>by rw[(isAl_mk (C:=C) hal).2,isAl_mk2 (C:=C) hal]at h;cases h),fun _=>⟨l,rfl,hl1,fun M hM=>hl2 M fun b hb=>by have:=hM b hb;omega,fun hz hz'=>(hmk hz (hz'.trans hlen.symm)).congr (hre t)⟩⟩,rfl,rfl,rfl⟩,⟨.big (hh++l) (hx'++l) M,?_,rfl,?_,rfl⟩⟩
 ·show Fact3 P C En ops W Z T h0 i oi (putV (killT [] t) oj.dst xj) xi (Eff3.big (hh++l) (hx'++l) M);rw[k,Fact3.put a3];refine⟨w1,w2,w3,preW_apl w4 l,preW_apl w5 l,hall l hl1,by rw[List.length_append];omega,(fun h=>by rw[hmi]at h;cases h),fun h=>⟨(w9 h).1,(w9 h).2.1,fun k hk hkT=> ?_⟩,fun _ _=>⟨by rw[List.length_append,List.length_append,hlen],fun b hb=>by have:=hMl b hb;rw[List.length_append];omega,fun l' hl'=> ?_⟩,(fun h=>by rw[hai]at h;cases h)⟩
  ·rw[List.getElem?_append_left (by omega),List.getElem?_append_left (by omega)]
   exact(w9 h).2.2 k hk hkT
  ·rw[List.append_assoc,List.append_assoc];exact hall _ fun M=>by rw[List.map_append,hl1,hl']
 ·show putV (killT [] (putV (killT M t) oi.dst xi)) oj.dst xj=putV (killT M (putV (killT [] t) oj.dst xj)) oi.dst xi;rw[k,k,killT_put (hl2 M fun b hb=>by have:=hMl b hb;omega)]
  exact putV_comm a2 _ xi xj
def Out3.swap {i j:Nat}{oi oj:Oper}{xi xj:V}{ti tj:List V}{hi' hj':List Box}(hap:oi.apart ops oj=true)(hbb:bigI C oi=true->bigI C oj=true->(isCallT C oi || isCallM C oi)=true/\isAl oj=true/\quietN ops i=true)(hbp:bigI C oi=true->pinI C ops j=true->False)(hpb:pinI C ops i=true->bigI C oj=true->False)(hbm:bigI C oi=true->mkI oi=false->(isCallT C oi || isCallM C oi)=false->midI C ops j=true->False)(hmb:midI C ops i=true->bigI C oj=true->mkI oj=false->(isCallT C oj || isCallM C oj)=false->False)
  (hoi:ops[i]? =some oi) (hoj:ops[j]? =some oj) (no1:edgeR ops 5 oj i=true->False) (no2:edgeR ops 5 oi j=true->False)
  (hi:Out3 P C En ops W Z T h0 i oi t hh xi ti hi') (hj:Out3 P C En ops W Z T h0 j oj ti hi' xj tj hj'):
  ∃t1 hh1,Out3 P C En ops W Z T h0 j oj t hh xj t1 hh1/\Out3 P C En ops W Z T h0 i oi t1 hh1 xi tj hj':=by
 obtain⟨e1,f1,k1,rfl,rfl⟩:=hi;obtain⟨e2,f2,k2,rfl,rfl⟩:=hj;cases e1 with
 |big hx hx' M=>cases e2 with
  |big=>exact swap_bigs hap (hbb f1.2.1 f2.2.1).1 (hbb f1.2.1 f2.2.1).2.2 (hbb f1.2.1 f2.2.1).2.1 f1 k1 f2 k2
  |pin=>exact(hbp f1.2.1 f2.2.1).elim
  |mid hb=>cases hm:mkI oi with
   |true=>exact swap_big1m hap hm f1 k1 f2 k2
   |false=>cases hct:(isCallT C oi || isCallM C oi)with
    |true=>exact swap_big1c hap hct hoi no1 no2 f1 k1 f2 k2
    |false=>exact(hbm f1.2.1 hm hct f2.2.1).elim
  |no=>exact swap_big1 hap (.inl rfl) f1 k1 f2
  |late=>exact swap_big1 hap (.inr rfl) f1 k1 f2
 |no=>cases e2 with
  |big=>exact swap_big2 hap (.inl rfl) f1 f2 k2
  |_=>exact swap_light hap rfl rfl (fun _=>rfl) (fun _=>rfl) f1 k1 f2 k2
 |late=>cases e2 with
  |big=>exact swap_big2 hap (.inr rfl) f1 f2 k2
  |_=>exact swap_light hap rfl rfl (fun _=>rfl) (fun _=>rfl) f1 k1 f2 k2
 |pin=>cases e2 with
  |big=>exact(hpb f1.2.1 f2.2.1).elim
  |_=>exact swap_light hap rfl rfl (fun _=>rfl) (fun _=>rfl) f1 k1 f2 k2
 |mid hb=>cases e2 with
  |big=>cases hm:mkI oj with
   |true=>exact swap_big2m hap hm f1 k1 f2 k2
   |false=>cases hct:(isCallT C oj || isCallM C oj)with
    |true=>exact swap_big2c hap hct hoj no1 no2 f1 k1 f2 k2
    |false=>exact(hmb f1.2.1 f2.2.1 hm hct).elim
  |_=>exact swap_light hap rfl rfl (fun _=>rfl) (fun _=>rfl) f1 k1 f2 k2
def Out3.wp {i:Nat}{t':List V}{hh':List Box}{a:Act}{w:World}(ho:Out3 P C En ops W Z T h0 i o t hh x t' hh')(hs:SimE En ⟨t,hh⟩ a w){K:Act->World->Prop}{Q:Exit->Act->World->Prop}
  (hK: ∀a' w',SimE En ⟨t',hh'⟩ a' w'->K a' w'):if Region.wanted o (yielded ops a.tmps)then o.wp P a w K Q else K (a.put o.dst undef) w:=by
 obtain⟨e,hf,hok,rfl,rfl⟩:=ho;cases e with
 |no=>
  obtain⟨hw,rfl⟩:=hf;rw[if_neg (by rw[wantV_sim hs hw];simp)]
  refine hK _ _ ?_;obtain⟨g,hs⟩:=hs;have:=hs.next (.refl hs.heap) (by simp[okM]) (.tup (w:=w) (g:=g) #[] [] rfl (by simp)) o.dst
  rw[next_kill]at this;exact⟨g,this⟩
 |late=>
  rw[if_pos (wantV_sim hs hf.1)];have hg:=hf.2.2 hh hok;rw[get_h t [] hh]at hg;refine Gives.sim (s:=⟨t,hh⟩) hg.of_restr hs (by simp[okM]) fun a' w' hs'=>hK a' w' ?_
  rwa [next_kill]at hs'
 |pin hx=>
  have hok:hh=hx:=hok;subst hok;rw[if_pos (wantV_sim hs hf.1)];exact hf.2.2 t rfl a w K Q hs hK
 |mid hb=>
  rw[if_pos (wantV_sim hs hf.1)];have hg:=hf.2.2.2.2 hh hok;rw[get_h t [] hh]at hg;refine Gives.sim (s:=⟨t,hh⟩) hg.of_restr hs (by simp[okM]) fun a' w' hs'=>hK a' w' ?_
  rwa [next_kill]at hs'
 |big hx hx' M=>
  have hok:hh=hx:=hok;subst hok;rw[if_pos (wantV_sim hs hf.1)];exact hf.2.2.2.2.2.1 t rfl a w K Q hs hK
def big_spec (h:bigOK C ops=true){i j:Nat}{oi oj:Oper}(hi:ops[i]? =some oi)(hj:ops[j]? =some oj)(hij:i < j)(s1:bigI C oi=true)(s2:bigI C oj=true):edgeR ops 5 oj i=true\/((isCallT C oi || isCallM C oi)=true/\isAl oj=true):=by
 have:=List.all_eq_true.1 h j (List.mem_range.2 (Array.getElem?_eq_some_iff.1 hj).1);rw[hj]at this;simp only[s2,Bool.not_true,Bool.false_or]at this;have:=List.all_eq_true.1 this i (List.mem_range.2 hij);rw[hi]at this
 simpa[s1]using this
def pin_spec {i j:Nat}{oi oj:Oper}(h:pinI C ops i=true)(hi:ops[i]? =some oi)(hj:ops[j]? =some oj)(s2:bigI C oj=true):edgeR ops 5 oj i=true\/edgeR ops 5 oi j=true:=by
 have:=List.all_eq_true.1 h j (List.mem_range.2 (Array.getElem?_eq_some_iff.1 hj).1);rw[hj,hi]at this
 simpa[s2]using this
def mid_spec {i j:Nat}{oi oj:Oper}(h:midI C ops i=true)(hi:ops[i]? =some oi)(hj:ops[j]? =some oj)(s2:bigI C oj=true)(s3:mkI oj=false)(s4:(isCallT C oj || isCallM C oj)=false):edgeR ops 5 oj i=true\/edgeR ops 5 oi j=true:=by
 have:=List.all_eq_true.1 h j (List.mem_range.2 (Array.getElem?_eq_some_iff.1 hj).1);rw[hj,hi]at this
 simpa[s2,s3,s4]using this
def lateI (ops:Array Oper)(i:Nat):Bool:=(List.range ops.size).all fun j=> !decide (i < j) || match ops[j]? with
 |some oj=>edgeR ops 5 oj i
 |none=>true
def late_spec {i j:Nat}{oj:Oper}(h:lateI ops i=true)(hj:ops[j]? =some oj)(hij:i < j):edgeR ops 5 oj i=true:=by
 have:=List.all_eq_true.1 h j (List.mem_range.2 (Array.getElem?_eq_some_iff.1 hj).1);rw[hj]at this
 simpa[hij]using this
def SPan (P:Program)(En:Ent)(o:Oper)(t:List V)(hx:List Box)(p:V)(hx':List Box):Prop:=
 ∀t2,restr o (VSt.get ⟨t2,[]⟩)=restr o (VSt.get ⟨t,[]⟩)-> ∀(a:Act) (w:World) (K:Act->World->Prop) (Q:Exit->Act->World->Prop),SimE En ⟨t2,hx⟩ a w->
  (∀e a' w',PanX En p hx' e a' w'->Q e a' w')->o.wp P a w K Q
def PanAt (P:Program)(C:CfgO)(En:Ent)(ops:Array Oper)(i:Nat)(o:Oper)(t:List V)(hh:List Box)(p:V)(h':List Box):Prop:=
 wantV ops o t=some true/\bigI C o=true/\mkI o=false/\lateI ops i=true/\SPan P En o t hh p h'
def PanAt.put {i:Nat}{d:Option Tmp}{y p:V}(hd: ∀k,d=some k->k ∉ o.looksAt ops):PanAt P C En ops i o (putV t d y) hh p h'↔PanAt P C En ops i o t hh p h':=by
 simp only[PanAt,wantV_put hd,SPan,restr_put hd]
def vAny3 (P:Program)(C:CfgO)(En:Ent)(ops:Array Oper)(W Z:List Nat)(T:Nat->List Nat)(h0:List Box)(K:List V->List Box->Prop)(Kp:V->List Box->Prop):Nat->Array Bool->List V->List Box->Prop
 |0,listed,t,hh=>Region.ready .any ops listed= []/\K t hh
 |fuel+1,listed,t,hh=>Region.ready .any ops listed≠[]/\ ∀i∈Region.ready .any ops listed,∃o,ops[i]? =some o/\((∃x t' hh',Out3 P C En ops W Z T h0 i o t hh x t' hh'/\vAny3 P C En ops W Z T h0 K Kp fuel (listed.setIfInBounds i true) t' hh')\/
  ∃p h',PanAt P C En ops i o t hh p h'/\Kp p h')
def vAny3_first {K:List V->List Box->Prop}{Kp:V->List Box->Prop}(hst:bigOK C ops=true){i:Nat}{oi:Oper}{xi:V}(hi:ops[i]? =some oi):
  ∀(fuel:Nat) (listed:Array Bool) (t ti:List V) (hh hhi:List Box),ClosedL ops listed->(∀j,j < i->listed.getD j true=true)->
   (∀j oj,ops[j]? =some oj->j≠i->listed.getD j true=false->(∀e∈oj.after,Region.binds .any e=true->e.on≠i)->oi.apart ops oj=true)->
   i∈Region.ready .any ops listed->Out3 P C En ops W Z T h0 i oi t hh xi ti hhi->
   vAny3 P C En ops W Z T h0 K Kp fuel (listed.setIfInBounds i true) ti hhi->vAny3 P C En ops W Z T h0 K Kp (fuel+1) listed t hh:=by
 intro fuel
 induction fuel with
 |zero=>
  intro listed t ti hh hhi _ _ _ hr ho H;refine⟨fun h=>(by rw[h]at hr;cases hr),fun j hj=> ?_⟩
  by_cases hji:j=i
  ·subst hji;exact⟨oi,hi, .inl ⟨xi,ti,hhi,ho,H⟩⟩
  ·have:=ready_mono hj hji;rw[H.1]at this;cases this
 |succ fuel ih=>
  intro listed t ti hh hhi hcl hmin hfree hr ho H;refine⟨fun h=>(by rw[h]at hr;cases hr),fun j hj=> ?_⟩
  by_cases hji:j=i
  ·subst hji;exact⟨oi,hi, .inl ⟨xi,ti,hhi,ho,H⟩⟩
  ·obtain⟨oj,hoj,hcase⟩:=H.2 j (ready_mono hj hji);obtain⟨hjun,oj',hoj',hall⟩:=mem_ready.1 hj;rw[hoj]at hoj';cases hoj';obtain⟨hiun,oi',hoi',halli⟩:=mem_ready.1 hr;rw[hi]at hoi';cases hoi';have hnot: ∀e∈oj.after,Region.binds .any e=true->e.on≠i:=fun e he hb heq=>by
    have h1:=hall e he hb;rw[heq,not_listed hr]at h1;cases h1
   have hnoti: ∀e∈oi.after,Region.binds .any e=true->e.on≠j:=fun e he hb heq=>by
    have h1:=halli e he hb;rw[heq,not_listed hj]at h1;cases h1
   have no1:edgeR ops 5 oj i=true->False:=fun h=>by
    have:=edgeR_listed hcl 5 hall h;rw[not_listed hr]at this;cases this
   have no2:edgeR ops 5 oi j=true->False:=fun h=>by
    have:=edgeR_listed hcl 5 halli h;rw[not_listed hj]at this;cases this
   have hij:i < j:=by
    rcases Nat.lt_or_gt_of_ne hji with hlt|hgt
    ·have:=hmin j hlt;rw[hjun]at this;cases this
    ·exact hgt
   have hbb:bigI C oi=true->bigI C oj=true->(isCallT C oi || isCallM C oi)=true/\isAl oj=true/\quietN ops i=true:=fun s1 s2=>by
    rcases big_spec hst hi hoj hij s1 s2 with h|h
    ·exact(no1 h).elim
    ·exact⟨h.1,h.2,quietN_at hoj h.2 no1⟩
   rcases hcase with⟨xj,tj,hbj,hout,hrest⟩|⟨p,h',hpan,hkp⟩
   ·obtain⟨t1,hb1,o1,o2⟩:=Out3.swap (hfree j oj hoj hji hjun hnot) hbb
     (fun s1 he=>(pin_spec he hoj hi s1).elim no2 no1) (fun he s2=>(pin_spec he hi hoj s2).elim no1 no2)
     (fun s1 s3 s4 he=>(mid_spec he hoj hi s1 s3 s4).elim no2 no1) (fun he s2 s3 s4=>(mid_spec he hi hoj s2 s3 s4).elim no1 no2) hi hoj no1 no2 ho hout
    refine⟨oj,hoj, .inl ⟨xj,t1,hb1,o1,ih (listed.setIfInBounds j true) _ tj hb1 hbj (hcl.step hj) (fun k hk=>by rw[getD_set_ne true (fun e=>by subst e;omega)];exact hmin k hk) (fun k ok hk hki hun hno=> ?_) (ready_mono hr (Ne.symm hji)) o2 ?_⟩⟩
    ·refine hfree k ok hk hki ?_ hno
     by_cases hjk:j=k
     ·subst hjk;exact hjun
     ·rw[getD_set_ne true hjk]at hun;exact hun
    ·rw[Array.setIfInBounds_comm _ _ hji];exact hrest
   ·obtain⟨a1,_,_⟩:=Oper.apart_spec (hfree j oj hoj hji hjun hnot);obtain⟨e1,f1,k1,rfl,rfl⟩:=ho;have fin:e1.km= []->e1.run hh=hh-> ∃o,ops[j]? =some o/\((∃x t' hh',Out3 P C En ops W Z T h0 j o t hh x t' hh'/\vAny3 P C En ops W Z T h0 K Kp (fuel+1) (listed.setIfInBounds j true) t' hh')\/ ∃p h',PanAt P C En ops j o t hh p h'/\Kp p h'):=fun m1 r1=>by
     rw[m1,r1]at hpan;exact⟨oj,hoj, .inr ⟨p,h',(PanAt.put a1).1 hpan,hkp⟩⟩
    cases e1 with
    |big=>exact(by have:=(isAl_mk (C:=C) (hbb f1.2.1 hpan.2.1).2.1).1;rw[hpan.2.2.1]at this;cases this)
    |pin=>exact((pin_spec f1.2.1 hi hoj hpan.2.1).elim no1 no2).elim
    |mid=>exact fin rfl rfl
    |no=>exact fin rfl rfl
    |late=>exact fin rfl rfl
def vLex3 (P:Program)(C:CfgO)(En:Ent)(ops:Array Oper)(W Z:List Nat)(T:Nat->List Nat)(h0:List Box)(K:List V->List Box->Prop)(Kp:V->List Box->Prop):Nat->List Oper->List V->List Box->Prop
 |_,[],t,hh=>K t hh
 |k,o::os,t,hh=>(∃x t' hh',Out3 P C En ops W Z T h0 k o t hh x t' hh'/\vLex3 P C En ops W Z T h0 K Kp (k+1) os t' hh')\/ ∃p h',PanAt P C En ops k o t hh p h'/\Kp p h'
def vAny3_lex {K:List V->List Box->Prop}{Kp:V->List Box->Prop}(hst:bigOK C ops=true): ∀(l:List Oper) (k:Nat) (listed:Array Bool) (t:List V) (hh:List Box),ClosedL ops listed->(∀j,j < k->listed.getD j true=true)->(∀j,l[j]? =ops[k+j]?)->
  lexOK2 ops l.length k listed=true->vLex3 P C En ops W Z T h0 K Kp k l t hh->vAny3 P C En ops W Z T h0 K Kp l.length listed t hh
 | [],_,_,_,_,_,_,_,hB,h=>⟨by simpa[lexOK2]using hB,h⟩
 |o::l,k,listed,t,hh,hcl,hpre,hl,hB,h=>by
  have h0:ops[k]? =some o:=by simpa using(hl 0).symm
  simp only[List.length_cons,lexOK2,Bool.and_eq_true]at hB;obtain⟨⟨hr,hf⟩,hB'⟩:=hB;have hr:k∈Region.ready .any ops listed:=by simpa using hr
  rcases h with⟨x,t',hh',ho,h⟩|⟨p,h',hpan,hkp⟩
  ·refine vAny3_first hst h0 l.length listed t t' hh hh' hcl hpre (Region.free_spec h0 hf) hr ho
    (vAny3_lex hst l (k+1) _ _ _ (hcl.step hr) (fun j hj=> ?_) (fun j=>by have:=hl (j+1);simpa[Nat.add_assoc,Nat.add_comm 1 j]using this) hB' h)
   by_cases hjk:k=j
   ·subst hjk;rw[Array.getD_eq_getD_getElem?,Array.getElem?_setIfInBounds];simp only[if_true];split<;>rfl
   ·rw[getD_set_ne true hjk];exact hpre j (by omega)
  ·refine⟨fun h=>(by rw[h]at hr;cases hr),fun j hj=> ?_⟩
   by_cases hjk:j=k
   ·subst hjk;exact⟨o,h0, .inr ⟨p,h',hpan,hkp⟩⟩
   ·exfalso;obtain⟨hjun,oj,hoj,hall⟩:=mem_ready.1 hj;have hkj:k < j:=by
     rcases Nat.lt_trichotomy j k with h1|h1|h1
     ·have:=hpre j h1;rw[hjun]at this;cases this
     ·exact(hjk h1).elim
     ·exact h1
    have:=edgeR_listed hcl 5 hall (late_spec hpan.2.2.2.1 hoj hkj);rw[not_listed hr]at this;cases this
def vAny3_sound {ro:Option Nat}{K:List V->List Box->Prop}{Kp:V->List Box->Prop}{Q:Exit->Act->World->Prop}(hnd: ∀(i:Nat) o,ops[i]? =some o->noDef o=true)(hK: ∀t hh a w,K t hh->SimE En ⟨t,hh⟩ a w->Q .normal a w)
  (hKp: ∀p hh e a w,Kp p hh->PanX En p hh e a w->Q e a w):
  ∀(fuel:Nat) (listed:Array Bool) (t:List V) (hh:List Box) (a:Act) (w:World),vAny3 P C En ops W Z T h0 K Kp fuel listed t hh->SimE En ⟨t,hh⟩ a w->wpAnyIn (Fw ro) 0 P .any ops Q fuel listed a w
 |0,listed,t,hh,a,w,⟨hno,hk⟩,hs=>⟨hno,hK t hh a w hk hs⟩
 |fuel+1,listed,t,hh,a,w,⟨hne,hall⟩,hs=>by
  refine⟨fun h=>(hne h).elim,fun i hi=> ?_⟩
  obtain⟨o,ho,hcase⟩:=hall i hi;unfold wpOpIn;simp only[ho];have h1:if Region.wanted o (yielded ops a.tmps)then o.wp P a w (wpAnyIn (Fw ro) 0 P .any ops Q fuel (listed.setIfInBounds i true)) Q else wpAnyIn (Fw ro) 0 P .any ops Q fuel (listed.setIfInBounds i true) (a.put o.dst undef) w:=by
   rcases hcase with⟨x,t',hh',hout,hrest⟩|⟨p,h',hpan,hkp⟩
   ·exact hout.wp (Q:=Q) hs (K:=wpAnyIn (Fw ro) 0 P .any ops Q fuel (listed.setIfInBounds i true)) fun a' w' hs'=>
     vAny3_sound hnd hK hKp fuel _ _ _ a' w' hrest hs'
   ·rw[if_pos (wantV_sim hs hpan.1)];exact hpan.2.2.2.2 t rfl a w _ Q hs fun e a' w' h=>hKp p h' e a' w' hkp h
  split
  ·rename_i hw;rw[if_pos hw]at h1;exact wpIn_of_wp (hnd i o ho) h1
  ·rename_i hw;rw[if_neg hw]at h1;exact⟨fun _ _=>trivial,h1⟩
def SStep.of_gives (hM:okM En.g.n En.M M=true)(hg:Gives P M hx hx' (restr o (VSt.get ⟨t,[]⟩)) o x):SStep P En o t hx M x hx':=by
 intro t2 he a w K Q hs hK;rw[<-he,get_h t2 [] hx]at hg;refine Gives.sim (s:=⟨t2,hx⟩) hg.of_restr hs hM fun a' w' hs'=>hK a' w' ?_
 rwa [next_kill]at hs'
def frzF:List Box->List Nat->V->V
 |_,[],v=>v
 |h,b::bs,v=>match h[b]? with
  |some (.arr _ sz rows)=>frzF ((h.map (Box.frz b (.sl sz rows))).set b .gone) bs (V.frz b (.sl sz rows) v)
  |some (.cells (.ty _) vs)=>match allDs vs with
   |some cs=>frzF ((h.map (Box.frp b cs)).set b .gone) bs (V.frp b cs v)
   |none=>frzF h bs v
  |_=>frzF h bs v
def frz_t: ∀ {bs:List Nat} {h:List Box} {t:List V},(VSt.frz ⟨t,h⟩ bs).t=t.map (frzF h bs)
 | [],h,t=>by show t=_;rw[show frzF h []=id from rfl];simp
 |b::bs,h,t=>by
  have e:frzF h (b::bs)=fun v=>match h[b]? with
   |some (.arr _ sz rows)=>frzF ((h.map (Box.frz b (.sl sz rows))).set b .gone) bs (V.frz b (.sl sz rows) v)
   |some (.cells (.ty _) vs)=>match allDs vs with
    |some cs=>frzF ((h.map (Box.frp b cs)).set b .gone) bs (V.frp b cs v)
    |none=>frzF h bs v
   |_=>frzF h bs v:=rfl
  rw[e];unfold VSt.frz;simp only;cases hb:h[b]? with
  |none=>simp only[frz_t]
  |some bx=>cases bx with
   |arr e sz rows=>simp only[frz_t,List.map_map];rfl
   |cells t vs=>cases t with
    |ty t=>cases hc:allDs vs with
     |none=>simp only[hc,frz_t]
     |some cs=>simp only[hc,frz_t,List.map_map];rfl
    |_=>simp only[frz_t]
   |_=>simp only[frz_t]
def frzF_any: ∀ {bs:List Nat} {h:List Box},frzF h bs .any= .any
 | [],h=>rfl
 |b::bs,h=>by
  unfold frzF;split
  ·exact frzF_any
  ·split<;>exact frzF_any
  ·exact frzF_any
def frz_get {bs:List Nat}{y:Operand}(he:VSt.get ⟨t2,h⟩ y=VSt.get ⟨t,h⟩ y):(VSt.frz ⟨t2,h⟩ bs).get y=(VSt.frz ⟨t,h⟩ bs).get y:=by
 cases y with
 |tmp k=>
  have he:t2.getD k .any=t.getD k .any:=he;show(VSt.frz ⟨t2,h⟩ bs).t.getD k .any=(VSt.frz ⟨t,h⟩ bs).t.getD k .any;rw[frz_t,frz_t];have aux: ∀t:List V,(t.map (frzF h bs)).getD k .any=frzF h bs (t.getD k .any):=fun t=>by
   rw[List.getD_eq_getElem?_getD,List.getD_eq_getElem?_getD,List.getElem?_map];cases t[k]? with
   |none=>exact frzF_any.symm
   |some v=>rfl
  rw[aux,aux,he]
 |const v=>rfl
 |func f=>rfl
 |global k=>rfl
end
section
variable (A : Sy) (P : Program) (C : CfgO)
def borrowT (hh:List Box)(t:List V)(o:Oper):Tree V:=match callOf P (VSt.frz ⟨t,hh⟩ (fzl ⟨t,hh⟩ o)).get o with
 |some (f,vs0)=>match C.inl.contains f,sigP P f with
  |false,some ts=>match canL P (parP P f) vs0 with
   |vs=>match vs.all V.pureB,shR P ts with
    |true,some ss=>match ss.all Sh.flat with
     |true=>callT A P f vs ts
     |false=> .fail
    |_,_=> .fail
  |_,_=> .fail
 |none=> .fail
def pinXT0 (hh:List Box)(t:List V)(o:Oper):Tree V:=match callOf P (VSt.get ⟨t,hh⟩) o with
 |some (f,vs0)=>match (canL P (parP P f) vs0).all V.pureB with
  |true=>opXT A P C hh (VSt.get ⟨t,hh⟩) o
  |false=>borrowT A P C hh t o
 |none=>opXT A P C hh (VSt.get ⟨t,hh⟩) o
def pinXT (hh:List Box)(t:List V)(o:Oper):Tree V:=match o.op,o.dst with
 | .slice st y lo hi none,some d=>match C.osl.contains d with
   |true=>oslT A P hh st (VSt.get ⟨t,hh⟩ y) (lo.map (VSt.get ⟨t,hh⟩)) (hi.map (VSt.get ⟨t,hh⟩))
   |false=>pinXT0 A P C hh t o
 |_,_=>pinXT0 A P C hh t o
def Box.fitK (c:Nat):Box->Bool
 | .cells _ vs=>vs.all fun v=>v.freeB [c]
 |_=>true
def V.isAt (b:Nat):V->Prop
 | .ptr c _=>c=b
 | .pml c _ _ _=>c=b
 |_=>False
def bigW (W:List Nat)(n0:Nat)(hh:List Box)(o:Oper)(O:Operand->V):Bool:=match o.op with
 | .store _ y _=>match O y with
   | .ptr b _=>W.contains b || decide (n0<=b)
   | .pml b _ _ _=>W.contains b || decide (n0<=b)
   |_=>false
 | .alloc _=>true
 | .buildSlice .. =>true
 | .call c=>match c with
   |⟨.builtin .append,⟨[y,_]⟩,⟨[t,t']⟩⟩=>decide (t'=t)&&match O y with
    | .own c=>(W.contains c || decide (n0<=c))&&hh.zipIdx.all fun xk=>W.contains xk.2 || decide (n0<=xk.2) || xk.1.fitK c
    | .nils=>true
    |_=>false
   |⟨.builtin .copy,⟨[y,_]⟩,⟨[_,_]⟩⟩=>match O y with
    | .own b=>W.contains b || decide (n0<=b)
    | .osl b _ _ _=>W.contains b || decide (n0<=b)
    |_=>false
   |_=>false
 | .mapUpdate _ y _ _=>match O y with
   | .map b=>W.contains b || decide (n0<=b)
   |_=>false
 |_=>false
end
section
variable {P : Program} {h h' h2 h0 hh hx hx' : List Box} {O ρ2 : Operand -> V} {o : Oper} {x : V} {ops : Array Oper} {W Z M : List Nat} {T : Nat -> List Nat} {t t2 : List V} {En : Ent} {E : Env} {C : CfgO}
def borrowT_sound (hE:E.Ok)(hG:EnvGood P E)(hk:(borrowT sy P C hh t o).run E=some x):SStep P En o t hh [] x hh:=by
 intro t2 he a w K Q hs hK;unfold borrowT at hk;generalize hL:fzl ⟨t,hh⟩ o=L at hk;have hs1:SimE En (VSt.frz ⟨t2,hh⟩ L) a w:=hs.frzs;rw[get_h t2 [] hh,get_h t [] hh]at he;have hco:callOf P (VSt.frz ⟨t2,hh⟩ L).get o=callOf P (VSt.frz ⟨t,hh⟩ L).get o:=callOf_congr fun y hy=>frz_get (restr_of he hy)
 rw[<-hco]at hk;split at hk
 ·rename_i f vs hc1;split at hk
  ·rename_i ts _ hsig;simp only at hk;generalize hcan:canL P (parP P f) vs=vc at hk;split at hk
   ·rename_i ss hp hss;split at hk
    ·rename_i hfl;obtain⟨y,args,tys,hop,hy⟩:=callOf_some hc1 (fun f=>rfl)
     have hg:=sigP_some hsig;obtain⟨q1,q2,q3⟩:=callT_sound hE hG hp hsig hk;refine call_borrow hs hs1 hop hy (by rw[hcan];exact hp) hg (by rw[hcan];exact q1) (q3 ss hss hfl) fun a' w' hs'=>hK a' w' ?_
     rwa [next_kill]at hs'
    ·cases hk
   ·cases hk
  ·cases hk
 ·cases hk
def pinXT0_sound (hE:E.Ok)(hG:EnvGood P E)(hk:(pinXT0 sy P C hh t o).run E=some x):SStep P En o t hh [] x hh:=by
 have aux:(opXT sy P C hh (VSt.get ⟨t,hh⟩) o).run E=some x->SStep P En o t hh [] x hh:=fun h=>by
  have:=opXT_sound hE hG (fun f=>rfl) h hh (Pre.refl hh)
  rw[get_h t hh []]at this;exact SStep.of_gives (by simp[okM]) this
 unfold pinXT0 at hk;split at hk
 ·split at hk
  ·exact aux hk
  ·exact borrowT_sound hE hG hk
 ·exact aux hk
def pinXT_sound (hE:E.Ok)(hG:EnvGood P E)(hk:(pinXT sy P C hh t o).run E=some x):SStep P En o t hh [] x hh:=by
 unfold pinXT at hk;split at hk
 ·rename_i st y lo hi d hop hd;split at hk
  ·have e: ∀q,q∈o.op.operands.toList->VSt.get ⟨t,hh⟩ q=restr o (VSt.get ⟨t,hh⟩) q:=fun q hq=>(restr_at (fun f=>rfl) hq).symm
   have e1:lo.map (VSt.get ⟨t,hh⟩)=lo.map (restr o (VSt.get ⟨t,hh⟩)):=by cases lo with
    |none=>rfl
    |some q=>simp[e q (by simp[hop,Op.operands])]
   have e2:hi.map (VSt.get ⟨t,hh⟩)=hi.map (restr o (VSt.get ⟨t,hh⟩)):=by cases hi with
    |none=>rfl
    |some q=>simp[e q (by simp[hop,Op.operands])]
   rw[e y (by simp[hop,Op.operands]),e1,e2]at hk
   have:=oslT_sound (E:=E) hop hk;rw[get_h t hh []]at this;exact SStep.of_gives (by simp[okM]) this
  ·exact pinXT0_sound hE hG hk
 ·exact pinXT0_sound hE hG hk
def storeT_set {t:TypeId}{a v:V}{r:List Box}(hk:(storeT sy P h t a v).run E=some r): ∃b c,V.isAt b a/\r=h.set b c:=by
 unfold storeT at hk;split at hk
 ·split at hk
  ·split at hk
   ·split at hk
    ·cases hk;exact⟨_,_,rfl,rfl⟩
    ·cases hk
   ·cases hk
  ·split at hk
   ·split at hk
    ·split at hk
     ·obtain⟨hi,hk⟩:=chk_some hk;cases hk;exact⟨_,_,rfl,rfl⟩
     ·cases hk
    ·cases hk
   ·cases hk
  ·cases hk
 ·cases hk
def preW_apl2 (hp:PreW W h0 hh)(l:List Box):PreW W h0 (hh++l):=fun k x hk hx=>by
 have:=hp k x hk hx;rw[List.getElem?_append,if_pos (List.getElem?_eq_some_iff.1 this).1];exact this
def preW_set2 {b:Nat}(hb:(W.contains b || decide (h0.length<=b))=true)(hp:PreW W h0 hh)(c:Box):PreW W h0 (hh.set b c):=fun k x hk hx=>by
 have hlt:=(List.getElem?_eq_some_iff.1 hx).1;have hne:b≠k:=fun e=>by
  subst e;simp only[Bool.or_eq_true,List.contains_eq_mem,decide_eq_true_eq]at hb;rcases hb with h1|h1
  ·exact hk h1
  ·omega
 rw[List.getElem?_set,if_neg hne];exact hp k x hk hx
def fitK_kill {c:Nat}{b:Box}(h:b.fitK c=true):b.kill [c]=b:=by
 cases b with
 |cells t vs=>
  show Box.cells t (vs.map _)=_;have:vs.map (V.kill [c])=vs.map id:=List.map_congr_left fun v hv=>by
   have hf:=List.all_eq_true.1 h v hv;have aux: ∀cs:List V,cs.all (V.freeC [c])=true->cs.map (V.killC [c])=cs:=fun cs hc=>by
    have:cs.map (V.killC [c])=cs.map id:=List.map_congr_left fun u hu=>by
     have:=List.all_eq_true.1 hc u hu;simp[V.killC,this]
    simpa using this
   cases v with
   |agg cs=>exact congrArg V.agg (aux cs hf)
   |tup cs=>exact congrArg V.tup (aux cs hf)
   |fn f cs=>exact congrArg (V.fn f) (aux cs hf)
   |any=>rfl
   |nils=>rfl
   |d x=>rfl
   |pel cs=>rfl
   |nilp=>rfl
   |nilf=>rfl
   |ifn b=>rfl
   |ifc t cs=>rfl
   |ifo t b cs=>rfl
   |own b=>exact congrArg (fun q=>bif q then V.own b else .any) hf
   |map b=>exact congrArg (fun q=>bif q then V.map b else .any) hf
   |ptr b off=>exact congrArg (fun q=>bif q then V.ptr b off else .any) hf
   |mv f b off=>exact congrArg (fun q=>bif q then V.mv f b off else .any) hf
   |ifp f b off=>exact congrArg (fun q=>bif q then V.ifp f b off else .any) hf
   |pml b sz i off=>exact congrArg (fun q=>bif q then V.pml b sz i off else .any) hf
   |yld b R=>exact congrArg (fun q=>bif q then V.yld b R else .any) hf
   |osl b s l n=>exact congrArg (fun q=>bif q then V.osl b s l n else .any) hf
  rw[this];simp
 |_=>rfl
end
section
variable (A : Sy) (P : Program) (C : CfgO)
def bigT (h:List Box)(O:Operand->V)(o:Oper):Tree (List Nat × List Box × V):=match o.op with
 | .alloc t=>match zeroO P t with
   |some z=>match (ofConst z).cellsV with
    |some vs=> .ret ([],h++[.cells (.ty t) vs], .ptr h.length 0)
    |none=> .fail
   |none=> .fail
 | .store t y z=>(storeT A P h t (O y) (O z)).bind fun h'=> .ret ([],h', .any)
 | .buildSlice t n parts=>match litV P t n (parts.toList.map fun q=>(q.1,O q.2)),(parts.toList.all fun q=>(O q.2).liveC h)with
   |some (e,sz,vs),true=>match shOf P 9 e with
    |some ss=>match rowsOf ss sz n vs,decide (n<=16777216)with
     |some rows,true=> .ret ([],h++[.arr e sz rows], .own h.length)
     |_,_=> .fail
    |none=> .fail
   |_,_=> .fail
 | .call c=>match c with
   |⟨.builtin .append,⟨[y,z]⟩,⟨[t,t']⟩⟩=>match decide (t'=t)with
    |true=>appendT A P h t (O y) (O z)
    |false=> .fail
   |⟨.builtin .copy,⟨[y,z]⟩,⟨[t,_]⟩⟩=>(copyT A P h t (O y) (O z)).bind fun r=> .ret ([],r.1,r.2)
   |_=> .fail
 | .mapUpdate t y z r=>(putT A P h t (O y) (O z) (O r)).bind fun h'=> .ret ([],h', .any)
 |_=> .fail
end
section
variable {P : Program} {h h' h2 h0 hh hx hx' : List Box} {O ρ2 : Operand -> V} {o : Oper} {x : V} {ops : Array Oper} {W Z M : List Nat} {T : Nat -> List Nat} {t t2 : List V} {En : Ent} {E : Env} {C : CfgO} {r : List Nat × List Box × V}
def copyT_set {t:TypeId}{v w:V}{r:List Box × V}(hk:(copyT sy P h t v w).run E=some r): ∃b c,((v= .own b)\/ ∃sz lo n,v= .osl b sz lo n)/\r.1=h.set b c:=by
 unfold copyT at hk;split at hk
 ·rename_i e b lo n news hel hd hz;split at hk
  ·obtain⟨hf,hk⟩:=chk_some hk;cases hk;refine⟨b,_,?_,rfl⟩;unfold dstT at hd;split at hd
   ·split at hd
    ·cases hd;exact .inl rfl
    ·cases hd
   ·cases hd;exact .inr ⟨_,_,_,rfl⟩
   ·cases hd
  ·cases hk
 ·cases hk
def putT_set {t:TypeId}{a q v:V}{r:List Box}(hk:(putT sy P h t a q v).run E=some r): ∃b c,a= .map b/\r=h.set b c:=by
 unfold putT at hk;split at hk
 ·split at hk
  ·split at hk
   ·cases hk;exact⟨_,_,rfl,rfl⟩
   ·cases hk
  ·cases hk
 ·cases hk
def bigT_sound (hE:E.Ok)(he: ∀y,y∈o.op.operands.toList->O y=ρ2 y)(hk:(bigT sy P h O o).run E=some r):Gives P r.1 h r.2.1 ρ2 o r.2.2:=by
 unfold bigT at hk;split at hk
 ·rename_i t hop;split at hk
  ·rename_i z hz;split at hk
   ·rename_i vs hv;cases hk;exact gives_alloc hop hz hv
   ·cases hk
  ·cases hk
 ·rename_i t y z hop;rw[he y (by simp[hop,Op.operands]),he z (by simp[hop,Op.operands])]at hk
  obtain⟨h1,q1,hk⟩:=run_bind_some hE hk;cases hk;exact storeT_sound hop q1
 ·rename_i t n parts hop;have e1:(parts.toList.map fun q=>(q.1,O q.2))=parts.toList.map fun q=>(q.1,ρ2 q.2):=List.map_congr_left fun q hq=>by
   rw[he q.2 (by simp only[hop,Op.operands];exact List.mem_map.2 ⟨q,hq,rfl⟩)]
  have e2:(parts.toList.all fun q=>(O q.2).liveC h)=parts.toList.all fun q=>(ρ2 q.2).liveC h:=by
   rw[Bool.eq_iff_iff,List.all_eq_true,List.all_eq_true];refine⟨fun hh q hq=> ?_,fun hh q hq=> ?_⟩
   ·rw[<-he q.2 (by simp only[hop,Op.operands];exact List.mem_map.2 ⟨q,hq,rfl⟩)];exact hh q hq
   ·rw[he q.2 (by simp only[hop,Op.operands];exact List.mem_map.2 ⟨q,hq,rfl⟩)];exact hh q hq
  rw[e1,e2]at hk;split at hk
  ·rename_i e sz vs hlit hl;split at hk
   ·rename_i ss hss;split at hk
    ·rename_i rows hr hn;cases hk;exact gives_buildSlice hop hlit hl hr (by have:=of_decide_eq_true hn;simp only[maxLen];omega)
    ·cases hk
   ·cases hk
  ·cases hk
 ·rename_i c hop;split at hk
  ·rename_i y z t t';rw[he y (by simp[hop,Op.operands,Call.operands]),he z (by simp[hop,Op.operands,Call.operands])]at hk
   split at hk
   ·rename_i ht;have ht:=of_decide_eq_true ht;subst ht;exact appendT_sound hop rfl hk
   ·cases hk
  ·rename_i y z t t';rw[he y (by simp[hop,Op.operands,Call.operands]),he z (by simp[hop,Op.operands,Call.operands])]at hk
   obtain⟨q,q1,hk⟩:=run_bind_some hE hk;cases hk;exact copyT_sound hop q1
  ·cases hk
 ·rename_i t y z q hop;rw[he y (by simp[hop,Op.operands]),he z (by simp[hop,Op.operands]),he q (by simp[hop,Op.operands])]at hk
  obtain⟨h1,q1,hk⟩:=run_bind_some hE hk;cases hk;exact putT_sound (.inl hop) q1
 ·cases hk
def bigT_pre (hE:E.Ok)(hk:(bigT sy P hh O o).run E=some r)(hw:bigW W h0.length hh o O=true)(hp:PreW W h0 hh):PreW W h0 r.2.1:=by
 unfold bigT at hk;split at hk
 ·split at hk
  ·split at hk
   ·cases hk;exact preW_apl2 hp _
   ·cases hk
  ·cases hk
 ·rename_i t y z hop;obtain⟨h1,q1,hk⟩:=run_bind_some hE hk;cases hk;obtain⟨b,c,hb,rfl⟩:=storeT_set q1;unfold bigW at hw;rw[hop]at hw;simp only at hw;split at hw
  ·rename_i b' off hy;rw[hy]at hb;have hb:b'=b:=hb;subst hb;exact preW_set2 hw hp c
  ·rename_i b' sz i off hy;rw[hy]at hb;have hb:b'=b:=hb;subst hb;exact preW_set2 hw hp c
  ·cases hw
 ·split at hk
  ·split at hk
   ·split at hk
    ·cases hk;exact preW_apl2 hp _
    ·cases hk
   ·cases hk
  ·cases hk
 ·rename_i c hop;split at hk
  ·rename_i y z t t';unfold bigW at hw;rw[hop]at hw;simp only[Bool.and_eq_true]at hw;obtain⟨ht,hw⟩:=hw;rw[ht]at hk;simp only at hk;unfold appendT at hk;split at hk
   ·split at hk
    ·split at hk
     ·rename_i c hy;rw[hy]at hw;simp only[Bool.and_eq_true]at hw;split at hk
      ·split at hk
       ·obtain⟨hf,hk⟩:=chk_some hk;cases hk;show PreW W h0 ((hh.map (Box.kill [c])).set c _);refine preW_set2 hw.1 (fun k x hk hx=> ?_) _
        have h1:=hp k x hk hx;have hlt:=(List.getElem?_eq_some_iff.1 hx).1;have h2:=List.all_eq_true.1 hw.2 (x,k) (by
         rw[List.mem_zipIdx_iff_getElem?];exact h1)
        simp only[Bool.or_eq_true,List.contains_eq_mem,decide_eq_true_eq]at h2;have hf:x.fitK c=true:=by
         rcases h2 with(h2|h2)|h2
         ·exact absurd h2 hk
         ·omega
         ·exact h2
        rw[List.getElem?_map,h1,Option.map_some,fitK_kill hf]
       ·cases hk
      ·cases hk
     ·obtain⟨hf,hk⟩:=chk_some hk;cases hk;exact preW_apl2 hp _
     ·cases hk
    ·cases hk
   ·cases hk
  ·rename_i y z t t';obtain⟨q,q1,hk⟩:=run_bind_some hE hk;cases hk;obtain⟨b,c,hb,hq⟩:=copyT_set q1;unfold bigW at hw;rw[hop]at hw;simp only at hw;show PreW W h0 q.1;rw[hq];rcases hb with hb|⟨_,_,_,hb⟩
   ·rw[hb]at hw;exact preW_set2 hw hp c
   ·rw[hb]at hw;exact preW_set2 hw hp c
  ·cases hk
 ·rename_i t y z q hop;obtain⟨h1,q1,hk⟩:=run_bind_some hE hk;cases hk;obtain⟨b,c,hb,rfl⟩:=putT_set q1;unfold bigW at hw;rw[hop]at hw;simp only[hb]at hw;exact preW_set2 hw hp c
 ·cases hk
end
section
variable (A : Sy) (P : Program) (C : CfgO)
def quietB (L:List Nat)(v:V)(h':List Box):Bool:=decide (h'.length=L.length)&&v.scB L.length&&h'.all (Box.scB L.length)
def callBT (ent:Callee->List V->List Box->Tree (List Nat × V × List Box))(qf:Bool)(W Tk:List Nat)(n1:Nat)(t:List V)(hh:List Box)(o:Oper):Tree (Option V × List Box × V):=match callOf P (VSt.get ⟨t,hh⟩) o with
 |some (f,vs)=>match C.inl.contains f,sigP P f with
  |true,some _=>forceSp (reachV hh [] vs) fun L=>match reachOK hh L vs&&L.all (fun b=>(W.contains b&&Tk.contains b) || decide (n1<=b))with
   |true=>(ent (.fn f) (vs.map (V.ren (tau L))) (smallH hh L)).bind fun r=>match r.1 with
    | []=>match panOf r.2.1 with
      |none=>match !qf || quietB L r.2.1 r.2.2 with
       |true=> .ret (none,amongH hh L [] r.2.2,r.2.1.ren (ext L hh.length))
       |false=> .fail
      |some p=> .ret (some (p.ren (ext L hh.length)),amongH hh L [] r.2.2, .any)
    |_=> .fail
   |false=> .fail
  |_,_=>match qf with
   |true=> .fail
   |false=>(pinXT A P C hh t o).bind fun x=> .ret (none,hh,x)
 |none=> .fail
def callMT (ent:Callee->List V->List Box->Tree (List Nat × V × List Box))(qf:Bool)(W Z Tk:List Nat)(h0:List Box)(t:List V)(hh:List Box)(o:Oper):Tree (List Nat × List Box × V):=match callOf P (VSt.get ⟨t,hh⟩) o with
 |some (f,vs)=>match C.inl.contains f,sigP P f with
  |true,some _=>forceSp (reachV hh [] vs) fun L=>match (reachOK hh L vs&&L.all (fun b=>(W.contains b&&Tk.contains b) || decide (h0.length<=b)))&&h0.zipIdx.all (fun xb=>W.contains xb.2 || calmX Z xb.1)with
   |true=>(ent (.fn f) (vs.map (V.ren (tau L))) (smallH hh L)).bind fun r=>match panOf r.2.1 with
    |none=>match !qf || (quietB L r.2.1 r.2.2&&r.1.all fun b=>decide (b < L.length))with
     |true=>forceSp (r.1.map (ext L hh.length)) fun M=>match M.all Tk.contains&&(hh.take h0.length).zipIdx.all (fun xb=>Tk.contains xb.2 || calmX M xb.1)with
      |true=> .ret (M,amongH hh L M r.2.2,r.2.1.ren (ext L hh.length))
      |false=> .fail
     |false=> .fail
    |some _=> .fail
   |false=> .fail
  |_,_=> .fail
 |none=> .fail
def callBox (ops:Array Oper)(s:VSt)(o:Oper):List Nat:=match o.op with
 | .call ⟨.value (.tmp y),args,_⟩=>reachV s.h [] ((addrV P ops s 12 (.tmp y)).toList++args.toList.filterMap (addrV P ops s 12))
 | .call ⟨.value (.func f),args,_⟩=>match C.inl.contains f with
   |true=>reachV s.h [] (args.toList.filterMap (addrV P ops s 12))
   |false=>[]
 |_=>[]
def isApp (o:Oper):Bool:=match o.op with
 | .call ⟨.builtin .append,_,_⟩=>true
 |_=>false
def isMint (o:Oper):Bool:=match o.op with
 | .buildSlice .. =>true
 |_=>isApp o
def pref (ops:Array Oper)(k:Nat):Array Oper:=(ops.toList.take k).toArray
def copyBox (ops:Array Oper)(s:VSt)(o:Oper):List Nat:=match o.op with
 | .call ⟨.builtin .copy,⟨[.tmp y,_]⟩,_⟩=>match ops.toList.find? fun q=>q.dst == some y with
   |some q=>match q.op with
    | .slice _ z _ _ _=>match addrV P ops s 12 z with
      |some (.own b)=>[b]
      |_=>[]
    | .move z=>match addrV P ops s 12 z with
      |some (.own b)=>[b]
      |some (.osl b _ _ _)=>[b]
      |_=>[]
    |_=>[]
   |none=>[]
 |_=>[]
def isCopy (o:Oper):Bool:=match o.op with
 | .call ⟨.builtin .copy,_,_⟩=>true
 | .mapUpdate .. =>true
 |_=>false
def appBox (ops:Array Oper)(s:VSt)(o:Oper):List Nat:=match o.op with
 | .call ⟨.builtin .append,⟨[y,_]⟩,_⟩=>match addrV P ops s 12 y with
   |some (.own b)=>[b]
   |_=>[]
 |_=>[]
def bigZ (ops:Array Oper)(s:VSt):List Nat:=(match ops.any isApp with
 |true=>(List.range ops.size).map (s.h.length+ ·)++ops.toList.zipIdx.flatMap fun ok=>appBox P (pref ops ok.2) s ok.1
 |false=>[])++(match ops.any (isCallM C)with
 |true=>ops.toList.zipIdx.flatMap fun ok=>match isCallM C ok.1 with
  |true=>callBox P C (pref ops ok.2) s ok.1
  |false=>[]
 |false=>[])
def midW (ops:Array Oper)(Ts:List (List Nat))(k:Nat)(o:Oper):List Nat:=(List.range ops.size).flatMap fun j=>match ops[j]? with
 |some oj=>match bigI C oj&&(isCallT C oj || isCallM C oj)&& !edgeR ops 5 oj k&& !edgeR ops 5 o j with
  |true=>Ts.getD j []
  |false=>[]
 |none=>[]
def midC (ops:Array Oper)(Ts:List (List Nat))(k:Nat)(o:Oper)(t:List V)(x:V):Bool:=(List.range ops.size).all fun j=>match ops[j]? with
 |some oj=> !(bigI C oj&&isCallM C oj&& !edgeR ops 5 oj k&& !edgeR ops 5 o j) || (calmB (Ts.getD j []) x&&o.op.operands.toList.all fun y=>calmB (Ts.getD j []) (VSt.get ⟨t,[]⟩ y))
 |none=>true
def calmO (Z:List Nat)(o:Oper)(t:List V)(x:V):Bool:=Z.isEmpty || (calmB Z x&&o.op.operands.toList.all fun y=>calmB Z (VSt.get ⟨t,[]⟩ y))
def calm0:Box->Bool
 | .cells _ vs=>vs.all fun v=>match v with
   | .d _=>true
   | .nils=>true
   | .nilp=>true
   | .nilf=>true
   |_=>false
 |_=>true
def alCalm (n:Nat)(r:List Nat × List Box × V):Bool:=(r.2.1.drop n).all calm0&&(match r.2.2 with
 | .ptr b _=>decide (n<=b)
 |_=>false)
def pre3T (ent:Callee->List V->List Box->Tree (List Nat × V × List Box))(ops:Array Oper)(W Z:List Nat)(Ts:List (List Nat))(h0:List Box)(n0:Nat)(M0:List Nat):Nat->List Oper->List V->List Box->Tree (Option V × List V × List Box)
 |_,[],t,hh=> .ret (none,t,hh)
 |k,o::os,t,hh=>guardT ops o t (fun t=>match bigI C o with
   |true=>match isCallT C o with
    |true=>(callBT A P C ent (quietN ops k) W (Ts.getD k []) h0.length t hh o).bind fun r=>match r.1 with
     |none=>forceL (putV t o.dst r.2.2) fun t=>forceH r.2.1 fun hh=>pre3T ent ops W Z Ts h0 n0 M0 (k+1) os t hh
     |some p=>match lateI ops k with
      |true=> .ret (some p,t,r.2.1)
      |false=> .fail
    |false=>match isCallM C o with
     |true=>(callMT P C ent (quietN ops k) W Z (Ts.getD k []) h0 t hh o).bind fun r=>match okM n0 M0 r.1&&r.1.all Z.contains with
      |true=>forceL (putV (killT r.1 t) o.dst r.2.2) fun t=>forceH r.2.1 fun hh=>pre3T ent ops W Z Ts h0 n0 M0 (k+1) os t hh
      |false=> .fail
     |false=>(bigT A P hh (VSt.get ⟨t,hh⟩) o).bind fun r=>match okM n0 M0 r.1&&r.1.all Z.contains&&bigW W h0.length hh o (VSt.get ⟨t,hh⟩)&&(!isAl o || alCalm hh.length r)with
     |true=>forceL (putV (killT r.1 t) o.dst r.2.2) fun t=>forceH r.2.1 fun hh=>pre3T ent ops W Z Ts h0 n0 M0 (k+1) os t hh
     |false=> .fail
   |false=>match pinI C ops k,midI C ops k with
    |true,_=>(pinXT A P C hh t o).bind fun x=>forceL (putV t o.dst x) fun t=>pre3T ent ops W Z Ts h0 n0 M0 (k+1) os t hh
    |false,true=>(opXT A P C (hideB (hh.take h0.length) (midW C ops Ts k o)) (VSt.get ⟨t,[]⟩) o).bind fun x=>match midC C ops Ts k o t x with
     |true=>forceL (putV t o.dst x) fun t=>pre3T ent ops W Z Ts h0 n0 M0 (k+1) os t hh
     |false=> .fail
    |false,false=>(opXT A P C (hideB h0 W) (VSt.get ⟨t,[]⟩) o).bind fun x=>match calmO Z o t x with
     |true=>forceL (putV t o.dst x) fun t=>pre3T ent ops W Z Ts h0 n0 M0 (k+1) os t hh
     |false=> .fail)
  (fun t=>forceL (putV t o.dst (.tup [])) fun t=>pre3T ent ops W Z Ts h0 n0 M0 (k+1) os t hh)
def drawOK3 (ops:Array Oper):Bool:=(decide (2<=(ops.toList.filter (bigI C)).length) || ops.any (isCallT C) || ops.any (isCallM C) || ops.any isCopy)&&bigOK C ops&&lexOK2 ops ops.size 0 (Array.replicate ops.size false)
variable (ent : Callee -> List V -> List Box -> Tree (List Nat × V × List Box)) (n0 : Nat) (M0 : List Nat)
def drawT1 (ops:Array Oper)(s:VSt):Tree (Option V × VSt):=match (!drawOKs C ops || (ops.any isMint&& !ops.any (stopI C)))&&drawOK3 C ops with
 |true=>forceS (iceT P C ops s) fun s=>forceSp (ops.toList.zipIdx.flatMap fun ok=>stBox P (pref ops ok.2) s ok.1++appBox P (pref ops ok.2) s ok.1++callBox P C (pref ops ok.2) s ok.1++copyBox P (pref ops ok.2) s ok.1) fun W=>forceSp (bigZ P C ops s) fun Z=>forceSp (ops.toList.zipIdx.map fun ok=>callBox P C (pref ops ok.2) s ok.1) fun Ts=>(pre3T A P C ent ops W Z Ts s.h n0 M0 0 ops.toList s.t s.h).bind fun r=> .ret (r.1,⟨r.2.1,r.2.2⟩)
 |false=>drawT0 A P C ent n0 M0 ops s
def drawT (ops:Array Oper)(s:VSt):Tree (Option V × VSt):=match ops.toList.all noDef with
 |true=>drawT1 A P C ent n0 M0 ops s
 |false=> .fail
end
section
variable {P : Program} {h h' h2 h0 hh hx hx' : List Box} {O ρ2 : Operand -> V} {o : Oper} {x : V} {ops : Array Oper} {W Z M : List Nat} {T : Nat -> List Nat} {t t2 : List V} {En : Ent} {E : Env} {C : CfgO}
def calmO_spec (h:calmO Z o t x=true):Z= []\/(calmB Z x=true/\ ∀y∈o.op.operands.toList,calmB Z (VSt.get ⟨t,[]⟩ y)=true):=by
 unfold calmO at h;rw[Bool.or_eq_true,Bool.and_eq_true]at h;rcases h with h|⟨h1,h2⟩
 ·exact .inl (by simpa using h)
 ·exact .inr ⟨h1,fun y hy=>List.all_eq_true.1 h2 y hy⟩
def bigT_mk {r:List Nat × List Box × V}(hE:E.Ok)(hk:(bigT sy P h O o).run E=some r)(hm:mkI o=true):r.1= []/\ ∃l,r.2.1=h++l:=by
 unfold bigT at hk;split at hk
 ·split at hk
  ·split at hk
   ·cases hk;exact⟨rfl,_,rfl⟩
   ·cases hk
  ·cases hk
 ·rename_i hop;simp[mkI,hop]at hm
 ·split at hk
  ·split at hk
   ·split at hk
    ·cases hk;exact⟨rfl,_,rfl⟩
    ·cases hk
   ·cases hk
  ·cases hk
 ·rename_i hop;simp[mkI,hop]at hm
 ·rename_i hop;simp[mkI,hop]at hm
 ·cases hk
def bigT_al {r:List Nat × List Box × V}(hE:E.Ok)(hk:(bigT sy P hh (VSt.get ⟨t,hh⟩) o).run E=some r)(hm:isAl o=true): ∃l,r.2.1=hh++l/\ ∀hz,hz.length=hh.length->SStep P En o t hz [] r.2.2 (hz++l):=by
 unfold bigT at hk;split at hk
 ·rename_i t' hop;split at hk
  ·rename_i z hz;split at hk
   ·rename_i vs hv;cases hk;refine⟨_,rfl,fun hz' hl=> ?_⟩
    have:=gives_alloc (P:=P) (h:=hz') (O:=restr o (VSt.get ⟨t,[]⟩)) hop hz hv;rw[hl]at this;exact SStep.of_gives (by simp[okM]) this
   ·cases hk
  ·cases hk
 all_goals (rename_i hop;simp[isAl,hop]at hm)
def bigT_len {r:List Nat × List Box × V}(hE:E.Ok)(hk:(bigT sy P h O o).run E=some r):h.length<=r.2.1.length:=by
 unfold bigT at hk;split at hk
 ·split at hk
  ·split at hk
   ·cases hk;simp
   ·cases hk
  ·cases hk
 ·obtain⟨h1,q1,hk⟩:=run_bind_some hE hk;cases hk;obtain⟨b,c,hb,rfl⟩:=storeT_set q1;simp
 ·split at hk
  ·split at hk
   ·split at hk
    ·cases hk;simp
    ·cases hk
   ·cases hk
  ·cases hk
 ·split at hk
  ·split at hk
   ·unfold appendT at hk;split at hk
    ·split at hk
     ·split at hk
      ·split at hk
       ·split at hk
        ·obtain⟨hf,hk⟩:=chk_some hk;cases hk;simp
        ·cases hk
       ·cases hk
      ·obtain⟨hf,hk⟩:=chk_some hk;cases hk;simp
      ·cases hk
     ·cases hk
    ·cases hk
   ·cases hk
  ·obtain⟨q,q1,hk⟩:=run_bind_some hE hk;cases hk;obtain⟨b,c,_,hq⟩:=copyT_set q1;show h.length<=q.1.length;rw[hq];simp
  ·cases hk
 ·obtain⟨h1,q1,hk⟩:=run_bind_some hE hk;cases hk;obtain⟨b,c,_,rfl⟩:=putT_set q1;simp
 ·cases hk
def among_get {L M':List Nat}{h h':List Box}{k:Nat}{x:Box}(hx:h[k]? =some x)(hL:k ∉ L):(amongH h L M' h')[k]? =some (x.kill M'):=by
 have hk:=(List.getElem?_eq_some_iff.1 hx).1;unfold amongH;rw[List.getElem?_append_left (by simpa using hk),List.getElem?_map,List.getElem?_zipIdx,hx]
 simp only[Option.map_some,Nat.zero_add];cases hq:L.idxOf? k with
 |none=>rfl
 |some i=>exact absurd (List.mem_of_getElem? (idxOf_some hq)) hL
mutual
def V.ren_congr {σ τ:Nat->Nat}{n:Nat}(he: ∀i,i < n->σ i=τ i): ∀ {v:V},v.scB n=true->v.ren σ=v.ren τ
 | .own b,h=>by simp only[V.ren];rw[he b (of_decide_eq_true h)]
 | .ptr b o,h=>by simp only[V.ren];rw[he b (of_decide_eq_true h)]
 | .mv f b o,h=>by simp only[V.ren];rw[he b (of_decide_eq_true h)]
 | .ifp f b o,h=>by simp only[V.ren];rw[he b (of_decide_eq_true h)]
 | .pml b s i o,h=>by simp only[V.ren];rw[he b (of_decide_eq_true h)]
 | .map b,h=>by simp only[V.ren];rw[he b (of_decide_eq_true h)]
 | .yld b R,h=>by simp only[V.ren];rw[he b (of_decide_eq_true h)]
 | .osl b s l n,h=>by simp only[V.ren];rw[he b (of_decide_eq_true h)]
 | .agg cs,h=>by simp only[V.ren];rw[V.renL_congr he h]
 | .tup cs,h=>by simp only[V.ren];rw[V.renL_congr he h]
 | .fn f cs,h=>by simp only[V.ren];rw[V.renL_congr he h]
 | .any,_=>rfl
 | .nils,_=>rfl
 | .d x,_=>rfl
 | .pel cs,_=>rfl
 | .nilp,_=>rfl
 | .nilf,_=>rfl
 | .ifn b,_=>rfl
 | .ifc t cs,_=>rfl
 | .ifo t b cs,_=>rfl
def V.renL_congr {σ τ:Nat->Nat}{n:Nat}(he: ∀i,i < n->σ i=τ i): ∀ {cs:List V},V.scL n cs=true->V.renL σ cs=V.renL τ cs
 | [],_=>rfl
 |c::cs,h=>by
  have h:(c.scB n&&V.scL n cs)=true:=h;rw[Bool.and_eq_true]at h;unfold V.renL;rw[V.ren_congr he h.1,V.renL_congr he h.2]
end
def Box.ren_congr {σ τ:Nat->Nat}{n:Nat}(he: ∀i,i < n->σ i=τ i): ∀ {x:Box},x.scB n=true->x.ren σ=x.ren τ
 | .cells t vs,h=>by simp only[Box.ren];rw[V.renL_congr he h]
 | .gone,_=>rfl
 | .arr ..,_=>rfl
 | .mp ..,_=>rfl
def ext_low {L:List Nat}(n m:Nat): ∀i,i < L.length->ext L n i=ext L m i:=fun i hi=>by
 unfold ext;rw[List.getElem?_eq_getElem hi]
def quiet_among {L M:List Nat}{v:V}{h h':List Box}(l:List Box)(hl:l.map (Box.kill M)=l)(hq:quietB L v h'=true)(hlt: ∀b∈L,b < h.length):v.ren (ext L (h++l).length)=v.ren (ext L h.length)/\amongH (h++l) L M h'=amongH h L M h'++l/\(amongH h L M h').length=h.length:=by
 unfold quietB at hq;simp only[Bool.and_eq_true,decide_eq_true_eq]at hq;obtain⟨⟨q1,q2⟩,q3⟩:=hq;have e1:=ext_low (L:=L) (h++l).length h.length;refine⟨V.ren_congr e1 q2,?_,?_⟩
 ·unfold amongH;rw[List.drop_eq_nil_of_le (by omega),List.map_nil,List.map_nil,List.append_nil,List.append_nil,List.zipIdx_append,List.map_append]
  congr 1
  ·refine List.map_congr_left fun xb hxb=> ?_
   cases hi:L.idxOf? xb.2 with
   |none=>rfl
   |some i=>
    have hlen:i < h'.length:=by rw[q1];exact(List.getElem?_eq_some_iff.1 (idxOf_some hi)).1
    refine Box.ren_congr e1 ?_;rw[List.getD_eq_getElem?_getD,List.getElem?_eq_getElem hlen];exact List.all_eq_true.1 q3 _ (List.getElem_mem hlen)
  ·refine List.ext_getElem? fun k=> ?_
   rw[List.getElem?_map,List.getElem?_zipIdx];cases hk:l[k]? with
   |none=>rfl
   |some x=>
    simp only[Option.map_some,Nat.zero_add];have hx:x.kill M=x:=by
     have:=congrArg (fun r=>r[k]?) hl
     simp only[List.getElem?_map,hk,Option.map_some]at this;exact Option.some.inj this
    cases hi:L.idxOf? (h.length+k)with
    |none=>simp only[hx]
    |some i=>have:=hlt _ (List.mem_of_getElem? (idxOf_some hi));omega
 ·unfold amongH;rw[List.drop_eq_nil_of_le (by omega)]
  simp
def reachOK_app {h:List Box}{L:List Nat}{vs:List V}(l:List Box)(hr:reachOK h L vs=true):reachOK (h++l) L vs=true/\smallH (h++l) L=smallH h L:=by
 have hlt:=(reachOK_spec hr).lt;have hg: ∀b∈L,(h++l).getD b .gone=h.getD b .gone:=fun b hb=>by
  rw[List.getD_eq_getElem?_getD,List.getD_eq_getElem?_getD,List.getElem?_append_left (hlt b hb)]
 constructor
 ·unfold reachOK at hr ⊢;simp only[Bool.and_eq_true]at hr ⊢;obtain⟨⟨⟨r1,r2⟩,r3⟩,r4⟩:=hr;refine⟨⟨⟨r1,List.all_eq_true.2 fun b hb=>decide_eq_true (by have:=hlt b hb;rw[List.length_append];omega)⟩,r3⟩,List.all_eq_true.2 fun b hb=> ?_⟩
  rw[hg b hb];exact List.all_eq_true.1 r4 b hb
 ·unfold smallH;exact List.map_congr_left fun b hb=>by rw[hg b hb]
def callBT_sound (hE:E.Ok)(hG:EnvGood P E){ent:Callee->List V->List Box->Tree (List Nat × V × List Box)}(hent:EntGood P E ent){r:Option V × List Box × V}{Tk:List Nat}(hpw:PreW W h0 hh)(hl0:h0.length<=hh.length){qf:Bool}(hk:(callBT sy P C ent qf W Tk h0.length t hh o).run E=some r):
  (r.1=none->SStep P En o t hh [] r.2.2 r.2.1/\PreW W h0 r.2.1/\h0.length<=r.2.1.length/\(∀k,k < h0.length->k ∉ Tk->r.2.1[k]? =hh[k]?)/\(qf=true->r.2.1.length=hh.length/\ ∀l,(∀M,l.map (Box.kill M)=l)->SStep P En o t (hh++l) [] r.2.2 (r.2.1++l)))/\ ∀p,r.1=some p->SPan P En o t hh p r.2.1:=by
 unfold callBT at hk;split at hk
 ·rename_i f vs hc;split at hk
  ·rename_i hi hsig;rw[forceSp_eq]at hk;generalize reachV hh [] vs=L at hk;split at hk
   ·rename_i hL;simp only[Bool.and_eq_true]at hL;obtain⟨hL,hW⟩:=hL;obtain⟨q,h1,hk⟩:=run_bind_some hE hk;split at hk
    ·rename_i hq;have hcall:=hent.1 _ _ _ _ h1;rw[hq]at hcall;have hc2:callOf P (restr o (VSt.get ⟨t,hh⟩)) o=some (f,vs):=by
      rw[<-hc];exact callOf_congr fun y hy=>restr_at (fun f=>rfl) hy
     split at hk
     ·rename_i hp;split at hk;rename_i hqf;cases hk;have hA:=HCall.among hL (hcall.none hp);rw[List.map_nil]at hA;obtain⟨y,args,tys,hop,hy⟩:=callOf_some hc2 (restr_func o _);refine⟨fun _=>⟨?_,fun k x hkW hx=> ?_,?_,fun k hk0 hkT=> ?_,fun hq=> ?_⟩,fun p h=>(by cases h)⟩
      ·have:=gives_callV hop hy (sigP_some hsig) hA;rw[get_h t hh []]at this;exact SStep.of_gives (by simp[okM]) this
      ·have hkL:k ∉ L:=fun hm=>by
        have:=List.all_eq_true.1 hW k hm;simp only[Bool.or_eq_true,Bool.and_eq_true,List.contains_eq_mem,decide_eq_true_eq]at this;rcases this with h2|h2
        ·exact hkW h2.1
        ·have:=(List.getElem?_eq_some_iff.1 hx).1;omega
       show(amongH hh L [] q.2.2)[k]? =some x;rw[among_get (hpw k x hkW hx) hkL,Box.kill_nil]
      ·show h0.length<=(amongH hh L [] q.2.2).length;unfold amongH;simp only[List.length_append,List.length_map,List.length_zipIdx];omega
      ·have hkL:k ∉ L:=fun hm=>by
        have:=List.all_eq_true.1 hW k hm;simp only[Bool.or_eq_true,Bool.and_eq_true,List.contains_eq_mem,decide_eq_true_eq]at this;rcases this with h2|h2
        ·exact hkT h2.2
        ·omega
       show(amongH hh L [] q.2.2)[k]? =_;have hx:hh[k]? =some hh[k]:=List.getElem?_eq_getElem (by omega)
       rw[among_get hx hkL,Box.kill_nil,hx]
      ·rw[hq]at hqf;have hlt:=(reachOK_spec hL).lt;refine⟨(quiet_among (M:=[]) [] rfl (by simpa using hqf) hlt).2.2,fun l hl=> ?_⟩
       obtain⟨e1,e2,_⟩:=quiet_among l (hl []) (by simpa using hqf) hlt
       obtain⟨s1,s2⟩:=reachOK_app l hL;have hB:=HCall.among (h:=hh++l) s1 (by rw[s2];exact hcall.none hp)
       rw[List.map_nil,e1,e2]at hB;have:=gives_callV hop hy (sigP_some hsig) hB;rw[get_h t hh []]at this;exact SStep.of_gives (by simp[okM]) this
      ·cases hk
     ·rename_i p hp;cases hk;have hA:=XCall.amongP hL (hcall.some hp);rw[List.map_nil]at hA;refine⟨fun h=>(by cases h),fun p' hp'=> ?_⟩
      cases hp';intro t2 he a w K Q hs hQ;have hc3:callOf P (VSt.get ⟨t2,hh⟩) o=some (f,vs):=by
       have e:restr o (VSt.get ⟨t2,hh⟩)=restr o (VSt.get ⟨t,hh⟩):=by rw[<-get_h t2 [] hh,<-get_h t [] hh];exact he
       rw[<-hc2,<-e];exact callOf_congr fun y hy=>(restr_at (fun f=>rfl) hy).symm
      obtain⟨y,args,tys,hop,hy⟩:=callOf_some hc3 (fun f=>rfl)
      exact pan_call (s:=⟨t2,hh⟩) hop hy (sigP_some hsig) hA (by simp[okM]) hs fun e a' w' h=>hQ e a' w' ⟨_,h⟩
    ·cases hk
   ·cases hk
  ·split at hk
   ·cases hk
   ·obtain⟨x,q1,hk⟩:=run_bind_some hE hk;cases hk;exact⟨fun _=>⟨pinXT_sound hE hG q1,hpw,hl0,fun _ _ _=>rfl,fun h=>by cases h⟩,fun p h=>by cases h⟩
 ·cases hk
def calmX_kill {Z:List Nat}{x:Box}(hM: ∀b∈M,b∈Z)(h:calmX Z x=true):x.kill M=x:=by
 cases x with
 |cells k vs=>
  show Box.cells k (vs.map (V.kill M))=_;congr 1
  conv=>rhs;rw[<-List.map_id vs]
  exact List.map_congr_left fun v hv=>calm_kill hM (List.all_eq_true.1 h v hv)
 |_=>rfl
def calm0_kill {x:Box}(h:calm0 x=true)(M:List Nat):x.kill M=x:=by
 cases x with
 |cells k vs=>
  show Box.cells k (vs.map (V.kill M))=_;congr 1
  conv=>rhs;rw[<-List.map_id vs]
  refine List.map_congr_left fun v hv=> ?_
  have:=List.all_eq_true.1 h v hv;cases v<;>first|rfl|(simp at this;done)
 |_=>rfl
def callMT_sound (hE:E.Ok){ent:Callee->List V->List Box->Tree (List Nat × V × List Box)}(hent:EntGood P E ent){r:List Nat × List Box × V}{qf:Bool}{Tk:List Nat}(hpw:PreW W h0 hh)(hl0:h0.length<=hh.length)(hk:(callMT P C ent qf W Z Tk h0 t hh o).run E=some r)(hM:okM En.g.n En.M r.1=true)(hZ: ∀b∈r.1,b∈Z):
  SStep P En o t hh r.1 r.2.2 r.2.1/\PreW W h0 r.2.1/\h0.length<=r.2.1.length/\((∀b∈r.1,b∈Tk)/\ ∀k,k < h0.length->k ∉ Tk->r.2.1[k]? =hh[k]?)/\(qf=true->r.2.1.length=hh.length/\(∀b∈r.1,b < hh.length)/\ ∀l,(∀M,l.map (Box.kill M)=l)->SStep P En o t (hh++l) r.1 r.2.2 (r.2.1++l)):=by
 unfold callMT at hk;split at hk
 ·rename_i f vs hc;split at hk
  ·rename_i hi hsig;rw[forceSp_eq]at hk;generalize reachV hh [] vs=L at hk;split at hk
   ·rename_i hL;simp only[Bool.and_eq_true]at hL;obtain⟨⟨hL,hW⟩,hC⟩:=hL;obtain⟨q,h1,hk⟩:=run_bind_some hE hk;split at hk
    ·rename_i hp;split at hk;rename_i hqf;rw[forceSp_eq]at hk;split at hk;rename_i hMk;cases hk;simp only[Bool.and_eq_true]at hMk;have hcall:=hent.1 _ _ _ _ h1;have hc2:callOf P (restr o (VSt.get ⟨t,hh⟩)) o=some (f,vs):=by
      rw[<-hc];exact callOf_congr fun y hy=>restr_at (fun f=>rfl) hy
     have hA:=HCall.among hL (hcall.none hp);obtain⟨y,args,tys,hop,hy⟩:=callOf_some hc2 (restr_func o _);refine⟨?_,fun k x hkW hx=> ?_,?_,⟨fun b hb=>by simpa using List.all_eq_true.1 hMk.1 b hb,fun k hk0 hkT=> ?_⟩,fun hq=> ?_⟩
     ·have:=gives_callV hop hy (sigP_some hsig) hA;rw[get_h t hh []]at this;exact SStep.of_gives hM this
     ·have hlt:=(List.getElem?_eq_some_iff.1 hx).1;have hkL:k ∉ L:=fun hm=>by
       have:=List.all_eq_true.1 hW k hm;simp only[Bool.or_eq_true,Bool.and_eq_true,List.contains_eq_mem,decide_eq_true_eq]at this;rcases this with h2|h2
       ·exact hkW h2.1
       ·omega
      have hcx:calmX Z x=true:=by
       have hm:(x,k)∈h0.zipIdx:=List.mem_zipIdx_iff_getElem?.2 hx;have:=List.all_eq_true.1 hC _ hm;simp only[Bool.or_eq_true,List.contains_eq_mem,decide_eq_true_eq]at this;exact this.resolve_left hkW
      show(amongH hh L _ q.2.2)[k]? =some x;rw[among_get (hpw k x hkW hx) hkL,calmX_kill hZ hcx]
     ·show h0.length<=(amongH hh L _ q.2.2).length;unfold amongH;simp only[List.length_append,List.length_map,List.length_zipIdx];omega
     ·have hkL:k ∉ L:=fun hm=>by
       have:=List.all_eq_true.1 hW k hm;simp only[Bool.or_eq_true,Bool.and_eq_true,List.contains_eq_mem,decide_eq_true_eq]at this;rcases this with h2|h2
       ·exact hkT h2.2
       ·omega
      have hlt:k < hh.length:=by omega
      have hx:=List.getElem?_eq_getElem hlt;have hm:(hh[k],k)∈(hh.take h0.length).zipIdx:=List.mem_zipIdx_iff_getElem?.2 (by rw[List.getElem?_take,if_pos hk0];exact hx)
      have hcx:=List.all_eq_true.1 hMk.2 _ hm;simp only[Bool.or_eq_true,List.contains_eq_mem,decide_eq_true_eq]at hcx;have hcx:=hcx.resolve_left hkT;show(amongH hh L _ q.2.2)[k]? =_;rw[among_get hx hkL,calmX_kill (fun b hb=>hb) hcx,hx]
     ·rw[hq]at hqf;simp only[Bool.not_true,Bool.false_or,Bool.and_eq_true]at hqf;have hlt:=(reachOK_spec hL).lt;refine⟨(quiet_among (M:=q.1.map (ext L hh.length)) [] rfl hqf.1 hlt).2.2,fun b hb=> ?_,fun l hl=> ?_⟩
      ·obtain⟨i,hi,rfl⟩:=List.mem_map.1 hb;have hil:i < L.length:=by simpa using List.all_eq_true.1 hqf.2 i hi
       have e:ext L hh.length i=L[i]:=by unfold ext;simp[hil]
       rw[e];exact hlt _ (List.getElem_mem hil)
      obtain⟨e1,e2,_⟩:=quiet_among l (hl (q.1.map (ext L hh.length))) hqf.1 hlt;obtain⟨s1,s2⟩:=reachOK_app l hL;have hB:=HCall.among (h:=hh++l) s1 (by rw[s2];exact hcall.none hp)
      have eM:q.1.map (ext L (hh++l).length)=q.1.map (ext L hh.length):=List.map_congr_left fun b hb=>ext_low (L:=L) (hh++l).length hh.length b (by simpa using List.all_eq_true.1 hqf.2 b hb)
      rw[eM,e1,e2]at hB;have:=gives_callV hop hy (sigP_some hsig) hB;rw[get_h t hh []]at this;exact SStep.of_gives hM this
     ·cases hk
     ·cases hk
    ·cases hk
   ·cases hk
  ·cases hk
 ·cases hk
def hideB_len: ∀ {W:List Nat} {h:List Box},(hideB h W).length=h.length
 | [],_=>rfl
 |b::W,h=>by show(hideB (h.set b .gone) W).length=_;rw[hideB_len,List.length_set]
def pre3T_lex {Ts:List (List Nat)}(hT:T=fun k=>Ts.getD k [])(hE:E.Ok)(hG:EnvGood P E){ent:Callee->List V->List Box->Tree (List Nat × V × List Box)}(hent:EntGood P E ent){r:Option V × List V × List Box}: ∀ {os:List Oper} {k:Nat} {t:List V} {hh:List Box},PreW W h0 hh->h0.length<=hh.length->(pre3T sy P C ent ops W Z Ts h0 En.g.n En.M k os t hh).run E=some r->vLex3 P C En ops W Z T h0 (fun t hh=>(none,t,hh)=r) (fun p hh=>r.1=some p/\r.2.2=hh) k os t hh
 | [],_,_,_,_,_,hk=>by cases hk;rfl
 |o::os,k,t,hh,hpw,hl0,hk=>by
  unfold pre3T at hk;rcases guardT_run hk with⟨hw,hk⟩|⟨hw,hk⟩
  ·split at hk
   ·rename_i hbig;split at hk
    ·rename_i hct;obtain⟨r1,q1,hk⟩:=run_bind_some hE hk;have hmk:mkI o=false:=by
      unfold mkI;unfold isCallT at hct;split<;>simp_all
     obtain⟨kn,kp⟩:=callBT_sound (En:=En) hE hG hent hpw hl0 q1;have hTk:Ts.getD k []=T k:=by rw[hT]
     rw[hTk]at kn;obtain⟨p1,r1⟩:=r1;cases p1 with
     |some p=>
      simp only at hk;split at hk
      ·rename_i hlate;cases hk;exact .inr ⟨p,r1.1,⟨hw,hbig,hmk,hlate,kp p rfl⟩,rfl,rfl⟩
      ·cases hk
     |none=>
     simp only at hk;rw[forceL_eq,forceH_eq]at hk;obtain⟨k1,k2,k3,k4,k5⟩:=kn rfl;exact .inl ⟨r1.2,_,r1.1,⟨.big hh r1.1 [],⟨hw,hbig,fun b hb=>by simp at hb,hpw,k2,k1,hl0,(fun hm=>by rw[hmk]at hm;cases hm),fun _=>⟨fun _=>rfl,fun b hb=>by simp at hb,k4⟩,fun _ hq=>⟨(k5 hq).1,fun b hb=>by simp at hb,(k5 hq).2⟩,fun ha=>by rw[(isAl_mk (C:=C) ha).1]at hmk;cases hmk⟩,rfl,rfl,rfl⟩,pre3T_lex hT hE hG hent k2 k3 hk⟩
    rename_i hnc;split at hk
    ·rename_i hcm;obtain⟨r1,q1,hk⟩:=run_bind_some hE hk;split at hk
     ·rename_i hc;simp only[Bool.and_eq_true]at hc;obtain⟨c1,c2⟩:=hc;rw[forceL_eq,forceH_eq]at hk;have hZ: ∀b∈r1.1,b∈Z:=fun b hb=>by have:=List.all_eq_true.1 c2 b hb;simpa using this
      obtain⟨k1,k2,k3,k5,k4⟩:=callMT_sound (En:=En) hE hent hpw hl0 q1 c1 hZ;have hTk:Ts.getD k []=T k:=by rw[hT]
      rw[hTk]at k5;have hmk:mkI o=false:=by
       unfold mkI;unfold isCallM at hcm;split<;>simp_all
      exact .inl ⟨r1.2.2,_,r1.2.1,⟨.big hh r1.2.1 r1.1,⟨hw,hbig,hZ,hpw,k2,k1,hl0,(fun hm=>by rw[hmk]at hm;cases hm),(fun _=>⟨fun hct=>(by rw[hnc]at hct;cases hct),k5.1,k5.2⟩),(fun _ hq=>k4 hq),fun ha=>by rw[(isAl_mk (C:=C) ha).1]at hmk;cases hmk⟩,rfl,rfl,rfl⟩,pre3T_lex hT hE hG hent k2 k3 hk⟩
     ·cases hk
    rename_i hncm;obtain⟨r1,q1,hk⟩:=run_bind_some hE hk;split at hk
    ·rename_i hc;simp only[Bool.and_eq_true]at hc;obtain⟨⟨⟨c1,c2⟩,c3⟩,c4⟩:=hc;rw[forceL_eq,forceH_eq]at hk;have hg:=bigT_sound (ρ2:=restr o (VSt.get ⟨t,hh⟩)) hE (fun y hy=>(restr_at (fun f=>rfl) hy).symm) q1
     have hp2:=bigT_pre hE q1 c3 hpw;rw[get_h t hh []]at hg;exact .inl ⟨r1.2.2,_,r1.2.1,⟨.big hh r1.2.1 r1.1,⟨hw,hbig,fun b hb=>by have:=List.all_eq_true.1 c2 b hb;simpa using this,hpw,hp2,SStep.of_gives c1 hg,hl0,(fun hm=>bigT_mk hE q1 hm),(fun hct=>by rw[hnc,hncm]at hct;cases hct),(fun hct=>by rw[hnc,hncm]at hct;cases hct),fun ha=>by
      obtain⟨l,e1,e2⟩:=bigT_al (En:=En) hE q1 ha;rw[ha]at c4;unfold alCalm at c4;simp only[Bool.not_true,Bool.false_or,Bool.and_eq_true]at c4;rw[e1,List.drop_left]at c4;refine⟨l,e1,fun M=> ?_,fun M hM=> ?_,e2⟩
      ·conv=>rhs;rw[<-List.map_id l]
       exact List.map_congr_left fun x hx=>calm0_kill (List.all_eq_true.1 c4.1 x hx) M
      ·have c5:=c4.2;split at c5
       ·rename_i b off hx;rw[hx];have hc:(!M.contains b)=true:=by
         have hb:=of_decide_eq_true c5;simp only[Bool.not_eq_true',List.contains_eq_mem,decide_eq_false_iff_not];exact fun hm=>by have:=hM b hm;omega
        show(bif !M.contains b then V.ptr b off else .any)=_;rw[hc];rfl
       ·cases c5⟩,rfl,rfl,rfl⟩,pre3T_lex hT hE hG hent hp2 (Nat.le_trans hl0 (bigT_len hE q1)) hk⟩
    ·cases hk
   ·split at hk
    ·rename_i hpin;obtain⟨x,q1,hk⟩:=run_bind_some hE hk;rw[forceL_eq]at hk;exact .inl ⟨x,_,hh,⟨.pin hh,⟨hw,hpin,pinXT_sound hE hG q1⟩,rfl,rfl,rfl⟩,pre3T_lex hT hE hG hent hpw hl0 hk⟩
    ·rename_i hmid;obtain⟨x,q1,hk⟩:=run_bind_some hE hk;split at hk;rename_i hmc;rw[forceL_eq]at hk;have q2:=opXT_sound hE hG (fun f=>rfl) q1
     refine .inl ⟨x,_,hh,⟨.mid (hideB (hh.take h0.length) (midW C ops Ts k o)),⟨hw,hmid,by rw[hideB_len];simp;omega,fun j oj hj s1 s2=> ?_,q2⟩,fun b y hy=>(hideB_at hy).imp id fun h1=>(by
      have hy:=h1.2;rw[List.getElem?_take]at hy;split at hy
      ·exact hy
      ·cases hy),rfl,rfl⟩,pre3T_lex hT hE hG hent hpw hl0 hk⟩
     cases e1:edgeR ops 5 oj k with
     |true=>exact .inl rfl
     |false=>cases e2:edgeR ops 5 o j with
      |true=>exact .inr (.inl rfl)
      |false=>
       have hjr:j∈List.range ops.size:=List.mem_range.2 (Array.getElem?_eq_some_iff.1 hj).1;refine .inr (.inr ⟨fun b hb y hy=>(hideB_at hy).resolve_right fun h1=>h1.1 ?_,fun hm=> ?_⟩)
       ·refine List.mem_flatMap.2 ⟨j,hjr,?_⟩;rw[hT]at hb;simp only[hj,s1,s2,e1,e2];exact hb
       ·have:=List.all_eq_true.1 hmc j hjr;simp only[hj,s1,hm,e1,e2,Bool.not_true,Bool.not_false,Bool.and_self,Bool.false_or,Bool.and_eq_true]at this;rw[hT];exact⟨this.1,fun y hy=>List.all_eq_true.1 this.2 y hy⟩
     ·cases hk
    ·obtain⟨x,q1,hk⟩:=run_bind_some hE hk;split at hk
     ·rename_i hc;rw[forceL_eq]at hk;exact .inl ⟨x,_,hh,⟨.late,⟨hw,calmO_spec hc,fun h2 hp=>opXT_sound hE hG (fun f=>rfl) q1 h2 hp.pre⟩,hpw,rfl,rfl⟩,pre3T_lex hT hE hG hent hpw hl0 hk⟩
     ·cases hk
  ·rw[forceL_eq]at hk;exact .inl ⟨.tup [],_,hh,⟨.no,⟨hw,rfl⟩,trivial,rfl,rfl⟩,pre3T_lex hT hE hG hent hpw hl0 hk⟩
def drawT1_sound (hnd: ∀(i:Nat) o,ops[i]? =some o->noDef o=true){ro:Option Nat}(hE:E.Ok)(hG:EnvGood P E){ent:Callee->List V->List Box->Tree (List Nat × V × List Box)}(hent:EntGood P E ent){En:Ent}{id:Nat}{Q:Exit->Act->World->Prop}{s:VSt}{q:Option V × VSt}{a:Act}{w:World}(hm:P.follows .mixedOrders=true)
  (hk:(drawT1 sy P C ent En.g.n En.M ops s).run E=some q) (hs:SimE En s a w) (hq: ∀e a' w',OpRX En q e a' w'->Q e a' w'):(Code.region id ops true).wpIn (Fw ro) 0 P Q a w:=by
 unfold drawT1 at hk;split at hk
 ·rename_i hB;rw[forceS_eq,forceSp_eq,forceSp_eq,forceSp_eq]at hk;have hs:SimE En (iceT P C ops s) a w:=hs.frzs;generalize iceT P C ops s=s at hk hs;obtain⟨r,h1,hk⟩:=run_bind_some hE hk;cases hk;simp only[drawOK3,Bool.and_eq_true]at hB;have hlex:=pre3T_lex rfl hE hG hent (fun b x _ h=>h) (Nat.le_refl _) h1
  have hany:=vAny3_lex hB.2.1.2 ops.toList 0 (Array.replicate ops.size false) s.t s.h (fun k ok hok hk=>by have hlt:=(Array.getElem?_eq_some_iff.1 hok).1;simp[Array.getElem?_replicate,hlt]at hk) (fun j hj=>by omega) (fun j=>by simp) (by simpa using hB.2.2) hlex
  refine wpIn_region_any hm ?_;have:=vAny3_sound (ro:=ro) (Q:=Q) (En:=En) hnd (fun t hh a w hk' hs=>by subst hk';exact hq .normal a w ⟨rfl,hs⟩) (fun p hh e a w hk' hp=>hq e a w (by obtain⟨h1,h2⟩:=hk';subst h2;unfold OpRX;simp only[h1];exact hp)) ops.toList.length _ s.t s.h a w.drew hany hs.drew
  simpa using this
 ·exact drawT0_sound hnd hE hG hent hm hk hs hq
def drawT_sound {ro:Option Nat}(hE:E.Ok)(hG:EnvGood P E){ent:Callee->List V->List Box->Tree (List Nat × V × List Box)}(hent:EntGood P E ent){En:Ent}{id:Nat}{Q:Exit->Act->World->Prop}{s:VSt}{q:Option V × VSt}{a:Act}{w:World}(hm:P.follows .mixedOrders=true)
  (hk:(drawT sy P C ent En.g.n En.M ops s).run E=some q) (hs:SimE En s a w) (hq: ∀e a' w',OpRX En q e a' w'->Q e a' w'):(Code.region id ops true).wpIn (Fw ro) 0 P Q a w:=by
 unfold drawT at hk;split at hk
 ·rename_i hd;exact drawT1_sound (fun i o ho=>List.all_eq_true.1 hd o (by rw[<-Array.getElem?_toList]at ho;exact List.mem_of_getElem? ho)) hE hG hent hm hk hs hq
 ·cases hk
end
end Go.Vm
end
