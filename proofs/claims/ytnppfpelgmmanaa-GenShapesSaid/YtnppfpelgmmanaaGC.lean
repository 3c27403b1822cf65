/- Part GC of the proof. What is proved by the whole: the statement that the claim names, with no condition. -/
import Derived.Test.YtnppfpelgmmanaaGB
import Derived.Deep.LoopGhost
import Derived.Lib.Bytealg
import Derived.Laws.Externs
set_option linter.all false
section
namespace Go.Vm
inductive Tree:Type→Type 1 where
 |ret {α:Type} (a:α):Tree α
 |fail {α:Type}:Tree α
 |ite {α:Type} (c:Bool) (x y:Tree α):Tree α
 |cI {α:Type} (v:Option D) (k:IntKind) (K:Int→Tree α):Tree α
 |cB {α:Type} (v:Option D) (K:Bool→Tree α):Tree α
 |cS {α:Type} (v:Option D) (K:ByteArray→Tree α):Tree α
 |cL {α:Type} (v:Option D) (sz:Nat) (K:List (List D)→Tree α):Tree α
 |call {α:Type} (f:FuncId) (args:List V) (K:List D→Tree α):Tree α
 |mint {α:Type} (f:FuncId) (args:List V) (e:TypeId) (sz:Nat) (K:List (List D)→Tree α):Tree α
 |loop {α:Type} (body:List D→Tree (List D ⊕ α)) (ds:List D):Tree α
 |cut {α:Type} (x:Tree (List D ⊕ α)) (K:List D→Tree α):Tree α
def Tree.map: {α:Type}→Tree α→ {β:Type}→(α→β)→Tree β
 |_, .ret a,_,f=> .ret (f a)
 |_, .fail,_,_=> .fail
 |_, .ite c x y,_,f=> .ite c (x.map f) (y.map f)
 |_, .cI v k K,_,f=> .cI v k fun n=>(K n).map f
 |_, .cB v K,_,f=> .cB v fun n=>(K n).map f
 |_, .cS v K,_,f=> .cS v fun n=>(K n).map f
 |_, .cL v sz K,_,f=> .cL v sz fun n=>(K n).map f
 |_, .call g args K,_,f=> .call g args fun n=>(K n).map f
 |_, .mint g args e sz K,_,f=> .mint g args e sz fun n=>(K n).map f
 |_, .loop body ds,_,f=> .loop (fun ds=>(body ds).map fun s=>match s with
  | .inl d=> .inl d
  | .inr a=> .inr (f a)) ds
 |_, .cut x K,_,f=> .cut (x.map fun s=>match s with
  | .inl d=> .inl d
  | .inr a=> .inr (f a)) fun ds=>(K ds).map f
def Tree.bind: {α:Type}→Tree α→ {β:Type}→(α→Tree β)→Tree β
 |_, .ret a,_,f=>f a
 |_, .fail,_,_=> .fail
 |_, .ite c x y,_,f=> .ite c (x.bind f) (y.bind f)
 |_, .cI v k K,_,f=> .cI v k fun n=>(K n).bind f
 |_, .cB v K,_,f=> .cB v fun n=>(K n).bind f
 |_, .cS v K,_,f=> .cS v fun n=>(K n).bind f
 |_, .cL v sz K,_,f=> .cL v sz fun n=>(K n).bind f
 |_, .call g args K,_,f=> .call g args fun n=>(K n).bind f
 |_, .mint g args e sz K,_,f=> .mint g args e sz fun n=>(K n).bind f
 |_, .loop body ds,_,f=> .loop (fun ds=>(body ds).bind fun s=>match s with
  | .inl d=> .ret (.inl d)
  | .inr a=>(f a).map .inr) ds
 |_, .cut x K,_,f=> .cut (x.bind fun s=>match s with
  | .inl d=> .ret (.inl d)
  | .inr a=>(f a).map .inr) fun ds=>(K ds).bind f
def chk {α:Type}(c:Bool)(x:Tree α):Tree α:= .ite c x .fail
inductive PRes where
 |val (ds:List D)
 |own (e:TypeId) (sz:Nat) (rows:List (List D))
def PRes.leaves:PRes→List D
 | .val ds=>ds
 | .own _ sz rows=>[.sl sz rows]
structure Env where
 call:FuncId→List V→Option PRes
 lp: {α:Type}→(List D→Option (List D ⊕ α))→List D→Option α
def opI (v:Option D)(k:IntKind):Option Int:=match v with
 |some (.int k' n)=>match decide (k'=k)with
  |true=>some n
  |false=>none
 |_=>none
def opB (v:Option D):Option Bool:=match v with
 |some (.bool b)=>some b
 |_=>none
def opS (v:Option D):Option ByteArray:=match v with
 |some (.str b)=>some b
 |_=>none
def opL (v:Option D)(sz:Nat):Option (List (List D)):=match v with
 |some (.sl sz' rows)=>match decide (sz'=sz)with
  |true=>some rows
  |false=>none
 |_=>none
def opM (p:Option PRes)(e:TypeId)(sz:Nat):Option (List (List D)):=match p with
 |some (.own e' sz' rows)=>match decide (e'=e∧sz'=sz)with
  |true=>some rows
  |false=>none
 |_=>none
def Tree.run (E:Env): {α:Type}→Tree α→Option α
 |_, .ret a=>some a
 |_, .fail=>none
 |_, .ite c x y=>match c with
  |true=>x.run E
  |false=>y.run E
 |_, .cI v k K=>(opI v k).bind fun n=>(K n).run E
 |_, .cB v K=>(opB v).bind fun n=>(K n).run E
 |_, .cS v K=>(opS v).bind fun n=>(K n).run E
 |_, .cL v sz K=>(opL v sz).bind fun n=>(K n).run E
 |_, .call f args K=>(E.call f args).bind fun p=>(K p.leaves).run E
 |_, .mint f args e sz K=>(opM (E.call f args) e sz).bind fun rows=>(K rows).run E
 |_, .loop body ds=>E.lp (fun ds=>(body ds).run E) ds
 |_, .cut x K=>(x.run E).bind fun s=>match s with
  | .inl ds=>(K ds).run E
  | .inr a=>some a
theorem opI_some {v:Option D}{k:IntKind}{n:Int}(h:opI v k=some n):v=some (.int k n):=by
 unfold opI at h
 split at h
 ·split at h
  ·rename_i hd;have:=of_decide_eq_true hd;subst this;cases h;rfl
  ·cases h
 ·cases h
theorem opB_some {v:Option D}{n:Bool}(h:opB v=some n):v=some (.bool n):=by
 unfold opB at h
 split at h<;>cases h;rfl
theorem opS_some {v:Option D}{n:ByteArray}(h:opS v=some n):v=some (.str n):=by
 unfold opS at h
 split at h<;>cases h;rfl
theorem opL_some {v:Option D}{sz:Nat}{n:List (List D)}(h:opL v sz=some n):v=some (.sl sz n):=by
 unfold opL at h
 split at h
 ·split at h
  ·rename_i hd;have:=of_decide_eq_true hd;subst this;cases h;rfl
  ·cases h
 ·cases h
theorem opM_some {p:Option PRes}{e:TypeId}{sz:Nat}{rows:List (List D)}(h:opM p e sz=some rows):p=some (.own e sz rows):=by
 unfold opM at h
 split at h
 ·split at h
  ·rename_i hd;obtain⟨rfl,rfl⟩:=of_decide_eq_true hd;cases h;rfl
  ·cases h
 ·cases h
def Env.Ok (E:Env):Prop:= ∀ {α β:Type} (b:List D→Option (List D ⊕ α)) (f:α→Option β) (ds:List D),
 E.lp (fun ds=>(b ds).bind fun s=>match s with
  | .inl d=>some (.inl d)
  | .inr a=>(f a).map .inr) ds=(E.lp b ds).bind f
theorem run_map {E:Env}(hE:E.Ok): ∀ {α:Type} (t:Tree α) {β:Type} (f:α→β),(t.map f).run E=(t.run E).map f:=by
 intro α t
 induction t with
 |ret a=>intro β f;rfl
 |fail=>intro β f;rfl
 |ite c x y ihx ihy=>intro β f;cases c<;>simp only [Tree.map,Tree.run,ihx,ihy]
 |cI v k K ih=>intro β f;simp only [Tree.map,Tree.run];cases opI v k<;>simp [ih]
 |cB v K ih=>intro β f;simp only [Tree.map,Tree.run];cases opB v<;>simp [ih]
 |cS v K ih=>intro β f;simp only [Tree.map,Tree.run];cases opS v<;>simp [ih]
 |cL v sz K ih=>intro β f;simp only [Tree.map,Tree.run];cases opL v sz<;>simp [ih]
 |call g args K ih=>intro β f;simp only [Tree.map,Tree.run];cases E.call g args<;>simp [ih]
 |mint g args e sz K ih=>intro β f;simp only [Tree.map,Tree.run];cases opM (E.call g args) e sz<;>simp [ih]
 |loop body ds ih=>
  intro β f
  simp only [Tree.map,Tree.run,ih]
  rw[Option.map_eq_bind,←hE]
  congr 1
  funext ds
  cases(body ds).run E with
  |none=>rfl
  |some s=>cases s<;>rfl
 |cut x K ihx ihK=>
  intro β f
  simp only [Tree.map,Tree.run,ihx,ihK]
  cases x.run E with
  |none=>rfl
  |some s=>cases s<;>rfl
theorem run_bind {E:Env}(hE:E.Ok): ∀ {α:Type} (t:Tree α) {β:Type} (f:α→Tree β),(t.bind f).run E=(t.run E).bind fun a=>(f a).run E:=by
 intro α t
 induction t with
 |ret a=>intro β f;rfl
 |fail=>intro β f;rfl
 |ite c x y ihx ihy=>intro β f;cases c<;>simp only [Tree.bind,Tree.run,ihx,ihy]
 |cI v k K ih=>intro β f;simp only [Tree.bind,Tree.run];cases opI v k<;>simp [ih]
 |cB v K ih=>intro β f;simp only [Tree.bind,Tree.run];cases opB v<;>simp [ih]
 |cS v K ih=>intro β f;simp only [Tree.bind,Tree.run];cases opS v<;>simp [ih]
 |cL v sz K ih=>intro β f;simp only [Tree.bind,Tree.run];cases opL v sz<;>simp [ih]
 |call g args K ih=>intro β f;simp only [Tree.bind,Tree.run];cases E.call g args<;>simp [ih]
 |mint g args e sz K ih=>intro β f;simp only [Tree.bind,Tree.run];cases opM (E.call g args) e sz<;>simp [ih]
 |loop body ds ih=>
  intro β f
  simp only [Tree.bind,Tree.run,ih]
  rw[←hE]
  congr 1
  funext ds
  cases(body ds).run E with
  |none=>rfl
  |some s=>cases s with
   |inl d=>rfl
   |inr a=>simp only [Option.bind_some,run_map hE]
 |cut x K ihx ihK=>
  intro β f
  simp only [Tree.bind,Tree.run,ihx,ihK]
  cases x.run E with
  |none=>rfl
  |some s=>cases s with
   |inl d=>rfl
   |inr a=>simp only [Option.bind_some,run_map hE];cases(f a).run E<;>rfl
theorem run_bind_some {E:Env}(hE:E.Ok){α β:Type}{t:Tree α}{f:α→Tree β}{b:β}(h:(t.bind f).run E=some b): ∃a,t.run E=some a∧(f a).run E=some b:=by
 rw[run_bind hE]at h
 cases ht:t.run E with
 |none=>rw[ht]at h;cases h
 |some a=>rw[ht]at h;exact⟨a,rfl,h⟩
theorem chk_some {E:Env}{α:Type}{c:Bool}{x:Tree α}{a:α}(h:(chk c x).run E=some a):c=true∧x.run E=some a:=by
 cases c with
 |true=>exact⟨rfl,h⟩
 |false=>cases h
def iterN {α:Type}:Nat→(List D→Option (List D ⊕ α))→List D→Option α
 |0,_,_=>none
 |n+1,b,ds=>match b ds with
  |some (.inl d)=>iterN n b d
  |some (.inr a)=>some a
  |none=>none
theorem iterN_bind {α β:Type}(f:α→Option β)(b:List D→Option (List D ⊕ α)): ∀(n:Nat) (ds:List D),iterN n (fun ds=>(b ds).bind fun s=>match s with
  | .inl d=>some (.inl d)
  | .inr a=>(f a).map .inr) ds=(iterN n b ds).bind f
 |0,ds=>rfl
 |n+1,ds=>by
  simp only [iterN]
  cases b ds with
  |none=>rfl
  |some s=>cases s with
   |inl d=>exact iterN_bind f b n d
   |inr a=>simp only [Option.bind_some];cases f a<;>rfl
def envN (n:Nat)(c:FuncId→List V→Option PRes):Env:=⟨c,fun b ds=>iterN n b ds⟩
theorem envN_ok (n:Nat)(c:FuncId→List V→Option PRes):(envN n c).Ok:=fun b f ds=>iterN_bind f b n ds
theorem iterN_mono {α:Type}{b:List D→Option (List D ⊕ α)}{a:α}: ∀ {n:Nat} {ds:List D},iterN n b ds=some a→ ∀ {m:Nat},n≤m→iterN m b ds=some a
 |0,_,h,_,_=>by cases h
 |n+1,ds,h,m,hm=>by
  obtain⟨m,rfl⟩: ∃k,m=k+1:=⟨m - 1,by omega⟩
  simp only [iterN]at h ⊢
  cases hb:b ds with
  |none=>rw[hb]at h;cases h
  |some s=>rw[hb]at h;cases s with
   |inl d=>exact iterN_mono h (by omega)
   |inr a'=>exact h
open Classical in
noncomputable def loopF {α:Type} (b:List D→Option (List D ⊕ α)) (ds:List D):Option α:=
 if h: ∃a n,iterN n b ds=some a then some (Classical.choose h)else none
theorem loopF_some {α:Type}{b:List D→Option (List D ⊕ α)}{ds:List D}{a:α}:loopF b ds=some a↔ ∃n,iterN n b ds=some a:=by
 unfold loopF
 constructor
 ·intro h
  split at h
  ·rename_i hx
   cases h
   exact Classical.choose_spec hx
  ·cases h
 ·rintro⟨n,h⟩
  have hx: ∃a n,iterN n b ds=some a:=⟨a,n,h⟩
  rw[dif_pos hx]
  obtain⟨m,hm⟩:=Classical.choose_spec hx
  have h1:=iterN_mono h (Nat.le_max_left n m)
  have h2:=iterN_mono hm (Nat.le_max_right n m)
  rw[h1]at h2
  exact h2.symm
theorem loopF_eq {α:Type}(b:List D→Option (List D ⊕ α))(ds:List D):loopF b ds=match b ds with
  |some (.inl d)=>loopF b d
  |some (.inr a)=>some a
  |none=>none:=by
 apply Option.ext
 intro a
 rw[loopF_some]
 constructor
 ·rintro⟨n,h⟩
  cases n with
  |zero=>cases h
  |succ n=>
   simp only [iterN]at h
   cases hb:b ds with
   |none=>rw[hb]at h;cases h
   |some s=>rw[hb]at h;cases s with
    |inl d=>exact loopF_some.2 ⟨n,h⟩
    |inr a'=>exact h
 ·intro h
  cases hb:b ds with
  |none=>rw[hb]at h;cases h
  |some s=>rw[hb]at h;cases s with
   |inl d=>
    obtain⟨n,hn⟩:=loopF_some.1 h
    exact⟨n+1,by simp only [iterN,hb];exact hn⟩
   |inr a'=>exact⟨1,by simp only [iterN,hb];exact h⟩
theorem loopF_at {σ α:Type}{b:List D→Option (List D ⊕ α)}{r:α}(mk:σ→List D)(I:σ→Prop)(μ:σ→Nat)
  (h: ∀x,I x→(∃y,b (mk x)=some (.inl (mk y))∧I y∧μ y < μ x)∨b (mk x)=some (.inr r)) (x:σ) (h0:I x):loopF b (mk x)=some r:=by
 suffices ∀n x,μ x < n→I x→loopF b (mk x)=some r from this _ x (Nat.lt_succ_self _) h0
 intro n
 induction n with
 |zero=>intro x h;omega
 |succ n ih=>
  intro x hlt hi
  rw[loopF_eq]
  rcases h x hi with⟨d,h1,h2,h3⟩|h1
  ·rw[h1];exact ih d (by omega) h2
  ·rw[h1]
def Evl {α:Type}(f:Nat→Nat→Option α)(a:α):Prop:= ∃N,∀n m,N≤n→N≤m→f n m=some a
noncomputable def envF (c:FuncId→List V→Option PRes):Env:=⟨c,fun b ds=>loopF b ds⟩
theorem run_evl {cF:FuncId→List V→Option PRes}{cN:Nat→FuncId→List V→Option PRes}(hc: ∀f args p,cF f args=some p→ ∃N,∀n,N≤n→cN n f args=some p):
  ∀ {α:Type} (t:Tree α) (a:α),t.run (envF cF)=some a→Evl (fun n m=>t.run (envN m (cN n))) a:=by
 intro α t
 induction t with
 |ret a=>intro b h;exact⟨0,fun _ _ _ _=>h⟩
 |fail=>intro b h;cases h
 |ite c x y ihx ihy=>
  intro b h
  cases c with
  |true=>exact ihx b h
  |false=>exact ihy b h
 |cI v k K ih=>
  intro b h
  simp only [Tree.run]at h ⊢
  obtain⟨n,h1,h2⟩:=Option.bind_eq_some_iff.1 h
  simp only [h1,Option.bind_some];exact ih n b h2
 |cB v K ih=>
  intro b h
  simp only [Tree.run]at h ⊢
  obtain⟨n,h1,h2⟩:=Option.bind_eq_some_iff.1 h
  simp only [h1,Option.bind_some];exact ih n b h2
 |cS v K ih=>
  intro b h
  simp only [Tree.run]at h ⊢
  obtain⟨n,h1,h2⟩:=Option.bind_eq_some_iff.1 h
  simp only [h1,Option.bind_some];exact ih n b h2
 |cL v sz K ih=>
  intro b h
  simp only [Tree.run]at h ⊢
  obtain⟨n,h1,h2⟩:=Option.bind_eq_some_iff.1 h
  simp only [h1,Option.bind_some];exact ih n b h2
 |call g args K ih=>
  intro b h
  simp only [Tree.run]at h
  obtain⟨p,hp,h2⟩:=Option.bind_eq_some_iff.1 h
  obtain⟨N1,h1⟩:=hc _ _ _ hp
  obtain⟨N2,h2⟩:=ih _ b h2
  refine⟨max N1 N2,fun n m hn hm=> ?_⟩
  simp only [Tree.run]
  rw[show(envN m (cN n)).call g args=some p from h1 n (by omega)]
  exact h2 n m (by omega) (by omega)
 |mint g args e sz K ih=>
  intro b h
  simp only [Tree.run]at h
  obtain⟨rows,hp,h2⟩:=Option.bind_eq_some_iff.1 h
  obtain⟨N1,h1⟩:=hc _ _ _ (opM_some hp)
  obtain⟨N2,h2⟩:=ih _ b h2
  refine⟨max N1 N2,fun n m hn hm=> ?_⟩
  simp only [Tree.run]
  rw[show(envN m (cN n)).call g args=some (.own e sz rows)from h1 n (by omega)]
  rw[opM_some hp]at hp
  rw[hp]
  exact h2 n m (by omega) (by omega)
 |loop body ds ih=>
  intro b h
  have h:loopF (fun ds=>(body ds).run (envF cF)) ds=some b:=h
  obtain⟨k,hk⟩:=loopF_some.1 h
  clear h
  suffices ∀k ds,iterN k (fun ds=>(body ds).run (envF cF)) ds=some b→ ∃N,∀n m q,N≤n→N≤m→N≤q→iterN q (fun ds=>(body ds).run (envN m (cN n))) ds=some b by
   obtain⟨N,hN⟩:=this k ds hk
   exact⟨N,fun n m hn hm=>hN n m m hn hm hm⟩
  intro k
  induction k with
  |zero=>intro ds hk;cases hk
  |succ k ihk=>
   intro ds hk
   simp only [iterN]at hk
   cases hb:(body ds).run (envF cF)with
   |none=>rw[hb]at hk;cases hk
   |some s=>
    rw[hb]at hk
    obtain⟨N1,h1⟩:=ih ds s hb
    cases s with
    |inl d=>
     obtain⟨N2,h2⟩:=ihk d hk
     refine⟨max N1 N2+1,fun n m q hn hm hq=> ?_⟩
     obtain⟨q,rfl⟩: ∃k,q=k+1:=⟨q - 1,by omega⟩
     simp only [iterN,h1 n m (by omega) (by omega)]
     exact h2 n m q (by omega) (by omega) (by omega)
    |inr a=>
     refine⟨N1+1,fun n m q hn hm hq=> ?_⟩
     obtain⟨q,rfl⟩: ∃k,q=k+1:=⟨q - 1,by omega⟩
     simp only [iterN,h1 n m (by omega) (by omega)]
     exact hk
 |cut x K ihx ihK=>
  intro b h
  simp only [Tree.run]at h
  cases hx:x.run (envF cF)with
  |none=>rw[hx]at h;cases h
  |some s=>
   rw[hx]at h
   obtain⟨N1,h1⟩:=ihx s hx
   cases s with
   |inl d=>
    obtain⟨N2,h2⟩:=ihK d b h
    refine⟨max N1 N2,fun n m hn hm=> ?_⟩
    simp only [Tree.run,h1 n m (by omega) (by omega),Option.bind_some]
    exact h2 n m (by omega) (by omega)
   |inr a=>
    refine⟨N1,fun n m hn hm=> ?_⟩
    simp only [Tree.run,h1 n m (by omega) (by omega),Option.bind_some]
    exact h
section
variable {P : Program} {h : List Box} {ρ : Operand → V} {o : Oper}
theorem find_idx {fn:Func}(hn:fn.name= "internal/bytealg.IndexByteString")(ho:fn.origin= ""):Extern.find fn=some Extern.BytealgIndexByte.indexByte∧Extern.findNext fn=none:=by
 unfold Extern.find Extern.findNext
 simp only [hn,ho]
 constructor<;>kernel_rfl
theorem find_cnt {fn:Func}(hn:fn.name= "internal/bytealg.CountString")(ho:fn.origin= ""):Extern.find fn=some Extern.BytealgCount.count∧Extern.findNext fn=none:=by
 unfold Extern.find Extern.findNext
 simp only [hn,ho]
 constructor<;>kernel_rfl
theorem gives_ext {q y z:Operand}{ts:Array TypeId}{f:FuncId}{fn:Func}{e:Array Value→Sem Value}{s:ByteArray}{c r:Int}(hop:o.op= .call { callee:= .value q,args:= #[y,z],argTypes:=ts })(hq:ρ q= .fn f [])(hf:P.funcs[f]? =some fn)(hb:fn.body=none)
  (hname:(fn.name == "runtime.NumGoroutine")=false) (he:Extern.find fn=some e) (hn:Extern.findNext fn=none) (hy1:ρ y= .d (.str s)) (hz1:ρ z= .d (.int .u8 c)) (hrun: ∀w,(e #[.string s, .int .u8 c]).run P w= .ok (.int .i64 r) w):Gives P [] h h ρ o (.d (.int .i64 r)):=
 .pure fun g ρ' w hs hy=>by
  have e1:=rep_str_inv (hy1▸hy y)
  have e2:=rep_int_inv (hz1▸hy z)
  have e3:=hy q
  rw[hq]at e3
  refine⟨.int .i64 r,?_, .d (.int _ _)⟩
  generalize hu:ρ' q=u at e3
  cases e3 with
  |fn _ us _ hl _=>
   have:us= #[]:=Array.eq_empty_of_size_eq_zero hl
   subst this
   have hr:=run_callFunc_extern (P:=P) hf hname (by rw[hb];rfl) hn he #[.string s, .int .u8 c] w
   rw[hrun]at hr
   simp [execOp,hop,resolve,hu,Deferred.ofValue,invoke,e1,e2,hr,Result.andThen]
theorem gives_field {y:Operand}{t:TypeId}{f:Nat}{fs:Array Field}{fl:Field}{cs:List V}{v:V}(hop:o.op= .field t y f)(hu:P.underlying t=some (.struct fs))(hf:fs[f]? =some fl)(hy1:ρ y= .agg cs)
  (hx:(P.underlying fl.type).isSome=true) (ha:aggB P fl.type=false) (hv:cs[fl.offset]? =some v):Gives P [] h h ρ o v:=
 .pure fun g ρ' w hs hy=>by
  have hr:=hy y
  rw[hy1]at hr
  generalize hu0:ρ' y=u0 at hr
  cases hr with
  |agg us _ hl hr=>
   have hi:fl.offset < us.size:=by rw[hl];exact(List.getElem?_eq_some_iff.1 hv).1
   refine⟨us[fl.offset],?_,hr _ _ _ (Array.getElem?_eq_getElem hi) hv⟩
   simp [execOp,hop,hu0,Instr.field,run_underlying hu,hf,part,asAgg,run_isAgg_of hx ha,Array.getElem?_eq_getElem hi]
theorem gives_fieldA {y:Operand}{t:TypeId}{f n:Nat}{fs:Array Field}{fl:Field}{cs:List V}(hop:o.op= .field t y f)(hu:P.underlying t=some (.struct fs))(hf:fs[f]? =some fl)(hy1:ρ y= .agg cs)
  (hx:(P.underlying fl.type).isSome=true) (ha:aggB P fl.type=true) (hn:szO P fl.type=some n) (hle:fl.offset+n≤cs.length):Gives P [] h h ρ o (.agg ((cs.drop fl.offset).take n)):=
 .pure fun g ρ' w hs hy=>by
  have hr:=hy y
  rw[hy1]at hr
  generalize hu0:ρ' y=u0 at hr
  cases hr with
  |agg us _ hl hr=>
   refine⟨.agg (us.extract fl.offset (fl.offset+n)),?_, .agg _ _ ?_ fun i u c hu' hc=> ?_⟩
   ·simp only [execOp,hop,hu0,Instr.field,Sem.run_bind,run_underlying hu,Result.andThen_ok,hf,part,asAgg,run_isAgg_of hx ha,Sem.run_pure,if_true,run_sizeOf_of hn]
   ·simp;omega
   ·rw[List.getElem?_take]at hc
    split at hc
    ·rw[List.getElem?_drop]at hc
     rw[Array.getElem?_extract]at hu'
     split at hu'
     ·exact hr _ _ _ hu' hc
     ·cases hu'
    ·cases hc
end
structure Sy where
 wrap:IntKind→Int→Int
 add:Int→Int→Int
 sub:Int→Int→Int
 mul:Int→Int→Int
 ieq:Int→Int→Bool
 ilt:Int→Int→Bool
 ile:Int→Int→Bool
 seq:ByteArray→ByteArray→Bool
 slt:ByteArray→ByteArray→Bool
 beq:Bool→Bool→Bool
 bor:Bool→Bool→Bool
 bnot:Bool→Bool
 imax:Int→Int→Int
 imin:Int→Int→Int
 rlen:List (List D)→Int
 slen:ByteArray→Int
 sapp:ByteArray→ByteArray→ByteArray
 sfit:ByteArray→ByteArray→Bool
 inr:Int→Int→Bool
 row:List (List D)→Int→List D
 nat:Int→Nat
 rown:List (List D)→Nat→List D
 cell:List D→Nat→Option D
 skip:Nat→List D→List D
 inrn:Nat→List (List D)→Bool
 rput:List (List D)→Nat→Nat→List D→List (List D)
 rapp:List (List D)→List (List D)→List (List D)
 fits:List (List D)→List (List D)→Nat→Bool
 cutok:Int→Int→Int→Bool
 cut:List (List D)→Int→Int→List (List D)
 scut:ByteArray→Int→Int→ByteArray
 sbyte:ByteArray→Int→Int
 mkok:Int→Int→Nat→Bool
 mkok0:Int→Nat→Bool
 mkz:Int→Nat→Bool
 rep:Int→List D→List (List D)
 mval:D→D→List (List D)→D
 mhas:D→List (List D)→Bool
 mput:D→D→List (List D)→List (List D)
 mdel:D→List (List D)→List (List D)
 head:List (List D)→Int→List (List D)
 deq:List D→List D→Bool
 rdec:ByteArray→Int→Int
 rwid:ByteArray→Int→Int
 rcopy:List (List D)→Int→Int→List (List D)→List (List D)
 quo:Int→Int→Int
 rem:Int→Int→Int
 band:IntKind→Int→Int→Int
 bior:IntKind→Int→Int→Int
 bxor:IntKind→Int→Int→Int
 bandn:IntKind→Int→Int→Int
 shl:IntKind→Int→Int→Int
 shr:IntKind→Int→Int→Int
 sidx:ByteArray→Int→Int
 scnt:ByteArray→Int→Int
 pnum:ByteArray→Int
 pok:ByteArray→Bool
 isby:List (List D)→Bool
 bstr:List (List D)→ByteArray
def byN:List D→Option Int
 | [.int .u8 n]=>some n
 |_=>none
def isbyR (rows:List (List D)):Bool:=rows.all fun r=>(byN r).isSome
def bstrR (rows:List (List D)):ByteArray:=strOfNums (rows.map fun r=>(byN r).getD 0)
def sy:Sy where
 isby:=isbyR
 bstr:=bstrR
 wrap k n:=k.wrap n
 add a b:=a+b
 sub a b:=a - b
 mul a b:=a*b
 ieq a b:=decide (a=b)
 ilt a b:=decide (a < b)
 ile a b:=decide (a≤b)
 seq a b:=a.toList == b.toList
 slt a b:=Op.bytesLess a.toList b.toList
 beq a b:=a == b
 bor a b:=a || b
 bnot a:= !a
 imax a b:=max a b
 imin a b:=min a b
 rlen r:=r.length
 slen s:=s.size
 sapp a b:=a++b
 sfit s u:=decide (s.size+u.size≤9223372036854775807)
 inr i n:=decide (0≤i∧i < n)
 row rows i:=rows.getD i.toNat []
 nat i:=i.toNat
 rown rows i:=rows.getD i []
 cell cs j:=cs[j]?
 skip k cs:=cs.drop k
 inrn i rows:=decide (i < rows.length)
 rput rows i off ds:=rows.set i ((rows.getD i []).take off++ds++(rows.getD i []).drop (off+ds.length))
 rapp a b:=a++b
 fits a b k:=decide ((a.length+b.length)*(k+1)≤140737488355328)
 cutok l r n:=decide (0≤l∧l≤r∧r≤n)
 cut rows l r:=(rows.take r.toNat).drop l.toNat
 scut s l r:=s.extract l.toNat r.toNat
 sbyte s i:=((s.data.getD i.toNat 0).toNat:Int)
 mkok n m k:=decide (n=m∧0≤n∧n*(k+1)≤140737488355328)
 mkok0 m k:=decide (0≤m∧m*(k+1)≤140737488355328)
 mkz n k:=decide (0 < n∧n*(k+1)≤140737488355328)
 rep n ds:=List.replicate n.toNat ds
 mval z k rows:=mval z k rows
 mhas k rows:=mhas k rows
 mput k x rows:=mput k x rows
 mdel k rows:=mdel k rows
 head rows r:=rows.take r.toNat
 deq xs ys:=eqDs xs ys
 rdec s p:=decR s p
 rwid s p:=decW s p
 rcopy rows lo n news:=rows.take lo.toNat++news.take (min n.toNat news.length)++rows.drop (lo.toNat+min n.toNat news.length)
 quo a b:=a.tdiv b
 rem a b:=a.tmod b
 band k a b:=bandI k a b
 bior k a b:=borI k a b
 bxor k a b:=bxorI k a b
 bandn k a b:=bandnI k a b
 shl k a b:=shlI k a b
 shr k a b:=shrI k a b
 sidx s c:=Lib.indexByte s.data.toList c.toNat.toUInt8
 scnt s c:=(Lib.countByte s.data.toList c.toNat.toUInt8:Nat)
 pnum s:=pnumI s
 pok s:=pokB s
section
variable (A : Sy) (P : Program)
def openT (s:Sh)(v:Option D):Tree D:=match s with
 | .int k=> .cI v k fun n=> .ret (.int k n)
 | .bool=> .cB v fun b=> .ret (.bool b)
 | .str=> .cS v fun t=> .ret (.str t)
 | .sl sz=> .cL v sz fun r=> .ret (.sl sz r)
def openRT:List Sh→List D→Nat→Tree (List D)
 | [],_,_=> .ret []
 |s::ss,cs,j=>(openT s (A.cell cs j)).bind fun x=>(openRT ss cs (j+1)).bind fun xs=> .ret (x::xs)
def loadT (h:List Box)(t:TypeId)(v:V):Tree V:=
 match shOf P 9 t,szO P t,(P.underlying t).isSome,aggB P t with
 |sh,some n,true,ag=>match v with
  | .ptr b off=>match h[b]? with
    |some (.cells (.ty _) vs)=>match ag with
     |true=>match decide (off+n≤vs.length)with
      |true=> .ret (.agg ((vs.drop off).take n))
      |false=> .fail
     |false=>match vs[off]? with
      |some v=> .ret v
      |none=> .fail
    |_=> .fail
  | .pel cs=>match sh,ag with
    |some ss,true=>match decide (ss.length=n)with
     |true=>(openRT A ss cs 0).bind fun xs=> .ret (.agg (xs.map .d))
     |false=> .fail
    |some [s],false=>(openT s (A.cell cs 0)).bind fun x=> .ret (.d x)
    |_,_=> .fail
  | .pml b sz i off=>match h[b]? with
    |some (.arr _ sz' rows)=>match decide (sz'=sz),sh,ag with
     |true,some ss,true=>match decide (ss.length=n)with
      |true=>chk (A.inrn i rows) ((openRT A ss (A.rown rows i) off).bind fun xs=> .ret (.agg (xs.map .d)))
      |false=> .fail
     |true,some [s],false=>(openT s (A.cell (A.rown rows i) off)).bind fun x=> .ret (.d x)
     |_,_,_=> .fail
    |_=> .fail
  |_=> .fail
 |_,_,_,_=> .fail
def indexT (h:List Box)(t:TypeId)(v i:V):Tree V:=
 match elO P t,i with
 |some (_,sz), .d (.int _ i)=>match v with
  | .d (.sl sz' rows)=>match decide (sz'=sz)with
    |true=>chk (A.inr i (A.rlen rows)) (.ret (.pel (A.row rows i)))
    |false=> .fail
  | .own b=>match h[b]? with
    |some (.arr _ sz' rows)=>match decide (sz'=sz)with
     |true=>chk (A.inr i (A.rlen rows)) (.ret (.pml b sz (A.nat i) 0))
     |false=> .fail
    |_=> .fail
  | .osl b sz' lo n=>match decide (sz'=sz)with
    |true=>chk (A.inr i n) (.ret (.pml b sz (A.nat (A.add lo i)) 0))
    |false=> .fail
  |_=> .fail
 |_,_=> .fail
def binIA (op:BinOp)(k:IntKind)(a b:Int):Option D:=match op with
 | .add=>some (.int k (A.wrap k (A.add a b)))
 | .sub=>some (.int k (A.wrap k (A.sub a b)))
 | .mul=>some (.int k (A.wrap k (A.mul a b)))
 | .eql=>some (.bool (A.ieq a b))
 | .neq=>some (.bool (A.bnot (A.ieq a b)))
 | .lss=>some (.bool (A.ilt a b))
 | .leq=>some (.bool (A.ile a b))
 | .gtr=>some (.bool (A.ilt b a))
 | .geq=>some (.bool (A.ile b a))
 |_=>none
def binStrA (op:BinOp)(a b:ByteArray):Option Bool:=match op with
 | .eql=>some (A.seq a b)
 | .neq=>some (A.bnot (A.seq a b))
 | .lss=>some (A.slt a b)
 | .leq=>some (A.bor (A.slt a b) (A.seq a b))
 | .gtr=>some (A.bnot (A.bor (A.slt a b) (A.seq a b)))
 | .geq=>some (A.bnot (A.slt a b))
 |_=>none
def bitIA (op:BinOp)(k:IntKind)(a b:Int):Option Int:=match op with
 | .and=>some (A.band k a b)
 | .or=>some (A.bior k a b)
 | .xor=>some (A.bxor k a b)
 | .andNot=>some (A.bandn k a b)
 |_=>none
def intT (op:BinOp)(k k':IntKind)(n m:Int):Tree V:=match op with
 | .shl=>chk (A.ile 0 m) (.ret (.d (.int k (A.shl k n m))))
 | .shr=>chk (A.ile 0 m) (.ret (.d (.int k (A.shr k n m))))
 | .quo=>match decide (k'=k)with
   |true=>chk (A.bnot (A.ieq m 0)) (.ret (.d (.int k (A.wrap k (A.quo n m)))))
   |false=> .fail
 | .rem=>match decide (k'=k)with
   |true=>chk (A.bnot (A.ieq m 0)) (.ret (.d (.int k (A.rem n m))))
   |false=> .fail
 |op=>match decide (k'=k),binIA A op k n m,bitIA A op k n m with
  |true,some d,_=> .ret (.d d)
  |true,none,some c=> .ret (.d (.int k c))
  |_,_,_=> .fail
def ifcB (t:TypeId):Bool:=match P.underlying t with
 |some (.interface _)=>true
 |_=>false
def byteB (s:TypeId):Bool:=match P.underlying s with
 |some (.slice e)=>match P.underlying e with
  |some (.int .u8)=>true
  |_=>false
 |_=>false
def nilT (op:BinOp)(a b:V):Tree V:=match op,a,b with
 | .eql, .ifn c, .ifn true=> .ret (.d (.bool c))
 | .neq, .ifn c, .ifn true=> .ret (.d (.bool (A.bnot c)))
 | .eql, .ifc .., .ifn true=> .ret (.d (.bool false))
 | .neq, .ifc .., .ifn true=> .ret (.d (.bool true))
 | .eql, .ifo _ b _, .ifn true=> .ret (.d (.bool b))
 | .neq, .ifo _ b _, .ifn true=> .ret (.d (.bool (A.bnot b)))
 |_,_,_=> .fail
def binT (op:BinOp)(t:TypeId)(a b:V):Tree V:=
 match a,b with
 | .d (.int k n), .d (.int k' m)=>intT A op k k' n m
 | .d (.str s), .d (.str u)=>match op with
   | .add=>chk (A.sfit s u) (.ret (.d (.str (A.sapp s u))))
   |_=>match binStrA A op s u with
    |some c=> .ret (.d (.bool c))
    |none=> .fail
 | .d (.bool c), .d (.bool d)=>match P.underlying t,op with
   |some .bool, .eql=> .ret (.d (.bool (A.beq c d)))
   |some .bool, .neq=> .ret (.d (.bool (A.bnot (A.beq c d))))
   |_,_=> .fail
 | .agg xs, .agg ys=>match allDs xs,allDs ys with
   |some cs,some ds=>match shD cs,shD ds with
    |some ss,some ss'=>match decide (ss'=ss),op,stokB P t ss with
     |true, .eql,true=> .ret (.d (.bool (A.deq cs ds)))
     |true, .neq,true=> .ret (.d (.bool (A.bnot (A.deq cs ds))))
     |_,_,_=> .fail
    |_,_=> .fail
   |_,_=> .fail
 | .d (.sl _ rows), .nils=>match P.underlying t,op with
   |some (.slice _), .eql=>chk (A.ilt 0 (A.rlen rows)) (.ret (.d (.bool false)))
   |some (.slice _), .neq=>chk (A.ilt 0 (A.rlen rows)) (.ret (.d (.bool true)))
   |_,_=> .fail
 | .nils, .nils=>match P.underlying t,op with
   |some (.slice _), .eql=> .ret (.d (.bool true))
   |some (.slice _), .neq=> .ret (.d (.bool false))
   |_,_=> .fail
 |_,_=> .fail
def addFT (v:V)(k:Nat):Option V:=match v with
 | .ptr b off=>some (.ptr b (off+k))
 | .pel cs=>some (.pel (match k with
   |0=>cs
   |k=>A.skip k cs))
 | .pml b sz i off=>some (.pml b sz i (off+k))
 |_=>none
def lenT (h:List Box):V→Option Int
 | .nils=>some 0
 | .d (.sl _ rows)=>some (A.rlen rows)
 | .d (.str s)=>some (A.slen s)
 | .own b=>match h[b]? with
   |some (.arr _ _ rows)=>some (A.rlen rows)
   |_=>none
 | .osl _ _ _ n=>some n
 |_=>none
def vlenT (h:List Box)(t:TypeId)(v:V):Tree V:=
 match v,P.underlying t,lenT A h v with
 | .d (.str _),some .string,some n=> .ret (.d (.int .i64 n))
 | .d (.str _),_,_=> .fail
 |_,some (.slice _),some n=> .ret (.d (.int .i64 n))
 | .map b,some (.map _ _),_=>match h[b]?,mapO P t with
   |some (.mp _ rows),some _=> .ret (.d (.int .i64 (A.rlen rows)))
   |_,_=> .fail
 |_,_,_=> .fail
def sliceT (t:TypeId)(v:V)(lo hi:Option V):Tree V:=
 match v with
 | .d (.sl sz' rows)=>match elO P t,bndV 0 lo,bndV (A.rlen rows) hi with
   |some (_,sz),some l,some r=>match decide (sz'=sz)with
    |true=>chk (A.cutok l r (A.rlen rows)) (.ret (.d (.sl sz (A.cut rows l r))))
    |false=> .fail
   |_,_,_=> .fail
 | .d (.str s)=>match P.underlying t,bndV 0 lo,bndV (A.slen s) hi with
   |some .string,some l,some r=>chk (A.cutok l r (A.slen s)) (.ret (.d (.str (A.scut s l r))))
   |_,_,_=> .fail
 | .nils=>match elO P t,bndV 0 lo,bndV 0 hi with
   |some _,some l,some r=>chk (A.cutok l r 0) (.ret .nils)
   |_,_,_=> .fail
 |_=> .fail
def slice3T (t:TypeId)(v:V)(lo:Option V)(hi mx:V):Tree V:=
 match v with
 | .d (.sl sz' rows)=>match elO P t,bndV 0 lo,bndV 0 (some hi),bndV 0 (some mx)with
   |some (_,sz),some l,some r,some m=>match decide (sz'=sz)with
    |true=>chk (A.cutok l r m) (chk (A.cutok r m (A.rlen rows)) (.ret (.d (.sl sz (A.cut rows l r)))))
    |false=> .fail
   |_,_,_,_=> .fail
 |_=> .fail
def lookupT (h:List Box)(t:TypeId)(v q:V)(c:Bool):Tree V:=
 match mapO P t,v,q with
 |some (e,kk), .map b, .d k=>match h[b]?,zeroO P e,shOf P 9 e,kk.fitsB k with
  |some (.mp kk' rows),some z,some [s],true=>match decide (kk'=kk),zeroOK [s] [z]with
   |true,true=>(openT s (some (A.mval (zeroD s) k rows))).bind fun x=>match c with
    |true=> .ret (.tup [.d x, .d (.bool (A.mhas k rows))])
    |false=> .ret (.d x)
   |_,_=> .fail
  |_,_,_,_=> .fail
 |_,_,_=> .fail
def extO (f:FuncId):Option Nat:=match P.funcs[f]? with
 |some fn=>match fn.body with
  |some _=>none
  |none=>match fn.origin == "",fn.name == "internal/bytealg.IndexByteString",fn.name == "internal/bytealg.CountString" with
   |true,true,_=>some 0
   |true,false,true=>some 1
   |_,_,_=>none
 |none=>none
def opPT (h:List Box)(ρ:Operand→V)(o:Oper):Tree V:=
 match o.op with
 | .move y=> .ret (ρ y)
 | .assign y=> .ret (ρ y)
 | .pick c a b=>match ρ c with
   | .d (.bool t)=> .ite t (.ret (ρ a)) (.ret (ρ b))
   |_=> .fail
 | .load t y=>loadT A P h t (ρ y)
 | .fieldAddr s y f=>match fldO P s f with
   |some k=>match addFT A (ρ y) k with
    |some v=> .ret v
    |none=> .fail
   |none=> .fail
 | .field t y f=>match P.underlying t,ρ y with
   |some (.struct fs), .agg cs=>match fs[f]? with
    |some fl=>match aggB P fl.type,(P.underlying fl.type).isSome,szO P fl.type with
     |false,true,_=>match cs[fl.offset]? with
      |some v=> .ret v
      |none=> .fail
     |true,true,some n=>match decide (fl.offset+n≤cs.length)with
      |true=> .ret (.agg ((cs.drop fl.offset).take n))
      |false=> .fail
     |_,_,_=> .fail
    |none=> .fail
   |_,_=> .fail
 | .indexAddr t y z=>match arrO P t z with
   |some (k,i0)=>match ρ z with
    | .d (.int _ i)=>match decide (i=i0)with
      |true=>match addFT A (ρ y) k with
       |some v=> .ret v
       |none=> .fail
      |false=> .fail
    |_=> .fail
   |none=>indexT A P h t (ρ y) (ρ z)
 | .index t y z=>match P.underlying t,ρ y,ρ z with
   |some .string, .d (.str s), .d (.int _ i)=>chk (A.inr i (A.slen s)) (.ret (.d (.int .u8 (A.sbyte s i))))
   |_,_,_=> .fail
 | .binOp op t y z _=>match z,ifcB P t with
   | .const .nilIface,true=>nilT A op (ρ y) (ρ z)
   |_,_=>binT A P op t (ρ y) (ρ z)
 | .unOp op _ y=>match op,ρ y with
   | .not, .d (.bool b)=> .ret (.d (.bool (A.bnot b)))
   | .neg, .d (.int k n)=> .ret (.d (.int k (A.wrap k (A.sub 0 n))))
   |_,_=> .fail
 | .convert s t y=>match P.underlying t,(P.underlying s).isSome,ρ y with
   |some (.int k'),true, .d (.int _ n)=> .ret (.d (.int k' (A.wrap k' n)))
   |some .string,true, .d (.sl 1 rows)=>match byteB P s with
    |true=>chk (A.isby rows) (.ret (.d (.str (A.bstr rows))))
    |false=> .fail
   |_,_,_=> .fail
 | .extract y i=>match ρ y with
   | .tup cs=>match cs[i]? with
     |some v=> .ret v
     |none=> .fail
   |_=> .fail
 | .nilCheck y=>match (ρ y).solid with
   |true=> .ret (ρ y)
   |false=> .fail
 | .build t parts=>match placesO P t with
   |some (zs,place)=>match fillV place zs (parts.toList.map fun q=>(q.1,ρ q.2)),(parts.toList.all fun q=>(ρ q.2).liveC h)with
    |some vs,true=> .ret (.agg vs)
    |_,_=> .fail
   |none=> .fail
 | .lookup t y z c=>lookupT A P h t (ρ y) (ρ z) c
 | .slice t y lo hi mx=>match mx with
   |none=>sliceT A P t (ρ y) (lo.map ρ) (hi.map ρ)
   |some m=>match hi with
    |some r=>slice3T A P t (ρ y) (lo.map ρ) (ρ r) (ρ m)
    |none=> .fail
 | .makeInterface t y=>match P.underlying t,ρ y with
   |some (.struct _), .agg cs=>match allDs cs with
    |some ds=> .ret (.ifc t ds)
    |none=> .fail
   |some (.pointer _), .ptr b off=> .ret (.ifp t b off)
   |_,_=> .fail
 | .typeAssert y _ t ok=>match P.underlying t,ρ y,ok with
   |some (.struct _), .ifc t' cs,true=>match decide (t'=t)with
    |true=> .ret (.tup [.agg (cs.map .d), .d (.bool true)])
    |false=> .fail
   |_,_,_=> .fail
 | .makeFunc fn first caps=>match fn,first with
   | .func f,⟨[]⟩=> .ret (.fn f (caps.toList.map ρ))
   | .func f,⟨[y]⟩=>match ρ y,caps with
     | .ptr b off,⟨[]⟩=> .ret (.mv f b off)
     |_,_=> .fail
   |_,_=> .fail
 | .buildSlice t n parts=>match litV P t n (parts.toList.map fun q=>(q.1,ρ q.2)),(parts.toList.all fun q=>(ρ q.2).liveC h)with
   |some (e,sz,vs),true=>match shOf P 9 e with
    |some ss=>match rowsOf ss sz n vs with
     |some rows=> .ret (.d (.sl sz rows))
     |none=> .fail
    |none=> .fail
   |_,_=> .fail
 | .call c=>match c with
   |⟨.builtin .len,⟨[y]⟩,ts⟩=>match ts[0]? with
    |some t=>vlenT A P h t (ρ y)
    |none=> .fail
   |⟨.builtin .cap,⟨[y]⟩,ts⟩=>match ts[0]?,ρ y with
    |some t, .nils=>match P.underlying t with
     |some (.slice _)=> .ret (.d (.int .i64 0))
     |_=> .fail
    |_,_=> .fail
   |⟨.builtin .max,⟨[y,z]⟩,_⟩=>match ρ y,ρ z with
    | .d (.int k a), .d (.int k' b)=>match decide (k'=k)with
      |true=> .ret (.d (.int k (A.imax a b)))
      |false=> .fail
    |_,_=> .fail
   |⟨.builtin .min,⟨[y,z]⟩,_⟩=>match ρ y,ρ z with
    | .d (.int k a), .d (.int k' b)=>match decide (k'=k)with
      |true=> .ret (.d (.int k (A.imin a b)))
      |false=> .fail
    |_,_=> .fail
   |⟨.value q,⟨[y,z]⟩,_⟩=>match ρ q with
    | .fn f []=>match extO P f,ρ y,ρ z with
      |some 0, .d (.str s), .d (.int .u8 c)=> .ret (.d (.int .i64 (A.sidx s c)))
      |some 1, .d (.str s), .d (.int .u8 c)=> .ret (.d (.int .i64 (A.scnt s c)))
      |_,_,_=> .fail
    |_=> .fail
   |_=> .fail
 |_=> .fail
end
section
variable {P : Program} {M : List Nat} {h h' h2 : List Box} {ρ : Operand → V} {o : Oper} {x : V} {E : Env}
theorem openT_run {s:Sh}{v:Option D}{x:D}(hk:(openT s v).run E=some x):v=some x:=by
 cases s<;>simp only [openT,Tree.run]at hk<;>obtain⟨n,h1,h2⟩:=Option.bind_eq_some_iff.1 hk<;>cases h2
 ·exact opI_some h1
 ·exact opB_some h1
 ·exact opS_some h1
 ·exact opL_some h1
theorem openRT_run (hE:E.Ok): ∀ {ss:List Sh} {cs:List D} {j:Nat} {xs:List D},(openRT sy ss cs j).run E=some xs→
  xs.length=ss.length∧ ∀(i:Nat) x,xs[i]? =some x→cs[j+i]? =some x
 | [],cs,j,xs,hk=>by cases hk;exact⟨rfl,by simp⟩
 |s::ss,cs,j,xs,hk=>by
  unfold openRT at hk
  obtain⟨x,h1,hk⟩:=run_bind_some hE hk
  obtain⟨xs',h2,hk⟩:=run_bind_some hE hk
  cases hk
  have h1:=openT_run h1
  obtain⟨h3,h4⟩:=openRT_run hE h2
  refine⟨by simp [h3],fun i y hy=> ?_⟩
  cases i with
  |zero=>simp at hy;subst hy;simpa using(show cs[j]? =some x from h1)
  |succ i=>have:=h4 i y (by simpa using hy);rwa [show j+1+i=j+(i+1) by omega]at this
theorem loadT_sound (hE:E.Ok){t:TypeId}{y:Operand}(hop:o.op= .load t y)(hk:(loadT sy P h t (ρ y)).run E=some x): ∀h2,Pre h h2→Gives P [] h2 h2 ρ o x:=by
 unfold loadT at hk
 split at hk
 ·have hn:= ‹szO P t=some _›
  have hu:= ‹(P.underlying t).isSome=true›
  split at hk
  ·rename_i b off hy
   split at hk
   ·rename_i bt vs hb
    split at hk
    ·split at hk
     ·rename_i hle
      cases hk
      exact fun h2 hp=>gives_load_boxN hop hy (hp.at hb nofun) hn (by simpa using hle) hu ‹aggB P t=_›
     ·cases hk
    ·split at hk
     ·rename_i v hv
      cases hk
      exact fun h2 hp=>gives_load_box1 hop hy (hp.at hb nofun) hv hu ‹aggB P t=_›
     ·cases hk
   ·cases hk
  ·rename_i cs hy
   split at hk
   ·split at hk
    ·rename_i hl
     obtain⟨xs,hk1,hk⟩:=run_bind_some hE hk
     cases hk
     obtain⟨h1,h3⟩:=openRT_run hE hk1
     exact fun h2 hp=>gives_load_pelN hop hy (fun i x hx=>by have:=h3 i x hx;rwa [Nat.zero_add]at this) (by rw[hn,h1];simpa using(of_decide_eq_true hl).symm) hu ‹aggB P t=_›
    ·cases hk
   ·obtain⟨x,hk1,hk⟩:=run_bind_some hE hk
    cases hk
    exact fun h2 hp=>gives_load_pel1 hop hy (openT_run hk1) hu ‹aggB P t=_›
   ·cases hk
  ·rename_i b sz i off hy
   split at hk
   ·rename_i e sz' rows hb
    split at hk
    ·rename_i hsz _ _
     have hsz:=of_decide_eq_true hsz
     subst hsz
     split at hk
     ·rename_i hl
      obtain⟨hi,hk⟩:=chk_some hk
      obtain⟨xs,hk1,hk⟩:=run_bind_some hE hk
      cases hk
      obtain⟨h1,h3⟩:=openRT_run hE hk1
      exact fun h2 hp=>gives_load_pmlN hop hy (hp.at hb nofun) h3 (by rw[hn,h1];simpa using(of_decide_eq_true hl).symm) hu ‹aggB P t=_› (of_decide_eq_true hi)
     ·cases hk
    ·rename_i hsz _ _
     have hsz:=of_decide_eq_true hsz
     subst hsz
     obtain⟨x,hk1,hk⟩:=run_bind_some hE hk
     cases hk
     exact fun h2 hp=>gives_load_pml1 hop hy (hp.at hb nofun) (openT_run hk1) hu ‹aggB P t=_›
    ·cases hk
   ·cases hk
  ·cases hk
 ·cases hk
theorem inr_prop {i n:Int}(h:sy.inr i n=true):0≤i∧i < n:=of_decide_eq_true h
theorem cutok_prop {l r n:Int}(h:sy.cutok l r n=true):0≤l∧l≤r∧r≤n:=of_decide_eq_true h
theorem indexT_sound {t:TypeId}{y z:Operand}(hop:o.op= .indexAddr t y z)(hk:(indexT sy P h t (ρ y) (ρ z)).run E=some x): ∀h2,Pre h h2→Gives P [] h2 h2 ρ o x:=by
 unfold indexT at hk
 split at hk
 ·rename_i e sz kd i hel hz
  split at hk
  ·rename_i sz' rows hy
   split at hk
   ·rename_i hsz
    have hsz:=of_decide_eq_true hsz
    subst hsz
    obtain⟨hi,hk⟩:=chk_some hk
    cases hk
    have hi:=inr_prop hi
    exact fun h2 hp=>gives_index_sl hop hel hy hz hi.1 hi.2
   ·cases hk
  ·rename_i b hy
   split at hk
   ·rename_i e' sz' rows hb
    split at hk
    ·rename_i hsz
     have hsz:=of_decide_eq_true hsz
     subst hsz
     obtain⟨hi,hk⟩:=chk_some hk
     cases hk
     have hi:=inr_prop hi
     exact fun h2 hp=>gives_index_own hop hel hy (hp.at hb nofun) hz hi.1 hi.2
    ·cases hk
   ·cases hk
  ·rename_i b sz' lo n hy
   split at hk
   ·rename_i hsz
    have hsz:=of_decide_eq_true hsz
    subst hsz
    obtain⟨hi,hk⟩:=chk_some hk
    cases hk
    have hi:=inr_prop hi
    exact fun h2 hp=>gives_index_osl hop hel hy hz hi.1 hi.2
   ·cases hk
  ·cases hk
 ·cases hk
theorem binIA_eq (op:BinOp)(k:IntKind)(a b:Int):binIA sy op k a b=binI op k a b:=by
 have e:decide (a=b)=(a == b):=by rw[Bool.eq_iff_iff];simp
 cases op<;>simp only [binIA,binI,sy,e]<;>rfl
theorem bitIA_eq (op:BinOp)(k:IntKind)(a b:Int):bitIA sy op k a b=bitI op k a b:=by cases op<;>rfl
theorem ieq_ne {m n:Int}(h:sy.bnot (sy.ieq m n)=true):m≠n:=by
 intro e;subst e
 simp [sy]at h
theorem binStrA_eq (op:BinOp)(a b:ByteArray):binStrA sy op a b=binStr op a b:=by cases op<;>rfl
theorem gives_nilE {op:BinOp}{t u:TypeId}{y:Operand}{b c:Bool}(hop:o.op= .binOp op t y (.const .nilIface) u)(hu:ifcB P t=true)(h1:ρ y= .ifn b∨(b=false∧ ∃t cs,ρ y= .ifc t cs)∨ ∃t cs,ρ y= .ifo t b cs)(h2:ρ (.const .nilIface)= .ifn true)
  (hd:(match op with| .eql=>some b| .neq=>some (!b)|_=>none)=some c):Gives P [] h h ρ o (.d (.bool c)):=
 .pure fun g ρ' w hs hy=>by
  obtain⟨ms,hu⟩: ∃ms,P.underlying t=some (.interface ms):=by
   unfold ifcB at hu
   split at hu
   ·exact⟨_, ‹_›⟩
   ·cases hu
  have r1:Rep w g (ρ' y) (.ifn b):=by
   have r1:=hy y
   rcases h1 with h1|⟨rfl,t,cs,h1⟩|⟨t,cs,h1⟩<;>rw[h1]at r1
   ·exact r1
   ·generalize ρ' y=v at r1
    cases r1
    exact .ifn1 _ _
   ·generalize ρ' y=v at r1
    cases r1 with
    |ifo0=>exact .ifn0
    |ifo1=>exact .ifn1 _ _
  have r2:=hy (.const .nilIface)
  rw[h2]at r2
  have e2:ρ' (.const .nilIface)= .nilIface:=by
   generalize ρ' (.const .nilIface)=v at r2
   cases r2;rfl
  have q0:(Op.equal t .nilIface .nilIface).run P w= .ok true w:=by
   show(Op.equalIn (9999+1) t _ _).run P w=_
   unfold Op.equalIn
   simp only [Sem.run_bind,run_underlying hu,Result.andThen_ok,Sem.run_pure]
  have q1: ∀a v,(Op.equal t (.iface a v) .nilIface).run P w= .ok false w:=fun a v=>by
   show(Op.equalIn (9999+1) t _ _).run P w=_
   unfold Op.equalIn
   simp only [Sem.run_bind,run_underlying hu,Result.andThen_ok,Sem.run_pure]
  refine⟨.bool c,?_, .d (.bool _)⟩
  generalize hv:ρ' y=v at r1
  cases r1 with
  |ifn0=>cases op<;>cases hd<;>simp [execOp,hop,e2,hv,eqGuard_nil_constR,binOp,q0]
  |ifn1 a v=>cases op<;>cases hd<;>simp [execOp,hop,e2,hv,eqGuard,binOp,q1]
theorem gives_nilS {op:BinOp}{t u e:TypeId}{y z:Operand}{b c:Bool}(hop:o.op= .binOp op t y z u)(hu:P.underlying t=some (.slice e))(h2:ρ z= .nils)(h1:(b=true∧ρ y= .nils)∨(b=false∧ ∃sz rows,ρ y= .d (.sl sz rows)∧0 < rows.length))
  (hd:(match op with| .eql=>some b| .neq=>some (!b)|_=>none)=some c):Gives P [] h h ρ o (.d (.bool c)):=
 .pure fun g ρ' w hs hy=>by
  have r2:=hy z
  rw[h2]at r2
  have e2:ρ' z= .slice none 0 0:=by
   generalize ρ' z=v at r2
   cases r2;rfl
  have q0:(Op.equal t (.slice none 0 0) (.slice none 0 0)).run P w= .ok true w:=by
   show(Op.equalIn (9999+1) t _ _).run P w=_
   unfold Op.equalIn
   simp only [Sem.run_bind,run_underlying hu,Result.andThen_ok,Sem.run_pure,Option.isNone]
  have q1: ∀a n k,(Op.equal t (.slice (some a) n k) (.slice none 0 0)).run P w= .ok false w:=fun a n k=>by
   show(Op.equalIn (9999+1) t _ _).run P w=_
   unfold Op.equalIn
   simp only [Sem.run_bind,run_underlying hu,Result.andThen_ok,Sem.run_pure]
  refine⟨.bool c,?_, .d (.bool _)⟩
  rcases h1 with⟨rfl,h1⟩|⟨rfl,sz,rows,h1,hl⟩
  ·have r1:=hy y
   rw[h1]at r1
   have e1:ρ' y= .slice none 0 0:=by
    generalize ρ' y=v at r1
    cases r1;rfl
   cases op<;>cases hd<;>simp [execOp,hop,e1,e2,eqGuard,binOp,q0]
  ·rcases rep_sl_inv (h1▸hy y)with⟨e1,rfl⟩|⟨a,cap,e1,rfl⟩|⟨blk,off,cap,U,e1,_⟩
   ·simp at hl
   ·simp at hl
   ·cases op<;>cases hd<;>simp [execOp,hop,e1,e2,eqGuard,binOp,q1]
theorem binT_sound {op:BinOp}{t u:TypeId}{y z:Operand}(hop:o.op= .binOp op t y z u)(hk:(binT sy P op t (ρ y) (ρ z)).run E=some x): ∀h2,Pre h h2→Gives P [] h2 h2 ρ o x:=by
 unfold binT at hk
 split at hk
 ·rename_i k n k' m hy hz
  unfold intT at hk
  split at hk
  ·obtain⟨hi,hk⟩:=chk_some hk
   cases hk
   exact fun h2 hp=>gives_shl hop hy hz (of_decide_eq_true hi)
  ·obtain⟨hi,hk⟩:=chk_some hk
   cases hk
   exact fun h2 hp=>gives_shr hop hy hz (of_decide_eq_true hi)
  ·split at hk
   ·rename_i hkk
    have:=of_decide_eq_true hkk
    subst this
    obtain⟨hi,hk⟩:=chk_some hk
    cases hk
    exact fun h2 hp=>gives_quo hop hy hz (ieq_ne hi)
   ·cases hk
  ·split at hk
   ·rename_i hkk
    have:=of_decide_eq_true hkk
    subst this
    obtain⟨hi,hk⟩:=chk_some hk
    cases hk
    exact fun h2 hp=>gives_rem hop hy hz (ieq_ne hi)
   ·cases hk
  ·split at hk
   ·rename_i hkk hd
    have:=of_decide_eq_true hkk
    subst this
    cases hk
    rw[binIA_eq]at hd
    exact fun h2 hp=>gives_binI hop hy hz hd
   ·rename_i hkk hd0 hd
    have:=of_decide_eq_true hkk
    subst this
    cases hk
    rw[bitIA_eq]at hd
    exact fun h2 hp=>gives_bits hop hy hz hd
   ·cases hk
 ·rename_i s u' hy hz
  split at hk
  ·obtain⟨hi,hk⟩:=chk_some hk
   cases hk
   exact fun h2 hp=>gives_addS hop hy hz (of_decide_eq_true hi)
  ·split at hk
   ·rename_i c hc
    cases hk
    rw[binStrA_eq]at hc
    exact fun h2 hp=>gives_binS hop hy hz hc
   ·cases hk
 ·rename_i c d hy hz
  split at hk
  ·cases hk;exact fun h2 hp=>gives_binB hop hy hz ‹_› rfl
  ·cases hk;exact fun h2 hp=>gives_binB hop hy hz ‹_› rfl
  ·cases hk
 ·rename_i xs ys hy hz
  split at hk
  ·rename_i cs ds h1 h2
   split at hk
   ·rename_i ss ss' h3 h4
    split at hk
    ·have he:=of_decide_eq_true ‹decide (ss'=ss)=true›
     subst he
     cases hk
     exact fun h2' hp=>gives_binE hop (by rw[hy,allDs_spec h1]) (by rw[hz,allDs_spec h2]) ‹stokB P t _=true› h3 h4 rfl
    ·have he:=of_decide_eq_true ‹decide (ss'=ss)=true›
     subst he
     cases hk
     exact fun h2' hp=>gives_binE hop (by rw[hy,allDs_spec h1]) (by rw[hz,allDs_spec h2]) ‹stokB P t _=true› h3 h4 rfl
    ·cases hk
   ·cases hk
  ·cases hk
 ·rename_i sz rows hy hz
  split at hk
  ·rename_i hu
   obtain⟨hi,hk⟩:=chk_some hk
   cases hk
   have hi:(0:Int) < (rows.length:Int):=of_decide_eq_true hi
   exact fun h2 hp=>gives_nilS (b:=false) hop hu hz (.inr ⟨rfl,_,_,hy,by omega⟩) rfl
  ·rename_i hu
   obtain⟨hi,hk⟩:=chk_some hk
   cases hk
   have hi:(0:Int) < (rows.length:Int):=of_decide_eq_true hi
   exact fun h2 hp=>gives_nilS (b:=false) hop hu hz (.inr ⟨rfl,_,_,hy,by omega⟩) rfl
  ·cases hk
 ·rename_i hy hz
  split at hk
  ·rename_i hu
   cases hk
   exact fun h2 hp=>gives_nilS (b:=true) hop hu hz (.inl ⟨rfl,hy⟩) rfl
  ·rename_i hu
   cases hk
   exact fun h2 hp=>gives_nilS (b:=true) hop hu hz (.inl ⟨rfl,hy⟩) rfl
  ·cases hk
 ·cases hk
theorem addFT_eq (v:V)(k:Nat):addFT sy v k=addF v k:=by
 cases v<;>simp only [addFT,addF]
 cases k<;>simp [sy]
theorem lenT_eq (h:List Box)(v:V):lenT sy h v=lenV h v:=by cases v<;>rfl
theorem vlenT_sound {y:Operand}{t:TypeId}{ts:Array TypeId}(hop:o.op= .call { callee:= .builtin .len,args:= #[y],argTypes:=ts })(ht:ts[0]? =some t)(hk:(vlenT sy P h t (ρ y)).run E=some x):
  ∀h2,Pre h h2→Gives P [] h2 h2 ρ o x:=by
 unfold vlenT at hk
 rw[lenT_eq]at hk
 split at hk
 ·rename_i s n hv hu hn
  cases hk
  exact fun h2 hp=>gives_len hop ht (lenV_pre hp hn) (fun _ _=>hu) (fun hh=>(hh s hv).elim)
 ·cases hk
 ·rename_i hno
  cases hk
  exact fun h2 hp=>gives_len hop ht (lenV_pre hp ‹lenV h (ρ y)=some _›) (fun s hs=>(hno s hs).elim) (fun _=>⟨_, ‹P.underlying t=some (.slice _)›⟩)
 ·rename_i b _ _ hv _ _
  split at hk
  ·cases hk
   exact fun h2 hp=>gives_lenM hop ht ‹mapO P t=some _› ‹ρ y= .map _› (hp.at ‹h[_]? =some _› nofun)
  ·cases hk
 ·cases hk
theorem sliceT_sound {t:TypeId}{y:Operand}{lo hi:Option Operand}(hop:o.op= .slice t y lo hi none)(hk:(sliceT sy P t (ρ y) (lo.map ρ) (hi.map ρ)).run E=some x): ∀h2,Pre h h2→Gives P [] h2 h2 ρ o x:=by
 unfold sliceT at hk
 split at hk
 ·rename_i sz' rows hy
  split at hk
  ·rename_i e sz l r hel hl hr
   split at hk
   ·rename_i hsz
    have:=of_decide_eq_true hsz
    subst this
    obtain⟨hi,hk⟩:=chk_some hk
    cases hk
    have hi:=cutok_prop hi
    exact fun h2 hp=>gives_slice hop hel hy hl hr hi.1 hi.2.1 hi.2.2
   ·cases hk
  ·cases hk
 ·rename_i s hy
  split at hk
  ·rename_i l r hu hl hr
   obtain⟨hi,hk⟩:=chk_some hk
   cases hk
   have hi:=cutok_prop hi
   exact fun h2 hp=>gives_sliceS hop hu hy hl hr hi.1 hi.2.1 hi.2.2
  ·cases hk
 ·rename_i hy
  split at hk
  ·rename_i z l r hel hl hr
   obtain⟨e,sz⟩:=z
   obtain⟨hi,hk⟩:=chk_some hk
   cases hk
   have hi:=cutok_prop hi
   exact fun h2 hp=>gives_sliceNil hop hel hy hl hr (by omega) (by omega)
  ·cases hk
 ·cases hk
theorem slice3T_sound {t:TypeId}{y:Operand}{lo:Option Operand}{hi mx:Operand}(hop:o.op= .slice t y lo (some hi) (some mx))(hk:(slice3T sy P t (ρ y) (lo.map ρ) (ρ hi) (ρ mx)).run E=some x): ∀h2,Pre h h2→Gives P [] h2 h2 ρ o x:=by
 unfold slice3T at hk
 split at hk
 ·rename_i sz' rows hy
  split at hk
  ·rename_i e sz l r m hel hl hr hm
   split at hk
   ·rename_i hsz
    have:=of_decide_eq_true hsz
    subst this
    obtain⟨hi,hk⟩:=chk_some hk
    obtain⟨hj,hk⟩:=chk_some hk
    cases hk
    have hi:=cutok_prop hi
    have hj:=cutok_prop hj
    exact fun h2 hp=>gives_slice3 hop hel hy hl hr hm hi.1 hi.2.1 hi.2.2 hj.2.2
   ·cases hk
  ·cases hk
 ·cases hk
theorem lookupT_sound (hE:E.Ok){t:TypeId}{y z:Operand}{c:Bool}(hop:o.op= .lookup t y z c)(hk:(lookupT sy P h t (ρ y) (ρ z) c).run E=some x): ∀h2,Pre h h2→Gives P [] h2 h2 ρ o x:=by
 unfold lookupT at hk
 split at hk
 ·rename_i e kk b k hm hy hz
  split at hk
  ·rename_i kk' rows zv s hb hze hsh hf
   split at hk
   ·rename_i hkk hzk
    have:=of_decide_eq_true hkk
    subst this
    obtain⟨x,h1,hk⟩:=run_bind_some hE hk
    have h1:=openT_run h1
    cases h1
    have:=fun h2 (hp:Pre h h2)=>gives_lookup (c:=c) hop hy (hp.at hb nofun) hm hze hzk hz (fits_of hf)
    cases c<;>cases hk<;>exact this
   ·cases hk
  ·cases hk
 ·cases hk
theorem extO_spec {f:FuncId}(hx:extO P f=some 0): ∃fn,P.funcs[f]? =some fn∧fn.body=none∧fn.origin= "" ∧fn.name= "internal/bytealg.IndexByteString" :=by
 unfold extO at hx
 split at hx
 ·rename_i fn hf
  split at hx
  ·cases hx
  ·rename_i hb
   split at hx
   ·rename_i h1 h2
    exact⟨fn,hf,hb,eq_of_beq h1,eq_of_beq h2⟩
   ·cases hx
   ·cases hx
 ·cases hx
theorem extO_spec1 {f:FuncId}(hx:extO P f=some 1): ∃fn,P.funcs[f]? =some fn∧fn.body=none∧fn.origin= "" ∧fn.name= "internal/bytealg.CountString" :=by
 unfold extO at hx
 split at hx
 ·rename_i fn hf
  split at hx
  ·cases hx
  ·rename_i hb
   split at hx
   ·cases hx
   ·rename_i h1 _ h2
    exact⟨fn,hf,hb,eq_of_beq h1,eq_of_beq h2⟩
   ·cases hx
 ·cases hx
theorem nilT_sound {op:BinOp}{t u:TypeId}{y:Operand}(hop:o.op= .binOp op t y (.const .nilIface) u)(hu:ifcB P t=true)(hk:(nilT sy op (ρ y) (ρ (.const .nilIface))).run E=some x):Gives P [] h h ρ o x:=by
 unfold nilT at hk
 split at hk
 ·rename_i b h1 h2
  cases hk
  exact gives_nilE hop hu (.inl h1) h2 rfl
 ·rename_i b h1 h2
  cases hk
  exact gives_nilE hop hu (.inl h1) h2 rfl
 ·rename_i h1 h2
  cases hk
  exact gives_nilE (b:=false) hop hu (.inr (.inl ⟨rfl,_,_,h1⟩)) h2 rfl
 ·rename_i h1 h2
  cases hk
  exact gives_nilE (b:=false) hop hu (.inr (.inl ⟨rfl,_,_,h1⟩)) h2 rfl
 ·rename_i t b cs h1 h2
  cases hk
  exact gives_nilE hop hu (.inr (.inr ⟨_,_,h1⟩)) h2 rfl
 ·rename_i t b cs h1 h2
  cases hk
  exact gives_nilE hop hu (.inr (.inr ⟨_,_,h1⟩)) h2 rfl
 ·cases hk
theorem gives_assert {y:Operand}{xt t:TypeId}{fs:Array Field}{cs:List D}(hop:o.op= .typeAssert y xt t true)(hu:P.underlying t=some (.struct fs))(hy1:ρ y= .ifc t cs):Gives P [] h h ρ o (.tup [.agg (cs.map .d), .d (.bool true)]):=
 .pure fun g ρ' w hs hy=>by
  have hr:=hy y
  rw[hy1]at hr
  generalize hu0:ρ' y=u0 at hr
  cases hr with
  |ifc _ us _ hl hr=>
   refine⟨.tuple #[.agg us, .bool true],?_, .tup _ _ rfl fun i u c h1 h2=> ?_⟩
   ·simp [execOp,hop,hu0,Instr.typeAssert,Sem.run_bind,run_underlying hu,Result.andThen_ok,Sem.run_pure]
   ·match i,h1,h2 with
    |0,h1,h2=>
     cases h1
     cases h2
     refine .agg us _ (by simpa using hl) fun i u c h1 h2=> ?_
     rw[List.getElem?_map,Option.map_eq_some_iff]at h2
     obtain⟨x,hx,rfl⟩:=h2
     exact .d (hr i u x h1 hx)
    |1,h1,h2=>
     cases h1
     cases h2
     exact .d (.bool true)
theorem gives_makeIface {t:TypeId}{y:Operand}{fs:Array Field}{cs:List V}{ds:List D}(hop:o.op= .makeInterface t y)(hu:P.underlying t=some (.struct fs))(hy1:ρ y= .agg cs)(hd:allDs cs=some ds):Gives P [] h h ρ o (.ifc t ds):=
 .pure fun g ρ' w hs hy=>by
  have hr:=hy y
  rw[hy1]at hr
  have e:=allDs_spec hd
  subst e
  generalize hu0:ρ' y=u0 at hr
  cases hr with
  |agg us _ hl hr=>
   refine⟨.iface t (.agg us),?_, .ifc t us ds (by simpa using hl) fun i u c h1 h2=> ?_⟩
   ·simp [execOp,hop,hu0,Instr.makeInterface,Sem.run_bind,run_underlying hu,Result.andThen_ok,Sem.run_pure]
   ·have:=hr i u (.d c) h1 (by rw[List.getElem?_map,h2];rfl)
    cases this with
    |d h=>exact h
theorem gives_makeIfaceP {t e:TypeId}{y:Operand}{b off:Nat}(hop:o.op= .makeInterface t y)(hu:P.underlying t=some (.pointer e))(hy1:ρ y= .ptr b off):Gives P [] h h ρ o (.ifp t b off):=
 .pure fun g ρ' w hs hy=>by
  have hr:=hy y
  rw[hy1]at hr
  generalize hu0:ρ' y=u0 at hr
  cases hr with
  |ptr _ _ hb=>
   refine⟨.iface t (.pointer (some ⟨g.blk b,off,none⟩)),?_, .ifp t b off hb⟩
   simp [execOp,hop,hu0,Instr.makeInterface,Sem.run_bind,run_underlying hu,Result.andThen_ok,Sem.run_pure]
theorem byN_some {r:List D}(h:(byN r).isSome=true): ∃n,r= [.int .u8 n]∧byN r=some n:=by
 unfold byN at h ⊢
 split at h
 ·exact⟨_,rfl,rfl⟩
 ·cases h
theorem gives_convB {s t:TypeId}{y:Operand}{rows:List (List D)}(hop:o.op= .convert s t y)(hy1:ρ y= .d (.sl 1 rows))(hu:P.underlying t=some .string)(hb:byteB P s=true)(hi:sy.isby rows=true):Gives P [] h h ρ o (.d (.str (sy.bstr rows))):=
 .pure fun g ρ' w hs hy=>by
  obtain⟨e,hs1,he⟩: ∃e,P.underlying s=some (.slice e)∧P.underlying e=some (.int .u8):=by
   unfold byteB at hb
   split at hb
   ·rename_i e h1
    split at hb
    ·exact⟨e,h1, ‹_›⟩
    ·cases hb
   ·cases hb
  have hr:=hy y
  rw[hy1]at hr
  generalize hu0:ρ' y=u0 at hr
  cases hr with
  |d hr=>
   refine⟨.string (sy.bstr rows),?_, .d (.str _)⟩
   have run: ∀v,(convert s t u0).run P w= .ok v w→(execOp ρ' o).run P w= .ok (.value v) w:=fun v hv=>by
    simp [execOp,hop,hu0,Sem.run_bind,hv,Result.andThen_ok,Sem.run_pure]
   refine run _ ?_
   cases hr with
   |slnil=>exact run_convert_bytes_nil w s e hs1 he 0 0 t hu
   |slemp a cap=>
    rw[run_convert_bytes_string w s t e _ 0 cap hs1 he hu,run_bytesToString w a 0 cap [] (by simpa using run_loadCells_list (P:=P) w a [] (fun j v hj=>by simp at hj))]
    rfl
   |sl blk off n cap _ _ U hn hcap hlen hZ hc hr=>
    have key: ∀i,i < n→w.cell? ⟨blk,off+i,none⟩=some (.int .u8 ((rows.map fun r=>(byN r).getD 0).getD i 0)):=fun i hi'=>by
     have hx:rows[i]? =some rows[i]:=List.getElem?_eq_getElem (by omega)
     obtain⟨m,h1,h2⟩:=byN_some (List.all_eq_true.1 hi rows[i] (List.getElem_mem (by omega)))
     have hc':=hc i rows[i] 0 (.int .u8 m) hx (by rw[h1];rfl)
     have hr':=hr i rows[i] 0 (.int .u8 m) hx (by rw[h1];rfl)
     rw[show off+(i*1+0)=off+i by omega]at hc'
     rw[hc']
     generalize U i 0=u at hr'
     cases hr'
     rw[List.getD_eq_getElem?_getD,List.getElem?_map,hx,Option.map_some,Option.getD_some,h2,Option.getD_some]
    exact run_convert_bytes_arg w s e hs1 he blk off n cap (rows.map fun r=>(byN r).getD 0) (by simpa using hn) key t hu
theorem opPT_sound (hE:E.Ok)(hk:(opPT sy P h ρ o).run E=some x): ∀h2,Pre h h2→Gives P [] h2 h2 ρ o x:=by
 unfold opPT at hk
 split at hk
 ·rename_i y hop;cases hk;exact fun h2 hp=>gives_copy (.inl hop)
 ·rename_i y hop;cases hk;exact fun h2 hp=>gives_copy (.inr hop)
 ·rename_i c a b hop
  split at hk
  ·rename_i t ht
   have:=fun h2 (hp:Pre h h2)=>gives_pick (P:=P) (h:=h2) hop ht
   cases t<;>cases hk<;>exact this
  ·cases hk
 ·rename_i t y hop;exact loadT_sound hE hop hk
 ·rename_i s y f hop
  split at hk
  ·rename_i k hfk
   rw[addFT_eq]at hk
   split at hk
   ·rename_i v hv;cases hk;exact fun h2 hp=>gives_fieldAddr hop hfk hv
   ·cases hk
  ·cases hk
 ·rename_i t y f hop
  split at hk
  ·rename_i fs cs hu hy
   split at hk
   ·rename_i fl hf
    split at hk
    ·rename_i ha hx
     split at hk
     ·rename_i v hv
      cases hk
      exact fun h2 hp=>gives_field hop hu hf hy hx ha hv
     ·cases hk
    ·rename_i n ha hx hn
     split at hk
     ·rename_i hd
      cases hk
      exact fun h2 hp=>gives_fieldA hop hu hf hy hx ha hn (of_decide_eq_true hd)
     ·cases hk
    ·cases hk
   ·cases hk
  ·cases hk
 ·rename_i t y z hop
  split at hk
  ·rename_i k i0 hak
   split at hk
   ·rename_i kd i hz
    split at hk
    ·rename_i hi
     have hi:=of_decide_eq_true hi
     subst hi
     rw[addFT_eq]at hk
     split at hk
     ·rename_i v hv;cases hk;exact fun h2 hp=>gives_index_arr hop hak hz hv
     ·cases hk
    ·cases hk
   ·cases hk
  ·exact indexT_sound hop hk
 ·rename_i t y z hop
  split at hk
  ·rename_i s kd i hu hy hz
   obtain⟨hi,hk⟩:=chk_some hk
   cases hk
   have hi:=inr_prop hi
   exact fun h2 hp=>gives_indexS hop hu hy hz hi.1 hi.2
  ·cases hk
 ·rename_i op t y z u hop
  split at hk
  ·rename_i hu
   exact fun h2 hp=>nilT_sound hop hu hk
  ·exact binT_sound hop hk
 ·rename_i op t y hop
  split at hk
  ·rename_i b hy;cases hk;exact fun h2 hp=>gives_not hop hy
  ·rename_i k n hy;cases hk;exact fun h2 hp=>gives_neg hop hy
  ·cases hk
 ·rename_i s t y hop
  split at hk
  ·rename_i k' k n hu hs hy;cases hk;exact fun h2 hp=>gives_convI hop hy hu hs
  ·rename_i rows hu hs hy
   split at hk
   ·rename_i hb
    obtain⟨hi,hk⟩:=chk_some hk
    cases hk
    exact fun h2 hp=>gives_convB hop hy hu hb hi
   ·cases hk
  ·cases hk
 ·rename_i y i hop
  split at hk
  ·rename_i cs hy
   split at hk
   ·rename_i v hv;cases hk;exact fun h2 hp=>gives_extract hop hy hv
   ·cases hk
  ·cases hk
 ·rename_i y hop
  split at hk
  ·rename_i hs;cases hk;exact fun h2 hp=>gives_nilCheck hop hs
  ·cases hk
 ·rename_i t parts hop
  split at hk
  ·rename_i zs place hpl
   split at hk
   ·rename_i vs hfv hlv
    cases hk
    refine fun h2 hp=>gives_build hop hpl hfv ?_
    rw[List.all_eq_true]at hlv ⊢
    exact fun q hq=>liveC_pre hp (hlv q hq)
   ·cases hk
  ·cases hk
 ·rename_i t y z c hop;exact lookupT_sound hE hop hk
 ·rename_i t y lo hi mx hop
  split at hk
  ·exact sliceT_sound hop hk
  ·split at hk
   ·exact slice3T_sound hop hk
   ·cases hk
 ·rename_i t y hop
  split at hk
  ·rename_i hu hy
   split at hk
   ·rename_i hd;cases hk;exact fun h2 hp=>gives_makeIface hop hu hy hd
   ·cases hk
  ·rename_i hu hy;cases hk;exact fun h2 hp=>gives_makeIfaceP hop hu hy
  ·cases hk
 ·rename_i y xt t ok hop
  split at hk
  ·rename_i hu hy
   split at hk
   ·rename_i hd
    have hd:=of_decide_eq_true hd
    subst hd
    cases hk
    exact fun h2 hp=>gives_assert hop hu hy
   ·cases hk
  ·cases hk
 ·rename_i fn first caps hop
  split at hk
  ·cases hk;exact fun h2 hp=>gives_makeFunc hop
  ·split at hk
   ·rename_i hy;cases hk;exact fun h2 hp=>gives_makeBound hop hy
   ·cases hk
  ·cases hk
 ·rename_i t n parts hop
  split at hk
  ·rename_i e sz vs hlit hl
   split at hk
   ·rename_i ss hss
    split at hk
    ·rename_i rows hr
     cases hk
     refine fun h2 hp=>gives_buildSliceD hop hlit ?_ hr
     rw[List.all_eq_true]at hl ⊢
     exact fun q hq=>liveC_pre hp (hl q hq)
    ·cases hk
   ·cases hk
  ·cases hk
 ·rename_i c hop
  split at hk
  ·rename_i y ts
   split at hk
   ·rename_i t ht;exact vlenT_sound hop ht hk
   ·cases hk
  ·rename_i y ts
   split at hk
   ·rename_i t ht hy
    split at hk
    ·rename_i e hu
     cases hk
     exact fun h2 hp=>gives_capNil hop ht hu hy
    ·cases hk
   ·cases hk
  ·rename_i y z ts
   split at hk
   ·rename_i k a k' b hy hz
    split at hk
    ·rename_i hkk
     have:=of_decide_eq_true hkk
     subst this
     cases hk
     exact fun h2 hp=>gives_max hop hy hz
    ·cases hk
   ·cases hk
  ·rename_i y z ts
   split at hk
   ·rename_i k a k' b hy hz
    split at hk
    ·rename_i hkk
     have:=of_decide_eq_true hkk
     subst this
     cases hk
     exact fun h2 hp=>gives_min hop hy hz
    ·cases hk
   ·cases hk
  ·split at hk
   ·rename_i f hq
    split at hk
    ·rename_i s c hx hy hz
     cases hk
     obtain⟨fn,hf,hb,ho,hn⟩:=extO_spec hx
     obtain⟨k1,k2⟩:=find_idx hn ho
     exact fun h2 hp=>gives_ext hop hq hf hb (by rw[hn];rfl) k1 k2 hy hz (fun w=>Lib.run_indexByteString s c w)
    ·rename_i s c hx hy hz
     cases hk
     obtain⟨fn,hf,hb,ho,hn⟩:=extO_spec1 hx
     obtain⟨k1,k2⟩:=find_cnt hn ho
     exact fun h2 hp=>gives_ext hop hq hf hb (by rw[hn];rfl) k1 k2 hy hz (fun w=>Lib.run_countString s c w)
    ·cases hk
   ·cases hk
  ·cases hk
 ·cases hk
end
section
variable {P : Program} {M : List Nat} {h h' : List Box}
def inv (L:List Nat)(n b:Nat):Option Nat:=match L.idxOf? b with
 |some i=>some i
 |none=>if b < n then none else some (L.length+(b - n))
theorem inv_ext {L:List Nat}{n:Nat}(hnd:L.Nodup)(hlt: ∀b∈L,b < n)(i:Nat):inv L n (ext L n i)=some i:=by
 unfold inv ext
 cases h:L[i]? with
 |some b=>simp only [idxOf_at hnd h]
 |none=>
  have hi:L.length≤i:=List.getElem?_eq_none_iff.1 h
  have hno:L.idxOf? (n+(i - L.length))=none:=by
   cases hq:L.idxOf? (n+(i - L.length))with
   |none=>rfl
   |some j=>have:=hlt _ (List.mem_of_getElem? (idxOf_some hq));omega
  simp only [hno]
  rw[if_neg (by omega)]
  congr 1;omega
theorem ext_inv {L:List Nat}{n b i:Nat}(hlt: ∀b∈L,b < n)(h:inv L n b=some i):ext L n i=b:=by
 unfold inv at h
 unfold ext
 cases hq:L.idxOf? b with
 |some j=>
  rw[hq]at h
  cases h
  rw[idxOf_some hq]
 |none=>
  rw[hq]at h
  simp only at h
  split at h
  ·cases h
  ·cases h
   rw[List.getElem?_eq_none (by omega)]
   simp only;omega
theorem inv_none {L:List Nat}{n b:Nat}(h:inv L n b=none):b ∉ L∧b < n:=by
 unfold inv at h
 cases hq:L.idxOf? b with
 |some j=>rw[hq]at h;cases h
 |none=>
  rw[hq]at h
  simp only at h
  split at h
  ·exact⟨idxOf_none hq,by assumption⟩
  ·cases h
def amongH (h:List Box)(L M':List Nat)(h':List Box):List Box:=
 (h.zipIdx.map fun xb=>match L.idxOf? xb.2 with
  |some i=>(h'.getD i .gone).ren (ext L h.length)
  |none=>xb.1.kill M')++(h'.drop L.length).map (Box.ren (ext L h.length))
theorem among_at {L M':List Nat}{b:Nat}{x:Box}(hlt: ∀b∈L,b < h.length)(hl:L.length≤h'.length)(hx:(amongH h L M' h')[b]? =some x):
  (∃i y,inv L h.length b=some i∧h'[i]? =some y∧x=y.ren (ext L h.length))∨(inv L h.length b=none∧ ∃y,h[b]? =some y∧x=y.kill M'):=by
 unfold amongH at hx
 by_cases hb:b < h.length
 ·rw[List.getElem?_append_left (by simpa using hb),List.getElem?_map,Option.map_eq_some_iff]at hx
  obtain⟨⟨y,k⟩,hy,rfl⟩:=hx
  rw[List.getElem?_zipIdx,Option.map_eq_some_iff]at hy
  obtain⟨y',hy',he⟩:=hy
  simp only [Nat.zero_add,Prod.mk.injEq]at he
  obtain⟨rfl,rfl⟩:=he
  simp only
  cases hq:L.idxOf? b with
  |some i=>
   left
   have hi:i < L.length:=(List.getElem?_eq_some_iff.1 (idxOf_some hq)).1
   refine⟨i,h'[i]'(by omega),by unfold inv;rw[hq],List.getElem?_eq_getElem (by omega),?_⟩
   simp only
   rw[List.getD_eq_getElem?_getD,List.getElem?_eq_getElem (by omega)];rfl
  |none=>
   right
   refine⟨?_,y',hy',rfl⟩
   unfold inv
   rw[hq]
   simp only
   rw[if_pos hb]
 ·left
  rw[List.getElem?_append_right (by simp;omega),List.getElem?_map,Option.map_eq_some_iff]at hx
  obtain⟨y,hy,rfl⟩:=hx
  simp only [List.length_map,List.length_zipIdx]at hy
  rw[List.getElem?_drop]at hy
  refine⟨_,y,?_,hy,rfl⟩
  have hq:L.idxOf? b=none:=by
   cases hq:L.idxOf? b with
   |none=>rfl
   |some j=>exact absurd (hlt _ (List.mem_of_getElem? (idxOf_some hq))) hb
  unfold inv
  rw[hq]
  simp only
  rw[if_neg hb]
theorem kill_at (M':List Nat)(x:Box)(g:Gh)(b:Nat):(x.kill M').at? g b=x.at? g b:=by cases x<;>rfl
def XCall (P:Program)(M:List Nat)(f:FuncId)(args:List V)(h:List Box)(R:Ending→World→Gh→Prop)(h':List Box):Prop:=
 ∀(g:Gh) (w:World) (us:List Value),SimH g h w→Reps w g us args→
  Calls P f us.toArray w fun e w'=> ∃g',R e w' g'∧Keep M g h w g' h' w'
def RetV (r:V)(e:Ending)(w:World)(g:Gh):Prop:= ∃u,e= .returned u∧Rep w g u r
def PanV (p:V)(e:Ending)(w:World)(g:Gh):Prop:= ∃u,e= .panicked [{ v:=u,recovered:=false }]∧Rep w g u p
theorem XCall.ret {f:FuncId}{args:List V}{r:V}:XCall P M f args h (RetV r) h'↔HCall P M f args h r h':=by
 constructor
 ·intro hc g w us hs hu
  refine(hc g w us hs hu).mono ?_
  rintro e w' ⟨g',⟨u,he,hr⟩,hk⟩
  exact⟨u,g',he,hr,hk⟩
 ·intro hc g w us hs hu
  refine(hc g w us hs hu).mono ?_
  rintro e w' ⟨u,g',he,hr,hk⟩
  exact⟨g',⟨u,he,hr⟩,hk⟩
theorem XCall.among {f:FuncId}{args:List V}{L:List Nat}{R R':Ending→World→Gh→Prop}(hL:reachOK h L args=true)
  (hR: ∀(g g':Gh) e w,(∀b o,g.Z b o→g'.Z b o)→(∀b,b < g.n→g'.blk (ext L h.length b)=g.blk b∧g'.val (ext L h.length b)=g.val b∧ext L h.length b < g'.n∧g'.cd (ext L h.length b)=g.cd b)→R e w g→R' e w g')
  (hc:XCall P M f (args.map (V.ren (tau L))) (smallH h L) R h'):
  XCall P (M.map (ext L h.length)) f args h R' (amongH h L (M.map (ext L h.length)) h'):=by
 obtain⟨q1,q2,q3,q4⟩:=reachOK_spec hL
 intro g w us hs hu
 generalize hσe:ext L h.length=σ
 generalize hMe:M.map σ=M'
 let g2:Gh:= { Z:=g.Z,n:=L.length,blk:=fun i=>g.blk (σ i),val:=fun i=>g.val (σ i),cd:=fun i=>g.cd (σ i) }
 have hσ2: ∀b,b < g2.n→g2.blk b=g.blk (σ b)∧g2.val b=g.val (σ b)∧g2.cd b=g.cd (σ b):=fun b _=>⟨rfl,rfl,rfl⟩
 have hσL: ∀ {i b:Nat},L[i]? =some b→σ i=b:=fun hi=>by rw[←hσe];simp [ext,hi]
 have hbox: ∀(i:Nat) x,(smallH h L)[i]? =some x→ ∃b y,L[i]? =some b∧σ i=b∧h[b]? =some y∧y.inB L=true∧x=y.ren (tau L)∧i < L.length:=by
  intro i x hx
  simp only [smallH,List.getElem?_map,Option.map_eq_some_iff]at hx
  obtain⟨b,hb,rfl⟩:=hx
  have hlt:=q2 b (List.mem_of_getElem? hb)
  refine⟨b,h[b],hb,hσL hb,List.getElem?_eq_getElem hlt,?_,?_,(List.getElem?_eq_some_iff.1 hb).1⟩
  ·have:=q4 b (List.mem_of_getElem? hb)
   rwa [List.getD_eq_getElem?_getD,List.getElem?_eq_getElem hlt]at this
  ·rw[List.getD_eq_getElem?_getD,List.getElem?_eq_getElem hlt];rfl
 have hat2: ∀(i:Nat) (y:Box),(y.ren (tau L)).at? g2 i=y.at? g (σ i):=fun i y=>by cases y<;>rfl
 have hown2: ∀k,Owned g2 (smallH h L) k→ ∃b y,b∈L∧h[b]? =some y∧y.at? g b=some k:=by
  rintro k ⟨i,x,hx,hk'⟩
  obtain⟨b,y,hb,e,hy,_,rfl,_⟩:=hbox i x hx
  rw[hat2,e]at hk'
  exact⟨b,y,List.mem_of_getElem? hb,hy,hk'⟩
 have hown2': ∀k,Owned g2 (smallH h L) k→Owned g h k:=fun k hk=>by
  obtain⟨b,y,_,hy,hk'⟩:=hown2 k hk
  exact⟨b,y,hy,hk'⟩
 have hs2:SimH g2 (smallH h L) w:=by
  refine⟨by simp [smallH,g2],fun i x hx=> ?_,fun i j x y k hx hy hkx hky=> ?_,fun k o hk' hz=>hs.zsep k o (hown2' k hk') hz,hs.zlt,hs.tab⟩
  ·obtain⟨b,y,hb,e,hy,hin,rfl,hi⟩:=hbox i x hx
   refine back_box (g:=g) (g0:=g2) (σ:=σ) rfl hσ2 hi (Box.ren_sc hin) ?_
   rw[←hσe,Box.ren_ren hin,hσe,e]
   exact hs.rep b y hy
  ·obtain⟨b,y',hb,e,hy',_,rfl,_⟩:=hbox i x hx
   obtain⟨c,z',hc,e',hz',_,rfl,_⟩:=hbox j y hy
   rw[hat2,e]at hkx;rw[hat2,e']at hky
   have:=hs.sep b c y' z' k hy' hz' hkx hky
   subst this
   have a1:=idxOf_at q1 hb
   have a2:=idxOf_at q1 hc
   rw[a1]at a2;exact Option.some.inj a2
 have hu2:Reps w g2 us (args.map (V.ren (tau L))):=by
  refine⟨by rw[List.length_map];exact hu.1,fun i u v h1 h2=> ?_⟩
  rw[List.getElem?_map,Option.map_eq_some_iff]at h2
  obtain⟨v0,hv0,rfl⟩:=h2
  have hin:v0.inB L=true:=by
   have: ∀ {cs:List V},V.inLs L cs=true→ ∀c∈cs,c.inB L=true:=by
    intro cs
    induction cs with
    |nil=>intro _ c hc;simp at hc
    |cons d ds ih=>
     intro hd c hc
     have hd:(d.inB L&&V.inLs L ds)=true:=hd
     rw[Bool.and_eq_true]at hd
     rcases List.mem_cons.1 hc with rfl|hc
     ·exact hd.1
     ·exact ih hd.2 c hc
   exact this q3 v0 (List.mem_of_getElem? hv0)
  refine ren_back (g:=g) (g0:=g2) (σ:=σ) rfl hσ2 (hu.2 i u v0 h1 hv0) ?_ (V.ren_sc hin)
  rw[←hσe,V.ren_ren hin]
 refine(hc g2 w us hs2 hu2).mono ?_
 rintro e0 w' ⟨g3,hru,hk⟩
 have hn3:g3.n=h'.length:=hk.heap.n
 have hl3:L.length≤h'.length:=by rw[←hn3];exact hk.le.n
 have hgn:g.n=h.length:=hs.n
 let g4:Gh:= { Z:=g3.Z,n:=h.length+(h'.length - L.length),blk:=fun b=>match inv L h.length b with
  |some i=>g3.blk i
  |none=>g.blk b,val:=fun b=>match inv L h.length b with
  |some i=>g3.val i
  |none=>g.val b,cd:=fun b=>match inv L h.length b with
  |some i=>g3.cd i
  |none=>g.cd b }
 have hie: ∀i,inv L h.length (σ i)=some i:=fun i=>by rw[←hσe];exact inv_ext q1 q2 i
 have hei: ∀ {b i:Nat},inv L h.length b=some i→σ i=b:=fun hb=>by rw[←hσe];exact ext_inv q2 hb
 have hσ4: ∀b,b < g3.n→g4.blk (σ b)=g3.blk b∧g4.val (σ b)=g3.val b∧σ b < g4.n∧g4.cd (σ b)=g3.cd b:=by
  intro i hi
  refine⟨by simp only [g4,hie],by simp only [g4,hie],?_,by simp only [g4,hie]⟩
  show σ i < h.length+(h'.length - L.length)
  rw[←hσe]
  unfold ext
  cases hq:L[i]? with
  |some b=>have:=q2 b (List.mem_of_getElem? hq);simp only;omega
  |none=>have:=List.getElem?_eq_none_iff.1 hq;simp only;omega
 have h4o: ∀b,inv L h.length b=none→g4.blk b=g.blk b∧g4.val b=g.val b∧g4.cd b=g.cd b:=fun b hb=>by
  refine⟨?_,?_,?_⟩<;>simp only [g4,hb]
 have hMb: ∀b,inv L h.length b=none→b ∉ M':=by
  intro b hb hm
  rw[←hMe,List.mem_map]at hm
  obtain⟨i,_,rfl⟩:=hm
  rw[hie]at hb;cases hb
 have hle:g.Le (· ∈M') g4:=by
  refine⟨hk.le.Z,by show g.n≤h.length+_;omega,fun b hb hm=> ?_,fun b hb hm=> ?_,fun b hb=> ?_⟩
  ·cases hq:inv L h.length b with
   |none=>exact(h4o b hq).1
   |some i=>
    have he:=hei hq
    have hi:i < L.length:=by
     have:=hσ4
     by_cases hi:i < L.length
     ·exact hi
     ·exfalso
      rw[←hσe]at he
      unfold ext at he
      rw[List.getElem?_eq_none (by omega)]at he
      simp only at he;omega
    simp only [g4,hq]
    rw[hk.le.blk i hi (fun him=>hm (by rw[←hMe,←he];exact List.mem_map_of_mem him))]
    show g.blk (σ i)=g.blk b
    rw[he]
  ·cases hq:inv L h.length b with
   |none=>exact(h4o b hq).2.1
   |some i=>
    have he:=hei hq
    have hi:i < L.length:=by
     by_cases hi:i < L.length
     ·exact hi
     ·exfalso
      rw[←hσe]at he
      unfold ext at he
      rw[List.getElem?_eq_none (by omega)]at he
      simp only at he;omega
    simp only [g4,hq]
    rw[hk.le.val i hi (fun him=>hm (by rw[←hMe,←he];exact List.mem_map_of_mem him))]
    show g.val (σ i)=g.val b
    rw[he]
  ·cases hq:inv L h.length b with
   |none=>exact(h4o b hq).2.2
   |some i=>
    have he:=hei hq
    have hi:i < L.length:=by
     by_cases hi:i < L.length
     ·exact hi
     ·exfalso
      rw[←hσe]at he
      unfold ext at he
      rw[List.getElem?_eq_none (by omega)]at he
      simp only at he;omega
    simp only [g4,hq]
    rw[hk.le.cd i hi]
    show g.cd (σ i)=g.cd b
    rw[he]
 have ho:Over M' w g w' g4:=⟨hle,fun b o hz=>hk.fr.cell (hs.zlt b o hz) (fun hk'=>hs.zsep b o (hown2' b hk') hz)⟩
 have hout: ∀ {b:Nat} {y:Box} {k:Nat},inv L h.length b=none→h[b]? =some y→y.at? g b=some k→ ¬Owned g2 (smallH h L) k:=by
  intro b y k hb hy hk' hO
  obtain⟨c,z,hc,hz,hkz⟩:=hown2 k hO
  have:=hs.sep b c y z k hy hz hk' hkz
  subst this
  exact(inv_none hb).1 hc
 have hat4: ∀ {b:Nat} (y:Box),inv L h.length b=none→(y.kill M').at? g4 b=y.at? g b:=by
  intro b y hb
  rw[kill_at]
  obtain⟨e1,e2,_⟩:=h4o b hb
  cases y<;>simp only [Box.at?,e1,e2]
 have hat3: ∀ {b i:Nat} (y:Box),inv L h.length b=some i→i < g3.n→(y.ren σ).at? g4 b=y.at? g3 i:=by
  intro b i y hb hi
  rw[←hei hb]
  exact ren_at σ (hσ4 i hi).1 (hσ4 i hi).2.1 y
 have hA: ∀ {b:Nat} {x:Box},(amongH h L M' h')[b]? =some x→(∃i y,inv L h.length b=some i∧h'[i]? =some y∧x=y.ren σ)∨(inv L h.length b=none∧ ∃y,h[b]? =some y∧x=y.kill M'):=fun hx=>by
  rw[←hσe]
  exact among_at q2 hl3 hx
 refine⟨g4,hR g3 g4 e0 w' (fun _ _ hz=>hz) (by rw[hσe];exact hσ4) hru,⟨?_,hle,hk.fr.mono hown2',fun b o hz=> ?_,?_⟩⟩
 ·refine⟨?_,fun b x hx=> ?_,fun b c x y k hx hy hkx hky=> ?_,?_,hk.heap.zlt,hk.heap.tab⟩
  ·show h.length+(h'.length - L.length)=_
   simp [amongH]
  ·rcases hA hx with⟨i,y,hb,hy,rfl⟩|⟨hb,y,hy,rfl⟩
   ·have hi:i < g3.n:=by rw[hn3];exact(List.getElem?_eq_some_iff.1 hy).1
    rw[←hei hb]
    exact ren_box (g:=g3) (g':=g4) (σ:=σ) (fun _ _ hz=>hz) hσ4 hi (hk.heap.rep i y hy)
   ·exact BoxRep.over ho (by rw[hgn];exact(inv_none hb).2) (hMb b hb) (fun k hk'=>hk.fr.block k ((hs.rep b y hy).lt hk') (hout hb hy hk')) (hs.rep b y hy)
  ·rcases hA hx with⟨i,x',hb,hx',rfl⟩|⟨hb,x',hx',rfl⟩<;>rcases hA hy with⟨j,y',hc',hy',rfl⟩|⟨hc',y',hy',rfl⟩
   ·rw[hat3 x' hb (by rw[hn3];exact(List.getElem?_eq_some_iff.1 hx').1)]at hkx
    rw[hat3 y' hc' (by rw[hn3];exact(List.getElem?_eq_some_iff.1 hy').1)]at hky
    have:=hk.heap.sep i j x' y' k hx' hy' hkx hky
    subst this
    rw[←hei hb,←hei hc']
   ·rw[hat3 x' hb (by rw[hn3];exact(List.getElem?_eq_some_iff.1 hx').1)]at hkx
    rw[hat4 y' hc']at hky
    exfalso
    rcases hk.own k ⟨i,x',hx',hkx⟩with h1|h1
    ·exact hout hc' hy' hky h1
    ·have:=(hs.rep c y' hy').lt hky;omega
   ·rw[hat3 y' hc' (by rw[hn3];exact(List.getElem?_eq_some_iff.1 hy').1)]at hky
    rw[hat4 x' hb]at hkx
    exfalso
    rcases hk.own k ⟨j,y',hy',hky⟩with h1|h1
    ·exact hout hb hx' hkx h1
    ·have:=(hs.rep b x' hx').lt hkx;omega
   ·rw[hat4 x' hb]at hkx
    rw[hat4 y' hc']at hky
    exact hs.sep b c x' y' k hx' hy' hkx hky
  ·rintro k o ⟨b,x,hx,hkx⟩ hz
   rcases hA hx with⟨i,x',hb,hx',rfl⟩|⟨hb,x',hx',rfl⟩
   ·rw[hat3 x' hb (by rw[hn3];exact(List.getElem?_eq_some_iff.1 hx').1)]at hkx
    exact hk.heap.zsep k o ⟨i,x',hx',hkx⟩ hz
   ·rw[hat4 x' hb]at hkx
    rcases hk.znew k o hz with h1|h1|h1
    ·exact hs.zsep k o ⟨b,x',hx',hkx⟩ h1
    ·have:=(hs.rep b x' hx').lt hkx;omega
    ·exact hout hb hx' hkx h1
 ·rcases hk.znew b o hz with h1|h1|h1
  ·exact .inl h1
  ·exact .inr (.inl h1)
  ·exact .inr (.inr (hown2' b h1))
 ·rintro k ⟨b,x,hx,hkx⟩
  rcases hA hx with⟨i,x',hb,hx',rfl⟩|⟨hb,x',hx',rfl⟩
  ·rw[hat3 x' hb (by rw[hn3];exact(List.getElem?_eq_some_iff.1 hx').1)]at hkx
   rcases hk.own k ⟨i,x',hx',hkx⟩with h1|h1
   ·exact .inl (hown2' k h1)
   ·exact .inr h1
  ·rw[hat4 x' hb]at hkx
   exact .inl ⟨b,x',hx',hkx⟩
theorem HCall.among {f:FuncId}{args:List V}{L:List Nat}{r:V}(hL:reachOK h L args=true)(hc:HCall P M f (args.map (V.ren (tau L))) (smallH h L) r h'):
  HCall P (M.map (ext L h.length)) f args h (r.ren (ext L h.length)) (amongH h L (M.map (ext L h.length)) h'):=
 XCall.ret.1 (XCall.among hL (fun _ _ _ _ hz hσ ⟨u,he,hr⟩=>⟨u,he,ren_rep hz hσ hr⟩) (XCall.ret.2 hc))
theorem XCall.amongP {f:FuncId}{args:List V}{L:List Nat}{p:V}(hL:reachOK h L args=true)(hc:XCall P M f (args.map (V.ren (tau L))) (smallH h L) (PanV p) h'):
  XCall P (M.map (ext L h.length)) f args h (PanV (p.ren (ext L h.length))) (amongH h L (M.map (ext L h.length)) h'):=
 XCall.among hL (fun _ _ _ _ hz hσ ⟨u,he,hr⟩=>⟨u,he,ren_rep hz hσ hr⟩) hc
end
end Go.Vm
end
