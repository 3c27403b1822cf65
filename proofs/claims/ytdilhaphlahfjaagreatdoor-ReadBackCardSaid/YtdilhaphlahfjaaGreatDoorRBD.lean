/- Part RBD of the proof. What is proved by the whole: the statement that the claim names, with no condition. -/
import Derived.Test.YtdilhaphlahfjaaGreatDoorRBC
import Derived.ScopeJumps
import Derived.RecoverIn
import Derived.KernelRfl
set_option linter.all false
section
namespace Go.Vm
inductive Sk where
 |any
 |nils
 |d (s:Sh)
 |agg (l:List Sk)
 |tup (l:List Sk)
 |own (b:Nat)
 |ptr (b off:Nat)
 |mv (f:FuncId) (b off:Nat)
 |ifp (t:TypeId) (b off:Nat)
 |pel (l:List Sh)
 |pml (b sz i off:Nat)
 |nilp
 |fn (f:FuncId) (l:List Sk)
 |nilf
 |ifn
 |ifo (t:TypeId) (l:List Sh)
 |map (b:Nat)
 |yld (b:Nat) (R:RecI)
 |osl (b sz:Nat)
def D.sh:D->Sh
 | .int k _=> .int k
 | .bool _=> .bool
 | .str _=> .str
 | .sl sz _=> .sl sz
mutual
def V.sk:V->Sk
 | .any=> .any
 | .nils=> .nils
 | .d x=> .d x.sh
 | .agg cs=> .agg (V.skL cs)
 | .tup cs=> .tup (V.skL cs)
 | .own b=> .own b
 | .ptr b off=> .ptr b off
 | .mv f b off=> .mv f b off
 | .ifp f b off=> .ifp f b off
 | .pel cs=> .pel (cs.map D.sh)
 | .pml b sz i off=> .pml b sz i off
 | .nilp=> .nilp
 | .fn f cs=> .fn f (V.skL cs)
 | .nilf=> .nilf
 | .ifn _=> .ifn
 | .ifc .. => .any
 | .ifo t _ cs=> .ifo t (cs.map D.sh)
 | .map b=> .map b
 | .yld b R=> .yld b R
 | .osl b sz _ _=> .osl b sz
def V.skL:List V->List Sk
 | []=>[]
 |c::cs=>c.sk::V.skL cs
end
def u3m:List Sh->List D->Option (List D)
 | [],[]=>some []
 |s::ss,x::xs=>match decide (x.sh=s),u3m ss xs with
  |true,some ds=>some (x::ds)
  |_,_=>none
 |_,_=>none
mutual
def Sk.fit (n:Nat):Sk->V->Option (List D)
 | .any,_=>some []
 | .nils, .nils=>some []
 | .d s, .d x=>match decide (x.sh=s)with
   |true=>some [x]
   |false=>none
 | .d (.sl sz), .nils=>some [.sl sz []]
 | .agg l, .agg cs=>Sk.j0u n l cs
 | .tup l, .tup cs=>Sk.j0u n l cs
 | .own b, .own b'=>match decide (b'=b/\b < n)with
   |true=>some []
   |false=>none
 | .ptr b off, .ptr b' off'=>match decide (b'=b/\off'=off/\b < n)with
   |true=>some []
   |false=>none
 | .mv f b off, .mv f' b' off'=>match decide (f'=f/\b'=b/\off'=off/\b < n)with
   |true=>some []
   |false=>none
 | .ifp f b off, .ifp f' b' off'=>match decide (f'=f/\b'=b/\off'=off/\b < n)with
   |true=>some []
   |false=>none
 | .pel l, .pel cs=>u3m l cs
 | .pml b sz i off, .pml b' sz' i' off'=>match decide (b'=b/\sz'=sz/\i'=i/\off'=off/\b < n)with
   |true=>some []
   |false=>none
 | .nilp, .nilp=>some []
 | .fn f l, .fn f' cs=>match decide (f'=f)with
   |true=>Sk.j0u n l cs
   |false=>none
 | .nilf, .nilf=>some []
 | .ifn, .ifn b=>some [.bool b]
 | .ifo _ l, .ifn true=>some (.bool true::l.map y6g)
 | .ifo t l, .ifc t' cs=>match decide (t'=t),u3m l cs with
   |true,some ds=>some (.bool false::ds)
   |_,_=>none
 | .ifo t l, .ifo t' b cs=>match decide (t'=t),u3m l cs with
   |true,some ds=>some (.bool b::ds)
   |_,_=>none
 | .map b, .map b'=>match decide (b'=b/\b < n)with
   |true=>some []
   |false=>none
 | .yld b _, .yld b' _=>match decide (b'=b/\b < n)with
   |true=>some []
   |false=>none
 | .osl b sz, .osl b' sz' lo k=>match decide (b'=b/\sz'=sz/\b < n)with
   |true=>some [.int .i64 lo, .int .i64 k]
   |false=>none
 |_,_=>none
def Sk.j0u (n:Nat):List Sk->List V->Option (List D)
 | [],[]=>some []
 |k::ks,v::vs=>match Sk.fit n k v,Sk.j0u n ks vs with
  |some a,some b=>some (a++b)
  |_,_=>none
 |_,_=>none
end
section
variable (A : Sy)
mutual
def x8p:Sk->List D->Nat->Tree (V × Nat)
 | .any,_,j=> .ret (.any,j)
 | .nils,_,j=> .ret (.nils,j)
 | .d s,ds,j=>(y4n s (A.cell ds j)).bind fun x=> .ret (.d x,j+1)
 | .agg l,ds,j=>(y2j l ds j).bind fun r=> .ret (.agg r.1,r.2)
 | .tup l,ds,j=>(y2j l ds j).bind fun r=> .ret (.tup r.1,r.2)
 | .own b,_,j=> .ret (.own b,j)
 | .ptr b off,_,j=> .ret (.ptr b off,j)
 | .mv f b off,_,j=> .ret (.mv f b off,j)
 | .ifp f b off,_,j=> .ret (.ifp f b off,j)
 | .pel l,ds,j=>(x7b A l ds j).bind fun xs=> .ret (.pel xs,j+l.length)
 | .pml b sz i off,_,j=> .ret (.pml b sz i off,j)
 | .nilp,_,j=> .ret (.nilp,j)
 | .fn f l,ds,j=>(y2j l ds j).bind fun r=> .ret (.fn f r.1,r.2)
 | .nilf,_,j=> .ret (.nilf,j)
 | .ifn,ds,j=> .cB (A.cell ds j) fun b=> .ret (.ifn b,j+1)
 | .ifo t l,ds,j=> .cB (A.cell ds j) fun b=>(x7b A l ds (j+1)).bind fun xs=> .ret (.ifo t b xs,j+1+l.length)
 | .map b,_,j=> .ret (.map b,j)
 | .yld b R,_,j=> .ret (.yld b R,j)
 | .osl b sz,ds,j=> .cI (A.cell ds j) .i64 fun lo=> .cI (A.cell ds (j+1)) .i64 fun k=> .ret (.osl b sz lo k,j+2)
def y2j:List Sk->List D->Nat->Tree (List V × Nat)
 | [],_,j=> .ret ([],j)
 |k::ks,ds,j=>(x8p k ds j).bind fun r=>(y2j ks ds r.2).bind fun q=> .ret (r.1::q.1,q.2)
end
end
mutual
def Sk.okY (c:Nat->Option RecI):Sk->Prop
 | .yld b R=>c b=some R
 | .agg l=>Sk.j1q c l
 | .tup l=>Sk.j1q c l
 | .fn _ l=>Sk.j1q c l
 |_=>True
def Sk.j1q (c:Nat->Option RecI):List Sk->Prop
 | []=>True
 |k::ks=>k.okY c/\Sk.j1q c ks
end
mutual
def Sk.yB (n:Nat):Sk->Bool
 | .yld b _=>decide (b < n)
 | .agg l=>Sk.yBL n l
 | .tup l=>Sk.yBL n l
 | .fn _ l=>Sk.yBL n l
 |_=>true
def Sk.yBL (n:Nat):List Sk->Bool
 | []=>true
 |k::ks=>k.yB n&&Sk.yBL n ks
end
def CK.fitB:CK->CK->Bool
 | .ty t, .ty t'=>decide (t'=t)
 | .rcd .ready, .rcd .ready=>true
 | .rcd .busy, .rcd .busy=>true
 | .rcd (.done .ret), .rcd (.done .ret)=>true
 | .sit, .sit=>true
 |_,_=>false
def CK.j1w {k k':CK}(h:CK.fitB k k'=true):k'=k:=by
 unfold CK.fitB at h;split at h
 ·rw[a0f h]
 ·rfl
 ·rfl
 ·rfl
 ·rfl
 ·cases h
inductive BSk where
 |gone
 |mp (kk:KK)
 |cells (k:CK) (l:List Sk)
 |arr (e:TypeId) (sz:Nat)
def Box.sk:Box->BSk
 | .gone=> .gone
 | .mp kk _=> .mp kk
 | .cells t vs=> .cells t (V.skL vs)
 | .arr e sz _=> .arr e sz
def BSk.fit (n:Nat):BSk->Box->Option (List D)
 | .gone,_=>some []
 | .mp kk, .mp kk' rows=>match decide (kk'=kk)with
   |true=>some [.sl 2 rows]
   |false=>none
 | .cells t l, .cells t' vs=>match CK.fitB t t' with
   |true=>Sk.j0u n l vs
   |false=>none
 | .arr e sz, .arr e' sz' rows=>match decide (e'=e/\sz'=sz)with
   |true=>some [.sl sz rows]
   |false=>none
 |_,_=>none
def BSk.j0u (n:Nat):List BSk->List Box->Option (List D)
 | [],_=>some []
 |k::ks,x::xs=>match BSk.fit n k x,BSk.j0u n ks xs with
  |some a,some b=>some (a++b)
  |_,_=>none
 |_::_,[]=>none
section
variable (A : Sy)
def y8x:BSk->List D->Nat->Tree (Box × Nat)
 | .gone,_,j=> .ret (.gone,j)
 | .mp kk,ds,j=> .cL (A.cell ds j) 2 fun rows=> .ret (.mp kk rows,j+1)
 | .cells t l,ds,j=>(y2j A l ds j).bind fun r=> .ret (.cells t r.1,r.2)
 | .arr e sz,ds,j=> .cL (A.cell ds j) sz fun rows=> .ret (.arr e sz rows,j+1)
def y3c:List BSk->List D->Nat->Tree (List Box × Nat)
 | [],_,j=> .ret ([],j)
 |k::ks,ds,j=>(y8x A k ds j).bind fun r=>(y3c ks ds r.2).bind fun q=> .ret (r.1::q.1,q.2)
end
structure LAn where
 slots:List (Nat × Option Sk)
 nb:Nat:=1000
 gone:List Nat:=[]
 ice:List Nat:=[]
 own:List (Nat × Nat × TypeId):=[]
 sole:List Nat:=[]
 own2:List (Nat × Nat × Nat × Nat × TypeId):=[]
 dat:List (Nat × Nat × TypeId):=[]
def soleS (ks:List Nat)(s:VSt):VSt:=match ks with
 | []=>s
 |_=>⟨s.t,s.h.map (Box.kill (ks.flatMap fun k=>(s.t.getD k .any).j1p))⟩
def x1s.soleS {En:Ent}{a:Act}{w:World}{s:VSt}(ks:List Nat)(hs:x1s En s a w):x1s En (Go.Vm.soleS ks s) a w:=by
 cases ks with
 |nil=>exact hs
 |cons k ks=>
  unfold Go.Vm.soleS;simp only;generalize (List.flatMap (fun k=>(s.t.getD k .any).j1p) (k::ks))=M
  obtain⟨g,hs⟩:=hs;have ho:Over M w g w g:=⟨Gh.Le.refl _ _,fun _ _ _=>rfl⟩
  have hown: ∀k,x2o g (s.h.map (Box.kill M)) k->x2o g s.h k:=by
   rintro k ⟨b,x,hb,hx⟩
   rw[a0m,a0k]at hb;obtain⟨x0,h0,rfl⟩:=hb;exact⟨b,x0,h0,by rwa [Box.at?_kill]at hx⟩
  obtain⟨k1,k2,k3,k4⟩:=hs.keep;refine⟨g,⟨by simpa using hs.heap.n,fun b x hb=> ?_,fun b c x y k hb hc hx hy=> ?_,fun k o hk=>hs.heap.zsep k o (hown k hk),hs.heap.zlt,hs.heap.tab⟩,hs.size,hs.tmps,hs.defers.less hown rfl,⟨k1,k2,k3,fun k hk=>k4 k (hown k hk)⟩,hs.len⟩
  ·simp only at hb;rw[a0m,a0k]at hb;obtain⟨x0,h0,rfl⟩:=hb;have hr:=hs.heap.rep b x0 h0;cases x0 with
   |cells t vs=>
    obtain⟨us,o,h1,h0,h2,h3⟩:=hr;refine⟨us,o,h1,h0,by simpa using h2,fun i u v hu hv=> ?_⟩
    rw[a0m,a0k]at hv;obtain⟨v',hv',rfl⟩:=hv;exact ho.kill (h3 i u v' hu hv')
   |_=>exact hr
  ·simp only at hb hc;rw[a0m,a0k]at hb hc;obtain⟨x0,h0,rfl⟩:=hb;obtain⟨y0,h1,rfl⟩:=hc;rw[Box.at?_kill]at hx hy;exact hs.heap.sep b c x0 y0 k h0 h1 hx hy
structure Hd where
 slots:List (Nat × Sk)
 boxes:List BSk
def z5k (n0:Nat)(an:LAn)(s:VSt):Hd:=
 let live:=y5q s.h (List.range n0) (an.slots.map fun q=>s.t.getD q.1 .any)
 { slots:=an.slots.map fun q=>(q.1,match q.2 with
   |some sk=>sk
   |none=>(s.t.getD q.1 .any).sk)
   boxes:=((s.h.take an.nb).zipIdx.map fun xb=>match live.contains xb.2&& !an.gone.contains xb.2 with
    |true=>xb.1.sk
    |false=> .gone) }
def BSk.okY (c:Nat->Option RecI):BSk->Prop
 | .cells _ l=>Sk.j1q c l
 |_=>True
def BSk.yB (n:Nat):BSk->Bool
 | .cells _ l=>Sk.yBL n l
 |_=>true
def Hd.okY (c:Nat->Option RecI)(hd:Hd):Prop:=(∀q∈hd.slots,q.2.okY c)/\ ∀x∈hd.boxes,x.okY c
def Hd.yB (n:Nat)(hd:Hd):Bool:=(hd.slots.all fun q=>q.2.yB n)&&hd.boxes.all (BSk.yB n)
def w1p (n:Nat)(t:List V):List (Nat × Sk)->Option (List D)
 | []=>some []
 |(k,sk)::ls=>match Sk.fit n sk (t.getD k .any),w1p n t ls with
  |some a,some b=>some (a++b)
  |_,_=>none
def z9t (hd:Hd)(s:VSt):Option (List D):=match w1p hd.boxes.length s.t hd.slots,BSk.j0u hd.boxes.length hd.boxes s.h with
 |some a,some b=>some (a++b)
 |_,_=>none
section
variable (A : Sy)
def w0o:List (Nat × Sk)->List D->Nat->List V->Tree (List V × Nat)
 | [],_,j,acc=> .ret (acc,j)
 |(k,sk)::ls,ds,j,acc=>(x8p A sk ds j).bind fun r=>w0o ls ds r.2 (acc.set k r.1)
def y5s (hd:Hd)(len:Nat)(ds:List D):Tree VSt:=
 (w0o A hd.slots ds 0 (List.replicate len .any)).bind fun r=>(y3c A hd.boxes ds r.2).bind fun q=> .ret ⟨r.1,q.1⟩
end
structure CfgT where
 me:FuncId:=0
 o:CfgO
 loops:Nat->LAn
 cuts:Nat->Option LAn
 turn:Bool:=true
 rt:Option (List Nat):=none
 labs:Nat->Option LAn:=fun _=>none
 bx:Bool:=false
 dfr:Bool:=false
 pn:Option TypeId:=none
 rl:Option (List Nat):=none
def z8t:Nat->List Nat->List V->List V
 |_,_,[]=>[]
 |i,l,v::vs=>(match l.contains i with
  |true=>v
  |false=> .any)::z8t (i+1) l vs
def keepS (l:Option (List Nat))(s:VSt):VSt:=match l with
 |none=>s
 |some l=>⟨z8t 0 l s.t,s.h⟩
section
variable (A : Sy) (P : Program) (inR : Bool) (C : CfgT) (ent : Callee -> List V -> List Box -> Tree (List Nat × V × List Box)) (n0 : Nat) (M0 : List Nat)
def k8m (id:Nat)(r:Exit × VSt):Exit × VSt:=match r.1 with
 | .exit id'=>match decide (id'=id)with
   |true=>(.normal,r.2)
   |false=>r
 |_=>r
def q1y (hd:Hd)(r:Exit × VSt):Tree (List D ⊕ (Exit × VSt)):=match r.1 with
 | .normal=>match z9t hd r.2 with
   |some ds=> .ret (.inl ds)
   |none=> .fail
 |_=> .ret (.inr r)
def q6i (l:Nat)(hd:Hd)(r:Exit × VSt):Tree (List D ⊕ (Exit × VSt)):=match r.1 with
 | .goto l'=>match decide (l'=l),z9t hd r.2 with
   |true,some ds=> .ret (.inl ds)
   |_,_=> .fail
 |_=> .ret (.inr r)
def q6c:Code->Option (Nat × LAn)
 | .label l=>match C.labs l with
   |some an=>some (l,an)
   |none=>none
 |_=>none
def k8k:Bool->Code->Option (Nat × LAn)
 |true,x=>q6c C x
 |false,_=>none
def v5z:Code->Bool
 | .seq .. =>false
 | .label _=>false
 |_=>true
def k6b (q:Option V × VSt):Exit × VSt:=match q.1 with
 |none=>(.normal,q.2)
 |some p=>(.outgrown,⟨p::q.2.t,q.2.h⟩)
def k6c (s:VSt)(q:Option V × VSt):Exit × VSt:=match q.1 with
 |none=>(.normal,q.2)
 |some p=>(.outgrown,⟨p::s.t.map (fun _=>V.any),q.2.h⟩)
def q2e (l:List (Nat × Nat × TypeId))(r:Exit × VSt):Exit × VSt:=match r.1 with
 | .outgrown=>r
 |x=>(x,datB P r.2 l)
def x3c:Bool->Nat->Code->VSt->Tree (Exit × VSt)
 |_,_, .skip,s=> .ret (.normal,s)
 |_,_, .region _ ops draw,s=>match draw with
  |false=>(u1f A P ent C.o n0 M0 ops 0 ops.toList s).bind fun q=> .ret (k6b q)
  |true=>(q2c A P C.o ent n0 M0 ops s).bind fun q=> .ret (k6c s q)
 |sc,b, .seq x y,s=>match k8k C sc x with
  |some (l,an)=>
   let hd:=z5k n0 an s
   match decide (n0<=hd.boxes.length)&&hd.yB n0&&an.slots.all (fun q=>match q.2 with
    |some sk=>sk.yB 0
    |none=>true),z9t hd s with
   |true,some ds0=> .loop (fun ds=>(y5s A hd s.t.length ds).bind fun s1=>forceL s1.t fun t=>(x3c false b y ⟨t,s1.h⟩).bind (q6i l hd)) ds0
   |_,_=> .fail
  |none=>match C.cuts (v4q y)with
   |none=>(x3c false b x s).bind fun r=>match r.1 with
    | .normal=>x3c (sc&&v5z x) b y r.2
    |_=> .ret r
   |some an=>
    let s0:=datB P s an.dat
    let hd:=z5k n0 an s0
    match decide (n0<=hd.boxes.length)&&hd.yB n0&&an.slots.all (fun q=>match q.2 with
     |some sk=>sk.yB 0
     |none=>true)with
    |true=> .cut ((x3c false b x s0).bind fun r=>q1y hd (q2e P an.dat r)) fun ds=>(y5s A hd s0.t.length ds).bind fun s1=>forceL s1.t fun t=>x3c (sc&&v5z x) b y ⟨t,s1.h⟩
    |false=> .fail
 |_,b, .cond c x y,s=>match s.get c with
  | .d (.bool t)=> .ite t (x3c false b x (s.j2p c true)) (x3c false b y (s.j2p c false))
  |_=> .fail
 |_,_, .block id c,s=>(x3c false id c s).bind fun r=> .ret (k8m id r)
 |_,b, .loop c,s=>
  let s0:=datB P (soleS (C.loops b).sole (mintB P (mintP P (s.frz (C.loops b).ice) (C.loops b).own2) (C.loops b).own)) (C.loops b).dat
  let hd:=z5k n0 (C.loops b) s0
  match decide (n0<=hd.boxes.length)&&hd.yB n0&&(C.loops b).slots.all (fun q=>match q.2 with
   |some sk=>sk.yB 0
   |none=>true),z9t hd s0 with
  |true,some ds0=> .loop (fun ds=>(y5s A hd s0.t.length ds).bind fun s1=>forceL s1.t fun t=>(x3c false b c ⟨t,s1.h⟩).bind fun r=>q1y hd (q2e P (C.loops b).dat r)) ds0
  |_,_=> .fail
 |_,_, .exit id,s=> .ret (.exit id,s)
 |_,_, .ret,s=> .ret (.ret,s)
 |_,_, .label _,s=> .ret (.normal,s)
 |_,_, .goto l,s=> .ret (.goto l,s)
 |_,b, .scope c,s=>match inR with
  |true=> .fail
  |false=>(x3c true b c s).bind fun r=>match r.1 with
   | .goto _=> .fail
   |_=> .ret r
 |_,_, .rangeFunc y ps assign body,s=>match inR,s.get y with
  |false, .fn f caps=>match z1t P f with
   |some _=>(ent (.fn f) (.yld s.h.length ⟨C.me,ps,assign,body⟩::caps) (s.h++[.cells (.rcd .ready) (keepS C.rl s).t])).bind fun r=>match y0g r.2.1 with
    |some _=> .fail
    |none=>match okM n0 M0 r.1&& !r.1.contains s.h.length,r.2.2[s.h.length]? with
     |true,some (.cells (.rcd .ready) vs)=> .ret (.normal,⟨vs,r.2.2.set s.h.length .gone⟩)
     |true,some (.cells (.rcd (.done .ret)) vs)=> .ret (.ret,⟨vs,r.2.2.set s.h.length .gone⟩)
     |true,some (.cells (.rcd (.done (.exit id))) vs)=> .ret (.exit id,⟨vs,r.2.2.set s.h.length .gone⟩)
     |_,_=> .fail
   |none=> .fail
  |_,_=> .fail
 |_,_,_,_=> .fail
end
section
variable {P : Program} {E : Env}
def x8y: ∀ {ss:List Sh} {xs ds:List D},u3m ss xs=some ds->ds=xs/\xs.length=ss.length/\ ∀(i:Nat) x s,xs[i]? =some x->ss[i]? =some s->x.sh=s
 | [],[],ds,h=>by cases h;simp
 | [],_::_,ds,h=>by cases h
 |_::_,[],ds,h=>by cases h
 |s::ss,x::xs,ds,h=>by
  unfold u3m at h;split at h
  ·rename_i ds' hd h2;cases h;obtain⟨rfl,h3,h4⟩:=x8y h2;refine⟨rfl,by simp[h3],fun i y s' hy hs=> ?_⟩
   cases i with
   |zero=>simp at hy hs;subst hy;subst hs;exact a0f hd
   |succ i=>exact h4 i y s' (by simpa using hy) (by simpa using hs)
  ·cases h
def z4x {x:D}{v:Option D}{s:Sh}(h:v=some x)(hs:x.sh=s):(y4n s v).run E=some x:=by
 subst h;subst hs;cases x<;>simp[D.sh,y4n,Tree.run,opI,opB,opS,opL]
def At (full:List D)(j:Nat)(ds:List D):Prop:= ∀(i:Nat) x,ds[i]? =some x->full[j+i]? =some x
def At.left {full:List D}{j:Nat}{a b:List D}(h:At full j (a++b)):At full j a:=fun i x hx=>h i x (by
 rw[a0z,if_pos (a0c.1 hx).1];exact hx)
def At.right {full:List D}{j:Nat}{a b:List D}(h:At full j (a++b)):At full (j+a.length) b:=fun i x hx=>by
 have:=h (a.length+i) x (by rw[List.getElem?_append_right (by omega),Nat.add_sub_cancel_left];exact hx)
 rwa [<-a2e]at this
def At.head {full:List D}{j:Nat}{x:D}{b:List D}(h:At full j (x::b)):sy.cell full j=some x:=h 0 x rfl
def y8w (hE:E.Ok): ∀ {ss:List Sh} {full:List D} {j:Nat} {xs:List D},xs.length=ss.length->(∀(i:Nat) x s,xs[i]? =some x->ss[i]? =some s->x.sh=s)->At full j xs->(x7b sy ss full j).run E=some xs
 | [],full,j,xs,hl,_,_=>by
   have:xs= []:=by simpa using hl
   subst this;rfl
 |s::ss,full,j,[],hl,_,_=>by simp at hl
 |s::ss,full,j,x::xs,hl,hs,ha=>by
  unfold x7b;have h1:(y4n s (sy.cell full j)).run E=some x:=z4x ha.head (hs 0 x s rfl rfl);have h2:=y8w hE (ss:=ss) (full:=full) (j:=j+1) (xs:=xs) (by simpa using hl) (fun i y s' hy hs'=>hs (i+1) y s' (by simpa using hy) (by simpa using hs')) (fun i y hy=>by
   have:=ha (i+1) y (by simpa using hy)
   rwa [show j+1+i=j+(i+1) by omega])
  rw[run_bind hE,h1];simp only[a1l];rw[run_bind hE,h2];rfl
def WkY (n:Nat)(c:Nat->Option RecI)(v' v:V):Prop:= ∀(w:World) (g:Gh) (u:Value),(∀b x,c b=some x->g.rc b=some x)->Rep w g u v'->Rep w (g.cut n) u v
def k7k (n:Nat)(c:Nat->Option RecI)(x y:Box):Prop:=(∀(w:World) (g:Gh) (b:Nat),(∀b x,c b=some x->g.rc b=some x)->x1o w g b x->x1o w (g.cut n) b y)/\ ∀(g:Gh) (b k:Nat),y.at? (g.cut n) b=some k->x.at? g b=some k
def u2i {c:Nat->Option RecI}: ∀ {cs:List V},(∀(i:Nat) v,cs[i]? =some v->v.sk.okY c)->Sk.j1q c (V.skL cs)
 | [],_=>trivial
 |v::cs,h=>⟨h 0 v rfl,u2i fun i v hv=>h (i+1) v (by simpa using hv)⟩
def v3a {w:World}{g:Gh}{u:Value}{v:V}(hr:Rep w g u v):v.sk.okY g.rc:=by
 have aux: ∀(us:Array Value) (cs:List V),us.size=cs.length->(∀(i:Nat) u c,us[i]? =some u->cs[i]? =some c->c.sk.okY g.rc)->Sk.j1q g.rc (V.skL cs):=fun us cs hl h=>
  u2i fun i v hv=>by
   have hi:i < us.size:=by rw[hl];exact(a0c.1 hv).1
   exact h i _ v (a0x hi) hv
 induction hr with
 |agg us cs hl h ih=>exact aux us cs hl ih
 |tup us cs hl h ih=>exact aux us cs hl ih
 |fn f us cs hl h ih=>exact aux us cs hl ih
 |yld b R hb hc=>exact hc
 |_=>exact trivial
mutual
def z8a {c c':Nat->Option RecI}{n:Nat}(hc: ∀b,b < n->c' b=c b): ∀(sk:Sk),sk.okY c->sk.yB n=true->sk.okY c'
 | .yld b R,h,hb=>by
   have h:c b=some R:=h;have hb:b < n:=a0f hb;show c' b=some R;rw[hc b hb,h]
 | .agg l,h,hb=>x8s hc l h hb
 | .tup l,h,hb=>x8s hc l h hb
 | .fn _ l,h,hb=>x8s hc l h hb
 | .any,_,_=>trivial
 | .nils,_,_=>trivial
 | .d _,_,_=>trivial
 | .own _,_,_=>trivial
 | .ptr _ _,_,_=>trivial
 | .mv ..,_,_=>trivial
 | .ifp ..,_,_=>trivial
 | .pel _,_,_=>trivial
 | .pml ..,_,_=>trivial
 | .nilp,_,_=>trivial
 | .nilf,_,_=>trivial
 | .ifn,_,_=>trivial
 | .ifo ..,_,_=>trivial
 | .map _,_,_=>trivial
 | .osl ..,_,_=>trivial
def x8s {c c':Nat->Option RecI}{n:Nat}(hc: ∀b,b < n->c' b=c b): ∀(l:List Sk),Sk.j1q c l->Sk.yBL n l=true->Sk.j1q c' l
 | [],_,_=>trivial
 |k::ks,h,hb=>by
  have hb:(k.yB n&&Sk.yBL n ks)=true:=hb;rw[a0g]at hb;exact⟨z8a hc k h.1 hb.1,x8s hc ks h.2 hb.2⟩
end
mutual
def u5q {c:Nat->Option RecI}: ∀(sk:Sk),sk.yB 0=true->sk.okY c
 | .yld b R,hb=>by
   have hb:b < 0:=a0f hb;omega
 | .agg l,hb=>x8r l hb
 | .tup l,hb=>x8r l hb
 | .fn _ l,hb=>x8r l hb
 | .any,_=>trivial
 | .nils,_=>trivial
 | .d _,_=>trivial
 | .own _,_=>trivial
 | .ptr _ _,_=>trivial
 | .mv ..,_=>trivial
 | .ifp ..,_=>trivial
 | .pel _,_=>trivial
 | .pml ..,_=>trivial
 | .nilp,_=>trivial
 | .nilf,_=>trivial
 | .ifn,_=>trivial
 | .ifo ..,_=>trivial
 | .map _,_=>trivial
 | .osl ..,_=>trivial
def x8r {c:Nat->Option RecI}: ∀(l:List Sk),Sk.yBL 0 l=true->Sk.j1q c l
 | [],_=>trivial
 |k::ks,hb=>by
  have hb:(k.yB 0&&Sk.yBL 0 ks)=true:=hb;rw[a0g]at hb;exact⟨u5q k hb.1,x8r ks hb.2⟩
end
def v0y {w:World}{g:Gh}{b:Nat}{x:Box}(hr:x1o w g b x):x.sk.okY g.rc:=by
 cases x with
 |cells k vs=>
  obtain⟨us,o,h1,h0,h2,h3⟩:=hr;exact u2i fun i v hv=>by
   have hi:i < us.size:=by rw[h2];exact(a0c.1 hv).1
   exact v3a (h3 i _ v (a0x hi) hv)
 |_=>exact trivial
def cdE (En:Ent):Nat->Option RecI:=fun b=>if b < En.g.n then En.g.rc b else none
def w2e {En:Ent}{s:VSt}{a:Act}{w:World}{g:Gh}(hs:Sim En s a w g){b:Nat}{x:RecI}(h:cdE En b=some x):g.rc b=some x:=by
 unfold cdE at h;split at h
 ·rename_i hb;exact v3i (hs.keep.1.cd b hb) h
 ·cases h
def y9j {En:Ent}{s:VSt}{a:Act}{w:World}{an:LAn}(hs:x1s En s a w)(hb:(z5k En.g.n an s).yB En.g.n=true)(ha:an.slots.all (fun q=>match q.2 with
  |some sk=>sk.yB 0
  |none=>true)=true):(z5k En.g.n an s).okY (cdE En):=by
 obtain⟨g,hs⟩:=hs;have hc: ∀b,b < En.g.n->cdE En b=g.rc b:=fun b hb=>by unfold cdE Gh.rc;rw[if_pos hb,hs.keep.1.cd b hb]
 unfold Hd.yB at hb;rw[a0g]at hb;obtain⟨b1,b2⟩:=hb;constructor
 ·intro q hq;have y1:=a0l.1 b1 q hq;simp only[z5k,a1z]at hq;obtain⟨q0,hq0,rfl⟩:=hq;have y2:=a0l.1 ha q0 hq0;cases h2:q0.2 with
  |some sk=>simp only[h2]at y2 ⊢;exact u5q sk y2
  |none=>
   simp only[h2]at y1 ⊢;exact z8a hc _ (v3a (hs.get (.tmp q0.1))) y1
 ·intro x hx;have y1:=a0l.1 b2 x hx;simp only[z5k,a1z]at hx;obtain⟨⟨y,i⟩,hy,rfl⟩:=hx;simp only at y1 ⊢;split
  ·rename_i hl;simp only[hl]at y1;have hyi:s.h[i]? =some y:=by
    have:=List.mem_zipIdx hy;obtain⟨h1,h2,h3⟩:=this;simp only[Nat.sub_zero,a1y]at h2 h3;have h4:(s.h.take an.nb)[i]? =some y:=by rw[h3];exact a0a _
    rw[a1t]at h4;split at h4
    ·exact h4
    ·cases h4
   have hr:=v0y (hs.heap.rep i y hyi);cases y with
   |cells k vs=>exact x8s hc _ hr y1
   |_=>exact trivial
  ·exact trivial
mutual
def u6u (hE:E.Ok){n:Nat}{c:Nat->Option RecI}{full:List D}: ∀(sk:Sk) {v:V} {ds:List D} {j:Nat},Sk.fit n sk v=some ds->sk.okY c->At full j ds-> ∃v',(x8p sy sk full j).run E=some (v',j+ds.length)/\WkY n c v v'
 | .any,v,ds,j,h,hy,_=>by
   have:ds= []:=by cases v<;>(unfold Sk.fit at h;cases h;rfl)
   subst this;exact⟨.any,rfl,fun _ _ u _ _=> .any u⟩
 | .nils,v,ds,j,h,hy,_=>by
   cases v<;>unfold Sk.fit at h<;>first|(cases h;done)|skip
   cases h;exact⟨.nils,rfl,fun w g u hcd hr=>x6s (n:=n) rfl hr⟩
 | .d s,v,ds,j,h,hy,ha=>by
   cases v with
   |d x=>
    have h:(match decide (x.sh=s)with|true=>some [x]|false=>none)=some ds:=by unfold Sk.fit at h;exact h
    split at h
    ·rename_i hd;cases h;refine⟨.d x,?_,fun w g u hcd hr=>x6s (n:=n) rfl hr⟩
     unfold x8p;rw[run_bind hE,z4x ha.head (a0f hd)];rfl
    ·cases h
   |nils=>
    cases s<;>unfold Sk.fit at h<;>first|(cases h;done)|skip
    cases h;rename_i sz;refine⟨.d (.sl sz []),?_,fun w g u hcd hr=>by cases hr;exact .d (.slnil sz)⟩
    unfold x8p;have q:(y4n (.sl sz) (sy.cell full j)).run E=some (.sl sz []):=z4x ha.head rfl;rw[run_bind hE,q];rfl
   |_=>cases s<;>(unfold Sk.fit at h;cases h)
 | .agg l,v,ds,j,h,hy,ha=>by
   cases v<;>unfold Sk.fit at h<;>first|(cases h;done)|skip
   obtain⟨vs,h1,h2,h3⟩:=y1a hE l h hy ha;refine⟨.agg vs,by unfold x8p;rw[run_bind hE,h1];rfl,fun w g u hcd hr=> ?_⟩
   cases hr with
   |agg us _ hl hr=>
    refine .agg us vs (by rw[hl,h2]) fun i u c hu hc=> ?_
    have hi:=(a0s.1 hu).1;exact h3 i _ c (a0a (by omega)) hc w g u hcd (hr i u _ hu (a0a (by omega)))
 | .tup l,v,ds,j,h,hy,ha=>by
   cases v<;>unfold Sk.fit at h<;>first|(cases h;done)|skip
   obtain⟨vs,h1,h2,h3⟩:=y1a hE l h hy ha;refine⟨.tup vs,by unfold x8p;rw[run_bind hE,h1];rfl,fun w g u hcd hr=> ?_⟩
   cases hr with
   |tup us _ hl hr=>
    refine .tup us vs (by rw[hl,h2]) fun i u c hu hc=> ?_
    have hi:=(a0s.1 hu).1;exact h3 i _ c (a0a (by omega)) hc w g u hcd (hr i u _ hu (a0a (by omega)))
 | .own b,v,ds,j,h,hy,_=>by
   cases v<;>unfold Sk.fit at h<;>first|(cases h;done)|skip
   split at h
   ·rename_i hd;obtain⟨rfl,hd⟩:=a0f hd;cases h;exact⟨.own _,rfl,fun w g u hcd hr=>x6x hr (by simpa[V.scB]using hd)⟩
   ·cases h
 | .ptr b off,v,ds,j,h,hy,_=>by
   cases v<;>unfold Sk.fit at h<;>first|(cases h;done)|skip
   split at h
   ·rename_i hd;obtain⟨rfl,rfl,hd⟩:=a0f hd;cases h;exact⟨.ptr _ _,rfl,fun w g u hcd hr=>x6x hr (by simpa[V.scB]using hd)⟩
   ·cases h
 | .mv f b off,v,ds,j,h,hy,_=>by
   cases v<;>unfold Sk.fit at h<;>first|(cases h;done)|skip
   split at h
   ·rename_i hd;obtain⟨rfl,rfl,rfl,hd⟩:=a0f hd;cases h;exact⟨.mv _ _ _,rfl,fun w g u hcd hr=>x6x hr (by simpa[V.scB]using hd)⟩
   ·cases h
 | .ifp f b off,v,ds,j,h,hy,_=>by
   cases v<;>unfold Sk.fit at h<;>first|(cases h;done)|skip
   split at h
   ·rename_i hd;obtain⟨rfl,rfl,rfl,hd⟩:=a0f hd;cases h;exact⟨.ifp _ _ _,rfl,fun w g u hcd hr=>x6x hr (by simpa[V.scB]using hd)⟩
   ·cases h
 | .pel l,v,ds,j,h,hy,ha=>by
   cases v<;>unfold Sk.fit at h<;>first|(cases h;done)|skip
   obtain⟨rfl,h2,h3⟩:=x8y h;refine⟨.pel _,?_,fun w g u hcd hr=>x6s (n:=n) rfl hr⟩
   unfold x8p;rw[run_bind hE,y8w hE h2 h3 ha,<-h2];rfl
 | .pml b sz i off,v,ds,j,h,hy,_=>by
   cases v<;>unfold Sk.fit at h<;>first|(cases h;done)|skip
   split at h
   ·rename_i hd;obtain⟨rfl,rfl,rfl,rfl,hd⟩:=a0f hd;cases h;exact⟨.pml _ _ _ _,rfl,fun w g u hcd hr=>x6x hr (by simpa[V.scB]using hd)⟩
   ·cases h
 | .nilp,v,ds,j,h,hy,_=>by
   cases v<;>unfold Sk.fit at h<;>first|(cases h;done)|skip
   cases h;exact⟨.nilp,rfl,fun w g u hcd hr=>x6s (n:=n) rfl hr⟩
 | .fn f l,v,ds,j,h,hy,ha=>by
   cases v<;>unfold Sk.fit at h<;>first|(cases h;done)|skip
   split at h
   ·rename_i hd;have hd:=a0f hd;subst hd;obtain⟨vs,h1,h2,h3⟩:=y1a hE l h hy ha;refine⟨.fn _ vs,by unfold x8p;rw[run_bind hE,h1];rfl,fun w g u hcd hr=> ?_⟩
    cases hr with
    |fn _ us _ hl hr=>
     refine .fn _ us vs (by rw[hl,h2]) fun i u c hu hc=> ?_
     have hi:=(a0s.1 hu).1;exact h3 i _ c (a0a (by omega)) hc w g u hcd (hr i u _ hu (a0a (by omega)))
   ·cases h
 | .ifn,v,ds,j,h,hy,ha=>by
   cases v<;>unfold Sk.fit at h<;>first|(cases h;done)|skip
   rename_i b;cases h;refine⟨.ifn b,?_,fun w g u hcd hr=>x6s (n:=n) rfl hr⟩
   unfold x8p;simp only[Tree.run];rw[ha.head];rfl
 | .ifo t l,v,ds,j,h,hy,ha=>by
   have fin: ∀(b:Bool) (xs:List D),xs.length=l.length->(∀(i:Nat) x s,xs[i]? =some x->l[i]? =some s->x.sh=s)->ds= .bool b::xs->(x8p sy (.ifo t l) full j).run E=some (.ifo t b xs,j+ds.length):=by
    intro b xs hl hsh hds;subst hds;unfold x8p;simp only[Tree.run];rw[ha.head];show(Tree.bind (x7b sy l full (j+1)) fun xs=> .ret (V.ifo t b xs,j+1+l.length)).run E=_
    have h9:(x7b sy l full (j+1)).run E=some xs:=y8w hE hl hsh (ha.right (a:=[.bool b]) (b:=xs));rw[run_bind hE,h9];show some (V.ifo t b xs,j+1+l.length)=some (V.ifo t b xs,j+(xs.length+1));rw[hl,a2e,Nat.add_comm 1]
   have zs: ∀(i:Nat) x s,(l.map y6g)[i]? =some x->l[i]? =some s->x.sh=s:=fun i x s hx hs=>by
    rw[a0m,hs]at hx;cases hx;cases s<;>rfl
   cases v with
   |ifn b=>
    cases b with
    |true=>
     unfold Sk.fit at h;cases h;exact⟨_,fin true _ (a1f _) zs rfl,fun w g u hcd hr=>by cases hr;exact .ifo0 _ _⟩
    |false=>unfold Sk.fit at h;cases h
   |ifc t' cs=>
    unfold Sk.fit at h;split at h
    ·rename_i xs hd h2;have hd:=a0f hd;subst hd;cases h;obtain⟨rfl,hl,hsh⟩:=x8y h2;exact⟨_,fin false _ hl hsh rfl,fun w g u hcd hr=>by
      cases hr with
      |ifc _ us _ hl h=>exact .ifo1 _ us _ hl h⟩
    ·cases h
   |ifo t' b cs=>
    unfold Sk.fit at h;split at h
    ·rename_i xs hd h2;have hd:=a0f hd;subst hd;cases h;obtain⟨rfl,hl,hsh⟩:=x8y h2;exact⟨_,fin b _ hl hsh rfl,fun w g u hcd hr=>by
      cases hr with
      |ifo0=>exact .ifo0 _ _
      |ifo1 _ us _ hl h=>exact .ifo1 _ us _ hl h⟩
    ·cases h
   |_=>unfold Sk.fit at h;cases h
 | .nilf,v,ds,j,h,hy,_=>by
   cases v<;>unfold Sk.fit at h<;>first|(cases h;done)|skip
   cases h;exact⟨.nilf,rfl,fun w g u hcd hr=>x6s (n:=n) rfl hr⟩
 | .map b,v,ds,j,h,hy,_=>by
   cases v<;>unfold Sk.fit at h<;>first|(cases h;done)|skip
   split at h
   ·rename_i hd;obtain⟨rfl,hd⟩:=a0f hd;cases h;exact⟨.map _,rfl,fun w g u hcd hr=>x6x hr (by simpa[V.scB]using hd)⟩
   ·cases h
 | .yld b R,v,ds,j,h,hy,_=>by
   cases v<;>unfold Sk.fit at h<;>first|(cases h;done)|skip
   split at h
   ·rename_i hd;obtain⟨rfl,hd⟩:=a0f hd;cases h;have hy:c _=some R:=hy;exact⟨.yld _ R,rfl,fun w g u hcd hr=>by cases hr with|yld _ R' hb hc=>exact .yld (g:=g.cut n) _ R hd (hcd _ _ hy)⟩
   ·cases h
 | .osl b sz,v,ds,j,h,_,ha=>by
   cases v<;>unfold Sk.fit at h<;>first|(cases h;done)|skip
   rename_i lo k;split at h
   ·rename_i hd;obtain⟨rfl,rfl,hd⟩:=a0f hd;cases h;refine⟨.osl _ _ lo k,?_,fun w g u hcd hr=>x6x hr (by simpa[V.scB]using hd)⟩
    have e0:sy.cell full j=some (.int .i64 lo):=ha 0 _ rfl;have e1:sy.cell full (j+1)=some (.int .i64 k):=ha 1 _ rfl;simp only[x8p,Tree.run,e0,e1,opI,decide_true,a1l];rfl
   ·cases h
def y1a (hE:E.Ok){n:Nat}{c:Nat->Option RecI}{full:List D}: ∀(l:List Sk) {vs:List V} {ds:List D} {j:Nat},Sk.j0u n l vs=some ds->Sk.j1q c l->At full j ds->
  ∃vs',(y2j sy l full j).run E=some (vs',j+ds.length)/\vs'.length=vs.length/\ ∀(i:Nat) v v',vs[i]? =some v->vs'[i]? =some v'->WkY n c v v'
 | [],[],ds,j,h,hy,_=>by
   unfold Sk.j0u at h;cases h;exact⟨[],rfl,rfl,by simp⟩
 | [],_::_,ds,j,h,hy,_=>by unfold Sk.j0u at h;cases h
 |_::_,[],ds,j,h,hy,_=>by unfold Sk.j0u at h;cases h
 |k::ks,v::vs,ds,j,h,hy,ha=>by
  unfold Sk.j0u at h;split at h
  ·rename_i a b h1 h2;cases h;obtain⟨v',e1,w1⟩:=u6u hE k h1 hy.1 ha.left;obtain⟨vs',e2,l2,w2⟩:=y1a hE ks h2 hy.2 ha.right;refine⟨v'::vs',?_,by simp[l2],fun i x x' hx hx'=> ?_⟩
   ·unfold y2j;rw[run_bind hE,e1];simp only[a1l];rw[run_bind hE,e2];simp only[a1l,Tree.run,a0j,a2e]
   ·cases i with
    |zero=>simp at hx hx';subst hx;subst hx';exact w1
    |succ i=>exact w2 i x x' (by simpa using hx) (by simpa using hx')
  ·cases h
end
def v8j (hE:E.Ok){n:Nat}{c:Nat->Option RecI}{full:List D}(sk:BSk){x:Box}{ds:List D}{j:Nat}(h:BSk.fit n sk x=some ds)(hok:sk.okY c)(ha:At full j ds): ∃y,(y8x sy sk full j).run E=some (y,j+ds.length)/\k7k n c x y:=by
 cases sk with
 |gone=>
  have:ds= []:=by cases x<;>(simp only[BSk.fit]at h;cases h;rfl)
  subst this;exact⟨.gone,rfl,fun _ _ _ _ _=>trivial,fun g b k hy=>by simp[Box.at?]at hy⟩
 |mp kk=>
  cases x<;>simp only[BSk.fit]at h<;>first|(cases h;done)|skip
  split at h
  ·rename_i rows _ hd;have:=a0f hd;subst this;cases h;refine⟨.mp _ rows,?_,fun w g b _ hr=>hr,fun g b k hy=>hy⟩
   simp only[y8x,Tree.run];rw[ha.head];simp[opL]
  ·cases h
 |cells t l=>
  cases x<;>simp only[BSk.fit]at h<;>first|(cases h;done)|skip
  split at h
  ·rename_i vs _ hd;have:=CK.j1w hd;subst this;obtain⟨vs',e1,l1,w1⟩:=y1a hE l h hok ha;refine⟨.cells _ vs',by unfold y8x;rw[run_bind hE,e1];rfl,fun w g b hcd hr=> ?_,fun g b k hy=>hy⟩
   obtain⟨us,o,q1,q0,q2,q3⟩:=hr;refine⟨us,o,q1,q0,by rw[q2,l1],fun i u v hu hv=> ?_⟩
   have hi:i < vs.length:=by rw[<-l1];exact(a0c.1 hv).1
   exact w1 i vs[i] v (a0a hi) hv w g u hcd (q3 i u _ hu (a0a hi))
  ·cases h
 |arr e sz=>
  cases x<;>simp only[BSk.fit]at h<;>first|(cases h;done)|skip
  split at h
  ·rename_i rows _ hd;obtain⟨rfl,rfl⟩:=a0f hd;cases h;refine⟨.arr _ _ rows,?_,fun w g b _ hr=>hr,fun g b k hy=>hy⟩
   simp only[y8x,Tree.run];rw[ha.head];simp[opL]
  ·cases h
def y5e (hE:E.Ok){n:Nat}{c:Nat->Option RecI}{full:List D}: ∀(l:List BSk) {xs:List Box} {ds:List D} {j:Nat},BSk.j0u n l xs=some ds->(∀x∈l,x.okY c)->At full j ds->
  ∃ys,(y3c sy l full j).run E=some (ys,j+ds.length)/\ys.length=l.length/\l.length<=xs.length/\ ∀(i:Nat) y,ys[i]? =some y-> ∃x,xs[i]? =some x/\k7k n c x y
 | [],xs,ds,j,h,_,_=>by
   have:ds= []:=by cases xs<;>(unfold BSk.j0u at h;cases h;rfl)
   subst this;exact⟨[],rfl,rfl,a0t _,by simp⟩
 |_::_,[],ds,j,h,_,_=>by unfold BSk.j0u at h;cases h
 |k::ks,x::xs,ds,j,h,hok,ha=>by
  unfold BSk.j0u at h;split at h
  ·rename_i a b h1 h2;cases h;obtain⟨y,e1,w1⟩:=v8j hE k h1 (hok k a0v) ha.left;obtain⟨ys,e2,l2,l3,w2⟩:=y5e hE ks h2 (fun x hx=>hok x (a0w _ hx)) ha.right
   refine⟨y::ys,?_,by simp[l2],by simp;exact l3,fun i y' hy'=> ?_⟩
   ·unfold y3c;rw[run_bind hE,e1];simp only[a1l];rw[run_bind hE,e2];simp only[a1l,Tree.run,a0j,a2e]
   ·cases i with
    |zero=>simp at hy';subst hy';exact⟨x,rfl,w1⟩
    |succ i=>obtain⟨x',hx,hw⟩:=w2 i y' (by simpa using hy');exact⟨x',by simpa using hx,hw⟩
  ·cases h
def u5o (hE:E.Ok){n:Nat}{c:Nat->Option RecI}{full:List D}{t:List V}: ∀ {ls:List (Nat × Sk)} {ds:List D} {j:Nat} {acc:List V},w1p n t ls=some ds->(∀q∈ls,q.2.okY c)->At full j ds->acc.length=t.length->
  (∀(k:Nat) v',acc[k]? =some v'->WkY n c (t.getD k .any) v')-> ∃acc',(w0o sy ls full j acc).run E=some (acc',j+ds.length)/\acc'.length=t.length/\ ∀(k:Nat) v',acc'[k]? =some v'->WkY n c (t.getD k .any) v'
 | [],ds,j,acc,h,_,_,hl,hw=>by cases h;exact⟨acc,rfl,hl,hw⟩
 |(k,sk)::ls,ds,j,acc,h,hok,ha,hl,hw=>by
  unfold w1p at h;split at h
  ·rename_i a b h1 h2;cases h;obtain⟨v',e1,w1⟩:=u6u hE sk h1 (hok _ a0v) ha.left;obtain⟨acc',e2,l2,w2⟩:=u5o hE (acc:=acc.set k v') h2 (fun q hq=>hok q (a0w _ hq)) ha.right (by simpa using hl) (fun i v hv=>by
    rw[a1j]at hv
    by_cases hi:k=i
    ·subst hi;rw[if_pos rfl]at hv;split at hv
     ·cases hv;exact w1
     ·cases hv
    ·rw[if_neg hi]at hv;exact hw i v hv)
   refine⟨acc',?_,l2,w2⟩;unfold w0o;rw[run_bind hE,e1];simp only[a1l,e2,a0j,a2e]
  ·cases h
def z4w (hE:E.Ok){En:Ent}{hd:Hd}{s:VSt}{ds:List D}{a:Act}{w:World}{len:Nat}(hf:z9t hd s=some ds)(hok:hd.okY (cdE En))(hn:En.g.n<=hd.boxes.length)(hlen:s.t.length=len)(hs:x1s En s a w):
  ∃s1,(y5s sy hd len ds).run E=some s1/\x1s En s1 a w:=by
 unfold z9t at hf;split at hf
 ·rename_i d1 d2 f1 f2;cases hf;have hat:At (d1++d2) 0 (d1++d2):=fun i x hx=>by rwa [a1y]
  obtain⟨ts,e1,l1,w1⟩:=u5o hE (acc:=List.replicate len .any) f1 hok.1 hat.left (by simp[hlen]) (fun k v' hv=>by
   have:=List.eq_of_mem_replicate (a0p hv);subst this;exact fun _ _ u _ _=> .any u)
  obtain⟨ys,e2,l2,l3,w2⟩:=y5e hE hd.boxes f2 hok.2 hat.right;refine⟨⟨ts,ys⟩,?_,?_⟩
  ·unfold y5s;rw[run_bind hE,e1];simp only[a1l];rw[run_bind hE,e2];rfl
  ·obtain⟨g,hs⟩:=hs;have hcd: ∀b x,cdE En b=some x->g.rc b=some x:=fun b x=>w2e hs
   have hown: ∀k,x2o (g.cut hd.boxes.length) ys k->x2o g s.h k:=by
    rintro k ⟨b,y,hy,hat⟩
    obtain⟨x,hx,hw⟩:=w2 b y hy;exact⟨b,x,hx,hw.2 g b k hat⟩
   refine⟨g.cut hd.boxes.length,⟨by simp[Gh.cut,l2],fun b y hy=> ?_,fun b c y z k hb hc hat hat'=> ?_,fun k o hk hz=>hs.heap.zsep k o (hown k hk) hz,hs.heap.zlt,hs.heap.tab⟩,by rw[hs.size,l1],fun i u v hu hv=> ?_,hs.defers.less hown rfl,?_,by rw[l1];exact hs.len⟩
   ·obtain⟨x,hx,hw⟩:=w2 b y hy;exact hw.1 w g b hcd (hs.heap.rep b x hx)
   ·obtain⟨x,hx,hw⟩:=w2 b y hb;obtain⟨x',hx',hw'⟩:=w2 c z hc;exact hs.heap.sep b c x x' k hx hx' (hw.2 g b k hat) (hw'.2 g c k hat')
   ·have hi:i < s.t.length:=by rw[<-l1];exact(a0c.1 hv).1
    exact w1 i v hv w g u hcd (hs.tmps i u _ hu (by rw[a0i,a0a hi];rfl))
   ·obtain⟨k1,k2,k3,k4⟩:=hs.keep;exact⟨⟨k1.Z,hn,k1.blk,k1.val,k1.cd⟩,k2,k3,fun k hk=>k4 k (hown k hk)⟩
 ·cases hf
def w6g (E:Env):Prop:= ∃n,∀ {α:Type} (b:List D->Option (List D ⊕ α)) (ds:List D),E.lp b ds=x6m n b ds
def y7e {α β:Type}{f:α->β}(hf: ∀x y,f x=f y->x=y): ∀ {l m:List α},l.map f=m.map f->l=m
 | [],[],_=>rfl
 | [],_::_,h=>by cases h
 |_::_,[],h=>by cases h
 |x::l,y::m,h=>by
  simp only[a1o,List.cons.injEq]at h;rw[hf x y h.1,y7e hf h.2]
def y9h: ∀(i:Nat) (l:List Nat) (vs:List V),(z8t i l vs).length=vs.length
 |_,_,[]=>rfl
 |i,l,v::vs=>by simp only[z8t,a0b,y9h]
def u6h: ∀(i:Nat) (l:List Nat) (vs:List V) (j:Nat) (v:V),(z8t i l vs)[j]? =some v->vs[j]? =some v\/v= .any
 |_,_,[],j,v,h=>by simp[z8t]at h
 |i,l,x::vs,0,v,h=>by
  simp only[z8t,List.getElem?_cons_zero,Option.some.injEq]at h;subst h;split
  ·exact .inl rfl
  ·exact .inr rfl
 |i,l,x::vs,j+1,v,h=>by
  simp only[z8t,List.getElem?_cons_succ]at h ⊢;exact u6h (i+1) l vs j v h
def Sim.keepS {En:Ent}{s:VSt}{a:Act}{w:World}{g:Gh}(hs:Sim En s a w g)(l:Option (List Nat)):Sim En (Go.Vm.keepS l s) a w g:=by
 cases l with
 |none=>exact hs
 |some l=>
  refine⟨hs.heap,by rw[hs.size];exact(y9h 0 l s.t).symm,fun i u v hu hv=> ?_,hs.defers,hs.keep,by rw[<-hs.len];exact y9h 0 l s.t⟩
  rcases u6h 0 l s.t i v hv with h|rfl
  ·exact hs.tmps i u v hu h
  ·exact .any _
def y8m {En:Ent}{s:VSt}{a:Act}{w:World}{g:Gh}{y:Operand}{f:FuncId}{caps:List V}{ps:Array Tmp}{assign body:Code}{me:FuncId}{r1:List Nat × V × List Box}{r:Exit × VSt}
  (hs:Sim En s a w g) (hnr:En.nr=false) (hr:Rep w g (a.eval y) (.fn f caps)) (hg:x4g P f=true)
  (hcall:x9v P r1.1 f (.yld s.h.length ⟨me,ps,assign,body⟩::caps) (s.h++[.cells (.rcd .ready) s.t]) r1.2.1 r1.2.2)
  (hk:Tree.run E (match okM En.g.n En.M r1.1&& !r1.1.contains s.h.length,r1.2.2[s.h.length]? with
     |true,some (.cells (.rcd .ready) vs)=> .ret (.normal,⟨vs,r1.2.2.set s.h.length .gone⟩)
     |true,some (.cells (.rcd (.done .ret)) vs)=> .ret (.ret,⟨vs,r1.2.2.set s.h.length .gone⟩)
     |true,some (.cells (.rcd (.done (.exit id))) vs)=> .ret (.exit id,⟨vs,r1.2.2.set s.h.length .gone⟩)
     |_,_=> .fail)=some r):
  (Code.rangeFunc y ps assign body).wpIn (Fw none) 0 P (fun e a' w'=>e=r.1/\x1s En r.2 a' w') a w:=by
 refine wpIn_rangeFunc fun fn _=> ?_
 have hn:g.n=s.h.length:=hs.heap.n
 let u8y:Loop:= { state:= .ready,pending:=none,fn:=fn,tmps:=a.tmps,params:=ps,assign:=assign,body:=body,defers:=w.heap.size }
 let w1:World:=(w.alloc (.deferred (some []))).alloc (.loop u8y)
 let R:RecI:=⟨me,ps,assign,body⟩
 let G:RecG:=⟨R,a.tmps⟩
 let g1:Gh:=g.push (w.heap.size+1) undef (some G)
 generalize hu0:a.eval y=u0 at hr;cases hr with
 |fn _ us _ hl hcap=>
 have hsz1:w1.heap.size=w.heap.size+2:=by show((w.heap.push _).push _).size=_;simp
 have hD1:w1.heap[w.heap.size]? =some (.deferred (some [])):=by show((w.heap.push _).push _)[w.heap.size]? =_;rw[a2c,if_neg (by simp),a2c,if_pos rfl]
 have hL1:w1.heap[w.heap.size+1]? =some (.loop u8y):=by show((w.heap.push _).push _)[w.heap.size+1]? =_;rw[a2c,if_pos (by simp)]
 have hfr1:Fr (fun _=>False) w w1:=⟨rfl,rfl,rfl,by omega,fun k hk _=>by show((w.heap.push _).push _)[k]? =_;rw[a2c,if_neg (by simp;omega),a2c,if_neg (by omega)]⟩
 have hb1:g1.blk g.n=w.heap.size+1:=by simp[g1,Gh.push]
 have hc1:g1.cd g.n=some G:=by simp[g1,Gh.push]
 have ho1:Over [] w g w1 g1:=⟨g.j0s _ _ _,fun b o hz=>hfr1.cell (hs.heap.zlt b o hz) (fun h=>h)⟩
 have hk1:Keep [] g s.h w g1 (s.h++[.cells (.rcd .ready) s.t]) w1:=
  Keep.push hs.heap _ _ _ hfr1 ⟨a.tmps,_,by rw[show(g.push (w.heap.size+1) undef (some G)).blk g.n=_ from hb1];exact hL1,⟨fn,w.heap.size,G,hc1,rfl,rfl⟩,hs.size,fun i u v hu hv=>ho1.j0b (hs.tmps i u v hu hv)⟩
   (fun k' hk'=>by simp only[Box.at?,Option.some.injEq]at hk';rw[show(g.push (w.heap.size+1) undef (some G)).blk g.n=_ from hb1]at hk';omega)
 have hDo: ¬x2o g1 (s.h++[.cells (.rcd .ready) s.t]) w.heap.size:=by
  rintro⟨b,x,hx,hat⟩
  rcases hk1.own _ ⟨b,x,hx,hat⟩with q|q
  ·have:=hs.heap.j0q q;omega
  ·rw[a0z]at hx;split at hx
   ·rename_i hlt;have hbn:b < g.n:=by omega
    rw[Box.at?_congr ((g.j0s _ _ _).blk b hbn (by simp)) ((g.j0s _ _ _).val b hbn (by simp))]at hat
    have:=(hs.heap.rep b x hx).lt hat
    omega
   ·rename_i hlt;have hb0:b - s.h.length=0:=by
     rcases Nat.eq_zero_or_pos (b - s.h.length)with h0|h0
     ·exact h0
     ·rw[a2b (by simp;omega)]at hx;cases hx
    rw[hb0]at hx;simp at hx;subst hx;have hbn:b=g.n:=by omega
    subst hbn;simp only[Box.at?,Option.some.injEq,hb1]at hat
    omega
 refine⟨w.heap.size+1,[{ target:= .collected w.heap.size,args:= #[] }],w1,{ target:= .fn (.func f) us,args:= #[.func (.yield (w.heap.size+1)) #[] #[]] },w1,f,
  #[.func (.yield (w.heap.size+1)) #[] #[]]++us,w1,run_enterLoop_outer _ _ _ _ _,?_,fun _ _=>trivial,?_,fun h=>by simp[Fw,Fence.wide]at h,?_⟩
 ·simp only[resolve,hu0];simp[go_sem]
 ·simp[invoke,go_sem,x7l hg]
 ·refine z3u.2 ?_;have hargs:z4c w1 g1 (.func (.yield (w.heap.size+1)) #[] #[]::us.toList) (.yld s.h.length R::caps):=by
   refine⟨by simp[hl],fun i u v h1 h2=> ?_⟩
   cases i with
   |zero=>
    simp at h1 h2;subst h1;subst h2;have:=Rep.yld (w:=w1) (g:=g1) g.n R (by simp[g1,Gh.push]) (by unfold Gh.rc;rw[hc1];rfl)
    rwa [hb1,hn]at this
   |succ i=>simp at h1 h2;exact ho1.j0b (hcap i u v h1 h2)
  have hc:=hcall g1 w1 _ hk1.heap hargs;have e0:(Value.func (.yield (w.heap.size+1)) #[] #[]::us.toList).toArray= #[.func (.yield (w.heap.size+1)) #[] #[]]++us:=by apply Array.ext';simp
  rw[e0]at hc;refine hc.mono ?_
  rintro _ w2 ⟨u,g2,rfl,hru,hk2⟩
  let a':Act:= { a with defers:=[{ target:= .collected w.heap.size,args:= #[] }]++a.defers }
  have hs1:Sim En ⟨s.t,s.h++[.cells (.rcd .ready) s.t]⟩ a' w1 g1:=by
   refine⟨hk1.heap,hs.size,fun i u v hu hv=>ho1.j0b (hs.tmps i u v hu hv),?_,hs.step hk1 (by simp[okM]),hs.len⟩
   obtain⟨Ds,d1,d2,d3⟩:=hs.defers.keep hk1;refine⟨w.heap.size::Ds,⟨by simp[a',d1.1],fun h=>(by rw[hnr]at h;cases h)⟩,List.nodup_cons.2 ⟨fun hm=> ?_,d2⟩,fun D hD=> ?_⟩
   ·obtain⟨Ds',e1,_,e3⟩:=hs.defers;have:Ds'=Ds:=by
     have:=List.append_cancel_right (e1.1.symm.trans d1.1);exact y7e (fun x y h=>by simpa using h) this
    subst this;have:=(a0s.1 (e3 _ hm).2.1).1;omega
   ·rcases a1n.1 hD with rfl|hD
    ·refine⟨hs.keep.2.1.size,hD1,hDo,fun o hz=> ?_⟩
     have:=hs.heap.zlt _ o hz;omega
    ·exact d3 D hD
  have fin: ∀(st:RSt) (vs:List V),(okM En.g.n En.M r1.1&& !r1.1.contains s.h.length)=true->r1.2.2[s.h.length]? =some (.cells (.rcd st) vs)->st.state≠ .busy->
      ∃w4,(Instr.endLoop (w.heap.size+1)).run P w2= .ok st.j2b w4/\x1s En ⟨vs,r1.2.2.set s.h.length .gone⟩ a' w4:=by
   intro st vs hM hbx hst;simp only[a0g,Bool.not_eq_true',List.contains_eq_mem,decide_eq_false_iff_not]at hM;have hgn:g1.n=g.n+1:=rfl;have hb2:g2.blk s.h.length=w.heap.size+1:=by rw[hk2.le.blk _ (by omega) hM.2,<-hn,hb1]
   obtain⟨us2,o2,q1,⟨fn2,D2,x2,q2,q2',rfl⟩,q3,q4⟩:=hk2.heap.rep _ _ hbx;have hx2:x2=G:=by
    have h1:=hk2.le.cd s.h.length (by omega)
    rw[<-hn]at h1 q2;rw[h1,hc1]at q2;exact(Option.some.inj q2).symm
   subst hx2;subst q2';have q1':=q1;rw[hb2]at q1;have hs2:=hs1.next hk2 hM.1 hru none;refine⟨_,run_endLoop q1 hst,?_⟩;generalize hw4:w2.putObj (w.heap.size+1) _=w4;have hfr:Fr (fun k=>(Box.cells (.rcd st) vs).at? g2 s.h.length=some k) w2 w4:=by
    rw[<-hw4];refine⟨rfl,rfl,rfl,by simp,fun k hk hnk=>World.putObj_heap_other fun e=>hnk ?_⟩
    simp only[Box.at?,hb2,e]
   have hk3:=Keep.turn (y:= .gone) hk2.heap hbx [] (.inl ⟨rfl,rfl⟩) rfl rfl rfl (fun _ _=>⟨rfl,rfl⟩) hfr trivial (fun k hk=>by simp[Box.at?]at hk)
   rw[x2t]at hk3;have ho3:=hk3.over hk2.heap;refine⟨g2,hk3.heap,by rw[<-q3],fun i u v hu hv=>ho3.j0b (q4 i u v hu hv),hs2.defers.keep hk3,hs2.step hk3 (by simp[okM]),?_⟩
   rw[<-hs.len];show vs.length=s.t.length;rw[<-q3,<-hs.size]
  show rangePost _ _ _ _ _ _ _ _;split at hk
  ·rename_i vs hM hbx;obtain⟨w4,e1,hs4⟩:=fin _ _ hM hbx (by simp[RSt.state])
   cases hk;exact⟨none,w4,e1,rfl,hs4⟩
  ·rename_i vs hM hbx;obtain⟨w4,e1,hs4⟩:=fin _ _ hM hbx (by simp[RSt.state])
   cases hk;exact⟨some .ret,w4,e1,wpIn_ret ⟨rfl,hs4⟩⟩
  ·rename_i id vs hM hbx;obtain⟨w4,e1,hs4⟩:=fin _ _ hM hbx (by simp[RSt.state])
   cases hk;exact⟨some (.exit id),w4,e1,wpIn_exit ⟨rfl,hs4⟩⟩
  ·cases hk
def k5b {p:Nat->Prop}(h: ∃n,p n): ∃n,p n/\ ∀m,m < n-> ¬p m:=by
 obtain⟨n,hn⟩:=h
 induction n using Nat.strongRecOn with
 |_ n ih=>
  by_cases hx: ∃m,m < n/\p m
  ·obtain⟨m,hm,hp⟩:=hx;exact ih m hm hp
  ·exact⟨n,hn,fun m hm hp=>hx ⟨m,hm,hp⟩⟩
def v4u {l:Nat}{J J':Act->World->Prop}{Q:Exit->Act->World->Prop}(h: ∀a w,J a w->J' a w): ∀e a w,Exit.jump l J Q e a w->Exit.jump l J' Q e a w:=by
 intro e a w hq;cases e<;>first|exact hq|exact⟨hq.1,h _ _ hq.2⟩
def y7s {c rest:Code}{a:Act}{w:World}{Q:Exit->Act->World->Prop}(l:Nat)(J:Nat->Act->World->Prop)(hf:findLabel c l=some rest)
  (first:c.wp P (Exit.jump l (fun a w=> ∃n,J n a w) Q) a w)
  (pass: ∀n a w,J n a w->rest.wp P (Exit.jump l (fun a' w'=> ∃m,m < n/\J m a' w') Q) a w):(Code.scope c).wp P Q a w:=by
 have hl: ∀a w,∃k,(∃n,J n a w)->J k a w/\ ∀m,m < k-> ¬J m a w:=fun a w=>by
  by_cases h: ∃n,J n a w
  ·obtain⟨k,h1,h2⟩:=k5b h;exact⟨k,fun _=>⟨h1,h2⟩⟩
  ·exact⟨0,fun h'=>(h h').elim⟩
 refine wp_scope_jumps l (fun a w=> ∃n,J n a w) (fun a w=>Classical.choose (hl a w)) hf first fun a w hJ=> ?_
 have hs:=Classical.choose_spec (hl a w) hJ;refine wp_mono (pass _ a w hs.1) (v4u fun a' w' ⟨m,hm,hj⟩=>⟨⟨m,hj⟩,?_⟩)
 have hs':=Classical.choose_spec (hl a' w') ⟨m,hj⟩;have: ¬m < Classical.choose (hl a' w'):=fun h=>hs'.2 m h hj
 show Classical.choose (hl a' w') < Classical.choose (hl a w);omega
def x6w (C:CfgT):Code->Option (Nat × Code)
 | .seq x y=>match q6c C x with
   |some (l,_)=>some (l,y)
   |none=>match v5z x with
    |true=>x6w C y
    |false=>none
 |_=>none
def z8r {C:CfgT}{x:Code}{l:Nat}{an:LAn}(h:q6c C x=some (l,an)):x= .label l/\C.labs l=some an:=by
 unfold q6c at h;split at h
 ·split at h
  ·cases h;exact⟨rfl,by assumption⟩
  ·cases h
 ·cases h
def u1y {C:CfgT}: ∀ {c:Code} {l:Nat} {y:Code},x6w C c=some (l,y)->findLabel c l=some (.seq .skip y):=by
 intro c
 induction c with
 |seq x z ihx ihz=>
  intro l y h;unfold x6w at h;split at h
  ·rename_i l' an hx;cases h;obtain⟨rfl,_⟩:=z8r hx;simp[findLabel]
  ·split at h
   ·rename_i hfx;have:findLabel x l=none:=by cases x<;>simp[v5z]at hfx<;>rfl
    simp only[findLabel,this];exact ihz h
   ·cases h
 |_=>intro l y h;cases h
def ER (En:Ent)(r:Exit × VSt)(e:Exit)(a:Act)(w:World):Prop:=(r.1= .outgrown/\ ∃p t,r.2.t=p::t/\q5k En p t r.2.h e a w)\/(r.1≠ .outgrown/\e=r.1/\x1s En r.2 a w)
def ER.ok {En:Ent}{x:Exit}{s:VSt}{a:Act}{w:World}(hs:x1s En s a w)(hx:x≠ .outgrown:=by simp):ER En (x,s) x a w:= .inr ⟨hx,rfl,hs⟩
def ER.j2r {En:Ent}{q:Option V × VSt}{e:Exit}{a:Act}{w:World}(h:OpR En q e a w):ER En (k6b q) e a w:=by
 obtain⟨p,s⟩:=q;cases p with
 |none=>obtain⟨rfl,h⟩:=h;exact .inr ⟨by simp[k6b],rfl,h⟩
 |some p=>exact .inl ⟨rfl,p,s.t,rfl,h⟩
def ER.j2k {En:Ent}{q:Option V × VSt}{e:Exit}{s:VSt}{a a0:Act}{w w0:World}(h0:x1s En s a0 w0)(h:k3t En q e a w):ER En (k6c s q) e a w:=by
 obtain⟨p,s⟩:=q;cases p with
 |none=>obtain⟨rfl,h⟩:=h;exact .inr ⟨by simp[k6c],rfl,h⟩
 |some p=>
  obtain⟨t,g,u,he,hr,hs⟩:=h;obtain⟨g0,h0⟩:=h0;have hl:=h0.len;have hl2:=hs.len;exact .inl ⟨rfl,p,_,rfl,g,u,he,hr,hs.heap,by rw[hs.size];simp only[a1f];rw[hl];exact hl2,fun i u v hu hv=>by
   rw[a0m,a0k]at hv;obtain⟨_,_,rfl⟩:=hv;exact .any u,hs.defers,hs.keep,by simpa using hl⟩
def ER.split {En:Ent}{x:Exit}{s:VSt}{e:Exit}{a:Act}{w:World}(h:ER En (x,s) e a w):(x= .outgrown/\(∃u,e= .panic [{ v:=u,recovered:=false }])/\ ∃p t,s.t=p::t/\q5k En p t s.h e a w)\/(x≠ .outgrown/\e=x/\x1s En s a w):=by
 rcases h with⟨h1,p,t,h2,h3⟩|h
 ·obtain⟨g,u,he,h4⟩:=id h3;exact .inl ⟨h1,⟨u,he⟩,p,t,h2,h3⟩
 ·exact .inr h
def z4d (P:Program)(E:Env)(inR:Bool)(C:CfgT)(ent:Callee->List V->List Box->Tree (List Nat × V × List Box))(En:Ent)(b l:Nat)(y:Code)(r:Exit × VSt)(k:Nat)(a:Act)(w:World):Prop:=
 ∃hd,En.g.n<=hd.boxes.length/\hd.okY (cdE En)/\ ∃ds s1,x6m k (fun ds:List D=>Tree.run E ((y5s sy hd En.len ds).bind fun s1=>forceL s1.t fun t=>(x3c sy P inR C ent En.g.n En.M false b y ⟨t,s1.h⟩).bind (q6i l hd))) ds=some r/\z9t hd s1=some ds/\x1s En s1 a w
def z8w {inR:Bool}{ro:Option Nat}(hE:E.Ok){C:CfgT}{ent:Callee->List V->List Box->Tree (List Nat × V × List Box)}{En:Ent}{y:Code}{b l:Nat}{r:Exit × VSt}
  (ih: ∀(b:Nat) (s:VSt) (a:Act) (w:World) (r:Exit × VSt),(x3c sy P inR C ent En.g.n En.M false b y s).run E=some r->x1s En s a w->y.wpIn (Fw ro) 0 P (ER En r) a w)
  (k:Nat) (a:Act) (w:World) (hJ:z4d P E inR C ent En b l y r k a w):
  y.wpIn (Fw ro) 0 P (fun e a' w'=>ER En r e a' w'\/(e= .goto l/\ ∃m,m < k/\z4d P E inR C ent En b l y r m a' w')) a w:=by
 obtain⟨hd,hd0,hok,ds,s1,hi,hf,hs1⟩:=hJ;generalize hbody:(fun ds:List D=>Tree.run E ((y5s sy hd En.len ds).bind fun s1=>forceL s1.t fun t=>(x3c sy P inR C ent En.g.n En.M false b y ⟨t,s1.h⟩).bind (q6i l hd)))=body at hi
 cases k with
 |zero=>cases hi
 |succ k=>
  simp only[x6m]at hi;obtain⟨s2,e1,hs2⟩:=z4w (len:=En.len) hE hf hok hd0 hs1.len hs1;have hb:body ds=Tree.run E ((x3c sy P inR C ent En.g.n En.M false b y s2).bind (q6i l hd)):=by
   rw[<-hbody];simp only;rw[run_bind hE,e1];simp only[a1l,forceL_eq]
  rw[hb]at hi;cases hq:Tree.run E ((x3c sy P inR C ent En.g.n En.M false b y s2).bind (q6i l hd))with
  |none=>rw[hq]at hi;cases hi
  |some q=>
   rw[hq]at hi;obtain⟨r1,h1,h2⟩:=x0a hE hq;refine wpIn_mono (ih b s2 a w r1 h1 hs2) fun e a' w' hr=> ?_
   obtain⟨x,s'⟩:=r1;cases x with
   |goto l'=>
    obtain⟨h0,_⟩|⟨_,rfl,hs'⟩:=hr.split
    ·cases h0
    simp only[q6i]at h2;split at h2
    ·rename_i ds' hl hf';have hl:=a0f hl;subst hl;cases h2;refine .inr ⟨rfl,k,a1m k,hd,hd0,hok,ds',_,?_,hf',hs'⟩;rw[hbody];exact hi
    ·cases h2
   |_=>cases h2;cases hi;exact .inl hr
def u0k {inR:Bool}{ro:Option Nat}(hro:inR=false->ro=none)(hE:E.Ok)(hN:w6g E)(hG:x2s P E){C:CfgT}{ent:Callee->List V->List Box->Tree (List Nat × V × List Box)}(hent:x7j P E ent){En:Ent}(hnr:inR=false->En.nr=false)(hm:P.follows .mixedOrders=true):
  ∀(c:Code),(∀(sc:Bool) (b:Nat) (s:VSt) (a:Act) (w:World) (r:Exit × VSt),(x3c sy P inR C ent En.g.n En.M sc b c s).run E=some r->x1s En s a w->
  c.wpIn (Fw ro) 0 P (fun e a' w'=>ER En r e a' w'\/(sc=true/\ ∃l y,x6w C c=some (l,y)/\e= .goto l/\ ∃k,z4d P E inR C ent En b l y r k a' w')) a w)/\
  (∀l y,x6w C c=some (l,y)-> ∀(b:Nat) (s:VSt) (a:Act) (w:World) (r:Exit × VSt),(x3c sy P inR C ent En.g.n En.M false b y s).run E=some r->x1s En s a w->y.wpIn (Fw ro) 0 P (ER En r) a w):=by
 have noJ: ∀ {sc:Bool} {e:Exit} {X Y:Prop},sc=false->(X\/(sc=true/\Y))->X:=fun h hx=>by
  rcases hx with hx|⟨h1,_⟩
  ·exact hx
  ·rw[h]at h1;cases h1
 intro c
 induction c with
 |skip=>exact⟨fun sc b s a w r hk hs=>by cases hk;exact wpIn_skip (.inl (ER.ok hs)),fun l y h=>by cases h⟩
 |region id ops draw=>
  refine⟨fun sc b s a w r hk hs=> ?_,fun l y h=>by cases h⟩
  unfold x3c at hk;cases draw with
  |false=>
   obtain⟨s',h1,hk⟩:=x0a hE hk;cases hk;exact wpIn_region_list (y1l hE hG hent _ (a0q _) h1 hs fun e a' w' h=> .inl (ER.j2r h))
  |true=>
   obtain⟨s',h1,hk⟩:=x0a hE hk;cases hk;exact u3p hE hG hent hm h1 hs fun e a' w' h=> .inl (ER.j2k hs h)
 |seq x y ihx ihy=>
  have ihx0: ∀(b:Nat) (s:VSt) (a:Act) (w:World) (r:Exit × VSt),(x3c sy P inR C ent En.g.n En.M false b x s).run E=some r->x1s En s a w->x.wpIn (Fw ro) 0 P (ER En r) a w:=
   fun b s a w r hk hs=>wpIn_mono (ihx.1 false b s a w r hk hs) fun e a' w' h=>noJ (e:=e) rfl h
  have ihy0: ∀(b:Nat) (s:VSt) (a:Act) (w:World) (r:Exit × VSt),(x3c sy P inR C ent En.g.n En.M false b y s).run E=some r->x1s En s a w->y.wpIn (Fw ro) 0 P (ER En r) a w:=
   fun b s a w r hk hs=>wpIn_mono (ihy.1 false b s a w r hk hs) fun e a' w' h=>noJ (e:=e) rfl h
  refine⟨fun sc b s a w r hk hs=> ?_,fun l z h=> ?_⟩
  ·unfold x3c at hk;split at hk
   ·rename_i l an hlab;have hsc:sc=true/\q6c C x=some (l,an):=by cases sc<;>simp[k8k]at hlab<;>simp[hlab]
    obtain⟨rfl,hx⟩:=hsc;have hsp:x6w C (.seq x y)=some (l,y):=by unfold x6w;rw[hx]
    obtain⟨rfl,_⟩:=z8r hx;simp only at hk;generalize hhd:z5k En.g.n an s=hd at hk;split at hk
    ·rename_i ds0 hd0 hf0;simp only[a0g,a0u]at hd0;obtain⟨⟨hd0,hyB⟩,hann⟩:=hd0;have hok:hd.okY (cdE En):=by rw[<-hhd]at hyB ⊢;exact y9j hs hyB hann
     simp only[Tree.run]at hk;obtain⟨n,hn⟩:=hN;rw[hn,hs.len]at hk;refine wpIn_seq (wpIn_label ?_);have hJ:z4d P E inR C ent En b l y r n a w:=⟨hd,hd0,hok,ds0,s,hk,hf0,hs⟩;refine wpIn_mono (z8w hE ihy0 n a w hJ) fun e a' w' h=> ?_
     rcases h with h|⟨he,m,_,hJ⟩
     ·exact .inl h
     ·exact .inr ⟨rfl,l,y,hsp,he,m,hJ⟩
    ·cases hk
   ·rename_i hlab;have key: ∀(s':VSt) (a':Act) (w':World),(x3c sy P inR C ent En.g.n En.M (sc&&v5z x) b y s').run E=some r->x1s En s' a' w'->
        y.wpIn (Fw ro) 0 P (fun e a' w'=>ER En r e a' w'\/(sc=true/\ ∃l z,x6w C (.seq x y)=some (l,z)/\e= .goto l/\ ∃k,z4d P E inR C ent En b l z r k a' w')) a' w':=by
     intro s' a' w' hk hs';refine wpIn_mono (ihy.1 _ b s' a' w' r hk hs') fun e a2 w2 h=> ?_
     rcases h with h|⟨hsc,l,z,hsp,he⟩
     ·exact .inl h
     ·simp only[a0g]at hsc;refine .inr ⟨hsc.1,l,z,?_,he⟩;have hl:q6c C x=none:=by rw[hsc.1]at hlab;exact hlab
      unfold x6w;rw[hl,hsc.2];exact hsp
    split at hk
    ·obtain⟨r1,h1,hk⟩:=x0a hE hk;refine wpIn_seq (wpIn_mono (ihx0 b s a w r1 h1 hs) fun e a' w' hr=> ?_)
     obtain⟨x,s'⟩:=r1;rcases hr.split with⟨rfl,⟨u,rfl⟩,_⟩|⟨hx,rfl,hs'⟩
     ·cases hk;exact .inl hr
     ·cases e with
      |normal=>exact key s' a' w' hk hs'
      |_=>cases hk;exact .inl hr
    ·rename_i an _;simp only at hk;have hs:=hs.datB (P:=P) an.dat
     generalize datB P s an.dat=s0 at hk hs;split at hk
     ·rename_i hd;simp only[a0g,a0u]at hd;obtain⟨⟨hd,hyB⟩,hann⟩:=hd;have hok:=y9j hs hyB hann;simp only[Tree.run]at hk;obtain⟨q,h1,hk⟩:=a1s.1 hk;obtain⟨r1,h1,h2⟩:=x0a hE h1;refine wpIn_seq (wpIn_mono (ihx0 b s0 a w r1 h1 hs) fun e a' w' hr=> ?_)
      obtain⟨x,s'⟩:=r1;rcases hr.split with⟨rfl,⟨u,rfl⟩,_⟩|⟨hx,rfl,hs'⟩
      ·cases h2;cases hk;exact .inl hr
      cases e with
      |outgrown=>exact(hx rfl).elim
      |normal=>
       simp only[q2e,q1y]at h2;split at h2
       ·rename_i ds hf;cases h2;simp only at hk;have hs':=hs'.datB (P:=P) an.dat
        have hlen:(datB P s' an.dat).t.length=s0.t.length:=by rw[hs'.len,hs.len]
        obtain⟨s1,e1,hs1⟩:=z4w hE hf hok hd hlen hs';obtain⟨s2,e2,hk⟩:=x0a hE hk;rw[e1]at e2;cases e2;rw[forceL_eq]at hk;exact key s1 a' w' hk hs1
       ·cases h2
      |_=>cases h2;cases hk;exact .inl (ER.ok (hs'.datB (P:=P) an.dat))
     ·cases hk
  ·unfold x6w at h;split at h
   ·cases h;exact ihy0
   ·split at h
    ·exact ihy.2 l z h
    ·cases h
 |cond c x y ihx ihy=>
  refine⟨fun sc b s a w r hk hs=> ?_,fun l y h=>by cases h⟩
  unfold x3c at hk;split at hk
  ·rename_i t ht;obtain⟨g,hs'⟩:=hs;have e1:=x3w (ht▸hs'.get c);cases t with
   |true=>exact wpIn_cond_true e1 (wpIn_mono (ihx.1 false b _ a w r hk (u4z ⟨g,hs'⟩ ht)) fun e a' w' h=> .inl (noJ (e:=e) rfl h))
   |false=>exact wpIn_cond_false e1 (wpIn_mono (ihy.1 false b _ a w r hk (u4z ⟨g,hs'⟩ ht)) fun e a' w' h=> .inl (noJ (e:=e) rfl h))
  ·cases hk
 |block id c ih0=>
  have ih:=fun b s a w r hk hs=>wpIn_mono (ih0.1 false b s a w r hk hs) fun e a' w' h=>noJ (e:=e) rfl h
  refine⟨fun sc b s a w r hk hs=> ?_,fun l y h=>by cases h⟩
  unfold x3c at hk;obtain⟨r1,h1,hk⟩:=x0a hE hk;cases hk;refine wpIn_block (wpIn_mono (ih id s a w r1 h1 hs) fun e a' w' hr=> ?_)
  obtain⟨x,s'⟩:=r1;rcases hr.split with⟨rfl,⟨u,rfl⟩,_⟩|⟨hx,rfl,hs'⟩
  ·exact .inl hr
  cases e with
  |exit id'=>
   simp only[Exit.inBlock,k8m];split
   ·rename_i hd;rw[a0o hd];exact .inl (ER.ok hs')
   ·rename_i hd;rw[decide_eq_false hd];exact .inl (ER.ok hs')
  |_=>exact .inl hr
 |loop c ih0=>
  have ih:=fun b s a w r hk hs=>wpIn_mono (ih0.1 false b s a w r hk hs) fun e a' w' h=>noJ (e:=e) rfl h
  refine⟨fun sc b s a w r hk hs=> ?_,fun l y h=>by cases h⟩
  unfold x3c at hk;simp only at hk;have hs:=((((hs.frzs (bs:=(C.loops b).ice)).mintP (P:=P) (C.loops b).own2).mintB (P:=P) (C.loops b).own).soleS (C.loops b).sole).datB (P:=P) (C.loops b).dat
  generalize datB P (soleS (C.loops b).sole (mintB P (mintP P (s.frz (C.loops b).ice) (C.loops b).own2) (C.loops b).own)) (C.loops b).dat=s0 at hk hs;generalize hhd:z5k En.g.n (C.loops b) s0=hd at hk;split at hk
  ·rename_i ds0 hd0 hf0;simp only[a0g,a0u]at hd0;obtain⟨⟨hd0,hyB⟩,hann⟩:=hd0;have hok:hd.okY (cdE En):=by rw[<-hhd]at hyB ⊢;exact y9j hs hyB hann
   simp only[Tree.run]at hk;obtain⟨n,hn⟩:=hN;rw[hn]at hk;generalize hbody:(fun ds:List D=>Tree.run E ((y5s sy hd s0.t.length ds).bind fun s1=>forceL s1.t fun t=>(x3c sy P inR C ent En.g.n En.M false b c ⟨t,s1.h⟩).bind fun r=>q1y hd (q2e P (C.loops b).dat r)))=body at hk
   have hlen:=hs.len;refine u1n (fun k a w=> ∃ds s1,x6m k body ds=some r/\z9t hd s1=some ds/\x1s En s1 a w) n ⟨ds0,s0,hk,hf0,hs⟩ ?_
   rintro k a w ⟨ds,s1,hi,hf,hs1⟩
   cases k with
   |zero=>cases hi
   |succ k=>
    simp only[x6m]at hi;obtain⟨s2,e1,hs2⟩:=z4w (len:=s0.t.length) hE hf hok hd0 (by rw[hs1.len,hlen]) hs1
    have hb:body ds=Tree.run E ((x3c sy P inR C ent En.g.n En.M false b c s2).bind fun r=>q1y hd (q2e P (C.loops b).dat r)):=by
     rw[<-hbody];simp only;rw[run_bind hE,e1];simp only[a1l,forceL_eq]
    rw[hb]at hi;cases hq:Tree.run E ((x3c sy P inR C ent En.g.n En.M false b c s2).bind fun r=>q1y hd (q2e P (C.loops b).dat r))with
    |none=>rw[hq]at hi;cases hi
    |some q=>
     rw[hq]at hi;obtain⟨r1,h1,h2⟩:=x0a hE hq;refine wpIn_mono (ih b s2 a w r1 h1 hs2) fun e a' w' hr=> ?_
     obtain⟨x,s'⟩:=r1;rcases hr.split with⟨rfl,⟨u,rfl⟩,_⟩|⟨hx,rfl,hs'⟩
     ·cases h2;cases hi;exact .inl hr
     cases e with
     |outgrown=>exact(hx rfl).elim
     |normal=>
      simp only[q2e,q1y]at h2;split at h2
      ·rename_i ds' hf';cases h2;exact⟨k,a1m k,ds',_,hi,hf',hs'.datB (P:=P) (C.loops b).dat⟩
      ·cases h2
     |_=>cases h2;cases hi;exact .inl (ER.ok (hs'.datB (P:=P) (C.loops b).dat))
  ·cases hk
 |exit id=>exact⟨fun sc b s a w r hk hs=>by cases hk;exact wpIn_exit (.inl (ER.ok hs)),fun l y h=>by cases h⟩
 |ret=>exact⟨fun sc b s a w r hk hs=>by cases hk;exact wpIn_ret (.inl (ER.ok hs)),fun l y h=>by cases h⟩
 |label l=>exact⟨fun sc b s a w r hk hs=>by cases hk;exact wpIn_label (.inl (ER.ok hs)),fun l y h=>by cases h⟩
 |goto l=>exact⟨fun sc b s a w r hk hs=>by cases hk;exact wpIn_goto (.inl (ER.ok hs)),fun l y h=>by cases h⟩
 |scope c ih=>
  refine⟨fun sc b s a w r hk hs=> ?_,fun l y h=>by cases h⟩
  unfold x3c at hk;cases inR with
  |true=>cases hk
  |false=>
   have hro:=hro rfl;subst hro;obtain⟨r1,h1,hk⟩:=x0a hE hk;have h0:=ih.1 true b s a w r1 h1 hs;obtain⟨e0,s0⟩:=r1;have hr:r=(e0,s0)/\ ∀l,e0≠ .goto l:=by cases e0<;>first|(cases hk;exact⟨rfl,by simp⟩)|cases hk
   obtain⟨rfl,hng⟩:=hr;cases hsp:x6w C c with
   |none=>
    refine wpIn_wide.2 (wp_scope_straight (wpIn_wide.1 (wpIn_mono h0 fun e a' w' h=> ?_)))
    rcases h with hr|⟨_,l,y,h,_⟩
    ·rcases hr.split with⟨rfl,⟨u,rfl⟩,_⟩|⟨hx,rfl,hs'⟩
     ·exact .inl hr
     ·cases e<;>first|exact .inl hr|exact(hng _ rfl).elim
    ·rw[hsp]at h;cases h
   |some ly=>
    obtain⟨l,y⟩:=ly;refine wpIn_wide.2 (y7s l (z4d P E false C ent En b l y (e0,s0)) (u1y hsp) (wpIn_wide.1 (wpIn_mono h0 fun e a' w' h=> ?_)) fun k a' w' hJ=> ?_)
    ·rcases h with hr|⟨_,l',y',h,he,hJ⟩
     ·rcases hr.split with⟨rfl,⟨u,rfl⟩,_⟩|⟨hx,rfl,hs'⟩
      ·exact .inl hr
      ·cases e<;>first|exact .inl hr|exact(hng _ rfl).elim
     ·rw[hsp]at h;cases h;subst he;exact⟨rfl,hJ⟩
    ·refine wpIn_wide.1 (wpIn_seq (wpIn_skip (wpIn_mono (z8w (ro:=none) hE (ih.2 l y hsp) k a' w' hJ) fun e a2 w2 h=> ?_)))
     rcases h with hr|⟨he,hJ⟩
     ·rcases hr.split with⟨rfl,⟨u,rfl⟩,_⟩|⟨hx,rfl,hs'⟩
      ·exact .inl hr
      ·cases e<;>first|exact .inl hr|exact(hng _ rfl).elim
     ·subst he;exact⟨rfl,hJ⟩
 |rangeFunc y ps assign body iha ihb=>
  refine⟨fun sc b s a w r hk hs=> ?_,fun l y h=>by cases h⟩
  unfold x3c at hk;cases inR with
  |true=>cases hk
  |false=>
   have hro:=hro rfl;subst hro;cases hy:s.get y<;>simp only[hy]at hk<;>first|(cases hk;done)|skip
   rename_i f caps;cases hsig:z1t P f<;>simp only[hsig]at hk<;>first|(cases hk;done)|skip
   rename_i ts;obtain⟨r1,h1,hk⟩:=x0a hE hk;split at hk
   ·cases hk
   ·rename_i hp;have hcall:=(hent.1 _ _ _ _ h1).none hp;obtain⟨g,hs⟩:=hs;have hry:=hs.get y;rw[hy]at hry;have key:(Code.rangeFunc y ps assign body).wpIn (Fw none) 0 P (fun e a' w'=>e=r.1/\x1s En r.2 a' w') a w:=by
     clear h1;cases hrl:C.rl with
     |none=>rw[hrl]at hcall;exact y8m (s:=s) hs (hnr rfl) hry (x3l hsig) hcall hk
     |some l=>rw[hrl]at hcall;exact y8m (s:=Go.Vm.keepS (some l) s) (hs.keepS (some l)) (hnr rfl) hry (x3l hsig) hcall hk
    refine wpIn_mono key fun e a' w' h=> .inl (.inr ⟨?_,h⟩)
    split at hk<;>cases hk<;>simp
 |_=>refine⟨fun sc b s a w r hk hs=> ?_,fun l y h=> ?_⟩<;>first|cases hk|cases h
def x3z {inR:Bool}{ro:Option Nat}(hro:inR=false->ro=none)(hE:E.Ok)(hN:w6g E)(hG:x2s P E){C:CfgT}{ent:Callee->List V->List Box->Tree (List Nat × V × List Box)}(hent:x7j P E ent){En:Ent}(hnr:inR=false->En.nr=false)(hm:P.follows .mixedOrders=true)(c:Code)(b:Nat)(s:VSt)(a:Act)(w:World)(r:Exit × VSt)
  (hk:(x3c sy P inR C ent En.g.n En.M false b c s).run E=some r) (hs:x1s En s a w):c.wpIn (Fw ro) 0 P (ER En r) a w:=
 wpIn_mono ((u0k hro hE hN hG hent hnr hm c).1 false b s a w r hk hs) fun e a' w' h=>by
  rcases h with h|⟨h,_⟩
  ·exact h
  ·cases h
end
section
variable (A : Sy) (P : Program) (Cs : FuncId -> CfgT)
def w1g:Box->Bool
 | .arr .. =>true
 |_=>false
def v9s (h:List Box)(vs:List V):List Nat:=(y5q h [] vs).filter fun b=>w1g (h.getD b .gone)
def z1q (C:CfgT)(h:List Box)(vs:List V):List Nat:=match C.turn with
 |true=>v9s h vs
 |false=>[]
def z6t (C:CfgT)(h:List Box)(b:Nat)(R:RecI)(vs t0:List V):List Nat:=match C.rt with
 |none=>v9s h (.yld b R::vs)
 |some ks=>v9s h (ks.map fun k=>t0.getD k .any)
def z6p (n0:Nat)(M0:List Nat)(v:V)(h:List Box):List Nat × V × List Box:=match decide (n0<=h.length)&&v.scB n0&&(h.take n0).all (Box.scB n0)with
 |true=>(M0,v,h.take n0)
 |false=>(M0,v,h)
def endE (fn:Func)(n0:Nat)(M0:List Nat)(r:Exit × VSt):Tree (List Nat × V × List Box):=
 let fin:Tree (List Nat × V × List Box):=match z7m P r.2 fn.results.toList with
  |some v=>match y0g v with
   |none=> .ret (z6p n0 M0 v r.2.h)
   |some _=> .fail
  |none=> .fail
 match r.1 with
 | .normal=>fin
 | .ret=>fin
 | .outgrown=>match r.2.t with
   |p::_=> .ret (z6p n0 M0 (v3x p) r.2.h)
   | []=> .fail
 |_=> .fail
def v3l (t:List V)(l:List (Tmp × V)):List V:=l.foldl (fun t q=>t.set q.1 q.2) t
def k4h (ent:Callee->List V->List Box->Tree (List Nat × V × List Box))(b:Nat)(R:RecI)(vs:List V)(h:List Box):Tree (List Nat × V × List Box):=match h[b]?,decide (vs.length=R.ps.size)with
 |some (.cells (.rcd .ready) t0),true=>forceL (v3l t0 (R.ps.toList.zip vs)) fun t=>
  (x3c A P true (Cs R.me) ent h.length (z6t (Cs R.me) h b R vs t0) false 0 R.assign ⟨t,h⟩).bind fun r1=>match r1.1,r1.2.h[b]? with
   | .normal,some (.cells (.rcd .ready) t1)=>forceH (r1.2.h.set b (.cells (.rcd .busy) t1)) fun h1=>
     (x3c A P true (Cs R.me) ent h.length (z6t (Cs R.me) h b R vs t0) false 0 R.body ⟨r1.2.t,h1⟩).bind fun r2=>match r2.1,r2.2.h[b]? with
      | .normal,some (.cells (.rcd .busy) t2)=> .ret (z6p h.length (z6t (Cs R.me) h b R vs t0) (.d (.bool true)) (r2.2.h.set b (.cells (.rcd .ready) t2)))
      | .ret,some (.cells (.rcd .busy) t2)=> .ret (z6p h.length (z6t (Cs R.me) h b R vs t0) (.d (.bool false)) (r2.2.h.set b (.cells (.rcd (.done .ret)) t2)))
      | .exit id,some (.cells (.rcd .busy) t2)=> .ret (z6p h.length (z6t (Cs R.me) h b R vs t0) (.d (.bool false)) (r2.2.h.set b (.cells (.rcd (.done (.exit id))) t2)))
      |_,_=> .fail
   |_,_=> .fail
 |_,_=> .fail
def k6e:Box->Option V
 | .cells (.ty t) vs=>some (.fn t vs)
 | .arr e sz rows=>some (.tup [.d (.int .i64 e), .d (.sl sz rows)])
 | .cells (.rcd .ready) vs=>some (.agg vs)
 | .gone=>some .nilf
 |_=>none
def k6i:V->Option Box
 | .fn t vs=>some (.cells (.ty t) vs)
 | .tup [.d (.int .i64 e), .d (.sl sz rows)]=>some (.arr e.toNat sz rows)
 | .agg vs=>some (.cells (.rcd .ready) vs)
 | .nilf=>some .gone
 |_=>none
def w1u:List Box->Option (List V)
 | []=>some []
 |x::xs=>match k6e x,w1u xs with
  |some v,some vs=>some (v::vs)
  |_,_=>none
def w2a:List V->Option (List Box)
 | []=>some []
 |x::xs=>match k6i x,w2a xs with
  |some v,some vs=>some (v::vs)
  |_,_=>none
def k6f (pn:Nat)(args:List V)(hs:List Box):Option (List V):=match w1u hs with
 |some l=>some (.d (.int .i64 pn):: .d (.int .i64 args.length)::(args++l))
 |none=>none
def y2d:List V->Option (Nat × List V × List Box)
 | .d (.int .i64 pn):: .d (.int .i64 n)::l=>match w2a (l.drop n.toNat)with
   |some hs=>some (pn.toNat,l.take n.toNat,hs)
   |none=>none
 |_=>none
def isNT:Box->Bool
 | .cells (.ty t) _=>gNT.contains t
 |_=>false
def x7i (hs:List Box):List Nat:=match hs.any isNT with
 |true=>[]
 |false=>(List.range hs.length).filter fun b=>w1g (hs.getD b .gone)
def z1g (f:Nat):Nat:=f+1000000
def v9n (f:Nat):Nat:=f - 1000000
def w8q (f:Nat):Bool:=decide (1000000<=f)
def k7x:List V->Option (Nat × RecI)
 | []=>none
 | .yld b R::_=>some (b,R)
 |_::vs=>k7x vs
def k4n (R:RecI)(l0:List Sk):List Sk:=match P.funcs[R.me]? with
 |some fn=>(fn.results.toList.zip fn.resultTypes.toList).foldl (fun l q=>match q.1,z2r P 9 q.2,y2s P q.2 with
  | .tmp t,some [s],false=>l.set t (.d s)
  | .tmp t,some ss,true=>l.set t (.agg (ss.map .d))
  | .cell t _,_,_=>l.set t (l0.getD t .any)
  |_,_,_=>l) (l0.map fun _=> .any)
 |none=>l0
def w3n (as:List V)(hs:List Box):Option (List BSk):=match k7x as with
 |some (b,R)=>match hs[b]? with
  |some (.cells (.rcd _) vs)=>some ((hs.map Box.sk).set b (.cells (.rcd (.done .ret)) (k4n P R (V.skL vs))))
  |_=>none
 |none=>none
def u0w (ss:List Sh)(mk:List D->Option V)(sks:List BSk)(ds:List D)(j:Nat):Tree (V × List Box):=
 (x7b A ss ds j).bind fun xs=>match mk xs with
  |some v=>(y3c A sks ds (j+ss.length)).bind fun q=> .ret (v,q.1)
  |none=> .fail
def v0w (pn:Nat)(ts:List TypeId)(as:List V)(hs:List Box)(ds:List D):Tree (V × List Box):=match shR P ts with
 |some ss=>match pn with
  |0=>match w3n P as hs with
   |none=>u0w A ss (mkV P ts) (hs.map Box.sk) ds 0
   |some sk2=> .cB (A.cell ds 0) fun b=> .ite b (u0w A ss (mkV P ts) sk2 ds 1) (u0w A ss (mkV P ts) (hs.map Box.sk) ds 1)
  |pn=>match z2r P 9 pn with
   |some ps=> .cB (A.cell ds 0) fun b=> .ite b (u0w A ps (fun xs=>some (v3x (.ifc pn xs))) (hs.map Box.sk) ds 1) (u0w A ss (mkV P ts) (hs.map Box.sk) ds 1)
   |none=> .fail
 |none=> .fail
def k6x (f:FuncId)(vs:List V)(h:List Box):Tree (List Nat × V × List Box):=match z1t P f,x4g P (z1g f)with
 |some ts,false=>forceSp (y5q h [] vs) fun L=>match x8b h L vs with
  |true=>forceH (x4t h L) fun hs=>match k6f ((Cs f).pn.getD 0) (vs.map (V.ren (tau L))) hs with
   |some key=> .call (z1g f) key fun ds=>(v0w A P ((Cs f).pn.getD 0) ts (vs.map (V.ren (tau L))) hs ds).bind fun q=>match y0g q.1 with
    |none=> .ret ((x7i hs).map (ext L h.length),q.1.ren (ext L h.length),x5y h L ((x7i hs).map (ext L h.length)) q.2)
    |some p=> .ret ((x7i hs).map (ext L h.length),v3x (p.ren (ext L h.length)),x5y h L ((x7i hs).map (ext L h.length)) q.2)
   |none=> .fail
  |false=> .fail
 |_,_=> .fail
def u1i:Nat->Callee->List V->List Box->Tree (List Nat × V × List Box)
 |0,_,_,_=> .fail
 |n+1, .fn f,vs,h=>match (Cs f).bx with
  |true=>k6x A P Cs f vs h
  |false=>match P.funcs[f]? with
   |some fn=>match fn.body with
    |some c=>forceL (x3x fn vs h).t fun t=>(x3c A P false (Cs f) (u1i n) h.length (z1q (Cs f) h vs) false 0 c ⟨t,h⟩).bind (endE P fn h.length (z1q (Cs f) h vs))
    |none=> .fail
   |none=> .fail
 |n+1, .yld b R,vs,h=>k4h A P Cs (u1i n) b R vs h
def q7r:List TypeId->List V->Option (List D)
 | [],[]=>some []
 |t::ts,v::vs=>match q5z P t v,q7r ts vs with
  |some a,some b=>some (a++b)
  |_,_=>none
 |_,_=>none
def u9e (ts:List TypeId)(v:V):Option (List D):=match ts,v with
 | [t],v=>q7r P [t] [v]
 |ts, .tup vs=>q7r P ts vs
 |_,_=>none
def k3i (fn:Func)(r:Exit × VSt):Tree PRes:=
 let fin:Tree PRes:=match z7m P r.2 fn.results.toList with
  |some v=>match v,fn.resultTypes.toList with
   | .own b,[t]=>match r.2.h[b]?,elO P t with
     |some (.arr e sz rows),some (e',sz')=>match decide (e'=e/\sz'=sz)with
      |true=> .ret (.own e sz rows)
      |false=> .fail
     |_,_=> .fail
   |v,ts=>match z7m P (r.2.frz v.j0z) fn.results.toList with
    |some v'=>match u9e P ts v' with
     |some ds=> .ret (.val ds)
     |none=> .fail
    |none=> .fail
  |none=> .fail
 match r.1 with
 | .normal=>fin
 | .ret=>fin
 |_=> .fail
def w1o (pn:Nat)(b:Bool):List D:=match pn with
 |0=>[]
 |_=>[.bool b]
def fitB (as:List V)(hs h:List Box)(pn:Nat):Option (List D × List D):=match pn,w3n P as hs with
 |0,some sk2=>match BSk.j0u hs.length (hs.map Box.sk) h with
  |some xs=>some ([.bool false],xs)
  |none=>match BSk.j0u hs.length sk2 h,sk2.all (BSk.yB 0)with
   |some xs,true=>some ([.bool true],xs)
   |_,_=>none
 |pn,_=>match BSk.j0u hs.length (hs.map Box.sk) h with
  |some xs=>some (w1o pn false,xs)
  |none=>none
def k6d (fn:Func)(pn:Nat)(as:List V)(hs:List Box)(r:Exit × VSt):Tree PRes:=
 let fin:Tree PRes:=match z7m P r.2 fn.results.toList with
  |some v0=>match z7m P (r.2.frz v0.j0z) fn.results.toList with
   |some v=>match u9e P fn.resultTypes.toList v,fitB P as hs (r.2.frz v0.j0z).h pn with
    |some ds,some (fl,xs)=> .ret (.val (fl++ds++xs))
    |_,_=> .fail
   |none=> .fail
  |none=> .fail
 match r.1 with
 | .normal=>fin
 | .ret=>fin
 | .outgrown=>match pn,r.2.t with
   |0,_=> .fail
   |pn, .ifc t cs::_=>match decide (t=pn),z2r P 9 pn with
    |true,some ps=>match u3m ps cs,BSk.j0u hs.length (hs.map Box.sk) r.2.h with
     |some ds,some xs=> .ret (.val (w1o pn true++ds++xs))
     |_,_=> .fail
    |_,_=> .fail
   |_,_=> .fail
 |_=> .fail
def q1m (f:FuncId)(pn:Nat)(args:List V)(hs:List Box):Tree PRes:=match P.funcs[f]?,(hs.map Box.sk).all (BSk.yB 0)with
 |some fn,true=>match fn.body with
  |some c=>forceL (x3x fn args hs).t fun t=>(x3c A P false (Cs f) (u1i A P Cs 8) hs.length (x7i hs) false 0 c ⟨t,hs⟩).bind (k6d P fn pn args hs)
  |none=> .fail
 |_,_=> .fail
def k6h:Code->Option (FuncId × Array Operand)
 | .region _ ⟨[⟨none, .defer ⟨.value (.func f),args,_⟩,_,_,_,none⟩]⟩ false=>some (f,args)
 |_=>none
def k4p:Code->Option Tmp
 | .region _ ⟨[⟨some d, .call ⟨.builtin .recover,⟨[]⟩,_⟩,_,_,_,none⟩]⟩ false=>some d
 |_=>none
def y3w (ent:Callee->List V->List Box->Tree (List Nat × V × List Box))(f:FuncId)(p:V)(vs:List V)(s:VSt):Tree (Exit × VSt):=match x4g P f,P.funcs[f]? with
 |true,some fd=>match fd.body,fd.results with
  |some (.seq x y),⟨[]⟩=>match k4p x with
   |some d=>forceL ((x3x fd vs s.h).t.set d p) fun t=>(x3c A P true (Cs f) ent s.h.length [] false 0 y ⟨t,s.h⟩).bind fun r=>match r.1 with
    | .normal=> .ret (.ret,⟨s.t,r.2.h⟩)
    | .ret=> .ret (.ret,⟨s.t,r.2.h⟩)
    |_=> .fail
   |none=> .fail
  |_,_=> .fail
 |_,_=> .fail
def k3k (C:CfgT)(ent:Callee->List V->List Box->Tree (List Nat × V × List Box))(n0:Nat):Code->VSt->Tree (Exit × VSt)
 | .seq x y,s=>match k6h x with
   |some (f,args)=>(x3c A P true C ent s.h.length [] false 0 y s).bind fun r=>match r.1 with
    | .normal=>y3w A P Cs ent f (.ifn true) (args.toList.map s.get) r.2
    | .ret=>y3w A P Cs ent f (.ifn true) (args.toList.map s.get) r.2
    | .outgrown=>match r.2.t with
      |p::t=>y3w A P Cs ent f p (args.toList.map s.get) ⟨t,r.2.h⟩
      | []=> .fail
    |_=> .fail
   |none=>(x3c A P true C ent n0 [] false 0 x s).bind fun r=>match r.1 with
    | .normal=>k3k C ent n0 y r.2
    |_=> .fail
 |_,_=> .fail
def k1w (f:FuncId)(c:Code)(s:VSt):Tree (Exit × VSt):=match (Cs f).dfr with
 |false=>x3c A P false (Cs f) (u1i A P Cs 8) 0 [] false 0 c s
 |true=>k3k A P Cs (Cs f) (u1i A P Cs 8) 0 c s
def k0o (f:FuncId)(args:List V):Tree PRes:=match P.funcs[f]? with
 |some fn=>match fn.body with
  |some c=>forceL (x3x fn args []).t fun t=>(k1w A P Cs f c ⟨t,[]⟩).bind (k3i P fn)
  |none=> .fail
 |none=> .fail
end
section
variable {P : Program} {E : Env} {Cs : FuncId -> CfgT}
def Sim.shut {En:Ent}(hds:En.ds= [])(hnr:En.nr=false){s:VSt}{tmps:Array Value}{D:Nat}{Ds:List Nat}{w:World}{g:Gh}(hs:Sim En s ⟨tmps,(D::Ds).map fun D=> { target:= .collected D,args:= #[] }⟩ w g):
  w.heap[D]? =some (.deferred (some []))/\Sim En s ⟨tmps,Ds.map fun D=> { target:= .collected D,args:= #[] }⟩ (w.putObj D (.deferred none)) g:=by
 obtain⟨Ds',⟨d1,_⟩,d2,d3⟩:=hs.defers;rw[hds,a0y]at d1;have:Ds'=D::Ds:=(y7e (fun x y h=>by simpa using h) d1).symm
 subst this;obtain⟨k1,k2,k3,k4⟩:=d3 D a0v;have hoth: ∀k,k≠D->(w.putObj D (.deferred none)).heap[k]? =w.heap[k]? :=fun k hk=>World.putObj_heap_other hk
 have hcell: ∀b o,g.Z b o->(w.putObj D (.deferred none)).cell? ⟨b,o,none⟩=w.cell? ⟨b,o,none⟩:=fun b o hz=>by
  have:b≠D:=fun e=>k4 o (e▸hz)
  simp only[World.cell?,hoth b this]
 have ho:Over [] w g (w.putObj D (.deferred none)) g:=⟨Gh.Le.refl _ _,hcell⟩;have hsz:(w.putObj D (.deferred none)).heap.size=w.heap.size:=World.putObj_size;obtain⟨p1,p2,p3,p4⟩:=hs.keep;refine⟨k2,⟨hs.heap.n,fun b x hx=> ?_,hs.heap.sep,hs.heap.zsep,fun b o hz=>by rw[hsz];exact hs.heap.zlt b o hz,hs.heap.tab.mono (fun _ _ h=>h) hcell⟩,hs.size,fun i u v hu hv=>ho.j0b (hs.tmps i u v hu hv),⟨Ds,⟨by rw[hds,a0y],fun h=>(by rw[hnr]at h;cases h)⟩,(List.nodup_cons.1 d2).2,fun D' hD'=> ?_⟩,
  ⟨p1,⟨p2.os,p2.tape,p2.output,by rw[hsz];exact p2.size,fun k hk hn=>(hoth k (by omega)).trans (p2.block k hk hn)⟩,p3,p4⟩,hs.len⟩
 ·have:=x1o.over ho (by rw[hs.heap.n];exact(a0c.1 hx).1) (by simp) (fun k hk=>hoth k fun e=>k3 ⟨b,x,hx,e▸hk⟩) (hs.heap.rep b x hx)
  rwa [Box.j0c]at this
 ·obtain⟨q1,q2,q3,q4⟩:=d3 D' (a0w _ hD');exact⟨q1,(hoth D' fun e=>(List.nodup_cons.1 d2).1 (e▸hD')).trans q2,q3,q4⟩
def y5v {fn:Func}{Rp:Ending->World->Prop}{En:Ent}(hds:En.ds= [])(hnr:En.nr=false){s:VSt}{tmps:Array Value}{g:Gh}: ∀(Ds:List Nat) (w:World),Sim En s ⟨tmps,Ds.map fun D=> { target:= .collected D,args:= #[] }⟩ w g->
  (∀w',Sim En s ⟨tmps,[]⟩ w' g-> ∃v,(results fn tmps).run P w'= .ok v w'/\Rp (.returned v) w')->LeavesInM Fence.wide 0 P fn tmps Rp (Ds.map fun D=> { target:= .collected D,args:= #[] }) .returning w
 | [],w,hs,h=>h w hs
 |D::Ds,w,hs,h=>by
  obtain⟨h1,h2⟩:=hs.shut hds hnr;exact⟨by simp, .inl ⟨D,_,rfl,run_takeDeferred h1,y5v hds hnr Ds _ h2 h⟩⟩
def y4v {fn:Func}{Rp:Ending->World->Prop}{En:Ent}(hds:En.ds= [])(hnr:En.nr=false){s:VSt}{a:Act}{w:World}{g:Gh}(hs:Sim En s a w g)
  (h: ∀a' w',a'.tmps=a.tmps->Sim En s a' w' g-> ∃v,(results fn a.tmps).run P w'= .ok v w'/\Rp (.returned v) w'):LeavesInM Fence.wide 0 P fn a.tmps Rp a.defers .returning w:=by
 obtain⟨Ds,⟨d1,_⟩,d2,d3⟩:=hs.defers;rw[hds,a0y]at d1;rw[d1];have e:a=⟨a.tmps,Ds.map fun D=> { target:= .collected D,args:= #[] }⟩:=by rw[<-d1]
 rw[e]at hs;exact y5v hds hnr Ds w hs fun w' hs'=>h ⟨a.tmps,[]⟩ w' rfl hs'
def Sim.j2o {En:Ent}(hds:En.ds= []){s:VSt}{tmps:Array Value}{D:Nat}{Ds:List Nat}{w:World}{g:Gh}(hs:Sim En s ⟨tmps,(D::Ds).map fun D=> { target:= .collected D,args:= #[] }⟩ w g){u:Value}{v:V}(hr:Rep w g u v):
  Rep (w.putObj D (.deferred none)) g u v:=by
 obtain⟨Ds',⟨d1,_⟩,d2,d3⟩:=hs.defers;rw[hds,a0y]at d1;have:Ds'=D::Ds:=(y7e (fun x y h=>by simpa using h) d1).symm
 subst this;obtain⟨k1,k2,k3,k4⟩:=d3 D a0v;have ho:Over [] w g (w.putObj D (.deferred none)) g:=⟨Gh.Le.refl _ _,fun b o hz=>by
  have:b≠D:=fun e=>k4 o (e▸hz)
  simp only[World.cell?,World.putObj_heap_other this]⟩
 exact ho.j0b hr
def y3j {fn:Func}{Rp:Ending->World->Prop}{En:Ent}(hds:En.ds= [])(hnr:En.nr=false){s:VSt}{tmps:Array Value}{g:Gh}{ch:List PanicEntry}{u:Value}{v:V}: ∀(Ds:List Nat) (w:World),Sim En s ⟨tmps,Ds.map fun D=> { target:= .collected D,args:= #[] }⟩ w g->Rep w g u v->
  (∀w',Sim En s ⟨tmps,[]⟩ w' g->Rep w' g u v->Rp (.panicked ch) w')->LeavesInM Fence.wide 0 P fn tmps Rp (Ds.map fun D=> { target:= .collected D,args:= #[] }) (.panicking ch) w
 | [],w,hs,hr,h=>h w hs hr
 |D::Ds,w,hs,hr,h=>by
  obtain⟨h1,h2⟩:=hs.shut hds hnr;exact⟨by simp, .inl ⟨D,_,rfl,run_takeDeferred h1,y3j hds hnr Ds _ h2 (hs.j2o hds hr) h⟩⟩
def y9f {fn:Func}{Rp:Ending->World->Prop}{En:Ent}(hds:En.ds= [])(hnr:En.nr=false){s:VSt}{a:Act}{w:World}{g:Gh}{ch:List PanicEntry}{u:Value}{v:V}(hs:Sim En s a w g)(hr:Rep w g u v)
  (h: ∀a' w',a'.tmps=a.tmps->Sim En s a' w' g->Rep w' g u v->Rp (.panicked ch) w'):LeavesInM Fence.wide 0 P fn a.tmps Rp a.defers (.panicking ch) w:=by
 obtain⟨Ds,⟨d1,_⟩,d2,d3⟩:=hs.defers;rw[hds,a0y]at d1;rw[d1];have e:a=⟨a.tmps,Ds.map fun D=> { target:= .collected D,args:= #[] }⟩:=by rw[<-d1]
 rw[e]at hs;exact y3j hds hnr Ds w hs hr fun w' hs' hr'=>h ⟨a.tmps,[]⟩ w' rfl hs' hr'
def u5j {g:Gh}{h:List Box}{w:World}{b:Nat}{st:RSt}{t:List V}(hs:SimH g h w)(hb:h[b]? =some (.cells (.rcd st) t)):
  ∃rc:Loop,w.heap[g.blk b]? =some (.loop rc)/\rc.state=st.state/\rc.pending=st.j2b/\ ∀st':RSt,Keep [] g h w g (h.set b (.cells (.rcd st') t)) (w.putObj (g.blk b) (.loop { rc with state:=st'.state,pending:=st'.j2b })):=by
 obtain⟨us,o,q1,⟨fn,D,x,q2,q3,rfl⟩,q4,q5⟩:=hs.rep b _ hb;refine⟨_,q1,rfl,rfl,fun st'=> ?_⟩
 generalize hw':w.putObj (g.blk b) _=w';have hfr:Fr (fun k=>(Box.cells (.rcd st) t).at? g b=some k) w w':=by
  rw[<-hw'];refine⟨rfl,rfl,rfl,by simp,fun k hk hnk=>World.putObj_heap_other fun e=>hnk ?_⟩
  simp only[Box.at?,e]
 have hcell: ∀k o,g.Z k o->w'.cell? ⟨k,o,none⟩=w.cell? ⟨k,o,none⟩:=fun k o hz=>hfr.cell (hs.zlt k o hz) (fun hk=>hs.zsep k o ⟨b,_,hb,hk⟩ hz)
 have ho:Over [] w g w' g:=⟨Gh.Le.refl _ _,hcell⟩;have:=Keep.turn (g':=g) (y:= .cells (.rcd st') t) hs hb [] (.inl ⟨rfl,rfl⟩) rfl rfl rfl (fun _ _=>⟨rfl,rfl⟩) hfr
  ⟨us,_,by rw[<-hw'];exact World.putObj_heap_same (a0s.1 q1).1,⟨fn,D,x,q2,q3,rfl⟩,q4,fun i u v hu hv=>ho.j0b (q5 i u v hu hv)⟩ (fun k hk=> .inl hk)
 rwa [x2t]at this
def v1u {h:List Box}{vs:List V}{b:Nat}(hb:b∈v9s h vs):w1g (h.getD b .gone)=true:=(List.mem_filter.1 hb).2
def v1t {C:CfgT}{h:List Box}{c:Nat}{R:RecI}{vs t0:List V}{b:Nat}(hb:b∈z6t C h c R vs t0):w1g (h.getD b .gone)=true:=by
 unfold z6t at hb;split at hb<;>exact v1u hb
def z7q {w:World}{g:Gh}: ∀(ps:List Tmp) (vs:List V) (us:List Value) (t:List V) (ts:Array Value),ts.size=t.length->(∀(i:Nat) u v,ts[i]? =some u->t[i]? =some v->Rep w g u v)->z4c w g us vs->
  ((ps.zip us).foldl (fun tm q=>tm.setIfInBounds q.1 q.2) ts).size=(v3l t (ps.zip vs)).length/\ ∀(i:Nat) u v,((ps.zip us).foldl (fun tm q=>tm.setIfInBounds q.1 q.2) ts)[i]? =some u->(v3l t (ps.zip vs))[i]? =some v->Rep w g u v
 | [],_,_,t,ts,hl,hr,_=>⟨hl,hr⟩
 |_::_,[],us,t,ts,hl,hr,hu=>by
  have:us= []:=by have:=hu.1;simpa using this
  subst this;exact⟨hl,hr⟩
 |q::ps,v::vs,us,t,ts,hl,hr,hu=>by
  cases us with
  |nil=>have:=hu.1;simp at this
  |cons u us=>
   refine z7q ps vs us (t.set q v) (ts.setIfInBounds q u) (by simpa using hl) (fun i u' v' h1 h2=> ?_) ⟨by have:=hu.1;simpa using this,fun i u' v' h1 h2=>hu.2 (i+1) u' v' (by simpa using h1) (by simpa using h2)⟩
   rw[Array.getElem?_setIfInBounds]at h1;rw[a1j]at h2
   by_cases hi:q=i
   ·subst hi;rw[if_pos rfl]at h1 h2;split at h1
    ·split at h2
     ·cases h1;cases h2;exact hu.2 0 _ _ rfl rfl
     ·cases h2
    ·cases h1
   ·rw[if_neg hi]at h1 h2;exact hr i u' v' h1 h2
def z9z {g g':Gh}{h h':List Box}{w w':World}{M0:List Nat}{v:V}{u:Value}(hn:g.n=h.length)(hk:Keep M0 g h w g' h' w')(hr:Rep w' g' u v):
  ∃g2,Rep w' g2 u (z6p h.length M0 v h').2.1/\Keep (z6p h.length M0 v h').1 g h w g2 (z6p h.length M0 v h').2.2 w':=by
 unfold z6p;split
 ·rename_i hc;simp only[a0g,a0u]at hc;exact⟨g'.cut h.length,x6x hr hc.1.2,hk.j2m (by rw[hn];exact a0q _) hc.1.1 hc.2⟩
 ·exact⟨g',hr,hk⟩
def w1t {g g':Gh}{h h':List Box}{w w':World}{M0:List Nat}{p:V}{u:Value}(hn:g.n=h.length)(hk:Keep M0 g h w g' h' w')(hr:Rep w' g' u p):
  y0g (z6p h.length M0 (v3x p) h').2.1=some p/\ ∃g2,Rep w' g2 u p/\Keep (z6p h.length M0 (v3x p) h').1 g h w g2 (z6p h.length M0 (v3x p) h').2.2 w':=by
 unfold z6p;split
 ·rename_i hc;simp only[a0g,a0u]at hc;have hp:p.scB h.length=true:=by
   have:=hc.1.2;simp only[v3x,V.scB,V.scL,a2a,a2j]at this;exact this
  exact⟨rfl,g'.cut h.length,x6x hr hp,hk.j2m (by rw[hn];exact a0q _) hc.1.1 hc.2⟩
 ·exact⟨rfl,g',hr,hk⟩
def u8u (hE:E.Ok)(hN:w6g E)(hG:x2s P E)(hm:P.follows .mixedOrders=true){ent:Callee->List V->List Box->Tree (List Nat × V × List Box)}(hent:x7j P E ent){b:Nat}{R:RecI}{vs:List V}{h:List Box}{r:List Nat × V × List Box}
  (hk:(k4h sy P Cs ent b R vs h).run E=some r):w6e P r.1 b R vs h r.2.1 r.2.2:=by
 unfold k4h at hk;split at hk
 ·rename_i t0 hb hlen;have hlen:=a0f hlen;rw[forceL_eq]at hk;obtain⟨r1,h1,hk⟩:=x0a hE hk;intro g w us hs hu hbn hrc;generalize hM0:z6t (Cs R.me) h b R vs t0=M0 at h1 hk;have hbM:b ∉ M0:=fun hm'=>by
   rw[<-hM0]at hm';have:=v1t hm';rw[a0i,hb]at this;cases this
  obtain⟨us0,o,q1,⟨fn,D,x,q2,q3,rfl⟩,q4,q5⟩:=hs.rep b _ hb;have hx:x.r=R:=by
   unfold Gh.rc at hrc;rw[q2]at hrc;exact Option.some.inj hrc
  have hy:=run_yield (P:=P) (args:=us.toArray) q1 (by simp only[List.size_toArray,hx];rw[hu.1,hlen])
  refine⟨_,_,_,_,hy,?_⟩;simp only[hx];have hfold:(R.ps.zip us.toArray).foldl (fun tmps q=>tmps.setIfInBounds q.1 q.2) us0=(R.ps.toList.zip us).foldl (fun tm q=>tm.setIfInBounds q.1 q.2) us0:=by
   rw[<-Array.foldl_toList];simp
  obtain⟨s1,s2⟩:=z7q R.ps.toList vs us t0 us0 q4 q5 hu
  let En:Ent:=⟨w,g,h,M0,(v3l t0 (R.ps.toList.zip vs)).length,[],false⟩
  have hS:x1s En ⟨v3l t0 (R.ps.toList.zip vs),h⟩ ⟨(R.ps.toList.zip us).foldl (fun tm q=>tm.setIfInBounds q.1 q.2) us0,[]⟩ w:=
   ⟨g,hs,s1,s2, .none,⟨Gh.Le.refl _ _,Fr.refl _ _,fun _ _ h=> .inl h,fun _ h=> .inl h⟩,rfl⟩
  have hn:g.n=h.length:=hs.n;refine roundIn_of_wpIn trivial ?_;show R.assign.wpIn (Fw (some (g.blk b))) 0 P _ _ _;have e0:(Array.foldl (fun (tmps:Array Value) (x:Tmp × Value)=>tmps.setIfInBounds x.1 x.2) us0 (R.ps.zip us.toArray))=(R.ps.toList.zip us).foldl (fun tm q=>tm.setIfInBounds q.1 q.2) us0:=hfold
  refine(congrArg (fun tm=>R.assign.wpIn (Fw (some (g.blk b))) 0 P _ { tmps:=tm,defers:=[] } w) e0).mpr ?_
  refine wpIn_mono (x3z (inR:=true) (ro:=some (g.blk b)) (En:=En) (fun h=>by cases h) hE hN hG hent (fun _=>rfl) hm R.assign 0 _ _ _ r1 (by rw[<-hn]at h1;exact h1) hS) ?_
  rintro e a1 w1 hr1
  obtain⟨e1,st1⟩:=r1;split at hk
  ·rename_i t1 he1 hb1;simp only at he1 hb1;subst he1;obtain⟨h0,_⟩|⟨_,rfl,g1,hs1⟩:=hr1.split
   ·cases h0
   show ∃w₂,(Instr.beginRound (g.blk b)).run P w1= .ok () w₂/\R.body.wpIn (Fw (some (g.blk b))) 0 P (roundPost P (g.blk b) _) a1 w₂
   rw[forceH_eq]at hk;obtain⟨r2,h2,hk⟩:=x0a hE hk;have hbe:g1.blk b=g.blk b:=hs1.keep.1.blk b hbn hbM;obtain⟨rc,c1,c2,c3,c4⟩:=u5j hs1.heap hb1;rw[hbe]at c1 c4;have hbr:=run_beginRound (P:=P) c1 (by rw[c2];rfl)
   have hk4:=c4 .busy;have erc:({ rc with state:= .busy }:Loop)= { rc with state:=RSt.busy.state,pending:=RSt.busy.j2b }:=by
    cases rc;simp only[RSt.j2b]at c3;simp only[RSt.state,RSt.j2b,c3]
   refine⟨_,hbr,?_⟩;rw[erc];have hs2:=hs1.next hk4 (by simp[okM]) (x:= .any) (u:=undef) (.any undef) none
   refine wpIn_mono (x3z (inR:=true) (ro:=some (g.blk b)) (En:=En) (fun h=>by cases h) hE hN hG hent (fun _=>rfl) hm R.body 0 _ _ _ r2 (by rw[<-hn]at h2;exact h2) ⟨g1,hs2⟩) ?_
   rintro e a2 w3 hr2
   obtain⟨e2,st2⟩:=r2;obtain⟨rfl,_⟩|⟨_,rfl,g3,hs3⟩:=hr2.split
   ·cases hk
   have hbe3:g3.blk b=g.blk b:=hs3.keep.1.blk b hbn hbM;have fin: ∀(st':RSt) (jump:Option Code) (t2:List V),st2.h[b]? =some (.cells (.rcd .busy) t2)->st'.state=(if jump.isNone then .ready else .done)->st'.j2b=jump->
       r=z6p h.length M0 (.d (.bool jump.isNone)) (st2.h.set b (.cells (.rcd st') t2))->
       ∃v w',(Instr.endRound (g.blk b) jump).run P w3= .ok v w'/\ ∃u g',Ending.returned v= .returned u/\Rep w' g' u r.2.1/\Keep r.1 g h w g' r.2.2 w':=by
    intro st' jump t2 hb2 e1 e2 hr;obtain⟨rc3,d1,d2,d3,d4⟩:=u5j hs3.heap hb2;rw[hbe3]at d1 d4;have hen:=run_endRound (P:=P) jump d1;have hk5:=d4 st';rw[e1,e2]at hk5;have hs4:=hs3.next hk5 (by simp[okM]) (x:= .any) (u:=undef) (.any undef) none
    obtain⟨k1,k2,k3,k4⟩:=hs4.keep;have hkeep:Keep M0 g h w g3 (st2.h.set b (.cells (.rcd st') t2)) _:=⟨hs4.heap,k1,k2,k3,k4⟩;obtain⟨g5,p1,p2⟩:=z9z hn hkeep (v:= .d (.bool jump.isNone)) (u:= .bool jump.isNone) (.d (.bool _));exact⟨_,_,hen, .bool jump.isNone,g5,rfl,by rw[hr];exact p1,by rw[hr];exact p2⟩
   split at hk
   ·rename_i t2 he2 hb2;simp only at he2 hb2;subst he2;cases hk;exact fin .ready none t2 hb2 rfl rfl rfl
   ·rename_i t2 he2 hb2;simp only at he2 hb2;subst he2;cases hk;exact fin (.done .ret) (some .ret) t2 hb2 rfl rfl rfl
   ·rename_i id t2 he2 hb2;simp only at he2 hb2;subst he2;cases hk;exact fin (.done (.exit id)) (some (.exit id)) t2 hb2 rfl rfl rfl
   ·cases hk
  ·cases hk
 ·cases hk
def w1v {x:Box}{v:V}(h:k6e x=some v):k6i v=some x:=by
 unfold k6e at h;split at h<;>cases h<;>simp[k6i]
def u0a: ∀ {hs:List Box} {l:List V},w1u hs=some l->w2a l=some hs
 | [],l,h=>by cases h;rfl
 |x::xs,l,h=>by
  unfold w1u at h;split at h
  ·rename_i v vs h1 h2;cases h;simp only[w2a,w1v h1,u0a h2]
  ·cases h
def w1w {pn:Nat}{as:List V}{hs:List Box}{key:List V}(h:k6f pn as hs=some key):y2d key=some (pn,as,hs):=by
 unfold k6f at h;split at h
 ·rename_i l hl;cases h;simp[y2d,u0a hl]
 ·cases h
def z3c {v p:V}(h:y0g v=some p):v=v3x p:=by
 unfold y0g at h;split at h
 ·cases h;rfl
 ·cases h
def v3y {v:V}{σ:Nat->Nat}(h:y0g v=none):y0g (v.ren σ)=none:=by
 cases hq:y0g (v.ren σ)with
 |none=>rfl
 |some p=>
  exfalso;have e:=z3c hq;cases v<;>simp only[V.ren,v3x]at e<;>first|(cases e;done)|skip
  rename_i cs
  match cs,e,h with
  | [a,b],e,h=>
    simp only[V.j0y,V.tup.injEq,List.cons.injEq,and_true]at e;obtain⟨e1,_⟩:=e;cases a<;>simp only[V.ren]at e1<;>first|(cases e1;done)|skip
    rename_i ds
    match ds,e1,h with
    | [],_,h=>cases h
    |_::_,e1,_=>simp[V.j0y]at e1
  | [],e,_=>simp[V.j0y]at e
  | [_],e,_=>simp[V.j0y]at e
  |_::_::_::_,e,_=>simp[V.j0y]at e
def q5t (P:Program)(f:FuncId)(pn:Nat)(as:List V)(hs:List Box)(p:PRes):Prop:=
 ∀(ts:List TypeId) (E:Env) (q:V × List Box),E.Ok->z1t P f=some ts->(v0w sy P pn ts as hs p.leaves).run E=some q->z6q P (x7i hs) f as hs q.1 q.2
def q5q (P:Program)(E:Env):Prop:= ∀f key pn as hs p,x4g P (z1g f)=false->y2d key=some (pn,as,hs)->E.call (z1g f) key=some p->q5t P f pn as hs p
def v0x (hE:E.Ok)(hB:q5q P E){f:FuncId}{vs:List V}{h:List Box}{r:List Nat × V × List Box}(hk:(k6x sy P Cs f vs h).run E=some r):z6q P r.1 f vs h r.2.1 r.2.2:=by
 unfold k6x at hk;split at hk
 ·rename_i ts hsig hg;rw[forceSp_eq]at hk;generalize y5q h [] vs=L at hk;split at hk
  ·rename_i hL;rw[forceH_eq]at hk;split at hk
   ·rename_i key hkey;simp only[Tree.run]at hk;obtain⟨p,hp,hk⟩:=a1s.1 hk;obtain⟨q,h1,hk⟩:=x0a hE hk;have hend:=hB _ _ _ _ _ _ hg (w1w hkey) hp ts E q hE hsig h1;split at hk
    ·rename_i hq;cases hk;have:=x9v.j1y hL (hend.none hq);unfold z6q;rw[v3y hq];exact this
    ·rename_i p' hq;cases hk;exact x8i.j2d hL (hend.some hq)
   ·cases hk
  ·cases hk
 ·cases hk
def w3u (v:V):Ending->World->Gh->Prop:=match y0g v with
 |some p=>q5j p
 |none=>RetV v
def z6q.of {M:List Nat}{f:FuncId}{args:List V}{h h':List Box}{v:V}(hc:x8i P M f args h (w3u v) h'):z6q P M f args h v h':=by
 unfold z6q;unfold w3u at hc;split
 ·rename_i p hp;rw[hp]at hc;exact hc
 ·rename_i hp;rw[hp]at hc;exact x8i.ret.1 hc
def z6q.x {M:List Nat}{f:FuncId}{args:List V}{h h':List Box}{v:V}(hc:z6q P M f args h v h'):x8i P M f args h (w3u v) h':=by
 unfold z6q at hc;unfold w3u;split
 ·rename_i p hp;rw[hp]at hc;exact hc
 ·rename_i hp;rw[hp]at hc;exact x8i.ret.2 hc
def w5q {n0:Nat}{M0:List Nat}{v:V}{h:List Box}:(z6p n0 M0 v h).2.1=v:=by unfold z6p;split<;>rfl
def x5m (hE:E.Ok)(hN:w6g E)(hG:x2s P E)(hB:q5q P E)(hm:P.follows .mixedOrders=true): ∀n,x7j P E (u1i sy P Cs n)
 |0=>⟨fun f vs h r hk=>(by cases hk),fun b R vs h r hk=>(by cases hk)⟩
 |n+1=>by
  refine⟨fun f vs h r hk=> ?_,fun b R vs h r hk=>u8u hE hN hG hm (x5m hE hN hG hB hm n) hk⟩
  unfold u1i at hk;split at hk
  ·exact v0x hE hB hk
  split at hk
  ·rename_i fn hf;split at hk
   ·rename_i c hb;rw[forceL_eq]at hk;obtain⟨r1,h1,hk⟩:=x0a hE hk;refine z6q.of fun g w us hs hu=> ?_
    refine callsIn_wide.1 (callsIn_of_wp_marks (F:=Fence.wide) (n:=0) hf hb trivial ?_);have hEn:=z0k (fn:=fn) (z1q (Cs f) h vs) (hs:=hs) (hu:=hu);have h1':(x3c sy P false (Cs f) (u1i sy P Cs n) g.n (z1q (Cs f) h vs) false 0 c (x3x fn vs h)).run E=some r1:=by rw[hs.n];exact h1
    refine wpIn_mono (x3z (ro:=none) (En:=⟨w,g,h,z1q (Cs f) h vs,(x3x fn vs h).t.length,[],false⟩) (fun _=>rfl) hE hN hG (x5m hE hN hG hB hm n) (fun _=>rfl) hm c 0 _ _ _ r1 h1' hEn) fun e a' w' hr=> ?_
    obtain⟨e1,s'⟩:=r1;rcases hr.split with⟨rfl,⟨u,rfl⟩,p,t,ht,hpan⟩|⟨hx,rfl,g',hs'⟩
    ·have hk:Tree.run E (match s'.t with
      |p::_=> .ret (z6p h.length (z1q (Cs f) h vs) (v3x p) s'.h)
      | []=> .fail)=some r:=hk
     rw[ht]at hk;cases hk;obtain⟨g',u',he,hru,hs'⟩:=hpan;cases he;refine y9f rfl rfl hs' hru fun a2 w2 ha2 hs2 hru=> ?_
     obtain⟨k1,k2,k3,k4⟩:=hs2.keep;have hkeep:Keep (z1q (Cs f) h vs) g h w g' s'.h w2:=⟨hs2.heap,k1,k2,fun b o hz=>(k3 b o hz),k4⟩
     obtain⟨q1,g2,q2,q3⟩:=w1t hs.n hkeep hru;refine⟨g2,?_,q3⟩;unfold w3u;rw[q1];exact⟨_,rfl,q2⟩
    ·have fin: ∀(e:Exit),(e= .normal\/e= .ret)->(endE P fn h.length (z1q (Cs f) h vs) (e,s')).run E=some r->LeavesInM Fence.wide 0 P fn a'.tmps (fun e w'=> ∃g',w3u r.2.1 e w' g'/\Keep r.1 g h w g' r.2.2 w') a'.defers .returning w':=by
      intro e he hq;have hq:Tree.run E (match z7m P s' fn.results.toList with
       |some v=>match y0g v with
        |none=> .ret (z6p h.length (z1q (Cs f) h vs) v s'.h)
        |some _=> .fail
       |none=> .fail)=some r:=by rcases he with rfl|rfl<;>exact hq
      refine y4v rfl rfl hs' fun a2 w2 ha2 hs2=> ?_
      rw[<-ha2];obtain⟨k1,k2,k3,k4⟩:=hs2.keep;have hkeep:Keep (z1q (Cs f) h vs) g h w g' s'.h w2:=⟨hs2.heap,k1,k2,fun b o hz=>(k3 b o hz),k4⟩
      split at hq
      ·rename_i v hv;obtain⟨u,hu,hr⟩:=x9i hs2 hv;split at hq
       ·rename_i hp;cases hq;obtain⟨g2,q1,q2⟩:=z9z hs.n hkeep hr;refine⟨u,hu,g2,?_,q2⟩;unfold w3u;rw[w5q,hp];rw[w5q]at q1;exact⟨u,rfl,q1⟩
       ·cases hq
      ·cases hq
     cases e with
     |normal=>exact fin _ (.inl rfl) hk
     |ret=>exact fin _ (.inr rfl) hk
     |outgrown=>exact(hx rfl).elim
     |_=>cases hk
   ·cases hk
  ·cases hk
def u4p: ∀ {ss:List Sh} {vs:List V} {xs:List D},v1w ss vs=some xs->xs.length=ss.length
 | [],[],xs,h=>by cases h;rfl
 | [],_::_,xs,h=>by cases h
 |_::_,[],xs,h=>by cases h
 |s::ss,v::vs,xs,h=>by
  unfold v1w at h;split at h
  ·rename_i x xs' _ h2;cases h;simp[u4p h2]
  ·cases h
def w7t {t:TypeId}{v:V}{ds rest:List D}{ts:List TypeId}{vs:List V}(h:q5z P t v=some ds)(h2:u2m P ts rest=some vs):
  ∃v',u2m P (t::ts) (ds++rest)=some (v'::vs)/\(∀(w:World) (g g':Gh) (u:Value),g'.Z=g.Z->Rep w g u v->Rep w g' u v')/\ ∃ss,z2r P 9 t=some ss/\ds.length=ss.length:=by
 unfold q5z at h;split at h
 ·rename_i ss cs h1 ha;have hl:=u4p h;refine⟨.agg (ds.map .d),?_,fun w g g' u hz hr=> ?_,ss,h1,hl⟩
  ·unfold u2m;simp only[h1,ha];rw[show decide (ss.length<=(ds++rest).length)=true from a0o (by simp;omega),show(ds++rest).drop ss.length=rest by rw[<-hl];simp,h2]
   simp only[show(ds++rest).take ss.length=ds by rw[<-hl];simp]
  ·obtain⟨q1,q2⟩:=y0k h;cases hr with
   |agg us _ hl hr=>
    refine .agg us _ (by simp[hl,q1]) fun i u c hu hc=> ?_
    rw[a0m,a0k]at hc;obtain⟨x,hx,rfl⟩:=hc;have hi:=(a0s.1 hu).1;have hcs:=a0a (l:=cs) (i:=i) (by omega)
    obtain⟨s,hs⟩:=q2 i _ x hcs hx;exact .d (by rw[hz];exact y0l (hr i u _ hu hcs) hs)
 ·rename_i s h1 ha;split at h
  ·rename_i x hx;cases h;refine⟨.d x,?_,fun w g g' u hz hr=> .d (by rw[hz];exact y0l hr hx),[s],h1,rfl⟩
   unfold u2m;simp only[h1,ha,a0d,a0h,h2]
  ·cases h
 ·cases h
def u2e: ∀ {ts:List TypeId} {vs:List V} {ds:List D},q7r P ts vs=some ds-> ∃vs',u2m P ts ds=some vs'/\vs'.length=vs.length/\(∀(i:Nat) v v',vs[i]? =some v->vs'[i]? =some v'-> ∀(w:World) (g g':Gh) (u:Value),g'.Z=g.Z->Rep w g u v->Rep w g' u v')/\
  ∃ss,shR P ts=some ss/\ds.length=ss.length
 | [],[],ds,h=>by cases h;exact⟨[],rfl,rfl,by simp,[],rfl,rfl⟩
 | [],_::_,ds,h=>by cases h
 |_::_,[],ds,h=>by cases h
 |t::ts,v::vs,ds,h=>by
  unfold q7r at h;split at h
  ·rename_i a b h1 h2;cases h;obtain⟨vs',e1,l1,r1,ss,q1,q2⟩:=u2e h2;obtain⟨v',e2,r2,ss',q3,q4⟩:=w7t h1 e1;refine⟨v'::vs',e2,by simp[l1],fun i x x' hx hx'=> ?_,ss'++ss,by simp only[shR,q3,q1],by simp[q2,q4]⟩
   cases i with
   |zero=>simp at hx hx';subst hx;subst hx';exact r2
   |succ i=>exact r1 i x x' (by simpa using hx) (by simpa using hx')
  ·cases h
def u5n {ts:List TypeId}{v:V}{ds:List D}(h:u9e P ts v=some ds): ∃v',mkV P ts ds=some v'/\(∀(w:World) (g g':Gh) (u:Value),g'.Z=g.Z->Rep w g u v->Rep w g' u v')/\ ∃ss,shR P ts=some ss/\ds.length=ss.length:=by
 unfold u9e at h;split at h
 ·obtain⟨vs',e1,l1,r1,ss,q1,q2⟩:=u2e h
  match vs',l1 with
  | [v'],_=>exact⟨v',by simp[mkV,e1],r1 0 _ v' rfl rfl,ss,q1,q2⟩
 ·rename_i ts0 vs hne;obtain⟨vs',e1,l1,r1,ss,q1,q2⟩:=u2e h;have hlen:=(y0w e1).2;have hn1:ts.length≠1:=fun h1=>by
   match ts,h1,hne with
   | [t],_,hne=>exact hne t rfl
  refine⟨.tup vs',?_,fun w g g' u hz hr=> ?_,ss,q1,q2⟩
  ·unfold mkV;rw[e1]
   match vs',hlen with
   | [],_=>rfl
   | [x],h1=>exact(hn1 (by simpa using h1.symm)).elim
   |_::_::_,_=>rfl
  ·cases hr with
   |tup us _ hl hr=>
    refine .tup us vs' (by rw[hl,l1]) fun i u c hu hc=> ?_
    have hi:=(a0s.1 hu).1;exact r1 i _ c (a0a (by omega)) hc w g g' u hz (hr i u _ hu (a0a (by omega)))
 ·cases h
def q8e {ts:List TypeId}{ds:List D}{v:V}(h:mkV P ts ds=some v){w:World}{g:Gh}{u:Value}(hr:Rep w g u v):Rep w (g.cut 0) u v:=z7r (g:=g) (g':=g.cut 0) rfl (u5x h) hr
def v6t {c:Code}{f:FuncId}{args:Array Operand}(h:k6h c=some (f,args)): ∃id ts ty pos af,c= .region id #[⟨none, .defer ⟨.value (.func f),args,ts⟩,ty,pos,af,none⟩] false:=by
 unfold k6h at h;split at h
 ·cases h;exact⟨_,_,_,_,_,rfl⟩
 ·cases h
def v3h {c:Code}{d:Tmp}(h:k4p c=some d): ∃id ts ty pos af,c= .region id #[⟨some d, .call ⟨.builtin .recover, #[],ts⟩,ty,pos,af,none⟩] false:=by
 unfold k4p at h;split at h
 ·cases h;exact⟨_,_,_,_,_,rfl⟩
 ·cases h
def Sim.through {En:Ent}(hds:En.ds= []){s1 s2:VSt}{a1 a2:Act}{w1 w2:World}{g1 g2:Gh}{ds:List Deferred}{nr:Bool}(h1:Sim En s1 a1 w1 g1)(h2:Sim ⟨w1,g1,s1.h,[],s1.t.length,ds,nr⟩ s2 a2 w2 g2):
  Sim En s2 ⟨a2.tmps,[]⟩ w2 g2:=by
 obtain⟨k1,k2,k3,k4⟩:=h2.keep;have hk:Keep [] g1 s1.h w1 g2 s2.h w2:=⟨h2.heap,k1,k2,k3,k4⟩;exact⟨h2.heap,h2.size,h2.tmps,by rw[hds];exact .none,h1.step hk (by simp[okM]),h2.len.trans h1.len⟩
def u0l (hE:E.Ok)(hN:w6g E)(hG:x2s P E)(hB:q5q P E)(hm:P.follows .mixedOrders=true){fn:Func}{R:Ending->World->Prop}{En:Ent}(hds:En.ds= []){f:FuncId}{p:V}{vs:List V}{s:VSt}{a:Act}{w:World}{g:Gh}{r:Exit × VSt}{us:List Value}{u:FrameMode}{v:Value}
  (hk:(y3w sy P Cs (u1i sy P Cs 8) f p vs s).run E=some r) (hs:Sim En s ⟨a.tmps,[]⟩ w g) (hu:z4c w g us vs) (hp:Rep w g v p)
  (hmode:(u= .returning/\v= .nilIface)\/u= .panicking [{ v:=v,recovered:=false }])
  (hR: ∀w' g',Sim En r.2 ⟨a.tmps,[]⟩ w' g'-> ∃v,(results fn a.tmps).run P w'= .ok v w'/\R (.returned v) w'):
  CallsDIn Fence.wide 0 P f us.toArray u w (fun e u' w'=>match e with
   | .returned _=>LeavesIn Fence.wide 0 P fn a.tmps R [] (settle u') w'
   | .panicked x2y=>LeavesIn Fence.wide 0 P fn a.tmps R [] (raised u' x2y) w'
   | .outgrown=>R .outgrown w'):=by
 unfold y3w at hk;split at hk
 ·rename_i fd _ hfd;split at hk
  ·rename_i x y hbody hres;split at hk
   ·rename_i d hrec;rw[forceL_eq]at hk;obtain⟨r1,h1,hk⟩:=x0a hE hk;obtain⟨id,ts,ty,pos,af,rfl⟩:=v3h hrec;have hEn:=y5a (fn:=fd) (args:=vs) [] (nr:=true) (hs:=hs.heap) (hu:=hu);have hEn1:x1s ⟨w,g,s.h,[],(x3x fd vs s.h).t.length,[],true⟩ ⟨(x3x fd vs s.h).t.set d p,s.h⟩ (({ tmps:=us.toArray++Array.replicate (fd.ntmps - us.toArray.size) undef,defers:=[] }:Act).put (some d) v) w:=
     ⟨g,⟨hs.heap,by simpa[Act.put]using hEn.size,fun i u' v' h1' h2'=>by
       simp only[Act.put,Array.getElem?_setIfInBounds]at h1';simp only[a1j]at h2'
       by_cases hd:d=i
       ·subst hd;rw[if_pos rfl]at h1' h2';split at h1'
        ·split at h2'
         ·cases h1';cases h2';exact hp
         ·cases h2'
        ·cases h1'
       ·rw[if_neg hd]at h1' h2';exact hEn.tmps i u' v' h1' h2', .none,⟨Gh.Le.refl _ _,Fr.refl _ _,fun _ _ h=> .inl h,fun _ h=> .inl h⟩,by simp⟩⟩
    have hrun:(x3c sy P true (Cs f) (u1i sy P Cs 8) g.n [] false 0 y ⟨(x3x fd vs s.h).t.set d p,s.h⟩).run E=some r1:=by rw[hs.heap.n];exact h1
    have fin: ∀(c0:Frame) (cs:List Frame) (u':FrameMode),settle u'= .returning->y.wpSIn Fence.wide 0 P (bodyPostS P fd c0 cs (fun e u' w'=>match e with
        | .returned _=>LeavesIn Fence.wide 0 P fn a.tmps R [] (settle u') w'
        | .panicked x2y=>LeavesIn Fence.wide 0 P fn a.tmps R [] (raised u' x2y) w'
        | .outgrown=>R .outgrown w')) (({ tmps:=us.toArray++Array.replicate (fd.ntmps - us.toArray.size) undef,defers:=[] }:Act).put (some d) v) ({ c0 with mode:=u' }::cs) w:=by
     intro c0 cs u' hset;refine wpSIn_of_wpIn rfl (wpIn_mono (x3z (ro:=none) (En:=⟨w,g,s.h,[],(x3x fd vs s.h).t.length,[],true⟩) (fun h=>by cases h) hE hN hG (x5m hE hN hG hB hm 8) (fun h=>by cases h) hm y 0 _ _ _ r1 hrun hEn1) fun e a' w' hr=> ?_)
     obtain⟨e1,s'⟩:=r1;rcases hr.split with⟨rfl,_⟩|⟨hx,rfl,g',hs'⟩
     ·cases hk
     have hdf:a'.defers= []:=by
      obtain⟨Ds,⟨d1,d2⟩,_⟩:=hs'.defers;rw[d1,d2 rfl];rfl
     have hth: ∀s2,(some (Exit.ret,(⟨s.t,s'.h⟩:VSt))=some r)->s2=r.2->Sim En s2 ⟨a.tmps,[]⟩ w' g':=by
      intro s2 hk e2;cases hk;subst e2;obtain⟨k1,k2,k3,k4⟩:=hs'.keep;have hkp:Keep [] g s.h w g' s'.h w':=⟨hs'.heap,k1,k2,k3,k4⟩;have ho:=hkp.over hs.heap;exact⟨hs'.heap,hs.size,fun i u v h1 h2=>ho.j0b (hs.tmps i u v h1 h2),by rw[hds];exact .none,hs.step hkp (by simp[okM]),hs.len⟩
     obtain⟨ur,hres',_⟩:=x9i hs' (fn:=fd) (v:= .tup []) (by rw[hres];rfl)
     have last: ∀s2,(some (Exit.ret,(⟨s.t,s'.h⟩:VSt))=some r)->s2=r.2->LeavesIn Fence.wide 0 P fn a.tmps R [] (settle u') w':=fun s2 h1 h2=>by
      rw[hset];exact hR w' g' (h2▸hth s2 h1 h2)
     cases e with
     |normal=>exact⟨hdf,u',rfl,_,hres',last _ hk rfl⟩
     |ret=>exact⟨hdf,u',rfl,_,hres',last _ hk rfl⟩
     |_=>cases hk
    refine callsDIn_of_wpSIn hfd hbody trivial fun c0 cs hc0=>wpSIn_seq (wpSIn_region ?_)
    rw[show List.range #[(⟨some d, .call ⟨.builtin .recover, #[],ts⟩,ty,pos,af,none⟩:Oper)].size= [0]from rfl];have hex: ∀(B:Operand->Value),(execOp B (⟨some d, .call ⟨.builtin .recover, #[],ts⟩,ty,pos,af,none⟩:Oper)).run P w= .ok .recover w:=fun B=>rfl
    simp only[wpOpsSIn,List.getElem?_toArray,List.getElem?_cons_zero,Region.wanted,if_true,hex];refine⟨fun _ _=>trivial,?_⟩
    rcases hmode with⟨h1,h2⟩|h1
    ·subst h1 h2;have:recoverD (c0::cs)=none:=by simp only[recoverD,hc0]
     rw[this];have:=fin c0 cs .returning rfl;rw[<-hc0]at this;exact this
    ·subst h1;have:recoverD (c0::cs)=some (v,{ c0 with mode:= .panicking [{ v:=v,recovered:=true }] }::cs):=by simp only[recoverD,hc0]
     rw[this];exact fin c0 cs _ rfl
   ·cases hk
  ·cases hk
 ·cases hk
def v0j (hE:E.Ok)(hN:w6g E)(hG:x2s P E)(hB:q5q P E)(hm:P.follows .mixedOrders=true){fn:Func}{R:Ending->World->Prop}{En:Ent}(hds:En.ds= [])(hM:En.M= [])(hnr:En.nr=true){C:CfgT}{r:Exit × VSt}
  (hR: ∀t w' g',Sim En r.2 ⟨t,[]⟩ w' g'->r.1= .ret-> ∃v,(results fn t).run P w'= .ok v w'/\R (.returned v) w'):
  ∀(c:Code) (s:VSt) (a:Act) (w:World),(k3k sy P Cs C (u1i sy P Cs 8) En.g.n c s).run E=some r->x1s En s a w->c.wpIn Fence.wide 0 P (bodyPostDIn Fence.wide 0 P fn R) a w:=by
 intro c
 induction c with
 |seq x y ihx ihy=>
  intro s a w hk hs;unfold k3k at hk;split at hk
  ·rename_i f args hd;obtain⟨id,ts,ty,pos,af,rfl⟩:=v6t hd;obtain⟨r1,h1,hk⟩:=x0a hE hk;obtain⟨g,hs⟩:=hs;have hdf:a.defers= []:=by
    obtain⟨Ds,⟨d1,d2⟩,_⟩:=hs.defers;rw[d1,d2 hnr,hds];rfl
   refine wpIn_seq (wpIn_region ?_);rw[show List.range #[(⟨none, .defer ⟨.value (.func f),args,ts⟩,ty,pos,af,none⟩:Oper)].size= [0]from rfl]
   let d:Deferred:= { target:= .fn (.func f) #[],args:=args.map a.eval }
   have hex:((⟨none, .defer ⟨.value (.func f),args,ts⟩,ty,pos,af,none⟩:Oper).semAt (Fence.wide).round a.eval).run P w= .ok (.defer d) w:=by
    have e:(⟨none, .defer ⟨.value (.func f),args,ts⟩,ty,pos,af,none⟩:Oper).semAt (Fence.wide).round a.eval=execOp a.eval ⟨none, .defer ⟨.value (.func f),args,ts⟩,ty,pos,af,none⟩:=Oper.semAt_none _ _;rw[e];simp[execOp,resolve,Act.eval,Deferred.ofValue,Sem.run_pure,d]
   simp only[wpOpsIn,List.getElem?_toArray,List.getElem?_cons_zero,Region.wanted,if_true,Oper.wpIn,hex,Oper.uponIn_defer];refine⟨fun _ _=>trivial,?_⟩
   have hs1:x1s ⟨w,g,s.h,[],s.t.length,[d],true⟩ s { a with defers:=[d] } w:=
    ⟨g,hs.heap,hs.size,hs.tmps,⟨[],⟨rfl,fun _=>rfl⟩,List.nodup_nil,by simp⟩,⟨Gh.Le.refl _ _,Fr.refl _ _,fun _ _ h=> .inl h,fun _ h=> .inl h⟩,rfl⟩
   have hargs:z4c w g (args.toList.map a.eval) (args.toList.map s.get):=⟨by simp,fun i u v h1 h2=>by
    rw[a0m,a0k]at h1 h2;obtain⟨q,hq,rfl⟩:=h1;obtain⟨q',hq',rfl⟩:=h2;rw[hq]at hq';cases hq';exact hs.get q⟩
   have h1':(x3c sy P true C (u1i sy P Cs 8) g.n [] false 0 y s).run E=some r1:=by rw[hs.heap.n];exact h1
   rw[hdf];refine wpIn_mono (x3z (ro:=none) (En:=⟨w,g,s.h,[],s.t.length,[d],true⟩) (fun h=>by cases h) hE hN hG (x5m hE hN hG hB hm 8) (fun h=>by cases h) hm y 0 _ _ _ r1 h1' hs1) fun e a' w' hr=> ?_
   have key: ∀(s2:VSt) (g2:Gh) (u:FrameMode) (p:V) (v:Value),Sim ⟨w,g,s.h,[],s.t.length,[d],true⟩ s2 a' w' g2->Rep w' g2 v p->u≠ .run->
       ((u= .returning/\v= .nilIface)\/u= .panicking [{ v:=v,recovered:=false }])->(y3w sy P Cs (u1i sy P Cs 8) f p (args.toList.map s.get) s2).run E=some r->LeavesIn Fence.wide 0 P fn a'.tmps R a'.defers u w':=by
    intro s2 g2 u p v hs2 hp hu hmode hk;have hdf2:a'.defers= [d]:=by
     obtain⟨Ds,⟨d1,d2⟩,_⟩:=hs2.defers;rw[d1,d2 rfl];rfl
    rw[hdf2];obtain⟨k1,k2,k3,k4⟩:=hs2.keep;have hkp:Keep [] g s.h w g2 s2.h w':=⟨hs2.heap,k1,k2,k3,k4⟩;have ho:=hkp.over hs.heap;have hargs2:z4c w' g2 (args.toList.map a.eval) (args.toList.map s.get):=⟨hargs.1,fun i u v h1 h2=>ho.j0b (hargs.2 i u v h1 h2)⟩
    have hgf:x4g P f=true:=by
     unfold y3w at hk;split at hk
     ·assumption
     ·cases hk
    have hinv:(invoke (.fn (.func f) #[]) (args.map a.eval)).run P w'= .ok (.enter f (args.toList.map a.eval).toArray) w':=by
     rw[show(args.toList.map a.eval).toArray=args.map a.eval++ #[] by apply Array.ext';simp]
     exact x7l hgf _ _
    refine leavesIn_cons hu (fun h=>by simp[Fence.wide]at h) hinv (fun _ _=>trivial) ?_
    have hret:r.1= .ret:=by
     unfold y3w at hk;split at hk
     ·split at hk
      ·split at hk
       ·rw[forceL_eq]at hk;obtain⟨r1,_,hk⟩:=x0a hE hk;split at hk<;>cases hk<;>rfl
       ·cases hk
      ·cases hk
     ·cases hk
    exact(u0l hE hN hG hB hm hds hk (hs.through hds hs2) hargs2 hp hmode fun w2 g3 h3=>hR _ _ _ h3 hret).mono fun e u2 w2 h=>by
     cases e<;>exact h
   obtain⟨e1,s'⟩:=r1;rcases hr.split with⟨rfl,⟨u,rfl⟩,p,t,ht,hpan⟩|⟨hx,rfl,g',hs'⟩
   ·obtain⟨g',u',he,hru,hs2⟩:=hpan;cases he;have hk:Tree.run E (match s'.t with
     |p::t=>y3w sy P Cs (u1i sy P Cs 8) f p (args.toList.map s.get) ⟨t,s'.h⟩
     | []=> .fail)=some r:=hk
    rw[ht]at hk;exact key _ g' _ p u hs2 hru (by simp) (.inr rfl) hk
   ·cases e with
    |normal=>exact key s' g' _ _ .nilIface hs' .ifn0 (by simp) (.inl ⟨rfl,rfl⟩) hk
    |ret=>exact key s' g' _ _ .nilIface hs' .ifn0 (by simp) (.inl ⟨rfl,rfl⟩) hk
    |outgrown=>exact(hx rfl).elim
    |_=>cases hk
  ·obtain⟨r1,h1,hk⟩:=x0a hE hk;refine wpIn_seq (wpIn_mono (x3z (inR:=true) (ro:=none) (En:=En) (fun h=>by cases h) hE hN hG (x5m hE hN hG hB hm 8) (fun h=>by cases h) hm x 0 _ _ _ r1 (by rw[hM];exact h1) hs) fun e a' w' hr=> ?_)
   obtain⟨e1,s'⟩:=r1;rcases hr.split with⟨rfl,_⟩|⟨hx,rfl,hs'⟩
   ·cases hk
   cases e with
   |normal=>exact ihy s' a' w' hk hs'
   |_=>cases hk
 |_=>intro s a w hk;cases hk
def v0b (hE:E.Ok)(hN:w6g E)(hG:x2s P E)(hB:q5q P E)(hm:P.follows .mixedOrders=true){f:FuncId}{args:List V}{p:PRes}(hsig: ∀fn,P.funcs[f]? =some fn->x4g P f=true)(hk:(k0o sy P Cs f args).run E=some p):u1e P f args p:=by
 unfold k0o at hk;split at hk
 ·rename_i fn hf;split at hk
  ·rename_i c hb;rw[forceL_eq]at hk;obtain⟨r1,h1,hk⟩:=x0a hE hk;have hsg:z1t P f=some fn.resultTypes.toList:=by
    unfold z1t;rw[hsig fn hf,hf]
   have run: ∀(g:Gh) (w:World) (us:List Value),SimH g [] w->z4c w g us args->
       Calls P f us.toArray w fun e w'=> ∃a' g',(r1.1= .normal\/r1.1= .ret)/\Sim ⟨w,g,[],[],(x3x fn args []).t.length,[],false⟩ r1.2 a' w' g'/\ ∃v,(results fn a'.tmps).run P w'= .ok v w'/\e= .returned v:=by
    intro g w us hs hu;unfold k1w at h1;split at h1
    rotate_left
    ·have hEn:=y5a (fn:=fn) [] (nr:=true) (hs:=hs) (hu:=hu);refine callsIn_wide.1 (callsIn_of_wp_defers (F:=Fence.wide) (n:=0) hf hb trivial ?_);refine v0j (En:=⟨w,g,[],[],(x3x fn args []).t.length,[],true⟩) hE hN hG hB hm rfl rfl rfl (r:=r1) (fun t w' g' hs' he=> ?_) c _ _ _ (by rw[hs.n];exact h1) ⟨g,hEn⟩
     obtain⟨e,s'⟩:=r1;have he:e= .ret:=he;subst he;have hq: ∃v,z7m P s' fn.results.toList=some v:=by
      cases hv:z7m P s' fn.results.toList with
      |some v=>exact⟨v,rfl⟩
      |none=>simp only[k3i,hv]at hk;cases hk
     obtain⟨v,hv⟩:=hq;obtain⟨u,hu,_⟩:=x9i hs' hv;exact⟨u,hu,⟨t,[]⟩,g', .inr rfl,⟨hs'.heap,hs'.size,hs'.tmps, .none,hs'.keep,hs'.len⟩,u,hu,rfl⟩
    refine callsIn_wide.1 (callsIn_of_wp_marks (F:=Fence.wide) (n:=0) hf hb trivial ?_);have hEn:=z0k (fn:=fn) [] (hs:=hs) (hu:=hu);have h1':(x3c sy P false (Cs f) (u1i sy P Cs 8) g.n [] false 0 c (x3x fn args [])).run E=some r1:=by rw[hs.n];exact h1
    refine wpIn_mono (x3z (ro:=none) (En:=⟨w,g,[],[],(x3x fn args []).t.length,[],false⟩) (fun _=>rfl) hE hN hG (x5m hE hN hG hB hm 8) (fun _=>rfl) hm c 0 _ _ _ r1 h1' hEn) fun e a' w' hr=> ?_
    obtain⟨e1,s'⟩:=r1;obtain⟨rfl,_⟩|⟨hx,rfl,g',hs'⟩:=hr.split
    ·cases hk
    have fin: ∀(e:Exit),(e= .normal\/e= .ret)->(k3i P fn (e,s')).run E=some p->LeavesInM Fence.wide 0 P fn a'.tmps (fun e0 w'=> ∃a' g',(e= .normal\/e= .ret)/\Sim ⟨w,g,[],[],(x3x fn args []).t.length,[],false⟩ s' a' w' g'/\ ∃v',(results fn a'.tmps).run P w'= .ok v' w'/\e0= .returned v') a'.defers .returning w':=by
     intro e he hq;have hq: ∃v,z7m P s' fn.results.toList=some v:=by
      cases hv:z7m P s' fn.results.toList with
      |some v=>exact⟨v,rfl⟩
      |none=>rcases he with rfl|rfl<;>(simp only[k3i,hv]at hq;cases hq)
     obtain⟨v,hv⟩:=hq;refine y4v rfl rfl hs' fun a2 w2 ha2 hs2=> ?_
     rw[<-ha2];obtain⟨u,hu,_⟩:=x9i hs2 hv;exact⟨u,hu,a2,g',he,hs2,u,hu,rfl⟩
    cases e with
    |normal=>exact fin _ (.inl rfl) hk
    |ret=>exact fin _ (.inr rfl) hk
    |_=>cases hk
   obtain⟨e,s'⟩:=r1;have hk:Tree.run E (match z7m P s' fn.results.toList with
    |some v=>match v,fn.resultTypes.toList with
     | .own b,[t]=>match s'.h[b]?,elO P t with
       |some (.arr e sz rows),some (e',sz')=>match decide (e'=e/\sz'=sz)with
        |true=> .ret (.own e sz rows)
        |false=> .fail
       |_,_=> .fail
     |v,ts=>match z7m P (s'.frz v.j0z) fn.results.toList with
      |some v'=>match u9e P ts v' with
       |some ds=> .ret (.val ds)
       |none=> .fail
      |none=> .fail
    |none=> .fail)=some p:=by
    cases e with
    |normal=>exact hk
    |ret=>exact hk
    |_=>cases hk
   split at hk
   ·rename_i v hv;split at hk
    ·rename_i b t hts;split at hk
     ·rename_i ee sze rows e' sz' hbx hel;split at hk
      ·rename_i hd;obtain⟨e3,e4⟩:=a0f hd;rw[e3,e4]at hel;clear hd e3 e4 e' sz';cases hk;refine⟨t,by rw[hsg,hts],hel,fun g w us hs hu=>(run g w us hs hu).mono ?_⟩
       rintro e0 w' ⟨a',g',_,hs',v,hres,rfl⟩
       obtain⟨u,hu',hr⟩:=x9i hs' hv;rw[hres]at hu';cases hu';obtain⟨k1,k2,k3,k4⟩:=hs'.keep;have hkeep:Keep [] g [] w g' s'.h w':=⟨hs'.heap,k1,k2,k3,k4⟩;have hbl:b < s'.h.length:=(a0c.1 hbx).1;have hge:s'.h.getD b .gone= .arr ee sze rows:=by rw[a0i,hbx];rfl
       have hL:x8b s'.h [b] [.own b]=true:=by
        simp only[x8b,z8e,a1p,List.all_nil,hge,a2a,V.j1k,V.inB,Box.inB];simp[hbl]
       obtain⟨g2,hk2,hrep⟩:=hkeep.tell hs.n hL (fun i hi=>by simp at hi)
       refine⟨v,g2,rfl,?_,?_⟩
       ·have:=hrep v _ hr (by simp[V.inB])
        simpa[V.ren,tau,List.idxOf?]using this
       ·have e2:x4t s'.h [b]= [.arr ee sze rows]:=by simp only[x4t,a1o,a1x,hge,Box.ren]
        rw[e2]at hk2;exact hk2
      ·cases hk
     ·cases hk
    ·rename_i v0 ts0 hne;split at hk
     ·rename_i v' hv';obtain⟨L,hL⟩: ∃L,z7m P (s'.frz L) fn.results.toList=some v':=⟨_,hv'⟩
      split at hk
      ·rename_i ds hds;cases hk;obtain⟨v2,m1,m2,ss,m3,m4⟩:=u5n hds;refine⟨_,ss,v2,hsg,m3,m4,m1,fun g w us hs hu=>(run g w us hs hu).mono ?_⟩
       rintro e0 w' ⟨a',g',_,hs',u0,hres,rfl⟩
       obtain⟨g1,hs1⟩:=x1s.frzs (bs:=L) ⟨g',hs'⟩;obtain⟨u,hu',hr⟩:=x9i hs1 hL;rw[hres]at hu';cases hu';obtain⟨k1,k2,k3,k4⟩:=hs1.keep;have hkeep:Keep [] g [] w g1 (s'.frz L).h w':=⟨hs1.heap,k1,k2,k3,k4⟩;have hn:g.n=0:=hs.n;exact⟨u0,g1.cut 0,rfl,q8e m1 (m2 w' g1 g1 u0 rfl hr),hkeep.j2m (n:=0) (by omega) (by omega) rfl⟩
      ·cases hk
     ·cases hk
   ·cases hk
  ·cases hk
 ·cases hk
def Keep.less {M:List Nat}{g g':Gh}{h h' ys:List Box}{w w':World}(hk:Keep M g h w g' h' w')(hn:g.n<=ys.length)
  (hw: ∀(i:Nat) y,ys[i]? =some y-> ∃x,h'[i]? =some x/\k7k ys.length (fun _=>none) x y):Keep M g h w (g'.cut ys.length) ys w':=by
 have hown: ∀k,x2o (g'.cut ys.length) ys k->x2o g' h' k:=by
  rintro k ⟨b,y,hy,hat⟩
  obtain⟨x,hx,hw⟩:=hw b y hy;exact⟨b,x,hx,hw.2 g' b k hat⟩
 refine⟨⟨rfl,fun b y hy=> ?_,fun b c y z k hb hc hat hat'=> ?_,fun k o hk' hz=>hk.heap.zsep k o (hown k hk') hz,hk.heap.zlt,hk.heap.tab⟩,⟨hk.le.Z,hn,hk.le.blk,hk.le.val,hk.le.cd⟩,hk.fr,hk.znew,fun k hk'=>hk.own k (hown k hk')⟩
 ·obtain⟨x,hx,hw⟩:=hw b y hy;exact hw.1 w' g' b (fun _ _ h=>by cases h) (hk.heap.rep b x hx)
 ·obtain⟨x,hx,hw1⟩:=hw b y hb;obtain⟨x',hx',hw2⟩:=hw c z hc;exact hk.heap.sep b c x x' k hx hx' (hw1.2 g' b k hat) (hw2.2 g' c k hat')
def u0v {E:Env}(hE:E.Ok){ss:List Sh}{mk:List D->Option V}{sks:List BSk}{ds:List D}{j:Nat}{q:V × List Box}(h:(u0w sy ss mk sks ds j).run E=some q):
  ∃xs k,xs.length=ss.length/\(∀(i:Nat) x,xs[i]? =some x->ds[j+i]? =some x)/\mk xs=some q.1/\(y3c sy sks ds (j+ss.length)).run E=some (q.2,k):=by
 unfold u0w at h;obtain⟨xs,h1,h⟩:=x0a hE h;obtain⟨q1,q2⟩:=x8q hE h1;split at h
 ·rename_i v hv;obtain⟨q',h2,h⟩:=x0a hE h;cases h;exact⟨xs,q'.2,q1,q2,hv,h2⟩
 ·cases h
def v3u {xs ds full:List D}{j:Nat}(hl:xs.length=ds.length)(hx: ∀(i:Nat) x,xs[i]? =some x->full[j+i]? =some x)(hd:At full j ds):xs=ds:=by
 apply List.ext_getElem?;intro i;cases hi:xs[i]? with
 |none=>
  have:=List.getElem?_eq_none_iff.1 hi;exact(List.getElem?_eq_none_iff.2 (by omega)).symm
 |some x=>
  have h1:=hx i x hi;have hlt:i < ds.length:=by rw[<-hl];exact(a0c.1 hi).1
  have h2:=hd i ds[i] (a0a hlt);rw[a0a hlt,<-h1,h2]
def y1n: ∀ {ts:List TypeId} {ds:List D} {vs:List V},u2m P ts ds=some vs-> ∀v∈vs,(∃cs,v= .agg cs)\/ ∃d,v= .d d
 | [],[],vs,h=>by cases h;simp
 | [],_::_,vs,h=>by cases h
 |t::ts,ds,vs,h=>by
  unfold u2m at h;split at h
  ·split at h
   ·rename_i vs' _ h2;cases h;intro v hv;rcases a1n.1 hv with rfl|hv
    ·exact .inl ⟨_,rfl⟩
    ·exact y1n h2 v hv
   ·cases h
  ·split at h
   ·split at h
    ·rename_i vs' h2;cases h;intro v hv;rcases a1n.1 hv with rfl|hv
     ·exact .inr ⟨_,rfl⟩
     ·exact y1n h2 v hv
    ·cases h
   ·cases h
  ·cases h
def w7x {ts:List TypeId}{ds:List D}{v:V}(h:mkV P ts ds=some v):y0g v=none:=by
 cases hp:y0g v with
 |none=>rfl
 |some p=>
  exfalso;have e:=z3c hp;subst e;unfold mkV at h;split at h
  ·rename_i v hv;cases h;rcases y1n hv _ a0v with⟨cs,h⟩|⟨d,h⟩<;>cases h
  ·rename_i vs _ hv;cases h;rcases y1n hv _ a0v with⟨cs,h⟩|⟨d,h⟩<;>cases h
  ·cases h
def At.self (a b c:List D):At (a++b++c) a.length b:=fun i x hx=>by
 have hi:=(a0c.1 hx).1;rw[List.append_assoc,List.getElem?_append_right (by omega),Nat.add_sub_cancel_left,List.getElem?_append_left hi];exact hx
def At.last (a b c:List D):At (a++b++c) (a.length+b.length) c:=fun i x hx=>by
 rw[List.getElem?_append_right (by simp only[a0j];omega),a0j,Nat.add_sub_cancel_left];exact hx
def v0c (hE:E.Ok)(hN:w6g E)(hG:x2s P E)(hB:q5q P E)(hm:P.follows .mixedOrders=true){f:FuncId}{pn:Nat}{args:List V}{hs:List Box}{p:PRes}(hk:(q1m sy P Cs f pn args hs).run E=some p):q5t P f pn args hs p:=by
 unfold q1m at hk;split at hk
 ·rename_i fn hf hyb;split at hk
  ·rename_i c hb;rw[forceL_eq]at hk;obtain⟨r1,h1,hk⟩:=x0a hE hk;intro ts E' q hE' hsig hq;have hts:ts=fn.resultTypes.toList:=by
    have hg:=x3l hsig;unfold z1t at hsig;rw[hg,hf]at hsig;exact(Option.some.inj hsig).symm
   have hok: ∀x∈hs.map Box.sk,x.okY (fun _=>none):=fun x hx=>by
    have hy:=a0l.1 hyb x hx;cases x with
    |cells k l=>exact x8r l hy
    |_=>exact trivial
   refine z6q.of fun g w us hs' hu=> ?_
   have hgn:g.n=hs.length:=hs'.n;have weak: ∀ {sks:List BSk} {g2:Gh} {h2 ys:List Box} {w2:World} {xs full:List D} {j k:Nat},sks.length=hs.length->(∀x∈sks,x.okY (fun _=>none))->Keep (x7i hs) g hs w g2 h2 w2->BSk.j0u hs.length sks h2=some xs->At full j xs->
       (y3c sy sks full j).run E'=some (ys,k)->Keep (x7i hs) g hs w (g2.cut ys.length) ys w2:=by
    intro sks g2 h2 ys w2 xs full j k hsl hok hk hfit hat hop;obtain⟨ys',e2,l2,l3,w2'⟩:=y5e hE' (n:=hs.length) (c:=fun _=>none) sks hfit hok hat
    rw[e2]at hop;cases hop;have hl:ys.length=hs.length:=by rw[l2,hsl]
    exact hk.less (by omega) (by rw[hl];exact w2')
   refine callsIn_wide.1 (callsIn_of_wp_marks (F:=Fence.wide) (n:=0) hf hb trivial ?_);have hEn:=z0k (fn:=fn) (x7i hs) (hs:=hs') (hu:=hu);have h1':(x3c sy P false (Cs f) (u1i sy P Cs 8) g.n (x7i hs) false 0 c (x3x fn args hs)).run E=some r1:=by rw[hs'.n];exact h1
   refine wpIn_mono (x3z (ro:=none) (En:=⟨w,g,hs,x7i hs,(x3x fn args hs).t.length,[],false⟩) (fun _=>rfl) hE hN hG (x5m hE hN hG hB hm 8) (fun _=>rfl) hm c 0 _ _ _ r1 h1' hEn) fun e a' w' hr=> ?_
   obtain⟨e1,s'⟩:=r1;rcases hr.split with⟨rfl,⟨u,rfl⟩,p0,t,ht,hpan⟩|⟨hx,rfl,g',hs2⟩
   ·obtain⟨g',u',he,hru,hs2⟩:=hpan;cases he;refine y9f rfl rfl hs2 hru fun a2 w2 ha2 hs3 hru=> ?_
    obtain⟨k1,k2,k3,k4⟩:=hs3.keep;have hkeep:Keep (x7i hs) g hs w g' s'.h w2:=⟨hs3.heap,k1,k2,fun b o hz=>(k3 b o hz),k4⟩
    cases pn with
    |zero=>cases hk
    |succ m=>
     unfold k6d at hk;simp only[ht]at hk;cases p0 with
     |ifc tt cs=>
      simp only at hk;split at hk
      ·rename_i ps hd hps;have hd:=a0f hd;subst hd;split at hk
       ·rename_i ds xs hfit hbx;cases hk;obtain⟨rfl,hl,_⟩:=x8y hfit;unfold v0w at hq;split at hq
        ·rename_i ss hss;simp only[hps,Tree.run,PRes.leaves,w1o]at hq;have e0:opB (sy.cell ([D.bool true]++ds++xs) 0)=some true:=rfl;rw[e0]at hq;simp only[a1l]at hq;obtain⟨xs0,k0,l0,x0,mk0,op0⟩:=u0v hE' hq;have e1:xs0=ds:=v3u (by omega) x0 (At.self [D.bool true] ds xs)
         subst e1;have e2:q.1=v3x (.ifc (m+1) xs0):=(Option.some.inj mk0).symm;have hw:=weak (a1f _) hok hkeep hbx (At.last [D.bool true] xs0 xs) (by rw[hl];exact op0)
         refine⟨_,?_,hw⟩;rw[e2];show q5j _ _ _ _;refine⟨_,rfl,?_⟩;cases hru with
         |ifc _ us _ hl' h'=>exact .ifc _ us _ hl' h'
        ·cases hq
       ·cases hk
      ·cases hk
     |_=>cases hk
   ·have fin: ∀(e:Exit),(e= .normal\/e= .ret)->(k6d P fn pn args hs (e,s')).run E=some p->LeavesInM Fence.wide 0 P fn a'.tmps (fun e w'=> ∃g',w3u q.1 e w' g'/\Keep (x7i hs) g hs w g' q.2 w') a'.defers .returning w':=by
     intro e he hk;have hk:Tree.run E (match z7m P s' fn.results.toList with
      |some v0=>match z7m P (s'.frz v0.j0z) fn.results.toList with
       |some v=>match u9e P fn.resultTypes.toList v,fitB P args hs (s'.frz v0.j0z).h pn with
        |some ds,some (fl,xs)=> .ret (.val (fl++ds++xs))
        |_,_=> .fail
       |none=> .fail
      |none=> .fail)=some p:=by rcases he with rfl|rfl<;>exact hk
     refine y4v rfl rfl hs2 fun a2 w2 ha2 hs3=> ?_
     rw[<-ha2];split at hk
     ·rename_i v0 hv0;split at hk
      ·rename_i v hv;split at hk
       ·rename_i ds fl xs hds hbx;cases hk;obtain⟨g1,hs4⟩:=x1s.frzs (bs:=v0.j0z) ⟨g',hs3⟩;obtain⟨k1,k2,k3,k4⟩:=hs4.keep;have hkeep:Keep (x7i hs) g hs w g1 (s'.frz v0.j0z).h w2:=⟨hs4.heap,k1,k2,fun b o hz=>(k3 b o hz),k4⟩
        obtain⟨u,hu',hr⟩:=x9i hs4 hv;obtain⟨v2,m1,m2,ss,m3,m4⟩:=u5n hds;rw[<-hts]at m1 m3;have key: ∃sks k0,sks.length=hs.length/\(∀x∈sks,x.okY (fun _=>none))/\BSk.j0u hs.length sks (s'.frz v0.j0z).h=some xs/\mkV P ts ds=some q.1/\(y3c sy sks (fl++ds++xs) (fl.length+ds.length)).run E'=some (q.2,k0):=by
         unfold v0w at hq;rw[m3]at hq;unfold fitB at hbx;have step: ∀ {sks:List BSk},(u0w sy ss (mkV P ts) sks (fl++ds++xs) fl.length).run E'=some q-> ∃k0,mkV P ts ds=some q.1/\(y3c sy sks (fl++ds++xs) (fl.length+ds.length)).run E'=some (q.2,k0):=by
          intro sks hq;obtain⟨xs0,k0,l0,x0,mk0,op0⟩:=u0v hE' hq;have e1:xs0=ds:=v3u (by omega) x0 (At.self fl ds xs)
          subst e1;exact⟨k0,mk0,by rw[m4];exact op0⟩
         cases pn with
         |zero=>
          simp only at hq hbx;cases ha:w3n P args hs with
          |none=>
           rw[ha]at hq hbx;simp only at hq hbx;split at hbx
           ·rename_i xs' hx';cases hbx;obtain⟨k0,h1,h2⟩:=step hq;exact⟨_,k0,a1f _,hok,hx',h1,h2⟩
           ·cases hbx
          |some sk2=>
           rw[ha]at hq hbx;simp only at hq hbx;split at hbx
           ·rename_i xs' hx';cases hbx;simp only[Tree.run,PRes.leaves]at hq;have e0:opB (sy.cell ([D.bool false]++ds++xs) 0)=some false:=rfl;rw[e0]at hq;simp only[a1l]at hq;obtain⟨k0,h1,h2⟩:=step hq;exact⟨_,k0,a1f _,hok,hx',h1,h2⟩
           ·split at hbx
            ·rename_i xs' hx' hyb2;cases hbx;simp only[Tree.run,PRes.leaves]at hq;have e0:opB (sy.cell ([D.bool true]++ds++xs) 0)=some true:=rfl;rw[e0]at hq;simp only[a1l]at hq;obtain⟨k0,h1,h2⟩:=step hq;refine⟨_,k0,?_,fun x hx=> ?_,hx',h1,h2⟩
             ·unfold w3n at ha;split at ha
              ·split at ha
               ·cases ha;simp
               ·cases ha
              ·cases ha
             ·have hy:=a0l.1 hyb2 x hx;cases x with
              |cells k l=>exact x8r l hy
              |_=>exact trivial
            ·cases hbx
         |succ m=>
          simp only at hq hbx;split at hbx
          ·rename_i xs' hx';cases hbx;split at hq
           ·simp only[Tree.run,PRes.leaves,w1o]at hq;have e0:opB (sy.cell ([D.bool false]++ds++xs) 0)=some false:=rfl;rw[e0]at hq;simp only[a1l]at hq;obtain⟨k0,h1,h2⟩:=step hq;exact⟨_,k0,a1f _,hok,hx',h1,h2⟩
           ·cases hq
          ·cases hbx
        obtain⟨sks,k0,hsl,hsok,hsfit,hmk,hop⟩:=key;have hw:=weak hsl hsok hkeep hsfit (At.last fl ds xs) hop;refine⟨u,hu',_,?_,hw⟩;unfold w3u;rw[w7x hmk];rw[m1]at hmk;refine⟨u,rfl,?_⟩;rw[<-Option.some.inj hmk];exact m2 w2 g1 _ u rfl hr
       ·cases hk
      ·cases hk
     ·cases hk
    cases e with
    |normal=>exact fin _ (.inl rfl) hk
    |ret=>exact fin _ (.inr rfl) hk
    |outgrown=>exact(hx rfl).elim
    |_=>cases hk
  ·cases hk
 ·cases hk
def q5o (P:Program)(K:FuncId->List V->Option PRes):Prop:=KV P/\(∀f args p,x4g P f=true->args.all V.j0e=true->K f args=some p->u1e P f args p)/\ ∀f key pn as hs p,x4g P (z1g f)=false->y2d key=some (pn,as,hs)->K (z1g f) key=some p->q5t P f pn as hs p
def x8f (P:Program)(Cs:FuncId->CfgT)(K:FuncId->List V->Option PRes):Nat->FuncId->List V->Option PRes
 |0,_,_=>none
 |n+1,f,args=>match K f args with
  |some p=>some p
  |none=>match x4g P f with
   |true=>(k0o sy P Cs f args).run (v6n n (x8f P Cs K n))
   |false=>match y2d args,w8q f with
    |some (pn,as,hs),true=>(q1m sy P Cs (v9n f) pn as hs).run (v6n n (x8f P Cs K n))
    |_,_=>none
def u7u (f:Nat):v9n (z1g f)=f:=by unfold z1g v9n;omega
def v8d (f:Nat):w8q (z1g f)=true:=a0o (by unfold z1g;omega)
def w2i {K:FuncId->List V->Option PRes}{n:Nat}{f k:FuncId}{key as:List V}{pn:Nat}{hs:List Box}(h2:w8q k=true)(h1:v9n k=f)(hg:x4g P k=false)(hd:y2d key=some (pn,as,hs))(hk:K k key=none):
  x8f P Cs K (n+1) k key=(q1m sy P Cs f pn as hs).run (v6n n (x8f P Cs K n)):=by
 subst h1;rw[x8f];rw[hk];simp only;rw[hg];simp only;rw[hd,h2]
def u3v {K:FuncId->List V->Option PRes}{n:Nat}{k:FuncId}{key:List V}{p:PRes}(hk:K k key=some p):x8f P Cs K (n+1) k key=some p:=by
 rw[x8f];rw[hk]
def u0p {K:FuncId->List V->Option PRes}{n:Nat}{f:FuncId}{key as:List V}{pn:Nat}{hs:List Box}(hg:x4g P (z1g f)=false)(hd:y2d key=some (pn,as,hs))(hk:K (z1g f) key=none):
  x8f P Cs K (n+1) (z1g f) key=(q1m sy P Cs f pn as hs).run (v6n n (x8f P Cs K n)):=w2i (v8d f) (u7u f) hg hd hk
variable {K : FuncId -> List V -> Option PRes}
def z3v (hm:P.follows .mixedOrders=true)(hK:q5o P K): ∀n m,x2s P (v6n m (x8f P Cs K n))/\q5q P (v6n m (x8f P Cs K n))
 |0,m=>⟨⟨hK.1,fun f args p _ _ h=>by cases h⟩,fun f key pn as hs p _ _ h=>by cases h⟩
 |n+1,m=>by
  have ih:=z3v hm hK n n;refine⟨⟨hK.1,fun f args p hg hp h=> ?_⟩,fun f key pn as hs p hg hd h=> ?_⟩
  ·have h:x8f P Cs K (n+1) f args=some p:=h;unfold x8f at h;split at h
   ·rename_i hk;cases h;exact hK.2.1 f args _ hg hp hk
   ·rw[hg]at h;exact v0b (v6m n _) ⟨n,fun b ds=>rfl⟩ ih.1 ih.2 hm (fun _ _=>hg) h
  ·have h:x8f P Cs K (n+1) (z1g f) key=some p:=h;cases hk:K (z1g f) key with
   |some p'=>
    rw[u3v hk]at h;cases h;exact hK.2.2 f key pn as hs _ hg hd hk
   |none=>
    rw[u0p hg hd hk]at h;exact v0c (v6m n _) ⟨n,fun b ds=>rfl⟩ ih.1 ih.2 hm h
open Classical in
noncomputable def z2f (P:Program) (Cs:FuncId->CfgT) (K:FuncId->List V->Option PRes) (f:FuncId) (args:List V):Option PRes:=
 if h: ∃p N,∀n,N<=n->x8f P Cs K n f args=some p then some (Classical.choose h)else none
def x6r {f:FuncId}{args:List V}{p:PRes}:z2f P Cs K f args=some p↔ ∃N,∀n,N<=n->x8f P Cs K n f args=some p:=by
 unfold z2f;constructor
 ·intro h;split at h
  ·rename_i hx;cases h;exact Classical.choose_spec hx
  ·cases h
 ·rintro⟨N,h⟩
  have hx: ∃p N,∀n,N<=n->x8f P Cs K n f args=some p:=⟨p,N,h⟩
  rw[dif_pos hx];obtain⟨N',h'⟩:=Classical.choose_spec hx;have h1:=h (max N N') (by omega)
  have h2:=h' (max N N') (by omega)
  rw[h1]at h2;exact h2.symm
def u7k {f:FuncId}{args:List V}{p:PRes}(hg:x4g P f=true)(hk:K f args=none)(h:(k0o sy P Cs f args).run (w5p (z2f P Cs K))=some p):z2f P Cs K f args=some p:=by
 obtain⟨N,hN⟩:=v2u (cN:=x8f P Cs K) (fun f args p h=>x6r.1 h) _ p h
 refine x6r.2 ⟨N+1,fun n hn=> ?_⟩
 obtain⟨n,rfl⟩: ∃k,n=k+1:=⟨n - 1,by omega⟩
 simp only[x8f,hk,hg];exact hN n n (by omega) (by omega)
def v7c {f:FuncId}{pn:Nat}{as key:List V}{hs:List Box}{p:PRes}(hg:x4g P (z1g f)=false)(hk:K (z1g f) key=none)(hd:y2d key=some (pn,as,hs))(h:(q1m sy P Cs f pn as hs).run (w5p (z2f P Cs K))=some p):z2f P Cs K (z1g f) key=some p:=by
 obtain⟨N,hN⟩:=v2u (cN:=x8f P Cs K) (fun f args p h=>x6r.1 h) _ p h
 refine x6r.2 ⟨N+1,fun n hn=> ?_⟩
 obtain⟨n,rfl⟩: ∃k,n=k+1:=⟨n - 1,by omega⟩
 rw[u0p hg hd hk];exact hN n n (by omega) (by omega)
def y2p {f:FuncId}{args:List V}{p:PRes}(hk:K f args=some p):z2f P Cs K f args=some p:=
 x6r.2 ⟨1,fun n hn=>by
  obtain⟨n,rfl⟩: ∃k,n=k+1:=⟨n - 1,by omega⟩
  simp only[x8f,hk]⟩
def v0o (hm:P.follows .mixedOrders=true)(hK:q5o P K){f:FuncId}{args:List V}{p:PRes}(hg:x4g P f=true)(hp:args.all V.j0e=true)(h:z2f P Cs K f args=some p):u1e P f args p:=by
 obtain⟨N,hN⟩:=x6r.1 h;exact(z3v hm hK N 0).1.2 f args p hg hp (hN N (a0q _))
end
def bs (l:List UInt8):BA:=⟨⟨l⟩⟩
def x0u {α:Type}(x:Option (List D ⊕ α))(K:List D->Option α):Option α:=x.bind fun s=>match s with
 | .inl ds=>K ds
 | .inr a=>some a
def z9u:Code->Option (Array Tmp × Code × Code)
 | .rangeFunc _ ps a b=>some (ps,a,b)
 | .seq a b=>match z9u a with
   |some x=>some x
   |none=>z9u b
 | .cond _ a b=>match z9u a with
   |some x=>some x
   |none=>z9u b
 | .block _ b=>z9u b
 | .loop b=>z9u b
 | .scope b=>z9u b
 |_=>none
def k4o (P:Program)(f:Nat):RecI:=match (P.funcs[f]?).bind (·.body)with
 |some c=>match z9u c with
  |some (ps,a,b)=>⟨f,ps,a,b⟩
  |none=>⟨0, #[], .skip, .skip⟩
 |none=>⟨0, #[], .skip, .skip⟩
section
variable (a b c : Int) (k : IntKind) (l m : LL) (s u : BA) (p q : Bool) (n j : Nat) (ds es : List D) (d e : D)
def v1z:sy.wrap k a=k.wrap a:=rfl
def w4j:sy.add a b=a+b:=rfl
def w3y:sy.sub a b=a - b:=rfl
def w4a:sy.mul a b=a*b:=rfl
def w4e:sy.ieq a b=decide (a=b):=rfl
def v2h:sy.ilt a b=decide (a < b):=rfl
def w4d:sy.ile a b=decide (a<=b):=rfl
def u4r:sy.seq s u=(s.toList == u.toList):=rfl
def w4i:sy.beq p q=(p == q):=rfl
def w4h:sy.bor p q=(p || q):=rfl
def v2k:sy.bnot p= !p:=rfl
def v2g:sy.imax a b=max a b:=rfl
def v2f:sy.imin a b=min a b:=rfl
def y4g:sy.rlen l=l.length:=rfl
def y8a:sy.slen s=s.size:=rfl
def u1x:sy.sapp s u=s++u:=rfl
def w4c:sy.inr a b=decide (0<=a/\a < b):=rfl
def w3z:sy.nat a=a.toNat:=rfl
def z4j:sy.cell (d::ds) 0=some d:=rfl
def u4v:sy.cell (d::ds) (n+1)=sy.cell ds n:=rfl
def u4q:sy.skip 0 ds=ds:=rfl
def v2e:sy.inrn n l=decide (n < l.length):=rfl
def v2b:sy.rapp l m=l++m:=rfl
def v2j:sy.fits l m n=decide ((l.length+m.length)*(n+1)<=140737488355328):=rfl
def u4u:sy.cutok a b c=decide (0<=a/\a<=b/\b<=c):=rfl
def w4g:sy.cut l a b=(l.take b.toNat).drop a.toNat:=rfl
def u1w:sy.scut s a b=s.extract a.toNat b.toNat:=rfl
def u4s:sy.sbyte s a=((s.data.getD a.toNat 0).toNat:Int):=rfl
def v2d:sy.mkok a b n=decide (a=b/\0<=a/\a*(n+1)<=140737488355328):=rfl
def u4t:sy.mkok0 a n=decide (0<=a/\a*(n+1)<=140737488355328):=rfl
def w4b:sy.mkz a n=decide (0 < a/\a*(n+1)<=140737488355328):=rfl
def v2a:sy.rep a ds=List.replicate a.toNat ds:=rfl
def v2i:sy.head l a=l.take a.toNat:=rfl
def w4f:sy.deq ds es=y5z ds es:=rfl
def y4h:sy.rdec s a=u0h s a:=rfl
def y4f:sy.rwid s a=w2b s a:=rfl
def w6z:sy.sidx s a=Lib.indexByte s.data.toList a.toNat.toUInt8:=rfl
def w7a:sy.scnt s a=(Lib.countByte s.data.toList a.toNat.toUInt8:Nat):=rfl
def y5l:sy.row l a=l.getD a.toNat []:=rfl
def w7b:sy.rown l n=l.getD n []:=rfl
def u2f:opI (some (.int k a)) k=some a:=by simp[opI]
def u5p:opB (some (.bool p))=some p:=rfl
def v4a:opS (some (.str s))=some s:=rfl
def w4r:opL (some (.sl n l)) n=some l:=by simp[opL]
def v4b (t:TypeId):opM (some (.own t n l)) t n=some l:=by simp[opM]
def y4u:(PRes.val ds).leaves=ds:=rfl
def z3j (t:TypeId):(PRes.own t n l).leaves= [.sl n l]:=rfl
def u6x:y5z [] es=true:=by cases es<;>rfl
def u6y:y5z (.int k a::ds) (.int k b::es)=(decide (a=b)&&y5z ds es):=by
 show((a == b)&&_)=_;congr 1
end
section
variable {α β : Type} (x y : Option (List D ⊕ α)) (K : List D -> Option α) (ds : List D) (a : α) (c p q : Bool)
def u7g:x0u (some (.inl ds)) K=K ds:=rfl
def u7f:x0u (some (.inr a)) K=some a:=rfl
def u0i:x0u (bif c then some (.inl [.bool p])else some (.inl [.bool q])) K=K [.bool (bif c then p else q)]:=by cases c<;>rfl
def u7z:(bif c then some (Sum.inl [D.bool p])else some (Sum.inl [D.bool q]):Option (List D ⊕ α))=some (.inl [.bool (bif c then p else q)]):=by cases c<;>rfl
end
def x0p {n:Int}(h1: -9223372036854775808<=n)(h2:n<=9223372036854775807):IntKind.i64.wrap n=n:=by
 simp[IntKind.wrap,IntKind.bits,IntKind.signed];omega

def z8n {α:Type}(d:α):List (Nat × α)->Nat->α
 | [],_=>d
 |(k,x)::r,n=>match Nat.beq k n with
  |true=>x
  |false=>z8n d r n
def w8b:List (Nat × List (Nat × LAn)):=[(9,[(0,{ slots:=[(2,none),(3,none),(5,none)] })]),(11,[(4,{ slots:=[(1,none),(3,none),(4,none),(5,none),(6,none),(7,none)] }),(2,{ slots:=[(1,none),(3,none),(4,none),(5,none)] }),(0,{ slots:=[(1,none),(3,none)] })]),(12,[(0,{ slots:=[(1,none),(4,none),(5,none),(6,none),(7,none)] })]),(13,[(2,{ slots:=[(1,none),(3,none),(5,none)] }),(0,{ slots:=[(1,none),(3,none),(4,none)] })]),(14,[(0,{ slots:=[(0,none),(7,none),(8,none)],own:=[(1000,7,38)] })]),(15,[(2,{ slots:=[(0,none),(2,none),(4,none)],own:=[(3,1,24)] }),(0,{ slots:=[(0,none),(2,none),(4,none)],own:=[(3,1,24)],own2:=[(3,0,1,2,23)],dat:=[(1,3,51)] })]),(17,[(0,{ slots:=[(1,none),(4,none),(14,none),(15,none),(16,none)],own:=[(1000,4,64)] })]),(23,[(0,{ slots:=[(0,none),(1,none),(5,none)] })]),(24,[(0,{ slots:=[(2,none),(3,none),(5,none)] })]),(25,[(2,{ slots:=[(0,none),(3,none),(4,none)] }),(0,{ slots:=[(0,none),(3,none)] })]),(26,[(0,{ slots:=[(0,none),(3,none)] })]),(28,[(4,{ slots:=[(3,none),(4,none),(7,none)] }),(2,{ slots:=[(0,none),(3,none),(4,none),(6,none)] }),(0,{ slots:=[(0,none),(3,none),(4,none),(5,none)] })]),(29,[(2,{ slots:=[(3,none),(7,none)] }),(0,{ slots:=[(0,none),(3,none),(5,none),(6,none)] })]),(30,[(2,{ slots:=[(0,none),(3,none),(4,none)] }),(0,{ slots:=[(0,none),(3,none)] })]),(31,[(0,{ slots:=[(0,none),(3,none),(4,none)] })]),(33,[(0,{ slots:=[(0,none),(3,none),(4,none)] })]),(34,[(0,{ slots:=[(3,none),(5,none),(6,none)] })]),(39,[(0,{ slots:=[(0,none),(2,none),(3,none)],own:=[(3,4,69)] })]),(47,[(0,{ slots:=[(0,none),(3,none),(4,none),(5,none),(12,none),(13,none),(14,none)],own:=[(1000,3,64),(0,0,64)] })]),(51,[(2,{ slots:=[(3,none),(36,none),(37,none),(38,none)] }),(0,{ slots:=[(3,none),(5,none),(14,none),(15,none),(16,none)] })]),(53,[(0,{ slots:=[(3,none),(7,none),(8,none),(9,none)],own:=[(1000,3,64)] })]),(54,[(0,{ slots:=[(3,none),(7,none),(8,none),(9,none)] })]),(63,[(0,{ slots:=[(0,none),(1,none),(5,none)] })]),(64,[(0,{ slots:=[(0,none),(1,none),(5,none)] })]),(65,[(0,{ slots:=[(2,none),(3,none),(5,none)] })]),(66,[(0,{ slots:=[(1,none),(2,none),(5,none)] })]),(67,[(2,{ slots:=[(3,none),(4,none),(5,none)] }),(0,{ slots:=[(3,none),(4,none)] })]),(71,[(0,{ slots:=[(1,none),(3,none)] })]),(72,[(0,{ slots:=[(0,none),(1,none),(5,none),(6,none)] })]),(74,[(0,{ slots:=[(0,none),(1,none),(5,none)] })]),(84,[(0,{ slots:=[(0,none),(2,none),(7,none),(8,none),(9,none)] })]),(87,[(0,{ slots:=[(0,none),(6,none),(7,none),(8,none)] })]),(88,[(0,{ slots:=[(0,none),(1,none),(5,none)] })]),(89,[(0,{ slots:=[(0,none),(1,none),(5,none)] })]),(108,[(0,{ slots:=[(0,none),(3,none),(4,none)] })]),(114,[(0,{ slots:=[(1,none),(3,none),(4,none)] })]),(115,[(0,{ slots:=[(0,none),(7,none)] })]),(118,[(0,{ slots:=[(3,none),(4,none)] })]),(120,[(3,{ slots:=[(1,none),(3,none),(5,none),(6,none)] }),(0,{ slots:=[(1,none),(3,none),(4,none)] })]),(126,[(0,{ slots:=[(6,none),(7,none),(8,none)] })]),(133,[(0,{ slots:=[(0,none),(1,none),(8,none)] })]),(135,[(2,{ slots:=[(0,none),(3,none),(7,none),(8,none),(9,none),(15,none),(16,none),(17,none)] }),(0,{ slots:=[(0,none),(7,none),(8,none),(9,none)],own:=[(0,0,64)] })]),(137,[(0,{ slots:=[(0,none),(1,none),(7,none),(8,none)] })]),(141,[(2,{ slots:=[(6,none),(25,none),(26,none),(27,none)] }),(0,{ slots:=[(0,none),(3,none),(9,none),(10,none),(11,none)] })]),(142,[(0,{ slots:=[(0,none),(1,none),(7,none),(8,none)] })]),(146,[(2,{ slots:=[(3,none),(4,none),(6,none),(7,none)] }),(0,{ slots:=[(3,none),(4,none)] })]),(151,[(0,{ slots:=[(1,none),(3,none),(4,none)] })]),(152,[(0,{ slots:=[(1,none),(3,none),(4,none)] })]),(159,[(0,{ slots:=[(0,none),(3,none),(4,none)] })]),(163,[(1,{ slots:=[(0,none),(1,none),(5,none),(6,none),(7,none),(8,none),(9,none),(10,none)] })]),(172,[(0,{ slots:=[(0,none),(1,none),(7,none),(8,none)] })]),(176,[(0,{ slots:=[(3,none),(7,none),(8,none),(9,none)] })]),(179,[(0,{ slots:=[(0,none),(1,none),(7,none),(8,none)] })]),(180,[(0,{ slots:=[(0,none),(1,none),(5,none),(6,none),(7,none)] })]),(184,[(0,{ slots:=[(1,none),(3,none)] })]),(186,[(0,{ slots:=[(1,none),(3,none)] })]),(187,[(0,{ slots:=[(0,none),(3,none),(4,none)] })]),(196,[(0,{ slots:=[(0,none),(1,none),(2,none),(3,none),(9,none),(10,none)] })]),(198,[(0,{ slots:=[(0,none),(6,none)] })]),(206,[(0,{ slots:=[(1,none),(12,none),(13,none),(14,none)] })]),(221,[(0,{ slots:=[(0,none),(1,none),(5,none)] })]),(244,[(0,{ slots:=[(0,none),(1,none),(7,none),(8,none)] })]),(251,[(0,{ slots:=[(0,none),(6,none),(7,none),(8,none)] })]),(261,[(0,{ slots:=[(0,none),(1,none),(2,none),(3,none),(8,none),(9,none)] })]),(269,[(0,{ slots:=[(0,none),(2,none),(8,none)] })]),(287,[(0,{ slots:=[(0,none),(2,none),(3,none)],dat:=[(2,4,64),(2,5,79)] })]),(290,[(0,{ slots:=[(0,none),(1,none),(5,none)] })]),(292,[(0,{ slots:=[(0,none),(2,none),(3,none),(4,none)],own:=[(2,4,64),(2,5,79)] })])]
def q8n:List (Nat × List Nat):=[(7,[40,41,85,37,42,86,87,88,38,201,169,170,129,89,130,90,39,15,16]),(15,[40,41,85,37,42,86,87,88,38,201,169,170,129,89,130,90,39]),(17,[48,98,137,49,50,52]),(37,[40,41,85,37,42,86,87,88,38,201,169,170,129,89,130,90,39]),(38,[40,41,85,37,42,86,87,88,38,201,169,170,129,89,130,90,39]),(39,[40,41,85,37,42,86,87,88,38,201,169,170,129,89,130,90,39]),(42,[40,41,85,37,42,86,87,88,38,201,169,170,129,89,130,90,39]),(47,[96,135]),(48,[98,137,49,50,52]),(51,[99,138,102,142,101]),(86,[40,41,85,37,42,86,87,88,38,201,169,170,129,89,130,90,39]),(87,[40,41,85,37,42,86,87,88,38,201,169,170,129,89,130,90,39]),(88,[40,41,85,37,42,86,87,88,38,201,169,170,129,89,130,90,39]),(89,[40,41,85,37,42,86,87,88,38,201,169,170,129,89,130,90,39]),(90,[40,41,85,37,42,86,87,88,38,201,169,170,129,89,130,90,39]),(94,[131,172,225,132]),(98,[137,49,50,52]),(102,[142,101]),(103,[144,179,145]),(129,[40,41,85,37,42,86,87,88,38,201,169,170,129,89,130,90,39]),(130,[40,41,85,37,42,86,87,88,38,201,169,170,129,89,130,90,39]),(131,[172,225,132]),(135,[]),(137,[49,50,52]),(142,[101]),(143,[177]),(144,[179,145]),(169,[40,41,85,37,42,86,87,88,38,201,169,170,129,89,130,90,39]),(170,[40,41,85,37,42,86,87,88,38,201,169,170,129,89,130,90,39]),(172,[225,132]),(175,[177]),(179,[145]),(201,[40,41,85,37,42,86,87,88,38,201,169,170,129,89,130,90,39,172,225]),(204,[228]),(205,[206]),(206,[206]),(226,[241]),(228,[228,241,242,243,248,249,250,251,252,253,259,260,261,262,269,271,276,279,281,287,288,289,290,291,292,293,294]),(241,[228,241,242,243,248,249,250,251,252,253,259,260,261,262,269,271,276,279,281,287,288,289,290,291,292,293,294]),(242,[228,241,242,243,248,249,250,251,252,253,259,260,261,262,269,271,276,279,281,287,288,289,290,291,292,293,294]),(243,[228,241,242,243,248,249,250,251,252,253,259,260,261,262,269,271,276,279,281,287,288,289,290,291,292,293,294]),(248,[228,241,242,243,248,249,250,251,252,253,259,260,261,262,269,271,276,279,281,287,288,289,290,291,292,293,294]),(249,[228,241,242,243,248,249,250,251,252,253,259,260,261,262,269,271,276,279,281,287,288,289,290,291,292,293,294]),(250,[228,241,242,243,248,249,250,251,252,253,259,260,261,262,269,271,276,279,281,287,288,289,290,291,292,293,294]),(251,[228,241,242,243,248,249,250,251,252,253,259,260,261,262,269,271,276,279,281,287,288,289,290,291,292,293,294]),(252,[228,241,242,243,248,249,250,251,252,253,259,260,261,262,269,271,276,279,281,287,288,289,290,291,292,293,294]),(253,[228,241,242,243,248,249,250,251,252,253,259,260,261,262,269,271,276,279,281,287,288,289,290,291,292,293,294]),(259,[228,241,242,243,248,249,250,251,252,253,259,260,261,262,269,271,276,279,281,287,288,289,290,291,292,293,294]),(260,[228,241,242,243,248,249,250,251,252,253,259,260,261,262,269,271,276,279,281,287,288,289,290,291,292,293,294]),(261,[228,241,242,243,248,249,250,251,252,253,259,260,261,262,269,271,276,279,281,287,288,289,290,291,292,293,294]),(262,[228,241,242,243,248,249,250,251,252,253,259,260,261,262,269,271,276,279,281,287,288,289,290,291,292,293,294]),(269,[228,241,242,243,248,249,250,251,252,253,259,260,261,262,269,271,276,279,281,287,288,289,290,291,292,293,294]),(271,[228,241,242,243,248,249,250,251,252,253,259,260,261,262,269,271,276,279,281,287,288,289,290,291,292,293,294]),(276,[228,241,242,243,248,249,250,251,252,253,259,260,261,262,269,271,276,279,281,287,288,289,290,291,292,293,294]),(279,[228,241,242,243,248,249,250,251,252,253,259,260,261,262,269,271,276,279,281,287,288,289,290,291,292,293,294]),(281,[228,241,242,243,248,249,250,251,252,253,259,260,261,262,269,271,276,279,281,287,288,289,290,291,292,293,294]),(287,[228,241,242,243,248,249,250,251,252,253,259,260,261,262,269,271,276,279,281,287,288,289,290,291,292,293,294]),(288,[228,241,242,243,248,249,250,251,252,253,259,260,261,262,269,271,276,279,281,287,288,289,290,291,292,293,294]),(289,[228,241,242,243,248,249,250,251,252,253,259,260,261,262,269,271,276,279,281,287,288,289,290,291,292,293,294]),(290,[228,241,242,243,248,249,250,251,252,253,259,260,261,262,269,271,276,279,281,287,288,289,290,291,292,293,294]),(291,[228,241,242,243,248,249,250,251,252,253,259,260,261,262,269,271,276,279,281,287,288,289,290,291,292,293,294]),(292,[228,241,242,243,248,249,250,251,252,253,259,260,261,262,269,271,276,279,281,287,288,289,290,291,292,293,294]),(293,[228,241,242,243,248,249,250,251,252,253,259,260,261,262,269,271,276,279,281,287,288,289,290,291,292,293,294]),(294,[228,241,242,243,248,249,250,251,252,253,259,260,261,262,269,271,276,279,281,287,288,289,290,291,292,293,294])]
def w7y:List (Nat × List Nat):=[(141,[174])]
def q7s:List (Nat × List Nat):=[]
def w7e:List (Nat × List Nat):=[(261,[27])]
def q2d:List (Nat × List Nat):=[]
def q7q:List (Nat × List (Nat × List (Nat × Nat))):=[(47,[(4,[(0,64)])])]
def k1c:List (Nat × List (Nat × Option LAn)):=[(17,[(95,some { slots:=[(1,none),(4,none),(31,some (.d .bool))] }),(122,some { slots:=[(1,none),(4,none),(40,some (.d .bool))] }),(134,some { slots:=[(1,none),(4,none),(44,some (.d .bool))] })]),(39,[(19,some { slots:=[(0,none),(2,none),(3,none)],nb:=4,dat:=[(3,1,68)] }),(37,some { slots:=[(0,none),(2,none),(3,none)],nb:=4,dat:=[(3,3,68)] })]),(51,[(104,some { slots:=[(3,none),(34,some (.d .bool))] })])]
def k4g:List (Nat × Option (List Nat)):=[]
def q8j:List (Nat × List (Nat × Option LAn)):=[(35,[(0,some { slots:=[(0,none),(3,none)] })])]
def k1v:List (Nat × List Nat):=[(16,[0]),(37,[0]),(38,[0]),(39,[0]),(42,[0]),(86,[0]),(87,[0]),(88,[0]),(89,[0]),(90,[0]),(129,[0]),(130,[0]),(169,[0]),(170,[0]),(201,[0]),(206,[0]),(228,[285]),(241,[285]),(242,[285]),(243,[0]),(248,[285]),(249,[0]),(250,[285]),(251,[285]),(252,[285]),(262,[285]),(269,[0]),(271,[285]),(276,[285]),(279,[285]),(281,[285]),(287,[285]),(288,[285]),(289,[285]),(291,[285]),(292,[285]),(293,[285]),(294,[285])]
def k4m:List (Nat × Option (List Nat)):=[(143,some [2]),(175,some [3])]
def dfrL:List Nat:=[204,226]
def q7z:List Nat:=[40,41,48,49,50,52,85,98,101,102,131,132,137,138,142,144,145,172,179,225]
def k4u:LAn:= { slots:=[] }
def bxL (f:Nat):Bool:=match z8n [] k1v f with
 | []=>false
 |_=>true
def pnL (f:Nat):Option TypeId:=match z8n [] k1v f with
 | [n]=>match Nat.beq n 0 with
   |true=>none
   |false=>some n
 |_=>none
def cs:FuncId->CfgT:=fun f=> { me:=f,o:= { inl:=z8n [] q8n f,mint:=z8n [] w7y f,osl:=z8n [] q7s f,dead:=z8n [] q2d f,own:=z8n [] q7q f,stop:=z8n [] w7e f },loops:=z8n k4u (z8n [] w8b f),cuts:=z8n none (z8n [] k1c f),turn:= !(q7z.contains f),rt:=z8n none k4g f,labs:=z8n none (z8n [] q8j f),bx:=bxL f,pn:=pnL f,rl:=z8n none k4m f,dfr:=dfrL.contains f }
end Go.Vm
end
