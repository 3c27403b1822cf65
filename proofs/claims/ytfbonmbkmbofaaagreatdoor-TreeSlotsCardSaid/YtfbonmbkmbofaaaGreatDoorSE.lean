/- Part SE of the proof. What is proved by the whole: the statement that the claim names, with no condition. -/
import Derived.Test.YtfbonmbkmbofaaaGreatDoorSD
import Derived.ScopeJumps
import Derived.RecoverIn
import Derived.KernelRfl
set_option linter.all false
section
namespace Go.Vm
inductive Sk where
 |any
 |nils
 |d (s:Sh)
 |agg (l:List Sk)
 |tup (l:List Sk)
 |own (b:Nat)
 |ptr (b off:Nat)
 |mv (f:FuncId) (b off:Nat)
 |ifp (t:TypeId) (b off:Nat)
 |pel (l:List Sh)
 |pml (b sz i off:Nat)
 |nilp
 |fn (f:FuncId) (l:List Sk)
 |nilf
 |ifn
 |ifo (t:TypeId) (l:List Sh)
 |map (b:Nat)
 |yld (b:Nat) (R:RecI)
 |osl (b sz:Nat)
def D.sh:D->Sh
 | .int k _=> .int k
 | .bool _=> .bool
 | .str _=> .str
 | .sl sz _=> .sl sz
mutual
def V.sk:V->Sk
 | .any=> .any
 | .nils=> .nils
 | .d x=> .d x.sh
 | .agg cs=> .agg (V.skL cs)
 | .tup cs=> .tup (V.skL cs)
 | .own b=> .own b
 | .ptr b off=> .ptr b off
 | .mv f b off=> .mv f b off
 | .ifp f b off=> .ifp f b off
 | .pel cs=> .pel (cs.map D.sh)
 | .pml b sz i off=> .pml b sz i off
 | .nilp=> .nilp
 | .fn f cs=> .fn f (V.skL cs)
 | .nilf=> .nilf
 | .ifn _=> .ifn
 | .ifc .. => .any
 | .ifo t _ cs=> .ifo t (cs.map D.sh)
 | .map b=> .map b
 | .yld b R=> .yld b R
 | .osl b sz _ _=> .osl b sz
def V.skL:List V->List Sk
 | []=>[]
 |c::cs=>c.sk::V.skL cs
end
def fitDs:List Sh->List D->Option (List D)
 | [],[]=>some []
 |s::ss,x::xs=>match decide (x.sh=s),fitDs ss xs with
  |true,some ds=>some (x::ds)
  |_,_=>none
 |_,_=>none
mutual
def Sk.fit (n:Nat):Sk->V->Option (List D)
 | .any,_=>some []
 | .nils, .nils=>some []
 | .d s, .d x=>match decide (x.sh=s)with
   |true=>some [x]
   |false=>none
 | .d (.sl sz), .nils=>some [.sl sz []]
 | .agg l, .agg cs=>Sk.fitL n l cs
 | .tup l, .tup cs=>Sk.fitL n l cs
 | .own b, .own b'=>match decide (b'=b/\b < n)with
   |true=>some []
   |false=>none
 | .ptr b off, .ptr b' off'=>match decide (b'=b/\off'=off/\b < n)with
   |true=>some []
   |false=>none
 | .mv f b off, .mv f' b' off'=>match decide (f'=f/\b'=b/\off'=off/\b < n)with
   |true=>some []
   |false=>none
 | .ifp f b off, .ifp f' b' off'=>match decide (f'=f/\b'=b/\off'=off/\b < n)with
   |true=>some []
   |false=>none
 | .pel l, .pel cs=>fitDs l cs
 | .pml b sz i off, .pml b' sz' i' off'=>match decide (b'=b/\sz'=sz/\i'=i/\off'=off/\b < n)with
   |true=>some []
   |false=>none
 | .nilp, .nilp=>some []
 | .fn f l, .fn f' cs=>match decide (f'=f)with
   |true=>Sk.fitL n l cs
   |false=>none
 | .nilf, .nilf=>some []
 | .ifn, .ifn b=>some [.bool b]
 | .ifo _ l, .ifn true=>some (.bool true::l.map zeroD)
 | .ifo t l, .ifc t' cs=>match decide (t'=t),fitDs l cs with
   |true,some ds=>some (.bool false::ds)
   |_,_=>none
 | .ifo t l, .ifo t' b cs=>match decide (t'=t),fitDs l cs with
   |true,some ds=>some (.bool b::ds)
   |_,_=>none
 | .map b, .map b'=>match decide (b'=b/\b < n)with
   |true=>some []
   |false=>none
 | .yld b _, .yld b' _=>match decide (b'=b/\b < n)with
   |true=>some []
   |false=>none
 | .osl b sz, .osl b' sz' lo k=>match decide (b'=b/\sz'=sz/\b < n)with
   |true=>some [.int .i64 lo, .int .i64 k]
   |false=>none
 |_,_=>none
def Sk.fitL (n:Nat):List Sk->List V->Option (List D)
 | [],[]=>some []
 |k::ks,v::vs=>match Sk.fit n k v,Sk.fitL n ks vs with
  |some a,some b=>some (a++b)
  |_,_=>none
 |_,_=>none
end
section
variable (A : Sy)
mutual
def openSk:Sk->List D->Nat->Tree (V × Nat)
 | .any,_,j=> .ret (.any,j)
 | .nils,_,j=> .ret (.nils,j)
 | .d s,ds,j=>(openT s (A.cell ds j)).bind fun x=> .ret (.d x,j+1)
 | .agg l,ds,j=>(openSkL l ds j).bind fun r=> .ret (.agg r.1,r.2)
 | .tup l,ds,j=>(openSkL l ds j).bind fun r=> .ret (.tup r.1,r.2)
 | .own b,_,j=> .ret (.own b,j)
 | .ptr b off,_,j=> .ret (.ptr b off,j)
 | .mv f b off,_,j=> .ret (.mv f b off,j)
 | .ifp f b off,_,j=> .ret (.ifp f b off,j)
 | .pel l,ds,j=>(openRT A l ds j).bind fun xs=> .ret (.pel xs,j+l.length)
 | .pml b sz i off,_,j=> .ret (.pml b sz i off,j)
 | .nilp,_,j=> .ret (.nilp,j)
 | .fn f l,ds,j=>(openSkL l ds j).bind fun r=> .ret (.fn f r.1,r.2)
 | .nilf,_,j=> .ret (.nilf,j)
 | .ifn,ds,j=> .cB (A.cell ds j) fun b=> .ret (.ifn b,j+1)
 | .ifo t l,ds,j=> .cB (A.cell ds j) fun b=>(openRT A l ds (j+1)).bind fun xs=> .ret (.ifo t b xs,j+1+l.length)
 | .map b,_,j=> .ret (.map b,j)
 | .yld b R,_,j=> .ret (.yld b R,j)
 | .osl b sz,ds,j=> .cI (A.cell ds j) .i64 fun lo=> .cI (A.cell ds (j+1)) .i64 fun k=> .ret (.osl b sz lo k,j+2)
def openSkL:List Sk->List D->Nat->Tree (List V × Nat)
 | [],_,j=> .ret ([],j)
 |k::ks,ds,j=>(openSk k ds j).bind fun r=>(openSkL ks ds r.2).bind fun q=> .ret (r.1::q.1,q.2)
end
end
mutual
def Sk.okY (c:Nat->Option RecI):Sk->Prop
 | .yld b R=>c b=some R
 | .agg l=>Sk.okYL c l
 | .tup l=>Sk.okYL c l
 | .fn _ l=>Sk.okYL c l
 |_=>True
def Sk.okYL (c:Nat->Option RecI):List Sk->Prop
 | []=>True
 |k::ks=>k.okY c/\Sk.okYL c ks
end
mutual
def Sk.yB (n:Nat):Sk->Bool
 | .yld b _=>decide (b < n)
 | .agg l=>Sk.yBL n l
 | .tup l=>Sk.yBL n l
 | .fn _ l=>Sk.yBL n l
 |_=>true
def Sk.yBL (n:Nat):List Sk->Bool
 | []=>true
 |k::ks=>k.yB n&&Sk.yBL n ks
end
def CK.fitB:CK->CK->Bool
 | .ty t, .ty t'=>decide (t'=t)
 | .rcd .ready, .rcd .ready=>true
 | .rcd .busy, .rcd .busy=>true
 | .rcd (.done .ret), .rcd (.done .ret)=>true
 | .sit, .sit=>true
 |_,_=>false
def CK.fitB_spec {k k':CK}(h:CK.fitB k k'=true):k'=k:=by
 unfold CK.fitB at h;split at h
 ·rw[of_decide_eq_true h]
 ·rfl
 ·rfl
 ·rfl
 ·rfl
 ·cases h
inductive BSk where
 |gone
 |mp (kk:KK)
 |cells (k:CK) (l:List Sk)
 |arr (e:TypeId) (sz:Nat)
def Box.sk:Box->BSk
 | .gone=> .gone
 | .mp kk _=> .mp kk
 | .cells t vs=> .cells t (V.skL vs)
 | .arr e sz _=> .arr e sz
def BSk.fit (n:Nat):BSk->Box->Option (List D)
 | .gone,_=>some []
 | .mp kk, .mp kk' rows=>match decide (kk'=kk)with
   |true=>some [.sl 2 rows]
   |false=>none
 | .cells t l, .cells t' vs=>match CK.fitB t t' with
   |true=>Sk.fitL n l vs
   |false=>none
 | .arr e sz, .arr e' sz' rows=>match decide (e'=e/\sz'=sz)with
   |true=>some [.sl sz rows]
   |false=>none
 |_,_=>none
def BSk.fitL (n:Nat):List BSk->List Box->Option (List D)
 | [],_=>some []
 |k::ks,x::xs=>match BSk.fit n k x,BSk.fitL n ks xs with
  |some a,some b=>some (a++b)
  |_,_=>none
 |_::_,[]=>none
section
variable (A : Sy)
def openBSk:BSk->List D->Nat->Tree (Box × Nat)
 | .gone,_,j=> .ret (.gone,j)
 | .mp kk,ds,j=> .cL (A.cell ds j) 2 fun rows=> .ret (.mp kk rows,j+1)
 | .cells t l,ds,j=>(openSkL A l ds j).bind fun r=> .ret (.cells t r.1,r.2)
 | .arr e sz,ds,j=> .cL (A.cell ds j) sz fun rows=> .ret (.arr e sz rows,j+1)
def openBL:List BSk->List D->Nat->Tree (List Box × Nat)
 | [],_,j=> .ret ([],j)
 |k::ks,ds,j=>(openBSk A k ds j).bind fun r=>(openBL ks ds r.2).bind fun q=> .ret (r.1::q.1,q.2)
end
structure LAn where
 slots:List (Nat × Option Sk)
 nb:Nat:=1000
 gone:List Nat:=[]
 ice:List Nat:=[]
 own:List (Nat × Nat × TypeId):=[]
 sole:List Nat:=[]
 own2:List (Nat × Nat × Nat × Nat × TypeId):=[]
 dat:List (Nat × Nat × TypeId):=[]
def soleS (ks:List Nat)(s:VSt):VSt:=match ks with
 | []=>s
 |_=>⟨s.t,s.h.map (Box.kill (ks.flatMap fun k=>(s.t.getD k .any).owns))⟩
def SimE.soleS {En:Ent}{a:Act}{w:World}{s:VSt}(ks:List Nat)(hs:SimE En s a w):SimE En (Go.Vm.soleS ks s) a w:=by
 cases ks with
 |nil=>exact hs
 |cons k ks=>
  unfold Go.Vm.soleS;simp only;generalize (List.flatMap (fun k=>(s.t.getD k .any).owns) (k::ks))=M
  obtain⟨g,hs⟩:=hs;have ho:Over M w g w g:=⟨Gh.Le.refl _ _,fun _ _ _=>rfl⟩
  have hown: ∀k,Owned g (s.h.map (Box.kill M)) k->Owned g s.h k:=by
   rintro k ⟨b,x,hb,hx⟩
   rw[List.getElem?_map,Option.map_eq_some_iff]at hb;obtain⟨x0,h0,rfl⟩:=hb;exact⟨b,x0,h0,by rwa [Box.at?_kill]at hx⟩
  obtain⟨k1,k2,k3,k4⟩:=hs.keep;refine⟨g,⟨by simpa using hs.heap.n,fun b x hb=> ?_,fun b c x y k hb hc hx hy=> ?_,fun k o hk=>hs.heap.zsep k o (hown k hk),hs.heap.zlt,hs.heap.tab⟩,hs.size,hs.tmps,hs.defers.less hown rfl,⟨k1,k2,k3,fun k hk=>k4 k (hown k hk)⟩,hs.len⟩
  ·simp only at hb;rw[List.getElem?_map,Option.map_eq_some_iff]at hb;obtain⟨x0,h0,rfl⟩:=hb;have hr:=hs.heap.rep b x0 h0;cases x0 with
   |cells t vs=>
    obtain⟨us,o,h1,h0,h2,h3⟩:=hr;refine⟨us,o,h1,h0,by simpa using h2,fun i u v hu hv=> ?_⟩
    rw[List.getElem?_map,Option.map_eq_some_iff]at hv;obtain⟨v',hv',rfl⟩:=hv;exact ho.kill (h3 i u v' hu hv')
   |_=>exact hr
  ·simp only at hb hc;rw[List.getElem?_map,Option.map_eq_some_iff]at hb hc;obtain⟨x0,h0,rfl⟩:=hb;obtain⟨y0,h1,rfl⟩:=hc;rw[Box.at?_kill]at hx hy;exact hs.heap.sep b c x0 y0 k h0 h1 hx hy
structure Hd where
 slots:List (Nat × Sk)
 boxes:List BSk
def headS (n0:Nat)(an:LAn)(s:VSt):Hd:=
 let live:=reachV s.h (List.range n0) (an.slots.map fun q=>s.t.getD q.1 .any)
 { slots:=an.slots.map fun q=>(q.1,match q.2 with
   |some sk=>sk
   |none=>(s.t.getD q.1 .any).sk)
   boxes:=((s.h.take an.nb).zipIdx.map fun xb=>match live.contains xb.2&& !an.gone.contains xb.2 with
    |true=>xb.1.sk
    |false=> .gone) }
def BSk.okY (c:Nat->Option RecI):BSk->Prop
 | .cells _ l=>Sk.okYL c l
 |_=>True
def BSk.yB (n:Nat):BSk->Bool
 | .cells _ l=>Sk.yBL n l
 |_=>true
def Hd.okY (c:Nat->Option RecI)(hd:Hd):Prop:=(∀q∈hd.slots,q.2.okY c)/\ ∀x∈hd.boxes,x.okY c
def Hd.yB (n:Nat)(hd:Hd):Bool:=(hd.slots.all fun q=>q.2.yB n)&&hd.boxes.all (BSk.yB n)
def fitS' (n:Nat)(t:List V):List (Nat × Sk)->Option (List D)
 | []=>some []
 |(k,sk)::ls=>match Sk.fit n sk (t.getD k .any),fitS' n t ls with
  |some a,some b=>some (a++b)
  |_,_=>none
def fitHd (hd:Hd)(s:VSt):Option (List D):=match fitS' hd.boxes.length s.t hd.slots,BSk.fitL hd.boxes.length hd.boxes s.h with
 |some a,some b=>some (a++b)
 |_,_=>none
section
variable (A : Sy)
def openS:List (Nat × Sk)->List D->Nat->List V->Tree (List V × Nat)
 | [],_,j,acc=> .ret (acc,j)
 |(k,sk)::ls,ds,j,acc=>(openSk A sk ds j).bind fun r=>openS ls ds r.2 (acc.set k r.1)
def openHd (hd:Hd)(len:Nat)(ds:List D):Tree VSt:=
 (openS A hd.slots ds 0 (List.replicate len .any)).bind fun r=>(openBL A hd.boxes ds r.2).bind fun q=> .ret ⟨r.1,q.1⟩
end
structure CfgT where
 me:FuncId:=0
 o:CfgO
 loops:Nat->LAn
 cuts:Nat->Option LAn
 turn:Bool:=true
 rt:Option (List Nat):=none
 labs:Nat->Option LAn:=fun _=>none
 bx:Bool:=false
 dfr:Bool:=false
 pn:Option TypeId:=none
 rl:Option (List Nat):=none
def keepL:Nat->List Nat->List V->List V
 |_,_,[]=>[]
 |i,l,v::vs=>(match l.contains i with
  |true=>v
  |false=> .any)::keepL (i+1) l vs
def keepS (l:Option (List Nat))(s:VSt):VSt:=match l with
 |none=>s
 |some l=>⟨keepL 0 l s.t,s.h⟩
section
variable (A : Sy) (P : Program) (inR : Bool) (C : CfgT) (ent : Callee -> List V -> List Box -> Tree (List Nat × V × List Box)) (n0 : Nat) (M0 : List Nat)
def inBl (id:Nat)(r:Exit × VSt):Exit × VSt:=match r.1 with
 | .exit id'=>match decide (id'=id)with
   |true=>(.normal,r.2)
   |false=>r
 |_=>r
def endR (hd:Hd)(r:Exit × VSt):Tree (List D ⊕ (Exit × VSt)):=match r.1 with
 | .normal=>match fitHd hd r.2 with
   |some ds=> .ret (.inl ds)
   |none=> .fail
 |_=> .ret (.inr r)
def endG (l:Nat)(hd:Hd)(r:Exit × VSt):Tree (List D ⊕ (Exit × VSt)):=match r.1 with
 | .goto l'=>match decide (l'=l),fitHd hd r.2 with
   |true,some ds=> .ret (.inl ds)
   |_,_=> .fail
 |_=> .ret (.inr r)
def labX:Code->Option (Nat × LAn)
 | .label l=>match C.labs l with
   |some an=>some (l,an)
   |none=>none
 |_=>none
def labS:Bool->Code->Option (Nat × LAn)
 |true,x=>labX C x
 |false,_=>none
def flatX:Code->Bool
 | .seq .. =>false
 | .label _=>false
 |_=>true
def endO (q:Option V × VSt):Exit × VSt:=match q.1 with
 |none=>(.normal,q.2)
 |some p=>(.outgrown,⟨p::q.2.t,q.2.h⟩)
def endD (s:VSt)(q:Option V × VSt):Exit × VSt:=match q.1 with
 |none=>(.normal,q.2)
 |some p=>(.outgrown,⟨p::s.t.map (fun _=>V.any),q.2.h⟩)
def datX (l:List (Nat × Nat × TypeId))(r:Exit × VSt):Exit × VSt:=match r.1 with
 | .outgrown=>r
 |x=>(x,datB P r.2 l)
def codeT:Bool->Nat->Code->VSt->Tree (Exit × VSt)
 |_,_, .skip,s=> .ret (.normal,s)
 |_,_, .region _ ops draw,s=>match draw with
  |false=>(opsT A P ent C.o n0 M0 ops 0 ops.toList s).bind fun q=> .ret (endO q)
  |true=>(drawT A P C.o ent n0 M0 ops s).bind fun q=> .ret (endD s q)
 |sc,b, .seq x y,s=>match labS C sc x with
  |some (l,an)=>
   let hd:=headS n0 an s
   match decide (n0<=hd.boxes.length)&&hd.yB n0&&an.slots.all (fun q=>match q.2 with
    |some sk=>sk.yB 0
    |none=>true),fitHd hd s with
   |true,some ds0=> .loop (fun ds=>(openHd A hd s.t.length ds).bind fun s1=>forceL s1.t fun t=>(codeT false b y ⟨t,s1.h⟩).bind (endG l hd)) ds0
   |_,_=> .fail
  |none=>match C.cuts (leadKey y)with
   |none=>(codeT false b x s).bind fun r=>match r.1 with
    | .normal=>codeT (sc&&flatX x) b y r.2
    |_=> .ret r
   |some an=>
    let s0:=datB P s an.dat
    let s9:=datB P s0 an.own
    let hd:=headS n0 an s9
    match decide (n0<=hd.boxes.length)&&hd.yB n0&&an.slots.all (fun q=>match q.2 with
     |some sk=>sk.yB 0
     |none=>true)with
    |true=> .cut ((codeT false b x s0).bind fun r=>endR hd (datX P an.own (datX P an.dat r))) fun ds=>(openHd A hd s9.t.length ds).bind fun s1=>forceL s1.t fun t=>codeT (sc&&flatX x) b y ⟨t,s1.h⟩
    |false=> .fail
 |_,b, .cond c x y,s=>match s.get c with
  | .d (.bool t)=> .ite t (codeT false b x (s.setC c true)) (codeT false b y (s.setC c false))
  |_=> .fail
 |_,_, .block id c,s=>(codeT false id c s).bind fun r=> .ret (inBl id r)
 |_,b, .loop c,s=>
  let s0:=datB P (soleS (C.loops b).sole (mintB P (mintP P (s.frz (C.loops b).ice) (C.loops b).own2) (C.loops b).own)) (C.loops b).dat
  let hd:=headS n0 (C.loops b) s0
  match decide (n0<=hd.boxes.length)&&hd.yB n0&&(C.loops b).slots.all (fun q=>match q.2 with
   |some sk=>sk.yB 0
   |none=>true),fitHd hd s0 with
  |true,some ds0=> .loop (fun ds=>(openHd A hd s0.t.length ds).bind fun s1=>forceL s1.t fun t=>(codeT false b c ⟨t,s1.h⟩).bind fun r=>endR hd (datX P (C.loops b).dat r)) ds0
  |_,_=> .fail
 |_,_, .exit id,s=> .ret (.exit id,s)
 |_,_, .ret,s=> .ret (.ret,s)
 |_,_, .label _,s=> .ret (.normal,s)
 |_,_, .goto l,s=> .ret (.goto l,s)
 |_,b, .scope c,s=>match inR with
  |true=> .fail
  |false=>(codeT true b c s).bind fun r=>match r.1 with
   | .goto _=> .fail
   |_=> .ret r
 |_,_, .rangeFunc y ps assign body,s=>match inR,s.get y with
  |false, .fn f caps=>match sigP P f with
   |some _=>(ent (.fn f) (.yld s.h.length ⟨C.me,ps,assign,body⟩::caps) (s.h++[.cells (.rcd .ready) (keepS C.rl s).t])).bind fun r=>match panOf r.2.1 with
    |some _=> .fail
    |none=>match okM n0 M0 r.1&& !r.1.contains s.h.length,r.2.2[s.h.length]? with
     |true,some (.cells (.rcd .ready) vs)=> .ret (.normal,⟨vs,r.2.2.set s.h.length .gone⟩)
     |true,some (.cells (.rcd (.done .ret)) vs)=> .ret (.ret,⟨vs,r.2.2.set s.h.length .gone⟩)
     |true,some (.cells (.rcd (.done (.exit id))) vs)=> .ret (.exit id,⟨vs,r.2.2.set s.h.length .gone⟩)
     |_,_=> .fail
   |none=> .fail
  |_,_=> .fail
 |_,_,_,_=> .fail
end
section
variable {P : Program} {E : Env}
def fitDs_same: ∀ {ss:List Sh} {xs ds:List D},fitDs ss xs=some ds->ds=xs/\xs.length=ss.length/\ ∀(i:Nat) x s,xs[i]? =some x->ss[i]? =some s->x.sh=s
 | [],[],ds,h=>by cases h;simp
 | [],_::_,ds,h=>by cases h
 |_::_,[],ds,h=>by cases h
 |s::ss,x::xs,ds,h=>by
  unfold fitDs at h;split at h
  ·rename_i ds' hd h2;cases h;obtain⟨rfl,h3,h4⟩:=fitDs_same h2;refine⟨rfl,by simp[h3],fun i y s' hy hs=> ?_⟩
   cases i with
   |zero=>simp at hy hs;subst hy;subst hs;exact of_decide_eq_true hd
   |succ i=>exact h4 i y s' (by simpa using hy) (by simpa using hs)
  ·cases h
def openT_at {x:D}{v:Option D}{s:Sh}(h:v=some x)(hs:x.sh=s):(openT s v).run E=some x:=by
 subst h;subst hs;cases x<;>simp[D.sh,openT,Tree.run,opI,opB,opS,opL]
def At (full:List D)(j:Nat)(ds:List D):Prop:= ∀(i:Nat) x,ds[i]? =some x->full[j+i]? =some x
def At.left {full:List D}{j:Nat}{a b:List D}(h:At full j (a++b)):At full j a:=fun i x hx=>h i x (by
 rw[List.getElem?_append,if_pos (List.getElem?_eq_some_iff.1 hx).1];exact hx)
def At.right {full:List D}{j:Nat}{a b:List D}(h:At full j (a++b)):At full (j+a.length) b:=fun i x hx=>by
 have:=h (a.length+i) x (by rw[List.getElem?_append_right (by omega),Nat.add_sub_cancel_left];exact hx)
 rwa [<-Nat.add_assoc]at this
def At.head {full:List D}{j:Nat}{x:D}{b:List D}(h:At full j (x::b)):sy.cell full j=some x:=h 0 x rfl
def openRT_at (hE:E.Ok): ∀ {ss:List Sh} {full:List D} {j:Nat} {xs:List D},xs.length=ss.length->(∀(i:Nat) x s,xs[i]? =some x->ss[i]? =some s->x.sh=s)->At full j xs->(openRT sy ss full j).run E=some xs
 | [],full,j,xs,hl,_,_=>by
   have:xs= []:=by simpa using hl
   subst this;rfl
 |s::ss,full,j,[],hl,_,_=>by simp at hl
 |s::ss,full,j,x::xs,hl,hs,ha=>by
  unfold openRT;have h1:(openT s (sy.cell full j)).run E=some x:=openT_at ha.head (hs 0 x s rfl rfl);have h2:=openRT_at hE (ss:=ss) (full:=full) (j:=j+1) (xs:=xs) (by simpa using hl) (fun i y s' hy hs'=>hs (i+1) y s' (by simpa using hy) (by simpa using hs')) (fun i y hy=>by
   have:=ha (i+1) y (by simpa using hy)
   rwa [show j+1+i=j+(i+1) by omega])
  rw[run_bind hE,h1];simp only[Option.bind_some];rw[run_bind hE,h2];rfl
def WkY (n:Nat)(c:Nat->Option RecI)(v' v:V):Prop:= ∀(w:World) (g:Gh) (u:Value),(∀b x,c b=some x->g.rc b=some x)->Rep w g u v'->Rep w (g.cut n) u v
def WkBY (n:Nat)(c:Nat->Option RecI)(x y:Box):Prop:=(∀(w:World) (g:Gh) (b:Nat),(∀b x,c b=some x->g.rc b=some x)->BoxRep w g b x->BoxRep w (g.cut n) b y)/\ ∀(g:Gh) (b k:Nat),y.at? (g.cut n) b=some k->x.at? g b=some k
def okYL_of {c:Nat->Option RecI}: ∀ {cs:List V},(∀(i:Nat) v,cs[i]? =some v->v.sk.okY c)->Sk.okYL c (V.skL cs)
 | [],_=>trivial
 |v::cs,h=>⟨h 0 v rfl,okYL_of fun i v hv=>h (i+1) v (by simpa using hv)⟩
def rep_okY {w:World}{g:Gh}{u:Value}{v:V}(hr:Rep w g u v):v.sk.okY g.rc:=by
 have aux: ∀(us:Array Value) (cs:List V),us.size=cs.length->(∀(i:Nat) u c,us[i]? =some u->cs[i]? =some c->c.sk.okY g.rc)->Sk.okYL g.rc (V.skL cs):=fun us cs hl h=>
  okYL_of fun i v hv=>by
   have hi:i < us.size:=by rw[hl];exact(List.getElem?_eq_some_iff.1 hv).1
   exact h i _ v (Array.getElem?_eq_getElem hi) hv
 induction hr with
 |agg us cs hl h ih=>exact aux us cs hl ih
 |tup us cs hl h ih=>exact aux us cs hl ih
 |fn f us cs hl h ih=>exact aux us cs hl ih
 |yld b R hb hc=>exact hc
 |_=>exact trivial
mutual
def okY_below {c c':Nat->Option RecI}{n:Nat}(hc: ∀b,b < n->c' b=c b): ∀(sk:Sk),sk.okY c->sk.yB n=true->sk.okY c'
 | .yld b R,h,hb=>by
   have h:c b=some R:=h;have hb:b < n:=of_decide_eq_true hb;show c' b=some R;rw[hc b hb,h]
 | .agg l,h,hb=>okYL_below hc l h hb
 | .tup l,h,hb=>okYL_below hc l h hb
 | .fn _ l,h,hb=>okYL_below hc l h hb
 | .any,_,_=>trivial
 | .nils,_,_=>trivial
 | .d _,_,_=>trivial
 | .own _,_,_=>trivial
 | .ptr _ _,_,_=>trivial
 | .mv ..,_,_=>trivial
 | .ifp ..,_,_=>trivial
 | .pel _,_,_=>trivial
 | .pml ..,_,_=>trivial
 | .nilp,_,_=>trivial
 | .nilf,_,_=>trivial
 | .ifn,_,_=>trivial
 | .ifo ..,_,_=>trivial
 | .map _,_,_=>trivial
 | .osl ..,_,_=>trivial
def okYL_below {c c':Nat->Option RecI}{n:Nat}(hc: ∀b,b < n->c' b=c b): ∀(l:List Sk),Sk.okYL c l->Sk.yBL n l=true->Sk.okYL c' l
 | [],_,_=>trivial
 |k::ks,h,hb=>by
  have hb:(k.yB n&&Sk.yBL n ks)=true:=hb;rw[Bool.and_eq_true]at hb;exact⟨okY_below hc k h.1 hb.1,okYL_below hc ks h.2 hb.2⟩
end
mutual
def okY_none {c:Nat->Option RecI}: ∀(sk:Sk),sk.yB 0=true->sk.okY c
 | .yld b R,hb=>by
   have hb:b < 0:=of_decide_eq_true hb;omega
 | .agg l,hb=>okYL_none l hb
 | .tup l,hb=>okYL_none l hb
 | .fn _ l,hb=>okYL_none l hb
 | .any,_=>trivial
 | .nils,_=>trivial
 | .d _,_=>trivial
 | .own _,_=>trivial
 | .ptr _ _,_=>trivial
 | .mv ..,_=>trivial
 | .ifp ..,_=>trivial
 | .pel _,_=>trivial
 | .pml ..,_=>trivial
 | .nilp,_=>trivial
 | .nilf,_=>trivial
 | .ifn,_=>trivial
 | .ifo ..,_=>trivial
 | .map _,_=>trivial
 | .osl ..,_=>trivial
def okYL_none {c:Nat->Option RecI}: ∀(l:List Sk),Sk.yBL 0 l=true->Sk.okYL c l
 | [],_=>trivial
 |k::ks,hb=>by
  have hb:(k.yB 0&&Sk.yBL 0 ks)=true:=hb;rw[Bool.and_eq_true]at hb;exact⟨okY_none k hb.1,okYL_none ks hb.2⟩
end
def boxRep_okY {w:World}{g:Gh}{b:Nat}{x:Box}(hr:BoxRep w g b x):x.sk.okY g.rc:=by
 cases x with
 |cells k vs=>
  obtain⟨us,o,h1,h0,h2,h3⟩:=hr;exact okYL_of fun i v hv=>by
   have hi:i < us.size:=by rw[h2];exact(List.getElem?_eq_some_iff.1 hv).1
   exact rep_okY (h3 i _ v (Array.getElem?_eq_getElem hi) hv)
 |_=>exact trivial
def cdE (En:Ent):Nat->Option RecI:=fun b=>if b < En.g.n then En.g.rc b else none
def cdE_spec {En:Ent}{s:VSt}{a:Act}{w:World}{g:Gh}(hs:Sim En s a w g){b:Nat}{x:RecI}(h:cdE En b=some x):g.rc b=some x:=by
 unfold cdE at h;split at h
 ·rename_i hb;exact rc_eq (hs.keep.1.cd b hb) h
 ·cases h
def headS_okY {En:Ent}{s:VSt}{a:Act}{w:World}{an:LAn}(hs:SimE En s a w)(hb:(headS En.g.n an s).yB En.g.n=true)(ha:an.slots.all (fun q=>match q.2 with
  |some sk=>sk.yB 0
  |none=>true)=true):(headS En.g.n an s).okY (cdE En):=by
 obtain⟨g,hs⟩:=hs;have hc: ∀b,b < En.g.n->cdE En b=g.rc b:=fun b hb=>by unfold cdE Gh.rc;rw[if_pos hb,hs.keep.1.cd b hb]
 unfold Hd.yB at hb;rw[Bool.and_eq_true]at hb;obtain⟨b1,b2⟩:=hb;constructor
 ·intro q hq;have y1:=List.all_eq_true.1 b1 q hq;simp only[headS,List.mem_map]at hq;obtain⟨q0,hq0,rfl⟩:=hq;have y2:=List.all_eq_true.1 ha q0 hq0;cases h2:q0.2 with
  |some sk=>simp only[h2]at y2 ⊢;exact okY_none sk y2
  |none=>
   simp only[h2]at y1 ⊢;exact okY_below hc _ (rep_okY (hs.get (.tmp q0.1))) y1
 ·intro x hx;have y1:=List.all_eq_true.1 b2 x hx;simp only[headS,List.mem_map]at hx;obtain⟨⟨y,i⟩,hy,rfl⟩:=hx;simp only at y1 ⊢;split
  ·rename_i hl;simp only[hl]at y1;have hyi:s.h[i]? =some y:=by
    have:=List.mem_zipIdx hy;obtain⟨h1,h2,h3⟩:=this;simp only[Nat.sub_zero,Nat.zero_add]at h2 h3;have h4:(s.h.take an.nb)[i]? =some y:=by rw[h3];exact List.getElem?_eq_getElem _
    rw[List.getElem?_take]at h4;split at h4
    ·exact h4
    ·cases h4
   have hr:=boxRep_okY (hs.heap.rep i y hyi);cases y with
   |cells k vs=>exact okYL_below hc _ hr y1
   |_=>exact trivial
  ·exact trivial
mutual
def fit_open (hE:E.Ok){n:Nat}{c:Nat->Option RecI}{full:List D}: ∀(sk:Sk) {v:V} {ds:List D} {j:Nat},Sk.fit n sk v=some ds->sk.okY c->At full j ds-> ∃v',(openSk sy sk full j).run E=some (v',j+ds.length)/\WkY n c v v'
 | .any,v,ds,j,h,hy,_=>by
   have:ds= []:=by cases v<;>(unfold Sk.fit at h;cases h;rfl)
   subst this;exact⟨.any,rfl,fun _ _ u _ _=> .any u⟩
 | .nils,v,ds,j,h,hy,_=>by
   cases v<;>unfold Sk.fit at h<;>first|(cases h;done)|skip
   cases h;exact⟨.nils,rfl,fun w g u hcd hr=>belowB_rep (n:=n) rfl hr⟩
 | .d s,v,ds,j,h,hy,ha=>by
   cases v with
   |d x=>
    have h:(match decide (x.sh=s)with|true=>some [x]|false=>none)=some ds:=by unfold Sk.fit at h;exact h
    split at h
    ·rename_i hd;cases h;refine⟨.d x,?_,fun w g u hcd hr=>belowB_rep (n:=n) rfl hr⟩
     unfold openSk;rw[run_bind hE,openT_at ha.head (of_decide_eq_true hd)];rfl
    ·cases h
   |nils=>
    cases s<;>unfold Sk.fit at h<;>first|(cases h;done)|skip
    cases h;rename_i sz;refine⟨.d (.sl sz []),?_,fun w g u hcd hr=>by cases hr;exact .d (.slnil sz)⟩
    unfold openSk;have q:(openT (.sl sz) (sy.cell full j)).run E=some (.sl sz []):=openT_at ha.head rfl;rw[run_bind hE,q];rfl
   |_=>cases s<;>(unfold Sk.fit at h;cases h)
 | .agg l,v,ds,j,h,hy,ha=>by
   cases v<;>unfold Sk.fit at h<;>first|(cases h;done)|skip
   obtain⟨vs,h1,h2,h3⟩:=fit_openL hE l h hy ha;refine⟨.agg vs,by unfold openSk;rw[run_bind hE,h1];rfl,fun w g u hcd hr=> ?_⟩
   cases hr with
   |agg us _ hl hr=>
    refine .agg us vs (by rw[hl,h2]) fun i u c hu hc=> ?_
    have hi:=(Array.getElem?_eq_some_iff.1 hu).1;exact h3 i _ c (List.getElem?_eq_getElem (by omega)) hc w g u hcd (hr i u _ hu (List.getElem?_eq_getElem (by omega)))
 | .tup l,v,ds,j,h,hy,ha=>by
   cases v<;>unfold Sk.fit at h<;>first|(cases h;done)|skip
   obtain⟨vs,h1,h2,h3⟩:=fit_openL hE l h hy ha;refine⟨.tup vs,by unfold openSk;rw[run_bind hE,h1];rfl,fun w g u hcd hr=> ?_⟩
   cases hr with
   |tup us _ hl hr=>
    refine .tup us vs (by rw[hl,h2]) fun i u c hu hc=> ?_
    have hi:=(Array.getElem?_eq_some_iff.1 hu).1;exact h3 i _ c (List.getElem?_eq_getElem (by omega)) hc w g u hcd (hr i u _ hu (List.getElem?_eq_getElem (by omega)))
 | .own b,v,ds,j,h,hy,_=>by
   cases v<;>unfold Sk.fit at h<;>first|(cases h;done)|skip
   split at h
   ·rename_i hd;obtain⟨rfl,hd⟩:=of_decide_eq_true hd;cases h;exact⟨.own _,rfl,fun w g u hcd hr=>scB_rep hr (by simpa[V.scB]using hd)⟩
   ·cases h
 | .ptr b off,v,ds,j,h,hy,_=>by
   cases v<;>unfold Sk.fit at h<;>first|(cases h;done)|skip
   split at h
   ·rename_i hd;obtain⟨rfl,rfl,hd⟩:=of_decide_eq_true hd;cases h;exact⟨.ptr _ _,rfl,fun w g u hcd hr=>scB_rep hr (by simpa[V.scB]using hd)⟩
   ·cases h
 | .mv f b off,v,ds,j,h,hy,_=>by
   cases v<;>unfold Sk.fit at h<;>first|(cases h;done)|skip
   split at h
   ·rename_i hd;obtain⟨rfl,rfl,rfl,hd⟩:=of_decide_eq_true hd;cases h;exact⟨.mv _ _ _,rfl,fun w g u hcd hr=>scB_rep hr (by simpa[V.scB]using hd)⟩
   ·cases h
 | .ifp f b off,v,ds,j,h,hy,_=>by
   cases v<;>unfold Sk.fit at h<;>first|(cases h;done)|skip
   split at h
   ·rename_i hd;obtain⟨rfl,rfl,rfl,hd⟩:=of_decide_eq_true hd;cases h;exact⟨.ifp _ _ _,rfl,fun w g u hcd hr=>scB_rep hr (by simpa[V.scB]using hd)⟩
   ·cases h
 | .pel l,v,ds,j,h,hy,ha=>by
   cases v<;>unfold Sk.fit at h<;>first|(cases h;done)|skip
   obtain⟨rfl,h2,h3⟩:=fitDs_same h;refine⟨.pel _,?_,fun w g u hcd hr=>belowB_rep (n:=n) rfl hr⟩
   unfold openSk;rw[run_bind hE,openRT_at hE h2 h3 ha,<-h2];rfl
 | .pml b sz i off,v,ds,j,h,hy,_=>by
   cases v<;>unfold Sk.fit at h<;>first|(cases h;done)|skip
   split at h
   ·rename_i hd;obtain⟨rfl,rfl,rfl,rfl,hd⟩:=of_decide_eq_true hd;cases h;exact⟨.pml _ _ _ _,rfl,fun w g u hcd hr=>scB_rep hr (by simpa[V.scB]using hd)⟩
   ·cases h
 | .nilp,v,ds,j,h,hy,_=>by
   cases v<;>unfold Sk.fit at h<;>first|(cases h;done)|skip
   cases h;exact⟨.nilp,rfl,fun w g u hcd hr=>belowB_rep (n:=n) rfl hr⟩
 | .fn f l,v,ds,j,h,hy,ha=>by
   cases v<;>unfold Sk.fit at h<;>first|(cases h;done)|skip
   split at h
   ·rename_i hd;have hd:=of_decide_eq_true hd;subst hd;obtain⟨vs,h1,h2,h3⟩:=fit_openL hE l h hy ha;refine⟨.fn _ vs,by unfold openSk;rw[run_bind hE,h1];rfl,fun w g u hcd hr=> ?_⟩
    cases hr with
    |fn _ us _ hl hr=>
     refine .fn _ us vs (by rw[hl,h2]) fun i u c hu hc=> ?_
     have hi:=(Array.getElem?_eq_some_iff.1 hu).1;exact h3 i _ c (List.getElem?_eq_getElem (by omega)) hc w g u hcd (hr i u _ hu (List.getElem?_eq_getElem (by omega)))
   ·cases h
 | .ifn,v,ds,j,h,hy,ha=>by
   cases v<;>unfold Sk.fit at h<;>first|(cases h;done)|skip
   rename_i b;cases h;refine⟨.ifn b,?_,fun w g u hcd hr=>belowB_rep (n:=n) rfl hr⟩
   unfold openSk;simp only[Tree.run];rw[ha.head];rfl
 | .ifo t l,v,ds,j,h,hy,ha=>by
   have fin: ∀(b:Bool) (xs:List D),xs.length=l.length->(∀(i:Nat) x s,xs[i]? =some x->l[i]? =some s->x.sh=s)->ds= .bool b::xs->(openSk sy (.ifo t l) full j).run E=some (.ifo t b xs,j+ds.length):=by
    intro b xs hl hsh hds;subst hds;unfold openSk;simp only[Tree.run];rw[ha.head];show(Tree.bind (openRT sy l full (j+1)) fun xs=> .ret (V.ifo t b xs,j+1+l.length)).run E=_
    have h9:(openRT sy l full (j+1)).run E=some xs:=openRT_at hE hl hsh (ha.right (a:=[.bool b]) (b:=xs));rw[run_bind hE,h9];show some (V.ifo t b xs,j+1+l.length)=some (V.ifo t b xs,j+(xs.length+1));rw[hl,Nat.add_assoc,Nat.add_comm 1]
   have zs: ∀(i:Nat) x s,(l.map zeroD)[i]? =some x->l[i]? =some s->x.sh=s:=fun i x s hx hs=>by
    rw[List.getElem?_map,hs]at hx;cases hx;cases s<;>rfl
   cases v with
   |ifn b=>
    cases b with
    |true=>
     unfold Sk.fit at h;cases h;exact⟨_,fin true _ (List.length_map _) zs rfl,fun w g u hcd hr=>by cases hr;exact .ifo0 _ _⟩
    |false=>unfold Sk.fit at h;cases h
   |ifc t' cs=>
    unfold Sk.fit at h;split at h
    ·rename_i xs hd h2;have hd:=of_decide_eq_true hd;subst hd;cases h;obtain⟨rfl,hl,hsh⟩:=fitDs_same h2;exact⟨_,fin false _ hl hsh rfl,fun w g u hcd hr=>by
      cases hr with
      |ifc _ us _ hl h=>exact .ifo1 _ us _ hl h⟩
    ·cases h
   |ifo t' b cs=>
    unfold Sk.fit at h;split at h
    ·rename_i xs hd h2;have hd:=of_decide_eq_true hd;subst hd;cases h;obtain⟨rfl,hl,hsh⟩:=fitDs_same h2;exact⟨_,fin b _ hl hsh rfl,fun w g u hcd hr=>by
      cases hr with
      |ifo0=>exact .ifo0 _ _
      |ifo1 _ us _ hl h=>exact .ifo1 _ us _ hl h⟩
    ·cases h
   |_=>unfold Sk.fit at h;cases h
 | .nilf,v,ds,j,h,hy,_=>by
   cases v<;>unfold Sk.fit at h<;>first|(cases h;done)|skip
   cases h;exact⟨.nilf,rfl,fun w g u hcd hr=>belowB_rep (n:=n) rfl hr⟩
 | .map b,v,ds,j,h,hy,_=>by
   cases v<;>unfold Sk.fit at h<;>first|(cases h;done)|skip
   split at h
   ·rename_i hd;obtain⟨rfl,hd⟩:=of_decide_eq_true hd;cases h;exact⟨.map _,rfl,fun w g u hcd hr=>scB_rep hr (by simpa[V.scB]using hd)⟩
   ·cases h
 | .yld b R,v,ds,j,h,hy,_=>by
   cases v<;>unfold Sk.fit at h<;>first|(cases h;done)|skip
   split at h
   ·rename_i hd;obtain⟨rfl,hd⟩:=of_decide_eq_true hd;cases h;have hy:c _=some R:=hy;exact⟨.yld _ R,rfl,fun w g u hcd hr=>by cases hr with|yld _ R' hb hc=>exact .yld (g:=g.cut n) _ R hd (hcd _ _ hy)⟩
   ·cases h
 | .osl b sz,v,ds,j,h,_,ha=>by
   cases v<;>unfold Sk.fit at h<;>first|(cases h;done)|skip
   rename_i lo k;split at h
   ·rename_i hd;obtain⟨rfl,rfl,hd⟩:=of_decide_eq_true hd;cases h;refine⟨.osl _ _ lo k,?_,fun w g u hcd hr=>scB_rep hr (by simpa[V.scB]using hd)⟩
    have e0:sy.cell full j=some (.int .i64 lo):=ha 0 _ rfl;have e1:sy.cell full (j+1)=some (.int .i64 k):=ha 1 _ rfl;simp only[openSk,Tree.run,e0,e1,opI,decide_true,Option.bind_some];rfl
   ·cases h
def fit_openL (hE:E.Ok){n:Nat}{c:Nat->Option RecI}{full:List D}: ∀(l:List Sk) {vs:List V} {ds:List D} {j:Nat},Sk.fitL n l vs=some ds->Sk.okYL c l->At full j ds->
  ∃vs',(openSkL sy l full j).run E=some (vs',j+ds.length)/\vs'.length=vs.length/\ ∀(i:Nat) v v',vs[i]? =some v->vs'[i]? =some v'->WkY n c v v'
 | [],[],ds,j,h,hy,_=>by
   unfold Sk.fitL at h;cases h;exact⟨[],rfl,rfl,by simp⟩
 | [],_::_,ds,j,h,hy,_=>by unfold Sk.fitL at h;cases h
 |_::_,[],ds,j,h,hy,_=>by unfold Sk.fitL at h;cases h
 |k::ks,v::vs,ds,j,h,hy,ha=>by
  unfold Sk.fitL at h;split at h
  ·rename_i a b h1 h2;cases h;obtain⟨v',e1,w1⟩:=fit_open hE k h1 hy.1 ha.left;obtain⟨vs',e2,l2,w2⟩:=fit_openL hE ks h2 hy.2 ha.right;refine⟨v'::vs',?_,by simp[l2],fun i x x' hx hx'=> ?_⟩
   ·unfold openSkL;rw[run_bind hE,e1];simp only[Option.bind_some];rw[run_bind hE,e2];simp only[Option.bind_some,Tree.run,List.length_append,Nat.add_assoc]
   ·cases i with
    |zero=>simp at hx hx';subst hx;subst hx';exact w1
    |succ i=>exact w2 i x x' (by simpa using hx) (by simpa using hx')
  ·cases h
end
def bfit_open (hE:E.Ok){n:Nat}{c:Nat->Option RecI}{full:List D}(sk:BSk){x:Box}{ds:List D}{j:Nat}(h:BSk.fit n sk x=some ds)(hok:sk.okY c)(ha:At full j ds): ∃y,(openBSk sy sk full j).run E=some (y,j+ds.length)/\WkBY n c x y:=by
 cases sk with
 |gone=>
  have:ds= []:=by cases x<;>(simp only[BSk.fit]at h;cases h;rfl)
  subst this;exact⟨.gone,rfl,fun _ _ _ _ _=>trivial,fun g b k hy=>by simp[Box.at?]at hy⟩
 |mp kk=>
  cases x<;>simp only[BSk.fit]at h<;>first|(cases h;done)|skip
  split at h
  ·rename_i rows _ hd;have:=of_decide_eq_true hd;subst this;cases h;refine⟨.mp _ rows,?_,fun w g b _ hr=>hr,fun g b k hy=>hy⟩
   simp only[openBSk,Tree.run];rw[ha.head];simp[opL]
  ·cases h
 |cells t l=>
  cases x<;>simp only[BSk.fit]at h<;>first|(cases h;done)|skip
  split at h
  ·rename_i vs _ hd;have:=CK.fitB_spec hd;subst this;obtain⟨vs',e1,l1,w1⟩:=fit_openL hE l h hok ha;refine⟨.cells _ vs',by unfold openBSk;rw[run_bind hE,e1];rfl,fun w g b hcd hr=> ?_,fun g b k hy=>hy⟩
   obtain⟨us,o,q1,q0,q2,q3⟩:=hr;refine⟨us,o,q1,q0,by rw[q2,l1],fun i u v hu hv=> ?_⟩
   have hi:i < vs.length:=by rw[<-l1];exact(List.getElem?_eq_some_iff.1 hv).1
   exact w1 i vs[i] v (List.getElem?_eq_getElem hi) hv w g u hcd (q3 i u _ hu (List.getElem?_eq_getElem hi))
  ·cases h
 |arr e sz=>
  cases x<;>simp only[BSk.fit]at h<;>first|(cases h;done)|skip
  split at h
  ·rename_i rows _ hd;obtain⟨rfl,rfl⟩:=of_decide_eq_true hd;cases h;refine⟨.arr _ _ rows,?_,fun w g b _ hr=>hr,fun g b k hy=>hy⟩
   simp only[openBSk,Tree.run];rw[ha.head];simp[opL]
  ·cases h
def bfit_openL (hE:E.Ok){n:Nat}{c:Nat->Option RecI}{full:List D}: ∀(l:List BSk) {xs:List Box} {ds:List D} {j:Nat},BSk.fitL n l xs=some ds->(∀x∈l,x.okY c)->At full j ds->
  ∃ys,(openBL sy l full j).run E=some (ys,j+ds.length)/\ys.length=l.length/\l.length<=xs.length/\ ∀(i:Nat) y,ys[i]? =some y-> ∃x,xs[i]? =some x/\WkBY n c x y
 | [],xs,ds,j,h,_,_=>by
   have:ds= []:=by cases xs<;>(unfold BSk.fitL at h;cases h;rfl)
   subst this;exact⟨[],rfl,rfl,Nat.zero_le _,by simp⟩
 |_::_,[],ds,j,h,_,_=>by unfold BSk.fitL at h;cases h
 |k::ks,x::xs,ds,j,h,hok,ha=>by
  unfold BSk.fitL at h;split at h
  ·rename_i a b h1 h2;cases h;obtain⟨y,e1,w1⟩:=bfit_open hE k h1 (hok k List.mem_cons_self) ha.left;obtain⟨ys,e2,l2,l3,w2⟩:=bfit_openL hE ks h2 (fun x hx=>hok x (List.mem_cons_of_mem _ hx)) ha.right
   refine⟨y::ys,?_,by simp[l2],by simp;exact l3,fun i y' hy'=> ?_⟩
   ·unfold openBL;rw[run_bind hE,e1];simp only[Option.bind_some];rw[run_bind hE,e2];simp only[Option.bind_some,Tree.run,List.length_append,Nat.add_assoc]
   ·cases i with
    |zero=>simp at hy';subst hy';exact⟨x,rfl,w1⟩
    |succ i=>obtain⟨x',hx,hw⟩:=w2 i y' (by simpa using hy');exact⟨x',by simpa using hx,hw⟩
  ·cases h
def openS_at (hE:E.Ok){n:Nat}{c:Nat->Option RecI}{full:List D}{t:List V}: ∀ {ls:List (Nat × Sk)} {ds:List D} {j:Nat} {acc:List V},fitS' n t ls=some ds->(∀q∈ls,q.2.okY c)->At full j ds->acc.length=t.length->
  (∀(k:Nat) v',acc[k]? =some v'->WkY n c (t.getD k .any) v')-> ∃acc',(openS sy ls full j acc).run E=some (acc',j+ds.length)/\acc'.length=t.length/\ ∀(k:Nat) v',acc'[k]? =some v'->WkY n c (t.getD k .any) v'
 | [],ds,j,acc,h,_,_,hl,hw=>by cases h;exact⟨acc,rfl,hl,hw⟩
 |(k,sk)::ls,ds,j,acc,h,hok,ha,hl,hw=>by
  unfold fitS' at h;split at h
  ·rename_i a b h1 h2;cases h;obtain⟨v',e1,w1⟩:=fit_open hE sk h1 (hok _ List.mem_cons_self) ha.left;obtain⟨acc',e2,l2,w2⟩:=openS_at hE (acc:=acc.set k v') h2 (fun q hq=>hok q (List.mem_cons_of_mem _ hq)) ha.right (by simpa using hl) (fun i v hv=>by
    rw[List.getElem?_set]at hv
    by_cases hi:k=i
    ·subst hi;rw[if_pos rfl]at hv;split at hv
     ·cases hv;exact w1
     ·cases hv
    ·rw[if_neg hi]at hv;exact hw i v hv)
   refine⟨acc',?_,l2,w2⟩;unfold openS;rw[run_bind hE,e1];simp only[Option.bind_some,e2,List.length_append,Nat.add_assoc]
  ·cases h
def open_sim (hE:E.Ok){En:Ent}{hd:Hd}{s:VSt}{ds:List D}{a:Act}{w:World}{len:Nat}(hf:fitHd hd s=some ds)(hok:hd.okY (cdE En))(hn:En.g.n<=hd.boxes.length)(hlen:s.t.length=len)(hs:SimE En s a w):
  ∃s1,(openHd sy hd len ds).run E=some s1/\SimE En s1 a w:=by
 unfold fitHd at hf;split at hf
 ·rename_i d1 d2 f1 f2;cases hf;have hat:At (d1++d2) 0 (d1++d2):=fun i x hx=>by rwa [Nat.zero_add]
  obtain⟨ts,e1,l1,w1⟩:=openS_at hE (acc:=List.replicate len .any) f1 hok.1 hat.left (by simp[hlen]) (fun k v' hv=>by
   have:=List.eq_of_mem_replicate (List.mem_of_getElem? hv);subst this;exact fun _ _ u _ _=> .any u)
  obtain⟨ys,e2,l2,l3,w2⟩:=bfit_openL hE hd.boxes f2 hok.2 hat.right;refine⟨⟨ts,ys⟩,?_,?_⟩
  ·unfold openHd;rw[run_bind hE,e1];simp only[Option.bind_some];rw[run_bind hE,e2];rfl
  ·obtain⟨g,hs⟩:=hs;have hcd: ∀b x,cdE En b=some x->g.rc b=some x:=fun b x=>cdE_spec hs
   have hown: ∀k,Owned (g.cut hd.boxes.length) ys k->Owned g s.h k:=by
    rintro k ⟨b,y,hy,hat⟩
    obtain⟨x,hx,hw⟩:=w2 b y hy;exact⟨b,x,hx,hw.2 g b k hat⟩
   refine⟨g.cut hd.boxes.length,⟨by simp[Gh.cut,l2],fun b y hy=> ?_,fun b c y z k hb hc hat hat'=> ?_,fun k o hk hz=>hs.heap.zsep k o (hown k hk) hz,hs.heap.zlt,hs.heap.tab⟩,by rw[hs.size,l1],fun i u v hu hv=> ?_,hs.defers.less hown rfl,?_,by rw[l1];exact hs.len⟩
   ·obtain⟨x,hx,hw⟩:=w2 b y hy;exact hw.1 w g b hcd (hs.heap.rep b x hx)
   ·obtain⟨x,hx,hw⟩:=w2 b y hb;obtain⟨x',hx',hw'⟩:=w2 c z hc;exact hs.heap.sep b c x x' k hx hx' (hw.2 g b k hat) (hw'.2 g c k hat')
   ·have hi:i < s.t.length:=by rw[<-l1];exact(List.getElem?_eq_some_iff.1 hv).1
    exact w1 i v hv w g u hcd (hs.tmps i u _ hu (by rw[List.getD_eq_getElem?_getD,List.getElem?_eq_getElem hi];rfl))
   ·obtain⟨k1,k2,k3,k4⟩:=hs.keep;exact⟨⟨k1.Z,hn,k1.blk,k1.val,k1.cd⟩,k2,k3,fun k hk=>k4 k (hown k hk)⟩
 ·cases hf
def EnvN (E:Env):Prop:= ∃n,∀ {α:Type} (b:List D->Option (List D ⊕ α)) (ds:List D),E.lp b ds=iterN n b ds
def map_inj' {α β:Type}{f:α->β}(hf: ∀x y,f x=f y->x=y): ∀ {l m:List α},l.map f=m.map f->l=m
 | [],[],_=>rfl
 | [],_::_,h=>by cases h
 |_::_,[],h=>by cases h
 |x::l,y::m,h=>by
  simp only[List.map_cons,List.cons.injEq]at h;rw[hf x y h.1,map_inj' hf h.2]
def keepL_len: ∀(i:Nat) (l:List Nat) (vs:List V),(keepL i l vs).length=vs.length
 |_,_,[]=>rfl
 |i,l,v::vs=>by simp only[keepL,List.length_cons,keepL_len]
def keepL_at: ∀(i:Nat) (l:List Nat) (vs:List V) (j:Nat) (v:V),(keepL i l vs)[j]? =some v->vs[j]? =some v\/v= .any
 |_,_,[],j,v,h=>by simp[keepL]at h
 |i,l,x::vs,0,v,h=>by
  simp only[keepL,List.getElem?_cons_zero,Option.some.injEq]at h;subst h;split
  ·exact .inl rfl
  ·exact .inr rfl
 |i,l,x::vs,j+1,v,h=>by
  simp only[keepL,List.getElem?_cons_succ]at h ⊢;exact keepL_at (i+1) l vs j v h
def Sim.keepS {En:Ent}{s:VSt}{a:Act}{w:World}{g:Gh}(hs:Sim En s a w g)(l:Option (List Nat)):Sim En (Go.Vm.keepS l s) a w g:=by
 cases l with
 |none=>exact hs
 |some l=>
  refine⟨hs.heap,by rw[hs.size];exact(keepL_len 0 l s.t).symm,fun i u v hu hv=> ?_,hs.defers,hs.keep,by rw[<-hs.len];exact keepL_len 0 l s.t⟩
  rcases keepL_at 0 l s.t i v hv with h|rfl
  ·exact hs.tmps i u v hu h
  ·exact .any _
def range_sound {En:Ent}{s:VSt}{a:Act}{w:World}{g:Gh}{y:Operand}{f:FuncId}{caps:List V}{ps:Array Tmp}{assign body:Code}{me:FuncId}{r1:List Nat × V × List Box}{r:Exit × VSt}
  (hs:Sim En s a w g) (hnr:En.nr=false) (hr:Rep w g (a.eval y) (.fn f caps)) (hg:goodF P f=true)
  (hcall:HCall P r1.1 f (.yld s.h.length ⟨me,ps,assign,body⟩::caps) (s.h++[.cells (.rcd .ready) s.t]) r1.2.1 r1.2.2)
  (hk:Tree.run E (match okM En.g.n En.M r1.1&& !r1.1.contains s.h.length,r1.2.2[s.h.length]? with
     |true,some (.cells (.rcd .ready) vs)=> .ret (.normal,⟨vs,r1.2.2.set s.h.length .gone⟩)
     |true,some (.cells (.rcd (.done .ret)) vs)=> .ret (.ret,⟨vs,r1.2.2.set s.h.length .gone⟩)
     |true,some (.cells (.rcd (.done (.exit id))) vs)=> .ret (.exit id,⟨vs,r1.2.2.set s.h.length .gone⟩)
     |_,_=> .fail)=some r):
  (Code.rangeFunc y ps assign body).wpIn (Fw none) 0 P (fun e a' w'=>e=r.1/\SimE En r.2 a' w') a w:=by
 refine wpIn_rangeFunc fun fn _=> ?_
 have hn:g.n=s.h.length:=hs.heap.n
 let rec0:Loop:= { state:= .ready,pending:=none,fn:=fn,tmps:=a.tmps,params:=ps,assign:=assign,body:=body,defers:=w.heap.size }
 let w1:World:=(w.alloc (.deferred (some []))).alloc (.loop rec0)
 let R:RecI:=⟨me,ps,assign,body⟩
 let G:RecG:=⟨R,a.tmps⟩
 let g1:Gh:=g.push (w.heap.size+1) undef (some G)
 generalize hu0:a.eval y=u0 at hr;cases hr with
 |fn _ us _ hl hcap=>
 have hsz1:w1.heap.size=w.heap.size+2:=by show((w.heap.push _).push _).size=_;simp
 have hD1:w1.heap[w.heap.size]? =some (.deferred (some [])):=by show((w.heap.push _).push _)[w.heap.size]? =_;rw[Array.getElem?_push,if_neg (by simp),Array.getElem?_push,if_pos rfl]
 have hL1:w1.heap[w.heap.size+1]? =some (.loop rec0):=by show((w.heap.push _).push _)[w.heap.size+1]? =_;rw[Array.getElem?_push,if_pos (by simp)]
 have hfr1:Fr (fun _=>False) w w1:=⟨rfl,rfl,rfl,by omega,fun k hk _=>by show((w.heap.push _).push _)[k]? =_;rw[Array.getElem?_push,if_neg (by simp;omega),Array.getElem?_push,if_neg (by omega)]⟩
 have hb1:g1.blk g.n=w.heap.size+1:=by simp[g1,Gh.push]
 have hc1:g1.cd g.n=some G:=by simp[g1,Gh.push]
 have ho1:Over [] w g w1 g1:=⟨g.push_le _ _ _,fun b o hz=>hfr1.cell (hs.heap.zlt b o hz) (fun h=>h)⟩
 have hk1:Keep [] g s.h w g1 (s.h++[.cells (.rcd .ready) s.t]) w1:=
  Keep.push hs.heap _ _ _ hfr1 ⟨a.tmps,_,by rw[show(g.push (w.heap.size+1) undef (some G)).blk g.n=_ from hb1];exact hL1,⟨fn,w.heap.size,G,hc1,rfl,rfl⟩,hs.size,fun i u v hu hv=>ho1.repC_nil (hs.tmps i u v hu hv)⟩
   (fun k' hk'=>by simp only[Box.at?,Option.some.injEq]at hk';rw[show(g.push (w.heap.size+1) undef (some G)).blk g.n=_ from hb1]at hk';omega)
 have hDo: ¬Owned g1 (s.h++[.cells (.rcd .ready) s.t]) w.heap.size:=by
  rintro⟨b,x,hx,hat⟩
  rcases hk1.own _ ⟨b,x,hx,hat⟩with q|q
  ·have:=hs.heap.owned_lt q;omega
  ·rw[List.getElem?_append]at hx;split at hx
   ·rename_i hlt;have hbn:b < g.n:=by omega
    rw[Box.at?_congr ((g.push_le _ _ _).blk b hbn (by simp)) ((g.push_le _ _ _).val b hbn (by simp))]at hat
    have:=(hs.heap.rep b x hx).lt hat
    omega
   ·rename_i hlt;have hb0:b - s.h.length=0:=by
     rcases Nat.eq_zero_or_pos (b - s.h.length)with h0|h0
     ·exact h0
     ·rw[List.getElem?_eq_none (by simp;omega)]at hx;cases hx
    rw[hb0]at hx;simp at hx;subst hx;have hbn:b=g.n:=by omega
    subst hbn;simp only[Box.at?,Option.some.injEq,hb1]at hat
    omega
 refine⟨w.heap.size+1,[{ target:= .collected w.heap.size,args:= #[] }],w1,{ target:= .fn (.func f) us,args:= #[.func (.yield (w.heap.size+1)) #[] #[]] },w1,f,
  #[.func (.yield (w.heap.size+1)) #[] #[]]++us,w1,run_enterLoop_outer _ _ _ _ _,?_,fun _ _=>trivial,?_,fun h=>by simp[Fw,Fence.wide]at h,?_⟩
 ·simp only[resolve,hu0];simp[go_sem]
 ·simp[invoke,go_sem,run_callFunc hg]
 ·refine callsIn_Fw.2 ?_;have hargs:Reps w1 g1 (.func (.yield (w.heap.size+1)) #[] #[]::us.toList) (.yld s.h.length R::caps):=by
   refine⟨by simp[hl],fun i u v h1 h2=> ?_⟩
   cases i with
   |zero=>
    simp at h1 h2;subst h1;subst h2;have:=Rep.yld (w:=w1) (g:=g1) g.n R (by simp[g1,Gh.push]) (by unfold Gh.rc;rw[hc1];rfl)
    rwa [hb1,hn]at this
   |succ i=>simp at h1 h2;exact ho1.repC_nil (hcap i u v h1 h2)
  have hc:=hcall g1 w1 _ hk1.heap hargs;have e0:(Value.func (.yield (w.heap.size+1)) #[] #[]::us.toList).toArray= #[.func (.yield (w.heap.size+1)) #[] #[]]++us:=by apply Array.ext';simp
  rw[e0]at hc;refine hc.mono ?_
  rintro _ w2 ⟨u,g2,rfl,hru,hk2⟩
  let a':Act:= { a with defers:=[{ target:= .collected w.heap.size,args:= #[] }]++a.defers }
  have hs1:Sim En ⟨s.t,s.h++[.cells (.rcd .ready) s.t]⟩ a' w1 g1:=by
   refine⟨hk1.heap,hs.size,fun i u v hu hv=>ho1.repC_nil (hs.tmps i u v hu hv),?_,hs.step hk1 (by simp[okM]),hs.len⟩
   obtain⟨Ds,d1,d2,d3⟩:=hs.defers.keep hk1;refine⟨w.heap.size::Ds,⟨by simp[a',d1.1],fun h=>(by rw[hnr]at h;cases h)⟩,List.nodup_cons.2 ⟨fun hm=> ?_,d2⟩,fun D hD=> ?_⟩
   ·obtain⟨Ds',e1,_,e3⟩:=hs.defers;have:Ds'=Ds:=by
     have:=List.append_cancel_right (e1.1.symm.trans d1.1);exact map_inj' (fun x y h=>by simpa using h) this
    subst this;have:=(Array.getElem?_eq_some_iff.1 (e3 _ hm).2.1).1;omega
   ·rcases List.mem_cons.1 hD with rfl|hD
    ·refine⟨hs.keep.2.1.size,hD1,hDo,fun o hz=> ?_⟩
     have:=hs.heap.zlt _ o hz;omega
    ·exact d3 D hD
  have fin: ∀(st:RSt) (vs:List V),(okM En.g.n En.M r1.1&& !r1.1.contains s.h.length)=true->r1.2.2[s.h.length]? =some (.cells (.rcd st) vs)->st.state≠ .busy->
      ∃w4,(Instr.endLoop (w.heap.size+1)).run P w2= .ok st.pend w4/\SimE En ⟨vs,r1.2.2.set s.h.length .gone⟩ a' w4:=by
   intro st vs hM hbx hst;simp only[Bool.and_eq_true,Bool.not_eq_true',List.contains_eq_mem,decide_eq_false_iff_not]at hM;have hgn:g1.n=g.n+1:=rfl;have hb2:g2.blk s.h.length=w.heap.size+1:=by rw[hk2.le.blk _ (by omega) hM.2,<-hn,hb1]
   obtain⟨us2,o2,q1,⟨fn2,D2,x2,q2,q2',rfl⟩,q3,q4⟩:=hk2.heap.rep _ _ hbx;have hx2:x2=G:=by
    have h1:=hk2.le.cd s.h.length (by omega)
    rw[<-hn]at h1 q2;rw[h1,hc1]at q2;exact(Option.some.inj q2).symm
   subst hx2;subst q2';have q1':=q1;rw[hb2]at q1;have hs2:=hs1.next hk2 hM.1 hru none;refine⟨_,run_endLoop q1 hst,?_⟩;generalize hw4:w2.putObj (w.heap.size+1) _=w4;have hfr:Fr (fun k=>(Box.cells (.rcd st) vs).at? g2 s.h.length=some k) w2 w4:=by
    rw[<-hw4];refine⟨rfl,rfl,rfl,by simp,fun k hk hnk=>World.putObj_heap_other fun e=>hnk ?_⟩
    simp only[Box.at?,hb2,e]
   have hk3:=Keep.turn (y:= .gone) hk2.heap hbx [] (.inl ⟨rfl,rfl⟩) rfl rfl rfl (fun _ _=>⟨rfl,rfl⟩) hfr trivial (fun k hk=>by simp[Box.at?]at hk)
   rw[map_kill_nil]at hk3;have ho3:=hk3.over hk2.heap;refine⟨g2,hk3.heap,by rw[<-q3],fun i u v hu hv=>ho3.repC_nil (q4 i u v hu hv),hs2.defers.keep hk3,hs2.step hk3 (by simp[okM]),?_⟩
   rw[<-hs.len];show vs.length=s.t.length;rw[<-q3,<-hs.size]
  show rangePost _ _ _ _ _ _ _ _;split at hk
  ·rename_i vs hM hbx;obtain⟨w4,e1,hs4⟩:=fin _ _ hM hbx (by simp[RSt.state])
   cases hk;exact⟨none,w4,e1,rfl,hs4⟩
  ·rename_i vs hM hbx;obtain⟨w4,e1,hs4⟩:=fin _ _ hM hbx (by simp[RSt.state])
   cases hk;exact⟨some .ret,w4,e1,wpIn_ret ⟨rfl,hs4⟩⟩
  ·rename_i id vs hM hbx;obtain⟨w4,e1,hs4⟩:=fin _ _ hM hbx (by simp[RSt.state])
   cases hk;exact⟨some (.exit id),w4,e1,wpIn_exit ⟨rfl,hs4⟩⟩
  ·cases hk
def least {p:Nat->Prop}(h: ∃n,p n): ∃n,p n/\ ∀m,m < n-> ¬p m:=by
 obtain⟨n,hn⟩:=h
 induction n using Nat.strongRecOn with
 |_ n ih=>
  by_cases hx: ∃m,m < n/\p m
  ·obtain⟨m,hm,hp⟩:=hx;exact ih m hm hp
  ·exact⟨n,hn,fun m hm hp=>hx ⟨m,hm,hp⟩⟩
def jump_mono {l:Nat}{J J':Act->World->Prop}{Q:Exit->Act->World->Prop}(h: ∀a w,J a w->J' a w): ∀e a w,Exit.jump l J Q e a w->Exit.jump l J' Q e a w:=by
 intro e a w hq;cases e<;>first|exact hq|exact⟨hq.1,h _ _ hq.2⟩
def wp_scope_rounds {c rest:Code}{a:Act}{w:World}{Q:Exit->Act->World->Prop}(l:Nat)(J:Nat->Act->World->Prop)(hf:findLabel c l=some rest)
  (first:c.wp P (Exit.jump l (fun a w=> ∃n,J n a w) Q) a w)
  (pass: ∀n a w,J n a w->rest.wp P (Exit.jump l (fun a' w'=> ∃m,m < n/\J m a' w') Q) a w):(Code.scope c).wp P Q a w:=by
 have hl: ∀a w,∃k,(∃n,J n a w)->J k a w/\ ∀m,m < k-> ¬J m a w:=fun a w=>by
  by_cases h: ∃n,J n a w
  ·obtain⟨k,h1,h2⟩:=least h;exact⟨k,fun _=>⟨h1,h2⟩⟩
  ·exact⟨0,fun h'=>(h h').elim⟩
 refine wp_scope_jumps l (fun a w=> ∃n,J n a w) (fun a w=>Classical.choose (hl a w)) hf first fun a w hJ=> ?_
 have hs:=Classical.choose_spec (hl a w) hJ;refine wp_mono (pass _ a w hs.1) (jump_mono fun a' w' ⟨m,hm,hj⟩=>⟨⟨m,hj⟩,?_⟩)
 have hs':=Classical.choose_spec (hl a' w') ⟨m,hj⟩;have: ¬m < Classical.choose (hl a' w'):=fun h=>hs'.2 m h hj
 show Classical.choose (hl a' w') < Classical.choose (hl a w);omega
def spineOf (C:CfgT):Code->Option (Nat × Code)
 | .seq x y=>match labX C x with
   |some (l,_)=>some (l,y)
   |none=>match flatX x with
    |true=>spineOf C y
    |false=>none
 |_=>none
def labX_some {C:CfgT}{x:Code}{l:Nat}{an:LAn}(h:labX C x=some (l,an)):x= .label l/\C.labs l=some an:=by
 unfold labX at h;split at h
 ·split at h
  ·cases h;exact⟨rfl,by assumption⟩
  ·cases h
 ·cases h
def spine_label {C:CfgT}: ∀ {c:Code} {l:Nat} {y:Code},spineOf C c=some (l,y)->findLabel c l=some (.seq .skip y):=by
 intro c
 induction c with
 |seq x z ihx ihz=>
  intro l y h;unfold spineOf at h;split at h
  ·rename_i l' an hx;cases h;obtain⟨rfl,_⟩:=labX_some hx;simp[findLabel]
  ·split at h
   ·rename_i hfx;have:findLabel x l=none:=by cases x<;>simp[flatX]at hfx<;>rfl
    simp only[findLabel,this];exact ihz h
   ·cases h
 |_=>intro l y h;cases h
def ER (En:Ent)(r:Exit × VSt)(e:Exit)(a:Act)(w:World):Prop:=(r.1= .outgrown/\ ∃p t,r.2.t=p::t/\PanE En p t r.2.h e a w)\/(r.1≠ .outgrown/\e=r.1/\SimE En r.2 a w)
def ER.ok {En:Ent}{x:Exit}{s:VSt}{a:Act}{w:World}(hs:SimE En s a w)(hx:x≠ .outgrown:=by simp):ER En (x,s) x a w:= .inr ⟨hx,rfl,hs⟩
def ER.of_op {En:Ent}{q:Option V × VSt}{e:Exit}{a:Act}{w:World}(h:OpR En q e a w):ER En (endO q) e a w:=by
 obtain⟨p,s⟩:=q;cases p with
 |none=>obtain⟨rfl,h⟩:=h;exact .inr ⟨by simp[endO],rfl,h⟩
 |some p=>exact .inl ⟨rfl,p,s.t,rfl,h⟩
def ER.of_opX {En:Ent}{q:Option V × VSt}{e:Exit}{s:VSt}{a a0:Act}{w w0:World}(h0:SimE En s a0 w0)(h:OpRX En q e a w):ER En (endD s q) e a w:=by
 obtain⟨p,s⟩:=q;cases p with
 |none=>obtain⟨rfl,h⟩:=h;exact .inr ⟨by simp[endD],rfl,h⟩
 |some p=>
  obtain⟨t,g,u,he,hr,hs⟩:=h;obtain⟨g0,h0⟩:=h0;have hl:=h0.len;have hl2:=hs.len;exact .inl ⟨rfl,p,_,rfl,g,u,he,hr,hs.heap,by rw[hs.size];simp only[List.length_map];rw[hl];exact hl2,fun i u v hu hv=>by
   rw[List.getElem?_map,Option.map_eq_some_iff]at hv;obtain⟨_,_,rfl⟩:=hv;exact .any u,hs.defers,hs.keep,by simpa using hl⟩
def ER.split {En:Ent}{x:Exit}{s:VSt}{e:Exit}{a:Act}{w:World}(h:ER En (x,s) e a w):(x= .outgrown/\(∃u,e= .panic [{ v:=u,recovered:=false }])/\ ∃p t,s.t=p::t/\PanE En p t s.h e a w)\/(x≠ .outgrown/\e=x/\SimE En s a w):=by
 rcases h with⟨h1,p,t,h2,h3⟩|h
 ·obtain⟨g,u,he,h4⟩:=id h3;exact .inl ⟨h1,⟨u,he⟩,p,t,h2,h3⟩
 ·exact .inr h
def JumpAt (P:Program)(E:Env)(inR:Bool)(C:CfgT)(ent:Callee->List V->List Box->Tree (List Nat × V × List Box))(En:Ent)(b l:Nat)(y:Code)(r:Exit × VSt)(k:Nat)(a:Act)(w:World):Prop:=
 ∃hd,En.g.n<=hd.boxes.length/\hd.okY (cdE En)/\ ∃ds s1,iterN k (fun ds:List D=>Tree.run E ((openHd sy hd En.len ds).bind fun s1=>forceL s1.t fun t=>(codeT sy P inR C ent En.g.n En.M false b y ⟨t,s1.h⟩).bind (endG l hd))) ds=some r/\fitHd hd s1=some ds/\SimE En s1 a w
def jump_pass {inR:Bool}{ro:Option Nat}(hE:E.Ok){C:CfgT}{ent:Callee->List V->List Box->Tree (List Nat × V × List Box)}{En:Ent}{y:Code}{b l:Nat}{r:Exit × VSt}
  (ih: ∀(b:Nat) (s:VSt) (a:Act) (w:World) (r:Exit × VSt),(codeT sy P inR C ent En.g.n En.M false b y s).run E=some r->SimE En s a w->y.wpIn (Fw ro) 0 P (ER En r) a w)
  (k:Nat) (a:Act) (w:World) (hJ:JumpAt P E inR C ent En b l y r k a w):
  y.wpIn (Fw ro) 0 P (fun e a' w'=>ER En r e a' w'\/(e= .goto l/\ ∃m,m < k/\JumpAt P E inR C ent En b l y r m a' w')) a w:=by
 obtain⟨hd,hd0,hok,ds,s1,hi,hf,hs1⟩:=hJ;generalize hbody:(fun ds:List D=>Tree.run E ((openHd sy hd En.len ds).bind fun s1=>forceL s1.t fun t=>(codeT sy P inR C ent En.g.n En.M false b y ⟨t,s1.h⟩).bind (endG l hd)))=body at hi
 cases k with
 |zero=>cases hi
 |succ k=>
  simp only[iterN]at hi;obtain⟨s2,e1,hs2⟩:=open_sim (len:=En.len) hE hf hok hd0 hs1.len hs1;have hb:body ds=Tree.run E ((codeT sy P inR C ent En.g.n En.M false b y s2).bind (endG l hd)):=by
   rw[<-hbody];simp only;rw[run_bind hE,e1];simp only[Option.bind_some,forceL_eq]
  rw[hb]at hi;cases hq:Tree.run E ((codeT sy P inR C ent En.g.n En.M false b y s2).bind (endG l hd))with
  |none=>rw[hq]at hi;cases hi
  |some q=>
   rw[hq]at hi;obtain⟨r1,h1,h2⟩:=run_bind_some hE hq;refine wpIn_mono (ih b s2 a w r1 h1 hs2) fun e a' w' hr=> ?_
   obtain⟨x,s'⟩:=r1;cases x with
   |goto l'=>
    obtain⟨h0,_⟩|⟨_,rfl,hs'⟩:=hr.split
    ·cases h0
    simp only[endG]at h2;split at h2
    ·rename_i ds' hl hf';have hl:=of_decide_eq_true hl;subst hl;cases h2;refine .inr ⟨rfl,k,Nat.lt_succ_self k,hd,hd0,hok,ds',_,?_,hf',hs'⟩;rw[hbody];exact hi
    ·cases h2
   |_=>cases h2;cases hi;exact .inl hr
def codeT_soundJ {inR:Bool}{ro:Option Nat}(hro:inR=false->ro=none)(hE:E.Ok)(hN:EnvN E)(hG:EnvGood P E){C:CfgT}{ent:Callee->List V->List Box->Tree (List Nat × V × List Box)}(hent:EntGood P E ent){En:Ent}(hnr:inR=false->En.nr=false)(hm:P.follows .mixedOrders=true):
  ∀(c:Code),(∀(sc:Bool) (b:Nat) (s:VSt) (a:Act) (w:World) (r:Exit × VSt),(codeT sy P inR C ent En.g.n En.M sc b c s).run E=some r->SimE En s a w->
  c.wpIn (Fw ro) 0 P (fun e a' w'=>ER En r e a' w'\/(sc=true/\ ∃l y,spineOf C c=some (l,y)/\e= .goto l/\ ∃k,JumpAt P E inR C ent En b l y r k a' w')) a w)/\
  (∀l y,spineOf C c=some (l,y)-> ∀(b:Nat) (s:VSt) (a:Act) (w:World) (r:Exit × VSt),(codeT sy P inR C ent En.g.n En.M false b y s).run E=some r->SimE En s a w->y.wpIn (Fw ro) 0 P (ER En r) a w):=by
 have noJ: ∀ {sc:Bool} {e:Exit} {X Y:Prop},sc=false->(X\/(sc=true/\Y))->X:=fun h hx=>by
  rcases hx with hx|⟨h1,_⟩
  ·exact hx
  ·rw[h]at h1;cases h1
 intro c
 induction c with
 |skip=>exact⟨fun sc b s a w r hk hs=>by cases hk;exact wpIn_skip (.inl (ER.ok hs)),fun l y h=>by cases h⟩
 |region id ops draw=>
  refine⟨fun sc b s a w r hk hs=> ?_,fun l y h=>by cases h⟩
  unfold codeT at hk;cases draw with
  |false=>
   obtain⟨s',h1,hk⟩:=run_bind_some hE hk;cases hk;exact wpIn_region_list (opsT_sound hE hG hent _ (Nat.le_refl _) h1 hs fun e a' w' h=> .inl (ER.of_op h))
  |true=>
   obtain⟨s',h1,hk⟩:=run_bind_some hE hk;cases hk;exact drawT_sound hE hG hent hm h1 hs fun e a' w' h=> .inl (ER.of_opX hs h)
 |seq x y ihx ihy=>
  have ihx0: ∀(b:Nat) (s:VSt) (a:Act) (w:World) (r:Exit × VSt),(codeT sy P inR C ent En.g.n En.M false b x s).run E=some r->SimE En s a w->x.wpIn (Fw ro) 0 P (ER En r) a w:=
   fun b s a w r hk hs=>wpIn_mono (ihx.1 false b s a w r hk hs) fun e a' w' h=>noJ (e:=e) rfl h
  have ihy0: ∀(b:Nat) (s:VSt) (a:Act) (w:World) (r:Exit × VSt),(codeT sy P inR C ent En.g.n En.M false b y s).run E=some r->SimE En s a w->y.wpIn (Fw ro) 0 P (ER En r) a w:=
   fun b s a w r hk hs=>wpIn_mono (ihy.1 false b s a w r hk hs) fun e a' w' h=>noJ (e:=e) rfl h
  refine⟨fun sc b s a w r hk hs=> ?_,fun l z h=> ?_⟩
  ·unfold codeT at hk;split at hk
   ·rename_i l an hlab;have hsc:sc=true/\labX C x=some (l,an):=by cases sc<;>simp[labS]at hlab<;>simp[hlab]
    obtain⟨rfl,hx⟩:=hsc;have hsp:spineOf C (.seq x y)=some (l,y):=by unfold spineOf;rw[hx]
    obtain⟨rfl,_⟩:=labX_some hx;simp only at hk;generalize hhd:headS En.g.n an s=hd at hk;split at hk
    ·rename_i ds0 hd0 hf0;simp only[Bool.and_eq_true,decide_eq_true_eq]at hd0;obtain⟨⟨hd0,hyB⟩,hann⟩:=hd0;have hok:hd.okY (cdE En):=by rw[<-hhd]at hyB ⊢;exact headS_okY hs hyB hann
     simp only[Tree.run]at hk;obtain⟨n,hn⟩:=hN;rw[hn,hs.len]at hk;refine wpIn_seq (wpIn_label ?_);have hJ:JumpAt P E inR C ent En b l y r n a w:=⟨hd,hd0,hok,ds0,s,hk,hf0,hs⟩;refine wpIn_mono (jump_pass hE ihy0 n a w hJ) fun e a' w' h=> ?_
     rcases h with h|⟨he,m,_,hJ⟩
     ·exact .inl h
     ·exact .inr ⟨rfl,l,y,hsp,he,m,hJ⟩
    ·cases hk
   ·rename_i hlab;have key: ∀(s':VSt) (a':Act) (w':World),(codeT sy P inR C ent En.g.n En.M (sc&&flatX x) b y s').run E=some r->SimE En s' a' w'->
        y.wpIn (Fw ro) 0 P (fun e a' w'=>ER En r e a' w'\/(sc=true/\ ∃l z,spineOf C (.seq x y)=some (l,z)/\e= .goto l/\ ∃k,JumpAt P E inR C ent En b l z r k a' w')) a' w':=by
     intro s' a' w' hk hs';refine wpIn_mono (ihy.1 _ b s' a' w' r hk hs') fun e a2 w2 h=> ?_
     rcases h with h|⟨hsc,l,z,hsp,he⟩
     ·exact .inl h
     ·simp only[Bool.and_eq_true]at hsc;refine .inr ⟨hsc.1,l,z,?_,he⟩;have hl:labX C x=none:=by rw[hsc.1]at hlab;exact hlab
      unfold spineOf;rw[hl,hsc.2];exact hsp
    split at hk
    ·obtain⟨r1,h1,hk⟩:=run_bind_some hE hk;refine wpIn_seq (wpIn_mono (ihx0 b s a w r1 h1 hs) fun e a' w' hr=> ?_)
     obtain⟨x,s'⟩:=r1;rcases hr.split with⟨rfl,⟨u,rfl⟩,_⟩|⟨hx,rfl,hs'⟩
     ·cases hk;exact .inl hr
     ·cases e with
      |normal=>exact key s' a' w' hk hs'
      |_=>cases hk;exact .inl hr
    ·rename_i an _;simp only at hk;have hs:=hs.datB (P:=P) an.dat
     generalize datB P s an.dat=s0 at hk hs;have hs9:=hs.datB (P:=P) an.own;generalize datB P s0 an.own=s9 at hk hs9;split at hk
     ·rename_i hd;simp only[Bool.and_eq_true,decide_eq_true_eq]at hd;obtain⟨⟨hd,hyB⟩,hann⟩:=hd;have hok:=headS_okY hs9 hyB hann;simp only[Tree.run]at hk;obtain⟨q,h1,hk⟩:=Option.bind_eq_some_iff.1 hk;obtain⟨r1,h1,h2⟩:=run_bind_some hE h1;refine wpIn_seq (wpIn_mono (ihx0 b s0 a w r1 h1 hs) fun e a' w' hr=> ?_)
      obtain⟨x,s'⟩:=r1;rcases hr.split with⟨rfl,⟨u,rfl⟩,_⟩|⟨hx,rfl,hs'⟩
      ·cases h2;cases hk;exact .inl hr
      cases e with
      |outgrown=>exact(hx rfl).elim
      |normal=>
       simp only[datX,endR]at h2;split at h2
       ·rename_i ds hf;cases h2;simp only at hk;have hs':=(hs'.datB (P:=P) an.dat).datB (P:=P) an.own;have hlen:(datB P (datB P s' an.dat) an.own).t.length=s9.t.length:=by rw[hs'.len,hs9.len]
        obtain⟨s1,e1,hs1⟩:=open_sim hE hf hok hd hlen hs';obtain⟨s2,e2,hk⟩:=run_bind_some hE hk;rw[e1]at e2;cases e2;rw[forceL_eq]at hk;exact key s1 a' w' hk hs1
       ·cases h2
      |_=>cases h2;cases hk;refine .inl ?_;simp only[datX];exact ER.ok ((hs'.datB (P:=P) an.dat).datB (P:=P) an.own)
     ·cases hk
  ·unfold spineOf at h;split at h
   ·cases h;exact ihy0
   ·split at h
    ·exact ihy.2 l z h
    ·cases h
 |cond c x y ihx ihy=>
  refine⟨fun sc b s a w r hk hs=> ?_,fun l y h=>by cases h⟩
  unfold codeT at hk;split at hk
  ·rename_i t ht;obtain⟨g,hs'⟩:=hs;have e1:=rep_bool_inv (ht▸hs'.get c);cases t with
   |true=>exact wpIn_cond_true e1 (wpIn_mono (ihx.1 false b _ a w r hk (setC_sim ⟨g,hs'⟩ ht)) fun e a' w' h=> .inl (noJ (e:=e) rfl h))
   |false=>exact wpIn_cond_false e1 (wpIn_mono (ihy.1 false b _ a w r hk (setC_sim ⟨g,hs'⟩ ht)) fun e a' w' h=> .inl (noJ (e:=e) rfl h))
  ·cases hk
 |block id c ih0=>
  have ih:=fun b s a w r hk hs=>wpIn_mono (ih0.1 false b s a w r hk hs) fun e a' w' h=>noJ (e:=e) rfl h
  refine⟨fun sc b s a w r hk hs=> ?_,fun l y h=>by cases h⟩
  unfold codeT at hk;obtain⟨r1,h1,hk⟩:=run_bind_some hE hk;cases hk;refine wpIn_block (wpIn_mono (ih id s a w r1 h1 hs) fun e a' w' hr=> ?_)
  obtain⟨x,s'⟩:=r1;rcases hr.split with⟨rfl,⟨u,rfl⟩,_⟩|⟨hx,rfl,hs'⟩
  ·exact .inl hr
  cases e with
  |exit id'=>
   simp only[Exit.inBlock,inBl];split
   ·rename_i hd;rw[decide_eq_true hd];exact .inl (ER.ok hs')
   ·rename_i hd;rw[decide_eq_false hd];exact .inl (ER.ok hs')
  |_=>exact .inl hr
 |loop c ih0=>
  have ih:=fun b s a w r hk hs=>wpIn_mono (ih0.1 false b s a w r hk hs) fun e a' w' h=>noJ (e:=e) rfl h
  refine⟨fun sc b s a w r hk hs=> ?_,fun l y h=>by cases h⟩
  unfold codeT at hk;simp only at hk;have hs:=((((hs.frzs (bs:=(C.loops b).ice)).mintP (P:=P) (C.loops b).own2).mintB (P:=P) (C.loops b).own).soleS (C.loops b).sole).datB (P:=P) (C.loops b).dat
  generalize datB P (soleS (C.loops b).sole (mintB P (mintP P (s.frz (C.loops b).ice) (C.loops b).own2) (C.loops b).own)) (C.loops b).dat=s0 at hk hs;generalize hhd:headS En.g.n (C.loops b) s0=hd at hk;split at hk
  ·rename_i ds0 hd0 hf0;simp only[Bool.and_eq_true,decide_eq_true_eq]at hd0;obtain⟨⟨hd0,hyB⟩,hann⟩:=hd0;have hok:hd.okY (cdE En):=by rw[<-hhd]at hyB ⊢;exact headS_okY hs hyB hann
   simp only[Tree.run]at hk;obtain⟨n,hn⟩:=hN;rw[hn]at hk;generalize hbody:(fun ds:List D=>Tree.run E ((openHd sy hd s0.t.length ds).bind fun s1=>forceL s1.t fun t=>(codeT sy P inR C ent En.g.n En.M false b c ⟨t,s1.h⟩).bind fun r=>endR hd (datX P (C.loops b).dat r)))=body at hk
   have hlen:=hs.len;refine wpIn_rounds (fun k a w=> ∃ds s1,iterN k body ds=some r/\fitHd hd s1=some ds/\SimE En s1 a w) n ⟨ds0,s0,hk,hf0,hs⟩ ?_
   rintro k a w ⟨ds,s1,hi,hf,hs1⟩
   cases k with
   |zero=>cases hi
   |succ k=>
    simp only[iterN]at hi;obtain⟨s2,e1,hs2⟩:=open_sim (len:=s0.t.length) hE hf hok hd0 (by rw[hs1.len,hlen]) hs1
    have hb:body ds=Tree.run E ((codeT sy P inR C ent En.g.n En.M false b c s2).bind fun r=>endR hd (datX P (C.loops b).dat r)):=by
     rw[<-hbody];simp only;rw[run_bind hE,e1];simp only[Option.bind_some,forceL_eq]
    rw[hb]at hi;cases hq:Tree.run E ((codeT sy P inR C ent En.g.n En.M false b c s2).bind fun r=>endR hd (datX P (C.loops b).dat r))with
    |none=>rw[hq]at hi;cases hi
    |some q=>
     rw[hq]at hi;obtain⟨r1,h1,h2⟩:=run_bind_some hE hq;refine wpIn_mono (ih b s2 a w r1 h1 hs2) fun e a' w' hr=> ?_
     obtain⟨x,s'⟩:=r1;rcases hr.split with⟨rfl,⟨u,rfl⟩,_⟩|⟨hx,rfl,hs'⟩
     ·cases h2;cases hi;exact .inl hr
     cases e with
     |outgrown=>exact(hx rfl).elim
     |normal=>
      simp only[datX,endR]at h2;split at h2
      ·rename_i ds' hf';cases h2;exact⟨k,Nat.lt_succ_self k,ds',_,hi,hf',hs'.datB (P:=P) (C.loops b).dat⟩
      ·cases h2
     |_=>cases h2;cases hi;exact .inl (ER.ok (hs'.datB (P:=P) (C.loops b).dat))
  ·cases hk
 |exit id=>exact⟨fun sc b s a w r hk hs=>by cases hk;exact wpIn_exit (.inl (ER.ok hs)),fun l y h=>by cases h⟩
 |ret=>exact⟨fun sc b s a w r hk hs=>by cases hk;exact wpIn_ret (.inl (ER.ok hs)),fun l y h=>by cases h⟩
 |label l=>exact⟨fun sc b s a w r hk hs=>by cases hk;exact wpIn_label (.inl (ER.ok hs)),fun l y h=>by cases h⟩
 |goto l=>exact⟨fun sc b s a w r hk hs=>by cases hk;exact wpIn_goto (.inl (ER.ok hs)),fun l y h=>by cases h⟩
 |scope c ih=>
  refine⟨fun sc b s a w r hk hs=> ?_,fun l y h=>by cases h⟩
  unfold codeT at hk;cases inR with
  |true=>cases hk
  |false=>
   have hro:=hro rfl;subst hro;obtain⟨r1,h1,hk⟩:=run_bind_some hE hk;have h0:=ih.1 true b s a w r1 h1 hs;obtain⟨e0,s0⟩:=r1;have hr:r=(e0,s0)/\ ∀l,e0≠ .goto l:=by cases e0<;>first|(cases hk;exact⟨rfl,by simp⟩)|cases hk
   obtain⟨rfl,hng⟩:=hr;cases hsp:spineOf C c with
   |none=>
    refine wpIn_wide.2 (wp_scope_straight (wpIn_wide.1 (wpIn_mono h0 fun e a' w' h=> ?_)))
    rcases h with hr|⟨_,l,y,h,_⟩
    ·rcases hr.split with⟨rfl,⟨u,rfl⟩,_⟩|⟨hx,rfl,hs'⟩
     ·exact .inl hr
     ·cases e<;>first|exact .inl hr|exact(hng _ rfl).elim
    ·rw[hsp]at h;cases h
   |some ly=>
    obtain⟨l,y⟩:=ly;refine wpIn_wide.2 (wp_scope_rounds l (JumpAt P E false C ent En b l y (e0,s0)) (spine_label hsp) (wpIn_wide.1 (wpIn_mono h0 fun e a' w' h=> ?_)) fun k a' w' hJ=> ?_)
    ·rcases h with hr|⟨_,l',y',h,he,hJ⟩
     ·rcases hr.split with⟨rfl,⟨u,rfl⟩,_⟩|⟨hx,rfl,hs'⟩
      ·exact .inl hr
      ·cases e<;>first|exact .inl hr|exact(hng _ rfl).elim
     ·rw[hsp]at h;cases h;subst he;exact⟨rfl,hJ⟩
    ·refine wpIn_wide.1 (wpIn_seq (wpIn_skip (wpIn_mono (jump_pass (ro:=none) hE (ih.2 l y hsp) k a' w' hJ) fun e a2 w2 h=> ?_)))
     rcases h with hr|⟨he,hJ⟩
     ·rcases hr.split with⟨rfl,⟨u,rfl⟩,_⟩|⟨hx,rfl,hs'⟩
      ·exact .inl hr
      ·cases e<;>first|exact .inl hr|exact(hng _ rfl).elim
     ·subst he;exact⟨rfl,hJ⟩
 |rangeFunc y ps assign body iha ihb=>
  refine⟨fun sc b s a w r hk hs=> ?_,fun l y h=>by cases h⟩
  unfold codeT at hk;cases inR with
  |true=>cases hk
  |false=>
   have hro:=hro rfl;subst hro;cases hy:s.get y<;>simp only[hy]at hk<;>first|(cases hk;done)|skip
   rename_i f caps;cases hsig:sigP P f<;>simp only[hsig]at hk<;>first|(cases hk;done)|skip
   rename_i ts;obtain⟨r1,h1,hk⟩:=run_bind_some hE hk;split at hk
   ·cases hk
   ·rename_i hp;have hcall:=(hent.1 _ _ _ _ h1).none hp;obtain⟨g,hs⟩:=hs;have hry:=hs.get y;rw[hy]at hry;have key:(Code.rangeFunc y ps assign body).wpIn (Fw none) 0 P (fun e a' w'=>e=r.1/\SimE En r.2 a' w') a w:=by
     clear h1;cases hrl:C.rl with
     |none=>rw[hrl]at hcall;exact range_sound (s:=s) hs (hnr rfl) hry (sigP_some hsig) hcall hk
     |some l=>rw[hrl]at hcall;exact range_sound (s:=Go.Vm.keepS (some l) s) (hs.keepS (some l)) (hnr rfl) hry (sigP_some hsig) hcall hk
    refine wpIn_mono key fun e a' w' h=> .inl (.inr ⟨?_,h⟩)
    split at hk<;>cases hk<;>simp
 |_=>refine⟨fun sc b s a w r hk hs=> ?_,fun l y h=> ?_⟩<;>first|cases hk|cases h
def codeT_sound {inR:Bool}{ro:Option Nat}(hro:inR=false->ro=none)(hE:E.Ok)(hN:EnvN E)(hG:EnvGood P E){C:CfgT}{ent:Callee->List V->List Box->Tree (List Nat × V × List Box)}(hent:EntGood P E ent){En:Ent}(hnr:inR=false->En.nr=false)(hm:P.follows .mixedOrders=true)(c:Code)(b:Nat)(s:VSt)(a:Act)(w:World)(r:Exit × VSt)
  (hk:(codeT sy P inR C ent En.g.n En.M false b c s).run E=some r) (hs:SimE En s a w):c.wpIn (Fw ro) 0 P (ER En r) a w:=
 wpIn_mono ((codeT_soundJ hro hE hN hG hent hnr hm c).1 false b s a w r hk hs) fun e a' w' h=>by
  rcases h with h|⟨h,_⟩
  ·exact h
  ·cases h
end
section
variable (A : Sy) (P : Program) (Cs : FuncId -> CfgT)
def isArr:Box->Bool
 | .arr .. =>true
 |_=>false
def turnL (h:List Box)(vs:List V):List Nat:=(reachV h [] vs).filter fun b=>isArr (h.getD b .gone)
def turnF (C:CfgT)(h:List Box)(vs:List V):List Nat:=match C.turn with
 |true=>turnL h vs
 |false=>[]
def turnR (C:CfgT)(h:List Box)(b:Nat)(R:RecI)(vs t0:List V):List Nat:=match C.rt with
 |none=>turnL h (.yld b R::vs)
 |some ks=>turnL h (ks.map fun k=>t0.getD k .any)
def endN (n0:Nat)(M0:List Nat)(v:V)(h:List Box):List Nat × V × List Box:=match decide (n0<=h.length)&&v.scB n0&&(h.take n0).all (Box.scB n0)with
 |true=>(M0,v,h.take n0)
 |false=>(M0,v,h)
def endE (fn:Func)(n0:Nat)(M0:List Nat)(r:Exit × VSt):Tree (List Nat × V × List Box):=
 let fin:Tree (List Nat × V × List Box):=match resV P r.2 fn.results.toList with
  |some v=>match panOf v with
   |none=> .ret (endN n0 M0 v r.2.h)
   |some _=> .fail
  |none=> .fail
 match r.1 with
 | .normal=>fin
 | .ret=>fin
 | .outgrown=>match r.2.t with
   |p::_=> .ret (endN n0 M0 (panV p) r.2.h)
   | []=> .fail
 |_=> .fail
def putPs (t:List V)(l:List (Tmp × V)):List V:=l.foldl (fun t q=>t.set q.1 q.2) t
def rndT (ent:Callee->List V->List Box->Tree (List Nat × V × List Box))(b:Nat)(R:RecI)(vs:List V)(h:List Box):Tree (List Nat × V × List Box):=match h[b]?,decide (vs.length=R.ps.size)with
 |some (.cells (.rcd .ready) t0),true=>forceL (putPs t0 (R.ps.toList.zip vs)) fun t=>
  (codeT A P true (Cs R.me) ent h.length (turnR (Cs R.me) h b R vs t0) false 0 R.assign ⟨t,h⟩).bind fun r1=>match r1.1,r1.2.h[b]? with
   | .normal,some (.cells (.rcd .ready) t1)=>forceH (r1.2.h.set b (.cells (.rcd .busy) t1)) fun h1=>
     (codeT A P true (Cs R.me) ent h.length (turnR (Cs R.me) h b R vs t0) false 0 R.body ⟨r1.2.t,h1⟩).bind fun r2=>match r2.1,r2.2.h[b]? with
      | .normal,some (.cells (.rcd .busy) t2)=> .ret (endN h.length (turnR (Cs R.me) h b R vs t0) (.d (.bool true)) (r2.2.h.set b (.cells (.rcd .ready) t2)))
      | .ret,some (.cells (.rcd .busy) t2)=> .ret (endN h.length (turnR (Cs R.me) h b R vs t0) (.d (.bool false)) (r2.2.h.set b (.cells (.rcd (.done .ret)) t2)))
      | .exit id,some (.cells (.rcd .busy) t2)=> .ret (endN h.length (turnR (Cs R.me) h b R vs t0) (.d (.bool false)) (r2.2.h.set b (.cells (.rcd (.done (.exit id))) t2)))
      |_,_=> .fail
   |_,_=> .fail
 |_,_=> .fail
def encX:Box->Option V
 | .cells (.ty t) vs=>some (.fn t vs)
 | .arr e sz rows=>some (.tup [.d (.int .i64 e), .d (.sl sz rows)])
 | .cells (.rcd .ready) vs=>some (.agg vs)
 | .gone=>some .nilf
 | .mp .str rows=>some (.tup [.nils, .d (.sl 2 rows)])
 | .mp (.int .i64) rows=>some (.tup [.nilp, .d (.sl 2 rows)])
 |_=>none
def decX:V->Option Box
 | .fn t vs=>some (.cells (.ty t) vs)
 | .tup [.d (.int .i64 e), .d (.sl sz rows)]=>some (.arr e.toNat sz rows)
 | .agg vs=>some (.cells (.rcd .ready) vs)
 | .nilf=>some .gone
 | .tup [.nils, .d (.sl 2 rows)]=>some (.mp .str rows)
 | .tup [.nilp, .d (.sl 2 rows)]=>some (.mp (.int .i64) rows)
 |_=>none
def encXs:List Box->Option (List V)
 | []=>some []
 |x::xs=>match encX x,encXs xs with
  |some v,some vs=>some (v::vs)
  |_,_=>none
def decXs:List V->Option (List Box)
 | []=>some []
 |x::xs=>match decX x,decXs xs with
  |some v,some vs=>some (v::vs)
  |_,_=>none
def encB (pn:Nat)(args:List V)(hs:List Box):Option (List V):=match encXs hs with
 |some l=>some (.d (.int .i64 pn):: .d (.int .i64 args.length)::(args++l))
 |none=>none
def decB:List V->Option (Nat × List V × List Box)
 | .d (.int .i64 pn):: .d (.int .i64 n)::l=>match decXs (l.drop n.toNat)with
   |some hs=>some (pn.toNat,l.take n.toNat,hs)
   |none=>none
 |_=>none
def isNT:Box->Bool
 | .cells (.ty t) _=>gNT.contains t
 |_=>false
def arrsOf (hs:List Box):List Nat:=match hs.any isNT with
 |true=>[]
 |false=>(List.range hs.length).filter fun b=>isArr (hs.getD b .gone)
def bkey (f:Nat):Nat:=f+1000000
def unkey (f:Nat):Nat:=f - 1000000
def isKey (f:Nat):Bool:=decide (1000000<=f)
def yldA:List V->Option (Nat × RecI)
 | []=>none
 | .yld b R::_=>some (b,R)
 |_::vs=>yldA vs
def retSk (R:RecI)(l0:List Sk):List Sk:=match P.funcs[R.me]? with
 |some fn=>(fn.results.toList.zip fn.resultTypes.toList).foldl (fun l q=>match q.1,shOf P 9 q.2,aggB P q.2 with
  | .tmp t,some [s],false=>l.set t (.d s)
  | .tmp t,some ss,true=>l.set t (.agg (ss.map .d))
  | .cell t _,_,_=>l.set t (l0.getD t .any)
  |_,_,_=>l) (l0.map fun _=> .any)
 |none=>l0
def altSk (as:List V)(hs:List Box):Option (List BSk):=match yldA as with
 |some (b,R)=>match hs[b]? with
  |some (.cells (.rcd _) vs)=>some ((hs.map Box.sk).set b (.cells (.rcd (.done .ret)) (retSk P R (V.skL vs))))
  |_=>none
 |none=>none
def bres1 (ss:List Sh)(mk:List D->Option V)(sks:List BSk)(ds:List D)(j:Nat):Tree (V × List Box):=
 (openRT A ss ds j).bind fun xs=>match mk xs with
  |some v=>(openBL A sks ds (j+ss.length)).bind fun q=> .ret (v,q.1)
  |none=> .fail
def bresT (pn:Nat)(ts:List TypeId)(as:List V)(hs:List Box)(ds:List D):Tree (V × List Box):=match shR P ts with
 |some ss=>match pn with
  |0=>match altSk P as hs with
   |none=>bres1 A ss (mkV P ts) (hs.map Box.sk) ds 0
   |some sk2=> .cB (A.cell ds 0) fun b=> .ite b (bres1 A ss (mkV P ts) sk2 ds 1) (bres1 A ss (mkV P ts) (hs.map Box.sk) ds 1)
  |pn=>match shOf P 9 pn with
   |some ps=> .cB (A.cell ds 0) fun b=> .ite b (bres1 A ps (fun xs=>some (panV (.ifc pn xs))) (hs.map Box.sk) ds 1) (bres1 A ss (mkV P ts) (hs.map Box.sk) ds 1)
   |none=> .fail
 |none=> .fail
def boxT (f:FuncId)(vs:List V)(h:List Box):Tree (List Nat × V × List Box):=match sigP P f,goodF P (bkey f)with
 |some ts,false=>forceSp (reachV h [] vs) fun L=>match reachOK h L vs with
  |true=>forceH (smallH h L) fun hs=>match encB ((Cs f).pn.getD 0) (vs.map (V.ren (tau L))) hs with
   |some key=> .call (bkey f) key fun ds=>(bresT A P ((Cs f).pn.getD 0) ts (vs.map (V.ren (tau L))) hs ds).bind fun q=>match panOf q.1 with
    |none=> .ret ((arrsOf hs).map (ext L h.length),q.1.ren (ext L h.length),amongH h L ((arrsOf hs).map (ext L h.length)) q.2)
    |some p=> .ret ((arrsOf hs).map (ext L h.length),panV (p.ren (ext L h.length)),amongH h L ((arrsOf hs).map (ext L h.length)) q.2)
   |none=> .fail
  |false=> .fail
 |_,_=> .fail
def entT:Nat->Callee->List V->List Box->Tree (List Nat × V × List Box)
 |0,_,_,_=> .fail
 |n+1, .fn f,vs,h=>match (Cs f).bx with
  |true=>boxT A P Cs f vs h
  |false=>match P.funcs[f]? with
   |some fn=>match fn.body with
    |some c=>forceL (entryS fn vs h).t fun t=>(codeT A P false (Cs f) (entT n) h.length (turnF (Cs f) h vs) false 0 c ⟨t,h⟩).bind (endE P fn h.length (turnF (Cs f) h vs))
    |none=> .fail
   |none=> .fail
 |n+1, .yld b R,vs,h=>rndT A P Cs (entT n) b R vs h
def outL:List TypeId->List V->Option (List D)
 | [],[]=>some []
 |t::ts,v::vs=>match out1 P t v,outL ts vs with
  |some a,some b=>some (a++b)
  |_,_=>none
 |_,_=>none
def outDs (ts:List TypeId)(v:V):Option (List D):=match ts,v with
 | [t],v=>outL P [t] [v]
 |ts, .tup vs=>outL P ts vs
 |_,_=>none
def endP (fn:Func)(r:Exit × VSt):Tree PRes:=
 let fin:Tree PRes:=match resV P r.2 fn.results.toList with
  |some v=>match v,fn.resultTypes.toList with
   | .own b,[t]=>match r.2.h[b]?,elO P t with
     |some (.arr e sz rows),some (e',sz')=>match decide (e'=e/\sz'=sz)with
      |true=> .ret (.own e sz rows)
      |false=> .fail
     |_,_=> .fail
   |v,ts=>match resV P (r.2.frz v.ownsT) fn.results.toList with
    |some v'=>match outDs P ts v' with
     |some ds=> .ret (.val ds)
     |none=> .fail
    |none=> .fail
  |none=> .fail
 match r.1 with
 | .normal=>fin
 | .ret=>fin
 |_=> .fail
def flagD (pn:Nat)(b:Bool):List D:=match pn with
 |0=>[]
 |_=>[.bool b]
def fitB (as:List V)(hs h:List Box)(pn:Nat):Option (List D × List D):=match pn,altSk P as hs with
 |0,some sk2=>match BSk.fitL hs.length (hs.map Box.sk) h with
  |some xs=>some ([.bool false],xs)
  |none=>match BSk.fitL hs.length sk2 h,sk2.all (BSk.yB 0)with
   |some xs,true=>some ([.bool true],xs)
   |_,_=>none
 |pn,_=>match BSk.fitL hs.length (hs.map Box.sk) h with
  |some xs=>some (flagD pn false,xs)
  |none=>none
def endB (fn:Func)(pn:Nat)(as:List V)(hs:List Box)(r:Exit × VSt):Tree PRes:=
 let fin:Tree PRes:=match resV P r.2 fn.results.toList with
  |some v0=>match resV P (r.2.frz v0.ownsT) fn.results.toList with
   |some v=>match outDs P fn.resultTypes.toList v,fitB P as hs (r.2.frz v0.ownsT).h pn with
    |some ds,some (fl,xs)=> .ret (.val (fl++ds++xs))
    |_,_=> .fail
   |none=> .fail
  |none=> .fail
 match r.1 with
 | .normal=>fin
 | .ret=>fin
 | .outgrown=>match pn,r.2.t with
   |0,_=> .fail
   |pn, .ifc t cs::_=>match decide (t=pn),shOf P 9 pn with
    |true,some ps=>match fitDs ps cs,BSk.fitL hs.length (hs.map Box.sk) r.2.h with
     |some ds,some xs=> .ret (.val (flagD pn true++ds++xs))
     |_,_=> .fail
    |_,_=> .fail
   |_,_=> .fail
 |_=> .fail
def funB (f:FuncId)(pn:Nat)(args:List V)(hs:List Box):Tree PRes:=match P.funcs[f]?,(hs.map Box.sk).all (BSk.yB 0)with
 |some fn,true=>match fn.body with
  |some c=>forceL (entryS fn args hs).t fun t=>(codeT A P false (Cs f) (entT A P Cs 8) hs.length (arrsOf hs) false 0 c ⟨t,hs⟩).bind (endB P fn pn args hs)
  |none=> .fail
 |_,_=> .fail
def dfrO:Code->Option (FuncId × Array Operand)
 | .region _ ⟨[⟨none, .defer ⟨.value (.func f),args,_⟩,_,_,_,none⟩]⟩ false=>some (f,args)
 |_=>none
def recO:Code->Option Tmp
 | .region _ ⟨[⟨some d, .call ⟨.builtin .recover,⟨[]⟩,_⟩,_,_,_,none⟩]⟩ false=>some d
 |_=>none
def catchT (ent:Callee->List V->List Box->Tree (List Nat × V × List Box))(f:FuncId)(p:V)(vs:List V)(s:VSt):Tree (Exit × VSt):=match goodF P f,P.funcs[f]? with
 |true,some fd=>match fd.body,fd.results with
  |some (.seq x y),⟨[]⟩=>match recO x with
   |some d=>forceL ((entryS fd vs s.h).t.set d p) fun t=>(codeT A P true (Cs f) ent s.h.length [] false 0 y ⟨t,s.h⟩).bind fun r=>match r.1 with
    | .normal=> .ret (.ret,⟨s.t,r.2.h⟩)
    | .ret=> .ret (.ret,⟨s.t,r.2.h⟩)
    |_=> .fail
   |none=> .fail
  |_,_=> .fail
 |_,_=> .fail
def dfrT (C:CfgT)(ent:Callee->List V->List Box->Tree (List Nat × V × List Box))(n0:Nat):Code->VSt->Tree (Exit × VSt)
 | .seq x y,s=>match dfrO x with
   |some (f,args)=>(codeT A P true C ent s.h.length [] false 0 y s).bind fun r=>match r.1 with
    | .normal=>catchT A P Cs ent f (.ifn true) (args.toList.map s.get) r.2
    | .ret=>catchT A P Cs ent f (.ifn true) (args.toList.map s.get) r.2
    | .outgrown=>match r.2.t with
      |p::t=>catchT A P Cs ent f p (args.toList.map s.get) ⟨t,r.2.h⟩
      | []=> .fail
    |_=> .fail
   |none=>(codeT A P true C ent n0 [] false 0 x s).bind fun r=>match r.1 with
    | .normal=>dfrT C ent n0 y r.2
    |_=> .fail
 |_,_=> .fail
def bodyT (f:FuncId)(c:Code)(s:VSt):Tree (Exit × VSt):=match (Cs f).dfr with
 |false=>codeT A P false (Cs f) (entT A P Cs 8) 0 [] false 0 c s
 |true=>dfrT A P Cs (Cs f) (entT A P Cs 8) 0 c s
def funT (f:FuncId)(args:List V):Tree PRes:=match P.funcs[f]? with
 |some fn=>match fn.body with
  |some c=>forceL (entryS fn args []).t fun t=>(bodyT A P Cs f c ⟨t,[]⟩).bind (endP P fn)
  |none=> .fail
 |none=> .fail
end
section
variable {P : Program} {E : Env} {Cs : FuncId -> CfgT}
def Sim.shut {En:Ent}(hds:En.ds= [])(hnr:En.nr=false){s:VSt}{tmps:Array Value}{D:Nat}{Ds:List Nat}{w:World}{g:Gh}(hs:Sim En s ⟨tmps,(D::Ds).map fun D=> { target:= .collected D,args:= #[] }⟩ w g):
  w.heap[D]? =some (.deferred (some []))/\Sim En s ⟨tmps,Ds.map fun D=> { target:= .collected D,args:= #[] }⟩ (w.putObj D (.deferred none)) g:=by
 obtain⟨Ds',⟨d1,_⟩,d2,d3⟩:=hs.defers;rw[hds,List.append_nil]at d1;have:Ds'=D::Ds:=(map_inj' (fun x y h=>by simpa using h) d1).symm
 subst this;obtain⟨k1,k2,k3,k4⟩:=d3 D List.mem_cons_self;have hoth: ∀k,k≠D->(w.putObj D (.deferred none)).heap[k]? =w.heap[k]? :=fun k hk=>World.putObj_heap_other hk
 have hcell: ∀b o,g.Z b o->(w.putObj D (.deferred none)).cell? ⟨b,o,none⟩=w.cell? ⟨b,o,none⟩:=fun b o hz=>by
  have:b≠D:=fun e=>k4 o (e▸hz)
  simp only[World.cell?,hoth b this]
 have ho:Over [] w g (w.putObj D (.deferred none)) g:=⟨Gh.Le.refl _ _,hcell⟩;have hsz:(w.putObj D (.deferred none)).heap.size=w.heap.size:=World.putObj_size;obtain⟨p1,p2,p3,p4⟩:=hs.keep;refine⟨k2,⟨hs.heap.n,fun b x hx=> ?_,hs.heap.sep,hs.heap.zsep,fun b o hz=>by rw[hsz];exact hs.heap.zlt b o hz,hs.heap.tab.mono (fun _ _ h=>h) hcell⟩,hs.size,fun i u v hu hv=>ho.repC_nil (hs.tmps i u v hu hv),⟨Ds,⟨by rw[hds,List.append_nil],fun h=>(by rw[hnr]at h;cases h)⟩,(List.nodup_cons.1 d2).2,fun D' hD'=> ?_⟩,
  ⟨p1,⟨p2.os,p2.tape,p2.output,by rw[hsz];exact p2.size,fun k hk hn=>(hoth k (by omega)).trans (p2.block k hk hn)⟩,p3,p4⟩,hs.len⟩
 ·have:=BoxRep.over ho (by rw[hs.heap.n];exact(List.getElem?_eq_some_iff.1 hx).1) (by simp) (fun k hk=>hoth k fun e=>k3 ⟨b,x,hx,e▸hk⟩) (hs.heap.rep b x hx)
  rwa [Box.kill_nil]at this
 ·obtain⟨q1,q2,q3,q4⟩:=d3 D' (List.mem_cons_of_mem _ hD');exact⟨q1,(hoth D' fun e=>(List.nodup_cons.1 d2).1 (e▸hD')).trans q2,q3,q4⟩
def leaves_marks {fn:Func}{Rp:Ending->World->Prop}{En:Ent}(hds:En.ds= [])(hnr:En.nr=false){s:VSt}{tmps:Array Value}{g:Gh}: ∀(Ds:List Nat) (w:World),Sim En s ⟨tmps,Ds.map fun D=> { target:= .collected D,args:= #[] }⟩ w g->
  (∀w',Sim En s ⟨tmps,[]⟩ w' g-> ∃v,(results fn tmps).run P w'= .ok v w'/\Rp (.returned v) w')->LeavesInM Fence.wide 0 P fn tmps Rp (Ds.map fun D=> { target:= .collected D,args:= #[] }) .returning w
 | [],w,hs,h=>h w hs
 |D::Ds,w,hs,h=>by
  obtain⟨h1,h2⟩:=hs.shut hds hnr;exact⟨by simp, .inl ⟨D,_,rfl,run_takeDeferred h1,leaves_marks hds hnr Ds _ h2 h⟩⟩
def leaves_sim {fn:Func}{Rp:Ending->World->Prop}{En:Ent}(hds:En.ds= [])(hnr:En.nr=false){s:VSt}{a:Act}{w:World}{g:Gh}(hs:Sim En s a w g)
  (h: ∀a' w',a'.tmps=a.tmps->Sim En s a' w' g-> ∃v,(results fn a.tmps).run P w'= .ok v w'/\Rp (.returned v) w'):LeavesInM Fence.wide 0 P fn a.tmps Rp a.defers .returning w:=by
 obtain⟨Ds,⟨d1,_⟩,d2,d3⟩:=hs.defers;rw[hds,List.append_nil]at d1;rw[d1];have e:a=⟨a.tmps,Ds.map fun D=> { target:= .collected D,args:= #[] }⟩:=by rw[<-d1]
 rw[e]at hs;exact leaves_marks hds hnr Ds w hs fun w' hs'=>h ⟨a.tmps,[]⟩ w' rfl hs'
def Sim.shutR {En:Ent}(hds:En.ds= []){s:VSt}{tmps:Array Value}{D:Nat}{Ds:List Nat}{w:World}{g:Gh}(hs:Sim En s ⟨tmps,(D::Ds).map fun D=> { target:= .collected D,args:= #[] }⟩ w g){u:Value}{v:V}(hr:Rep w g u v):
  Rep (w.putObj D (.deferred none)) g u v:=by
 obtain⟨Ds',⟨d1,_⟩,d2,d3⟩:=hs.defers;rw[hds,List.append_nil]at d1;have:Ds'=D::Ds:=(map_inj' (fun x y h=>by simpa using h) d1).symm
 subst this;obtain⟨k1,k2,k3,k4⟩:=d3 D List.mem_cons_self;have ho:Over [] w g (w.putObj D (.deferred none)) g:=⟨Gh.Le.refl _ _,fun b o hz=>by
  have:b≠D:=fun e=>k4 o (e▸hz)
  simp only[World.cell?,World.putObj_heap_other this]⟩
 exact ho.repC_nil hr
def leaves_marksP {fn:Func}{Rp:Ending->World->Prop}{En:Ent}(hds:En.ds= [])(hnr:En.nr=false){s:VSt}{tmps:Array Value}{g:Gh}{ch:List PanicEntry}{u:Value}{v:V}: ∀(Ds:List Nat) (w:World),Sim En s ⟨tmps,Ds.map fun D=> { target:= .collected D,args:= #[] }⟩ w g->Rep w g u v->
  (∀w',Sim En s ⟨tmps,[]⟩ w' g->Rep w' g u v->Rp (.panicked ch) w')->LeavesInM Fence.wide 0 P fn tmps Rp (Ds.map fun D=> { target:= .collected D,args:= #[] }) (.panicking ch) w
 | [],w,hs,hr,h=>h w hs hr
 |D::Ds,w,hs,hr,h=>by
  obtain⟨h1,h2⟩:=hs.shut hds hnr;exact⟨by simp, .inl ⟨D,_,rfl,run_takeDeferred h1,leaves_marksP hds hnr Ds _ h2 (hs.shutR hds hr) h⟩⟩
def leaves_simP {fn:Func}{Rp:Ending->World->Prop}{En:Ent}(hds:En.ds= [])(hnr:En.nr=false){s:VSt}{a:Act}{w:World}{g:Gh}{ch:List PanicEntry}{u:Value}{v:V}(hs:Sim En s a w g)(hr:Rep w g u v)
  (h: ∀a' w',a'.tmps=a.tmps->Sim En s a' w' g->Rep w' g u v->Rp (.panicked ch) w'):LeavesInM Fence.wide 0 P fn a.tmps Rp a.defers (.panicking ch) w:=by
 obtain⟨Ds,⟨d1,_⟩,d2,d3⟩:=hs.defers;rw[hds,List.append_nil]at d1;rw[d1];have e:a=⟨a.tmps,Ds.map fun D=> { target:= .collected D,args:= #[] }⟩:=by rw[<-d1]
 rw[e]at hs;exact leaves_marksP hds hnr Ds w hs hr fun w' hs' hr'=>h ⟨a.tmps,[]⟩ w' rfl hs' hr'
def rec_turn {g:Gh}{h:List Box}{w:World}{b:Nat}{st:RSt}{t:List V}(hs:SimH g h w)(hb:h[b]? =some (.cells (.rcd st) t)):
  ∃rc:Loop,w.heap[g.blk b]? =some (.loop rc)/\rc.state=st.state/\rc.pending=st.pend/\ ∀st':RSt,Keep [] g h w g (h.set b (.cells (.rcd st') t)) (w.putObj (g.blk b) (.loop { rc with state:=st'.state,pending:=st'.pend })):=by
 obtain⟨us,o,q1,⟨fn,D,x,q2,q3,rfl⟩,q4,q5⟩:=hs.rep b _ hb;refine⟨_,q1,rfl,rfl,fun st'=> ?_⟩
 generalize hw':w.putObj (g.blk b) _=w';have hfr:Fr (fun k=>(Box.cells (.rcd st) t).at? g b=some k) w w':=by
  rw[<-hw'];refine⟨rfl,rfl,rfl,by simp,fun k hk hnk=>World.putObj_heap_other fun e=>hnk ?_⟩
  simp only[Box.at?,e]
 have hcell: ∀k o,g.Z k o->w'.cell? ⟨k,o,none⟩=w.cell? ⟨k,o,none⟩:=fun k o hz=>hfr.cell (hs.zlt k o hz) (fun hk=>hs.zsep k o ⟨b,_,hb,hk⟩ hz)
 have ho:Over [] w g w' g:=⟨Gh.Le.refl _ _,hcell⟩;have:=Keep.turn (g':=g) (y:= .cells (.rcd st') t) hs hb [] (.inl ⟨rfl,rfl⟩) rfl rfl rfl (fun _ _=>⟨rfl,rfl⟩) hfr
  ⟨us,_,by rw[<-hw'];exact World.putObj_heap_same (Array.getElem?_eq_some_iff.1 q1).1,⟨fn,D,x,q2,q3,rfl⟩,q4,fun i u v hu hv=>ho.repC_nil (q5 i u v hu hv)⟩ (fun k hk=> .inl hk)
 rwa [map_kill_nil]at this
def turnL_arr {h:List Box}{vs:List V}{b:Nat}(hb:b∈turnL h vs):isArr (h.getD b .gone)=true:=(List.mem_filter.1 hb).2
def turnR_arr {C:CfgT}{h:List Box}{c:Nat}{R:RecI}{vs t0:List V}{b:Nat}(hb:b∈turnR C h c R vs t0):isArr (h.getD b .gone)=true:=by
 unfold turnR at hb;split at hb<;>exact turnL_arr hb
def putPs_sim {w:World}{g:Gh}: ∀(ps:List Tmp) (vs:List V) (us:List Value) (t:List V) (ts:Array Value),ts.size=t.length->(∀(i:Nat) u v,ts[i]? =some u->t[i]? =some v->Rep w g u v)->Reps w g us vs->
  ((ps.zip us).foldl (fun tm q=>tm.setIfInBounds q.1 q.2) ts).size=(putPs t (ps.zip vs)).length/\ ∀(i:Nat) u v,((ps.zip us).foldl (fun tm q=>tm.setIfInBounds q.1 q.2) ts)[i]? =some u->(putPs t (ps.zip vs))[i]? =some v->Rep w g u v
 | [],_,_,t,ts,hl,hr,_=>⟨hl,hr⟩
 |_::_,[],us,t,ts,hl,hr,hu=>by
  have:us= []:=by have:=hu.1;simpa using this
  subst this;exact⟨hl,hr⟩
 |q::ps,v::vs,us,t,ts,hl,hr,hu=>by
  cases us with
  |nil=>have:=hu.1;simp at this
  |cons u us=>
   refine putPs_sim ps vs us (t.set q v) (ts.setIfInBounds q u) (by simpa using hl) (fun i u' v' h1 h2=> ?_) ⟨by have:=hu.1;simpa using this,fun i u' v' h1 h2=>hu.2 (i+1) u' v' (by simpa using h1) (by simpa using h2)⟩
   rw[Array.getElem?_setIfInBounds]at h1;rw[List.getElem?_set]at h2
   by_cases hi:q=i
   ·subst hi;rw[if_pos rfl]at h1 h2;split at h1
    ·split at h2
     ·cases h1;cases h2;exact hu.2 0 _ _ rfl rfl
     ·cases h2
    ·cases h1
   ·rw[if_neg hi]at h1 h2;exact hr i u' v' h1 h2
def endN_keep {g g':Gh}{h h':List Box}{w w':World}{M0:List Nat}{v:V}{u:Value}(hn:g.n=h.length)(hk:Keep M0 g h w g' h' w')(hr:Rep w' g' u v):
  ∃g2,Rep w' g2 u (endN h.length M0 v h').2.1/\Keep (endN h.length M0 v h').1 g h w g2 (endN h.length M0 v h').2.2 w':=by
 unfold endN;split
 ·rename_i hc;simp only[Bool.and_eq_true,decide_eq_true_eq]at hc;exact⟨g'.cut h.length,scB_rep hr hc.1.2,hk.cutN (by rw[hn];exact Nat.le_refl _) hc.1.1 hc.2⟩
 ·exact⟨g',hr,hk⟩
def endN_pan {g g':Gh}{h h':List Box}{w w':World}{M0:List Nat}{p:V}{u:Value}(hn:g.n=h.length)(hk:Keep M0 g h w g' h' w')(hr:Rep w' g' u p):
  panOf (endN h.length M0 (panV p) h').2.1=some p/\ ∃g2,Rep w' g2 u p/\Keep (endN h.length M0 (panV p) h').1 g h w g2 (endN h.length M0 (panV p) h').2.2 w':=by
 unfold endN;split
 ·rename_i hc;simp only[Bool.and_eq_true,decide_eq_true_eq]at hc;have hp:p.scB h.length=true:=by
   have:=hc.1.2;simp only[panV,V.scB,V.scL,Bool.and_true,Bool.true_and]at this;exact this
  exact⟨rfl,g'.cut h.length,scB_rep hr hp,hk.cutN (by rw[hn];exact Nat.le_refl _) hc.1.1 hc.2⟩
 ·exact⟨rfl,g',hr,hk⟩
def rndT_sound (hE:E.Ok)(hN:EnvN E)(hG:EnvGood P E)(hm:P.follows .mixedOrders=true){ent:Callee->List V->List Box->Tree (List Nat × V × List Box)}(hent:EntGood P E ent){b:Nat}{R:RecI}{vs:List V}{h:List Box}{r:List Nat × V × List Box}
  (hk:(rndT sy P Cs ent b R vs h).run E=some r):HRound P r.1 b R vs h r.2.1 r.2.2:=by
 unfold rndT at hk;split at hk
 ·rename_i t0 hb hlen;have hlen:=of_decide_eq_true hlen;rw[forceL_eq]at hk;obtain⟨r1,h1,hk⟩:=run_bind_some hE hk;intro g w us hs hu hbn hrc;generalize hM0:turnR (Cs R.me) h b R vs t0=M0 at h1 hk;have hbM:b ∉ M0:=fun hm'=>by
   rw[<-hM0]at hm';have:=turnR_arr hm';rw[List.getD_eq_getElem?_getD,hb]at this;cases this
  obtain⟨us0,o,q1,⟨fn,D,x,q2,q3,rfl⟩,q4,q5⟩:=hs.rep b _ hb;have hx:x.r=R:=by
   unfold Gh.rc at hrc;rw[q2]at hrc;exact Option.some.inj hrc
  have hy:=run_yield (P:=P) (args:=us.toArray) q1 (by simp only[List.size_toArray,hx];rw[hu.1,hlen])
  refine⟨_,_,_,_,hy,?_⟩;simp only[hx];have hfold:(R.ps.zip us.toArray).foldl (fun tmps q=>tmps.setIfInBounds q.1 q.2) us0=(R.ps.toList.zip us).foldl (fun tm q=>tm.setIfInBounds q.1 q.2) us0:=by
   rw[<-Array.foldl_toList];simp
  obtain⟨s1,s2⟩:=putPs_sim R.ps.toList vs us t0 us0 q4 q5 hu
  let En:Ent:=⟨w,g,h,M0,(putPs t0 (R.ps.toList.zip vs)).length,[],false⟩
  have hS:SimE En ⟨putPs t0 (R.ps.toList.zip vs),h⟩ ⟨(R.ps.toList.zip us).foldl (fun tm q=>tm.setIfInBounds q.1 q.2) us0,[]⟩ w:=
   ⟨g,hs,s1,s2, .none,⟨Gh.Le.refl _ _,Fr.refl _ _,fun _ _ h=> .inl h,fun _ h=> .inl h⟩,rfl⟩
  have hn:g.n=h.length:=hs.n;refine roundIn_of_wpIn trivial ?_;show R.assign.wpIn (Fw (some (g.blk b))) 0 P _ _ _;have e0:(Array.foldl (fun (tmps:Array Value) (x:Tmp × Value)=>tmps.setIfInBounds x.1 x.2) us0 (R.ps.zip us.toArray))=(R.ps.toList.zip us).foldl (fun tm q=>tm.setIfInBounds q.1 q.2) us0:=hfold
  refine(congrArg (fun tm=>R.assign.wpIn (Fw (some (g.blk b))) 0 P _ { tmps:=tm,defers:=[] } w) e0).mpr ?_
  refine wpIn_mono (codeT_sound (inR:=true) (ro:=some (g.blk b)) (En:=En) (fun h=>by cases h) hE hN hG hent (fun _=>rfl) hm R.assign 0 _ _ _ r1 (by rw[<-hn]at h1;exact h1) hS) ?_
  rintro e a1 w1 hr1
  obtain⟨e1,st1⟩:=r1;split at hk
  ·rename_i t1 he1 hb1;simp only at he1 hb1;subst he1;obtain⟨h0,_⟩|⟨_,rfl,g1,hs1⟩:=hr1.split
   ·cases h0
   show ∃w₂,(Instr.beginRound (g.blk b)).run P w1= .ok () w₂/\R.body.wpIn (Fw (some (g.blk b))) 0 P (roundPost P (g.blk b) _) a1 w₂
   rw[forceH_eq]at hk;obtain⟨r2,h2,hk⟩:=run_bind_some hE hk;have hbe:g1.blk b=g.blk b:=hs1.keep.1.blk b hbn hbM;obtain⟨rc,c1,c2,c3,c4⟩:=rec_turn hs1.heap hb1;rw[hbe]at c1 c4;have hbr:=run_beginRound (P:=P) c1 (by rw[c2];rfl)
   have hk4:=c4 .busy;have erc:({ rc with state:= .busy }:Loop)= { rc with state:=RSt.busy.state,pending:=RSt.busy.pend }:=by
    cases rc;simp only[RSt.pend]at c3;simp only[RSt.state,RSt.pend,c3]
   refine⟨_,hbr,?_⟩;rw[erc];have hs2:=hs1.next hk4 (by simp[okM]) (x:= .any) (u:=undef) (.any undef) none
   refine wpIn_mono (codeT_sound (inR:=true) (ro:=some (g.blk b)) (En:=En) (fun h=>by cases h) hE hN hG hent (fun _=>rfl) hm R.body 0 _ _ _ r2 (by rw[<-hn]at h2;exact h2) ⟨g1,hs2⟩) ?_
   rintro e a2 w3 hr2
   obtain⟨e2,st2⟩:=r2;obtain⟨rfl,_⟩|⟨_,rfl,g3,hs3⟩:=hr2.split
   ·cases hk
   have hbe3:g3.blk b=g.blk b:=hs3.keep.1.blk b hbn hbM;have fin: ∀(st':RSt) (jump:Option Code) (t2:List V),st2.h[b]? =some (.cells (.rcd .busy) t2)->st'.state=(if jump.isNone then .ready else .done)->st'.pend=jump->
       r=endN h.length M0 (.d (.bool jump.isNone)) (st2.h.set b (.cells (.rcd st') t2))->
       ∃v w',(Instr.endRound (g.blk b) jump).run P w3= .ok v w'/\ ∃u g',Ending.returned v= .returned u/\Rep w' g' u r.2.1/\Keep r.1 g h w g' r.2.2 w':=by
    intro st' jump t2 hb2 e1 e2 hr;obtain⟨rc3,d1,d2,d3,d4⟩:=rec_turn hs3.heap hb2;rw[hbe3]at d1 d4;have hen:=run_endRound (P:=P) jump d1;have hk5:=d4 st';rw[e1,e2]at hk5;have hs4:=hs3.next hk5 (by simp[okM]) (x:= .any) (u:=undef) (.any undef) none
    obtain⟨k1,k2,k3,k4⟩:=hs4.keep;have hkeep:Keep M0 g h w g3 (st2.h.set b (.cells (.rcd st') t2)) _:=⟨hs4.heap,k1,k2,k3,k4⟩;obtain⟨g5,p1,p2⟩:=endN_keep hn hkeep (v:= .d (.bool jump.isNone)) (u:= .bool jump.isNone) (.d (.bool _));exact⟨_,_,hen, .bool jump.isNone,g5,rfl,by rw[hr];exact p1,by rw[hr];exact p2⟩
   split at hk
   ·rename_i t2 he2 hb2;simp only at he2 hb2;subst he2;cases hk;exact fin .ready none t2 hb2 rfl rfl rfl
   ·rename_i t2 he2 hb2;simp only at he2 hb2;subst he2;cases hk;exact fin (.done .ret) (some .ret) t2 hb2 rfl rfl rfl
   ·rename_i id t2 he2 hb2;simp only at he2 hb2;subst he2;cases hk;exact fin (.done (.exit id)) (some (.exit id)) t2 hb2 rfl rfl rfl
   ·cases hk
  ·cases hk
 ·cases hk
def encX_dec {x:Box}{v:V}(h:encX x=some v):decX v=some x:=by
 unfold encX at h;split at h<;>cases h<;>simp[decX]
def encXs_dec: ∀ {hs:List Box} {l:List V},encXs hs=some l->decXs l=some hs
 | [],l,h=>by cases h;rfl
 |x::xs,l,h=>by
  unfold encXs at h;split at h
  ·rename_i v vs h1 h2;cases h;simp only[decXs,encX_dec h1,encXs_dec h2]
  ·cases h
def encB_dec {pn:Nat}{as:List V}{hs:List Box}{key:List V}(h:encB pn as hs=some key):decB key=some (pn,as,hs):=by
 unfold encB at h;split at h
 ·rename_i l hl;cases h;simp[decB,encXs_dec hl]
 ·cases h
def panOf_spec {v p:V}(h:panOf v=some p):v=panV p:=by
 unfold panOf at h;split at h
 ·cases h;rfl
 ·cases h
def panOf_ren {v:V}{σ:Nat->Nat}(h:panOf v=none):panOf (v.ren σ)=none:=by
 cases hq:panOf (v.ren σ)with
 |none=>rfl
 |some p=>
  exfalso;have e:=panOf_spec hq;cases v<;>simp only[V.ren,panV]at e<;>first|(cases e;done)|skip
  rename_i cs
  match cs,e,h with
  | [a,b],e,h=>
    simp only[V.renL,V.tup.injEq,List.cons.injEq,and_true]at e;obtain⟨e1,_⟩:=e;cases a<;>simp only[V.ren]at e1<;>first|(cases e1;done)|skip
    rename_i ds
    match ds,e1,h with
    | [],_,h=>cases h
    |_::_,e1,_=>simp[V.renL]at e1
  | [],e,_=>simp[V.renL]at e
  | [_],e,_=>simp[V.renL]at e
  |_::_::_::_,e,_=>simp[V.renL]at e
def BGood (P:Program)(f:FuncId)(pn:Nat)(as:List V)(hs:List Box)(p:PRes):Prop:=
 ∀(ts:List TypeId) (E:Env) (q:V × List Box),E.Ok->sigP P f=some ts->(bresT sy P pn ts as hs p.leaves).run E=some q->HEnd P (arrsOf hs) f as hs q.1 q.2
def EnvB (P:Program)(E:Env):Prop:= ∀f key pn as hs p,goodF P (bkey f)=false->decB key=some (pn,as,hs)->E.call (bkey f) key=some p->BGood P f pn as hs p
def boxT_sound (hE:E.Ok)(hB:EnvB P E){f:FuncId}{vs:List V}{h:List Box}{r:List Nat × V × List Box}(hk:(boxT sy P Cs f vs h).run E=some r):HEnd P r.1 f vs h r.2.1 r.2.2:=by
 unfold boxT at hk;split at hk
 ·rename_i ts hsig hg;rw[forceSp_eq]at hk;generalize reachV h [] vs=L at hk;split at hk
  ·rename_i hL;rw[forceH_eq]at hk;split at hk
   ·rename_i key hkey;simp only[Tree.run]at hk;obtain⟨p,hp,hk⟩:=Option.bind_eq_some_iff.1 hk;obtain⟨q,h1,hk⟩:=run_bind_some hE hk;have hend:=hB _ _ _ _ _ _ hg (encB_dec hkey) hp ts E q hE hsig h1;split at hk
    ·rename_i hq;cases hk;have:=HCall.among hL (hend.none hq);unfold HEnd;rw[panOf_ren hq];exact this
    ·rename_i p' hq;cases hk;exact XCall.amongP hL (hend.some hq)
   ·cases hk
  ·cases hk
 ·cases hk
def EndR (v:V):Ending->World->Gh->Prop:=match panOf v with
 |some p=>PanV p
 |none=>RetV v
def HEnd.of {M:List Nat}{f:FuncId}{args:List V}{h h':List Box}{v:V}(hc:XCall P M f args h (EndR v) h'):HEnd P M f args h v h':=by
 unfold HEnd;unfold EndR at hc;split
 ·rename_i p hp;rw[hp]at hc;exact hc
 ·rename_i hp;rw[hp]at hc;exact XCall.ret.1 hc
def HEnd.x {M:List Nat}{f:FuncId}{args:List V}{h h':List Box}{v:V}(hc:HEnd P M f args h v h'):XCall P M f args h (EndR v) h':=by
 unfold HEnd at hc;unfold EndR;split
 ·rename_i p hp;rw[hp]at hc;exact hc
 ·rename_i hp;rw[hp]at hc;exact XCall.ret.2 hc
def endN_v {n0:Nat}{M0:List Nat}{v:V}{h:List Box}:(endN n0 M0 v h).2.1=v:=by unfold endN;split<;>rfl
def entT_sound (hE:E.Ok)(hN:EnvN E)(hG:EnvGood P E)(hB:EnvB P E)(hm:P.follows .mixedOrders=true): ∀n,EntGood P E (entT sy P Cs n)
 |0=>⟨fun f vs h r hk=>(by cases hk),fun b R vs h r hk=>(by cases hk)⟩
 |n+1=>by
  refine⟨fun f vs h r hk=> ?_,fun b R vs h r hk=>rndT_sound hE hN hG hm (entT_sound hE hN hG hB hm n) hk⟩
  unfold entT at hk;split at hk
  ·exact boxT_sound hE hB hk
  split at hk
  ·rename_i fn hf;split at hk
   ·rename_i c hb;rw[forceL_eq]at hk;obtain⟨r1,h1,hk⟩:=run_bind_some hE hk;refine HEnd.of fun g w us hs hu=> ?_
    refine callsIn_wide.1 (callsIn_of_wp_marks (F:=Fence.wide) (n:=0) hf hb trivial ?_);have hEn:=entry_sim (fn:=fn) (turnF (Cs f) h vs) (hs:=hs) (hu:=hu);have h1':(codeT sy P false (Cs f) (entT sy P Cs n) g.n (turnF (Cs f) h vs) false 0 c (entryS fn vs h)).run E=some r1:=by rw[hs.n];exact h1
    refine wpIn_mono (codeT_sound (ro:=none) (En:=⟨w,g,h,turnF (Cs f) h vs,(entryS fn vs h).t.length,[],false⟩) (fun _=>rfl) hE hN hG (entT_sound hE hN hG hB hm n) (fun _=>rfl) hm c 0 _ _ _ r1 h1' hEn) fun e a' w' hr=> ?_
    obtain⟨e1,s'⟩:=r1;rcases hr.split with⟨rfl,⟨u,rfl⟩,p,t,ht,hpan⟩|⟨hx,rfl,g',hs'⟩
    ·have hk:Tree.run E (match s'.t with
      |p::_=> .ret (endN h.length (turnF (Cs f) h vs) (panV p) s'.h)
      | []=> .fail)=some r:=hk
     rw[ht]at hk;cases hk;obtain⟨g',u',he,hru,hs'⟩:=hpan;cases he;refine leaves_simP rfl rfl hs' hru fun a2 w2 ha2 hs2 hru=> ?_
     obtain⟨k1,k2,k3,k4⟩:=hs2.keep;have hkeep:Keep (turnF (Cs f) h vs) g h w g' s'.h w2:=⟨hs2.heap,k1,k2,fun b o hz=>(k3 b o hz),k4⟩
     obtain⟨q1,g2,q2,q3⟩:=endN_pan hs.n hkeep hru;refine⟨g2,?_,q3⟩;unfold EndR;rw[q1];exact⟨_,rfl,q2⟩
    ·have fin: ∀(e:Exit),(e= .normal\/e= .ret)->(endE P fn h.length (turnF (Cs f) h vs) (e,s')).run E=some r->LeavesInM Fence.wide 0 P fn a'.tmps (fun e w'=> ∃g',EndR r.2.1 e w' g'/\Keep r.1 g h w g' r.2.2 w') a'.defers .returning w':=by
      intro e he hq;have hq:Tree.run E (match resV P s' fn.results.toList with
       |some v=>match panOf v with
        |none=> .ret (endN h.length (turnF (Cs f) h vs) v s'.h)
        |some _=> .fail
       |none=> .fail)=some r:=by rcases he with rfl|rfl<;>exact hq
      refine leaves_sim rfl rfl hs' fun a2 w2 ha2 hs2=> ?_
      rw[<-ha2];obtain⟨k1,k2,k3,k4⟩:=hs2.keep;have hkeep:Keep (turnF (Cs f) h vs) g h w g' s'.h w2:=⟨hs2.heap,k1,k2,fun b o hz=>(k3 b o hz),k4⟩
      split at hq
      ·rename_i v hv;obtain⟨u,hu,hr⟩:=resV_run hs2 hv;split at hq
       ·rename_i hp;cases hq;obtain⟨g2,q1,q2⟩:=endN_keep hs.n hkeep hr;refine⟨u,hu,g2,?_,q2⟩;unfold EndR;rw[endN_v,hp];rw[endN_v]at q1;exact⟨u,rfl,q1⟩
       ·cases hq
      ·cases hq
     cases e with
     |normal=>exact fin _ (.inl rfl) hk
     |ret=>exact fin _ (.inr rfl) hk
     |outgrown=>exact(hx rfl).elim
     |_=>cases hk
   ·cases hk
  ·cases hk
def toDs_len: ∀ {ss:List Sh} {vs:List V} {xs:List D},toDs ss vs=some xs->xs.length=ss.length
 | [],[],xs,h=>by cases h;rfl
 | [],_::_,xs,h=>by cases h
 |_::_,[],xs,h=>by cases h
 |s::ss,v::vs,xs,h=>by
  unfold toDs at h;split at h
  ·rename_i x xs' _ h2;cases h;simp[toDs_len h2]
  ·cases h
def out1_mk {t:TypeId}{v:V}{ds rest:List D}{ts:List TypeId}{vs:List V}(h:out1 P t v=some ds)(h2:mkVs P ts rest=some vs):
  ∃v',mkVs P (t::ts) (ds++rest)=some (v'::vs)/\(∀(w:World) (g g':Gh) (u:Value),g'.Z=g.Z->Rep w g u v->Rep w g' u v')/\ ∃ss,shOf P 9 t=some ss/\ds.length=ss.length:=by
 unfold out1 at h;split at h
 ·rename_i ss cs h1 ha;have hl:=toDs_len h;refine⟨.agg (ds.map .d),?_,fun w g g' u hz hr=> ?_,ss,h1,hl⟩
  ·unfold mkVs;simp only[h1,ha];rw[show decide (ss.length<=(ds++rest).length)=true from decide_eq_true (by simp;omega),show(ds++rest).drop ss.length=rest by rw[<-hl];simp,h2]
   simp only[show(ds++rest).take ss.length=ds by rw[<-hl];simp]
  ·obtain⟨q1,q2⟩:=toDs_spec h;cases hr with
   |agg us _ hl hr=>
    refine .agg us _ (by simp[hl,q1]) fun i u c hu hc=> ?_
    rw[List.getElem?_map,Option.map_eq_some_iff]at hc;obtain⟨x,hx,rfl⟩:=hc;have hi:=(Array.getElem?_eq_some_iff.1 hu).1;have hcs:=List.getElem?_eq_getElem (l:=cs) (i:=i) (by omega)
    obtain⟨s,hs⟩:=q2 i _ x hcs hx;exact .d (by rw[hz];exact toD_rep (hr i u _ hu hcs) hs)
 ·rename_i s h1 ha;split at h
  ·rename_i x hx;cases h;refine⟨.d x,?_,fun w g g' u hz hr=> .d (by rw[hz];exact toD_rep hr hx),[s],h1,rfl⟩
   unfold mkVs;simp only[h1,ha,List.cons_append,List.nil_append,h2]
  ·cases h
 ·cases h
def outL_mk: ∀ {ts:List TypeId} {vs:List V} {ds:List D},outL P ts vs=some ds-> ∃vs',mkVs P ts ds=some vs'/\vs'.length=vs.length/\(∀(i:Nat) v v',vs[i]? =some v->vs'[i]? =some v'-> ∀(w:World) (g g':Gh) (u:Value),g'.Z=g.Z->Rep w g u v->Rep w g' u v')/\
  ∃ss,shR P ts=some ss/\ds.length=ss.length
 | [],[],ds,h=>by cases h;exact⟨[],rfl,rfl,by simp,[],rfl,rfl⟩
 | [],_::_,ds,h=>by cases h
 |_::_,[],ds,h=>by cases h
 |t::ts,v::vs,ds,h=>by
  unfold outL at h;split at h
  ·rename_i a b h1 h2;cases h;obtain⟨vs',e1,l1,r1,ss,q1,q2⟩:=outL_mk h2;obtain⟨v',e2,r2,ss',q3,q4⟩:=out1_mk h1 e1;refine⟨v'::vs',e2,by simp[l1],fun i x x' hx hx'=> ?_,ss'++ss,by simp only[shR,q3,q1],by simp[q2,q4]⟩
   cases i with
   |zero=>simp at hx hx';subst hx;subst hx';exact r2
   |succ i=>exact r1 i x x' (by simpa using hx) (by simpa using hx')
  ·cases h
def outDs_mk {ts:List TypeId}{v:V}{ds:List D}(h:outDs P ts v=some ds): ∃v',mkV P ts ds=some v'/\(∀(w:World) (g g':Gh) (u:Value),g'.Z=g.Z->Rep w g u v->Rep w g' u v')/\ ∃ss,shR P ts=some ss/\ds.length=ss.length:=by
 unfold outDs at h;split at h
 ·obtain⟨vs',e1,l1,r1,ss,q1,q2⟩:=outL_mk h
  match vs',l1 with
  | [v'],_=>exact⟨v',by simp[mkV,e1],r1 0 _ v' rfl rfl,ss,q1,q2⟩
 ·rename_i ts0 vs hne;obtain⟨vs',e1,l1,r1,ss,q1,q2⟩:=outL_mk h;have hlen:=(mkVs_pure e1).2;have hn1:ts.length≠1:=fun h1=>by
   match ts,h1,hne with
   | [t],_,hne=>exact hne t rfl
  refine⟨.tup vs',?_,fun w g g' u hz hr=> ?_,ss,q1,q2⟩
  ·unfold mkV;rw[e1]
   match vs',hlen with
   | [],_=>rfl
   | [x],h1=>exact(hn1 (by simpa using h1.symm)).elim
   |_::_::_,_=>rfl
  ·cases hr with
   |tup us _ hl hr=>
    refine .tup us vs' (by rw[hl,l1]) fun i u c hu hc=> ?_
    have hi:=(Array.getElem?_eq_some_iff.1 hu).1;exact r1 i _ c (List.getElem?_eq_getElem (by omega)) hc w g g' u hz (hr i u _ hu (List.getElem?_eq_getElem (by omega)))
 ·cases h
def mkV_sc {ts:List TypeId}{ds:List D}{v:V}(h:mkV P ts ds=some v){w:World}{g:Gh}{u:Value}(hr:Rep w g u v):Rep w (g.cut 0) u v:=pureT_rep (g:=g) (g':=g.cut 0) rfl (mkV_pure h) hr
def dfrO_some {c:Code}{f:FuncId}{args:Array Operand}(h:dfrO c=some (f,args)): ∃id ts ty pos af,c= .region id #[⟨none, .defer ⟨.value (.func f),args,ts⟩,ty,pos,af,none⟩] false:=by
 unfold dfrO at h;split at h
 ·cases h;exact⟨_,_,_,_,_,rfl⟩
 ·cases h
def recO_some {c:Code}{d:Tmp}(h:recO c=some d): ∃id ts ty pos af,c= .region id #[⟨some d, .call ⟨.builtin .recover, #[],ts⟩,ty,pos,af,none⟩] false:=by
 unfold recO at h;split at h
 ·cases h;exact⟨_,_,_,_,_,rfl⟩
 ·cases h
def Sim.through {En:Ent}(hds:En.ds= []){s1 s2:VSt}{a1 a2:Act}{w1 w2:World}{g1 g2:Gh}{ds:List Deferred}{nr:Bool}(h1:Sim En s1 a1 w1 g1)(h2:Sim ⟨w1,g1,s1.h,[],s1.t.length,ds,nr⟩ s2 a2 w2 g2):
  Sim En s2 ⟨a2.tmps,[]⟩ w2 g2:=by
 obtain⟨k1,k2,k3,k4⟩:=h2.keep;have hk:Keep [] g1 s1.h w1 g2 s2.h w2:=⟨h2.heap,k1,k2,k3,k4⟩;exact⟨h2.heap,h2.size,h2.tmps,by rw[hds];exact .none,h1.step hk (by simp[okM]),h2.len.trans h1.len⟩
def catchT_sound (hE:E.Ok)(hN:EnvN E)(hG:EnvGood P E)(hB:EnvB P E)(hm:P.follows .mixedOrders=true){fn:Func}{R:Ending->World->Prop}{En:Ent}(hds:En.ds= []){f:FuncId}{p:V}{vs:List V}{s:VSt}{a:Act}{w:World}{g:Gh}{r:Exit × VSt}{us:List Value}{u:FrameMode}{v:Value}
  (hk:(catchT sy P Cs (entT sy P Cs 8) f p vs s).run E=some r) (hs:Sim En s ⟨a.tmps,[]⟩ w g) (hu:Reps w g us vs) (hp:Rep w g v p)
  (hmode:(u= .returning/\v= .nilIface)\/u= .panicking [{ v:=v,recovered:=false }])
  (hR: ∀w' g',Sim En r.2 ⟨a.tmps,[]⟩ w' g'-> ∃v,(results fn a.tmps).run P w'= .ok v w'/\R (.returned v) w'):
  CallsDIn Fence.wide 0 P f us.toArray u w (fun e u' w'=>match e with
   | .returned _=>LeavesIn Fence.wide 0 P fn a.tmps R [] (settle u') w'
   | .panicked chain=>LeavesIn Fence.wide 0 P fn a.tmps R [] (raised u' chain) w'
   | .outgrown=>R .outgrown w'):=by
 unfold catchT at hk;split at hk
 ·rename_i fd _ hfd;split at hk
  ·rename_i x y hbody hres;split at hk
   ·rename_i d hrec;rw[forceL_eq]at hk;obtain⟨r1,h1,hk⟩:=run_bind_some hE hk;obtain⟨id,ts,ty,pos,af,rfl⟩:=recO_some hrec;have hEn:=entry_simG (fn:=fd) (args:=vs) [] (nr:=true) (hs:=hs.heap) (hu:=hu);have hEn1:SimE ⟨w,g,s.h,[],(entryS fd vs s.h).t.length,[],true⟩ ⟨(entryS fd vs s.h).t.set d p,s.h⟩ (({ tmps:=us.toArray++Array.replicate (fd.ntmps - us.toArray.size) undef,defers:=[] }:Act).put (some d) v) w:=
     ⟨g,⟨hs.heap,by simpa[Act.put]using hEn.size,fun i u' v' h1' h2'=>by
       simp only[Act.put,Array.getElem?_setIfInBounds]at h1';simp only[List.getElem?_set]at h2'
       by_cases hd:d=i
       ·subst hd;rw[if_pos rfl]at h1' h2';split at h1'
        ·split at h2'
         ·cases h1';cases h2';exact hp
         ·cases h2'
        ·cases h1'
       ·rw[if_neg hd]at h1' h2';exact hEn.tmps i u' v' h1' h2', .none,⟨Gh.Le.refl _ _,Fr.refl _ _,fun _ _ h=> .inl h,fun _ h=> .inl h⟩,by simp⟩⟩
    have hrun:(codeT sy P true (Cs f) (entT sy P Cs 8) g.n [] false 0 y ⟨(entryS fd vs s.h).t.set d p,s.h⟩).run E=some r1:=by rw[hs.heap.n];exact h1
    have fin: ∀(c0:Frame) (cs:List Frame) (u':FrameMode),settle u'= .returning->y.wpSIn Fence.wide 0 P (bodyPostS P fd c0 cs (fun e u' w'=>match e with
        | .returned _=>LeavesIn Fence.wide 0 P fn a.tmps R [] (settle u') w'
        | .panicked chain=>LeavesIn Fence.wide 0 P fn a.tmps R [] (raised u' chain) w'
        | .outgrown=>R .outgrown w')) (({ tmps:=us.toArray++Array.replicate (fd.ntmps - us.toArray.size) undef,defers:=[] }:Act).put (some d) v) ({ c0 with mode:=u' }::cs) w:=by
     intro c0 cs u' hset;refine wpSIn_of_wpIn rfl (wpIn_mono (codeT_sound (ro:=none) (En:=⟨w,g,s.h,[],(entryS fd vs s.h).t.length,[],true⟩) (fun h=>by cases h) hE hN hG (entT_sound hE hN hG hB hm 8) (fun h=>by cases h) hm y 0 _ _ _ r1 hrun hEn1) fun e a' w' hr=> ?_)
     obtain⟨e1,s'⟩:=r1;rcases hr.split with⟨rfl,_⟩|⟨hx,rfl,g',hs'⟩
     ·cases hk
     have hdf:a'.defers= []:=by
      obtain⟨Ds,⟨d1,d2⟩,_⟩:=hs'.defers;rw[d1,d2 rfl];rfl
     have hth: ∀s2,(some (Exit.ret,(⟨s.t,s'.h⟩:VSt))=some r)->s2=r.2->Sim En s2 ⟨a.tmps,[]⟩ w' g':=by
      intro s2 hk e2;cases hk;subst e2;obtain⟨k1,k2,k3,k4⟩:=hs'.keep;have hkp:Keep [] g s.h w g' s'.h w':=⟨hs'.heap,k1,k2,k3,k4⟩;have ho:=hkp.over hs.heap;exact⟨hs'.heap,hs.size,fun i u v h1 h2=>ho.repC_nil (hs.tmps i u v h1 h2),by rw[hds];exact .none,hs.step hkp (by simp[okM]),hs.len⟩
     obtain⟨ur,hres',_⟩:=resV_run hs' (fn:=fd) (v:= .tup []) (by rw[hres];rfl)
     have last: ∀s2,(some (Exit.ret,(⟨s.t,s'.h⟩:VSt))=some r)->s2=r.2->LeavesIn Fence.wide 0 P fn a.tmps R [] (settle u') w':=fun s2 h1 h2=>by
      rw[hset];exact hR w' g' (h2▸hth s2 h1 h2)
     cases e with
     |normal=>exact⟨hdf,u',rfl,_,hres',last _ hk rfl⟩
     |ret=>exact⟨hdf,u',rfl,_,hres',last _ hk rfl⟩
     |_=>cases hk
    refine callsDIn_of_wpSIn hfd hbody trivial fun c0 cs hc0=>wpSIn_seq (wpSIn_region ?_)
    rw[show List.range #[(⟨some d, .call ⟨.builtin .recover, #[],ts⟩,ty,pos,af,none⟩:Oper)].size= [0]from rfl];have hex: ∀(O:Operand->Value),(execOp O (⟨some d, .call ⟨.builtin .recover, #[],ts⟩,ty,pos,af,none⟩:Oper)).run P w= .ok .recover w:=fun O=>rfl
    simp only[wpOpsSIn,List.getElem?_toArray,List.getElem?_cons_zero,Region.wanted,if_true,hex];refine⟨fun _ _=>trivial,?_⟩
    rcases hmode with⟨h1,h2⟩|h1
    ·subst h1 h2;have:recoverD (c0::cs)=none:=by simp only[recoverD,hc0]
     rw[this];have:=fin c0 cs .returning rfl;rw[<-hc0]at this;exact this
    ·subst h1;have:recoverD (c0::cs)=some (v,{ c0 with mode:= .panicking [{ v:=v,recovered:=true }] }::cs):=by simp only[recoverD,hc0]
     rw[this];exact fin c0 cs _ rfl
   ·cases hk
  ·cases hk
 ·cases hk
def dfrT_sound (hE:E.Ok)(hN:EnvN E)(hG:EnvGood P E)(hB:EnvB P E)(hm:P.follows .mixedOrders=true){fn:Func}{R:Ending->World->Prop}{En:Ent}(hds:En.ds= [])(hM:En.M= [])(hnr:En.nr=true){C:CfgT}{r:Exit × VSt}
  (hR: ∀t w' g',Sim En r.2 ⟨t,[]⟩ w' g'->r.1= .ret-> ∃v,(results fn t).run P w'= .ok v w'/\R (.returned v) w'):
  ∀(c:Code) (s:VSt) (a:Act) (w:World),(dfrT sy P Cs C (entT sy P Cs 8) En.g.n c s).run E=some r->SimE En s a w->c.wpIn Fence.wide 0 P (bodyPostDIn Fence.wide 0 P fn R) a w:=by
 intro c
 induction c with
 |seq x y ihx ihy=>
  intro s a w hk hs;unfold dfrT at hk;split at hk
  ·rename_i f args hd;obtain⟨id,ts,ty,pos,af,rfl⟩:=dfrO_some hd;obtain⟨r1,h1,hk⟩:=run_bind_some hE hk;obtain⟨g,hs⟩:=hs;have hdf:a.defers= []:=by
    obtain⟨Ds,⟨d1,d2⟩,_⟩:=hs.defers;rw[d1,d2 hnr,hds];rfl
   refine wpIn_seq (wpIn_region ?_);rw[show List.range #[(⟨none, .defer ⟨.value (.func f),args,ts⟩,ty,pos,af,none⟩:Oper)].size= [0]from rfl]
   let d:Deferred:= { target:= .fn (.func f) #[],args:=args.map a.eval }
   have hex:((⟨none, .defer ⟨.value (.func f),args,ts⟩,ty,pos,af,none⟩:Oper).semAt (Fence.wide).round a.eval).run P w= .ok (.defer d) w:=by
    have e:(⟨none, .defer ⟨.value (.func f),args,ts⟩,ty,pos,af,none⟩:Oper).semAt (Fence.wide).round a.eval=execOp a.eval ⟨none, .defer ⟨.value (.func f),args,ts⟩,ty,pos,af,none⟩:=Oper.semAt_none _ _;rw[e];simp[execOp,resolve,Act.eval,Deferred.ofValue,Sem.run_pure,d]
   simp only[wpOpsIn,List.getElem?_toArray,List.getElem?_cons_zero,Region.wanted,if_true,Oper.wpIn,hex,Oper.uponIn_defer];refine⟨fun _ _=>trivial,?_⟩
   have hs1:SimE ⟨w,g,s.h,[],s.t.length,[d],true⟩ s { a with defers:=[d] } w:=
    ⟨g,hs.heap,hs.size,hs.tmps,⟨[],⟨rfl,fun _=>rfl⟩,List.nodup_nil,by simp⟩,⟨Gh.Le.refl _ _,Fr.refl _ _,fun _ _ h=> .inl h,fun _ h=> .inl h⟩,rfl⟩
   have hargs:Reps w g (args.toList.map a.eval) (args.toList.map s.get):=⟨by simp,fun i u v h1 h2=>by
    rw[List.getElem?_map,Option.map_eq_some_iff]at h1 h2;obtain⟨q,hq,rfl⟩:=h1;obtain⟨q',hq',rfl⟩:=h2;rw[hq]at hq';cases hq';exact hs.get q⟩
   have h1':(codeT sy P true C (entT sy P Cs 8) g.n [] false 0 y s).run E=some r1:=by rw[hs.heap.n];exact h1
   rw[hdf];refine wpIn_mono (codeT_sound (ro:=none) (En:=⟨w,g,s.h,[],s.t.length,[d],true⟩) (fun h=>by cases h) hE hN hG (entT_sound hE hN hG hB hm 8) (fun h=>by cases h) hm y 0 _ _ _ r1 h1' hs1) fun e a' w' hr=> ?_
   have key: ∀(s2:VSt) (g2:Gh) (u:FrameMode) (p:V) (v:Value),Sim ⟨w,g,s.h,[],s.t.length,[d],true⟩ s2 a' w' g2->Rep w' g2 v p->u≠ .run->
       ((u= .returning/\v= .nilIface)\/u= .panicking [{ v:=v,recovered:=false }])->(catchT sy P Cs (entT sy P Cs 8) f p (args.toList.map s.get) s2).run E=some r->LeavesIn Fence.wide 0 P fn a'.tmps R a'.defers u w':=by
    intro s2 g2 u p v hs2 hp hu hmode hk;have hdf2:a'.defers= [d]:=by
     obtain⟨Ds,⟨d1,d2⟩,_⟩:=hs2.defers;rw[d1,d2 rfl];rfl
    rw[hdf2];obtain⟨k1,k2,k3,k4⟩:=hs2.keep;have hkp:Keep [] g s.h w g2 s2.h w':=⟨hs2.heap,k1,k2,k3,k4⟩;have ho:=hkp.over hs.heap;have hargs2:Reps w' g2 (args.toList.map a.eval) (args.toList.map s.get):=⟨hargs.1,fun i u v h1 h2=>ho.repC_nil (hargs.2 i u v h1 h2)⟩
    have hgf:goodF P f=true:=by
     unfold catchT at hk;split at hk
     ·assumption
     ·cases hk
    have hinv:(invoke (.fn (.func f) #[]) (args.map a.eval)).run P w'= .ok (.enter f (args.toList.map a.eval).toArray) w':=by
     rw[show(args.toList.map a.eval).toArray=args.map a.eval++ #[] by apply Array.ext';simp]
     exact run_callFunc hgf _ _
    refine leavesIn_cons hu (fun h=>by simp[Fence.wide]at h) hinv (fun _ _=>trivial) ?_
    have hret:r.1= .ret:=by
     unfold catchT at hk;split at hk
     ·split at hk
      ·split at hk
       ·rw[forceL_eq]at hk;obtain⟨r1,_,hk⟩:=run_bind_some hE hk;split at hk<;>cases hk<;>rfl
       ·cases hk
      ·cases hk
     ·cases hk
    exact(catchT_sound hE hN hG hB hm hds hk (hs.through hds hs2) hargs2 hp hmode fun w2 g3 h3=>hR _ _ _ h3 hret).mono fun e u2 w2 h=>by
     cases e<;>exact h
   obtain⟨e1,s'⟩:=r1;rcases hr.split with⟨rfl,⟨u,rfl⟩,p,t,ht,hpan⟩|⟨hx,rfl,g',hs'⟩
   ·obtain⟨g',u',he,hru,hs2⟩:=hpan;cases he;have hk:Tree.run E (match s'.t with
     |p::t=>catchT sy P Cs (entT sy P Cs 8) f p (args.toList.map s.get) ⟨t,s'.h⟩
     | []=> .fail)=some r:=hk
    rw[ht]at hk;exact key _ g' _ p u hs2 hru (by simp) (.inr rfl) hk
   ·cases e with
    |normal=>exact key s' g' _ _ .nilIface hs' .ifn0 (by simp) (.inl ⟨rfl,rfl⟩) hk
    |ret=>exact key s' g' _ _ .nilIface hs' .ifn0 (by simp) (.inl ⟨rfl,rfl⟩) hk
    |outgrown=>exact(hx rfl).elim
    |_=>cases hk
  ·obtain⟨r1,h1,hk⟩:=run_bind_some hE hk;refine wpIn_seq (wpIn_mono (codeT_sound (inR:=true) (ro:=none) (En:=En) (fun h=>by cases h) hE hN hG (entT_sound hE hN hG hB hm 8) (fun h=>by cases h) hm x 0 _ _ _ r1 (by rw[hM];exact h1) hs) fun e a' w' hr=> ?_)
   obtain⟨e1,s'⟩:=r1;rcases hr.split with⟨rfl,_⟩|⟨hx,rfl,hs'⟩
   ·cases hk
   cases e with
   |normal=>exact ihy s' a' w' hk hs'
   |_=>cases hk
 |_=>intro s a w hk;cases hk
def funT_sound (hE:E.Ok)(hN:EnvN E)(hG:EnvGood P E)(hB:EnvB P E)(hm:P.follows .mixedOrders=true){f:FuncId}{args:List V}{p:PRes}(hsig: ∀fn,P.funcs[f]? =some fn->goodF P f=true)(hk:(funT sy P Cs f args).run E=some p):PGood P f args p:=by
 unfold funT at hk;split at hk
 ·rename_i fn hf;split at hk
  ·rename_i c hb;rw[forceL_eq]at hk;obtain⟨r1,h1,hk⟩:=run_bind_some hE hk;have hsg:sigP P f=some fn.resultTypes.toList:=by
    unfold sigP;rw[hsig fn hf,hf]
   have run: ∀(g:Gh) (w:World) (us:List Value),SimH g [] w->Reps w g us args->
       Calls P f us.toArray w fun e w'=> ∃a' g',(r1.1= .normal\/r1.1= .ret)/\Sim ⟨w,g,[],[],(entryS fn args []).t.length,[],false⟩ r1.2 a' w' g'/\ ∃v,(results fn a'.tmps).run P w'= .ok v w'/\e= .returned v:=by
    intro g w us hs hu;unfold bodyT at h1;split at h1
    rotate_left
    ·have hEn:=entry_simG (fn:=fn) [] (nr:=true) (hs:=hs) (hu:=hu);refine callsIn_wide.1 (callsIn_of_wp_defers (F:=Fence.wide) (n:=0) hf hb trivial ?_);refine dfrT_sound (En:=⟨w,g,[],[],(entryS fn args []).t.length,[],true⟩) hE hN hG hB hm rfl rfl rfl (r:=r1) (fun t w' g' hs' he=> ?_) c _ _ _ (by rw[hs.n];exact h1) ⟨g,hEn⟩
     obtain⟨e,s'⟩:=r1;have he:e= .ret:=he;subst he;have hq: ∃v,resV P s' fn.results.toList=some v:=by
      cases hv:resV P s' fn.results.toList with
      |some v=>exact⟨v,rfl⟩
      |none=>simp only[endP,hv]at hk;cases hk
     obtain⟨v,hv⟩:=hq;obtain⟨u,hu,_⟩:=resV_run hs' hv;exact⟨u,hu,⟨t,[]⟩,g', .inr rfl,⟨hs'.heap,hs'.size,hs'.tmps, .none,hs'.keep,hs'.len⟩,u,hu,rfl⟩
    refine callsIn_wide.1 (callsIn_of_wp_marks (F:=Fence.wide) (n:=0) hf hb trivial ?_);have hEn:=entry_sim (fn:=fn) [] (hs:=hs) (hu:=hu);have h1':(codeT sy P false (Cs f) (entT sy P Cs 8) g.n [] false 0 c (entryS fn args [])).run E=some r1:=by rw[hs.n];exact h1
    refine wpIn_mono (codeT_sound (ro:=none) (En:=⟨w,g,[],[],(entryS fn args []).t.length,[],false⟩) (fun _=>rfl) hE hN hG (entT_sound hE hN hG hB hm 8) (fun _=>rfl) hm c 0 _ _ _ r1 h1' hEn) fun e a' w' hr=> ?_
    obtain⟨e1,s'⟩:=r1;obtain⟨rfl,_⟩|⟨hx,rfl,g',hs'⟩:=hr.split
    ·cases hk
    have fin: ∀(e:Exit),(e= .normal\/e= .ret)->(endP P fn (e,s')).run E=some p->LeavesInM Fence.wide 0 P fn a'.tmps (fun e0 w'=> ∃a' g',(e= .normal\/e= .ret)/\Sim ⟨w,g,[],[],(entryS fn args []).t.length,[],false⟩ s' a' w' g'/\ ∃v',(results fn a'.tmps).run P w'= .ok v' w'/\e0= .returned v') a'.defers .returning w':=by
     intro e he hq;have hq: ∃v,resV P s' fn.results.toList=some v:=by
      cases hv:resV P s' fn.results.toList with
      |some v=>exact⟨v,rfl⟩
      |none=>rcases he with rfl|rfl<;>(simp only[endP,hv]at hq;cases hq)
     obtain⟨v,hv⟩:=hq;refine leaves_sim rfl rfl hs' fun a2 w2 ha2 hs2=> ?_
     rw[<-ha2];obtain⟨u,hu,_⟩:=resV_run hs2 hv;exact⟨u,hu,a2,g',he,hs2,u,hu,rfl⟩
    cases e with
    |normal=>exact fin _ (.inl rfl) hk
    |ret=>exact fin _ (.inr rfl) hk
    |_=>cases hk
   obtain⟨e,s'⟩:=r1;have hk:Tree.run E (match resV P s' fn.results.toList with
    |some v=>match v,fn.resultTypes.toList with
     | .own b,[t]=>match s'.h[b]?,elO P t with
       |some (.arr e sz rows),some (e',sz')=>match decide (e'=e/\sz'=sz)with
        |true=> .ret (.own e sz rows)
        |false=> .fail
       |_,_=> .fail
     |v,ts=>match resV P (s'.frz v.ownsT) fn.results.toList with
      |some v'=>match outDs P ts v' with
       |some ds=> .ret (.val ds)
       |none=> .fail
      |none=> .fail
    |none=> .fail)=some p:=by
    cases e with
    |normal=>exact hk
    |ret=>exact hk
    |_=>cases hk
   split at hk
   ·rename_i v hv;split at hk
    ·rename_i b t hts;split at hk
     ·rename_i ee sze rows e' sz' hbx hel;split at hk
      ·rename_i hd;obtain⟨e3,e4⟩:=of_decide_eq_true hd;rw[e3,e4]at hel;clear hd e3 e4 e' sz';cases hk;refine⟨t,by rw[hsg,hts],hel,fun g w us hs hu=>(run g w us hs hu).mono ?_⟩
       rintro e0 w' ⟨a',g',_,hs',v,hres,rfl⟩
       obtain⟨u,hu',hr⟩:=resV_run hs' hv;rw[hres]at hu';cases hu';obtain⟨k1,k2,k3,k4⟩:=hs'.keep;have hkeep:Keep [] g [] w g' s'.h w':=⟨hs'.heap,k1,k2,k3,k4⟩;have hbl:b < s'.h.length:=(List.getElem?_eq_some_iff.1 hbx).1;have hge:s'.h.getD b .gone= .arr ee sze rows:=by rw[List.getD_eq_getElem?_getD,hbx];rfl
       have hL:reachOK s'.h [b] [.own b]=true:=by
        simp only[reachOK,nodupB,List.all_cons,List.all_nil,hge,Bool.and_true,V.inLs,V.inB,Box.inB];simp[hbl]
       obtain⟨g2,hk2,hrep⟩:=hkeep.tell hs.n hL (fun i hi=>by simp at hi)
       refine⟨v,g2,rfl,?_,?_⟩
       ·have:=hrep v _ hr (by simp[V.inB])
        simpa[V.ren,tau,List.idxOf?]using this
       ·have e2:smallH s'.h [b]= [.arr ee sze rows]:=by simp only[smallH,List.map_cons,List.map_nil,hge,Box.ren]
        rw[e2]at hk2;exact hk2
      ·cases hk
     ·cases hk
    ·rename_i v0 ts0 hne;split at hk
     ·rename_i v' hv';obtain⟨L,hL⟩: ∃L,resV P (s'.frz L) fn.results.toList=some v':=⟨_,hv'⟩
      split at hk
      ·rename_i ds hds;cases hk;obtain⟨v2,m1,m2,ss,m3,m4⟩:=outDs_mk hds;refine⟨_,ss,v2,hsg,m3,m4,m1,fun g w us hs hu=>(run g w us hs hu).mono ?_⟩
       rintro e0 w' ⟨a',g',_,hs',u0,hres,rfl⟩
       obtain⟨g1,hs1⟩:=SimE.frzs (bs:=L) ⟨g',hs'⟩;obtain⟨u,hu',hr⟩:=resV_run hs1 hL;rw[hres]at hu';cases hu';obtain⟨k1,k2,k3,k4⟩:=hs1.keep;have hkeep:Keep [] g [] w g1 (s'.frz L).h w':=⟨hs1.heap,k1,k2,k3,k4⟩;have hn:g.n=0:=hs.n;exact⟨u0,g1.cut 0,rfl,mkV_sc m1 (m2 w' g1 g1 u0 rfl hr),hkeep.cutN (n:=0) (by omega) (by omega) rfl⟩
      ·cases hk
     ·cases hk
   ·cases hk
  ·cases hk
 ·cases hk
def Keep.less {M:List Nat}{g g':Gh}{h h' ys:List Box}{w w':World}(hk:Keep M g h w g' h' w')(hn:g.n<=ys.length)
  (hw: ∀(i:Nat) y,ys[i]? =some y-> ∃x,h'[i]? =some x/\WkBY ys.length (fun _=>none) x y):Keep M g h w (g'.cut ys.length) ys w':=by
 have hown: ∀k,Owned (g'.cut ys.length) ys k->Owned g' h' k:=by
  rintro k ⟨b,y,hy,hat⟩
  obtain⟨x,hx,hw⟩:=hw b y hy;exact⟨b,x,hx,hw.2 g' b k hat⟩
 refine⟨⟨rfl,fun b y hy=> ?_,fun b c y z k hb hc hat hat'=> ?_,fun k o hk' hz=>hk.heap.zsep k o (hown k hk') hz,hk.heap.zlt,hk.heap.tab⟩,⟨hk.le.Z,hn,hk.le.blk,hk.le.val,hk.le.cd⟩,hk.fr,hk.znew,fun k hk'=>hk.own k (hown k hk')⟩
 ·obtain⟨x,hx,hw⟩:=hw b y hy;exact hw.1 w' g' b (fun _ _ h=>by cases h) (hk.heap.rep b x hx)
 ·obtain⟨x,hx,hw1⟩:=hw b y hb;obtain⟨x',hx',hw2⟩:=hw c z hc;exact hk.heap.sep b c x x' k hx hx' (hw1.2 g' b k hat) (hw2.2 g' c k hat')
def bres1_run {E:Env}(hE:E.Ok){ss:List Sh}{mk:List D->Option V}{sks:List BSk}{ds:List D}{j:Nat}{q:V × List Box}(h:(bres1 sy ss mk sks ds j).run E=some q):
  ∃xs k,xs.length=ss.length/\(∀(i:Nat) x,xs[i]? =some x->ds[j+i]? =some x)/\mk xs=some q.1/\(openBL sy sks ds (j+ss.length)).run E=some (q.2,k):=by
 unfold bres1 at h;obtain⟨xs,h1,h⟩:=run_bind_some hE h;obtain⟨q1,q2⟩:=openRT_run hE h1;split at h
 ·rename_i v hv;obtain⟨q',h2,h⟩:=run_bind_some hE h;cases h;exact⟨xs,q'.2,q1,q2,hv,h2⟩
 ·cases h
def part_eq {xs ds full:List D}{j:Nat}(hl:xs.length=ds.length)(hx: ∀(i:Nat) x,xs[i]? =some x->full[j+i]? =some x)(hd:At full j ds):xs=ds:=by
 apply List.ext_getElem?;intro i;cases hi:xs[i]? with
 |none=>
  have:=List.getElem?_eq_none_iff.1 hi;exact(List.getElem?_eq_none_iff.2 (by omega)).symm
 |some x=>
  have h1:=hx i x hi;have hlt:i < ds.length:=by rw[<-hl];exact(List.getElem?_eq_some_iff.1 hi).1
  have h2:=hd i ds[i] (List.getElem?_eq_getElem hlt);rw[List.getElem?_eq_getElem hlt,<-h1,h2]
def mkVs_flatV: ∀ {ts:List TypeId} {ds:List D} {vs:List V},mkVs P ts ds=some vs-> ∀v∈vs,(∃cs,v= .agg cs)\/ ∃d,v= .d d
 | [],[],vs,h=>by cases h;simp
 | [],_::_,vs,h=>by cases h
 |t::ts,ds,vs,h=>by
  unfold mkVs at h;split at h
  ·split at h
   ·rename_i vs' _ h2;cases h;intro v hv;rcases List.mem_cons.1 hv with rfl|hv
    ·exact .inl ⟨_,rfl⟩
    ·exact mkVs_flatV h2 v hv
   ·cases h
  ·split at h
   ·split at h
    ·rename_i vs' h2;cases h;intro v hv;rcases List.mem_cons.1 hv with rfl|hv
     ·exact .inr ⟨_,rfl⟩
     ·exact mkVs_flatV h2 v hv
    ·cases h
   ·cases h
  ·cases h
def mkV_pan {ts:List TypeId}{ds:List D}{v:V}(h:mkV P ts ds=some v):panOf v=none:=by
 cases hp:panOf v with
 |none=>rfl
 |some p=>
  exfalso;have e:=panOf_spec hp;subst e;unfold mkV at h;split at h
  ·rename_i v hv;cases h;rcases mkVs_flatV hv _ List.mem_cons_self with⟨cs,h⟩|⟨d,h⟩<;>cases h
  ·rename_i vs _ hv;cases h;rcases mkVs_flatV hv _ List.mem_cons_self with⟨cs,h⟩|⟨d,h⟩<;>cases h
  ·cases h
def At.self (a b c:List D):At (a++b++c) a.length b:=fun i x hx=>by
 have hi:=(List.getElem?_eq_some_iff.1 hx).1;rw[List.append_assoc,List.getElem?_append_right (by omega),Nat.add_sub_cancel_left,List.getElem?_append_left hi];exact hx
def At.last (a b c:List D):At (a++b++c) (a.length+b.length) c:=fun i x hx=>by
 rw[List.getElem?_append_right (by simp only[List.length_append];omega),List.length_append,Nat.add_sub_cancel_left];exact hx
def funB_sound (hE:E.Ok)(hN:EnvN E)(hG:EnvGood P E)(hB:EnvB P E)(hm:P.follows .mixedOrders=true){f:FuncId}{pn:Nat}{args:List V}{hs:List Box}{p:PRes}(hk:(funB sy P Cs f pn args hs).run E=some p):BGood P f pn args hs p:=by
 unfold funB at hk;split at hk
 ·rename_i fn hf hyb;split at hk
  ·rename_i c hb;rw[forceL_eq]at hk;obtain⟨r1,h1,hk⟩:=run_bind_some hE hk;intro ts E' q hE' hsig hq;have hts:ts=fn.resultTypes.toList:=by
    have hg:=sigP_some hsig;unfold sigP at hsig;rw[hg,hf]at hsig;exact(Option.some.inj hsig).symm
   have hok: ∀x∈hs.map Box.sk,x.okY (fun _=>none):=fun x hx=>by
    have hy:=List.all_eq_true.1 hyb x hx;cases x with
    |cells k l=>exact okYL_none l hy
    |_=>exact trivial
   refine HEnd.of fun g w us hs' hu=> ?_
   have hgn:g.n=hs.length:=hs'.n;have weak: ∀ {sks:List BSk} {g2:Gh} {h2 ys:List Box} {w2:World} {xs full:List D} {j k:Nat},sks.length=hs.length->(∀x∈sks,x.okY (fun _=>none))->Keep (arrsOf hs) g hs w g2 h2 w2->BSk.fitL hs.length sks h2=some xs->At full j xs->
       (openBL sy sks full j).run E'=some (ys,k)->Keep (arrsOf hs) g hs w (g2.cut ys.length) ys w2:=by
    intro sks g2 h2 ys w2 xs full j k hsl hok hk hfit hat hop;obtain⟨ys',e2,l2,l3,w2'⟩:=bfit_openL hE' (n:=hs.length) (c:=fun _=>none) sks hfit hok hat
    rw[e2]at hop;cases hop;have hl:ys.length=hs.length:=by rw[l2,hsl]
    exact hk.less (by omega) (by rw[hl];exact w2')
   refine callsIn_wide.1 (callsIn_of_wp_marks (F:=Fence.wide) (n:=0) hf hb trivial ?_);have hEn:=entry_sim (fn:=fn) (arrsOf hs) (hs:=hs') (hu:=hu);have h1':(codeT sy P false (Cs f) (entT sy P Cs 8) g.n (arrsOf hs) false 0 c (entryS fn args hs)).run E=some r1:=by rw[hs'.n];exact h1
   refine wpIn_mono (codeT_sound (ro:=none) (En:=⟨w,g,hs,arrsOf hs,(entryS fn args hs).t.length,[],false⟩) (fun _=>rfl) hE hN hG (entT_sound hE hN hG hB hm 8) (fun _=>rfl) hm c 0 _ _ _ r1 h1' hEn) fun e a' w' hr=> ?_
   obtain⟨e1,s'⟩:=r1;rcases hr.split with⟨rfl,⟨u,rfl⟩,p0,t,ht,hpan⟩|⟨hx,rfl,g',hs2⟩
   ·obtain⟨g',u',he,hru,hs2⟩:=hpan;cases he;refine leaves_simP rfl rfl hs2 hru fun a2 w2 ha2 hs3 hru=> ?_
    obtain⟨k1,k2,k3,k4⟩:=hs3.keep;have hkeep:Keep (arrsOf hs) g hs w g' s'.h w2:=⟨hs3.heap,k1,k2,fun b o hz=>(k3 b o hz),k4⟩
    cases pn with
    |zero=>cases hk
    |succ m=>
     unfold endB at hk;simp only[ht]at hk;cases p0 with
     |ifc tt cs=>
      simp only at hk;split at hk
      ·rename_i ps hd hps;have hd:=of_decide_eq_true hd;subst hd;split at hk
       ·rename_i ds xs hfit hbx;cases hk;obtain⟨rfl,hl,_⟩:=fitDs_same hfit;unfold bresT at hq;split at hq
        ·rename_i ss hss;simp only[hps,Tree.run,PRes.leaves,flagD]at hq;have e0:opB (sy.cell ([D.bool true]++ds++xs) 0)=some true:=rfl;rw[e0]at hq;simp only[Option.bind_some]at hq;obtain⟨xs0,k0,l0,x0,mk0,op0⟩:=bres1_run hE' hq;have e1:xs0=ds:=part_eq (by omega) x0 (At.self [D.bool true] ds xs)
         subst e1;have e2:q.1=panV (.ifc (m+1) xs0):=(Option.some.inj mk0).symm;have hw:=weak (List.length_map _) hok hkeep hbx (At.last [D.bool true] xs0 xs) (by rw[hl];exact op0)
         refine⟨_,?_,hw⟩;rw[e2];show PanV _ _ _ _;refine⟨_,rfl,?_⟩;cases hru with
         |ifc _ us _ hl' h'=>exact .ifc _ us _ hl' h'
        ·cases hq
       ·cases hk
      ·cases hk
     |_=>cases hk
   ·have fin: ∀(e:Exit),(e= .normal\/e= .ret)->(endB P fn pn args hs (e,s')).run E=some p->LeavesInM Fence.wide 0 P fn a'.tmps (fun e w'=> ∃g',EndR q.1 e w' g'/\Keep (arrsOf hs) g hs w g' q.2 w') a'.defers .returning w':=by
     intro e he hk;have hk:Tree.run E (match resV P s' fn.results.toList with
      |some v0=>match resV P (s'.frz v0.ownsT) fn.results.toList with
       |some v=>match outDs P fn.resultTypes.toList v,fitB P args hs (s'.frz v0.ownsT).h pn with
        |some ds,some (fl,xs)=> .ret (.val (fl++ds++xs))
        |_,_=> .fail
       |none=> .fail
      |none=> .fail)=some p:=by rcases he with rfl|rfl<;>exact hk
     refine leaves_sim rfl rfl hs2 fun a2 w2 ha2 hs3=> ?_
     rw[<-ha2];split at hk
     ·rename_i v0 hv0;split at hk
      ·rename_i v hv;split at hk
       ·rename_i ds fl xs hds hbx;cases hk;obtain⟨g1,hs4⟩:=SimE.frzs (bs:=v0.ownsT) ⟨g',hs3⟩;obtain⟨k1,k2,k3,k4⟩:=hs4.keep;have hkeep:Keep (arrsOf hs) g hs w g1 (s'.frz v0.ownsT).h w2:=⟨hs4.heap,k1,k2,fun b o hz=>(k3 b o hz),k4⟩
        obtain⟨u,hu',hr⟩:=resV_run hs4 hv;obtain⟨v2,m1,m2,ss,m3,m4⟩:=outDs_mk hds;rw[<-hts]at m1 m3;have key: ∃sks k0,sks.length=hs.length/\(∀x∈sks,x.okY (fun _=>none))/\BSk.fitL hs.length sks (s'.frz v0.ownsT).h=some xs/\mkV P ts ds=some q.1/\(openBL sy sks (fl++ds++xs) (fl.length+ds.length)).run E'=some (q.2,k0):=by
         unfold bresT at hq;rw[m3]at hq;unfold fitB at hbx;have step: ∀ {sks:List BSk},(bres1 sy ss (mkV P ts) sks (fl++ds++xs) fl.length).run E'=some q-> ∃k0,mkV P ts ds=some q.1/\(openBL sy sks (fl++ds++xs) (fl.length+ds.length)).run E'=some (q.2,k0):=by
          intro sks hq;obtain⟨xs0,k0,l0,x0,mk0,op0⟩:=bres1_run hE' hq;have e1:xs0=ds:=part_eq (by omega) x0 (At.self fl ds xs)
          subst e1;exact⟨k0,mk0,by rw[m4];exact op0⟩
         cases pn with
         |zero=>
          simp only at hq hbx;cases ha:altSk P args hs with
          |none=>
           rw[ha]at hq hbx;simp only at hq hbx;split at hbx
           ·rename_i xs' hx';cases hbx;obtain⟨k0,h1,h2⟩:=step hq;exact⟨_,k0,List.length_map _,hok,hx',h1,h2⟩
           ·cases hbx
          |some sk2=>
           rw[ha]at hq hbx;simp only at hq hbx;split at hbx
           ·rename_i xs' hx';cases hbx;simp only[Tree.run,PRes.leaves]at hq;have e0:opB (sy.cell ([D.bool false]++ds++xs) 0)=some false:=rfl;rw[e0]at hq;simp only[Option.bind_some]at hq;obtain⟨k0,h1,h2⟩:=step hq;exact⟨_,k0,List.length_map _,hok,hx',h1,h2⟩
           ·split at hbx
            ·rename_i xs' hx' hyb2;cases hbx;simp only[Tree.run,PRes.leaves]at hq;have e0:opB (sy.cell ([D.bool true]++ds++xs) 0)=some true:=rfl;rw[e0]at hq;simp only[Option.bind_some]at hq;obtain⟨k0,h1,h2⟩:=step hq;refine⟨_,k0,?_,fun x hx=> ?_,hx',h1,h2⟩
             ·unfold altSk at ha;split at ha
              ·split at ha
               ·cases ha;simp
               ·cases ha
              ·cases ha
             ·have hy:=List.all_eq_true.1 hyb2 x hx;cases x with
              |cells k l=>exact okYL_none l hy
              |_=>exact trivial
            ·cases hbx
         |succ m=>
          simp only at hq hbx;split at hbx
          ·rename_i xs' hx';cases hbx;split at hq
           ·simp only[Tree.run,PRes.leaves,flagD]at hq;have e0:opB (sy.cell ([D.bool false]++ds++xs) 0)=some false:=rfl;rw[e0]at hq;simp only[Option.bind_some]at hq;obtain⟨k0,h1,h2⟩:=step hq;exact⟨_,k0,List.length_map _,hok,hx',h1,h2⟩
           ·cases hq
          ·cases hbx
        obtain⟨sks,k0,hsl,hsok,hsfit,hmk,hop⟩:=key;have hw:=weak hsl hsok hkeep hsfit (At.last fl ds xs) hop;refine⟨u,hu',_,?_,hw⟩;unfold EndR;rw[mkV_pan hmk];rw[m1]at hmk;refine⟨u,rfl,?_⟩;rw[<-Option.some.inj hmk];exact m2 w2 g1 _ u rfl hr
       ·cases hk
      ·cases hk
     ·cases hk
    cases e with
    |normal=>exact fin _ (.inl rfl) hk
    |ret=>exact fin _ (.inr rfl) hk
    |outgrown=>exact(hx rfl).elim
    |_=>cases hk
  ·cases hk
 ·cases hk
def KGood (P:Program)(K:FuncId->List V->Option PRes):Prop:=KV P/\(∀f args p,goodF P f=true->args.all V.pureB=true->K f args=some p->PGood P f args p)/\ ∀f key pn as hs p,goodF P (bkey f)=false->decB key=some (pn,as,hs)->K (bkey f) key=some p->BGood P f pn as hs p
def callN (P:Program)(Cs:FuncId->CfgT)(K:FuncId->List V->Option PRes):Nat->FuncId->List V->Option PRes
 |0,_,_=>none
 |n+1,f,args=>match K f args with
  |some p=>some p
  |none=>match goodF P f with
   |true=>(funT sy P Cs f args).run (envN n (callN P Cs K n))
   |false=>match decB args,isKey f with
    |some (pn,as,hs),true=>(funB sy P Cs (unkey f) pn as hs).run (envN n (callN P Cs K n))
    |_,_=>none
def bkey_sub (f:Nat):unkey (bkey f)=f:=by unfold bkey unkey;omega
def bkey_le (f:Nat):isKey (bkey f)=true:=decide_eq_true (by unfold bkey;omega)
def callN_at {K:FuncId->List V->Option PRes}{n:Nat}{f k:FuncId}{key as:List V}{pn:Nat}{hs:List Box}(h2:isKey k=true)(h1:unkey k=f)(hg:goodF P k=false)(hd:decB key=some (pn,as,hs))(hk:K k key=none):
  callN P Cs K (n+1) k key=(funB sy P Cs f pn as hs).run (envN n (callN P Cs K n)):=by
 subst h1;rw[callN];rw[hk];simp only;rw[hg];simp only;rw[hd,h2]
def callN_known {K:FuncId->List V->Option PRes}{n:Nat}{k:FuncId}{key:List V}{p:PRes}(hk:K k key=some p):callN P Cs K (n+1) k key=some p:=by
 rw[callN];rw[hk]
def callN_key {K:FuncId->List V->Option PRes}{n:Nat}{f:FuncId}{key as:List V}{pn:Nat}{hs:List Box}(hg:goodF P (bkey f)=false)(hd:decB key=some (pn,as,hs))(hk:K (bkey f) key=none):
  callN P Cs K (n+1) (bkey f) key=(funB sy P Cs f pn as hs).run (envN n (callN P Cs K n)):=callN_at (bkey_le f) (bkey_sub f) hg hd hk
variable {K : FuncId -> List V -> Option PRes}
def callN_good (hm:P.follows .mixedOrders=true)(hK:KGood P K): ∀n m,EnvGood P (envN m (callN P Cs K n))/\EnvB P (envN m (callN P Cs K n))
 |0,m=>⟨⟨hK.1,fun f args p _ _ h=>by cases h⟩,fun f key pn as hs p _ _ h=>by cases h⟩
 |n+1,m=>by
  have ih:=callN_good hm hK n n;refine⟨⟨hK.1,fun f args p hg hp h=> ?_⟩,fun f key pn as hs p hg hd h=> ?_⟩
  ·have h:callN P Cs K (n+1) f args=some p:=h;unfold callN at h;split at h
   ·rename_i hk;cases h;exact hK.2.1 f args _ hg hp hk
   ·rw[hg]at h;exact funT_sound (envN_ok n _) ⟨n,fun b ds=>rfl⟩ ih.1 ih.2 hm (fun _ _=>hg) h
  ·have h:callN P Cs K (n+1) (bkey f) key=some p:=h;cases hk:K (bkey f) key with
   |some p'=>
    rw[callN_known hk]at h;cases h;exact hK.2.2 f key pn as hs _ hg hd hk
   |none=>
    rw[callN_key hg hd hk]at h;exact funB_sound (envN_ok n _) ⟨n,fun b ds=>rfl⟩ ih.1 ih.2 hm h
open Classical in
noncomputable def callF (P:Program) (Cs:FuncId->CfgT) (K:FuncId->List V->Option PRes) (f:FuncId) (args:List V):Option PRes:=
 if h: ∃p N,∀n,N<=n->callN P Cs K n f args=some p then some (Classical.choose h)else none
def callF_some {f:FuncId}{args:List V}{p:PRes}:callF P Cs K f args=some p↔ ∃N,∀n,N<=n->callN P Cs K n f args=some p:=by
 unfold callF;constructor
 ·intro h;split at h
  ·rename_i hx;cases h;exact Classical.choose_spec hx
  ·cases h
 ·rintro⟨N,h⟩
  have hx: ∃p N,∀n,N<=n->callN P Cs K n f args=some p:=⟨p,N,h⟩
  rw[dif_pos hx];obtain⟨N',h'⟩:=Classical.choose_spec hx;have h1:=h (max N N') (by omega)
  have h2:=h' (max N N') (by omega)
  rw[h1]at h2;exact h2.symm
def callF_of {f:FuncId}{args:List V}{p:PRes}(hg:goodF P f=true)(hk:K f args=none)(h:(funT sy P Cs f args).run (envF (callF P Cs K))=some p):callF P Cs K f args=some p:=by
 obtain⟨N,hN⟩:=run_evl (cN:=callN P Cs K) (fun f args p h=>callF_some.1 h) _ p h
 refine callF_some.2 ⟨N+1,fun n hn=> ?_⟩
 obtain⟨n,rfl⟩: ∃k,n=k+1:=⟨n - 1,by omega⟩
 simp only[callN,hk,hg];exact hN n n (by omega) (by omega)
def callF_ofB {f:FuncId}{pn:Nat}{as key:List V}{hs:List Box}{p:PRes}(hg:goodF P (bkey f)=false)(hk:K (bkey f) key=none)(hd:decB key=some (pn,as,hs))(h:(funB sy P Cs f pn as hs).run (envF (callF P Cs K))=some p):callF P Cs K (bkey f) key=some p:=by
 obtain⟨N,hN⟩:=run_evl (cN:=callN P Cs K) (fun f args p h=>callF_some.1 h) _ p h
 refine callF_some.2 ⟨N+1,fun n hn=> ?_⟩
 obtain⟨n,rfl⟩: ∃k,n=k+1:=⟨n - 1,by omega⟩
 rw[callN_key hg hd hk];exact hN n n (by omega) (by omega)
def callF_good (hm:P.follows .mixedOrders=true)(hK:KGood P K){f:FuncId}{args:List V}{p:PRes}(hg:goodF P f=true)(hp:args.all V.pureB=true)(h:callF P Cs K f args=some p):PGood P f args p:=by
 obtain⟨N,hN⟩:=callF_some.1 h;exact(callN_good hm hK N 0).1.2 f args p hg hp (hN N (Nat.le_refl _))
end
def bs (l:List UInt8):BA:=⟨⟨l⟩⟩
def cutO {α:Type}(x:Option (List D ⊕ α))(K:List D->Option α):Option α:=x.bind fun s=>match s with
 | .inl ds=>K ds
 | .inr a=>some a
def findR:Code->Option (Array Tmp × Code × Code)
 | .rangeFunc _ ps a b=>some (ps,a,b)
 | .seq a b=>match findR a with
   |some x=>some x
   |none=>findR b
 | .cond _ a b=>match findR a with
   |some x=>some x
   |none=>findR b
 | .block _ b=>findR b
 | .loop b=>findR b
 | .scope b=>findR b
 |_=>none
def recOf (P:Program)(f:Nat):RecI:=match (P.funcs[f]?).bind (·.body)with
 |some c=>match findR c with
  |some (ps,a,b)=>⟨f,ps,a,b⟩
  |none=>⟨0, #[], .skip, .skip⟩
 |none=>⟨0, #[], .skip, .skip⟩
section
variable (a b c : Int) (k : IntKind) (l m : LL) (s u : BA) (p q : Bool) (n j : Nat) (ds es : List D) (d e : D)
def sy_wrap:sy.wrap k a=k.wrap a:=rfl
def sy_add:sy.add a b=a+b:=rfl
def sy_sub:sy.sub a b=a - b:=rfl
def sy_mul:sy.mul a b=a*b:=rfl
def sy_ieq:sy.ieq a b=decide (a=b):=rfl
def sy_ilt:sy.ilt a b=decide (a < b):=rfl
def sy_ile:sy.ile a b=decide (a<=b):=rfl
def sy_seq:sy.seq s u=(s.toList == u.toList):=rfl
def sy_beq:sy.beq p q=(p == q):=rfl
def sy_bor:sy.bor p q=(p || q):=rfl
def sy_bnot:sy.bnot p= !p:=rfl
def sy_imax:sy.imax a b=max a b:=rfl
def sy_imin:sy.imin a b=min a b:=rfl
def sy_rlen:sy.rlen l=l.length:=rfl
def sy_slen:sy.slen s=s.size:=rfl
def sy_sapp:sy.sapp s u=s++u:=rfl
def sy_inr:sy.inr a b=decide (0<=a/\a < b):=rfl
def sy_nat:sy.nat a=a.toNat:=rfl
def sy_cell0:sy.cell (d::ds) 0=some d:=rfl
def sy_cellS:sy.cell (d::ds) (n+1)=sy.cell ds n:=rfl
def sy_skip0:sy.skip 0 ds=ds:=rfl
def sy_inrn:sy.inrn n l=decide (n < l.length):=rfl
def sy_rapp:sy.rapp l m=l++m:=rfl
def sy_fits:sy.fits l m n=decide ((l.length+m.length)*(n+1)<=140737488355328):=rfl
def sy_cutok:sy.cutok a b c=decide (0<=a/\a<=b/\b<=c):=rfl
def sy_cut:sy.cut l a b=(l.take b.toNat).drop a.toNat:=rfl
def sy_scut:sy.scut s a b=s.extract a.toNat b.toNat:=rfl
def sy_sbyte:sy.sbyte s a=((s.data.getD a.toNat 0).toNat:Int):=rfl
def sy_mkok:sy.mkok a b n=decide (a=b/\0<=a/\a*(n+1)<=140737488355328):=rfl
def sy_mkok0:sy.mkok0 a n=decide (0<=a/\a*(n+1)<=140737488355328):=rfl
def sy_mkz:sy.mkz a n=decide (0 < a/\a*(n+1)<=140737488355328):=rfl
def sy_rep:sy.rep a ds=List.replicate a.toNat ds:=rfl
def sy_head:sy.head l a=l.take a.toNat:=rfl
def sy_deq:sy.deq ds es=eqDs ds es:=rfl
def sy_rdec:sy.rdec s a=decR s a:=rfl
def sy_rwid:sy.rwid s a=decW s a:=rfl
def sy_rcopy:sy.rcopy l a b m=l.take a.toNat++m.take (min b.toNat m.length)++l.drop (a.toNat+min b.toNat m.length):=rfl
def sy_sidx:sy.sidx s a=Lib.indexByte s.data.toList a.toNat.toUInt8:=rfl
def sy_scnt:sy.scnt s a=(Lib.countByte s.data.toList a.toNat.toUInt8:Nat):=rfl
def sy_row:sy.row l a=l.getD a.toNat []:=rfl
def sy_rown:sy.rown l n=l.getD n []:=rfl
def opI_int:opI (some (.int k a)) k=some a:=by simp[opI]
def opB_bool:opB (some (.bool p))=some p:=rfl
def opS_str:opS (some (.str s))=some s:=rfl
def opL_sl:opL (some (.sl n l)) n=some l:=by simp[opL]
def opM_own (t:TypeId):opM (some (.own t n l)) t n=some l:=by simp[opM]
def leaves_val:(PRes.val ds).leaves=ds:=rfl
def leaves_own (t:TypeId):(PRes.own t n l).leaves= [.sl n l]:=rfl
def eqDs_nil:eqDs [] es=true:=by cases es<;>rfl
def eqDs_int:eqDs (.int k a::ds) (.int k b::es)=(decide (a=b)&&eqDs ds es):=by
 show((a == b)&&_)=_;congr 1
end
section
variable {α β : Type} (x y : Option (List D ⊕ α)) (K : List D -> Option α) (ds : List D) (a : α) (c p q : Bool)
def cutO_inl:cutO (some (.inl ds)) K=K ds:=rfl
def cutO_inr:cutO (some (.inr a)) K=some a:=rfl
def cutO_bool:cutO (bif c then some (.inl [.bool p])else some (.inl [.bool q])) K=K [.bool (bif c then p else q)]:=by cases c<;>rfl
def bif_bool:(bif c then some (Sum.inl [D.bool p])else some (Sum.inl [D.bool q]):Option (List D ⊕ α))=some (.inl [.bool (bif c then p else q)]):=by cases c<;>rfl
end
def wrap_id {n:Int}(h1: -9223372036854775808<=n)(h2:n<=9223372036854775807):IntKind.i64.wrap n=n:=by
 simp[IntKind.wrap,IntKind.bits,IntKind.signed];omega
def foldE {σ τ α:Type}(step:τ->σ->σ ⊕ α)(fin:σ->α):List τ->σ->α
 | [],s=>fin s
 |x::xs,s=>match step x s with
  | .inl s'=>foldE step fin xs s'
  | .inr r=>r
def loop_list {σ τ α:Type}{b:List D->Option (List D ⊕ α)}(l:List τ)(mk:Nat->σ->List D)(J:Nat->σ->Prop)(step:τ->σ->σ ⊕ α)(fin:σ->α)
  (hb: ∀i s x,l[i]? =some x->J i s->b (mk i s)=(match step x s with| .inl s'=>some (.inl (mk (i+1) s'))| .inr r=>some (.inr r))/\ ∀s',step x s= .inl s'->J (i+1) s')
  (hend: ∀s,J l.length s->b (mk l.length s)=some (.inr (fin s))) (s0:σ) (h0:J 0 s0):loopF b (mk 0 s0)=some (foldE step fin l s0):=by
 suffices ∀(rest:List τ) (i:Nat) (s:σ),l.drop i=rest->i<=l.length->J i s->loopF b (mk i s)=some (foldE step fin rest s)from this l 0 s0 rfl (Nat.zero_le _) h0
 intro rest
 induction rest with
 |nil=>
  intro i s hd hi hj;have:i=l.length:=by have:=congrArg List.length hd;simp at this;omega
  subst this;rw[loopF_eq,hend s hj];rfl
 |cons x xs ih=>
  intro i s hd hi hj;have hx:l[i]? =some x:=by
   have:=congrArg (fun r=>r[0]?) hd
   simpa using this
  have hlt:i < l.length:=(List.getElem?_eq_some_iff.1 hx).1;have hxs:l.drop (i+1)=xs:=by
   have:=congrArg List.tail hd
   simpa using this
  obtain⟨h1,h2⟩:=hb i s x hx hj;rw[loopF_eq,h1];unfold foldE;cases hs:step x s with
  |inl s'=>exact ih (i+1) s' hxs (by omega) (h2 s' hs)
  |inr r=>rfl
def idxI {τ:Type}(p:τ->Bool):List τ->Int->Int
 | [],_=> -1
 |x::l,i=>if p x then i else idxI p l (i+1)
def foldE_idx {τ:Type}(p:τ->Bool): ∀(l:List τ) (i:Int),foldE (fun x (i:Int)=>if p x then .inr (PRes.val [.int .i64 i])else .inl (i+1)) (fun _=>PRes.val [.int .i64 (-1)]) l i= .val [.int .i64 (idxI p l i)]
 | [],i=>rfl
 |x::l,i=>by
  unfold foldE idxI
  by_cases hp:p x=true
  ·simp[hp]
  ·have hp:p x=false:=by simpa using hp
   simp only[hp,Bool.false_eq_true,if_false];exact foldE_idx p l (i+1)
def idx_loop {τ:Type}{b:List D->Option (List D ⊕ PRes)}(p:τ->Bool)(l:List τ)(mk:Int->List D)
  (hb: ∀(i:Nat) x,l[i]? =some x->b (mk i)=bif p x then some (.inr (.val [.int .i64 (i:Int)]))else some (.inl (mk ((i:Int)+1))))
  (hend:b (mk (l.length:Int))=some (.inr (.val [.int .i64 (-1)]))):loopF b (mk 0)=some (.val [.int .i64 (idxI p l 0)]):=by
 have:=loop_list (b:=b) l (fun i (_:Int)=>mk (i:Int)) (fun i s=>s=(i:Int)) (fun x (i:Int)=>if p x then .inr (PRes.val [.int .i64 i])else .inl (i+1)) (fun _=>PRes.val [.int .i64 (-1)]) (fun i s x hx hs=>by
  subst hs;rw[hb i x hx];cases p x with
  |true=>exact⟨rfl,fun s' h=>by simp at h⟩
  |false=>exact⟨by simp,fun s' h=>by simp at h;rw[<-h];simp⟩) (fun s _=>hend) 0 rfl
 rw[foldE_idx]at this;exact this
end Go.Vm
end
