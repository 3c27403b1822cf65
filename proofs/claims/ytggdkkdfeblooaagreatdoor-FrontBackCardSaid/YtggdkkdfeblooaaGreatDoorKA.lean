/- Part KA of the proof. What is proved by the whole: the statement that the claim names, with no condition. -/
import Derived.Deep.LoopGhost
import Derived.WalkKit
import Derived.Lib.ParseIntB
import Derived.Lib.Space
import Derived.Lib.ItoaNum
import Derived.Maps.AppendAt
import Derived.ArgAppend
set_option linter.all false
section
def a0a:type_of% @List.length_cons:=@List.length_cons
def a0b:type_of% @List.getElem?_eq_getElem:=@List.getElem?_eq_getElem
def a0c:type_of% @List.getElem?_eq_some_iff:=@List.getElem?_eq_some_iff
def a0d:type_of% @List.length_nil:=@List.length_nil
def a0e:type_of% @of_decide_eq_true:=@of_decide_eq_true
def a0f:type_of% @List.cons_append:=@List.cons_append
def a0g:type_of% @Bool.and_eq_true:=@Bool.and_eq_true
def a0h:type_of% @List.nil_append:=@List.nil_append
def a0i:type_of% @List.getD_eq_getElem?_getD:=@List.getD_eq_getElem?_getD
def a0j:type_of% @List.mem_of_getElem? :=@List.mem_of_getElem?
def a0k:type_of% @List.length_append:=@List.length_append
def a0l:type_of% @List.all_eq_true:=@List.all_eq_true
def a0m:type_of% @Int.toNat_natCast:=@Int.toNat_natCast
def a0n:type_of% @Option.map_eq_some_iff:=@Option.map_eq_some_iff
def a0o:type_of% @List.getElem?_map:=@List.getElem?_map
def a0p:type_of% @decide_eq_true_eq:=@decide_eq_true_eq
def a0q:type_of% @Nat.le_refl:=@Nat.le_refl
def a0r:type_of% @Array.getElem?_eq_some_iff:=@Array.getElem?_eq_some_iff
def a0s:type_of% @decide_eq_true:=@decide_eq_true
def a0t:type_of% @List.mem_cons_self:=@List.mem_cons_self
def a0u:type_of% @List.take_length:=@List.take_length
def a0v:type_of% @List.mem_cons_of_mem:=@List.mem_cons_of_mem
def a0w:type_of% @Nat.zero_le:=@Nat.zero_le
def a0x:type_of% @Array.getElem?_eq_getElem:=@Array.getElem?_eq_getElem
def a0y:type_of% @List.getElem?_append:=@List.getElem?_append
def a0z:type_of% @List.append_nil:=@List.append_nil
def a1a:type_of% @Array.getElem?_toList:=@Array.getElem?_toList
def a1b:type_of% @Nat.le_trans:=@Nat.le_trans
def a1c:type_of% @Nat.lt_of_lt_of_le:=@Nat.lt_of_lt_of_le
def a1d:type_of% @Bool.false_or:=@Bool.false_or
def a1e:type_of% @List.take_add_one:=@List.take_add_one
def a1f:type_of% @List.length_map:=@List.length_map
def a1g:type_of% @Bool.eq_iff_iff:=@Bool.eq_iff_iff
def a1h:type_of% @List.mem_singleton:=@List.mem_singleton
def a1i:type_of% @Option.bind_some:=@Option.bind_some
def a1j:type_of% @List.getElem_mem:=@List.getElem_mem
def a1k:type_of% @List.getElem?_set:=@List.getElem?_set
def a1l:type_of% @Option.bind_eq_some_iff:=@Option.bind_eq_some_iff
def a1m:type_of% @List.map_cons:=@List.map_cons
def a1n:type_of% @List.mem_cons:=@List.mem_cons
def a1o:type_of% @List.mem_append:=@List.mem_append
def a1p:type_of% @Nat.lt_succ_self:=@Nat.lt_succ_self
def a1q:type_of% @List.length_take:=@List.length_take
def a1r:type_of% @List.all_cons:=@List.all_cons
def a1s:type_of% @List.getElem?_take:=@List.getElem?_take
def a1t:type_of% @Bool.true_or:=@Bool.true_or
def a1u:type_of% @List.take_append_drop:=@List.take_append_drop
def a1v:type_of% @List.length_drop:=@List.length_drop
def a1w:type_of% @List.map_nil:=@List.map_nil
def a1x:type_of% @List.getElem?_drop:=@List.getElem?_drop
def a1y:type_of% @List.drop_zero:=@List.drop_zero
def a1z:type_of% @Nat.zero_add:=@Nat.zero_add
def a2a:type_of% @Bool.and_true:=@Bool.and_true
def a2b:type_of% @List.mem_map:=@List.mem_map
def a2c:type_of% @List.getElem?_eq_none:=@List.getElem?_eq_none
def a2d:type_of% @Array.getElem?_push:=@Array.getElem?_push
def a2e:type_of% @Nat.add_assoc:=@Nat.add_assoc
def a2f:type_of% @Int.natCast_nonneg:=@Int.natCast_nonneg
def a2g:type_of% @List.map_congr_left:=@List.map_congr_left
def a2h:type_of% @Nat.mul_le_mul_right:=@Nat.mul_le_mul_right
def a2i:type_of% @Bool.not_false:=@Bool.not_false
def a2j:type_of% @Option.toList_some:=@Option.toList_some
def a2k:type_of% @Bool.true_and:=@Bool.true_and
end
section
namespace Go.Vm
def gI:List Nat:=[7,8]
def gV:List (Nat × List Value):=[(0,[Value.iface 138 (.agg #[.pointer (some ⟨12,59,none⟩)])]),(2,Lib.asciiSpaceTab.map fun n=>Value.int .u8 n),(1,Lib.pow10Tab.map fun n=>Value.int .u64 n)]
def gP:Nat:=126
def gNT:List Nat:=[61]
def gG:List Nat:=[180]
def z9w (s:ByteArray):Int:=match Lib.parseIntB 64 s.data.toList with
 | .ok v=>v
 | .range=>Lib.intSat 64 s.data.toList
 |_=>0
def w8u (s:ByteArray):Bool:=match Lib.parseIntB 64 s.data.toList with
 | .ok _=>true
 |_=>false
abbrev BA:=ByteArray
inductive D where
 |int (k:IntKind) (n:Int)
 |bool (b:Bool)
 |str (s:BA)
 |sl (sz:Nat) (rows:List (List D))
 deriving Inhabited
abbrev LL:=List (List D)
structure RecI where
 me:Nat
 ps:Array Tmp
 assign:Code
 body:Code
structure RecG where
 r:RecI
 tmps:Array Value
inductive RSt where
 |ready
 |busy
 |done (c:Code)
 deriving Inhabited
def RSt.state:RSt->LoopState
 | .ready=> .ready
 | .busy=> .busy
 | .done _=> .done
def RSt.j2g:RSt->Option Code
 | .done c=>some c
 |_=>none
inductive CK where
 |ty (t:TypeId)
 |rcd (st:RSt)
 |sit
 deriving Inhabited
inductive V where
 |any
 |nils
 |d (x:D)
 |agg (cs:List V)
 |tup (vs:List V)
 |own (b:Nat)
 |ptr (b off:Nat)
 |mv (f:FuncId) (b off:Nat)
 |ifp (t:TypeId) (b off:Nat)
 |pel (cs:List D)
 |pml (b sz i off:Nat)
 |nilp
 |fn (f:FuncId) (caps:List V)
 |nilf
 |map (b:Nat)
 |yld (b:Nat) (R:RecI)
 |osl (b sz:Nat) (lo n:Int)
 |ifn (b:Bool)
 |ifc (t:TypeId) (cs:List D)
 |ifo (t:TypeId) (b:Bool) (cs:List D)
 deriving Inhabited
inductive KK where
 |int (k:IntKind)
 |str
 deriving Inhabited,DecidableEq
def KK.j2a:KK->D->Bool
 | .int k, .int k' _=>decide (k'=k)
 | .str, .str _=>true
 |_,_=>false
def KK.fits:KK->D->Prop
 | .int k, .int k' _=>k'=k
 | .str, .str _=>True
 |_,_=>False
inductive Box where
 |gone
 |mp (kk:KK) (rows:LL)
 |cells (k:CK) (vs:List V)
 |arr (e:TypeId) (sz:Nat) (rows:LL)
 /-- A slice of plain data that is full (its block is not the box's own). -/
 |ful (sz:Nat) (rows:LL)
 deriving Inhabited
structure Gh where
 Z:Nat->Nat->Prop
 n:Nat
 blk:Nat->Nat
 val:Nat->Value
 cd:Nat->Option RecG
def Gh.rc (g:Gh)(b:Nat):Option RecI:=(g.cd b).map RecG.r
def v6z {g g':Gh}{b c:Nat}(h:g'.cd c=g.cd b){R:RecI}(hc:g.rc b=some R):g'.rc c=some R:=by
 unfold Gh.rc at hc ⊢;rw[h];exact hc
inductive RepD (w:World) (Z:Nat->Nat->Prop):Value->D->Prop
 |int (k:IntKind) (n:Int):RepD w Z (.int k n) (.int k n)
 |bool (b:Bool):RepD w Z (.bool b) (.bool b)
 |str (s:BA):RepD w Z (.string s) (.str s)
 |slnil (sz:Nat):RepD w Z (.slice none 0 0) (.sl sz [])
 |slemp (a:Addr) (cap sz:Nat):RepD w Z (.slice (some a) 0 cap) (.sl sz [])
 |sl (blk off n cap sz:Nat) (rows:LL) (U:Nat->Nat->Value) (hn:rows.length=n) (hcap:n<=cap)
    (hlen: ∀(i:Nat) (r:List D),rows[i]? =some r->r.length=sz)
    (hZ: ∀(i:Nat) (r:List D) (j:Nat) (c:D),rows[i]? =some r->r[j]? =some c->Z blk (off+(i*sz+j)))
    (hc: ∀(i:Nat) (r:List D) (j:Nat) (c:D),rows[i]? =some r->r[j]? =some c->w.cell? ⟨blk,off+(i*sz+j),none⟩=some (U i j))
    (hr: ∀(i:Nat) (r:List D) (j:Nat) (c:D),rows[i]? =some r->r[j]? =some c->RepD w Z (U i j) c):
    RepD w Z (.slice (some ⟨blk,off,none⟩) n cap) (.sl sz rows)
def RepD.mono {w w':World}{Z Z':Nat->Nat->Prop}(hz: ∀b o,Z b o->Z' b o)(hw: ∀b o,Z b o->w'.cell? ⟨b,o,none⟩=w.cell? ⟨b,o,none⟩)
  {u:Value} {x:D} (h:RepD w Z u x):RepD w' Z' u x:=by
 induction h with
 |int k n=>exact .int k n
 |bool b=>exact .bool b
 |str s=>exact .str s
 |slnil sz=>exact .slnil sz
 |slemp a cap sz=>exact .slemp a cap sz
 |sl blk off n cap sz rows U hn hcap hlen hZ hc hr ih=>
  exact .sl blk off n cap sz rows U hn hcap hlen (fun i r j c h1 h2=>hz _ _ (hZ i r j c h1 h2)) (fun i r j c h1 h2=>(hw _ _ (hZ i r j c h1 h2)).trans (hc i r j c h1 h2))
   (fun i r j c h1 h2=>ih i r j c h1 h2)
inductive Rep (w:World) (g:Gh):Value->V->Prop
 |any (u:Value):Rep w g u .any
 |nils:Rep w g (.slice none 0 0) .nils
 |d {u:Value} {x:D} (h:RepD w g.Z u x):Rep w g u (.d x)
 |agg (us:Array Value) (cs:List V) (hl:us.size=cs.length) (h: ∀(i:Nat) u c,us[i]? =some u->cs[i]? =some c->Rep w g u c):Rep w g (.agg us) (.agg cs)
 |tup (us:Array Value) (cs:List V) (hl:us.size=cs.length) (h: ∀(i:Nat) u c,us[i]? =some u->cs[i]? =some c->Rep w g u c):Rep w g (.tuple us) (.tup cs)
 |own (b:Nat) (hb:b < g.n):Rep w g (g.val b) (.own b)
 |ptr (b off:Nat) (hb:b < g.n):Rep w g (.pointer (some ⟨g.blk b,off,none⟩)) (.ptr b off)
 |mv (f:FuncId) (b off:Nat) (hb:b < g.n):Rep w g (.func (.func f) #[.pointer (some ⟨g.blk b,off,none⟩)] #[]) (.mv f b off)
 |ifp (t:TypeId) (b off:Nat) (hb:b < g.n):Rep w g (.iface t (.pointer (some ⟨g.blk b,off,none⟩))) (.ifp t b off)
 |pel (blk off:Nat) (cs:List D) (U:Nat->Value)
   (hZ: ∀(j:Nat) c,cs[j]? =some c->g.Z blk (off+j))
   (hc: ∀(j:Nat) c,cs[j]? =some c->w.cell? ⟨blk,off+j,none⟩=some (U j))
   (hr: ∀(j:Nat) c,cs[j]? =some c->RepD w g.Z (U j) c):Rep w g (.pointer (some ⟨blk,off,none⟩)) (.pel cs)
 |pml (b sz i off:Nat) (hb:b < g.n):Rep w g (.pointer (some ⟨g.blk b,i*sz+off,none⟩)) (.pml b sz i off)
 |nilp:Rep w g (.pointer none) .nilp
 |fn (f:FuncId) (us:Array Value) (cs:List V) (hl:us.size=cs.length) (h: ∀(i:Nat) u c,us[i]? =some u->cs[i]? =some c->Rep w g u c):Rep w g (.func (.func f) #[] us) (.fn f cs)
 |nilf:Rep w g .nilFunc .nilf
 |map (b:Nat) (hb:b < g.n):Rep w g (g.val b) (.map b)
 |yld (b:Nat) (R:RecI) (hb:b < g.n) (hc:g.rc b=some R):Rep w g (.func (.yield (g.blk b)) #[] #[]) (.yld b R)
 |osl (b sz:Nat) (lo n:Int) (u:Value) (hb:b < g.n) (hu:0<=lo/\0<=n/\((n.toNat=0/\ ∃A cap,u= .slice A 0 cap)\/ ∃cap,u= .slice (some ⟨g.blk b,lo.toNat*sz,none⟩) n.toNat cap/\n.toNat<=cap)):Rep w g u (.osl b sz lo n)
 |ifn0:Rep w g .nilIface (.ifn true)
 |ifn1 (t:TypeId) (p:Value):Rep w g (.iface t p) (.ifn false)
 |ifc (t:TypeId) (us:Array Value) (cs:List D) (hl:us.size=cs.length) (h: ∀(i:Nat) u c,us[i]? =some u->cs[i]? =some c->RepD w g.Z u c):Rep w g (.iface t (.agg us)) (.ifc t cs)
 |ifo0 (t:TypeId) (cs:List D):Rep w g .nilIface (.ifo t true cs)
 |ifo1 (t:TypeId) (us:Array Value) (cs:List D) (hl:us.size=cs.length) (h: ∀(i:Nat) u c,us[i]? =some u->cs[i]? =some c->RepD w g.Z u c):Rep w g (.iface t (.agg us)) (.ifo t false cs)
def V.free (b:Nat):V->Bool
 | .own c| .map c=>c != b
 | .pml c _ _ _=>c != b
 | .yld c _=>c != b
 | .osl c _ _ _=>c != b
 |_=>true
structure Gh.Le (M:Nat->Prop) (g g':Gh):Prop where
 Z: ∀b o,g.Z b o->g'.Z b o
 n:g.n<=g'.n
 blk: ∀b,b < g.n-> ¬M b->g'.blk b=g.blk b
 val: ∀b,b < g.n-> ¬M b->g'.val b=g.val b
 cd: ∀b,b < g.n->g'.cd b=g.cd b
def CK.is (k:CK)(R:Option RecG)(us:Array Value)(o:Obj):Prop:=match k with
 | .ty t=>o= .cells us t (0,0)
 | .rcd st=> ∃(fn:FuncId) (D:Nat) (x:RecG),R=some x/\us=x.tmps/\o= .loop { state:=st.state,pending:=st.j2g,fn:=fn,tmps:=us,params:=x.r.ps,assign:=x.r.assign,body:=x.r.body,defers:=D }
 | .sit=> ∃(s:BA) (n:Nat),us= #[.string s, .int .i64 n]/\o= .stringIter s n
def x1r (w:World)(g:Gh)(b:Nat):Box->Prop
 | .gone=>True
 | .mp kk rows=> ∃(ens:Array MapEntry) (clock:Nat),w.heap[g.blk b]? =some (.map ens clock)/\g.val b= .map (some (g.blk b))/\ens.size=rows.length/\
   ∀(i:Nat) e r,ens[i]? =some e->rows[i]? =some r-> ∃k v,r= [k,v]/\kk.fits k/\RepD w g.Z e.key k/\RepD w g.Z e.val v
 | .cells k vs=> ∃(us:Array Value) (o:Obj),w.heap[g.blk b]? =some o/\k.is (g.cd b) us o/\us.size=vs.length/\
   ∀(i:Nat) u v,us[i]? =some u->vs[i]? =some v->Rep w g u v
 | .arr e sz rows=>(∀(i:Nat) (r:List D),rows[i]? =some r->r.length=sz)/\
   ((g.val b= .slice none 0 0/\rows= [])\/
   ∃(us:Array Value) (cap:Nat),g.val b= .slice (some ⟨g.blk b,0,none⟩) rows.length cap/\rows.length<=cap/\cap<=maxLen/\
    w.heap[g.blk b]? =some (.cells us e (0,0))/\us.size=cap*sz/\
    ∀(i:Nat) (r:List D) (j:Nat) (c:D),rows[i]? =some r->r[j]? =some c-> ∃u,us[i*sz+j]? =some u/\RepD w g.Z u c)
 | .ful sz rows=> ∃A,g.val b= .slice A rows.length rows.length/\RepD w g.Z (g.val b) (.sl sz rows)
def Box.at? (g:Gh)(b:Nat):Box->Option Nat
 | .gone=>none
 | .ful _ _=>none
 | .cells _ _=>some (g.blk b)
 | .mp _ _=>some (g.blk b)
 | .arr _ _ _=>match g.val b with
   | .slice (some a) _ _=>some a.block
   |_=>none
def x2r (g:Gh)(h:List Box)(k:Nat):Prop:= ∃(b:Nat) (x:Box),h[b]? =some x/\x.at? g b=some k
def z3h (Z:Nat->Nat->Prop)(w:World):Prop:=
 (∀b∈gI,Z b 0/\ ∃t p,w.cell? ⟨b,0,none⟩=some (.iface t p))/\ ∀q∈gV,∀i:Nat,Z q.1 i/\w.cell? ⟨q.1,i,none⟩=q.2[i]?
def z3h.mono {Z Z':Nat->Nat->Prop}{w w':World}(h:z3h Z w)(hz: ∀b o,Z b o->Z' b o)(hw: ∀b o,Z b o->w'.cell? ⟨b,o,none⟩=w.cell? ⟨b,o,none⟩):z3h Z' w':=
 ⟨fun b hb=>let ⟨z,t,p,e⟩:=h.1 b hb;⟨hz _ _ z,t,p,(hw _ _ z).trans e⟩,fun q hq i=>let ⟨z,e⟩:=h.2 q hq i;⟨hz _ _ z,(hw _ _ z).trans e⟩⟩
structure SimH (g:Gh) (h:List Box) (w:World):Prop where
 n:g.n=h.length
 rep: ∀(b:Nat) x,h[b]? =some x->x1r w g b x
 sep: ∀(b c:Nat) x y k,h[b]? =some x->h[c]? =some y->x.at? g b=some k->y.at? g c=some k->b=c
 zsep: ∀k o,x2r g h k-> ¬g.Z k o
 zlt: ∀b o,g.Z b o->b < w.heap.size
 tab:z3h g.Z w
structure Fr (S:Nat->Prop) (w w':World):Prop where
 os:w'.os=w.os
 tape:w'.tape=w.tape
 output:w'.output=w.output
 size:w.heap.size<=w'.heap.size
 block: ∀k,k < w.heap.size-> ¬S k->w'.heap[k]? =w.heap[k]?
def Fr.refl (S:Nat->Prop)(w:World):Fr S w w:=⟨rfl,rfl,rfl,a0q _,fun _ _ _=>rfl⟩
def Fr.trans {S:Nat->Prop}{a b c:World}(h:Fr S a b)(k:Fr S b c):Fr S a c:=
 ⟨k.os.trans h.os,k.tape.trans h.tape,k.output.trans h.output,a1b h.size k.size,
  fun i hi hs=>(k.block i (a1c hi h.size) hs).trans (h.block i hi hs)⟩
def Fr.trans' {S S':Nat->Prop}{a b c:World}(h:Fr S a b)(k:Fr S' b c)(hs: ∀i,S' i->S i\/a.heap.size<=i):Fr S a c:=
 ⟨k.os.trans h.os,k.tape.trans h.tape,k.output.trans h.output,a1b h.size k.size,
  fun i hi hn=>(k.block i (a1c hi h.size) (fun h'=>by rcases hs i h' with h''|h'';exact hn h'';omega)).trans (h.block i hi hn)⟩
def Fr.mono {S S':Nat->Prop}{a b:World}(h:Fr S a b)(hs: ∀i,S i->S' i):Fr S' a b:=
 ⟨h.os,h.tape,h.output,h.size,fun i hi hn=>h.block i hi (fun h'=>hn (hs i h'))⟩
def Fr.below {S:Nat->Prop}{a b:World}(h:Fr S a b)(hs: ∀i,i < a.heap.size-> ¬S i):Go.RowKit.Below a.heap.size a b:=
 ⟨h.os,h.tape,h.output,h.size,fun k hk=>h.block k hk (hs k hk)⟩
def Fr.drew (S:Nat->Prop)(w:World):Fr S w w.drew:=⟨rfl,rfl,rfl,a0q _,fun _ _ _=>rfl⟩
def Fr.alloc (S:Nat->Prop)(w:World)(o:Obj):Fr S w (w.alloc o):=
 ⟨rfl,rfl,rfl,by simp,fun k hk _=>by show(w.heap.push o)[k]? =_;rw[a2d,if_neg (by omega)]⟩
def Fr.cell {S:Nat->Prop}{w w':World}(h:Fr S w w'){b o:Nat}(hb:b < w.heap.size)(hs: ¬S b):w'.cell? ⟨b,o,none⟩=w.cell? ⟨b,o,none⟩:=by
 simp only[World.cell?,h.block b hb hs]
structure Keep (M:List Nat) (g:Gh) (h:List Box) (w:World) (g':Gh) (h':List Box) (w':World):Prop where
 heap:SimH g' h' w'
 le:g.Le (· ∈M) g'
 fr:Fr (x2r g h) w w'
 znew: ∀b o,g'.Z b o->g.Z b o\/w.heap.size<=b\/x2r g h b
 own: ∀k,x2r g' h' k->x2r g h k\/w.heap.size<=k
def Gh.Le.refl (M:Nat->Prop)(g:Gh):g.Le M g:=⟨fun _ _ h=>h,a0q _,fun _ _ _=>rfl,fun _ _ _=>rfl,fun _ _=>rfl⟩
def Gh.Le.trans {M:Nat->Prop}{a b c:Gh}(h:a.Le M b)(k:b.Le M c):a.Le M c:=
 ⟨fun x o hz=>k.Z x o (h.Z x o hz),a1b h.n k.n,
  fun x hx hm=>(k.blk x (a1c hx h.n) hm).trans (h.blk x hx hm),
  fun x hx hm=>(k.val x (a1c hx h.n) hm).trans (h.val x hx hm),
  fun x hx=>(k.cd x (a1c hx h.n)).trans (h.cd x hx)⟩
def V.j0k (M:List Nat):V->Bool
 | .own b| .map b=> !M.contains b
 | .pml b _ _ _=> !M.contains b
 | .ptr b _=> !M.contains b
 | .mv _ b _=> !M.contains b
 | .ifp _ b _=> !M.contains b
 | .yld b _=> !M.contains b
 | .osl b _ _ _=> !M.contains b
 | .agg _| .tup _=>M.isEmpty
 | .fn _ _=>M.isEmpty
 |_=>true
def V.j2u (M:List Nat):V->Bool
 | .agg cs=>cs.all (V.j0k M)
 | .tup cs=>cs.all (V.j0k M)
 | .fn _ cs=>cs.all (V.j0k M)
 |v=>v.j0k M
def z5p {M:List Nat}{g g':Gh}{h h':List Box}{w w':World}(hs:SimH g h w)(hk:Keep M g h w g' h' w'):
  ∀b o,g.Z b o->w'.cell? ⟨b,o,none⟩=w.cell? ⟨b,o,none⟩:=
 fun b o hz=>hk.fr.cell (hs.zlt b o hz) (fun hw=>hs.zsep b o hw hz)
def Keep.j0z {M:List Nat}{g g':Gh}{h h':List Box}{w w':World}(hs:SimH g h w)(hk:Keep M g h w g' h' w'){u:Value}{x:D}
  (hr:RepD w g.Z u x):RepD w' g'.Z u x:=hr.mono hk.le.Z (z5p hs hk)
structure Over (M:List Nat) (w:World) (g:Gh) (w':World) (g':Gh):Prop where
 le:g.Le (· ∈M) g'
 cell: ∀b o,g.Z b o->w'.cell? ⟨b,o,none⟩=w.cell? ⟨b,o,none⟩
def z3h.over {M:List Nat}{w w':World}{g g':Gh}(h:z3h g.Z w)(ho:Over M w g w' g'):z3h g'.Z w':=h.mono ho.le.Z ho.cell
def Over.j0z {M:List Nat}{w w':World}{g g':Gh}(ho:Over M w g w' g'){u:Value}{x:D}(hr:RepD w g.Z u x):RepD w' g'.Z u x:=hr.mono ho.le.Z ho.cell
def Over.j0b {w w':World}{g g':Gh}(ho:Over [] w g w' g'){u:Value}{v:V}(hr:Rep w g u v):Rep w' g' u v:=by
 induction hr with
 |any u=>exact .any u
 |nils=>exact .nils
 |d h=>exact .d (ho.j0z h)
 |agg us cs hl h ih=>exact .agg us cs hl ih
 |tup us cs hl h ih=>exact .tup us cs hl ih
 |own b hb=>rw[<-ho.le.val b hb (by simp)];exact .own b (a1c hb ho.le.n)
 |ptr b off hb=>rw[<-ho.le.blk b hb (by simp)];exact .ptr b off (a1c hb ho.le.n)
 |mv f b off hb=>rw[<-ho.le.blk b hb (by simp)];exact .mv f b off (a1c hb ho.le.n)
 |ifp f b off hb=>rw[<-ho.le.blk b hb (by simp)];exact .ifp f b off (a1c hb ho.le.n)
 |pel blk off cs U hZ hc hr=>exact .pel blk off cs U (fun j c h=>ho.le.Z _ _ (hZ j c h)) (fun j c h=>(ho.cell _ _ (hZ j c h)).trans (hc j c h)) (fun j c h=>ho.j0z (hr j c h))
 |pml b sz i off hb=>rw[<-ho.le.blk b hb (by simp)];exact .pml b sz i off (a1c hb ho.le.n)
 |nilp=>exact .nilp
 |fn f us cs hl h ih=>exact .fn f us cs hl ih
 |nilf=>exact .nilf
 |ifn0=>exact .ifn0
 |ifn1 t p=>exact .ifn1 t p
 |ifc t us cs hl h=>exact .ifc t us cs hl fun i u c h1 h2=>ho.j0z (h i u c h1 h2)
 |ifo0 t cs=>exact .ifo0 t cs
 |ifo1 t us cs hl h=>exact .ifo1 t us cs hl fun i u c h1 h2=>ho.j0z (h i u c h1 h2)
 |map b hb=>rw[<-ho.le.val b hb (by simp)];exact .map b (a1c hb ho.le.n)
 |yld b R hb hc=>rw[<-ho.le.blk b hb (by simp)];exact .yld b R (a1c hb ho.le.n) (v6z (ho.le.cd b hb) hc)
 |osl b sz lo n u hb hu=>exact .osl b sz lo n u (a1c hb ho.le.n) (by rw[ho.le.blk b hb (by simp)];exact hu)
def Over.j2x {M:List Nat}{w w':World}{g g':Gh}(ho:Over M w g w' g'){u:Value}{v:V}(hr:Rep w g u v)(hf:v.j0k M=true):Rep w' g' u v:=by
 by_cases hM:M= []
 ·subst hM;exact ho.j0b hr
 have hE:M.isEmpty=false:=by cases M<;>simp_all
 cases hr with
 |any u=>exact .any u
 |nils=>exact .nils
 |d h=>exact .d (ho.j0z h)
 |agg us cs hl h=>simp[V.j0k,hE]at hf
 |tup us cs hl h=>simp[V.j0k,hE]at hf
 |own b hb=>have hm:b ∉ M:=by simpa[V.j0k]using hf
            rw[<-ho.le.val b hb hm];exact .own b (a1c hb ho.le.n)
 |ptr b off hb=>have hm:b ∉ M:=by simpa[V.j0k]using hf
                rw[<-ho.le.blk b hb hm];exact .ptr b off (a1c hb ho.le.n)
 |mv f b off hb=>
  have hm:b ∉ M:=by simpa[V.j0k]using hf
  rw[<-ho.le.blk b hb hm];exact .mv f b off (a1c hb ho.le.n)
 |ifp f b off hb=>
  have hm:b ∉ M:=by simpa[V.j0k]using hf
  rw[<-ho.le.blk b hb hm];exact .ifp f b off (a1c hb ho.le.n)
 |pel blk off cs U hZ hc hr=>exact .pel blk off cs U (fun j c h=>ho.le.Z _ _ (hZ j c h)) (fun j c h=>(ho.cell _ _ (hZ j c h)).trans (hc j c h)) (fun j c h=>ho.j0z (hr j c h))
 |pml b sz i off hb=>have hm:b ∉ M:=by simpa[V.j0k]using hf
                     rw[<-ho.le.blk b hb hm];exact .pml b sz i off (a1c hb ho.le.n)
 |nilp=>exact .nilp
 |fn f us cs hl h=>simp[V.j0k,hE]at hf
 |nilf=>exact .nilf
 |ifn0=>exact .ifn0
 |ifn1 t p=>exact .ifn1 t p
 |ifc t us cs hl h=>exact .ifc t us cs hl fun i u c h1 h2=>ho.j0z (h i u c h1 h2)
 |ifo0 t cs=>exact .ifo0 t cs
 |ifo1 t us cs hl h=>exact .ifo1 t us cs hl fun i u c h1 h2=>ho.j0z (h i u c h1 h2)
 |map b hb=>have hm:b ∉ M:=by simpa[V.j0k]using hf
            rw[<-ho.le.val b hb hm];exact .map b (a1c hb ho.le.n)
 |yld b R hb hc=>have hm:b ∉ M:=by simpa[V.j0k]using hf
                 rw[<-ho.le.blk b hb hm];exact .yld b R (a1c hb ho.le.n) (v6z (ho.le.cd b hb) hc)
 |osl b sz lo n u hb hu=>have hm:b ∉ M:=by simpa[V.j0k]using hf
                         exact .osl b sz lo n u (a1c hb ho.le.n) (by rw[ho.le.blk b hb hm];exact hu)
def V.j0d (M:List Nat)(v:V):V:=bif v.j0k M then v else .any
def V.kill (M:List Nat):V->V
 | .agg cs=> .agg (cs.map (V.j0d M))
 | .tup cs=> .tup (cs.map (V.j0d M))
 | .fn f cs=> .fn f (cs.map (V.j0d M))
 |v=>v.j0d M
def Over.j0d {M:List Nat}{w w':World}{g g':Gh}(ho:Over M w g w' g'){u:Value}{v:V}(hr:Rep w g u v):Rep w' g' u (v.j0d M):=by
 unfold V.j0d;cases h:v.j0k M with
 |true=>exact ho.j2x hr h
 |false=>exact .any u
def Over.kill {M:List Nat}{w w':World}{g g':Gh}(ho:Over M w g w' g'){u:Value}{v:V}(hr:Rep w g u v):Rep w' g' u (v.kill M):=by
 have aux: ∀(us:Array Value) (cs:List V),(∀(i:Nat) u c,us[i]? =some u->cs[i]? =some c->Rep w g u c)->
     ∀(i:Nat) u c,us[i]? =some u->(cs.map (V.j0d M))[i]? =some c->Rep w' g' u c:=by
  intro us cs h i u c hu hc;rw[a0o,a0n]at hc;obtain⟨c',hc',rfl⟩:=hc;exact ho.j0d (h i u c' hu hc')
 cases hr with
 |agg us cs hl h=>exact .agg us _ (by simpa using hl) (aux us cs h)
 |tup us cs hl h=>exact .tup us _ (by simpa using hl) (aux us cs h)
 |fn f us cs hl h=>exact .fn f us _ (by simpa using hl) (aux us cs h)
 |any u=>exact ho.j0d (.any u)
 |nils=>exact ho.j0d .nils
 |d h=>exact ho.j0d (.d h)
 |own b hb=>exact ho.j0d (.own b hb)
 |ptr b off hb=>exact ho.j0d (.ptr b off hb)
 |mv f b off hb=>exact ho.j0d (.mv f b off hb)
 |ifp f b off hb=>exact ho.j0d (.ifp f b off hb)
 |pel blk off cs U hZ hc hr=>exact ho.j0d (.pel blk off cs U hZ hc hr)
 |pml b sz i off hb=>exact ho.j0d (.pml b sz i off hb)
 |nilp=>exact ho.j0d .nilp
 |nilf=>exact ho.j0d .nilf
 |ifn0=>exact ho.j0d .ifn0
 |ifn1 t p=>exact ho.j0d (.ifn1 t p)
 |ifc t us cs hl h=>exact ho.j0d (.ifc t us cs hl h)
 |ifo0 t cs=>exact ho.j0d (.ifo0 t cs)
 |ifo1 t us cs hl h=>exact ho.j0d (.ifo1 t us cs hl h)
 |map b hb=>exact ho.j0d (.map b hb)
 |yld b R hb hc=>exact ho.j0d (.yld b R hb hc)
 |osl b sz lo n u hb hu=>exact ho.j0d (.osl b sz lo n u hb hu)
def Keep.over {M:List Nat}{g g':Gh}{h h':List Box}{w w':World}(hs:SimH g h w)(hk:Keep M g h w g' h' w'):Over M w g w' g':=⟨hk.le,z5p hs hk⟩
def Keep.refl {g:Gh}{h:List Box}{w:World}(hs:SimH g h w):Keep [] g h w g h w:=
 ⟨hs,Gh.Le.refl _ _,Fr.refl _ _,fun _ _ h=> .inl h,fun _ h=> .inl h⟩
def y4p:Value->V
 | .int k n=> .d (.int k n)
 | .bool b=> .d (.bool b)
 | .string s=> .d (.str s)
 | .slice none 0 0=> .nils
 | .pointer none=> .nilp
 | .nilFunc=> .nilf
 | .nilIface=> .ifn true
 |_=> .any
def x5l:Value->V
 | .agg cs=> .agg (cs.toList.map y4p)
 |v=>y4p v
def y7m (w:World)(g:Gh)(v:Value):Rep w g v (y4p v):=by
 unfold y4p;split<;>first|exact .d (.int _ _)|exact .d (.bool _)|exact .d (.str _)|exact .nils|exact .nilp|exact .nilf|exact .ifn0|exact .any _
def y0o (w:World)(g:Gh)(v:Value):Rep w g v (x5l v):=by
 unfold x5l;split
 ·rename_i cs;refine .agg cs _ (by simp) fun i u c hu hc=> ?_
  rw[a0o,a0n]at hc;obtain⟨u',hu',rfl⟩:=hc;have:u=u':=by
   rw[<-a1a]at hu;exact Option.some.inj (hu.symm.trans hu')
  subst this;exact y7m w g u
 ·exact y7m w g v
structure VSt where
 t:List V
 h:List Box
def VSt.get (s:VSt):Operand->V
 | .tmp t=>s.t.getD t .any
 | .const v=>x5l v
 | .func f=> .fn f []
 | .global _=> .any
def x0p (P:Program)(M:List Nat)(h h':List Box)(ρ:Operand->V)(o:Oper)(x:V):Prop:=
 ∀(g:Gh) (a:Act) (w:World),SimH g h w->(∀y,Rep w g (a.eval y) (ρ y))->
  ∀(K:Act->World->Prop) (Q:Exit->Act->World->Prop),
   (∀u w' g',Rep w' g' u x->Keep M g h w g' h' w'->K (a.put o.dst u) w')->o.wp P a w K Q
section
variable {P : Program} {M : List Nat} {h h' : List Box} {ρ : Operand -> V} {o : Oper} {x : V}
def x0p.of_run (hr: ∀(g:Gh) (ρ':Operand->Value) (w:World),SimH g h w->(∀y,Rep w g (ρ' y) (ρ y))->
  ∃u w' g',(execOp ρ' o).run P w= .ok (.value u) w'/\Rep w' g' u x/\Keep M g h w g' h' w'):x0p P M h h' ρ o x:=by
 intro g a w hs hy K Q hK;obtain⟨u,w',g',e,r,k⟩:=hr g a.eval w hs hy;unfold Oper.wp;rw[e];exact hK u w' g' r k
def x0p.j1j (hr: ∀(g:Gh) (ρ':Operand->Value) (w:World),SimH g h w->(∀y,Rep w g (ρ' y) (ρ y))->
  ∃w' g',(execOp ρ' o).run P w= .ok .skip w'/\Keep M g h w g' h' w'):x0p P M h h' ρ o .any:=by
 intro g a w hs hy K Q hK;obtain⟨w',g',e,k⟩:=hr g a.eval w hs hy;unfold Oper.wp;rw[e];exact hK _ w' g' (.any _) k
def x0p.pure (hr: ∀(g:Gh) (ρ':Operand->Value) (w:World),SimH g h w->(∀y,Rep w g (ρ' y) (ρ y))->
  ∃u,(execOp ρ' o).run P w= .ok (.value u) w/\Rep w g u x):x0p P [] h h ρ o x:=
 .of_run fun g ρ' w hs hy=>let ⟨u,e,r⟩:=hr g ρ' w hs hy;⟨u,w,g,e,r, .refl hs⟩
def x9k {w:World}{g:Gh}{u:Value}{x:D}(hr:Rep w g u (.d x)):RepD w g.Z u x:=by cases hr;assumption
def x0o {w:World}{g:Gh}{u:Value}{k:IntKind}{n:Int}(hr:Rep w g u (.d (.int k n))):u= .int k n:=by cases hr with|d h=>cases h;rfl
def x4f {w:World}{g:Gh}{u:Value}{b:Bool}(hr:Rep w g u (.d (.bool b))):u= .bool b:=by cases hr with|d h=>cases h;rfl
def x2p {w:World}{g:Gh}{u:Value}{b:BA}(hr:Rep w g u (.d (.str b))):u= .string b:=by cases hr with|d h=>cases h;rfl
def x3p {w:World}{g:Gh}{u:Value}{b off:Nat}(hr:Rep w g u (.ptr b off)):u= .pointer (some ⟨g.blk b,off,none⟩)/\b < g.n:=by cases hr;exact⟨rfl,by assumption⟩
def x4w {w:World}{g:Gh}{u:Value}{b:Nat}(hr:Rep w g u (.own b)):u=g.val b/\b < g.n:=by cases hr;exact⟨rfl,by assumption⟩
def x7w {w:World}{g:Gh}{u:Value}{b sz i off:Nat}(hr:Rep w g u (.pml b sz i off)):u= .pointer (some ⟨g.blk b,i*sz+off,none⟩)/\b < g.n:=by cases hr;exact⟨rfl,by assumption⟩
def y4c (P:Program)(t:TypeId):Bool:=match P.underlying t with
 |some (.struct _)|some (.array _ _)=>true
 |_=>false
def x1q {t:TypeId}{b:Bool}(hx:(P.underlying t).isSome=true)(hb:y4c P t=b)(w:World):(isAgg t).run P w= .ok b w:=by
 unfold isAgg;unfold y4c at hb;obtain⟨d,hd⟩:=Option.isSome_iff_exists.1 hx;rw[hd]at hb;simp only[Sem.run_bind,run_underlying hd,Result.andThen_ok];cases d<;>simp_all
def szO (P:Program)(t:TypeId):Option Nat:=(P.info? t).map (·.size)
def x0s {t:TypeId}{n:Nat}(hn:szO P t=some n)(w:World):(sizeOf t).run P w= .ok n w:=by
 unfold szO at hn;obtain⟨i,hi,rfl⟩:=a0n.1 hn;simp[sizeOf,typeInfo,hi]
def y2u {y:Operand}(hop:o.op= .move y\/o.op= .assign y):x0p P [] h h ρ o (ρ y):=
 .pure fun g ρ' w hs hy=>⟨ρ' y,by rcases hop with e|e<;>simp[execOp,e],hy y⟩
def v2l {c y z:Operand}(hop:o.op= .pick c y z){b:Bool}(hc:ρ c= .d (.bool b)):x0p P [] h h ρ o (bif b then ρ y else ρ z):=
 .pure fun g ρ' w hs hy=>by
  have:=x4f (hc▸hy c);cases b
  ·exact⟨ρ' z,by simp[execOp,hop,this,asBool],by simpa using hy z⟩
  ·exact⟨ρ' y,by simp[execOp,hop,this,asBool],by simpa using hy y⟩
def x5d {w:World}{g:Gh}{b:Nat}{t:TypeId}{vs:List V}(hr:x1r w g b (.cells (.ty t) vs)):
  ∃us:Array Value,w.heap[g.blk b]? =some (.cells us t (0,0))/\us.size=vs.length/\ ∀(i:Nat) u v,us[i]? =some u->vs[i]? =some v->Rep w g u v:=by
 obtain⟨us,o,h1,h2,h3⟩:=hr;have h2:o= .cells us t (0,0):=h2;subst h2;exact⟨us,h1,h3⟩
def x2w {w:World}{b o:Nat}{us:Array Value}{t:TypeId}{fz:Nat × Nat}(hh:w.heap[b]? =some (.cells us t fz)):w.cell? ⟨b,o,none⟩=us[o]? :=by
 simp[World.cell?,hh]
def x4b (b o n:Nat):(⟨b,o,none⟩:Addr).add n=⟨b,o+n,none⟩:=by
 unfold Addr.add;split<;>simp_all
def z1u {t:TypeId}{y:Operand}{b off:Nat}{bt:TypeId}{vs:List V}{v:V}(hop:o.op= .load t y)(hy':ρ y= .ptr b off)(hb:h[b]? =some (.cells (.ty bt) vs))
  (hv:vs[off]? =some v) (hu:(P.underlying t).isSome=true) (ha:y4c P t=false):x0p P [] h h ρ o v:=
 .pure fun g ρ' w hs hy=>by
  obtain⟨e,hbn⟩:=x3p (hy'▸hy y);obtain⟨us,hh,hsz,hr⟩:=x5d (hs.rep b _ hb);have hlt:off < us.size:=by rw[hsz];exact(a0c.1 hv).1
  have hu':us[off]? =some us[off]:=a0x hlt;refine⟨us[off],?_,hr off _ _ hu' hv⟩;simp[execOp,hop,e,Instr.loadAt,Instr.sureAddr,loadVar,x1q hu ha,run_load,x2w hh,hu']
def z1t {t:TypeId}{y:Operand}{b off n:Nat}{bt:TypeId}{vs:List V}(hop:o.op= .load t y)(hy':ρ y= .ptr b off)(hb:h[b]? =some (.cells (.ty bt) vs))
  (hn:szO P t=some n) (hle:off+n<=vs.length) (hu:(P.underlying t).isSome=true) (ha:y4c P t=true):x0p P [] h h ρ o (.agg ((vs.drop off).take n)):=
 .pure fun g ρ' w hs hy=>by
  obtain⟨e,hbn⟩:=x3p (hy'▸hy y);obtain⟨us,hh,hsz,hr⟩:=x5d (hs.rep b _ hb);have hl:=run_loadCells (P:=P) w ⟨g.blk b,off,none⟩ n (fun j=>us[off+j]?.getD undef) (fun j hj=>by
   rw[x4b,x2w hh];simp[show off+j < us.size by omega])
  refine⟨.agg ((List.range n).map fun j=>us[off+j]?.getD undef).toArray,?_, .agg _ _ ?_ ?_⟩
  ·simp only[execOp,hop,e,Instr.loadAt,Instr.sureAddr,loadVar,Sem.run_bind,x1q hu ha,Sem.run_pure,Result.andThen_ok,if_true,x0s hn,hl]
  ·simp;omega
  ·intro i u c hu' hc;rw[a1s,a1x]at hc;split at hc
   ·rename_i hi;have e1:u=us[off+i]?.getD undef:=by simp[hi]at hu';exact hu'.symm
    have hlt:off+i < us.size:=by
     have:=(a0c.1 hc).1;omega
    refine hr (off+i) u c ?_ hc;rw[e1];simp[hlt]
   ·cases hc
inductive Sh where
 |int (k:IntKind)
 |bool
 |str
 |sl (sz:Nat)
 deriving DecidableEq
def z1s {t:TypeId}{y:Operand}{cs:List D}{x:D}(hop:o.op= .load t y)(hy':ρ y= .pel cs)(hx:cs[0]? =some x)
  (hu:(P.underlying t).isSome=true) (ha:y4c P t=false):x0p P [] h h ρ o (.d x):=
 .pure fun g ρ' w hs hy=>by
  have hr:=hy y;rw[hy']at hr;generalize hu0:ρ' y=u0 at hr;cases hr with
  |pel blk off _ U hZ hc hr=>
   refine⟨U 0,?_, .d (hr 0 x hx)⟩;have:=hc 0 x hx;simp only[Nat.add_zero]at this;simp[execOp,hop,hu0,Instr.loadAt,Instr.sureAddr,loadVar,x1q hu ha,run_load,this]
def z1r {t:TypeId}{y:Operand}{cs xs:List D}(hop:o.op= .load t y)(hy':ρ y= .pel cs)
  (hx: ∀(i:Nat) x,xs[i]? =some x->cs[i]? =some x) (hn:szO P t=some xs.length)
  (hu:(P.underlying t).isSome=true) (ha:y4c P t=true):x0p P [] h h ρ o (.agg (xs.map .d)):=
 .pure fun g ρ' w hs hy=>by
  have hr:=hy y;rw[hy']at hr;generalize hu0:ρ' y=u0 at hr;cases hr with
  |pel blk off _ U hZ hc hr=>
   have hl:=run_loadCells (P:=P) w ⟨blk,off,none⟩ xs.length U (fun j hj=>by
    rw[x4b];exact hc j xs[j] (hx j _ (a0b hj)))
   refine⟨.agg ((List.range xs.length).map U).toArray,?_, .agg _ _ (by simp) fun i u c hu' hc'=> ?_⟩
   ·simp only[execOp,hop,hu0,Instr.loadAt,Instr.sureAddr,loadVar,Sem.run_bind,x1q hu ha,Sem.run_pure,Result.andThen_ok,if_true,x0s hn,hl]
   ·rw[a0o,a0n]at hc';obtain⟨x,hx',rfl⟩:=hc';have hi:i < xs.length:=(a0c.1 hx').1;have e1:u=U i:=by simp[hi]at hu';exact hu'.symm
    subst e1;exact .d (hr i x (hx i x hx'))
def y2x {w:World}{g:Gh}{b:Nat}{e:TypeId}{sz:Nat}{rows:LL}(hr:x1r w g b (.arr e sz rows))(hne:0 < rows.length):
  ∃(us:Array Value) (cap:Nat),g.val b= .slice (some ⟨g.blk b,0,none⟩) rows.length cap/\rows.length<=cap/\cap<=maxLen/\
    w.heap[g.blk b]? =some (.cells us e (0,0))/\us.size=cap*sz/\(∀(i:Nat) (r:List D),rows[i]? =some r->r.length=sz)/\
    ∀(i:Nat) (r:List D) (j:Nat) (c:D),rows[i]? =some r->r[j]? =some c-> ∃u,us[i*sz+j]? =some u/\RepD w g.Z u c:=by
 obtain⟨hl,hr⟩:=hr;rcases hr with⟨_,rfl⟩|⟨us,cap,h1,h2,h2',h3,h4,h5⟩
 ·simp at hne
 ·exact⟨us,cap,h1,h2,h2',h3,h4,hl,h5⟩
def z1q {t:TypeId}{y:Operand}{b sz i off:Nat}{e:TypeId}{rows:LL}{x:D}(hop:o.op= .load t y)(hy':ρ y= .pml b sz i off)
  (hb:h[b]? =some (.arr e sz rows)) (hx:(rows.getD i [])[off]? =some x)
  (hu:(P.underlying t).isSome=true) (ha:y4c P t=false):x0p P [] h h ρ o (.d x):=
 .pure fun g ρ' w hs hy=>by
  obtain⟨e0,hbn⟩:=x7w (hy'▸hy y);have hi:i < rows.length:=by
   rcases Nat.lt_or_ge i rows.length with hi|hi
   ·exact hi
   ·rw[a0i,a2c hi]at hx;simp at hx
  rw[a0i,a0b hi]at hx;obtain⟨us,cap,h1,h2,_,h3,h4,h5,h6⟩:=y2x (hs.rep b _ hb) (by omega)
  obtain⟨u,hu',hr⟩:=h6 i _ off x (a0b hi) hx;refine⟨u,?_, .d hr⟩;simp[execOp,hop,e0,Instr.loadAt,Instr.sureAddr,loadVar,x1q hu ha,run_load,x2w h3,hu']
def z1p {t:TypeId}{y:Operand}{b sz i off:Nat}{e:TypeId}{rows:LL}{xs:List D}(hop:o.op= .load t y)(hy':ρ y= .pml b sz i off)
  (hb:h[b]? =some (.arr e sz rows)) (hx: ∀(j:Nat) x,xs[j]? =some x->(rows.getD i [])[off+j]? =some x) (hn:szO P t=some xs.length)
  (hu:(P.underlying t).isSome=true) (ha:y4c P t=true) (hi:i < rows.length):x0p P [] h h ρ o (.agg (xs.map .d)):=
 .pure fun g ρ' w hs hy=>by
  obtain⟨e0,hbn⟩:=x7w (hy'▸hy y);rw[a0i,a0b hi]at hx;obtain⟨us,cap,h1,h2,_,h3,h4,h5,h6⟩:=y2x (hs.rep b _ hb) (by omega)
  have hat: ∀j,j < xs.length-> ∃u,us[i*sz+(off+j)]? =some u/\RepD w g.Z u xs[j]! :=fun j hj=>by
   have:=h6 i _ (off+j) xs[j] (a0b hi) (hx j _ (a0b hj))
   rwa [show xs[j]! =xs[j]from getElem!_pos xs j hj]
  have hl:=run_loadCells (P:=P) w ⟨g.blk b,i*sz+off,none⟩ xs.length (fun j=>us[i*sz+(off+j)]?.getD undef) (fun j hj=>by
   obtain⟨u,hu',_⟩:=hat j hj;rw[x4b,x2w h3,show i*sz+off+j=i*sz+(off+j) by omega,hu'];rfl)
  refine⟨.agg ((List.range xs.length).map fun j=>us[i*sz+(off+j)]?.getD undef).toArray,?_, .agg _ _ (by simp) fun j u c hu' hc'=> ?_⟩
  ·simp only[execOp,hop,e0,Instr.loadAt,Instr.sureAddr,loadVar,Sem.run_bind,x1q hu ha,Sem.run_pure,Result.andThen_ok,if_true,x0s hn,hl]
  ·rw[a0o,a0n]at hc';obtain⟨x,hx',rfl⟩:=hc';obtain⟨hj,hjx⟩:=a0c.1 hx';obtain⟨u1,hu1,hr1⟩:=hat j hj;have e1:u=u1:=by simp[hj,hu1]at hu';exact hu'.symm
   subst e1;rw[show xs[j]! =xs[j]from getElem!_pos xs j hj,hjx]at hr1;exact .d hr1
end
section
variable {P : Program} {M : List Nat} {h h' : List Box} {ρ : Operand -> V} {o : Oper} {x : V}
def z0l {w:World}{g:Gh}{u:Value}{cs:List D}(hr:Rep w g u (.pel cs)): ∃(blk off:Nat) (U:Nat->Value),u= .pointer (some ⟨blk,off,none⟩)/\
  (∀(j:Nat) c,cs[j]? =some c->g.Z blk (off+j))/\(∀(j:Nat) c,cs[j]? =some c->w.cell? ⟨blk,off+j,none⟩=some (U j))/\(∀(j:Nat) c,cs[j]? =some c->RepD w g.Z (U j) c):=by
 cases hr with
 |pel blk off _ U hZ hc hr=>exact⟨blk,off,U,rfl,hZ,hc,hr⟩
def Rep.j1m {w:World}{g:Gh}{blk off:Nat}{cs:List D}{U:Nat->Value}(k:Nat)(hZ: ∀(j:Nat) c,cs[j]? =some c->g.Z blk (off+j))
  (hc: ∀(j:Nat) c,cs[j]? =some c->w.cell? ⟨blk,off+j,none⟩=some (U j)) (hr: ∀(j:Nat) c,cs[j]? =some c->RepD w g.Z (U j) c):
  Rep w g (.pointer (some ⟨blk,off+k,none⟩)) (.pel (cs.drop k)):=
 .pel blk (off+k) _ (fun j=>U (k+j))
  (fun j c hj=>by rw[a1x]at hj;rw[a2e];exact hZ _ _ hj)
  (fun j c hj=>by rw[a1x]at hj;rw[a2e];exact hc _ _ hj)
  (fun j c hj=>by rw[a1x]at hj;exact hr _ _ hj)
def k2q (P:Program)(s:TypeId)(f:Nat):Option Nat:=
 match P.underlying s with
 |some (.struct fs)=>match fs[f]? with
  |some fl=>match szO P fl.type with
   |some (_+1)=>some fl.offset
   |_=>none
  |none=>none
 |_=>none
def x8t {s:TypeId}{f k:Nat}(hk:k2q P s f=some k)(b off:Nat)(w:World):
  (Instr.fieldAt s (.pointer (some ⟨b,off,none⟩)) f).run P w= .ok (.pointer (some ⟨b,off+k,none⟩)) w:=by
 unfold k2q at hk;split at hk
 ·rename_i fs hs;split at hk
  ·rename_i fl hf;split at hk
   ·rename_i n hn;cases hk;simp[Instr.fieldAt,run_underlying hs,hf,Instr.sureAddr,fieldPlace,x0s hn,x4b]
   ·cases hk
  ·cases hk
 ·cases hk
def z1y {s:TypeId}{y:Operand}{f k:Nat}(hop:o.op= .fieldAddr s y f)(hk:k2q P s f=some k){v:V}
  (hv:(match ρ y with| .ptr b off=>some (.ptr b (off+k))| .pel cs=>some (.pel (cs.drop k))| .pml b sz i off=>some (.pml b sz i (off+k))|_=>none)=some v):x0p P [] h h ρ o v:=
 .pure fun g ρ' w hs hy=>by
  have hr:=hy y;split at hv<;>cases hv<;>rename_i heq<;>rw[heq]at hr
  ·obtain⟨e,hb⟩:=x3p hr;exact⟨_,by simp[execOp,hop,e,x8t hk], .ptr _ _ hb⟩
  ·obtain⟨blk,off,U,e,hZ,hc,hr⟩:=z0l hr;exact⟨_,by simp[execOp,hop,e,x8t hk], .j1m k hZ hc hr⟩
  ·obtain⟨e,hb⟩:=x7w hr;rename_i b sz i off;refine⟨.pointer (some ⟨g.blk b,i*sz+off+k,none⟩),by simp only[execOp,hop,e,Sem.run_bind,x8t hk,Result.andThen_ok,Sem.run_pure],?_⟩
   have:=Rep.pml (w:=w) (g:=g) b sz i (off+k) hb
   rwa [show i*sz+(off+k)=i*sz+off+k by omega]at this
def elO (P:Program)(t:TypeId):Option (TypeId × Nat):=
 match P.underlying t with
 |some (.slice e)=>(szO P e).map fun n=>(e,n)
 |_=>none
def y2w {t e:TypeId}{n:Nat}(hk:elO P t=some (e,n)):P.underlying t=some (.slice e)/\szO P e=some n:=by
 unfold elO at hk;split at hk
 ·rename_i e' he;obtain⟨m,hm,hh⟩:=a0n.1 hk;cases hh;exact⟨he,hm⟩
 ·cases hk
def x8s {t e:TypeId}{sz:Nat}(hk:elO P t=some (e,sz))(b off n cap:Nat)(k:IntKind)(i:Int)(h0:0<=i)(h1:i < n)(w:World):
  (Instr.indexAt t (.slice (some ⟨b,off,none⟩) n cap) (.int k i)).run P w= .ok (.pointer (some ⟨b,off+i.toNat*sz,none⟩)) w:=by
 obtain⟨hu,hn⟩:=y2w hk;simp[Instr.indexAt,asIntOf,run_underlying hu,h0,h1,x0s hn,x4b]
def x9j {w:World}{g:Gh}{u:Value}{sz:Nat}{rows:LL}(hr:Rep w g u (.d (.sl sz rows))):
  (u= .slice none 0 0/\rows= [])\/(∃(a:Addr) (cap:Nat),u= .slice (some a) 0 cap/\rows= [])\/ ∃(blk off cap:Nat) (U:Nat->Nat->Value),u= .slice (some ⟨blk,off,none⟩) rows.length cap/\rows.length<=cap/\
   (∀(i:Nat) (r:List D),rows[i]? =some r->r.length=sz)/\
   (∀(i:Nat) (r:List D) (j:Nat) (c:D),rows[i]? =some r->r[j]? =some c->g.Z blk (off+(i*sz+j)))/\
   (∀(i:Nat) (r:List D) (j:Nat) (c:D),rows[i]? =some r->r[j]? =some c->w.cell? ⟨blk,off+(i*sz+j),none⟩=some (U i j))/\
   (∀(i:Nat) (r:List D) (j:Nat) (c:D),rows[i]? =some r->r[j]? =some c->RepD w g.Z (U i j) c):=by
 have hr:=x9k hr;cases hr with
 |slnil=>exact .inl ⟨rfl,rfl⟩
 |slemp a cap=>exact .inr (.inl ⟨a,cap,rfl,rfl⟩)
 |sl blk off n cap _ _ U hn hcap hlen hZ hc hr'=>subst hn;exact .inr (.inr ⟨blk,off,cap,U,rfl,hcap,hlen,hZ,hc,hr'⟩)
def z4b {t e:TypeId}{y z:Operand}{sz:Nat}{rows:LL}{k:IntKind}{i:Int}(hop:o.op= .indexAddr t y z)(hk:elO P t=some (e,sz))
  (hy1:ρ y= .d (.sl sz rows)) (hz:ρ z= .d (.int k i)) (h0:0<=i) (h1:i < rows.length):x0p P [] h h ρ o (.pel (rows.getD i.toNat [])):=
 .pure fun g ρ' w hs hy=>by
  have ez:=x0o (hz▸hy z);have hi:i.toNat < rows.length:=by omega
  rcases x9j (hy1▸hy y)with⟨_,rfl⟩|⟨_,_,_,rfl⟩|⟨blk,off,cap,U,e1,hcap,hlen,hZ,hc,hr⟩
  ·simp at hi
  ·simp at hi
  ·refine⟨.pointer (some ⟨blk,off+i.toNat*sz,none⟩),by simp[execOp,hop,e1,ez,x8s hk _ _ _ _ _ _ h0 h1],?_⟩
   rw[a0i,a0b hi];have hri:=a0b hi;exact .pel blk _ _ (U i.toNat) (fun j c hj=>by rw[a2e];exact hZ _ _ _ _ hri hj) (fun j c hj=>by rw[a2e];exact hc _ _ _ _ hri hj) (fun j c hj=>hr _ _ _ _ hri hj)
def z1v {t e e':TypeId}{y z:Operand}{sz b:Nat}{rows:LL}{k:IntKind}{i:Int}(hop:o.op= .indexAddr t y z)(hk:elO P t=some (e,sz))
  (hy1:ρ y= .own b) (hb:h[b]? =some (.arr e' sz rows)) (hz:ρ z= .d (.int k i)) (h0:0<=i) (h1:i < rows.length):x0p P [] h h ρ o (.pml b sz i.toNat 0):=
 .pure fun g ρ' w hs hy=>by
  have ez:=x0o (hz▸hy z);obtain⟨e1,hbn⟩:=x4w (hy1▸hy y);obtain⟨us,cap,e2,_⟩:=y2x (hs.rep b _ hb) (by omega)
  rw[e2]at e1;refine⟨.pointer (some ⟨g.blk b,i.toNat*sz,none⟩),by simp[execOp,hop,e1,ez,x8s hk _ _ _ _ _ _ h0 h1],?_⟩
  exact .pml b sz i.toNat 0 hbn
def z1w {t e:TypeId}{y z:Operand}{sz b:Nat}{lo n:Int}{k:IntKind}{i:Int}(hop:o.op= .indexAddr t y z)(hk:elO P t=some (e,sz))
  (hy1:ρ y= .osl b sz lo n) (hz:ρ z= .d (.int k i)) (h0:0<=i) (h1:i < n):x0p P [] h h ρ o (.pml b sz (lo+i).toNat 0):=
 .pure fun g ρ' w hs hy=>by
  have ez:=x0o (hz▸hy z);have hr:=hy y;rw[hy1]at hr;generalize hu0:ρ' y=u0 at hr;cases hr with
  |osl _ _ _ _ u hb hu=>
   obtain⟨hlo,hn0,hu⟩:=hu;rcases hu with⟨q1,A,c,rfl⟩|⟨c,rfl,_⟩
   ·omega
   ·refine⟨.pointer (some ⟨g.blk b,(lo+i).toNat*sz+0,none⟩),?_, .pml b sz _ 0 hb⟩;have e1:lo.toNat*sz+i.toNat*sz=(lo+i).toNat*sz+0:=by rw[<-Nat.add_mul,Nat.add_zero];congr 1;omega
    have:=x8s hk (g.blk b) (lo.toNat*sz) n.toNat c k i h0 (by omega) w
    rw[e1]at this;simp[execOp,hop,hu0,ez,this]
def k8i (P:Program)(t:TypeId)(z:Operand):Option (Nat × Int):=
 match P.underlying t,z with
 |some (.array n e), .const (.int _ i)=>match szO P e with
  |some (sz+1)=>match decide (0<=i/\i < n)with
   |true=>some (i.toNat*(sz+1),i)
   |false=>none
  |_=>none
 |_,_=>none
def w1z {t:TypeId}{z:Operand}{k:Nat}{i:Int}(hk:k8i P t z=some (k,i)): ∃n e sz,P.underlying t=some (.array n e)/\szO P e=some sz/\0<=i/\i < n/\k=i.toNat*sz:=by
 unfold k8i at hk;split at hk
 ·rename_i n e kd i' hu;split at hk
  ·rename_i sz hs;split at hk
   ·rename_i hd;have hd:=a0e hd;cases hk;exact⟨n,e,_,hu,hs,hd.1,hd.2,rfl⟩
   ·cases hk
  ·cases hk
 ·cases hk
def z1x {t:TypeId}{y z:Operand}{k:Nat}{kd:IntKind}{i:Int}(hop:o.op= .indexAddr t y z)(hk:k8i P t z=some (k,i))(hz:ρ z= .d (.int kd i)){v:V}
  (hv:(match ρ y with| .ptr b off=>some (.ptr b (off+k))| .pel cs=>some (.pel (cs.drop k))| .pml b sz i off=>some (.pml b sz i (off+k))|_=>none)=some v):x0p P [] h h ρ o v:=
 .pure fun g ρ' w hs hy=>by
  obtain⟨n,e,sz,hu,hsz,h0,h1,rfl⟩:=w1z hk;have ez:=x0o (hz▸hy z);have hr:=hy y;have run: ∀(b off:Nat),((Instr.indexAt t (.pointer (some ⟨b,off,none⟩)) (.int kd i)).run P w= .ok (.pointer (some ⟨b,off+i.toNat*sz,none⟩)) w):=fun b off=>by
   simp[Instr.indexAt,asIntOf,run_underlying hu,Instr.sureAddr,h0,h1,x0s hsz,x4b]
  split at hv<;>cases hv<;>rename_i heq<;>rw[heq]at hr
  ·obtain⟨e,hb⟩:=x3p hr;exact⟨_,by simp[execOp,hop,e,ez,run], .ptr _ _ hb⟩
  ·obtain⟨blk,off,U,e,hZ,hc,hr⟩:=z0l hr;exact⟨_,by simp[execOp,hop,e,ez,run], .j1m _ hZ hc hr⟩
  ·obtain⟨e,hb⟩:=x7w hr;rename_i b sz' j off;refine⟨.pointer (some ⟨g.blk b,j*sz'+off+i.toNat*sz,none⟩),by simp[execOp,hop,e,ez,run],?_⟩
   have:=Rep.pml (w:=w) (g:=g) b sz' j (off+i.toNat*sz) hb
   rwa [show j*sz'+(off+i.toNat*sz)=j*sz'+off+i.toNat*sz by omega]at this
def x9b {w:World}{g:Gh}{b:Nat}{e:TypeId}{sz:Nat}{rows:LL}(hr:x1r w g b (.arr e sz rows)): ∃A cap,g.val b= .slice A rows.length cap:=by
 obtain⟨_,hr⟩:=hr;rcases hr with⟨h,rfl⟩|⟨us,cap,h1,_⟩
 ·exact⟨none,0,h⟩
 ·exact⟨_,cap,h1⟩
def q3t (h:List Box):V->Option Int
 | .nils=>some 0
 | .d (.sl _ rows)=>some rows.length
 | .d (.str s)=>some s.size
 | .own b=>match h[b]? with
   |some (.arr _ _ rows)=>some rows.length
   |_=>none
 | .osl _ _ _ n=>some n
 |_=>none
def u1m {y:Operand}{ts:Array TypeId}{t:TypeId}{n:Int}(hop:o.op= .call { callee:= .builtin .len,args:= #[y],argTypes:=ts })(ht:ts[0]? =some t)
  (hn:q3t h (ρ y)=some n) (hstr: ∀s,ρ y= .d (.str s)->P.underlying t=some .string) (hsl:(∀s,ρ y≠ .d (.str s))-> ∃e,P.underlying t=some (.slice e)):
  x0p P [] h h ρ o (.d (.int .i64 n)):=
 .pure fun g ρ' w hs hy=>by
  have hr:=hy y;have key: ∀(A:Option Addr) (m c:Nat),(∃e,P.underlying t=some (.slice e))->ρ' y= .slice A m c->(n=(m:Int))-> ∃u,(execOp ρ' o).run P w= .ok (.value u) w/\Rep w g u (.d (.int .i64 n)):=by
   rintro A m c ⟨e,he⟩ e1 rfl
   refine⟨.int .i64 m,?_, .d (.int _ _)⟩;simp[execOp,hop,resolve,invoke,builtin,Builtin.len_,ht,e1,run_underlying he,goInt]
  unfold q3t at hn;split at hn
  ·rename_i heq;rw[heq]at hr hsl;cases hn;generalize hu0:ρ' y=u0 at hr;cases hr;exact key none 0 0 (hsl (by simp)) hu0 rfl
  ·rename_i sz rows heq;rw[heq]at hr hsl;cases hn;rcases x9j hr with⟨e1,rfl⟩|⟨_,_,e1,rfl⟩|⟨blk,off,cap,U,e1,_⟩
   ·exact key _ _ _ (hsl (by simp)) e1 rfl
   ·exact key _ _ _ (hsl (by simp)) e1 rfl
   ·exact key _ _ _ (hsl (by simp)) e1 rfl
  ·rename_i s heq;rw[heq]at hr;cases hn;have e1:=x2p hr;refine⟨.int .i64 s.size,?_, .d (.int _ _)⟩;simp[execOp,hop,resolve,invoke,builtin,Builtin.len_,ht,e1,run_underlying (hstr s heq),goInt]
  ·rename_i b heq;rw[heq]at hr hsl;split at hn
   ·rename_i e sz rows hb;cases hn;obtain⟨e1,hbn⟩:=x4w hr;obtain⟨A,cap,e2⟩:=x9b (hs.rep b _ hb);exact key _ _ _ (hsl (by simp)) (e1.trans e2) rfl
   ·cases hn
  ·rename_i b sz lo n' heq;rw[heq]at hr hsl;cases hn;generalize hu0:ρ' y=u0 at hr;cases hr with
   |osl _ _ _ _ u hb hu=>
    obtain⟨_,hn0,hu⟩:=hu;rcases hu with⟨q1,A,c,rfl⟩|⟨c,rfl,_⟩
    ·exact key _ _ _ (hsl (by simp)) hu0 (by omega)
    ·exact key _ _ _ (hsl (by simp)) hu0 (by omega)
  ·cases hn
def cmpI (op:BinOp)(a b:Int):Option Bool:=match op with
 | .eql=>some (a == b)
 | .neq=>some (a != b)
 | .lss=>some (a < b)
 | .leq=>some (a<=b)
 | .gtr=>some (a > b)
 | .geq=>some (a >= b)
 |_=>none
def ariI (op:BinOp)(k:IntKind)(a b:Int):Option Int:=match op with
 | .add=>some (k.wrap (a+b))
 | .sub=>some (k.wrap (a - b))
 | .mul=>some (k.wrap (a*b))
 |_=>none
def k8f (op:BinOp)(k:IntKind)(a b:Int):Option D:=match ariI op k a b with
 |some n=>some (.int k n)
 |none=>(cmpI op a b).map .bool
def x2z (op:BinOp)(t:TypeId)(x y:Operand)(k k':IntKind)(a b:Int)(w:World):(eqGuard op t x y (.int k a) (.int k' b)).run P w= .ok () w:=by
 cases op<;>simp[eqGuard]
def y8d (op:BinOp)(t:TypeId)(x y:Operand)(a b:Bool)(w:World):(eqGuard op t x y (.bool a) (.bool b)).run P w= .ok () w:=by
 cases op<;>simp[eqGuard]
def y1u (op:BinOp)(t:TypeId)(x y:Operand)(a b:BA)(w:World):(eqGuard op t x y (.string a) (.string b)).run P w= .ok () w:=by
 cases op<;>simp[eqGuard]
def v2q {op:BinOp}{t u:TypeId}{y z:Operand}{k:IntKind}{a b:Int}{d:D}(hop:o.op= .binOp op t y z u)(hy1:ρ y= .d (.int k a))(hz1:ρ z= .d (.int k b))
  (hd:k8f op k a b=some d):x0p P [] h h ρ o (.d d):=
 .pure fun g ρ' w hs hy=>by
  have e1:=x0o (hy1▸hy y);have e2:=x0o (hz1▸hy z);cases op<;>simp[k8f,ariI,cmpI]at hd<;>subst hd<;>
   first
   |(refine⟨.int k _,?_, .d (.int _ _)⟩;simp[execOp,hop,e1,e2,x2z,binOp,Op.intArith];done)
   |(refine⟨.bool _,?_, .d (.bool _)⟩;simp[execOp,hop,e1,e2,x2z,binOp,Op.intCmp];done)
def v9d {t u:TypeId}{y z:Operand}{k:IntKind}{a b:Int}(hop:o.op= .binOp .quo t y z u)(hy1:ρ y= .d (.int k a))(hz1:ρ z= .d (.int k b))(hb:b≠0):x0p P [] h h ρ o (.d (.int k (k.wrap (a.tdiv b)))):=
 .pure fun g ρ' w hs hy=>by
  have e1:=x0o (hy1▸hy y);have e2:=x0o (hz1▸hy z);refine⟨.int k _,?_, .d (.int _ _)⟩;simp[execOp,hop,e1,e2,x2z,binOp,Op.intDiv,hb]
def v9c {t u:TypeId}{y z:Operand}{k:IntKind}{a b:Int}(hop:o.op= .binOp .rem t y z u)(hy1:ρ y= .d (.int k a))(hz1:ρ z= .d (.int k b))(hb:b≠0):x0p P [] h h ρ o (.d (.int k (a.tmod b))):=
 .pure fun g ρ' w hs hy=>by
  have e1:=x0o (hy1▸hy y);have e2:=x0o (hz1▸hy z);refine⟨.int k _,?_, .d (.int _ _)⟩;simp[execOp,hop,e1,e2,x2z,binOp,Op.intDiv,hb]
def q7h (k:IntKind)(a b:Int):Int:=k.wrap ((BitVec.ofInt k.bits a &&& BitVec.ofInt k.bits b).toNat:Int)
def borI (k:IntKind)(a b:Int):Int:=k.wrap ((BitVec.ofInt k.bits a ||| BitVec.ofInt k.bits b).toNat:Int)
def q6u (k:IntKind)(a b:Int):Int:=k.wrap ((BitVec.ofInt k.bits a ^^^ BitVec.ofInt k.bits b).toNat:Int)
def w1y (k:IntKind)(a b:Int):Int:=k.wrap ((BitVec.ofInt k.bits a &&& ~~~ BitVec.ofInt k.bits b).toNat:Int)
def k9c (k:IntKind)(a b:Int):Int:=k.wrap (a*2 ^ (min b.toNat k.bits))
def k9b (k:IntKind)(a b:Int):Int:=a.fdiv (2 ^ (min b.toNat k.bits))
def bitI (op:BinOp)(k:IntKind)(a b:Int):Option Int:=match op with
 | .and=>some (q7h k a b)
 | .or=>some (borI k a b)
 | .xor=>some (q6u k a b)
 | .andNot=>some (w1y k a b)
 |_=>none
def v2o {op:BinOp}{t u:TypeId}{y z:Operand}{k:IntKind}{a b c:Int}(hop:o.op= .binOp op t y z u)(hy1:ρ y= .d (.int k a))(hz1:ρ z= .d (.int k b))(hd:bitI op k a b=some c):x0p P [] h h ρ o (.d (.int k c)):=
 .pure fun g ρ' w hs hy=>by
  have e1:=x0o (hy1▸hy y);have e2:=x0o (hz1▸hy z);refine⟨.int k c,?_, .d (.int _ _)⟩;cases op<;>simp only[bitI,reduceCtorEq,Option.some.injEq]at hd<;>subst hd<;>
   simp[execOp,hop,e1,e2,x2z,binOp,Op.intBits,q7h,borI,q6u,w1y]
def v9b {t u:TypeId}{y z:Operand}{k k':IntKind}{a b:Int}(hop:o.op= .binOp .shl t y z u)(hy1:ρ y= .d (.int k a))(hz1:ρ z= .d (.int k' b))(hb:0<=b):x0p P [] h h ρ o (.d (.int k (k9c k a b))):=
 .pure fun g ρ' w hs hy=>by
  have e1:=x0o (hy1▸hy y);have e2:=x0o (hz1▸hy z);have hb': ¬b < 0:=by omega
  refine⟨.int k _,?_, .d (.int _ _)⟩;simp[execOp,hop,e1,e2,x2z,binOp,Op.shift,k9c,hb']
def v9a {t u:TypeId}{y z:Operand}{k k':IntKind}{a b:Int}(hop:o.op= .binOp .shr t y z u)(hy1:ρ y= .d (.int k a))(hz1:ρ z= .d (.int k' b))(hb:0<=b):x0p P [] h h ρ o (.d (.int k (k9b k a b))):=
 .pure fun g ρ' w hs hy=>by
  have e1:=x0o (hy1▸hy y);have e2:=x0o (hz1▸hy z);have hb': ¬b < 0:=by omega
  refine⟨.int k _,?_, .d (.int _ _)⟩;simp[execOp,hop,e1,e2,x2z,binOp,Op.shift,k9b,hb']
def z3r {t:TypeId}(hu:P.underlying t=some .bool)(a b:Bool)(w:World):(Op.equal t (.bool a) (.bool b)).run P w= .ok (a == b) w:=by
 show(Op.equalIn (9999+1) t (.bool a) (.bool b)).run P w=_;unfold Op.equalIn;simp only[Sem.run_bind,run_underlying hu,Result.andThen_ok,Sem.run_pure]
def z5k {op:BinOp}{t u:TypeId}{y z:Operand}{a b:Bool}{c:Bool}(hop:o.op= .binOp op t y z u)(hy1:ρ y= .d (.bool a))(hz1:ρ z= .d (.bool b))
  (hu:P.underlying t=some .bool) (hd:(match op with| .eql=>some (a == b)| .neq=>some (!(a == b))|_=>none)=some c):x0p P [] h h ρ o (.d (.bool c)):=
 .pure fun g ρ' w hs hy=>by
  have e1:=x4f (hy1▸hy y);have e2:=x4f (hz1▸hy z);refine⟨.bool c,?_, .d (.bool _)⟩;cases op<;>cases hd<;>
   simp[execOp,hop,e1,e2,y8d,binOp,z3r hu]
def w1v (op:BinOp)(a b:BA):Option Bool:=match op with
 | .eql=>some (a.toList == b.toList)
 | .neq=>some !(a.toList == b.toList)
 | .lss=>some (Op.bytesLess a.toList b.toList)
 | .leq=>some (Op.bytesLess a.toList b.toList || a.toList == b.toList)
 | .gtr=>some !(Op.bytesLess a.toList b.toList || a.toList == b.toList)
 | .geq=>some !(Op.bytesLess a.toList b.toList)
 |_=>none
def v2p {op:BinOp}{t u:TypeId}{y z:Operand}{a b:BA}{c:Bool}(hop:o.op= .binOp op t y z u)(hy1:ρ y= .d (.str a))(hz1:ρ z= .d (.str b))
  (hd:w1v op a b=some c):x0p P [] h h ρ o (.d (.bool c)):=
 .pure fun g ρ' w hs hy=>by
  have e1:=x2p (hy1▸hy y);have e2:=x2p (hz1▸hy z);refine⟨.bool c,?_, .d (.bool _)⟩;unfold w1v at hd;cases op<;>cases hd<;>
   simp[execOp,hop,e1,e2,y1u,binOp,Op.stringOp]
def v2r {t u:TypeId}{y z:Operand}{a b:BA}(hop:o.op= .binOp .add t y z u)(hy1:ρ y= .d (.str a))(hz1:ρ z= .d (.str b))
  (hd:a.size+b.size<=9223372036854775807):x0p P [] h h ρ o (.d (.str (a++b))):=
 .pure fun g ρ' w hs hy=>by
  have e1:=x2p (hy1▸hy y);have e2:=x2p (hz1▸hy z);refine⟨.string (a++b),?_, .d (.str _)⟩;have: ¬((a.size+b.size:Nat):Int) > IntKind.i64.max:=by
   simp only[IntKind.max,IntKind.bits,IntKind.signed];simp;omega
  simp only[execOp,hop,e1,e2,Sem.run_bind,y1u,binOp,Op.stringOp,Result.andThen_ok,if_neg this,Sem.run_pure]
def v9e {t:TypeId}{y:Operand}{b:Bool}(hop:o.op= .unOp .not t y)(hy1:ρ y= .d (.bool b)):x0p P [] h h ρ o (.d (.bool !b)):=
 .pure fun g ρ' w hs hy=>⟨.bool !b,by simp[execOp,hop,x4f (hy1▸hy y),Op.unary], .d (.bool _)⟩
def v9f {t:TypeId}{y:Operand}{k:IntKind}{n:Int}(hop:o.op= .unOp .neg t y)(hy1:ρ y= .d (.int k n)):x0p P [] h h ρ o (.d (.int k (k.wrap (0 - n)))):=
 .pure fun g ρ' w hs hy=>⟨.int k (k.wrap (0 - n)),by simp[execOp,hop,x0o (hy1▸hy y),Op.unary,Op.intArith], .d (.int _ _)⟩
def u5o {s t:TypeId}{y:Operand}{k k':IntKind}{n:Int}(hop:o.op= .convert s t y)(hy1:ρ y= .d (.int k n))(hu:P.underlying t=some (.int k'))(hu':(P.underlying s).isSome=true):
  x0p P [] h h ρ o (.d (.int k' (k'.wrap n))):=
 .pure fun g ρ' w hs hy=>by
  obtain⟨d,hd⟩:=Option.isSome_iff_exists.1 hu';exact⟨.int k' (k'.wrap n),by simp[execOp,hop,x0o (hy1▸hy y),convert,run_underlying hd,run_underlying hu,Conv.intToInt], .d (.int _ _)⟩
def z7n {y:Operand}{i:Nat}{cs:List V}{v:V}(hop:o.op= .extract y i)(hy1:ρ y= .tup cs)(hv:cs[i]? =some v):x0p P [] h h ρ o v:=
 .pure fun g ρ' w hs hy=>by
  have hr:=hy y;rw[hy1]at hr;generalize hu0:ρ' y=u0 at hr;cases hr with
  |tup us _ hl hr=>
   have hi:i < us.size:=by rw[hl];exact(a0c.1 hv).1
   exact⟨us[i],by simp[execOp,hop,hu0,Instr.extract,hi],hr i _ _ (a0x hi) hv⟩
def V.j2i:V->Bool
 | .ptr .. | .pel _| .pml .. | .fn .. =>true
 |_=>false
def z3y {y:Operand}(hop:o.op= .nilCheck y)(hv:(ρ y).j2i=true):x0p P [] h h ρ o (ρ y):=
 .pure fun g ρ' w hs hy=>by
  have hr:=hy y;refine⟨ρ' y,?_,hr⟩;generalize hx:ρ y=v at hr hv;generalize hu0:ρ' y=u0 at hr;cases hr<;>simp[V.j2i]at hv<;>simp[execOp,hop,hu0]
end
def Box.kill (M:List Nat):Box->Box
 | .cells t vs=> .cells t (vs.map (V.kill M))
 |x=>x
def V.j1w (v:V):v.j0d []=v:=by cases v<;>rfl
def V.j0c (v:V):v.kill []=v:=by
 have h: ∀cs:List V,cs.map (V.j0d [])=cs:=fun cs=>by
  rw[show V.j0d []=id from funext V.j1w];simp
 cases v<;>first|rfl|simp[V.kill,h]
def Box.j0c (x:Box):x.kill []=x:=by
 cases x with
 |cells t vs=>simp only[Box.kill];rw[show V.kill []=id from funext V.j0c];simp
 |_=>rfl
def Box.at?_kill (M:List Nat)(g:Gh)(b:Nat)(x:Box):(x.kill M).at? g b=x.at? g b:=by cases x<;>rfl
def x2v (h:List Box):h.map (Box.kill [])=h:=by
 rw[show Box.kill []=id from funext Box.j0c];simp
def Box.at?_congr {g g':Gh}{b:Nat}(h1:g'.blk b=g.blk b)(h2:g'.val b=g.val b)(x:Box):x.at? g' b=x.at? g b:=by
 cases x<;>simp[Box.at?,h1,h2]
def x1r.over {M:List Nat}{w w':World}{g g':Gh}(ho:Over M w g w' g'){b:Nat}{x:Box}(hb:b < g.n)(hm:b ∉ M)
  (hblk: ∀k,x.at? g b=some k->w'.heap[k]? =w.heap[k]?) (hr:x1r w g b x):x1r w' g' b (x.kill M):=by
 have e1:=ho.le.blk b hb hm;have e2:=ho.le.val b hb hm;cases x with
 |gone=>trivial
 |mp kk rows=>
  obtain⟨ens,clock,h1,h2,h3,h4⟩:=hr;refine⟨ens,clock,by rw[e1,hblk _ rfl];exact h1,by rw[e2,e1];exact h2,h3,fun i e r he hr=> ?_⟩
  obtain⟨k,v,p1,p2,p3,p4⟩:=h4 i e r he hr;exact⟨k,v,p1,p2,ho.j0z p3,ho.j0z p4⟩
 |cells t vs=>
  obtain⟨us,o,h1,h0,h2,h3⟩:=hr;refine⟨us,o,by rw[e1,hblk _ rfl];exact h1,by rw[ho.le.cd b hb];exact h0,by simpa using h2,fun i u v hu hv=> ?_⟩
  rw[a0o,a0n]at hv;obtain⟨v',hv',rfl⟩:=hv;exact ho.kill (h3 i u v' hu hv')
 |arr e sz rows=>
  obtain⟨hl,hr⟩:=hr;refine⟨hl,?_⟩;rcases hr with⟨h1,h2⟩|⟨us,cap,h1,h2,h2',h3,h4,h5⟩
  ·exact .inl ⟨e2.trans h1,h2⟩
  ·refine .inr ⟨us,cap,by rw[e1,e2];exact h1,h2,h2',?_,h4,fun i r j c hi hj=> ?_⟩
   ·rw[e1,hblk _ (by simp[Box.at?,h1])];exact h3
   ·obtain⟨u,hu,hd⟩:=h5 i r j c hi hj;exact⟨u,hu,ho.j0z hd⟩
 |ful sz rows=>
  obtain⟨A,h1,h2⟩:=hr;exact⟨A,e2.trans h1,by rw[e2];exact ho.j0z h2⟩
def x1r.lt {w:World}{g:Gh}{b:Nat}{x:Box}(hr:x1r w g b x){k:Nat}(hk:x.at? g b=some k):k < w.heap.size:=by
 have key: ∀(us:Array Value) (t:TypeId) (f:Nat × Nat),w.heap[k]? =some (.cells us t f)->k < w.heap.size:=fun us t f h=>(a0r.1 h).1
 cases x with
 |gone=>simp[Box.at?]at hk
 |ful sz rows=>simp[Box.at?]at hk
 |mp kk rows=>
  obtain⟨ens,clock,h1,_⟩:=hr;simp only[Box.at?,Option.some.injEq]at hk;subst hk;exact(a0r.1 h1).1
 |cells t vs=>
  obtain⟨us,o,h1,_⟩:=hr;simp only[Box.at?,Option.some.injEq]at hk;subst hk;exact(a0r.1 h1).1
 |arr e sz rows=>
  obtain⟨_,hr⟩:=hr;rcases hr with⟨h1,h2⟩|⟨us,cap,h1,h2,_,h3,h4,h5⟩
  ·simp[Box.at?,h1]at hk
  ·simp only[Box.at?,h1,Option.some.injEq]at hk;subst hk;exact key _ _ _ h3
def SimH.j0r {g:Gh}{h:List Box}{w:World}(hs:SimH g h w){k:Nat}(hk:x2r g h k):k < w.heap.size:=by
 obtain⟨b,x,hx,hat⟩:=hk;exact(hs.rep b x hx).lt hat
def Gh.push (g:Gh)(k:Nat)(v:Value)(R:Option RecG:=none):Gh:= { g with n:=g.n+1,blk:=fun b=>if b=g.n then k else g.blk b,val:=fun b=>if b=g.n then v else g.val b,cd:=fun b=>if b=g.n then R else g.cd b }
def Gh.j0u (g:Gh)(k:Nat)(v:Value)(R:Option RecG:=none):g.Le (· ∈([]:List Nat)) (g.push k v R):=
 ⟨fun _ _ h=>h,Nat.le_succ _,fun b hb _=>by simp[Gh.push,Nat.ne_of_lt hb],fun b hb _=>by simp[Gh.push,Nat.ne_of_lt hb],fun b hb=>by simp[Gh.push,Nat.ne_of_lt hb]⟩
def Keep.push {g:Gh}{h:List Box}{w w':World}(hs:SimH g h w)(k:Nat)(v:Value)(x:Box)(hfr:Fr (fun _=>False) w w'){R:Option RecG}
  (hx:x1r w' (g.push k v R) g.n x) (hat: ∀k',x.at? (g.push k v R) g.n=some k'->w.heap.size<=k'):Keep [] g h w (g.push k v R) (h++[x]) w':=by
 have hle:=g.j0u k v R;have ho:Over [] w g w' (g.push k v R):=⟨hle,fun b o hz=>hfr.cell (hs.zlt b o hz) (fun h=>h)⟩
 have hget: ∀(b:Nat) y,(h++[x])[b]? =some y->(b < g.n/\h[b]? =some y)\/(b=g.n/\y=x):=by
  intro b y hy;rw[a0y]at hy;split at hy
  ·rename_i hb;exact .inl ⟨by rw[hs.n];exact hb,hy⟩
  ·rename_i hb;have:b - h.length=0:=by
    rcases Nat.eq_zero_or_pos (b - h.length)with h0|h0
    ·exact h0
    ·rw[a2c (by simp;omega)]at hy;cases hy
   rw[this]at hy;simp at hy;exact .inr ⟨by rw[hs.n];omega,hy.symm⟩
 have hat': ∀(b:Nat) (y:Box),b < g.n->y.at? (g.push k v R) b=y.at? g b:=fun b y hb=>Box.at?_congr (hle.blk b hb (by simp)) (hle.val b hb (by simp)) y
 have hown: ∀k',x2r (g.push k v R) (h++[x]) k'->x2r g h k'\/w.heap.size<=k':=by
  rintro k' ⟨b,y,hy,hk'⟩
  rcases hget b y hy with⟨hb,hy⟩|⟨rfl,rfl⟩
  ·rw[hat' b y hb]at hk';exact .inl ⟨b,y,hy,hk'⟩
  ·exact .inr (hat k' hk')
 refine⟨⟨by simp[Gh.push,hs.n],?_,?_,?_,?_,hs.tab.over ho⟩,hle,hfr.mono (fun _ h=>h.elim),fun b o hz=> .inl hz,hown⟩
 ·intro b y hy;rcases hget b y hy with⟨hb,hy⟩|⟨rfl,rfl⟩
  ·have:=x1r.over ho hb (by simp) (fun k' hk'=>hfr.block k' ((hs.rep b y hy).lt hk') (fun h=>h)) (hs.rep b y hy)
   rwa [Box.j0c]at this
  ·exact hx
 ·intro b c y z k' hy hz h1 h2;rcases hget b y hy with⟨hb,hy'⟩|⟨hb,hy'⟩<;>rcases hget c z hz with⟨hc,hz'⟩|⟨hc,hz'⟩
  ·rw[hat' b y hb]at h1;rw[hat' c z hc]at h2;exact hs.sep b c y z k' hy' hz' h1 h2
  ·rw[hat' b y hb]at h1;have:=(hs.rep b y hy').lt h1;subst hc;subst hz';have:=hat k' h2;omega
  ·rw[hat' c z hc]at h2;have:=(hs.rep c z hz').lt h2;subst hb;subst hy';have:=hat k' h1;omega
  ·exact hb.trans hc.symm
 ·intro k' o hk' hz;rcases hown k' hk' with h'|h'
  ·exact hs.zsep k' o h' hz
  ·have:=hs.zlt k' o hz;omega
 ·intro b o hz;exact a1c (hs.zlt b o hz) hfr.size
section
variable {P : Program} {M : List Nat} {h h' : List Box} {ρ : Operand -> V} {o : Oper} {x : V}
def x7h (w:World)(o:Obj):(w.alloc o).heap[w.heap.size]? =some o:=by
 show(w.heap.push o)[w.heap.size]? =_;simp
def Keep.alloc {g:Gh}{w:World}(hs:SimH g h w)(us:Array Value)(t:TypeId)(vs:List V)(hl:us.size=vs.length)
  (hr: ∀(i:Nat) u v,us[i]? =some u->vs[i]? =some v->Rep w g u v):
  Keep [] g h w (g.push w.heap.size undef) (h++[.cells (.ty t) vs]) (w.alloc (.cells us t))/\Rep (w.alloc (.cells us t)) (g.push w.heap.size undef) (.pointer (some ⟨w.heap.size,0,none⟩)) (.ptr h.length 0):=by
 have hb:(g.push w.heap.size undef).blk g.n=w.heap.size:=by simp[Gh.push]
 have hfr:Fr (fun _=>False) w (w.alloc (.cells us t)):=Fr.alloc _ _ _
 have ho:Over [] w g (w.alloc (.cells us t)) (g.push w.heap.size undef):=⟨g.j0u _ _,fun b o hz=>hfr.cell (hs.zlt b o hz) (fun h=>h)⟩
 refine⟨Keep.push hs _ _ _ hfr ⟨us,_,by rw[hb];exact x7h w _,rfl,hl,fun i u v hu hv=>ho.j0b (hr i u v hu hv)⟩ (fun k' hk'=> ?_),?_⟩
 ·simp only[Box.at?,hb,Option.some.injEq]at hk';omega
 ·have:=Rep.ptr (w:=w.alloc (.cells us t)) (g:=g.push w.heap.size undef) g.n 0 (by simp[Gh.push])
  rwa [hb,hs.n]at this
def V.j0f:V->Option (List V)
 | .agg cs=>some cs
 | .any| .tup _=>none
 |v=>some [v]
def x7x {w:World}{g:Gh}{u:Value}{v:V}{vs:List V}(hr:Rep w g u v)(hv:v.j0f=some vs)(hown: ∀b,v= .own b\/v= .map b-> ∀cs,g.val b≠ .agg cs):
  u.cells.size=vs.length/\ ∀(i:Nat) u' v',u.cells[i]? =some u'->vs[i]? =some v'->Rep w g u' v':=by
 have one: ∀ {u:Value} {v:V},Rep w g u v->u.cells= #[u]->v.j0f=some [v]->v.j0f=some vs->u.cells.size=vs.length/\ ∀(i:Nat) u' v',u.cells[i]? =some u'->vs[i]? =some v'->Rep w g u' v':=by
  intro u v hr hc h1 h2;rw[h1]at h2;cases h2;rw[hc];refine⟨rfl,fun i u' v' hu hv=> ?_⟩
  cases i with
  |zero=>simp at hu hv;subst hu;subst hv;exact hr
  |succ i=>simp at hv
 cases hr with
 |any u=>simp[V.j0f]at hv
 |tup us cs hl h=>simp[V.j0f]at hv
 |agg us cs hl h=>cases hv;exact⟨hl,h⟩
 |nils=>exact one .nils rfl rfl hv
 |d h=>exact one (.d h) (by cases h<;>rfl) rfl hv
 |own b hb=>exact one (.own b hb) (by cases he:g.val b<;>first|rfl|exact(hown b (.inl rfl) _ he).elim) rfl hv
 |ptr b off hb=>exact one (.ptr b off hb) rfl rfl hv
 |mv f b off hb=>exact one (.mv f b off hb) rfl rfl hv
 |ifp f b off hb=>exact one (.ifp f b off hb) rfl rfl hv
 |pel blk off cs U hZ hc hr=>exact one (.pel blk off cs U hZ hc hr) rfl rfl hv
 |pml b sz i off hb=>exact one (.pml b sz i off hb) rfl rfl hv
 |nilp=>exact one .nilp rfl rfl hv
 |fn f us cs hl h=>exact one (.fn f us cs hl h) rfl rfl hv
 |nilf=>exact one .nilf rfl rfl hv
 |ifn0=>exact one .ifn0 rfl rfl hv
 |ifn1 t p=>exact one (.ifn1 t p) rfl rfl hv
 |ifc t us cs hl h=>exact one (.ifc t us cs hl h) rfl rfl hv
 |ifo0 t cs=>exact one (.ifo0 t cs) rfl rfl hv
 |ifo1 t us cs hl h=>exact one (.ifo1 t us cs hl h) rfl rfl hv
 |map b hb=>exact one (.map b hb) (by cases he:g.val b<;>first|rfl|exact(hown b (.inr rfl) _ he).elim) rfl hv
 |yld b R hb hc=>exact one (.yld b R hb hc) rfl rfl hv
 |osl b sz lo n u hb hu=>exact one (.osl b sz lo n u hb hu) (by rcases hu.2.2 with⟨_,A,cap,rfl⟩|⟨cap,rfl,_⟩<;>rfl) rfl hv
def V.j0g (h:List Box):V->Bool
 | .own b=>match h[b]? with
   |some (.arr ..)=>true
   |_=>false
 | .map b=>match h[b]? with
   |some (.mp ..)=>true
   |_=>false
 |_=>true
def y0t {g:Gh}{w:World}(hs:SimH g h w){v:V}(hv:v.j0g h=true): ∀b,v= .own b\/v= .map b-> ∀cs,g.val b≠ .agg cs:=by
 rintro b (rfl|rfl) cs hc
 ·unfold V.j0g at hv;simp only at hv;split at hv
  ·rename_i e sz rows heq;obtain⟨A,cap,hh⟩:=x9b (hs.rep b _ heq);rw[hh]at hc;cases hc
  ·cases hv
 ·unfold V.j0g at hv;simp only at hv;split at hv
  ·rename_i kk rows heq;obtain⟨_,_,_,hh,_⟩:=hs.rep b _ heq;rw[hh]at hc;cases hc
  ·cases hv
def v9j {t:TypeId}{y:Operand}{vs:List V}(hop:o.op= .box t y)(hv:(ρ y).j0f=some vs)(hl:(ρ y).j0g h=true):
  x0p P [] h (h++[.cells (.ty t) vs]) ρ o (.ptr h.length 0):=
 .of_run fun g ρ' w hs hy=>by
  obtain⟨h1,h2⟩:=x7x (hy y) hv (y0t hs hl);obtain⟨hk,hr⟩:=Keep.alloc hs (ρ' y).cells t vs h1 h2;exact⟨_,_,_,by simp only[execOp,hop,Instr.box,newVar,newRow,Sem.run_bind,run_newObj,Result.andThen_ok,Sem.run_pure,World.alloc_eq],hr,hk⟩
def z3k (P:Program)(t:TypeId):Option Value:=(P.info? t).bind (·.zero)
def y3n {t:TypeId}{z:Value}(hz:z3k P t=some z)(w:World):(zeroValue t).run P w= .ok z w:=by
 unfold z3k at hz;obtain⟨i,hi,hz⟩:=a1l.1 hz;simp[zeroValue,typeInfo,hi,hz]
def y1z (v:Value):(x5l v).j0g h=true:=by
 unfold x5l;split
 ·rfl
 ·unfold y4p;split<;>rfl
def y0w {t:TypeId}{z:Value}{vs:List V}(hop:o.op= .alloc t)(hz:z3k P t=some z)(hv:(x5l z).j0f=some vs):
  x0p P [] h (h++[.cells (.ty t) vs]) ρ o (.ptr h.length 0):=
 .of_run fun g ρ' w hs hy=>by
  obtain⟨h1,h2⟩:=x7x (y0o w g z) hv (y0t hs (y1z z));obtain⟨hk,hr⟩:=Keep.alloc hs z.cells t vs h1 h2;exact⟨_,_,_,by simp only[execOp,hop,Instr.alloc,y3n hz,newVar,newRow,Sem.run_bind,run_newObj,Result.andThen_ok,Sem.run_pure,World.alloc_eq],hr,hk⟩
end
section
variable {P : Program} {M : List Nat} {h h' : List Box} {ρ : Operand -> V} {o : Oper} {x : V}
def getElem?_set' {α:Type}(l:List α)(i j:Nat)(a:α):(l.set i a)[j]? =if i=j then(if i < l.length then some a else none)else l[j]? :=by
 rw[a1k]
def Keep.turn {g g':Gh}{w w':World}{b:Nat}{x y:Box}(hs:SimH g h w)(hb:h[b]? =some x)(M:List Nat)(hM:M= []/\g'=g\/M= [b])
  (hgn:g'.n=g.n) (hgc:g'.cd=g.cd) (hgZ:g'.Z=g.Z) (hblk: ∀c,c≠b->g'.blk c=g.blk c/\g'.val c=g.val c)
  (hfr:Fr (fun k=>x.at? g b=some k) w w') (hy:x1r w' g' b y)
  (hat: ∀k,y.at? g' b=some k->x.at? g b=some k\/w.heap.size<=k):
  Keep M g h w g' ((h.map (Box.kill M)).set b y) w':=by
 have hbl:b < h.length:=(a0c.1 hb).1;have hsame: ∀c,c < g.n->c ∉ M->g'.blk c=g.blk c/\g'.val c=g.val c:=by
  intro c _ hc;rcases hM with⟨rfl,rfl⟩|rfl
  ·exact⟨rfl,rfl⟩
  ·exact hblk c (by simpa using hc)
 have hle:g.Le (· ∈M) g':=⟨fun b o hz=>by rw[hgZ];exact hz,by omega,fun c hc hm=>(hsame c hc hm).1,fun c hc hm=>(hsame c hc hm).2,fun c _=>by rw[hgc]⟩
 have hxo: ∀k,x.at? g b=some k->x2r g h k:=fun k hk=>⟨b,x,hb,hk⟩
 have hfr':Fr (x2r g h) w w':=hfr.mono hxo;have ho:Over M w g w' g':=⟨hle,fun k o hz=>hfr'.cell (hs.zlt k o hz) (fun hw=>hs.zsep k o hw hz)⟩
 have hget: ∀(c:Nat) z,((h.map (Box.kill M)).set b y)[c]? =some z->(c=b/\z=y)\/(c≠b/\ ∃z0,h[c]? =some z0/\z=z0.kill M):=by
  intro c z hz;rw[getElem?_set']at hz;split at hz
  ·rename_i e;subst e;rw[if_pos (by simpa using hbl)]at hz
   cases hz;exact .inl ⟨rfl,rfl⟩
  ·rename_i e;rw[a0o,a0n]at hz;obtain⟨z0,h0,rfl⟩:=hz;exact .inr ⟨fun e'=>e e'.symm,z0,h0,rfl⟩
 have hat0: ∀(c:Nat) (z0:Box),c≠b->(z0.kill M).at? g' c=z0.at? g c:=fun c z0 hc=>by
  rw[Box.at?_kill];exact Box.at?_congr (hblk c hc).1 (hblk c hc).2 z0
 have hown: ∀k,x2r g' ((h.map (Box.kill M)).set b y) k->x2r g h k\/w.heap.size<=k:=by
  rintro k ⟨c,z,hz,hk⟩
  rcases hget c z hz with⟨rfl,rfl⟩|⟨hc,z0,h0,rfl⟩
  ·rcases hat k hk with h1|h1
   ·exact .inl (hxo k h1)
   ·exact .inr h1
  ·rw[hat0 c z0 hc]at hk;exact .inl ⟨c,z0,h0,hk⟩
 refine⟨⟨by simp[hgn,hs.n],?_,?_,?_,?_,hs.tab.over ho⟩,hle,hfr',fun b o hz=> .inl (by rwa [hgZ]at hz),hown⟩
 ·intro c z hz;rcases hget c z hz with⟨rfl,rfl⟩|⟨hc,z0,h0,rfl⟩
  ·exact hy
  ·have hcn:c < g.n:=by rw[hs.n];exact(a0c.1 h0).1
   have hr0:=hs.rep c z0 h0;refine x1r.over ho hcn (by rcases hM with⟨rfl,_⟩|rfl<;>simp[hc]) (fun k hk=> ?_) hr0
   exact hfr.block k (hr0.lt hk) (fun hk'=>hc (hs.sep c b z0 x k h0 hb hk hk'))
 ·intro c d z z' k hz hz' h1 h2;rcases hget c z hz with⟨rfl,rfl⟩|⟨hc,z0,h0,rfl⟩<;>rcases hget d z' hz' with⟨hd,rfl⟩|⟨hd,z0',h0',rfl⟩
  ·exact hd.symm
  ·rw[hat0 d z0' hd]at h2;rcases hat k h1 with h3|h3
   ·exact hs.sep c d x z0' k hb h0' h3 h2
   ·have:=(hs.rep d z0' h0').lt h2;omega
  ·subst hd;rw[hat0 c z0 hc]at h1;rcases hat k h2 with h3|h3
   ·exact hs.sep c d z0 x k h0 hb h1 h3
   ·have:=(hs.rep c z0 h0).lt h1;omega
  ·rw[hat0 c z0 hc]at h1;rw[hat0 d z0' hd]at h2;exact hs.sep c d z0 z0' k h0 h0' h1 h2
 ·intro k o hk hz;rw[hgZ]at hz;rcases hown k hk with h1|h1
  ·exact hs.zsep k o h1 hz
  ·have:=hs.zlt k o hz;omega
 ·intro c o hz;rw[hgZ]at hz;exact a1c (hs.zlt c o hz) hfr.size
def V.j1t (h:List Box):V->Bool
 | .any| .agg _| .tup _=>false
 | .map b=>match h[b]? with
   |some (.mp ..)=>true
   |_=>false
 | .own b=>match h[b]? with
   |some (.arr ..)=>true
   |_=>false
 |_=>true
def k1f {g:Gh}{w:World}(hs:SimH g h w){u:Value}{v:V}(hr:Rep w g u v)(hv:v.j1t h=true):u.oneCell'=true:=by
 cases hr with
 |any u=>simp[V.j1t]at hv
 |agg us cs hl h=>simp[V.j1t]at hv
 |tup us cs hl h=>simp[V.j1t]at hv
 |map b hb=>
  unfold V.j1t at hv;simp only at hv;split at hv
  ·rename_i kk rows heq;obtain⟨_,_,_,hh,_⟩:=hs.rep b _ heq;rw[hh];rfl
  ·cases hv
 |d h=>cases h<;>rfl
 |own b hb=>
  unfold V.j1t at hv;simp only at hv;split at hv
  ·rename_i e sz rows heq;obtain⟨A,cap,hh⟩:=x9b (hs.rep b _ heq);rw[hh];rfl
  ·cases hv
 |osl b sz lo n u hb hu=>rcases hu.2.2 with⟨_,A,cap,rfl⟩|⟨cap,rfl,_⟩<;>rfl
 |_=>rfl
def z0f (w:World)(k:Nat)(cs:Array Value):Fr (fun i=>i=k) w (w.setRow k cs):=by
 refine⟨rfl,rfl,rfl,by simp[World.setRow],fun i hi hn=> ?_⟩
 simp only[World.setRow,Array.getElem?_modify];rw[if_neg (fun e=>hn e.symm)]
def x6o {α:Type}(l news:List α)(off i:Nat)(hl:off+news.length<=l.length):
  (l.take off++news++l.drop (off+news.length))[i]? =if i < off then l[i]? else if i < off+news.length then news[i - off]? else l[i]? :=by
 rw[List.append_assoc,a0y];simp only[a1q,Nat.min_eq_left (by omega:off<=l.length)]
 split
 ·rename_i h1;rw[a1s,if_pos h1]
 ·rename_i h1;rw[a0y];split
  ·rename_i h2;rw[if_pos (by omega)]
  ·rename_i h2;rw[if_neg (by omega),a1x];congr 1;omega
def y2e {t:TypeId}{y z:Operand}{b off:Nat}{bt:TypeId}{vs ns:List V}(hop:o.op= .store t y z)(hy1:ρ y= .ptr b off)(hb:h[b]? =some (.cells (.ty bt) vs))
  (hn:(ρ z).j0f=some ns) (h1:ns.all (V.j1t h)=true) (hsz:szO P t=some ns.length) (hle:off+ns.length<=vs.length) (hlive:(ρ z).j0g h=true):
  x0p P [] h (h.set b (.cells (.ty bt) (vs.take off++ns++vs.drop (off+ns.length)))) ρ o .any:=
 .j1j fun g ρ' w hs hy=>by
  obtain⟨e,hbn⟩:=x3p (hy1▸hy y);obtain⟨us,hh,hsu,hr⟩:=x5d (hs.rep b _ hb);obtain⟨hc1,hc2⟩:=x7x (hy z) hn (y0t hs hlive);have hone: ∀v∈(ρ' z).cells.toList,v.oneCell'=true:=by
   intro v hv;obtain⟨i,hi⟩:=List.mem_iff_getElem?.1 hv;rw[a1a]at hi;have hil:i < ns.length:=by rw[<-hc1];exact(a0r.1 hi).1
   exact k1f hs (hc2 i v _ hi (a0b hil)) (a0l.1 h1 _ (a1j hil))
  have hst:=run_storeCells_at P (g.blk b) off bt (ρ' z).cells.toList 0 us w hh (by simp[hc1];omega) hone
  simp only[Nat.add_zero,Array.length_toList,hc1]at hst;have hk:Keep [] g h w g ((h.map (Box.kill [])).set b (.cells (.ty bt) (vs.take off++ns++vs.drop (off+ns.length)))) (w.setRow (g.blk b) (us.toList.take off++(ρ' z).cells.toList++us.toList.drop (off+ns.length)).toArray):=by
   have hrow:(w.setRow (g.blk b) (us.toList.take off++(ρ' z).cells.toList++us.toList.drop (off+ns.length)).toArray).heap[g.blk b]? =
       some (.cells (us.toList.take off++(ρ' z).cells.toList++us.toList.drop (off+ns.length)).toArray bt (0,0)):=setRow_heap w _ us _ bt (0,0) hh
   have hfr:=z0f w (g.blk b) (us.toList.take off++(ρ' z).cells.toList++us.toList.drop (off+ns.length)).toArray;have ho:Over [] w g (w.setRow (g.blk b) (us.toList.take off++(ρ' z).cells.toList++us.toList.drop (off+ns.length)).toArray) g:=
    ⟨Gh.Le.refl _ _,fun k o hz=>hfr.cell (hs.zlt k o hz) (fun e=>hs.zsep k o ⟨b,_,hb,by simp[Box.at?,e]⟩ hz)⟩
   refine Keep.turn hs hb [] (.inl ⟨rfl,rfl⟩) rfl rfl rfl (fun _ _=>⟨rfl,rfl⟩) (hfr.mono fun k hk=>by simp[Box.at?,hk]) ⟨_,_,hrow,rfl,?_,fun i u v hu hv=> ?_⟩ (fun k hk=> .inl hk)
   ·simp[hc1];omega
   ·rw[List.getElem?_toArray]at hu;have hlen:(ρ' z).cells.toList.length=ns.length:=by simp[hc1]
    rw[<-hlen,x6o _ _ _ _ (by simp[hc1];omega)]at hu
    rw[x6o _ _ _ _ hle]at hv;rw[hlen]at hu;split at hu
    ·rename_i hi;rw[if_pos hi]at hv;exact ho.j0b (hr i u v (by rwa [a1a]at hu) hv)
    ·rename_i hi;rw[if_neg hi]at hv;split at hu
     ·rename_i hj;rw[if_pos hj]at hv;exact ho.j0b (hc2 _ u v (by rwa [a1a]at hu) hv)
     ·rename_i hj;rw[if_neg hj]at hv;exact ho.j0b (hr i u v (by rwa [a1a]at hu) hv)
  rw[x2v]at hk;refine⟨_,g,?_,hk⟩;simp only[execOp,hop,e,Instr.storeAt,Instr.sureAddr,storeVar,Sem.run_bind,Sem.run_pure,Result.andThen_ok,x0s hsz,hc1,ne_eq,not_true_eq_false,if_false,hst]
def q7i {w:World}{g:Gh}{b:Nat}{e:TypeId}{sz:Nat}{rows:LL}(hr:x1r w g b (.arr e sz rows)):
  ∃xs:List Value,w.ownsRow 0 e sz (g.val b) rows.length xs/\(∀(i:Nat) (r:List D),rows[i]? =some r->r.length=sz)/\
   (∀(i:Nat) (r:List D) (j:Nat) (c:D),rows[i]? =some r->r[j]? =some c-> ∃u,xs[i*sz+j]? =some u/\RepD w g.Z u c)/\
   (∀k,(g.val b).ownBlock=some k->g.blk b=k):=by
 obtain⟨hl,hr⟩:=hr;rcases hr with⟨h1,rfl⟩|⟨us,cap,h1,h2,h2',h3,h4,h5⟩
 ·exact⟨[],⟨by simp, .inl ⟨h1,rfl⟩⟩,hl,by simp,by simp[h1,Value.ownBlock]⟩
 ·have hle:rows.length*sz<=us.size:=by rw[h4];exact a2h _ h2
  refine⟨us.toList.take (rows.length*sz),⟨by simp[hle], .inr ⟨g.blk b,cap,us,h1,a0w _,h3,h2,h2',h4,rfl⟩⟩,hl,fun i r j c hi hj=> ?_,by simp[h1,Value.ownBlock]⟩
  obtain⟨u,hu,hd⟩:=h5 i r j c hi hj;refine⟨u,?_,hd⟩;have hil:i < rows.length:=(a0c.1 hi).1;have hjl:j < sz:=by rw[<-hl i r hi];exact(a0c.1 hj).1
  have:i*sz+j < rows.length*sz:=by
   calc i*sz+j < i*sz+sz:=by omega
    _=(i+1)*sz:=by rw[Nat.add_mul,Nat.one_mul]
    _<=rows.length*sz:=a2h _ hil
  rw[a1s,if_pos this,a1a];exact hu
def z0v {w:World}{g:Gh}{b:Nat}{e:TypeId}{sz:Nat}{rows:LL}{base:Nat}{xs:List Value}(hown:w.ownsRow base e sz (g.val b) rows.length xs)
  (hl: ∀(i:Nat) (r:List D),rows[i]? =some r->r.length=sz)
  (hx: ∀(i:Nat) (r:List D) (j:Nat) (c:D),rows[i]? =some r->r[j]? =some c-> ∃u,xs[i*sz+j]? =some u/\RepD w g.Z u c)
  (hk: ∀k,(g.val b).ownBlock=some k->g.blk b=k):x1r w g b (.arr e sz rows):=by
 obtain⟨hxl,hown⟩:=hown;refine⟨hl,?_⟩;rcases hown with⟨h1,h2⟩|⟨k,cap,cur,h1,_,h3,h4,h5,h6,h7⟩
 ·exact .inl ⟨h1,List.eq_nil_of_length_eq_zero h2⟩
 ·have hb:g.blk b=k:=hk k (by simp[h1,Value.ownBlock])
  refine .inr ⟨cur,cap,by rw[h1,hb],h4,h5,by rw[hb];exact h3,h6,fun i r j c hi hj=> ?_⟩
  obtain⟨u,hu,hd⟩:=hx i r j c hi hj;refine⟨u,?_,hd⟩;rw[<-h7,a1s]at hu;split at hu
  ·rwa [a1a]at hu
  ·cases hu
end
section
variable {P : Program} {M : List Nat} {h h' : List Box} {ρ : Operand -> V} {o : Oper} {x : V}
def V.toD (s:Sh):V->Option D
 | .d x=>some x
 | .nils=>match s with
   | .sl sz=>some (.sl sz [])
   |_=>none
 |_=>none
def y1q {w:World}{g:Gh}{u:Value}{v:V}{s:Sh}{x:D}(hr:Rep w g u v)(hx:v.toD s=some x):RepD w g.Z u x:=by
 cases hr<;>simp only[V.toD]at hx
 case d h=>cases hx;exact h
 case nils=>
  split at hx<;>cases hx
  exact .slnil _
 all_goals cases hx
def v4d:List Sh->List V->Option (List D)
 | [],[]=>some []
 |s::ss,v::vs=>match v.toD s,v4d ss vs with
  |some x,some xs=>some (x::xs)
  |_,_=>none
 |_,_=>none
def y1p: ∀ {ss:List Sh} {vs:List V} {xs:List D},v4d ss vs=some xs->xs.length=vs.length/\
  ∀(i:Nat) v x,vs[i]? =some v->xs[i]? =some x-> ∃s,v.toD s=some x
 | [],[],xs,h=>by cases h;exact⟨rfl,by simp⟩
 |s::ss,v::vs,xs,h=>by
  simp only[v4d]at h;split at h
  ·rename_i x xs' h1 h2;cases h;obtain⟨h3,h4⟩:=y1p h2;refine⟨by simp[h3],fun i v' x' hv hx=> ?_⟩
   cases i with
   |zero=>simp at hv hx;subst hv;subst hx;exact⟨s,h1⟩
   |succ i=>exact h4 i v' x' (by simpa using hv) (by simpa using hx)
  ·cases h
 | [],_::_,_,h=>by simp[v4d]at h
 |_::_,[],_,h=>by simp[v4d]at h
def u7w {w:World}{Z:Nat->Nat->Prop}{u:Value}{x:D}(h:RepD w Z u x):u.oneCell'=true:=by cases h<;>rfl
def y2d {t e:TypeId}{y z:Operand}{b sz i off:Nat}{rows:LL}{ns:List V}{ss:List Sh}{ds:List D}(hop:o.op= .store t y z)
  (hy1:ρ y= .pml b sz i off) (hb:h[b]? =some (.arr e sz rows)) (hi:i < rows.length)
  (hn:(ρ z).j0f=some ns) (hd:v4d ss ns=some ds) (hsz:szO P t=some ds.length) (hle:off+ds.length<=sz) (hlive:(ρ z).j0g h=true):
  x0p P [] h (h.set b (.arr e sz (rows.set i ((rows.getD i []).take off++ds++(rows.getD i []).drop (off+ds.length))))) ρ o .any:=
 .j1j fun g ρ' w hs hy=>by
  obtain⟨e0,hbn⟩:=x7w (hy1▸hy y);obtain⟨us,cap,g1,g2,g2',g3,g4,g5,g6⟩:=y2x (hs.rep b _ hb) (by omega)
  obtain⟨hc1,hc2⟩:=x7x (hy z) hn (y0t hs hlive);obtain⟨hd1,hd2⟩:=y1p hd;have hcd: ∀(j:Nat) u x,(ρ' z).cells[j]? =some u->ds[j]? =some x->RepD w g.Z u x:=by
   intro j u x hu hx;have hjl:j < ns.length:=by rw[<-hc1];exact(a0r.1 hu).1
   obtain⟨s,hs'⟩:=hd2 j _ x (a0b hjl) hx;exact y1q (hc2 j u _ hu (a0b hjl)) hs'
  have hone: ∀v∈(ρ' z).cells.toList,v.oneCell'=true:=by
   intro v hv;obtain⟨j,hj⟩:=List.mem_iff_getElem?.1 hv;rw[a1a]at hj;have hjl:j < ds.length:=by rw[hd1,<-hc1];exact(a0r.1 hj).1
   exact u7w (hcd j v _ hj (a0b hjl))
  have hrl:(rows.getD i []).length=sz:=by
   rw[a0i,a0b hi];exact g5 i _ (a0b hi)
  have hrow0:rows[i]? =some (rows.getD i []):=by rw[a0i,a0b hi];rfl
  have hcapi:i*sz+sz<=cap*sz:=by
   calc i*sz+sz=(i+1)*sz:=by rw[Nat.add_mul,Nat.one_mul]
    _<=cap*sz:=a2h _ (by omega)
  have hlen:(ρ' z).cells.toList.length=ds.length:=by simp[hc1,hd1]
  have hst:=run_storeCells_at P (g.blk b) (i*sz+off) e (ρ' z).cells.toList 0 us w g3 (by rw[hlen];omega) hone
  simp only[Nat.add_zero,hlen]at hst;generalize hW:w.setRow (g.blk b) (us.toList.take (i*sz+off)++(ρ' z).cells.toList++us.toList.drop (i*sz+off+ds.length)).toArray=W at hst;have hrow:W.heap[g.blk b]? =some (.cells (us.toList.take (i*sz+off)++(ρ' z).cells.toList++us.toList.drop (i*sz+off+ds.length)).toArray e (0,0)):=by
   rw[<-hW];exact setRow_heap w _ us _ e (0,0) g3
  have hfr:Fr (fun k=>k=g.blk b) w W:=by rw[<-hW];exact z0f w _ _
  have hatb: ∀k,(Box.arr e sz rows).at? g b=some k↔k=g.blk b:=fun k=>by simp[Box.at?,g1,eq_comm]
  have ho:Over [] w g W g:=
   ⟨Gh.Le.refl _ _,fun k o hz=>hfr.cell (hs.zlt k o hz) (fun e=>hs.zsep k o ⟨b,_,hb,(hatb k).2 e⟩ hz)⟩
  have hnl:(rows.set i ((rows.getD i []).take off++ds++(rows.getD i []).drop (off+ds.length))).length=rows.length:=by simp
  have hk:Keep [] g h w g ((h.map (Box.kill [])).set b (.arr e sz (rows.set i ((rows.getD i []).take off++ds++(rows.getD i []).drop (off+ds.length))))) W:=by
   refine Keep.turn hs hb [] (.inl ⟨rfl,rfl⟩) rfl rfl rfl (fun _ _=>⟨rfl,rfl⟩) (hfr.mono fun k hk=>(hatb k).2 hk) ⟨fun i' r hi'=> ?_, .inr ⟨_,cap,?_,?_,g2',hrow,?_,fun i' r j c hi' hj=> ?_⟩⟩
    (fun k hk=> .inl (by simpa[Box.at?,g1]using hk))
   ·rw[getElem?_set']at hi';split at hi'
    ·(try rw[if_pos hi]at hi');cases hi'
     simp only[a0k,a1q,a1v,hrl];omega
    ·exact g5 i' r hi'
   ·rw[hnl];exact g1
   ·rw[hnl];exact g2
   ·simp[hlen,hd1];omega
   ·rw[getElem?_set']at hi';have hjs:j < sz/\i' < rows.length:=by
     split at hi'
     ·(try rw[if_pos hi]at hi');cases hi'
      have:=(a0c.1 hj).1;simp only[a0k,a1q,a1v,hrl]at this;exact⟨by omega,by omega⟩
     ·have:=(a0c.1 hj).1;rw[g5 i' r hi']at this;exact⟨this,(a0c.1 hi').1⟩
    have hls:i*sz+off+(ρ' z).cells.toList.length<=us.toList.length:=by rw[hlen,show us.toList.length=us.size from Array.length_toList,g4];omega
    have hsp:=x6o us.toList (ρ' z).cells.toList (i*sz+off) (i'*sz+j) hls;rw[hlen]at hsp;simp only[List.getElem?_toArray];rw[hsp];split at hi'
    ·rename_i hii;subst hii
     (try rw[if_pos hi]at hi');cases hi'
     rw[x6o _ _ _ _ (by rw[hrl];exact hle)]at hj
     by_cases c1:j < off
     ·rw[if_pos c1]at hj;rw[if_pos (by omega)]
      obtain⟨u,hu,hd'⟩:=g6 i _ j c hrow0 hj;exact⟨u,by rw[a1a];exact hu,ho.j0z hd'⟩
     ·rw[if_neg c1]at hj;rw[if_neg (by omega)]
      by_cases c2:j < off+ds.length
      ·rw[if_pos c2]at hj;rw[if_pos (by omega)]
       have hjl:j - off < (ρ' z).cells.size:=by rw[hc1,<-hd1];omega
       refine⟨(ρ' z).cells[j - off],?_,ho.j0z (hcd _ _ c (a0x hjl) hj)⟩;rw[a1a,show i*sz+j - (i*sz+off)=j - off by omega]
       exact a0x hjl
      ·rw[if_neg c2]at hj;rw[if_neg (by omega)]
       obtain⟨u,hu,hd'⟩:=g6 i _ j c hrow0 hj;exact⟨u,by rw[a1a];exact hu,ho.j0z hd'⟩
    ·rename_i hii;obtain⟨u,hu,hd'⟩:=g6 i' r j c hi' hj;have hout:i'*sz+j < i*sz+off\/i*sz+off+ds.length<=i'*sz+j:=by
      rcases Nat.lt_or_gt_of_ne hii with hlt|hgt
      ·right
       calc i*sz+off+ds.length<=i*sz+sz:=by omega
        _=(i+1)*sz:=by rw[Nat.add_mul,Nat.one_mul]
        _<=i'*sz:=a2h _ hlt
        _<=i'*sz+j:=Nat.le_add_right _ _
      ·left
       calc i'*sz+j < i'*sz+sz:=by omega
        _=(i'+1)*sz:=by rw[Nat.add_mul,Nat.one_mul]
        _<=i*sz:=a2h _ hgt
        _<=i*sz+off:=Nat.le_add_right _ _
     refine⟨u,?_,ho.j0z hd'⟩;rcases hout with h1|h1
     ·rw[if_pos h1,a1a];exact hu
     ·rw[if_neg (by omega),if_neg (by omega),a1a];exact hu
  rw[x2v]at hk;refine⟨_,g,?_,hk⟩;have hcs:(ρ' z).cells.size=ds.length:=by rw[hc1,hd1]
  simp only[execOp,hop,e0,Instr.storeAt,Instr.sureAddr,storeVar,Sem.run_bind,Sem.run_pure,Result.andThen_ok,x0s hsz,hcs,ne_eq,not_true_eq_false,if_false,hst]
end
section
variable {P : Program} {M : List Nat} {h h' : List Box} {ρ : Operand -> V} {o : Oper} {x : V}
def elT (P:Program)(t:TypeId):Option (TypeId × Nat × Nat × Value):=
 match P.underlying t with
 |some (.slice e)=>match P.info? e with
  |some i=>i.zero.map fun z=>(e,i.size,i.bytes,z)
  |none=>none
 |_=>none
def y2v {t e:TypeId}{n m:Nat}{z:Value}(hk:elT P t=some (e,n,m,z)):P.underlying t=some (.slice e)/\ ∃i,P.info? e=some i/\i.zero=some z/\i.size=n/\i.bytes=m:=by
 unfold elT at hk;split at hk
 ·rename_i e' he;split at hk
  ·rename_i i hi;obtain⟨z',hz,hh⟩:=a0n.1 hk;cases hh;exact⟨he,i,hi,hz,rfl,rfl⟩
  ·cases hk
 ·cases hk
def z9o (h:List Box)(sz:Nat):V->Option LL
 | .nils=>some []
 | .d (.sl n rows)=>if n=sz then some rows else none
 | .own b=>match h[b]? with
   |some (.arr _ n rows)=>if n=sz then some rows else none
   |_=>none
 |_=>none
def y2q {w:World}{g:Gh}{u:Value}{v:V}{sz:Nat}{rows:LL}(hs:SimH g h w)(hr:Rep w g u v)(hv:z9o h sz v=some rows):
  (∀(i:Nat) (r:List D),rows[i]? =some r->r.length=sz)/\
  ((u= .slice none 0 0/\rows= [])\/ ∃(ad:Addr) (cap:Nat) (news:List Value),u= .slice (some ad) rows.length cap/\news.length=rows.length*sz/\
    (∀(j:Nat) u,news[j]? =some u->w.cell? (ad.add j)=some u)/\(∀u∈news,u.oneCell'=true)/\
    (∀(i:Nat) (r:List D) (j:Nat) (c:D),rows[i]? =some r->r[j]? =some c-> ∃u,news[i*sz+j]? =some u/\RepD w g.Z u c)):=by
 have aux: ∀(rows:LL) (U:Nat->Value) (ad:Addr) (cap:Nat),(∀(i:Nat) (r:List D),rows[i]? =some r->r.length=sz)->
     (∀(i:Nat) (r:List D) (j:Nat) (c:D),rows[i]? =some r->r[j]? =some c->w.cell? (ad.add (i*sz+j))=some (U (i*sz+j))/\RepD w g.Z (U (i*sz+j)) c)->u= .slice (some ad) rows.length cap->
     ∃(ad:Addr) (cap:Nat) (news:List Value),u= .slice (some ad) rows.length cap/\news.length=rows.length*sz/\
     (∀(j:Nat) u,news[j]? =some u->w.cell? (ad.add j)=some u)/\(∀u∈news,u.oneCell'=true)/\
     (∀(i:Nat) (r:List D) (j:Nat) (c:D),rows[i]? =some r->r[j]? =some c-> ∃u,news[i*sz+j]? =some u/\RepD w g.Z u c):=by
  intro rows U ad cap hl hc hu;have hpos: ∀j,j < rows.length*sz-> ∃(i':Nat) (r:List D) (j':Nat) (c:D),rows[i']? =some r/\r[j']? =some c/\j=i'*sz+j':=by
   intro j hj;have hsz:0 < sz:=by
    rcases Nat.eq_zero_or_pos sz with h0|h0
    ·rw[h0]at hj;simp at hj
    ·exact h0
   have hd:j / sz < rows.length:=(Nat.div_lt_iff_lt_mul hsz).2 hj;have hm:j % sz < rows[j / sz].length:=by rw[hl _ _ (a0b hd)];exact Nat.mod_lt _ hsz
   exact⟨j / sz,rows[j / sz],j % sz,_,a0b hd,a0b hm,by rw[Nat.mul_comm];exact(Nat.div_add_mod j sz).symm⟩
  refine⟨ad,cap,(List.range (rows.length*sz)).map U,hu,by simp,fun j u hj=> ?_,fun u hu=> ?_,fun i r j c hi hj=> ?_⟩
  ·have hjl:j < rows.length*sz:=by have:=(a0c.1 hj).1;simpa using this
   obtain⟨i',r,j',c,h1,h2,rfl⟩:=hpos j hjl;have:u=U (i'*sz+j'):=by simp[hjl]at hj;exact hj.symm
   rw[this];exact(hc i' r j' c h1 h2).1
  ·obtain⟨j,hj,rfl⟩:=a2b.1 hu;obtain⟨i',r,j',c,h1,h2,rfl⟩:=hpos j (by simpa using hj)
   exact u7w (hc i' r j' c h1 h2).2
  ·refine⟨U (i*sz+j),?_,(hc i r j c hi hj).2⟩;have hil:i < rows.length:=(a0c.1 hi).1;have hjl:j < sz:=by rw[<-hl i r hi];exact(a0c.1 hj).1
   have:i*sz+j < rows.length*sz:=by
    calc i*sz+j < i*sz+sz:=by omega
     _=(i+1)*sz:=by rw[Nat.add_mul,Nat.one_mul]
     _<=rows.length*sz:=a2h _ hil
   simp[this]
 unfold z9o at hv;split at hv
 ·cases hv;generalize hu0:u=u0 at hr;cases hr;subst hu0;exact⟨by simp, .inl ⟨rfl,rfl⟩⟩
 ·rename_i n rows';split at hv
  ·rename_i hn;subst hn;cases hv;rcases x9j hr with⟨e1,rfl⟩|⟨a,cap,e1,rfl⟩|⟨blk,off,cap,U,e1,hcap,hlen,hZ,hc,hr⟩
   ·exact⟨by simp, .inl ⟨e1,rfl⟩⟩
   ·exact⟨by simp, .inr ⟨a,cap,[],e1,by simp,by simp,by simp,by simp⟩⟩
   ·refine⟨hlen, .inr (aux rows (fun j=>U (j / n) (j % n)) ⟨blk,off,none⟩ cap hlen (fun i r j c hi hj=> ?_) e1)⟩
    have hjl:j < n:=by rw[<-hlen i r hi];exact(a0c.1 hj).1
    have e2:(i*n+j) / n=i:=by rw[Nat.mul_comm,Nat.mul_add_div (by omega)];simp[Nat.div_eq_of_lt hjl]
    have e3:(i*n+j) % n=j:=by rw[Nat.mul_comm,Nat.mul_add_mod];exact Nat.mod_eq_of_lt hjl
    simp only[e2,e3];rw[x4b];exact⟨hc i r j c hi hj,hr i r j c hi hj⟩
  ·cases hv
 ·rename_i b;split at hv
  ·rename_i e n rows' hb;split at hv
   ·rename_i hn;subst hn;cases hv;obtain⟨e1,hbn⟩:=x4w hr;have hbr:=hs.rep b _ hb;obtain⟨hl,hbr'⟩:=hbr;rcases hbr' with⟨h1,h2⟩|⟨us,cap,h1,h2,_,h3,h4,h5⟩
    ·exact⟨hl, .inl ⟨e1.trans h1,h2⟩⟩
    ·refine⟨hl, .inr (aux rows (fun j=>us[j]?.getD undef) ⟨g.blk b,0,none⟩ cap hl (fun i r j c hi hj=> ?_) (e1.trans h1))⟩
     obtain⟨u',hu',hd⟩:=h5 i r j c hi hj;rw[x4b,a1z,x2w h3];simp[hu',hd]
   ·cases hv
  ·cases hv
 ·cases hv
def u1t {y z:Operand}{ts:Array TypeId}{t e:TypeId}{b sz by_:Nat}{zv:Value}{rows news:LL}
  (hop:o.op= .call { callee:= .builtin .append,args:= #[y,z],argTypes:=ts }) (hts:ts= #[t,t]) (ht:elT P t=some (e,sz,by_,zv)) (hzs:zv.cells.size=sz) (hsz:0 < sz)
  (hy1:ρ y= .own b) (hb:h[b]? =some (.arr e sz rows)) (hz:z9o h sz (ρ z)=some news)
  (h63:rows.length+news.length<=maxLen) (hby:(rows.length+news.length)*by_<=140737488355328):
  x0p P [b] h ((h.map (Box.kill [b])).set b (.arr e sz (rows++news))) ρ o (.own b):=
 .of_run fun g ρ' w hs hy=>by
  obtain⟨hu,i,hi,hz0,hz1,hz2⟩:=y2v ht;obtain⟨e1,hbn⟩:=x4w (hy1▸hy y);obtain⟨xs,hown,hl,hx,hbk⟩:=q7i (hs.rep b _ hb);obtain⟨hnl,hsrc⟩:=y2q hs (hy z) hz;have hlr: ∀(j:Nat) (r:List D),(rows++news)[j]? =some r->r.length=sz:=by
   intro j r hj;rw[a0y]at hj;split at hj
   ·exact hl j r hj
   ·exact hnl _ r hj
  have key: ∃v' w' nl,(Builtin.append_ #[t,t] o.type #[g.val b,ρ' z]).run P w= .ok v' w'/\w'.ownsRow 0 e sz v' (rows++news).length (xs++nl)/\w.grownBy w' (g.val b).ownBlock/\
      (v'.ownBlock=(g.val b).ownBlock\/v'.ownBlock=some w.heap.size)/\
      (∀(i:Nat) (r:List D) (j:Nat) (c:D),news[i]? =some r->r[j]? =some c-> ∃u,nl[i*sz+j]? =some u/\RepD w g.Z u c):=by
   rcases hsrc with⟨e2,rfl⟩|⟨ad,cap,nl,e2,hnlen,hnc,hn1,hnr⟩
   ·rw[e2];exact⟨g.val b,w,[],run_append_owned_none w 0 t o.type e i sz hu hi _ _ xs hown,by simpa using hown,⟨rfl,rfl,rfl,a0q _,fun _ _ _=>rfl⟩, .inl rfl,by simp⟩
   ·rw[e2];obtain⟨v',w',hrun,h2,h3,_,h5⟩:=run_append_own_at (P:=P) w 0 t o.type e i zv sz by_ hu hi hz0 hz1 hz2 hzs hsz _ _ xs hown ad news.length cap nl hnlen hnc hn1 h63 hby (a0w _);exact⟨v',w',nl,hrun,by rw[a0k];exact h2,h3,h5,hnr⟩
  obtain⟨v',w',nl,hrun,hown',hgr,hob,hnr⟩:=key;have hobk: ∀k,(g.val b).ownBlock=some k↔(Box.arr e sz rows).at? g b=some k:=by
   intro k;cases hv:g.val b<;>simp[Value.ownBlock,Box.at?,hv]
   rename_i A n c;cases A<;>simp
  let g':Gh:= { g with blk:=fun c=>if c=b then(v'.ownBlock).getD 0 else g.blk c,val:=fun c=>if c=b then v' else g.val c }
  have hfr:Fr (fun k=>(Box.arr e sz rows).at? g b=some k) w w':=⟨hgr.os,hgr.tape,hgr.output,hgr.size,fun k hk hn=>hgr.block k hk (fun he=>hn ((hobk k).1 he.symm))⟩
  have hcz: ∀k o,g.Z k o->w'.cell? ⟨k,o,none⟩=w.cell? ⟨k,o,none⟩:=fun k o hz=>hfr.cell (hs.zlt k o hz) (fun hw=>hs.zsep k o ⟨b,_,hb,hw⟩ hz)
  have hgv:g'.val b=v':=by simp[g']
  have hbr:x1r w' g' b (.arr e sz (rows++news)):=by
   refine z0v (base:=0) (xs:=xs++nl) (by rw[hgv];exact hown') hlr (fun i' r j c hi' hj=> ?_) (fun k hk=> ?_)
   ·have hxl:=hown.1;rw[a0y]at hi';split at hi'
    ·rename_i hil;obtain⟨u,hu',hd⟩:=hx i' r j c hi' hj;refine⟨u,?_,hd.mono (fun _ _ h=>h) hcz⟩
     rw[a0y,if_pos (a0c.1 hu').1];exact hu'
    ·rename_i hil;obtain⟨u,hu',hd⟩:=hnr (i' - rows.length) r j c hi' hj;refine⟨u,?_,hd.mono (fun _ _ h=>h) hcz⟩
     have hle:rows.length*sz<=i'*sz:=a2h _ (by omega)
     rw[a0y,if_neg (by rw[hxl];omega),hxl,show i'*sz+j - rows.length*sz=(i' - rows.length)*sz+j by rw[Nat.sub_mul];omega]
     exact hu'
   ·rw[hgv]at hk;simp[g',hk]
  refine⟨v',w',g',?_,?_,Keep.turn hs hb [b] (.inr rfl) rfl rfl rfl (fun c hc=>by simp[g',hc]) hfr hbr (fun k hk=> ?_)⟩
  ·simp[execOp,hop,resolve,invoke,builtin,hts,e1,hrun]
  ·have:=Rep.own (w:=w') (g:=g') b hbn
   rwa [hgv]at this
  ·have hk':v'.ownBlock=some k:=by
    simp only[Box.at?,hgv]at hk;cases hv':v'<;>simp[hv']at hk
    rename_i A n c;cases A<;>simp at hk
    simp[Value.ownBlock,hk]
   rcases hob with h1|h1
   ·exact .inl ((hobk k).1 (h1▸hk'))
   ·rw[h1]at hk';cases hk';exact .inr (a0q _)
def y8b:Sh->D
 | .int k=> .int k 0
 | .bool=> .bool false
 | .str=> .str ⟨#[]⟩
 | .sl sz=> .sl sz []
def y4d:List Sh->List Value->Bool
 | [],[]=>true
 |s::ss,v::vs=>(match s,v with
  | .int k, .int k' 0=>k == k'
  | .bool, .bool false=>true
  | .str, .string ⟨⟨[]⟩⟩=>true
  | .sl _, .slice none 0 0=>true
  |_,_=>false)&&y4d ss vs
 |_,_=>false
def y0g {w:World}{Z:Nat->Nat->Prop}: ∀ {ss:List Sh} {vs:List Value},y4d ss vs=true->vs.length=ss.length/\ ∀(j:Nat) (s:Sh) (v:Value),ss[j]? =some s->vs[j]? =some v->RepD w Z v (y8b s)
 | [],[],_=>⟨rfl,by simp⟩
 |s::ss,v::vs,h=>by
  simp only[y4d,a0g]at h;obtain⟨h1,h2⟩:=h;obtain⟨h3,h4⟩:=y0g (w:=w) (Z:=Z) h2;refine⟨by simp[h3],fun j s' v' hs hv=> ?_⟩
  cases j with
  |zero=>
   simp at hs hv;subst hs;subst hv;split at h1
   ·simp at h1;subst h1;exact .int _ _
   ·exact .bool _
   ·exact .str _
   ·exact .slnil _
   ·cases h1
  |succ j=>exact h4 j s' v' (by simpa using hs) (by simpa using hv)
 | [],_::_,h=>by simp[y4d]at h
 |_::_,[],h=>by simp[y4d]at h
def y2t {g:Gh}{w w':World}{e:TypeId}{sz:Nat}{rows:LL}(hs:SimH g h w)(v:Value)(k:Nat)(hgr:w.grownBy w' none)(hk:v= .slice none 0 0\/ ∃n c,v= .slice (some ⟨k,0,none⟩) n c)(hkl:w.heap.size<=k)
  (hb:x1r w' (g.push k v) g.n (.arr e sz rows)):Keep [] g h w (g.push k v) (h++[.arr e sz rows]) w'/\Rep w' (g.push k v) v (.own h.length):=by
 have hfr:Fr (fun _=>False) w w':=⟨hgr.os,hgr.tape,hgr.output,hgr.size,fun k hk _=>hgr.block k hk (by simp)⟩
 have hv:(g.push k v).val g.n=v:=by simp[Gh.push]
 refine⟨Keep.push hs k v _ hfr hb (fun k' hk'=> ?_),?_⟩
 ·simp only[Box.at?,hv]at hk';rcases hk with rfl|⟨n,c,rfl⟩
  ·simp at hk'
  ·simp at hk';omega
 ·have:=Rep.own (w:=w') (g:=g.push k v) g.n (by simp[Gh.push])
  rwa [hv,hs.n]at this
def z4a {t e:TypeId}{y z:Operand}{sz by_:Nat}{zv:Value}{ss:List Sh}{k k':IntKind}{n m:Int}
  (hop:o.op= .makeSlice t y z) (ht:elT P t=some (e,sz,by_,zv)) (hzo:y4d ss zv.cells.toList=true) (hsz:ss.length=sz)
  (hy1:ρ y= .d (.int k n)) (hz1:ρ z= .d (.int k' m)) (hnm:n=m) (h0:0<=n) (hby:by_*n.toNat<=281474976710656) (h63:n.toNat<=maxLen):
  x0p P [] h (h++[.arr e sz (List.replicate n.toNat (ss.map y8b))]) ρ o (.own h.length):=
 .of_run fun g ρ' w hs hy=>by
  obtain⟨hu,i,hi,hz0,hz1',hz2⟩:=y2v ht;subst hnm;obtain⟨c,rfl⟩:=Int.eq_ofNat_of_zero_le h0;have e1:=x0o (hy1▸hy y);have e2:=x0o (hz1▸hy z);simp only[a0m]at*;obtain⟨w',hrun,hown,hgr⟩:=run_make_full (P:=P) w 0 t e i zv sz hu hi hz0 hz1' k k' c (by rw[hz2];exact hby) h63 (a0w _)
  have hzl:zv.cells.size=sz:=by have:=(y0g (w:=w) (Z:=g.Z) hzo).1;rw[<-hsz,<-this];simp
  have hv:(g.push w.heap.size (.slice (some ⟨w.heap.size,0,none⟩) c c)).val g.n= .slice (some ⟨w.heap.size,0,none⟩) c c:=by simp[Gh.push]
  have hbk:(g.push w.heap.size (.slice (some ⟨w.heap.size,0,none⟩) c c)).blk g.n=w.heap.size:=by simp[Gh.push]
  have hb:x1r w' (g.push w.heap.size (.slice (some ⟨w.heap.size,0,none⟩) c c)) g.n (.arr e sz (List.replicate c (ss.map y8b))):=by
   refine z0v (base:=0) (xs:=(madeCells zv.cells (c*sz)).toList) (by rw[hv,List.length_replicate];exact hown) (fun i' r hr=> ?_) (fun i' r j d hr hd=> ?_) (fun k hk=> ?_)
   ·have:=List.eq_of_mem_replicate (a0j hr);subst this;simpa using hsz
   ·have hil:i' < c:=by have:=(a0c.1 hr).1;simpa using this
    have:=List.eq_of_mem_replicate (a0j hr);subst this;rw[a0o,a0n]at hd;obtain⟨s,hs',rfl⟩:=hd;have hjl:j < sz:=by rw[<-hsz];exact(a0c.1 hs').1
    have hlt:i'*sz+j < c*sz:=by
     calc i'*sz+j < i'*sz+sz:=by omega
      _=(i'+1)*sz:=by rw[Nat.add_mul,Nat.one_mul]
      _<=c*sz:=a2h _ hil
    have hjc:j < zv.cells.size:=by omega
    refine⟨zv.cells[j],?_,(y0g hzo).2 j s _ hs' (by rw[a1a];exact a0x hjc)⟩
    rw[a1a];simp only[madeCells,Array.getElem?_map];rw[Array.getElem?_range,if_pos hlt];have hmod:(i'*sz+j) % zv.cells.size=j:=by rw[hzl,Nat.mul_comm,Nat.mul_add_mod];exact Nat.mod_eq_of_lt hjl
    simp[hmod,hjc]
   ·rw[hv]at hk;rw[hbk];simpa[Value.ownBlock]using hk
  obtain⟨hkk,hrr⟩:=y2t hs _ w.heap.size hgr (.inr ⟨c,c,rfl⟩) (a0q _) hb;exact⟨_,w',_,by simp[execOp,hop,e1,e2,hrun],hrr,hkk⟩
def z7m {t e:TypeId}{y z:Operand}{sz by_:Nat}{zv:Value}{k k':IntKind}{m:Int}
  (hop:o.op= .makeSlice t y z) (ht:elT P t=some (e,sz,by_,zv))
  (hy1:ρ y= .d (.int k 0)) (hz1:ρ z= .d (.int k' m)) (h0:0<=m) (hby:by_*m.toNat<=281474976710656) (h63:m.toNat<=maxLen):
  x0p P [] h (h++[.arr e sz []]) ρ o (.own h.length):=
 .of_run fun g ρ' w hs hy=>by
  obtain⟨hu,i,hi,hz0,hz1',hz2⟩:=y2v ht;obtain⟨c,rfl⟩:=Int.eq_ofNat_of_zero_le h0;have e1:=x0o (hy1▸hy y);have e2:=x0o (hz1▸hy z);simp only[a0m]at*;obtain⟨w',hrun,hown,hgr⟩:=run_make_own (P:=P) w 0 t e i zv sz hu hi hz0 hz1' k k' c (by rw[hz2];exact hby) h63 (a0w _)
  have hv:(g.push w.heap.size (.slice (some ⟨w.heap.size,0,none⟩) 0 c)).val g.n= .slice (some ⟨w.heap.size,0,none⟩) 0 c:=by simp[Gh.push]
  have hbk:(g.push w.heap.size (.slice (some ⟨w.heap.size,0,none⟩) 0 c)).blk g.n=w.heap.size:=by simp[Gh.push]
  have hb:x1r w' (g.push w.heap.size (.slice (some ⟨w.heap.size,0,none⟩) 0 c)) g.n (.arr e sz []):=
   z0v (base:=0) (xs:=[]) (by rw[hv];exact hown) (by simp) (by simp) (fun k hk=>by rw[hv]at hk;rw[hbk];simpa[Value.ownBlock]using hk)
  obtain⟨hkk,hrr⟩:=y2t hs _ w.heap.size hgr (.inr ⟨0,c,rfl⟩) (a0q _) hb;exact⟨_,w',_,by simp[execOp,hop,e1,e2,hrun],hrr,hkk⟩
def v2m {y:Operand}{e:TypeId}{sz:Nat}(hop:o.op= .move y\/o.op= .assign y)(hy1:ρ y= .nils):x0p P [] h (h++[.arr e sz []]) ρ o (.own h.length):=
 .of_run fun g ρ' w hs hy=>by
  have hr:=hy y;rw[hy1]at hr;generalize hu0:ρ' y=u0 at hr;cases hr;obtain⟨hkk,hrr⟩:=y2t (e:=e) (sz:=sz) (rows:=[]) hs (.slice none 0 0) w.heap.size (w':=w) ⟨rfl,rfl,rfl,a0q _,fun _ _ _=>rfl⟩ (.inl rfl) (a0q _) ⟨by simp, .inl ⟨by simp[Gh.push],rfl⟩⟩
  exact⟨_,w,_,by rcases hop with e|e<;>simp[execOp,e,hu0],hrr,hkk⟩
end
section
variable {P : Program} {M : List Nat} {h h' : List Box} {ρ : Operand -> V} {o : Oper} {x : V}
def V.j2k (b:Nat)(x:D):V->V
 | .own c=>bif c == b then .d x else .own c
 | .pml c sz i off=>bif c == b then .any else .pml c sz i off
 |v=>v
def V.frz (b:Nat)(x:D):V->V
 | .agg cs=> .agg (cs.map (V.j2k b x))
 | .tup cs=> .tup (cs.map (V.j2k b x))
 | .fn f cs=> .fn f (cs.map (V.j2k b x))
 |v=>v.j2k b x
def Box.frz (b:Nat)(x:D):Box->Box
 | .cells t vs=> .cells t (vs.map (V.frz b x))
 |y=>y
def V.j1f {w:World}{g g':Gh}(ho:Over [] w g w g'){b:Nat}{x:D}(hx:RepD w g'.Z (g.val b) x){u:Value}{v:V}(hr:Rep w g u v):Rep w g' u (v.j2k b x):=by
 have h1:=ho.j0b hr;cases hr with
 |own c hc=>
  show Rep w g' _ (bif c == b then .d x else .own c);cases hcb:c == b with
  |true=>simp at hcb;subst hcb;exact .d hx
  |false=>exact h1
 |pml c sz i off hc=>
  show Rep w g' _ (bif c == b then .any else .pml c sz i off);cases hcb:c == b with
  |true=>exact .any _
  |false=>exact h1
 |_=>exact h1
def V.j1x {w:World}{g g':Gh}(ho:Over [] w g w g'){b:Nat}{x:D}(hx:RepD w g'.Z (g.val b) x){u:Value}{v:V}(hr:Rep w g u v):Rep w g' u (v.frz b x):=by
 have aux: ∀(us:Array Value) (cs:List V),(∀(i:Nat) u c,us[i]? =some u->cs[i]? =some c->Rep w g u c)->
     ∀(i:Nat) u c,us[i]? =some u->(cs.map (V.j2k b x))[i]? =some c->Rep w g' u c:=by
  intro us cs h i u c hu hc;rw[a0o,a0n]at hc;obtain⟨c',hc',rfl⟩:=hc;exact V.j1f ho hx (h i u c' hu hc')
 cases hr with
 |agg us cs hl h=>exact .agg us _ (by simpa using hl) (aux us cs h)
 |tup us cs hl h=>exact .tup us _ (by simpa using hl) (aux us cs h)
 |fn f us cs hl h=>exact .fn f us _ (by simpa using hl) (aux us cs h)
 |own c hc=>exact V.j1f ho hx (.own c hc)
 |pml c sz i off hc=>exact V.j1f ho hx (.pml c sz i off hc)
 |any u=>exact .any u
 |nils=>exact .nils
 |d h=>exact ho.j0b (.d h)
 |ptr b off hb=>exact ho.j0b (.ptr b off hb)
 |mv f b off hb=>exact ho.j0b (.mv f b off hb)
 |ifp f b off hb=>exact ho.j0b (.ifp f b off hb)
 |pel blk off cs U hZ hc hr=>exact ho.j0b (.pel blk off cs U hZ hc hr)
 |nilp=>exact .nilp
 |nilf=>exact .nilf
 |ifn0=>exact .ifn0
 |ifn1 t p=>exact .ifn1 t p
 |ifc t us cs hl h=>exact ho.j0b (.ifc t us cs hl h)
 |ifo0 t cs=>exact .ifo0 t cs
 |ifo1 t us cs hl h=>exact ho.j0b (.ifo1 t us cs hl h)
 |map b hb=>exact ho.j0b (.map b hb)
 |yld b R hb hc=>exact ho.j0b (.yld b R hb hc)
 |osl b sz lo n u hb hu=>exact ho.j0b (.osl b sz lo n u hb hu)
def z2e {g:Gh}{w:World}{b:Nat}{e:TypeId}{sz:Nat}{rows:LL}(hs:SimH g h w)(hb:h[b]? =some (.arr e sz rows)):
  ∃g',Keep [] g h w g' ((h.map (Box.frz b (.sl sz rows))).set b .gone) w/\ ∀u v,Rep w g u v->Rep w g' u (v.frz b (.sl sz rows)):=by
 let g':Gh:= { g with Z:=fun k o=>g.Z k o\/(Box.arr e sz rows).at? g b=some k }
 have hbl:b < h.length:=(a0c.1 hb).1;have ho:Over [] w g w g':=⟨⟨fun _ _ h=> .inl h,a0q _,fun _ _ _=>rfl,fun _ _ _=>rfl,fun _ _=>rfl⟩,fun _ _ _=>rfl⟩
 have hx:RepD w g'.Z (g.val b) (.sl sz rows):=by
  obtain⟨hl,hr⟩:=hs.rep b _ hb;rcases hr with⟨h1,h2⟩|⟨us,cap,h1,h2,_,h3,h4,h5⟩
  ·rw[h1,h2];exact .slnil _
  ·rw[h1];refine .sl (g.blk b) 0 rows.length cap sz rows (fun i j=>us[i*sz+j]?.getD undef) rfl h2 hl (fun i r j c hi hj=> .inr (by simp[Box.at?,h1])) (fun i r j c hi hj=> ?_) (fun i r j c hi hj=> ?_)
   ·obtain⟨u,hu,_⟩:=h5 i r j c hi hj;rw[a1z,x2w h3,hu];rfl
   ·obtain⟨u,hu,hd⟩:=h5 i r j c hi hj;rw[hu];exact hd.mono (fun _ _ h=> .inl h) (fun _ _ _=>rfl)
 have hget: ∀(c:Nat) z,((h.map (Box.frz b (.sl sz rows))).set b .gone)[c]? =some z->(c=b/\z= .gone)\/(c≠b/\ ∃z0,h[c]? =some z0/\z=z0.frz b (.sl sz rows)):=by
  intro c z hz;rw[getElem?_set']at hz;split at hz
  ·rename_i e;subst e
   (try rw[if_pos (by simpa using hbl)]at hz)
   cases hz;exact .inl ⟨rfl,rfl⟩
  ·rename_i e;rw[a0o,a0n]at hz;obtain⟨z0,h0,rfl⟩:=hz;exact .inr ⟨fun e'=>e e'.symm,z0,h0,rfl⟩
 have hat: ∀(c:Nat) (z0:Box),(z0.frz b (.sl sz rows)).at? g' c=z0.at? g c:=fun c z0=>by cases z0<;>rfl
 have hown: ∀k,x2r g' ((h.map (Box.frz b (.sl sz rows))).set b .gone) k->x2r g h k/\(Box.arr e sz rows).at? g b≠some k:=by
  rintro k ⟨c,z,hz,hk⟩
  rcases hget c z hz with⟨rfl,rfl⟩|⟨hc,z0,h0,rfl⟩
  ·simp[Box.at?]at hk
  ·rw[hat]at hk;exact⟨⟨c,z0,h0,hk⟩,fun h1=>hc (hs.sep c b z0 _ k h0 hb hk h1)⟩
 refine⟨g',⟨⟨by simp[g',hs.n],?_,?_,?_,?_,hs.tab.over ho⟩,ho.le,Fr.refl _ _,?_,fun k hk=> .inl (hown k hk).1⟩,fun u v hr=>V.j1x ho hx hr⟩
 ·intro c z hz;rcases hget c z hz with⟨rfl,rfl⟩|⟨hc,z0,h0,rfl⟩
  ·trivial
  ·have hr0:=hs.rep c z0 h0;have hcn:c < g.n:=by rw[hs.n];exact(a0c.1 h0).1
   cases z0 with
   |gone=>trivial
   |cells t vs=>
    obtain⟨us,o,k1,k0,k2,k3⟩:=hr0;refine⟨us,o,k1,k0,by simpa using k2,fun i u v hu hv=> ?_⟩
    rw[a0o,a0n]at hv;obtain⟨v',hv',rfl⟩:=hv;exact V.j1x ho hx (k3 i u v' hu hv')
   |mp kk rows'=>
    have:=x1r.over ho hcn (by simp) (fun k _=>rfl) hr0
    rwa [Box.j0c]at this
   |arr e' sz' rows'=>
    have:=x1r.over ho hcn (by simp) (fun k _=>rfl) hr0
    rwa [Box.j0c]at this
   |ful sz' rows'=>
    have:=x1r.over ho hcn (by simp) (fun k _=>rfl) hr0
    rwa [Box.j0c]at this
 ·intro c d z z' k hz hz' h1 h2;rcases hget c z hz with⟨rfl,rfl⟩|⟨hc,z0,h0,rfl⟩
  ·simp[Box.at?]at h1
  ·rcases hget d z' hz' with⟨rfl,rfl⟩|⟨hd,z0',h0',rfl⟩
   ·simp[Box.at?]at h2
   ·rw[hat]at h1 h2;exact hs.sep c d z0 z0' k h0 h0' h1 h2
 ·intro k o hk hz;obtain⟨h1,h2⟩:=hown k hk;rcases hz with hz|hz
  ·exact hs.zsep k o h1 hz
  ·exact h2 hz
 ·intro k o hz;rcases hz with hz|hz
  ·exact hs.zlt k o hz
  ·exact(hs.rep b _ hb).lt hz
 ·intro k o hz;rcases hz with hz|hz
  ·exact .inl hz
  ·exact .inr (.inr ⟨b,_,hb,hz⟩)
def y3k (dflt:Int):Option V->Option Int
 |none=>some dflt
 |some (.d (.int _ n))=>some n
 |_=>none
def w1p (a b:Int)(v:V):y3k a (some v)=y3k b (some v):=by
 cases v with
 |d x=>cases x<;>rfl
 |_=>rfl
def y1v {w:World}{g:Gh}{ρ':Operand->Value}(hy: ∀y,Rep w g (ρ' y) (ρ y)){y:Operand}{k:Int}{m:Nat}{code:BoundsCode}(hk:y3k 0 (some (ρ y))=some k)(h0:0<=k)(h1:k<=m):
  (Instr.sliceBound (ρ' y) m code).run P w= .ok k.toNat w:=by
 have hr:=hy y;unfold y3k at hk;split at hk
 ·rename_i h0;cases h0
 ·rename_i kd n hy1;simp only[Option.some.injEq]at hy1 hk;subst hk;have e1:=x0o (hy1▸hr);simp[Instr.sliceBound,e1,asIntOf,h0,h1]
 ·cases hk
def x6a {w:World}{g:Gh}{ρ':Operand->Value}(hy: ∀y,Rep w g (ρ' y) (ρ y)){lo hi:Option Operand}{l r:Int}{n cap:Nat}{isl:Bool}
  (hl:y3k 0 (lo.map ρ)=some l) (hh:y3k n (hi.map ρ)=some r) (h0:0<=l) (h1:l<=r) (h2:r<=n) (hc:n<=cap):
  (Instr.sliceBounds isl n cap (lo.map ρ') (hi.map ρ') none).run P w= .ok (l.toNat,r.toNat,cap) w:=by
 have e2: ∀code:BoundsCode,(match (hi.map ρ')with|some v=>Instr.sliceBound v cap code|none=>pure n:Sem Nat).run P w= .ok r.toNat w:=by
  intro code;cases hi with
  |none=>simp[y3k]at hh;subst hh;simp
  |some y=>
   have:y3k 0 (some (ρ y))=some r:=by
    rw[<-hh];exact w1p _ _ _
   exact y1v hy this (by omega) (by omega)
 have e1: ∀code:BoundsCode,(match (lo.map ρ')with|some v=>Instr.sliceBound v r.toNat code|none=>pure 0:Sem Nat).run P w= .ok l.toNat w:=by
  intro code;cases lo with
  |none=>simp[y3k]at hl;subst hl;simp
  |some y=>exact y1v hy hl h0 (by omega)
 unfold Instr.sliceBounds;cases hi with
 |none=>
  have:=e2 .sliceAcap;simp only[Option.map_none]at this ⊢;have e1':=e1 .sliceB;cases lo with
  |none=>simp_all
  |some y=>simp_all
 |some z=>
  have e2':=e2 (if isl then .sliceAcap else .sliceAlen);simp only[Option.map_some]at e2' ⊢;have e1':=e1 .sliceB;cases lo with
  |none=>simp_all
  |some y=>simp_all
def u5l {t e:TypeId}{y:Operand}{lo hi:Option Operand}{sz:Nat}{rows:LL}{l r:Int}(hop:o.op= .slice t y lo hi none)(hk:elO P t=some (e,sz))
  (hy1:ρ y= .d (.sl sz rows)) (hl:y3k 0 (lo.map ρ)=some l) (hh:y3k rows.length (hi.map ρ)=some r) (h0:0<=l) (h1:l<=r) (h2:r<=rows.length):
  x0p P [] h h ρ o (.d (.sl sz ((rows.take r.toNat).drop l.toNat))):=
 .pure fun g ρ' w hs hy=>by
  obtain⟨hu,hn⟩:=y2w hk;rcases x9j (hy1▸hy y)with⟨e1,rfl⟩|⟨a,cap,e1,rfl⟩|⟨blk,off,cap,U,e1,hcap,hlen,hZ,hc,hr⟩
  ·have hb:=x6a (P:=P) (isl:=true) hy hl hh h0 h1 h2 (a0q _);have hr0:r=0:=by simp at h2;omega
   have hl0:l=0:=by omega
   subst hr0;subst hl0;refine⟨.slice none 0 0,?_,by simpa using Rep.d (RepD.slnil sz)⟩
   simp only[a0d]at hb;simp[execOp,hop,e1,Instr.sliceAt,run_underlying hu,Instr.slice,hb,x0s hn]
  ·have hb:=x6a (P:=P) (isl:=true) hy hl hh h0 h1 h2 (a0w cap);have hr0:r=0:=by simp at h2;omega
   have hl0:l=0:=by omega
   subst hr0;subst hl0;refine⟨.slice (some a) 0 cap,?_,by simpa using Rep.d (RepD.slemp a cap sz)⟩
   simp only[a0d]at hb;simp[execOp,hop,e1,Instr.sliceAt,run_underlying hu,Instr.slice,hb,x0s hn,Addr.add]
  ·have hb:=x6a (P:=P) (isl:=true) hy hl hh h0 h1 h2 hcap;have hgen: ∀(A:Addr),(cap≠l.toNat->A=⟨blk,off+l.toNat*sz,none⟩)->(cap=l.toNat->A=⟨blk,off,none⟩)->
       Rep w g (.slice (some A) (r.toNat - l.toNat) (cap - l.toNat)) (.d (.sl sz ((rows.take r.toNat).drop l.toNat))):=by
    intro A hA1 hA2;have hlen':((rows.take r.toNat).drop l.toNat).length=r.toNat - l.toNat:=by simp;omega
    have hat: ∀(i:Nat) (q:List D),((rows.take r.toNat).drop l.toNat)[i]? =some q->rows[l.toNat+i]? =some q/\l.toNat+i < r.toNat:=by
     intro i q hq;rw[a1x,a1s]at hq;split at hq
     ·rename_i hlt;exact⟨hq,hlt⟩
     ·cases hq
    by_cases hcl:cap=l.toNat
    ·rw[hA2 hcl];exact .d (.sl blk off _ _ sz _ (fun _ _=>undef) hlen' (by omega) (fun i q hq=>hlen _ _ (hat i q hq).1)
      (fun i q j c hq hj=>by have:=(hat i q hq).2;omega) (fun i q j c hq hj=>by have:=(hat i q hq).2;omega) (fun i q j c hq hj=>by have:=(hat i q hq).2;omega))
    ·rw[hA1 hcl];have hadd: ∀i j,off+l.toNat*sz+(i*sz+j)=off+((l.toNat+i)*sz+j):=fun i j=>by rw[Nat.add_mul];omega
     exact .d (.sl blk _ _ _ sz _ (fun i j=>U (l.toNat+i) j) hlen' (by omega) (fun i q hq=>hlen _ _ (hat i q hq).1)
      (fun i q j c hq hj=>by rw[hadd];exact hZ _ _ _ _ (hat i q hq).1 hj) (fun i q j c hq hj=>by rw[hadd];exact hc _ _ _ _ (hat i q hq).1 hj) (fun i q j c hq hj=>hr _ _ _ _ (hat i q hq).1 hj))
   refine⟨_,?_,hgen (if cap=l.toNat then⟨blk,off,none⟩else⟨blk,off+l.toNat*sz,none⟩) (fun h=>by rw[if_neg h]) (fun h=>by rw[if_pos h])⟩
   simp only[execOp,hop,e1,Instr.sliceAt,Sem.run_bind,run_underlying hu,Result.andThen_ok,Instr.slice,Option.map_none,hb,x0s hn,Sem.run_pure];congr 2;split<;>rename_i hcl
   ·simp
   ·simp[x4b]
def u1k {t:TypeId}{y:Operand}{lo hi:Option Operand}{s:BA}{l r:Int}(hop:o.op= .slice t y lo hi none)(hu:P.underlying t=some .string)
  (hy1:ρ y= .d (.str s)) (hl:y3k 0 (lo.map ρ)=some l) (hh:y3k s.size (hi.map ρ)=some r) (h0:0<=l) (h1:l<=r) (h2:r<=s.size):
  x0p P [] h h ρ o (.d (.str (s.extract l.toNat r.toNat))):=
 .pure fun g ρ' w hs hy=>by
  have e1:=x2p (hy1▸hy y);have hb:=x6a (P:=P) (isl:=false) hy hl hh h0 h1 h2 (a0q _);exact⟨.string (s.extract l.toNat r.toNat),by simp[execOp,hop,e1,Instr.sliceAt,run_underlying hu,Instr.slice,hb], .d (.str _)⟩
def u1n {t:TypeId}{y z:Operand}{s:BA}{k:IntKind}{i:Int}(hop:o.op= .index t y z)(hu:P.underlying t=some .string)
  (hy1:ρ y= .d (.str s)) (hz:ρ z= .d (.int k i)) (h0:0<=i) (h1:i < s.size):x0p P [] h h ρ o (.d (.int .u8 ((s.data.getD i.toNat 0).toNat:Int))):=
 .pure fun g ρ' w hs hy=>by
  have e1:=x2p (hy1▸hy y);have e2:=x0o (hz▸hy z);have hi:i.toNat < s.size:=by omega
  have hi':i.toNat < s.data.size:=hi;refine⟨.int .u8 (s.data.getD i.toNat 0).toNat,?_, .d (.int _ _)⟩;have:s[i.toNat]? =some (s.data.getD i.toNat 0):=by
   rw[show s[i.toNat]? =some (s[i.toNat]'hi)from getElem?_pos s i.toNat hi];rw[Array.getD,dif_pos hi'];rfl
  simp[execOp,hop,e1,e2,Instr.index,asIntOf,run_underlying hu,h0,this]
def z3z {f:FuncId}{caps:Array Operand}(hop:o.op= .makeFunc (.func f) #[] caps):x0p P [] h h ρ o (.fn f (caps.toList.map ρ)):=
 .pure fun g ρ' w hs hy=>by
  refine⟨.func (.func f) #[] (caps.map ρ'),by simp[execOp,hop,Instr.makeFunc], .fn f _ _ (by simp) fun i u c hu hc=> ?_⟩
  rw[a0o,a0n]at hc;obtain⟨q,hq,rfl⟩:=hc;rw[Array.getElem?_map,a0n]at hu;obtain⟨q',hq',rfl⟩:=hu;rw[a1a]at hq;rw[hq]at hq';cases hq';exact hy q
def z1o {f:FuncId}{y:Operand}{b off:Nat}(hop:o.op= .makeFunc (.func f) #[y] #[])(hy1:ρ y= .ptr b off):x0p P [] h h ρ o (.mv f b off):=
 .pure fun g ρ' w hs hy=>by
  have hr:=hy y;rw[hy1]at hr;obtain⟨e,hb⟩:=x3p hr;exact⟨_,by simp[execOp,hop,Instr.makeFunc,e], .mv f b off hb⟩
def v9h {y z:Operand}{ts:Array TypeId}{k:IntKind}{a b:Int}(hop:o.op= .call { callee:= .builtin .max,args:= #[y,z],argTypes:=ts })(hy1:ρ y= .d (.int k a))(hz1:ρ z= .d (.int k b)):
  x0p P [] h h ρ o (.d (.int k (max a b))):=
 .pure fun g ρ' w hs hy=>by
  have e1:=x0o (hy1▸hy y);have e2:=x0o (hz1▸hy z);refine⟨.int k (max a b),?_, .d (.int _ _)⟩;have:(if b > a then b else a)=max a b:=by split<;>omega
  simp[execOp,hop,resolve,invoke,builtin,Builtin.max_,e1,e2,Builtin.max2,this]
def v9g {y z:Operand}{ts:Array TypeId}{k:IntKind}{a b:Int}(hop:o.op= .call { callee:= .builtin .min,args:= #[y,z],argTypes:=ts })(hy1:ρ y= .d (.int k a))(hz1:ρ z= .d (.int k b)):
  x0p P [] h h ρ o (.d (.int k (min a b))):=
 .pure fun g ρ' w hs hy=>by
  have e1:=x0o (hy1▸hy y);have e2:=x0o (hz1▸hy z);refine⟨.int k (min a b),?_, .d (.int _ _)⟩;have:(if b < a then b else a)=min a b:=by split<;>omega
  simp[execOp,hop,resolve,invoke,builtin,Builtin.min_,e1,e2,Builtin.min2,this]
end
section
variable {P : Program} {M : List Nat} {h h' : List Box} {ρ : Operand -> V} {o : Oper} {x : V}
def u2a (place:Nat->Option (Nat × Nat))(cells:List V):List (Nat × V)->Option (List V)
 | []=>some cells
 |(i,v)::rest=>match place i,v.j0f with
  |some (off,size),some ns=>if ns.length=size/\off+size<=cells.length then u2a place (cells.take off++ns++cells.drop (off+ns.length)) rest else none
  |_,_=>none
def u9l (off:Nat): ∀(l:List Value) (k:Nat) (cells:Array Value),off+k+l.length<=cells.size->
  ((l.zipIdx k).foldl (fun cs (c,j)=>cs.setIfInBounds (off+j) c) cells).toList=cells.toList.take (off+k)++l++cells.toList.drop (off+k+l.length)
 | [],k,cells,_=>by simp
 |c::l,k,cells,hl=>by
  have hlt:off+k < cells.size:=by simp at hl;omega
  rw[List.zipIdx_cons,List.foldl_cons,u9l off l (k+1) _ (by simp at hl ⊢;omega)]
  apply List.ext_getElem?;intro i;have hlen:cells.toList.length=cells.size:=Array.length_toList;have h1:=x6o (cells.setIfInBounds (off+k) c).toList l (off+(k+1)) i (by simp at hl ⊢;omega)
  have h2:=x6o cells.toList (c::l) (off+k) i (by rw[hlen];simpa using hl)
  rw[h1,h2,Array.toList_setIfInBounds,a1k];simp only[a0a]
  by_cases c1:i < off+k
  ·simp[c1,show i < off+(k+1) by omega,show ¬off+k=i by omega]
  ·by_cases c2:i=off+k
   ·subst c2;simp[show off+k < off+(k+1) by omega,hlt]
   ·have c3: ¬i < off+(k+1):=by omega
    rw[if_neg c3,if_neg c1]
    by_cases c4:i < off+(k+1)+l.length
    ·rw[if_pos c4,if_pos (by omega),show i - (off+k)=(i - (off+(k+1)))+1 by omega,List.getElem?_cons_succ]
    ·rw[if_neg c4,if_neg (by omega),if_neg (by omega)]
def u1w (off:Nat)(v cells:Array Value)(hl:off+v.size<=cells.size):
  (v.zipIdx.foldl (fun cs (c,j)=>cs.setIfInBounds (off+j) c) cells).toList=cells.toList.take off++v.toList++cells.toList.drop (off+v.size):=by
 rw[<-Array.foldl_toList,Array.toList_zipIdx];have:=u9l off v.toList 0 cells (by simpa using hl)
 simpa using this
def PW (w:World)(g:Gh)(us:Array Value)(vs:List V):Prop:=us.size=vs.length/\ ∀(i:Nat) u v,us[i]? =some u->vs[i]? =some v->Rep w g u v
def z2h {w:World}{g:Gh}(hs:SimH g h w)(place:Nat->Option (Nat × Nat)): ∀(pv:List (Nat × V)) (pu:List (Nat × Value)) (us:Array Value) (vs vs':List V),
  PW w g us vs->pu.length=pv.length->(∀(i:Nat) a b,pu[i]? =some a->pv[i]? =some b->a.1=b.1/\Rep w g a.2 b.2/\b.2.j0g h=true)->u2a place vs pv=some vs'->
  ∃us',Instr.fill place us pu=some us'/\PW w g us' vs'
 | [],[],us,vs,vs',hp,_,_,hf=>by cases hf;exact⟨us,rfl,hp⟩
 |(i,v)::pv,(i',u)::pu,us,vs,vs',hp,hl,hr,hf=>by
  obtain⟨e1,hru,hlv⟩:=hr 0 _ _ rfl rfl;simp only at e1;subst e1;simp only[u2a]at hf;split at hf
  ·rename_i off size ns hpl hns;split at hf
   ·rename_i hc;obtain⟨c1,c2⟩:=hc;obtain⟨d1,d2⟩:=x7x hru hns (y0t hs hlv);have hsz: ¬(u.cells.size≠size\/off+u.cells.size > us.size):=by rw[d1,hp.1];omega
    have hlen:off+u.cells.size<=us.size:=by rw[d1,hp.1];omega
    have ht:=u1w off u.cells us hlen;have hp':PW w g (u.cells.zipIdx.foldl (fun cs (c,j)=>cs.setIfInBounds (off+j) c) us) (vs.take off++ns++vs.drop (off+ns.length)):=by
     constructor
     ·rw[<-Array.length_toList,ht];simp[d1,hp.1]
     ·intro j a b ha hb;rw[<-a1a,ht]at ha;have hl0:u.cells.size=u.cells.toList.length:=by simp
      rw[hl0,x6o _ _ _ _ (by simp[d1,hp.1];omega)]at ha
      rw[x6o _ _ _ _ (by omega)]at hb
      rw[<-hl0,d1]at ha
      by_cases k1:j < off
      ·rw[if_pos k1]at ha hb;exact hp.2 j a b (by rwa [a1a]at ha) hb
      ·rw[if_neg k1]at ha hb
       by_cases k2:j < off+ns.length
       ·rw[if_pos k2]at ha hb;exact d2 _ a b (by rwa [a1a]at ha) hb
       ·rw[if_neg k2]at ha hb;exact hp.2 j a b (by rwa [a1a]at ha) hb
    obtain⟨us',h1,h2⟩:=z2h hs place pv pu _ _ vs' hp' (by simpa using hl) (fun k a b ha hb=>hr (k+1) a b (by simpa using ha) (by simpa using hb)) hf
    refine⟨us',?_,h2⟩;simp only[Instr.fill,hpl,Bool.or_eq_true,a0p];rw[if_neg (by simpa using hsz)]
    exact h1
   ·cases hf
  ·cases hf
 | [],_::_,_,_,_,_,hl,_,_=>by simp at hl
 |_::_,[],_,_,_,_,hl,_,_=>by simp at hl
def z6t (P:Program)(t:TypeId):Option (List V × (Nat->Option (Nat × Nat))):=
 match P.info? t,P.underlying t with
 |some it,some (.array _ e)=>
  match it.zero,P.info? e with
  |some z,some ie=>(x5l z).j0f.map fun zs=>(zs,fun i=>some (i*ie.size,ie.size))
  |_,_=>none
 |some it,some (.struct fields)=>
  match it.zero,fields.toList.mapM (fun f=>(P.info? f.type).map fun i=>(f.offset,i.size))with
  |some z,some places=>(x5l z).j0f.map fun zs=>(zs,(places.toArray[·]?))
  |_,_=>none
 |_,_=>none
def w6z {t:TypeId}{zs:List V}{place:Nat->Option (Nat × Nat)}(hp:z6t P t=some (zs,place)){w:World}{g:Gh}(hs:SimH g h w):
  ∃z:Value,(x5l z).j0f=some zs/\PW w g z.cells zs/\ ∀parts,P.built t parts=Instr.fill place z.cells parts:=by
 have key: ∀z:Value,(x5l z).j0f=some zs->PW w g z.cells zs:=fun z hz=>
  x7x (y0o w g z) hz (y0t hs (y1z z))
 unfold z6t at hp;split at hp
 ·rename_i it n e hi hu;split at hp
  ·rename_i z ie hz hie;obtain⟨zs',h1,h2⟩:=a0n.1 hp;cases h2;exact⟨z,h1,key z h1,fun parts=>by simp[Program.built,hi,hu,hz,hie]⟩
  ·cases hp
 ·rename_i it fields hi hu;split at hp
  ·rename_i z places hz hpl;obtain⟨zs',h1,h2⟩:=a0n.1 hp;cases h2;exact⟨z,h1,key z h1,fun parts=>by simp[Program.built,hi,hu,hz,hpl]⟩
  ·cases hp
 ·cases hp
def u5q {t:TypeId}{parts:Array (Nat × Operand)}{zs vs:List V}{place:Nat->Option (Nat × Nat)}(hop:o.op= .build t parts)(hp:z6t P t=some (zs,place))
  (hf:u2a place zs (parts.toList.map fun q=>(q.1,ρ q.2))=some vs) (hlv:(parts.toList.all fun q=>(ρ q.2).j0g h)=true):x0p P [] h h ρ o (.agg vs):=
 .pure fun g ρ' w hs hy=>by
  obtain⟨z,hz,hpw,hbt⟩:=w6z hp hs;obtain⟨us',h1,h2⟩:=z2h hs place (parts.toList.map fun q=>(q.1,ρ q.2)) (parts.toList.map fun q=>(q.1,ρ' q.2)) z.cells zs vs hpw (by simp) (fun i a b ha hb=>by
   rw[a0o,a0n]at ha hb;obtain⟨q,hq,rfl⟩:=ha;obtain⟨q',hq',rfl⟩:=hb;rw[hq]at hq';cases hq';exact⟨rfl,hy _,a0l.1 hlv q (a0j hq)⟩) hf
  refine⟨.agg us',?_, .agg us' vs h2.1 h2.2⟩;have hrun:=run_build (P:=P) w t (parts.map fun (i,x)=>(i,ρ' x)) us' (by rw[hbt];simpa using h1)
  simp only[execOp,hop,Sem.run_bind,hrun,Result.andThen_ok,Sem.run_pure]
def y7k (ss:List Sh)(sz:Nat):Nat->List V->Option LL
 |0,_=>some []
 |n+1,vs=>match v4d ss (vs.take sz),y7k ss sz n (vs.drop sz)with
  |some r,some rs=>some (r::rs)
  |_,_=>none
def y3p {ss:List Sh}{sz:Nat}: ∀ {n:Nat} {vs:List V} {rows:LL},y7k ss sz n vs=some rows->n*sz<=vs.length->rows.length=n/\(∀(i:Nat) (r:List D),rows[i]? =some r->r.length=sz)/\
  ∀(i:Nat) (r:List D) (j:Nat) (c:D),rows[i]? =some r->r[j]? =some c-> ∃v s,vs[i*sz+j]? =some v/\v.toD s=some c
 |0,vs,rows,h,_=>by cases h;simp
 |n+1,vs,rows,h,hl=>by
  simp only[y7k]at h;have hl':n*sz+sz<=vs.length:=by rwa [Nat.add_mul,Nat.one_mul]at hl
  split at h
  ·rename_i r rs h1 h2;cases h;obtain⟨a1,a2⟩:=y1p h1;obtain⟨b1,b2,b3⟩:=y3p h2 (by simp;omega)
   have hrl:r.length=sz:=by rw[a1];simp;omega
   refine⟨by simp[b1],fun i r' hr=> ?_,fun i r' j c hr hc=> ?_⟩
   ·cases i with
    |zero=>simp at hr;subst hr;exact hrl
    |succ i=>exact b2 i r' (by simpa using hr)
   ·cases i with
    |zero=>
     simp at hr;subst hr;have hj:j < sz:=by rw[<-hrl];exact(a0c.1 hc).1
     have hjv:j < vs.length:=by omega
     obtain⟨s,hs'⟩:=a2 j vs[j] c (by rw[a1s,if_pos hj];exact a0b hjv) hc
     exact⟨vs[j],s,by simp[hjv],hs'⟩
    |succ i=>
     obtain⟨v,s,hv,hs'⟩:=b3 i r' j c (by simpa using hr) hc
     refine⟨v,s,?_,hs'⟩;rw[a1x]at hv;rw[<-hv,Nat.add_mul,Nat.one_mul];congr 1;omega
  ·cases h
def q3s (P:Program)(t:TypeId)(n:Nat)(parts:List (Nat × V)):Option (TypeId × Nat × List V):=
 match elT P t with
 |some (e,sz,_,z)=>match (x5l z).j0f with
  |some zs=>if zs.length=sz/\0 < sz/\n*sz<=16777216 then(u2a (fun i=>some (i*sz,sz)) ((List.range (n*sz)).map fun i=>zs.getD (i % sz) .any) parts).map fun vs=>(e,sz,vs)else none
  |none=>none
 |none=>none
def y7t {place:Nat->Option (Nat × Nat)}: ∀ {pv:List (Nat × V)} {vs vs':List V},u2a place vs pv=some vs'->vs'.length=vs.length
 | [],vs,vs',h=>by cases h;rfl
 |(i,v)::pv,vs,vs',h=>by
  simp only[u2a]at h;split at h
  ·split at h
   ·rename_i hc;rw[y7t h];simp;omega
   ·cases h
  ·cases h
def y3h {w:World}{g:Gh}{ρ':Operand->Value}(hs:SimH g h w)(hy: ∀y,Rep w g (ρ' y) (ρ y)){t e:TypeId}{n sz:Nat}{parts:Array (Nat × Operand)}{vs:List V}
  (hf:q3s P t n (parts.toList.map fun q=>(q.1,ρ q.2))=some (e,sz,vs)) (hlv:(parts.toList.all fun q=>(ρ q.2).j0g h)=true):
  ∃us:Array Value,(Instr.buildSlice t n (parts.map fun (i,x)=>(i,ρ' x))).run P w= .ok (.slice (some ⟨w.heap.size,0,none⟩) n n) (w.alloc (.cells us e))/\PW w g us vs/\us.size=n*sz:=by
 unfold q3s at hf;split at hf
 ·rename_i e0 sz0 by0 z hel;split at hf
  ·rename_i zs hzs;split at hf
   ·rename_i hc;obtain⟨c1,c2,c3⟩:=hc;obtain⟨vs0,hf,he⟩:=a0n.1 hf;cases he;obtain⟨hu,i,hi,hz0,hz1,hz2⟩:=y2v hel;have hpz:PW w g z.cells zs:=x7x (y0o w g z) hzs (y0t hs (y1z z));have hzl:z.cells.size=sz:=by rw[hpz.1,c1]
    have hp0:PW w g ((Array.range (n*sz)).map (z.cells[· % z.cells.size]!)) ((List.range (n*sz)).map fun i=>zs.getD (i % sz) .any):=by
     refine⟨by simp,fun j a b ha hb=> ?_⟩
     have hj:j < n*sz:=by have:=(a0r.1 ha).1;simpa using this
     have hm:j % sz < sz:=Nat.mod_lt _ c2;simp[hj]at ha hb;subst ha;subst hb;have h1:j % z.cells.size < z.cells.size:=by rw[hzl];exact hm
     have k1:z.cells[j % sz]? =some (z.cells[j % z.cells.size]!):=by
      rw[getElem!_pos z.cells (j % z.cells.size) h1,show j % sz=j % z.cells.size by rw[hzl]];exact a0x h1
     have k2:zs[j % sz]? =some (zs[j % sz]?.getD .any):=by
      have hlt:j % sz < zs.length:=by rw[c1];exact hm
      simp[hlt]
     exact hpz.2 (j % sz) _ _ k1 k2
    obtain⟨us',h1,h2⟩:=z2h hs _ (parts.toList.map fun q=>(q.1,ρ q.2)) (parts.toList.map fun q=>(q.1,ρ' q.2)) _ _ vs hp0 (by simp) (fun i a b ha hb=>by
     rw[a0o,a0n]at ha hb;obtain⟨q,hq,rfl⟩:=ha;obtain⟨q',hq',rfl⟩:=hb;rw[hq]at hq';cases hq';exact⟨rfl,hy _,a0l.1 hlv q (a0j hq)⟩) hf
    refine⟨us',?_,h2,?_⟩
    ·have hlist:(parts.map fun (i,x)=>(i,ρ' x)).toList=parts.toList.map fun q=>(q.1,ρ' q.2):=by simp
     have hsz:(sizeOf e).run P w= .ok sz w:=x0s (by simp[szO,hi,hz1]) w
     have hze:(zeroValue e).run P w= .ok z w:=y3n (by simp[z3k,hi,hz0]) w
     unfold Instr.buildSlice;simp only[Sem.run_bind,run_underlying hu,Result.andThen_ok,hsz,Sem.run_ite];rw[if_neg (by omega)]
     simp only[Sem.run_pure,Result.andThen_ok]
     by_cases hn0:n*sz=0
     ·rw[if_pos hn0];simp only[hlist];have h0:((Array.range (n*sz)).map fun x=>(#[]:Array Value)[x % (#[]:Array Value).size]!)=((Array.range (n*sz)).map (z.cells[· % z.cells.size]!)):=by rw[hn0];simp
      rw[h0,h1];simp only[Sem.run_bind,newRow,run_newObj,Result.andThen_ok,Sem.run_pure,World.alloc_eq]
     ·rw[if_neg hn0];simp only[Sem.run_bind,hze,Sem.run_pure,Result.andThen_ok,hlist,h1,newRow,run_newObj,World.alloc_eq]
    ·rw[h2.1,y7t hf];simp
   ·cases hf
  ·cases hf
 ·cases hf
def y1g {t e:TypeId}{n sz:Nat}{parts:Array (Nat × Operand)}{vs:List V}{ss:List Sh}{rows:LL}(hop:o.op= .buildSlice t n parts)
  (hf:q3s P t n (parts.toList.map fun q=>(q.1,ρ q.2))=some (e,sz,vs)) (hlv:(parts.toList.all fun q=>(ρ q.2).j0g h)=true) (hr:y7k ss sz n vs=some rows) (hn:n<=maxLen):
  x0p P [] h (h++[.arr e sz rows]) ρ o (.own h.length):=
 .of_run fun g ρ' w hs hy=>by
  obtain⟨us,hrun,hpw,hus⟩:=y3h hs hy hf hlv;have hvl:vs.length=n*sz:=by rw[<-hpw.1,hus]
  obtain⟨r1,r2,r3⟩:=y3p hr (by omega)
  have hv:(g.push w.heap.size (.slice (some ⟨w.heap.size,0,none⟩) n n)).val g.n= .slice (some ⟨w.heap.size,0,none⟩) n n:=by simp[Gh.push]
  have hbk:(g.push w.heap.size (.slice (some ⟨w.heap.size,0,none⟩) n n)).blk g.n=w.heap.size:=by simp[Gh.push]
  have hfr:Fr (fun _=>False) w (w.alloc (.cells us e)):=Fr.alloc _ _ _
  have ho:Over [] w g (w.alloc (.cells us e)) g:=⟨Gh.Le.refl _ _,fun b o hz=>hfr.cell (hs.zlt b o hz) (fun h=>h)⟩
  have hb:x1r (w.alloc (.cells us e)) (g.push w.heap.size (.slice (some ⟨w.heap.size,0,none⟩) n n)) g.n (.arr e sz rows):=by
   refine⟨r2, .inr ⟨us,n,by rw[hv,hbk,r1],by omega,hn,by rw[hbk];exact x7h w _,hus,fun i r j c hi hj=> ?_⟩⟩
   obtain⟨v,s,h1,h2⟩:=r3 i r j c hi hj;have hlt:i*sz+j < us.size:=by rw[hpw.1];exact(a0c.1 h1).1
   exact⟨us[i*sz+j],a0x hlt,ho.j0z (y1q (hpw.2 _ _ v (a0x hlt) h1) h2)⟩
  obtain⟨hkk,hrr⟩:=y2t (w':=w.alloc (.cells us e)) hs _ w.heap.size ⟨rfl,rfl,rfl,by simp,fun k hk _=>by show(w.heap.push _)[k]? =_;rw[a2d,if_neg (by omega)]⟩ (.inr ⟨n,n,rfl⟩) (a0q _) hb
  exact⟨_,_,_,by simp only[execOp,hop,Sem.run_bind,hrun,Result.andThen_ok,Sem.run_pure],hrr,hkk⟩
def Keep.j2w {g:Gh}{w:World}(hs:SimH g h w)(us:Array Value)(t:TypeId):
  Keep [] g h w { g with Z:=fun b o=>g.Z b o\/b=w.heap.size } h (w.alloc (.cells us t)):=by
 have hfr:Fr (fun _=>False) w (w.alloc (.cells us t)):=Fr.alloc _ _ _
 have hle:g.Le (· ∈([]:List Nat)) { g with Z:=fun b o=>g.Z b o\/b=w.heap.size }:=⟨fun _ _ h=> .inl h,a0q _,fun _ _ _=>rfl,fun _ _ _=>rfl,fun _ _=>rfl⟩
 have ho:Over [] w g (w.alloc (.cells us t)) { g with Z:=fun b o=>g.Z b o\/b=w.heap.size }:=⟨hle,fun b o hz=>hfr.cell (hs.zlt b o hz) (fun h=>h)⟩
 have hat: ∀(b:Nat) (x:Box),x.at? { g with Z:=fun b o=>g.Z b o\/b=w.heap.size } b=x.at? g b:=fun b x=>by cases x<;>rfl
 have hown: ∀k,x2r { g with Z:=fun b o=>g.Z b o\/b=w.heap.size } h k->x2r g h k:=fun k ⟨b,x,h1,h2⟩=>⟨b,x,h1,by rwa [hat]at h2⟩
 refine⟨⟨hs.n,?_,?_,?_,?_,hs.tab.over ho⟩,hle,hfr.mono (fun _ h=>h.elim),fun b o hz=> ?_,fun k hk=> .inl (hown k hk)⟩
 ·intro b x hx;have:=x1r.over ho (by rw[hs.n];exact(a0c.1 hx).1) (by simp) (fun k hk=>hfr.block k ((hs.rep b x hx).lt hk) (fun h=>h)) (hs.rep b x hx)
  rwa [Box.j0c]at this
 ·intro b c x y k h1 h2 h3 h4;rw[hat]at h3 h4;exact hs.sep b c x y k h1 h2 h3 h4
 ·intro k o hk hz;have hk:=hown k hk;rcases hz with hz|hz
  ·exact hs.zsep k o hk hz
  ·have:=hs.j0r hk;omega
 ·intro b o hz;rcases hz with hz|hz
  ·have:=hs.zlt b o hz;simp;omega
  ·simp;omega
 ·rcases hz with hz|hz
  ·exact .inl hz
  ·exact .inr (.inl (by omega))
def y6v {t e:TypeId}{n sz:Nat}{parts:Array (Nat × Operand)}{vs:List V}{ss:List Sh}{rows:LL}(hop:o.op= .buildSlice t n parts)
  (hf:q3s P t n (parts.toList.map fun q=>(q.1,ρ q.2))=some (e,sz,vs)) (hlv:(parts.toList.all fun q=>(ρ q.2).j0g h)=true) (hr:y7k ss sz n vs=some rows):
  x0p P [] h h ρ o (.d (.sl sz rows)):=
 .of_run fun g ρ' w hs hy=>by
  obtain⟨us,hrun,hpw,hus⟩:=y3h hs hy hf hlv;have hvl:vs.length=n*sz:=by rw[<-hpw.1,hus]
  obtain⟨r1,r2,r3⟩:=y3p hr (by omega)
  have hk:=Keep.j2w hs us e;have ho:=hk.over hs;refine⟨.slice (some ⟨w.heap.size,0,none⟩) n n,w.alloc (.cells us e),_,by simp only[execOp,hop,Sem.run_bind,hrun,Result.andThen_ok,Sem.run_pure],?_,hk⟩
  refine .d (.sl w.heap.size 0 n n sz rows (fun i j=>us[i*sz+j]?.getD undef) r1 (a0q _) r2 (fun _ _ _ _ _ _=> .inr rfl) (fun i r j c hi hj=> ?_) (fun i r j c hi hj=> ?_))
  all_goals
   obtain⟨v,s,h1,h2⟩:=r3 i r j c hi hj;have hlt:i*sz+j < us.size:=by rw[hpw.1];exact(a0c.1 h1).1
  ·rw[a1z,x2w (x7h w _)];simp[hlt]
  ·have:=ho.j0z (y1q (hpw.2 _ _ v (a0x hlt) h1) h2)
   simpa[hlt]using this
end
section
variable {P : Program} {M : List Nat} {h h' : List Box} {ρ : Operand -> V} {o : Oper} {x : V}
def z3u:D->D->Bool
 | .int _ a, .int _ b=>a == b
 | .str s, .str t=>s == t
 |_,_=>false
def y6o (k:D):LL->Option Nat
 | []=>none
 |r::rs=>match r with
  |k'::_=>if z3u k k' then some 0 else(y6o k rs).map (· +1)
  | []=>(y6o k rs).map (· +1)
def q3o (k:D)(rows:LL):Option D:=(y6o k rows).bind fun i=>(rows[i]?).bind (·[1]?)
def mput (k v:D)(rows:LL):LL:=match y6o k rows with
 |some i=>rows.set i [k,v]
 |none=>rows++[[k,v]]
def mdel (k:D)(rows:LL):LL:=match y6o k rows with
 |some i=>rows.eraseIdx i
 |none=>rows
def mval (z k:D)(rows:LL):D:=(q3o k rows).getD z
def mhas (k:D)(rows:LL):Bool:=(y6o k rows).isSome
def v2f (P:Program)(t:TypeId):Option (TypeId × KK):=match P.underlying t with
 |some (.map k e)=>match P.underlying k with
  |some (.int kk)=>some (e, .int kk)
  |some .string=>some (e, .str)
  |_=>none
 |_=>none
def u5u {kk:KK}{d:D}(hf:kk.j2a d=true):kk.fits d:=by
 cases kk<;>cases d<;>simp_all [KK.j2a,KK.fits]
def KK.desc:KK->TypeDesc
 | .int k=> .int k
 | .str=> .string
def y4x {t e:TypeId}{kk:KK}(hm:v2f P t=some (e,kk)): ∃k,P.underlying t=some (.map k e)/\P.underlying k=some kk.desc:=by
 unfold v2f at hm;split at hm
 ·rename_i k e' hu;split at hm<;>cases hm
  ·exact⟨k,hu,by assumption⟩
  ·exact⟨k,hu,by assumption⟩
 ·cases hm
def z7p {w:World}{Z:Nat->Nat->Prop}{kk:KK}{u:Value}{k:D}(hf:kk.fits k)(hr:RepD w Z u k):MapKept.IsKey kk.desc u:=by
 cases kk with
 |int q=>cases k<;>simp only[KK.fits]at hf;subst hf;cases hr;simp[MapKept.IsKey,KK.desc]
 |str=>cases k<;>simp only[KK.fits]at hf;cases hr;simp[MapKept.IsKey,KK.desc]
def w3r {w:World}{Z:Nat->Nat->Prop}{kk:KK}{u u':Value}{k k':D}(hf:kk.fits k)(hf':kk.fits k')(hr:RepD w Z u k)(hr':RepD w Z u' k'):
  Instr.sameNow kk.desc u u'=some (z3u k k'):=by
 cases kk with
 |int q=>
  cases k<;>simp only[KK.fits]at hf
  cases k'<;>simp only[KK.fits]at hf'
  subst hf;subst hf';cases hr;cases hr';simp[Instr.sameNow,KK.desc,z3u]
 |str=>
  cases k<;>simp only[KK.fits]at hf
  cases k'<;>simp only[KK.fits]at hf'
  cases hr;cases hr';simp[Instr.sameNow,KK.desc,z3u]
def EntR (w:World)(Z:Nat->Nat->Prop)(kk:KK)(e:MapEntry)(r:List D):Prop:= ∃k v,r= [k,v]/\kk.fits k/\RepD w Z e.key k/\RepD w Z e.val v
def y5j {w:World}{Z:Nat->Nat->Prop}{kk:KK}{u:Value}{k:D}(hf:kk.fits k)(hr:RepD w Z u k): ∀(es:List MapEntry) (rows:LL) (n:Nat),es.length=rows.length->
  (∀(i:Nat) e r,es[i]? =some e->rows[i]? =some r->EntR w Z kk e r)->
  (y6o k rows=none/\Instr.findNow kk.desc u es n=some none)\/ ∃i e r v,y6o k rows=some i/\es[i]? =some e/\rows[i]? =some r/\Instr.findNow kk.desc u es n=some (some (n+i,e.val))/\
   r[1]? =some v/\RepD w Z e.val v/\e.key=u
 | [],[],n,_,_=> .inl ⟨rfl,rfl⟩
 |e::es,r::rows,n,hl,h=>by
  obtain⟨k',v,rfl,q1,q2,q3⟩:=h 0 e r rfl rfl;have hs:=w3r hf q1 hr q2;cases hk:z3u k k' with
  |true=>
   rw[hk]at hs;refine .inr ⟨0,e,[k',v],v,by simp[y6o,hk],rfl,rfl,by simp[Instr.findNow,hs],rfl,q3,?_⟩
   cases kk with
   |int q=>
    cases k<;>simp only[KK.fits]at hf
    cases k'<;>simp only[KK.fits]at q1
    subst hf;subst q1;cases hr;generalize e.key=ek at q2 hs;cases q2;simp only[z3u,beq_iff_eq]at hk;rw[hk]
   |str=>
    cases k<;>simp only[KK.fits]at hf
    cases k'<;>simp only[KK.fits]at q1
    cases hr;generalize e.key=ek at q2 hs;cases q2;rw[(MapKept.bytes_beq _ _).1 hk]
  |false=>
   rw[hk]at hs;rcases y5j hf hr es rows (n+1) (by simpa using hl) (fun i e' r' he hr'=>h (i+1) e' r' (by simpa using he) (by simpa using hr'))with⟨a,b⟩|⟨i,e',r',v',a1,a2,a3,a4,a5,a6,a7⟩
   ·exact .inl ⟨by simp[y6o,hk,a],by simp[Instr.findNow,hs,b]⟩
   ·refine .inr ⟨i+1,e',r',v',by simp[y6o,hk,a1],by simpa using a2,by simpa using a3,?_,a5,a6,a7⟩
    rw[show n+(i+1)=n+1+i by omega]
    simpa[Instr.findNow,hs]using a4
def y0p {w:World}{g:Gh}{u:Value}{b:Nat}(hr:Rep w g u (.map b)):u=g.val b/\b < g.n:=by cases hr;exact⟨rfl,by assumption⟩
def w4z {g:Gh}{w:World}{b:Nat}{kk:KK}{rows:LL}{t e:TypeId}{z:Value}{s:Sh}{u:Value}{k:D}(hs:SimH g h w)(hb:h[b]? =some (.mp kk rows))(hm:v2f P t=some (e,kk))
  (hz:z3k P e=some z) (hzr:RepD w g.Z z (y8b s)) (hf:kk.fits k) (hr:RepD w g.Z u k) (c:Bool):
  ∃v,(Instr.lookup t (g.val b) u c).run P w= .ok (if c then .tuple #[v, .bool (mhas k rows)]else v) w/\RepD w g.Z v (mval (y8b s) k rows):=by
 obtain⟨kt,h1,h2⟩:=y4x hm;obtain⟨ens,clock,q1,q2,q3,q4⟩:=hs.rep b _ hb;have hck:=MapKept.run_checkKey (P:=P) (w:=w) h2 (z7p hf hr) ens.isEmpty 9999;unfold Instr.lookup;simp only[Sem.run_bind,run_underlying h1,Result.andThen_ok,q2,MapKept.run_getObj_map q1,Sem.run_pure,hck];rcases y5j hf hr ens.toList rows 0 (by simpa using q3) (fun i e r he hr=>q4 i e r (by simpa using he) hr)with⟨a1,a2⟩|⟨i,en,r,v,a1,a2,a3,a4,a5,a6,_⟩
 ·refine⟨z,?_,?_⟩
  ·rw[MapKept.run_findKey h2 a2];simp[y3n hz,mhas,a1]
  ·simp[mval,q3o,a1];exact hzr
 ·refine⟨en.val,?_,?_⟩
  ·rw[MapKept.run_findKey h2 a4];simp[mhas,a1]
  ·simp[mval,q3o,a1,a3,a5];exact a6
def u1l {t e:TypeId}{y q:Operand}{b:Nat}{kk:KK}{rows:LL}{z:Value}{s:Sh}{k:D}{c:Bool}(hop:o.op= .lookup t y q c)(hy1:ρ y= .map b)(hb:h[b]? =some (.mp kk rows))
  (hm:v2f P t=some (e,kk)) (hz:z3k P e=some z) (hzk:y4d [s] [z]=true) (hq:ρ q= .d k) (hf:kk.fits k):
  x0p P [] h h ρ o (bif c then .tup [.d (mval (y8b s) k rows), .d (.bool (mhas k rows))]else .d (mval (y8b s) k rows)):=
 .pure fun g ρ' w hs hy=>by
  obtain⟨e1,_⟩:=y0p (hy1▸hy y);have hr:=x9k (hq▸hy q);have hzr:=(y0g (w:=w) (Z:=g.Z) hzk).2 0 s z rfl rfl;obtain⟨v,h1,h2⟩:=w4z hs hb hm hz hzr hf hr c;have he:(execOp ρ' o).run P w= .ok (.value (if c then .tuple #[v, .bool (mhas k rows)]else v)) w:=by
   simp only[execOp,hop,e1,Sem.run_bind,h1,Result.andThen_ok,Sem.run_pure]
  refine⟨_,he,?_⟩;cases c with
  |true=>
   refine .tup _ _ rfl fun i u c hu hc=> ?_
   match i with
   |0=>simp at hu hc;subst hu;subst hc;exact .d h2
   |1=>simp at hu hc;subst hu;subst hc;exact .d (.bool _)
   |i+2=>simp at hc
  |false=>exact .d h2
def Keep.j0s {g:Gh}{w:World}{b:Nat}{kk:KK}{rows rows':LL}{ens ens':Array MapEntry}{clock clock':Nat}(hs:SimH g h w)(hb:h[b]? =some (.mp kk rows))(hh:w.heap[g.blk b]? =some (.map ens clock))
  (hsz:ens'.size=rows'.length) (hr: ∀(i:Nat) e r,ens'[i]? =some e->rows'[i]? =some r->EntR w g.Z kk e r):
  Keep [] g h w g (h.set b (.mp kk rows')) { w with heap:=w.heap.setIfInBounds (g.blk b) (.map ens' clock') }:=by
 obtain⟨_,_,_,q2,_⟩:=hs.rep b _ hb;have hset:=MapKept.heap_set (o':= .map ens' clock') hh;have hfr:Fr (fun k=>(Box.mp kk rows).at? g b=some k) w { w with heap:=w.heap.setIfInBounds (g.blk b) (.map ens' clock') }:=
  ⟨rfl,rfl,rfl,by simp,fun k hk hn=>hset.2 k (fun e=>hn (by simp[Box.at?,e]))⟩
 have ho:Over [] w g { w with heap:=w.heap.setIfInBounds (g.blk b) (.map ens' clock') } g:=
  ⟨Gh.Le.refl _ _,fun k o hz=>hfr.cell (hs.zlt k o hz) (fun e=>hs.zsep k o ⟨b,_,hb,e⟩ hz)⟩
 have:=Keep.turn (y:= .mp kk rows') hs hb [] (.inl ⟨rfl,rfl⟩) rfl rfl rfl (fun _ _=>⟨rfl,rfl⟩) hfr ⟨ens',clock',hset.1,q2,hsz,fun i e r he hr'=>by
  obtain⟨k,v,p1,p2,p3,p4⟩:=hr i e r he hr';exact⟨k,v,p1,p2,ho.j0z p3,ho.j0z p4⟩⟩ (fun k hk=> .inl hk)
 rwa [x2v]at this
def v1i (u:Value){w:World}{Z:Nat->Nat->Prop}{kk:KK}{k:D}(hf:kk.fits k)(hr:RepD w Z u k)(w':World):(Instr.keyThatStays u u).run P w'= .ok u w':=by
 cases kk with
 |int q=>cases k<;>simp only[KK.fits]at hf;cases hr;simp[Instr.keyThatStays,Instr.sameBits]
 |str=>
  cases k<;>simp only[KK.fits]at hf
  cases hr;have: ∀s:BA,(s == s)=true:=fun s=>(MapKept.bytes_beq _ _).2 rfl
  simp[Instr.keyThatStays,Instr.sameBits,this]
def z1m {t e:TypeId}{y q r:Operand}{b:Nat}{kk:KK}{rows:LL}{s:Sh}{k x:D}(hop:o.op= .mapUpdate t y q r\/o.op= .insert t y q r)(hy1:ρ y= .map b)(hb:h[b]? =some (.mp kk rows))
  (hm:v2f P t=some (e,kk)) (hq:ρ q= .d k) (hf:kk.fits k) (hx:(ρ r).toD s=some x):x0p P [] h (h.set b (.mp kk (mput k x rows))) ρ o .any:=
 .j1j fun g ρ' w hs hy=>by
  obtain⟨e1,_⟩:=y0p (hy1▸hy y);have hr:=x9k (hq▸hy q);have hxr:=y1q (hy r) hx;obtain⟨kt,h1,h2⟩:=y4x hm;obtain⟨ens,clock,q1,q2,q3,q4⟩:=hs.rep b _ hb;have hck:=MapKept.run_checkKey (P:=P) (w:=w) h2 (z7p hf hr) false 9999;have hex:(execOp ρ' o).run P w=((Instr.mapUpdate t (g.val b) (ρ' q) (ρ' r)).run P w).andThen fun _ w'=> .ok .skip w':=by
   rcases hop with hop|hop<;>simp only[execOp,hop,e1,Sem.run_bind]<;>rfl
  rw[hex];unfold Instr.mapUpdate;simp only[Sem.run_bind,run_underlying h1,Result.andThen_ok,q2,MapKept.run_getObj_map q1,hck];rcases y5j hf hr ens.toList rows 0 (by simpa using q3) (fun i e r he hr=>q4 i e r (by simpa using he) hr)with⟨a1,a2⟩|⟨i,en,rw_,v,a1,a2,a3,a4,a5,a6,a7⟩
  ·rw[MapKept.run_findKey h2 a2];simp only[Result.andThen_ok,MapKept.run_setObj_map _ q1];refine⟨_,g,rfl,?_⟩;simp only[mput,a1];refine Keep.j0s hs hb q1 (by simp[q3]) fun j e' r' he hr'=> ?_
   rw[a2d]at he;rw[a0y]at hr';split at he
   ·rename_i hj;cases he;rw[if_neg (by omega)]at hr'
    simp[hj,q3]at hr';subst hr';exact⟨k,x,rfl,hf,hr,hxr⟩
   ·have hj:j < ens.size:=(a0r.1 he).1;rw[if_pos (by omega)]at hr'
    exact q4 j e' r' he hr'
  ·have a2':ens[i]? =some en:=by simpa using a2
   rw[MapKept.run_findKey h2 a4];simp only[Result.andThen_ok,a1z,a2',Option.map_some,Option.getD_some,a7,Sem.run_bind,v1i (P:=P) _ hf hr,MapKept.run_setObj_map _ q1];refine⟨_,g,rfl,?_⟩;simp only[mput,a1];refine Keep.j0s hs hb q1 (by simp[q3]) fun j e' r' he hr'=> ?_
   rw[Array.getElem?_modify]at he;rw[a1k]at hr'
   by_cases hij:i=j
   ·subst hij;rw[if_pos rfl,a2']at he;rw[if_pos rfl]at hr';cases he;split at hr'
    ·cases hr';exact⟨k,x,rfl,hf,hr,hxr⟩
    ·cases hr'
   ·rw[if_neg hij]at he hr';exact q4 j e' r' he hr'
def u1q {t e t':TypeId}{y q:Operand}{b:Nat}{kk:KK}{rows:LL}{k:D}(hop:o.op= .call { callee:= .builtin .delete,args:= #[y,q],argTypes:= #[t,t'] })(hy1:ρ y= .map b)(hb:h[b]? =some (.mp kk rows))
  (hm:v2f P t=some (e,kk)) (hq:ρ q= .d k) (hf:kk.fits k):x0p P [] h (h.set b (.mp kk (mdel k rows))) ρ o .any:=
 .of_run fun g ρ' w hs hy=>by
  obtain⟨e1,_⟩:=y0p (hy1▸hy y);have hr:=x9k (hq▸hy q);obtain⟨kt,h1,h2⟩:=y4x hm;obtain⟨ens,clock,q1,q2,q3,q4⟩:=hs.rep b _ hb;have hck:=MapKept.run_checkKey (P:=P) (w:=w) h2 (z7p hf hr) ens.isEmpty 9999;rcases y5j hf hr ens.toList rows 0 (by simpa using q3) (fun i e r he hr=>q4 i e r (by simpa using he) hr)with⟨a1,a2⟩|⟨i,en,rw_,v,a1,a2,a3,a4,a5,a6,a7⟩
  ·refine⟨.tuple #[],{ w with heap:=w.heap.setIfInBounds (g.blk b) (.map ens clock) },g,?_, .any _,?_⟩
   ·simp[execOp,hop,resolve,invoke,builtin,Builtin.delete_,run_underlying h1,e1,q2,MapKept.run_getObj_map q1,hck,MapKept.run_findKey h2 a2,MapKept.run_setObj_map _ q1]
   ·simp only[mdel,a1];exact Keep.j0s hs hb q1 q3 q4
  ·refine⟨.tuple #[],{ w with heap:=w.heap.setIfInBounds (g.blk b) (.map (ens.eraseIdxIfInBounds i) clock) },g,?_, .any _,?_⟩
   ·simp[execOp,hop,resolve,invoke,builtin,Builtin.delete_,run_underlying h1,e1,q2,MapKept.run_getObj_map q1,hck,MapKept.run_findKey h2 a4,MapKept.run_setObj_map _ q1]
   ·have hi:i < ens.size:=by have:=(a0c.1 a2).1;simpa using this
    simp only[mdel,a1];refine Keep.j0s hs hb q1 (by rw[List.length_eraseIdx,if_pos (by omega)];unfold Array.eraseIdxIfInBounds;rw[dif_pos hi];simp[q3]) fun j e' r' he hr'=> ?_
    rw[List.getElem?_eraseIdx]at hr';have he2:(ens.toList.eraseIdx i)[j]? =some e':=by
     rw[<-he,<-a1a];simp[Array.eraseIdxIfInBounds,hi]
    rw[List.getElem?_eraseIdx]at he2;split at hr'
    ·rename_i hj;rw[if_pos hj]at he2;exact q4 j e' r' (by simpa using he2) hr'
    ·rename_i hj;rw[if_neg hj]at he2;exact q4 (j+1) e' r' (by simpa using he2) hr'
def z7l {t:TypeId}{kk:KK}(hop:o.op= .makeMap t none):x0p P [] h (h++[.mp kk []]) ρ o (.map h.length):=
 .of_run fun g ρ' w hs hy=>by
  have hk:=Keep.push (w':=w.alloc (.map #[] 0)) (R:=none) hs w.heap.size (.map (some w.heap.size)) (.mp kk []) (Fr.alloc _ _ _)
   ⟨#[],0,by show(w.alloc _).heap[(if g.n=g.n then w.heap.size else _)]? =_;rw[if_pos rfl];exact(MapKept.heap_alloc w _).1,by simp[Gh.push],rfl,by simp⟩ (fun k' hk'=>by simp[Box.at?,Gh.push]at hk';omega)
  refine⟨.map (some w.heap.size),_,_,by simp only[execOp,hop,Option.map_none,Sem.run_bind,show(Instr.makeMap t none).run P w= .ok (.map (some w.heap.size)) (w.alloc (.map #[] 0))from rfl,Result.andThen_ok,Sem.run_pure],?_,hk⟩
  have:Rep (w.alloc (.map #[] 0)) (g.push w.heap.size (.map (some w.heap.size))) ((g.push w.heap.size (.map (some w.heap.size))).val h.length) (.map h.length):= .map _ (by simp[Gh.push,hs.n])
  simpa[Gh.push,hs.n]using this
def v2n {y:Operand}{ts:Array TypeId}{t:TypeId}{b:Nat}{kk:KK}{z:TypeId × KK}{rows:LL}(hop:o.op= .call { callee:= .builtin .len,args:= #[y],argTypes:=ts })(ht:ts[0]? =some t)(hm:v2f P t=some z)
  (hy1:ρ y= .map b) (hb:h[b]? =some (.mp kk rows)):x0p P [] h h ρ o (.d (.int .i64 rows.length)):=
 .pure fun g ρ' w hs hy=>by
  obtain⟨e1,_⟩:=y0p (hy1▸hy y);obtain⟨e,kk'⟩:=z;obtain⟨kt,h1,h2⟩:=y4x hm;obtain⟨ens,clock,q1,q2,q3,q4⟩:=hs.rep b _ hb;refine⟨.int .i64 rows.length,?_, .d (.int _ _)⟩;simp[execOp,hop,resolve,invoke,builtin,Builtin.len_,ht,e1,q2,run_underlying h1,MapKept.run_getObj_map q1,goInt,q3]
end
section
variable {P : Program} {M : List Nat} {h h' : List Box} {ρ : Operand -> V} {o : Oper} {x : V}
def V.j2l (b:Nat)(cs:List D):V->V
 | .ptr c off=>bif c == b then .pel (cs.drop off)else .ptr c off
 |v=>v
def V.frp (b:Nat)(x:List D):V->V
 | .agg cs=> .agg (cs.map (V.j2l b x))
 | .tup cs=> .tup (cs.map (V.j2l b x))
 | .fn f cs=> .fn f (cs.map (V.j2l b x))
 |v=>v.j2l b x
def Box.frp (b:Nat)(x:List D):Box->Box
 | .cells t vs=> .cells t (vs.map (V.frp b x))
 |y=>y
def y8n:List V->Option (List D)
 | []=>some []
 | .d x::vs=>match y8n vs with
   |some xs=>some (x::xs)
   |none=>none
 |_=>none
def x6k: ∀ {vs:List V} {cs:List D},y8n vs=some cs->vs=cs.map .d
 | [],cs,h=>by cases h;rfl
 |v::vs,cs,h=>by
  unfold y8n at h;split at h
  ·rename_i e;cases e
  ·rename_i x vs' e;cases e;split at h
   ·rename_i xs hxs;cases h;simp[x6k hxs]
   ·cases h
  ·cases h
def V.j1o {w:World}{g g':Gh}(ho:Over [] w g w g'){b:Nat}{cs:List D}(hx: ∀off,Rep w g' (.pointer (some ⟨g.blk b,off,none⟩)) (.pel (cs.drop off))){u:Value}{v:V}(hr:Rep w g u v):Rep w g' u (v.j2l b cs):=by
 have h1:=ho.j0b hr;cases hr with
 |ptr c off hc=>
  show Rep w g' _ (bif c == b then .pel (cs.drop off)else .ptr c off);cases hcb:c == b with
  |true=>simp at hcb;subst hcb;exact hx off
  |false=>exact h1
 |_=>exact h1
def V.j1y {w:World}{g g':Gh}(ho:Over [] w g w g'){b:Nat}{x:List D}(hx: ∀off,Rep w g' (.pointer (some ⟨g.blk b,off,none⟩)) (.pel (x.drop off))){u:Value}{v:V}(hr:Rep w g u v):Rep w g' u (v.frp b x):=by
 have aux: ∀(us:Array Value) (cs:List V),(∀(i:Nat) u c,us[i]? =some u->cs[i]? =some c->Rep w g u c)->
     ∀(i:Nat) u c,us[i]? =some u->(cs.map (V.j2l b x))[i]? =some c->Rep w g' u c:=by
  intro us cs h i u c hu hc;rw[a0o,a0n]at hc;obtain⟨c',hc',rfl⟩:=hc;exact V.j1o ho hx (h i u c' hu hc')
 cases hr with
 |agg us cs hl h=>exact .agg us _ (by simpa using hl) (aux us cs h)
 |tup us cs hl h=>exact .tup us _ (by simpa using hl) (aux us cs h)
 |fn f us cs hl h=>exact .fn f us _ (by simpa using hl) (aux us cs h)
 |ptr c off hc=>exact V.j1o ho hx (.ptr c off hc)
 |mv f c off hc=>exact ho.j0b (.mv f c off hc)
 |ifp f c off hc=>exact ho.j0b (.ifp f c off hc)
 |own c hc=>exact ho.j0b (.own c hc)
 |pml c sz i off hc=>exact ho.j0b (.pml c sz i off hc)
 |any u=>exact .any u
 |nils=>exact .nils
 |d h=>exact ho.j0b (.d h)
 |pel blk off cs U hZ hc hr=>exact ho.j0b (.pel blk off cs U hZ hc hr)
 |nilp=>exact .nilp
 |nilf=>exact .nilf
 |ifn0=>exact .ifn0
 |ifn1 t p=>exact .ifn1 t p
 |ifc t us cs hl h=>exact ho.j0b (.ifc t us cs hl h)
 |ifo0 t cs=>exact .ifo0 t cs
 |ifo1 t us cs hl h=>exact ho.j0b (.ifo1 t us cs hl h)
 |map b hb=>exact ho.j0b (.map b hb)
 |yld b R hb hc=>exact ho.j0b (.yld b R hb hc)
 |osl b sz lo n u hb hu=>exact ho.j0b (.osl b sz lo n u hb hu)
def u1v {g:Gh}{w:World}{b:Nat}{t:TypeId}{cs:List D}(hs:SimH g h w)(hb:h[b]? =some (.cells (.ty t) (cs.map .d))):
  ∃g',Keep [] g h w g' ((h.map (Box.frp b cs)).set b .gone) w/\ ∀u v,Rep w g u v->Rep w g' u (v.frp b cs):=by
 let g':Gh:= { g with Z:=fun k o=>g.Z k o\/k=g.blk b }
 have hbl:b < h.length:=(a0c.1 hb).1;have ho:Over [] w g w g':=⟨⟨fun _ _ h=> .inl h,a0q _,fun _ _ _=>rfl,fun _ _ _=>rfl,fun _ _=>rfl⟩,fun _ _ _=>rfl⟩
 have hx: ∀off,Rep w g' (.pointer (some ⟨g.blk b,off,none⟩)) (.pel (cs.drop off)):=by
  intro off;obtain⟨us,h1,h2,h3⟩:=x5d (hs.rep b _ hb);have hlen:us.size=cs.length:=by simpa using h2
  refine .pel (g.blk b) off _ (fun j=>us[off+j]?.getD undef) (fun j c hj=> .inr rfl) (fun j c hj=> ?_) (fun j c hj=> ?_)
  ·rw[a1x]at hj;have hlt:off+j < us.size:=by rw[hlen];exact(a0c.1 hj).1
   rw[x2w h1];simp[hlt]
  ·rw[a1x]at hj;have hlt:off+j < us.size:=by rw[hlen];exact(a0c.1 hj).1
   have:=h3 (off+j) us[off+j] (.d c) (a0x hlt) (by rw[a0o,hj];rfl)
   rw[show us[off+j]?.getD undef=us[off+j] by simp[hlt]]
   exact(x9k this).mono (fun _ _ h=> .inl h) (fun _ _ _=>rfl)
 have hget: ∀(c:Nat) z,((h.map (Box.frp b cs)).set b .gone)[c]? =some z->(c=b/\z= .gone)\/(c≠b/\ ∃z0,h[c]? =some z0/\z=z0.frp b cs):=by
  intro c z hz;rw[getElem?_set']at hz;split at hz
  ·rename_i e;subst e
   (try rw[if_pos (by simpa using hbl)]at hz)
   cases hz;exact .inl ⟨rfl,rfl⟩
  ·rename_i e;rw[a0o,a0n]at hz;obtain⟨z0,h0,rfl⟩:=hz;exact .inr ⟨fun e'=>e e'.symm,z0,h0,rfl⟩
 have hat: ∀(c:Nat) (z0:Box),(z0.frp b cs).at? g' c=z0.at? g c:=fun c z0=>by cases z0<;>rfl
 have hown: ∀k,x2r g' ((h.map (Box.frp b cs)).set b .gone) k->x2r g h k/\k≠g.blk b:=by
  rintro k ⟨c,z,hz,hk⟩
  rcases hget c z hz with⟨rfl,rfl⟩|⟨hc,z0,h0,rfl⟩
  ·simp[Box.at?]at hk
  ·rw[hat]at hk;exact⟨⟨c,z0,h0,hk⟩,fun h1=>hc (hs.sep c b z0 _ k h0 hb hk (by simp[Box.at?,h1]))⟩
 refine⟨g',⟨⟨by simp[g',hs.n],?_,?_,?_,?_,hs.tab.over ho⟩,ho.le,Fr.refl _ _,?_,fun k hk=> .inl (hown k hk).1⟩,fun u v hr=>V.j1y ho hx hr⟩
 ·intro c z hz;rcases hget c z hz with⟨rfl,rfl⟩|⟨hc,z0,h0,rfl⟩
  ·trivial
  ·have hr0:=hs.rep c z0 h0;have hcn:c < g.n:=by rw[hs.n];exact(a0c.1 h0).1
   cases z0 with
   |gone=>trivial
   |cells t vs=>
    obtain⟨us,o,k1,k0,k2,k3⟩:=hr0;refine⟨us,o,k1,k0,by simpa using k2,fun i u v hu hv=> ?_⟩
    rw[a0o,a0n]at hv;obtain⟨v',hv',rfl⟩:=hv;exact V.j1y ho hx (k3 i u v' hu hv')
   |mp kk rows'=>
    have:=x1r.over ho hcn (by simp) (fun k _=>rfl) hr0
    rwa [Box.j0c]at this
   |arr e' sz' rows'=>
    have:=x1r.over ho hcn (by simp) (fun k _=>rfl) hr0
    rwa [Box.j0c]at this
   |ful sz' rows'=>
    have:=x1r.over ho hcn (by simp) (fun k _=>rfl) hr0
    rwa [Box.j0c]at this
 ·intro c d z z' k hz hz' h1 h2;rcases hget c z hz with⟨rfl,rfl⟩|⟨hc,z0,h0,rfl⟩
  ·simp[Box.at?]at h1
  ·rcases hget d z' hz' with⟨rfl,rfl⟩|⟨hd,z0',h0',rfl⟩
   ·simp[Box.at?]at h2
   ·rw[hat]at h1 h2;exact hs.sep c d z0 z0' k h0 h0' h1 h2
 ·intro k o hk hz;obtain⟨h1,h2⟩:=hown k hk;rcases hz with hz|hz
  ·exact hs.zsep k o h1 hz
  ·exact h2 hz
 ·intro k o hz;rcases hz with hz|hz
  ·exact hs.zlt k o hz
  ·exact(hs.rep b _ hb).lt (by rw[hz];rfl)
 ·intro k o hz;rcases hz with hz|hz
  ·exact .inl hz
  ·exact .inr (.inr ⟨b,_,hb,by rw[hz];rfl⟩)
end
section
variable {P : Program} {M : List Nat} {h h' : List Box} {ρ : Operand -> V} {o : Oper} {x : V}
def y3o {w:World}{g:Gh}{ρ':Operand->Value}(hy: ∀y,Rep w g (ρ' y) (ρ y)){lo:Option Operand}{hi mx:Operand}{l r m:Int}{n cap:Nat}
  (hl:y3k 0 (lo.map ρ)=some l) (hh:y3k 0 (some (ρ hi))=some r) (hm:y3k 0 (some (ρ mx))=some m) (h0:0<=l) (h1:l<=r) (h2:r<=m) (hc:m<=cap):
  (Instr.sliceBounds true n cap (lo.map ρ') (some (ρ' hi)) (some (ρ' mx))).run P w= .ok (l.toNat,r.toNat,m.toNat) w:=by
 have e3: ∀code:BoundsCode,(Instr.sliceBound (ρ' mx) cap code).run P w= .ok m.toNat w:=fun code=>y1v hy hm (by omega) (by omega)
 have e2: ∀code:BoundsCode,(Instr.sliceBound (ρ' hi) m.toNat code).run P w= .ok r.toNat w:=fun code=>y1v hy hh (by omega) (by omega)
 have e1: ∀code:BoundsCode,(match (lo.map ρ')with|some v=>Instr.sliceBound v r.toNat code|none=>pure 0:Sem Nat).run P w= .ok l.toNat w:=by
  intro code;cases lo with
  |none=>simp[y3k]at hl;subst hl;simp
  |some y=>exact y1v hy hl h0 (by omega)
 unfold Instr.sliceBounds;have e1':=e1 .slice3C;cases lo with
 |none=>simp_all
 |some y=>simp_all
def Keep.ful {g:Gh}{w:World}(hs:SimH g h w)(v:Value){sz:Nat}{rows:LL}(hb:x1r w (g.push 0 v) g.n (.ful sz rows)):Keep [] g h w (g.push 0 v) (h++[.ful sz rows]) w/\Rep w (g.push 0 v) v (.own h.length):=by
 refine⟨Keep.push (w':=w) (R:=none) hs 0 v _ (Fr.refl _ _) hb (fun k' hk'=>by simp[Box.at?]at hk'),?_⟩
 have:=Rep.own (w:=w) (g:=g.push 0 v) g.n (by simp[Gh.push])
 rwa [show(g.push 0 v).val g.n=v by simp[Gh.push],hs.n]at this
def v9i {t e:TypeId}{y hi mx:Operand}{sz:Nat}{rows:LL}{r m:Int}(hop:o.op= .slice t y none (some hi) (some mx))(hk:elO P t=some (e,sz))
  (hy1:ρ y= .d (.sl sz rows)) (hh:y3k 0 (some (ρ hi))=some r) (hm:y3k 0 (some (ρ mx))=some m) (he:r=m) (h1:0<=r) (h3:m<=rows.length):
  x0p P [] h (h++[.ful sz (rows.take r.toNat)]) ρ o (.own h.length):=
 .of_run fun g ρ' w hs hy=>by
  subst he;obtain⟨hu,hn⟩:=y2w hk;have hv: ∀v,(g.push 0 v).val g.n=v:=fun v=>by simp[Gh.push]
  have hz: ∀v,(g.push 0 v).Z=g.Z:=fun v=>rfl
  have fin: ∀(A:Option Addr),(execOp ρ' o).run P w= .ok (.value (.slice A (rows.take r.toNat).length (rows.take r.toNat).length)) w->RepD w g.Z (.slice A (rows.take r.toNat).length (rows.take r.toNat).length) (.sl sz (rows.take r.toNat))->
      ∃v w' g',(execOp ρ' o).run P w= .ok (.value v) w'/\Rep w' g' v (.own h.length)/\Keep [] g h w g' (h++[.ful sz (rows.take r.toNat)]) w':=by
   intro A q1 q2;obtain⟨k1,k2⟩:=Keep.ful hs (.slice A (rows.take r.toNat).length (rows.take r.toNat).length) (sz:=sz) (rows:=rows.take r.toNat) ⟨A,hv _,by rw[hv,hz];exact q2⟩
   exact⟨_,w,_,q1,k2,k1⟩
  rcases x9j (hy1▸hy y)with⟨e1,rfl⟩|⟨a,cap,e1,rfl⟩|⟨blk,off,cap,U,e1,hcap,hlen,hZ,hc,hr⟩
  ·have hr0:r=0:=by simp at h3;omega
   subst hr0;have hb:=y3o (P:=P) (lo:=none) (l:=0) (n:=0) (cap:=0) hy rfl hh hm (Int.le_refl _) h1 (Int.le_refl _) (by simp)
   refine fin none ?_ (by simpa using RepD.slnil sz)
   simp only[Option.map_none]at hb;simp[execOp,hop,e1,Instr.sliceAt,run_underlying hu,Instr.slice,hb,x0s hn]
  ·have hr0:r=0:=by simp at h3;omega
   subst hr0;have hb:=y3o (P:=P) (lo:=none) (l:=0) (n:=0) (cap:=cap) hy rfl hh hm (Int.le_refl _) h1 (Int.le_refl _) (by simp)
   refine fin (some a) ?_ (by simpa using RepD.slemp a 0 sz)
   simp only[Option.map_none]at hb;simp[execOp,hop,e1,Instr.sliceAt,run_underlying hu,Instr.slice,hb,x0s hn]
  ·have hb:=y3o (P:=P) (lo:=none) (l:=0) (n:=rows.length) (cap:=cap) hy rfl hh hm (Int.le_refl _) h1 (Int.le_refl _) (by omega)
   have hlt:(rows.take r.toNat).length=r.toNat:=by simp;omega
   have hat: ∀(i:Nat) (q:List D),(rows.take r.toNat)[i]? =some q->rows[i]? =some q:=by
    intro i q hq;rw[a1s]at hq;split at hq
    ·exact hq
    ·cases hq
   refine fin (some ⟨blk,off,none⟩) ?_ (.sl blk off _ _ sz _ U rfl (a0q _) (fun i q hq=>hlen _ _ (hat i q hq)) (fun i q j c hq hj=>hZ _ _ _ _ (hat i q hq) hj) (fun i q j c hq hj=>hc _ _ _ _ (hat i q hq) hj) (fun i q j c hq hj=>hr _ _ _ _ (hat i q hq) hj))
   simp only[Option.map_none]at hb;simp only[execOp,hop,e1,Instr.sliceAt,Sem.run_bind,run_underlying hu,Result.andThen_ok,Instr.slice,Option.map_none,Option.map_some,hb,x0s hn,Sem.run_pure,hlt];congr 2;split<;>simp[x4b]
def z2a {y z:Operand}{ts:Array TypeId}{t e:TypeId}{b sz by_:Nat}{zv:Value}{rows news:LL}
  (hop:o.op= .call { callee:= .builtin .append,args:= #[y,z],argTypes:=ts }) (hts:ts= #[t,t]) (ht:elT P t=some (e,sz,by_,zv)) (hzs:zv.cells.size=sz) (hsz:0 < sz)
  (hy1:ρ y= .own b) (hb:h[b]? =some (.ful sz rows)) (hz:z9o h sz (ρ z)=some news) (hne:0 < news.length)
  (h63:rows.length+news.length<=maxLen) (hby:(rows.length+news.length)*by_<=140737488355328):
  x0p P [] h (h++[.arr e sz (rows++news)]) ρ o (.own h.length):=
 .of_run fun g ρ' w hs hy=>by
  obtain⟨hu,i,hi,hz0,hz1,hz2⟩:=y2v ht;obtain⟨e1,hbn⟩:=x4w (hy1▸hy y);obtain⟨A,hv,hrd⟩:=hs.rep b _ hb;have hyr:Rep w g (ρ' y) (.d (.sl sz rows)):=by rw[e1];exact .d hrd
  obtain⟨hnl,hsrc⟩:=y2q hs (hy z) hz;obtain⟨hol,hold⟩:=y2q (sz:=sz) (rows:=rows) hs hyr (by simp[z9o])
  rcases hsrc with⟨_,rfl⟩|⟨ad,cap,nl,e2,hnlen,hnc,hn1,hnr⟩
  ·simp at hne
  have hlr: ∀(j:Nat) (r:List D),(rows++news)[j]? =some r->r.length=sz:=by
   intro j r hj;rw[a0y]at hj;split at hj
   ·exact hol j r hj
   ·exact hnl _ r hj
  have key: ∃v' w' ol base,(Builtin.append_ #[t,t] o.type #[ρ' y,ρ' z]).run P w= .ok v' w'/\w'.ownsRow base e sz v' (rows++news).length (ol++nl)/\w.grownBy w' none/\(∀k,v'.ownBlock=some k->w.heap.size<=k)/\ol.length=rows.length*sz/\
      (∀(i:Nat) (r:List D) (j:Nat) (c:D),rows[i]? =some r->r[j]? =some c-> ∃u,ol[i*sz+j]? =some u/\RepD w g.Z u c):=by
   rw[e2];rcases hold with⟨q1,rfl⟩|⟨a0,c0,ol,q1,holen,hoc,ho1,hor⟩
   ·rw[q1];have hown0:w.ownsRow 0 e sz (.slice none 0 0) 0 []:=⟨by simp, .inl ⟨rfl,rfl⟩⟩
    obtain⟨v',w',r1,r2,r3,_,r5⟩:=run_append_own_at (P:=P) w 0 t o.type e i zv sz by_ hu hi hz0 hz1 hz2 hzs hsz _ _ [] hown0 ad news.length cap nl hnlen hnc hn1 (by simpa using h63) (by simpa using hby) (a0w _)
    refine⟨v',w',[],0,r1,by simpa using r2,⟨r3.os,r3.tape,r3.output,r3.size,fun k hk _=>r3.block k hk (by simp[Value.ownBlock])⟩,fun k hk=> ?_,by simp,by simp⟩
    rcases r5 with r5|r5
    ·rw[r5]at hk;simp[Value.ownBlock]at hk
    ·rw[r5]at hk;cases hk;exact a0q _
   ·have q2:c0=rows.length:=by
     rw[e1,hv]at q1;injection q1 with _ _ q
     exact q.symm
    subst q2;rw[q1];obtain⟨v',w',r1,r2,r3⟩:=run_append_arg_grows (P:=P) w t o.type e i zv sz by_ hu hi hz0 hz1 hz2 hzs hsz a0 rows.length rows.length ol holen hoc ad news.length cap nl hnlen hnc (by omega) h63 hby
    refine⟨v',w',ol,w.heap.size,r1,by rw[a0k];exact r2,r3,fun k hk=> ?_,holen,hor⟩
    rcases r2.2 with⟨q,_⟩|⟨k',c',cur,q,hle,_⟩
    ·rw[q]at hk;simp[Value.ownBlock]at hk
    ·rw[q]at hk;simp[Value.ownBlock]at hk;omega
  obtain⟨v',w',ol,base,hrun,hown',hgr,hblk,holl,hor⟩:=key;have hfr:Fr (fun _=>False) w w':=⟨hgr.os,hgr.tape,hgr.output,hgr.size,fun k hk _=>hgr.block k hk (by simp)⟩
  have hcz: ∀k o,g.Z k o->w'.cell? ⟨k,o,none⟩=w.cell? ⟨k,o,none⟩:=fun k o hz=>hfr.cell (hs.zlt k o hz) (fun h=>h)
  obtain⟨k0,hk0⟩: ∃k,k=(v'.ownBlock).getD 0:=⟨_,rfl⟩
  have hvv:(g.push k0 v').val g.n=v':=by simp[Gh.push]
  have hbr:x1r w' (g.push k0 v') g.n (.arr e sz (rows++news)):=by
   refine z0v (base:=base) (xs:=ol++nl) (by rw[hvv];exact hown') hlr (fun i' r j c hi' hj=> ?_) (fun k hk=> ?_)
   ·rw[a0y]at hi';split at hi'
    ·obtain⟨u,hu',hd⟩:=hor i' r j c hi' hj;refine⟨u,?_,hd.mono (fun _ _ h=>h) hcz⟩
     rw[a0y,if_pos (a0c.1 hu').1];exact hu'
    ·rename_i hil;obtain⟨u,hu',hd⟩:=hnr (i' - rows.length) r j c hi' hj;refine⟨u,?_,hd.mono (fun _ _ h=>h) hcz⟩
     have hle:rows.length*sz<=i'*sz:=a2h _ (by omega)
     rw[a0y,if_neg (by rw[holl];omega),holl,show i'*sz+j - rows.length*sz=(i' - rows.length)*sz+j by rw[Nat.sub_mul];omega]
     exact hu'
   ·rw[hvv]at hk;simp[Gh.push,hk0,hk]
  have hat: ∀k',(Box.arr e sz (rows++news)).at? (g.push k0 v') g.n=some k'->w.heap.size<=k':=fun k' hk'=>by
   simp only[Box.at?,hvv]at hk';cases hv':v'<;>simp[hv']at hk'
   rename_i A' n' c';cases A'<;>simp at hk'
   exact hblk k' (by simp[hv',Value.ownBlock,hk'])
  refine⟨v',w',_,?_,?_,Keep.push (R:=none) hs k0 v' _ hfr hbr hat⟩
  ·simp[execOp,hop,resolve,invoke,builtin,hts,hrun]
  ·have:=Rep.own (w:=w') (g:=g.push k0 v') g.n (by simp[Gh.push])
   rwa [hvv,hs.n]at this
end
end Go.Vm
end
