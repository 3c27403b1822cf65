/- Part KK of the proof. What is proved by the whole: the statement that the claim names, with no condition. -/
import Derived.Test.YtggdkkdfeblooaaGreatDoorKJ
import Derived.Shelf.Spec.SlicesGrow
set_option linter.all false
section
set_option maxRecDepth 100000
namespace Go.Vm
open Go.Proofs Go.RowKit Go.Extern.Stop Go.Stop Go.Extern
def q4g (w:World):(isAgg 65).run Tryz.prog w= .ok true w:=by kernel_rfl
def u7l (w:World):(sizeOf 65).run Tryz.prog w= .ok 2 w:=by kernel_rfl
def k1w (b:Nat)(x y:Int)(W:World)(hb:W.heap[b]? =some (.cells #[.int .i64 x, .int .i64 y] 65 (0,0))):(loadVar 65 ⟨b,0,none⟩).run Tryz.prog W= .ok (.agg #[.int .i64 x, .int .i64 y]) W:=by
 have h:=run_loadCells_list (P:=Tryz.prog) W ⟨b,0,none⟩ [.int .i64 x, .int .i64 y] (fun j v hv=>by
  have hadd:(⟨b,0,none⟩:Addr).add j=⟨b,j,none⟩:=by unfold Addr.add;split<;>simp_all
  rw[hadd];simp only[World.cell?,hb]
  match j,hv with
  |0,hv=>simpa using hv
  |1,hv=>simpa using hv
  |j+2,hv=>simp at hv)
 simp only[loadVar,Sem.run_bind,q4g,Result.andThen,if_true,u7l];have h:(loadCells ⟨b,0,none⟩ 2).run Tryz.prog W= .ok #[.int .i64 x, .int .i64 y] W:=h;rw[h];rfl
def q2e (t:Nat)(x y:Int)(us:Array Value)(W:World)(ht:W.heap[t]? =some (.cells us 65 (0,0)))(hu:us.size=2):(storeVar 65 ⟨t,0,none⟩ (.agg #[.int .i64 x, .int .i64 y])).run Tryz.prog W= .ok () (W.setRow t #[.int .i64 x, .int .i64 y]):=by
 have h:=run_storeCells_at Tryz.prog t 0 65 [.int .i64 x, .int .i64 y] 0 us W ht (by simp[hu]) (by simp[Value.oneCell'])
 have e:(us.toList.take (0+0)++[Value.int .i64 x,Value.int .i64 y]++us.toList.drop (0+0+[Value.int .i64 x,Value.int .i64 y].length)).toArray= #[.int .i64 x, .int .i64 y]:=by
  have:us.toList.drop 2= []:=List.drop_of_length_le (by simp[hu])
  simp[this]
 rw[e]at h;simp only[storeVar,Sem.run_bind,u7l,Result.andThen];exact h
def k9e (t b:Nat)(x y:Int)(us:Array Value)(W:World)(hb:W.heap[b]? =some (.cells #[.int .i64 x, .int .i64 y] 65 (0,0)))(ht:W.heap[t]? =some (.cells us 65 (0,0)))(hu:us.size=2):
  (ReflectliteValue.set #[.agg #[.pointer (some ⟨12,65,none⟩), .pointer (some ⟨t,0,none⟩), .int .u64 409], .agg #[.pointer (some ⟨12,65,none⟩), .pointer (some ⟨b,0,none⟩), .int .u64 153]]).run Tryz.prog W= .ok (.tuple #[]) (W.setRow t #[.int .i64 x, .int .i64 y]):=by
 rw[rls];simp only[Sem.run_bind,w4f,q2y,Result.andThen];simp[ReflectliteValue.flagAddr,k1w b x y W hb,Result.andThen,w5y,q2e t x y us W ht hu]
def v2d (h:Value)(w:World):(Go.method 494 138 (.agg #[h]) "Kind").run Tryz.prog w= .ok (338,h) w:=by kernel_rfl
def v2e (h:Value)(w:World):(Go.method 494 138 (.agg #[h]) "Elem").run Tryz.prog w= .ok (348, .agg #[h]) w:=by kernel_rfl
def y8f (h:Value)(w:World):(Go.method 494 138 (.agg #[h]) "Implements").run Tryz.prog w= .ok (349, .agg #[h]) w:=by kernel_rfl
def y4w (h:Value)(w:World):(Go.method 494 138 (.agg #[h]) "AssignableTo").run Tryz.prog w= .ok (346, .agg #[h]) w:=by kernel_rfl
def v0t {w:World}(o:Obj){k:Nat}(h:k < w.heap.size):(w.alloc o).heap[k]? =w.heap[k]? :=by
 show(w.heap.push o)[k]? =_;rw[a2d,if_neg (by omega)]
def k6u (w:World)(o:Obj):(w.alloc o).heap[w.heap.size]? =some o:=by
 show(w.heap.push o)[w.heap.size]? =_;rw[a2d,if_pos rfl]
def y7f (w:World)(o:Obj):(w.alloc o).heap.size=w.heap.size+1:=by
 show(w.heap.push o).size=_;rw[Array.size_push]
def w4 (w:World)(t:Nat)(x y:Int):World:=((((w.alloc (.cells #[.pointer (some ⟨t,0,none⟩)] 67)).alloc (.cells #[.pointer (some ⟨12,67,none⟩), .pointer (some ⟨w.heap.size,0,none⟩), .int .u64 150] 98)).alloc (.cells #[.pointer (some ⟨12,67,none⟩), .pointer (some ⟨w.heap.size,0,none⟩), .int .u64 150] 98)).alloc (.cells #[.int .i64 x, .int .i64 y] 65))
set_option maxHeartbeats 4000000 in
def k6s (t:Nat)(x y:Int)(us:Array Value)(w:World)(hg:w.cell? ⟨0,0,none⟩=some (.iface 138 (.agg #[.pointer (some ⟨12,59,none⟩)])))(ht:w.heap[t]? =some (.cells us 65 (0,0)))(hu:us.size=2):
  Calls Tryz.prog 19 #[.iface 65 (.agg #[.int .i64 x, .int .i64 y]), .iface 67 (.pointer (some ⟨t,0,none⟩))] w fun ev w'=>ev= .returned (.bool true)/\w'=(w4 w t x y).setRow t #[.int .i64 x, .int .i64 y]:=by
 unfold w4;have h6:=@run_callFunc_extern Tryz.prog 42 _ (fun args=>ReflectliteValue.unpack (args.getD 0 (.tuple #[]))) Tryz.func42 (by kernel_rfl) (by kernel_rfl) (by kernel_rfl) (by kernel_rfl)
 have h7:=@run_callFunc_extern Tryz.prog 43 _ (ReflectliteValue.methodAny (ReflectliteValue.valueError "reflectlite.Value.Type" 0) (fun t _ _ _=>ReflectliteType.toType t)) Tryz.func43 (by kernel_rfl) (by kernel_rfl) (by kernel_rfl) (by kernel_rfl)
 have h8:=@run_callFunc_extern Tryz.prog 44 _ (ReflectliteValue.method (ReflectliteValue.valueError "reflectlite.Value.IsNil" 0) ReflectliteValue.isNil) Tryz.func44 (by kernel_rfl) (by kernel_rfl) (by kernel_rfl) (by kernel_rfl)
 have h27:=@run_callFunc_extern Tryz.prog 338 _ (ReflectliteType.abiMethod fun t=>do pure (.int .u8 (<-Rtype.kind t))) Tryz.func338 (by kernel_rfl) (by kernel_rfl) (by kernel_rfl) (by kernel_rfl)
 have h37:=@run_callFunc_extern Tryz.prog 348 _ (ReflectliteType.method ReflectliteType.elem) Tryz.func348 (by kernel_rfl) (by kernel_rfl) (by kernel_rfl) (by kernel_rfl)
 have h38:=@run_callFunc_extern Tryz.prog 349 _ (ReflectliteType.relation "Implements" ReflectliteType.implements_) Tryz.func349 (by kernel_rfl) (by kernel_rfl) (by kernel_rfl) (by kernel_rfl)
 have h10:=@run_callFunc_extern Tryz.prog 83 _ ReflectliteType.typeOf Tryz.func83 (by kernel_rfl) (by kernel_rfl) (by kernel_rfl) (by kernel_rfl)
 have h35:=@run_callFunc_extern Tryz.prog 346 _ (ReflectliteType.relation "AssignableTo" ReflectliteType.assignableTo) Tryz.func346 (by kernel_rfl) (by kernel_rfl) (by kernel_rfl) (by kernel_rfl)
 have h11:=@run_callFunc_extern Tryz.prog 84 _ (ReflectliteValue.method (ReflectliteValue.valueError "reflectlite.Value.Elem" 0) ReflectliteValue.elem) Tryz.func84 (by kernel_rfl) (by kernel_rfl) (by kernel_rfl) (by kernel_rfl)
 have h12:=@run_callFunc_extern Tryz.prog 85 _ ReflectliteValue.set Tryz.func85 (by kernel_rfl) (by kernel_rfl) (by kernel_rfl) (by kernel_rfl)
 have tO:=w3j;have mA:=y4w;have a25:=u3k;have v25:=v4r;have f6:=v4q;have f7:=q9s;have mK:=v2d;have mE:=v2e;have mI:=y8f;have k27:=k2a;have k25:=k2b;have e27:=k5o;have i25:=u1f;have n8:=q4f ⟨w.heap.size,0,none⟩ ⟨t,0,none⟩ ((w.alloc (.cells #[.pointer (some ⟨t,0,none⟩)] 67)).alloc (.cells #[.pointer (some ⟨12,67,none⟩), .pointer (some ⟨w.heap.size,0,none⟩), .int .u64 150] 98)) (by simp)
 have hlt:0 < w.heap.size:=by
  rcases Nat.eq_zero_or_pos w.heap.size with h0|h
  ·simp[World.cell?,h0]at hg
  ·exact h
 have hg2:((w.alloc (.cells #[.pointer (some ⟨t,0,none⟩)] 67)).alloc (.cells #[.pointer (some ⟨12,67,none⟩), .pointer (some ⟨w.heap.size,0,none⟩), .int .u64 150] 98)).cell? ⟨0,0,none⟩=some (.iface 138 (.agg #[.pointer (some ⟨12,59,none⟩)])):=by
  rw[World.cell?_alloc_lt _ _ ⟨0,0,none⟩ (by simp),World.cell?_alloc_lt _ _ ⟨0,0,none⟩ hlt];exact hg
 have htl:t < w.heap.size:=(a0r.1 ht).1;have el:=q5c ⟨w.heap.size,0,none⟩ ⟨t,0,none⟩ (((w.alloc (.cells #[.pointer (some ⟨t,0,none⟩)] 67)).alloc (.cells #[.pointer (some ⟨12,67,none⟩), .pointer (some ⟨w.heap.size,0,none⟩), .int .u64 150] 98)).alloc (.cells #[.pointer (some ⟨12,67,none⟩), .pointer (some ⟨w.heap.size,0,none⟩), .int .u64 150] 98)) (by rw[World.cell?_alloc_lt _ _ ⟨w.heap.size,0,none⟩ (by simp;omega)];simp)
 have st:=k9e t (w.heap.size+1+1+1) x y us (w4 w t x y)
  (by unfold w4;have h:=k6u (((w.alloc (.cells #[.pointer (some ⟨t,0,none⟩)] 67)).alloc (.cells #[.pointer (some ⟨12,67,none⟩), .pointer (some ⟨w.heap.size,0,none⟩), .int .u64 150] 98)).alloc (.cells #[.pointer (some ⟨12,67,none⟩), .pointer (some ⟨w.heap.size,0,none⟩), .int .u64 150] 98)) (.cells #[.int .i64 x, .int .i64 y] 65);rw[y7f,y7f,y7f]at h;exact h)
  (by unfold w4;rw[v0t _ (by simp only[y7f];omega),v0t _ (by simp only[y7f];omega),v0t _ (by simp only[y7f];omega),v0t _ htl];exact ht) hu
 unfold w4 at st
 go_enter Tryz.func19,Tryz.ntmps19
 go_wp2
 refine wp_loop_rounds 1 ?_;rw[rounds_succ]
 go_wp2
 go_ret
 exact⟨rfl,rfl⟩
end Go.Vm
end
section
set_option maxRecDepth 100000
namespace Go.Vm
open Go.Proofs Go.RowKit Go.Shelf
def k2i:Ren:=⟨fun|4=>180|n=>n,fun|22=>46|25=>123|n=>n,fun n=>n⟩
def k2j:Lays8.n4 Tryz.prog k2i where
 mixed:=by kernel_rfl
 f4:=Exists.intro ("slices.Grow[[]noria/api.Decl,noria/api.Decl]") ⟨by decide+kernel,Tryz.func180.trans (congrArg some (by kernel_rfl))⟩
 t0:=Tryz.underlying0
 a0:=Tryz.isAgg0
 z0:=Tryz.sizeOf0
 v0:=Tryz.zeroValue0
 t3:=Tryz.underlying3
 a3:=Tryz.isAgg3
 z3:=Tryz.sizeOf3
 v3:=Tryz.zeroValue3
 t4:=Tryz.underlying4
 a4:=Tryz.isAgg4
 z4:=Tryz.sizeOf4
 v4:=Tryz.zeroValue4
 t9:=Tryz.underlying9
 a9:=Tryz.isAgg9
 z9:=Tryz.sizeOf9
 v9:=Tryz.zeroValue9
 t20:=Tryz.underlying20
 a20:=Tryz.isAgg20
 z20:=Tryz.sizeOf20
 v20:=Tryz.zeroValue20
 t22:=Tryz.underlying46
 a22:=Tryz.isAgg46
 z22:=Tryz.sizeOf46
 v22:=Tryz.zeroValue46
def v8y (n:Int)(h:0<=n/\n<=1000000):v4a Tryz.prog 180 [.nils, .d (.int .i64 n)] 123 6 []:=by
 intro g w us hs hu;obtain⟨h1,h2⟩:=hu;have hn0:g.n=0:=hs.n
 match us,h1 with
 | [u0,u1],_=>
   have e0:u0= .slice none 0 0:=by
    have:=h2 0 u0 _ rfl rfl;cases this;rfl
   have e1:=x0o (h2 1 u1 _ rfl rfl);subst e0;subst e1;have key: ∀(w':World) (u:Value),Fr (fun _=>False) w w'->(u= .slice none 0 0\/ ∃(us:Array Value) (cap:Nat),u= .slice (some ⟨w.heap.size,0,none⟩) 0 cap/\cap<=maxLen/\w'.heap[w.heap.size]? =some (.cells us 123 (0,0))/\us.size=cap*6)-> ∃u2 g',Ending.returned u= .returned u2/\Rep w' g' u2 (.own 0)/\Keep [] g [] w g' [.arr 123 6 []] w':=by
    intro w' u hfr hu;have hv:(g.push w.heap.size u).val g.n=u:=by simp[Gh.push]
    have hbk:(g.push w.heap.size u).blk g.n=w.heap.size:=by simp[Gh.push]
    refine⟨u,g.push w.heap.size u,rfl,?_,Keep.push hs _ _ _ hfr ⟨fun i r hr=>by simp at hr,?_⟩ fun k hk=> ?_⟩
    ·have:=Rep.own (w:=w') (g:=g.push w.heap.size u) g.n (by simp[Gh.push])
     rw[hv,hn0]at this;exact this
    ·rcases hu with hu|⟨us,cap,hu,hc,hh,hz⟩
     ·exact .inl ⟨by rw[hv];exact hu,rfl⟩
     ·exact .inr ⟨us,cap,by rw[hv,hbk];exact hu,a0w _,hc,by rw[hbk];exact hh,hz,fun i r j c hr=>by simp at hr⟩
    ·unfold Box.at? at hk;simp only[hv]at hk;rcases hu with rfl|⟨us,cap,rfl,_⟩
     ·cases hk
     ·simp at hk;omega
   obtain⟨m,rfl⟩: ∃m:Nat,n=m:=⟨n.toNat,by omega⟩
   by_cases hm:m=0
   ·subst hm;refine(Any8.slices_Grow_room k2j none 0 0 0 w (by omega) (by omega) (by omega) (by omega)).mono ?_
    rintro e w' ⟨rfl,rfl⟩
    exact key _ _ (Fr.refl _ _) (.inl rfl)
   ·have hinfo:(Tryz.prog.info? 123).map (fun i=>(i.zero,i.size,i.bytes))=some (some (.agg #[.string ⟨#[]⟩, .int .i64 0, .int .i64 0, .int .i64 0, .string ⟨#[]⟩, .string ⟨#[]⟩]),6,72):=by kernel_rfl
    obtain⟨i,hi,hz0,hz1,hz2⟩:=info_parts hinfo;have hL:=Any8.slices_Grow_grow k2j i _ hi hz0 (by omega) none 0 0 m [] w (by omega) (by omega) (by rw[hz2];omega) (by omega) (by simp) (fun _=>rfl) (fun a h=>by cases h)
    refine hL.mono ?_
    rintro e w' ⟨rfl,rfl⟩
    have hge:=grownCap_ge w (0+m) 0 123;have hcm:grownCap w (0+m) 0 123<=maxLen:=grownCap_le_maxLen w (0+m) 0 123 (by unfold maxLen;omega)
    refine key _ _ ((Fr.drew _ w).trans (Fr.alloc _ _ _)) (.inr ⟨_,_,rfl,hcm,(MapKept.heap_alloc w.drew _).1,?_⟩);show(#[]++_++_).size=grownCap w (0+m) 0 123*6;simp only[Array.size_append,size_zeroCells,Value.cells,List.size_toArray,a0a,a0d,a1z,show k2i.t 25=123 from rfl]at hge ⊢;omega
def hsA:List Box:=[.cells (.ty 65) [.d (.int .i64 0), .d (.int .i64 0)]]
def u6r (a c:Int):y1b Tryz.prog [] 19 [.ifo 65 true [.int .i64 a, .int .i64 c], .ifp 67 0 0] hsA (.d (.bool false)) hsA:=by
 intro g w us hs hu;obtain⟨h1,h2⟩:=hu
 match us,h1 with
 | [u0,u1],_=>
   have e0:u0= .nilIface:=by
    have:=h2 0 u0 _ rfl rfl;cases this;rfl
   subst e0;refine(k6r u1 w).mono ?_
   rintro e w' ⟨rfl,rfl⟩
   exact⟨_,g,rfl, .d (.bool _),Keep.refl hs⟩
def u6s (a c:Int):y1b Tryz.prog [] 19 [.ifo 65 false [.int .i64 a, .int .i64 c], .ifp 67 0 0] hsA (.d (.bool true)) [.cells (.ty 65) [.d (.int .i64 a), .d (.int .i64 c)]]:=by
 intro g w us hs hu;obtain⟨h1,h2⟩:=hu
 match us,h1 with
 | [u0,u1],_=>
   have e0:u0= .iface 65 (.agg #[.int .i64 a, .int .i64 c]):=by
    have:=h2 0 u0 _ rfl rfl;cases this with
    |ifo1 t vs cs hl h=>
     congr 2
     match vs,hl,h with
     |⟨[x,y]⟩,_,h=>
      have e1:=h 0 x _ rfl rfl;have e2:=h 1 y _ rfl rfl;cases e1;cases e2;rfl
   have e1:u1= .iface 67 (.pointer (some ⟨g.blk 0,0,none⟩)):=by
    have:=h2 1 u1 _ rfl rfl;cases this;rfl
   subst e0;subst e1;have hb:=hs.rep 0 _ rfl;obtain⟨vs,hh,hsz,hr⟩:=x5d hb;have hg:w.cell? ⟨0,0,none⟩=some (.iface 138 (.agg #[.pointer (some ⟨12,59,none⟩)])):=(hs.tab.2 (0,[Value.iface 138 (.agg #[.pointer (some ⟨12,59,none⟩)])]) (by simp[gV]) 0).2
   refine(k6s (g.blk 0) a c vs w hg hh (by simpa using hsz)).mono ?_
   rintro e w' ⟨rfl,rfl⟩
   have hf4:Fr (fun _=>False) w (w4 w (g.blk 0) a c):=(((Fr.alloc _ _ _).trans (Fr.alloc _ _ _)).trans (Fr.alloc _ _ _)).trans (Fr.alloc _ _ _)
   have k1:Keep [] g hsA w g hsA (w4 w (g.blk 0) a c):=Keep.j2e hs hf4;have hlt:g.blk 0 < w.heap.size:=(a0r.1 hh).1;have hh4:(w4 w (g.blk 0) a c).heap[g.blk 0]? =some (.cells vs 65 (0,0)):=by rw[hf4.block _ hlt (fun h=>h)];exact hh
   have hrow:=setRow_heap (w4 w (g.blk 0) a c) (g.blk 0) vs #[.int .i64 a, .int .i64 c] 65 (0,0) hh4;have k2:=Keep.turn (y:= .cells (.ty 65) [.d (.int .i64 a), .d (.int .i64 c)]) k1.heap (b:=0) rfl [] (.inl ⟨rfl,rfl⟩) rfl rfl rfl (fun _ _=>⟨rfl,rfl⟩) ((z0f (w4 w (g.blk 0) a c) (g.blk 0) #[.int .i64 a, .int .i64 c]).mono fun k hk=>by simp[Box.at?,hk])
    ⟨_,_,hrow,rfl,rfl,fun i u v hu hv=>by
      match i with
      |0=>simp at hu hv;subst hu;subst hv;exact .d (.int _ _)
      |1=>simp at hu hv;subst hu;subst hv;exact .d (.int _ _)
      |i+2=>simp at hu⟩ (fun k hk=> .inl hk)
   exact⟨_,g,rfl, .d (.bool _),k1.trans k2⟩
def k1z {k:Nat}{key:List V}{p:PRes}(h:1000000<=k)(h2:kn k key=some p):k=1000019/\knA key=some p:=by
 unfold kn at h2;rw[u6p (show 129 < k by omega),u6p (show 180 < k by omega),u6p (show 58 < k by omega)]at h2
 simp only at h2;split at h2
 ·rename_i hf;exact⟨Nat.eq_of_beq_eq_true hf,h2⟩
 ·cases h2
def q4b:q7y Tryz.prog kn:=by
 refine⟨q4a,fun f args p hgf ha h=> ?_,fun f key pn as' hs p hgf hd h=> ?_⟩
 ·unfold kn at h;split at h
  ·rename_i hf;have hf:=Nat.eq_of_beq_eq_true hf;subst hf;unfold knF at h;split at h
   ·rename_i s;split at h
    ·rename_i hd;cases h;exact u5w s (a0e hd)
    ·cases h
   ·cases h
  ·split at h
   ·rename_i hf;have hf:=Nat.eq_of_beq_eq_true hf;subst hf;unfold knG at h;split at h
    ·rename_i n;split at h
     ·rename_i hd;cases h;exact⟨46,by kernel_rfl,by kernel_rfl,v8y n (a0e hd)⟩
     ·cases h
    ·cases h
   ·split at h
    ·rename_i hf;have hf:=Nat.eq_of_beq_eq_true hf;subst hf;unfold knI at h;split at h
     ·rename_i n b;split at h
      ·rename_i hd;obtain⟨rfl,h0,h1⟩:=a0e hd;cases h;exact⟨[9],[.str], .d (.str ⟨(Lib.itoa n).toArray⟩),by kernel_rfl,by kernel_rfl,rfl,by kernel_rfl,v8q n h0 h1⟩
      ·cases h
     ·cases h
    ·split at h
     ·rename_i hf;have hf:=Nat.eq_of_beq_eq_true hf;subst hf;exact absurd hgf (by rw[show x4o Tryz.prog 1000019=false by kernel_rfl];simp)
     ·cases h
 ·obtain⟨hf,hA⟩:=k1z (a0e (w1q f)) h;clear h;have hf:f=19:=by have:=v0j f;rw[hf]at this;exact this.symm
  subst hf;unfold knA at hA;split at hA
  ·rename_i b a c;clear hgf;obtain rfl:=Option.some.inj hA;clear hA;have hd:(0,[.ifo 65 b [.int .i64 a, .int .i64 c], .ifp 67 0 0],hsA)=(pn,as',hs):=Option.some.inj hd;cases hd;intro ts E q hE hsig hr;have hts:ts= [4]:=Option.some.inj (hsig.symm.trans (show z3o Tryz.prog 19=some [4] by kernel_rfl))
   subst hts;have hM:x8f hsA= []:=rfl;rw[hM];cases b with
   |true=>
    have e:(v3s sy Tryz.prog 0 [4] [.ifo 65 true [.int .i64 a, .int .i64 c], .ifp 67 0 0] hsA [.bool false, .int .i64 0, .int .i64 0]).run E=some (.d (.bool false),hsA):=by kernel_rfl
    rw[show(PRes.val [.bool false, .int .i64 0, .int .i64 0]).leaves= [.bool false, .int .i64 0, .int .i64 0]from rfl,e]at hr;cases hr;exact u6r a c
   |false=>
    have e:(v3s sy Tryz.prog 0 [4] [.ifo 65 false [.int .i64 a, .int .i64 c], .ifp 67 0 0] hsA [.bool true, .int .i64 a, .int .i64 c]).run E=some (.d (.bool true),[.cells (.ty 65) [.d (.int .i64 a), .d (.int .i64 c)]]):=by kernel_rfl
    rw[show(PRes.val [.bool true, .int .i64 a, .int .i64 c]).leaves= [.bool true, .int .i64 a, .int .i64 c]from rfl,e]at hr;cases hr;exact u6s a c
  ·cases hA
end Go.Vm
end
section
set_option maxRecDepth 100000
set_option maxHeartbeats 4000000
namespace Go.Vm
open Go.Proofs
def k9d (z:Int):List Nat:=if z < 0 then[45]else[]
def q5g (z:Int):List Nat:=k9d z++y0c z.natAbs
def k8y (l:List UInt8):tb ⟨l.toArray⟩=l.map UInt8.toNat:=by simp[tb]
def z7s: ∀(m u:Nat),u<=m->(Lib.decDigits u).map UInt8.toNat=y0c u
 |m,u,h=>by
  rw[Lib.decDigits,y0c]
  by_cases h1:u < 10
  ·rw[dif_pos h1,dif_pos h1];have:(UInt8.ofNat (48+u)).toNat=48+u:=by rw[UInt8.toNat_ofNat'];omega
   rw[a1m,a1w,this]
  ·rw[dif_neg h1,dif_neg h1];cases m with
   |zero=>omega
   |succ m=>
    have:(UInt8.ofNat (48+u % 10)).toNat=48+u % 10:=by rw[UInt8.toNat_ofNat'];omega
    rw[List.map_append,z7s m (u / 10) (by omega),a1m,a1w,this]
def z5o: ∀(k n:Nat),1<=k->n < 10 ^ k->(y0c n).length<=k
 |0,n,h,_=>by omega
 |k+1,n,_,h=>by
  rw[y0c.eq_def];split
  ·simp
  ·rename_i h1;have hk:1<=k:=by
    rcases Nat.eq_zero_or_pos k with h0|h0
    ·subst h0;omega
    ·exact h0
   have:=z5o k (n / 10) hk (by rw[Nat.pow_succ]at h;omega)
   simp only[a0k,List.length_singleton];omega
def u7b (z:Int):tb ⟨(Lib.itoa z).toArray⟩=q5g z:=by
 rw[k8y];unfold Lib.itoa q5g k9d
 by_cases hz:z < 0
 ·rw[if_pos hz,if_pos hz,a1m,z7s _ _ (a0q _)];rfl
 ·rw[if_neg hz,if_neg hz,z7s _ _ (a0q _),show z.toNat=z.natAbs by omega];rfl
def k6j (z:Int)(h0: -9223372036854775808<=z)(h1:z<=9223372036854775807):cF 58 [.d (.int .i64 z), .d (.int .i64 10)]=some (.val [.str ⟨(Lib.itoa z).toArray⟩]):=x8c (by
 rw[show kn 58 [.d (.int .i64 z), .d (.int .i64 10)]=knI [.d (.int .i64 z), .d (.int .i64 10)]from rfl];simp only[knI];rw[a0s ⟨trivial,h0,h1⟩])
def w1m (z:Int)(h0: -9223372036854775808<=z)(h1:z<=9223372036854775807): ∃s,cF 11 [.d (.int .i64 z)]=some (.val [.str s])/\tb s=q5g z/\s.size<=100:=by
 have h2:cF 23 [.d (.int .i64 z)]=some (.val [.str ⟨(Lib.itoa z).toArray⟩]):=by
  have h:=k6j z h0 h1;refine cO rfl ?_;rw[(g23 ..).2];simp only[g23,y3w,h];rfl
 refine⟨⟨(Lib.itoa z).toArray⟩,?_,u7b z,?_⟩
 ·refine cO rfl ?_;rw[(g11 ..).2];simp only[g11,y3w,h2];rfl
 ·rw[<-x2m,u7b];have:=z5o 20 z.natAbs (by omega) (by rw[show(10:Nat) ^ 20=100000000000000000000 from rfl];omega)
  unfold q5g k9d;split<;>simp only[a0k,a0a,a0d]<;>omega
def I64 (n:Int):Prop:= -9223372036854775808<=n/\n<=9223372036854775807
def z8u (n e x:Int):List Nat:=bif decide (n=0/\e=0/\x=0)then[111,107]else
 [101,114,114,111,114,32]++q5g x++[32,97,116,32]++q5g n++bif decide (e < 0)then[]else[46]++q5g e
def deq3 (n e x:Int):sy.deq [.int .i64 n, .int .i64 e, .int .i64 x] [.int .i64 0, .int .i64 0, .int .i64 0]=decide (n=0/\e=0/\x=0):=by
 show(n == 0&&(e == 0&&(x == 0&&true)))=_;rw[a2a]
 by_cases h:n=0/\e=0/\x=0
 ·obtain⟨rfl,rfl,rfl⟩:=h;rfl
 ·rw[decide_eq_false h];cases h1:(n == 0&&(e == 0&&x == 0))with
  |false=>rfl
  |true=>simp only[a0g,beq_iff_eq]at h1;exact absurd h1 h
def z8i (n e x:Int)(hn:I64 n)(he:I64 e)(hx:I64 x): ∃s,cF 6 [.agg [.d (.int .i64 n), .d (.int .i64 e), .d (.int .i64 x)]]=some (.val [.str s])/\tb s=z8u n e x:=by
 obtain⟨s3,c1,t1,z1⟩:=w1m x hx.1 hx.2;obtain⟨s6,c2,t2,z2⟩:=w1m n hn.1 hn.2;obtain⟨s9,c3,t3,z3⟩:=w1m e he.1 he.2;have q1:sy.sfit (bs [101,114,114,111,114,32]) s3=true:=sfT (by simp only[ByteArray.size_append,x1h,a0a,a0d];omega)
 have q2:sy.sfit (bs [101,114,114,111,114,32]++s3) (bs [32,97,116,32])=true:=sfT (by simp only[ByteArray.size_append,x1h,a0a,a0d];omega)
 have q3:sy.sfit (bs [101,114,114,111,114,32]++s3++bs [32,97,116,32]) s6=true:=sfT (by simp only[ByteArray.size_append,x1h,a0a,a0d];omega)
 have q4:sy.sfit (bs [101,114,114,111,114,32]++s3++bs [32,97,116,32]++s6) (bs [46])=true:=sfT (by simp only[ByteArray.size_append,x1h,a0a,a0d];omega)
 have q5:sy.sfit (bs [101,114,114,111,114,32]++s3++bs [32,97,116,32]++s6++bs [46]) s9=true:=sfT (by simp only[ByteArray.size_append,x1h,a0a,a0d];omega)
 have hd:=deq3 n e x;unfold z8u;cases h0:decide (n=0/\e=0/\x=0)with
 |true=>
  rw[h0]at hd;refine⟨bs [111,107],cO rfl ?_,rfl⟩;rw[(g6 ..).2];simp only[g6,hd,cond_true]
 |false=>
  rw[h0]at hd
  by_cases h1:e < 0
  ·refine⟨bs [101,114,114,111,114,32]++s3++bs [32,97,116,32]++s6,cO rfl ?_,?_⟩
   ·rw[(g6 ..).2];simp only[g6,hd,go1,c1,c2,c3,q1,q2,q3,a0s h1]
   ·simp only[x0y,t1,t2,a0s h1,cond_true,cond_false,a0z];rfl
  ·refine⟨bs [101,114,114,111,114,32]++s3++bs [32,97,116,32]++s6++bs [46]++s9,cO rfl ?_,?_⟩
   ·rw[(g6 ..).2];simp only[g6,hd,go1,c1,c2,c3,q1,q2,q3,q4,q5,decide_eq_false h1]
   ·simp only[x0y,t1,t2,t3,decide_eq_false h1,cond_false,List.append_assoc];rfl
end Go.Vm
end
section
namespace Go.Vm
open Go.Proofs
mutual
def v6k:Nat->D->D->Bool
 |0,_,_=>false
 |_+1, .int k a, .int k' b=>decide (k=k')&&decide (a=b)
 |_+1, .bool a, .bool b=>a == b
 |_+1, .str a, .str b=>decide (a.data.toList=b.data.toList)
 |n+1, .sl z r, .sl z' r'=>decide (z=z')&&v6i n r r'
 |_+1,_,_=>false
def v6i:Nat->LL->LL->Bool
 |0,_,_=>false
 |_+1,[],[]=>true
 |n+1,a::r,b::r'=>v6j n a b&&v6i n r r'
 |_+1,_,_=>false
def v6j:Nat->List D->List D->Bool
 |0,_,_=>false
 |_+1,[],[]=>true
 |n+1,a::r,b::r'=>v6k n a b&&v6j n r r'
 |_+1,_,_=>false
end
def v6h: ∀n,(∀a b,v6k n a b=true->a=b)/\(∀a b,v6i n a b=true->a=b)/\(∀a b,v6j n a b=true->a=b)
 |0=>⟨fun _ _ h=>by simp[v6k]at h,fun _ _ h=>by simp[v6i]at h,fun _ _ h=>by simp[v6j]at h⟩
 |n+1=>by
  obtain⟨h1,h2,h3⟩:=v6h n;refine⟨fun a b h=> ?_,fun a b h=> ?_,fun a b h=> ?_⟩
  ·unfold v6k at h;split at h
   ·rename_i e;cases e
   ·simp only[a0g,a0p]at h;rw[h.1,h.2]
   ·rw[beq_iff_eq]at h;rw[h]
   ·rename_i x y _;have h:=a0e h;have:x=y:=by cases x;cases y;simp only[ByteArray.mk.injEq];exact Array.toList_inj.1 h
    rw[this]
   ·rename_i e;cases e;simp only[a0g,a0p]at h;rw[h.1,h2 _ _ h.2]
   ·cases h
  ·unfold v6i at h;split at h
   ·rename_i e;cases e
   ·rfl
   ·rename_i e;cases e;simp only[a0g]at h;rw[h3 _ _ h.1,h2 _ _ h.2]
   ·cases h
  ·unfold v6j at h;split at h
   ·rename_i e;cases e
   ·rfl
   ·rename_i e;cases e;simp only[a0g]at h;rw[h1 _ _ h.1,h3 _ _ h.2]
   ·cases h
mutual
def w3s:Nat->V->V->Bool
 |0,_,_=>false
 |n+1, .d a, .d b=>v6k n a b
 |n+1, .agg a, .agg b=>z0h n a b
 |n+1, .fn f a, .fn g b=>decide (f=g)&&z0h n a b
 |_+1,_,_=>false
def z0h:Nat->List V->List V->Bool
 |0,_,_=>false
 |_+1,[],[]=>true
 |n+1,a::r,b::r'=>w3s n a b&&z0h n r r'
 |_+1,_,_=>false
end
def u7p: ∀n,(∀a b,w3s n a b=true->a=b)/\(∀a b,z0h n a b=true->a=b)
 |0=>⟨fun _ _ h=>by simp[w3s]at h,fun _ _ h=>by simp[z0h]at h⟩
 |n+1=>by
  obtain⟨h1,h2⟩:=u7p n;refine⟨fun a b h=> ?_,fun a b h=> ?_⟩
  ·unfold w3s at h;split at h
   ·rename_i e;cases e
   ·rename_i e;cases e;rw[(v6h _).1 _ _ h]
   ·rename_i e;cases e;rw[h2 _ _ h]
   ·rename_i e;cases e;simp only[a0g,a0p]at h;rw[h.1,h2 _ _ h.2]
   ·cases h
  ·unfold z0h at h;split at h
   ·rename_i e;cases e
   ·rfl
   ·rename_i e;cases e;simp only[a0g]at h;rw[h1 _ _ h.1,h2 _ _ h.2]
   ·cases h
def w8o {c c':FuncId->List V->Option PRes}{n:Nat}(hc: ∀f a p,c f a=some p->c' f a=some p):
  ∀ {α:Type} (t:Tree α) (a:α),t.run (u3s n c)=some a->t.run (v4h c')=some a:=by
 intro α t
 induction t with
 |ret a=>intro b h;exact h
 |fail=>intro b h;cases h
 |ite x y z ihx ihy=>
  intro b h;cases x with
  |true=>exact ihx b h
  |false=>exact ihy b h
 |cI v k K ih|cB v K ih|cS v K ih|cL v sz K ih=>
  intro b h;simp only[Tree.run]at h ⊢;obtain⟨m,h1,h2⟩:=a1l.1 h;simp only[h1,a1i];exact ih m b h2
 |call g args K ih=>
  intro b h;simp only[Tree.run]at h ⊢;obtain⟨p,hp,h2⟩:=a1l.1 h;rw[show(v4h c').call g args=some p from hc _ _ _ hp];exact ih _ b h2
 |mint g args e sz K ih=>
  intro b h;simp only[Tree.run]at h ⊢;obtain⟨p,hp,h2⟩:=a1l.1 h;have hq:=y8y hp;rw[show(v4h c').call g args=some (.own e sz p)from hc _ _ _ hq];rw[show(u3s n c).call g args=_ from hq]at hp;rw[hp];exact ih _ b h2
 |loop body ds ih=>
  intro b h;simp only[Tree.run]at h ⊢;refine x9w.2 ⟨n,?_⟩;have h:x5x n (fun ds=>(body ds).run (u3s n c)) ds=some b:=h
  have key: ∀m ds,x5x m (fun ds=>(body ds).run (u3s n c)) ds=some b->x5x m (fun ds=>(body ds).run (v4h c')) ds=some b:=by
   intro m
   induction m with
   |zero=>intro ds h;cases h
   |succ m ihm=>
    intro ds h;simp only[x5x]at h ⊢;cases hb:(body ds).run (u3s n c)with
    |none=>rw[hb]at h;cases h
    |some s=>
     rw[hb]at h;rw[ih ds s hb];cases s with
     |inl d=>exact ihm d h
     |inr x=>exact h
  exact key n ds h
 |cut x K ihx ihK=>
  intro b h;simp only[Tree.run]at h ⊢;obtain⟨s,h1,h2⟩:=a1l.1 h;rw[ihx s h1];cases s with
  |inl ds=>exact ihK ds b h2
  |inr x=>exact h2
def v2g:List (FuncId × List V × PRes)->FuncId->List V->Option PRes
 | [],_,_=>none
 |(g,a,p)::r,f,args=>match Nat.beq g f&&z0h 60 a args with
  |true=>some p
  |false=>v2g r f args
def u0u: ∀ {T:List (FuncId × List V × PRes)} {f:FuncId} {args:List V} {p:PRes},v2g T f args=some p->(f,args,p)∈T
 | [],_,_,_,h=>by cases h
 |(g,a,q)::r,f,args,p,h=>by
  unfold v2g at h;split at h
  ·rename_i hd;simp only[a0g]at hd;cases h;rw[Nat.eq_of_beq_eq_true hd.1,(u7p _).2 _ _ hd.2];exact a0t
  ·exact a0v _ (u0u h)
def knT (T:List (FuncId × List V × PRes))(f:FuncId)(args:List V):Option PRes:=match v2g T f args with
 |some p=>some p
 |none=>kn f args
def w5d {f:FuncId}(h:v8r f=true):y8m (v1c f)=f:=Nat.sub_add_cancel (a0e h)
def y6z (T:List (FuncId × List V × PRes))(hT: ∀q∈T,cF q.1 q.2.1=some q.2.2)(N:Nat){f:FuncId}{args:List V}{p:PRes}(h:x7j Tryz.prog cs (knT T) N f args=some p):cF f args=some p:=by
 suffices ∀n f args p,x7j Tryz.prog cs (knT T) n f args=some p->cF f args=some p from this N f args p h
 intro n
 induction n with
 |zero=>intro f args p h;cases h
 |succ n ih=>
  intro f args p h;unfold x7j at h;cases hk:knT T f args with
  |some q=>
   rw[hk]at h;cases h;unfold knT at hk;cases hl:v2g T f args with
   |some r=>rw[hl]at hk;cases hk;exact hT _ (u0u hl)
   |none=>rw[hl]at hk;exact x8c hk
  |none=>
   rw[hk]at h;simp only at h;have hkn:kn f args=none:=by
    unfold knT at hk;cases hl:v2g T f args with
    |some r=>rw[hl]at hk;cases hk
    |none=>rw[hl]at hk;exact hk
   cases hg:x4o Tryz.prog f with
   |true=>
    rw[hg]at h;exact z7x hg hkn (w8o (fun f a p h=>ih f a p h) _ _ h)
   |false=>
    rw[hg]at h;cases hd:y0d args with
    |none=>rw[hd]at h;cases h
    |some q=>
     obtain⟨pn,ar,hs⟩:=q;rw[hd]at h;cases hi:v8r f with
     |false=>rw[hi]at h;cases h
     |true=>
      rw[hi]at h;have hb:=w5d hi;have:=u2w (P:=Tryz.prog) (Cs:=cs) (K:=kn) (f:=v1c f) (pn:=pn) (key:=args) (hs:=hs) (by rw[hb];exact hg) (by rw[hb];exact hkn) hd (w8o (fun f a p h=>ih f a p h) _ _ h)
      rw[hb]at this;exact this
end Go.Vm
end
section
set_option maxRecDepth 100000
set_option maxHeartbeats 4000000
namespace Go.Vm
open Go.Proofs
def lvP:List V:=[.agg [.d (.sl 2 []), .d (.sl 5 [[(.str (bs [102])), .sl 6 [[(.str (bs [97])),(.int .i64 1),(.int .i64 0),(.int .i64 0),(.str (bs [])),(.str (bs []))]], .sl 6 [[(.str (bs [98])),(.int .i64 1),(.int .i64 0),(.int .i64 0),(.str (bs [])),(.str (bs []))]], .sl 6 [], .sl 7 [[.sl 1 [[(.str (bs [98]))]],(.int .i64 10),(.int .i64 0),(.str (bs [])),(.int .i64 0), .sl 1 [], .sl 6 [[(.int .i64 3),(.int .i64 0),(.str (bs [97])),(.int .i64 0), .sl 1 [], .sl 6 []]]]]]])]]
def lv33:cF 20 lvP=some (.val [.int .i64 0]):=y6z [] (fun _ h=>by cases h) 60 (by kernel_rfl)
def lv163:cF 148 lvP=some (.val [.int .i64 0, .int .i64 0, .int .i64 0]):=y6z [(20,lvP, .val [.int .i64 0])] (fun q h=>by rw[a1h.1 h];exact lv33) 60 (by kernel_rfl)
def lv112:cF 96 lvP=some (.val [.int .i64 0, .int .i64 0, .int .i64 0]):=y6z [(148,lvP, .val [.int .i64 0, .int .i64 0, .int .i64 0])] (fun q h=>by rw[a1h.1 h];exact lv163) 60 (by kernel_rfl)
def lv69:cF 54 lvP=some (.val [.int .i64 0, .int .i64 0, .int .i64 0]):=y6z [(96,lvP, .val [.int .i64 0, .int .i64 0, .int .i64 0])] (fun q h=>by rw[a1h.1 h];exact lv112) 60 (by kernel_rfl)
def lv34:cF 21 lvP=some (.val [.int .i64 0, .int .i64 0, .int .i64 0]):=y6z [(54,lvP, .val [.int .i64 0, .int .i64 0, .int .i64 0])] (fun q h=>by rw[a1h.1 h];exact lv69) 60 (by kernel_rfl)
def lv16:cF 10 lvP=some (.val [.int .i64 0, .int .i64 0, .int .i64 10]):=y6z [(21,lvP, .val [.int .i64 0, .int .i64 0, .int .i64 0])] (fun q h=>by rw[a1h.1 h];exact lv34) 60 (by kernel_rfl)
def lexF (s:BA):Nat->Nat->Option (List Tk × Nat × Bool)
 |0,_=>none
 |n+1,a=>match decide (a+x7n ((tb s).drop a) < (tb s).length)with
  |true=>match (x0z (s.extract (a+x7n ((tb s).drop a)) (tb s).length)).ok&&decide (1<=(x0z (s.extract (a+x7n ((tb s).drop a)) (tb s).length)).w)with
   |true=>match lexF s n (a+x7n ((tb s).drop a)+(x0z (s.extract (a+x7n ((tb s).drop a)) (tb s).length)).w)with
    |some r=>some (⟨(x0z (s.extract (a+x7n ((tb s).drop a)) (tb s).length)).k,(x0z (s.extract (a+x7n ((tb s).drop a)) (tb s).length)).s,(x0z (s.extract (a+x7n ((tb s).drop a)) (tb s).length)).n,a+x7n ((tb s).drop a)⟩::r.1,r.2)
    |none=>none
   |false=>some ([],a+x7n ((tb s).drop a),false)
  |false=>some ([],a+x7n ((tb s).drop a),true)
def v8j (s:BA): ∀(n a:Nat) {r:List Tk × Nat × Bool},lexF s n a=some r->y2z s a=r
 |0,a,r,h=>by cases h
 |n+1,a,r,h=>by
  rw[y2z];unfold lexF at h;split at h
  ·rename_i hp;rw[dif_pos (a0e hp)];split at h
   ·rename_i ht;rw[a0g]at ht;rw[dif_pos ⟨ht.1,a0e ht.2⟩];split at h
    ·rename_i q hq;rw[v8j s n _ hq];cases h;rfl
    ·cases h
   ·rename_i ht;rw[dif_neg (fun e=>by rw[e.1,x1y e.2]at ht;cases ht)]
    cases h;rfl
  ·rename_i hp;rw[dif_neg (of_decide_eq_false hp)];cases h;rfl
def lvS:BA:=bs [110,111,100,101,32,102,40,97,58,32,105,110,116,41,32,114,101,116,117,114,110,115,32,40,98,58,32,105,110,116,41,32,108,101,116,32,98,32,61,32,112,114,101,32,97,59,32,116,101,108]
def lvT:List Tk:=[⟨1,bs [110,111,100,101],0,0⟩,⟨1,bs [102],0,5⟩,⟨5,bs [40],0,6⟩,⟨1,bs [97],0,7⟩,⟨5,bs [58],0,8⟩,⟨1,bs [105,110,116],0,10⟩,⟨5,bs [41],0,13⟩,⟨1,bs [114,101,116,117,114,110,115],0,15⟩,⟨5,bs [40],0,23⟩,⟨1,bs [98],0,24⟩,⟨5,bs [58],0,25⟩,⟨1,bs [105,110,116],0,27⟩,⟨5,bs [41],0,30⟩,⟨1,bs [108,101,116],0,32⟩,⟨1,bs [98],0,36⟩,⟨5,bs [61],0,38⟩,⟨1,bs [112,114,101],0,40⟩,⟨1,bs [97],0,44⟩,⟨5,bs [59],0,45⟩,⟨1,bs [116,101,108],0,47⟩]
def lv1:y2z lvS 0=(lvT,50,true):=v8j _ 60 _ (by kernel_rfl)
def lvN:Nd:=⟨bs [102],[⟨bs [97],1,0,0,bs [],bs []⟩],[⟨bs [98],1,0,0,bs [],bs []⟩],[],[⟨[bs [98]], .mk 10 0 (bs []) 0 [] [.mk 3 0 (bs [97]) 0 [] []]⟩]⟩
def lv3:y3q (lvT++[⟨6,bs [],0,50⟩]) 0= .ok ([],[lvN]) 20:=by kernel_rfl
def lv4:y2l [] [lvN]=0:=by kernel_rfl
def lv5:x8w lvS=(([],[lvN]),50,0):=by
 have e:x7s lvS=lvT++[⟨6,bs [],0,50⟩]:=by
  unfold x7s;rw[lv1];rfl
 have e2:(tb lvS).length=50:=by kernel_rfl
 unfold x8w;rw[lv1,e,e2,lv3];simp only[lv4];rfl
def x6n (s:BA)(hs:s.size<=100000){a b c:Int}(h:(x8w s).2.2=0->cF 10 [.agg [.d (.sl 2 (x0m (x8w s).1.1)), .d (.sl 5 (x1k (x8w s).1.2))]]=some (.val [.int .i64 a, .int .i64 b, .int .i64 c])):
  cF 5 [.d (.str s)]=some (.val (bif decide ((x8w s).2.2=0)then bif decide (c=0)then[.sl 2 (x0m (x8w s).1.1), .sl 5 (x1k (x8w s).1.2), .int .i64 (s.size:Int), .int .i64 0, .int .i64 0, .int .i64 0]else[.sl 2 [], .sl 5 [], .int .i64 (s.size:Int), .int .i64 a, .int .i64 b, .int .i64 c]else[.sl 2 [], .sl 5 [], .int .i64 (x8w s).2.1, .int .i64 0, .int .i64 (-1), .int .i64 (x8w s).2.2])):=by
 have h1:=v3l s hs;unfold pgV at h1;generalize x8w s=q at h1 h ⊢;obtain⟨⟨en,nd⟩,at_,e⟩:=q;simp only at h1 h ⊢;refine cO rfl ?_;rw[(g5 ..).2];simp only[g5,go1,h1]
 by_cases he:e=0
 ·have h2:=h he;subst he;simp only[go1,h2]
  by_cases hc:c=0
  ·simp only[go1,x1y hc]
  ·simp only[go1,x1j hc]
 ·simp only[go1,x1j he]
def w6w:cF 4 []=some (.val [.bool true]):=by
 have h1:=x6n lvS (by decide) (a:=0) (b:=0) (c:=10) (fun _=>by rw[lv5];exact lv16)
 rw[lv5]at h1;have h1:cF 5 [.d (.str lvS)]=some (.val [.sl 2 [], .sl 5 [], .int .i64 50, .int .i64 0, .int .i64 0, .int .i64 10]):=h1;obtain⟨w,h2,t2⟩:=z8i 0 0 10 ⟨by omega,by omega⟩ ⟨by omega,by omega⟩ ⟨by omega,by omega⟩
 have hw:w=bs [101,114,114,111,114,32,49,48,32,97,116,32,48,46,48]:=x3o (t2.trans (by kernel_rfl))
 subst hw;refine cO rfl ?_;rw[(g4 ..).2];simp only[g4];rw[y3w,show(bs [110,111,100,101,32,102,40,97,58,32,105,110,116,41,32,114,101,116,117,114,110,115,32,40,98,58,32,105,110,116,41,32,108,101,116,32,98,32,61,32,112,114,101,32,97,59,32,116,101,108])=lvS from rfl,h1];simp only[go1,h2,x1v]
def fm:Pc->List T
 | []=>[]
 |none::r=>fm r
 |some t::r=>t::fm r
def x2n: ∀x y:Pc,fm (x++y)=fm x++fm y
 | [],y=>rfl
 |none::x,y=>x2n x y
 |some t::x,y=>by rw[a0f,fm,fm,x2n x y];rfl
def q4s: ∀x:Pc,x.filterMap id=fm x
 | []=>rfl
 |none::x=>by simp[fm,q4s x]
 |some t::x=>by simp[fm,q4s x]
def x2u (r:Pc):fm (none::r)=fm r:=rfl
def x2h (t:T)(r:Pc):fm (some t::r)=t::fm r:=rfl
def x6q:fm []= []:=rfl
def Az (l:List Tk):Nat->List T->Prop
 |_,[]=>True
 |i,t::ts=>tkT (tkA l i)=t/\Az l (i+1) ts
def x2t {l:List Tk}: ∀ {a b:List T} {i:Nat},Az l i (a++b)↔Az l i a/\Az l (i+a.length) b
 | [],b,i=>by simp[Az]
 |t::a,b,i=>by
  simp only[a0f,Az,x2t (a:=a),a0a,and_assoc];rw[show i+1+a.length=i+(a.length+1) by omega]
def x1i {l:List Tk}{t:T}{b:List T}{i:Nat}:Az l i (t::b)↔tkT (tkA l i)=t/\Az l (i+1) b:=Iff.rfl
def y8h (t:T)(w:List Nat):Bool:=decide (t.b=w)&&(decide (t.k=1) || decide (t.k=5))
def z1h (l:List Tk)(i:Nat)(w:BA):isT l i w=y8h (tkT (tkA l i)) (tb w):=rfl
def opQ (t:T):Nat->Nat->Option Nat
 |_,0=>none
 |a,n+1=>match y8h t (tb (y1t a))with
  |true=>some a
  |false=>opQ t (a+1) n
def z0x (l:List Tk)(i:Nat): ∀n a,z6y l i a n=opQ (tkT (tkA l i)) a n
 |0,_=>rfl
 |n+1,a=>by
  rw[z6y,opQ,z1h,z0x l i n];cases y8h (tkT (tkA l i)) (tb (y1t a))<;>rfl
def nT (t:T)(w:List Nat):Bool:= !y8h t w
def nO (t:T)(a n:Nat):Bool:=(opQ t a n).isNone
def f1 (t:T):Bool:=nT t [40]&&nT t y5d
def f2 (t:T):Bool:=f1 t&&(nT t [91]&&nT t y5c)
def f4 (t:T):Bool:=f2 t&&nO t 5 3
def f5 (t:T):Bool:=f4 t&&nO t 3 2
def f6 (t:T):Bool:=f5 t&&nO t 11 6
def f7 (t:T):Bool:=f6 t&&nO t 8 1
def f8 (t:T):Bool:=f7 t&&nO t 9 2
def f9 (t:T):Bool:=f8 t&&nT t w2p
def f10 (t:T):Bool:=f9 t&&nT t [45,62]
def foB:Nt->T->Bool
 | .atom,t=>f1 t
 | .post,t| .un,t=>f2 t
 | .prod,t=>f4 t
 | .sum,t=>f5 t
 | .cmp,t=>f6 t
 | .and,t=>f7 t
 | .or,t=>f8 t
 | .fby,t=>f9 t
 | .arrow,t=>f10 t
def v1j (t:T):Bool:=nT t [45]&&(nT t v4e&&(nT t w9d&&nT t [41]))
section
variable (l : List Tk)
def Ev (nt:Nt)(i:Nat)(e:Ex)(j N:Nat):Prop:= ∀m,N<=m->prs l m nt i= .ok e j
end
section
variable {l : List Tk} {i j k N M : Nat} {e x y : Ex}
def Ev.mono {nt:Nt}(h:Ev l nt i e j N)(hN:N<=M):Ev l nt i e j M:=fun m hm=>h m (by omega)
def x8a {w:BA}(h:nT (tkT (tkA l i)) (tb w)=true):isT l i w=false:=by
 rw[z1h];unfold nT at h;simpa using h
def q3k {a n:Nat}(h:nO (tkT (tkA l i)) a n=true):z6y l i a n=none:=by
 rw[z0x];unfold nO at h;simpa using h
def q9e (h:Ev l .post i e j N)(hs:v1j (tkT (tkA l i))=true):Ev l .un i e j (N+1):=fun m hm=>by
 obtain⟨m,rfl⟩: ∃r,m=r+1:=⟨m - 1,by omega⟩
 unfold v1j at hs;simp only[a0g]at hs;show unS l (prs l m) i=_;unfold unS;rw[x8a (w:=bs [45]) hs.1,x8a (w:=bs [110,111,116]) hs.2.1,x8a (w:=bs [112,114,101]) hs.2.2.1];exact h m (by omega)
def z7f {side nt:Nt}{a n:Nat}(hn: ∀m,ntS l m (prs l m) nt i=x5w l m (prs l m) side a n i)(h:Ev l side i e j N)(h1:1<=N)(ho:nO (tkT (tkA l j)) a n=true):Ev l nt i e j (N+1):=fun m hm=>by
 obtain⟨m,rfl⟩: ∃r,m=r+1:=⟨m - 1,by omega⟩
 show ntS l m (prs l m) nt i=_;rw[hn,x5w,h m (by omega),Rs.bind_ok]
 obtain⟨r,rfl⟩: ∃r,m=r+1:=⟨m - 1,by omega⟩
 rw[x2o,x6y,q3k ho]
def y9d {side nt:Nt}{a n o:Nat}(hn: ∀m,ntS l m (prs l m) nt i=x5w l m (prs l m) side a n i)(h:Ev l side i x j N)(h1:2<=N)(ho:z6y l j a n=some o)(h2:Ev l side (j+1) y k N)(hk:nO (tkT (tkA l k)) a n=true):Ev l nt i (x5e o x y) k (N+1):=fun m hm=>by
 obtain⟨m,rfl⟩: ∃r,m=r+1:=⟨m - 1,by omega⟩
 show ntS l m (prs l m) nt i=_;rw[hn,x5w,h m (by omega),Rs.bind_ok]
 have h2:=h2 m (by omega)
 have hk:=q3k hk;generalize prs l m=p at h2;obtain⟨r,rfl⟩: ∃r,m=r+2:=⟨m - 2,by omega⟩
 rw[x2o,x6y,ho];simp only[h2];rw[x2o,x6y,hk]
def y9u (h:Ev l .sum i e j N)(ho:nO (tkT (tkA l j)) 11 6=true):Ev l .cmp i e j (N+1):=fun m hm=>by
 obtain⟨m,rfl⟩: ∃r,m=r+1:=⟨m - 1,by omega⟩
 show v4i l (prs l m) i=_;rw[v4i,h m (by omega),Rs.bind_ok,q3k ho]
def q7d {o:Nat}(h:Ev l .sum i x j N)(ho:z6y l j 11 6=some o)(h2:Ev l .sum (j+1) y k N):Ev l .cmp i (x5e o x y) k (N+1):=fun m hm=>by
 obtain⟨m,rfl⟩: ∃r,m=r+1:=⟨m - 1,by omega⟩
 show v4i l (prs l m) i=_;rw[v4i,h m (by omega),Rs.bind_ok,ho]
 simp only;rw[h2 m (by omega),Rs.bind_ok]
def y9t (h:Ev l .or i e j N)(ho:nT (tkT (tkA l j)) w2p=true):Ev l .fby i e j (N+1):=fun m hm=>by
 obtain⟨m,rfl⟩: ∃r,m=r+1:=⟨m - 1,by omega⟩
 show v4g l (prs l m) i=_;rw[v4g,h m (by omega),Rs.bind_ok,x8a (w:=bs [102,98,121]) ho]
def q7c (h:Ev l .or i x j N)(ho:tkT (tkA l j)=⟨1,w2p,0⟩)(h2:Ev l .fby (j+1) y k N):Ev l .fby i (ex 8 [x,y]) k (N+1):=fun m hm=>by
 obtain⟨m,rfl⟩: ∃r,m=r+1:=⟨m - 1,by omega⟩
 show v4g l (prs l m) i=_;rw[v4g,h m (by omega),Rs.bind_ok,z1h,ho,show y8h ⟨1,w2p,0⟩ (tb (bs [102,98,121]))=true from rfl]
 simp only;rw[h2 m (by omega),Rs.bind_ok]
def y0i (h:Ev l .fby i e j N)(ho:nT (tkT (tkA l j)) [45,62]=true):Ev l .arrow i e j (N+1):=fun m hm=>by
 obtain⟨m,rfl⟩: ∃r,m=r+1:=⟨m - 1,by omega⟩
 show y1i l (prs l m) i=_;rw[y1i,h m (by omega),Rs.bind_ok,x8a (w:=bs [45,62]) ho]
def w1t (h:Ev l .fby i x j N)(ho:tkT (tkA l j)=⟨5,[45,62],0⟩)(h2:Ev l .arrow (j+1) y k N):Ev l .arrow i (ex 9 [x,y]) k (N+1):=fun m hm=>by
 obtain⟨m,rfl⟩: ∃r,m=r+1:=⟨m - 1,by omega⟩
 show y1i l (prs l m) i=_;rw[y1i,h m (by omega),Rs.bind_ok,z1h,ho,show y8h ⟨5,[45,62],0⟩ (tb (bs [45,62]))=true from rfl]
 simp only;rw[h2 m (by omega),Rs.bind_ok]
def x2a {a b:Bool}(h:(a&&b)=true):a=true:=(a0g _ _▸h).1
def y3c {a b:Bool}(h:(a&&b)=true):b=true:=(a0g _ _▸h).2
def y9v (h:Ev l .un i e j N)(h1:1<=N)(hf:f4 (tkT (tkA l j))=true):Ev l .prod i e j (N+1):=z7f (fun _=>rfl) h h1 (y3c hf)
def u4e (h:Ev l .prod i e j N)(h1:1<=N)(hf:f5 (tkT (tkA l j))=true):Ev l .sum i e j (N+1):=z7f (fun _=>rfl) h h1 (y3c hf)
def u4f (h:Ev l .cmp i e j N)(h1:1<=N)(hf:f7 (tkT (tkA l j))=true):Ev l .and i e j (N+1):=z7f (fun _=>rfl) h h1 (y3c hf)
def q1j (h:Ev l .and i e j N)(h1:1<=N)(hf:f8 (tkT (tkA l j))=true):Ev l .or i e j (N+1):=z7f (fun _=>rfl) h h1 (y3c hf)
def q4r (h:Ev l .un i e j N)(h1:1<=N): ∀nt,foB nt (tkT (tkA l j))=true->nt≠ .atom->nt≠ .post->Ev l nt i e j (N+9)
 | .un,_,_,_=>h.mono (by omega)
 | .prod,hf,_,_=>(y9v h h1 hf).mono (by omega)
 | .sum,hf,_,_=>(u4e (y9v h h1 (x2a hf)) (by omega) hf).mono (by omega)
 | .cmp,hf,_,_=>(y9u (u4e (y9v h h1 (x2a (x2a hf))) (by omega) (x2a hf)) (y3c hf)).mono (by omega)
 | .and,hf,_,_=>(u4f (y9u (u4e (y9v h h1 (x2a (x2a (x2a hf)))) (by omega) (x2a (x2a hf))) (y3c (x2a hf))) (by omega) hf).mono (by omega)
 | .or,hf,_,_=>(q1j (u4f (y9u (u4e (y9v h h1 (x2a (x2a (x2a (x2a hf))))) (by omega) (x2a (x2a (x2a hf)))) (y3c (x2a (x2a hf)))) (by omega) (x2a hf)) (by omega) hf).mono (by omega)
 | .fby,hf,_,_=>(y9t (q1j (u4f (y9u (u4e (y9v h h1 (x2a (x2a (x2a (x2a (x2a hf)))))) (by omega) (x2a (x2a (x2a (x2a hf))))) (y3c (x2a (x2a (x2a hf))))) (by omega) (x2a (x2a hf))) (by omega) (x2a hf)) (y3c hf)).mono (by omega)
 | .arrow,hf,_,_=>(y0i (y9t (q1j (u4f (y9u (u4e (y9v h h1 (x2a (x2a (x2a (x2a (x2a (x2a hf))))))) (by omega) (x2a (x2a (x2a (x2a (x2a hf)))))) (y3c (x2a (x2a (x2a (x2a hf)))))) (by omega) (x2a (x2a (x2a hf)))) (by omega) (x2a (x2a hf))) (y3c (x2a hf))) (y3c hf)).mono (by omega)
 | .atom,_,h,_=>(h rfl).elim
 | .post,_,_,h=>(h rfl).elim
def x7i: ∀nt,Ev l nt i e j N->1<=N->f10 (tkT (tkA l j))=true->nt≠ .atom->nt≠ .post->Ev l .arrow i e j (N+9)
 | .un,h,h1,hf,_,_=>q4r h h1 .arrow hf (by simp) (by simp)
 | .prod,h,h1,hf,_,_=>(y0i (y9t (q1j (u4f (y9u (u4e h h1 (x2a (x2a (x2a (x2a (x2a hf)))))) (y3c (x2a (x2a (x2a (x2a hf)))))) (by omega) (x2a (x2a (x2a hf)))) (by omega) (x2a (x2a hf))) (y3c (x2a hf))) (y3c hf)).mono (by omega)
 | .sum,h,h1,hf,_,_=>(y0i (y9t (q1j (u4f (y9u h (y3c (x2a (x2a (x2a (x2a hf)))))) (by omega) (x2a (x2a (x2a hf)))) (by omega) (x2a (x2a hf))) (y3c (x2a hf))) (y3c hf)).mono (by omega)
 | .cmp,h,h1,hf,_,_=>(y0i (y9t (q1j (u4f h (by omega) (x2a (x2a (x2a hf)))) (by omega) (x2a (x2a hf))) (y3c (x2a hf))) (y3c hf)).mono (by omega)
 | .and,h,h1,hf,_,_=>(y0i (y9t (q1j h (by omega) (x2a (x2a hf))) (y3c (x2a hf))) (y3c hf)).mono (by omega)
 | .or,h,h1,hf,_,_=>(y0i (y9t h (y3c (x2a hf))) (y3c hf)).mono (by omega)
 | .fby,h,h1,hf,_,_=>(y0i h (y3c hf)).mono (by omega)
 | .arrow,h,_,_,_,_=>h.mono (by omega)
 | .atom,_,_,_,h,_=>(h rfl).elim
 | .post,_,_,_,_,h=>(h rfl).elim
def AI (l:List Tk)(e:Ex)(i j L:Nat):Prop:= ∃base j0 k,k<=L/\(∀m,20*L<=m->prs l m .atom i= .ok base j0)/\ ∀m,20*L<=m-> ∀r,x2o (x9n l (prs l m)) (r+k) (base,j0)=x2o (x9n l (prs l m)) r (e,j)
def q8f {L:Nat}(h:Ev l .atom i e j (20*L)):AI l e i j L:=⟨e,j,0,a0w _,h,fun _ _ _=>rfl⟩
def q8e {L:Nat}(hL:1<=L)(h:AI l e i j L)(hf:f2 (tkT (tkA l j))=true):Ev l .post i e j (20*L+1):=fun m hm=>by
 obtain⟨base,j0,k,h1,h2,h3⟩:=h;obtain⟨m,rfl⟩: ∃r,m=r+1:=⟨m - 1,by omega⟩
 show y1k l m (prs l m) i=_;rw[y1k,h2 m (by omega),Rs.bind_ok]
 have h3:=h3 m (by omega) (m - k)
 rw[show m - k+k=m by omega]at h3
 rw[h3];obtain⟨r,hr⟩: ∃r,m - k=r+1:=⟨m - k - 1,by omega⟩
 have hf:=y3c hf;rw[hr,x2o,x9n,x8a (w:=bs [91]) (x2a hf),x8a (w:=bs [119,104,101,110]) (y3c hf)]
def AI_ev {L:Nat}(hL:1<=L)(h:AI l e i j L)(hs:v1j (tkT (tkA l i))=true)(nt:Nt)(hf:foB nt (tkT (tkA l j))=true)(hn:nt≠ .atom)(h2:f2 (tkT (tkA l j))=true):Ev l nt i e j (20*L+11):=by
 have hp:=q8e hL h h2
 by_cases he:nt= .post
 ·subst he;exact hp.mono (by omega)
 ·exact(q4r (q9e hp hs) (by omega) nt hf hn he).mono (by omega)
end
def k2m {t:T}: ∀ {nt:Nt},foB nt t=true->nt≠ .atom->f2 t=true
 | .atom,_,h=>(h rfl).elim
 | .post,h,_| .un,h,_=>h
 | .prod,h,_=>x2a h
 | .sum,h,_=>x2a (x2a h)
 | .cmp,h,_=>x2a (x2a (x2a h))
 | .and,h,_=>x2a (x2a (x2a (x2a h)))
 | .or,h,_=>x2a (x2a (x2a (x2a (x2a h))))
 | .fby,h,_=>x2a (x2a (x2a (x2a (x2a (x2a h)))))
 | .arrow,h,_=>x2a (x2a (x2a (x2a (x2a (x2a (x2a h))))))
def tL (x:Ex):Nat:=(fm (pcs x)).length
def w2j (l:List Tk)(x:Ex):Prop:= ∀i,Az l i (fm (pcs x))->f1 (tkT (tkA l (i+tL x)))=true->AI l x i (i+tL x) (tL x)
def Stx (x:Ex):Prop:= ∃t r,fm (pcs x)=t::r/\v1j t=true
section
variable {l : List Tk} {i j k N M n : Nat} {e x y z : Ex} {p : PR}
def Stx.pos (h:Stx x):1<=tL x:=by
 obtain⟨t,r,h,_⟩:=h;unfold tL;rw[h];simp
def Stx.at (h:Stx x)(ha:Az l i (fm (pcs x))):v1j (tkT (tkA l i))=true:=by
 obtain⟨t,r,h,hs⟩:=h;rw[h]at ha;rw[ha.1];exact hs
def x8z (hg:w2j l x)(hs:Stx x)(nt:Nt)(hn:nt≠ .atom)(ha:Az l i (fm (pcs x)))(hf:foB nt (tkT (tkA l (i+tL x)))=true):Ev l nt i x (i+tL x) (20*tL x+11):=by
 have h2:=k2m hf hn;exact AI_ev hs.pos (hg i ha (x2a h2)) (hs.at ha) nt hf hn h2
def x0u {t:T}(h:tkT (tkA l i)=t)(w:BA){b:Bool}(hb:y8h t (tb w)=b):isT l i w=b:=by rw[z1h,h,hb]
def z3c {t:T}(h:tkT (tkA l i)=t)(h3:decide (t.k=3)=false)(h2:decide (t.k=2)=false)(h4:decide (t.k=4)=false):x8e l n p i=x7q l n p i:=by
 subst h;unfold x8e;rw[show decide ((tkA l i).k=3)=false from h3,show decide ((tkA l i).k=2)=false from h2,show decide ((tkA l i).k=4)=false from h4]
def v4l (h:tkT (tkA l i)=⟨5,[40],0⟩):x8e l n p i=x8i l p (i+1):=by
 rw[z3c h rfl rfl rfl];unfold x7q;rw[x0u h x7k (b:=false) rfl,x0u h x4k (b:=false) rfl,x0u h (bs [91]) (b:=false) rfl,x0u h (bs [40]) (b:=true) rfl]
def q0x (h:tkT (tkA l i)=⟨5,[91],0⟩):x8e l n p i=(y3t l n p (bs [93]) (i+1)).bind fun es j=> .ok (ex 14 es) j:=by
 rw[z3c h rfl rfl rfl];unfold x7q;rw[x0u h x7k (b:=false) rfl,x0u h x4k (b:=false) rfl,x0u h (bs [91]) (b:=true) rfl]
def v0y (h:tkT (tkA l i)=⟨1,y7s,0⟩):x8e l n p i=x9v l n p (i+1):=by
 rw[z3c h rfl rfl rfl];unfold x7q;rw[x0u h x7k (b:=false) rfl,x0u h x4k (b:=false) rfl,x0u h (bs [91]) (b:=false) rfl,x0u h (bs [40]) (b:=false) rfl,x0u h (bs [109,101,114,103,101]) (b:=true) rfl]
def q0y (h:tkT (tkA l i)=⟨1,kIf,0⟩):x8e l n p i=x7a l p (i+1):=by
 rw[z3c h rfl rfl rfl];unfold x7q;rw[x0u h x7k (b:=false) rfl,x0u h x4k (b:=false) rfl,x0u h (bs [91]) (b:=false) rfl,x0u h (bs [40]) (b:=false) rfl,x0u h (bs [109,101,114,103,101]) (b:=false) rfl,x0u h (bs [105,102]) (b:=true) rfl]
def x6b {b w:List Nat}(hb:x4c b=true)(hw:x5h w=true):y8h ⟨1,b,0⟩ w=false:=by
 unfold y8h;have:b≠w:=fun h=>by
  have:=(x3i hb).2;rw[h,hw]at this;cases this
 simp only[decide_eq_false this,Bool.false_and]
def x8k {b:List Nat}{c:Nat}(hb:x4c b=true)(hc:x2c c=false):y8h ⟨1,b,0⟩ [c]=false:=by
 unfold y8h;have:b≠[c]:=fun h=>by
  have:=(x3h (x3i hb).1).2.1;rw[h]at this;simp only[List.getD_cons_zero]at this;rw[hc]at this;cases this
 simp only[decide_eq_false this,Bool.false_and]
def y9q {b:List Nat}(h:tkT (tkA l i)=⟨1,b,0⟩)(hb:x4c b=true):x8e l n p i=(match isT l (i+1) (bs [40])with
  |true=>y3z l n p (tkA l i).s (i+2)
  |false=> .ok (.mk 3 0 (tkA l i).s 0 [] []) (i+1)):=by
 rw[z3c h rfl rfl rfl];unfold x7q;have hn:x4x l i= .ok (tkA l i).s (i+1):=by
  unfold x4x;have h1:(tkA l i).k=1:=congrArg T.k h;have h2:tb (tkA l i).s=b:=congrArg T.b h;rw[h1,h2,(x3i hb).2];rfl
 rw[x0u h x7k (x6b hb rfl),x0u h x4k (x6b hb rfl),x0u h (bs [91]) (x8k hb rfl),x0u h (bs [40]) (x8k hb rfl),x0u h (bs [109,101,114,103,101]) (x6b hb rfl),x0u h (bs [105,102]) (x6b hb rfl),hn];rfl
def y4r {w:BA}{t:T}(h:tkT (tkA l i)=t)(hw:y8h t (tb w)=true)(ws:List BA):x2i l (w::ws) i=x2i l ws (i+1):=by
 rw[x2i,x0u h w hw]
def y6n:x2i l [] i= .ok () i:=rfl
def x6l (h: ∀m,N<=m->x8e l m (prs l m) i= .ok e j):Ev l .atom i e j (N+1):=fun m hm=>by
 obtain⟨m,rfl⟩: ∃r,m=r+1:=⟨m - 1,by omega⟩
 exact h m (by omega)
def rnd (h0:tkT (tkA l i)=⟨5,[40],0⟩)(h:Ev l .arrow (i+1) e j N)(h1:tkT (tkA l j)=⟨5,[41],0⟩):Ev l .atom i e (j+1) (N+1):=x6l fun m hm=>by
 rw[v4l h0,x8i,h m hm,Rs.bind_ok,x0u h1 (bs [119,105,116,104]) (b:=false) rfl];simp only;rw[y4r h1 rfl,y6n,Rs.bind_ok]
def z3b (h:Ev l .atom i e j N)(h1:1<=N)(hf:f2 (tkT (tkA l j))=true):Ev l .post i e j (N+1):=fun m hm=>by
 obtain⟨m,rfl⟩: ∃r,m=r+1:=⟨m - 1,by omega⟩
 show y1k l m (prs l m) i=_;rw[y1k,h m (by omega),Rs.bind_ok]
 obtain⟨r,rfl⟩: ∃r,m=r+1:=⟨m - 1,by omega⟩
 have hf:=y3c hf;rw[x2o,x9n,x8a (w:=bs [91]) (x2a hf),x8a (w:=bs [119,104,101,110]) (y3c hf)]
def y2r (h:Ev l .post i e j N)(hs:v1j (tkT (tkA l i))=true)(hf:f10 (tkT (tkA l j))=true):Ev l .arrow i e j (N+10):=q4r (q9e h hs) (by omega) .arrow hf (by simp) (by simp)
def q9h (h0:tkT (tkA l i)=⟨5,[45],0⟩)(h:Ev l .un (i+1) x j N):Ev l .un i (.mk 5 0 (bs []) 1 [] [x]) j (N+1):=fun m hm=>by
 obtain⟨m,rfl⟩: ∃r,m=r+1:=⟨m - 1,by omega⟩
 show unS l (prs l m) i=_;rw[unS,x0u h0 (bs [45]) (b:=true) rfl];simp only;rw[h m (by omega),Rs.bind_ok]
def q9g (h0:tkT (tkA l i)=⟨1,v4e,0⟩)(h:Ev l .un (i+1) x j N):Ev l .un i (.mk 5 0 (bs []) 2 [] [x]) j (N+1):=fun m hm=>by
 obtain⟨m,rfl⟩: ∃r,m=r+1:=⟨m - 1,by omega⟩
 show unS l (prs l m) i=_;rw[unS,x0u h0 (bs [45]) (b:=false) rfl,x0u h0 (bs [110,111,116]) (b:=true) rfl];simp only;rw[h m (by omega),Rs.bind_ok]
def q9f (h0:tkT (tkA l i)=⟨1,w9d,0⟩)(h:Ev l .un (i+1) x j N):Ev l .un i (ex 10 [x]) j (N+1):=fun m hm=>by
 obtain⟨m,rfl⟩: ∃r,m=r+1:=⟨m - 1,by omega⟩
 show unS l (prs l m) i=_;rw[unS,x0u h0 (bs [45]) (b:=false) rfl,x0u h0 (bs [110,111,116]) (b:=false) rfl,x0u h0 (bs [112,114,101]) (b:=true) rfl];simp only;rw[h m (by omega),Rs.bind_ok]
def at_if (h0:tkT (tkA l i)=⟨1,kIf,0⟩)(hx:Ev l .arrow (i+1) x j N)(h1:tkT (tkA l j)=⟨1,u5g,0⟩)(hy:Ev l .arrow (j+1) y k N)(h2:tkT (tkA l k)=⟨1,u5i,0⟩)(hz:Ev l .arrow (k+1) z M N):Ev l .atom i (ex 7 [x,y,z]) M (N+1):=x6l fun m hm=>by
 rw[q0y h0,x7a,hx m hm,Rs.bind_ok,y4r h1 rfl,y6n,Rs.bind_ok,hy m hm,Rs.bind_ok,y4r h2 rfl,y6n,Rs.bind_ok,hz m hm,Rs.bind_ok]
def w3v {q:Nat}(h0:tkT (tkA l i)=⟨5,[40],0⟩)(hx:Ev l .arrow (i+1) x j N)(h1:tkT (tkA l j)=⟨1,u5f,0⟩)(h2:tkT (tkA l (j+1))=⟨5,[91],0⟩)(hy:Ev l .arrow (j+2) y k N)(h3:tkT (tkA l k)=⟨5,[93],0⟩)(h4:tkT (tkA l (k+1))=⟨5,[61],0⟩)(hz:Ev l .arrow (k+2) z M N)(h5:tkT (tkA l M)=⟨5,[41],0⟩):Ev l .atom i (ex 16 [x,y,z]) (M+1) (N+1):=x6l fun m hm=>by
 rw[v4l h0,x8i,hx m hm,Rs.bind_ok,x0u h1 (bs [119,105,116,104]) (b:=true) rfl];simp only;rw[y4r h2 rfl,y6n,Rs.bind_ok,hy m hm,Rs.bind_ok,y4r h3 rfl,y4r h4 rfl,y6n,Rs.bind_ok,hz m hm,Rs.bind_ok,y4r h5 rfl,y6n,Rs.bind_ok]
def u8w (c:UInt8)(hc:c=41\/c=93)(m:Nat): ∀(u:List Ex) (es:List Ex) (i r:Nat),(∀x∈u,w2j l x/\Stx x/\20*tL x+11<=m)->Az l i (fm (y5w (x2d u))++[⟨5,[c.toNat],0⟩])->u.length+1<=r->
  x2o (y0v l (prs l m) (bs [c])) r (es,i)= .ok (es++u) (i+(fm (y5w (x2d u))).length+1)
 | [],es,i,r,_,ha,hr=>by
   obtain⟨r,rfl⟩: ∃q,r=q+1:=⟨r - 1,by omega⟩
   have ha:=ha.1;have h44:y8h ⟨5,[c.toNat],0⟩ (tb (bs [44]))=false:=by rcases hc with rfl|rfl<;>rfl
   have hcc:y8h ⟨5,[c.toNat],0⟩ (tb (bs [c]))=true:=by rcases hc with rfl|rfl<;>rfl
   rw[x2o,y0v,x0u ha (bs [44]) h44];simp only;rw[y4r ha hcc,y6n,Rs.bind_ok,a0z];rfl
 |x::u,es,i,r,h,ha,hr=>by
  obtain⟨r,rfl⟩: ∃q,r=q+1:=⟨r - 1,by omega⟩
  obtain⟨g1,g2,g9900003⟩:=h x a0t;have e:fm (y5w (x2d (x::u)))=⟨5,[44],0⟩::(fm (pcs x)++fm (y5w (x2d u))):=by
   simp only[x2d,y5w,a0f,a0h,mk,x2h,x2u,x2n]
  rw[e,a0f,x1i,List.append_assoc,x2t]at ha;obtain⟨a1,a2,a3⟩:=ha;have hf:f10 (tkT (tkA l (i+1+tL x)))=true:=by
   match u,a3 with
   | [],a3=>
     have:=a3.1;show f10 (tkT (tkA l (i+1+(fm (pcs x)).length)))=true;rw[this];rcases hc with rfl|rfl<;>rfl
   |y::u,a3=>
    have:=a3.1;show f10 (tkT (tkA l (i+1+(fm (pcs x)).length)))=true;rw[this];rfl
  have hx:=x8z g1 g2 .arrow (by simp) a2 hf m g9900003
  have ih:=u8w c hc m u (es++[x]) (i+1+tL x) r (fun y hy=>h y (a0v _ hy)) a3 (by simp only[a0a]at hr;omega)
  rw[x2o,y0v,x0u a1 (bs [44]) (b:=true) rfl];simp only;rw[hx];simp only;rw[ih,e];simp only[List.append_assoc,List.singleton_append,a0a,a0k,tL];congr 1;omega
def v8g (c:UInt8)(hc:c=41\/c=93)(m:Nat)(x:Ex)(u:List Ex)(i:Nat)(h: ∀y∈x::u,w2j l y/\Stx y/\20*tL y+11<=m)(ha:Az l i (fm (x2e (x2d (x::u)))++[⟨5,[c.toNat],0⟩]))(hr:u.length+1<=n):
  y3t l n (prs l m) (bs [c]) i= .ok (x::u) (i+(fm (x2e (x2d (x::u)))).length+1):=by
 obtain⟨g1,g2,g9900003⟩:=h x a0t;have e:fm (x2e (x2d (x::u)))=fm (pcs x)++fm (y5w (x2d u)):=by simp only[x2d,x2e,x2n]
 rw[e,List.append_assoc,x2t]at ha;obtain⟨a2,a3⟩:=ha;have hf:f10 (tkT (tkA l (i+tL x)))=true:=by
  match u,a3 with
  | [],a3=>
    have:=a3.1;show f10 (tkT (tkA l (i+(fm (pcs x)).length)))=true;rw[this];rcases hc with rfl|rfl<;>rfl
  |y::u,a3=>
   have:=a3.1;show f10 (tkT (tkA l (i+(fm (pcs x)).length)))=true;rw[this];rfl
 have hx:=x8z g1 g2 .arrow (by simp) a2 hf m g9900003
 have ih:=u8w c hc m u [x] (i+tL x) n (fun y hy=>h y (a0v _ hy)) a3 hr
 rw[y3t,hx,Rs.bind_ok,ih,e];simp only[List.singleton_append,a0k,tL];congr 1;omega
def u7n: ∀u:List Ex,(∀x∈u,Stx x)->u.length<=(fm (y5w (x2d u))).length/\ ∀x∈u,tL x+1<=(fm (y5w (x2d u))).length
 | [],_=>⟨a0q _,by simp⟩
 |x::u,h=>by
  obtain⟨h1,h2⟩:=u7n u fun y hy=>h y (a0v _ hy)
  have e:fm (y5w (x2d (x::u)))=⟨5,[44],0⟩::(fm (pcs x)++fm (y5w (x2d u))):=by
   simp only[x2d,y5w,a0f,a0h,mk,x2h,x2u,x2n]
  rw[e];simp only[a0a,a0k];refine⟨by omega,fun y hy=> ?_⟩
  rcases a1n.1 hy with rfl|hy
  ·unfold tL;omega
  ·have:=h2 y hy;omega
def u8v (x:Ex)(u:List Ex)(h: ∀y∈x::u,Stx y):u.length+1<=(fm (x2e (x2d (x::u)))).length/\ ∀y∈x::u,tL y<=(fm (x2e (x2d (x::u)))).length:=by
 obtain⟨h1,h2⟩:=u7n u fun y hy=>h y (a0v _ hy)
 have hx:=(h x a0t).pos;have e:fm (x2e (x2d (x::u)))=fm (pcs x)++fm (y5w (x2d u)):=by simp only[x2d,x2e,x2n]
 rw[e];simp only[a0k];unfold tL at hx;refine⟨by omega,fun y hy=> ?_⟩
 rcases a1n.1 hy with rfl|hy
 ·unfold tL;omega
 ·have:=h2 y hy;omega
def z7c {b:List Nat}(h:tkT (tkA l i)=⟨1,b,0⟩)(hb:x4c b=true):x4x l i= .ok (tkA l i).s (i+1):=by
 unfold x4x;have h1:(tkA l i).k=1:=congrArg T.k h;have h2:tb (tkA l i).s=b:=congrArg T.b h;rw[h1,h2,(x3i hb).2];rfl
def w2a {a:BA}(ha:y0f a=true)(h:tkT (tkA l i)=⟨if x3s (tb a)then 2 else 1,tb a,0⟩):y2m l i=true/\(tkA l i).s=a/\isT l i (bs [110,111,116])=false:=by
 have hs:(tkA l i).s=a:=x3o (congrArg T.b h);have hk:(tkA l i).k=if x3s (tb a)then 2 else 1:=congrArg T.k h;unfold y0f at ha;refine⟨?_,hs,?_⟩
 ·unfold y2m;cases hh:x3s (tb a)with
  |true=>
   rw[hh,if_pos rfl]at hk;rw[hk];rfl
  |false=>
   rw[hh,a1d]at ha;rw[hh,if_neg (by decide)]at hk
   unfold isT;rw[hs,hk];rcases Bool.or_eq_true _ _▸ha with ha|ha<;>(rw[a0e ha];rfl)
 ·unfold isT;rw[hs,hk];cases hh:x3s (tb a)with
  |true=>simp
  |false=>
   rw[hh,a1d]at ha;rcases Bool.or_eq_true _ _▸ha with ha|ha<;>(rw[a0e ha];rfl)
def q0j {a:BA}(ha:y0f a=true)(h:tkT (tkA l i)=⟨if x3s (tb a)then 2 else 1,tb a,0⟩):z3d l i= .ok a (i+1):=by
 obtain⟨h1,h2,_⟩:=w2a ha h;unfold z3d;rw[h1,h2]
def v4n {s a:BA}(hs:x4c (tb s)=true)(ha:y0f a=true)(h:Az l i (fm (onP s a)))(h41:True):x7e l i= .ok (s,a) (i+(fm (onP s a)).length):=by
 unfold onP at h ⊢;split at h
 ·rename_i ht;rw[if_pos ht];have h0:tkT (tkA l i)=⟨1,tb s,0⟩:=h.1;have e:(tkA l i).s=s:=x3o (congrArg T.b h0);have hk:(tkA l i).k=1:=congrArg T.k h0;have hA:y2m l i=false:=by
   unfold y2m;rw[hk,x0u h0 x7k (x6b hs rfl),x0u h0 x4k (x6b hs rfl)];rfl
  unfold x7e;rw[x0u h0 (bs [110,111,116]) (x6b hs rfl),hA];simp only;rw[z7c h0 hs,Rs.bind_ok,e,show x7k=a from x3o (by rw[ht];rfl)]
  rfl
 ·rename_i ht;rw[if_neg ht];split at h
  ·rename_i hf;rw[if_pos hf];have h0:tkT (tkA l i)=⟨1,v4e,0⟩:=h.1;have h1:tkT (tkA l (i+1))=⟨1,tb s,0⟩:=h.2.1;have e:(tkA l (i+1)).s=s:=x3o (congrArg T.b h1);unfold x7e;rw[x0u h0 (bs [110,111,116]) (b:=true) rfl];simp only;rw[z7c h1 hs,Rs.bind_ok,e,show x4k=a from x3o (by rw[hf];rfl)]
   rfl
  ·rename_i hf;rw[if_neg hf];have h0:tkT (tkA l i)=⟨if x3s (tb a)then 2 else 1,tb a,0⟩:=h.1;have h1:tkT (tkA l (i+1))=⟨5,[40],0⟩:=h.2.1;have h2:tkT (tkA l (i+2))=⟨1,tb s,0⟩:=h.2.2.1;have h3:tkT (tkA l (i+3))=⟨5,[41],0⟩:=h.2.2.2.1;have e:(tkA l (i+2)).s=s:=x3o (congrArg T.b h2);obtain⟨q1,q2,q3⟩:=w2a ha h0;unfold x7e;rw[q3,q1];simp only;rw[q0j ha h0,Rs.bind_ok,y4r h1 rfl,y6n,Rs.bind_ok,z7c h2 hs,Rs.bind_ok,y4r h3 rfl,y6n,Rs.bind_ok,e];rfl
def v8b {ar:List BA}{es:List Ex}(r:Nat):x2o (x4q l p) (r+1) (ar,es,i,false)= .ok (ar,es) i:=rfl
def u8r (m:Nat): ∀(a:List BA) (u:List Ex) (ar:List BA) (es:List Ex) (i r:Nat),a.length=u.length->1<=a.length->a.all y0f=true->(∀x∈u,w2j l x/\Stx x/\20*tL x+11<=m)->Az l i (fm (x1n a (x2d u))++[⟨5,[41],0⟩])->a.length+1<=r->
  x2o (x4q l (prs l m)) r (ar,es,i+1,true)= .ok (ar++a,es++u) (i+(fm (x1n a (x2d u))).length)
 | [],_,_,_,_,_,_,h,_,_,_,_=>by simp at h
 |_::_,[],_,_,_,_,h,_,_,_,_,_=>by simp at h
 |a::at_,x::u,ar,es,i,r,hl,_,ha,h,hA,hr=>by
  obtain⟨r,rfl⟩: ∃q,r=q+1:=⟨r - 1,by omega⟩
  simp only[a1r,a0g]at ha;obtain⟨g1,g2,g9900003⟩:=h x a0t;have e:fm (x1n (a::at_) (x2d (x::u)))=⟨5,[40],0⟩::⟨if x3s (tb a)then 2 else 1,tb a,0⟩::⟨5,[45,62],0⟩::(fm (pcs x)++⟨5,[41],0⟩::fm (x1n at_ (x2d u))):=by
   simp only[x2d,x1n,a0f,a0h,mk,m2,w2c,x2h,x2u,x2n,List.append_assoc]
  rw[e]at hA;simp only[a0f,List.append_assoc]at hA;rw[x1i,x1i,x1i,x2t]at hA;obtain⟨a0,a1,a2,a3,a4,a5⟩:=hA;have hx:=x8z g1 g2 .arrow (by simp) a3 (by show f10 (tkT (tkA l (i+1+1+1+(fm (pcs x)).length)))=true;rw[a4];rfl) m g9900003
  have hx:prs l m .arrow (i+1+1+1)= .ok x (i+1+1+1+(fm (pcs x)).length):=hx;rw[x2o,x4q,q0j ha.1 a1,Rs.bind_ok,y4r a2 rfl,y6n,Rs.bind_ok,hx,Rs.bind_ok,y4r a4 rfl,y6n,Rs.bind_ok,e];simp only
  match at_,u,hl,ha.2,a5,hr with
  | [],[],_,_,a5,hr=>
    have a5:=a5.1;rw[x0u a5 (bs [40]) (b:=false) rfl];simp only[a0a,a0d]at hr;obtain⟨r,rfl⟩: ∃q,r=q+1:=⟨r - 1,by omega⟩
    show x2o (x4q l (prs l m)) (r+1) (ar++[a],es++[x],i+1+1+1+(fm (pcs x)).length+1,false)=_;rw[v8b];simp only[x1n,fm,a0a,a0k,a0d];congr 1;omega
  |b::bt,y::v,hl,hb,a5,hr=>
   have ih:=u8r m (b::bt) (y::v) (ar++[a]) (es++[x]) (i+1+1+1+(fm (pcs x)).length+1) r (by simpa using hl) (by simp) hb (fun z hz=>h z (a0v _ hz)) a5 (by simp only[a0a]at hr ⊢;omega)
   have a6:tkT (tkA l (i+1+1+1+(fm (pcs x)).length+1))=⟨5,[40],0⟩:=by
    have e2:fm (x1n (b::bt) (x2d (y::v)))=⟨5,[40],0⟩::⟨if x3s (tb b)then 2 else 1,tb b,0⟩::⟨5,[45,62],0⟩::(fm (pcs y)++⟨5,[41],0⟩::fm (x1n bt (x2d v))):=by
     simp only[x2d,x1n,a0f,a0h,mk,m2,w2c,x2h,x2u,x2n,List.append_assoc]
    rw[e2]at a5;exact a5.1
   rw[x0u a6 (bs [40]) (b:=true) rfl];simp only;rw[ih];simp only[List.append_assoc,List.singleton_append,a0a,a0k];congr 1;omega
def u0t: ∀(a:List BA) (u:List Ex),a.length=u.length->a.length<=(fm (x1n a (x2d u))).length/\ ∀x∈u,tL x+4<=(fm (x1n a (x2d u))).length
 | [],[],_=>⟨a0w _,by simp⟩
 | [],_::_,h=>by simp at h
 |_::_,[],h=>by simp at h
 |a::at_,x::u,h=>by
  obtain⟨h1,h2⟩:=u0t at_ u (by simpa using h)
  have e:fm (x1n (a::at_) (x2d (x::u)))=⟨5,[40],0⟩::⟨if x3s (tb a)then 2 else 1,tb a,0⟩::⟨5,[45,62],0⟩::(fm (pcs x)++⟨5,[41],0⟩::fm (x1n at_ (x2d u))):=by
   simp only[x2d,x1n,a0f,a0h,mk,m2,w2c,x2h,x2u,x2n,List.append_assoc]
  rw[e];simp only[a0a,a0k];refine⟨by omega,fun y hy=> ?_⟩
  rcases a1n.1 hy with rfl|hy
  ·unfold tL;omega
  ·have:=h2 y hy;omega
end
section
variable {l : List Tk} {i j k N : Nat} {e x y : Ex}
def x2g (h: ∀i,Az l i (fm (pcs e))->f1 (tkT (tkA l (i+tL e)))=true-> ∃N,N<=20*tL e/\Ev l .atom i e (i+tL e) N):w2j l e:=fun i ha hf=>by
 obtain⟨N,hN,h⟩:=h i ha hf;exact q8f (h.mono hN)
def k9z {s:BA}(h:tb s= []):s=bs []:=x3o (by rw[h];rfl)
def q7e (o:Nat)(h3:3<=o)(h16:o<=16)(hj:tkT (tkA l j)=⟨if 7<=o/\o<=10 then 1 else 5,tb (y1t o),0⟩)(hk:tkT (tkA l k)=⟨5,[41],0⟩)
  (hx: ∀nt,nt≠ .atom->foB nt (tkT (tkA l j))=true->Ev l nt i x j N) (hy: ∀nt,nt≠ .atom->foB nt (tkT (tkA l k))=true->Ev l nt (j+1) y k N) (hN:2<=N):Ev l .arrow i (x5e o x y) k (N+10):=by
 have q: ∀nt,foB nt ⟨5,[41],0⟩=true->foB nt (tkT (tkA l k))=true:=fun nt h=>by rw[hk];exact h
 match o,h3,h16,hj with
 |3,_,_,hj|4,_,_,hj=>exact x7i .sum (y9d (a:=3) (n:=2) (fun _=>rfl) (hx .prod (by simp) (by rw[hj];rfl)) hN (by rw[z0x,hj];rfl) (hy .prod (by simp) (q _ rfl)) (by rw[hk];rfl)) (by omega) (q .arrow rfl) (by simp) (by simp)
 |5,_,_,hj|6,_,_,hj|7,_,_,hj=>exact x7i .prod (y9d (a:=5) (n:=3) (fun _=>rfl) (hx .un (by simp) (by rw[hj];rfl)) hN (by rw[z0x,hj];rfl) (hy .un (by simp) (q _ rfl)) (by rw[hk];rfl)) (by omega) (q .arrow rfl) (by simp) (by simp)
 |8,_,_,hj=>exact x7i .and (y9d (a:=8) (n:=1) (fun _=>rfl) (hx .cmp (by simp) (by rw[hj];rfl)) hN (by rw[z0x,hj];rfl) (hy .cmp (by simp) (q _ rfl)) (by rw[hk];rfl)) (by omega) (q .arrow rfl) (by simp) (by simp)
 |9,_,_,hj|10,_,_,hj=>exact x7i .or (y9d (a:=9) (n:=2) (fun _=>rfl) (hx .and (by simp) (by rw[hj];rfl)) hN (by rw[z0x,hj];rfl) (hy .and (by simp) (q _ rfl)) (by rw[hk];rfl)) (by omega) (q .arrow rfl) (by simp) (by simp)
 |11,_,_,hj|12,_,_,hj|13,_,_,hj|14,_,_,hj|15,_,_,hj|16,_,_,hj=>exact x7i .cmp (q7d (hx .sum (by simp) (by rw[hj];rfl)) (by rw[z0x,hj];rfl) (hy .sum (by simp) (q _ rfl))) (by omega) (q .arrow rfl) (by simp) (by simp)
 |o+17,_,h,_=>omega
def x8y {t t':T}(nt:Nt)(h:t=t')(h2:foB nt t'=true):foB nt t=true:=by rw[h];exact h2
def good1 (k n:Int)(s:BA)(o:Int)(a:List BA)(u:List Ex)(hp:x9o (.mk k n s o a u)=true)(hu: ∀x∈u,w2j l x/\Stx x):w2j l (.mk k n s o a u)/\Stx (.mk k n s o a u):=by
 unfold x9o at hp;simp only[a0g]at hp;obtain⟨hk,h1,h2,h3,h4,h5,h6,h7⟩:=hp;have h5:=a0e h5;have h6:=a0e h6;have harm:=z8q h4;have e0:pcs (.mk k n s o a u)=pcK k n s o a (x2d u):=by rw[pcs]
 have hn0:k≠1->k≠2->k≠13->n=0:=fun a b c=>by simpa[u3o,a,b,c]using h1
 have ho0:k≠5->k≠6->o=0:=fun a b=>by simpa[u4r,a,b]using h3
 have hs0:k≠3->k≠11->k≠12->k≠13->k≠4->k≠17->s=bs []:=fun a b c d e f=>k9z (by simpa[z1e,a,b,c,d,e,f]using h2)
 have ha0:k≠11->k≠12->a= []:=fun q r=>by
  unfold y1a at h4;simp only[a0g]at h4;have:=h4.2;simp only[decide_eq_false q,decide_eq_false r,cond_false]at this;exact List.length_eq_zero_iff.1 (a0e this)
 rcases w5b k hk with rfl|rfl|rfl|rfl|rfl|rfl|rfl|rfl|rfl|rfl|rfl|rfl|rfl|rfl|rfl|rfl|rfl
 · -- 1
   have hu0:u= []:=List.length_eq_zero_iff.1 (by have h6:(u.length:Int)<=0:=h6;omega)
   have:=hs0 (by decide) (by decide) (by decide) (by decide) (by decide) (by decide)
   have:=ho0 (by decide) (by decide)
   have:=ha0 (by decide) (by decide)
   subst_vars
   refine⟨x2g fun i ha hf=>⟨1,Nat.le_of_ble_eq_true rfl,x6l (N:=0) fun m _=> ?_⟩,⟨⟨3,y0c n.toNat,n⟩,[],rfl,by unfold v1j nT y8h;simp⟩⟩
   have h0:tkT (tkA l i)=⟨3,y0c n.toNat,n⟩:=ha.1;have hk:(tkA l i).k=3:=congrArg T.k h0;have hn:(tkA l i).n=n:=congrArg T.n h0;unfold x8e;rw[hk,hn];rfl
 · -- 2
   have hu0:u= []:=List.length_eq_zero_iff.1 (by have h6:(u.length:Int)<=0:=h6;omega)
   have:=hs0 (by decide) (by decide) (by decide) (by decide) (by decide) (by decide)
   have:=ho0 (by decide) (by decide)
   have:=ha0 (by decide) (by decide)
   have h1:n=0\/n=1:=by simpa[u3o]using h1
   subst_vars
   rcases h1 with rfl|rfl
   ·refine⟨x2g fun i ha hf=>⟨1,Nat.le_of_ble_eq_true rfl,x6l (N:=0) fun m _=> ?_⟩,⟨_,_,rfl,rfl⟩⟩
    have h0:tkT (tkA l i)=⟨1,u1b,0⟩:=ha.1;rw[z3c h0 rfl rfl rfl];unfold x7q;rw[x0u h0 x7k (b:=false) rfl,x0u h0 x4k (b:=true) rfl];rfl
   ·refine⟨x2g fun i ha hf=>⟨1,Nat.le_of_ble_eq_true rfl,x6l (N:=0) fun m _=> ?_⟩,⟨_,_,rfl,rfl⟩⟩
    have h0:tkT (tkA l i)=⟨1,v8o,0⟩:=ha.1;rw[z3c h0 rfl rfl rfl];unfold x7q;rw[x0u h0 x7k (b:=true) rfl];rfl
 · -- 3
   have hu0:u= []:=List.length_eq_zero_iff.1 (by have h6:(u.length:Int)<=0:=h6;omega)
   have:=hn0 (by decide) (by decide) (by decide)
   have:=ho0 (by decide) (by decide)
   have:=ha0 (by decide) (by decide)
   subst_vars
   have h2:x4c (tb s)=true:=h2;refine⟨x2g fun i ha hf=>⟨1,Nat.le_of_ble_eq_true rfl,x6l (N:=0) fun m _=> ?_⟩,⟨⟨1,tb s,0⟩,[],rfl,?_⟩⟩
   ·have h0:tkT (tkA l i)=⟨1,tb s,0⟩:=ha.1;have hs:(tkA l i).s=s:=x3o (congrArg T.b h0);have hf:f1 (tkT (tkA l (i+1)))=true:=hf;rw[y9q h0 h2,x8a (w:=bs [40]) (x2a hf),hs];rfl
   ·unfold v1j nT;rw[x8k h2 rfl,x6b h2 rfl,x6b h2 rfl,x8k h2 rfl];rfl
 · -- 4
   have hu0:u= []:=List.length_eq_zero_iff.1 (by have h6:(u.length:Int)<=0:=h6;omega)
   have:=hn0 (by decide) (by decide) (by decide)
   have:=ho0 (by decide) (by decide)
   have:=ha0 (by decide) (by decide)
   subst_vars
   refine⟨x2g fun i ha hf=>⟨1,Nat.le_of_ble_eq_true rfl,x6l (N:=0) fun m _=> ?_⟩,⟨⟨2,tb s,0⟩,[],rfl,?_⟩⟩
   ·have h0:tkT (tkA l i)=⟨2,tb s,0⟩:=ha.1;have hs:(tkA l i).s=s:=x3o (congrArg T.b h0);have hk:(tkA l i).k=2:=congrArg T.k h0;unfold x8e;rw[hk,hs];rfl
   ·unfold v1j nT y8h;simp
 · -- 5
   have hl:u.length=1:=by simp[hiB,loB]at h5 h6;omega
   have:=hn0 (by decide) (by decide) (by decide)
   have:=hs0 (by decide) (by decide) (by decide) (by decide) (by decide) (by decide)
   have:=ha0 (by decide) (by decide)
   match u,hl,hu with
   | [x],_,hu=>
     obtain⟨g,st⟩:=hu x (by simp)
     have hp:=st.pos
     subst_vars
     have h3:o=1\/o=2:=by simp[u4r]at h3;omega
     rcases h3 with rfl|rfl
     ·have e:fm (pcs (.mk 5 0 (bs []) 1 [] [x]))=⟨5,[40],0⟩::⟨5,[45],0⟩::(fm (pcs x)++[⟨5,[41],0⟩]):=by
       rw[e0];show fm ([mk 40,mk 45]++pcs x++[mk 41])=_;simp only[a0f,a0h,mk,x2h,x2n,x6q]
      have hL:tL (.mk 5 0 (bs []) 1 [] [x])=tL x+3:=by unfold tL;rw[e];simp
      refine⟨x2g fun i ha hf=>⟨20*tL x+11+1+9+1,by omega,?_⟩,⟨_,_,e,rfl⟩⟩
      rw[e,x1i,x1i,x2t]at ha;obtain⟨a0,a1,a2,a3⟩:=ha;have a3:tkT (tkA l (i+1+1+tL x))=⟨5,[41],0⟩:=a3.1;have hx:=x8z g st .un (by simp) a2 (x8y _ a3 rfl)
      have:=rnd a0 (x7i .un (q9h a1 hx) (by omega) (x8y .arrow a3 rfl) (by simp) (by simp)) a3
      rw[hL,show i+(tL x+3)=i+1+1+tL x+1 by omega]
      exact this
     ·have e:fm (pcs (.mk 5 0 (bs []) 2 [] [x]))=⟨5,[40],0⟩::⟨1,v4e,0⟩::(fm (pcs x)++[⟨5,[41],0⟩]):=by
       rw[e0];show fm ([mk 40,wd v4e,none]++pcs x++[mk 41])=_;simp only[a0f,a0h,mk,wd,x2h,x2u,x2n,x6q]
      have hL:tL (.mk 5 0 (bs []) 2 [] [x])=tL x+3:=by unfold tL;rw[e];simp
      refine⟨x2g fun i ha hf=>⟨20*tL x+11+1+9+1,by omega,?_⟩,⟨_,_,e,rfl⟩⟩
      rw[e,x1i,x1i,x2t]at ha;obtain⟨a0,a1,a2,a3⟩:=ha;have a3:tkT (tkA l (i+1+1+tL x))=⟨5,[41],0⟩:=a3.1;have hx:=x8z g st .un (by simp) a2 (x8y _ a3 rfl)
      have:=rnd a0 (x7i .un (q9g a1 hx) (by omega) (x8y .arrow a3 rfl) (by simp) (by simp)) a3
      rw[hL,show i+(tL x+3)=i+1+1+tL x+1 by omega]
      exact this
 · -- 6
   have hl:u.length=2:=by simp[hiB,loB]at h5 h6;omega
   have:=hn0 (by decide) (by decide) (by decide)
   have:=hs0 (by decide) (by decide) (by decide) (by decide) (by decide) (by decide)
   have:=ha0 (by decide) (by decide)
   match u,hl,hu with
   | [x,y],_,hu=>
     obtain⟨g,st⟩:=hu x (by simp)
     obtain⟨g2,st2⟩:=hu y (by simp)
     have hp:=st.pos;have hp2:=st2.pos
     subst_vars
     have h3:3<=o/\o<=16:=by simpa[u4r]using h3
     obtain⟨o,rfl⟩: ∃q:Nat,o=(q:Int):=⟨o.toNat,by omega⟩
     have e:fm (pcs (.mk 6 0 (bs []) (o:Int) [] [x,y]))=⟨5,[40],0⟩::(fm (pcs x)++⟨if 7<=o/\o<=10 then 1 else 5,tb (y1t o),0⟩::(fm (pcs y)++[⟨5,[41],0⟩])):=by
      rw[e0];show fm ([mk 40]++pcs x++[none,opK (o:Int).toNat,none]++pcs y++[mk 41])=_;simp only[a0f,a0h,List.append_assoc,mk,opK,x2h,x2u,x2n,x6q,a0m]
     have hL:tL (.mk 6 0 (bs []) (o:Int) [] [x,y])=tL x+tL y+3:=by unfold tL;rw[e];simp;omega
     refine⟨x2g fun i ha hf=>⟨20*tL x+20*tL y+11+10+1,by omega,?_⟩,⟨_,_,e,rfl⟩⟩
     rw[e,x1i,x2t,x1i,x2t]at ha;obtain⟨a0,a1,a2,a3,a4⟩:=ha;have a2:tkT (tkA l (i+1+tL x))=_:=a2;have a4:tkT (tkA l (i+1+tL x+1+tL y))=⟨5,[41],0⟩:=a4.1;have:=rnd a0 (q7e (N:=20*tL x+20*tL y+11) o (by omega) (by omega) a2 a4 (fun nt hn hf=>(x8z g st nt hn a1 hf).mono (by omega)) (fun nt hn hf=>(x8z g2 st2 nt hn a3 hf).mono (by omega)) (by omega)) a4
     rw[hL,show i+(tL x+tL y+3)=i+1+tL x+1+tL y+1 by omega]
     exact this
 · -- 7
   have hl:u.length=3:=by simp[hiB,loB]at h5 h6;omega
   have:=hn0 (by decide) (by decide) (by decide)
   have:=hs0 (by decide) (by decide) (by decide) (by decide) (by decide) (by decide)
   have:=ha0 (by decide) (by decide)
   have:=ho0 (by decide) (by decide)
   match u,hl,hu with
   | [x,y,z],_,hu=>
     obtain⟨g,st⟩:=hu x (by simp)
     obtain⟨g2,st2⟩:=hu y (by simp)
     obtain⟨g9900003,st3⟩:=hu z (by simp)
     have hp:=st.pos;have hp2:=st2.pos;have hp3:=st3.pos
     subst_vars
     have e:fm (pcs (.mk 7 0 (bs []) 0 [] [x,y,z]))=⟨5,[40],0⟩::⟨1,kIf,0⟩::(fm (pcs x)++⟨1,u5g,0⟩::(fm (pcs y)++⟨1,u5i,0⟩::(fm (pcs z)++[⟨5,[41],0⟩]))):=by
      rw[e0];show fm ([mk 40,wd kIf,none]++pcs x++[none,wd u5g,none]++pcs y++[none,wd u5i,none]++pcs z++[mk 41])=_;simp only[a0f,a0h,List.append_assoc,mk,wd,x2h,x2u,x2n,x6q]
     have hL:tL (.mk 7 0 (bs []) 0 [] [x,y,z])=tL x+tL y+tL z+5:=by unfold tL;rw[e];simp;omega
     refine⟨x2g fun i ha hf=>⟨20*tL x+20*tL y+20*tL z+11+1+1+10+1,by omega,?_⟩,⟨_,_,e,rfl⟩⟩
     rw[e,x1i,x1i,x2t,x1i,x2t,x1i,x2t]at ha;obtain⟨a0,a1,a2,a3,a4,a5,a6,a7⟩:=ha;have a3:tkT (tkA l (i+1+1+tL x))=_:=a3;have a5:tkT (tkA l (i+1+1+tL x+1+tL y))=_:=a5;have a7:tkT (tkA l (i+1+1+tL x+1+tL y+1+tL z))=⟨5,[41],0⟩:=a7.1;have hx:=(x8z g st .arrow (by simp) a2 (x8y _ a3 rfl)).mono (M:=20*tL x+20*tL y+20*tL z+11) (by omega)
     have hy:=(x8z g2 st2 .arrow (by simp) a4 (x8y _ a5 rfl)).mono (M:=20*tL x+20*tL y+20*tL z+11) (by omega)
     have hz:=(x8z g9900003 st3 .arrow (by simp) a6 (x8y _ a7 rfl)).mono (M:=20*tL x+20*tL y+20*tL z+11) (by omega)
     have:=rnd a0 (y2r (z3b (at_if a1 hx a3 hy a5 hz) (by omega) (x8y .un a7 rfl)) (by rw[a1];rfl) (x8y .arrow a7 rfl)) a7
     rw[hL,show i+(tL x+tL y+tL z+5)=i+1+1+tL x+1+tL y+1+tL z+1 by omega]
     exact this
 · -- 8
   have hl:u.length=2:=by simp[hiB,loB]at h5 h6;omega
   have:=hn0 (by decide) (by decide) (by decide)
   have:=hs0 (by decide) (by decide) (by decide) (by decide) (by decide) (by decide)
   have:=ha0 (by decide) (by decide)
   have:=ho0 (by decide) (by decide)
   match u,hl,hu with
   | [x,y],_,hu=>
     obtain⟨g,st⟩:=hu x (by simp)
     obtain⟨g2,st2⟩:=hu y (by simp)
     have hp:=st.pos;have hp2:=st2.pos
     subst_vars
     have e:fm (pcs (.mk 8 0 (bs []) 0 [] [x,y]))=⟨5,[40],0⟩::(fm (pcs x)++⟨1,w2p,0⟩::(fm (pcs y)++[⟨5,[41],0⟩])):=by
      rw[e0];show fm ([mk 40]++pcs x++[none,wd w2p,none]++pcs y++[mk 41])=_;simp only[a0f,a0h,List.append_assoc,mk,wd,x2h,x2u,x2n,x6q]
     have hL:tL (.mk 8 0 (bs []) 0 [] [x,y])=tL x+tL y+3:=by unfold tL;rw[e];simp;omega
     refine⟨x2g fun i ha hf=>⟨20*tL x+20*tL y+11+1+9+1,by omega,?_⟩,⟨_,_,e,rfl⟩⟩
     rw[e,x1i,x2t,x1i,x2t]at ha;obtain⟨a0,a1,a2,a3,a4⟩:=ha;have a2:tkT (tkA l (i+1+tL x))=_:=a2;have a4:tkT (tkA l (i+1+tL x+1+tL y))=⟨5,[41],0⟩:=a4.1;have hx:=(x8z g st .or (by simp) a1 (x8y _ a2 rfl)).mono (M:=20*tL x+20*tL y+11) (by omega)
     have hy:=(x8z g2 st2 .fby (by simp) a3 (x8y _ a4 rfl)).mono (M:=20*tL x+20*tL y+11) (by omega)
     have:=rnd a0 (x7i .fby (q7c hx a2 hy) (by omega) (x8y .arrow a4 rfl) (by simp) (by simp)) a4
     rw[hL,show i+(tL x+tL y+3)=i+1+tL x+1+tL y+1 by omega]
     exact this
 · -- 9
   have hl:u.length=2:=by simp[hiB,loB]at h5 h6;omega
   have:=hn0 (by decide) (by decide) (by decide)
   have:=hs0 (by decide) (by decide) (by decide) (by decide) (by decide) (by decide)
   have:=ha0 (by decide) (by decide)
   have:=ho0 (by decide) (by decide)
   match u,hl,hu with
   | [x,y],_,hu=>
     obtain⟨g,st⟩:=hu x (by simp)
     obtain⟨g2,st2⟩:=hu y (by simp)
     have hp:=st.pos;have hp2:=st2.pos
     subst_vars
     have e:fm (pcs (.mk 9 0 (bs []) 0 [] [x,y]))=⟨5,[40],0⟩::(fm (pcs x)++⟨5,[45,62],0⟩::(fm (pcs y)++[⟨5,[41],0⟩])):=by
      rw[e0];show fm ([mk 40]++pcs x++[none,m2 45 62,none]++pcs y++[mk 41])=_;simp only[a0f,a0h,List.append_assoc,mk,m2,x2h,x2u,x2n,x6q]
     have hL:tL (.mk 9 0 (bs []) 0 [] [x,y])=tL x+tL y+3:=by unfold tL;rw[e];simp;omega
     refine⟨x2g fun i ha hf=>⟨20*tL x+20*tL y+11+1+1,by omega,?_⟩,⟨_,_,e,rfl⟩⟩
     rw[e,x1i,x2t,x1i,x2t]at ha;obtain⟨a0,a1,a2,a3,a4⟩:=ha;have a2:tkT (tkA l (i+1+tL x))=_:=a2;have a4:tkT (tkA l (i+1+tL x+1+tL y))=⟨5,[41],0⟩:=a4.1;have hx:=(x8z g st .fby (by simp) a1 (x8y _ a2 rfl)).mono (M:=20*tL x+20*tL y+11) (by omega)
     have hy:=(x8z g2 st2 .arrow (by simp) a3 (x8y _ a4 rfl)).mono (M:=20*tL x+20*tL y+11) (by omega)
     have:=rnd a0 (w1t hx a2 hy) a4;rw[hL,show i+(tL x+tL y+3)=i+1+tL x+1+tL y+1 by omega]
     exact this
 · -- 10
   have hl:u.length=1:=by simp[hiB,loB]at h5 h6;omega
   have:=hn0 (by decide) (by decide) (by decide)
   have:=hs0 (by decide) (by decide) (by decide) (by decide) (by decide) (by decide)
   have:=ha0 (by decide) (by decide)
   have:=ho0 (by decide) (by decide)
   match u,hl,hu with
   | [x],_,hu=>
     obtain⟨g,st⟩:=hu x (by simp)
     have hp:=st.pos
     subst_vars
     have e:fm (pcs (.mk 10 0 (bs []) 0 [] [x]))=⟨5,[40],0⟩::⟨1,w9d,0⟩::(fm (pcs x)++[⟨5,[41],0⟩]):=by
      rw[e0];show fm ([mk 40,wd w9d,none]++pcs x++[mk 41])=_;simp only[a0f,a0h,mk,wd,x2h,x2u,x2n,x6q]
     have hL:tL (.mk 10 0 (bs []) 0 [] [x])=tL x+3:=by unfold tL;rw[e];simp
     refine⟨x2g fun i ha hf=>⟨20*tL x+11+1+9+1,by omega,?_⟩,⟨_,_,e,rfl⟩⟩
     rw[e,x1i,x1i,x2t]at ha;obtain⟨a0,a1,a2,a3⟩:=ha;have a3:tkT (tkA l (i+1+1+tL x))=⟨5,[41],0⟩:=a3.1;have hx:=x8z g st .un (by simp) a2 (x8y _ a3 rfl)
     have:=rnd a0 (x7i .un (q9f a1 hx) (by omega) (x8y .arrow a3 rfl) (by simp) (by simp)) a3
     rw[hL,show i+(tL x+3)=i+1+1+tL x+1 by omega]
     exact this
 · -- 11
   have hl:u.length=1:=by simp[hiB,loB]at h5 h6;omega
   have hla:a.length=1:=by
    unfold y1a at h4;simp only[a0g]at h4;exact a0e h4.2
   have:=hn0 (by decide) (by decide) (by decide)
   have:=ho0 (by decide) (by decide)
   have h2:x4c (tb s)=true:=h2
   match u,hl,hu,a,hla,harm with
   | [x],_,hu,[ar],_,harm=>
     simp only[a1r,List.all_nil,a2a]at harm;obtain⟨g,st⟩:=hu x (by simp)
     have hp:=st.pos
     subst_vars
     have e:fm (pcs (.mk 11 0 s 0 [ar] [x]))=⟨5,[40],0⟩::(fm (pcs x)++⟨1,y5c,0⟩::(fm (onP s ar)++[⟨5,[41],0⟩])):=by
      rw[e0];show fm ([mk 40]++pcs x++[none,wd y5c,none]++onP s ar++[mk 41])=_;simp only[a0f,a0h,List.append_assoc,mk,wd,x2h,x2u,x2n,x6q]
     have hL:tL (.mk 11 0 s 0 [ar] [x])=tL x+(fm (onP s ar)).length+3:=by unfold tL;rw[e];simp;omega
     refine⟨x2g fun i ha hf=>⟨20*tL x+3+10+1,by omega,?_⟩,⟨_,_,e,rfl⟩⟩
     rw[e,x1i,x2t,x1i,x2t]at ha;obtain⟨a0,a1,a2,a3,a4⟩:=ha;have a2:tkT (tkA l (i+1+tL x))=⟨1,y5c,0⟩:=a2;have a4:tkT (tkA l (i+1+tL x+1+(fm (onP s ar)).length))=⟨5,[41],0⟩:=a4.1;have hw:x7e l (i+1+tL x+1)= .ok (s,ar) (i+1+tL x+1+(fm (onP s ar)).length):=v4n h2 harm a3 trivial;obtain⟨base,j0,k,q1,q2,q3⟩:=g (i+1) a1 (by rw[a2];rfl)
     have hpost:Ev l .post (i+1) (.mk 11 0 s 0 [ar] [x]) (i+1+tL x+1+(fm (onP s ar)).length) (20*tL x+3):=fun m hm=>by
      obtain⟨m,rfl⟩: ∃r,m=r+1:=⟨m - 1,by omega⟩
      show y1k l m (prs l m) (i+1)=_;rw[y1k,q2 m (by omega),Rs.bind_ok]
      have q3:=q3 m (by omega) (m - k)
      rw[show m - k+k=m by omega]at q3
      rw[q3];obtain⟨r,hr⟩: ∃r,m - k=r+2:=⟨m - k - 2,by omega⟩
      rw[hr,x2o,x9n,x0u a2 (bs [91]) (b:=false) rfl,x0u a2 (bs [119,104,101,110]) (b:=true) rfl];simp only;rw[hw];simp only;rw[x2o,x9n,x0u a4 (bs [91]) (b:=false) rfl,x0u a4 (bs [119,104,101,110]) (b:=false) rfl]
     have:=rnd a0 (y2r hpost (st.at a1) (by rw[a4];rfl)) a4
     rw[hL,show i+(tL x+(fm (onP s ar)).length+3)=i+1+tL x+1+(fm (onP s ar)).length+1 by omega]
     exact this
 · -- 12
   have hla:1<=a.length:=by
    unfold y1a at h4;simp only[a0g]at h4;have:=h4.2;simp only[show decide ((12:Int)=11)=false from rfl,cond_false,decide_true,cond_true,a0g]at this;exact a0e this.1
   have hl:a.length=u.length:=by simp[hiB,loB]at h5 h6;omega
   have:=hn0 (by decide) (by decide) (by decide)
   have:=ho0 (by decide) (by decide)
   have h2:x4c (tb s)=true:=h2
   subst_vars
   have e:fm (pcs (.mk 12 0 s 0 a u))=⟨5,[40],0⟩::⟨1,y7s,0⟩::⟨1,tb s,0⟩::(fm (x1n a (x2d u))++[⟨5,[41],0⟩]):=by
    rw[e0];show fm ([mk 40,wd y7s,none,wd (tb s)]++x1n a (x2d u)++[mk 41])=_;simp only[a0f,a0h,mk,wd,x2h,x2u,x2n,x6q]
   have hL:tL (.mk 12 0 s 0 a u)=(fm (x1n a (x2d u))).length+4:=by unfold tL;rw[e];simp
   obtain⟨m1,m2⟩:=u0t a u hl;refine⟨x2g fun i ha hf=>⟨20*(fm (x1n a (x2d u))).length+11+1+1+10+1,by omega,?_⟩,⟨_,_,e,rfl⟩⟩
   rw[e,x1i,x1i,x1i]at ha;obtain⟨a0,a1,a2,a3⟩:=ha;have a4:=(x2t.1 a3).2;have a4:tkT (tkA l (i+1+1+1+(fm (x1n a (x2d u))).length))=⟨5,[41],0⟩:=a4.1;have a5:tkT (tkA l (i+1+1+1))=⟨5,[40],0⟩:=by
    match a,u,hla,hl,a3 with
    |b::bt,y::v,_,_,a3=>
     have e2:fm (x1n (b::bt) (x2d (y::v)))=⟨5,[40],0⟩::⟨if x3s (tb b)then 2 else 1,tb b,0⟩::⟨5,[45,62],0⟩::(fm (pcs y)++⟨5,[41],0⟩::fm (x1n bt (x2d v))):=by
      simp only[x2d,x1n,a0f,a0h,mk,Go.Vm.m2,w2c,x2h,x2u,x2n,List.append_assoc]
     rw[e2]at a3;exact a3.1
   have hs:(tkA l (i+1+1)).s=s:=x3o (congrArg T.b a2);have hat:Ev l .atom (i+1) (.mk 12 0 s 0 a u) (i+1+1+1+(fm (x1n a (x2d u))).length) (20*(fm (x1n a (x2d u))).length+11+1):=x6l fun m hm=>by
    rw[v0y a1,x9v,z7c a2 h2,Rs.bind_ok,y4r a5 rfl,y6n,Rs.bind_ok];have:=u8r (l:=l) m a u [] [] (i+1+1+1) m hl hla harm (fun x hx=>⟨(hu x hx).1,(hu x hx).2,by have:=m2 x hx;omega⟩) a3 (by omega)
    rw[this,Rs.bind_ok,hs];rfl
   have:=rnd a0 (y2r (z3b hat (by omega) (by rw[a4];rfl)) (by rw[a1];rfl) (by rw[a4];rfl)) a4
   rw[hL,show i+((fm (x1n a (x2d u))).length+4)=i+1+1+1+(fm (x1n a (x2d u))).length+1 by omega]
   exact this
 · -- 13
   have:=ho0 (by decide) (by decide)
   have:=ha0 (by decide) (by decide)
   have h2:x4c (tb s)=true:=h2;have h1:n=0\/n=1:=by simpa[u3o]using h1
   subst_vars
   have calls: ∀(v:List Ex) (i m n:Nat),(∀x∈v,w2j l x/\Stx x)->Az l i (fm (x2e (x2d v))++[⟨5,[41],0⟩])->20*(fm (x2e (x2d v))).length+11<=m->20*(fm (x2e (x2d v))).length+11<=n->y3z l n (prs l m) s i=y1n l (prs l m) s v (i+(fm (x2e (x2d v))).length+1):=by
    intro v i m n hv ha hm hn;unfold y3z
    match v,hv,ha,hm,hn with
    | [],_,ha,_,_=>
      rw[x0u ha.1 (bs [41]) (b:=true) rfl];rfl
    |x::v,hv,ha,hm,hn=>
     obtain⟨l1,l2⟩:=u8v x v fun y hy=>(hv y hy).2
     have hst:isT l i (bs [41])=false:=by
      have e2:fm (x2e (x2d (x::v)))=fm (pcs x)++fm (y5w (x2d v)):=by simp only[x2d,x2e,x2n]
      rw[e2,List.append_assoc,x2t]at ha;have:=(hv x (by simp)).2.at ha.1
      unfold v1j at this;exact x8a (w:=bs [41]) (y3c (y3c (y3c this)))
     rw[hst];simp only;rw[v8g 41 (.inl rfl) m x v i (fun y hy=>⟨(hv y hy).1,(hv y hy).2,by have:=l2 y hy;omega⟩) ha (by omega),Rs.bind_ok]
   rcases h1 with rfl|rfl
   ·have e:fm (pcs (.mk 13 0 s 0 [] u))=⟨1,tb s,0⟩::⟨5,[40],0⟩::(fm (x2e (x2d u))++[⟨5,[41],0⟩]):=by
     rw[e0];show fm ([wd (tb s),mk 40]++x2e (x2d u)++[mk 41])=_;simp only[a0f,a0h,mk,wd,x2h,x2n,x6q]
    have hL:tL (.mk 13 0 s 0 [] u)=(fm (x2e (x2d u))).length+3:=by unfold tL;rw[e];simp
    refine⟨x2g fun i ha hf=>⟨20*(fm (x2e (x2d u))).length+11+1,by omega,?_⟩,⟨_,_,e,?_⟩⟩
    ·rw[e,x1i,x1i]at ha;obtain⟨a0,a1,a2⟩:=ha;have hs:(tkA l i).s=s:=x3o (congrArg T.b a0);rw[hL]at hf ⊢;refine x6l fun m hm=> ?_
     rw[y9q a0 h2,x0u a1 (bs [40]) (b:=true) rfl,hs];simp only;rw[show i+2=i+1+1 by omega,calls u (i+1+1) m m hu a2 hm hm]
     unfold y1n;rw[show i+1+1+(fm (x2e (x2d u))).length+1=i+((fm (x2e (x2d u))).length+3) by omega,x8a (w:=bs [101,118,101,114,121]) (y3c hf)]
    ·unfold v1j nT;rw[x8k h2 rfl,x6b h2 rfl,x6b h2 rfl,x8k h2 rfl];rfl
   ·have hne:u≠[]:=by rintro rfl;simp[loB]at h5
    obtain⟨v,x,rfl⟩: ∃v x,u=v++[x]:=⟨_,_,(List.dropLast_concat_getLast hne).symm⟩
    have hx:=hu x (by simp)
    have hv: ∀y∈v,w2j l y/\Stx y:=fun y hy=>hu y (by simp[hy])
    have hpx:=hx.2.pos;have pl: ∀v:List Ex,x2d (v++[x])=x2d v++[pcs x]:=by
     intro v
     induction v with
     |nil=>rfl
     |cons y v ih=>simp only[a0f,x2d,ih]
    have e:fm (pcs (.mk 13 1 s 0 [] (v++[x])))=⟨5,[40],0⟩::⟨1,tb s,0⟩::⟨5,[40],0⟩::(fm (x2e (x2d v))++⟨5,[41],0⟩::⟨1,y5d,0⟩::(fm (pcs x)++[⟨5,[41],0⟩])):=by
     rw[e0,pl v];show fm ([mk 40,wd (tb s),mk 40]++x2e ((x2d v++[pcs x]).take ((x2d v++[pcs x]).length - 1))++[mk 41,none,wd y5d,none]++(x2d v++[pcs x]).getD ((x2d v++[pcs x]).length - 1) []++[mk 41])=_;have t1:(x2d v++[pcs x]).length - 1=(x2d v).length:=by simp
     rw[t1,List.take_left,a0i,List.getElem?_concat_length];simp only[a0f,a0h,List.append_assoc,mk,wd,x2h,x2u,x2n,x6q,Option.getD_some]
    have hL:tL (.mk 13 1 s 0 [] (v++[x]))=(fm (x2e (x2d v))).length+tL x+6:=by unfold tL;rw[e];simp;omega
    refine⟨x2g fun i ha hf=>⟨20*(fm (x2e (x2d v))).length+20*tL x+11+1+1+10+1,by omega,?_⟩,⟨_,_,e,rfl⟩⟩
    rw[e,x1i,x1i,x1i,x2t,x1i,x1i,x2t]at ha;obtain⟨a0,a1,a2,a3,a4,a5,a6,a7⟩:=ha;have a7:tkT (tkA l (i+1+1+1+(fm (x2e (x2d v))).length+1+1+tL x))=⟨5,[41],0⟩:=a7.1;have hs:(tkA l (i+1)).s=s:=x3o (congrArg T.b a1);have px:=(x8z hx.1 hx.2 .post (by simp) a6 (x8y _ a7 rfl))
    have hat:Ev l .atom (i+1) (.mk 13 1 s 0 [] (v++[x])) (i+1+1+1+(fm (x2e (x2d v))).length+1+1+tL x) (20*(fm (x2e (x2d v))).length+20*tL x+11+1):=x6l fun m hm=>by
     rw[y9q a1 h2,x0u a2 (bs [40]) (b:=true) rfl,hs];simp only;rw[show i+1+2=i+1+1+1 by omega,calls v (i+1+1+1) m m hv (x2t.2 ⟨a3,a4,trivial⟩) (by omega) (by omega)]
     unfold y1n;rw[x0u a5 (bs [101,118,101,114,121]) (b:=true) rfl];simp only;rw[px m (by omega),Rs.bind_ok]
    have:=rnd a0 (y2r (z3b hat (by omega) (by rw[a7];rfl)) (by
     rw[a1];unfold v1j nT;rw[x8k h2 rfl,x6b h2 rfl,x6b h2 rfl,x8k h2 rfl];rfl) (by rw[a7];rfl)) a7
    rw[hL,show i+((fm (x2e (x2d v))).length+tL x+6)=i+1+1+1+(fm (x2e (x2d v))).length+1+1+tL x+1 by omega]
    exact this
 · -- 14
   have:=hn0 (by decide) (by decide) (by decide)
   have:=hs0 (by decide) (by decide) (by decide) (by decide) (by decide) (by decide)
   have:=ha0 (by decide) (by decide)
   have:=ho0 (by decide) (by decide)
   subst_vars
   match u,hu,h5 with
   | [],_,h5=>simp[loB]at h5
   |x::v,hu,_=>
    have e:fm (pcs (.mk 14 0 (bs []) 0 [] (x::v)))=⟨5,[91],0⟩::(fm (x2e (x2d (x::v)))++[⟨5,[93],0⟩]):=by
     rw[e0];show fm ([mk 91]++x2e (x2d (x::v))++[mk 93])=_;simp only[a0f,a0h,mk,x2h,x2n,x6q]
    have hL:tL (.mk 14 0 (bs []) 0 [] (x::v))=(fm (x2e (x2d (x::v)))).length+2:=by unfold tL;rw[e];simp
    obtain⟨l1,l2⟩:=u8v x v fun y hy=>(hu y hy).2
    refine⟨x2g fun i ha hf=>⟨20*(fm (x2e (x2d (x::v)))).length+11+1,by omega,x6l fun m hm=> ?_⟩,⟨_,_,e,rfl⟩⟩
    rw[e,x1i]at ha;rw[q0x ha.1,v8g 93 (.inr rfl) m x v (i+1) (fun y hy=>⟨(hu y hy).1,(hu y hy).2,by have:=l2 y hy;omega⟩) ha.2 (by omega),Rs.bind_ok,hL]
    show Rs.ok _ _=_;congr 1;omega
 · -- 15
   have hl:u.length=2:=by simp[hiB,loB]at h5 h6;omega
   have:=hn0 (by decide) (by decide) (by decide)
   have:=hs0 (by decide) (by decide) (by decide) (by decide) (by decide) (by decide)
   have:=ha0 (by decide) (by decide)
   have:=ho0 (by decide) (by decide)
   match u,hl,hu with
   | [x,y],_,hu=>
     obtain⟨g,st⟩:=hu x (by simp)
     obtain⟨g2,st2⟩:=hu y (by simp)
     have hp:=st.pos;have hp2:=st2.pos
     subst_vars
     have e:fm (pcs (.mk 15 0 (bs []) 0 [] [x,y]))=fm (pcs x)++⟨5,[91],0⟩::(fm (pcs y)++[⟨5,[93],0⟩]):=by
      rw[e0];show fm (pcs x++[mk 91]++pcs y++[mk 93])=_;simp only[a0f,a0h,List.append_assoc,mk,x2h,x2n,x6q]
     have hL:tL (.mk 15 0 (bs []) 0 [] [x,y])=tL x+tL y+2:=by unfold tL;rw[e];simp;omega
     refine⟨fun i ha hf=> ?_,?_⟩
     ·rw[e,x2t,x1i,x2t]at ha;obtain⟨a1,a2,a3,a4⟩:=ha;have a2:tkT (tkA l (i+tL x))=⟨5,[91],0⟩:=a2;have a4:tkT (tkA l (i+tL x+1+tL y))=⟨5,[93],0⟩:=a4.1;obtain⟨base,j0,k,q1,q2,q3⟩:=g i a1 (by rw[a2];rfl)
      have hy:=x8z g2 st2 .arrow (by simp) a3 (x8y _ a4 rfl)
      have hy:Ev l .arrow (i+tL x+1) y (i+tL x+1+tL y) (20*tL y+11):=hy;rw[hL];refine⟨base,j0,k+1,by omega,fun m hm=>q2 m (by omega),fun m hm r=> ?_⟩
      have q3:=q3 m (by omega) (r+1)
      rw[show r+(k+1)=r+1+k by omega,q3,x2o,x9n,x0u a2 (bs [91]) (b:=true) rfl]
      simp only;rw[hy m (by omega),Rs.bind_ok,y4r a4 rfl,y6n,Rs.bind_ok]
      simp only;rw[show i+tL x+1+tL y+1=i+(tL x+tL y+2) by omega]
      rfl
     ·obtain⟨t,r,h,hs⟩:=st;exact⟨t,_,by rw[e,h,a0f],hs⟩
 · -- 16
   have hl:u.length=3:=by simp[hiB,loB]at h5 h6;omega
   have:=hn0 (by decide) (by decide) (by decide)
   have:=hs0 (by decide) (by decide) (by decide) (by decide) (by decide) (by decide)
   have:=ha0 (by decide) (by decide)
   have:=ho0 (by decide) (by decide)
   match u,hl,hu with
   | [x,y,z],_,hu=>
     obtain⟨g,st⟩:=hu x (by simp)
     obtain⟨g2,st2⟩:=hu y (by simp)
     obtain⟨g9900003,st3⟩:=hu z (by simp)
     have hp:=st.pos;have hp2:=st2.pos;have hp3:=st3.pos
     subst_vars
     have e:fm (pcs (.mk 16 0 (bs []) 0 [] [x,y,z]))=⟨5,[40],0⟩::(fm (pcs x)++⟨1,u5f,0⟩::⟨5,[91],0⟩::(fm (pcs y)++⟨5,[93],0⟩::⟨5,[61],0⟩::(fm (pcs z)++[⟨5,[41],0⟩]))):=by
      rw[e0];show fm ([mk 40]++pcs x++[none,wd u5f,none,mk 91]++pcs y++[mk 93,none,mk 61,none]++pcs z++[mk 41])=_;simp only[a0f,a0h,List.append_assoc,mk,wd,x2h,x2u,x2n,x6q]
     have hL:tL (.mk 16 0 (bs []) 0 [] [x,y,z])=tL x+tL y+tL z+6:=by unfold tL;rw[e];simp;omega
     refine⟨x2g fun i ha hf=>⟨20*tL x+20*tL y+20*tL z+11+1,by omega,?_⟩,⟨_,_,e,rfl⟩⟩
     rw[e,x1i,x2t,x1i,x1i,x2t,x1i,x1i,x2t]at ha;obtain⟨a0,a1,a2,a3,a4,a5,a6,a7,a8⟩:=ha;have a2:tkT (tkA l (i+1+tL x))=_:=a2;have a3:tkT (tkA l (i+1+tL x+1))=_:=a3;have a4:Az l (i+1+tL x+2) (fm (pcs y)):=a4;have a5:tkT (tkA l (i+1+tL x+2+tL y))=_:=a5;have a6:tkT (tkA l (i+1+tL x+2+tL y+1))=_:=a6;have a7:Az l (i+1+tL x+2+tL y+2) (fm (pcs z)):=a7;have a8:tkT (tkA l (i+1+tL x+2+tL y+2+tL z))=⟨5,[41],0⟩:=a8.1;have hx:=(x8z g st .arrow (by simp) a1 (x8y _ a2 rfl)).mono (M:=20*tL x+20*tL y+20*tL z+11) (by omega)
     have hy:=(x8z g2 st2 .arrow (by simp) a4 (x8y _ a5 rfl)).mono (M:=20*tL x+20*tL y+20*tL z+11) (by omega)
     have hz:=(x8z g9900003 st3 .arrow (by simp) a7 (x8y _ a8 rfl)).mono (M:=20*tL x+20*tL y+20*tL z+11) (by omega)
     have:=w3v (q:=0) a0 hx a2 a3 hy a5 a6 hz a8;rw[hL,show i+(tL x+tL y+tL z+6)=i+1+tL x+2+tL y+2+tL z+1 by omega]
     exact this
 · -- 17
   have hu0:u= []:=List.length_eq_zero_iff.1 (by have h6:(u.length:Int)<=0:=h6;omega)
   have:=hn0 (by decide) (by decide) (by decide)
   have:=ho0 (by decide) (by decide)
   have:=ha0 (by decide) (by decide)
   subst_vars
   refine⟨x2g fun i ha hf=>⟨1,Nat.le_of_ble_eq_true rfl,x6l (N:=0) fun m _=> ?_⟩,⟨⟨4,tb s,0⟩,[],rfl,?_⟩⟩
   ·have h0:tkT (tkA l i)=⟨4,tb s,0⟩:=ha.1;have hs:(tkA l i).s=s:=x3o (congrArg T.b h0);have hk:(tkA l i).k=4:=congrArg T.k h0;unfold x8e;rw[hk,hs];rfl
   ·unfold v1j nT y8h;simp
mutual
def u9g: ∀e:Ex,x9c e=true->w2j l e/\Stx e
 | .mk k n s o a u,h=>by
   simp only[x9c,a0g]at h;exact good1 k n s o a u h.1 (u1j u h.2)
def u1j: ∀u:List Ex,y3d u=true-> ∀x∈u,w2j l x/\Stx x
 | [],_,x,h=>by cases h
 |e::u,h,x,hx=>by
  simp only[y3d,a0g]at h;rcases a1n.1 hx with he|hx
  ·rw[he];exact u9g e h.1
  ·exact u1j u h.2 x hx
end
end
def k6q {l:List Tk}: ∀ {ts:List T} {a b:List Tk},a.map tkT=ts->Az (l++(a++b)) l.length ts
 | [],[],b,_=>trivial
 | [],_::_,b,h=>by cases h
 |_::_,[],b,h=>by cases h
 |t::ts,x::a,b,h=>by
  rw[a1m,List.cons.injEq]at h;refine⟨?_,?_⟩
  ·have:tkA (l++(x::a++b)) l.length=x:=by
    unfold tkA;rw[a0i];simp
   rw[this];exact h.1
  ·have:=k6q (l:=l++[x]) (a:=a) (b:=b) h.2
   simpa using this
def rnT:Pc->List Nat->Prop
 | [],l=>l= []
 |none::r,l=> ∃c m,l=c::m/\(c=32\/c=10)/\rnT r m
 |some t::r,l=> ∃m,l=t.w++m/\rnT r m
def x9i: ∀p:Pc,rnT p (x0l p)
 | []=>rfl
 |none::r=>⟨32,_,rfl, .inl rfl,x9i r⟩
 |some t::r=>⟨_,rfl,x9i r⟩
def x6u: ∀ {p q:Pc} {x y:List Nat},rnT p x->rnT q y->rnT (p++q) (x++y)
 | [],q,x,y,h1,h2=>by cases h1;exact h2
 |none::r,q,x,y,⟨c,m,e,hc,h1⟩,h2=>⟨c,m++y,by rw[e];rfl,hc,x6u h1 h2⟩
 |some t::r,q,x,y,⟨m,e,h1⟩,h2=>⟨m++y,by rw[e,List.append_assoc],x6u h1 h2⟩
def v6p:rnT [none] [10]:=⟨10,[],rfl, .inr rfl,rfl⟩
def aj_lf (t:T):ajB t 10=ajB t 32:=by
 unfold ajB;split
 ·rfl
 ·split
  ·split
   ·rename_i c _;have h: ∀d,d=10\/d=32->y4e.contains [c,d]=false:=fun d hd=>by
     cases hx:y4e.contains [c,d]with
     |false=>rfl
     |true=>
      have:=List.contains_iff_mem.1 hx;unfold y4e at this;simp at this;omega
    rw[h 10 (.inl rfl),h 32 (.inr rfl)];have e1:decide ((10:Nat)=45)=false:=rfl;have e2:decide ((32:Nat)=45)=false:=rfl;rw[e1,e2]
   ·rfl
  ·rfl
def k8m {t:T}(h:t.OK):0 < t.w.length:=by
 have e: ∀d,ajB t d=true->0 < t.w.length:=fun d hd=>by
  have hb:tb (⟨(t.w.map UInt8.ofNat).toArray⟩:BA)=t.w.map (fun c=>(UInt8.ofNat c).toNat):=by simp[tb]
  unfold T.w;rcases h with⟨h1,h2,h3,h4⟩|⟨h1,h2,h3⟩|⟨h1,h2⟩|⟨h1,h2,h3,h4⟩|⟨h1,h2,h3⟩|⟨h1,c,h2,h3,h4⟩
  ·rw[if_neg (by omega)];exact(x3h h3).1
  ·rw[if_neg (by omega)];exact(x3h h2).1
  ·rw[if_neg (by omega)];exact h2.2.1
  ·rw[if_pos h1];simp
  ·rw[if_neg (by omega)]
   obtain⟨i,hi,he⟩:=y7h.1 h2;rw[he]
   match i,hi with
   |0,_|1,_|2,_|3,_|4,_=>decide
  ·rw[if_neg (by omega),h3];exact Nat.one_pos
 by_cases h4:t.k=4
 ·unfold T.w;rw[if_pos h4];simp
 ·by_cases h5:t.k=5
  ·rcases h with⟨h1,_⟩|⟨h1,_⟩|⟨h1,_⟩|⟨h1,_⟩|⟨h1,h2,h3⟩|⟨h1,c,h2,h3,h4'⟩<;>try omega
   ·obtain⟨i,hi,he⟩:=y7h.1 h2;unfold T.w;rw[if_neg h4,he]
    match i,hi with
    |0,_|1,_|2,_|3,_|4,_=>decide
   ·unfold T.w;rw[if_neg h4,h3];exact Nat.one_pos
  ·refine e 32 ?_;unfold ajB;rw[if_neg h4,if_neg h5];rfl
def k6v {t:T}{p:Pc}{l:List Nat}(ho: ∀x,some x∈p->x.OK)(h:rnT p l):ajB t (hd 0 p)=ajB t (l.getD 0 0):=by
 match p,h,ho with
 | [],h,_=>cases h;rfl
 |none::r,⟨c,m,e,hc,_⟩,_=>
  subst e;show ajB t 32=ajB t c;rcases hc with rfl|rfl
  ·rfl
  ·exact(aj_lf t).symm
 |some x::r,⟨m,e,_⟩,ho=>
  have hp:=k8m (ho x a0t);rw[z7k _ _ _ hp,e,y0x hp]
def v2h (s:BA)(a c:Nat)(hc:c=32\/c=10)(h:(tb s).drop a=c::(tb s).drop (a+1)):y2z s a=y2z s (a+1):=by
 have hg:a+x7n ((tb s).drop a)=a+1+x7n ((tb s).drop (a+1)):=by
  rw[h,v9m _ (by rcases hc with rfl|rfl<;>rfl)];omega
 rw[y2z.eq_def s a,y2z.eq_def s (a+1)];simp only[hg]
def u5c (s:BA): ∀(ps:Pc) (a:Nat),a<=(tb s).length->rnT ps ((tb s).drop a)->(∀t,some t∈ps->t.OK)->x3b 0 ps=true->
  ∃l:List Tk,l.map tkT=ps.filterMap id/\y2z s a=(l,(tb s).length,true)
 | [],a,ha,hd,_,_=>by
   have hd:(tb s).drop a= []:=hd;have h0:a=(tb s).length:=by
    have:=congrArg List.length hd;simp only[a1v,a0d]at this;omega
   refine⟨[],rfl,?_⟩;rw[y2z.eq_def,hd];have hg:x7n []=0:=x8n rfl rfl;rw[hg,dif_neg (by omega)]
   subst h0;rfl
 |none::ps,a,ha,⟨c,m,hd,hc,hm⟩,ho,hch=>by
  have hd1:(tb s).drop (a+1)=m:=u2h (x:=[c]) hd;have hlt:a < (tb s).length:=by
   have:=congrArg List.length hd;simp only[a1v,a0a]at this;omega
  obtain⟨l,h1,h2⟩:=u5c s ps (a+1) hlt (by rw[hd1];exact hm) (fun t h=>ho t (a0v _ h)) hch
  refine⟨l,by simpa using h1,?_⟩
  rw[v2h s a c hc (by rw[hd,hd1]),h2]
 |some t::ps,a,ha,⟨m,hd,hm⟩,ho,hc=>by
  rw[x3b,a0g]at hc;have hlen:=congrArg List.length hd;simp only[a1v,a0k]at hlen;have e1:tb (s.extract a (tb s).length)=t.w++m:=by rw[x7c,a0u];exact hd
  have haj:ajB t (m.getD 0 0)=true:=by
   rw[<-k6v (fun x h=>ho x (a0v _ h)) hm];exact hc.1
  obtain⟨hk,hg,hw⟩:=q9z e1 (ho t a0t) haj;rw[x7c,a0u]at hg;obtain⟨l,h1,h2⟩:=u5c s ps (a+t.w.length) (by omega) (by rw[u2h hd];exact hm) (fun t h=>ho t (a0v _ h)) hc.2
  have heq:=y2z.eq_def s a;simp only[hg,Nat.add_zero]at heq;rw[dif_pos (by omega),dif_pos ⟨hk.ok,by rw[hk.w];exact hw⟩,hk.w,h2]at heq
  refine⟨_::l,?_,heq⟩;simp only[a1m,List.filterMap_cons,id,h1];congr 1;obtain⟨k,b,n⟩:=t;simp only[tkT,hk.k,hk.b,hk.n]
def Bk {α:Type}(l:List Tk)(m:RM α)(ts:List T)(F:T->Bool)(v:α):Prop:= ∀i,Az l i ts->F (tkT (tkA l (i+ts.length)))=true->i+ts.length < l.length->m i= .ok v (i+ts.length)
def tt (_:T):Bool:=true
def nxt:List T->(T->Bool)->(T->Bool)->Prop
 | [],F,G=> ∀x,F x=true->G x=true
 |t::_,_,G=>G t=true
def x7d {ts:List T}{F:T->Bool}:nxt ts F tt:=by
 cases ts with
 |nil=>exact fun _ _=>rfl
 |cons=>exact rfl
def w9b {l:List Tk}{ts:List T}{F G:T->Bool}(h:nxt ts F G){i:Nat}(ha:Az l i ts)(hf:F (tkT (tkA l (i+ts.length)))=true):G (tkT (tkA l i))=true:=by
 match ts,h,ha,hf with
 | [],h,_,hf=>exact h _ hf
 |t::r,h,ha,_=>rw[ha.1];exact h
section
variable {α β : Type} {l : List Tk} {m : RM α} {k : α -> RM β} {t1 t2 : List T} {t : T} {F G : T -> Bool} {a : α} {b : β}
def Bk.bind (h1:Bk l m t1 G a)(h2:Bk l (k a) t2 F b)(hx:nxt t2 F G):Bk l (m.bind k) (t1++t2) F b:=fun i ha hf hl=>by
 rw[a0k,<-a2e]at hf hl ⊢;obtain⟨a1,a2⟩:=x2t.1 ha;unfold RM.bind;rw[h1 i a1 (w9b hx a2 hf) (by omega)]
 exact h2 _ a2 hf hl
def Bk.ret (v:α):Bk l (RM.ret v) [] F v:=fun i _ _ _=>rfl
def Bk.fuel {ts:List T}{v:α}(h:ts.length < l.length->Bk l m ts F v):Bk l m ts F v:=fun i ha hf hl=>h (by omega) i ha hf hl
def Bk.tok {n:Int}{f:Tk->RM β}(hk:t.k=n)(hw:n=1->x5h t.b=false)(h: ∀x:Tk,tkT x=t->Bk l (f x) t2 F b):Bk l ((z6e l n).bind f) (t::t2) F b:=fun i ha hf hl=>by
 obtain⟨a1,a2⟩:=x1i.1 ha;have e1:(tkA l i).k=t.k:=congrArg T.k a1;have e2:tb (tkA l i).s=t.b:=congrArg T.b a1;have hc:(decide ((tkA l i).k=n)&& !(decide (n=1)&&x5h (tb (tkA l i).s)))=true:=by
  rw[e1,e2,hk,a0s rfl,a2k]
  by_cases h1:n=1
  ·rw[hw h1,Bool.and_false];rfl
  ·rw[decide_eq_false h1];rfl
 rw[a0a,show i+(t2.length+1)=i+1+t2.length by omega]at hf hl ⊢
 unfold RM.bind z6e;rw[hc];exact h _ a1 _ a2 hf hl
def Bk.yes {x:BA}{f:Bool->RM β}(hx:y8h t (tb x)=true)(h:Bk l (f true) t2 F b):Bk l ((tkR l x).bind f) (t::t2) F b:=fun i ha hf hl=>by
 obtain⟨a1,a2⟩:=x1i.1 ha;rw[a0a,show i+(t2.length+1)=i+1+t2.length by omega]at hf hl ⊢
 unfold RM.bind tkR;rw[z1h,a1,hx];exact h _ a2 hf hl
def Bk.no {x:BA}{f:Bool->RM β}(hx:nxt t2 F fun t=>nT t (tb x))(h:Bk l (f false) t2 F b):Bk l ((tkR l x).bind f) t2 F b:=fun i ha hf hl=>by
 have h1:=w9b hx ha hf;unfold RM.bind tkR;rw[x8a h1];exact h _ ha hf hl
def okW:List T->List BA->Bool
 | [],[]=>true
 |t::ts,w::ws=>y8h t (tb w)&&okW ts ws
 |_,_=>false
def u8m: ∀(ts:List T) (ws:List BA) (i:Nat),okW ts ws=true->Az l i ts->x2i l ws i= .ok () (i+ts.length)
 | [],[],i,_,_=>rfl
 |t::ts,w::ws,i,h,ha=>by
  simp only[okW,a0g]at h;rw[x2i,z1h,ha.1,h.1];simp only;rw[u8m ts ws (i+1) h.2 ha.2,a0a,show i+1+ts.length=i+(ts.length+1) by omega]
def Bk.j1v {ws:List BA}(h:okW t1 ws=true):Bk l (x6p l ws) t1 F ():=fun i ha hf hl=>by
 unfold x6p;rw[u8m t1 ws i h ha]
end
def q2k (n:Int):List BA->List T
 | []=>[]
 |x::r=>⟨5,[44],0⟩::⟨n,tb x,0⟩::q2k n r
def nmOK (n:Int)(x:BA):Prop:=n=1->x5h (tb x)=false
def u7o (n:Int): ∀r:List BA,(q2k n r).length=2*r.length
 | []=>rfl
 |_::r=>by simp only[q2k,a0a,u7o n r];omega
section
variable {l : List Tk}
def u3g (n:Int): ∀(r:List BA) (k:Nat) (acc:List BA),r.length<=k->(∀x∈r,nmOK n x)->Bk l (y4s l n k acc) (q2k n r) (fun t=>nT t [44]) (acc++r)
 | [],0,acc,_,_=>by rw[a0z];exact Bk.ret acc
 | [],k+1,acc,_,_=>by
   rw[a0z];exact Bk.no (x:=bs [44]) (fun _ h=>h) (Bk.ret acc)
 |x::r,0,acc,h,_=>absurd h (by simp)
 |x::r,k+1,acc,h,ho=>Bk.yes (x:=bs [44]) rfl (Bk.tok (t:=⟨n,tb x,0⟩) rfl (ho x a0t) fun y hy=>by
  have e:y.s=x:=x3o (congrArg T.b hy);have:=u3g n r k (acc++[x]) (by simpa using h) fun z hz=>ho z (a0v _ hz)
  rw[List.append_assoc]at this;rw[e];exact this)
def z1b (n:Int):List BA->List T
 | []=>[]
 |x::r=>⟨n,tb x,0⟩::q2k n r
def v0k (n:Int){r:List BA}(h0:r≠[])(ho: ∀x∈r,nmOK n x):Bk l (z1d l n) (z1b n r) (fun t=>nT t [44]) r:=by
 obtain⟨x,r,rfl⟩:=List.exists_cons_of_ne_nil h0;refine Bk.fuel fun hl=> ?_
 simp only[z1b,a0a,u7o]at hl;exact Bk.tok (t:=⟨n,tb x,0⟩) rfl (ho x a0t) fun y hy=>by
  have e:y.s=x:=x3o (congrArg T.b hy);rw[e];exact u3g n r l.length [x] (by omega) fun z hz=>ho z (a0v _ hz)
def enT (e:En):List T:=⟨1,tb e.1,0⟩::([⟨5,[123],0⟩]++(z1b 2 e.2++([⟨5,[125],0⟩,⟨5,[59],0⟩]++[])))
def q7a {e:En}(h1:x5h (tb e.1)=false)(h2:e.2≠[]):Bk l (v2z l) (enT e) tt e:=by
 refine Bk.tok (t:=⟨1,tb e.1,0⟩) rfl (fun _=>h1) fun y hy=> ?_
 have he:y.s=e.1:=x3o (congrArg T.b hy);refine Bk.bind (G:=tt) (Bk.j1v rfl) ?_ (by obtain⟨x,r,h⟩:=List.exists_cons_of_ne_nil h2;rw[h];rfl)
 refine Bk.bind (v0k 2 h2 fun x _ h=>(by cases h)) ?_ rfl
 refine Bk.bind (G:=tt) (Bk.j1v rfl) ?_ (fun _ _=>rfl)
 rw[he];exact Bk.ret _
end
def kInt:List Nat:=[105,110,116]
def q4d:List Nat:=[98,111,111,108]
def v2j:List Nat:=[108,101,116]
def nmE (ens:List En)(e:Int):List Nat:=match ens[e.toNat]? with
 |some x=>tb x.1
 |none=>[]
def u6n (ens:List En)(k e:Int):T:=⟨1,if k=3 then nmE ens e else if k=2 then q4d else kInt,0⟩
def q3u (c:Int):List T:=if 0 < c then[⟨5,[91],0⟩,⟨3,y0c c.toNat,c⟩,⟨5,[93],0⟩]else[]
def q9t (ens:List En)(k e c:Int):List T:=[u6n ens k e]++q3u c
def q8l (o q:BA):List T:=if tb o= []then[]else⟨1,y5c,0⟩::(fm (onP o q)++[])
def dcT (ens:List En)(d:Dc):List T:=⟨1,tb d.n,0⟩::([⟨5,[58],0⟩]++(q9t ens d.k d.e d.c++q8l d.o d.q))
structure EnN (ens:List En):Prop where
 nd:(ens.map (·.1)).Nodup
 lo: ∀e∈ens,x4c (tb e.1)=true
def k1u {b w:List Nat}(h:x5h b=false)(hw:x5h w=true): ¬b=w:=fun e=>by rw[e,hw]at h;cases h
def u8o {b w:List Nat}{n:Int}(h:x5h b=false)(hw:x5h w=true):nT ⟨1,b,n⟩ w=true:=by
 unfold nT y8h;rw[decide_eq_false (k1u h hw)];rfl
def w5h {ens:List En}(h:EnN ens){e:Nat}{x:En}(hx:ens[e]? =some x):q8o ens x.1=some e:=by
 unfold q8o;obtain⟨h1,h2⟩:=a0c.1 hx;refine List.findIdx?_eq_some_iff_getElem.2 ⟨h1,by rw[h2];exact a0s rfl,fun j hj=> ?_⟩
 have hj':j < ens.length:=by omega
 have: ¬(ens[j]'hj').1=x.1:=fun e'=>by
  have h3:(ens.map (·.1))[j]'(by simpa using hj')=(ens.map (·.1))[e]'(by simpa using h1):=by simp only[List.getElem_map,h2,e']
  have:=(List.getElem_inj h.nd).1 h3;omega
 simp only[a0p];exact fun e'=>this (x3o e')
section
variable {l : List Tk} {ens : List En} {F : T -> Bool}
def q7b (hE:EnN ens){k e c:Int}(h:tyB ens k e c=true):Bk l (w1x l ens) [u6n ens k e] F (k,e):=by
 unfold tyB at h;simp only[a0g]at h;obtain⟨_,h⟩:=h
 by_cases h1:k=1
 ·subst h1;have he:e=0:=by simpa using h
  subst he;exact Bk.yes (x:=bs [105,110,116]) rfl (Bk.ret _)
 ·by_cases h2:k=2
  ·subst h2;have he:e=0:=by simpa using h
   subst he;exact Bk.no (x:=bs [105,110,116]) rfl (Bk.yes (x:=bs [98,111,111,108]) rfl (Bk.ret _))
  ·simp only[decide_eq_false h1,decide_eq_false h2,cond_false,a0g,a0p]at h;obtain⟨h3,h4,h5⟩:=h;subst h3;obtain⟨n,rfl⟩: ∃n:Nat,e=(n:Int):=⟨e.toNat,by omega⟩
   have hn:n < ens.length:=by omega
   have hx:ens[n]? =some ens[n]:=a0b hn;have hb:u6n ens 3 (n:Int)=⟨1,tb (ens[n]).1,0⟩:=by
    unfold u6n nmE;simp only[a0m,hx,if_true]
   have hw:=(x3i (hE.lo _ (a1j hn))).2;rw[hb];refine Bk.no (x:=bs [105,110,116]) (u8o hw rfl) (Bk.no (x:=bs [98,111,111,108]) (u8o hw rfl) (Bk.tok (t:=⟨1,tb (ens[n]).1,0⟩) rfl (fun _=>hw) fun y hy=> ?_))
   have e1:y.s=(ens[n]).1:=x3o (congrArg T.b hy);unfold u6q;rw[e1,w5h hE hx];exact Bk.ret _
def k6m (hE:EnN ens){k e c:Int}(h:tyB ens k e c=true)(hF: ∀x,F x=true->nT x [91]=true):Bk l (tyR l ens) (q9t ens k e c) F (k,e,c):=by
 have hc:0<=c/\c<=8:=by
  unfold tyB at h;simp only[a0g,Bool.not_eq_true',Bool.or_eq_false_iff,decide_eq_false_iff_not]at h;omega
 unfold q9t q3u;refine Bk.bind (G:=tt) (q7b hE h) ?_ x7d
 by_cases h0:0 < c
 ·rw[if_pos h0];refine Bk.yes (x:=bs [91]) rfl (Bk.tok (t:=⟨3,y0c c.toNat,c⟩) rfl (fun h=>by cases h) fun y hy=> ?_)
  have e1:y.n=c:=congrArg T.n hy;rw[e1,decide_eq_false (by omega),decide_eq_false (by omega)]
  exact Bk.bind (t1:=[⟨5,[93],0⟩]) (t2:=[]) (G:=tt) (Bk.j1v (ws:=[bs [93]]) rfl) (Bk.ret _) x7d
 ·rw[if_neg h0];have:c=0:=by omega
  subst this;exact Bk.no (x:=bs [91]) hF (Bk.ret _)
def q6w {o q:BA}(h1:x4c (tb o)=true)(h2:y0f q=true):Bk l (z6b l) (fm (onP o q)) F (o,q):=fun i ha hf hl=>by
 unfold z6b;rw[v4n h1 h2 ha trivial]
def w1s (hE:EnN ens){d:Dc}(h:x3z ens d=true)(hF: ∀x,F x=true->nT x [91]=true/\nT x y5c=true):Bk l (v3d l ens) (dcT ens d) F d:=by
 obtain⟨dn,k,e,c,o,q⟩:=d;unfold x3z at h;simp only[a0g,Bool.or_eq_true]at h;obtain⟨⟨h1,h2⟩,h3⟩:=h;refine Bk.tok (t:=⟨1,tb dn,0⟩) rfl (fun _=>(x3i h1).2) fun y hy=> ?_
 have e1:y.s=dn:=x3o (congrArg T.b hy);rw[e1];refine Bk.bind (G:=tt) (Bk.j1v rfl) ?_ x7d
 by_cases ho:tb o= []
 ·have hb:o=bs []:=x3o ho;have hq:q=bs []:=by
   rcases h3 with h3|⟨h3,_⟩
   ·unfold v3y at h3;simp only[a0g,a0p]at h3;exact x3o h3.2
   ·rw[show tb o= []from ho]at h3;cases h3
  subst hb hq;have eo:q8l (bs []) (bs [])= []:=rfl;rw[eo];refine Bk.bind (G:=fun t=>nT t [91]) (k6m hE h2 fun x hx=>hx) ?_ (fun x hx=>(hF x hx).1)
  exact Bk.no (x:=bs [119,104,101,110]) (fun x hx=>(hF x hx).2) (Bk.ret _)
 ·have h4:x4c (tb o)=true/\y0f q=true:=by
   rcases h3 with h3|h3
   ·unfold v3y at h3;simp only[a0g,a0p]at h3;exact absurd h3.1 ho
   ·exact h3
  have eo:q8l o q=⟨1,y5c,0⟩::(fm (onP o q)++[]):=by unfold q8l;rw[if_neg ho]
  rw[eo];refine Bk.bind (G:=fun t=>nT t [91]) (k6m hE h2 fun x hx=>hx) ?_ rfl
  exact Bk.yes (x:=bs [119,104,101,110]) rfl (Bk.bind (G:=tt) (q6w h4.1 h4.2) (Bk.ret _) x7d)
def y0b (ens:List En):List Dc->List T
 | []=>[]
 |d::r=>⟨5,[59],0⟩::(dcT ens d++y0b ens r)
def y2j (ens:List En):List Dc->List T
 | []=>[]
 |d::r=>dcT ens d++y0b ens r
def fD (t:T):Bool:=nT t [91]&&nT t y5c
def v9v: ∀x,fD x=true->nT x [91]=true/\nT x y5c=true:=fun x h=>by simpa[fD]using h
def u9r (ens:List En): ∀r:List Dc,r.length<=(y0b ens r).length
 | []=>a0q _
 |d::r=>by have:=u9r ens r;simp only[y0b,a0a,a0k];omega
def v9w {r:List Dc}{i:Nat}(ha:Az l i (y0b ens r))(hf:fD (tkT (tkA l (i+(y0b ens r).length)))=true):fD (tkT (tkA l i))=true:=by
 match r,ha,hf with
 | [],_,hf=>exact hf
 |d::r,ha,_=>rw[ha.1];rfl
def z2m (hE:EnN ens)(last:Bool): ∀(r:List Dc) (k:Nat) (acc:List Dc) (i:Nat),r.length<=k->(∀d∈r,x3z ens d=true)->Az l i (y0b ens r)->fD (tkT (tkA l (i+(y0b ens r).length)))=true->
  y1m l last (i+(y0b ens r).length)= .ok false (i+(y0b ens r).length)->i+(y0b ens r).length < l.length->y2k l ens last k acc i= .ok (acc++r) (i+(y0b ens r).length)
 | [],0,acc,i,_,_,_,_,_,_=>by rw[a0z];rfl
 | [],k+1,acc,i,_,_,_,_,hm,_=>by
   have hm:y1m l last i= .ok false i:=hm;rw[a0z,y2k];unfold RM.bind;rw[hm];rfl
 |d::r,0,_,_,h,_,_,_,_,_=>absurd h (by simp)
 |d::r,k+1,acc,i,h,ho,ha,hf,hm,hl=>by
  have hd:=ho d a0t;obtain⟨a1,a2⟩:=x1i.1 (show Az l i (⟨5,[59],0⟩::(dcT ens d++y0b ens r))from ha);have e0:i+(y0b ens (d::r)).length=i+1+(dcT ens d).length+(y0b ens r).length:=by simp only[y0b,a0a,a0k];omega
  rw[e0]at hf hm hl ⊢;obtain⟨a3,a4⟩:=x2t.1 a2;have hmore:y1m l last i= .ok true (i+1):=by
   have hn:isT l (i+1) w7h=false:=by
    refine x8a ?_;rw[show tkT (tkA l (i+1))=⟨1,tb d.n,0⟩from a2.1];unfold x3z at hd;simp only[a0g]at hd;exact u8o (x3i hd.1.1).2 rfl
   unfold y1m;rw[z1h,a1,hn,Bool.and_false];rfl
  have hdec:=w1s (l:=l) hE hd v9v (i+1) a3 (v9w a4 hf) (by omega)
  rw[y2k];unfold RM.bind;rw[hmore];simp only[hdec];rw[z2m hE last r k (acc++[d]) _ (by simpa using h) (fun x hx=>ho x (a0v _ hx)) a4 hf hm hl,List.append_assoc]
  rfl
def z2l (hE:EnN ens)(last:Bool){r:List Dc}(h0:r≠[])(ho: ∀d∈r,x3z ens d=true){i:Nat}(ha:Az l i (y2j ens r))(hf:fD (tkT (tkA l (i+(y2j ens r).length)))=true)
  (hm:y1m l last (i+(y2j ens r).length)= .ok false (i+(y2j ens r).length)) (hl:i+(y2j ens r).length < l.length):y5q l ens last i= .ok r (i+(y2j ens r).length):=by
 obtain⟨d,r,rfl⟩:=List.exists_cons_of_ne_nil h0;have ha:Az l i (dcT ens d++y0b ens r):=ha;obtain⟨a1,a2⟩:=x2t.1 ha;have e0:i+(y2j ens (d::r)).length=i+(dcT ens d).length+(y0b ens r).length:=by simp only[y2j,a0k];omega
 rw[e0]at hf hm hl ⊢;have hdec:=w1s (l:=l) hE (ho d a0t) v9v i a1 (v9w a2 hf) (by omega)
 have:=u9r ens r;unfold y5q RM.bind;rw[hdec];exact z2m hE last r l.length [d] _ (by omega) (fun x hx=>ho x (a0v _ hx)) a2 hf hm hl
def v0l (hE:EnN ens){r:List Dc}(h0:r≠[])(ho: ∀d∈r,x3z ens d=true):Bk l (y5q l ens false) (y2j ens r) (fun t=>fD t&&nT t [59]) r:=fun i ha hf hl=>by
 simp only[a0g]at hf;refine z2l hE false h0 ho ha hf.1 ?_ hl;have:=x8a (w:=bs [59]) hf.2;unfold y1m;rw[this];rfl
end
def w5e:List Nat:=[114,101,116,117,114,110,115]
def q8n:List Nat:=[118,97,114]
def v2i:List Nat:=[116,101,108]
def u5h:List Nat:=[101,110,117,109]
def u1a:List Nat:=[110,111,100,101]
section
variable {l : List Tk} {ens : List En} {F : T -> Bool}
def q6z {e:Ex}(h:x9c e=true)(hm:x3c e=true):Bk l (y8l l) (fm (pcs e)) (fun t=>foB .arrow t) e:=fun i ha hf hl=>by
 obtain⟨g,st⟩:=u9g (l:=l) e h;have hev:=x8z g st .arrow (by simp) ha hf
 have hread:y4j l i= .ok e (i+tL e):=by
  unfold y4j;refine hev _ ?_;have:i+tL e < l.length:=hl;unfold fuel;omega
 unfold y8l;rw[hread];simp only[hm,h,Bool.not_true,cond_false];rfl
def eqT (x:Eqn):List T:=z1b 1 x.ns++([⟨5,[61],0⟩]++(fm (pcs x.e)++([⟨5,[59],0⟩]++[])))
def v2c {n:Int}{r:List BA}(h0:r≠[]){t2:List T}{F G:T->Bool}(h: ∀x∈r,G ⟨n,tb x,0⟩=true):nxt (z1b n r++t2) F G:=by
 obtain⟨x,r,rfl⟩:=List.exists_cons_of_ne_nil h0;exact h x a0t
def y5l {x:Eqn}(h:eqB x=true):x.ns≠[]/\x3c x.e=true/\x9c x.e=true/\ ∀s∈x.ns,x4c (tb s)=true:=by
 unfold eqB at h;simp only[a0g,Bool.not_eq_true',decide_eq_false_iff_not,a0l]at h;refine⟨fun e=>h.1.1.1 (by rw[e];rfl),h.1.1.2.1,h.1.1.2.2,h.2⟩
def bk_eq {x:Eqn}(h:eqB x=true):Bk l (eqR l) (eqT x) F x:=by
 obtain⟨h1,h2,h3,h4⟩:=y5l h;refine Bk.bind (v0k 1 h1 fun s hs _=>(x3i (h4 s hs)).2) ?_ rfl
 refine Bk.bind (G:=tt) (Bk.j1v rfl) ?_ x7d;refine Bk.bind (q6z h3 h2) ?_ rfl;refine Bk.bind (G:=tt) (Bk.j1v rfl) ?_ x7d;exact Bk.ret _
def q4w:List Eqn->List T
 | []=>[⟨1,v2i,0⟩]
 |x::r=>eqT x++q4w r
def q4x {x:Eqn}(h:eqB x=true){t2:List T}:nxt (eqT x++t2) F fun t=>nT t v2i:=by
 obtain⟨h1,_,_,h4⟩:=y5l h;unfold eqT;rw[List.append_assoc];exact v2c h1 fun s hs=>u8o (x3i (h4 s hs)).2 rfl
def u9n: ∀r:List Eqn,r.length < (q4w r).length
 | []=>Nat.zero_lt_one
 |x::r=>by
  have:=u9n r;simp only[q4w,eqT,a0k,a0a];omega
def w1r: ∀(r:List Eqn) (k:Nat) (acc:List Eqn),r.length < k->(∀x∈r,eqB x=true)->Bk l (w9z l k acc) (q4w r) F (acc++r)
 |_,0,_,h,_=>absurd h (by simp)
 | [],k+1,acc,_,_=>by
   rw[a0z];exact Bk.yes (x:=bs [116,101,108]) rfl (Bk.ret acc)
 |x::r,k+1,acc,h,ho=>by
  have hx:=ho x a0t;refine Bk.no (x:=bs [116,101,108]) (q4x hx) (Bk.bind (G:=tt) (bk_eq hx) ?_ x7d);have:=w1r r k (acc++[x]) (by simpa using h) fun z hz=>ho z (a0v _ hz)
  rw[List.append_assoc]at this;exact this
def k7n (ens:List En)(d:List Dc):List T:=match d with
 | []=>[⟨5,[41],0⟩]
 |d::r=>y2j ens (d::r)++([⟨5,[41],0⟩]++[])
def w2y (ens:List En)(d:List Dc):List T:=match d with
 | []=>[]
 |d::r=>⟨1,q8n,0⟩::(y2j ens (d::r)++([⟨5,[59],0⟩]++[]))
def u2m {d:Dc}(h:x3z ens d=true):x4c (tb d.n)=true:=by
 unfold x3z at h;simp only[a0g]at h;exact h.1.1
def k6n (hE:EnN ens){d:List Dc}(ho: ∀x∈d,x3z ens x=true):Bk l (k2e l ens) (k7n ens d) F d:=by
 match d,ho with
 | [],_=>exact Bk.yes (x:=bs [41]) rfl (Bk.ret [])
 |d::r,ho=>
  have h1:nT ⟨1,tb d.n,0⟩ [41]=true:=by
   have:=u2m (ho d a0t);unfold nT y8h;rw[decide_eq_false fun e=>by rw[show tb d.n= [41]from e]at this;cases this];rfl
  refine Bk.no (x:=bs [41]) h1 (Bk.bind (v0l hE (by simp) ho) ?_ rfl)
  exact Bk.bind (G:=tt) (Bk.j1v rfl) (Bk.ret _) x7d
def q6x (hE:EnN ens){d:List Dc}(ho: ∀x∈d,x3z ens x=true):Bk l (v4o l ens) (w2y ens d) (fun t=>y8h t v2j) d:=by
 match d,ho with
 | [],_=>
   refine Bk.no (x:=bs [118,97,114]) (fun x hx=> ?_) (Bk.ret [])
   unfold y8h at hx;simp only[a0g,a0p]at hx;have:nT x [118,97,114]=true:=by
    unfold nT y8h;rw[hx.1];rfl
   exact this
 |d::r,ho=>
  refine Bk.yes (x:=bs [118,97,114]) rfl fun i ha hf hl=> ?_
  simp only[a0k,a0a,a0d]at hf hl ⊢;obtain⟨a1,a2⟩:=x2t.1 ha;have a2:tkT (tkA l (i+(y2j ens (d::r)).length))=⟨5,[59],0⟩:=a2.1;have hd:=z2l (l:=l) hE true (r:=d::r) (by simp) ho a1 (by rw[a2];rfl) (by
   have h1:isT l (i+(y2j ens (d::r)).length+1) w7h=true:=by
    rw[z1h];exact hf
   unfold y1m;rw[h1,z1h,a2];rfl) (by omega)
  unfold RM.bind;rw[hd];simp only;unfold x6p x2i;rw[z1h,a2];rfl
def w4p (ens:List En)(n:Nd):List T:=⟨1,tb n.n,0⟩::([⟨5,[40],0⟩]++(k7n ens n.ins++([⟨1,w5e,0⟩,⟨5,[40],0⟩]++(y2j ens n.outs++([⟨5,[41],0⟩]++(w2y ens n.vars++([⟨1,v2j,0⟩]++(q4w n.eqs++[]))))))))
structure NodeK (ens:List En) (n:Nd):Prop where
 nm:x4c (tb n.n)=true
 ins: ∀x∈n.ins,x3z ens x=true
 outs: ∀x∈n.outs,x3z ens x=true
 o0:n.outs≠[]
 vars: ∀x∈n.vars,x3z ens x=true
 eqs: ∀x∈n.eqs,eqB x=true
def y6l {n:Nd}(h:x8x ens n=true):NodeK ens n:=by
 unfold x8x x6t at h;simp only[a0g,a0l,a1o,a0p]at h;obtain⟨h1,_,_,h2,h3,h4⟩:=h;exact⟨h3,fun x hx=>h1 x (.inl (.inl hx)),fun x hx=>h1 x (.inl (.inr hx)),(fun e=>by rw[e]at h4;cases h4),fun x hx=>h1 x (.inr hx),h2⟩
def q6y (hE:EnN ens){n:Nd}(h:NodeK ens n):Bk l (v1z l ens) (w4p ens n) F n:=by
 refine Bk.tok (t:=⟨1,tb n.n,0⟩) rfl (fun _=>(x3i h.nm).2) fun y hy=> ?_
 have e1:y.s=n.n:=x3o (congrArg T.b hy);rw[e1];refine Bk.bind (G:=tt) (Bk.j1v rfl) ?_ x7d;refine Bk.bind (G:=tt) (k6n hE h.ins) ?_ x7d;refine Bk.bind (G:=tt) (Bk.j1v rfl) ?_ x7d;refine Bk.bind (v0l hE h.o0 h.outs) ?_ rfl;refine Bk.bind (G:=tt) (Bk.j1v rfl) ?_ x7d;refine Bk.bind (q6x hE h.vars) ?_ rfl;refine Bk.bind (G:=tt) (Bk.j1v rfl) ?_ x7d;refine Bk.fuel fun hl=> ?_
 have:=u9n n.eqs;refine Bk.bind (G:=tt) (w1r n.eqs l.length [] (by simp only[a0k]at hl;omega) h.eqs) ?_ x7d
 exact Bk.ret _
def w0d:List En->List T
 | []=>[]
 |e::r=>⟨1,u5h,0⟩::(enT e++w0d r)
def w2n (ens:List En):List Nd->List T
 | []=>[]
 |n::r=>⟨1,u1a,0⟩::(w4p ens n++w2n ens r)
def u9q: ∀r:List En,r.length<=(w0d r).length
 | []=>a0q _
 |e::r=>by have:=u9q r;simp only[w0d,a0a,a0k];omega
def u8n: ∀r:List Nd,r.length<=(w2n ens r).length
 | []=>a0q _
 |n::r=>by have:=u8n r;simp only[w2n,a0a,a0k];omega
def u3h: ∀(r:List En) (k:Nat) (acc:List En),r.length<=k->(∀e∈r,x5h (tb e.1)=false/\e.2≠[])->Bk l (y5m l k acc) (w0d r) (fun t=>nT t u5h) (acc++r)
 | [],0,acc,_,_=>by rw[a0z];exact Bk.ret acc
 | [],k+1,acc,_,_=>by
   rw[a0z];exact Bk.no (x:=bs [101,110,117,109]) (fun _ h=>h) (Bk.ret acc)
 |e::r,0,_,h,_=>absurd h (by simp)
 |e::r,k+1,acc,h,ho=>by
  have he:=ho e a0t;refine Bk.yes (x:=bs [101,110,117,109]) rfl (Bk.bind (q7a he.1 he.2) ?_ x7d);have:=u3h r k (acc++[e]) (by simpa using h) fun z hz=>ho z (a0v _ hz)
  rw[List.append_assoc]at this;exact this
def u3f (hE:EnN ens): ∀(r:List Nd) (k:Nat) (acc:List Nd),r.length<=k->(∀n∈r,NodeK ens n)->Bk l (y4q l ens k acc) (w2n ens r) (fun t=>nT t u1a) (acc++r)
 | [],0,acc,_,_=>by rw[a0z];exact Bk.ret acc
 | [],k+1,acc,_,_=>by
   rw[a0z];exact Bk.no (x:=bs [110,111,100,101]) (fun _ h=>h) (Bk.ret acc)
 |n::r,0,_,h,_=>absurd h (by simp)
 |n::r,k+1,acc,h,ho=>by
  refine Bk.yes (x:=bs [110,111,100,101]) rfl (Bk.bind (G:=tt) (q6y hE (ho n a0t)) ?_ x7d);have:=u3f hE r k (acc++[n]) (by simpa using h) fun z hz=>ho z (a0v _ hz)
  rw[List.append_assoc]at this;exact this
def y8e (ens:List En)(nds:List Nd):List T:=w0d ens++w2n ens nds
def k5m {t:T}(h:t.k=6)(w:List Nat):nT t w=true:=by
 unfold nT y8h;rw[h];simp
def v7f (hE:EnN ens){nds:List Nd}(h1: ∀e∈ens,e.2≠[])(h2: ∀n∈nds,NodeK ens n)(ha:Az l 0 (y8e ens nds))(hk:(tkA l (y8e ens nds).length).k=6)(hl:(y8e ens nds).length < l.length):y3q l 0= .ok (ens,nds) (y8e ens nds).length:=by
 obtain⟨a1,a2⟩:=x2t.1 (show Az l 0 (w0d ens++w2n ens nds)from ha);have e0:(y8e ens nds).length=(w0d ens).length+(w2n ens nds).length:=by simp[y8e]
 rw[e0]at hk hl ⊢;rw[a1z]at a2;have l1:=u9q ens;have l2:=u8n (ens:=ens) nds;have r1:=u3h (l:=l) ens l.length [] (by omega) (fun e he=>⟨(x3i (hE.lo e he)).2,h1 e he⟩) 0 a1 (by
  rw[a1z]
  match nds,a2,hk with
  | [],_,hk=>exact k5m (show(tkT (tkA l (w0d ens).length)).k=6 from hk) _
  |n::r,a2,_=>rw[a2.1];rfl) (by omega)
 rw[a1z,a0h]at r1;have r2:=u3f (l:=l) hE nds l.length [] (by omega) h2 _ a2 (k5m (show(tkT (tkA l ((w0d ens).length+(w2n ens nds).length))).k=6 from hk) _) hl
 rw[a0h]at r2;unfold y3q RM.bind;rw[r1];simp only[r2];unfold w2r;rw[hk];rfl
end
def v2a (n:Int)(r:List BA):Pc:=x2e (r.map fun x=>[some ⟨n,tb x,0⟩])
def lnP (c:Int):Pc:=if 0 < c then[mk 91,some ⟨3,y0c c.toNat,c⟩,mk 93]else[]
def tyP (ens:List En)(k e c:Int):Pc:=some (u6n ens k e)::lnP c
def whP (o q:BA):Pc:=if tb o= []then[]else none::wd y5c::none::onP o q
def dcP (ens:List En)(d:Dc):Pc:=wd (tb d.n)::mk 58::none::(tyP ens d.k d.e d.c++whP d.o d.q)
def q0d (ens:List En):List Dc->Pc
 | []=>[]
 |d::r=>mk 59::none::(dcP ens d++q0d ens r)
def dsP (ens:List En):List Dc->Pc
 | []=>[]
 |d::r=>dcP ens d++q0d ens r
def vrP (ens:List En):List Dc->Pc
 | []=>[]
 |d::r=>wd q8n::none::(dsP ens (d::r)++[mk 59,none])
def eqP (x:Eqn):Pc:=none::none::(v2a 1 x.ns++(none::mk 61::none::(pcs x.e++[mk 59,none])))
def u5x:List Eqn->Pc
 | []=>[wd v2i,none]
 |x::r=>eqP x++u5x r
def ndP (ens:List En)(n:Nd):Pc:=wd u1a::none::wd (tb n.n)::mk 40::(dsP ens n.ins++(mk 41::none::wd w5e::none::mk 40::(dsP ens n.outs++(mk 41::none::(vrP ens n.vars++(wd v2j::none::u5x n.eqs))))))
def enP (e:En):Pc:=wd u5h::none::wd (tb e.1)::none::mk 123::none::(v2a 2 e.2++[none,mk 125,mk 59,none])
def w2s:List En->Pc
 | []=>[]
 |e::r=>enP e++w2s r
def w2o (ens:List En):List Nd->Pc
 | []=>[]
 |n::r=>ndP ens n++w2o ens r
def pgP (ens:List En)(nds:List Nd):Pc:=w2s ens++w2o ens nds
def v9p (n:Int): ∀r:List BA,fm (y5w (r.map fun x=>[some ⟨n,tb x,0⟩]))=q2k n r
 | []=>rfl
 |x::r=>by
  have:=v9p n r;simp only[a1m,y5w,mk,x2h,x2u,a0f,a0h,q2k,this]
def w9r (n:Int)(r:List BA):fm (v2a n r)=z1b n r:=by
 match r with
 | []=>rfl
 |x::r=>
  have:=v9p n r;simp only[v2a,a1m,x2e,x2h,a0f,a0h,z1b,this]
def fm_ty (ens:List En)(k e c:Int):fm (tyP ens k e c)=q9t ens k e c:=by
 unfold tyP lnP q9t q3u;split<;>rfl
def fm_wh (o q:BA):fm (whP o q)=q8l o q:=by
 unfold whP q8l;split
 ·rfl
 ·simp only[wd,x2u,x2h,a0z]
def k2p (ens:List En)(d:Dc):fm (dcP ens d)=dcT ens d:=by
 simp only[dcP,dcT,wd,mk,x2h,x2u,x2n,fm_ty,fm_wh,a0f,a0h]
def w9v (ens:List En): ∀r:List Dc,fm (q0d ens r)=y0b ens r
 | []=>rfl
 |d::r=>by simp only[q0d,y0b,mk,x2h,x2u,x2n,k2p,w9v ens r]
def k2o (ens:List En)(r:List Dc):fm (dsP ens r)=y2j ens r:=by
 match r with
 | []=>rfl
 |d::r=>simp only[dsP,y2j,x2n,k2p,w9v]
def fm_vr (ens:List En)(r:List Dc):fm (vrP ens r)=w2y ens r:=by
 match r with
 | []=>rfl
 |d::r=>simp only[vrP,w2y,wd,mk,x2n,x2h,x2u,x6q,k2o,a0z]
def k2n (x:Eqn):fm (eqP x)=eqT x:=by
 simp only[eqP,eqT,mk,x2n,x2h,x2u,x6q,w9r,a0z,a0f,a0h]
def w9t: ∀r:List Eqn,fm (u5x r)=q4w r
 | []=>rfl
 |x::r=>by simp only[u5x,q4w,x2n,k2n,w9t r]
def q4j (ens:List En)(d:List Dc)(X:List T):y2j ens d++⟨5,[41],0⟩::X=k7n ens d++X:=by
 match d with
 | []=>rfl
 |d::r=>simp only[k7n,List.append_assoc,a0f,a0h,a0z]
def fm_nd (ens:List En)(n:Nd):fm (ndP ens n)=⟨1,u1a,0⟩::w4p ens n:=by
 simp only[ndP,w4p,wd,mk,x2n,x2h,x2u,k2o,fm_vr,w9t,q4j,a0z,a0f,a0h]
def fm_en (e:En):fm (enP e)=⟨1,u5h,0⟩::enT e:=by
 simp only[enP,enT,wd,mk,x2n,x2h,x2u,x6q,w9r,a0z,a0f,a0h]
def w9u: ∀r:List En,fm (w2s r)=w0d r
 | []=>rfl
 |e::r=>by simp only[w2s,w0d,x2n,fm_en,w9u r,a0f]
def w9s (ens:List En): ∀r:List Nd,fm (w2o ens r)=w2n ens r
 | []=>rfl
 |n::r=>by simp only[w2o,w2n,x2n,fm_nd,w9s ens r,a0f]
def fm_pg (ens:List En)(nds:List Nd):fm (pgP ens nds)=y8e ens nds:=by
 simp only[pgP,y8e,x2n,w9u,w9s]
structure CP (p:Pc):Prop where
 ok:okP p
 ch: ∀d,edB d=true->x3b d p=true
def NP (p:Pc):Prop:= ∀d,edB d=true->x0x (hd d p)=false
def EP (p:Pc):Prop:= ∀d,edB d=true->edB (hd d p)=true
def EP.np {p:Pc}(h:EP p):NP p:=fun d hd'=>x4s (h d hd')
def CP.app {p q:Pc}(h1:CP p)(h2:CP q)(h:EP q):CP (p++q):=⟨(x3a _ _).2 ⟨h1.ok,h2.ok⟩,fun d hd'=>by rw[x1l,h1.ch _ (h d hd'),h2.ch d hd'];rfl⟩
def CP.nil:CP []:=⟨trivial,fun _ _=>rfl⟩
def CP.blank {p:Pc}(h:CP p):CP (none::p):=⟨h.ok,h.ch⟩
def y2n {p:Pc}{c:Nat}(hc:u4s.contains c=true)(h:CP p)(ha: ∀d,edB d=true->ajB ⟨5,[c],0⟩ (hd d p)=true):CP (mk c::p):=⟨⟨u6t hc,h.ok⟩,fun d hd'=>by rw[y0z,ha d hd',h.ch d hd'];rfl⟩
def CP.word {p:Pc}{b:List Nat}(hb:T.OK ⟨1,b,0⟩)(h:CP p)(hn:NP p):CP (wd b::p):=⟨⟨hb,h.ok⟩,fun d hd'=>by rw[z4c,hn d hd',h.ch d hd'];rfl⟩
def w2k:EP []:=fun _ h=>h
def x8g (p:Pc):EP (none::p):=fun _ _=>rfl
def v4b {c:Nat}(hc:edB c=true)(p:Pc):EP (mk c::p):=fun _ _=>hc
def k7e {c:Nat}(hc:x0x c=false)(p:Pc):NP (mk c::p):=fun _ _=>hc
def EP.app {p q:Pc}(h1:EP p)(h2:EP q):EP (p++q):=fun d hd'=>by rw[x8l];exact h1 _ (h2 d hd')
def q8c {r:List BA}(h: ∀x∈r,x4c (tb x)=true):CP (v2a 1 r):=by
 have:=z3i (t:=r.map fun x=>[some ⟨1,tb x,0⟩]) fun p hp=>by
  obtain⟨x,hx,rfl⟩:=a2b.1 hp;exact⟨⟨y5v (h x hx),trivial⟩,fun d hd'=>by show(!x0x (hd d [])&&true)=true;rw[w9f,x4s hd'];rfl,fun d=>v8c (h x hx) d []⟩
 exact⟨this.1,this.2⟩
def q8b {r:List BA}(h: ∀x∈r,x3s (tb x)=true):CP (v2a 2 r):=by
 have:=z3i (t:=r.map fun x=>[some ⟨2,tb x,0⟩]) fun p hp=>by
  obtain⟨x,hx,rfl⟩:=a2b.1 hp;exact⟨⟨u6u (h x hx),trivial⟩,fun d hd'=>by show(!x0x (hd d [])&&true)=true;rw[w9f,x4s hd'];rfl,fun d=>v8x (h x hx) d []⟩
 exact⟨this.1,this.2⟩
def CP_on {o q:BA}(hs:x4c (tb o)=true)(ha:y0f q=true):CP (onP o q):=by
 refine⟨(k7b hs ha).1,fun d hd'=> ?_⟩
 have hi:=x4s hd';unfold onP;split
 ·show(!x0x d&&true)=true;rw[hi];rfl
 ·split
  ·show(!x0x 32&&(!x0x d&&true))=true;rw[hi];rfl
  ·rw[w0n];show(!x0x 40&&(ajB ⟨5,[40],0⟩ _&&(!x0x 41&&(ajB ⟨5,[41],0⟩ d&&true))))=true;rw[u3w,u3v];rfl
section
variable {ens : List En}
def bs_ok (hE:EnN ens){k e c:Int}(h:tyB ens k e c=true):T.OK (u6n ens k e):=by
 unfold tyB at h;simp only[a0g]at h;obtain⟨_,h⟩:=h
 by_cases h3:k=3
 ·subst h3;have h:(decide (0<=e)&&decide (e < (ens.length:Int)))=true:=by simpa using h
  simp only[a0g,a0p]at h;obtain⟨n,rfl⟩: ∃n:Nat,e=(n:Int):=⟨e.toNat,by omega⟩
  have hn:n < ens.length:=by omega
  have hx:ens[n]? =some ens[n]:=a0b hn;unfold u6n nmE;simp only[a0m,hx,if_true];exact y5v (hE.lo _ (a1j hn))
 ·unfold u6n;rw[if_neg h3];split
  ·exact y3f rfl rfl
  ·exact y3f rfl rfl
def ln_cp {c:Int}(hc:c<=8):CP (lnP c)/\EP (lnP c):=by
 unfold lnP;split
 ·rename_i h0;refine⟨⟨⟨u6t rfl,q0m (by omega) (by omega),u6t rfl,trivial⟩,fun d hd'=> ?_⟩,v4b rfl _⟩
  rw[y0z,k5w,y0z,k8k,y3a,k8j];rfl
 ·exact⟨CP.nil,w2k⟩
def k8w (hE:EnN ens){k e c:Int}(h:tyB ens k e c=true):CP (tyP ens k e c):=by
 have hc:c<=8:=by
  unfold tyB at h;simp only[a0g,Bool.not_eq_true',Bool.or_eq_false_iff,decide_eq_false_iff_not]at h;omega
 obtain⟨h1,h2⟩:=ln_cp hc;exact CP.word (bs_ok hE h) h1 h2.np
def k8l {d:Dc}(h:x3z ens d=true):CP (whP d.o d.q)/\EP (whP d.o d.q):=by
 unfold x3z at h;simp only[a0g,Bool.or_eq_true]at h;unfold whP;split
 ·exact⟨CP.nil,w2k⟩
 ·rename_i ho;have h4:x4c (tb d.o)=true/\y0f d.q=true:=by
   rcases h.2 with h3|h3
   ·unfold v3y at h3;simp only[a0g,a0p]at h3;exact absurd h3.1 ho
   ·exact h3
  exact⟨CP.blank (CP.word (y3f rfl rfl) (CP.blank (CP_on h4.1 h4.2)) (x8g _).np),x8g _⟩
def k5q (hE:EnN ens){d:Dc}(h:x3z ens d=true):CP (dcP ens d):=by
 obtain⟨h1,h2⟩:=k8l h;have h3:=u2m h;unfold x3z at h;simp only[a0g]at h;exact CP.word (y5v h3) (y2n rfl (CP.blank (CP.app (k8w hE h.1.2) h1 h2)) fun _ _=>rfl) (k7e rfl _)
def q0c (hE:EnN ens): ∀ {r:List Dc},(∀d∈r,x3z ens d=true)->CP (q0d ens r)/\EP (q0d ens r)
 | [],_=>⟨CP.nil,w2k⟩
 |d::r,h=>by
  obtain⟨h1,h2⟩:=q0c hE (r:=r) fun x hx=>h x (a0v _ hx)
  exact⟨y2n rfl (CP.blank (CP.app (k5q hE (h d a0t)) h1 h2)) (fun _ _=>z4e (by decide)),v4b rfl _⟩
def q5d (hE:EnN ens){r:List Dc}(h: ∀d∈r,x3z ens d=true):CP (dsP ens r):=by
 match r,h with
 | [],_=>exact CP.nil
 |d::r,h=>
  obtain⟨h1,h2⟩:=q0c hE (r:=r) fun x hx=>h x (a0v _ hx)
  exact CP.app (k5q hE (h d a0t)) h1 h2
def k5n:CP [mk 59,none]:=y2n rfl (CP.blank CP.nil) fun _ _=>z4e (by decide)
def k8n (hE:EnN ens){r:List Dc}(h: ∀d∈r,x3z ens d=true){X:Pc}(hX:CP X):CP (vrP ens r++X):=by
 match r,h with
 | [],_=>exact hX
 |d::r,h=>
  have:vrP ens (d::r)++X=wd q8n::none::(dsP ens (d::r)++(mk 59::none::X)):=by simp only[vrP,a0f,List.append_assoc,a0h]
  rw[this];exact CP.word (y3f rfl rfl) (CP.blank (CP.app (q5d hE h) (y2n rfl (CP.blank hX) fun _ _=>z4e (by decide)) (v4b rfl _))) (x8g _).np
def q0a {x:Eqn}(h:eqB x=true)(hr:x.e.rng):CP (eqP x):=by
 obtain⟨_,_,h3,h4⟩:=y5l h;have hp:=q0l x.e h3 hr;exact CP.blank (CP.blank (CP.app (q8c h4) (CP.blank (y2n rfl (CP.blank (CP.app ⟨hp.ok,hp.ch⟩ k5n (v4b rfl _))) fun _ _=>rfl)) (x8g _)))
def w9y: ∀ {r:List Eqn},(∀x∈r,eqB x=true/\x.e.rng)->CP (none::u5x r)
 | [],_=>CP.blank (CP.word (y3f rfl rfl) (CP.blank CP.nil) (x8g _).np)
 |x::r,h=>by
  have h1:=h x a0t;have h2:=w9y (r:=r) fun y hy=>h y (a0v _ hy)
  refine CP.blank ⟨(x3a _ _).2 ⟨(q0a h1.1 h1.2).ok,h2.ok⟩,fun d hd'=> ?_⟩
  have e:eqP x=(none::none::(v2a 1 x.ns++(none::mk 61::none::(pcs x.e++[mk 59]))))++[none]:=by simp only[eqP,a0f,List.append_assoc,a0h]
  have h3:=h2.ch d hd';rw[x6g]at h3;show x3b d (eqP x++u5x r)=true;rw[e,List.append_assoc,x1l];have h4:=(q0a h1.1 h1.2).ch 0 rfl;rw[e,x1l,a0g]at h4;rw[show hd d ([none]++u5x r)=hd 0 [none]from rfl,h4.1];exact h3
def nd_cp (hE:EnN ens){n:Nd}(h:NodeK ens n)(hr: ∀x∈n.eqs,x.e.rng):CP (ndP ens n):=by
 have h5:=w9y fun x hx=>⟨h.eqs x hx,hr x hx⟩
 have h4:CP (wd v2j::none::u5x n.eqs):=CP.word (y3f rfl rfl) h5 (x8g _).np;have h3:=k8n hE h.vars h4;have h2:CP (dsP ens n.outs++(mk 41::none::(vrP ens n.vars++(wd v2j::none::u5x n.eqs)))):=CP.app (q5d hE h.outs) (y2n rfl (CP.blank h3) fun _ _=>u3v _) (v4b rfl _)
 have h1:=CP.app (q5d hE h.ins) (q:=mk 41::none::wd w5e::none::mk 40::(dsP ens n.outs++(mk 41::none::(vrP ens n.vars++(wd v2j::none::u5x n.eqs))))) (y2n rfl (CP.blank (CP.word (y3f rfl rfl) (CP.blank (y2n rfl h2 fun _ _=>u3w _)) (x8g _).np)) fun _ _=>u3v _) (v4b rfl _)
 exact CP.word (y3f rfl rfl) (CP.blank (CP.word (y5v h.nm) (y2n rfl h1 fun _ _=>u3w _) (k7e rfl _))) (x8g _).np
def en_cp {e:En}(h1:x4c (tb e.1)=true)(h2: ∀c∈e.2,x3s (tb c)=true):CP (enP e):=by
 have h4:CP [none,mk 125,mk 59,none]:=CP.blank (y2n rfl k5n fun _ _=>z4e (by decide))
 exact CP.word (y3f rfl rfl) (CP.blank (CP.word (y5v h1) (CP.blank (y2n rfl (CP.blank (CP.app (q8b h2) h4 (x8g _))) fun _ _=>z4e (by decide))) (x8g _).np)) (x8g _).np
end
def q8w (e:En):Pc:=wd u5h::none::wd (tb e.1)::none::mk 123::none::(v2a 2 e.2++[none,mk 125,mk 59])
def k8a (x:Eqn):Pc:=none::none::(v2a 1 x.ns++(none::mk 61::none::(pcs x.e++[mk 59])))
def k7h (ens:List En)(r:List Dc):Pc:=wd q8n::none::(dsP ens r++[mk 59])
def k2h (ens:List En)(n:Nd):Pc:=wd u1a::none::wd (tb n.n)::mk 40::(dsP ens n.ins++(mk 41::none::wd w5e::none::mk 40::(dsP ens n.outs++[mk 41])))
def q9x (e:En):List Nat:=x0l (q8w e)++[10]
def q8g (x:Eqn):List Nat:=x0l (k8a x)++[10]
def y8c:List Eqn->List Nat
 | []=>[]
 |x::r=>q8g x++y8c r
def q9v (ens:List En)(r:List Dc):List Nat:=match r with
 | []=>[]
 |d::r=>x0l (k7h ens (d::r))++[10]
def q9w (ens:List En)(n:Nd):List Nat:=(x0l (k2h ens n)++[10])++(q9v ens n.vars++(v2j++([10]++(y8c n.eqs++(v2i++[10])))))
def z6c:List En->List Nat
 | []=>[]
 |e::r=>q9x e++z6c r
def z3l (ens:List En):List Nd->List Nat
 | []=>[]
 |n::r=>q9w ens n++z3l ens r
def k8x (ens:List En)(nds:List Nd):List Nat:=z6c ens++z3l ens nds
def w3w {p:Pc}:rnT (p++[none]) (x0l p++[10]):=x6u (x9i p) v6p
def k9l (e:En):rnT (enP e) (q9x e):=by
 have:enP e=q8w e++[none]:=by simp only[enP,q8w,a0f,List.append_assoc,a0h]
 rw[this];exact w3w
def k9k (x:Eqn):rnT (eqP x) (q8g x):=by
 have:eqP x=k8a x++[none]:=by simp only[eqP,k8a,a0f,List.append_assoc,a0h]
 rw[this];exact w3w
def w8q: ∀r:List Eqn,rnT (u5x r) (y8c r++(v2i++[10]))
 | []=>by
   show rnT ([wd v2i]++[none]) (v2i++[10]);exact x6u (x:=v2i) (x9i [wd v2i]) v6p
 |x::r=>by
  show rnT (eqP x++u5x r) ((q8g x++y8c r)++(v2i++[10]));rw[List.append_assoc];exact x6u (k9k x) (w8q r)
def k9i (ens:List En)(r:List Dc):rnT (vrP ens r) (q9v ens r):=by
 match r with
 | []=>rfl
 |d::r=>
  have:vrP ens (d::r)=k7h ens (d::r)++[none]:=by simp only[vrP,k7h,a0f,List.append_assoc,a0h]
  rw[this];exact w3w
def k9j (ens:List En)(n:Nd):rnT (ndP ens n) (q9w ens n):=by
 have:ndP ens n=(k2h ens n++[none])++(vrP ens n.vars++([wd v2j]++([none]++u5x n.eqs))):=by simp only[ndP,k2h,a0f,List.append_assoc,a0h]
 rw[this];exact x6u w3w (x6u (k9i ens n.vars) (x6u (p:=[wd v2j]) (x:=v2j) (x9i [wd v2j]) (x6u v6p (w8q n.eqs))))
def w8r: ∀r:List En,rnT (w2s r) (z6c r)
 | []=>rfl
 |e::r=>x6u (k9l e) (w8r r)
def w8p (ens:List En): ∀r:List Nd,rnT (w2o ens r) (z3l ens r)
 | []=>rfl
 |n::r=>x6u (k9j ens n) (w8p ens r)
def u2b {ens:List En}(h:x5y ens=0):EnN ens/\ ∀e∈ens,e.2≠[]/\ ∀c∈e.2,x3s (tb c)=true:=by
 unfold x5y at h;cases h1:x5r ens with
 |true=>rw[h1]at h;cases h
 |false=>
  cases h2:u8u ens&&y2c (x1w ens)with
  |false=>rw[h1,h2]at h;cases h
  |true=>
   cases h3:(!(decide (ens.map (·.1)).Nodup) || !(decide (x1w ens).Nodup))with
   |true=>rw[h1,h2,h3]at h;cases h
   |false=>
    simp only[Bool.or_eq_false_iff,Bool.not_eq_false',a0p]at h3;unfold u8u y2c x1w at h2;simp only[a0g,a0l,a0p,List.mem_flatMap]at h2;exact⟨⟨h3.1,fun e he=>(h2.1 e he).1⟩,fun e he=>⟨(fun h0=>by have:=(h2.1 e he).2;rw[h0]at this;cases this),fun c hc=>h2.2 c ⟨e,he,hc⟩⟩⟩
def z2r {ens:List En}{nds:List Nd}(h:y2l ens nds=0):x5y ens=0/\ ∀n∈nds,x8x ens n=true:=by
 unfold y2l at h
 by_cases h1:x5y ens=0
 ·refine⟨h1,?_⟩;rw[a0s h1]at h;simp only[Bool.not_true,cond_false]at h
  by_cases h2:(nds.length:Int)=0
  ·rw[a0s h2]at h;cases h
  ·rw[decide_eq_false h2]at h;simp only[cond_false]at h;cases h3:(decide (6 < (nds.length:Int)) || nds.any x8m)with
   |true=>rw[h3]at h;cases h
   |false=>
    rw[h3]at h;simp only[cond_false]at h;cases h4:nds.all (x8x ens)with
    |true=>exact a0l.1 h4
    |false=>rw[h4]at h;cases h
 ·rw[decide_eq_false h1]at h;simp only[a2i,cond_true]at h;exact absurd h h1
def v1s (s:BA)(ens:List En)(nds:List Nd)(hs:tb s=k8x ens nds)(hl:(tb s).length<=6000)(hc:y2l ens nds=0)(hr: ∀n∈nds,∀x∈n.eqs,x.e.rng):x8w s=((ens,nds),((tb s).length:Int),0):=by
 obtain⟨hc1,hc2⟩:=z2r hc;obtain⟨hE,hE2⟩:=u2b hc1;have hN: ∀n∈nds,NodeK ens n:=fun n hn=>y6l (hc2 n hn)
 have hOK: ∀r:List En,(∀e∈r,e∈ens)-> ∀X:Pc,okP X->x3b 0 X=true->(∀p:Pc,True)->okP (w2s r++X)/\x3b 0 (w2s r++X)=true:=by
  intro r
  induction r with
  |nil=>exact fun _ X h1 h2 _=>⟨h1,h2⟩
  |cons e r ih=>
   intro hr X h1 h2 h3;obtain⟨i1,i2⟩:=ih (fun x hx=>hr x (a0v _ hx)) X h1 h2 h3
   have he:=hr e a0t;have hcp:=en_cp (hE.lo e he) (hE2 e he).2;have ee:enP e=q8w e++[none]:=by simp only[enP,q8w,a0f,List.append_assoc,a0h]
   have h4:=hcp.ch 0 rfl;rw[ee,x1l,a0g]at h4;show okP ((enP e++w2s r)++X)/\x3b 0 ((enP e++w2s r)++X)=true;rw[List.append_assoc];refine⟨(x3a _ _).2 ⟨hcp.ok,i1⟩,?_⟩;rw[ee,List.append_assoc,x1l,show hd 0 ([none]++(w2s r++X))=hd 0 [none]from rfl,h4.1];exact i2
 have hND: ∀r:List Nd,(∀n∈r,n∈nds)->okP (w2o ens r)/\x3b 0 (w2o ens r)=true:=by
  intro r
  induction r with
  |nil=>exact fun _=>⟨trivial,rfl⟩
  |cons n r ih=>
   intro hr';obtain⟨i1,i2⟩:=ih (fun x hx=>hr' x (a0v _ hx))
   have hn:=hr' n a0t;have hcp:=nd_cp hE (hN n hn) (hr n hn);have ee: ∀q:List Eqn,∃p:Pc,u5x q=p++[none]:=by
    intro q
    induction q with
    |nil=>exact⟨[wd v2i],rfl⟩
    |cons x q ih=>obtain⟨p,hp⟩:=ih;exact⟨eqP x++p,by rw[u5x,hp,List.append_assoc]⟩
   obtain⟨p,hp⟩:=ee n.eqs;have ee: ∃p:Pc,ndP ens n=p++[none]:=⟨wd u1a::none::wd (tb n.n)::mk 40::(dsP ens n.ins++(mk 41::none::wd w5e::none::mk 40::(dsP ens n.outs++(mk 41::none::(vrP ens n.vars++(wd v2j::none::p)))))),by
    simp only[ndP,hp,a0f,List.append_assoc]⟩
   obtain⟨p,hp⟩:=ee;have h4:=hcp.ch 0 rfl;rw[hp,x1l,a0g]at h4;refine⟨(x3a _ _).2 ⟨hcp.ok,i1⟩,?_⟩;show x3b 0 (ndP ens n++w2o ens r)=true;rw[hp,List.append_assoc,x1l,show hd 0 ([none]++w2o ens r)=hd 0 [none]from rfl,h4.1];exact i2
 obtain⟨n1,n2⟩:=hND nds fun _ h=>h
 obtain⟨o1,o2⟩:=hOK ens (fun _ h=>h) (w2o ens nds) n1 n2 fun _=>trivial
 obtain⟨t,q1,q2⟩:=u5c s (pgP ens nds) 0 (a0w _) (by rw[a1y,hs];exact x6u (w8r ens) (w8p ens nds)) (u4u.1 o1) o2
 rw[q4s,fm_pg]at q1;have hlen:t.length=(y8e ens nds).length:=by rw[<-q1,a1f]
 have ht:x7s s=t++[q8u s]:=by unfold x7s;rw[q2]
 have haz:Az (x7s s) 0 (y8e ens nds):=by
  have:=k6q (l:=[]) (b:=[q8u s]) q1;rw[ht];exact this
 have hend:tkA (x7s s) (y8e ens nds).length=q8u s:=by
  unfold tkA;rw[ht,a0i,<-hlen];simp
 have hL:(y8e ens nds).length+1=(x7s s).length:=by rw[ht,a0k,hlen];rfl
 have hp:=v7f (l:=x7s s) hE (nds:=nds) (fun e he=>(hE2 e he).1) hN haz (by rw[hend];rfl) (by omega)
 unfold x8w;rw[q2,decide_eq_false (by omega: ¬(6000:Int) < ((tb s).length:Int))]
 simp only[hp,hc,decide_true,Bool.not_true,cond_false]
end Go.Vm
end
section
set_option maxRecDepth 1000000
set_option maxHeartbeats 0
namespace Go.Vm
open Go.Proofs
noncomputable section
def g111 a b c d:=(⟨_,pq 111 [.d (.sl 2 a), .agg [.d (.int .i64 b), .d (.int .i64 c), .d (.int .i64 d)]] 0x1b9701a7b3fa6f49b6d5b3632bd8c23470710ca4e80a5b24974c544⟩:SQ _)
def g112 a:=(⟨_,pq 112 [.d (.str a)] 0xfceb161fb5abeef9a592a318b9dfa64f4e32⟩:SQ _)
def g15 a b:=(⟨_,pq 15 [.d (.sl 2 a), .d (.sl 2 b)] 0x1f599028ebad7e0fd3b9c82a1554e4eebba3d7b9ad04aaf09a7ed60733732dc1bcbaf9d79a5⟩:SQ _)
def g24 a:=(⟨_,pq 24 [.d (.sl 2 a)] 0x5a39c1aee9de838cd6583a6ac5ea02d8524d3ae95a1b97c5477f5746dd53c32a7fe384875d44548d5af78115244563ad37e3b89096cf075bd7a45b893cee0beb31dc161640467a11320b5bddca879d988a91ea4c5403cc1dc186e52fe7a915e⟩:SQ _)
def g28 a b c d e:=(⟨_,pq 28 [.agg [.d (.str a), .d (.sl 6 b), .d (.sl 6 c), .d (.sl 6 d), .d (.sl 7 e)]] 0x27ea8f64cadccb7cd17c2af3c4fa97418dd3⟩:SQ _)
def g27 a:=(⟨_,pq 27 [.d (.sl 6 a)] 0x5ffe7bd92e19445d8be62730a8f7ee57100104b9⟩:SQ _)
def g61 a b c d e f g:=(⟨_,pq 61 [.d (.sl 2 a), .agg [.d (.str b), .d (.int .i64 c), .d (.int .i64 d), .d (.int .i64 e), .d (.str f), .d (.str g)]] 0xdf9ca9216a8390354944c3d26b639e5500fffc58a9a0ec06ff59168a98fe548c⟩:SQ _)
def g62 a b c d e f g:=(⟨_,pq 62 [.agg [.d (.sl 1 a), .d (.int .i64 b), .d (.int .i64 c), .d (.str d), .d (.int .i64 e), .d (.sl 1 f), .d (.sl 6 g)]] 0x525cc91a8aeda81c265df55ea220c0bac3aa0662b922721364bdbbcacd76a49b9f149cbb72933c4c4d2a649565⟩:SQ _)
def g25 a b c d e f:=(⟨_,pq 25 [.d (.sl 2 a), .agg [.d (.str b), .d (.sl 6 c), .d (.sl 6 d), .d (.sl 6 e), .d (.sl 7 f)]] 0x2951a98b06df9654a1fa8333b821e2bc77e99cc08666f8a71e497ead43c86a93caaec1bc622c9850364092eded06d5199af73e8d08d0901263ff666bd5926dea40162c68e35bc63a18cbc2c0b11ddf7773c24c6a9dc⟩:SQ _)
def g12 a b:=(⟨_,pq 12 [.agg [.d (.sl 2 a), .d (.sl 5 b)]] 0xf0ca9cd15daf7d1b47ed2ce8550eae55192637a8687cf35115949da3631c2daddfb11014813fce68058048920eaa73d450a6bcbc94b43d4a799e175a8bc6c7160fc6b9c32211fc2cdff1725005bdbef14a57aa77469d0d3908689697553196b0aa4102b6384e10c944⟩:SQ _)
def g32 a b:=(⟨_,pq 32 [.d (.sl 6 a), .d (.sl 6 b)] 0x53c928b3cf78c4ec62dc37535cf63092b75a6fa5a6ef9939724383cecfddb31527⟩:SQ _)
def g16 a b c d e f g h i j:=(⟨_,pq 16 [.agg [.d (.str a), .d (.sl 6 b), .d (.sl 6 c), .d (.sl 6 d), .d (.sl 7 e)], .agg [.d (.str f), .d (.sl 6 g), .d (.sl 6 h), .d (.sl 6 i), .d (.sl 7 j)]] 0x1766133e42ce0cc2883701034414bc067386cb34d9262dfc01e54c1c858bc7e7f19cf31aec404e46593c29b9cb42193c8560455a8e13ece8f1e333516d05322d8b0bda6c923e81d91ae999d1dbce84e4da35d5a142⟩:SQ _)
def g8 a b c d:=(⟨_,pq 8 [.agg [.d (.sl 2 a), .d (.sl 5 b)], .agg [.d (.sl 2 c), .d (.sl 5 d)]] 0x43726e00b50d62456b11f9adc71174c9fa615650272a2303001bb28eb0c6ee84931dbd6b2e3684e3e44d03d0f7415f5cf85c5e⟩:SQ _)
def w9p a b c d:=(⟨_,pq 113 [.d (.sl 2 a), .agg [.d (.int .i64 b), .d (.int .i64 c), .d (.int .i64 d)]] 0x8ba096fc4c48996ce339c4e457c306bb5e5179b809a6867be70ac04bb32f64ef9e4392d5da3ac80ad8ddb2c043f178962a0148e35f0399cb371b20bd21f4a27eb2ae6ec71e476a0365a63a75ae69469c723fa9080f6c9c8b88da1b1cc81efc91bdd545130fd56d6f2db35f56943e1ca00a7afd386d00644a195a158ba0a58b273b26c0c181edcb38742b8f02f8e6134b601d718fb30ab6d16e180bdc5e32a285996e187066d110483752dbcabfe888392f549e868f168f326d25a76b911df83eaa215fcb8037f443e9fba869c57e8f⟩:SQ _)
def g63 a b c d e f g:=(⟨_,pq 63 [.d (.sl 2 a), .agg [.d (.str b), .d (.int .i64 c), .d (.int .i64 d), .d (.int .i64 e), .d (.str f), .d (.str g)]] 0x5d76cfa5d48a202172bea7963e02d1d1a28ccb578f00a791b656a0a565237fe0350fab4801c26c79bf14b30f7b1daf759b9c22⟩:SQ _)
def g13 a:=(⟨_,pq 13 [.d (.sl 1 a)] 0xb7a8c001ccbb3eb0fdfc043392ddaed66fc73c54d3590122ca51532ddd05c711e3⟩:SQ _)
def g29 a b:=(⟨_,pq 29 [.d (.sl 2 a), .d (.sl 6 b)] 0x173ba05df1dc8edb45570074e9b791d3af6b0ba211e1a609767dfe4f038f71f9040899df4981afe50ffd7fe734e6dc9bdd1d61d21d4b⟩:SQ _)
def g14 a b c d e f:=(⟨_,pq 14 [.d (.sl 2 a), .agg [.d (.str b), .d (.sl 6 c), .d (.sl 6 d), .d (.sl 6 e), .d (.sl 7 f)]] 0x8cab8cadd42ec084d4e681b4199ee934ddb288bf9a40fcf70b853520b4391fdbd6fbfc718fc08d5f614f083b66078a3104e4229cc6bcd7d319bb65d85308fd539535afb2d5c7ebbcb39bd9c5d4d4447c001b79a3154afae2ed157298c09764bea973e6b4c0c05320f5b0a9ca93a15696657ce5a79540b9802ab9bf716121c9696032dab15e18e9987b70212b69adba0259e921927720a6e958c67434139ee9221438e5b37d8fc7fe7105d792f8a13be69e3283387fd28f90e0ea26d4aee566e9d6934cd1e91f9ebe11253b46a0c1619593b94d31406f53365f8de48058a6df3712b601db83de355c67ffefe4c55bd01c7321cba652e7da5a0d1f17dc4f3cf85c6b1980dedc65c93f723cdf05240b160d722e5631d5511e1b016099ee936cccc370017065dd1ec2d3a55187acdd5bf01aebd78886ca9f49342948ef04d10ce04e23faae9739e8abf6809e8ff2e7c69ece9e163d352096dc529e0e325afd7b4c740ce03ba0dd12e7e20d71d40c609f9212e4463ee839f5eb501f690c84⟩:SQ _)
def g7 a b:=(⟨_,pq 7 [.agg [.d (.sl 2 a), .d (.sl 5 b)]] 0x4811863240230e31307f9ade82ea54af458785ad9f224772ec5d5f9e0d4b17343ffbadcf7819a07ab4ce664f3bbf83e90323a0924535467cd087ed7064fa1a4db14fdeffa3e2d6aa3b05d83786ebdb7a05749c16ba9c576038cdd8b9b9d432d55aaa47a90efcecad50b40b66⟩:SQ _)
end
end Go.Vm
end
section
set_option maxRecDepth 100000
set_option maxHeartbeats 4000000
namespace Go.Vm
open Go.Proofs
def w6t (l:List En)(hl:l.length<=1000000)(hE: ∀x∈l,EnOK x):cF 24 [.d (.sl 2 (x0m l))]=some (.val [.int .i64 (x5y l)]):=by
 by_cases h4:4 < (l.length:Int)
 ·have hG:x5r l=true:=by unfold x5r;rw[x1y h4];rfl
  rw[y7v hG];refine cO rfl ?_;rw[(g24 ..).2];simp only[g24,go1,Nat.reduceAdd,x1f,x1y h4]
 ·refine cO rfl ?_;rw[(g24 ..).2];simp only[g24,go1,Nat.reduceAdd,x1f,x1j h4];have h4':l.length<=4:=by omega
  have hbd: ∀i,(∀e∈l.take i,e.2.length<=6)->(x1w (l.take i)).length<=24:=fun i h=>by
   have:=z2p h;rw[a1q]at this;omega
  refine x0w (fun i:Nat=>[.sl 2 (x0m l), .int .i64 (i:Int), .sl 1 (x0b ((l.take i).map (·.1))), .sl 1 (x0b (x1w (l.take i)))]) (fun i=>i<=l.length/\ ∀e∈l.take i,e.2.length<=6) (fun i=>l.length - i) (fun i hi=> ?_) 0 ⟨a0w _,by simp⟩
  obtain⟨hi,h6⟩:=hi;have hcb:=hbd i h6
  by_cases hlt:i < l.length
  ·have hx:=a0b hlt
   by_cases hc:6 < (l[i].2.length:Int)
   ·right
    have hG:x5r l=true:=by
     unfold x5r;rw[Bool.or_eq_true];exact .inr (List.any_eq_true.2 ⟨l[i],a1j hlt,x1y hc⟩)
    rw[y7v hG];simp only[go1,x1f,x0e,x0i hlt,x0g hlt,y2i hx,k7l,x1y hc]
   ·left
    refine⟨i+1,?_,⟨hlt,fun e he=> ?_⟩,by omega⟩
    ·have hf:=x6e (x0b ((l.take i).map (·.1))) [[.str l[i].1]] 16 (by rw[x0e,a1f,a1q];simp only[a0a,a0d];omega)
     have hf2:=x6e (x0b (x1w (l.take i))) (x0b l[i].2) 16 (by rw[x0e,x0e];omega)
     rw[z5b hx,x4y,z2o hx,<-y4h];simp only[go1,Nat.reduceAdd,a0a,a0d]at hf hf2;simp only[go1,x1f,x0i hlt,x0g hlt,y2i hx,k7l,x0e,x1j hc,a0a,a0d]at hf hf2 ⊢;simp only[go1,hf,hf2,x0a hlt (by omega)]
     rfl
    ·rw[a1e,hx]at he;rcases a1o.1 he with he|he
     ·exact h6 e he
     ·simp at he;subst he;omega
  ·have:i=l.length:=by omega
   subst this
   right
   rw[a0u]at h6 hcb;have hG:x5r l=false:=by
    unfold x5r;rw[Bool.or_eq_false_iff];refine⟨x1j h4,List.any_eq_false.2 fun e he=> ?_⟩
    have:=h6 e he;simp;omega
   have hO1:=z2u (l.map (·.1)) (by simp;omega)
   have hO2:=z2u (x1w l) (by omega)
   simp only[go1,x1f,x0f,a0u];refine x2k (r0:=Sum.inr (PRes.val [.int .i64 1])) (r1:=Sum.inr (PRes.val [.int .i64 (bif !y2c (x1w l)then 1 else bif !decide (l.map (·.1)).Nodup || !decide (x1w l).Nodup then 6 else 0)])) (fun e:En=>x4c (tb e.1)&&decide (0 < (e.2.length:Int))) l (fun i:Nat=>[.sl 2 (x0m l), .int .i64 (i:Int), .sl 1 (x0b (l.map (·.1))), .sl 1 (x0b (x1w l))]) rfl (fun i x hx=> ?_) (fun _=> ?_) ?_
   ·have hlt:=(a0c.1 hx).1;have hL:=y7w x.1 (hE _ (a0j hx)).n;have e1:decide ((x.2.length:Int)=0)= !decide (0 < (x.2.length:Int)):=by rw[a1g];simp
    simp only[go1,x1f,x0i hlt,x0g hlt,y2i hx,k7l,x0e,hL,x0a hlt (by omega),e1]
    cases x4c (tb x.1)<;>cases decide (0 < (x.2.length:Int))<;>rfl
   ·simp only[go1,x1f,x0f];refine x2k (r0:=Sum.inr (Sum.inr (PRes.val [.int .i64 1]))) (r1:=Sum.inr (Sum.inr (PRes.val [.int .i64 (bif !decide (l.map (·.1)).Nodup || !decide (x1w l).Nodup then 6 else 0)]))) (fun s:BA=>x3s (tb s)) (x1w l) (fun i:Nat=>[.int .i64 (i:Int), .sl 1 (x0b (l.map (·.1))), .sl 1 (x0b (x1w l))]) rfl (fun i x hx=> ?_) (fun _=> ?_) ?_
    ·have hlt:=(a0c.1 hx).1;have hsz:x.size<=100000:=by
      have hm:=a0j hx;unfold x1w at hm;obtain⟨e,he,hc⟩:=List.mem_flatMap.1 hm;exact(hE e he).c _ hc
     have hH:=z8d x hsz;have hrn:sy.rown (x0b (x1w l)) i=sy.row (x0b (x1w l)) (i:Int):=by rw[y1r,q2a,a0m]
     simp only[go1,x0e,x0i hlt,x0g hlt,a0m,hrn,x1c hx,hH,x0a hlt (by omega)]
     cases x3s (tb x)<;>rfl
    ·simp only[go1,x0e,x0f,hO1,hO2];cases decide (l.map (·.1)).Nodup<;>cases decide (x1w l).Nodup<;>rfl
    ·unfold y2c;cases List.all (x1w l) _<;>rfl
   ·unfold x5y u8u;rw[hG];cases List.all l _<;>cases y2c (x1w l)<;>rfl
def z9r (ens:List En)(k e c:Int):cF 111 [.d (.sl 2 (x0m ens)), .agg [.d (.int .i64 k), .d (.int .i64 e), .d (.int .i64 c)]]=some (.val [.bool (tyB ens k e c)]):=by
 have hA:(decide (k < 1) || decide (3 < k))= !(decide (k=1) || (decide (k=2) || decide (k=3))):=by
  rw[a1g];simp;omega
 have h13:decide (k=3)=true->decide (k=1)=false/\decide (k=2)=false:=fun h=>by
  have:=a0e h;exact⟨x1j (by omega),x1j (by omega)⟩
 unfold tyB;refine cO rfl ?_;rw[(g111 ..).2];simp only[g111,go1,x1f]
 revert hA h13
 cases decide (c < 0)<;>cases decide (8 < c)<;>cases decide (k < 1)<;>cases decide (3 < k)<;>cases decide (k=1)<;>cases decide (k=2)<;>cases decide (k=3)<;>intro hA h13<;>first|(cases hA;done)|(cases(h13 rfl).1;done)|(cases(h13 rfl).2;done)|(cases decide (0<=e)<;>rfl)|rfl
def k9q (s:BA)(hs:s.size<=100000):cF 112 [.d (.str s)]=some (.val [.bool (y0f s)]):=by
 have h:=z8d s hs;unfold y0f;refine cO rfl ?_;rw[(g112 ..).2];simp only[g112,go1,h,x1v];rw[show tb x7k=tb (bs [116,114,117,101])from rfl,show tb x4k=tb (bs [102,97,108,115,101])from rfl];cases x3s (tb s)<;>cases decide (tb s=tb (bs [116,114,117,101]))<;>rfl
abbrev dV (d:Dc):V:= .agg [.d (.str d.n), .d (.int .i64 d.k), .d (.int .i64 d.e), .d (.int .i64 d.c), .d (.str d.o), .d (.str d.q)]
def k0w (ens:List En)(x:Dc)(h:DcOK x):cF 61 [.d (.sl 2 (x0m ens)),dV x]=some (.val [.bool (x3z ens x)]):=by
 have c1:=y7w x.n h.n;have c2:=z9r ens x.k x.e x.c;have c3:=y7w x.o h.o;have c4:=k9q x.q h.q;unfold x3z v3y;obtain⟨n,k,e,c,o,q⟩:=x;refine cO rfl ?_;rw[(g61 ..).2];simp only[g61,go1,c1,c2,c3,c4,x1v];cases x4c (tb n)<;>cases tyB ens k e c<;>cases decide (tb o=tb (bs []))<;>cases decide (tb q=tb (bs []))<;>cases x4c (tb o)<;>cases y0f q<;>first|rfl|(simp only[go1,Nat.reduceAdd,Int.reduceEq,Int.reduceLT,Int.reduceLE,Int.reduceSub,Int.reduceAdd,c2,c3,c4];rfl)
def v1r (ns:List BA)(k m:Int)(s:BA)(o:Int)(a:List BA)(u:List Ex)(h:EqOK ⟨ns, .mk k m s o a u⟩):cF 62 [.agg [.d (.sl 1 (x0b ns)), .d (.int .i64 k), .d (.int .i64 m), .d (.str s), .d (.int .i64 o), .d (.sl 1 (x0b a)), .d (.sl 6 (Ex.rows u))]]=some (.val [.bool (eqB ⟨ns, .mk k m s o a u⟩)]):=by
 have h1:=u2y k m s o a u h.sz h.fn;have hl:ns.length<=1000000:=h.ns;have hst:=h.st;have eE:eqB ⟨ns, .mk k m s o a u⟩=(!(decide ((ns.length:Int)=0))&&(x3c (.mk k m s o a u)&&x9c (.mk k m s o a u))&& !(decide (1 < (ns.length:Int))&& !decide (k=13))&&ns.all fun s=>x4c (tb s)):=rfl
 rw[eE];have e1:decide ((ns.length:Int)=0)= !decide (0 < (ns.length:Int)):=by rw[a1g];simp
 have e2:decide (0 < (ns.length:Int))=true->decide (1 < (ns.length:Int))= !decide ((ns.length:Int)=1):=fun h=>by
  have:=a0e h;rw[a1g];simp;omega
 rw[e1];refine cO rfl ?_;rw[(g62 ..).2];simp only[g62,go1];refine x2k (r0:=PRes.val [.bool false]) (r1:=PRes.val [.bool (decide (0 < (ns.length:Int))&&(x3c (.mk k m s o a u)&&x9c (.mk k m s o a u))&&(decide ((ns.length:Int)=1) || decide (k=13)))]) (fun s:BA=>x4c (tb s)) ns (fun i=>[.int .i64 (i:Int), .sl 1 (x0b ns), .int .i64 k, .int .i64 m, .str s, .int .i64 o, .sl 1 (x0b a), .sl 6 (Ex.rows u)]) rfl (fun i x hx=> ?_) (fun _=> ?_) ?_
 ·have hlt:=(a0c.1 hx).1;have hL:=y7w x (hst x (a0j hx));simp only[go1,Nat.reduceAdd,oE,x0e,x0i hlt,x0g hlt,x1c hx,hL,x0a hlt (by omega)]
  cases x4c (tb x)<;>rfl
 ·simp only[go1,Nat.reduceAdd,oE,x0e,x0f,h1]
  try (cases decide (0 < (ns.length:Int))<;>cases x3c (.mk k m s o a u)&&x9c (.mk k m s o a u)<;>cases decide ((ns.length:Int)=1)<;>rfl)
 ·revert e2
  cases decide (0 < (ns.length:Int))with
  |false=>intro _;cases List.all ns _<;>rfl
  |true=>
   intro e2;rw[e2 rfl];cases List.all ns _<;>cases x3c (.mk k m s o a u)&&x9c (.mk k m s o a u)<;>cases decide ((ns.length:Int)=1)<;>cases decide (k=13)<;>rfl
def onB (d:Dc):Bool:=decide (tb d.o=tb (bs []))
def v4j (p:Dc->Bool)(N:Nat): ∀(l:List Dc) (k:Nat),k+l.length<=N->((l.zipIdx k).all fun x=>p x.1&&(!decide (x.2 < N) || onB x.1))=(l.all p&&y6m l)
 | [],k,_=>rfl
 |x::l,k,h=>by
  rw[List.zipIdx_cons,a1r,v4j p N l (k+1) (by simp only[a0a]at h;omega),a1r]
  have:y6m (x::l)=(onB x&&y6m l):=rfl;rw[this,x1y (by simp only[a0a]at h;omega)]
  cases p x<;>cases onB x<;>cases l.all p<;>cases y6m l<;>rfl
def w7r (p:Dc->Bool)(N:Nat): ∀(l:List Dc) (k:Nat),N<=k->((l.zipIdx k).all fun x=>p x.1&&(!decide (x.2 < N) || onB x.1))=l.all p
 | [],k,_=>rfl
 |x::l,k,h=>by
  rw[List.zipIdx_cons,a1r,w7r p N l (k+1) (by omega),a1r,x1j (by omega)]
  cases p x<;>rfl
def q0r (p:Dc->Bool)(a b c:List Dc):((a++b++c).zipIdx.all fun x=>p x.1&&(!decide (x.2 < a.length+b.length) || onB x.1))=((a++b++c).all p&&(y6m a&&y6m b)):=by
 rw[List.zipIdx_append,List.zipIdx_append,List.all_append,List.all_append,v4j _ _ a 0 (by omega),v4j _ _ b (0+a.length) (by omega),w7r _ _ c _ (by simp),List.all_append,List.all_append]
 cases a.all p<;>cases b.all p<;>cases c.all p<;>cases y6m a<;>cases y6m b<;>rfl
def k0x (n:Nd)(h:(x6t n).length<=1000000):cF 28 [nV n]=some (.own 123 6 (x0j (x6t n))):=by
 obtain⟨nm,ins,outs,vars,eqs⟩:=n;simp only[x6t,a0k]at h;have f1:=x6e [] (x0j ins) 72 (by rw[x0k];simp only[a0d];omega)
 have f2:=x6e (x0j ins) (x0j outs) 72 (by rw[x0k,x0k];omega)
 have f3:=x6e (x0j (ins++outs)) (x0j vars) 72 (by rw[x0k,x0k,a0k];omega)
 rw[<-y5o]at f3;simp only[go1,Nat.reduceAdd]at f1 f2 f3;refine cO rfl ?_;rw[(g28 ..).2];simp only[g28,go1,Nat.reduceAdd];simp only[a0h,f1,f2,f3,cond_true];rw[y5o,y5o];rfl
def q2p (l:List Dc)(h:l.length<=1000000):cF 27 [.d (.sl 6 (x0j l))]=some (.own 9 1 (x0b (l.map (·.n)))):=by
 refine cO rfl ?_;rw[(g27 ..).2];simp only[g27,go1,Nat.reduceAdd];refine x3x l.length (fun i=>[.sl 6 (x0j l), .int .i64 (i:Int), .sl 1 (x0b ((l.take i).map (·.n)))]) rfl (fun i hlt=> ?_) ?_
 ·have hx:=a0b hlt;have hf:=x6e (x0b ((l.take i).map (·.n))) [[.str l[i].n]] 16 (by rw[x0e,a1f,a1q];simp only[a0a,a0d];omega)
  rw[a1e,hx,a2j,List.map_append,a1m,a1w,x4y];simp only[go1,Nat.reduceAdd,a0a,a0d]at hf;simp only[go1,y1h,x0k,x0i hlt,x0g hlt,x3t hx,hf,a0a,a0d,x0a hlt (by omega)]
  rfl
 ·simp only[go1,x0k,x0f,a0u]
def sk4S {α:Type}(a b c d:D)(x:BA)(r:List D)(K:BA->Option α):(opS (sy.cell (sy.skip 4 (a::b::c::d:: .str x::r)) 0)).bind K=K x:=rfl
def k0v (ens:List En)(n:Nd)(h:NdOK n):cF 25 [.d (.sl 2 (x0m ens)),nV n]=some (.val [.bool (x8x ens n)]):=by
 have h1:=k0x n h.al;have hal:=h.al;have hdl:n.ins.length+n.outs.length<=1000000:=by
  unfold x6t at hal;simp only[a0k]at hal;omega
 have heo:=h.eo;have heq:=h.eq;have hdc:=h.dc;have hnm:=y7w n.n h.nm;have hz:=q0r (x3z ens) n.ins n.outs n.vars;have e:n.ins++n.outs++n.vars=x6t n:=rfl;rw[e]at hz;obtain⟨nm,ins,outs,vars,eqs⟩:=n;unfold x8x;generalize x6t ⟨nm,ins,outs,vars,eqs⟩=l at hal h1 hdc hz ⊢;simp only at h1 hdl heo heq hnm hz ⊢;have hw:IntKind.i64.wrap ((ins.length:Int)+(outs.length:Int))=((ins.length+outs.length:Nat):Int):=by rw[x0v (by omega) (by omega)];omega
 refine cO rfl ?_;rw[(g25 ..).2];simp only[g25,go1,h1];refine x2k (r0:=PRes.val [.bool false]) (r1:=PRes.val [.bool (eqs.all eqB&&(x4c (tb nm)&&decide (0 < (outs.length:Int))))]) (fun x:Dc × Nat=>x3z ens x.1&&(!decide (x.2 < ins.length+outs.length) || onB x.1)) l.zipIdx (fun i=>[.sl 2 (x0m ens), .sl 6 (x0j l), .int .i64 (i:Int), .str nm, .sl 6 (x0j ins), .sl 6 (x0j outs), .sl 6 (x0j vars), .sl 7 (x1z eqs)]) rfl (fun i x hx=> ?_) (fun _=> ?_) ?_
 ·rw[List.getElem?_zipIdx]at hx;cases hy:l[i]? with
  |none=>rw[hy]at hx;cases hx
  |some d=>
   rw[hy]at hx;simp only[Option.map_some,Option.some.injEq,a1z]at hx;subst hx;have hlt:=(a0c.1 hy).1;have c1:=k0w ens d (hdc d (a0j hy));have e5:decide ((i:Int) < ((ins.length+outs.length:Nat):Int))=decide (i < ins.length+outs.length):=by rw[a1g];simp;omega
   unfold onB;simp only[go1,oD,y1h,x0k,x0i hlt,x0g hlt,x3t hy,c1,hw,e5,sk4S,x1v,x0a hlt (by omega)]
   cases x3z ens d<;>cases decide (i < ins.length+outs.length)<;>cases decide (tb d.o=tb (bs []))<;>rfl
 ·rw[List.length_zipIdx];simp only[go1,x0f,x0k];refine x2k (r0:=Sum.inr (PRes.val [.bool false])) (r1:=Sum.inr (PRes.val [.bool (x4c (tb nm)&&decide (0 < (outs.length:Int)))])) eqB eqs (fun i=>[.int .i64 (i:Int), .str nm, .sl 6 (x0j ins), .sl 6 (x0j outs), .sl 6 (x0j vars), .sl 7 (x1z eqs)]) rfl (fun i x hx=> ?_) (fun _=> ?_) ?_
  ·have hlt:=(a0c.1 hx).1;have hok:=heo x (a0j hx);have hr:=x8v hx;obtain⟨ns,e⟩:=x;obtain⟨k,m,y,o,a,u⟩:=e;have c1:=v1r ns k m y o a u hok;have hr':sy.row (x1z eqs) (i:Int)= [.sl 1 (x0b ns), .int .i64 k, .int .i64 m, .str y, .int .i64 o, .sl 1 (x0b a), .sl 6 (Ex.rows u)]:=hr;simp only[go1,Nat.reduceAdd,oE,x1d,x0i hlt,x0g hlt,hr',c1,x0a hlt (by omega)]
   cases eqB ⟨ns, .mk k m y o a u⟩<;>rfl
  ·simp only[go1,x1d,x0f,hnm,x0k]
   try (cases x4c (tb nm)<;>rfl)
  ·cases List.all eqs _<;>rfl
 ·rw[hz];cases l.all (x3z ens)<;>cases y6m ins<;>cases y6m outs<;>rfl
def q2q (ens:List En)(nds:List Nd)(hE:ens.length<=1000000)(hN:nds.length<=1000000)(hEo: ∀x∈ens,EnOK x)(h: ∀n∈nds,NdOK n):cF 12 [.agg [.d (.sl 2 (x0m ens)), .d (.sl 5 (x1k nds))]]=some (.val [.int .i64 (y2l ens nds)]):=by
 have h1:=w6t ens hE hEo;have hO:=z2u (nds.map (·.n)) (by rw[a1f];exact hN)
 unfold y2l;refine cO rfl ?_;rw[(g12 ..).2];simp only[g12,go1,Nat.reduceAdd,h1];cases he:decide (x5y ens=0)with
 |false=>simp only[go1]
 |true=>
  simp only[go1,x0r];cases hz:decide ((nds.length:Int)=0)with
  |true=>rfl
  |false=>
   cases h6:decide (6 < (nds.length:Int))with
   |true=>rfl
   |false=>
    simp only[go1];have take1: ∀(p:Nd->Bool) {i:Nat} {x:Nd},nds[i]? =some x->(nds.take (i+1)).all p=((nds.take i).all p&&p x):=fun p i x hx=>by
     rw[a1e,hx,a2j,List.all_append,a1r,List.all_nil,a2a]
    refine x2k (r0:=PRes.val [.int .i64 4]) (r1:=PRes.val [.int .i64 (bif !nds.all (x8x ens)then 1 else bif !nds.all y6j || !decide (nds.map (·.n)).Nodup then 6 else 0)]) (fun n=> !x8m n) nds (fun i=>[.bool ((nds.take i).all (x8x ens)), .bool ((nds.take i).all y6j), .int .i64 (i:Int), .sl 2 (x0m ens), .sl 5 (x1k nds), .sl 1 (x0b ((nds.take i).map (·.n)))]) rfl (fun i x hx=> ?_) (fun _=> ?_) ?_
    ·have hlt:=(a0c.1 hx).1;have hk:=h x (a0j hx);have c1:=k0v ens x hk;have c2:=k0x x hk.al;have c3:=q2p (x6t x) hk.al;have c4:=z2u ((x6t x).map (·.n)) (by rw[a1f];exact hk.al)
     have hf:=x6e (x0b ((nds.take i).map (·.n))) [[.str x.n]] 16 (by rw[x0e,a1f,a1q];simp only[a0a,a0d];omega)
     simp only[go1,Nat.reduceAdd,a0a,a0d]at hf;rw[take1 _ hx,take1 _ hx,a1e,hx,a2j,List.map_append,a1m,a1w,x4y];have c4:cF 26 [.d (.sl 1 (x0b ((x6t x).map (·.n))))]=some (.val [.bool (y6j x)]):=c4;unfold x8m;simp only[go1,y3j,x0r,x0k,x1d,x0i hlt,x0g hlt,x3q hx,c1,c2,c3,c4,hf,a0a,a0d,x0a hlt (by omega)]
     cases decide (6 < (x.ins.length:Int))<;>cases decide (6 < (x.outs.length:Int))<;>cases decide (12 < (x.vars.length:Int))<;>cases decide (18 < (x.eqs.length:Int))<;>first|rfl|skip
     cases(nds.take i).all (x8x ens)<;>cases(nds.take i).all y6j<;>first|rfl|(simp only[go1,Nat.reduceAdd,Int.reduceEq,Int.reduceLT,Int.reduceLE,Int.reduceSub,Int.reduceAdd,y3j,x0r,x0k,x1d,x0i hlt,x0g hlt,x3q hx,c1,c2,c3,c4,hf,a0a,a0d,x0a hlt (by omega)];rfl)
    ·simp only[go1,x0r,x0f,a0u,hO];cases nds.all (x8x ens)<;>cases nds.all y6j<;>cases decide (nds.map (·.n)).Nodup<;>rfl
    ·rw[List.any_eq_not_all_not];cases List.all nds _<;>rfl
end Go.Vm
end
