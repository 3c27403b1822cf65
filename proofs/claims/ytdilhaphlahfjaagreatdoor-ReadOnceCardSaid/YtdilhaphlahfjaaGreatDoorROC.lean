/- Part ROC of the proof. What is proved by the whole: the statement that the claim names, with no condition. -/
import Derived.Test.YtdilhaphlahfjaaGreatDoorROB
set_option linter.all false
section
namespace Go.Vm
section
variable {P : Program} {M : List Nat} {h h' : List Box}
def inv (L:List Nat)(n b:Nat):Option Nat:=match L.idxOf? b with
 |some i=>some i
 |none=>if b < n then none else some (L.length+(b - n))
def w9k {L:List Nat}{n:Nat}(hnd:L.Nodup)(hlt: ∀b∈L,b < n)(i:Nat):inv L n (ext L n i)=some i:=by
 unfold inv ext;cases h:L[i]? with
 |some b=>simp only[y3s hnd h]
 |none=>
  have hi:L.length<=i:=List.getElem?_eq_none_iff.1 h;have hno:L.idxOf? (n+(i - L.length))=none:=by
   cases hq:L.idxOf? (n+(i - L.length))with
   |none=>rfl
   |some j=>have:=hlt _ (a0o (x4n hq));omega
  simp only[hno];rw[if_neg (by omega)]
  congr 1;omega
def q2k {L:List Nat}{n b i:Nat}(hlt: ∀b∈L,b < n)(h:inv L n b=some i):ext L n i=b:=by
 unfold inv at h;unfold ext;cases hq:L.idxOf? b with
 |some j=>
  rw[hq]at h;cases h;rw[x4n hq]
 |none=>
  rw[hq]at h;simp only at h;split at h
  ·cases h
  ·cases h;rw[a2b (by omega)]
   simp only;omega
def u6q {L:List Nat}{n b:Nat}(h:inv L n b=none):b ∉ L/\b < n:=by
 unfold inv at h;cases hq:L.idxOf? b with
 |some j=>rw[hq]at h;cases h
 |none=>
  rw[hq]at h;simp only at h;split at h
  ·exact⟨y5b hq,by assumption⟩
  ·cases h
def x5y (h:List Box)(L M':List Nat)(h':List Box):List Box:=
 (h.zipIdx.map fun xb=>match L.idxOf? xb.2 with
  |some i=>(h'.getD i .gone).ren (ext L h.length)
  |none=>xb.1.kill M')++(h'.drop L.length).map (Box.ren (ext L h.length))
def w3p {L M':List Nat}{b:Nat}{x:Box}(hlt: ∀b∈L,b < h.length)(hl:L.length<=h'.length)(hx:(x5y h L M' h')[b]? =some x):
  (∃i y,inv L h.length b=some i/\h'[i]? =some y/\x=y.ren (ext L h.length))\/(inv L h.length b=none/\ ∃y,h[b]? =some y/\x=y.kill M'):=by
 unfold x5y at hx
 by_cases hb:b < h.length
 ·rw[List.getElem?_append_left (by simpa using hb),a0m,a0k]at hx
  obtain⟨⟨y,k⟩,hy,rfl⟩:=hx;rw[List.getElem?_zipIdx,a0k]at hy;obtain⟨y',hy',he⟩:=hy;simp only[a1y,Prod.mk.injEq]at he;obtain⟨rfl,rfl⟩:=he;simp only;cases hq:L.idxOf? b with
  |some i=>
   left
   have hi:i < L.length:=(a0c.1 (x4n hq)).1;refine⟨i,h'[i]'(by omega),by unfold inv;rw[hq],a0b (by omega),?_⟩
   simp only;rw[a0i,a0b (by omega)];rfl
  |none=>
   right
   refine⟨?_,y',hy',rfl⟩;unfold inv;rw[hq];simp only;rw[if_pos hb]
 ·left
  rw[List.getElem?_append_right (by simp;omega),a0m,a0k]at hx
  obtain⟨y,hy,rfl⟩:=hx;simp only[a1f,List.length_zipIdx]at hy;rw[a1v]at hy;refine⟨_,y,?_,hy,rfl⟩;have hq:L.idxOf? b=none:=by
   cases hq:L.idxOf? b with
   |none=>rfl
   |some j=>exact absurd (hlt _ (a0o (x4n hq))) hb
  unfold inv;rw[hq];simp only;rw[if_neg hb]
def w9e (M':List Nat)(x:Box)(g:Gh)(b:Nat):(x.kill M').at? g b=x.at? g b:=by cases x<;>rfl
def x8f (P:Program)(M:List Nat)(f:FuncId)(args:List V)(h:List Box)(R:Ending->World->Gh->Prop)(h':List Box):Prop:=
 ∀(g:Gh) (w:World) (us:List Value),SimH g h w->z3z w g us args->
  Calls P f us.toArray w fun e w'=> ∃g',R e w' g'/\Keep M g h w g' h' w'
def RetV (r:V)(e:Ending)(w:World)(g:Gh):Prop:= ∃u,e= .returned u/\Rep w g u r
def q6c (p:V)(e:Ending)(w:World)(g:Gh):Prop:= ∃u,e= .panicked [{ v:=u,recovered:=false }]/\Rep w g u p
def x8f.ret {f:FuncId}{args:List V}{r:V}:x8f P M f args h (RetV r) h'↔x9s P M f args h r h':=by
 constructor
 ·intro hc g w us hs hu;refine(hc g w us hs hu).mono ?_
  rintro e w' ⟨g',⟨u,he,hr⟩,hk⟩
  exact⟨u,g',he,hr,hk⟩
 ·intro hc g w us hs hu;refine(hc g w us hs hu).mono ?_
  rintro e w' ⟨u,g',he,hr,hk⟩
  exact⟨g',⟨u,he,hr⟩,hk⟩
def x8f.j1z {f:FuncId}{args:List V}{L:List Nat}{R R':Ending->World->Gh->Prop}(hL:x7z h L args=true)
  (hR: ∀(g g':Gh) e w,(∀b o,g.Z b o->g'.Z b o)->(∀b,b < g.n->g'.blk (ext L h.length b)=g.blk b/\g'.val (ext L h.length b)=g.val b/\ext L h.length b < g'.n/\g'.cd (ext L h.length b)=g.cd b)->R e w g->R' e w g')
  (hc:x8f P M f (args.map (V.ren (tau L))) (x4s h L) R h'):
  x8f P (M.map (ext L h.length)) f args h R' (x5y h L (M.map (ext L h.length)) h'):=by
 obtain⟨q1,q2,q3,q4⟩:=y5w hL;intro g w us hs hu;generalize hσe:ext L h.length=σ;generalize hMe:M.map σ=M'
 let g2:Gh:= { Z:=g.Z,n:=L.length,blk:=fun i=>g.blk (σ i),val:=fun i=>g.val (σ i),cd:=fun i=>g.cd (σ i) }
 have hσ2: ∀b,b < g2.n->g2.blk b=g.blk (σ b)/\g2.val b=g.val (σ b)/\g2.cd b=g.cd (σ b):=fun b _=>⟨rfl,rfl,rfl⟩
 have hσL: ∀ {i b:Nat},L[i]? =some b->σ i=b:=fun hi=>by rw[<-hσe];simp[ext,hi]
 have hbox: ∀(i:Nat) x,(x4s h L)[i]? =some x-> ∃b y,L[i]? =some b/\σ i=b/\h[b]? =some y/\y.inB L=true/\x=y.ren (tau L)/\i < L.length:=by
  intro i x hx;simp only[x4s,a0m,a0k]at hx;obtain⟨b,hb,rfl⟩:=hx;have hlt:=q2 b (a0o hb);refine⟨b,h[b],hb,hσL hb,a0b hlt,?_,?_,(a0c.1 hb).1⟩
  ·have:=q4 b (a0o hb)
   rwa [a0i,a0b hlt]at this
  ·rw[a0i,a0b hlt];rfl
 have hat2: ∀(i:Nat) (y:Box),(y.ren (tau L)).at? g2 i=y.at? g (σ i):=fun i y=>by cases y<;>rfl
 have hown2: ∀k,x2l g2 (x4s h L) k-> ∃b y,b∈L/\h[b]? =some y/\y.at? g b=some k:=by
  rintro k ⟨i,x,hx,hk'⟩
  obtain⟨b,y,hb,e,hy,_,rfl,_⟩:=hbox i x hx;rw[hat2,e]at hk';exact⟨b,y,a0o hb,hy,hk'⟩
 have hown2': ∀k,x2l g2 (x4s h L) k->x2l g h k:=fun k hk=>by
  obtain⟨b,y,_,hy,hk'⟩:=hown2 k hk;exact⟨b,y,hy,hk'⟩
 have hs2:SimH g2 (x4s h L) w:=by
  refine⟨by simp[x4s,g2],fun i x hx=> ?_,fun i j x y k hx hy hkx hky=> ?_,fun k o hk' hz=>hs.zsep k o (hown2' k hk') hz,hs.zlt,hs.tab⟩
  ·obtain⟨b,y,hb,e,hy,hin,rfl,hi⟩:=hbox i x hx;refine u8f (g:=g) (g0:=g2) (σ:=σ) rfl hσ2 hi (Box.j0y hin) ?_;rw[<-hσe,Box.j0q hin,hσe,e];exact hs.rep b y hy
  ·obtain⟨b,y',hb,e,hy',_,rfl,_⟩:=hbox i x hx;obtain⟨c,z',hc,e',hz',_,rfl,_⟩:=hbox j y hy;rw[hat2,e]at hkx;rw[hat2,e']at hky;have:=hs.sep b c y' z' k hy' hz' hkx hky;subst this;have a1:=y3s q1 hb;have a2:=y3s q1 hc;rw[a1]at a2;exact Option.some.inj a2
 have hu2:z3z w g2 us (args.map (V.ren (tau L))):=by
  refine⟨by rw[a1f];exact hu.1,fun i u v h1 h2=> ?_⟩
  rw[a0m,a0k]at h2;obtain⟨v0,hv0,rfl⟩:=h2;have hin:v0.inB L=true:=by
   have: ∀ {cs:List V},V.j1l L cs=true-> ∀c∈cs,c.inB L=true:=by
    intro cs
    induction cs with
    |nil=>intro _ c hc;simp at hc
    |cons d ds ih=>
     intro hd c hc;have hd:(d.inB L&&V.j1l L ds)=true:=hd;rw[a0g]at hd;rcases a1m.1 hc with rfl|hc
     ·exact hd.1
     ·exact ih hd.2 c hc
   exact this q3 v0 (a0o hv0)
  refine z4p (g:=g) (g0:=g2) (σ:=σ) rfl hσ2 (hu.2 i u v0 h1 hv0) ?_ (V.j0y hin);rw[<-hσe,V.j0q hin]
 refine(hc g2 w us hs2 hu2).mono ?_
 rintro e0 w' ⟨g3,hru,hk⟩
 have hn3:g3.n=h'.length:=hk.heap.n;have hl3:L.length<=h'.length:=by rw[<-hn3];exact hk.le.n
 have hgn:g.n=h.length:=hs.n
 let g4:Gh:= { Z:=g3.Z,n:=h.length+(h'.length - L.length),blk:=fun b=>match inv L h.length b with
  |some i=>g3.blk i
  |none=>g.blk b,val:=fun b=>match inv L h.length b with
  |some i=>g3.val i
  |none=>g.val b,cd:=fun b=>match inv L h.length b with
  |some i=>g3.cd i
  |none=>g.cd b }
 have hie: ∀i,inv L h.length (σ i)=some i:=fun i=>by rw[<-hσe];exact w9k q1 q2 i
 have hei: ∀ {b i:Nat},inv L h.length b=some i->σ i=b:=fun hb=>by rw[<-hσe];exact q2k q2 hb
 have hσ4: ∀b,b < g3.n->g4.blk (σ b)=g3.blk b/\g4.val (σ b)=g3.val b/\σ b < g4.n/\g4.cd (σ b)=g3.cd b:=by
  intro i hi;refine⟨by simp only[g4,hie],by simp only[g4,hie],?_,by simp only[g4,hie]⟩
  show σ i < h.length+(h'.length - L.length);rw[<-hσe];unfold ext;cases hq:L[i]? with
  |some b=>have:=q2 b (a0o hq);simp only;omega
  |none=>have:=List.getElem?_eq_none_iff.1 hq;simp only;omega
 have h4o: ∀b,inv L h.length b=none->g4.blk b=g.blk b/\g4.val b=g.val b/\g4.cd b=g.cd b:=fun b hb=>by
  refine⟨?_,?_,?_⟩<;>simp only[g4,hb]
 have hMb: ∀b,inv L h.length b=none->b ∉ M':=by
  intro b hb hm;rw[<-hMe,a1z]at hm;obtain⟨i,_,rfl⟩:=hm;rw[hie]at hb;cases hb
 have hle:g.Le (· ∈M') g4:=by
  refine⟨hk.le.Z,by show g.n<=h.length+_;omega,fun b hb hm=> ?_,fun b hb hm=> ?_,fun b hb=> ?_⟩
  ·cases hq:inv L h.length b with
   |none=>exact(h4o b hq).1
   |some i=>
    have he:=hei hq;have hi:i < L.length:=by
     have:=hσ4
     by_cases hi:i < L.length
     ·exact hi
     ·exfalso;rw[<-hσe]at he;unfold ext at he;rw[a2b (by omega)]at he
      simp only at he;omega
    simp only[g4,hq];rw[hk.le.blk i hi (fun him=>hm (by rw[<-hMe,<-he];exact List.mem_map_of_mem him))]
    show g.blk (σ i)=g.blk b;rw[he]
  ·cases hq:inv L h.length b with
   |none=>exact(h4o b hq).2.1
   |some i=>
    have he:=hei hq;have hi:i < L.length:=by
     by_cases hi:i < L.length
     ·exact hi
     ·exfalso;rw[<-hσe]at he;unfold ext at he;rw[a2b (by omega)]at he
      simp only at he;omega
    simp only[g4,hq];rw[hk.le.val i hi (fun him=>hm (by rw[<-hMe,<-he];exact List.mem_map_of_mem him))]
    show g.val (σ i)=g.val b;rw[he]
  ·cases hq:inv L h.length b with
   |none=>exact(h4o b hq).2.2
   |some i=>
    have he:=hei hq;have hi:i < L.length:=by
     by_cases hi:i < L.length
     ·exact hi
     ·exfalso;rw[<-hσe]at he;unfold ext at he;rw[a2b (by omega)]at he
      simp only at he;omega
    simp only[g4,hq];rw[hk.le.cd i hi];show g.cd (σ i)=g.cd b;rw[he]
 have ho:Over M' w g w' g4:=⟨hle,fun b o hz=>hk.fr.cell (hs.zlt b o hz) (fun hk'=>hs.zsep b o (hown2' b hk') hz)⟩
 have hout: ∀ {b:Nat} {y:Box} {k:Nat},inv L h.length b=none->h[b]? =some y->y.at? g b=some k-> ¬x2l g2 (x4s h L) k:=by
  intro b y k hb hy hk' hO;obtain⟨c,z,hc,hz,hkz⟩:=hown2 k hO;have:=hs.sep b c y z k hy hz hk' hkz;subst this;exact(u6q hb).1 hc
 have hat4: ∀ {b:Nat} (y:Box),inv L h.length b=none->(y.kill M').at? g4 b=y.at? g b:=by
  intro b y hb;rw[w9e];obtain⟨e1,e2,_⟩:=h4o b hb;cases y<;>simp only[Box.at?,e1,e2]
 have hat3: ∀ {b i:Nat} (y:Box),inv L h.length b=some i->i < g3.n->(y.ren σ).at? g4 b=y.at? g3 i:=by
  intro b i y hb hi;rw[<-hei hb];exact q8b σ (hσ4 i hi).1 (hσ4 i hi).2.1 y
 have hA: ∀ {b:Nat} {x:Box},(x5y h L M' h')[b]? =some x->(∃i y,inv L h.length b=some i/\h'[i]? =some y/\x=y.ren σ)\/(inv L h.length b=none/\ ∃y,h[b]? =some y/\x=y.kill M'):=fun hx=>by
  rw[<-hσe];exact w3p q2 hl3 hx
 refine⟨g4,hR g3 g4 e0 w' (fun _ _ hz=>hz) (by rw[hσe];exact hσ4) hru,⟨?_,hle,hk.fr.mono hown2',fun b o hz=> ?_,?_⟩⟩
 ·refine⟨?_,fun b x hx=> ?_,fun b c x y k hx hy hkx hky=> ?_,?_,hk.heap.zlt,hk.heap.tab⟩
  ·show h.length+(h'.length - L.length)=_;simp[x5y]
  ·rcases hA hx with⟨i,y,hb,hy,rfl⟩|⟨hb,y,hy,rfl⟩
   ·have hi:i < g3.n:=by rw[hn3];exact(a0c.1 hy).1
    rw[<-hei hb];exact w7s (g:=g3) (g':=g4) (σ:=σ) (fun _ _ hz=>hz) hσ4 hi (hk.heap.rep i y hy)
   ·exact x1n.over ho (by rw[hgn];exact(u6q hb).2) (hMb b hb) (fun k hk'=>hk.fr.block k ((hs.rep b y hy).lt hk') (hout hb hy hk')) (hs.rep b y hy)
  ·rcases hA hx with⟨i,x',hb,hx',rfl⟩|⟨hb,x',hx',rfl⟩<;>rcases hA hy with⟨j,y',hc',hy',rfl⟩|⟨hc',y',hy',rfl⟩
   ·rw[hat3 x' hb (by rw[hn3];exact(a0c.1 hx').1)]at hkx
    rw[hat3 y' hc' (by rw[hn3];exact(a0c.1 hy').1)]at hky
    have:=hk.heap.sep i j x' y' k hx' hy' hkx hky;subst this;rw[<-hei hb,<-hei hc']
   ·rw[hat3 x' hb (by rw[hn3];exact(a0c.1 hx').1)]at hkx
    rw[hat4 y' hc']at hky;exfalso;rcases hk.own k ⟨i,x',hx',hkx⟩with h1|h1
    ·exact hout hc' hy' hky h1
    ·have:=(hs.rep c y' hy').lt hky;omega
   ·rw[hat3 y' hc' (by rw[hn3];exact(a0c.1 hy').1)]at hky
    rw[hat4 x' hb]at hkx;exfalso;rcases hk.own k ⟨j,y',hy',hky⟩with h1|h1
    ·exact hout hb hx' hkx h1
    ·have:=(hs.rep b x' hx').lt hkx;omega
   ·rw[hat4 x' hb]at hkx;rw[hat4 y' hc']at hky;exact hs.sep b c x' y' k hx' hy' hkx hky
  ·rintro k o ⟨b,x,hx,hkx⟩ hz
   rcases hA hx with⟨i,x',hb,hx',rfl⟩|⟨hb,x',hx',rfl⟩
   ·rw[hat3 x' hb (by rw[hn3];exact(a0c.1 hx').1)]at hkx
    exact hk.heap.zsep k o ⟨i,x',hx',hkx⟩ hz
   ·rw[hat4 x' hb]at hkx;rcases hk.znew k o hz with h1|h1|h1
    ·exact hs.zsep k o ⟨b,x',hx',hkx⟩ h1
    ·have:=(hs.rep b x' hx').lt hkx;omega
    ·exact hout hb hx' hkx h1
 ·rcases hk.znew b o hz with h1|h1|h1
  ·exact .inl h1
  ·exact .inr (.inl h1)
  ·exact .inr (.inr (hown2' b h1))
 ·rintro k ⟨b,x,hx,hkx⟩
  rcases hA hx with⟨i,x',hb,hx',rfl⟩|⟨hb,x',hx',rfl⟩
  ·rw[hat3 x' hb (by rw[hn3];exact(a0c.1 hx').1)]at hkx
   rcases hk.own k ⟨i,x',hx',hkx⟩with h1|h1
   ·exact .inl (hown2' k h1)
   ·exact .inr h1
  ·rw[hat4 x' hb]at hkx;exact .inl ⟨b,x',hx',hkx⟩
def x9s.j1z {f:FuncId}{args:List V}{L:List Nat}{r:V}(hL:x7z h L args=true)(hc:x9s P M f (args.map (V.ren (tau L))) (x4s h L) r h'):
  x9s P (M.map (ext L h.length)) f args h (r.ren (ext L h.length)) (x5y h L (M.map (ext L h.length)) h'):=
 x8f.ret.1 (x8f.j1z hL (fun _ _ _ _ hz hσ ⟨u,he,hr⟩=>⟨u,he,u2g hz hσ hr⟩) (x8f.ret.2 hc))
def x8f.j2e {f:FuncId}{args:List V}{L:List Nat}{p:V}(hL:x7z h L args=true)(hc:x8f P M f (args.map (V.ren (tau L))) (x4s h L) (q6c p) h'):
  x8f P (M.map (ext L h.length)) f args h (q6c (p.ren (ext L h.length))) (x5y h L (M.map (ext L h.length)) h'):=
 x8f.j1z hL (fun _ _ _ _ hz hσ ⟨u,he,hr⟩=>⟨u,he,u2g hz hσ hr⟩) hc
end
structure CfgO where
 inl:List FuncId
 mint:List FuncId
 osl:List Nat:=[]
 dead:List FuncId:=[]
 own:List (Nat × List (Nat × TypeId)):=[]
 stop:List Nat:=[]
def v4d (p:V):V:= .tup [.tup [],p]
def y0c:V->Option V
 | .tup [.tup [],p]=>some p
 |_=>none
inductive Callee where
 |fn (f:FuncId)
 |yld (b:Nat) (R:RecI)
section
variable (A : Sy) (P : Program)
def y5m (h:List Box)(t:TypeId)(a b:V):Tree (List Nat × List Box × V):=
 match elT P t with
 |some (e,sz,by_,z)=>match decide (z.cells.size=sz),decide (0 < sz),v3d h sz b with
  |true,true,some news=>match a with
   | .own c=>match h[c]? with
     |some (.arr e' sz' rows)=>match decide (e'=e),decide (sz'=sz)with
      |true,true=>chk (A.fits rows news by_) (.ret ([c],(h.map (Box.kill [c])).set c (.arr e sz (A.rapp rows news)), .own c))
      |_,_=> .fail
     |_=> .fail
   | .nils=>chk (A.fits [] news by_) (.ret ([],h++[.arr e sz news], .own h.length))
   |_=> .fail
  |_,_,_=> .fail
 |none=> .fail
def z2o (h:List Box)(t:TypeId)(a v:V):Tree (List Box):=
 match v.j0f,v.j0g h with
 |some ns,true=>match a with
  | .ptr b off=>match h[b]? with
    |some (.cells (.ty bt) vs)=>match ns.all (V.j2d h),decide (szO P t=some ns.length),decide (off+ns.length<=vs.length)with
     |true,true,true=> .ret (h.set b (.cells (.ty bt) (vs.take off++ns++vs.drop (off+ns.length))))
     |_,_,_=> .fail
    |_=> .fail
  | .pml b sz i off=>match h[b]?,z2r P 9 t with
    |some (.arr e sz' rows),some ss=>match decide (sz'=sz),v2d ss ns with
     |true,some ds=>match decide (szO P t=some ds.length),decide (off+ds.length<=sz)with
      |true,true=>chk (A.inrn i rows) (.ret (h.set b (.arr e sz (A.rput rows i off ds))))
      |_,_=> .fail
     |_,_=> .fail
    |_,_=> .fail
  |_=> .fail
 |_,_=> .fail
def isZ:Operand->Bool
 | .const (.int _ n)=>decide (n=0)
 |_=>false
def w8s (h:List Box)(t:TypeId)(z0:Bool)(a b:V):Tree (List Box × V):=
 match elT P t,a,b with
 |some (e,sz,by_,z), .d (.int _ n), .d (.int _ m)=>match z0 with
  |true=>chk (A.ieq n 0) (chk (A.mkok0 m by_) (.ret (h++[.arr e sz []], .own h.length)))
  |false=>match z2r P 9 e with
   |some ss=>match y2v ss z.cells.toList,decide (ss.length=sz)with
    |true,true=>chk (A.mkok n m by_) (.ret (h++[.arr e sz (A.rep n (ss.map y6g))], .own h.length))
    |_,_=> .fail
   |none=> .fail
 |_,_,_=> .fail
def k3n (h:List Box)(t:TypeId)(a q v:V):Tree (List Box):=
 match v4q P t,a,q with
 |some (e,kk), .map b, .d k=>match h[b]?,z2r P 9 e,kk.j2b k with
  |some (.mp kk' rows),some [s],true=>match decide (kk'=kk),v.toD s with
   |true,some x=> .ret (h.set b (.mp kk (A.mput k x rows)))
   |_,_=> .fail
  |_,_,_=> .fail
 |_,_,_=> .fail
def w9n (h:List Box)(t:TypeId)(a:V)(hi:Option V):Tree (List Nat × List Box × V):=
 match a with
 | .own b=>match h[b]? with
   |some (.arr e' sz rows)=>match elO P t,y7p (A.rlen rows) hi with
    |some (_,sz'),some r=>match decide (sz'=sz)with
     |true=>chk (A.cutok 0 r (A.rlen rows)) (.ret ([b],(h.map (Box.kill [b])).set b (.arr e' sz (A.head rows r)), .own b))
     |false=> .fail
    |_,_=> .fail
   |_=> .fail
 |_=> .fail
def v3p (h:List Box)(t:TypeId)(v:V):Tree (List Box × V):=match P.underlying t,v with
 |some .string, .d (.str s)=> .ret (h++[.cells .sit [.d (.str s), .d (.int .i64 0)]], .ptr h.length 0)
 |_,_=> .fail
def w8n (h:List Box)(v:V)(isS:Bool):Tree (List Box × V):=match v,isS with
 | .ptr b 0,true=>match h[b]? with
   |some (.cells .sit [.d (.str s), .d (.int .i64 p)])=> .ite (A.ilt p (A.slen s))
     (.ret (h.set b (.cells .sit [.d (.str s), .d (.int .i64 (A.add p (A.rwid s p)))]), .tup [.d (.bool true), .d (.int .i64 p), .d (.int .i32 (A.rdec s p))]))
     (.ret (h, .tup [.d (.bool false)]))
   |_=> .fail
 |_,_=> .fail
def z7w (h:List Box)(B:Operand->V)(o:Oper):Tree (List Nat × List Box × V):=(w4v A P h B o).bind fun x=> .ret ([],h,x)
def opT (h:List Box)(B:Operand->V)(o:Oper):Tree (List Nat × List Box × V):=
 match o.op with
 | .assign y=>match B y with
   | .nils=>match elO P o.type with
     |some (e,sz)=> .ret ([],h++[.arr e sz []], .own h.length)
     |none=> .ret ([],h, .nils)
   |v=> .ret ([],h,v)
 | .box t y=>match (B y).j0f,(B y).j0g h with
   |some vs,true=> .ret ([],h++[.cells (.ty t) vs], .ptr h.length 0)
   |_,_=> .fail
 | .alloc t=>match z1n P t with
   |some z=>match (x4v z).j0f with
    |some vs=> .ret ([],h++[.cells (.ty t) vs], .ptr h.length 0)
    |none=> .fail
   |none=> .fail
 | .store t y z=>(z2o A P h t (B y) (B z)).bind fun h'=> .ret ([],h', .any)
 | .makeSlice t y z=>(w8s A P h t (isZ y) (B y) (B z)).bind fun r=> .ret ([],r.1,r.2)
 | .makeMap t r=>match r,v4q P t with
   |none,some (_,kk)=> .ret ([],h++[.mp kk []], .map h.length)
   |_,_=> .fail
 | .mapUpdate t y z r=>(k3n A P h t (B y) (B z) (B r)).bind fun h'=> .ret ([],h', .any)
 | .insert t y z r=>(k3n A P h t (B y) (B z) (B r)).bind fun h'=> .ret ([],h', .any)
 | .buildSlice t n parts=>match w8v P t n (parts.toList.map fun q=>(q.1,B q.2)),(parts.toList.all fun q=>(B q.2).j0g h)with
   |some (e,sz,vs),true=>match z2r P 9 e with
    |some ss=>match y5t ss sz n vs,decide (n<=16777216)with
     |some rows,true=> .ret ([],h++[.arr e sz rows], .own h.length)
     |_,_=> .fail
    |none=> .fail
   |_,_=> .fail
 | .call c=>match c with
   |⟨.builtin .append,⟨[y,z]⟩,⟨[t,t']⟩⟩=>match decide (t'=t)with
    |true=>y5m A P h t (B y) (B z)
    |false=> .fail
   |_=>z7w A P h B o
 | .range t y=>(v3p P h t (B y)).bind fun r=> .ret ([],r.1,r.2)
 | .next i s=>(w8n A h (B i) s).bind fun r=> .ret ([],r.1,r.2)
 | .slice t y lo hi mx=>match B y,lo,mx with
   | .own _,none,none=>w9n A P h t (B y) (hi.map B)
   |_,_,_=>z7w A P h B o
 |_=>z7w A P h B o
def u2p:List TypeId->List D->Option (List V)
 | [],[]=>some []
 | [],_::_=>none
 |t::ts,ds=>match z2r P 9 t,y2u P t with
  |some ss,true=>match decide (ss.length<=ds.length),u2p ts (ds.drop ss.length)with
   |true,some vs=>some (.agg ((ds.take ss.length).map .d)::vs)
   |_,_=>none
  |some [_],false=>match ds with
   |d::ds=>match u2p ts ds with
    |some vs=>some (.d d::vs)
    |none=>none
   | []=>none
  |_,_=>none
def mkV (ts:List TypeId)(ds:List D):Option V:=match u2p P ts ds with
 |some [v]=>some v
 |some vs=>some (.tup vs)
 |none=>none
def shR:List TypeId->Option (List Sh)
 | []=>some []
 |t::ts=>match z2r P 9 t,shR ts with
  |some a,some b=>some (a++b)
  |_,_=>none
def Sh.flat:Sh->Bool
 | .sl _=>false
 |_=>true
def kvT (f:FuncId)(vs:List V):Tree V:=match Nat.beq f gP,vs with
 |true,[.d (.str s), .d (.int .i64 a), .d (.int .i64 b)]=>match decide (a=10/\b=64)with
  |true=>chk (A.ile (A.slen s) 1000000) (.ret (.tup [.d (.int .i64 (A.pnum s)), .ifn (A.pok s)]))
  |false=> .fail
 |_,_=> .fail
def KV (P:Program):Prop:= ∀s:BA,s.size<=1000000->z1m P gP [.d (.str s), .d (.int .i64 10), .d (.int .i64 64)] (.tup [.d (.int .i64 (z7v s)), .ifn (w4s s)])
def u0t (f:FuncId)(vs:List V)(ts:List TypeId):Tree V:=match shR P ts with
 |some ss=> .call f vs fun ds=>(x7d A ss ds 0).bind fun xs=>match mkV P ts xs with
  |some v=> .ret v
  |none=> .fail
 |none=>kvT A f vs
def q6r (t:TypeId)(v:V):Option (List D):=match z2r P 9 t,y2u P t,v with
 |some ss,true, .agg cs=>v2d ss cs
 |some [s],false,v=>match v.toD s with
  |some x=>some [x]
  |none=>none
 |_,_,_=>none
def k7c (t:TypeId)(v:V):V:=match q6r P t v,y2u P t with
 |some ds,true=> .agg (ds.map .d)
 |some [d],false=> .d d
 |_,_=>v
def u1p:List TypeId->List V->List V
 |t::ts,v::vs=>k7c P t v::u1p ts vs
 |_,vs=>vs
def w4u (f:FuncId):List TypeId:=match gG.contains f with
 |true=>[]
 |false=>match P.funcs[f]? with
  |some fn=>fn.params.toList
  |none=>[]
def x5f (P:Program)(B:Operand->V)(o:Oper):Option (FuncId × List V):=match o.op with
 | .call ⟨.value y,args,_⟩=>match z6p (match y with
   | .func f=> .fn f []
   |y=>B y) (args.toList.map B)with
   |some (f,vs)=>match q6x P f with
    |none=>some (f,vs)
    |some _=>none
   |none=>none
 |_=>none
def w6n (B:Operand->V)(o:Oper):Option (Nat × RecI × List V):=match o.op with
 | .call ⟨.value y,args,_⟩=>match B y with
   | .yld b R=>some (b,R,args.toList.map B)
   |_=>none
 |_=>none
variable (ent : Callee -> List V -> List Box -> Tree (List Nat × V × List Box)) (C : CfgO) (n0 : Nat) (M0 : List Nat)
def y8o (s:VSt)(o:Oper)(f:FuncId):Tree VSt:=
 let s1:=s.frz (fzl s o)
 match x5f P s1.get o,z1r P f with
 |some (_,vs0),some ts=>match u1p P (w4u P f) vs0 with
  |vs=>match vs.all V.j0e with
  |true=>match C.mint.contains f with
   |true=>match ts with
    | [t]=>match elO P t with
      |some (e,sz)=> .mint f vs e sz fun rows=> .ret (s1.next [] (s1.h++[.arr e sz rows]) o.dst (.own s1.h.length))
      |none=> .fail
    |_=> .fail
   |false=>match shR P ts with
    |some ss=>match ss.all Sh.flat with
     |true=>(u0t A P f vs ts).bind fun v=> .ret (s.next [] s.h o.dst v)
     |false=>(u0t A P f vs ts).bind fun v=> .ret (s1.next [] s1.h o.dst v)
    |none=>(u0t A P f vs ts).bind fun v=> .ret (s1.next [] s1.h o.dst v)
  |false=> .fail
 |_,_=> .fail
def v2t (s:VSt)(o:Oper):Tree (Option V × VSt):=match x5f P s.get o with
 |some (f,vs)=>match C.inl.contains f,z1r P f with
  |true,some _=>(ent (.fn f) vs s.h).bind fun r=>match okM n0 M0 r.1 with
   |true=>match y0c r.2.1 with
    |none=> .ret (none,s.next r.1 r.2.2 o.dst r.2.1)
    |some p=> .ret (some p,s.next r.1 r.2.2 none .any)
   |false=> .fail
  |_,_=>(y8o A P C s o f).bind fun s'=> .ret (none,s')
 |none=>match o.op with
  | .panic y=>match s.get y with
    | .ifc t cs=> .ret (some (.ifc t cs),s)
    |_=> .fail
  |_=>
   let s1:=s.frz (fzl s o)
   (opT A P s1.h s1.get o).bind fun r=>match okM n0 M0 r.1 with
    |true=> .ret (none,s1.next r.1 r.2.1 o.dst r.2.2)
    |false=> .fail
def v9z (s:VSt)(o:Oper):Tree (Option V × VSt):=match z8n o,w6n s.get o with
 |true,some (b,R,vs)=>(ent (.yld b R) vs s.h).bind fun r=>match okM n0 M0 r.1 with
  |true=> .ret (none,s.next r.1 r.2.2 o.dst r.2.1)
  |false=> .fail
 |true,none=>v2t A P ent C n0 M0 s o
 |false,_=> .fail
def mintB (P:Program):VSt->List (Nat × Nat × TypeId)->VSt
 |s,[]=>s
 |s,(b,off,t)::l=>match s.h[b]?,elO P t with
  |some (.cells k vs),some (e,sz)=>match vs[off]? with
   |some .nils=>mintB P ⟨s.t,(s.h.set b (.cells k (vs.set off (.own s.h.length))))++[.arr e sz []]⟩ l
   |_=>mintB P s l
  |none,some (e,sz)=>match s.t[off]? with
   |some .nils=>mintB P ⟨s.t.set off (.own s.h.length),s.h++[.arr e sz []]⟩ l
   |_=>mintB P s l
  |_,_=>mintB P s l
def mintP (P:Program):VSt->List (Nat × Nat × Nat × Nat × TypeId)->VSt
 |s,[]=>s
 |s,(b,off,b2,off2,t)::l=>match s.h[b]?,s.h[b2]?,elO P t,decide (b=b2)with
  |some (.cells k vs),some (.cells k2 vs2),some (e,sz),false=>match vs[off]?,vs2[off2]? with
   |some .nils,some .nils=>mintP P ⟨s.t,((s.h.set b (.cells k (vs.set off (.own s.h.length)))).set b2 (.cells k2 (vs2.set off2 (.own s.h.length))))++[.arr e sz []]⟩ l
   |_,_=>mintP P s l
  |_,_,_,_=>mintP P s l
def k3x (P:Program)(t:TypeId):V->Option V
 | .nils=>match elO P t with
   |some (_,sz)=>some (.d (.sl sz []))
   |none=>none
 | .ifn true=>match z2r P 9 t with
   |some ss=>some (.ifo t true (ss.map y6g))
   |none=>none
 |_=>none
def datB (P:Program):VSt->List (Nat × Nat × TypeId)->VSt
 |s,[]=>s
 |s,(b,off,t)::l=>match s.h[b]? with
  |some (.cells k vs)=>match vs[off]? with
   |some (.own c)=>datB P (s.frz [c]) l
   |some v=>match k3x P t v with
    |some x=>datB P ⟨s.t,s.h.set b (.cells k (vs.set off x))⟩ l
    |none=>datB P s l
   |none=>datB P s l
  |none=>match s.t[off]? with
   |some (.own c)=>datB P (s.frz [c]) l
   |some v=>match k3x P t v with
    |some x=>datB P ⟨s.t.set off x,s.h⟩ l
    |none=>datB P s l
   |none=>datB P s l
  |_=>datB P s l
def w0r (s:VSt)(o:Oper):List (Nat × Nat × TypeId):=match o.dst with
 |some d=>match C.own.lookup d with
  |some l=>l.map fun q=>(s.h.length,q.1,q.2)
  |none=>[]
 |none=>[]
def forceD.{v}{β:Type v}(x:D)(K:D->β):β:=match x with
 | .int k n=>K (.int k n)
 | .bool b=>K (.bool b)
 | .str s=>K (.str s)
 | .sl sz rows=>K (.sl sz rows)
def forceV.{v}{β:Type v}(x:V)(K:V->β):β:=match x with
 | .any=>K .any
 | .nils=>K .nils
 | .d x=>forceD x fun x=>K (.d x)
 | .agg cs=>K (.agg cs)
 | .tup cs=>K (.tup cs)
 | .own b=>K (.own b)
 | .ptr b off=>K (.ptr b off)
 | .mv f b off=>K (.mv f b off)
 | .ifp f b off=>K (.ifp f b off)
 | .pel cs=>K (.pel cs)
 | .pml b sz i off=>K (.pml b sz i off)
 | .nilp=>K .nilp
 | .fn f cs=>K (.fn f cs)
 | .nilf=>K .nilf
 | .ifn b=>K (.ifn b)
 | .ifc t cs=>K (.ifc t cs)
 | .ifo t b cs=>K (.ifo t b cs)
 | .map b=>K (.map b)
 | .yld b R=>K (.yld b R)
 | .osl b s l n=>K (.osl b s l n)
def forceL.{v}{β:Type v}:List V->(List V->β)->β
 | [],K=>K []
 |v::vs,K=>forceV v fun v'=>forceL vs fun vs'=>K (v'::vs')
def forceB.{v}{β:Type v}(x:Box)(K:Box->β):β:=match x with
 | .gone=>K .gone
 | .mp kk rows=>K (.mp kk rows)
 | .cells t vs=>forceL vs fun vs'=>K (.cells t vs')
 | .arr e sz rows=>K (.arr e sz rows)
def forceH.{v}{β:Type v}:List Box->(List Box->β)->β
 | [],K=>K []
 |v::vs,K=>forceB v fun v'=>forceH vs fun vs'=>K (v'::vs')
def forceSp.{u,v}{α:Type u}{β:Type v}:List α->(List α->β)->β
 | [],K=>K []
 |v::vs,K=>forceSp vs fun vs'=>K (v::vs')
def x6k {β:Type}(s:VSt)(K:VSt->Tree β):Tree β:=forceL s.t fun t=>forceH s.h fun h=>K ⟨t,h⟩
def k4r (o:Oper):Bool:=match o.op with
 | .move _=>true
 | .pick .. =>true
 | .load .. =>true
 | .fieldAddr .. =>true
 | .indexAddr .. =>true
 | .index .. =>true
 | .binOp .. =>true
 | .unOp .. =>true
 | .convert .. =>true
 | .extract .. =>true
 | .nilCheck _=>true
 | .lookup .. =>true
 | .call ⟨.builtin .len,_,_⟩=>true
 | .call ⟨.builtin .max,_,_⟩=>true
 | .call ⟨.builtin .min,_,_⟩=>true
 | .call ⟨.value (.func f),_,_⟩=>match C.inl.contains f,z1r P f with
   |false,some ts=>match shR P ts with
    |some ss=>ss.all Sh.flat
    |none=>false
   |_,_=>false
 |_=>false
def u2c (d:Nat):List Oper->Option Nat
 | []=>none
 |o::os=>match k4r P C o with
  |true=>match o.op,o.guard,o.dst with
   | .pick (.tmp d') _ _,none,some _=>match decide (d'=d)with
     |true=>some 1
     |false=>(u2c d os).map (· +1)
   |_,_,_=>(u2c d os).map (· +1)
  |false=>none
def q7y (ops:Array Oper)(o:Oper)(os:List Oper):Option Nat:=match o.dst,o.guard,os with
 |some d,none,o2::_=>match o2.guard with
  |some (j,_)=>match decide (j+(os.length+1)=ops.size)with
   |true=>u2c P C d os
   |false=>none
  |none=>none
 |_,_,_=>none
def y3a (s:VSt)(o:Oper):Tree V:=match z8n o with
 |false=> .fail
 |true=>match x5f P s.get o with
 |some (f,_)=>match x5f P (s.frz (fzl s o)).get o,z1r P f with
  |some (_,vs0),some ts=>match u1p P (w4u P f) vs0 with
   |vs=>match vs.all V.j0e,shR P ts with
    |true,some ss=>match ss.all Sh.flat with
     |true=>u0t A P f vs ts
     |false=> .fail
    |_,_=> .fail
  |_,_=> .fail
 |none=>w4v A P s.h s.get o
def u8x (ops:Array Oper):List Oper->VSt->Tree VSt
 | [],s=> .ret s
 |o::os,s=>
  let exec:VSt->Tree VSt:=fun s=>(y3a A P s o).bind fun x=>x6k (s.next [] s.h o.dst x) (u8x ops os)
  let pass:VSt->Tree VSt:=fun s=>x6k (s.next [] s.h o.dst (.tup [])) (u8x ops os)
  match o.guard with
  |none=>exec s
  |some (j,want)=>match (ops[j]?).bind (·.dst)with
   |some t=>match s.t[t]? with
    |some (.d (.bool c))=>match want with
     |true=> .ite c (exec (s.j1n t true)) (pass (s.j1n t false))
     |false=> .ite c (pass (s.j1n t true)) (exec (s.j1n t false))
    |some (.tup [])=>pass s
    |_=> .fail
   |none=> .fail
def y6e (t:List V):List Oper->List V
 | []=>t
 |o::os=>y6e (match o.dst with
  |some d=>t.set d .any
  |none=>t) os
def y2m (d:Nat):List Oper->Nat
 | []=>d
 |o::os=>y2m (o.dst.getD d) os
def u1l (ops:Array Oper):Nat->List Oper->VSt->Tree (Option V × VSt)
 |_,[],s=> .ret (none,s)
 |k+1,_::os,s=>u1l ops k os s
 |0,o::os,s=>
  let exec:VSt->Tree (Option V × VSt):=fun s=>(v9z A P ent C n0 M0 s o).bind fun q=>match q.1 with
   |some p=> .ret (some p,q.2)
   |none=>x6k (mintB P q.2 (w0r C s o)) fun s'=>match q7y P C ops o os with
    |some L=> .cut ((u8x A P ops (os.take L) s').bind fun s2=>match s2.t[y2m 0 (os.take L)]? with
      |some (.d (.bool b))=> .ret (.inl [.bool b])
      |_=> .fail) fun ds=> .cB (A.cell ds 0) fun b=>x6k ⟨(y6e s'.t (os.take L)).set (y2m 0 (os.take L)) (.d (.bool b)),s'.h⟩ (u1l ops L os)
    |none=>u1l ops 0 os s'
  let pass:VSt->Tree (Option V × VSt):=fun s=>x6k (s.next [] s.h o.dst (.tup [])) (u1l ops 0 os)
  match o.guard with
  |none=>exec s
  |some (j,want)=>match (ops[j]?).bind (·.dst)with
   |some t=>match s.t[t]? with
    |some (.d (.bool c))=>match want with
     |true=> .ite c (exec (s.j1n t true)) (pass (s.j1n t false))
     |false=> .ite c (pass (s.j1n t true)) (exec (s.j1n t false))
    |some (.tup [])=>pass s
    |_=> .fail
   |none=> .fail
end
section
variable {P : Program} {M : List Nat} {h h' h2 : List Box} {B : Operand -> V} {o : Oper} {x : V} {E : Env} {r : List Nat × List Box × V}
def z9y {a b:LL}{k:Nat}(h:sy.fits a b k=true):(a.length+b.length)<=maxLen/\(a.length+b.length)*k<=140737488355328:=by
 have h:(a.length+b.length)*(k+1)<=140737488355328:=a0f h;have h1:(a.length+b.length)*k<=(a.length+b.length)*(k+1):=Nat.mul_le_mul_left _ (by omega)
 have h2:(a.length+b.length)<=(a.length+b.length)*(k+1):=Nat.le_mul_of_pos_right _ (by omega)
 exact⟨by simp only[maxLen];omega,by omega⟩
def y4f {y z:Operand}{ts:Array TypeId}{t:TypeId}(hop:o.op= .call { callee:= .builtin .append,args:= #[y,z],argTypes:=ts })(hts:ts= #[t,t])
  (hk:(y5m sy P h t (B y) (B z)).run E=some r):x0o P r.1 h r.2.1 B o r.2.2:=by
 unfold y5m at hk;split at hk
 ·rename_i e sz by_ zv hel;split at hk
  ·rename_i news hc1 hc2 hrows;have hc1:=a0f hc1;have hc2:=a0f hc2;split at hk
   ·rename_i c hy;split at hk
    ·rename_i e' sz' rows hb;split at hk
     ·rename_i q1 q2;have q1:=a0f q1;have q2:=a0f q2;subst q1;subst q2;obtain⟨hf,hk⟩:=x1k hk;cases hk;obtain⟨b1,b2⟩:=z9y hf;exact z9t hop hts hel hc1 hc2 hy hb hrows b1 b2
     ·cases hk
    ·cases hk
   ·rename_i hy;obtain⟨hf,hk⟩:=x1k hk;cases hk;obtain⟨b1,b2⟩:=z9y hf;exact z0a hop hts hel hc1 hc2 hy hrows (by simpa using b1) (by simpa using b2)
   ·cases hk
  ·cases hk
 ·cases hk
def y5r {t:TypeId}{y z:Operand}(hop:o.op= .store t y z)(hk:(z2o sy P h t (B y) (B z)).run E=some h'):x0o P [] h h' B o .any:=by
 unfold z2o at hk;split at hk
 ·rename_i ns hn hl;split at hk
  ·rename_i b off hy;split at hk
   ·rename_i bt vs hb;split at hk
    ·rename_i c1 c2 c3;cases hk;exact y9l hop hy hb hn c1 (a0f c2) (a0f c3) hl
    ·cases hk
   ·cases hk
  ·rename_i b sz i off hy;split at hk
   ·rename_i e sz' rows ss hb hss;split at hk
    ·rename_i ds c1 hd;have c1:=a0f c1;subst c1;split at hk
     ·rename_i c2 c3;obtain⟨hi,hk⟩:=x1k hk;cases hk;exact y9k hop hy hb (a0f hi) hn hd (a0f c2) (a0f c3) hl
     ·cases hk
    ·cases hk
   ·cases hk
  ·cases hk
 ·cases hk
def w6c (a:Int)(b:Nat)(h0:0<=a)(hab:a*(b+1)<=140737488355328):b*a.toNat<=281474976710656/\a.toNat<=maxLen:=by
 obtain⟨n,rfl⟩:=Int.eq_ofNat_of_zero_le h0;have hab':n*(b+1)<=140737488355328:=Int.ofNat_le.1 (by rw[Int.natCast_mul,Int.natCast_add];exact hab)
 have h1:n*b<=n*(b+1):=Nat.mul_le_mul_left _ (by omega)
 have h2:n<=n*(b+1):=Nat.le_mul_of_pos_right _ (by omega)
 rw[a0n,Nat.mul_comm];exact⟨by omega,by simp only[maxLen];omega⟩
def u2s {t:TypeId}{y z:Operand}{z0:Bool}{r:List Box × V}(hop:o.op= .makeSlice t y z)(hk:(w8s sy P h t z0 (B y) (B z)).run E=some r):x0o P [] h r.1 B o r.2:=by
 unfold w8s at hk;split at hk
 ·rename_i e sz by_ zv k1 n k2 m hel hy hz;split at hk
  ·obtain⟨hn,hk⟩:=x1k hk;obtain⟨hi,hk⟩:=x1k hk;cases hk;have hn:n=0:=a0f hn;subst hn;have hi:0<=m/\m*(by_+1)<=140737488355328:=a0f hi;obtain⟨b1,b2⟩:=w6c _ _ hi.1 hi.2;exact z5r hop hel hy hz hi.1 b1 b2
  ·split at hk
   ·rename_i ss hss;split at hk
    ·rename_i q1 q2;obtain⟨hi,hk⟩:=x1k hk;cases hk;have hi:n=m/\0<=n/\n*(by_+1)<=140737488355328:=a0f hi;obtain⟨b1,b2⟩:=w6c _ _ hi.2.1 hi.2.2;exact z2c hop hel q1 (a0f q2) hy hz hi.1 hi.2.1 b1 b2
    ·cases hk
   ·cases hk
 ·cases hk
def z2y {t:TypeId}{y z q:Operand}(hop:o.op= .mapUpdate t y z q\/o.op= .insert t y z q)(hk:(k3n sy P h t (B y) (B z) (B q)).run E=some h'):x0o P [] h h' B o .any:=by
 unfold k3n at hk;split at hk
 ·rename_i e kk b k hm hy hz;split at hk
  ·rename_i kk' rows s hb hsh hf;split at hk
   ·rename_i x hkk hx;have:=a0f hkk;subst this;cases hk;exact y9o hop hy hb hm hz (v6l hf) hx
   ·cases hk
  ·cases hk
 ·cases hk
def u3d {t:TypeId}{y:Operand}{hi:Option Operand}(hop:o.op= .slice t y none hi none)(hk:(w9n sy P h t (B y) (hi.map B)).run E=some r):x0o P r.1 h r.2.1 B o r.2.2:=by
 unfold w9n at hk;split at hk
 ·rename_i b hy;split at hk
  ·rename_i e' sz rows hb;split at hk
   ·rename_i e sz' r hel hr;split at hk
    ·rename_i hsz;have:=a0f hsz;subst this;obtain⟨hi,hk⟩:=x1k hk;cases hk;have hi:=y1q hi;exact z1y hop hel hy hb rfl hr rfl hi.2.1 hi.2.2
    ·cases hk
   ·cases hk
  ·cases hk
 ·cases hk
def z7q {t:TypeId}{y:Operand}{r:List Box × V}(hop:o.op= .range t y)(hk:(v3p P h t (B y)).run E=some r):x0o P [] h r.1 B o r.2:=by
 unfold v3p at hk;split at hk
 ·rename_i s hu hy;cases hk;exact u3f hop hu hy
 ·cases hk
def u2o {i:Operand}{s:Bool}{r:List Box × V}(hop:o.op= .next i s)(hk:(w8n sy h (B i) s).run E=some r):x0o P [] h r.1 B o r.2:=by
 unfold w8n at hk;split at hk
 ·rename_i b hy;split at hk
  ·rename_i s p hb;simp only[Tree.run]at hk;split at hk
   ·rename_i hc;cases hk;exact y9n hop hy hb (a0f hc)
   ·rename_i hc;cases hk;exact y9m hop hy hb (of_decide_eq_false hc)
  ·cases hk
 ·cases hk
def y0o (hE:E.Ok)(hk:(z7w sy P h B o).run E=some r):x0o P r.1 h r.2.1 B o r.2.2:=by
 unfold z7w at hk;obtain⟨x,h1,hk⟩:=x0b hE hk;cases hk;exact y4u hE h1 h (Pre.refl h)
def v4f (hE:E.Ok)(hk:(opT sy P h B o).run E=some r):x0o P r.1 h r.2.1 B o r.2.2:=by
 unfold opT at hk;split at hk
 ·rename_i y hop;split at hk
  ·rename_i hy;split at hk
   ·cases hk;exact u9y (.inr hop) hy
   ·cases hk;have:=y1p (P:=P) (h:=h) (B:=B) (.inr hop);rwa [hy]at this
  ·cases hk;exact y1p (.inr hop)
 ·rename_i t y hop;split at hk
  ·rename_i vs hv hl;cases hk;exact v5t hop hv hl
  ·cases hk
 ·rename_i t hop;split at hk
  ·rename_i z hz;split at hk
   ·rename_i vs hv;cases hk;exact x9p hop hz hv
   ·cases hk
  ·cases hk
 ·rename_i t y z hop;obtain⟨h1,q1,hk⟩:=x0b hE hk;cases hk;exact y5r hop q1
 ·rename_i t y z hop;obtain⟨h1,q1,hk⟩:=x0b hE hk;cases hk;exact u2s hop q1
 ·rename_i t r hop;split at hk
  ·cases hk;exact z5q hop
  ·cases hk
 ·rename_i t y z r hop;obtain⟨h1,q1,hk⟩:=x0b hE hk;cases hk;exact z2y (.inl hop) q1
 ·rename_i t y z r hop;obtain⟨h1,q1,hk⟩:=x0b hE hk;cases hk;exact z2y (.inr hop) q1
 ·rename_i t n parts hop;split at hk
  ·rename_i e sz vs hlit hl;split at hk
   ·rename_i ss hss;split at hk
    ·rename_i rows hr hn;cases hk;exact x9x hop hlit hl hr (by have:=a0f hn;simp only[maxLen];omega)
    ·cases hk
   ·cases hk
  ·cases hk
 ·rename_i c hop;split at hk
  ·rename_i y z t t';split at hk
   ·rename_i ht;have ht:=a0f ht;subst ht;exact y4f hop rfl hk
   ·cases hk
  ·exact y0o hE hk
 ·rename_i t y hop;obtain⟨h1,q1,hk⟩:=x0b hE hk;cases hk;exact z7q hop q1
 ·rename_i i s hop;obtain⟨h1,q1,hk⟩:=x0b hE hk;cases hk;exact u2o hop q1
 ·rename_i t y lo hi mx hop;split at hk
  ·exact u3d hop hk
  ·exact y0o hE hk
 ·exact y0o hE hk
def Keep.trans {M M':List Nat}{g g1 g2:Gh}{h h1 h2:List Box}{w w1 w2:World}(k1:Keep M g h w g1 h1 w1)(k2:Keep M' g1 h1 w1 g2 h2 w2):Keep (M++M') g h w g2 h2 w2:=by
 refine⟨k2.heap,⟨fun b o hz=>k2.le.Z b o (k1.le.Z b o hz),a1a k1.le.n k2.le.n,fun b hb hm=> ?_,fun b hb hm=> ?_,fun b hb=>(k2.le.cd b (a1c hb k1.le.n)).trans (k1.le.cd b hb)⟩,k1.fr.trans' k2.fr k1.own,fun b o hz=> ?_,fun k hk=> ?_⟩
 ·simp only[a1k,not_or]at hm;exact(k2.le.blk b (a1c hb k1.le.n) hm.2).trans (k1.le.blk b hb hm.1)
 ·simp only[a1k,not_or]at hm;exact(k2.le.val b (a1c hb k1.le.n) hm.2).trans (k1.le.val b hb hm.1)
 ·rcases k2.znew b o hz with q|q|q
  ·exact k1.znew b o q
  ·exact .inr (.inl (a1a k1.fr.size q))
  ·rcases k1.own b q with q|q
   ·exact .inr (.inr q)
   ·exact .inr (.inl q)
 ·rcases k2.own k hk with q|q
  ·exact k1.own k q
  ·exact .inr (a1a k1.fr.size q)
def x6z {w:World}{g:Gh}{n:Nat}{u:Value}{v:V}(hr:Rep w g u v):v.scB n=true->Rep w (g.cut n) u v:=by
 have aux: ∀(us:Array Value) (cs:List V),(∀(i:Nat) u c,us[i]? =some u->cs[i]? =some c->c.scB n=true->Rep w (g.cut n) u c)->V.scL n cs=true->
     ∀(i:Nat) u c,us[i]? =some u->cs[i]? =some c->Rep w (g.cut n) u c:=by
  intro us cs ih hs i u c hu hc;rw[y8g]at hs;exact ih i u c hu hc (a0l.1 hs c (a0o hc))
 induction hr with
 |any u=>intro _;exact .any u
 |nils=>intro _;exact .nils
 |d h=>intro _;exact .d h
 |agg us cs hl h ih=>intro hs;exact .agg us cs hl (aux us cs ih (by simpa[V.scB]using hs))
 |tup us cs hl h ih=>intro hs;exact .tup us cs hl (aux us cs ih (by simpa[V.scB]using hs))
 |fn f us cs hl h ih=>intro hs;exact .fn f us cs hl (aux us cs ih (by simpa[V.scB]using hs))
 |own b hb=>intro hs;exact .own (g:=g.cut n) b (show b < n by simpa[V.scB]using hs)
 |map b hb=>intro hs;exact .map (g:=g.cut n) b (show b < n by simpa[V.scB]using hs)
 |ptr b off hb=>intro hs;exact .ptr (g:=g.cut n) b off (show b < n by simpa[V.scB]using hs)
 |mv f b off hb=>intro hs;exact .mv (g:=g.cut n) f b off (show b < n by simpa[V.scB]using hs)
 |ifp f b off hb=>intro hs;exact .ifp (g:=g.cut n) f b off (show b < n by simpa[V.scB]using hs)
 |pml b sz i off hb=>intro hs;exact .pml (g:=g.cut n) b sz i off (show b < n by simpa[V.scB]using hs)
 |yld b R hb hc=>intro hs;exact .yld (g:=g.cut n) b R (show b < n by simpa[V.scB]using hs) hc
 |osl b sz lo k u hb hu=>intro hs;exact .osl (g:=g.cut n) b sz lo k u (show b < n by simpa[V.scB]using hs) hu
 |pel blk off cs U hZ hc hr=>intro _;exact .pel blk off cs U hZ hc hr
 |nilp=>intro _;exact .nilp
 |nilf=>intro _;exact .nilf
 |ifn0=>intro _;exact .ifn0
 |ifn1 t p=>intro _;exact .ifn1 t p
 |ifc t us cs hl h=>intro _;exact .ifc t us cs hl h
 |ifo0 t cs=>intro _;exact .ifo0 t cs
 |ifo1 t us cs hl h=>intro _;exact .ifo1 t us cs hl h
def w7q {w:World}{g:Gh}{n b:Nat}{x:Box}(hs:x.scB n=true)(hr:x1n w g b x):x1n w (g.cut n) b x:=by
 cases x with
 |gone=>trivial
 |mp kk rows=>exact hr
 |arr e sz rows=>exact hr
 |cells t vs=>
  obtain⟨us,o,h1,h0,h2,h3⟩:=hr;refine⟨us,o,h1,h0,h2,fun i u v hu hv=>x6z (h3 i u v hu hv) ?_⟩
  have:vs.all (V.scB n)=true:=by rw[<-y8g];exact hs
  exact a0l.1 this v (a0o hv)
def Keep.j2m {M:List Nat}{g g1:Gh}{h h1:List Box}{w w1:World}(k:Keep M g h w g1 h1 w1){n:Nat}(hn:g.n<=n)(hn1:n<=h1.length)(hs:(h1.take n).all (Box.scB n)=true):Keep M g h w (g1.cut n) (h1.take n) w1:=by
 have hget: ∀(b:Nat) x,(h1.take n)[b]? =some x->h1[b]? =some x:=fun b x hx=>by
  rw[a1t]at hx;split at hx
  ·exact hx
  ·cases hx
 have hat: ∀(b:Nat) (x:Box),x.at? (g1.cut n) b=x.at? g1 b:=fun b x=>by cases x<;>rfl
 have hown: ∀q,x2l (g1.cut n) (h1.take n) q->x2l g1 h1 q:=fun q ⟨b,x,hx,hq⟩=>⟨b,x,hget b x hx,by rwa [hat]at hq⟩
 refine⟨⟨by simp[Gh.cut];omega,fun b x hx=>w7q (a0l.1 hs x (a0o hx)) (k.heap.rep b x (hget b x hx)),fun b c x y q hx hy h2 h3=> ?_,fun q o hq hz=>k.heap.zsep q o (hown q hq) hz,k.heap.zlt,k.heap.tab⟩,
  ⟨k.le.Z,hn,k.le.blk,k.le.val,k.le.cd⟩,k.fr,k.znew,fun q hq=>k.own q (hown q hq)⟩
 rw[hat]at h2 h3;exact k.heap.sep b c x y q (hget b x hx) (hget c y hy) h2 h3
def Keep.j2g {g:Gh}{h:List Box}{w w':World}(hs:SimH g h w)(hfr:Fr (fun _=>False) w w'):Keep [] g h w g h w':=by
 have ho:Over [] w g w' g:=⟨Gh.Le.refl _ _,fun b o hz=>hfr.cell (hs.zlt b o hz) (fun h=>h)⟩
 refine⟨⟨hs.n,fun b x hx=> ?_,hs.sep,hs.zsep,fun b o hz=>a1c (hs.zlt b o hz) hfr.size,hs.tab.over ho⟩,Gh.Le.refl _ _,hfr.mono (fun _ h=>h.elim),fun b o hz=> .inl hz,fun k hk=> .inl hk⟩
 have:=x1n.over ho (by rw[hs.n];exact(a0c.1 hx).1) (by simp) (fun k hk=>hfr.block k ((hs.rep b x hx).lt hk) (fun h=>h)) (hs.rep b x hx)
 rwa [Box.j0c]at this
def v1i.j2q {f:FuncId}{args:List V}{e:TypeId}{sz:Nat}{rows:LL}(hc:v1i P f args e sz rows):z1m P f args (.d (.sl sz rows)):=by
 intro g w us hs hu;refine(hc g w us hs hu).mono ?_
 rintro _ w' ⟨u,g',rfl,hr,hk⟩
 obtain⟨g2,hk2,hr2⟩:=z0g hk.heap (b:=0) rfl;have hn:g.n=0:=hs.n;have:=(hk.trans hk2).j2m (n:=0) (by omega) (by omega) rfl
 exact⟨u,g2.cut 0,rfl,x6z (hr2 u _ hr) rfl,by simpa using this⟩
def D.flat:D->Bool
 | .sl .. =>false
 |_=>true
def V.j1i:V->Bool
 | .d x=>x.flat
 |_=>false
def V.j1f:V->Bool
 | .agg cs=>cs.all V.j1i
 |v=>v.j1i
def V.j1v:V->Bool
 | .tup cs=>cs.all V.j1f
 |v=>v.j1f
def v6k {w w':World}{Z Z':Nat->Nat->Prop}{u:Value}{x:D}(hf:x.flat=true)(hr:RepD w Z u x):RepD w' Z' u x:=by
 cases hr<;>first|exact .int _ _|exact .bool _|exact .str _|simp[D.flat]at hf
def z9x {w w':World}{g g':Gh}{u:Value}{v:V}(hf:v.j1i=true)(hr:Rep w g u v):Rep w' g' u v:=by
 cases hr<;>first|(simp[V.j1i]at hf;done)|skip
 rename_i x h;exact .d (v6k hf h)
def z0h {w w':World}{g g':Gh}{u:Value}{v:V}(hf:v.j1f=true)(hr:Rep w g u v):Rep w' g' u v:=by
 cases v with
 |agg cs=>
  cases hr with
  |agg us cs hl h=>exact .agg us cs hl fun i u c hu hc=>z9x (a0l.1 hf c (a0o hc)) (h i u c hu hc)
 |d x=>exact z9x hf hr
 |_=>simp[V.j1f,V.j1i]at hf
def v6j {w w':World}{g g':Gh}{u:Value}{v:V}(hf:v.j1v=true)(hr:Rep w g u v):Rep w' g' u v:=by
 cases v with
 |tup cs=>
  cases hr with
  |tup us cs hl h=>exact .tup us cs hl fun i u c hu hc=>z0h (a0l.1 hf c (a0o hc)) (h i u c hu hc)
 |agg cs=>exact z0h hf hr
 |d x=>exact z0h hf hr
 |_=>simp[V.j1v,V.j1f,V.j1i]at hf
def w0s {t:TypeId}{v:V}{w:World}{g:Gh}{u:Value}(hr:Rep w g u v):Rep w g u (k7c P t v):=by
 unfold k7c;split
 ·rename_i ds h1 h2;unfold q6r at h1;split at h1
  ·rename_i ss cs _ _;obtain⟨q1,q2⟩:=y0h h1;cases hr with
   |agg us _ hl hr=>
    refine .agg us _ (by simp[hl,q1]) fun i u c hu hc=> ?_
    rw[a0m,a0k]at hc;obtain⟨x,hx,rfl⟩:=hc;have hi:=(a0r.1 hu).1;have hcs:=a0b (l:=cs) (i:=i) (by omega)
    obtain⟨s,hs⟩:=q2 i _ x hcs hx;exact .d (y0i (hr i u _ hu hcs) hs)
  ·rename_i hf;rw[h2]at hf;cases hf
  ·cases h1
 ·rename_i d h1 h2;unfold q6r at h1;split at h1
  ·rename_i ht;rw[h2]at ht;cases ht
  ·split at h1
   ·rename_i hx;cases h1;exact .d (y0i hr hx)
   ·cases h1
  ·cases h1
 ·exact hr
def z0w: ∀ {ts:List TypeId} {vs:List V} {w:World} {g:Gh} {us:List Value},z3z w g us vs->z3z w g us (u1p P ts vs)
 | [],vs,w,g,us,h=>by cases vs<;>exact h
 |_::_,[],w,g,us,h=>h
 |t::ts,v::vs,w,g,[],h=>by have:=h.1;simp at this
 |t::ts,v::vs,w,g,u::us,h=>by
  have h2:=z0w (ts:=ts) (vs:=vs) (us:=us) (w:=w) (g:=g) ⟨by have:=h.1;simpa using this,fun i u v h1 h2=>h.2 (i+1) u v (by simpa using h1) (by simpa using h2)⟩
  refine⟨by have:=h2.1;simp[u1p,this],fun i u' v' h1 h3=> ?_⟩
  cases i with
  |zero=>simp[u1p]at h1 h3;subst h1;subst h3;exact w0s (h.2 0 _ _ rfl rfl)
  |succ i=>exact h2.2 i u' v' (by simpa using h1) (by simpa[u1p]using h3)
def x9s.can {M:List Nat}{f:FuncId}{ts:List TypeId}{vs:List V}{h h':List Box}{r:V}(hc:x9s P M f (u1p P ts vs) h r h'):x9s P M f vs h r h':=
 fun g w us hs hu=>hc g w us hs (z0w hu)
def y2p {En:Ent}{s s1:VSt}{a:Act}{w:World}{y:Operand}{f:FuncId}{vs:List V}{args:Array Operand}{ts:Array TypeId}{pts:List TypeId}{v:V}(hs:x1r En s a w)(hs1:x1r En s1 a w)
  (hop:o.op= .call { callee:= .value y,args:=args,argTypes:=ts }) (hc:z6p (s1.get y) (args.toList.map s1.get)=some (f,vs)) (hp:(u1p P pts vs).all V.j0e=true) (hg:x4f P f=true)
  (hcall:z1m P f (u1p P pts vs) v) (hflat:v.j1v=true) {K:Act->World->Prop} {Q:Exit->Act->World->Prop} (hK: ∀a' w',x1r En (s.next [] s.h o.dst v) a' w'->K a' w'):o.wp P a w K Q:=by
 obtain⟨g,hs⟩:=hs;obtain⟨g1,hs1⟩:=hs1;obtain⟨us,hargs,hrun⟩:=z6o hop hg hs1.get hc;have hargs:=z0w (P:=P) (ts:=pts) hargs;have hcl:=hcall (g0 g1.Z) w _ (y6y hs1.heap.zlt hs1.heap.tab) ⟨hargs.1,fun i u v h1 h2=>x8k (g:=g1) (g':=g0 g1.Z) rfl (a0l.1 hp _ (a0o h2)) (hargs.2 i u v h1 h2)⟩
 unfold Oper.wp;rw[hrun,Oper.upon_enter];refine hcl.mono ?_
 rintro e w' ⟨u,g',rfl,hu,hk⟩
 have hfr:Fr (fun _=>False) w w':=hk.fr.mono fun k hk=>by obtain⟨b,x,hx,_⟩:=hk;simp at hx
 exact hK _ _ ⟨g,hs.next (Keep.j2g hs.heap hfr) (by simp[okM]) (v6j hflat hu) o.dst⟩
def u1k (P:Program)(f:FuncId)(args:List V):PRes->Prop
 | .val ds=> ∃ts ss v,z1r P f=some ts/\shR P ts=some ss/\ds.length=ss.length/\mkV P ts ds=some v/\z1m P f args v
 | .own e sz rows=> ∃t,z1r P f=some [t]/\elO P t=some (e,sz)/\v1i P f args e sz rows
def x2p (P:Program)(E:Env):Prop:=KV P/\ ∀f args p,x4f P f=true->args.all V.j0e=true->E.call f args=some p->u1k P f args p
def k1p {t e:TypeId}{sz:Nat}(h:elO P t=some (e,sz)):z2r P 9 t=some [.sl sz]/\y2u P t=false:=by
 obtain⟨hu,hn⟩:=y3y h;constructor
 ·simp only[z2r,hu,hn,Option.map_some]
 ·unfold y2u;rw[hu]
def y0u: ∀ {ts:List TypeId} {ds:List D} {vs:List V},u2p P ts ds=some vs->vs.all V.j0e=true/\vs.length=ts.length
 | [],[],vs,h=>by cases h;exact⟨rfl,rfl⟩
 | [],_::_,vs,h=>by cases h
 |t::ts,ds,vs,h=>by
  unfold u2p at h;split at h
  ·split at h
   ·rename_i vs' _ h2;cases h;obtain⟨q1,q2⟩:=y0u h2;simp only[a1p,q1,a2a,a0a,q2,and_true];show(List.map V.d _).all V.j0i=true;rw[a0l];intro x hx;obtain⟨d,_,rfl⟩:=a1z.1 hx;rfl
   ·cases h
  ·split at h
   ·split at h
    ·rename_i vs' h2;cases h;obtain⟨q1,q2⟩:=y0u h2;simp only[a1p,q1,a2a,a0a,q2,and_true];rfl
    ·cases h
   ·cases h
  ·cases h
def u6c {ts:List TypeId}{ds:List D}{v:V}(h:mkV P ts ds=some v):v.j0o=true:=by
 unfold mkV at h;split at h
 ·rename_i v' hv;cases h;have:=(y0u hv).1;simp only[a1p,List.all_nil,a2a]at this;cases v<;>first|exact this|skip
  simp only[V.j0e,V.j0o,a0l]at this ⊢;intro c hc;have:=this c hc;cases c<;>simp_all [V.j0i]
 ·rename_i vs _ hv;cases h;exact(y0u hv).1
 ·cases h
def q5s {ss:List Sh}{ds:List D}(hf:ss.all Sh.flat=true)(hr: ∀(i:Nat) d s,ds[i]? =some d->ss[i]? =some s->(s.flat=true->d.flat=true))(hl:ds.length=ss.length): ∀d∈ds,d.flat=true:=by
 intro d hd;obtain⟨i,hi⟩:=List.mem_iff_getElem?.1 hd;have hi':i < ss.length:=by rw[<-hl];exact(a0c.1 hi).1
 exact hr i d ss[i] hi (a0b hi') (a0l.1 hf _ (a1i hi'))
def y3k: ∀ {ts:List TypeId} {ds:List D} {vs:List V},u2p P ts ds=some vs->(∀d∈ds,d.flat=true)->vs.all V.j1f=true
 | [],[],vs,h,_=>by cases h;rfl
 | [],_::_,vs,h,_=>by cases h
 |t::ts,ds,vs,h,hd=>by
  unfold u2p at h;split at h
  ·split at h
   ·rename_i vs' _ h2;cases h;simp only[a1p,y3k h2 (fun d hq=>hd d (List.mem_of_mem_drop hq)),a2a]
    simp only[V.j1f,a0l,a1z]
    rintro _ ⟨d,hq,rfl⟩
    exact hd d (List.mem_of_mem_take hq)
   ·cases h
  ·split at h
   ·split at h
    ·rename_i d ds _ vs' h2;cases h;simp only[a1p,y3k h2 (fun q hq=>hd q (a0v _ hq)),a2a]
     exact hd d (a0u ..)
    ·cases h
   ·cases h
  ·cases h
def w1e {ts:List TypeId}{ds:List D}{v:V}(h:mkV P ts ds=some v)(hd: ∀d∈ds,d.flat=true):v.j1v=true:=by
 unfold mkV at h;split at h
 ·rename_i v' hv;cases h;have:=y3k hv hd;simp only[a1p,List.all_nil,a2a]at this;cases v<;>first|exact this|simp[V.j1f,V.j1i]at this
 ·rename_i vs _ hv;cases h;exact y3k hv hd
 ·cases h
def w0t {s:Sh}{v:Option D}{x:D}(hk:(y4s s v).run E=some x):s.flat=true->x.flat=true:=by
 intro hf;cases s<;>simp only[y4s,Tree.run,Sh.flat]at hk hf<;>first|(cases hf;done)|(obtain⟨n,h1,h2⟩:=a1r.1 hk;cases h2;rfl)
def z8b (hE:E.Ok): ∀ {ss:List Sh} {cs:List D} {j:Nat} {xs:List D},(x7d sy ss cs j).run E=some xs-> ∀(i:Nat) d s,xs[i]? =some d->ss[i]? =some s->(s.flat=true->d.flat=true)
 | [],cs,j,xs,hk=>by cases hk;simp
 |s::ss,cs,j,xs,hk=>by
  unfold x7d at hk;obtain⟨x,h1,hk⟩:=x0b hE hk;obtain⟨xs',h2,hk⟩:=x0b hE hk;cases hk;intro i d s' hd hs hf;cases i with
  |zero=>simp at hd hs;subst hd;subst hs;exact w0t h1 hf
  |succ i=>exact z8b hE h2 i d s' (by simpa using hd) (by simpa using hs) hf
def v5b (hV:KV P){f:FuncId}{vs:List V}{v:V}(hk:(kvT sy f vs).run E=some v):z1m P f vs v/\v.j0o=true:=by
 unfold kvT at hk;split at hk
 ·rename_i s a b hf;split at hk
  ·rename_i hd;obtain⟨rfl,rfl⟩:=a0f hd;obtain⟨hi,hk⟩:=x1k hk;cases hk;have hf:=Nat.eq_of_beq_eq_true hf;subst hf;have hi:((s.size:Int)<=1000000):=a0f hi;exact⟨hV s (by omega),rfl⟩
  ·cases hk
 ·cases hk
def x5p (hE:E.Ok)(hG:x2p P E){f:FuncId}{vs:List V}{ts:List TypeId}{v:V}(hp:vs.all V.j0e=true)(hs:z1r P f=some ts)(hk:(u0t sy P f vs ts).run E=some v):
  z1m P f vs v/\v.j0o=true/\ ∀ss,shR P ts=some ss->ss.all Sh.flat=true->v.j1v=true:=by
 unfold u0t at hk;split at hk
 ·rename_i ss hss;simp only[Tree.run]at hk
  ·obtain⟨p,hpc,hk⟩:=a1r.1 hk;obtain⟨xs,h1,hk⟩:=x0b hE hk;obtain⟨q1,q2⟩:=x8n hE h1;split at hk
   ·rename_i v' hv;cases hk;have hgood:=hG.2 f vs p (x3k hs) hp hpc;have key: ∀ds:List D,ds.length=ss.length->(∀(i:Nat) x,xs[i]? =some x->ds[0+i]? =some x)->xs=ds:=by
     intro ds hl hx;apply List.ext_getElem?;intro i;cases hxi:xs[i]? with
     |some x=>have:=hx i x hxi;rw[a1y]at this;rw[this]
     |none=>
      have:=List.getElem?_eq_none_iff.1 hxi;exact(List.getElem?_eq_none_iff.2 (by omega)).symm
    refine⟨?_,u6c hv,fun ss' hss' hf=> ?_⟩
    ·cases p with
     |val ds=>
      obtain⟨ts',ss',v2,e1,e2,e3,e4,e5⟩:=hgood;rw[hs]at e1;cases e1;rw[hss]at e2;cases e2;have:=key ds e3 q2;subst this;rw[hv]at e4;cases e4;exact e5
     |own e sz rows=>
      obtain⟨t,e1,e2,e3⟩:=hgood;rw[hs]at e1;cases e1;obtain⟨f1,f2⟩:=k1p e2;have:ss= [.sl sz]:=by
       simp only[shR,f1]at hss;cases hss;rfl
      subst this;have:=key [.sl sz rows] rfl q2;subst this;have:mkV P [t] [.sl sz rows]=some (.d (.sl sz rows)):=by simp[mkV,u2p,f1,f2]
      rw[this]at hv;cases hv;exact e3.j2q
    ·rw[hss]at hss';cases hss';exact w1e hv (q5s hf (z8b hE h1) q1)
   ·cases hk
 ·rename_i hss;obtain⟨q1,q2⟩:=v5b hG.1 hk;exact⟨q1,q2,fun ss h=>by rw[hss]at h;cases h⟩
def x3i {f:FuncId}{vs:List V}(hc:x5f P B o=some (f,vs))(hf: ∀f,B (.func f)= .fn f []):
  ∃y args ts,o.op= .call { callee:= .value y,args:=args,argTypes:=ts }/\z6p (B y) (args.toList.map B)=some (f,vs):=by
 unfold x5f at hc;split at hc
 ·rename_i y args ts hop;split at hc
  ·rename_i f' vs' hcv;split at hc
   ·cases hc;refine⟨y,args,ts,hop,?_⟩;split at hcv
    ·rw[hf];exact hcv
    ·exact hcv
   ·cases hc
  ·cases hc
 ·cases hc
def q6d (En:Ent)(p:V)(t:List V)(h:List Box)(e:Exit)(a:Act)(w:World):Prop:= ∃g u,e= .panic [{ v:=u,recovered:=false }]/\Rep w g u p/\Sim En ⟨t,h⟩ a w g
def k8c (En:Ent)(p:V)(h:List Box)(e:Exit)(a:Act)(w:World):Prop:= ∃t,q6d En p t h e a w
def OpR (En:Ent)(q:Option V × VSt)(e:Exit)(a:Act)(w:World):Prop:=match q.1 with
 |none=>e= .normal/\x1r En q.2 a w
 |some p=>q6d En p q.2.t q.2.h e a w
def k4f (En:Ent)(q:Option V × VSt)(e:Exit)(a:Act)(w:World):Prop:=match q.1 with
 |none=>e= .normal/\x1r En q.2 a w
 |some p=>k8c En p q.2.h e a w
def u5q {En:Ent}{s:VSt}{a:Act}{w:World}{y:Operand}{f:FuncId}{vs:List V}{args:Array Operand}{ts:Array TypeId}{M:List Nat}{p:V}{h':List Box}
  (hop:o.op= .call { callee:= .value y,args:=args,argTypes:=ts }) (hb:z6p (s.get y) (args.toList.map s.get)=some (f,vs)) (hf:x4f P f=true)
  (hc:x8f P M f vs s.h (q6c p) h') (hM:okM En.g.n En.M M=true) (hs:x1r En s a w) {K:Act->World->Prop} {Q:Exit->Act->World->Prop} (hQ: ∀e a' w',q6d En p (s.next M h' none .any).t h' e a' w'->Q e a' w'):o.wp P a w K Q:=by
 obtain⟨g,hs⟩:=hs;obtain⟨us,hargs,hrun⟩:=z6o hop hf hs.get hb;unfold Oper.wp;rw[hrun,Oper.upon_enter];refine(hc g w _ hs.heap hargs).mono ?_
 rintro e w' ⟨g',⟨u,rfl,hr⟩,hk⟩
 have:=hs.next hk hM (.any undef) none;exact hQ _ _ _ ⟨g',u,rfl,hr,this⟩
def w6j (P:Program)(M:List Nat)(b:Nat)(R:RecI)(args:List V)(h:List Box)(r:V)(h':List Box):Prop:=
 ∀(g:Gh) (w:World) (us:List Value),SimH g h w->z3z w g us args->b < g.n->g.rc b=some R->
  ∃fn tmps assign body,(Instr.yield (g.blk b) us.toArray).run P w= .ok (.round (g.blk b) fn tmps assign body) w/\
   RoundIn Fence.wide 0 P (g.blk b) fn tmps assign body w fun e w'=> ∃u g',e= .returned u/\Rep w' g' u r/\Keep M g h w g' h' w'
def z6u (P:Program)(M:List Nat)(f:FuncId)(args:List V)(h:List Box)(v:V)(h':List Box):Prop:=match y0c v with
 |some p=>x8f P M f args h (q6c p) h'
 |none=>x9s P M f args h v h'
def z6u.none {P:Program}{M:List Nat}{f:FuncId}{args:List V}{h h':List Box}{v:V}(hp:y0c v=none)(hc:z6u P M f args h v h'):x9s P M f args h v h':=by
 unfold z6u at hc;rw[hp]at hc;exact hc
def z6u.some {P:Program}{M:List Nat}{f:FuncId}{args:List V}{h h':List Box}{v p:V}(hp:y0c v= .some p)(hc:z6u P M f args h v h'):x8f P M f args h (q6c p) h':=by
 unfold z6u at hc;rw[hp]at hc;exact hc
def x7k (P:Program)(E:Env)(ent:Callee->List V->List Box->Tree (List Nat × V × List Box)):Prop:=
 (∀f vs h r,(ent (.fn f) vs h).run E=some r->z6u P r.1 f vs h r.2.1 r.2.2)/\ ∀b R vs h r,(ent (.yld b R) vs h).run E=some r->w6j P r.1 b R vs h r.2.1 r.2.2
def forceD_eq.{v}{β:Type v}(x:D)(K:D->β):forceD x K=K x:=by cases x<;>rfl
def forceV_eq.{v}{β:Type v}(x:V)(K:V->β):forceV x K=K x:=by cases x<;>first|rfl|(unfold forceV;exact forceD_eq _ _)
def forceL_eq.{v}{β:Type v}: ∀(l:List V) (K:List V->β),forceL l K=K l
 | [],_=>rfl
 |v::vs,K=>by unfold forceL;rw[forceV_eq,forceL_eq vs]
def forceB_eq.{v}{β:Type v}(x:Box)(K:Box->β):forceB x K=K x:=by cases x<;>first|rfl|(unfold forceB;exact forceL_eq _ _)
def forceH_eq.{v}{β:Type v}: ∀(l:List Box) (K:List Box->β),forceH l K=K l
 | [],_=>rfl
 |v::vs,K=>by unfold forceH;rw[forceB_eq,forceH_eq vs]
def forceSp_eq.{u,v}{α:Type u}{β:Type v}: ∀(l:List α) (K:List α->β),forceSp l K=K l
 | [],_=>rfl
 |v::vs,K=>by unfold forceSp;rw[forceSp_eq vs]
def x5w {β:Type}(s:VSt)(K:VSt->Tree β):x6k s K=K s:=by unfold x6k;rw[forceL_eq,forceH_eq]
def u8c {w:World}{g:Gh}{u:Value}{v:V}{as vs:List V}{f:FuncId}(h0:Rep w g u v)(b0:z6p v as=some (f,vs)): ∃x y,u= .func (.func f) x y:=by
 cases h0<;>first|(cases b0;done)|skip
 all_goals (cases b0;exact⟨_,_,rfl⟩)
def u1g {w:World}{g g1:Gh}{u:Value}{v v1:V}{as as1 vs vs1:List V}{f f1:FuncId}(h0:Rep w g u v)(h1:Rep w g1 u v1)(b0:z6p v as=some (f,vs))(b1:z6p v1 as1=some (f1,vs1)):f1=f:=by
 obtain⟨_,_,e0⟩:=u8c h0 b0;obtain⟨_,_,e1⟩:=u8c h1 b1;rw[e0]at e1;cases e1;rfl
def y8n (hE:E.Ok)(hG:x2p P E){C:CfgO}{En:Ent}{s s':VSt}{a:Act}{w:World}{f:FuncId}{vs0:List V}(hc0:x5f P s.get o=some (f,vs0))(hk:(y8o sy P C s o f).run E=some s')(hs:x1r En s a w)
  {K:Act->World->Prop} {Q:Exit->Act->World->Prop} (hK: ∀a' w',x1r En s' a' w'->K a' w'):o.wp P a w K Q:=by
 unfold y8o at hk;simp only at hk;split at hk
 ·rename_i f1 vs ts hc1 hsig;generalize hcan:u1p P (w4u P f) vs=vc at hk;split at hk
  ·rename_i hp;have hs1:x1r En (s.frz (fzl s o)) a w:=hs.frzs;obtain⟨y0,args0,ts0,hop0,hy0⟩:=x3i hc0 (fun f=>rfl)
   obtain⟨y,args,tys,hop,hy⟩:=x3i hc1 (fun f=>rfl)
   have hyy:y0=y:=by rw[hop0]at hop;simp at hop;exact hop.1
   subst hyy;have hff:f1=f:=by
    obtain⟨g,hsg⟩:=hs;obtain⟨g1,hsg1⟩:=hs1;exact u1g (hsg.get y0) (hsg1.get y0) hy0 hy
   subst hff;have hg:=x3k hsig;split at hk
   ·split at hk
    ·split at hk
     ·rename_i t e sz hel;simp only[Tree.run]at hk;obtain⟨rows,hpc,hk⟩:=a1r.1 hk;cases hk;obtain⟨t',e1,e2,hm⟩:=hG.2 _ _ _ hg hp (z5c hpc);have hh:=hm.hcall hp (s.frz (fzl s o)).h;rw[<-hcan]at hh;exact(x5m hop hy hg hh.can).sim hs1 (by simp[okM]) hK
     ·cases hk
    ·cases hk
   ·split at hk
    ·rename_i ss hss;split at hk
     ·rename_i hfl;obtain⟨v,h1,hk⟩:=x0b hE hk;cases hk;obtain⟨q1,q2,q3⟩:=x5p hE hG hp hsig h1;exact y2p hs hs1 hop hy (by rw[hcan];exact hp) hg (by rw[hcan];exact q1) (q3 ss hss hfl) hK
     ·obtain⟨v,h1,hk⟩:=x0b hE hk;cases hk;obtain⟨q1,q2,q3⟩:=x5p hE hG hp hsig h1;have hh:=q1.hcall hp q2 (s.frz (fzl s o)).h;rw[<-hcan]at hh;exact(x5m hop hy hg hh.can).sim hs1 (by simp[okM]) hK
    ·obtain⟨v,h1,hk⟩:=x0b hE hk;cases hk;obtain⟨q1,q2,q3⟩:=x5p hE hG hp hsig h1;have hh:=q1.hcall hp q2 (s.frz (fzl s o)).h;rw[<-hcan]at hh;exact(x5m hop hy hg hh.can).sim hs1 (by simp[okM]) hK
  ·cases hk
 ·cases hk
def z7d (hE:E.Ok)(hG:x2p P E){ent:Callee->List V->List Box->Tree (List Nat × V × List Box)}(hent:x7k P E ent){C:CfgO}{En:Ent}{s:VSt}{q:Option V × VSt}{a:Act}{w:World}(hk:(v2t sy P ent C En.g.n En.M s o).run E=some q)(hs:x1r En s a w)
  {K:Act->World->Prop} {Q:Exit->Act->World->Prop} (hK: ∀a' w',q.1=none->x1r En q.2 a' w'->K a' w') (hQ: ∀p e a' w',q.1=some p->q6d En p q.2.t q.2.h e a' w'->Q e a' w'):o.wp P a w K Q:=by
 unfold v2t at hk;split at hk
 ·rename_i f vs hc;split at hk
  ·rename_i hi hsig;obtain⟨r,h1,hk⟩:=x0b hE hk;split at hk
   ·rename_i hM;obtain⟨y,args,tys,hop,hy⟩:=x3i hc (fun f=>rfl)
    split at hk
    ·rename_i hp;cases hk;exact(x5m hop hy (x3k hsig) ((hent.1 _ _ _ _ h1).none hp)).sim hs hM fun a' w' h=>hK a' w' rfl h
    ·rename_i p hp;cases hk;exact u5q hop hy (x3k hsig) ((hent.1 _ _ _ _ h1).some hp) hM hs fun e a' w' h=>hQ p e a' w' rfl h
   ·cases hk
  ·obtain⟨s',h1,hk⟩:=x0b hE hk;cases hk;exact y8n hE hG hc h1 hs fun a' w' h=>hK a' w' rfl h
 ·split at hk
  ·rename_i y hop;split at hk
   ·rename_i t cs hy;cases hk;obtain⟨g,hs⟩:=hs;have hr:=hs.get y;rw[hy]at hr;generalize hu0:a.eval y=u0 at hr;cases hr with
    |ifc _ us _ hl h=>
     have hrun:(execOp a.eval o).run P w= .halt (.panic (.iface t (.agg us))) w:=by
      simp only[execOp,hop,hu0];rfl
     unfold Oper.wp;rw[hrun,Oper.upon_panic];exact hQ _ _ _ _ rfl ⟨g,_,rfl, .ifc t us cs hl h,hs⟩
   ·cases hk
  ·simp only at hk;obtain⟨r,h1,hk⟩:=x0b hE hk;split at hk
   ·rename_i hM;cases hk;exact(v4f hE h1).sim hs.frzs hM fun a' w' h=>hK a' w' rfl h
   ·cases hk
def u8m {b:Nat}{R:RecI}{vs:List V}(hc:w6n B o=some (b,R,vs)):
  ∃y args ts,o.op= .call { callee:= .value y,args:=args,argTypes:=ts }/\B y= .yld b R/\vs=args.toList.map B:=by
 unfold w6n at hc;split at hc
 ·rename_i y args ts hop;split at hc
  ·rename_i heq;cases hc;exact⟨y,args,ts,hop,heq,rfl⟩
  ·cases hc
 ·cases hc
def y8b (hE:E.Ok)(hG:x2p P E){ro:Option Nat}{ent:Callee->List V->List Box->Tree (List Nat × V × List Box)}(hent:x7k P E ent){C:CfgO}{En:Ent}{s:VSt}{q:Option V × VSt}{a:Act}{w:World}(hk:(v9z sy P ent C En.g.n En.M s o).run E=some q)(hs:x1r En s a w)
  {K:Act->World->Prop} {Q:Exit->Act->World->Prop} (hK: ∀a' w',q.1=none->x1r En q.2 a' w'->K a' w') (hQ: ∀p e a' w',q.1=some p->q6d En p q.2.t q.2.h e a' w'->Q e a' w'):o.wpIn (Fw ro) 0 P a w K Q:=by
 unfold v9z at hk;split at hk
 ·rename_i b R vs hnd hy;obtain⟨y,args,ts,hop,hyy,rfl⟩:=u8m hy;obtain⟨r,h1,hk⟩:=x0b hE hk;split at hk
  ·rename_i hM;cases hk;have hR:=hent.2 _ _ _ _ _ h1;obtain⟨g,hs'⟩:=hs;have hr:=hs'.get y;rw[hyy]at hr;generalize hu0:a.eval y=u0 at hr;cases hr with
   |yld _ _ hb hc=>
    have hargs:z3z w g (args.toList.map a.eval) (args.toList.map s.get):=⟨by simp,fun i u v h1 h2=>by
     rw[a0m,a0k]at h1 h2;obtain⟨q,hq,rfl⟩:=h1;obtain⟨q',hq',rfl⟩:=h2;rw[hq]at hq';cases hq';exact hs'.get q⟩
    obtain⟨fn,tmps,assign,body,hrun,hround⟩:=hR g w _ hs'.heap hargs hb hc;refine⟨fun f _=>trivial,?_⟩
    have e:o.semAt (Fw ro).round a.eval=execOp a.eval o:=Oper.semAt_eq _ _ _ (z3e hnd);rw[e];have hex:(execOp a.eval o).run P w= .ok (.round (g.blk b) fn tmps assign body) w:=by
     have:(args.toList.map a.eval).toArray=args.map a.eval:=by apply Array.ext';simp
     rw[this]at hrun;simp[execOp,hop,resolve,hu0,Deferred.ofValue,invoke,hrun]
    rw[hex,Oper.uponIn_round];refine⟨fun h=>by simp[Fw,Fence.wide]at h,hround.1,fun c cs _=> ?_⟩
    obtain⟨e,w',⟨u,g',rfl,hr,hk⟩,hsteps⟩:=hround.2 c cs (room_wide _);exact⟨.returned u,w',hK _ _ rfl ⟨g',hs'.next hk hM hr o.dst⟩,hsteps⟩
  ·cases hk
 ·rename_i hnd _;exact y4k hnd (z7d hE hG hent hk hs hK hQ)
 ·cases hk
def z1s (hE:E.Ok)(hG:x2p P E){ro:Option Nat}{En:Ent}{s:VSt}{a:Act}{w:World}(hk:(y3a sy P s o).run E=some x)(hs:x1r En s a w)
  {K:Act->World->Prop} {Q:Exit->Act->World->Prop} (hK: ∀a' w',x1r En (s.next [] s.h o.dst x) a' w'->K a' w'):o.wpIn (Fw ro) 0 P a w K Q:=by
 unfold y3a at hk;split at hk
 ·cases hk
 rename_i hnd;refine y4k hnd ?_;split at hk
 ·rename_i f vs hc0;split at hk
  ·rename_i f1 vs0 ts hc1 hsig;generalize hcan:u1p P (w4u P f) vs0=vc at hk;simp only at hk;split at hk
   ·rename_i ss hp hss;split at hk
    ·rename_i hfl;have hs1:x1r En (s.frz (fzl s o)) a w:=hs.frzs;obtain⟨y0,args0,ts0,hop0,hy0⟩:=x3i hc0 (fun f=>rfl)
     obtain⟨y,args,tys,hop,hy⟩:=x3i hc1 (fun f=>rfl)
     have hyy:y0=y:=by rw[hop0]at hop;simp at hop;exact hop.1
     subst hyy;have hff:f1=f:=by
      obtain⟨g,hsg⟩:=hs;obtain⟨g1,hsg1⟩:=hs1;exact u1g (hsg.get y0) (hsg1.get y0) hy0 hy
     subst hff;obtain⟨q1,q2,q3⟩:=x5p hE hG hp hsig hk;exact y2p hs hs1 hop hy (by rw[hcan];exact hp) (x3k hsig) (by rw[hcan];exact q1) (q3 ss hss hfl) hK
    ·cases hk
   ·cases hk
  ·cases hk
 ·exact(y4u hE hk s.h (Pre.refl _)).sim hs (by simp[okM]) hK
def v2z {α:Type}{l:List α}{k:Nat}{v:α}(hv:l[k]? =some v):l.set k v=l:=by
 apply List.ext_getElem?;intro i;rw[a1j]
 by_cases hi:k=i
 ·subst hi;rw[if_pos rfl,if_pos (a0c.1 hv).1,hv]
 ·rw[if_neg hi]
def w1a (s:VSt)(dst:Option Tmp)(x:V):s.next [] s.h dst x=⟨match dst with|some d=>s.t.set d x|none=>s.t,s.h⟩:=by cases dst<;>rfl
def y4p (hE:E.Ok)(hG:x2p P E){ro:Option Nat}{En:Ent}{ops:Array Oper}{Q:Exit->Act->World->Prop}{s':VSt}{rest:List Oper}: ∀ {os:List Oper} {s:VSt} {a:Act} {w:World},
  (u8x sy P ops os s).run E=some s'->x1r En s a w->(∀a' w',x1r En s' a' w'->wpListIn (Fw ro) 0 P ops Q rest a' w')->wpListIn (Fw ro) 0 P ops Q (os++rest) a w
 | [],s,a,w,hk,hs,hq=>by cases hk;exact hq a w hs
 |o::os,s,a,w,hk,hs,hq=>by
  have exec: ∀s,x1r En s a w->((y3a sy P s o).bind fun x=>x6k (s.next [] s.h o.dst x) (u8x sy P ops os)).run E=some s'->o.wpIn (Fw ro) 0 P a w (wpListIn (Fw ro) 0 P ops Q (os++rest)) Q:=by
   intro s hs hk;obtain⟨x,h1,hk⟩:=x0b hE hk;rw[x5w]at hk;exact z1s hE hG h1 hs fun a' w' hs'=>y4p hE hG hk hs' hq
  have pass: ∀s,x1r En s a w->(x6k (s.next [] s.h o.dst (.tup [])) (u8x sy P ops os)).run E=some s'->wpListIn (Fw ro) 0 P ops Q (os++rest) (a.put o.dst undef) w:=by
   intro s hs hk;rw[x5w]at hk;obtain⟨g,hs'⟩:=hs;exact y4p hE hG hk ⟨g,hs'.next (.refl hs'.heap) (by simp[okM]) (.tup #[] [] rfl (by simp)) o.dst⟩ hq
  unfold u8x at hk;simp only at hk;split at hk
  ·rename_i hg;refine x5k ?_;simp only[Region.wanted,hg,if_true];exact exec s hs hk
  ·rename_i j want hg;split at hk
   ·rename_i t ht;split at hk
    ·rename_i c hc;obtain⟨hs1,ha⟩:=y7a hs hc;have hy:yielded ops a.tmps j=some c:=by simp[yielded,ht,ha]
     refine x5k ?_;simp only[Region.wanted,hg,hy];split at hk<;>cases c
     ·rw[if_neg (by simp)]
      exact pass _ hs1 hk
     ·rw[if_pos (by simp)]
      exact exec _ hs1 hk
     ·rw[if_pos (by simp)]
      exact exec _ hs1 hk
     ·rw[if_neg (by simp)]
      exact pass _ hs1 hk
    ·rename_i hc;have hy:yielded ops a.tmps j=none:=by
      have hlt:t < s.t.length:=(a0c.1 hc).1;obtain⟨g,hs'⟩:=hs;have hlt':t < a.tmps.size:=by rw[hs'.size];exact hlt
      have hu:=hs'.tmps t _ _ (a0x hlt') hc;have ha:a.tmps[t]? =some a.tmps[t]:=a0x hlt';generalize a.tmps[t]=u at hu ha;cases hu with
      |tup us cs hl h=>simp[yielded,ht,ha]
     refine x5k ?_;simp only[Region.wanted,hg,hy];rw[if_neg (by simp)]
     exact pass _ hs hk
    ·cases hk
   ·cases hk
def v6y (os:List Oper):List Nat:=os.filterMap (·.dst)
def z2s (hE:E.Ok){ops:Array Oper}{s':VSt}: ∀ {os:List Oper} {s:VSt},(u8x sy P ops os s).run E=some s'->s'.h=s.h/\s'.t.length=s.t.length/\ ∀k,k ∉ v6y os->s'.t[k]? =s.t[k]?
 | [],s,hk=>by cases hk;exact⟨rfl,rfl,fun _ _=>rfl⟩
 |o::os,s,hk=>by
  have step: ∀x:V,(u8x sy P ops os (s.next [] s.h o.dst x)).run E=some s'->s'.h=s.h/\s'.t.length=s.t.length/\ ∀k,k ∉ v6y (o::os)->s'.t[k]? =s.t[k]? :=by
   intro x hk;obtain⟨q1,q2,q3⟩:=z2s hE hk;rw[w1a]at q1 q2 q3;refine⟨q1,by rw[q2];cases o.dst<;>simp,fun k hk'=> ?_⟩
   have hk2:k ∉ v6y os:=fun h=>hk' (by unfold v6y at h ⊢;rw[List.filterMap_cons];cases o.dst<;>simp[h])
   rw[q3 k hk2];cases hd:o.dst with
   |none=>rfl
   |some d=>
    have:d≠k:=fun e=>hk' (by unfold v6y;rw[List.filterMap_cons,hd];simp[e])
    simp only;rw[a1j,if_neg this]
  have exec:((y3a sy P s o).bind fun x=>x6k (s.next [] s.h o.dst x) (u8x sy P ops os)).run E=some s'->s'.h=s.h/\s'.t.length=s.t.length/\ ∀k,k ∉ v6y (o::os)->s'.t[k]? =s.t[k]? :=by
   intro hk;obtain⟨x,h1,hk⟩:=x0b hE hk;rw[x5w]at hk;exact step x hk
  have pass:(x6k (s.next [] s.h o.dst (.tup [])) (u8x sy P ops os)).run E=some s'->s'.h=s.h/\s'.t.length=s.t.length/\ ∀k,k ∉ v6y (o::os)->s'.t[k]? =s.t[k]? :=by
   intro hk;rw[x5w]at hk;exact step _ hk
  unfold u8x at hk;simp only at hk;split at hk
  ·exact exec hk
  ·split at hk
   ·rename_i t ht;split at hk
    ·rename_i c hc;have e: ∀b,c=b->s.j1n t b=s:=fun b hb=>by
      subst hb;show { s with t:=s.t.set t _ }=s
      rw[v2z hc]
     split at hk<;>cases c<;>simp only[Tree.run,e _ rfl]at hk
     ·exact pass hk
     ·exact exec hk
     ·exact exec hk
     ·exact pass hk
    ·exact pass hk
    ·cases hk
   ·cases hk
def z1j: ∀ {os:List Oper} {t:List V},(y6e t os).length=t.length/\ ∀(k:Nat) v,(y6e t os)[k]? =some v->v= .any\/(k ∉ v6y os/\t[k]? =some v)
 | [],t=>⟨rfl,fun k v h=> .inr ⟨by simp[v6y],h⟩⟩
 |o::os,t=>by
  obtain⟨q1,q2⟩:=z1j (os:=os) (t:=match o.dst with|some d=>t.set d .any|none=>t)
  refine⟨by unfold y6e;rw[q1];cases o.dst<;>simp,fun k v h=> ?_⟩
  unfold y6e at h;rcases q2 k v h with h1|⟨h1,h2⟩
  ·exact .inl h1
  ·cases hd:o.dst with
   |none=>
    rw[hd]at h2;exact .inr ⟨by unfold v6y at h1 ⊢;rw[List.filterMap_cons,hd];exact h1,h2⟩
   |some d=>
    rw[hd]at h2;simp only at h2;rw[a1j]at h2
    by_cases hk:d=k
    ·rw[if_pos hk]at h2;split at h2
     ·cases h2;exact .inl rfl
     ·cases h2
    ·rw[if_neg hk]at h2;refine .inr ⟨?_,h2⟩;unfold v6y at h1 ⊢;rw[List.filterMap_cons,hd];simp only[a1m,not_or];exact⟨fun e=>hk e.symm,h1⟩
def x1r.less {En:Ent}{s s2:VSt}{a:Act}{w:World}(hs:x1r En s a w)(hh:s2.h=s.h)(hl:s2.t.length=s.t.length)(ht: ∀(k:Nat) v,s2.t[k]? =some v->v= .any\/s.t[k]? =some v):x1r En s2 a w:=by
 obtain⟨g,hs⟩:=hs;refine⟨g,by rw[hh];exact hs.heap,by rw[hl];exact hs.size,fun i u v hu hv=> ?_,by rw[hh];exact hs.defers,by rw[hh];exact hs.keep,by rw[hl];exact hs.len⟩
 rcases ht i v hv with rfl|h
 ·exact .any u
 ·exact hs.tmps i u v hu h
def z8a {A:Sy}{ent:Callee->List V->List Box->Tree (List Nat × V × List Box)}{C:CfgO}{n0:Nat}{M0:List Nat}{ops:Array Oper}: ∀(k:Nat) (os:List Oper) (s:VSt),u1l A P ent C n0 M0 ops k os s=u1l A P ent C n0 M0 ops 0 (os.drop k) s
 |0,_,_=>rfl
 |k+1,[],s=>by simp[u1l]
 |k+1,_::os,s=>by
  show u1l A P ent C n0 M0 ops k os s=u1l A P ent C n0 M0 ops 0 (os.drop k) s;exact z8a k os s
def x1r.mintB {P:Program}{En:Ent}{a:Act}{w:World}: ∀(l:List (Nat × Nat × TypeId)) {s:VSt},x1r En s a w->x1r En (mintB P s l) a w
 | [],_,hs=>hs
 |(b,off,t)::l,s,hs=>by
  unfold Go.Vm.mintB;split
  ·rename_i k vs e sz hb hel;split
   ·rename_i hv;refine x1r.mintB l ?_;obtain⟨g,hs⟩:=hs;have hn:g.n=s.h.length:=hs.heap.n
    let v0:Value:= .slice none 0 0
    have hv1:(g.push 0 v0).val g.n=v0:=by simp[Gh.push]
    have hk:=Keep.push (R:=none) (x:= .arr e sz []) hs.heap 0 v0 (w':=w) (Fr.refl _ _) ⟨by simp, .inl ⟨hv1,rfl⟩⟩ (fun k' hk'=>by simp[Box.at?,hv1,v0]at hk')
    have hbl:b < s.h.length:=(a0c.1 hb).1;have hb1:(s.h++[Box.arr e sz []])[b]? =some (.cells k vs):=by rw[a0z,if_pos hbl];exact hb
    obtain⟨us,o,h1,h0,h2,h3⟩:=hk.heap.rep b _ hb1;have hk2:=Keep.turn (g':=g.push 0 v0) (y:= .cells k (vs.set off (.own s.h.length))) hk.heap hb1 [] (.inl ⟨rfl,rfl⟩) rfl rfl rfl (fun _ _=>⟨rfl,rfl⟩) (Fr.refl _ _)
     ⟨us,o,h1,h0,by simpa using h2,fun i u v hu hv'=>by
      rw[a1j]at hv';split at hv'
      ·rename_i hi;subst hi;split at hv'
       ·cases hv';have:=h3 off u .nils hu hv;cases this;have:=Rep.own (w:=w) (g:=g.push 0 v0) g.n (by simp[Gh.push])
        rwa [hv1,hn]at this
       ·cases hv'
      ·exact h3 i u v hu hv'⟩ (fun k hk=> .inl hk)
    rw[x2q]at hk2;have e1:(s.h++[Box.arr e sz []]).set b (.cells k (vs.set off (.own s.h.length)))=s.h.set b (.cells k (vs.set off (.own s.h.length)))++[.arr e sz []]:=by
     rw[List.set_append_left _ _ hbl]
    rw[e1]at hk2;have s1:=hs.next hk (by simp[okM]) (x:= .any) (u:=undef) (.any undef) none
    have s2:=s1.next hk2 (by simp[okM]) (x:= .any) (u:=undef) (.any undef) none
    exact⟨_,s2⟩
   ·exact x1r.mintB l hs
  ·rename_i e sz hb hel;split
   ·rename_i hv;refine x1r.mintB l ?_;obtain⟨g,hs⟩:=hs;have hn:g.n=s.h.length:=hs.heap.n
    let v0:Value:= .slice none 0 0
    have hv1:(g.push 0 v0).val g.n=v0:=by simp[Gh.push]
    have hk:=Keep.push (R:=none) (x:= .arr e sz []) hs.heap 0 v0 (w':=w) (Fr.refl _ _) ⟨by simp, .inl ⟨hv1,rfl⟩⟩ (fun k' hk'=>by simp[Box.at?,hv1,v0]at hk')
    have s1:=hs.next hk (by simp[okM]) (x:= .any) (u:=undef) (.any undef) none
    have e1:(s.next [] (s.h++[Box.arr e sz []]) none .any)=⟨s.t,s.h++[Box.arr e sz []]⟩:=rfl;have e2:a.put none undef=a:=rfl;rw[e1,e2]at s1;refine⟨_,s1.heap,by simpa using s1.size,fun i u v hu hv'=> ?_,s1.defers,s1.keep,by simpa using s1.len⟩
    rw[a1j]at hv';split at hv'
    ·rename_i hi;subst hi;split at hv'
     ·cases hv';have:=s1.tmps off u .nils hu hv;cases this;have:=Rep.own (w:=w) (g:=g.push 0 v0) g.n (by simp[Gh.push])
      rwa [hv1,hn]at this
     ·cases hv'
    ·exact s1.tmps i u v hu hv'
   ·exact x1r.mintB l hs
  ·exact x1r.mintB l hs
def x1r.mintP {P:Program}{En:Ent}{a:Act}{w:World}: ∀(l:List (Nat × Nat × Nat × Nat × TypeId)) {s:VSt},x1r En s a w->x1r En (Go.Vm.mintP P s l) a w
 | [],_,hs=>hs
 |(b,off,b2,off2,t)::l,s,hs=>by
  unfold Go.Vm.mintP;split
  ·rename_i k vs k2 vs2 e sz hb hb2 hel hne;have hne:=of_decide_eq_false hne;split
   ·rename_i hv hv2;refine x1r.mintP l ?_;obtain⟨g,hs⟩:=hs;have hn:g.n=s.h.length:=hs.heap.n
    let v0:Value:= .slice none 0 0
    have hv1:(g.push 0 v0).val g.n=v0:=by simp[Gh.push]
    have hk:=Keep.push (R:=none) (x:= .arr e sz []) hs.heap 0 v0 (w':=w) (Fr.refl _ _) ⟨by simp, .inl ⟨hv1,rfl⟩⟩ (fun k' hk'=>by simp[Box.at?,hv1,v0]at hk')
    have own0: ∀u,Rep w (g.push 0 v0) u .nils->Rep w (g.push 0 v0) u (.own s.h.length):=fun u hu=>by
     cases hu;have:=Rep.own (w:=w) (g:=g.push 0 v0) g.n (by simp[Gh.push])
     rwa [hv1,hn]at this
    have hbl:b < s.h.length:=(a0c.1 hb).1;have hbl2:b2 < s.h.length:=(a0c.1 hb2).1;have hb1:(s.h++[Box.arr e sz []])[b]? =some (.cells k vs):=by rw[a0z,if_pos hbl];exact hb
    obtain⟨us,o,h1,h0,h2,h3⟩:=hk.heap.rep b _ hb1;have hk2:=Keep.turn (g':=g.push 0 v0) (y:= .cells k (vs.set off (.own s.h.length))) hk.heap hb1 [] (.inl ⟨rfl,rfl⟩) rfl rfl rfl (fun _ _=>⟨rfl,rfl⟩) (Fr.refl _ _)
     ⟨us,o,h1,h0,by simpa using h2,fun i u v hu hv'=>by
      rw[a1j]at hv';split at hv'
      ·rename_i hi;subst hi;split at hv'
       ·cases hv';exact own0 u (h3 off u .nils hu hv)
       ·cases hv'
      ·exact h3 i u v hu hv'⟩ (fun k hk=> .inl hk)
    rw[x2q]at hk2;have e1:(s.h++[Box.arr e sz []]).set b (.cells k (vs.set off (.own s.h.length)))=s.h.set b (.cells k (vs.set off (.own s.h.length)))++[.arr e sz []]:=by
     rw[List.set_append_left _ _ hbl]
    rw[e1]at hk2;have hb3:(s.h.set b (.cells k (vs.set off (.own s.h.length)))++[Box.arr e sz []])[b2]? =some (.cells k2 vs2):=by
     rw[a0z,if_pos (by simpa using hbl2),a1j,if_neg hne];exact hb2
    obtain⟨us',o',h1',h0',h2',h3'⟩:=hk2.heap.rep b2 _ hb3;have hk3:=Keep.turn (g':=g.push 0 v0) (y:= .cells k2 (vs2.set off2 (.own s.h.length))) hk2.heap hb3 [] (.inl ⟨rfl,rfl⟩) rfl rfl rfl (fun _ _=>⟨rfl,rfl⟩) (Fr.refl _ _)
     ⟨us',o',h1',h0',by simpa using h2',fun i u v hu hv'=>by
      rw[a1j]at hv';split at hv'
      ·rename_i hi;subst hi;split at hv'
       ·cases hv';exact own0 u (h3' off2 u .nils hu hv2)
       ·cases hv'
      ·exact h3' i u v hu hv'⟩ (fun k hk=> .inl hk)
    rw[x2q]at hk3;have e2:(s.h.set b (.cells k (vs.set off (.own s.h.length)))++[Box.arr e sz []]).set b2 (.cells k2 (vs2.set off2 (.own s.h.length)))=(s.h.set b (.cells k (vs.set off (.own s.h.length)))).set b2 (.cells k2 (vs2.set off2 (.own s.h.length)))++[.arr e sz []]:=by
     rw[List.set_append_left _ _ (by simpa using hbl2)]
    rw[e2]at hk3;have s1:=hs.next hk (by simp[okM]) (x:= .any) (u:=undef) (.any undef) none
    have s2:=s1.next hk2 (by simp[okM]) (x:= .any) (u:=undef) (.any undef) none
    have s3:=s2.next hk3 (by simp[okM]) (x:= .any) (u:=undef) (.any undef) none
    exact⟨_,s3⟩
   ·exact x1r.mintP l hs
  ·exact x1r.mintP l hs
def u7i {P:Program}{t:TypeId}{v x:V}{w:World}{g:Gh}{u:Value}(h:k3x P t v=some x)(hr:Rep w g u v):Rep w g u x:=by
 unfold k3x at h;split at h
 ·split at h<;>cases h
  cases hr;exact .d (.slnil _)
 ·split at h<;>cases h
  cases hr;exact .ifo0 _ _
 ·cases h
def x1r.datB {P:Program}{En:Ent}{a:Act}{w:World}: ∀(l:List (Nat × Nat × TypeId)) {s:VSt},x1r En s a w->x1r En (Go.Vm.datB P s l) a w
 | [],_,hs=>hs
 |(b,off,t)::l,s,hs=>by
  unfold Go.Vm.datB;split
  ·rename_i k vs hb;split
   ·exact x1r.datB l hs.frzs
   ·rename_i v hno hv;split
    ·rename_i x hx;refine x1r.datB l ?_;obtain⟨g,hs⟩:=hs;obtain⟨us,o,h1,h0,h2,h3⟩:=hs.heap.rep b _ hb;have hk2:=Keep.turn (g':=g) (y:= .cells k (vs.set off x)) hs.heap hb [] (.inl ⟨rfl,rfl⟩) rfl rfl rfl (fun _ _=>⟨rfl,rfl⟩) (Fr.refl _ _)
      ⟨us,o,h1,h0,by simpa using h2,fun i u v' hu hv'=>by
       rw[a1j]at hv';split at hv'
       ·rename_i hi;subst hi;split at hv'
        ·cases hv';exact u7i hx (h3 off u v hu hv)
        ·cases hv'
       ·exact h3 i u v' hu hv'⟩ (fun k hk=> .inl hk)
     rw[x2q]at hk2;exact⟨_,hs.next hk2 (by simp[okM]) (x:= .any) (u:=undef) (.any undef) none⟩
    ·exact x1r.datB l hs
   ·exact x1r.datB l hs
  ·split
   ·exact x1r.datB l hs.frzs
   ·rename_i v hno hv;split
    ·rename_i x hx;refine x1r.datB l ?_;obtain⟨g,hs⟩:=hs;refine⟨g,hs.heap,by simpa using hs.size,fun i u v' hu hv'=> ?_,hs.defers,hs.keep,by simpa using hs.len⟩
     rw[a1j]at hv';split at hv'
     ·rename_i hi;subst hi;split at hv'
      ·cases hv';exact u7i hx (hs.tmps off u v hu hv)
      ·cases hv'
     ·exact hs.tmps i u v' hu hv'
    ·exact x1r.datB l hs
   ·exact x1r.datB l hs
  ·exact x1r.datB l hs
def y1k (hE:E.Ok)(hG:x2p P E){ro:Option Nat}{ent:Callee->List V->List Box->Tree (List Nat × V × List Box)}(hent:x7k P E ent){C:CfgO}{En:Ent}{ops:Array Oper}{Q:Exit->Act->World->Prop}{r:Option V × VSt}: ∀(n:Nat) {os:List Oper} {s:VSt} {a:Act} {w:World},os.length<=n->
  (u1l sy P ent C En.g.n En.M ops 0 os s).run E=some r->x1r En s a w->(∀e a' w',OpR En r e a' w'->Q e a' w')->wpListIn (Fw ro) 0 P ops Q os a w
 |_,[],s,a,w,_,hk,hs,hq=>by cases hk;exact hq .normal a w ⟨rfl,hs⟩
 |0,_::_,s,a,w,hn,_,_,_=>by simp at hn
 |n+1,o::os,s,a,w,hn,hk,hs,hq=>by
  have hn:os.length<=n:=by simpa using hn
  have exec: ∀s,x1r En s a w->((v9z sy P ent C En.g.n En.M s o).bind fun q=>match q.1 with
   |some p=> .ret (some p,q.2)
   |none=>x6k (mintB P q.2 (w0r C s o)) fun s'=>match q7y P C ops o os with
    |some L=> .cut ((u8x sy P ops (os.take L) s').bind fun s2=>match s2.t[y2m 0 (os.take L)]? with
      |some (.d (.bool b))=> .ret (.inl [.bool b])
      |_=> .fail) fun ds=> .cB (sy.cell ds 0) fun b=>x6k ⟨(y6e s'.t (os.take L)).set (y2m 0 (os.take L)) (.d (.bool b)),s'.h⟩ (u1l sy P ent C En.g.n En.M ops L os)
    |none=>u1l sy P ent C En.g.n En.M ops 0 os s').run E=some r->o.wpIn (Fw ro) 0 P a w (wpListIn (Fw ro) 0 P ops Q os) Q:=by
   intro s hs hk;obtain⟨q1,h1,hk⟩:=x0b hE hk;obtain⟨p1,s1⟩:=q1;cases p1 with
   |some p=>
    cases hk;exact y8b hE hG hent h1 hs (fun a' w' h=>(by cases h)) fun p' e a' w' hp hpe=>hq e a' w' (by cases hp;exact hpe)
   |none=>
   simp only at hk;rw[x5w]at hk;refine y8b hE hG hent h1 hs (fun a' w' _ hs'=> ?_) (fun p e a' w' h=>by cases h)
   simp only at hs';have hs':=hs'.mintB (P:=P) (w0r C s o);generalize mintB P s1 (w0r C s o)=s1 at hk hs';split at hk
   ·rename_i L _;simp only[Tree.run]at hk;obtain⟨q,h2,hk⟩:=a1r.1 hk;obtain⟨s2,h3,h4⟩:=x0b hE h2;have hre:os=os.take L++os.drop L:=(a1w L os).symm;generalize os.take L=seg at h3 h4 hk hre;rw[hre];refine y4p hE hG h3 hs' fun a2 w2 hs2=> ?_
    split at h4
    ·rename_i b hb;cases h4;have hk:(x6k ⟨(y6e s1.t seg).set (y2m 0 seg) (.d (.bool b)),s1.h⟩ (u1l sy P ent C En.g.n En.M ops L os)).run E=some r:=hk;rw[x5w,z8a]at hk;obtain⟨f1,f2,f3⟩:=z2s hE h3;obtain⟨g1,g2⟩:=z1j (os:=seg) (t:=s1.t);refine y1k hE hG hent n (by simp;omega) hk ?_ hq
     refine hs2.less f1.symm (by simp[g1,f2]) fun k v hv=> ?_
     simp only at hv;rw[a1j]at hv
     by_cases hkd:y2m 0 seg=k
     ·rw[if_pos hkd]at hv;split at hv
      ·cases hv;right;rw[<-hkd];exact hb
      ·cases hv
     ·rw[if_neg hkd]at hv;rcases g2 k v hv with h5|⟨h5,h6⟩
      ·exact .inl h5
      ·right;rw[f3 k h5];exact h6
    ·cases h4
   ·exact y1k hE hG hent n hn hk hs' hq
  have pass: ∀s,x1r En s a w->(x6k (s.next [] s.h o.dst (.tup [])) (u1l sy P ent C En.g.n En.M ops 0 os)).run E=some r->wpListIn (Fw ro) 0 P ops Q os (a.put o.dst undef) w:=by
   intro s hs hk;rw[x5w]at hk;obtain⟨g,hs'⟩:=hs;exact y1k hE hG hent n hn hk ⟨g,hs'.next (.refl hs'.heap) (by simp[okM]) (.tup #[] [] rfl (by simp)) o.dst⟩ hq
  unfold u1l at hk;simp only at hk;split at hk
  ·rename_i hg;refine x5k ?_;simp only[Region.wanted,hg,if_true];exact exec s hs hk
  ·rename_i j want hg;split at hk
   ·rename_i t ht;split at hk
    ·rename_i c hc;obtain⟨hs1,ha⟩:=y7a hs hc;have hy:yielded ops a.tmps j=some c:=by simp[yielded,ht,ha]
     refine x5k ?_;simp only[Region.wanted,hg,hy];split at hk<;>cases c
     ·rw[if_neg (by simp)]
      exact pass _ hs1 hk
     ·rw[if_pos (by simp)]
      exact exec _ hs1 hk
     ·rw[if_pos (by simp)]
      exact exec _ hs1 hk
     ·rw[if_neg (by simp)]
      exact pass _ hs1 hk
    ·rename_i hc;have hy:yielded ops a.tmps j=none:=by
      have hlt:t < s.t.length:=(a0c.1 hc).1;obtain⟨g,hs'⟩:=hs;have hlt':t < a.tmps.size:=by rw[hs'.size];exact hlt
      have hu:=hs'.tmps t _ _ (a0x hlt') hc;have ha:a.tmps[t]? =some a.tmps[t]:=a0x hlt';generalize a.tmps[t]=u at hu ha;cases hu with
      |tup us cs hl h=>simp[yielded,ht,ha]
     refine x5k ?_;simp only[Region.wanted,hg,hy];rw[if_neg (by simp)]
     exact pass _ hs hk
    ·cases hk
   ·cases hk
end
section
variable (A : Sy) (P : Program) (C : CfgO)
def w8d (h:List Box)(B:Operand->V)(o:Oper):Tree V:=match x5f P B o with
 |some (f,vs0)=>match u1p P (w4u P f) vs0 with
  |vs=>match C.inl.contains f,vs.all V.j0e,z1r P f with
  |false,true,some ts=>u0t A P f vs ts
  |_,_,_=> .fail
 |none=>w4v A P h B o
def v5i {β:Type}(ops:Array Oper)(o:Oper)(t:List V)(exec pass:List V->Tree β):Tree β:=match o.guard with
 |none=>exec t
 |some (j,want)=>match (ops[j]?).bind (·.dst)with
  |some k=>match t[k]? with
   |some (.d (.bool c))=>match want with
    |true=> .ite c (exec (t.set k (.d (.bool true)))) (pass (t.set k (.d (.bool false))))
    |false=> .ite c (pass (t.set k (.d (.bool true)))) (exec (t.set k (.d (.bool false))))
   |some (.tup [])=>pass t
   |_=> .fail
  |none=> .fail
variable (ent : Callee -> List V -> List Box -> Tree (List Nat × V × List Box)) (n0 : Nat) (M0 : List Nat)
def k5w (ops:Array Oper)(s:VSt):VSt:=s.frz (ops.toList.flatMap fun o=>match o.op with
 | .call ⟨.value f,args,_⟩=>fzl s o++(match f with
   | .func f=>match C.inl.contains f with
     |true=>[]
     |false=>args.toList.flatMap fun y=>match y6t P ops s 12 y with
      |some (.own b)=>[b]
      |_=>[]
   |_=>[])
 |_=>[])
end
section
variable {P : Program} {M : List Nat} {h h' h2 h0 hh : List Box} {B ρ2 : Operand -> V} {o : Oper} {x : V} {ops : Array Oper} {W : List Nat} {E : Env} {C : CfgO}
def u9i (he: ∀y,y∈o.op.operands.toList->B y=ρ2 y)(hk:(w4v sy P h B o).run E=some x):(w4v sy P h ρ2 o).run E=some x:=by
 unfold w4v at hk ⊢;cases hop:o.op<;>simp only[hop]at hk ⊢ <;>(try (cases hk;done))
 case move y=>rw[<-he y (by simp[hop,Op.operands])];exact hk
 case assign y=>rw[<-he y (by simp[hop,Op.operands])];exact hk
 case pick c a b=>rw[<-he c (by simp[hop,Op.operands]),<-he a (by simp[hop,Op.operands]),<-he b (by simp[hop,Op.operands])];exact hk
 case build t parts=>
  have e1:(parts.toList.map fun q=>(q.1,B q.2))=parts.toList.map fun q=>(q.1,ρ2 q.2):=a2d fun q hq=>by
   rw[he q.2 (by simp only[hop,Op.operands];exact a1z.2 ⟨q,hq,rfl⟩)]
  have e2:(parts.toList.all fun q=>(B q.2).j0g h)=parts.toList.all fun q=>(ρ2 q.2).j0g h:=by
   rw[a1g,a0l,a0l];refine⟨fun hh q hq=> ?_,fun hh q hq=> ?_⟩
   ·rw[<-he q.2 (by simp only[hop,Op.operands];exact a1z.2 ⟨q,hq,rfl⟩)];exact hh q hq
   ·rw[he q.2 (by simp only[hop,Op.operands];exact a1z.2 ⟨q,hq,rfl⟩)];exact hh q hq
  rw[<-e1,<-e2];exact hk
 case buildSlice t n parts=>
  have e1:(parts.toList.map fun q=>(q.1,B q.2))=parts.toList.map fun q=>(q.1,ρ2 q.2):=a2d fun q hq=>by
   rw[he q.2 (by simp only[hop,Op.operands];exact a1z.2 ⟨q,hq,rfl⟩)]
  have e2:(parts.toList.all fun q=>(B q.2).j0g h)=parts.toList.all fun q=>(ρ2 q.2).j0g h:=by
   rw[a1g,a0l,a0l];refine⟨fun hh q hq=> ?_,fun hh q hq=> ?_⟩
   ·rw[<-he q.2 (by simp only[hop,Op.operands];exact a1z.2 ⟨q,hq,rfl⟩)];exact hh q hq
   ·rw[he q.2 (by simp only[hop,Op.operands];exact a1z.2 ⟨q,hq,rfl⟩)];exact hh q hq
  rw[<-e1,<-e2];exact hk
 case load t y=>rw[<-he y (by simp[hop,Op.operands])];exact hk
 case nilCheck y=>rw[<-he y (by simp[hop,Op.operands])];exact hk
 case binOp op t y z u=>rw[<-he y (by simp[hop,Op.operands]),<-he z (by simp[hop,Op.operands])];exact hk
 case unOp op t y=>rw[<-he y (by simp[hop,Op.operands])];exact hk
 case convert s t y=>rw[<-he y (by simp[hop,Op.operands])];exact hk
 case makeFunc fn first caps=>
  have e1:caps.toList.map B=caps.toList.map ρ2:=a2d fun q hq=>he q (by simp[hop,Op.operands];right;simpa using hq)
  have e2: ∀y∈first.toList,B y=ρ2 y:=fun y hy=>he y (by simp[hop,Op.operands];left;simpa using hy)
  obtain⟨l⟩:=first;cases fn<;>(try (cases hk;done))
  match l,hk,e2 with
  | [],hk,_=>simp only at hk ⊢;rw[<-e1];exact hk
  | [y],hk,e2=>simp only at hk ⊢;rw[<-e2 y (by simp)];exact hk
  |_::_::_,hk,_=>cases hk
 case typeAssert y _ _ _=>rw[<-he y (by simp[hop,Op.operands])];exact hk
 case makeInterface t y=>rw[<-he y (by simp[hop,Op.operands])];exact hk
 case slice t y lo hi mx=>
  have e1:lo.map B=lo.map ρ2:=by cases lo with
   |none=>rfl
   |some q=>simp[he q (by simp[hop,Op.operands])]
  have e2:hi.map B=hi.map ρ2:=by cases hi with
   |none=>rfl
   |some q=>simp[he q (by simp[hop,Op.operands])]
  rw[<-he y (by simp[hop,Op.operands]),<-e1,<-e2];exact hk
 case fieldAddr s y f=>rw[<-he y (by simp[hop,Op.operands])];exact hk
 case field t y f=>rw[<-he y (by simp[hop,Op.operands])];exact hk
 case lookup t y z c=>rw[<-he y (by simp[hop,Op.operands]),<-he z (by simp[hop,Op.operands])];exact hk
 case indexAddr t y z=>rw[<-he y (by simp[hop,Op.operands]),<-he z (by simp[hop,Op.operands])];exact hk
 case index t y z=>rw[<-he y (by simp[hop,Op.operands]),<-he z (by simp[hop,Op.operands])];exact hk
 case extract y i=>rw[<-he y (by simp[hop,Op.operands])];exact hk
 case call c=>
  obtain⟨cal,args,ts⟩:=c;have hargs:args.toList.map B=args.toList.map ρ2:=a2d fun q hq=>he q (by
   simp only[hop,Op.operands,Call.operands,Array.toList_append,a1k];right;exact hq)
  cases cal with
  |value q=>
   have hmem: ∀q,q∈args.toList->B q=ρ2 q:=fun q hq=>he q (by
    simp only[hop,Op.operands,Call.operands,Array.toList_append,a1k];right;exact hq)
   have hq:B q=ρ2 q:=he q (by simp[hop,Op.operands,Call.operands])
   obtain⟨l⟩:=args
   match l,hk,hmem with
   | [],hk,_=>cases hk
   | [_],hk,_=>cases hk
   | [y,z],hk,hmem=>simp only at hk ⊢;rw[<-hq,<-hmem y (by simp),<-hmem z (by simp)];exact hk
   |_::_::_::_,hk,_=>cases hk
  |invoke r m=>cases hk
  |builtin b=>
   have hmem: ∀q,q∈args.toList->B q=ρ2 q:=fun q hq=>he q (by
    simp only[hop,Op.operands,Call.operands,Array.toList_append,a1k];right;exact hq)
   obtain⟨l⟩:=args;cases b<;>(try (cases hk;done))
   case len=>
    match l,hk,hmem with
    | [y],hk,hmem=>simp only at hk ⊢;rw[<-hmem y (by simp)];exact hk
   case cap=>
    match l,hk,hmem with
    | [y],hk,hmem=>simp only at hk ⊢;rw[<-hmem y (by simp)];exact hk
   case max=>
    match l,hk,hmem with
    | [y,z],hk,hmem=>simp only at hk ⊢;rw[<-hmem y (by simp),<-hmem z (by simp)];exact hk
   case min=>
    match l,hk,hmem with
    | [y,z],hk,hmem=>simp only at hk ⊢;rw[<-hmem y (by simp),<-hmem z (by simp)];exact hk
def x7u (he: ∀y,y∈o.op.operands.toList->B y=ρ2 y):x5f P B o=x5f P ρ2 o:=by
 unfold x5f;split
 ·rename_i y args ts hop;have hargs:args.toList.map B=args.toList.map ρ2:=a2d fun q hq=>he q (by
   simp only[hop,Op.operands,Call.operands,Array.toList_append,a1k];right;exact hq)
  have hy:B y=ρ2 y:=he y (by simp[hop,Op.operands,Call.operands])
  rw[hargs];cases y<;>first|rfl|simp only[hy]
 ·rfl
def y4t (hE:E.Ok)(hG:x2p P E)(hf: ∀f,B (.func f)= .fn f [])(hk:(w8d sy P C h B o).run E=some x): ∀h2,Pre h h2->x0o P [] h2 h2 (x3l o B) o x:=by
 have hc0:=x7u (P:=P) (B:=B) (ρ2:=x3l o B) (o:=o) (fun y hy=>(x9f hf hy).symm)
 unfold w8d at hk;rw[hc0]at hk;split at hk
 ·rename_i f vs hc;simp only at hk;split at hk
  ·rename_i hp hs;obtain⟨y,args,ts,hop,hy⟩:=x3i hc (z2u o B);obtain⟨q1,q2,_⟩:=x5p hE hG hp hs hk;exact fun h2 _=>x5m hop hy (x3k hs) (q1.hcall hp q2 h2).can
  ·cases hk
 ·exact y4u hE (u9i (fun y hy=>(x9f hf hy).symm) hk)
def u9w {β:Type}{t:List V}{exec pass:List V->Tree β}{r:β}(hk:(v5i ops o t exec pass).run E=some r):
  (x5d ops o t=some true/\(exec t).run E=some r)\/(x5d ops o t=some false/\(pass t).run E=some r):=by
 unfold v5i at hk;split at hk
 ·rename_i hg;exact .inl ⟨by simp[x5d,hg],hk⟩
 ·rename_i j want hg;split at hk
  ·rename_i k hjk;split at hk
   ·rename_i c hc;have hw:x5d ops o t=some (c == want):=by simp[x5d,hg,hjk,hc]
    split at hk<;>cases c<;>simp only[Tree.run,w0b hc]at hk
    ·exact .inr ⟨by rw[hw];rfl,hk⟩
    ·exact .inl ⟨by rw[hw];rfl,hk⟩
    ·exact .inl ⟨by rw[hw];rfl,hk⟩
    ·exact .inr ⟨by rw[hw];rfl,hk⟩
   ·rename_i hc;exact .inr ⟨by simp[x5d,hg,hjk,hc],hk⟩
   ·cases hk
  ·cases hk
end
section
variable {P : Program} {h h' h2 h0 hh hx hx' : List Box} {B ρ2 : Operand -> V} {o : Oper} {x : V} {ops : Array Oper} {W Z M : List Nat} {T : Nat -> List Nat} {t t2 : List V} {En : Ent} {E : Env} {C : CfgO}
def z2g (C:CfgO)(o:Oper):Bool:=match o.op with
 | .store .. =>true
 | .alloc _=>true
 | .buildSlice .. =>true
 | .call ⟨.builtin .append,_,_⟩=>true
 | .call ⟨.value (.tmp _),_,_⟩=>true
 | .call ⟨.value (.func f),_,_⟩=>C.inl.contains f
 | .call ⟨.builtin .copy,_,_⟩=>true
 |_=>false
def w3n (C:CfgO)(ops:Array Oper):Bool:=(List.range ops.size).all fun j=>match ops[j]? with
 |some oj=> !z2g C oj || (List.range j).all fun i=>match ops[i]? with
  |some oi=> !z2g C oi || x5b ops 5 oj i
  |none=>true
 |none=>true
def q8g (C:CfgO)(ops:Array Oper)(i:Nat):Bool:=(List.range ops.size).all fun j=>match ops[j]? with
 |some oj=> !z2g C oj || x5b ops 5 oj i || (match ops[i]? with
  |some oi=>x5b ops 5 oi j
  |none=>false)
 |none=>true
def mkI (o:Oper):Bool:=match o.op with
 | .alloc _=>true
 | .buildSlice .. =>true
 |_=>false
def x5l (C:CfgO)(o:Oper):Bool:=match o.op with
 | .call ⟨.value (.tmp _),_,_⟩=>true
 | .call ⟨.value (.func f),_,_⟩=>C.inl.contains f
 |_=>false
def q8z (C:CfgO)(ops:Array Oper)(i:Nat):Bool:=(List.range ops.size).all fun j=>match ops[j]? with
 |some oj=> !z2g C oj || mkI oj || x5l C oj || x5b ops 5 oj i || (match ops[i]? with
  |some oi=>x5b ops 5 oi j
  |none=>false)
 |none=>true
def x4e (M:List Nat)(t:List V):List V:=match M with
 | []=>t
 |_=>t.map (V.kill M)
def y7i (M:List Nat)(t:List V):x4e M t=t.map (V.kill M):=by
 cases M with
 |nil=>rw[show V.kill []=id from funext V.j0c];simp[x4e]
 |cons=>rfl
def y0t (s:VSt)(M:List Nat)(h':List Box)(d:Option Tmp)(x:V):s.next M h' d x=⟨x3y (x4e M s.t) d x,h'⟩:=by
 unfold VSt.next x3y x4e;cases M<;>cases d<;>rfl
def u3z (Z:List Nat):V->Bool
 | .d _=>true
 | .nils=>true
 | .nilp=>true
 | .nilf=>true
 | .ifn _=>true
 | .pel _=>true
 | .own b=> !Z.contains b
 | .map b=> !Z.contains b
 | .ptr b _=> !Z.contains b
 | .mv _ b _=> !Z.contains b
 | .ifp _ b _=> !Z.contains b
 | .pml b _ _ _=> !Z.contains b
 | .yld b _=> !Z.contains b
 | .osl b _ _ _=> !Z.contains b
 |_=>false
def y5f (Z:List Nat):V->Bool
 | .agg cs=>cs.all (u3z Z)
 | .tup cs=>cs.all (u3z Z)
 |v=>u3z Z v
def z8i {b:Nat}(hM: ∀b∈M,b∈Z)(h:(!Z.contains b)=true):(!M.contains b)=true:=by
 simp only[Bool.not_eq_true',List.contains_eq_mem,decide_eq_false_iff_not]at h ⊢;exact fun hb=>h (hM b hb)
def z3r {v:V}(hM: ∀b∈M,b∈Z)(h:u3z Z v=true):v.j0d M=v:=by
 cases v with
 |any=>cases h
 |agg cs=>cases h
 |tup cs=>cases h
 |fn f cs=>cases h
 |own b=>exact congrArg (fun q=>bif q then V.own b else .any) (z8i hM h)
 |map b=>exact congrArg (fun q=>bif q then V.map b else .any) (z8i hM h)
 |ptr b off=>exact congrArg (fun q=>bif q then V.ptr b off else .any) (z8i hM h)
 |mv f b off=>exact congrArg (fun q=>bif q then V.mv f b off else .any) (z8i hM h)
 |ifp f b off=>exact congrArg (fun q=>bif q then V.ifp f b off else .any) (z8i hM h)
 |pml b sz i off=>exact congrArg (fun q=>bif q then V.pml b sz i off else .any) (z8i hM h)
 |yld b R=>exact congrArg (fun q=>bif q then V.yld b R else .any) (z8i hM h)
 |osl b s l n=>exact congrArg (fun q=>bif q then V.osl b s l n else .any) (z8i hM h)
 |_=>rfl
def w2l {v:V}(h:u3z Z (v.j0d M)=true):v.j0d M=v:=by
 unfold V.j0d at h ⊢;cases hf:v.j0k M with
 |true=>rfl
 |false=>rw[hf]at h;cases h
def u0r {v:V}(hM: ∀b∈M,b∈Z)(h:y5f Z v=true):v.kill M=v:=by
 have aux: ∀cs:List V,cs.all (u3z Z)=true->cs.map (V.j0d M)=cs:=fun cs hc=>by
  have:cs.map (V.j0d M)=cs.map id:=a2d fun v hv=>z3r hM (a0l.1 hc v hv)
  simpa using this
 cases v with
 |agg cs=>exact congrArg V.agg (aux cs h)
 |tup cs=>exact congrArg V.tup (aux cs h)
 |fn f cs=>cases h
 |_=>exact z3r hM h
def q3a {v:V}(h:y5f Z (v.kill M)=true):v.kill M=v:=by
 have aux: ∀cs:List V,(cs.map (V.j0d M)).all (u3z Z)=true->cs.map (V.j0d M)=cs:=fun cs hc=>by
  have:cs.map (V.j0d M)=cs.map id:=a2d fun v hv=>w2l (a0l.1 hc _ (List.mem_map_of_mem hv))
  simpa using this
 have aux2: ∀v:V,y5f Z (bif V.j0k M v then v else .any)=true->(bif V.j0k M v then v else .any)=v:=fun v h=>by
  cases hf:v.j0k M with
  |true=>rfl
  |false=>rw[hf]at h;cases h
 cases v with
 |agg cs=>exact congrArg V.agg (aux cs h)
 |tup cs=>exact congrArg V.tup (aux cs h)
 |fn f cs=>cases h
 |any=>cases h
 |own b=>exact aux2 (.own b) h
 |map b=>exact aux2 (.map b) h
 |ptr b off=>exact aux2 (.ptr b off) h
 |mv f b off=>exact aux2 (.mv f b off) h
 |ifp f b off=>exact aux2 (.ifp f b off) h
 |pml b sz i off=>exact aux2 (.pml b sz i off) h
 |yld b R=>exact aux2 (.yld b R) h
 |osl b s l n=>exact aux2 (.osl b s l n) h
 |_=>rfl
def z0b (M:List Nat)(t:List V)(h:List Box)(y:Operand):VSt.get ⟨x4e M t,h⟩ y=VSt.get ⟨t,h⟩ y\/VSt.get ⟨x4e M t,h⟩ y=(VSt.get ⟨t,h⟩ y).kill M:=by
 rw[y7i];cases y with
 |tmp k=>
  right
  show(t.map (V.kill M)).getD k .any=(t.getD k .any).kill M;rw[a0i,a0i,a0m];cases t[k]? <;>rfl
 |const v=>left;rfl
 |func f=>left;rfl
 |global k=>left;rfl
def w1r {y:Operand}(hM: ∀b∈M,b∈Z)(hc:y5f Z (VSt.get ⟨t,h⟩ y)=true):VSt.get ⟨x4e M t,h⟩ y=VSt.get ⟨t,h⟩ y:=by
 rcases z0b M t h y with h1|h1
 ·exact h1
 ·rw[h1,u0r hM hc]
def u3k {y:Operand}(hc:y5f Z (VSt.get ⟨x4e M t,h⟩ y)=true):VSt.get ⟨x4e M t,h⟩ y=VSt.get ⟨t,h⟩ y:=by
 rcases z0b M t h y with h1|h1
 ·exact h1
 ·rw[h1]at hc ⊢;exact q3a hc
def u5h {y:Operand}(he:x3l o (VSt.get ⟨t2,h⟩)=x3l o (VSt.get ⟨t,h⟩))(hy:y∈o.op.operands.toList):VSt.get ⟨t2,h⟩ y=VSt.get ⟨t,h⟩ y:=by
 have:=congrFun he y
 rwa [x9f (fun _=>rfl) hy,x9f (fun _=>rfl) hy]at this
def u5i (he: ∀y∈o.op.operands.toList,VSt.get ⟨t2,h⟩ y=VSt.get ⟨t,h⟩ y):x3l o (VSt.get ⟨t2,h⟩)=x3l o (VSt.get ⟨t,h⟩):=by
 funext y;cases y with
 |func f=>rfl
 |tmp k=>simp only[x3l];split<;>first|exact he _ ‹_› |rfl
 |const v=>simp only[x3l];split<;>first|exact he _ ‹_› |rfl
 |global k=>simp only[x3l];split<;>first|exact he _ ‹_› |rfl
def z2i {b:Bool}:x5d ops o (x4e M t)=some b↔x5d ops o t=some b:=by
 rw[y7i];unfold x5d;split
 ·rfl
 ·rename_i j want hg;split
  ·rename_i k hk;rw[a0m];cases hv:t[k]? with
   |none=>rfl
   |some v=>
    cases v with
    |d x=>rfl
    |tup cs=>
     cases cs with
     |nil=>rfl
     |cons c cs=>rfl
    |agg cs=>rfl
    |fn f cs=>rfl
    |_=>
     simp only[Option.map_some,V.kill,V.j0d];cases V.j0k M _<;>rfl
  ·rfl
def z8z (hc:x.kill M=x)(d:Option Tmp):x4e M (x3y t d x)=x3y (x4e M t) d x:=by
 rw[y7i,y7i];cases d with
 |none=>rfl
 |some k=>show(t.set k x).map _=(t.map _).set k x;rw[List.map_set,hc]
inductive Eff3 where
 |no
 |late
 |pin (hx:List Box)
 |mid (hb:List Box)
 |big (hx hx':List Box) (M:List Nat)
def Eff3.ok (W:List Nat)(h0 hh:List Box):Eff3->Prop
 | .no=>True
 | .late=>y7r W h0 hh
 | .pin hx=>hh=hx
 | .mid hb=>Pre hb hh
 | .big hx _ _=>hh=hx
def Eff3.run (hh:List Box):Eff3->List Box
 | .big _ hx' _=>hx'
 |_=>hh
def Eff3.km:Eff3->List Nat
 | .big _ _ M=>M
 |_=>[]
def x8g (P:Program)(En:Ent)(o:Oper)(t:List V)(hx:List Box)(M:List Nat)(x:V)(hx':List Box):Prop:=
 ∀t2,x3l o (VSt.get ⟨t2,[]⟩)=x3l o (VSt.get ⟨t,[]⟩)-> ∀(a:Act) (w:World) (K:Act->World->Prop) (Q:Exit->Act->World->Prop),x1r En ⟨t2,hx⟩ a w->
  (∀a' w',x1r En ⟨x3y (x4e M t2) o.dst x,hx'⟩ a' w'->K a' w')->o.wp P a w K Q
def x3b (P:Program)(C:CfgO)(En:Ent)(ops:Array Oper)(W Z:List Nat)(T:Nat->List Nat)(h0:List Box)(i:Nat)(o:Oper)(t:List V)(x:V):Eff3->Prop
 | .no=>x5d ops o t=some false/\x= .tup []
 | .late=>x5d ops o t=some true/\(Z= []\/(y5f Z x=true/\ ∀y∈o.op.operands.toList,y5f Z (VSt.get ⟨t,[]⟩ y)=true))/\ ∀h2,y7r W h0 h2->x0o P [] h2 h2 (x3l o (VSt.get ⟨t,[]⟩)) o x
 | .pin hx=>x5d ops o t=some true/\q8g C ops i=true/\x8g P En o t hx [] x hx
 | .mid hb=>x5d ops o t=some true/\q8z C ops i=true/\hb.length<=h0.length/\(∀j oj,ops[j]? =some oj->z2g C oj=true->x5l C oj=true->x5b ops 5 oj i=true\/x5b ops 5 o j=true\/ ∀b∈T j,∀x,hb[b]? =some x->x= .gone)/\ ∀h2,Pre hb h2->x0o P [] h2 h2 (x3l o (VSt.get ⟨t,[]⟩)) o x
 | .big hx hx' M=>x5d ops o t=some true/\z2g C o=true/\(∀b∈M,b∈Z)/\y7r W h0 hx/\y7r W h0 hx'/\x8g P En o t hx M x hx'/\h0.length<=hx.length/\(mkI o=true->M= []/\ ∃l,hx'=hx++l)/\(x5l C o=true->M= []/\ ∀k,k < h0.length->k ∉ T i->hx'[k]? =hx[k]?)
def x8g.put {d:Option Tmp}{y:V}(hd: ∀k,d=some k->k ∉ o.looksAt ops):x8g P En o (x3y t d y) hx M x hx'↔x8g P En o t hx M x hx':=by
 unfold x8g;rw[x7a hd]
def x8g.congr (he:x3l o (VSt.get ⟨t2,[]⟩)=x3l o (VSt.get ⟨t,[]⟩))(hs:x8g P En o t hx M x hx'):x8g P En o t2 hx M x hx':=by
 unfold x8g;rw[he];exact hs
def w2k {d:Option Tmp}{y:V}(hd: ∀k,d=some k->k ∉ o.looksAt ops):(∀q∈o.op.operands.toList,y5f Z (VSt.get ⟨x3y t d y,[]⟩ q)=true)↔ ∀q∈o.op.operands.toList,y5f Z (VSt.get ⟨t,[]⟩ q)=true:=by
 have:=x7a (x:=y) hd t [];constructor<;>intro hh q hq<;>have:=u5h this hq
 ·rw[<-this];exact hh q hq
 ·rw[this];exact hh q hq
def x3b.put {i:Nat}{d:Option Tmp}{y:V}(hd: ∀k,d=some k->k ∉ o.looksAt ops)(e:Eff3):x3b P C En ops W Z T h0 i o (x3y t d y) x e↔x3b P C En ops W Z T h0 i o t x e:=by
 cases e<;>simp only[x3b,y0g hd,x7a hd,x8g.put hd,w2k hd]
def x3b.kill {i:Nat}{e:Eff3}(hM: ∀b∈M,b∈Z)(he:e= .no\/e= .late):x3b P C En ops W Z T h0 i o (x4e M t) x e↔x3b P C En ops W Z T h0 i o t x e:=by
 rcases he with rfl|rfl
 ·simp only[x3b,z2i]
 ·simp only[x3b,z2i];cases Z with
  |nil=>
   have hM:M= []:=List.eq_nil_iff_forall_not_mem.2 fun b hb=>by simpa using hM b hb
   subst hM;rfl
  |cons z zs=>
   constructor
   ·rintro⟨h1,h2,h3⟩
    rcases h2 with h2|⟨h2,h4⟩
    ·cases h2
    ·have e:=fun q hq=>u3k (h4 q hq)
     refine⟨h1, .inr ⟨h2,fun q hq=>by rw[<-e q hq];exact h4 q hq⟩,?_⟩
     rw[u5i e]at h3;exact h3
   ·rintro⟨h1,h2,h3⟩
    rcases h2 with h2|⟨h2,h4⟩
    ·cases h2
    ·have e:=fun q hq=>w1r hM (h4 q hq)
     refine⟨h1, .inr ⟨h2,fun q hq=>by rw[e q hq];exact h4 q hq⟩,?_⟩
     rw[u5i e];exact h3
def x3b.calm {i:Nat}{e:Eff3}(hM: ∀b∈M,b∈Z)(he:e= .no\/e= .late)(hf:x3b P C En ops W Z T h0 i o t x e):x.kill M=x:=by
 rcases he with rfl|rfl
 ·rw[hf.2];rfl
 ·rcases hf.2.1 with h|h
  ·subst h;have hM:M= []:=List.eq_nil_iff_forall_not_mem.2 fun b hb=>by simpa using hM b hb
   subst hM;exact V.j0c x
  ·exact u0r hM h.1
def y6f (P:Program)(C:CfgO)(En:Ent)(ops:Array Oper)(W Z:List Nat)(T:Nat->List Nat)(h0:List Box)(i:Nat)(o:Oper)(t:List V)(hh:List Box)(x:V)(t':List V)(hh':List Box):Prop:=
 ∃e,x3b P C En ops W Z T h0 i o t x e/\Eff3.ok W h0 hh e/\t'=x3y (x4e e.km t) o.dst x/\hh'=e.run hh
def y1g {i j:Nat}{oi oj:Oper}{xi xj:V}{e1 e2:Eff3}(hap:oi.apart ops oj=true)(m1:e1.km= [])(m2:e2.km= [])(r1: ∀hh,e1.run hh=hh)(r2: ∀hh,e2.run hh=hh)
  (f1:x3b P C En ops W Z T h0 i oi t xi e1) (k1:Eff3.ok W h0 hh e1) (f2:x3b P C En ops W Z T h0 j oj (x3y (x4e e1.km t) oi.dst xi) xj e2) (k2:Eff3.ok W h0 (e1.run hh) e2):
  ∃t1 hh1,y6f P C En ops W Z T h0 j oj t hh xj t1 hh1/\y6f P C En ops W Z T h0 i oi t1 hh1 xi (x3y (x4e e2.km (x3y (x4e e1.km t) oi.dst xi)) oj.dst xj) (e2.run (e1.run hh)):=by
 obtain⟨a1,a2,a3⟩:=Oper.apart_spec hap;rw[m1]at f2 ⊢;rw[m2];have k: ∀t:List V,x4e [] t=t:=fun _=>rfl
 rw[k]at f2;rw[x3b.put a1]at f2;rw[r1]at k2 ⊢;refine⟨_,_,⟨e2,f2,k2,rfl,rfl⟩,⟨e1,(by rw[m2,k];exact(x3b.put a3 e1).2 f1),by rw[r2];exact k1,?_,by rw[r1]⟩⟩
 rw[m1,m2,k,k,k];exact(x4u a2 t xi xj)
def z7c {i j:Nat}{oi oj:Oper}{xi xj:V}{e2:Eff3}(hap:oi.apart ops oj=true)(he:e2= .no\/e2= .late)
  (f1:x3b P C En ops W Z T h0 i oi t xi (.big hx hx' M)) (k1:hh=hx) (f2:x3b P C En ops W Z T h0 j oj (x3y (x4e M t) oi.dst xi) xj e2):
  ∃t1 hh1,y6f P C En ops W Z T h0 j oj t hh xj t1 hh1/\y6f P C En ops W Z T h0 i oi t1 hh1 xi (x3y (x3y (x4e M t) oi.dst xi) oj.dst xj) hx':=by
 obtain⟨a1,a2,a3⟩:=Oper.apart_spec hap;rw[x3b.put a1,x3b.kill f1.2.2.1 he]at f2;subst k1;have m2:e2.km= []:=by rcases he with rfl|rfl<;>rfl
 refine⟨_,_,⟨e2,f2,by rcases he with rfl|rfl<;>first|exact f1.2.2.2.1|exact trivial,rfl,rfl⟩,⟨.big hh hx' M,(by rw[m2];exact(x3b.put a3 _).2 f1),by rcases he with rfl|rfl<;>rfl,?_,rfl⟩⟩
 rw[m2];show _=x3y (x4e M (x3y t oj.dst xj)) oi.dst xi;rw[z8z (x3b.calm f1.2.2.1 he f2)];exact x4u a2 _ xi xj
def z7b {i j:Nat}{oi oj:Oper}{xi xj:V}{e1:Eff3}(hap:oi.apart ops oj=true)(he:e1= .no\/e1= .late)
  (f1:x3b P C En ops W Z T h0 i oi t xi e1) (f2:x3b P C En ops W Z T h0 j oj (x3y t oi.dst xi) xj (.big hx hx' M)) (k2:hh=hx):
  ∃t1 hh1,y6f P C En ops W Z T h0 j oj t hh xj t1 hh1/\y6f P C En ops W Z T h0 i oi t1 hh1 xi (x3y (x4e M (x3y t oi.dst xi)) oj.dst xj) hx':=by
 obtain⟨a1,a2,a3⟩:=Oper.apart_spec hap;rw[x3b.put a1]at f2;subst k2;have m1:e1.km= []:=by rcases he with rfl|rfl<;>rfl
 refine⟨_,_,⟨.big hh hx' M,f2,rfl,rfl,rfl⟩,⟨e1,((x3b.put a3 e1).2 ((x3b.kill f2.2.2.1 he).2 f1)),by rcases he with rfl|rfl<;>first|exact f2.2.2.2.2.1|exact trivial,?_,by rcases he with rfl|rfl<;>rfl⟩⟩
 rw[m1,z8z (x3b.calm f2.2.2.1 he f1)];exact x4u a2 _ xi xj
def w0m {hb hx l:List Box}(hp:Pre hb (hx++l))(hl:hb.length<=hx.length):Pre hb hx:=fun k x hk=>by
 rcases hp k x hk with h1|h1
 ·exact .inl h1
 ·have hlt:=(a0c.1 hk).1;rw[a0z,if_pos (by omega)]at h1
  exact .inr h1
def v3v {hb hx l:List Box}(hp:Pre hb hx):Pre hb (hx++l):=fun k x hk=>by
 rcases hp k x hk with h1|h1
 ·exact .inl h1
 ·have hlt:=(a0c.1 h1).1
  right
  rw[a0z,if_pos (by omega)]
  exact h1
def u8s {i j:Nat}{oi oj:Oper}{xi xj:V}{hb:List Box}(hap:oi.apart ops oj=true)(hmk:mkI oi=true)
  (f1:x3b P C En ops W Z T h0 i oi t xi (.big hx hx' M)) (k1:hh=hx) (f2:x3b P C En ops W Z T h0 j oj (x3y (x4e M t) oi.dst xi) xj (.mid hb)) (k2:Pre hb hx'):
  ∃t1 hh1,y6f P C En ops W Z T h0 j oj t hh xj t1 hh1/\y6f P C En ops W Z T h0 i oi t1 hh1 xi (x3y (x3y (x4e M t) oi.dst xi) oj.dst xj) hx':=by
 obtain⟨a1,a2,a3⟩:=Oper.apart_spec hap;obtain⟨rfl,l,rfl⟩:=f1.2.2.2.2.2.2.2.1 hmk;have k: ∀t:List V,x4e [] t=t:=fun _=>rfl
 rw[k]at f2 ⊢;rw[x3b.put a1]at f2;subst k1;refine⟨_,_,⟨.mid hb,f2,w0m k2 (a1a f2.2.2.1 f1.2.2.2.2.2.2.1),rfl,rfl⟩,⟨.big hh _ [],(x3b.put a3 _).2 f1,rfl,?_,rfl⟩⟩;exact x4u a2 t xi xj
def u8q {i j:Nat}{oi oj:Oper}{xi xj:V}{hb:List Box}(hap:oi.apart ops oj=true)(hmk:mkI oj=true)
  (f1:x3b P C En ops W Z T h0 i oi t xi (.mid hb)) (k1:Pre hb hh) (f2:x3b P C En ops W Z T h0 j oj (x3y t oi.dst xi) xj (.big hx hx' M)) (k2:hh=hx):
  ∃t1 hh1,y6f P C En ops W Z T h0 j oj t hh xj t1 hh1/\y6f P C En ops W Z T h0 i oi t1 hh1 xi (x3y (x4e M (x3y t oi.dst xi)) oj.dst xj) hx':=by
 obtain⟨a1,a2,a3⟩:=Oper.apart_spec hap;rw[x3b.put a1]at f2;obtain⟨rfl,l,rfl⟩:=f2.2.2.2.2.2.2.2.1 hmk;subst k2;exact⟨_,_,⟨.big hh _ [],f2,rfl,rfl,rfl⟩,⟨.mid hb,(x3b.put a3 _).2 f1,v3v k1,x4u a2 t xi xj,rfl⟩⟩
def u5p {hb hx hx':List Box}{n:Nat}{Ts:List Nat}(hT: ∀b∈Ts,∀x,hb[b]? =some x->x= .gone)(hl:hb.length<=n)(he: ∀k,k < n->k ∉ Ts->hx'[k]? =hx[k]?):Pre hb hx↔Pre hb hx':=by
 constructor
 ·intro hp k x hk
  by_cases hm:k∈Ts
  ·exact .inl (hT k hm x hk)
  ·rw[he k (by have:=(a0c.1 hk).1;omega) hm];exact hp k x hk
 ·intro hp k x hk
  by_cases hm:k∈Ts
  ·exact .inl (hT k hm x hk)
  ·rw[<-he k (by have:=(a0c.1 hk).1;omega) hm];exact hp k x hk
def u8t {i j:Nat}{oi oj:Oper}{xi xj:V}{hb:List Box}(hap:oi.apart ops oj=true)(hct:x5l C oi=true)(hi:ops[i]? =some oi)(no1:x5b ops 5 oj i=true->False)(no2:x5b ops 5 oi j=true->False)
  (f1:x3b P C En ops W Z T h0 i oi t xi (.big hx hx' M)) (k1:hh=hx) (f2:x3b P C En ops W Z T h0 j oj (x3y (x4e M t) oi.dst xi) xj (.mid hb)) (k2:Pre hb hx'):
  ∃t1 hh1,y6f P C En ops W Z T h0 j oj t hh xj t1 hh1/\y6f P C En ops W Z T h0 i oi t1 hh1 xi (x3y (x3y (x4e M t) oi.dst xi) oj.dst xj) hx':=by
 obtain⟨a1,a2,a3⟩:=Oper.apart_spec hap;obtain⟨rfl,hturn⟩:=f1.2.2.2.2.2.2.2.2 hct;have k: ∀t:List V,x4e [] t=t:=fun _=>rfl
 rw[k]at f2 ⊢;rw[x3b.put a1]at f2;subst k1;have hT:=((f2.2.2.2.1 i oi hi f1.2.1 hct).resolve_left no2).resolve_left no1;refine⟨_,_,⟨.mid hb,f2,(u5p hT f2.2.2.1 hturn).2 k2,rfl,rfl⟩,⟨.big hh _ [],(x3b.put a3 _).2 f1,rfl,?_,rfl⟩⟩;exact x4u a2 t xi xj
def u8r {i j:Nat}{oi oj:Oper}{xi xj:V}{hb:List Box}(hap:oi.apart ops oj=true)(hct:x5l C oj=true)(hj:ops[j]? =some oj)(no1:x5b ops 5 oj i=true->False)(no2:x5b ops 5 oi j=true->False)
  (f1:x3b P C En ops W Z T h0 i oi t xi (.mid hb)) (k1:Pre hb hh) (f2:x3b P C En ops W Z T h0 j oj (x3y t oi.dst xi) xj (.big hx hx' M)) (k2:hh=hx):
  ∃t1 hh1,y6f P C En ops W Z T h0 j oj t hh xj t1 hh1/\y6f P C En ops W Z T h0 i oi t1 hh1 xi (x3y (x4e M (x3y t oi.dst xi)) oj.dst xj) hx':=by
 obtain⟨a1,a2,a3⟩:=Oper.apart_spec hap;rw[x3b.put a1]at f2;obtain⟨rfl,hturn⟩:=f2.2.2.2.2.2.2.2.2 hct;subst k2;have hT:=((f1.2.2.2.1 j oj hj f2.2.1 hct).resolve_left no1).resolve_left no2;exact⟨_,_,⟨.big hh _ [],f2,rfl,rfl,rfl⟩,⟨.mid hb,(x3b.put a3 _).2 f1,(u5p hT f1.2.2.1 hturn).1 k1,x4u a2 t xi xj,rfl⟩⟩
def y6f.swap {i j:Nat}{oi oj:Oper}{xi xj:V}{ti tj:List V}{hi' hj':List Box}(hap:oi.apart ops oj=true)(hbb:z2g C oi=true->z2g C oj=true->False)(hbp:z2g C oi=true->q8g C ops j=true->False)(hpb:q8g C ops i=true->z2g C oj=true->False)(hbm:z2g C oi=true->mkI oi=false->x5l C oi=false->q8z C ops j=true->False)(hmb:q8z C ops i=true->z2g C oj=true->mkI oj=false->x5l C oj=false->False)
  (hoi:ops[i]? =some oi) (hoj:ops[j]? =some oj) (no1:x5b ops 5 oj i=true->False) (no2:x5b ops 5 oi j=true->False)
  (hi:y6f P C En ops W Z T h0 i oi t hh xi ti hi') (hj:y6f P C En ops W Z T h0 j oj ti hi' xj tj hj'):
  ∃t1 hh1,y6f P C En ops W Z T h0 j oj t hh xj t1 hh1/\y6f P C En ops W Z T h0 i oi t1 hh1 xi tj hj':=by
 obtain⟨e1,f1,k1,rfl,rfl⟩:=hi;obtain⟨e2,f2,k2,rfl,rfl⟩:=hj;cases e1 with
 |big hx hx' M=>cases e2 with
  |big=>exact(hbb f1.2.1 f2.2.1).elim
  |pin=>exact(hbp f1.2.1 f2.2.1).elim
  |mid hb=>cases hm:mkI oi with
   |true=>exact u8s hap hm f1 k1 f2 k2
   |false=>cases hct:x5l C oi with
    |true=>exact u8t hap hct hoi no1 no2 f1 k1 f2 k2
    |false=>exact(hbm f1.2.1 hm hct f2.2.1).elim
  |no=>exact z7c hap (.inl rfl) f1 k1 f2
  |late=>exact z7c hap (.inr rfl) f1 k1 f2
 |no=>cases e2 with
  |big=>exact z7b hap (.inl rfl) f1 f2 k2
  |_=>exact y1g hap rfl rfl (fun _=>rfl) (fun _=>rfl) f1 k1 f2 k2
 |late=>cases e2 with
  |big=>exact z7b hap (.inr rfl) f1 f2 k2
  |_=>exact y1g hap rfl rfl (fun _=>rfl) (fun _=>rfl) f1 k1 f2 k2
 |pin=>cases e2 with
  |big=>exact(hpb f1.2.1 f2.2.1).elim
  |_=>exact y1g hap rfl rfl (fun _=>rfl) (fun _=>rfl) f1 k1 f2 k2
 |mid hb=>cases e2 with
  |big=>cases hm:mkI oj with
   |true=>exact u8q hap hm f1 k1 f2 k2
   |false=>cases hct:x5l C oj with
    |true=>exact u8r hap hct hoj no1 no2 f1 k1 f2 k2
    |false=>exact(hmb f1.2.1 f2.2.1 hm hct).elim
  |_=>exact y1g hap rfl rfl (fun _=>rfl) (fun _=>rfl) f1 k1 f2 k2
def y6f.wp {i:Nat}{t':List V}{hh':List Box}{a:Act}{w:World}(ho:y6f P C En ops W Z T h0 i o t hh x t' hh')(hs:x1r En ⟨t,hh⟩ a w){K:Act->World->Prop}{Q:Exit->Act->World->Prop}
  (hK: ∀a' w',x1r En ⟨t',hh'⟩ a' w'->K a' w'):if Region.wanted o (yielded ops a.tmps)then o.wp P a w K Q else K (a.put o.dst undef) w:=by
 obtain⟨e,hf,hok,rfl,rfl⟩:=ho;cases e with
 |no=>
  obtain⟨hw,rfl⟩:=hf;rw[if_neg (by rw[x3r hs hw];simp)]
  refine hK _ _ ?_;obtain⟨g,hs⟩:=hs;have:=hs.next (.refl hs.heap) (by simp[okM]) (.tup (w:=w) (g:=g) #[] [] rfl (by simp)) o.dst
  rw[y0t]at this;exact⟨g,this⟩
 |late=>
  rw[if_pos (x3r hs hf.1)];have hg:=hf.2.2 hh hok;rw[y6q t [] hh]at hg;refine x0o.sim (s:=⟨t,hh⟩) hg.j0p hs (by simp[okM]) fun a' w' hs'=>hK a' w' ?_
  rwa [y0t]at hs'
 |pin hx=>
  have hok:hh=hx:=hok;subst hok;rw[if_pos (x3r hs hf.1)];exact hf.2.2 t rfl a w K Q hs hK
 |mid hb=>
  rw[if_pos (x3r hs hf.1)];have hg:=hf.2.2.2.2 hh hok;rw[y6q t [] hh]at hg;refine x0o.sim (s:=⟨t,hh⟩) hg.j0p hs (by simp[okM]) fun a' w' hs'=>hK a' w' ?_
  rwa [y0t]at hs'
 |big hx hx' M=>
  have hok:hh=hx:=hok;subst hok;rw[if_pos (x3r hs hf.1)];exact hf.2.2.2.2.2.1 t rfl a w K Q hs hK
def u8d (h:w3n C ops=true){i j:Nat}{oi oj:Oper}(hi:ops[i]? =some oi)(hj:ops[j]? =some oj)(hij:i < j)(s1:z2g C oi=true)(s2:z2g C oj=true):x5b ops 5 oj i=true:=by
 have:=a0l.1 h j (List.mem_range.2 (a0r.1 hj).1);rw[hj]at this;simp only[s2,Bool.not_true,a1d]at this;have:=a0l.1 this i (List.mem_range.2 hij);rw[hi]at this
 simpa[s1]using this
def z4w {i j:Nat}{oi oj:Oper}(h:q8g C ops i=true)(hi:ops[i]? =some oi)(hj:ops[j]? =some oj)(s2:z2g C oj=true):x5b ops 5 oj i=true\/x5b ops 5 oi j=true:=by
 have:=a0l.1 h j (List.mem_range.2 (a0r.1 hj).1);rw[hj,hi]at this
 simpa[s2]using this
def u6d {i j:Nat}{oi oj:Oper}(h:q8z C ops i=true)(hi:ops[i]? =some oi)(hj:ops[j]? =some oj)(s2:z2g C oj=true)(s3:mkI oj=false)(s4:x5l C oj=false):x5b ops 5 oj i=true\/x5b ops 5 oi j=true:=by
 have:=a0l.1 h j (List.mem_range.2 (a0r.1 hj).1);rw[hj,hi]at this
 simpa[s2,s3,s4]using this
def w9a (ops:Array Oper)(i:Nat):Bool:=(List.range ops.size).all fun j=> !decide (i < j) || match ops[j]? with
 |some oj=>x5b ops 5 oj i
 |none=>true
def v5a {i j:Nat}{oj:Oper}(h:w9a ops i=true)(hj:ops[j]? =some oj)(hij:i < j):x5b ops 5 oj i=true:=by
 have:=a0l.1 h j (List.mem_range.2 (a0r.1 hj).1);rw[hj]at this
 simpa[hij]using this
def k8b (P:Program)(En:Ent)(o:Oper)(t:List V)(hx:List Box)(p:V)(hx':List Box):Prop:=
 ∀t2,x3l o (VSt.get ⟨t2,[]⟩)=x3l o (VSt.get ⟨t,[]⟩)-> ∀(a:Act) (w:World) (K:Act->World->Prop) (Q:Exit->Act->World->Prop),x1r En ⟨t2,hx⟩ a w->
  (∀e a' w',k8c En p hx' e a' w'->Q e a' w')->o.wp P a w K Q
def u1j (P:Program)(C:CfgO)(En:Ent)(ops:Array Oper)(i:Nat)(o:Oper)(t:List V)(hh:List Box)(p:V)(h':List Box):Prop:=
 x5d ops o t=some true/\z2g C o=true/\mkI o=false/\w9a ops i=true/\k8b P En o t hh p h'
def u1j.put {i:Nat}{d:Option Tmp}{y p:V}(hd: ∀k,d=some k->k ∉ o.looksAt ops):u1j P C En ops i o (x3y t d y) hh p h'↔u1j P C En ops i o t hh p h':=by
 simp only[u1j,y0g hd,k8b,x7a hd]
def u8p (P:Program)(C:CfgO)(En:Ent)(ops:Array Oper)(W Z:List Nat)(T:Nat->List Nat)(h0:List Box)(K:List V->List Box->Prop)(Kp:V->List Box->Prop):Nat->Array Bool->List V->List Box->Prop
 |0,listed,t,hh=>Region.ready .any ops listed= []/\K t hh
 |fuel+1,listed,t,hh=>Region.ready .any ops listed≠[]/\ ∀i∈Region.ready .any ops listed,∃o,ops[i]? =some o/\((∃x t' hh',y6f P C En ops W Z T h0 i o t hh x t' hh'/\u8p P C En ops W Z T h0 K Kp fuel (listed.setIfInBounds i true) t' hh')\/
  ∃p h',u1j P C En ops i o t hh p h'/\Kp p h')
def u1v {K:List V->List Box->Prop}{Kp:V->List Box->Prop}(hst:w3n C ops=true){i:Nat}{oi:Oper}{xi:V}(hi:ops[i]? =some oi):
  ∀(fuel:Nat) (listed:Array Bool) (t ti:List V) (hh hhi:List Box),y5o ops listed->
   (∀j oj,ops[j]? =some oj->j≠i->listed.getD j true=false->(∀e∈oj.after,Region.binds .any e=true->e.on≠i)->oi.apart ops oj=true)->
   i∈Region.ready .any ops listed->y6f P C En ops W Z T h0 i oi t hh xi ti hhi->
   u8p P C En ops W Z T h0 K Kp fuel (listed.setIfInBounds i true) ti hhi->u8p P C En ops W Z T h0 K Kp (fuel+1) listed t hh:=by
 intro fuel
 induction fuel with
 |zero=>
  intro listed t ti hh hhi _ _ hr ho H;refine⟨fun h=>(by rw[h]at hr;cases hr),fun j hj=> ?_⟩
  by_cases hji:j=i
  ·subst hji;exact⟨oi,hi, .inl ⟨xi,ti,hhi,ho,H⟩⟩
  ·have:=ready_mono hj hji;rw[H.1]at this;cases this
 |succ fuel ih=>
  intro listed t ti hh hhi hcl hfree hr ho H;refine⟨fun h=>(by rw[h]at hr;cases hr),fun j hj=> ?_⟩
  by_cases hji:j=i
  ·subst hji;exact⟨oi,hi, .inl ⟨xi,ti,hhi,ho,H⟩⟩
  ·obtain⟨oj,hoj,hcase⟩:=H.2 j (ready_mono hj hji);obtain⟨hjun,oj',hoj',hall⟩:=mem_ready.1 hj;rw[hoj]at hoj';cases hoj';obtain⟨hiun,oi',hoi',halli⟩:=mem_ready.1 hr;rw[hi]at hoi';cases hoi';have hnot: ∀e∈oj.after,Region.binds .any e=true->e.on≠i:=fun e he hb heq=>by
    have h1:=hall e he hb;rw[heq,x8q hr]at h1;cases h1
   have hnoti: ∀e∈oi.after,Region.binds .any e=true->e.on≠j:=fun e he hb heq=>by
    have h1:=halli e he hb;rw[heq,x8q hj]at h1;cases h1
   have no1:x5b ops 5 oj i=true->False:=fun h=>by
    have:=x7s hcl 5 hall h;rw[x8q hr]at this;cases this
   have no2:x5b ops 5 oi j=true->False:=fun h=>by
    have:=x7s hcl 5 halli h;rw[x8q hj]at this;cases this
   have hbb:z2g C oi=true->z2g C oj=true->False:=fun s1 s2=>by
    rcases Nat.lt_or_gt_of_ne hji with hlt|hgt
    ·exact no2 (u8d hst hoj hi hlt s2 s1)
    ·exact no1 (u8d hst hi hoj hgt s1 s2)
   rcases hcase with⟨xj,tj,hbj,hout,hrest⟩|⟨p,h',hpan,hkp⟩
   ·obtain⟨t1,hb1,o1,o2⟩:=y6f.swap (hfree j oj hoj hji hjun hnot) hbb
     (fun s1 he=>(z4w he hoj hi s1).elim no2 no1) (fun he s2=>(z4w he hi hoj s2).elim no1 no2)
     (fun s1 s3 s4 he=>(u6d he hoj hi s1 s3 s4).elim no2 no1) (fun he s2 s3 s4=>(u6d he hi hoj s2 s3 s4).elim no1 no2) hi hoj no1 no2 ho hout
    refine⟨oj,hoj, .inl ⟨xj,t1,hb1,o1,ih (listed.setIfInBounds j true) _ tj hb1 hbj (hcl.step hj) (fun k ok hk hki hun hno=> ?_) (ready_mono hr (Ne.symm hji)) o2 ?_⟩⟩
    ·refine hfree k ok hk hki ?_ hno
     by_cases hjk:j=k
     ·subst hjk;exact hjun
     ·rw[getD_set_ne true hjk]at hun;exact hun
    ·rw[Array.setIfInBounds_comm _ _ hji];exact hrest
   ·obtain⟨a1,_,_⟩:=Oper.apart_spec (hfree j oj hoj hji hjun hnot);obtain⟨e1,f1,k1,rfl,rfl⟩:=ho;have fin:e1.km= []->e1.run hh=hh-> ∃o,ops[j]? =some o/\((∃x t' hh',y6f P C En ops W Z T h0 j o t hh x t' hh'/\u8p P C En ops W Z T h0 K Kp (fuel+1) (listed.setIfInBounds j true) t' hh')\/ ∃p h',u1j P C En ops j o t hh p h'/\Kp p h'):=fun m1 r1=>by
     rw[m1,r1]at hpan;exact⟨oj,hoj, .inr ⟨p,h',(u1j.put a1).1 hpan,hkp⟩⟩
    cases e1 with
    |big=>exact(hbb f1.2.1 hpan.2.1).elim
    |pin=>exact((z4w f1.2.1 hi hoj hpan.2.1).elim no1 no2).elim
    |mid=>exact fin rfl rfl
    |no=>exact fin rfl rfl
    |late=>exact fin rfl rfl
def w6v (P:Program)(C:CfgO)(En:Ent)(ops:Array Oper)(W Z:List Nat)(T:Nat->List Nat)(h0:List Box)(K:List V->List Box->Prop)(Kp:V->List Box->Prop):Nat->List Oper->List V->List Box->Prop
 |_,[],t,hh=>K t hh
 |k,o::os,t,hh=>(∃x t' hh',y6f P C En ops W Z T h0 k o t hh x t' hh'/\w6v P C En ops W Z T h0 K Kp (k+1) os t' hh')\/ ∃p h',u1j P C En ops k o t hh p h'/\Kp p h'
def z6w {K:List V->List Box->Prop}{Kp:V->List Box->Prop}(hst:w3n C ops=true): ∀(l:List Oper) (k:Nat) (listed:Array Bool) (t:List V) (hh:List Box),y5o ops listed->(∀j,j < k->listed.getD j true=true)->(∀j,l[j]? =ops[k+j]?)->
  z8w ops l.length k listed=true->w6v P C En ops W Z T h0 K Kp k l t hh->u8p P C En ops W Z T h0 K Kp l.length listed t hh
 | [],_,_,_,_,_,_,_,hB,h=>⟨by simpa[z8w]using hB,h⟩
 |o::l,k,listed,t,hh,hcl,hpre,hl,hB,h=>by
  have h0:ops[k]? =some o:=by simpa using(hl 0).symm
  simp only[a0a,z8w,a0g]at hB;obtain⟨⟨hr,hf⟩,hB'⟩:=hB;have hr:k∈Region.ready .any ops listed:=by simpa using hr
  rcases h with⟨x,t',hh',ho,h⟩|⟨p,h',hpan,hkp⟩
  ·refine u1v hst h0 l.length listed t t' hh hh' hcl (Region.free_spec h0 hf) hr ho
    (z6w hst l (k+1) _ _ _ (hcl.step hr) (fun j hj=> ?_) (fun j=>by have:=hl (j+1);simpa[a2e,Nat.add_comm 1 j]using this) hB' h)
   by_cases hjk:k=j
   ·subst hjk;rw[Array.getD_eq_getD_getElem?,Array.getElem?_setIfInBounds];simp only[if_true];split<;>rfl
   ·rw[getD_set_ne true hjk];exact hpre j (by omega)
  ·refine⟨fun h=>(by rw[h]at hr;cases hr),fun j hj=> ?_⟩
   by_cases hjk:j=k
   ·subst hjk;exact⟨o,h0, .inr ⟨p,h',hpan,hkp⟩⟩
   ·exfalso;obtain⟨hjun,oj,hoj,hall⟩:=mem_ready.1 hj;have hkj:k < j:=by
     rcases Nat.lt_trichotomy j k with h1|h1|h1
     ·have:=hpre j h1;rw[hjun]at this;cases this
     ·exact(hjk h1).elim
     ·exact h1
    have:=x7s hcl 5 hall (v5a hpan.2.2.2.1 hoj hkj);rw[x8q hr]at this;cases this
def y7u {ro:Option Nat}{K:List V->List Box->Prop}{Kp:V->List Box->Prop}{Q:Exit->Act->World->Prop}(hnd: ∀(i:Nat) o,ops[i]? =some o->z8n o=true)(hK: ∀t hh a w,K t hh->x1r En ⟨t,hh⟩ a w->Q .normal a w)
  (hKp: ∀p hh e a w,Kp p hh->k8c En p hh e a w->Q e a w):
  ∀(fuel:Nat) (listed:Array Bool) (t:List V) (hh:List Box) (a:Act) (w:World),u8p P C En ops W Z T h0 K Kp fuel listed t hh->x1r En ⟨t,hh⟩ a w->wpAnyIn (Fw ro) 0 P .any ops Q fuel listed a w
 |0,listed,t,hh,a,w,⟨hno,hk⟩,hs=>⟨hno,hK t hh a w hk hs⟩
 |fuel+1,listed,t,hh,a,w,⟨hne,hall⟩,hs=>by
  refine⟨fun h=>(hne h).elim,fun i hi=> ?_⟩
  obtain⟨o,ho,hcase⟩:=hall i hi;unfold wpOpIn;simp only[ho];have h1:if Region.wanted o (yielded ops a.tmps)then o.wp P a w (wpAnyIn (Fw ro) 0 P .any ops Q fuel (listed.setIfInBounds i true)) Q else wpAnyIn (Fw ro) 0 P .any ops Q fuel (listed.setIfInBounds i true) (a.put o.dst undef) w:=by
   rcases hcase with⟨x,t',hh',hout,hrest⟩|⟨p,h',hpan,hkp⟩
   ·exact hout.wp (Q:=Q) hs (K:=wpAnyIn (Fw ro) 0 P .any ops Q fuel (listed.setIfInBounds i true)) fun a' w' hs'=>
     y7u hnd hK hKp fuel _ _ _ a' w' hrest hs'
   ·rw[if_pos (x3r hs hpan.1)];exact hpan.2.2.2.2 t rfl a w _ Q hs fun e a' w' h=>hKp p h' e a' w' hkp h
  split
  ·rename_i hw;rw[if_pos hw]at h1;exact y4k (hnd i o ho) h1
  ·rename_i hw;rw[if_neg hw]at h1;exact⟨fun _ _=>trivial,h1⟩
def x8g.j1b (hM:okM En.g.n En.M M=true)(hg:x0o P M hx hx' (x3l o (VSt.get ⟨t,[]⟩)) o x):x8g P En o t hx M x hx':=by
 intro t2 he a w K Q hs hK;rw[<-he,y6q t2 [] hx]at hg;refine x0o.sim (s:=⟨t2,hx⟩) hg.j0p hs hM fun a' w' hs'=>hK a' w' ?_
 rwa [y0t]at hs'
def u3o:List Box->List Nat->V->V
 |_,[],v=>v
 |h,b::bs,v=>match h[b]? with
  |some (.arr _ sz rows)=>u3o ((h.map (Box.frz b (.sl sz rows))).set b .gone) bs (V.frz b (.sl sz rows) v)
  |some (.cells (.ty _) vs)=>match y6s vs with
   |some cs=>u3o ((h.map (Box.frp b cs)).set b .gone) bs (V.frp b cs v)
   |none=>u3o h bs v
  |_=>u3o h bs v
def z9u: ∀ {bs:List Nat} {h:List Box} {t:List V},(VSt.frz ⟨t,h⟩ bs).t=t.map (u3o h bs)
 | [],h,t=>by show t=_;rw[show u3o h []=id from rfl];simp
 |b::bs,h,t=>by
  have e:u3o h (b::bs)=fun v=>match h[b]? with
   |some (.arr _ sz rows)=>u3o ((h.map (Box.frz b (.sl sz rows))).set b .gone) bs (V.frz b (.sl sz rows) v)
   |some (.cells (.ty _) vs)=>match y6s vs with
    |some cs=>u3o ((h.map (Box.frp b cs)).set b .gone) bs (V.frp b cs v)
    |none=>u3o h bs v
   |_=>u3o h bs v:=rfl
  rw[e];unfold VSt.frz;simp only;cases hb:h[b]? with
  |none=>simp only[z9u]
  |some bx=>cases bx with
   |arr e sz rows=>simp only[z9u,List.map_map];rfl
   |cells t vs=>cases t with
    |ty t=>cases hc:y6s vs with
     |none=>simp only[hc,z9u]
     |some cs=>simp only[hc,z9u,List.map_map];rfl
    |_=>simp only[z9u]
   |_=>simp only[z9u]
def y7l: ∀ {bs:List Nat} {h:List Box},u3o h bs .any= .any
 | [],h=>rfl
 |b::bs,h=>by
  unfold u3o;split
  ·exact y7l
  ·split<;>exact y7l
  ·exact y7l
def q2f {bs:List Nat}{y:Operand}(he:VSt.get ⟨t2,h⟩ y=VSt.get ⟨t,h⟩ y):(VSt.frz ⟨t2,h⟩ bs).get y=(VSt.frz ⟨t,h⟩ bs).get y:=by
 cases y with
 |tmp k=>
  have he:t2.getD k .any=t.getD k .any:=he;show(VSt.frz ⟨t2,h⟩ bs).t.getD k .any=(VSt.frz ⟨t,h⟩ bs).t.getD k .any;rw[z9u,z9u];have aux: ∀t:List V,(t.map (u3o h bs)).getD k .any=u3o h bs (t.getD k .any):=fun t=>by
   rw[a0i,a0i,a0m];cases t[k]? with
   |none=>exact y7l.symm
   |some v=>rfl
  rw[aux,aux,he]
 |const v=>rfl
 |func f=>rfl
 |global k=>rfl
end
section
variable (A : Sy) (P : Program) (C : CfgO)
def u4g (hh:List Box)(t:List V)(o:Oper):Tree V:=match x5f P (VSt.frz ⟨t,hh⟩ (fzl ⟨t,hh⟩ o)).get o with
 |some (f,vs0)=>match C.inl.contains f,z1r P f with
  |false,some ts=>match u1p P (w4u P f) vs0 with
   |vs=>match vs.all V.j0e,shR P ts with
    |true,some ss=>match ss.all Sh.flat with
     |true=>u0t A P f vs ts
     |false=> .fail
    |_,_=> .fail
  |_,_=> .fail
 |none=> .fail
def v3y (hh:List Box)(t:List V)(o:Oper):Tree V:=match x5f P (VSt.get ⟨t,hh⟩) o with
 |some (f,vs0)=>match (u1p P (w4u P f) vs0).all V.j0e with
  |true=>w8d A P C hh (VSt.get ⟨t,hh⟩) o
  |false=>u4g A P C hh t o
 |none=>w8d A P C hh (VSt.get ⟨t,hh⟩) o
def w8a (hh:List Box)(t:List V)(o:Oper):Tree V:=v3y A P C hh t o
def Box.j2t (c:Nat):Box->Bool
 | .cells _ vs=>vs.all fun v=>v.j2s [c]
 |_=>true
def V.j2w (b:Nat):V->Prop
 | .ptr c _=>c=b
 | .pml c _ _ _=>c=b
 |_=>False
def k3z (W:List Nat)(n0:Nat)(hh:List Box)(o:Oper)(B:Operand->V):Bool:=match o.op with
 | .store _ y _=>match B y with
   | .ptr b _=>W.contains b || decide (n0<=b)
   | .pml b _ _ _=>W.contains b || decide (n0<=b)
   |_=>false
 | .alloc _=>true
 | .buildSlice .. =>true
 | .call c=>match c with
   |⟨.builtin .append,⟨[y,_]⟩,⟨[t,t']⟩⟩=>decide (t'=t)&&match B y with
    | .own c=>(W.contains c || decide (n0<=c))&&hh.zipIdx.all fun xk=>W.contains xk.2 || decide (n0<=xk.2) || xk.1.j2t c
    | .nils=>true
    |_=>false
   |_=>false
 |_=>false
end
section
variable {P : Program} {h h' h2 h0 hh hx hx' : List Box} {B ρ2 : Operand -> V} {o : Oper} {x : V} {ops : Array Oper} {W Z M : List Nat} {T : Nat -> List Nat} {t t2 : List V} {En : Ent} {E : Env} {C : CfgO}
def z6n (hE:E.Ok)(hG:x2p P E)(hk:(u4g sy P C hh t o).run E=some x):x8g P En o t hh [] x hh:=by
 intro t2 he a w K Q hs hK;unfold u4g at hk;generalize hL:fzl ⟨t,hh⟩ o=L at hk;have hs1:x1r En (VSt.frz ⟨t2,hh⟩ L) a w:=hs.frzs;rw[y6q t2 [] hh,y6q t [] hh]at he;have hco:x5f P (VSt.frz ⟨t2,hh⟩ L).get o=x5f P (VSt.frz ⟨t,hh⟩ L).get o:=x7u fun y hy=>q2f (u5h he hy)
 rw[<-hco]at hk;split at hk
 ·rename_i f vs hc1;split at hk
  ·rename_i ts _ hsig;simp only at hk;generalize hcan:u1p P (w4u P f) vs=vc at hk;split at hk
   ·rename_i ss hp hss;split at hk
    ·rename_i hfl;obtain⟨y,args,tys,hop,hy⟩:=x3i hc1 (fun f=>rfl)
     have hg:=x3k hsig;obtain⟨q1,q2,q3⟩:=x5p hE hG hp hsig hk;refine y2p hs hs1 hop hy (by rw[hcan];exact hp) hg (by rw[hcan];exact q1) (q3 ss hss hfl) fun a' w' hs'=>hK a' w' ?_
     rwa [y0t]at hs'
    ·cases hk
   ·cases hk
  ·cases hk
 ·cases hk
def z7x (hE:E.Ok)(hG:x2p P E)(hk:(v3y sy P C hh t o).run E=some x):x8g P En o t hh [] x hh:=by
 have aux:(w8d sy P C hh (VSt.get ⟨t,hh⟩) o).run E=some x->x8g P En o t hh [] x hh:=fun h=>by
  have:=y4t hE hG (fun f=>rfl) h hh (Pre.refl hh)
  rw[y6q t hh []]at this;exact x8g.j1b (by simp[okM]) this
 unfold v3y at hk;split at hk
 ·split at hk
  ·exact aux hk
  ·exact z6n hE hG hk
 ·exact aux hk
def y8r (hE:E.Ok)(hG:x2p P E)(hk:(w8a sy P C hh t o).run E=some x):x8g P En o t hh [] x hh:=by
 exact z7x hE hG hk
def z2n {t:TypeId}{a v:V}{r:List Box}(hk:(z2o sy P h t a v).run E=some r): ∃b c,V.j2w b a/\r=h.set b c:=by
 unfold z2o at hk;split at hk
 ·split at hk
  ·split at hk
   ·split at hk
    ·cases hk;exact⟨_,_,rfl,rfl⟩
    ·cases hk
   ·cases hk
  ·split at hk
   ·split at hk
    ·split at hk
     ·obtain⟨hi,hk⟩:=x1k hk;cases hk;exact⟨_,_,rfl,rfl⟩
     ·cases hk
    ·cases hk
   ·cases hk
  ·cases hk
 ·cases hk
def y8q (hp:y7r W h0 hh)(l:List Box):y7r W h0 (hh++l):=fun k x hk hx=>by
 have:=hp k x hk hx;rw[a0z,if_pos (a0c.1 this).1];exact this
def y8p {b:Nat}(hb:(W.contains b || decide (h0.length<=b))=true)(hp:y7r W h0 hh)(c:Box):y7r W h0 (hh.set b c):=fun k x hk hx=>by
 have hlt:=(a0c.1 hx).1;have hne:b≠k:=fun e=>by
  subst e;simp only[Bool.or_eq_true,List.contains_eq_mem,a0s]at hb;rcases hb with h1|h1
  ·exact hk h1
  ·omega
 rw[a1j,if_neg hne];exact hp k x hk hx
def v6m {c:Nat}{b:Box}(h:b.j2t c=true):b.kill [c]=b:=by
 cases b with
 |cells t vs=>
  show Box.cells t (vs.map _)=_;have:vs.map (V.kill [c])=vs.map id:=a2d fun v hv=>by
   have hf:=a0l.1 h v hv;have aux: ∀cs:List V,cs.all (V.j0k [c])=true->cs.map (V.j0d [c])=cs:=fun cs hc=>by
    have:cs.map (V.j0d [c])=cs.map id:=a2d fun u hu=>by
     have:=a0l.1 hc u hu;simp[V.j0d,this]
    simpa using this
   cases v with
   |agg cs=>exact congrArg V.agg (aux cs hf)
   |tup cs=>exact congrArg V.tup (aux cs hf)
   |fn f cs=>exact congrArg (V.fn f) (aux cs hf)
   |any=>rfl
   |nils=>rfl
   |d x=>rfl
   |pel cs=>rfl
   |nilp=>rfl
   |nilf=>rfl
   |ifn b=>rfl
   |ifc t cs=>rfl
   |ifo t b cs=>rfl
   |own b=>exact congrArg (fun q=>bif q then V.own b else .any) hf
   |map b=>exact congrArg (fun q=>bif q then V.map b else .any) hf
   |ptr b off=>exact congrArg (fun q=>bif q then V.ptr b off else .any) hf
   |mv f b off=>exact congrArg (fun q=>bif q then V.mv f b off else .any) hf
   |ifp f b off=>exact congrArg (fun q=>bif q then V.ifp f b off else .any) hf
   |pml b sz i off=>exact congrArg (fun q=>bif q then V.pml b sz i off else .any) hf
   |yld b R=>exact congrArg (fun q=>bif q then V.yld b R else .any) hf
   |osl b s l n=>exact congrArg (fun q=>bif q then V.osl b s l n else .any) hf
  rw[this];simp
 |_=>rfl
end
section
variable (A : Sy) (P : Program) (C : CfgO)
def w3m (h:List Box)(B:Operand->V)(o:Oper):Tree (List Nat × List Box × V):=match o.op with
 | .alloc t=>match z1n P t with
   |some z=>match (x4v z).j0f with
    |some vs=> .ret ([],h++[.cells (.ty t) vs], .ptr h.length 0)
    |none=> .fail
   |none=> .fail
 | .store t y z=>(z2o A P h t (B y) (B z)).bind fun h'=> .ret ([],h', .any)
 | .buildSlice t n parts=>match w8v P t n (parts.toList.map fun q=>(q.1,B q.2)),(parts.toList.all fun q=>(B q.2).j0g h)with
   |some (e,sz,vs),true=>match z2r P 9 e with
    |some ss=>match y5t ss sz n vs,decide (n<=16777216)with
     |some rows,true=> .ret ([],h++[.arr e sz rows], .own h.length)
     |_,_=> .fail
    |none=> .fail
   |_,_=> .fail
 | .call c=>match c with
   |⟨.builtin .append,⟨[y,z]⟩,⟨[t,t']⟩⟩=>match decide (t'=t)with
    |true=>y5m A P h t (B y) (B z)
    |false=> .fail
   |_=> .fail
 |_=> .fail
end
section
variable {P : Program} {h h' h2 h0 hh hx hx' : List Box} {B ρ2 : Operand -> V} {o : Oper} {x : V} {ops : Array Oper} {W Z M : List Nat} {T : Nat -> List Nat} {t t2 : List V} {En : Ent} {E : Env} {C : CfgO} {r : List Nat × List Box × V}
def v1g (hE:E.Ok)(he: ∀y,y∈o.op.operands.toList->B y=ρ2 y)(hk:(w3m sy P h B o).run E=some r):x0o P r.1 h r.2.1 ρ2 o r.2.2:=by
 unfold w3m at hk;split at hk
 ·rename_i t hop;split at hk
  ·rename_i z hz;split at hk
   ·rename_i vs hv;cases hk;exact x9p hop hz hv
   ·cases hk
  ·cases hk
 ·rename_i t y z hop;rw[he y (by simp[hop,Op.operands]),he z (by simp[hop,Op.operands])]at hk
  obtain⟨h1,q1,hk⟩:=x0b hE hk;cases hk;exact y5r hop q1
 ·rename_i t n parts hop;have e1:(parts.toList.map fun q=>(q.1,B q.2))=parts.toList.map fun q=>(q.1,ρ2 q.2):=a2d fun q hq=>by
   rw[he q.2 (by simp only[hop,Op.operands];exact a1z.2 ⟨q,hq,rfl⟩)]
  have e2:(parts.toList.all fun q=>(B q.2).j0g h)=parts.toList.all fun q=>(ρ2 q.2).j0g h:=by
   rw[a1g,a0l,a0l];refine⟨fun hh q hq=> ?_,fun hh q hq=> ?_⟩
   ·rw[<-he q.2 (by simp only[hop,Op.operands];exact a1z.2 ⟨q,hq,rfl⟩)];exact hh q hq
   ·rw[he q.2 (by simp only[hop,Op.operands];exact a1z.2 ⟨q,hq,rfl⟩)];exact hh q hq
  rw[e1,e2]at hk;split at hk
  ·rename_i e sz vs hlit hl;split at hk
   ·rename_i ss hss;split at hk
    ·rename_i rows hr hn;cases hk;exact x9x hop hlit hl hr (by have:=a0f hn;simp only[maxLen];omega)
    ·cases hk
   ·cases hk
  ·cases hk
 ·rename_i c hop;split at hk
  ·rename_i y z t t';rw[he y (by simp[hop,Op.operands,Call.operands]),he z (by simp[hop,Op.operands,Call.operands])]at hk
   split at hk
   ·rename_i ht;have ht:=a0f ht;subst ht;exact y4f hop rfl hk
   ·cases hk
  ·cases hk
 ·cases hk
def w3k (hE:E.Ok)(hk:(w3m sy P hh B o).run E=some r)(hw:k3z W h0.length hh o B=true)(hp:y7r W h0 hh):y7r W h0 r.2.1:=by
 unfold w3m at hk;split at hk
 ·split at hk
  ·split at hk
   ·cases hk;exact y8q hp _
   ·cases hk
  ·cases hk
 ·rename_i t y z hop;obtain⟨h1,q1,hk⟩:=x0b hE hk;cases hk;obtain⟨b,c,hb,rfl⟩:=z2n q1;unfold k3z at hw;rw[hop]at hw;simp only at hw;split at hw
  ·rename_i b' off hy;rw[hy]at hb;have hb:b'=b:=hb;subst hb;exact y8p hw hp c
  ·rename_i b' sz i off hy;rw[hy]at hb;have hb:b'=b:=hb;subst hb;exact y8p hw hp c
  ·cases hw
 ·split at hk
  ·split at hk
   ·split at hk
    ·cases hk;exact y8q hp _
    ·cases hk
   ·cases hk
  ·cases hk
 ·rename_i c hop;split at hk
  ·rename_i y z t t';unfold k3z at hw;rw[hop]at hw;simp only[a0g]at hw;obtain⟨ht,hw⟩:=hw;rw[ht]at hk;simp only at hk;unfold y5m at hk;split at hk
   ·split at hk
    ·split at hk
     ·rename_i c hy;rw[hy]at hw;simp only[a0g]at hw;split at hk
      ·split at hk
       ·obtain⟨hf,hk⟩:=x1k hk;cases hk;show y7r W h0 ((hh.map (Box.kill [c])).set c _);refine y8p hw.1 (fun k x hk hx=> ?_) _
        have h1:=hp k x hk hx;have hlt:=(a0c.1 hx).1;have h2:=a0l.1 hw.2 (x,k) (by
         rw[List.mem_zipIdx_iff_getElem?];exact h1)
        simp only[Bool.or_eq_true,List.contains_eq_mem,a0s]at h2;have hf:x.j2t c=true:=by
         rcases h2 with(h2|h2)|h2
         ·exact absurd h2 hk
         ·omega
         ·exact h2
        rw[a0m,h1,Option.map_some,v6m hf]
       ·cases hk
      ·cases hk
     ·obtain⟨hf,hk⟩:=x1k hk;cases hk;exact y8q hp _
     ·cases hk
    ·cases hk
   ·cases hk
  ·cases hk
 ·cases hk
end
section
variable (A : Sy) (P : Program) (C : CfgO)
def v7k (ent:Callee->List V->List Box->Tree (List Nat × V × List Box))(W Tk:List Nat)(n1:Nat)(t:List V)(hh:List Box)(o:Oper):Tree (Option V × List Box × V):=match x5f P (VSt.get ⟨t,hh⟩) o with
 |some (f,vs)=>match C.inl.contains f,z1r P f with
  |true,some _=>forceSp (y5v hh [] vs) fun L=>match x7z hh L vs&&L.all (fun b=>(W.contains b&&Tk.contains b) || decide (n1<=b))with
   |true=>(ent (.fn f) (vs.map (V.ren (tau L))) (x4s hh L)).bind fun r=>match r.1 with
    | []=>match y0c r.2.1 with
      |none=> .ret (none,x5y hh L [] r.2.2,r.2.1.ren (ext L hh.length))
      |some p=> .ret (some (p.ren (ext L hh.length)),x5y hh L [] r.2.2, .any)
    |_=> .fail
   |false=> .fail
  |_,_=>(w8a A P C hh t o).bind fun x=> .ret (none,hh,x)
 |none=> .fail
def v7j (ops:Array Oper)(s:VSt)(o:Oper):List Nat:=match o.op with
 | .call ⟨.value (.tmp y),args,_⟩=>y5v s.h [] ((y6t P ops s 12 (.tmp y)).toList++args.toList.filterMap (y6t P ops s 12))
 | .call ⟨.value (.func f),args,_⟩=>match C.inl.contains f with
   |true=>y5v s.h [] (args.toList.filterMap (y6t P ops s 12))
   |false=>[]
 |_=>[]
def k5v (o:Oper):Bool:=match o.op with
 | .call ⟨.builtin .append,_,_⟩=>true
 |_=>false
def q8f (ops:Array Oper)(k:Nat):Array Oper:=(ops.toList.take k).toArray
def w6f (ops:Array Oper)(s:VSt)(o:Oper):List Nat:=match o.op with
 | .call ⟨.builtin .append,⟨[y,_]⟩,_⟩=>match y6t P ops s 12 y with
   |some (.own b)=>[b]
   |_=>[]
 |_=>[]
def bigZ (ops:Array Oper)(s:VSt):List Nat:=match ops.any k5v with
 |true=>(List.range ops.size).map (s.h.length+ ·)++ops.toList.zipIdx.flatMap fun ok=>w6f P (q8f ops ok.2) s ok.1
 |false=>[]
def k8x (ops:Array Oper)(Ts:List (List Nat))(k:Nat)(o:Oper):List Nat:=(List.range ops.size).flatMap fun j=>match ops[j]? with
 |some oj=>match z2g C oj&&x5l C oj&& !x5b ops 5 oj k&& !x5b ops 5 o j with
  |true=>Ts.getD j []
  |false=>[]
 |none=>[]
def q3b (Z:List Nat)(o:Oper)(t:List V)(x:V):Bool:=Z.isEmpty || (y5f Z x&&o.op.operands.toList.all fun y=>y5f Z (VSt.get ⟨t,[]⟩ y))
def z4u (ent:Callee->List V->List Box->Tree (List Nat × V × List Box))(ops:Array Oper)(W Z:List Nat)(Ts:List (List Nat))(h0:List Box)(n0:Nat)(M0:List Nat):Nat->List Oper->List V->List Box->Tree (Option V × List V × List Box)
 |_,[],t,hh=> .ret (none,t,hh)
 |k,o::os,t,hh=>v5i ops o t (fun t=>match z2g C o with
   |true=>match x5l C o with
    |true=>(v7k A P C ent W (Ts.getD k []) h0.length t hh o).bind fun r=>match r.1 with
     |none=>forceL (x3y t o.dst r.2.2) fun t=>forceH r.2.1 fun hh=>z4u ent ops W Z Ts h0 n0 M0 (k+1) os t hh
     |some p=>match w9a ops k with
      |true=> .ret (some p,t,r.2.1)
      |false=> .fail
    |false=>(w3m A P hh (VSt.get ⟨t,hh⟩) o).bind fun r=>match okM n0 M0 r.1&&r.1.all Z.contains&&k3z W h0.length hh o (VSt.get ⟨t,hh⟩)with
     |true=>forceL (x3y (x4e r.1 t) o.dst r.2.2) fun t=>forceH r.2.1 fun hh=>z4u ent ops W Z Ts h0 n0 M0 (k+1) os t hh
     |false=> .fail
   |false=>match q8g C ops k,q8z C ops k with
    |true,_=>(w8a A P C hh t o).bind fun x=>forceL (x3y t o.dst x) fun t=>z4u ent ops W Z Ts h0 n0 M0 (k+1) os t hh
    |false,true=>(w8d A P C (z9j (hh.take h0.length) (k8x C ops Ts k o)) (VSt.get ⟨t,[]⟩) o).bind fun x=>forceL (x3y t o.dst x) fun t=>z4u ent ops W Z Ts h0 n0 M0 (k+1) os t hh
    |false,false=>(w8d A P C (z9j h0 W) (VSt.get ⟨t,[]⟩) o).bind fun x=>match q3b Z o t x with
     |true=>forceL (x3y t o.dst x) fun t=>z4u ent ops W Z Ts h0 n0 M0 (k+1) os t hh
     |false=> .fail)
  (fun t=>forceL (x3y t o.dst (.tup [])) fun t=>z4u ent ops W Z Ts h0 n0 M0 (k+1) os t hh)
def v7a (ops:Array Oper):Bool:=w3n C ops&&z8w ops ops.size 0 (Array.replicate ops.size false)
variable (ent : Callee -> List V -> List Box -> Tree (List Nat × V × List Box)) (n0 : Nat) (M0 : List Nat)
def v6z (ops:Array Oper)(s:VSt):Tree (Option V × VSt):=match v7a C ops with
 |true=>x6k (k5w P C ops s) fun s=>forceSp (ops.toList.zipIdx.flatMap fun ok=>k4m P (q8f ops ok.2) s ok.1++w6f P (q8f ops ok.2) s ok.1++v7j P C (q8f ops ok.2) s ok.1) fun W=>forceSp (bigZ P ops s) fun Z=>forceSp (ops.toList.zipIdx.map fun ok=>v7j P C (q8f ops ok.2) s ok.1) fun Ts=>(z4u A P C ent ops W Z Ts s.h n0 M0 0 ops.toList s.t s.h).bind fun r=> .ret (r.1,⟨r.2.1,r.2.2⟩)
 |false=> .fail
def q2u (ops:Array Oper)(s:VSt):Tree (Option V × VSt):=match ops.toList.all z8n with
 |true=>v6z A P C ent n0 M0 ops s
 |false=> .fail
end
section
variable {P : Program} {h h' h2 h0 hh hx hx' : List Box} {B ρ2 : Operand -> V} {o : Oper} {x : V} {ops : Array Oper} {W Z M : List Nat} {T : Nat -> List Nat} {t t2 : List V} {En : Ent} {E : Env} {C : CfgO}
def v0r (h:q3b Z o t x=true):Z= []\/(y5f Z x=true/\ ∀y∈o.op.operands.toList,y5f Z (VSt.get ⟨t,[]⟩ y)=true):=by
 unfold q3b at h;rw[Bool.or_eq_true,a0g]at h;rcases h with h|⟨h1,h2⟩
 ·exact .inl (by simpa using h)
 ·exact .inr ⟨h1,fun y hy=>a0l.1 h2 y hy⟩
def q4s {r:List Nat × List Box × V}(hE:E.Ok)(hk:(w3m sy P h B o).run E=some r)(hm:mkI o=true):r.1= []/\ ∃l,r.2.1=h++l:=by
 unfold w3m at hk;split at hk
 ·split at hk
  ·split at hk
   ·cases hk;exact⟨rfl,_,rfl⟩
   ·cases hk
  ·cases hk
 ·rename_i hop;simp[mkI,hop]at hm
 ·split at hk
  ·split at hk
   ·split at hk
    ·cases hk;exact⟨rfl,_,rfl⟩
    ·cases hk
   ·cases hk
  ·cases hk
 ·rename_i hop;simp[mkI,hop]at hm
 ·cases hk
def w3l {r:List Nat × List Box × V}(hE:E.Ok)(hk:(w3m sy P h B o).run E=some r):h.length<=r.2.1.length:=by
 unfold w3m at hk;split at hk
 ·split at hk
  ·split at hk
   ·cases hk;simp
   ·cases hk
  ·cases hk
 ·obtain⟨h1,q1,hk⟩:=x0b hE hk;cases hk;obtain⟨b,c,hb,rfl⟩:=z2n q1;simp
 ·split at hk
  ·split at hk
   ·split at hk
    ·cases hk;simp
    ·cases hk
   ·cases hk
  ·cases hk
 ·split at hk
  ·split at hk
   ·unfold y5m at hk;split at hk
    ·split at hk
     ·split at hk
      ·split at hk
       ·split at hk
        ·obtain⟨hf,hk⟩:=x1k hk;cases hk;simp
        ·cases hk
       ·cases hk
      ·obtain⟨hf,hk⟩:=x1k hk;cases hk;simp
      ·cases hk
     ·cases hk
    ·cases hk
   ·cases hk
  ·cases hk
 ·cases hk
def u1i {L M':List Nat}{h h':List Box}{k:Nat}{x:Box}(hx:h[k]? =some x)(hL:k ∉ L):(x5y h L M' h')[k]? =some (x.kill M'):=by
 have hk:=(a0c.1 hx).1;unfold x5y;rw[List.getElem?_append_left (by simpa using hk),a0m,List.getElem?_zipIdx,hx]
 simp only[Option.map_some,a1y];cases hq:L.idxOf? k with
 |none=>rfl
 |some i=>exact absurd (a0o (x4n hq)) hL
def u0v (hE:E.Ok)(hG:x2p P E){ent:Callee->List V->List Box->Tree (List Nat × V × List Box)}(hent:x7k P E ent){r:Option V × List Box × V}{Tk:List Nat}(hpw:y7r W h0 hh)(hl0:h0.length<=hh.length)(hk:(v7k sy P C ent W Tk h0.length t hh o).run E=some r):
  (r.1=none->x8g P En o t hh [] r.2.2 r.2.1/\y7r W h0 r.2.1/\h0.length<=r.2.1.length/\ ∀k,k < h0.length->k ∉ Tk->r.2.1[k]? =hh[k]?)/\ ∀p,r.1=some p->k8b P En o t hh p r.2.1:=by
 unfold v7k at hk;split at hk
 ·rename_i f vs hc;split at hk
  ·rename_i hi hsig;rw[forceSp_eq]at hk;generalize y5v hh [] vs=L at hk;split at hk
   ·rename_i hL;simp only[a0g]at hL;obtain⟨hL,hW⟩:=hL;obtain⟨q,h1,hk⟩:=x0b hE hk;split at hk
    ·rename_i hq;have hcall:=hent.1 _ _ _ _ h1;rw[hq]at hcall;have hc2:x5f P (x3l o (VSt.get ⟨t,hh⟩)) o=some (f,vs):=by
      rw[<-hc];exact x7u fun y hy=>x9f (fun f=>rfl) hy
     split at hk
     ·rename_i hp;cases hk;have hA:=x9s.j1z hL (hcall.none hp);rw[a1x]at hA;obtain⟨y,args,tys,hop,hy⟩:=x3i hc2 (z2u o _);refine⟨fun _=>⟨?_,fun k x hkW hx=> ?_,?_,fun k hk0 hkT=> ?_⟩,fun p h=>(by cases h)⟩
      ·have:=x5m hop hy (x3k hsig) hA;rw[y6q t hh []]at this;exact x8g.j1b (by simp[okM]) this
      ·have hkL:k ∉ L:=fun hm=>by
        have:=a0l.1 hW k hm;simp only[Bool.or_eq_true,a0g,List.contains_eq_mem,a0s]at this;rcases this with h2|h2
        ·exact hkW h2.1
        ·have:=(a0c.1 hx).1;omega
       show(x5y hh L [] q.2.2)[k]? =some x;rw[u1i (hpw k x hkW hx) hkL,Box.j0c]
      ·show h0.length<=(x5y hh L [] q.2.2).length;unfold x5y;simp only[a0j,a1f,List.length_zipIdx];omega
      ·have hkL:k ∉ L:=fun hm=>by
        have:=a0l.1 hW k hm;simp only[Bool.or_eq_true,a0g,List.contains_eq_mem,a0s]at this;rcases this with h2|h2
        ·exact hkT h2.2
        ·omega
       show(x5y hh L [] q.2.2)[k]? =_;have hx:hh[k]? =some hh[k]:=a0b (by omega)
       rw[u1i hx hkL,Box.j0c,hx]
     ·rename_i p hp;cases hk;have hA:=x8f.j2e hL (hcall.some hp);rw[a1x]at hA;refine⟨fun h=>(by cases h),fun p' hp'=> ?_⟩
      cases hp';intro t2 he a w K Q hs hQ;have hc3:x5f P (VSt.get ⟨t2,hh⟩) o=some (f,vs):=by
       have e:x3l o (VSt.get ⟨t2,hh⟩)=x3l o (VSt.get ⟨t,hh⟩):=by rw[<-y6q t2 [] hh,<-y6q t [] hh];exact he
       rw[<-hc2,<-e];exact x7u fun y hy=>(x9f (fun f=>rfl) hy).symm
      obtain⟨y,args,tys,hop,hy⟩:=x3i hc3 (fun f=>rfl)
      exact u5q (s:=⟨t2,hh⟩) hop hy (x3k hsig) hA (by simp[okM]) hs fun e a' w' h=>hQ e a' w' ⟨_,h⟩
    ·cases hk
   ·cases hk
  ·obtain⟨x,q1,hk⟩:=x0b hE hk;cases hk;exact⟨fun _=>⟨y8r hE hG q1,hpw,hl0,fun _ _ _=>rfl⟩,fun p h=>by cases h⟩
 ·cases hk
def z9i: ∀ {W:List Nat} {h:List Box},(z9j h W).length=h.length
 | [],_=>rfl
 |b::W,h=>by show(z9j (h.set b .gone) W).length=_;rw[z9i,List.length_set]
def x7c {Ts:List (List Nat)}(hT:T=fun k=>Ts.getD k [])(hE:E.Ok)(hG:x2p P E){ent:Callee->List V->List Box->Tree (List Nat × V × List Box)}(hent:x7k P E ent){r:Option V × List V × List Box}: ∀ {os:List Oper} {k:Nat} {t:List V} {hh:List Box},y7r W h0 hh->h0.length<=hh.length->(z4u sy P C ent ops W Z Ts h0 En.g.n En.M k os t hh).run E=some r->w6v P C En ops W Z T h0 (fun t hh=>(none,t,hh)=r) (fun p hh=>r.1=some p/\r.2.2=hh) k os t hh
 | [],_,_,_,_,_,hk=>by cases hk;rfl
 |o::os,k,t,hh,hpw,hl0,hk=>by
  unfold z4u at hk;rcases u9w hk with⟨hw,hk⟩|⟨hw,hk⟩
  ·split at hk
   ·rename_i hbig;split at hk
    ·rename_i hct;obtain⟨r1,q1,hk⟩:=x0b hE hk;have hmk:mkI o=false:=by
      unfold mkI;unfold x5l at hct;split<;>simp_all
     obtain⟨kn,kp⟩:=u0v (En:=En) hE hG hent hpw hl0 q1;have hTk:Ts.getD k []=T k:=by rw[hT]
     rw[hTk]at kn;obtain⟨p1,r1⟩:=r1;cases p1 with
     |some p=>
      simp only at hk;split at hk
      ·rename_i hlate;cases hk;exact .inr ⟨p,r1.1,⟨hw,hbig,hmk,hlate,kp p rfl⟩,rfl,rfl⟩
      ·cases hk
     |none=>
     simp only at hk;rw[forceL_eq,forceH_eq]at hk;obtain⟨k1,k2,k3,k4⟩:=kn rfl;exact .inl ⟨r1.2,_,r1.1,⟨.big hh r1.1 [],⟨hw,hbig,fun b hb=>by simp at hb,hpw,k2,k1,hl0,(fun hm=>by rw[hmk]at hm;cases hm),fun _=>⟨rfl,k4⟩⟩,rfl,rfl,rfl⟩,x7c hT hE hG hent k2 k3 hk⟩
    rename_i hnc;obtain⟨r1,q1,hk⟩:=x0b hE hk;split at hk
    ·rename_i hc;simp only[a0g]at hc;obtain⟨⟨c1,c2⟩,c3⟩:=hc;rw[forceL_eq,forceH_eq]at hk;have hg:=v1g (ρ2:=x3l o (VSt.get ⟨t,hh⟩)) hE (fun y hy=>(x9f (fun f=>rfl) hy).symm) q1
     have hp2:=w3k hE q1 c3 hpw;rw[y6q t hh []]at hg;exact .inl ⟨r1.2.2,_,r1.2.1,⟨.big hh r1.2.1 r1.1,⟨hw,hbig,fun b hb=>by have:=a0l.1 c2 b hb;simpa using this,hpw,hp2,x8g.j1b c1 hg,hl0,(fun hm=>q4s hE q1 hm),fun hct=>by rw[hnc]at hct;cases hct⟩,rfl,rfl,rfl⟩,x7c hT hE hG hent hp2 (a1a hl0 (w3l hE q1)) hk⟩
    ·cases hk
   ·split at hk
    ·rename_i hpin;obtain⟨x,q1,hk⟩:=x0b hE hk;rw[forceL_eq]at hk;exact .inl ⟨x,_,hh,⟨.pin hh,⟨hw,hpin,y8r hE hG q1⟩,rfl,rfl,rfl⟩,x7c hT hE hG hent hpw hl0 hk⟩
    ·rename_i hmid;obtain⟨x,q1,hk⟩:=x0b hE hk;rw[forceL_eq]at hk;have q2:=y4t hE hG (fun f=>rfl) q1
     refine .inl ⟨x,_,hh,⟨.mid (z9j (hh.take h0.length) (k8x C ops Ts k o)),⟨hw,hmid,by rw[z9i];simp;omega,fun j oj hj s1 s2=> ?_,q2⟩,fun b y hy=>(y7k hy).imp id fun h1=>(by
      have hy:=h1.2;rw[a1t]at hy;split at hy
      ·exact hy
      ·cases hy),rfl,rfl⟩,x7c hT hE hG hent hpw hl0 hk⟩
     cases e1:x5b ops 5 oj k with
     |true=>exact .inl rfl
     |false=>cases e2:x5b ops 5 o j with
      |true=>exact .inr (.inl rfl)
      |false=>
       refine .inr (.inr fun b hb y hy=>(y7k hy).resolve_right fun h1=>h1.1 ?_)
       refine List.mem_flatMap.2 ⟨j,List.mem_range.2 (a0r.1 hj).1,?_⟩;rw[hT]at hb;simp only[hj,s1,s2,e1,e2];exact hb
    ·obtain⟨x,q1,hk⟩:=x0b hE hk;split at hk
     ·rename_i hc;rw[forceL_eq]at hk;exact .inl ⟨x,_,hh,⟨.late,⟨hw,v0r hc,fun h2 hp=>y4t hE hG (fun f=>rfl) q1 h2 hp.pre⟩,hpw,rfl,rfl⟩,x7c hT hE hG hent hpw hl0 hk⟩
     ·cases hk
  ·rw[forceL_eq]at hk;exact .inl ⟨.tup [],_,hh,⟨.no,⟨hw,rfl⟩,trivial,rfl,rfl⟩,x7c hT hE hG hent hpw hl0 hk⟩
def u0i (hnd: ∀(i:Nat) o,ops[i]? =some o->z8n o=true){ro:Option Nat}(hE:E.Ok)(hG:x2p P E){ent:Callee->List V->List Box->Tree (List Nat × V × List Box)}(hent:x7k P E ent){En:Ent}{id:Nat}{Q:Exit->Act->World->Prop}{s:VSt}{q:Option V × VSt}{a:Act}{w:World}(hm:P.follows .mixedOrders=true)
  (hk:(v6z sy P C ent En.g.n En.M ops s).run E=some q) (hs:x1r En s a w) (hq: ∀e a' w',k4f En q e a' w'->Q e a' w'):(Code.region id ops true).wpIn (Fw ro) 0 P Q a w:=by
 unfold v6z at hk;split at hk
 ·rename_i hB;rw[x5w,forceSp_eq,forceSp_eq,forceSp_eq]at hk;have hs:x1r En (k5w P C ops s) a w:=hs.frzs;generalize k5w P C ops s=s at hk hs;obtain⟨r,h1,hk⟩:=x0b hE hk;cases hk;simp only[v7a,a0g]at hB;have hlex:=x7c rfl hE hG hent (fun b x _ h=>h) (a0p _) h1
  have hany:=z6w hB.1 ops.toList 0 (Array.replicate ops.size false) s.t s.h (fun k ok hok hk=>by have hlt:=(a0r.1 hok).1;simp[Array.getElem?_replicate,hlt]at hk) (fun j hj=>by omega) (fun j=>by simp) (by simpa using hB.2) hlex
  refine wpIn_region_any hm ?_;have:=y7u (ro:=ro) (Q:=Q) (En:=En) hnd (fun t hh a w hk' hs=>by subst hk';exact hq .normal a w ⟨rfl,hs⟩) (fun p hh e a w hk' hp=>hq e a w (by obtain⟨h1,h2⟩:=hk';subst h2;unfold k4f;simp only[h1];exact hp)) ops.toList.length _ s.t s.h a w.drew hany hs.drew
  simpa using this
 ·cases hk
def u3u {ro:Option Nat}(hE:E.Ok)(hG:x2p P E){ent:Callee->List V->List Box->Tree (List Nat × V × List Box)}(hent:x7k P E ent){En:Ent}{id:Nat}{Q:Exit->Act->World->Prop}{s:VSt}{q:Option V × VSt}{a:Act}{w:World}(hm:P.follows .mixedOrders=true)
  (hk:(q2u sy P C ent En.g.n En.M ops s).run E=some q) (hs:x1r En s a w) (hq: ∀e a' w',k4f En q e a' w'->Q e a' w'):(Code.region id ops true).wpIn (Fw ro) 0 P Q a w:=by
 unfold q2u at hk;split at hk
 ·rename_i hd;exact u0i (fun i o ho=>a0l.1 hd o (by rw[<-a1b]at ho;exact a0o ho)) hE hG hent hm hk hs hq
 ·cases hk
end
end Go.Vm
end
