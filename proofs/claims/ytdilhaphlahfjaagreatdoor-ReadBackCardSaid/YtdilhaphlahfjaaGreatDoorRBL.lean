/- Part RBL of the proof. What is proved by the whole: the statement that the claim names, with no condition. -/
import Derived.Test.YtdilhaphlahfjaaGreatDoorRBK
import Derived.Stop.Asserts
import Derived.RowKitTokens
import Derived.Shelf.Spec.SlicesGrow
set_option linter.all false
section
set_option maxRecDepth 100000
set_option maxHeartbeats 4000000
namespace Go.Vm
open Go.Proofs
def v0r (k n:Int)(s:BA)(o:Int)(a:List BA)(u:List Ex)(h1:x3k (.mk k n s o a u)=true)(h2:y1y (.mk k n s o a u)=true)(hf:(Ex.mk k n s o a u).j1f)(hr:(Ex.mk k n s o a u).rng): ∃t,cF 73 [kE k n s o (x0b a) (Ex.rows u)]=some (.val [.str t])/\tb t=x0f (pcs (.mk k n s o a u))/\t.size<=60000000:=by
 have hz:(Ex.mk k n s o a u).size<=60:=by
  unfold x3k at h1;simp only[a0g,a0u]at h1;exact h1.1
 obtain⟨t,q1,q2,q3⟩:=v7n 60 k n s o a u hz (by omega) h2 hf hr
 have q0:=u0r k n s o a u (by omega) hf
 rw[h1,h2]at q0;refine⟨t,?_,q2,by omega⟩
 refine cO rfl ?_;rw[q9f];simp only[g73,go1,q0,q1,Bool.and_self]
def u8w (x:Eqn):q5w x= [32,32]++(jnT [44,32] (x.ns.map tb)++([32,61,32]++(x0f (pcs x.e)++[59,10]))):=by
 have e1:x0f (k3h x)=32::32::x0f (u9j 1 x.ns++(none::mk 61::none::(pcs x.e++[mk 59]))):=rfl;have e2:x0f (none::mk 61::none::(pcs x.e++[mk 59]))=32::([61]++(32::x0f (pcs x.e++[mk 59]))):=rfl;unfold q5w;rw[e1,x0r,e2,x0r,z2v 1 (by decide)]
 have e3:x0f [mk 59]= [59]:=rfl;rw[e3];simp
def z2l (x:Eqn): ∀r,y6h (r++[x])=y6h r++q5w x
 | []=>by simp[y6h]
 |y::r=>by simp only[a0d,y6h,z2l x r,List.append_assoc]
def z7j (a:D)(r:List D):sy.skip 1 (a::r)=r:=rfl
def sfS {a:BA}{l:List UInt8}(h:a.size<=4000000000000000000)(hl:l.length<=100):sy.sfit a (bs l)=true:=sfT (by rw[x1c];omega)
def sfA {a b:BA}(h:a.size<=4000000000000000000)(hl:b.size<=4000000000000000000):sy.sfit a b=true:=sfT (by omega)
def szS {a:BA}{l:List UInt8}{k:Nat}(h:a.size<=k):(a++bs l).size<=k+l.length:=by rw[ByteArray.size_append,x1c];omega
def szA {a b:BA}{k m:Nat}(h:a.size<=k)(hb:b.size<=m):(a++b).size<=k+m:=by rw[ByteArray.size_append];omega
structure EqF (x:Eqn):Prop where
 b:eqB x=true
 ok:EqOK x
 rng:x.e.rng
 ns:x.ns.length<=1000000
structure NdF (ens:List En) (n:Nd):Prop where
 k:NodeK ens n
 ok:NdOK n
 ins:n.ins.length<=1000
 outs:n.outs.length<=1000
 vars:n.vars.length<=1000
 eqs:n.eqs.length<=1000
 eo: ∀x∈n.eqs,EqF x
def v3d (ens:List En)(n:Nd):x0f (q8p ens n)++[10]= [110,111,100,101,32]++(tb n.n++([40]++(x0f (dsP ens n.ins)++([41,32,114,101,116,117,114,110,115,32,40]++(x0f (dsP ens n.outs)++[41,10]))))):=by
 have e1:x0f (q8p ens n)=z8u++(32::(tb n.n++([40]++x0f (dsP ens n.ins++(mk 41::none::wd w1f::none::mk 40::(dsP ens n.outs++[mk 41])))))):=rfl;have e2:x0f (mk 41::none::wd w1f::none::mk 40::(dsP ens n.outs++[mk 41]))= [41]++(32::(w1f++(32::([40]++x0f (dsP ens n.outs++[mk 41]))))):=rfl;have e3:x0f [mk 41]= [41]:=rfl;rw[e1,x0r,e2,x0r,e3];simp[z8u,w1f]
def v3b (ens:List En)(d:Dc)(r:List Dc):q6t ens (d::r)= [118,97,114,32]++(x0f (dsP ens (d::r))++[59,10]):=by
 have e1:x0f (k2w ens (d::r))=q6d++(32::x0f (dsP ens (d::r)++[mk 59])):=rfl;have e3:x0f [mk 59]= [59]:=rfl;unfold q6t;simp only;rw[e1,x0r,e3];simp[q6d]
def v6l (nm:BA)(I O V:LL)(eqs:List Eqn)(hl4:eqs.length<=1000)(heo: ∀x∈eqs,EqF x)(S0:BA)(hS:S0.size<=100000000000):
  ∃p,x6d (fun ds10=>(opS (sy.cell ds10 0)).bind fun s11=>(opI (sy.cell ds10 1) .i64).bind fun n12=>(opS (sy.cell ds10 2)).bind fun s13=>(opL (sy.cell ds10 3) 6).bind fun l14=>(opL (sy.cell ds10 4) 6).bind fun l15=>(opL (sy.cell ds10 5) 6).bind fun l16=>(opL (sy.cell ds10 6) 7).bind fun l17=>
   bif decide (n12 < (l17.length:Int))then
    bif sy.sfit s11 (bs [32,32])then
     bif decide (0<=n12/\n12 < (l17.length:Int))then
      (opL (sy.cell (sy.row l17 n12) 0) 1).bind fun l18=>(cF 33 [.d (.sl 1 l18)]).bind fun p19=>(opS (sy.cell p19.leaves 0)).bind fun s21=>
       bif sy.sfit (s11++bs [32,32]) s21 then
        bif sy.sfit (s11++bs [32,32]++s21) (bs [32,61,32])then
         bif decide (0<=n12/\n12 < (l17.length:Int))then
          oE sy (sy.skip 1 (sy.row l17 n12)) 0 fun n22 n23 s24 n25 l26 l27=>(cF 73 [kE n22 n23 s24 n25 l26 l27]).bind fun p28=>(opS (sy.cell p28.leaves 0)).bind fun s30=>
            bif sy.sfit (s11++bs [32,32]++s21++bs [32,61,32]) s30 then
             bif sy.sfit (s11++bs [32,32]++s21++bs [32,61,32]++s30) (bs [59,10])then
              some (.inl [.str (s11++bs [32,32]++s21++bs [32,61,32]++s30++bs [59,10]), .int .i64 (IntKind.i64.wrap (n12+1)), .str s13, .sl 6 l14, .sl 6 l15, .sl 6 l16, .sl 7 l17])
             else none
            else none
         else none
        else none
       else none
     else none
    else none
   else bif sy.sfit s11 (bs [116,101,108,10])then some (.inr (PRes.val [.str (s11++bs [116,101,108,10])]))else none)
   [.str S0, .int .i64 0, .str nm, .sl 6 I, .sl 6 O, .sl 6 V, .sl 7 (x3e eqs)]=some p/\ ∃t,p= .val [.str t]/\tb t=tb S0++(y6h eqs++(u9p++[10]))/\t.size<=900000000000000:=by
 refine x2l (fun x:Nat × BA=>[.str x.2, .int .i64 (x.1:Int), .str nm, .sl 6 I, .sl 6 O, .sl 6 V, .sl 7 (x3e eqs)]) (fun x=>x.1<=eqs.length/\tb x.2=tb S0++y6h (eqs.take x.1)/\x.2.size<=100000000000+200000000000*x.1) (fun x=>eqs.length - x.1) (fun x hx=> ?_) (0,S0) ⟨a0t _,by simp[y6h],by simp only;omega⟩
 obtain⟨i,s⟩:=x;obtain⟨h1,h2,h3⟩:=hx;simp only at h1 h2 h3 ⊢
 by_cases hlt:i < eqs.length
 ·left
  have hx:=a0a hlt;obtain⟨g1,g2,g3,g4⟩:=heo _ (a1i hlt);have hr:=y8n hx;have w1:IntKind.i64.wrap ((i:Int)+1)=((i+1:Nat):Int):=by rw[x0p (by omega) (by omega)];omega
  generalize eqs[i]=x at hx g1 g2 g3 g4 hr;obtain⟨ns,k,m,w,o,a,u⟩:=x;obtain⟨_,p2,p3,_⟩:=y3r g1;obtain⟨t1,q1,q2,q3⟩:=v7m ns g4 g2.st;obtain⟨t2,r1,r2,r3⟩:=v0r k m w o a u p2 p3 g2.fn g3;have g4:ns.length<=1000000:=g4;have y1:=szS (l:=[32,32]) h3;have y2:=szA y1 q3;have y3:=szS (l:=[32,61,32]) y2;have y4:=szA y3 r3;have y5:=szS (l:=[59,10]) y4;simp only[a0b,a0e]at y1 y2 y3 y4 y5;have f1:=sfS (l:=[32,32]) (a1a h3 (by omega)) (by decide)
  have f2:=sfA (b:=t1) (a1a y1 (by omega)) (by omega)
  have f3:=sfS (l:=[32,61,32]) (a1a y2 (by omega)) (by decide)
  have f4:=sfA (b:=t2) (a1a y3 (by omega)) (by omega)
  have f5:=sfS (l:=[59,10]) (a1a y4 (by omega)) (by decide)
  have l0:=x0l hlt;have i0:=x0k hlt;refine⟨(i+1,s++bs [32,32]++t1++bs [32,61,32]++t2++bs [59,10]),?_,⟨hlt,?_,?_⟩,by simp only;omega⟩
  ·simp only[go1,x2c,l0,i0,hr,z7o,Ex.row,z7j,oE,q1,r1,f1,f2,f3,f4,f5,w1]
  ·simp only;rw[x0y,x0y,x0y,x0y,x0y,h2,q2,r2,x6v hx,z2l,u8w];simp[z6v]
  ·refine a1a y5 ?_;show _<=100000000000+200000000000*(i+1);omega
 ·right
  have:i=eqs.length:=by omega
  subst this;rw[a0r]at h2;have f1:=sfS (l:=[116,101,108,10]) (a1a h3 (by omega)) (by decide)
  have y1:=szS (l:=[116,101,108,10]) h3;simp only[a0b,a0e]at y1;refine⟨_,?_,s++bs [116,101,108,10],rfl,?_,by omega⟩
  ·simp only[go1,x2c,x0g,f1]
  ·rw[x0y,h2,List.append_assoc];rfl
def v0p (ens:List En)(hE: ∀x∈ens,EnOK x)(n:Nd)(h:NdF ens n): ∃t,cF 34 [.d (.sl 2 (x0j ens)),nV n]=some (.val [.str t])/\tb t=q6u ens n/\t.size<=900000000000000:=by
 have hdc:=h.ok.dc;have hi: ∀d∈n.ins,x3y ens d=true/\DcOK d:=fun d hd=>⟨h.k.ins d hd,hdc d (by unfold y2e;simp[hd])⟩
 have ho: ∀d∈n.outs,x3y ens d=true/\DcOK d:=fun d hd=>⟨h.k.outs d hd,hdc d (by unfold y2e;simp[hd])⟩
 have hv: ∀d∈n.vars,x3y ens d=true/\DcOK d:=fun d hd=>⟨h.k.vars d hd,hdc d (by unfold y2e;simp[hd])⟩
 obtain⟨y1,a1,a2,a3⟩:=y2r ens hE n.ins h.ins hi;obtain⟨y2,b1,b2,b3⟩:=y2r ens hE n.outs h.outs ho;obtain⟨y3,c1,c2,c3⟩:=y2r ens hE n.vars h.vars hv;have hl1:=h.ins;have hl2:=h.outs;have hl3:=h.vars;have hl4:=h.eqs;have hnm:=h.ok.nm;have heo:=h.eo;have ehd:=v3d ens n;have evr:=v3b ens;unfold q6u;rw[ehd];obtain⟨nm,ins,outs,vars,eqs⟩:=n;simp only at a1 a2 a3 b1 b2 b3 c1 c2 c3 hl1 hl2 hl3 hl4 hnm heo ⊢;have z1:(bs [110,111,100,101,32]++nm).size<=200000:=by have:=szA (a:=bs [110,111,100,101,32]) (k:=5) (by rw[x1c];decide) hnm;omega
 have z2:=szS (l:=[40]) z1;have z3:=szA z2 a3;have z4:=szS (l:=[41,32,114,101,116,117,114,110,115,32,40]) z3;have z5:=szA z4 b3;have z6:=szS (l:=[41,10]) z5;have z7:=szS (l:=[118,97,114,32]) z6;have z8:=szA z7 c3;have z9:=szS (l:=[59,10]) z8;have z10:=szS (l:=[108,101,116,10]) z9;have z11:=szS (l:=[108,101,116,10]) z6;simp only[a0b,a0e]at z2 z3 z4 z5 z6 z7 z8 z9 z10 z11;have f1:sy.sfit (bs [110,111,100,101,32]) nm=true:=sfT (by rw[x1c];simp only[a0b,a0e];omega)
 have f2:=sfS (l:=[40]) (a1a z1 (by omega)) (by decide)
 have f3:=sfA (b:=y1) (a1a z2 (by omega)) (by omega)
 have f4:=sfS (l:=[41,32,114,101,116,117,114,110,115,32,40]) (a1a z3 (by omega)) (by decide)
 have f5:=sfA (b:=y2) (a1a z4 (by omega)) (by omega)
 have f6:=sfS (l:=[41,10]) (a1a z5 (by omega)) (by decide)
 have f7:=sfS (l:=[118,97,114,32]) (a1a z6 (by omega)) (by decide)
 have f8:=sfA (b:=y3) (a1a z7 (by omega)) (by omega)
 have f9:=sfS (l:=[59,10]) (a1a z8 (by omega)) (by decide)
 have f10:=sfS (l:=[108,101,116,10]) (a1a z9 (by omega)) (by decide)
 have f11:=sfS (l:=[108,101,116,10]) (a1a z6 (by omega)) (by decide)
 have core: ∃p,g34 sy eF (x0j ens) nm (x0m ins) (x0m outs) (x0m vars) (x3e eqs)=some p/\ ∃t,p= .val [.str t]/\tb t=([110,111,100,101,32]++(tb nm++([40]++(x0f (dsP ens ins)++([41,32,114,101,116,117,114,110,115,32,40]++(x0f (dsP ens outs)++[41,10]))))))++(q6t ens vars++(u9q++([10]++(y6h eqs++(u9p++[10])))))/\t.size<=900000000000000:=by
  unfold g34;cases vars with
  |nil=>
   simp only[go1,f1,f2,f3,f4,f5,f6,f11,a1,b1,x0q,a0e,show((0:Nat):Int)=0 from rfl,Int.lt_irrefl];obtain⟨p,q1,t,q2,q3,q4⟩:=v6l nm (x0m ins) (x0m outs) (x0m []) eqs hl4 heo (bs [110,111,100,101,32]++nm++bs [40]++y1++bs [41,32,114,101,116,117,114,110,115,32,40]++y2++bs [41,10]++bs [108,101,116,10]) (a1a z11 (by omega))
   refine⟨p,q1,t,q2,?_,q4⟩;rw[q3];simp only[x0y,a2,b2,List.append_assoc];rfl
  |cons d r=>
   have l0:decide ((0:Int) < (((d::r).length:Nat):Int))=true:=a0o (by simp only[a0b];omega)
   simp only[go1,f1,f2,f3,f4,f5,f6,f7,f8,f9,f10,a1,b1,c1,x0q,l0];obtain⟨p,q1,t,q2,q3,q4⟩:=v6l nm (x0m ins) (x0m outs) (x0m (d::r)) eqs hl4 heo (bs [110,111,100,101,32]++nm++bs [40]++y1++bs [41,32,114,101,116,117,114,110,115,32,40]++y2++bs [41,10]++bs [118,97,114,32]++y3++bs [59,10]++bs [108,101,116,10]) (a1a z10 (by omega))
   refine⟨p,q1,t,q2,?_,q4⟩;rw[q3,evr];simp only[x0y,a2,b2,c2,List.append_assoc];rfl
 obtain⟨p,q1,t,rfl,q2,q3⟩:=core;exact⟨t,cO rfl ((q9v _ _ _ _ _ _ _ _).trans q1),q2,q3⟩
def u8x (e:En):q6v e= [101,110,117,109,32]++(tb e.1++([32,123,32]++(jnT [44,32] (e.2.map tb)++[32,125,59,10]))):=by
 have e1:x0f (q6j e)=u2w++(32::(tb e.1++(32::([123]++(32::x0f (u9j 2 e.2++[none,mk 125,mk 59])))))):=rfl;have e2:x0f [none,mk 125,mk 59]= [32,125,59]:=rfl;unfold q6v;rw[e1,x0r,e2,z2v 2 (by decide)]
 simp[u2w]
def z2m (x:En): ∀r,z4g (r++[x])=z4g r++q6v x
 | []=>by simp[z4g]
 |y::r=>by simp only[a0d,z4g,z2m x r,List.append_assoc]
def z2k (ens:List En)(x:Nd): ∀r,z1p ens (r++[x])=z1p ens r++q6u ens x
 | []=>by simp[z1p]
 |y::r=>by simp only[a0d,z1p,z2k ens x r,List.append_assoc]
def z3x (ens:List En)(nds:List Nd)(hc:y6r ens nds=0)(hl1:ens.length<=1000)(hl2:nds.length<=1000)(hE: ∀x∈ens,EnOK x/\x.2.length<=1000000)(hN: ∀n∈nds,NdF ens n):
  ∃t,cF 13 [.agg [.d (.sl 2 (x0j ens)), .d (.sl 5 (x1x nds))]]=some (.val [.str t])/\tb t=k2x ens nds/\t.size<=4000000000000000000:=by
 have hck:=v3k ens nds (by omega) (by omega) (fun x hx=>(hE x hx).1) fun n hn=>(hN n hn).ok
 rw[hc]at hck;have inner: ∀(S0:BA),S0.size<=1000000000000000-> ∃p,x6d (fun ds14=>(opS (sy.cell ds14 0)).bind fun s15=>(opI (sy.cell ds14 1) .i64).bind fun n16=>(opL (sy.cell ds14 2) 2).bind fun l17=>(opL (sy.cell ds14 3) 5).bind fun l18=>
     bif decide (n16 < (l18.length:Int))then
      bif decide (0<=n16/\n16 < (l18.length:Int))then
       (opS (sy.cell (sy.row l18 n16) 0)).bind fun s19=>(opL (sy.cell (sy.row l18 n16) 1) 6).bind fun l20=>(opL (sy.cell (sy.row l18 n16) 2) 6).bind fun l21=>(opL (sy.cell (sy.row l18 n16) 3) 6).bind fun l22=>(opL (sy.cell (sy.row l18 n16) 4) 7).bind fun l23=>
        (cF 34 [.d (.sl 2 l17), .agg [.d (.str s19), .d (.sl 6 l20), .d (.sl 6 l21), .d (.sl 6 l22), .d (.sl 7 l23)]]).bind fun p24=>(opS (sy.cell p24.leaves 0)).bind fun s26=>
         bif sy.sfit s15 s26 then some (.inl [.str (s15++s26), .int .i64 (IntKind.i64.wrap (n16+1)), .sl 2 l17, .sl 5 l18])else none
      else none
     else some (.inr (Sum.inr (PRes.val [.str s15]):List D ⊕ PRes))) [.str S0, .int .i64 0, .sl 2 (x0j ens), .sl 5 (x1x nds)]=some p/\ ∃t,p= .inr (.val [.str t])/\tb t=tb S0++z1p ens nds/\t.size<=4000000000000000000:=by
  intro S0 hS;refine x2l (fun x:Nat × BA=>[.str x.2, .int .i64 (x.1:Int), .sl 2 (x0j ens), .sl 5 (x1x nds)]) (fun x=>x.1<=nds.length/\tb x.2=tb S0++z1p ens (nds.take x.1)/\x.2.size<=1000000000000000+900000000000000*x.1) (fun x=>nds.length - x.1) (fun x hx=> ?_) (0,S0) ⟨a0t _,by simp[z1p],by simp only;omega⟩
  obtain⟨i,s⟩:=x;obtain⟨h1,h2,h3⟩:=hx;simp only at h1 h2 h3 ⊢
  by_cases hlt:i < nds.length
  ·left
   have hx:=a0a hlt;obtain⟨t,q1,q2,q3⟩:=v0p ens (fun x hx=>(hE x hx).1) _ (hN _ (a1i hlt))
   have hr:=x9m hx;have w1:IntKind.i64.wrap ((i:Int)+1)=((i+1:Nat):Int):=by rw[x0p (by omega) (by omega)];omega
   generalize nds[i]=x at hx hr q1 q2;have f1:=sfA (b:=t) (a1a h3 (by omega)) (by omega)
   have l0:=x0l hlt;have i0:=x0k hlt;have y1:=szA h3 q3;refine⟨(i+1,s++t),?_,⟨hlt,?_,?_⟩,by simp only;omega⟩
   ·simp only[go1,x1l,l0,i0,hr,y7d,q1,f1,w1]
   ·simp only;rw[x0y,h2,q2,x6v hx,z2k,List.append_assoc]
   ·refine a1a y1 ?_;show _<=1000000000000000+900000000000000*(i+1);omega
  ·right
   have:i=nds.length:=by omega
   subst this;rw[a0r]at h2;refine⟨_,?_,s,rfl,h2,by omega⟩
   simp only[go1,x1l,x0g]
 have core: ∃p,g13 sy eF (x0j ens) (x1x nds)=some p/\ ∃t,p= .val [.str t]/\tb t=k2x ens nds/\t.size<=4000000000000000000:=by
  unfold g13;simp only[hck,go1];refine x2l (fun x:Nat × BA=>[.str x.2, .int .i64 (x.1:Int), .sl 2 (x0j ens), .sl 5 (x1x nds)]) (fun x=>x.1<=ens.length/\tb x.2=z4g (ens.take x.1)/\x.2.size<=200000000000*x.1) (fun x=>ens.length - x.1) (fun x hx=> ?_) (0,bs []) ⟨a0t _,by simp[z4g,z6v],a0q _⟩
  obtain⟨i,s⟩:=x;obtain⟨h1,h2,h3⟩:=hx;simp only at h1 h2 h3 ⊢
  by_cases hlt:i < ens.length
  ·left
   have hx:=a0a hlt;obtain⟨g1,g2⟩:=hE _ (a1i hlt);have hr:=x7f hx;have w1:IntKind.i64.wrap ((i:Int)+1)=((i+1:Nat):Int):=by rw[x0p (by omega) (by omega)];omega
   generalize ens[i]=e at hx hr g1 g2;obtain⟨t,q1,q2,q3⟩:=v7m e.2 g2 g1.c;have hz:=g1.n;have y1:=szS (l:=[101,110,117,109,32]) h3;have y2:=szA y1 hz;have y3:=szS (l:=[32,123,32]) y2;have y4:=szA y3 q3;have y5:=szS (l:=[32,125,59,10]) y4;simp only[a0b,a0e]at y1 y2 y3 y4 y5;have f1:=sfS (l:=[101,110,117,109,32]) (a1a h3 (by omega)) (by decide)
   have f2:=sfA (b:=e.1) (a1a y1 (by omega)) (by omega)
   have f3:=sfS (l:=[32,123,32]) (a1a y2 (by omega)) (by decide)
   have f4:=sfA (b:=t) (a1a y3 (by omega)) (by omega)
   have f5:=sfS (l:=[32,125,59,10]) (a1a y4 (by omega)) (by decide)
   have l0:=x0l hlt;have i0:=x0k hlt;refine⟨(i+1,s++bs [101,110,117,109,32]++e.1++bs [32,123,32]++t++bs [32,125,59,10]),?_,⟨hlt,?_,?_⟩,by simp only;omega⟩
   ·simp only[go1,x0t,l0,i0,hr,z7j,q1,f1,f2,f3,f4,f5,w1]
   ·simp only;rw[x0y,x0y,x0y,x0y,x0y,h2,q2,x6v hx,z2m,u8x];simp[z6v]
   ·refine a1a y5 ?_;show _<=200000000000*(i+1);omega
  ·right
   have:i=ens.length:=by omega
   subst this;rw[a0r]at h2;obtain⟨p,q1,t,q2,q3,q4⟩:=inner s (by omega)
   refine⟨_,?_,t,rfl,by rw[q3,h2];rfl,q4⟩
   subst q2;simp only[go1,x0t,x0g];exact q1
 obtain⟨p,q1,t,rfl,q2,q3⟩:=core;exact⟨t,cO rfl ((k0j _ _ _ _).trans q1),q2,q3⟩
def z1r (u:List Ex)(i:Nat)(h:i<=u.length):i<=Ex.j0a (u.take i):=by
 have:=x2j (u.take i);rw[a1q]at this;omega
def u7p: ∀(m:Nat) (k n:Int) (s:BA) (o:Int) (a:List BA) (u:List Ex) (left:Nat),(Ex.mk k n s o a u).size<=m->left<=200->
  ∃r:Nat,cF 66 [kE k n s o (x0b a) (Ex.rows u), .d (.int .i64 (left:Int))]=some (.val [.int .i64 (r:Int)])/\r<=left/\(0 < r->(Ex.mk k n s o a u).size+r=left)
 |0,k,n,s,o,a,u,left,h,_=>by simp only[Ex.size]at h;omega
 |m+1,k,n,s,o,a,u,left,h,hleft=>by
  have hz:Ex.j0a u<=m:=by simp only[Ex.size]at h;omega
  have core: ∃p,g66 sy eF k n s o (x0b a) (Ex.rows u) (left:Int)=some p/\ ∃r:Nat,p= .val [.int .i64 (r:Int)]/\r<=left/\(0 < r->(Ex.mk k n s o a u).size+r=left):=by
   unfold g66
   by_cases h0:left=0
   ·subst h0;refine⟨_,rfl,0,rfl,a0q _,fun h=>by omega⟩
   ·have e0:sy.ile (left:Int) 0=false:=decide_eq_false (by omega)
    have w0:sy.wrap .i64 (sy.sub (left:Int) 1)=((left - 1:Nat):Int):=by
     show IntKind.i64.wrap ((left:Int) - 1)=_;rw[x0p (by omega) (by omega)];omega
    rw[e0,w0];refine x2l (fun x:Nat × Nat=>[.int .i64 (x.2:Int), .int .i64 (x.1:Int), .int .i64 k, .int .i64 n, .str s, .int .i64 o, .sl 1 (x0b a), .sl 6 (Ex.rows u)]) (fun x=>x.1<=u.length/\x.2 < left/\(0 < x.2->1+Ex.j0a (u.take x.1)+x.2=left)) (fun x=>u.length - x.1) (fun x hx=> ?_) (0,left - 1) ⟨a0t _,by simp only;omega,fun _=>by simp[Ex.j0a];omega⟩
    obtain⟨i,r⟩:=x;obtain⟨h1,h2,h3⟩:=hx;simp only at h1 h2 h3 ⊢
    by_cases hlt:i < u.length
    ·by_cases hr:0 < r
     ·left
      have hx:=a0a hlt;have htk:u.take (i+1)=u.take i++[u[i]]:=by rw[a1d,hx];rfl
      generalize u[i]=e at hx htk;have hrow:=v9h hx;have hem:=x3u hx;obtain⟨k2,n2,s2,o2,a2,u2⟩:=e;obtain⟨r2,q1,q2,q3⟩:=u7p m k2 n2 s2 o2 a2 u2 r (by omega) (by omega)
      have hi:=z1r u i h1;have h3:=h3 hr;have w1:IntKind.i64.wrap ((i:Int)+1)=((i+1:Nat):Int):=by rw[x0p (by omega) (by omega)];omega
      have l0:=x0l hlt;have i0:=x0k hlt;have z0:decide ((0:Int) < (r:Int))=true:=a0o (by omega)
      refine⟨(i+1,r2),?_,⟨hlt,by simp only;omega,fun hp=> ?_⟩,by simp only;omega⟩
      ·simp only[go1,oE,x0h,l0,i0,z0,hrow,Ex.row,q1,w1]
      ·simp only at hp ⊢;have:=q3 hp;rw[htk,x4n];omega
     ·right
      have hr0:r=0:=by omega
      subst hr0;refine⟨_,?_,0,rfl,a0t _,fun h=>by omega⟩
      have l0:=x0l hlt;simp only[go1,oE,x0h,l0,show decide ((0:Int) < ((0:Nat):Int))=false from rfl]
    ·right
     have:i=u.length:=by omega
     subst this;rw[a0r]at h3;refine⟨_,?_,r,rfl,by omega,fun hp=> ?_⟩
     ·simp only[go1,oE,x0h,x0g]
     ·have:=h3 hp;simp only[Ex.size];omega
  obtain⟨p,h1,r,rfl,h2⟩:=core;exact⟨r,cO rfl ((q9m _ _ _ _ _ _ _ _ _).trans h1),h2⟩
def okQ:Ex->Prop
 | .mk _ _ s _ a _=>s.size<=200/\a.length<=20/\ ∀x∈a,x.size<=100
def u8t {l:List Ex}{i:Nat}{k n:Int}{s:BA}{o:Int}{a:List BA}{u:List Ex}(h:l[i]? =some (.mk k n s o a u)):
  sy.cell (sy.skip 2 (sy.row (Ex.rows l) (i:Int))) 0=some (.str s)/\sy.cell (sy.skip 4 (sy.row (Ex.rows l) (i:Int))) 0=some (.sl 1 (x0b a)):=by
 rw[v9h h];exact⟨rfl,rfl⟩
def k1j (k n:Int)(s:BA)(o:Int)(a:List BA)(u:List Ex)(h:(Ex.mk k n s o a u).size<=1000):
  ∃b,cF 67 [kE k n s o (x0b a) (Ex.rows u)]=some (.val [.bool b])/\(b=true-> ∀x∈(Ex.mk k n s o a u).parts,okQ x):=by
 have hp:=z0z 1000 k n s o a u h (by omega)
 have hpl:=y3a (Ex.mk k n s o a u);generalize (Ex.mk k n s o a u).parts=P at hp hpl ⊢;have core: ∃p,g67 sy eF k n s o (x0b a) (Ex.rows u)=some p/\ ∃b,p= .val [.bool b]/\(b=true-> ∀x∈P,okQ x):=by
  simp only[g67,go1,hp];refine x2l (fun i:Nat=>[.sl 6 (Ex.rows P), .int .i64 (i:Int)]) (fun i=>i<=P.length/\ ∀x∈P.take i,okQ x) (fun i=>P.length - i) (fun i hi=> ?_) 0 ⟨a0t _,by simp⟩
  obtain⟨h1,h2⟩:=hi
  by_cases hlt:i < P.length
  ·have hx:=a0a hlt;have htk:P.take (i+1)=P.take i++[P[i]]:=by rw[a1d,hx];rfl
   generalize P[i]=e at hx htk;obtain⟨k2,n2,s2,o2,a2,u2⟩:=e;obtain⟨f1,f2⟩:=u8t hx;have l0:=x0l hlt;have i0:=x0k hlt;have w1:IntKind.i64.wrap ((i:Int)+1)=((i+1:Nat):Int):=by rw[x0p (by omega) (by omega)];omega
   by_cases g1:200 < s2.size
   ·right
    refine⟨_,?_,false,rfl,fun h=>by cases h⟩
    simp only[go1,x0h,l0,i0,f1,a0o (show(200:Int) < (s2.size:Int) by omega)]
   ·by_cases g2:20 < a2.length
    ·right
     refine⟨_,?_,false,rfl,fun h=>by cases h⟩
     simp only[go1,x0h,x0c,l0,i0,f1,f2,decide_eq_false (show ¬(200:Int) < (s2.size:Int) by omega),a0o (show(20:Int) < (a2.length:Int) by omega)]
    ·simp only[go1,x0h,x0c,l0,i0,f1,f2,decide_eq_false (show ¬(200:Int) < (s2.size:Int) by omega),decide_eq_false (show ¬(20:Int) < (a2.length:Int) by omega)]
     have inner: ∃p,x6d (fun ds11=>
         (opL (sy.cell ds11 0) 6).bind fun l12=>
         (opI (sy.cell ds11 1) .i64).bind fun n13=>
         (opI (sy.cell ds11 2) .i64).bind fun n14=>
         bif (sy.inr n13 (sy.rlen l12))then
          (opL (sy.cell (sy.skip 4 (sy.row l12 n13)) 0) 1).bind fun l15=>
          bif (sy.ilt n14 (sy.rlen l15))then
           bif (sy.inr n13 (sy.rlen l12))then
            (opL (sy.cell (sy.skip 4 (sy.row l12 n13)) 0) 1).bind fun l16=>
            bif (sy.inr n14 (sy.rlen l16))then
             (opS (sy.cell (sy.row l16 n14) 0)).bind fun s17=>
             bif (sy.ilt 100 (sy.slen s17))then
              some (.inr ((.inr (PRes.val [(.bool false)])):List D ⊕ PRes))
             else
              some (.inl [(.sl 6 l12),(.int .i64 n13),(.int .i64 (sy.wrap .i64 (sy.add n14 1)))])
            else
             none
           else
            none
          else
           some (.inr (.inl [(.sl 6 l12),(.int .i64 (sy.wrap .i64 (sy.add n13 1)))]))
         else
          none
       ) [(.sl 6 (Ex.rows P)),(.int .i64 (i:Int)),(.int .i64 0)]=some p/\(p= .inr (.val [.bool false])\/p= .inl [.sl 6 (Ex.rows P), .int .i64 ((i+1:Nat):Int)]/\ ∀x∈a2,x.size<=100):=by
      refine x2l (fun j:Nat=>[.sl 6 (Ex.rows P), .int .i64 (i:Int), .int .i64 (j:Int)]) (fun j=>j<=a2.length/\ ∀x∈a2.take j,x.size<=100) (fun j=>a2.length - j) (fun j hj=> ?_) 0 ⟨a0t _,by simp⟩
      obtain⟨j1,j2⟩:=hj
      by_cases hj:j < a2.length
      ·have hy:=a0a hj;have hyk:a2.take (j+1)=a2.take j++[a2[j]]:=by rw[a1d,hy];rfl
       generalize a2[j]=y at hy hyk;have hc:=x1j hy;have l1:=x0l hj;have i1:=x0k hj;have w2:IntKind.i64.wrap ((j:Int)+1)=((j+1:Nat):Int):=by rw[x0p (by omega) (by omega)];omega
       by_cases g3:100 < y.size
       ·right
        refine⟨_,?_, .inl rfl⟩;simp only[go1,x0h,x0c,i0,f2,l1,i1,hc,a0o (show(100:Int) < (y.size:Int) by omega)]
       ·left
        refine⟨j+1,?_,⟨hj,fun x hx=> ?_⟩,by omega⟩
        ·simp only[go1,x0h,x0c,i0,f2,l1,i1,hc,decide_eq_false (show ¬(100:Int) < (y.size:Int) by omega),w2]
        ·rw[hyk]at hx;rcases a1k.1 hx with hx|hx
         ·exact j2 x hx
         ·rw[a1h.1 hx];omega
      ·right
       have:j=a2.length:=by omega
       subst this;rw[a0r]at j2;refine⟨_,?_, .inr ⟨rfl,j2⟩⟩;simp only[go1,x0h,x0c,i0,f2,x0g,w1]
     obtain⟨p,hp1,hp2⟩:=inner;simp only[go1]at hp1;rcases hp2 with rfl|⟨rfl,hq⟩
     ·right
      exact⟨_,hp1,false,rfl,fun h=>by cases h⟩
     ·left
      refine⟨i+1,hp1,⟨hlt,fun x hx=> ?_⟩,by omega⟩
      rw[htk]at hx;rcases a1k.1 hx with hx|hx
      ·exact h2 x hx
      ·rw[a1h.1 hx];exact⟨by omega,by omega,hq⟩
  ·right
   have:i=P.length:=by omega
   subst this;rw[a0r]at h2;refine⟨_,?_,true,rfl,fun _=>h2⟩
   simp only[go1,x0h,x0g]
 obtain⟨p,h1,b,rfl,h2⟩:=core;exact⟨b,cO rfl ((q9l _ _ _ _ _ _ _ _).trans h1),h2⟩
mutual
def v6e: ∀e:Ex,(∀x∈e.parts,okQ x)->e.j1f
 | .mk k n s o a u,h=>by
   have h0:okQ (.mk k n s o a u):=h _ (by simp[Ex.parts])
   refine⟨⟨by have:=h0.1;omega,fun x hx=>by have:=h0.2.2 x hx;omega,by have:=h0.2.1;omega⟩,u6v u fun x hx=>h x (by simp[Ex.parts,hx])⟩
def u6v: ∀u:List Ex,(∀x∈Ex.j0f u,okQ x)->Ex.j1o u
 | [],_=>trivial
 |e::u,h=>⟨v6e e fun x hx=>h x (by simp[Ex.j0f,hx]),u6v u fun x hx=>h x (by simp[Ex.j0f,hx])⟩
end
def w2u (k n:Int)(s:BA)(o:Int)(a:List BA)(u:List Ex): ∃b,cF 27 [kE k n s o (x0b a) (Ex.rows u)]=some (.val [.bool b])/\(b=true->(Ex.mk k n s o a u).size<=200/\(Ex.mk k n s o a u).j1f):=by
 obtain⟨r,h1,h2,h3⟩:=u7p _ k n s o a u 200 (a0q _) (a0q _);have h1:cF 66 [kE k n s o (x0b a) (Ex.rows u), .d (.int .i64 200)]=_:=h1
 by_cases hr:0 < r
 ·have h3:=h3 hr;obtain⟨b,h4,h5⟩:=k1j k n s o a u (by omega)
  refine⟨b,?_,fun hb=>⟨by omega,v6e _ (h5 hb)⟩⟩
  refine cO rfl ?_;rw[w5e];simp only[g27,go1,h1,h4,a0o (show(0:Int) < (r:Int) by omega)]
 ·refine⟨false,?_,fun h=>by cases h⟩
  refine cO rfl ?_;rw[w5e];simp only[g27,go1,h1,decide_eq_false (show ¬(0:Int) < (r:Int) by omega)]
def w1h {X:Option (List D ⊕ PRes)}{P E:Prop}{R:PRes->Prop}{L:List D}(key: ∃r,X=some r/\((r= .inl L/\E)\/ ∃q,r= .inr q/\R q))(k:X=some (.inl L)->E->P):P\/ ∃q,X=some (.inr q)/\R q:=by
 obtain⟨r,h,h2⟩:=key;rcases h2 with⟨rfl,e⟩|⟨q,rfl,h3⟩
 ·exact .inl (k h e)
 ·exact .inr ⟨q,h,h3⟩
def EB (x:En):Prop:=x.1.size<=100/\x.2.length<=12/\ ∀c∈x.2,c.size<=100
def v7x (l:List En): ∃p,cF 25 [.d (.sl 2 (x0j l))]=some p/\ ∃b,p= .val [.bool b]/\(b=true->l.length<=8/\ ∀x∈l,EB x):=by
 refine k6v (by kernel_rfl) rfl ?_
 rw[k0c];unfold g25
 by_cases h8:8 < (l.length:Int)
 ·refine⟨_,?_,false,rfl,fun h=>by cases h⟩
  rw[show sy.ilt 8 (sy.rlen (x0j l))=true from x2p (by rw[y4g,x0t];exact h8)];rfl
 ·rw[show sy.ilt 8 (sy.rlen (x0j l))=false from x1p (by rw[y4g,x0t];exact h8),cond_false,u0b]
  refine x2l (fun i:Nat=>[.sl 2 (x0j l), .int .i64 (i:Int)]) (fun i=>i<=l.length/\ ∀j (h:j < l.length),j < i->EB l[j]) (fun i=>l.length - i) (fun i hi=> ?_) 0 ⟨a0t _,by omega⟩
  obtain⟨hi,hE⟩:=hi
  by_cases hlt:i < l.length
  ·have hx:=a0a hlt
   by_cases h12:l[i].2.length<=12
   ·by_cases h100:l[i].1.size<=100
    ·simp only[go1,x0t,x0c,x0l hlt,x0k hlt,x7f hx,z7j,x1p (p:=12 < (l[i].2.length:Int)) (by omega),x1p (p:=100 < (l[i].1.size:Int)) (by omega)]
     refine w1h (L:=[D.sl 2 (x0j l),D.int IntKind.i64 ((i:Int)+1)]) (E:= ∀c∈l[i].2,c.size<=100) ?_ (fun hr he=>⟨i+1,hr,⟨hlt,fun j hj hji=> ?_⟩,by omega⟩)
     ·refine x2l (fun j:Nat=>[.sl 2 (x0j l), .int .i64 (i:Int), .int .i64 (j:Int)]) (fun j=>j<=l[i].2.length/\ ∀k (h:k < l[i].2.length),k < j->l[i].2[k].size<=100) (fun j=>l[i].2.length - j) (fun j hj=> ?_) 0 ⟨a0t _,by omega⟩
      obtain⟨hj,hC⟩:=hj
      by_cases hjl:j < l[i].2.length
      ·have hy:=a0a hjl
       by_cases hc:l[i].2[j].size<=100
       ·left
        refine⟨j+1,?_,⟨hjl,fun k hk hkj=> ?_⟩,by omega⟩
        ·simp only[go1,x0t,x0c,x0k hlt,x0l hjl,x0k hjl,x7f hx,z7j,x1j hy,x1p (p:=100 < (l[i].2[j].size:Int)) (by omega),x0e hjl (by omega)]
         rfl
        ·by_cases e:k=j
         ·subst e;exact hc
         ·exact hC k hk (by omega)
       ·right
        refine⟨.inr (.val [.bool false]),?_, .inr ⟨_,rfl,false,rfl,fun h=>by cases h⟩⟩
        simp only[go1,x0t,x0c,x0k hlt,x0l hjl,x0k hjl,x7f hx,z7j,x1j hy,x2p (p:=100 < (l[i].2[j].size:Int)) (by omega)]
      ·have:j=l[i].2.length:=by omega
       subst this
       right
       refine⟨_,?_, .inl ⟨rfl,fun c hc=> ?_⟩⟩
       ·simp only[go1,x0t,x0c,x0k hlt,x0g,x7f hx,z7j,x0e hlt (by omega)]
       ·obtain⟨k,hk,rfl⟩:=List.getElem_of_mem hc;exact hC k hk hk
     ·by_cases e:j=i
      ·subst e;exact⟨h100,h12,he⟩
      ·exact hE j hj (by omega)
    ·right
     refine⟨.val [.bool false],?_,false,rfl,fun h=>by cases h⟩
     simp only[go1,x0t,x0l hlt,x0k hlt,x7f hx,z7j,x2p (p:=100 < (l[i].1.size:Int)) (by omega)]
   ·right
    refine⟨.val [.bool false],?_,false,rfl,fun h=>by cases h⟩
    simp only[go1,x0t,x0c,x0l hlt,x0k hlt,x7f hx,z7j,x2p (p:=12 < (l[i].2.length:Int)) (by omega)]
  ·right
   have:i=l.length:=by omega
   subst this;refine⟨.val [.bool true],?_,true,rfl,fun _=>⟨by omega,fun x hx=> ?_⟩⟩
   ·simp only[go1,x0t,x0g]
   ·obtain⟨k,hk,rfl⟩:=List.getElem_of_mem hx;exact hE k hk hk
def k1a {l:List Dc}{i:Nat}{x:Dc}(h:l[i]? =some x):sy.cell (sy.row (x0m l) (i:Int)) 0=some (.str x.n)/\sy.cell (sy.skip 4 (sy.row (x0m l) (i:Int))) 0=some (.str x.o)/\sy.cell (sy.skip 5 (sy.row (x0m l) (i:Int))) 0=some (.str x.q):=by
 rw[x9s h];exact⟨rfl,rfl,rfl⟩
def q3g (l:List Dc)(hl:l.length<=9223372036854775807): ∃b,cF 26 [.d (.sl 6 (x0m l))]=some (.val [.bool b])/\(b=true->l.length<=20/\ ∀x∈l,DcOK x):=by
 have core: ∃p,g26 sy eF (x0m l)=some p/\ ∃b,p= .val [.bool b]/\(b=true->l.length<=20/\ ∀x∈l,DcOK x):=by
  unfold g26;refine x2l (fun i:Nat=>[.sl 6 (x0m l), .int .i64 (i:Int)]) (fun i=>i<=l.length/\ ∀x∈l.take i,DcOK x) (fun i=>l.length - i) (fun i hi=> ?_) 0 ⟨a0t _,by simp⟩
  obtain⟨h1,h2⟩:=hi
  by_cases hlt:i < l.length
  ·have hx:=a0a hlt;have htk:l.take (i+1)=l.take i++[l[i]]:=x6v hx;generalize l[i]=d at hx htk;obtain⟨f1,f2,f3⟩:=k1a hx;have l0:=x0l hlt;have i0:=x0k hlt;have w1:IntKind.i64.wrap ((i:Int)+1)=((i+1:Nat):Int):=by rw[x0p (by omega) (by omega)];omega
   simp only[go1,x0q,l0,i0,f1,f2,f3,w1]
   by_cases g1:100 < d.n.size
   ·right
    refine⟨_,?_,false,rfl,fun h=>by cases h⟩
    simp only[a0o (show(100:Int) < (d.n.size:Int) by omega),go1]
   ·by_cases g2:100 < d.o.size
    ·right
     refine⟨_,?_,false,rfl,fun h=>by cases h⟩
     simp only[decide_eq_false (show ¬(100:Int) < (d.n.size:Int) by omega),a0o (show(100:Int) < (d.o.size:Int) by omega),go1]
    ·by_cases g3:100 < d.q.size
     ·right
      refine⟨_,?_,false,rfl,fun h=>by cases h⟩
      simp only[decide_eq_false (show ¬(100:Int) < (d.n.size:Int) by omega),decide_eq_false (show ¬(100:Int) < (d.o.size:Int) by omega),a0o (show(100:Int) < (d.q.size:Int) by omega),go1]
     ·left
      refine⟨i+1,?_,⟨hlt,fun x hx=> ?_⟩,by omega⟩
      ·simp only[decide_eq_false (show ¬(100:Int) < (d.n.size:Int) by omega),decide_eq_false (show ¬(100:Int) < (d.o.size:Int) by omega),decide_eq_false (show ¬(100:Int) < (d.q.size:Int) by omega),go1]
      ·rw[htk]at hx;rcases a1k.1 hx with hx|hx
       ·exact h2 x hx
       ·rw[a1h.1 hx];exact⟨by omega,by omega,by omega⟩
  ·right
   have:i=l.length:=by omega
   subst this;rw[a0r]at h2;refine⟨_,?_,decide ((l.length:Int)<=20),rfl,fun h=>⟨by have:=a0f h;omega,h2⟩⟩
   simp only[go1,x0q,x0g]
 obtain⟨p,h1,b,rfl,h2⟩:=core;exact⟨b,cO rfl ((k0b _ _ _).trans h1),h2⟩
def z8x {B:Type}{X:Option (List D ⊕ B)}{P E:Prop}{R:B->Prop}{L:List D}(key: ∃r,X=some r/\((r= .inl L/\E)\/ ∃q,r= .inr q/\R q))(k:X=some (.inl L)->E->P):P\/ ∃q,X=some (.inr q)/\R q:=by
 obtain⟨r,h,h2⟩:=key;rcases h2 with⟨rfl,e⟩|⟨q,rfl,h3⟩
 ·exact .inl (k h e)
 ·exact .inr ⟨q,h,h3⟩
structure ES (x:Eqn):Prop where
 ns:x.ns.length<=20
 sz:x.e.size<=200
 fn:x.e.j1f
 st: ∀s∈x.ns,s.size<=100
structure NS (n:Nd):Prop where
 i:n.ins.length<=20/\ ∀x∈n.ins,DcOK x
 o:n.outs.length<=20/\ ∀x∈n.outs,DcOK x
 v:n.vars.length<=20/\ ∀x∈n.vars,DcOK x
 q:n.eqs.length<=30
 e: ∀x∈n.eqs,ES x
 m:n.n.size<=100
structure LB (n:Nd):Prop where
 i:n.ins.length<=9223372036854775807
 o:n.outs.length<=9223372036854775807
 v:n.vars.length<=9223372036854775807
def z5d {α:Type}{p:α->Prop}{l:List α}{x:α}(h: ∀y∈l,p y)(hx:p x): ∀y∈l++[x],p y:=fun y hy=>by
 rcases a1k.1 hy with hy|hy
 ·exact h y hy
 ·rw[a1h.1 hy];exact hx
def v7v (ens:List En)(nds:List Nd)(hl: ∀n∈nds,LB n): ∃b,cF 11 [.agg [.d (.sl 2 (x0j ens)), .d (.sl 5 (x1x nds))]]=some (.val [.bool b])/\(b=true->(ens.length<=8/\ ∀x∈ens,EB x)/\nds.length<=10/\ ∀n∈nds,NS n):=by
 obtain⟨_,hS,bS,rfl,hS2⟩:=v7x ens;have core: ∃p,g11 sy eF (x0j ens) (x1x nds)=some p/\ ∃b,p= .val [.bool b]/\(b=true->(ens.length<=8/\ ∀x∈ens,EB x)/\nds.length<=10/\ ∀n∈nds,NS n):=by
  unfold g11;cases bS with
  |false=>exact⟨_,by simp only[go1,hS],false,rfl,fun h=>by cases h⟩
  |true=>
   by_cases h10:10 < nds.length
   ·exact⟨_,by simp only[go1,hS,x1l,a0o (show(10:Int) < (nds.length:Int) by omega)],false,rfl,fun h=>by cases h⟩
   ·simp only[go1,hS,x1l,decide_eq_false (show ¬(10:Int) < (nds.length:Int) by omega)]
    refine x2l (fun i:Nat=>[.int .i64 (i:Int), .sl 2 (x0j ens), .sl 5 (x1x nds)]) (fun i=>i<=nds.length/\ ∀n∈nds.take i,NS n) (fun i=>nds.length - i) (fun i hi=> ?_) 0 ⟨a0t _,by simp⟩
    obtain⟨h1,h2⟩:=hi
    by_cases hlt:i < nds.length
    ·have hx:=a0a hlt;have htk:nds.take (i+1)=nds.take i++[nds[i]]:=x6v hx;obtain⟨l1,l2,l3⟩:=hl _ (a1i hlt);have hr:=x9m hx;generalize nds[i]=n at hx htk l1 l2 l3 hr;obtain⟨nm,ins,outs,vars,eqs⟩:=n;obtain⟨b1,p1,p2⟩:=q3g ins l1;obtain⟨b2,q1,q2⟩:=q3g outs l2;obtain⟨b3,r1,r2⟩:=q3g vars l3;have l0:=x0l hlt;have i0:=x0k hlt;have w1:IntKind.i64.wrap ((i:Int)+1)=((i+1:Nat):Int):=by rw[x0p (by omega) (by omega)];omega
     simp only[go1,x1l,l0,i0,hr,y7d,p1,q1,r1,x2c];have hbad: ∀ {b:Bool},b=false->(∃q:PRes,some (Sum.inr q:List D ⊕ PRes)=some (.inr (.val [.bool false]))/\True)\/True:=fun _=> .inr trivial
     by_cases hg:b1=true/\b2=true/\b3=true/\eqs.length<=30/\nm.size<=100
     ·obtain⟨g1,g2,g3,g4,g5⟩:=hg;subst g1 g2 g3;simp only[go1,decide_eq_false (show ¬(30:Int) < (eqs.length:Int) by omega),decide_eq_false (show ¬(100:Int) < (nm.size:Int) by omega)]
      refine z8x (L:=[.int .i64 ((i+1:Nat):Int), .sl 2 (x0j ens), .sl 5 (x1x nds)]) (E:= ∀x∈eqs,ES x) ?_ (fun he hE=>⟨i+1,he,⟨hlt,?_⟩,by omega⟩)
      ·refine x2l (fun j:Nat=>[.int .i64 (i:Int), .int .i64 (j:Int), .sl 2 (x0j ens), .sl 5 (x1x nds), .str nm, .sl 6 (x0m ins), .sl 6 (x0m outs), .sl 6 (x0m vars), .sl 7 (x3e eqs)]) (fun j=>j<=eqs.length/\ ∀x∈eqs.take j,ES x) (fun j=>eqs.length - j) (fun j hj=> ?_) 0 ⟨a0t _,by simp⟩
       obtain⟨j1,j2⟩:=hj
       by_cases hjl:j < eqs.length
       ·have hy:=a0a hjl;have hyk:eqs.take (j+1)=eqs.take j++[eqs[j]]:=x6v hy;have hr2:=y8n hy;generalize eqs[j]=x at hy hyk hr2;obtain⟨ns,k,m,w,o,a,u⟩:=x;obtain⟨b4,s1,s2⟩:=w2u k m w o a u;have l4:=x0l hjl;have i4:=x0k hjl;have w2:IntKind.i64.wrap ((j:Int)+1)=((j+1:Nat):Int):=by rw[x0p (by omega) (by omega)];omega
        by_cases hg2:ns.length<=20/\b4=true
        ·obtain⟨g6,g7⟩:=hg2;subst g7;simp only[go1,x2c,l4,i4,hr2,z7o,Ex.row,oE,s1,x0c,decide_eq_false (show ¬(20:Int) < (ns.length:Int) by omega)]
         refine z8x (L:=[.int .i64 (i:Int), .int .i64 ((j+1:Nat):Int), .sl 2 (x0j ens), .sl 5 (x1x nds), .str nm, .sl 6 (x0m ins), .sl 6 (x0m outs), .sl 6 (x0m vars), .sl 7 (x3e eqs)]) (E:= ∀s∈ns,s.size<=100) ?_ (fun he hE=>⟨j+1,he,⟨hjl,?_⟩,by omega⟩)
         ·refine x2l (fun z:Nat=>[.int .i64 (i:Int), .int .i64 (j:Int), .int .i64 (z:Int), .sl 2 (x0j ens), .sl 5 (x1x nds), .str nm, .sl 6 (x0m ins), .sl 6 (x0m outs), .sl 6 (x0m vars), .sl 7 (x3e eqs), .sl 1 (x0b ns), .int .i64 k, .int .i64 m, .str w, .int .i64 o, .sl 1 (x0b a), .sl 6 (Ex.rows u)]) (fun z=>z<=ns.length/\ ∀s∈ns.take z,s.size<=100) (fun z=>ns.length - z) (fun z hz=> ?_) 0 ⟨a0t _,by simp⟩
          obtain⟨z1,z2⟩:=hz
          by_cases hzl:z < ns.length
          ·have hs:=a0a hzl;have hsk:ns.take (z+1)=ns.take z++[ns[z]]:=x6v hs;generalize ns[z]=y at hs hsk;have hc:=x1j hs;have l5:=x0l hzl;have i5:=x0k hzl;have w3:IntKind.i64.wrap ((z:Int)+1)=((z+1:Nat):Int):=by rw[x0p (by omega) (by omega)];omega
           by_cases g8:100 < y.size
           ·right
            refine⟨_,?_, .inr ⟨_,rfl, .inr ⟨_,rfl,false,rfl,fun h=>by cases h⟩⟩⟩
            simp only[go1,x0c,l5,i5,hc,a0o (show(100:Int) < (y.size:Int) by omega)]
           ·left
            refine⟨z+1,?_,⟨hzl,?_⟩,by omega⟩
            ·simp only[go1,x0c,l5,i5,hc,decide_eq_false (show ¬(100:Int) < (y.size:Int) by omega),w3]
            ·rw[hsk];exact z5d z2 (by omega)
          ·right
           have:z=ns.length:=by omega
           subst this;rw[a0r]at z2;refine⟨_,?_, .inl ⟨rfl,z2⟩⟩;simp only[go1,x0c,x0g,w2]
         ·rw[hyk];exact z5d j2 ⟨g6,(s2 rfl).1,(s2 rfl).2,hE⟩
        ·right
         refine⟨.inr (.val [.bool false]),?_, .inr ⟨_,rfl,false,rfl,fun h=>by cases h⟩⟩
         by_cases g6:20 < ns.length
         ·simp only[go1,x2c,l4,i4,hr2,z7o,Ex.row,oE,s1,x0c,a0o (show(20:Int) < (ns.length:Int) by omega)]
         ·have g7:b4=false:=by
           cases b4 with
           |false=>rfl
           |true=>exact absurd ⟨by omega,rfl⟩ hg2
          subst g7;simp only[go1,x2c,l4,i4,hr2,z7o,Ex.row,oE,s1,decide_eq_false (show ¬(20:Int) < (ns.length:Int) by omega)]
       ·right
        have:j=eqs.length:=by omega
        subst this;rw[a0r]at j2;refine⟨_,?_, .inl ⟨rfl,j2⟩⟩;simp only[go1,x2c,x0g,w1]
      ·rw[htk];exact z5d h2 ⟨p2 rfl,q2 rfl,r2 rfl,g4,hE,g5⟩
     ·right
      refine⟨.val [.bool false],?_,false,rfl,fun h=>by cases h⟩
      by_cases g4:30 < eqs.length
      ·rw[a0o (show(30:Int) < (eqs.length:Int) by omega)]
       cases b1<;>cases b2<;>cases b3<;>simp only[go1,eq_self]
      ·rw[decide_eq_false (show ¬(30:Int) < (eqs.length:Int) by omega)]
       by_cases g5:100 < nm.size
       ·rw[a0o (show(100:Int) < (nm.size:Int) by omega)]
        cases b1<;>cases b2<;>cases b3<;>simp only[go1,eq_self]
       ·cases b1<;>cases b2<;>cases b3<;>first|(exact absurd ⟨rfl,rfl,rfl,by omega,by omega⟩ hg)|simp only[go1,eq_self]
    ·right
     have:i=nds.length:=by omega
     subst this;rw[a0r]at h2;refine⟨_,?_,true,rfl,fun _=>⟨hS2 rfl,by omega,h2⟩⟩
     simp only[go1,x1l,x0g]
 obtain⟨p,h1,b,rfl,h2⟩:=core;exact⟨b,cO rfl ((k0l _ _ _ _).trans h1),h2⟩
section
variable {α : Type} (l : List Tk) (en : LL) (s : St) (r : List D) (e : En) (n : Nd) (str : BA) (x y : LL)
end
def q1x (k:IntKind)(a:Int):eqD (.int k a) (.int k a)=true:=by
 show(a == a)=true;simp
def q1w (a:BA):eqD (.str a) (.str a)=true:=by
 show(_ == _)=true;simp
def u2a (l:List Dc)(h:l.length<=1000000):cF 64 [.d (.sl 6 (x0m l)), .d (.sl 6 (x0m l))]=some (.val [.bool true]):=by
 refine cO rfl ?_;rw[q9o];simp only[g64,go1,x0q];refine x3n l.length (fun i=>[.sl 6 (x0m l), .sl 6 (x0m l), .int .i64 (i:Int)]) rfl (fun i hlt=> ?_) ?_
 ·have hx:=a0a hlt;have hd:y5z [.str l[i].n, .int .i64 l[i].k, .int .i64 l[i].e, .int .i64 l[i].c, .str l[i].o, .str l[i].q] [.str l[i].n, .int .i64 l[i].k, .int .i64 l[i].e, .int .i64 l[i].c, .str l[i].o, .str l[i].q]=true:=by
   simp only[y5z,q1x,q1w,a2a]
  simp only[go1,oD,z3r,x0q,x0l hlt,x0k hlt,x9s hx,hd,x0e hlt (by omega)]
  rfl
 ·simp only[go1,x0q,x0g]
def w7l (l:List En)(h:l.length<=1000000)(hc: ∀e∈l,e.2.length<=1000000):cF 23 [.d (.sl 2 (x0j l)), .d (.sl 2 (x0j l))]=some (.val [.bool true]):=by
 refine cO rfl ?_;rw[k0e];simp only[g23,go1,x0t];refine x3n l.length (fun i=>[.sl 2 (x0j l), .sl 2 (x0j l), .int .i64 (i:Int)]) rfl (fun i hlt=> ?_) ?_
 ·have hx:=a0a hlt;have h1:=z6e l[i].2 (hc _ (a1i hlt));simp only[go1,x0t,x0l hlt,x0k hlt,x7f hx,k2z,x2f,h1,x0e hlt (by omega)]
  rfl
 ·simp only[go1,x0t,x0g]
def sk1E {α:Type}(d:D)(k n o:Int)(q:BA)(a u:LL)(K:Int->Int->BA->Int->LL->LL->Option α):oE sy (sy.skip 1 [d, .int .i64 k, .int .i64 n, .str q, .int .i64 o, .sl 1 a, .sl 6 u]) 0 K=K k n q o a u:=rfl
def q7h (n:Nd)(h:NdOK n):cF 24 [nV n,nV n]=some (.val [.bool true]):=by
 have hal:=h.al;have hdl:n.ins.length<=1000000/\n.outs.length<=1000000/\n.vars.length<=1000000:=by
  unfold y2e at hal;simp only[a0j]at hal;omega
 have h1:=u2a n.ins hdl.1;have h2:=u2a n.outs hdl.2.1;have h3:=u2a n.vars hdl.2.2;have heq:=h.eq;have heo:=h.eo;obtain⟨nm,ins,outs,vars,eqs⟩:=n;simp only at h1 h2 h3 heq heo;refine cO rfl ?_;rw[k0d];simp only[g24,go1,x2f,h1,h2,h3,x2c];refine x3n eqs.length (fun i=>[.int .i64 (i:Int), .str nm, .sl 6 (x0m ins), .sl 6 (x0m outs), .sl 6 (x0m vars), .sl 7 (x3e eqs), .str nm, .sl 6 (x0m ins), .sl 6 (x0m outs), .sl 6 (x0m vars), .sl 7 (x3e eqs)]) rfl (fun i hlt=> ?_) ?_
 ·have hx:=a0a hlt;have hok:=heo _ (a1i hlt);have hr:=y8n hx;generalize eqs[i]=x at hok hr;obtain⟨ns,e⟩:=x;obtain⟨k,m,y,o,a,u⟩:=e;have c1:=z6e ns hok.ns;have c2:=u7o (Ex.mk k m y o a u).size k m y o a u (a0q _) hok.sz hok.fn;have hr':sy.row (x3e eqs) (i:Int)= [.sl 1 (x0b ns), .int .i64 k, .int .i64 m, .str y, .int .i64 o, .sl 1 (x0b a), .sl 6 (Ex.rows u)]:=hr;simp only[go1,x2c,x0l hlt,x0k hlt,hr',sk1E,c1,c2,x0e hlt (by omega)]
  rfl
 ·simp only[go1,x2c,x0g]
def q7g (ens:List En)(nds:List Nd)(hE:ens.length<=1000000)(hN:nds.length<=1000000)(hc: ∀e∈ens,e.2.length<=1000000)(h: ∀n∈nds,NdOK n):cF 9 [.agg [.d (.sl 2 (x0j ens)), .d (.sl 5 (x1x nds))], .agg [.d (.sl 2 (x0j ens)), .d (.sl 5 (x1x nds))]]=some (.val [.bool true]):=by
 have h1:=w7l ens hE hc;refine cO rfl ?_;rw[k5j];simp only[g9,go1,h1,x1l];refine x3n nds.length (fun i=>[.int .i64 (i:Int), .sl 2 (x0j ens), .sl 5 (x1x nds), .sl 2 (x0j ens), .sl 5 (x1x nds)]) rfl (fun i hlt=> ?_) ?_
 ·have hx:=a0a hlt;have c1:=q7h nds[i] (h _ (a1i hlt));simp only[go1,y7d,x1l,x0l hlt,x0k hlt,x9m hx,c1,x0e hlt (by omega)]
  rfl
 ·simp only[go1,x1l,x0g]
def k5a (s:BA):Nat->Nat->Option (List Tk × Nat × Bool)
 |0,_=>none
 |n+1,a=>match decide (a+x7r ((tb s).drop a) < (tb s).length)with
  |true=>match (x1e (s.extract (a+x7r ((tb s).drop a)) (tb s).length)).ok&&decide (1<=(x1e (s.extract (a+x7r ((tb s).drop a)) (tb s).length)).w)with
   |true=>match k5a s n (a+x7r ((tb s).drop a)+(x1e (s.extract (a+x7r ((tb s).drop a)) (tb s).length)).w)with
    |some r=>some (⟨(x1e (s.extract (a+x7r ((tb s).drop a)) (tb s).length)).k,(x1e (s.extract (a+x7r ((tb s).drop a)) (tb s).length)).s,(x1e (s.extract (a+x7r ((tb s).drop a)) (tb s).length)).n,a+x7r ((tb s).drop a)⟩::r.1,r.2)
    |none=>none
   |false=>some ([],a+x7r ((tb s).drop a),false)
  |false=>some ([],a+x7r ((tb s).drop a),true)
def v4o (s:BA): ∀(n a:Nat) {r:List Tk × Nat × Bool},k5a s n a=some r->y5u s a=r
 |0,a,r,h=>by cases h
 |n+1,a,r,h=>by
  rw[y5u];unfold k5a at h;split at h
  ·rename_i hp;rw[dif_pos (a0f hp)];split at h
   ·rename_i ht;rw[a0g]at ht;rw[dif_pos ⟨ht.1,a0f ht.2⟩];split at h
    ·rename_i q hq;rw[v4o s n _ hq];cases h;rfl
    ·cases h
   ·rename_i ht;rw[dif_neg (fun e=>by rw[e.1,x2p e.2]at ht;cases ht)]
    cases h;rfl
  ·rename_i hp;rw[dif_neg (of_decide_eq_false hp)];cases h;rfl
def lvS:BA:=bs [110,111,100,101,32,102,40,97,58,32,105,110,116,41,32,114,101,116,117,114,110,115,32,40,98,58,32,105,110,116,41,32,108,101,116,32,98,32,61,32,97,59,32,116,101,108]
def lvT:List Tk:=[⟨1,bs [110,111,100,101],0,0⟩,⟨1,bs [102],0,5⟩,⟨5,bs [40],0,6⟩,⟨1,bs [97],0,7⟩,⟨5,bs [58],0,8⟩,⟨1,bs [105,110,116],0,10⟩,⟨5,bs [41],0,13⟩,⟨1,bs [114,101,116,117,114,110,115],0,15⟩,⟨5,bs [40],0,23⟩,⟨1,bs [98],0,24⟩,⟨5,bs [58],0,25⟩,⟨1,bs [105,110,116],0,27⟩,⟨5,bs [41],0,30⟩,⟨1,bs [108,101,116],0,32⟩,⟨1,bs [98],0,36⟩,⟨5,bs [61],0,38⟩,⟨1,bs [97],0,40⟩,⟨5,bs [59],0,41⟩,⟨1,bs [116,101,108],0,43⟩]
def lv1:y5u lvS 0=(lvT,46,true):=v4o _ 60 _ (by kernel_rfl)
def lvN:Nd:=⟨bs [102],[⟨bs [97],1,0,0,bs [],bs []⟩],[⟨bs [98],1,0,0,bs [],bs []⟩],[],[⟨[bs [98]], .mk 3 0 (bs [97]) 0 [] []⟩]⟩
def lv3:y6k (lvT++[⟨6,bs [],0,46⟩]) 0= .ok ([],[lvN]) 19:=by kernel_rfl
def lv4:y6r [] [lvN]=0:=by kernel_rfl
def lv5:z7s lvS=(([],[lvN]),46,0):=by
 have e:x9d lvS=lvT++[⟨6,bs [],0,46⟩]:=by
  unfold x9d;rw[lv1];rfl
 have e2:(tb lvS).length=46:=by kernel_rfl
 unfold z7s;rw[lv1,e,e2,lv3];simp only[lv4];rfl
def lvc:y6r [] [lvN]=0:=by kernel_rfl
def lvt:k2x [] [lvN]=tb (bs [110,111,100,101,32,102,40,97,58,32,105,110,116,41,32,114,101,116,117,114,110,115,32,40,98,58,32,105,110,116,41,10,108,101,116,10,32,32,98,32,61,32,97,59,10,116,101,108,10]):=by kernel_rfl
def lvE:EqOK ⟨[bs [98]], .mk 3 0 (bs [97]) 0 [] []⟩:=⟨by decide,by simp[Ex.size,Ex.j0a],⟨⟨by rw[x1c];decide,by simp,by simp⟩,trivial⟩,fun s hs=>by rw[a1h.1 hs,x1c];decide⟩
def lvK:NdF [] lvN:=by
 have hk:=y1m ((z0w lvc).2 lvN (a1h.2 rfl));have hd: ∀x:Nat,x<=2->True:=fun _ _=>trivial
 refine⟨hk,⟨by decide,by decide,fun x hx=> ?_,fun d hd=> ?_,by show(bs [102]).size<=100000;rw[x1c];decide⟩,by decide,by decide,by decide,by decide,fun x hx=> ?_⟩
 ·rw[a1h.1 (show x∈[_]from hx)];exact lvE
 ·have hd:d∈[⟨bs [97],1,0,0,bs [],bs []⟩,⟨bs [98],1,0,0,bs [],bs []⟩]:=hd;simp only[a1n,List.mem_nil_iff,or_false]at hd;rcases hd with rfl|rfl<;>exact⟨by rw[x1c];decide,by rw[x1c];decide,by rw[x1c];decide⟩
 ·have:=a1h.1 (show x∈[_]from hx);subst this;exact⟨hk.eqs _ hx,lvE,⟨by decide,trivial⟩,by decide⟩
def lv2:cF 13 [.agg [.d (.sl 2 []), .d (.sl 5 (x1x [lvN]))]]=some (.val [.str (bs [110,111,100,101,32,102,40,97,58,32,105,110,116,41,32,114,101,116,117,114,110,115,32,40,98,58,32,105,110,116,41,10,108,101,116,10,32,32,98,32,61,32,97,59,10,116,101,108,10])]):=by
 obtain⟨t,h1,h2,_⟩:=z3x [] [lvN] lvc (by decide) (by decide) (fun _ h=>by cases h) fun n hn=>by rw[a1h.1 hn];exact lvK
 rw[<-x3f (h2.trans lvt)];exact h1
end Go.Vm
end
section
set_option maxRecDepth 1000000
set_option maxHeartbeats 0
namespace Go.Vm
open Go.Proofs
noncomputable section
variable (A : Sy) (E : Env)
def g6 (A:Sy)(E:Env):Option PRes:=(E.call 7 [(.d (.str (bs [110,111,100,101,32,102,40,97,58,32,105,110,116,41,32,114,101,116,117,114,110,115,32,40,98,58,32,105,110,116,41,32,108,101,116,32,98,32,61,32,97,59,32,116,101,108])))]).bind fun p1=>(opL (A.cell p1.leaves 0) 2).bind fun l3=>(opL (A.cell p1.leaves 1) 5).bind fun l4=>(opI (A.cell p1.leaves 2) .i64).bind fun n5=>(opI (A.cell p1.leaves 3) .i64).bind fun n6=>(E.call 10 [(.d (.int .i64 n6))]).bind fun p7=>(opI (A.cell p7.leaves 0) .i64).bind fun n9=>x0u (bif (A.ieq n9 0)then some (.inl [(.bool (A.ieq n5 46))]) else some (.inl [(.bool false)])) fun ds10=>(opB (A.cell ds10 0)).bind fun b11=>x0u (bif b11 then (E.call 13 [(.agg [(.d (.sl 2 l3)),(.d (.sl 5 l4))])]).bind fun p12=>(opS (A.cell p12.leaves 0)).bind fun s14=>some (.inl [(.bool (A.seq s14 (bs [110,111,100,101,32,102,40,97,58,32,105,110,116,41,32,114,101,116,117,114,110,115,32,40,98,58,32,105,110,116,41,10,108,101,116,10,32,32,98,32,61,32,97,59,10,116,101,108,10])))]) else some (.inl [(.bool false)])) fun ds15=>(opB (A.cell ds15 0)).bind fun b16=>some (.val [(.bool b16)])
def k5l:fT A E 6 []=g6 A E:=by kernel_rfl
end
end Go.Vm
end
section
set_option maxRecDepth 100000
set_option maxHeartbeats 4000000
namespace Go.Vm
open Go.Proofs
def w5v (x:Int):cF 10 [.d (.int .i64 x)]=some (.val [.int .i64 x]):=by
 refine cO rfl ?_;rw[k0n];simp only[g10]
def w2y:cF 6 []=some (.val [.bool true]):=by
 have h1:=z3y lvS (by decide)
 rw[lv5]at h1;have h1:cF 7 [.d (.str lvS)]=some (.val [.sl 2 [], .sl 5 (x1x [lvN]), .int .i64 46, .int .i64 0]):=h1;have h2:=w5v 0;have h3:=lv2;refine cO rfl ?_;rw[k5l];unfold g6;rw[z0m,show(bs [110,111,100,101,32,102,40,97,58,32,105,110,116,41,32,114,101,116,117,114,110,115,32,40,98,58,32,105,110,116,41,32,108,101,116,32,98,32,61,32,97,59,32,116,101,108])=lvS from rfl,h1];simp only[go1,h2,h3,x2f]
def u4x (s:BA):(tb s).length=s.size:=x2i s
def NS.ok {n:Nd}(h:NS n):NdOK n:=by
 refine⟨?_,by have:=h.q;omega,fun x hx=>⟨by have:=(h.e x hx).ns;omega,by have:=(h.e x hx).sz;omega,(h.e x hx).fn,fun s hs=>by have:=(h.e x hx).st s hs;omega⟩,fun d hd=> ?_,by have:=h.m;omega⟩
 ·have h1:=h.i.1;have h2:=h.o.1;have h3:=h.v.1;unfold y2e;simp only[a0j];omega
 ·unfold y2e at hd;rcases a1k.1 hd with hd|hd
  ·rcases a1k.1 hd with hd|hd
   ·exact h.i.2 d hd
   ·exact h.o.2 d hd
  ·exact h.v.2 d hd
def EB.ok {x:En}(h:EB x):EnOK x/\x.2.length<=1000000:=⟨⟨by have:=h.1;omega,fun c hc=>by have:=h.2.2 c hc;omega⟩,by have:=h.2.1;omega⟩
def v0u (ens:List En)(nds:List Nd)(hl: ∀n∈nds,LB n)(hr: ∀n∈nds,∀x∈n.eqs,x.e.rng):cF 4 [.agg [.d (.sl 2 (x0j ens)), .d (.sl 5 (x1x nds))]]=some (.val [.bool true]):=by
 have hv:=w2y;obtain⟨b,s1,s2⟩:=v7v ens nds hl;refine cO rfl ?_;rw[k5m];cases b with
 |false=>simp only[g4,go1,s1,hv]
 |true=>
  obtain⟨⟨e1,e2⟩,n1,n2⟩:=s2 rfl;have hck:=v3k ens nds (by omega) (by omega) (fun x hx=>(e2 x hx).ok.1) fun n hn=>(n2 n hn).ok
  by_cases hc:y6r ens nds=0
  ·obtain⟨hc1,hc2⟩:=z0w hc;rw[hc]at hck;obtain⟨t,t1,t2,t3⟩:=z3x ens nds hc (by omega) (by omega) (fun x hx=>(e2 x hx).ok) fun n hn=>⟨y1m (hc2 n hn),(n2 n hn).ok,by have:=(n2 n hn).i.1;omega,by have:=(n2 n hn).o.1;omega,by have:=(n2 n hn).v.1;omega,by have:=(n2 n hn).q;omega,fun x hx=>⟨(y1m (hc2 n hn)).eqs x hx,(n2 n hn).ok.eo x hx,hr n hn x hx,by have:=((n2 n hn).e x hx).ns;omega⟩⟩
   by_cases h6:6000 < (t.size:Int)
   ·simp only[g4,go1,s1,hv,hck,t1,x2p h6]
   ·have hp:=z3y t (by omega)
    have hb:=u9b t ens nds t2 (by rw[u4x];omega) hc hr
    rw[hb]at hp;unfold pgV at hp;have h3:=q7g ens nds (by omega) (by omega) (fun e he=>(e2 e he).ok.2) fun n hn=>(n2 n hn).ok
    have h4:=w5v 0;simp only at hp;rw[u4x]at hp;simp only[g4,go1,s1,hv,hck,t1,x1p h6,hp,h3,h4]
  ·simp only[g4,go1,s1,hv,hck,decide_eq_false hc]
end Go.Vm
end
section
set_option maxRecDepth 100000
namespace Go.Vm
open Go.Proofs Go.RowKit Go.Extern.Stop Go.Stop Go.Extern
def k2i (t:Value)(w:World):Calls Tryz.prog 16 #[.nilIface,t] w fun e w'=>e= .returned (.bool false)/\w'=w:=by
 go_enter Tryz.func16,Tryz.ntmps16
 go_wp2
 go_ret
 exact⟨rfl,rfl⟩
def v1o (t:Addr)(w:World):(ReflectliteValue.unpack (.iface 53 (.pointer (some t)))).run Tryz.prog w= .ok (.agg #[.pointer (some ⟨12,53,none⟩), .pointer (some ⟨w.heap.size,0,none⟩), .int .u64 150]) (w.alloc (.cells #[.pointer (some t)] 53)):=by kernel_rfl
def q6q (a:Addr)(w:World):(ReflectliteValue.methodAny (ReflectliteValue.valueError "reflectlite.Value.Type" 0) (fun t _ _ _=>ReflectliteType.toType t) #[.agg #[.pointer (some ⟨12,53,none⟩), .pointer (some a), .int .u64 150]]).run Tryz.prog w= .ok (.iface 142 (.agg #[.pointer (some ⟨12,53,none⟩)])) w:=by kernel_rfl
def q8l (w:World):((ReflectliteType.abiMethod fun t=>(fun a:Nat=>Value.int IntKind.u8 (a:Int)) <$> Rtype.kind t) #[.pointer (some ⟨12,53,none⟩)]).run Tryz.prog w= .ok (.int .u8 22) w:=by kernel_rfl
def q8m (w:World):((ReflectliteType.abiMethod fun t=>(fun a:Nat=>Value.int IntKind.u8 (a:Int)) <$> Rtype.kind t) #[.pointer (some ⟨12,51,none⟩)]).run Tryz.prog w= .ok (.int .u8 25) w:=by kernel_rfl
def rlm (z:Sem Value)(f:TypeId->Addr->Nat->Nat->Sem Value)(v:Value):ReflectliteValue.method z f #[v]=(do match <-ReflectliteValue.parts v with|none=>z|some (t,a,fl)=>f t a fl (fl % 32)):=rfl
def v3t (a:Addr)(w:World):(ReflectliteValue.parts (.agg #[.pointer (some ⟨12,53,none⟩), .pointer (some a), .int .u64 150])).run Tryz.prog w= .ok (some (53,a,150)) w:=by kernel_rfl
def w8p (a p:Addr)(W:World)(ha:W.cell? a=some (.pointer (some p))):(ReflectliteValue.method (ReflectliteValue.valueError "reflectlite.Value.IsNil" 0) ReflectliteValue.isNil #[.agg #[.pointer (some ⟨12,53,none⟩), .pointer (some a), .int .u64 150]]).run Tryz.prog W= .ok (.bool false) W:=by
 rw[rlm];simp only[Sem.run_bind,v3t,Result.andThen];simp[ReflectliteValue.isNil,loadVar,isAgg,underlying,Tryz.underlying53,ha,Result.andThen]
def k0y (w:World):(ReflectliteType.method ReflectliteType.elem #[.agg #[.pointer (some ⟨12,53,none⟩)]]).run Tryz.prog w= .ok (.iface 142 (.agg #[.pointer (some ⟨12,51,none⟩)])) w:=by kernel_rfl
def z9a (w:World):(ReflectliteType.relation "Implements" ReflectliteType.implements_ #[.agg #[.pointer (some ⟨12,51,none⟩)], .iface 142 (.agg #[.pointer (some ⟨12,45,none⟩)])]).run Tryz.prog w= .ok (.bool true) w:=by kernel_rfl
def v9r (v:Value)(w:World):(ReflectliteType.typeOf #[.iface 51 v]).run Tryz.prog w= .ok (.iface 142 (.agg #[.pointer (some ⟨12,51,none⟩)])) w:=by kernel_rfl
def u1b (w:World):(ReflectliteType.relation "AssignableTo" ReflectliteType.assignableTo #[.agg #[.pointer (some ⟨12,51,none⟩)], .iface 142 (.agg #[.pointer (some ⟨12,51,none⟩)])]).run Tryz.prog w= .ok (.bool true) w:=by kernel_rfl
def v1p (a b:Int)(w:World):(ReflectliteValue.unpack (.iface 51 (.agg #[.int .i64 a, .int .i64 b]))).run Tryz.prog w= .ok (.agg #[.pointer (some ⟨12,51,none⟩), .pointer (some ⟨w.heap.size,0,none⟩), .int .u64 153]) (w.alloc (.cells #[.int .i64 a, .int .i64 b] 51)):=by kernel_rfl
def w1x (w:World):(Rtype.elem? 53).run Tryz.prog w= .ok (some 51) w:=by kernel_rfl
def mk51 (p:Addr)(w:World):(ReflectliteValue.mk 51 p ReflectliteValue.flagAddr).run Tryz.prog w= .ok (.agg #[.pointer (some ⟨12,51,none⟩), .pointer (some p), .int .u64 409]) w:=by kernel_rfl
def q1z (a p:Addr)(W:World)(ha:W.cell? a=some (.pointer (some p))):(ReflectliteValue.method (ReflectliteValue.valueError "reflectlite.Value.Elem" 0) ReflectliteValue.elem #[.agg #[.pointer (some ⟨12,53,none⟩), .pointer (some a), .int .u64 150]]).run Tryz.prog W= .ok (.agg #[.pointer (some ⟨12,51,none⟩), .pointer (some p), .int .u64 409]) W:=by
 rw[rlm];simp only[Sem.run_bind,v3t,Result.andThen];simp[ReflectliteValue.elem,loadVar,isAgg,underlying,Tryz.underlying53,ha,Result.andThen,w1x,mk51]
def rls (v x:Value):ReflectliteValue.set #[v,x]=(do
  let (some (dst,a,fl),some (src,b,_)):=(<-ReflectliteValue.parts v,<-ReflectliteValue.parts x)
   |unsupported (.noEntry "extern/(internal/reflectlite.Value).Set.zeroValue")
  if fl / ReflectliteValue.flagAddr % 2 == 0 then unsupported (.noEntry "extern/(internal/reflectlite.Value).Set.unaddressable")
  let val <-loadVar src b
  if <-Rtype.directlyAssignable dst src then storeVar dst a val
  else if <-Rtype.implements dst src then
   if(<-Rtype.kind src) == 20 then
    match val with
    | .nilIface=>unsupported (.noEntry "extern/reflectlite: a nil value of one interface type handed on as a value of another")
    |_=>storeVar dst a val
   else storeVar dst a (.iface src val)
  else panicString ("reflectlite.Set: value of type " ++(<-Rtype.spelt src)++ " is not assignable to type " ++(<-Rtype.spelt dst))
  pure (.tuple #[])):=rfl
def w0k (a:Addr)(w:World):(ReflectliteValue.parts (.agg #[.pointer (some ⟨12,51,none⟩), .pointer (some a), .int .u64 409])).run Tryz.prog w= .ok (some (51,a,409)) w:=by kernel_rfl
def w7s (a:Addr)(w:World):(ReflectliteValue.parts (.agg #[.pointer (some ⟨12,51,none⟩), .pointer (some a), .int .u64 153])).run Tryz.prog w= .ok (some (51,a,153)) w:=by kernel_rfl
def w1y (w:World):(Rtype.directlyAssignable 51 51).run Tryz.prog w= .ok true w:=by kernel_rfl
def w8r (w:World):(isAgg 51).run Tryz.prog w= .ok true w:=by kernel_rfl
def u4y (w:World):(sizeOf 51).run Tryz.prog w= .ok 2 w:=by kernel_rfl
def q8i (b:Nat)(x y:Int)(W:World)(hb:W.heap[b]? =some (.cells #[.int .i64 x, .int .i64 y] 51 (0,0))):(loadVar 51 ⟨b,0,none⟩).run Tryz.prog W= .ok (.agg #[.int .i64 x, .int .i64 y]) W:=by
 have h:=run_loadCells_list (P:=Tryz.prog) W ⟨b,0,none⟩ [.int .i64 x, .int .i64 y] (fun j v hv=>by
  have hadd:(⟨b,0,none⟩:Addr).add j=⟨b,j,none⟩:=by unfold Addr.add;split<;>simp_all
  rw[hadd];simp only[World.cell?,hb]
  match j,hv with
  |0,hv=>simpa using hv
  |1,hv=>simpa using hv
  |j+2,hv=>simp at hv)
 simp only[loadVar,Sem.run_bind,w8r,Result.andThen,if_true,u4y];have h:(loadCells ⟨b,0,none⟩ 2).run Tryz.prog W= .ok #[.int .i64 x, .int .i64 y] W:=h;rw[h];rfl
def w7d (t:Nat)(x y:Int)(us:Array Value)(W:World)(ht:W.heap[t]? =some (.cells us 51 (0,0)))(hu:us.size=2):(storeVar 51 ⟨t,0,none⟩ (.agg #[.int .i64 x, .int .i64 y])).run Tryz.prog W= .ok () (W.setRow t #[.int .i64 x, .int .i64 y]):=by
 have h:=run_storeCells_at Tryz.prog t 0 51 [.int .i64 x, .int .i64 y] 0 us W ht (by simp[hu]) (by simp[Value.oneCell'])
 have e:(us.toList.take (0+0)++[Value.int .i64 x,Value.int .i64 y]++us.toList.drop (0+0+[Value.int .i64 x,Value.int .i64 y].length)).toArray= #[.int .i64 x, .int .i64 y]:=by
  have:us.toList.drop 2= []:=List.drop_of_length_le (by simp[hu])
  simp[this]
 rw[e]at h;simp only[storeVar,Sem.run_bind,u4y,Result.andThen];exact h
def k4e (t b:Nat)(x y:Int)(us:Array Value)(W:World)(hb:W.heap[b]? =some (.cells #[.int .i64 x, .int .i64 y] 51 (0,0)))(ht:W.heap[t]? =some (.cells us 51 (0,0)))(hu:us.size=2):
  (ReflectliteValue.set #[.agg #[.pointer (some ⟨12,51,none⟩), .pointer (some ⟨t,0,none⟩), .int .u64 409], .agg #[.pointer (some ⟨12,51,none⟩), .pointer (some ⟨b,0,none⟩), .int .u64 153]]).run Tryz.prog W= .ok (.tuple #[]) (W.setRow t #[.int .i64 x, .int .i64 y]):=by
 rw[rls];simp only[Sem.run_bind,w0k,w7s,Result.andThen];simp[ReflectliteValue.flagAddr,q8i b x y W hb,Result.andThen,w1y,w7d t x y us W ht hu]
def u9m (h:Value)(w:World):(Go.method 437 142 (.agg #[h]) "Kind").run Tryz.prog w= .ok (309,h) w:=by kernel_rfl
def u9n (h:Value)(w:World):(Go.method 437 142 (.agg #[h]) "Elem").run Tryz.prog w= .ok (319, .agg #[h]) w:=by kernel_rfl
def y6m (h:Value)(w:World):(Go.method 437 142 (.agg #[h]) "Implements").run Tryz.prog w= .ok (320, .agg #[h]) w:=by kernel_rfl
def y3i (h:Value)(w:World):(Go.method 437 142 (.agg #[h]) "AssignableTo").run Tryz.prog w= .ok (317, .agg #[h]) w:=by kernel_rfl
def u8e {w:World}(o:Obj){k:Nat}(h:k < w.heap.size):(w.alloc o).heap[k]? =w.heap[k]? :=by
 show(w.heap.push o)[k]? =_;rw[a2c,if_neg (by omega)]
def k2l (w:World)(o:Obj):(w.alloc o).heap[w.heap.size]? =some o:=by
 show(w.heap.push o)[w.heap.size]? =_;rw[a2c,if_pos rfl]
def y5i (w:World)(o:Obj):(w.alloc o).heap.size=w.heap.size+1:=by
 show(w.heap.push o).size=_;rw[Array.size_push]
def w4 (w:World)(t:Nat)(x y:Int):World:=((((w.alloc (.cells #[.pointer (some ⟨t,0,none⟩)] 53)).alloc (.cells #[.pointer (some ⟨12,53,none⟩), .pointer (some ⟨w.heap.size,0,none⟩), .int .u64 150] 101)).alloc (.cells #[.pointer (some ⟨12,53,none⟩), .pointer (some ⟨w.heap.size,0,none⟩), .int .u64 150] 101)).alloc (.cells #[.int .i64 x, .int .i64 y] 51))
set_option maxHeartbeats 4000000 in
def k2j (t:Nat)(x y:Int)(us:Array Value)(w:World)(hg:w.cell? ⟨0,0,none⟩=some (.iface 142 (.agg #[.pointer (some ⟨12,45,none⟩)])))(ht:w.heap[t]? =some (.cells us 51 (0,0)))(hu:us.size=2):
  Calls Tryz.prog 16 #[.iface 51 (.agg #[.int .i64 x, .int .i64 y]), .iface 53 (.pointer (some ⟨t,0,none⟩))] w fun ev w'=>ev= .returned (.bool true)/\w'=(w4 w t x y).setRow t #[.int .i64 x, .int .i64 y]:=by
 unfold w4;have h6:=@run_callFunc_extern Tryz.prog 43 _ (fun args=>ReflectliteValue.unpack (args.getD 0 (.tuple #[]))) Tryz.func43 (by kernel_rfl) (by kernel_rfl) (by kernel_rfl) (by kernel_rfl)
 have h7:=@run_callFunc_extern Tryz.prog 44 _ (ReflectliteValue.methodAny (ReflectliteValue.valueError "reflectlite.Value.Type" 0) (fun t _ _ _=>ReflectliteType.toType t)) Tryz.func44 (by kernel_rfl) (by kernel_rfl) (by kernel_rfl) (by kernel_rfl)
 have h8:=@run_callFunc_extern Tryz.prog 45 _ (ReflectliteValue.method (ReflectliteValue.valueError "reflectlite.Value.IsNil" 0) ReflectliteValue.isNil) Tryz.func45 (by kernel_rfl) (by kernel_rfl) (by kernel_rfl) (by kernel_rfl)
 have h27:=@run_callFunc_extern Tryz.prog 309 _ (ReflectliteType.abiMethod fun t=>do pure (.int .u8 (<-Rtype.kind t))) Tryz.func309 (by kernel_rfl) (by kernel_rfl) (by kernel_rfl) (by kernel_rfl)
 have h37:=@run_callFunc_extern Tryz.prog 319 _ (ReflectliteType.method ReflectliteType.elem) Tryz.func319 (by kernel_rfl) (by kernel_rfl) (by kernel_rfl) (by kernel_rfl)
 have h38:=@run_callFunc_extern Tryz.prog 320 _ (ReflectliteType.relation "Implements" ReflectliteType.implements_) Tryz.func320 (by kernel_rfl) (by kernel_rfl) (by kernel_rfl) (by kernel_rfl)
 have h10:=@run_callFunc_extern Tryz.prog 91 _ ReflectliteType.typeOf Tryz.func91 (by kernel_rfl) (by kernel_rfl) (by kernel_rfl) (by kernel_rfl)
 have h35:=@run_callFunc_extern Tryz.prog 317 _ (ReflectliteType.relation "AssignableTo" ReflectliteType.assignableTo) Tryz.func317 (by kernel_rfl) (by kernel_rfl) (by kernel_rfl) (by kernel_rfl)
 have h11:=@run_callFunc_extern Tryz.prog 92 _ (ReflectliteValue.method (ReflectliteValue.valueError "reflectlite.Value.Elem" 0) ReflectliteValue.elem) Tryz.func92 (by kernel_rfl) (by kernel_rfl) (by kernel_rfl) (by kernel_rfl)
 have h12:=@run_callFunc_extern Tryz.prog 93 _ ReflectliteValue.set Tryz.func93 (by kernel_rfl) (by kernel_rfl) (by kernel_rfl) (by kernel_rfl)
 have tO:=v9r;have mA:=y3i;have a25:=u1b;have v25:=v1p;have f6:=v1o;have f7:=q6q;have mK:=u9m;have mE:=u9n;have mI:=y6m;have k27:=q8l;have k25:=q8m;have e27:=k0y;have i25:=z9a;have n8:=w8p ⟨w.heap.size,0,none⟩ ⟨t,0,none⟩ ((w.alloc (.cells #[.pointer (some ⟨t,0,none⟩)] 53)).alloc (.cells #[.pointer (some ⟨12,53,none⟩), .pointer (some ⟨w.heap.size,0,none⟩), .int .u64 150] 101)) (by simp)
 have hlt:0 < w.heap.size:=by
  rcases Nat.eq_zero_or_pos w.heap.size with h0|h
  ·simp[World.cell?,h0]at hg
  ·exact h
 have hg2:((w.alloc (.cells #[.pointer (some ⟨t,0,none⟩)] 53)).alloc (.cells #[.pointer (some ⟨12,53,none⟩), .pointer (some ⟨w.heap.size,0,none⟩), .int .u64 150] 101)).cell? ⟨0,0,none⟩=some (.iface 142 (.agg #[.pointer (some ⟨12,45,none⟩)])):=by
  rw[World.cell?_alloc_lt _ _ ⟨0,0,none⟩ (by simp),World.cell?_alloc_lt _ _ ⟨0,0,none⟩ hlt];exact hg
 have htl:t < w.heap.size:=(a0s.1 ht).1;have el:=q1z ⟨w.heap.size,0,none⟩ ⟨t,0,none⟩ (((w.alloc (.cells #[.pointer (some ⟨t,0,none⟩)] 53)).alloc (.cells #[.pointer (some ⟨12,53,none⟩), .pointer (some ⟨w.heap.size,0,none⟩), .int .u64 150] 101)).alloc (.cells #[.pointer (some ⟨12,53,none⟩), .pointer (some ⟨w.heap.size,0,none⟩), .int .u64 150] 101)) (by rw[World.cell?_alloc_lt _ _ ⟨w.heap.size,0,none⟩ (by simp;omega)];simp)
 have st:=k4e t (w.heap.size+1+1+1) x y us (w4 w t x y)
  (by unfold w4;have h:=k2l (((w.alloc (.cells #[.pointer (some ⟨t,0,none⟩)] 53)).alloc (.cells #[.pointer (some ⟨12,53,none⟩), .pointer (some ⟨w.heap.size,0,none⟩), .int .u64 150] 101)).alloc (.cells #[.pointer (some ⟨12,53,none⟩), .pointer (some ⟨w.heap.size,0,none⟩), .int .u64 150] 101)) (.cells #[.int .i64 x, .int .i64 y] 51);rw[y5i,y5i,y5i]at h;exact h)
  (by unfold w4;rw[u8e _ (by simp only[y5i];omega),u8e _ (by simp only[y5i];omega),u8e _ (by simp only[y5i];omega),u8e _ htl];exact ht) hu
 unfold w4 at st
 go_enter Tryz.func16,Tryz.ntmps16
 go_wp2
 refine wp_loop_rounds 1 ?_;rw[rounds_succ]
 go_wp2
 go_ret
 exact⟨rfl,rfl⟩
end Go.Vm
end
section
set_option maxRecDepth 100000
namespace Go.Vm
open Go.Proofs Go.RowKit Go.Shelf
def q8q:Ren:=⟨fun|4=>174|n=>n,fun|22=>68|25=>127|n=>n,fun n=>n⟩
def q8r:Lays8.n4 Tryz.prog q8q where
 mixed:=by kernel_rfl
 f4:=Exists.intro ("slices.Grow[[]noria/api.Decl,noria/api.Decl]") ⟨by decide+kernel,Tryz.func174.trans (congrArg some (by kernel_rfl))⟩
 t0:=Tryz.underlying0
 a0:=Tryz.isAgg0
 z0:=Tryz.sizeOf0
 v0:=Tryz.zeroValue0
 t3:=Tryz.underlying3
 a3:=Tryz.isAgg3
 z3:=Tryz.sizeOf3
 v3:=Tryz.zeroValue3
 t4:=Tryz.underlying4
 a4:=Tryz.isAgg4
 z4:=Tryz.sizeOf4
 v4:=Tryz.zeroValue4
 t9:=Tryz.underlying9
 a9:=Tryz.isAgg9
 z9:=Tryz.sizeOf9
 v9:=Tryz.zeroValue9
 t20:=Tryz.underlying20
 a20:=Tryz.isAgg20
 z20:=Tryz.sizeOf20
 v20:=Tryz.zeroValue20
 t22:=Tryz.underlying68
 a22:=Tryz.isAgg68
 z22:=Tryz.sizeOf68
 v22:=Tryz.zeroValue68
def v5a (n:Int)(h:0<=n/\n<=1000000):v1e Tryz.prog 174 [.nils, .d (.int .i64 n)] 127 6 []:=by
 intro g w us hs hu;obtain⟨h1,h2⟩:=hu;have hn0:g.n=0:=hs.n
 match us,h1 with
 | [u0,u1],_=>
   have e0:u0= .slice none 0 0:=by
    have:=h2 0 u0 _ rfl rfl;cases this;rfl
   have e1:=x0n (h2 1 u1 _ rfl rfl);subst e0;subst e1;have key: ∀(w':World) (u:Value),Fr (fun _=>False) w w'->(u= .slice none 0 0\/ ∃(us:Array Value) (cap:Nat),u= .slice (some ⟨w.heap.size,0,none⟩) 0 cap/\cap<=maxLen/\w'.heap[w.heap.size]? =some (.cells us 127 (0,0))/\us.size=cap*6)-> ∃u2 g',Ending.returned u= .returned u2/\Rep w' g' u2 (.own 0)/\Keep [] g [] w g' [.arr 127 6 []] w':=by
    intro w' u hfr hu;have hv:(g.push w.heap.size u).val g.n=u:=by simp[Gh.push]
    have hbk:(g.push w.heap.size u).blk g.n=w.heap.size:=by simp[Gh.push]
    refine⟨u,g.push w.heap.size u,rfl,?_,Keep.push hs _ _ _ hfr ⟨fun i r hr=>by simp at hr,?_⟩ fun k hk=> ?_⟩
    ·have:=Rep.own (w:=w') (g:=g.push w.heap.size u) g.n (by simp[Gh.push])
     rw[hv,hn0]at this;exact this
    ·rcases hu with hu|⟨us,cap,hu,hc,hh,hz⟩
     ·exact .inl ⟨by rw[hv];exact hu,rfl⟩
     ·exact .inr ⟨us,cap,by rw[hv,hbk];exact hu,a0t _,hc,by rw[hbk];exact hh,hz,fun i r j c hr=>by simp at hr⟩
    ·unfold Box.at? at hk;simp only[hv]at hk;rcases hu with rfl|⟨us,cap,rfl,_⟩
     ·cases hk
     ·simp at hk;omega
   obtain⟨m,rfl⟩: ∃m:Nat,n=m:=⟨n.toNat,by omega⟩
   by_cases hm:m=0
   ·subst hm;refine(Any8.slices_Grow_room q8r none 0 0 0 w (by omega) (by omega) (by omega) (by omega)).mono ?_
    rintro e w' ⟨rfl,rfl⟩
    exact key _ _ (Fr.refl _ _) (.inl rfl)
   ·have hinfo:(Tryz.prog.info? 127).map (fun i=>(i.zero,i.size,i.bytes))=some (some (.agg #[.string ⟨#[]⟩, .int .i64 0, .int .i64 0, .int .i64 0, .string ⟨#[]⟩, .string ⟨#[]⟩]),6,72):=by kernel_rfl
    obtain⟨i,hi,hz0,hz1,hz2⟩:=info_parts hinfo;have hL:=Any8.slices_Grow_grow q8r i _ hi hz0 (by omega) none 0 0 m [] w (by omega) (by omega) (by rw[hz2];omega) (by omega) (by simp) (fun _=>rfl) (fun a h=>by cases h)
    refine hL.mono ?_
    rintro e w' ⟨rfl,rfl⟩
    have hge:=grownCap_ge w (0+m) 0 127;have hcm:grownCap w (0+m) 0 127<=maxLen:=grownCap_le_maxLen w (0+m) 0 127 (by unfold maxLen;omega)
    refine key _ _ ((Fr.drew _ w).trans (Fr.alloc _ _ _)) (.inr ⟨_,_,rfl,hcm,(MapKept.heap_alloc w.drew _).1,?_⟩);show(#[]++_++_).size=grownCap w (0+m) 0 127*6;simp only[Array.size_append,size_zeroCells,Value.cells,List.size_toArray,a0b,a0e,a1y,show q8q.t 25=127 from rfl]at hge ⊢;omega
def hsA:List Box:=[.cells (.ty 51) [.d (.int .i64 0), .d (.int .i64 0)]]
def u4i (a c:Int):x9v Tryz.prog [] 16 [.ifo 51 true [.int .i64 a, .int .i64 c], .ifp 53 0 0] hsA (.d (.bool false)) hsA:=by
 intro g w us hs hu;obtain⟨h1,h2⟩:=hu
 match us,h1 with
 | [u0,u1],_=>
   have e0:u0= .nilIface:=by
    have:=h2 0 u0 _ rfl rfl;cases this;rfl
   subst e0;refine(k2i u1 w).mono ?_
   rintro e w' ⟨rfl,rfl⟩
   exact⟨_,g,rfl, .d (.bool _),Keep.refl hs⟩
def u4j (a c:Int):x9v Tryz.prog [] 16 [.ifo 51 false [.int .i64 a, .int .i64 c], .ifp 53 0 0] hsA (.d (.bool true)) [.cells (.ty 51) [.d (.int .i64 a), .d (.int .i64 c)]]:=by
 intro g w us hs hu;obtain⟨h1,h2⟩:=hu
 match us,h1 with
 | [u0,u1],_=>
   have e0:u0= .iface 51 (.agg #[.int .i64 a, .int .i64 c]):=by
    have:=h2 0 u0 _ rfl rfl;cases this with
    |ifo1 t vs cs hl h=>
     congr 2
     match vs,hl,h with
     |⟨[x,y]⟩,_,h=>
      have e1:=h 0 x _ rfl rfl;have e2:=h 1 y _ rfl rfl;cases e1;cases e2;rfl
   have e1:u1= .iface 53 (.pointer (some ⟨g.blk 0,0,none⟩)):=by
    have:=h2 1 u1 _ rfl rfl;cases this;rfl
   subst e0;subst e1;have hb:=hs.rep 0 _ rfl;obtain⟨vs,hh,hsz,hr⟩:=x4q hb;have hg:w.cell? ⟨0,0,none⟩=some (.iface 142 (.agg #[.pointer (some ⟨12,45,none⟩)])):=(hs.tab.2 (0,[Value.iface 142 (.agg #[.pointer (some ⟨12,45,none⟩)])]) (by simp[gV]) 0).2
   refine(k2j (g.blk 0) a c vs w hg hh (by simpa using hsz)).mono ?_
   rintro e w' ⟨rfl,rfl⟩
   have hf4:Fr (fun _=>False) w (w4 w (g.blk 0) a c):=(((Fr.alloc _ _ _).trans (Fr.alloc _ _ _)).trans (Fr.alloc _ _ _)).trans (Fr.alloc _ _ _)
   have k1:Keep [] g hsA w g hsA (w4 w (g.blk 0) a c):=Keep.j2f hs hf4;have hlt:g.blk 0 < w.heap.size:=(a0s.1 hh).1;have hh4:(w4 w (g.blk 0) a c).heap[g.blk 0]? =some (.cells vs 51 (0,0)):=by rw[hf4.block _ hlt (fun h=>h)];exact hh
   have hrow:=setRow_heap (w4 w (g.blk 0) a c) (g.blk 0) vs #[.int .i64 a, .int .i64 c] 51 (0,0) hh4;have k2:=Keep.turn (y:= .cells (.ty 51) [.d (.int .i64 a), .d (.int .i64 c)]) k1.heap (b:=0) rfl [] (.inl ⟨rfl,rfl⟩) rfl rfl rfl (fun _ _=>⟨rfl,rfl⟩) ((y8f (w4 w (g.blk 0) a c) (g.blk 0) #[.int .i64 a, .int .i64 c]).mono fun k hk=>by simp[Box.at?,hk])
    ⟨_,_,hrow,rfl,rfl,fun i u v hu hv=>by
      match i with
      |0=>simp at hu hv;subst hu;subst hv;exact .d (.int _ _)
      |1=>simp at hu hv;subst hu;subst hv;exact .d (.int _ _)
      |i+2=>simp at hu⟩ (fun k hk=> .inl hk)
   exact⟨_,g,rfl, .d (.bool _),k1.trans k2⟩
def q8k {k:Nat}{key:List V}{p:PRes}(h:1000000<=k)(h2:kn k key=some p):k=1000016/\knA key=some p:=by
 unfold kn at h2;rw[v8k (show 127 < k by omega),v8k (show 174 < k by omega)]at h2
 simp only at h2;split at h2
 ·rename_i hf;exact⟨Nat.eq_of_beq_eq_true hf,h2⟩
 ·cases h2
def w8l:q5o Tryz.prog kn:=by
 refine⟨w8k,fun f args p hgf ha h=> ?_,fun f key pn as' hs p hgf hd h=> ?_⟩
 ·unfold kn at h;split at h
  ·rename_i hf;have hf:=Nat.eq_of_beq_eq_true hf;subst hf;unfold knF at h;split at h
   ·rename_i s;split at h
    ·rename_i hd;cases h;exact u3n s (a0f hd)
    ·cases h
   ·cases h
  ·split at h
   ·rename_i hf;have hf:=Nat.eq_of_beq_eq_true hf;subst hf;unfold knG at h;split at h
    ·rename_i n;split at h
     ·rename_i hd;cases h;exact⟨68,by kernel_rfl,by kernel_rfl,v5a n (a0f hd)⟩
     ·cases h
    ·cases h
   ·split at h
    ·rename_i hf;have hf:=Nat.eq_of_beq_eq_true hf;subst hf;exact absurd hgf (by rw[show x4g Tryz.prog 1000016=false by kernel_rfl];simp)
    ·cases h
 ·obtain⟨hf,hA⟩:=q8k (a0f (v8d f)) h;clear h;have hf:f=16:=by have:=u7u f;rw[hf]at this;exact this.symm
  subst hf;unfold knA at hA;split at hA
  ·rename_i b a c;clear hgf;obtain rfl:=Option.some.inj hA;clear hA;have hd:(0,[.ifo 51 b [.int .i64 a, .int .i64 c], .ifp 53 0 0],hsA)=(pn,as',hs):=Option.some.inj hd;cases hd;intro ts E q hE hsig hr;have hts:ts= [4]:=Option.some.inj (hsig.symm.trans (show z1t Tryz.prog 16=some [4] by kernel_rfl))
   subst hts;have hM:x7i hsA= []:=rfl;rw[hM];cases b with
   |true=>
    have e:(v0w sy Tryz.prog 0 [4] [.ifo 51 true [.int .i64 a, .int .i64 c], .ifp 53 0 0] hsA [.bool false, .int .i64 0, .int .i64 0]).run E=some (.d (.bool false),hsA):=by kernel_rfl
    rw[show(PRes.val [.bool false, .int .i64 0, .int .i64 0]).leaves= [.bool false, .int .i64 0, .int .i64 0]from rfl,e]at hr;cases hr;exact u4i a c
   |false=>
    have e:(v0w sy Tryz.prog 0 [4] [.ifo 51 false [.int .i64 a, .int .i64 c], .ifp 53 0 0] hsA [.bool true, .int .i64 a, .int .i64 c]).run E=some (.d (.bool true),[.cells (.ty 51) [.d (.int .i64 a), .d (.int .i64 c)]]):=by kernel_rfl
    rw[show(PRes.val [.bool true, .int .i64 a, .int .i64 c]).leaves= [.bool true, .int .i64 a, .int .i64 c]from rfl,e]at hr;cases hr;exact u4j a c
  ·cases hA
end Go.Vm
end
