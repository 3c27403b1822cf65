/- Part ROL of the proof. What is proved by the whole: the statement that the claim names, with no condition. -/
import Derived.Test.YtdilhaphlahfjaaGreatDoorROK
import Derived.Stop.Asserts
import Derived.RowKitTokens
import Derived.Shelf.Spec.SlicesGrow
set_option linter.all false
section
set_option maxRecDepth 100000
set_option maxHeartbeats 4000000
namespace Go.Vm
open Go.Proofs
def v0w (k n:Int)(s:BA)(o:Int)(a:List BA)(u:List Ex)(h1:x3c (.mk k n s o a u)=true)(h2:y1e (.mk k n s o a u)=true)(hf:(Ex.mk k n s o a u).j1j)(hr:(Ex.mk k n s o a u).rng): ∃t,cF 73 [kE k n s o (x0c a) (Ex.rows u)]=some (.val [.str t])/\tb t=x0f (pcs (.mk k n s o a u))/\t.size<=60000000:=by
 have hz:(Ex.mk k n s o a u).size<=60:=by
  unfold x3c at h1;simp only[a0g,a0s]at h1;exact h1.1
 obtain⟨t,q1,q2,q3⟩:=v7t 60 k n s o a u hz (by omega) h2 hf hr
 have q0:=u0w k n s o a u (by omega) hf
 rw[h1,h2]at q0;refine⟨t,?_,q2,by omega⟩
 refine cO rfl ?_;rw[k0a];simp only[g73,go1,q0,q1,Bool.and_self]
def u9a (x:Eqn):q6p x= [32,32]++(jnT [44,32] (x.ns.map tb)++([32,61,32]++(x0f (pcs x.e)++[59,10]))):=by
 have e1:x0f (k3t x)=32::32::x0f (u9n 1 x.ns++(none::mk 61::none::(pcs x.e++[mk 59]))):=rfl;have e2:x0f (none::mk 61::none::(pcs x.e++[mk 59]))=32::([61]++(32::x0f (pcs x.e++[mk 59]))):=rfl;unfold q6p;rw[e1,x0p,e2,x0p,z2v 1 (by decide)]
 have e3:x0f [mk 59]= [59]:=rfl;rw[e3];simp
def z2l (x:Eqn): ∀r,y6h (r++[x])=y6h r++q6p x
 | []=>by simp[y6h]
 |y::r=>by simp only[a0d,y6h,z2l x r,List.append_assoc]
def q7x (a:D)(r:List D):sy.skip 1 (a::r)=r:=rfl
def sfS {a:BA}{l:List UInt8}(h:a.size<=4000000000000000000)(hl:l.length<=100):sy.sfit a (bs l)=true:=sfT (by rw[x1c];omega)
def sfA {a b:BA}(h:a.size<=4000000000000000000)(hl:b.size<=4000000000000000000):sy.sfit a b=true:=sfT (by omega)
def szS {a:BA}{l:List UInt8}{k:Nat}(h:a.size<=k):(a++bs l).size<=k+l.length:=by rw[ByteArray.size_append,x1c];omega
def szA {a b:BA}{k m:Nat}(h:a.size<=k)(hb:b.size<=m):(a++b).size<=k+m:=by rw[ByteArray.size_append];omega
structure EqF (x:Eqn):Prop where
 b:eqB x=true
 ok:EqOK x
 rng:x.e.rng
 ns:x.ns.length<=1000000
structure NdF (ens:List En) (n:Nd):Prop where
 k:NodeK ens n
 ok:NdOK n
 ins:n.ins.length<=1000
 outs:n.outs.length<=1000
 vars:n.vars.length<=1000
 eqs:n.eqs.length<=1000
 eo: ∀x∈n.eqs,EqF x
def z7p (ens:List En)(n:Nd):x0f (q9k ens n)++[10]= [110,111,100,101,32]++(tb n.n++([40]++(x0f (dsP ens n.ins)++([41,32,114,101,116,117,114,110,115,32,40]++(x0f (dsP ens n.outs)++[41,10]))))):=by
 have e1:x0f (q9k ens n)=z9b++(32::(tb n.n++([40]++x0f (dsP ens n.ins++(mk 41::none::wd w1l::none::mk 40::(dsP ens n.outs++[mk 41])))))):=rfl;have e2:x0f (mk 41::none::wd w1l::none::mk 40::(dsP ens n.outs++[mk 41]))= [41]++(32::(w1l++(32::([40]++x0f (dsP ens n.outs++[mk 41]))))):=rfl;have e3:x0f [mk 41]= [41]:=rfl;rw[e1,x0p,e2,x0p,e3];simp[z9b,w1l]
def v3i (ens:List En)(d:Dc)(r:List Dc):q7k ens (d::r)= [118,97,114,32]++(x0f (dsP ens (d::r))++[59,10]):=by
 have e1:x0f (k3k ens (d::r))=q6v++(32::x0f (dsP ens (d::r)++[mk 59])):=rfl;have e3:x0f [mk 59]= [59]:=rfl;unfold q7k;simp only;rw[e1,x0p,e3];simp[q6v]
def v6u (nm:BA)(I O V:LL)(eqs:List Eqn)(hl4:eqs.length<=1000)(heo: ∀x∈eqs,EqF x)(S0:BA)(hS:S0.size<=100000000000):
  ∃p,x6n (fun ds10=>(opS (sy.cell ds10 0)).bind fun s11=>(opI (sy.cell ds10 1) .i64).bind fun n12=>(opS (sy.cell ds10 2)).bind fun s13=>(opL (sy.cell ds10 3) 6).bind fun l14=>(opL (sy.cell ds10 4) 6).bind fun l15=>(opL (sy.cell ds10 5) 6).bind fun l16=>(opL (sy.cell ds10 6) 7).bind fun l17=>
   bif decide (n12 < (l17.length:Int))then
    bif sy.sfit s11 (bs [32,32])then
     bif decide (0<=n12/\n12 < (l17.length:Int))then
      (opL (sy.cell (sy.row l17 n12) 0) 1).bind fun l18=>(cF 33 [.d (.sl 1 l18)]).bind fun p19=>(opS (sy.cell p19.leaves 0)).bind fun s21=>
       bif sy.sfit (s11++bs [32,32]) s21 then
        bif sy.sfit (s11++bs [32,32]++s21) (bs [32,61,32])then
         bif decide (0<=n12/\n12 < (l17.length:Int))then
          oE sy (sy.skip 1 (sy.row l17 n12)) 0 fun n22 n23 s24 n25 l26 l27=>(cF 73 [kE n22 n23 s24 n25 l26 l27]).bind fun p28=>(opS (sy.cell p28.leaves 0)).bind fun s30=>
            bif sy.sfit (s11++bs [32,32]++s21++bs [32,61,32]) s30 then
             bif sy.sfit (s11++bs [32,32]++s21++bs [32,61,32]++s30) (bs [59,10])then
              some (.inl [.str (s11++bs [32,32]++s21++bs [32,61,32]++s30++bs [59,10]), .int .i64 (IntKind.i64.wrap (n12+1)), .str s13, .sl 6 l14, .sl 6 l15, .sl 6 l16, .sl 7 l17])
             else none
            else none
         else none
        else none
       else none
     else none
    else none
   else bif sy.sfit s11 (bs [116,101,108,10])then some (.inr (PRes.val [.str (s11++bs [116,101,108,10])]))else none)
   [.str S0, .int .i64 0, .str nm, .sl 6 I, .sl 6 O, .sl 6 V, .sl 7 (x3n eqs)]=some p/\ ∃t,p= .val [.str t]/\tb t=tb S0++(y6h eqs++(u9t++[10]))/\t.size<=900000000000000:=by
 refine x4x (fun x:Nat × BA=>[.str x.2, .int .i64 (x.1:Int), .str nm, .sl 6 I, .sl 6 O, .sl 6 V, .sl 7 (x3n eqs)]) (fun x=>x.1<=eqs.length/\tb x.2=tb S0++y6h (eqs.take x.1)/\x.2.size<=100000000000+200000000000*x.1) (fun x=>eqs.length - x.1) (fun x hx=> ?_) (0,S0) ⟨a0w _,by simp[y6h],by simp only;omega⟩
 obtain⟨i,s⟩:=x;obtain⟨h1,h2,h3⟩:=hx;simp only at h1 h2 h3 ⊢
 by_cases hlt:i < eqs.length
 ·left
  have hx:=a0b hlt;obtain⟨g1,g2,g3,g4⟩:=heo _ (a1i hlt);have hr:=z4t hx;have w1:IntKind.i64.wrap ((i:Int)+1)=((i+1:Nat):Int):=by rw[x0v (by omega) (by omega)];omega
  generalize eqs[i]=x at hx g1 g2 g3 g4 hr;obtain⟨ns,k,m,w,o,a,u⟩:=x;obtain⟨_,p2,p3,_⟩:=y3u g1;obtain⟨t1,q1,q2,q3⟩:=v7s ns g4 g2.st;obtain⟨t2,r1,r2,r3⟩:=v0w k m w o a u p2 p3 g2.fn g3;have g4:ns.length<=1000000:=g4;have y1:=szS (l:=[32,32]) h3;have y2:=szA y1 q3;have y3:=szS (l:=[32,61,32]) y2;have y4:=szA y3 r3;have y5:=szS (l:=[59,10]) y4;simp only[a0a,a0e]at y1 y2 y3 y4 y5;have f1:=sfS (l:=[32,32]) (a1a h3 (by omega)) (by decide)
  have f2:=sfA (b:=t1) (a1a y1 (by omega)) (by omega)
  have f3:=sfS (l:=[32,61,32]) (a1a y2 (by omega)) (by decide)
  have f4:=sfA (b:=t2) (a1a y3 (by omega)) (by omega)
  have f5:=sfS (l:=[59,10]) (a1a y4 (by omega)) (by decide)
  have l0:=x0l hlt;have i0:=x0m hlt;refine⟨(i+1,s++bs [32,32]++t1++bs [32,61,32]++t2++bs [59,10]),?_,⟨hlt,?_,?_⟩,by simp only;omega⟩
  ·simp only[go1,x3d,l0,i0,hr,v3q,Ex.row,q7x,oE,q1,r1,f1,f2,f3,f4,f5,w1]
  ·simp only;rw[x0y,x0y,x0y,x0y,x0y,h2,q2,r2,y2d hx,z2l,u9a];simp[z6y]
  ·refine a1a y5 ?_;show _<=100000000000+200000000000*(i+1);omega
 ·right
  have:i=eqs.length:=by omega
  subst this;rw[a0t]at h2;have f1:=sfS (l:=[116,101,108,10]) (a1a h3 (by omega)) (by decide)
  have y1:=szS (l:=[116,101,108,10]) h3;simp only[a0a,a0e]at y1;refine⟨_,?_,s++bs [116,101,108,10],rfl,?_,by omega⟩
  ·simp only[go1,x3d,x0g,f1]
  ·rw[x0y,h2,List.append_assoc];rfl
def v0u (ens:List En)(hE: ∀x∈ens,EnOK x)(n:Nd)(h:NdF ens n): ∃t,cF 34 [.d (.sl 2 (x0j ens)),nV n]=some (.val [.str t])/\tb t=w6y ens n/\t.size<=900000000000000:=by
 have hdc:=h.ok.dc;have hi: ∀d∈n.ins,x3v ens d=true/\DcOK d:=fun d hd=>⟨h.k.ins d hd,hdc d (by unfold y2c;simp[hd])⟩
 have ho: ∀d∈n.outs,x3v ens d=true/\DcOK d:=fun d hd=>⟨h.k.outs d hd,hdc d (by unfold y2c;simp[hd])⟩
 have hv: ∀d∈n.vars,x3v ens d=true/\DcOK d:=fun d hd=>⟨h.k.vars d hd,hdc d (by unfold y2c;simp[hd])⟩
 obtain⟨y1,a1,a2,a3⟩:=y2t ens hE n.ins h.ins hi;obtain⟨y2,b1,b2,b3⟩:=y2t ens hE n.outs h.outs ho;obtain⟨y3,c1,c2,c3⟩:=y2t ens hE n.vars h.vars hv;have hl1:=h.ins;have hl2:=h.outs;have hl3:=h.vars;have hl4:=h.eqs;have hnm:=h.ok.nm;have heo:=h.eo;have ehd:=z7p ens n;have evr:=v3i ens;unfold w6y;rw[ehd];obtain⟨nm,ins,outs,vars,eqs⟩:=n;simp only at a1 a2 a3 b1 b2 b3 c1 c2 c3 hl1 hl2 hl3 hl4 hnm heo ⊢;have z1:(bs [110,111,100,101,32]++nm).size<=200000:=by have:=szA (a:=bs [110,111,100,101,32]) (k:=5) (by rw[x1c];decide) hnm;omega
 have z2:=szS (l:=[40]) z1;have z3:=szA z2 a3;have z4:=szS (l:=[41,32,114,101,116,117,114,110,115,32,40]) z3;have z5:=szA z4 b3;have z6:=szS (l:=[41,10]) z5;have z7:=szS (l:=[118,97,114,32]) z6;have z8:=szA z7 c3;have z9:=szS (l:=[59,10]) z8;have z10:=szS (l:=[108,101,116,10]) z9;have z11:=szS (l:=[108,101,116,10]) z6;simp only[a0a,a0e]at z2 z3 z4 z5 z6 z7 z8 z9 z10 z11;have f1:sy.sfit (bs [110,111,100,101,32]) nm=true:=sfT (by rw[x1c];simp only[a0a,a0e];omega)
 have f2:=sfS (l:=[40]) (a1a z1 (by omega)) (by decide)
 have f3:=sfA (b:=y1) (a1a z2 (by omega)) (by omega)
 have f4:=sfS (l:=[41,32,114,101,116,117,114,110,115,32,40]) (a1a z3 (by omega)) (by decide)
 have f5:=sfA (b:=y2) (a1a z4 (by omega)) (by omega)
 have f6:=sfS (l:=[41,10]) (a1a z5 (by omega)) (by decide)
 have f7:=sfS (l:=[118,97,114,32]) (a1a z6 (by omega)) (by decide)
 have f8:=sfA (b:=y3) (a1a z7 (by omega)) (by omega)
 have f9:=sfS (l:=[59,10]) (a1a z8 (by omega)) (by decide)
 have f10:=sfS (l:=[108,101,116,10]) (a1a z9 (by omega)) (by decide)
 have f11:=sfS (l:=[108,101,116,10]) (a1a z6 (by omega)) (by decide)
 have core: ∃p,g34 sy eF (x0j ens) nm (x0n ins) (x0n outs) (x0n vars) (x3n eqs)=some p/\ ∃t,p= .val [.str t]/\tb t=([110,111,100,101,32]++(tb nm++([40]++(x0f (dsP ens ins)++([41,32,114,101,116,117,114,110,115,32,40]++(x0f (dsP ens outs)++[41,10]))))))++(q7k ens vars++(u9u++([10]++(y6h eqs++(u9t++[10])))))/\t.size<=900000000000000:=by
  unfold g34;cases vars with
  |nil=>
   simp only[go1,f1,f2,f3,f4,f5,f6,f11,a1,b1,x0s,a0e,show((0:Nat):Int)=0 from rfl,Int.lt_irrefl];obtain⟨p,q1,t,q2,q3,q4⟩:=v6u nm (x0n ins) (x0n outs) (x0n []) eqs hl4 heo (bs [110,111,100,101,32]++nm++bs [40]++y1++bs [41,32,114,101,116,117,114,110,115,32,40]++y2++bs [41,10]++bs [108,101,116,10]) (a1a z11 (by omega))
   refine⟨p,q1,t,q2,?_,q4⟩;rw[q3];simp only[x0y,a2,b2,List.append_assoc];rfl
  |cons d r=>
   have l0:decide ((0:Int) < (((d::r).length:Nat):Int))=true:=a0q (by simp only[a0a];omega)
   simp only[go1,f1,f2,f3,f4,f5,f6,f7,f8,f9,f10,a1,b1,c1,x0s,l0];obtain⟨p,q1,t,q2,q3,q4⟩:=v6u nm (x0n ins) (x0n outs) (x0n (d::r)) eqs hl4 heo (bs [110,111,100,101,32]++nm++bs [40]++y1++bs [41,32,114,101,116,117,114,110,115,32,40]++y2++bs [41,10]++bs [118,97,114,32]++y3++bs [59,10]++bs [108,101,116,10]) (a1a z10 (by omega))
   refine⟨p,q1,t,q2,?_,q4⟩;rw[q3,evr];simp only[x0y,a2,b2,c2,List.append_assoc];rfl
 obtain⟨p,q1,t,rfl,q2,q3⟩:=core;exact⟨t,cO rfl ((k0o _ _ _ _ _ _ _ _).trans q1),q2,q3⟩
def u9b (e:En):q7m e= [101,110,117,109,32]++(tb e.1++([32,123,32]++(jnT [44,32] (e.2.map tb)++[32,125,59,10]))):=by
 have e1:x0f (q7a e)=u3a++(32::(tb e.1++(32::([123]++(32::x0f (u9n 2 e.2++[none,mk 125,mk 59])))))):=rfl;have e2:x0f [none,mk 125,mk 59]= [32,125,59]:=rfl;unfold q7m;rw[e1,x0p,e2,z2v 2 (by decide)]
 simp[u3a]
def z2m (x:En): ∀r,z4e (r++[x])=z4e r++q7m x
 | []=>by simp[z4e]
 |y::r=>by simp only[a0d,z4e,z2m x r,List.append_assoc]
def z2k (ens:List En)(x:Nd): ∀r,z1o ens (r++[x])=z1o ens r++w6y ens x
 | []=>by simp[z1o]
 |y::r=>by simp only[a0d,z1o,z2k ens x r,List.append_assoc]
def z3v (ens:List En)(nds:List Nd)(hc:y4d ens nds=0)(hl1:ens.length<=1000)(hl2:nds.length<=1000)(hE: ∀x∈ens,EnOK x/\x.2.length<=1000000)(hN: ∀n∈nds,NdF ens n):
  ∃t,cF 13 [.agg [.d (.sl 2 (x0j ens)), .d (.sl 5 (x2j nds))]]=some (.val [.str t])/\tb t=q7l ens nds/\t.size<=4000000000000000000:=by
 have hck:=w7u ens nds (by omega) (by omega) (fun x hx=>(hE x hx).1) fun n hn=>(hN n hn).ok
 rw[hc]at hck;have inner: ∀(S0:BA),S0.size<=1000000000000000-> ∃p,x6n (fun ds14=>(opS (sy.cell ds14 0)).bind fun s15=>(opI (sy.cell ds14 1) .i64).bind fun n16=>(opL (sy.cell ds14 2) 2).bind fun l17=>(opL (sy.cell ds14 3) 5).bind fun l18=>
     bif decide (n16 < (l18.length:Int))then
      bif decide (0<=n16/\n16 < (l18.length:Int))then
       (opS (sy.cell (sy.row l18 n16) 0)).bind fun s19=>(opL (sy.cell (sy.row l18 n16) 1) 6).bind fun l20=>(opL (sy.cell (sy.row l18 n16) 2) 6).bind fun l21=>(opL (sy.cell (sy.row l18 n16) 3) 6).bind fun l22=>(opL (sy.cell (sy.row l18 n16) 4) 7).bind fun l23=>
        (cF 34 [.d (.sl 2 l17), .agg [.d (.str s19), .d (.sl 6 l20), .d (.sl 6 l21), .d (.sl 6 l22), .d (.sl 7 l23)]]).bind fun p24=>(opS (sy.cell p24.leaves 0)).bind fun s26=>
         bif sy.sfit s15 s26 then some (.inl [.str (s15++s26), .int .i64 (IntKind.i64.wrap (n16+1)), .sl 2 l17, .sl 5 l18])else none
      else none
     else some (.inr (Sum.inr (PRes.val [.str s15]):List D ⊕ PRes))) [.str S0, .int .i64 0, .sl 2 (x0j ens), .sl 5 (x2j nds)]=some p/\ ∃t,p= .inr (.val [.str t])/\tb t=tb S0++z1o ens nds/\t.size<=4000000000000000000:=by
  intro S0 hS;refine x4x (fun x:Nat × BA=>[.str x.2, .int .i64 (x.1:Int), .sl 2 (x0j ens), .sl 5 (x2j nds)]) (fun x=>x.1<=nds.length/\tb x.2=tb S0++z1o ens (nds.take x.1)/\x.2.size<=1000000000000000+900000000000000*x.1) (fun x=>nds.length - x.1) (fun x hx=> ?_) (0,S0) ⟨a0w _,by simp[z1o],by simp only;omega⟩
  obtain⟨i,s⟩:=x;obtain⟨h1,h2,h3⟩:=hx;simp only at h1 h2 h3 ⊢
  by_cases hlt:i < nds.length
  ·left
   have hx:=a0b hlt;obtain⟨t,q1,q2,q3⟩:=v0u ens (fun x hx=>(hE x hx).1) _ (hN _ (a1i hlt))
   have hr:=y0r hx;have w1:IntKind.i64.wrap ((i:Int)+1)=((i+1:Nat):Int):=by rw[x0v (by omega) (by omega)];omega
   generalize nds[i]=x at hx hr q1 q2;have f1:=sfA (b:=t) (a1a h3 (by omega)) (by omega)
   have l0:=x0l hlt;have i0:=x0m hlt;have y1:=szA h3 q3;refine⟨(i+1,s++t),?_,⟨hlt,?_,?_⟩,by simp only;omega⟩
   ·simp only[go1,x1x,l0,i0,hr,z1v,q1,f1,w1]
   ·simp only;rw[x0y,h2,q2,y2d hx,z2k,List.append_assoc]
   ·refine a1a y1 ?_;show _<=1000000000000000+900000000000000*(i+1);omega
  ·right
   have:i=nds.length:=by omega
   subst this;rw[a0t]at h2;refine⟨_,?_,s,rfl,h2,by omega⟩
   simp only[go1,x1x,x0g]
 have core: ∃p,g13 sy eF (x0j ens) (x2j nds)=some p/\ ∃t,p= .val [.str t]/\tb t=q7l ens nds/\t.size<=4000000000000000000:=by
  unfold g13;simp only[hck,go1];refine x4x (fun x:Nat × BA=>[.str x.2, .int .i64 (x.1:Int), .sl 2 (x0j ens), .sl 5 (x2j nds)]) (fun x=>x.1<=ens.length/\tb x.2=z4e (ens.take x.1)/\x.2.size<=200000000000*x.1) (fun x=>ens.length - x.1) (fun x hx=> ?_) (0,bs []) ⟨a0w _,by simp[z4e,z6y],a0p _⟩
  obtain⟨i,s⟩:=x;obtain⟨h1,h2,h3⟩:=hx;simp only at h1 h2 h3 ⊢
  by_cases hlt:i < ens.length
  ·left
   have hx:=a0b hlt;obtain⟨g1,g2⟩:=hE _ (a1i hlt);have hr:=y3w hx;have w1:IntKind.i64.wrap ((i:Int)+1)=((i+1:Nat):Int):=by rw[x0v (by omega) (by omega)];omega
   generalize ens[i]=e at hx hr g1 g2;obtain⟨t,q1,q2,q3⟩:=v7s e.2 g2 g1.c;have hz:=g1.n;have y1:=szS (l:=[101,110,117,109,32]) h3;have y2:=szA y1 hz;have y3:=szS (l:=[32,123,32]) y2;have y4:=szA y3 q3;have y5:=szS (l:=[32,125,59,10]) y4;simp only[a0a,a0e]at y1 y2 y3 y4 y5;have f1:=sfS (l:=[101,110,117,109,32]) (a1a h3 (by omega)) (by decide)
   have f2:=sfA (b:=e.1) (a1a y1 (by omega)) (by omega)
   have f3:=sfS (l:=[32,123,32]) (a1a y2 (by omega)) (by decide)
   have f4:=sfA (b:=t) (a1a y3 (by omega)) (by omega)
   have f5:=sfS (l:=[32,125,59,10]) (a1a y4 (by omega)) (by decide)
   have l0:=x0l hlt;have i0:=x0m hlt;refine⟨(i+1,s++bs [101,110,117,109,32]++e.1++bs [32,123,32]++t++bs [32,125,59,10]),?_,⟨hlt,?_,?_⟩,by simp only;omega⟩
   ·simp only[go1,x1e,l0,i0,hr,q7x,q1,f1,f2,f3,f4,f5,w1]
   ·simp only;rw[x0y,x0y,x0y,x0y,x0y,h2,q2,y2d hx,z2m,u9b];simp[z6y]
   ·refine a1a y5 ?_;show _<=200000000000*(i+1);omega
  ·right
   have:i=ens.length:=by omega
   subst this;rw[a0t]at h2;obtain⟨p,q1,t,q2,q3,q4⟩:=inner s (by omega)
   refine⟨_,?_,t,rfl,by rw[q3,h2];rfl,q4⟩
   subst q2;simp only[go1,x1e,x0g];exact q1
 obtain⟨p,q1,t,rfl,q2,q3⟩:=core;exact⟨t,cO rfl ((k1a _ _ _ _).trans q1),q2,q3⟩

def EB (x:En):Prop:=x.1.size<=100/\x.2.length<=12/\ ∀c∈x.2,c.size<=100
structure ES (x:Eqn):Prop where
 ns:x.ns.length<=20
 sz:x.e.size<=200
 fn:x.e.j1j
 st: ∀s∈x.ns,s.size<=100
structure NS (n:Nd):Prop where
 i:n.ins.length<=20/\ ∀x∈n.ins,DcOK x
 o:n.outs.length<=20/\ ∀x∈n.outs,DcOK x
 v:n.vars.length<=20/\ ∀x∈n.vars,DcOK x
 q:n.eqs.length<=30
 e: ∀x∈n.eqs,ES x
 m:n.n.size<=100
structure LB (n:Nd):Prop where
 i:n.ins.length<=9223372036854775807
 o:n.outs.length<=9223372036854775807
 v:n.vars.length<=9223372036854775807
def u6f {α:Type}{p:α->Prop}{l:List α}{x:α}(h: ∀y∈l,p y)(hx:p x): ∀y∈l++[x],p y:=fun y hy=>by
 rcases a1k.1 hy with hy|hy
 ·exact h y hy
 ·rw[a1h.1 hy];exact hx
section
variable {α : Type} (l : List Tk) (en : LL) (s : St) (r : List D) (e : En) (n : Nd) (str : BA) (x y : LL)
end
def q2p (k:IntKind)(a:Int):eqD (.int k a) (.int k a)=true:=by
 show(a == a)=true;simp
def q2o (a:BA):eqD (.str a) (.str a)=true:=by
 show(_ == _)=true;simp
def u2d (l:List Dc)(h:l.length<=1000000):cF 64 [.d (.sl 6 (x0n l)), .d (.sl 6 (x0n l))]=some (.val [.bool true]):=by
 refine cO rfl ?_;rw[k0h];simp only[g64,go1,x0s];refine x3m l.length (fun i=>[.sl 6 (x0n l), .sl 6 (x0n l), .int .i64 (i:Int)]) rfl (fun i hlt=> ?_) ?_
 ·have hx:=a0b hlt;have hd:y6b [.str l[i].n, .int .i64 l[i].k, .int .i64 l[i].e, .int .i64 l[i].c, .str l[i].o, .str l[i].q] [.str l[i].n, .int .i64 l[i].k, .int .i64 l[i].e, .int .i64 l[i].c, .str l[i].o, .str l[i].q]=true:=by
   simp only[y6b,q2p,q2o,a2a]
  simp only[go1,oD,z6t,x0s,x0l hlt,x0m hlt,y0z hx,hd,x0d hlt (by omega)]
  rfl
 ·simp only[go1,x0s,x0g]
def w7r (l:List En)(h:l.length<=1000000)(hc: ∀e∈l,e.2.length<=1000000):cF 23 [.d (.sl 2 (x0j l)), .d (.sl 2 (x0j l))]=some (.val [.bool true]):=by
 refine cO rfl ?_;rw[k0v];simp only[g23,go1,x1e];refine x3m l.length (fun i=>[.sl 2 (x0j l), .sl 2 (x0j l), .int .i64 (i:Int)]) rfl (fun i hlt=> ?_) ?_
 ·have hx:=a0b hlt;have h1:=z6h l[i].2 (hc _ (a1i hlt));simp only[go1,x1e,x0l hlt,x0m hlt,y3w hx,k3m,x2c,h1,x0d hlt (by omega)]
  rfl
 ·simp only[go1,x1e,x0g]
def sk1E {α:Type}(d:D)(k n o:Int)(q:BA)(a u:LL)(K:Int->Int->BA->Int->LL->LL->Option α):oE sy (sy.skip 1 [d, .int .i64 k, .int .i64 n, .str q, .int .i64 o, .sl 1 a, .sl 6 u]) 0 K=K k n q o a u:=rfl
def q8a (n:Nd)(h:NdOK n):cF 24 [nV n,nV n]=some (.val [.bool true]):=by
 have hal:=h.al;have hdl:n.ins.length<=1000000/\n.outs.length<=1000000/\n.vars.length<=1000000:=by
  unfold y2c at hal;simp only[a0j]at hal;omega
 have h1:=u2d n.ins hdl.1;have h2:=u2d n.outs hdl.2.1;have h3:=u2d n.vars hdl.2.2;have heq:=h.eq;have heo:=h.eo;obtain⟨nm,ins,outs,vars,eqs⟩:=n;simp only at h1 h2 h3 heq heo;refine cO rfl ?_;rw[k0u];simp only[g24,go1,x2c,h1,h2,h3,x3d];refine x3m eqs.length (fun i=>[.int .i64 (i:Int), .str nm, .sl 6 (x0n ins), .sl 6 (x0n outs), .sl 6 (x0n vars), .sl 7 (x3n eqs), .str nm, .sl 6 (x0n ins), .sl 6 (x0n outs), .sl 6 (x0n vars), .sl 7 (x3n eqs)]) rfl (fun i hlt=> ?_) ?_
 ·have hx:=a0b hlt;have hok:=heo _ (a1i hlt);have hr:=z4t hx;generalize eqs[i]=x at hok hr;obtain⟨ns,e⟩:=x;obtain⟨k,m,y,o,a,u⟩:=e;have c1:=z6h ns hok.ns;have c2:=u7u (Ex.mk k m y o a u).size k m y o a u (a0p _) hok.sz hok.fn;have hr':sy.row (x3n eqs) (i:Int)= [.sl 1 (x0c ns), .int .i64 k, .int .i64 m, .str y, .int .i64 o, .sl 1 (x0c a), .sl 6 (Ex.rows u)]:=hr;simp only[go1,x3d,x0l hlt,x0m hlt,hr',sk1E,c1,c2,x0d hlt (by omega)]
  rfl
 ·simp only[go1,x3d,x0g]
def q7z (ens:List En)(nds:List Nd)(hE:ens.length<=1000000)(hN:nds.length<=1000000)(hc: ∀e∈ens,e.2.length<=1000000)(h: ∀n∈nds,NdOK n):cF 9 [.agg [.d (.sl 2 (x0j ens)), .d (.sl 5 (x2j nds))], .agg [.d (.sl 2 (x0j ens)), .d (.sl 5 (x2j nds))]]=some (.val [.bool true]):=by
 have h1:=w7r ens hE hc;refine cO rfl ?_;rw[k5y];simp only[g9,go1,h1,x1x];refine x3m nds.length (fun i=>[.int .i64 (i:Int), .sl 2 (x0j ens), .sl 5 (x2j nds), .sl 2 (x0j ens), .sl 5 (x2j nds)]) rfl (fun i hlt=> ?_) ?_
 ·have hx:=a0b hlt;have c1:=q8a nds[i] (h _ (a1i hlt));simp only[go1,z1v,x1x,x0l hlt,x0m hlt,y0r hx,c1,x0d hlt (by omega)]
  rfl
 ·simp only[go1,x1x,x0g]
def k5p (s:BA):Nat->Nat->Option (List Tk × Nat × Bool)
 |0,_=>none
 |n+1,a=>match decide (a+x6s ((tb s).drop a) < (tb s).length)with
  |true=>match (x0w (s.extract (a+x6s ((tb s).drop a)) (tb s).length)).ok&&decide (1<=(x0w (s.extract (a+x6s ((tb s).drop a)) (tb s).length)).w)with
   |true=>match k5p s n (a+x6s ((tb s).drop a)+(x0w (s.extract (a+x6s ((tb s).drop a)) (tb s).length)).w)with
    |some r=>some (⟨(x0w (s.extract (a+x6s ((tb s).drop a)) (tb s).length)).k,(x0w (s.extract (a+x6s ((tb s).drop a)) (tb s).length)).s,(x0w (s.extract (a+x6s ((tb s).drop a)) (tb s).length)).n,a+x6s ((tb s).drop a)⟩::r.1,r.2)
    |none=>none
   |false=>some ([],a+x6s ((tb s).drop a),false)
  |false=>some ([],a+x6s ((tb s).drop a),true)
def v4x (s:BA): ∀(n a:Nat) {r:List Tk × Nat × Bool},k5p s n a=some r->y1t s a=r
 |0,a,r,h=>by cases h
 |n+1,a,r,h=>by
  rw[y1t];unfold k5p at h;split at h
  ·rename_i hp;rw[dif_pos (a0f hp)];split at h
   ·rename_i ht;rw[a0g]at ht;rw[dif_pos ⟨ht.1,a0f ht.2⟩];split at h
    ·rename_i q hq;rw[v4x s n _ hq];cases h;rfl
    ·cases h
   ·rename_i ht;rw[dif_neg (fun e=>by rw[e.1,x2r e.2]at ht;cases ht)]
    cases h;rfl
  ·rename_i hp;rw[dif_neg (of_decide_eq_false hp)];cases h;rfl
def lvS:BA:=bs [110,111,100,101,32,102,40,97,58,32,105,110,116,41,32,114,101,116,117,114,110,115,32,40,98,58,32,105,110,116,41,32,108,101,116,32,98,32,61,32,97,59,32,116,101,108]
def lvT:List Tk:=[⟨1,bs [110,111,100,101],0,0⟩,⟨1,bs [102],0,5⟩,⟨5,bs [40],0,6⟩,⟨1,bs [97],0,7⟩,⟨5,bs [58],0,8⟩,⟨1,bs [105,110,116],0,10⟩,⟨5,bs [41],0,13⟩,⟨1,bs [114,101,116,117,114,110,115],0,15⟩,⟨5,bs [40],0,23⟩,⟨1,bs [98],0,24⟩,⟨5,bs [58],0,25⟩,⟨1,bs [105,110,116],0,27⟩,⟨5,bs [41],0,30⟩,⟨1,bs [108,101,116],0,32⟩,⟨1,bs [98],0,36⟩,⟨5,bs [61],0,38⟩,⟨1,bs [97],0,40⟩,⟨5,bs [59],0,41⟩,⟨1,bs [116,101,108],0,43⟩]
def lv1:y1t lvS 0=(lvT,46,true):=v4x _ 60 _ (by kernel_rfl)
def lvN:Nd:=⟨bs [102],[⟨bs [97],1,0,0,bs [],bs []⟩],[⟨bs [98],1,0,0,bs [],bs []⟩],[],[⟨[bs [98]], .mk 3 0 (bs [97]) 0 [] []⟩]⟩
def lv3:y2i (lvT++[⟨6,bs [],0,46⟩]) 0= .ok ([],[lvN]) 19:=by kernel_rfl
def lv4:y4d [] [lvN]=0:=by kernel_rfl
def lv5:y6k lvS=(([],[lvN]),46,0):=by
 have e:x6x lvS=lvT++[⟨6,bs [],0,46⟩]:=by
  unfold x6x;rw[lv1];rfl
 have e2:(tb lvS).length=46:=by kernel_rfl
 unfold y6k;rw[lv1,e,e2,lv3];simp only[lv4];rfl
def lvc:y4d [] [lvN]=0:=by kernel_rfl
def lvt:q7l [] [lvN]=tb (bs [110,111,100,101,32,102,40,97,58,32,105,110,116,41,32,114,101,116,117,114,110,115,32,40,98,58,32,105,110,116,41,10,108,101,116,10,32,32,98,32,61,32,97,59,10,116,101,108,10]):=by kernel_rfl
def lvE:EqOK ⟨[bs [98]], .mk 3 0 (bs [97]) 0 [] []⟩:=⟨by decide,by simp[Ex.size,Ex.j0a],⟨⟨by rw[x1c];decide,by simp,by simp⟩,trivial⟩,fun s hs=>by rw[a1h.1 hs,x1c];decide⟩
def lvK:NdF [] lvN:=by
 have hk:=y1l ((y4c lvc).2 lvN (a1h.2 rfl));have hd: ∀x:Nat,x<=2->True:=fun _ _=>trivial
 refine⟨hk,⟨by decide,by decide,fun x hx=> ?_,fun d hd=> ?_,by show(bs [102]).size<=100000;rw[x1c];decide⟩,by decide,by decide,by decide,by decide,fun x hx=> ?_⟩
 ·rw[a1h.1 (show x∈[_]from hx)];exact lvE
 ·have hd:d∈[⟨bs [97],1,0,0,bs [],bs []⟩,⟨bs [98],1,0,0,bs [],bs []⟩]:=hd;simp only[a1m,List.mem_nil_iff,or_false]at hd;rcases hd with rfl|rfl<;>exact⟨by rw[x1c];decide,by rw[x1c];decide,by rw[x1c];decide⟩
 ·have:=a1h.1 (show x∈[_]from hx);subst this;exact⟨hk.eqs _ hx,lvE,⟨by decide,trivial⟩,by decide⟩
def lv2:cF 13 [.agg [.d (.sl 2 []), .d (.sl 5 (x2j [lvN]))]]=some (.val [.str (bs [110,111,100,101,32,102,40,97,58,32,105,110,116,41,32,114,101,116,117,114,110,115,32,40,98,58,32,105,110,116,41,10,108,101,116,10,32,32,98,32,61,32,97,59,10,116,101,108,10])]):=by
 obtain⟨t,h1,h2,_⟩:=z3v [] [lvN] lvc (by decide) (by decide) (fun _ h=>by cases h) fun n hn=>by rw[a1h.1 hn];exact lvK
 rw[<-x3f (h2.trans lvt)];exact h1
end Go.Vm
end
section
set_option maxRecDepth 1000000
set_option maxHeartbeats 0
namespace Go.Vm
open Go.Proofs
noncomputable section
variable (A : Sy) (E : Env)
def g6 (A:Sy)(E:Env):Option PRes:=(E.call 7 [(.d (.str (bs [110,111,100,101,32,102,40,97,58,32,105,110,116,41,32,114,101,116,117,114,110,115,32,40,98,58,32,105,110,116,41,32,108,101,116,32,98,32,61,32,97,59,32,116,101,108])))]).bind fun p1=>(opL (A.cell p1.leaves 0) 2).bind fun l3=>(opL (A.cell p1.leaves 1) 5).bind fun l4=>(opI (A.cell p1.leaves 2) .i64).bind fun n5=>(opI (A.cell p1.leaves 3) .i64).bind fun n6=>(E.call 10 [(.d (.int .i64 n6))]).bind fun p7=>(opI (A.cell p7.leaves 0) .i64).bind fun n9=>x0u (bif (A.ieq n9 0)then some (.inl [(.bool (A.ieq n5 46))]) else some (.inl [(.bool false)])) fun ds10=>(opB (A.cell ds10 0)).bind fun b11=>x0u (bif b11 then (E.call 13 [(.agg [(.d (.sl 2 l3)),(.d (.sl 5 l4))])]).bind fun p12=>(opS (A.cell p12.leaves 0)).bind fun s14=>some (.inl [(.bool (A.seq s14 (bs [110,111,100,101,32,102,40,97,58,32,105,110,116,41,32,114,101,116,117,114,110,115,32,40,98,58,32,105,110,116,41,10,108,101,116,10,32,32,98,32,61,32,97,59,10,116,101,108,10])))]) else some (.inl [(.bool false)])) fun ds15=>(opB (A.cell ds15 0)).bind fun b16=>some (.val [(.bool b16)])
def k6a:fT A E 6 []=g6 A E:=by kernel_rfl
end
end Go.Vm
end
section
set_option maxRecDepth 100000
set_option maxHeartbeats 4000000
namespace Go.Vm
open Go.Proofs
def v8c (x:Int):cF 10 [.d (.int .i64 x)]=some (.val [.int .i64 x]):=by
 refine cO rfl ?_;rw[k1d];simp only[g10]
def w3c:cF 6 []=some (.val [.bool true]):=by
 have h1:=y5g lvS (by decide)
 rw[lv5]at h1;have h1:cF 7 [.d (.str lvS)]=some (.val [.sl 2 [], .sl 5 (x2j [lvN]), .int .i64 46, .int .i64 0]):=h1;have h2:=v8c 0;have h3:=lv2;refine cO rfl ?_;rw[k6a];unfold g6;rw[z0m,show(bs [110,111,100,101,32,102,40,97,58,32,105,110,116,41,32,114,101,116,117,114,110,115,32,40,98,58,32,105,110,116,41,32,108,101,116,32,98,32,61,32,97,59,32,116,101,108])=lvS from rfl,h1];simp only[go1,h2,h3,x2c]
def z4n (s:BA):(tb s).length=s.size:=x2g s
def NS.ok {n:Nd}(h:NS n):NdOK n:=by
 refine⟨?_,by have:=h.q;omega,fun x hx=>⟨by have:=(h.e x hx).ns;omega,by have:=(h.e x hx).sz;omega,(h.e x hx).fn,fun s hs=>by have:=(h.e x hx).st s hs;omega⟩,fun d hd=> ?_,by have:=h.m;omega⟩
 ·have h1:=h.i.1;have h2:=h.o.1;have h3:=h.v.1;unfold y2c;simp only[a0j];omega
 ·unfold y2c at hd;rcases a1k.1 hd with hd|hd
  ·rcases a1k.1 hd with hd|hd
   ·exact h.i.2 d hd
   ·exact h.o.2 d hd
  ·exact h.v.2 d hd
def EB.ok {x:En}(h:EB x):EnOK x/\x.2.length<=1000000:=⟨⟨by have:=h.1;omega,fun c hc=>by have:=h.2.2 c hc;omega⟩,by have:=h.2.1;omega⟩
theorem y7b: ∀a b:List Ex,Ex.j0l (a++b)↔Ex.j0l a/\Ex.j0l b
 | [],b=>by simp[Ex.j0l]
 |e::a,b=>by simp[Ex.j0l,y7b a b,and_assoc]
def TN (l:List Tk):Prop:= ∀j,(tkA l j).n < 9223372036854775808
theorem n0:(0:Int) < 9223372036854775808:=by decide
theorem n1:(1:Int) < 9223372036854775808:=by decide
def HG (p:PR):Prop:= ∀nt i e j,p nt i= .ok e j->e.rng
section
variable {l : List Tk} (ht : TN l) {n : Nat} {p : PR} (hp : HG p)
include ht hp
theorem z5m (side:Nt)(a m i:Nat)(e:Ex)(j:Nat)(h:x5e l n p side a m i= .ok e j):e.rng:=by
 unfold x5e at h;obtain⟨e1,k,h1,h⟩:=x0a h;refine x3e (fun x:Ex × Nat=>x.1.rng) (fun r j=>r.rng) (fun x y hx hs=> ?_) (fun x r j hx hs=> ?_) n (e1,k) e j (hp _ _ _ _ h1) h
 ·obtain⟨e2,i2⟩:=x;rw[x6d]at hs;split at hs
  ·cases hs
  ·split at hs<;>cases hs
   have:=hp _ _ _ _ ‹_›
   (simp only[x4p,Ex.rng,Ex.j0l]at*;simp_all [n0])
 ·obtain⟨e2,i2⟩:=x;rw[x6d]at hs;split at hs
  ·cases hs;exact hx
  ·split at hs<;>cases hs
theorem v4u (en:BA)(i:Nat)(e:List Ex)(j:Nat)(h:y2l l n p en i= .ok e j):Ex.j0l e:=by
 unfold y2l at h;obtain⟨e1,k,h1,h⟩:=x0a h;have h0:=hp _ _ _ _ h1;refine x3e (fun x:List Ex × Nat=>Ex.j0l x.1) (fun r j=>Ex.j0l r) (fun x y hx hs=> ?_) (fun x r j hx hs=> ?_) n ([e1],k) e j (by(simp only[x4p,Ex.j0l]at*;simp_all [])) h
 ·obtain⟨e2,i2⟩:=x;rw[x9o]at hs;split at hs
  ·split at hs<;>cases hs
   have:=hp _ _ _ _ ‹_›
   (simp only[x4p,Ex.j0l,y7b]at*;simp_all [])
  ·cases hs
 ·obtain⟨e2,i2⟩:=x;rw[x9o]at hs;split at hs
  ·split at hs<;>cases hs
  ·obtain⟨_,k2,h2,h⟩:=x0a (Sum.inr.inj hs);have:=x1g h2;cases h
   (simp only[]at*;simp_all [])
theorem w7x (i:Nat)(e:Ex)(j:Nat)(h:y0a l n p i= .ok e j):e.rng:=by
 unfold y0a at h;obtain⟨e1,k,h1,h⟩:=x0a h;refine x3e (fun x:Ex × Nat=>x.1.rng) (fun r j=>r.rng) (fun x y hx hs=> ?_) (fun x r j hx hs=> ?_) n (e1,k) e j (hp _ _ _ _ h1) h
 ·obtain⟨e2,i2⟩:=x;rw[x8l]at hs;split at hs
  ·split at hs<;>cases hs
   obtain⟨_,k2,h2,h⟩:=x0a ‹_›;obtain⟨_,k3,h3,h⟩:=x0a h;have:=hp _ _ _ _ h2;have:=x1g h3;cases h
   (simp only[x4p,ex,Ex.rng,Ex.j0l]at*;simp_all [n0])
  ·split at hs
   ·split at hs<;>cases hs
    (simp only[x4p,Ex.rng,Ex.j0l]at*;simp_all [n0])
   ·cases hs
 ·obtain⟨e2,i2⟩:=x;rw[x8l]at hs;split at hs
  ·split at hs<;>cases hs
  ·split at hs
   ·split at hs<;>cases hs
   ·cases hs;exact hx
theorem u7o (nm:BA)(es:List Ex)(i:Nat)(e:Ex)(j:Nat)(he:Ex.j0l es)(h:y0e l p nm es i= .ok e j):e.rng:=by
 unfold y0e at h;split at h
 ·obtain⟨_,k2,h2,h⟩:=x0a h;have:=hp _ _ _ _ h2;cases h
  (simp only[x4p,Ex.rng,Ex.j0l,y7b]at*;simp_all [n0,n1])
 ·cases h
  (simp only[x4p,Ex.rng]at*;simp_all [n0])
theorem w6q (i:Nat)(e:Ex)(j:Nat)(h:x6v l n p i= .ok e j):e.rng:=by
 unfold x6v at h;split at h
 ·cases h;(simp only[x4p,Ex.rng,Ex.j0l]at*;simp_all [n0,n1])
 split at h
 ·cases h;(simp only[x4p,ex,Ex.rng,Ex.j0l]at*;simp_all [n0])
 split at h
 ·obtain⟨_,k2,h2,h⟩:=x0a h;have:=v4u ht hp _ _ _ _ h2;cases h
  (simp only[x4p,ex,Ex.rng]at*;simp_all [n0])
 split at h
 ·unfold x7n at h;obtain⟨_,k1,h1,h⟩:=x0a h;have:=hp _ _ _ _ h1;split at h
  ·obtain⟨_,k2,h2,h⟩:=x0a h;obtain⟨_,k3,h3,h⟩:=x0a h;obtain⟨_,k4,h4,h⟩:=x0a h;obtain⟨_,k5,h5,h⟩:=x0a h;obtain⟨_,k6,h6,h⟩:=x0a h;have:=x1g h2;have:=hp _ _ _ _ h3;have:=x1g h4;have:=hp _ _ _ _ h5;have:=x1g h6;cases h
   (simp only[x4p,ex,Ex.rng,Ex.j0l]at*;simp_all [n0])
  ·obtain⟨_,k2,h2,h⟩:=x0a h;have:=x1g h2;cases h
   (simp only[x4p,ex]at*;simp_all [])
 split at h
 ·unfold x8s at h;obtain⟨nm,k1,h1,h⟩:=x0a h;obtain⟨_,k2,h2,h⟩:=x0a h;obtain⟨q,k3,h3,h⟩:=x0a h;have:=x4i h1;have:=x1g h2;have key:=x3e (fun x:List BA × List Ex × Nat × Bool=>Ex.j0l x.2.1) (fun r j=>Ex.j0l r.2) (fun x y hx hs=> ?_) (fun x r j hx hs=> ?_) n ([],[],k2,true) q k3 (by simp[Ex.j0l]) h3
  ·cases h;exact⟨n0,key⟩
  ·obtain⟨ar,es,i2,b⟩:=x;cases b with
   |false=>cases hs
   |true=>
    rw[x4c]at hs;split at hs
    ·obtain⟨a,g1,r1,r⟩:=x0a ‹_›;obtain⟨_,g2,r2,r⟩:=x0a r;obtain⟨e2,g3,r3,r⟩:=x0a r;obtain⟨_,g4,r4,r⟩:=x0a r;have z:=hp _ _ _ _ r3;cases r;split at hs<;>cases hs<;>exact(y7b _ _).2 ⟨hx,z,trivial⟩
    ·cases hs
    ·cases hs
  ·obtain⟨ar,es,i2,b⟩:=x;cases b with
   |false=>cases hs;exact hx
   |true=>
    rw[x4c]at hs;split at hs
    ·split at hs<;>cases hs
    ·cases hs
    ·cases hs
 split at h
 ·unfold x6f at h;obtain⟨_,k1,h1,h⟩:=x0a h;obtain⟨_,k2,h2,h⟩:=x0a h;obtain⟨_,k3,h3,h⟩:=x0a h;obtain⟨_,k4,h4,h⟩:=x0a h;obtain⟨_,k5,h5,h⟩:=x0a h;have:=hp _ _ _ _ h1;have:=x1g h2;have:=hp _ _ _ _ h3;have:=x1g h4;have:=hp _ _ _ _ h5;cases h
  (simp only[x4p,ex,Ex.rng,Ex.j0l]at*;simp_all [n0])
 ·obtain⟨nm,k1,h1,h⟩:=x0a h;have:=x4i h1;split at h
  ·unfold y2q at h;split at h
   ·exact u7o ht hp _ [] _ _ _ trivial h
   ·obtain⟨es,k2,h2,h⟩:=x0a h;have q2:=v4u ht hp _ _ _ _ h2;exact u7o ht hp _ _ _ _ _ q2 h
  ·cases h
   (simp only[x4p,Ex.rng,Ex.j0l]at*;simp_all [n0])
theorem w7l (nt:Nt)(i:Nat)(e:Ex)(j:Nat)(h:ntS l n p nt i= .ok e j):e.rng:=by
 cases nt with
 |or=>exact z5m ht hp _ _ _ _ _ _ h
 |and=>exact z5m ht hp _ _ _ _ _ _ h
 |sum=>exact z5m ht hp _ _ _ _ _ _ h
 |prod=>exact z5m ht hp _ _ _ _ _ _ h
 |post=>exact w7x ht hp _ _ _ h
 |arrow=>
  obtain⟨_,k1,h1,h⟩:=x0a (show x9y l p i= .ok e j from h);have:=hp _ _ _ _ h1;split at h
  ·obtain⟨_,k2,h2,h⟩:=x0a h;have:=hp _ _ _ _ h2;cases h
   (simp only[x4p,ex,Ex.rng,Ex.j0l]at*;simp_all [n0])
  ·cases h;exact this
 |fby=>
  obtain⟨_,k1,h1,h⟩:=x0a (show v1m l p i= .ok e j from h);have:=hp _ _ _ _ h1;split at h
  ·obtain⟨_,k2,h2,h⟩:=x0a h;have:=hp _ _ _ _ h2;cases h
   (simp only[x4p,ex,Ex.rng,Ex.j0l]at*;simp_all [n0])
  ·cases h;exact this
 |cmp=>
  obtain⟨_,k1,h1,h⟩:=x0a (show v1n l p i= .ok e j from h);have:=hp _ _ _ _ h1;split at h
  ·cases h;exact this
  ·obtain⟨_,k2,h2,h⟩:=x0a h;have:=hp _ _ _ _ h2;cases h
   (simp only[x4p,Ex.rng,Ex.j0l]at*;simp_all [n0])
 |un=>
  have h:unS l p i= .ok e j:=h;unfold unS at h;split at h
  ·obtain⟨_,k2,h2,h⟩:=x0a h;have:=hp _ _ _ _ h2;cases h
   (simp only[x4p,Ex.rng,Ex.j0l]at*;simp_all [n0])
  split at h
  ·obtain⟨_,k2,h2,h⟩:=x0a h;have:=hp _ _ _ _ h2;cases h
   (simp only[x4p,Ex.rng,Ex.j0l]at*;simp_all [n0])
  split at h
  ·obtain⟨_,k2,h2,h⟩:=x0a h;have:=hp _ _ _ _ h2;cases h
   (simp only[x4p,ex,Ex.rng,Ex.j0l]at*;simp_all [n0])
  ·exact hp _ _ _ _ h
 |atom=>
  have h:x7i l n p i= .ok e j:=h;have:=ht i;unfold x7i at h;split at h
  ·cases h;(simp only[x4p,Ex.rng,Ex.j0l]at*;simp_all [])
  split at h
  ·cases h;(simp only[x4p,Ex.rng,Ex.j0l]at*;simp_all [n0])
  split at h
  ·cases h;(simp only[x4p,Ex.rng,Ex.j0l]at*;simp_all [n0])
  ·exact w6q ht hp _ _ _ h
end
theorem w4r {l:List Tk}(ht:TN l): ∀n,HG (prs l n)
 |0=>fun nt i e j h=>by cases h
 |n+1=>fun nt i e j h=>w7l ht (w4r ht n) nt i e j h
theorem w0i {l:List Tk}(ht:TN l){i j:Nat}{e:Ex}(h:y3b l i= .ok e j):e.rng:=w4r ht _ _ _ _ _ h
theorem w7z (s:BA)(h:w4s s=true):z7v s < 9223372036854775808:=by
 unfold w4s at h;unfold z7v;cases hp:Lib.parseIntB 64 s.data.toList with
 |ok v=>exact(Lib.parseIntB_bounds hp).2
 |_=>rw[hp]at h;cases h
def TI (t:Tk):Prop:=t.n < 9223372036854775808/\(t.k=4->y4q (tb t.s)=true)
theorem w1c (s:BA)(h:(x0w s).ok=true):(x0w s).n < 9223372036854775808/\((x0w s).k=4->y4q (tb (x0w s).s)=true):=by
 have e4: ∀k:Int,k=4->k≠1/\k≠2/\k≠3/\k≠5:=fun k h=>by omega
 unfold x0w at h ⊢;simp only at h ⊢;split
 ·unfold x9a;simp only;split
  ·exact⟨n0,fun h=>by cases h⟩
  ·exact⟨n0,fun h=>by cases h⟩
 ·rename_i h1 h2;rw[h1,h2]at h;have h:(x4w s).ok=true:=h;unfold x4w at h ⊢;simp only[a0g]at h;exact⟨w7z _ h.1,fun h=>by cases h⟩
 ·rename_i h1 h2 h3;rw[h1,h2,h3]at h;have h:(y1s s).ok=true:=h;unfold y1s at h ⊢;split
  ·rename_i hi;rw[hi]at h;cases h
  ·rename_i i hi;rw[hi]at h;exact⟨n0,fun _=>h⟩
 ·unfold x9l;split
  ·exact⟨n0,fun h=>by cases h⟩
  ·exact⟨n0,fun h=>by cases h⟩
  ·exact⟨n0,fun h=>by cases h⟩
theorem w4z (s:BA): ∀(m a:Nat),(tb s).length - a<=m-> ∀t∈(y1t s a).1,TI t
 |m,a,hm=>by
  rw[y1t];split
  ·rename_i hp;split
   ·rename_i h;have ih:=w4z s (m - 1) (a+x6s ((tb s).drop a)+(x0w (s.extract (a+x6s ((tb s).drop a)) (tb s).length)).w) (by omega)
    intro t ht;rcases a1m.1 ht with rfl|ht
    ·exact w1c _ h.1
    ·exact ih t ht
   ·simp
  ·simp
 termination_by m a=>(tb s).length - a
 decreasing_by omega
theorem q7n (s:BA)(j:Nat):TI (tkA (x6x s) j):=by
 refine z4h (Q:=TI) ⟨n0,fun h=>by cases h⟩ (fun t ht=> ?_) j
 rcases a1k.1 ht with h|h
 ·exact w4z s _ 0 (a0p _) t h
 ·rw[a1h.1 h];exact⟨n0,fun h=>by cases h⟩
theorem q6b (s:BA):TN (x6x s):=fun j=>(q7n s j).1
theorem u2w (s:BA): ∀(m a:Nat),(tb s).length - a<=m->(∀t∈(y1t s a).1,t.a<=(tb s).length)/\((y1t s a).2.2=false->(y1t s a).2.1<=(tb s).length)
 |m,a,hm=>by
  rw[y1t];split
  ·rename_i hp;split
   ·rename_i h;have ih:=u2w s (m - 1) (a+x6s ((tb s).drop a)+(x0w (s.extract (a+x6s ((tb s).drop a)) (tb s).length)).w) (by omega)
    refine⟨fun t ht=> ?_,ih.2⟩
    rcases a1m.1 ht with rfl|ht
    ·exact Nat.le_of_lt hp
    ·exact ih.1 t ht
   ·exact⟨by simp,fun _=>Nat.le_of_lt hp⟩
  ·exact⟨by simp,fun h=>by cases h⟩
 termination_by m a=>(tb s).length - a
 decreasing_by omega
theorem w6z (s:BA)(j:Nat):(tkA (x6x s) j).a<=(tb s).length:=by
 refine z4h (Q:=fun t=>t.a<=(tb s).length) (a0w _) (fun t ht=> ?_) j
 rcases a1k.1 ht with h|h
 ·exact(u2w s _ 0 (a0p _)).1 t h
 ·rw[a1h.1 h];exact a0p _
def NZ {α:Type}(m:RM α):Prop:= ∀i p c,m i= .bad p c->c≠0
section
variable {α β : Type} {l : List Tk} {m : RM α} {k : α -> RM β}
theorem NZ.bind (h1:NZ m)(h2: ∀a,NZ (k a)):NZ (m.bind k):=fun i p c h=>by
 unfold RM.bind at h;cases hm:m i with
 |ok a j=>rw[hm]at h;exact h2 a j p c h
 |bad p2 c2=>rw[hm]at h;cases h;exact h1 i _ _ hm
theorem NZ.ret (a:α):NZ (RM.ret a):=fun i p c h=>by cases h
theorem w4x {f:Nat->Nat}{c0:Int}(h0:c0≠0):NZ (α:=α) (fun j=> .bad (f j) c0):=fun i p c h=>by cases h;exact h0
theorem z1u (x:BA):NZ (tkR l x):=fun i p c h=>by
 unfold tkR at h;split at h<;>cases h
theorem y8y (n:Int):NZ (z4g l n):=fun i p c h=>by
 unfold z4g at h;split at h
 ·cases h
 ·cases h;decide
theorem x6b (w:List BA):NZ (x5v l w):=fun i p c h=>by
 unfold x5v at h;split at h
 ·cases h
 ·cases h;decide
 ·cases h;decide
theorem w8e:NZ (z4d l):=fun i p c h=>by
 unfold z4d at h;split at h
 ·cases h
 ·cases h;decide
 ·cases h;decide
theorem w8j:NZ (y6r l):=fun i p c h=>by
 unfold y6r at h;split at h
 ·cases h;decide
 ·cases h;decide
 ·rename_i e j _;cases h1:x3c e<;>cases h2:y1e e<;>rw[h1,h2]at h<;>cases h<;>decide
theorem w8i (b:Bool):NZ (y0d l b):=fun i p c h=>by
 unfold y0d at h;split at h<;>cases h
theorem z8f (n:Int): ∀(z:Nat) (acc:List BA),NZ (y3h l n z acc)
 |0,acc=>NZ.ret acc
 |z+1,acc=>NZ.bind (z1u _) fun v=>by
  cases v with
  |true=>exact NZ.bind (y8y _) fun t=>z8f n z _
  |false=>exact NZ.ret acc
theorem u5v (n:Int):NZ (y9c l n):=NZ.bind (y8y _) fun t=>z8f n _ _
theorem w8k:NZ (v0l l):=NZ.bind (y8y _) fun _=>NZ.bind (x6b _) fun _=>NZ.bind (u5v _) fun _=>NZ.bind (x6b _) fun _=>NZ.ret _
variable {ens : List En}
theorem w8l:NZ (v8q l ens):=NZ.bind (z1u _) fun v=>by
 cases v with
 |true=>exact NZ.ret _
 |false=>
  refine NZ.bind (z1u _) fun v=> ?_
  cases v with
  |true=>exact NZ.ret _
  |false=>
   refine NZ.bind (y8y _) fun t=> ?_
   unfold u4h;split
   ·exact NZ.ret _
   ·exact w4x (by decide)
theorem k5h:NZ (tyR l ens):=NZ.bind w8l fun b=>NZ.bind (z1u _) fun v=>by
 cases v with
 |false=>exact NZ.ret _
 |true=>
   refine NZ.bind (y8y _) fun t=> ?_
   split
   ·exact w4x (by decide)
   ·exact NZ.bind (x6b _) fun _=>NZ.ret _
theorem v4j:NZ (v0o l ens):=NZ.bind (y8y _) fun t=>NZ.bind (x6b _) fun _=>NZ.bind k5h fun y=>NZ.bind (z1u _) fun v=>by
 cases v with
 |true=>exact NZ.bind w8e fun w=>NZ.ret _
 |false=>exact NZ.ret _
theorem z8h (b:Bool): ∀(z:Nat) (acc:List Dc),NZ (y1b l ens b z acc)
 |0,acc=>NZ.ret acc
 |z+1,acc=>NZ.bind (w8i b) fun v=>by
  cases v with
  |true=>exact NZ.bind v4j fun d=>z8h b z _
  |false=>exact NZ.ret acc
theorem z5f (b:Bool):NZ (y4b l ens b):=NZ.bind v4j fun d=>z8h b _ _
theorem k5i:NZ (eqR l):=NZ.bind (u5v _) fun _=>NZ.bind (x6b _) fun _=>NZ.bind w8j fun _=>NZ.bind (x6b _) fun _=>NZ.ret _
theorem v4i: ∀(z:Nat) (acc:List Eqn),NZ (w5t l z acc)
 |0,acc=>NZ.ret acc
 |z+1,acc=>NZ.bind (z1u _) fun v=>by
  cases v with
  |true=>exact NZ.ret acc
  |false=>exact NZ.bind k5i fun q=>v4i z _
theorem q8q:NZ (q9h l ens):=NZ.bind (z1u _) fun v=>by
 cases v with
 |false=>exact NZ.bind (z5f _) fun d=>NZ.bind (x6b _) fun _=>NZ.ret d
 |true=>exact NZ.ret _
theorem w8f:NZ (v1t l ens):=NZ.bind (z1u _) fun v=>by
 cases v with
 |true=>exact NZ.bind (z5f _) fun d=>NZ.bind (x6b _) fun _=>NZ.ret d
 |false=>exact NZ.ret _
theorem w8h:NZ (u9m l ens):=NZ.bind (y8y _) fun _=>NZ.bind (x6b _) fun _=>NZ.bind q8q fun _=>NZ.bind (x6b _) fun _=>NZ.bind (z5f _) fun _=>NZ.bind (x6b _) fun _=>NZ.bind w8f fun _=>NZ.bind (x6b _) fun _=>NZ.bind (v4i _ _) fun _=>NZ.ret _
theorem z8g: ∀(z:Nat) (acc:List En),NZ (y3v l z acc)
 |0,acc=>NZ.ret acc
 |z+1,acc=>NZ.bind (z1u _) fun v=>by
  cases v with
  |true=>exact NZ.bind w8k fun d=>z8g z _
  |false=>exact NZ.ret acc
theorem z8e: ∀(z:Nat) (acc:List Nd),NZ (y3f l ens z acc)
 |0,acc=>NZ.ret acc
 |z+1,acc=>NZ.bind (z1u _) fun v=>by
  cases v with
  |true=>exact NZ.bind w8h fun d=>z8e z _
  |false=>exact NZ.ret acc
theorem q8r:NZ (v9j l):=fun i p c h=>by
 unfold v9j at h;split at h
 ·cases h
 ·cases h;decide
theorem w8g:NZ (y2i l):=NZ.bind (z8g _ _) fun _=>NZ.bind (z8e _ _) fun _=>NZ.bind q8r fun _=>NZ.ret _
end
section
variable {l : List Tk} (hn : TN l)
include hn
theorem k6q {i j:Nat}{x:Eqn}(h:eqR l i= .ok x j):x.e.rng:=by
 obtain⟨_,_,_,h⟩:=bind_ok h;obtain⟨_,_,_,h⟩:=bind_ok h;obtain⟨e,_,h1,h⟩:=bind_ok h;obtain⟨_,_,_,h⟩:=bind_ok h;cases h;unfold y6r at h1;split at h1
 ·cases h1
 ·cases h1
 ·rename_i e2 j2 hR;cases h3:x3c e2<;>cases h4:y1e e2<;>rw[h3,h4]at h1<;>cases h1
  exact w0i hn hR
theorem v6t: ∀(z:Nat) (acc:List Eqn) {i j:Nat} {r:List Eqn},w5t l z acc i= .ok r j->(∀x∈acc,x.e.rng)-> ∀x∈r,x.e.rng
 |0,acc,i,j,r,h,ha=>by cases h;exact ha
 |z+1,acc,i,j,r,h,ha=>by
  obtain⟨v,_,_,h⟩:=bind_ok h;cases v with
  |true=>cases h;exact ha
  |false=>
   obtain⟨q,_,h1,h⟩:=bind_ok h;exact v6t z _ h (u6f ha (k6q hn h1))
theorem w8m {ens:List En}{i j:Nat}{n:Nd}(h:u9m l ens i= .ok n j): ∀x∈n.eqs,x.e.rng:=by
 obtain⟨_,_,_,h⟩:=bind_ok h;obtain⟨_,_,_,h⟩:=bind_ok h;obtain⟨_,_,_,h⟩:=bind_ok h;obtain⟨_,_,_,h⟩:=bind_ok h;obtain⟨_,_,_,h⟩:=bind_ok h;obtain⟨_,_,_,h⟩:=bind_ok h;obtain⟨_,_,_,h⟩:=bind_ok h;obtain⟨_,_,_,h⟩:=bind_ok h;obtain⟨q,_,h1,h⟩:=bind_ok h;cases h;exact v6t hn _ _ h1 (by simp)
theorem z8m {ens:List En}: ∀(z:Nat) (acc:List Nd) {i j:Nat} {r:List Nd},y3f l ens z acc i= .ok r j->(∀n∈acc,∀x∈n.eqs,x.e.rng)-> ∀n∈r,∀x∈n.eqs,x.e.rng
 |0,acc,i,j,r,h,ha=>by cases h;exact ha
 |z+1,acc,i,j,r,h,ha=>by
  obtain⟨v,_,_,h⟩:=bind_ok h;cases v with
  |false=>cases h;exact ha
  |true=>
   obtain⟨n,_,h1,h⟩:=bind_ok h;exact z8m z _ h (u6f (p:=fun n:Nd=> ∀x∈n.eqs,x.e.rng) ha (w8m hn h1))
theorem w7v {i j:Nat}{r:List En × List Nd}(h:y2i l i= .ok r j): ∀n∈r.2,∀x∈n.eqs,x.e.rng:=by
 obtain⟨_,_,_,h⟩:=bind_ok h;obtain⟨_,_,h1,h⟩:=bind_ok h;obtain⟨_,_,_,h⟩:=bind_ok h;cases h;exact z8m hn _ _ h1 (by simp)
end
def w2i {ens:List En}{nds:List Nd}(h:y4d ens nds=0):ens.length<=4/\0 < nds.length/\nds.length<=6/\ ∀n∈nds,n.ins.length<=6/\n.outs.length<=6/\n.vars.length<=12/\n.eqs.length<=18:=by
 have hE:=(y4c h).1;have h0:ens.length<=4:=by
  unfold x7g at hE;cases h1:x6j ens with
  |true=>rw[h1]at hE;cases hE
  |false=>
   unfold x6j at h1;simp only[Bool.or_eq_false_iff,decide_eq_false_iff_not]at h1;omega
 unfold y4d at h;rw[hE]at h;simp only[decide_true,Bool.not_true,cond_false]at h
 by_cases h2:(nds.length:Int)=0
 ·rw[a0q h2]at h;cases h
 ·rw[decide_eq_false h2]at h;simp only[cond_false]at h;cases h3:(decide (6 < (nds.length:Int)) || nds.any y2a)with
  |true=>rw[h3]at h;cases h
  |false=>
   simp only[Bool.or_eq_false_iff,decide_eq_false_iff_not,List.any_eq_false]at h3;refine⟨h0,by omega,by omega,fun n hn=> ?_⟩
   have:=h3.2 n hn;unfold y2a at this;simp only[Bool.or_eq_true,a0s,not_or]at this;omega
def w0j (s:BA)(hs:s.size<=2500):(∃n c:Int,y6k s=(([],[]),n,c)/\c≠0/\0<=n/\n<=(s.size:Int))\/ ∃ens nds,y6k s=((ens,nds),(s.size:Int),0)/\y4d ens nds=0/\ ∀n∈nds,∀x∈n.eqs,x.e.rng:=by
 have hz:=z4n s;have hp:=u2w s _ 0 (a0p _);unfold y6k;rw[decide_eq_false (by omega: ¬(6000:Int) < ((tb s).length:Int))]
 cases hk:(y1t s 0).2.2 with
 |false=>
  have:=hp.2 hk;exact .inl ⟨_,_,rfl,by decide,by omega,by omega⟩
 |true=>
  simp only;cases hR:y2i (x6x s) 0 with
  |bad p c=>
   have:=w6z s p;exact .inl ⟨_,_,rfl,w8g _ _ _ hR,by omega,by omega⟩
  |ok r j=>
   simp only
   by_cases hc:y4d r.1 r.2=0
   ·refine .inr ⟨r.1,r.2,?_,hc,w7v (q6b s) hR⟩;rw[a0q hc,hz];rfl
   ·refine .inl ⟨((tb s).length:Int),y4d r.1 r.2,?_,hc,by omega,by omega⟩
    rw[decide_eq_false hc];rfl
def w6x (ens:List En)(n:Nd):w6y ens n≠[]:=by
 unfold w6y;rw[z7p];simp
def v0z (s:BA):cF 5 [.d (.str s)]=some (.val [.bool true]):=by
 have hl:=w3c;refine cO rfl ?_;rw[k6b]
 by_cases hs:2500 < (s.size:Int)
 ·simp only[g5,go1,x2r hs,hl]
 ·have hp:=y5g s (by omega)
  have ok:=w0k s (by omega)
  have hn0:decide ((s.size:Int)=(s.size:Int))=true:=a0q rfl;rcases w0j s (by omega)with⟨n,c,e,hc,hn1,hn2⟩|⟨ens,nds,e,hc,hr⟩
  ·rw[e]at hp;have h4:=v8c c;have hp:cF 7 [.d (.str s)]=some (.val [.sl 2 (x0j []), .sl 5 (x2j []), .int .i64 n, .int .i64 c]):=hp;have hmx:decide (n<=max (s.size:Int) 6000)=true:=a0q (by omega)
   simp only[g5,go1,x1q hs,hp,h4,decide_eq_false hc,a0q hn1,hmx,hl,x1x,a0e,show((0:Nat):Int)=0 from rfl]
  ·rw[e]at hp ok;have hp:cF 7 [.d (.str s)]=some (.val [.sl 2 (x0j ens), .sl 5 (x2j nds), .int .i64 (s.size:Int), .int .i64 0]):=hp;have h4:=v8c 0;obtain⟨m1,m2,m3,m4⟩:=w2i hc;obtain⟨hc1,hc2⟩:=y4c hc;have oe: ∀x∈ens,EnOK x:=ok.eo
   have oc: ∀x∈ens,x.2.length<=1000000:=ok.c
   have on: ∀n∈nds,NdOK n:=ok.no
   obtain⟨t,t1,t2,t3⟩:=z3v ens nds hc (by omega) (by omega) (fun x hx=>⟨oe x hx,oc x hx⟩) fun n hn=>⟨y1l (hc2 n hn),on n hn,by have:=m4 n hn;omega,by have:=m4 n hn;omega,by have:=m4 n hn;omega,by have:=m4 n hn;omega,fun x hx=>⟨(y1l (hc2 n hn)).eqs x hx,(on n hn).eo x hx,hr n hn x hx,((on n hn).eo x hx).ns⟩⟩
   have hne: ¬tb t= []:=fun h0=>by
    rw[t2]at h0;unfold q7l at h0;obtain⟨n,r,rfl⟩:=List.exists_cons_of_ne_nil (show nds≠[]from fun e=>by rw[e]at m2;cases m2)
    exact w6x ens n (List.append_eq_nil_iff.1 (List.append_eq_nil_iff.1 h0).2).1
   have e1:(t.toList == (bs []).toList)=false:=by rw[x2c];exact decide_eq_false hne
   by_cases h6:6000 < (t.size:Int)
   ·simp only[g5,go1,x1q hs,hp,h4,t1,x2r h6,e1,hl]
   ·have hp2:=y5g t (by omega)
    have hb:=u9f t ens nds t2 (by rw[z4n];omega) hc hr
    rw[hb]at hp2;have hp2:cF 7 [.d (.str t)]=some (.val [.sl 2 (x0j ens), .sl 5 (x2j nds), .int .i64 ((tb t).length:Int), .int .i64 0]):=hp2;rw[z4n]at hp2;have h3:=q7z ens nds (by omega) (by omega) oc on
    simp only[g5,go1,x1q hs,hp,h4,t1,x1q h6,e1,hp2,h3,hl]
end Go.Vm
end
section
set_option maxRecDepth 100000
namespace Go.Vm
open Go.Proofs Go.RowKit Go.Extern.Stop Go.Stop Go.Extern
def k2w (t:Value)(w:World):Calls Tryz.prog 16 #[.nilIface,t] w fun e w'=>e= .returned (.bool false)/\w'=w:=by
 go_enter Tryz.func16,Tryz.ntmps16
 go_wp2
 go_ret
 exact⟨rfl,rfl⟩
def v1v (t:Addr)(w:World):(ReflectliteValue.unpack (.iface 53 (.pointer (some t)))).run Tryz.prog w= .ok (.agg #[.pointer (some ⟨12,53,none⟩), .pointer (some ⟨w.heap.size,0,none⟩), .int .u64 150]) (w.alloc (.cells #[.pointer (some t)] 53)):=by kernel_rfl
def q7h (a:Addr)(w:World):(ReflectliteValue.methodAny (ReflectliteValue.valueError "reflectlite.Value.Type" 0) (fun t _ _ _=>ReflectliteType.toType t) #[.agg #[.pointer (some ⟨12,53,none⟩), .pointer (some a), .int .u64 150]]).run Tryz.prog w= .ok (.iface 142 (.agg #[.pointer (some ⟨12,53,none⟩)])) w:=by kernel_rfl
def q9f (w:World):((ReflectliteType.abiMethod fun t=>(fun a:Nat=>Value.int IntKind.u8 (a:Int)) <$> Rtype.kind t) #[.pointer (some ⟨12,53,none⟩)]).run Tryz.prog w= .ok (.int .u8 22) w:=by kernel_rfl
def q9g (w:World):((ReflectliteType.abiMethod fun t=>(fun a:Nat=>Value.int IntKind.u8 (a:Int)) <$> Rtype.kind t) #[.pointer (some ⟨12,51,none⟩)]).run Tryz.prog w= .ok (.int .u8 25) w:=by kernel_rfl
def rlm (z:Sem Value)(f:TypeId->Addr->Nat->Nat->Sem Value)(v:Value):ReflectliteValue.method z f #[v]=(do match <-ReflectliteValue.parts v with|none=>z|some (t,a,fl)=>f t a fl (fl % 32)):=rfl
def v3z (a:Addr)(w:World):(ReflectliteValue.parts (.agg #[.pointer (some ⟨12,53,none⟩), .pointer (some a), .int .u64 150])).run Tryz.prog w= .ok (some (53,a,150)) w:=by kernel_rfl
def w9h (a p:Addr)(W:World)(ha:W.cell? a=some (.pointer (some p))):(ReflectliteValue.method (ReflectliteValue.valueError "reflectlite.Value.IsNil" 0) ReflectliteValue.isNil #[.agg #[.pointer (some ⟨12,53,none⟩), .pointer (some a), .int .u64 150]]).run Tryz.prog W= .ok (.bool false) W:=by
 rw[rlm];simp only[Sem.run_bind,v3z,Result.andThen];simp[ReflectliteValue.isNil,loadVar,isAgg,underlying,Tryz.underlying53,ha,Result.andThen]
def k1o (w:World):(ReflectliteType.method ReflectliteType.elem #[.agg #[.pointer (some ⟨12,53,none⟩)]]).run Tryz.prog w= .ok (.iface 142 (.agg #[.pointer (some ⟨12,51,none⟩)])) w:=by kernel_rfl
def z9g (w:World):(ReflectliteType.relation "Implements" ReflectliteType.implements_ #[.agg #[.pointer (some ⟨12,51,none⟩)], .iface 142 (.agg #[.pointer (some ⟨12,45,none⟩)])]).run Tryz.prog w= .ok (.bool true) w:=by kernel_rfl
def v9u (v:Value)(w:World):(ReflectliteType.typeOf #[.iface 51 v]).run Tryz.prog w= .ok (.iface 142 (.agg #[.pointer (some ⟨12,51,none⟩)])) w:=by kernel_rfl
def u1h (w:World):(ReflectliteType.relation "AssignableTo" ReflectliteType.assignableTo #[.agg #[.pointer (some ⟨12,51,none⟩)], .iface 142 (.agg #[.pointer (some ⟨12,51,none⟩)])]).run Tryz.prog w= .ok (.bool true) w:=by kernel_rfl
def v1w (a b:Int)(w:World):(ReflectliteValue.unpack (.iface 51 (.agg #[.int .i64 a, .int .i64 b]))).run Tryz.prog w= .ok (.agg #[.pointer (some ⟨12,51,none⟩), .pointer (some ⟨w.heap.size,0,none⟩), .int .u64 153]) (w.alloc (.cells #[.int .i64 a, .int .i64 b] 51)):=by kernel_rfl
def w2c (w:World):(Rtype.elem? 53).run Tryz.prog w= .ok (some 51) w:=by kernel_rfl
def mk51 (p:Addr)(w:World):(ReflectliteValue.mk 51 p ReflectliteValue.flagAddr).run Tryz.prog w= .ok (.agg #[.pointer (some ⟨12,51,none⟩), .pointer (some p), .int .u64 409]) w:=by kernel_rfl
def q2r (a p:Addr)(W:World)(ha:W.cell? a=some (.pointer (some p))):(ReflectliteValue.method (ReflectliteValue.valueError "reflectlite.Value.Elem" 0) ReflectliteValue.elem #[.agg #[.pointer (some ⟨12,53,none⟩), .pointer (some a), .int .u64 150]]).run Tryz.prog W= .ok (.agg #[.pointer (some ⟨12,51,none⟩), .pointer (some p), .int .u64 409]) W:=by
 rw[rlm];simp only[Sem.run_bind,v3z,Result.andThen];simp[ReflectliteValue.elem,loadVar,isAgg,underlying,Tryz.underlying53,ha,Result.andThen,w2c,mk51]
def rls (v x:Value):ReflectliteValue.set #[v,x]=(do
  let (some (dst,a,fl),some (src,b,_)):=(<-ReflectliteValue.parts v,<-ReflectliteValue.parts x)
   |unsupported (.noEntry "extern/(internal/reflectlite.Value).Set.zeroValue")
  if fl / ReflectliteValue.flagAddr % 2 == 0 then unsupported (.noEntry "extern/(internal/reflectlite.Value).Set.unaddressable")
  let val <-loadVar src b
  if <-Rtype.directlyAssignable dst src then storeVar dst a val
  else if <-Rtype.implements dst src then
   if(<-Rtype.kind src) == 20 then
    match val with
    | .nilIface=>unsupported (.noEntry "extern/reflectlite: a nil value of one interface type handed on as a value of another")
    |_=>storeVar dst a val
   else storeVar dst a (.iface src val)
  else panicString ("reflectlite.Set: value of type " ++(<-Rtype.spelt src)++ " is not assignable to type " ++(<-Rtype.spelt dst))
  pure (.tuple #[])):=rfl
def w0q (a:Addr)(w:World):(ReflectliteValue.parts (.agg #[.pointer (some ⟨12,51,none⟩), .pointer (some a), .int .u64 409])).run Tryz.prog w= .ok (some (51,a,409)) w:=by kernel_rfl
def w8b (a:Addr)(w:World):(ReflectliteValue.parts (.agg #[.pointer (some ⟨12,51,none⟩), .pointer (some a), .int .u64 153])).run Tryz.prog w= .ok (some (51,a,153)) w:=by kernel_rfl
def w2d (w:World):(Rtype.directlyAssignable 51 51).run Tryz.prog w= .ok true w:=by kernel_rfl
def w9j (w:World):(isAgg 51).run Tryz.prog w= .ok true w:=by kernel_rfl
def u5c (w:World):(sizeOf 51).run Tryz.prog w= .ok 2 w:=by kernel_rfl
def q9c (b:Nat)(x y:Int)(W:World)(hb:W.heap[b]? =some (.cells #[.int .i64 x, .int .i64 y] 51 (0,0))):(loadVar 51 ⟨b,0,none⟩).run Tryz.prog W= .ok (.agg #[.int .i64 x, .int .i64 y]) W:=by
 have h:=run_loadCells_list (P:=Tryz.prog) W ⟨b,0,none⟩ [.int .i64 x, .int .i64 y] (fun j v hv=>by
  have hadd:(⟨b,0,none⟩:Addr).add j=⟨b,j,none⟩:=by unfold Addr.add;split<;>simp_all
  rw[hadd];simp only[World.cell?,hb]
  match j,hv with
  |0,hv=>simpa using hv
  |1,hv=>simpa using hv
  |j+2,hv=>simp at hv)
 simp only[loadVar,Sem.run_bind,w9j,Result.andThen,if_true,u5c];have h:(loadCells ⟨b,0,none⟩ 2).run Tryz.prog W= .ok #[.int .i64 x, .int .i64 y] W:=h;rw[h];rfl
def w7i (t:Nat)(x y:Int)(us:Array Value)(W:World)(ht:W.heap[t]? =some (.cells us 51 (0,0)))(hu:us.size=2):(storeVar 51 ⟨t,0,none⟩ (.agg #[.int .i64 x, .int .i64 y])).run Tryz.prog W= .ok () (W.setRow t #[.int .i64 x, .int .i64 y]):=by
 have h:=run_storeCells_at Tryz.prog t 0 51 [.int .i64 x, .int .i64 y] 0 us W ht (by simp[hu]) (by simp[Value.oneCell'])
 have e:(us.toList.take (0+0)++[Value.int .i64 x,Value.int .i64 y]++us.toList.drop (0+0+[Value.int .i64 x,Value.int .i64 y].length)).toArray= #[.int .i64 x, .int .i64 y]:=by
  have:us.toList.drop 2= []:=List.drop_of_length_le (by simp[hu])
  simp[this]
 rw[e]at h;simp only[storeVar,Sem.run_bind,u5c,Result.andThen];exact h
def k4q (t b:Nat)(x y:Int)(us:Array Value)(W:World)(hb:W.heap[b]? =some (.cells #[.int .i64 x, .int .i64 y] 51 (0,0)))(ht:W.heap[t]? =some (.cells us 51 (0,0)))(hu:us.size=2):
  (ReflectliteValue.set #[.agg #[.pointer (some ⟨12,51,none⟩), .pointer (some ⟨t,0,none⟩), .int .u64 409], .agg #[.pointer (some ⟨12,51,none⟩), .pointer (some ⟨b,0,none⟩), .int .u64 153]]).run Tryz.prog W= .ok (.tuple #[]) (W.setRow t #[.int .i64 x, .int .i64 y]):=by
 rw[rls];simp only[Sem.run_bind,w0q,w8b,Result.andThen];simp[ReflectliteValue.flagAddr,q9c b x y W hb,Result.andThen,w2d,w7i t x y us W ht hu]
def u9q (h:Value)(w:World):(Go.method 437 142 (.agg #[h]) "Kind").run Tryz.prog w= .ok (309,h) w:=by kernel_rfl
def u9r (h:Value)(w:World):(Go.method 437 142 (.agg #[h]) "Elem").run Tryz.prog w= .ok (319, .agg #[h]) w:=by kernel_rfl
def y6m (h:Value)(w:World):(Go.method 437 142 (.agg #[h]) "Implements").run Tryz.prog w= .ok (320, .agg #[h]) w:=by kernel_rfl
def y3l (h:Value)(w:World):(Go.method 437 142 (.agg #[h]) "AssignableTo").run Tryz.prog w= .ok (317, .agg #[h]) w:=by kernel_rfl
def u8j {w:World}(o:Obj){k:Nat}(h:k < w.heap.size):(w.alloc o).heap[k]? =w.heap[k]? :=by
 show(w.heap.push o)[k]? =_;rw[a2c,if_neg (by omega)]
def k2z (w:World)(o:Obj):(w.alloc o).heap[w.heap.size]? =some o:=by
 show(w.heap.push o)[w.heap.size]? =_;rw[a2c,if_pos rfl]
def y5n (w:World)(o:Obj):(w.alloc o).heap.size=w.heap.size+1:=by
 show(w.heap.push o).size=_;rw[Array.size_push]
def w4 (w:World)(t:Nat)(x y:Int):World:=((((w.alloc (.cells #[.pointer (some ⟨t,0,none⟩)] 53)).alloc (.cells #[.pointer (some ⟨12,53,none⟩), .pointer (some ⟨w.heap.size,0,none⟩), .int .u64 150] 101)).alloc (.cells #[.pointer (some ⟨12,53,none⟩), .pointer (some ⟨w.heap.size,0,none⟩), .int .u64 150] 101)).alloc (.cells #[.int .i64 x, .int .i64 y] 51))
set_option maxHeartbeats 4000000 in
def k2x (t:Nat)(x y:Int)(us:Array Value)(w:World)(hg:w.cell? ⟨0,0,none⟩=some (.iface 142 (.agg #[.pointer (some ⟨12,45,none⟩)])))(ht:w.heap[t]? =some (.cells us 51 (0,0)))(hu:us.size=2):
  Calls Tryz.prog 16 #[.iface 51 (.agg #[.int .i64 x, .int .i64 y]), .iface 53 (.pointer (some ⟨t,0,none⟩))] w fun ev w'=>ev= .returned (.bool true)/\w'=(w4 w t x y).setRow t #[.int .i64 x, .int .i64 y]:=by
 unfold w4;have h6:=@run_callFunc_extern Tryz.prog 43 _ (fun args=>ReflectliteValue.unpack (args.getD 0 (.tuple #[]))) Tryz.func43 (by kernel_rfl) (by kernel_rfl) (by kernel_rfl) (by kernel_rfl)
 have h7:=@run_callFunc_extern Tryz.prog 44 _ (ReflectliteValue.methodAny (ReflectliteValue.valueError "reflectlite.Value.Type" 0) (fun t _ _ _=>ReflectliteType.toType t)) Tryz.func44 (by kernel_rfl) (by kernel_rfl) (by kernel_rfl) (by kernel_rfl)
 have h8:=@run_callFunc_extern Tryz.prog 45 _ (ReflectliteValue.method (ReflectliteValue.valueError "reflectlite.Value.IsNil" 0) ReflectliteValue.isNil) Tryz.func45 (by kernel_rfl) (by kernel_rfl) (by kernel_rfl) (by kernel_rfl)
 have h27:=@run_callFunc_extern Tryz.prog 309 _ (ReflectliteType.abiMethod fun t=>do pure (.int .u8 (<-Rtype.kind t))) Tryz.func309 (by kernel_rfl) (by kernel_rfl) (by kernel_rfl) (by kernel_rfl)
 have h37:=@run_callFunc_extern Tryz.prog 319 _ (ReflectliteType.method ReflectliteType.elem) Tryz.func319 (by kernel_rfl) (by kernel_rfl) (by kernel_rfl) (by kernel_rfl)
 have h38:=@run_callFunc_extern Tryz.prog 320 _ (ReflectliteType.relation "Implements" ReflectliteType.implements_) Tryz.func320 (by kernel_rfl) (by kernel_rfl) (by kernel_rfl) (by kernel_rfl)
 have h10:=@run_callFunc_extern Tryz.prog 91 _ ReflectliteType.typeOf Tryz.func91 (by kernel_rfl) (by kernel_rfl) (by kernel_rfl) (by kernel_rfl)
 have h35:=@run_callFunc_extern Tryz.prog 317 _ (ReflectliteType.relation "AssignableTo" ReflectliteType.assignableTo) Tryz.func317 (by kernel_rfl) (by kernel_rfl) (by kernel_rfl) (by kernel_rfl)
 have h11:=@run_callFunc_extern Tryz.prog 92 _ (ReflectliteValue.method (ReflectliteValue.valueError "reflectlite.Value.Elem" 0) ReflectliteValue.elem) Tryz.func92 (by kernel_rfl) (by kernel_rfl) (by kernel_rfl) (by kernel_rfl)
 have h12:=@run_callFunc_extern Tryz.prog 93 _ ReflectliteValue.set Tryz.func93 (by kernel_rfl) (by kernel_rfl) (by kernel_rfl) (by kernel_rfl)
 have tO:=v9u;have mA:=y3l;have a25:=u1h;have v25:=v1w;have f6:=v1v;have f7:=q7h;have mK:=u9q;have mE:=u9r;have mI:=y6m;have k27:=q9f;have k25:=q9g;have e27:=k1o;have i25:=z9g;have n8:=w9h ⟨w.heap.size,0,none⟩ ⟨t,0,none⟩ ((w.alloc (.cells #[.pointer (some ⟨t,0,none⟩)] 53)).alloc (.cells #[.pointer (some ⟨12,53,none⟩), .pointer (some ⟨w.heap.size,0,none⟩), .int .u64 150] 101)) (by simp)
 have hlt:0 < w.heap.size:=by
  rcases Nat.eq_zero_or_pos w.heap.size with h0|h
  ·simp[World.cell?,h0]at hg
  ·exact h
 have hg2:((w.alloc (.cells #[.pointer (some ⟨t,0,none⟩)] 53)).alloc (.cells #[.pointer (some ⟨12,53,none⟩), .pointer (some ⟨w.heap.size,0,none⟩), .int .u64 150] 101)).cell? ⟨0,0,none⟩=some (.iface 142 (.agg #[.pointer (some ⟨12,45,none⟩)])):=by
  rw[World.cell?_alloc_lt _ _ ⟨0,0,none⟩ (by simp),World.cell?_alloc_lt _ _ ⟨0,0,none⟩ hlt];exact hg
 have htl:t < w.heap.size:=(a0r.1 ht).1;have el:=q2r ⟨w.heap.size,0,none⟩ ⟨t,0,none⟩ (((w.alloc (.cells #[.pointer (some ⟨t,0,none⟩)] 53)).alloc (.cells #[.pointer (some ⟨12,53,none⟩), .pointer (some ⟨w.heap.size,0,none⟩), .int .u64 150] 101)).alloc (.cells #[.pointer (some ⟨12,53,none⟩), .pointer (some ⟨w.heap.size,0,none⟩), .int .u64 150] 101)) (by rw[World.cell?_alloc_lt _ _ ⟨w.heap.size,0,none⟩ (by simp;omega)];simp)
 have st:=k4q t (w.heap.size+1+1+1) x y us (w4 w t x y)
  (by unfold w4;have h:=k2z (((w.alloc (.cells #[.pointer (some ⟨t,0,none⟩)] 53)).alloc (.cells #[.pointer (some ⟨12,53,none⟩), .pointer (some ⟨w.heap.size,0,none⟩), .int .u64 150] 101)).alloc (.cells #[.pointer (some ⟨12,53,none⟩), .pointer (some ⟨w.heap.size,0,none⟩), .int .u64 150] 101)) (.cells #[.int .i64 x, .int .i64 y] 51);rw[y5n,y5n,y5n]at h;exact h)
  (by unfold w4;rw[u8j _ (by simp only[y5n];omega),u8j _ (by simp only[y5n];omega),u8j _ (by simp only[y5n];omega),u8j _ htl];exact ht) hu
 unfold w4 at st
 go_enter Tryz.func16,Tryz.ntmps16
 go_wp2
 refine wp_loop_rounds 1 ?_;rw[rounds_succ]
 go_wp2
 go_ret
 exact⟨rfl,rfl⟩
end Go.Vm
end
section
set_option maxRecDepth 100000
namespace Go.Vm
open Go.Proofs Go.RowKit Go.Shelf
def q9l:Ren:=⟨fun|4=>174|n=>n,fun|22=>68|25=>127|n=>n,fun n=>n⟩
def q9m:Lays8.n4 Tryz.prog q9l where
 mixed:=by kernel_rfl
 f4:=Exists.intro ("slices.Grow[[]noria/api.Decl,noria/api.Decl]") ⟨by decide+kernel,Tryz.func174.trans (congrArg some (by kernel_rfl))⟩
 t0:=Tryz.underlying0
 a0:=Tryz.isAgg0
 z0:=Tryz.sizeOf0
 v0:=Tryz.zeroValue0
 t3:=Tryz.underlying3
 a3:=Tryz.isAgg3
 z3:=Tryz.sizeOf3
 v3:=Tryz.zeroValue3
 t4:=Tryz.underlying4
 a4:=Tryz.isAgg4
 z4:=Tryz.sizeOf4
 v4:=Tryz.zeroValue4
 t9:=Tryz.underlying9
 a9:=Tryz.isAgg9
 z9:=Tryz.sizeOf9
 v9:=Tryz.zeroValue9
 t20:=Tryz.underlying20
 a20:=Tryz.isAgg20
 z20:=Tryz.sizeOf20
 v20:=Tryz.zeroValue20
 t22:=Tryz.underlying68
 a22:=Tryz.isAgg68
 z22:=Tryz.sizeOf68
 v22:=Tryz.zeroValue68
def v5j (n:Int)(h:0<=n/\n<=1000000):v1i Tryz.prog 174 [.nils, .d (.int .i64 n)] 127 6 []:=by
 intro g w us hs hu;obtain⟨h1,h2⟩:=hu;have hn0:g.n=0:=hs.n
 match us,h1 with
 | [u0,u1],_=>
   have e0:u0= .slice none 0 0:=by
    have:=h2 0 u0 _ rfl rfl;cases this;rfl
   have e1:=x0k (h2 1 u1 _ rfl rfl);subst e0;subst e1;have key: ∀(w':World) (u:Value),Fr (fun _=>False) w w'->(u= .slice none 0 0\/ ∃(us:Array Value) (cap:Nat),u= .slice (some ⟨w.heap.size,0,none⟩) 0 cap/\cap<=maxLen/\w'.heap[w.heap.size]? =some (.cells us 127 (0,0))/\us.size=cap*6)-> ∃u2 g',Ending.returned u= .returned u2/\Rep w' g' u2 (.own 0)/\Keep [] g [] w g' [.arr 127 6 []] w':=by
    intro w' u hfr hu;have hv:(g.push w.heap.size u).val g.n=u:=by simp[Gh.push]
    have hbk:(g.push w.heap.size u).blk g.n=w.heap.size:=by simp[Gh.push]
    refine⟨u,g.push w.heap.size u,rfl,?_,Keep.push hs _ _ _ hfr ⟨fun i r hr=>by simp at hr,?_⟩ fun k hk=> ?_⟩
    ·have:=Rep.own (w:=w') (g:=g.push w.heap.size u) g.n (by simp[Gh.push])
     rw[hv,hn0]at this;exact this
    ·rcases hu with hu|⟨us,cap,hu,hc,hh,hz⟩
     ·exact .inl ⟨by rw[hv];exact hu,rfl⟩
     ·exact .inr ⟨us,cap,by rw[hv,hbk];exact hu,a0w _,hc,by rw[hbk];exact hh,hz,fun i r j c hr=>by simp at hr⟩
    ·unfold Box.at? at hk;simp only[hv]at hk;rcases hu with rfl|⟨us,cap,rfl,_⟩
     ·cases hk
     ·simp at hk;omega
   obtain⟨m,rfl⟩: ∃m:Nat,n=m:=⟨n.toNat,by omega⟩
   by_cases hm:m=0
   ·subst hm;refine(Any8.slices_Grow_room q9m none 0 0 0 w (by omega) (by omega) (by omega) (by omega)).mono ?_
    rintro e w' ⟨rfl,rfl⟩
    exact key _ _ (Fr.refl _ _) (.inl rfl)
   ·have hinfo:(Tryz.prog.info? 127).map (fun i=>(i.zero,i.size,i.bytes))=some (some (.agg #[.string ⟨#[]⟩, .int .i64 0, .int .i64 0, .int .i64 0, .string ⟨#[]⟩, .string ⟨#[]⟩]),6,72):=by kernel_rfl
    obtain⟨i,hi,hz0,hz1,hz2⟩:=info_parts hinfo;have hL:=Any8.slices_Grow_grow q9m i _ hi hz0 (by omega) none 0 0 m [] w (by omega) (by omega) (by rw[hz2];omega) (by omega) (by simp) (fun _=>rfl) (fun a h=>by cases h)
    refine hL.mono ?_
    rintro e w' ⟨rfl,rfl⟩
    have hge:=grownCap_ge w (0+m) 0 127;have hcm:grownCap w (0+m) 0 127<=maxLen:=grownCap_le_maxLen w (0+m) 0 127 (by unfold maxLen;omega)
    refine key _ _ ((Fr.drew _ w).trans (Fr.alloc _ _ _)) (.inr ⟨_,_,rfl,hcm,(MapKept.heap_alloc w.drew _).1,?_⟩);show(#[]++_++_).size=grownCap w (0+m) 0 127*6;simp only[Array.size_append,size_zeroCells,Value.cells,List.size_toArray,a0a,a0e,a1y,show q9l.t 25=127 from rfl]at hge ⊢;omega
def hsA:List Box:=[.cells (.ty 51) [.d (.int .i64 0), .d (.int .i64 0)]]
def u4n (a c:Int):x9s Tryz.prog [] 16 [.ifo 51 true [.int .i64 a, .int .i64 c], .ifp 53 0 0] hsA (.d (.bool false)) hsA:=by
 intro g w us hs hu;obtain⟨h1,h2⟩:=hu
 match us,h1 with
 | [u0,u1],_=>
   have e0:u0= .nilIface:=by
    have:=h2 0 u0 _ rfl rfl;cases this;rfl
   subst e0;refine(k2w u1 w).mono ?_
   rintro e w' ⟨rfl,rfl⟩
   exact⟨_,g,rfl, .d (.bool _),Keep.refl hs⟩
def u4o (a c:Int):x9s Tryz.prog [] 16 [.ifo 51 false [.int .i64 a, .int .i64 c], .ifp 53 0 0] hsA (.d (.bool true)) [.cells (.ty 51) [.d (.int .i64 a), .d (.int .i64 c)]]:=by
 intro g w us hs hu;obtain⟨h1,h2⟩:=hu
 match us,h1 with
 | [u0,u1],_=>
   have e0:u0= .iface 51 (.agg #[.int .i64 a, .int .i64 c]):=by
    have:=h2 0 u0 _ rfl rfl;cases this with
    |ifo1 t vs cs hl h=>
     congr 2
     match vs,hl,h with
     |⟨[x,y]⟩,_,h=>
      have e1:=h 0 x _ rfl rfl;have e2:=h 1 y _ rfl rfl;cases e1;cases e2;rfl
   have e1:u1= .iface 53 (.pointer (some ⟨g.blk 0,0,none⟩)):=by
    have:=h2 1 u1 _ rfl rfl;cases this;rfl
   subst e0;subst e1;have hb:=hs.rep 0 _ rfl;obtain⟨vs,hh,hsz,hr⟩:=x4o hb;have hg:w.cell? ⟨0,0,none⟩=some (.iface 142 (.agg #[.pointer (some ⟨12,45,none⟩)])):=(hs.tab.2 (0,[Value.iface 142 (.agg #[.pointer (some ⟨12,45,none⟩)])]) (by simp[gV]) 0).2
   refine(k2x (g.blk 0) a c vs w hg hh (by simpa using hsz)).mono ?_
   rintro e w' ⟨rfl,rfl⟩
   have hf4:Fr (fun _=>False) w (w4 w (g.blk 0) a c):=(((Fr.alloc _ _ _).trans (Fr.alloc _ _ _)).trans (Fr.alloc _ _ _)).trans (Fr.alloc _ _ _)
   have k1:Keep [] g hsA w g hsA (w4 w (g.blk 0) a c):=Keep.j2g hs hf4;have hlt:g.blk 0 < w.heap.size:=(a0r.1 hh).1;have hh4:(w4 w (g.blk 0) a c).heap[g.blk 0]? =some (.cells vs 51 (0,0)):=by rw[hf4.block _ hlt (fun h=>h)];exact hh
   have hrow:=setRow_heap (w4 w (g.blk 0) a c) (g.blk 0) vs #[.int .i64 a, .int .i64 c] 51 (0,0) hh4;have k2:=Keep.turn (y:= .cells (.ty 51) [.d (.int .i64 a), .d (.int .i64 c)]) k1.heap (b:=0) rfl [] (.inl ⟨rfl,rfl⟩) rfl rfl rfl (fun _ _=>⟨rfl,rfl⟩) ((y8f (w4 w (g.blk 0) a c) (g.blk 0) #[.int .i64 a, .int .i64 c]).mono fun k hk=>by simp[Box.at?,hk])
    ⟨_,_,hrow,rfl,rfl,fun i u v hu hv=>by
      match i with
      |0=>simp at hu hv;subst hu;subst hv;exact .d (.int _ _)
      |1=>simp at hu hv;subst hu;subst hv;exact .d (.int _ _)
      |i+2=>simp at hu⟩ (fun k hk=> .inl hk)
   exact⟨_,g,rfl, .d (.bool _),k1.trans k2⟩
def q9e {k:Nat}{key:List V}{p:PRes}(h:1000000<=k)(h2:kn k key=some p):k=1000016/\knA key=some p:=by
 unfold kn at h2;rw[v8p (show 127 < k by omega),v8p (show 174 < k by omega)]at h2
 simp only at h2;split at h2
 ·rename_i hf;exact⟨Nat.eq_of_beq_eq_true hf,h2⟩
 ·cases h2
def w9d:q6h Tryz.prog kn:=by
 refine⟨w9c,fun f args p hgf ha h=> ?_,fun f key pn as' hs p hgf hd h=> ?_⟩
 ·unfold kn at h;split at h
  ·rename_i hf;have hf:=Nat.eq_of_beq_eq_true hf;subst hf;unfold knF at h;split at h
   ·rename_i s;split at h
    ·rename_i hd;cases h;exact u3r s (a0f hd)
    ·cases h
   ·cases h
  ·split at h
   ·rename_i hf;have hf:=Nat.eq_of_beq_eq_true hf;subst hf;unfold knG at h;split at h
    ·rename_i n;split at h
     ·rename_i hd;cases h;exact⟨68,by kernel_rfl,by kernel_rfl,v5j n (a0f hd)⟩
     ·cases h
    ·cases h
   ·split at h
    ·rename_i hf;have hf:=Nat.eq_of_beq_eq_true hf;subst hf;exact absurd hgf (by rw[show x4f Tryz.prog 1000016=false by kernel_rfl];simp)
    ·cases h
 ·obtain⟨hf,hA⟩:=q9e (a0f (v8i f)) h;clear h;have hf:f=16:=by have:=u7z f;rw[hf]at this;exact this.symm
  subst hf;unfold knA at hA;split at hA
  ·rename_i b a c;clear hgf;obtain rfl:=Option.some.inj hA;clear hA;have hd:(0,[.ifo 51 b [.int .i64 a, .int .i64 c], .ifp 53 0 0],hsA)=(pn,as',hs):=Option.some.inj hd;cases hd;intro ts E q hE hsig hr;have hts:ts= [4]:=Option.some.inj (hsig.symm.trans (show z1r Tryz.prog 16=some [4] by kernel_rfl))
   subst hts;have hM:x7j hsA= []:=rfl;rw[hM];cases b with
   |true=>
    have e:(v1b sy Tryz.prog 0 [4] [.ifo 51 true [.int .i64 a, .int .i64 c], .ifp 53 0 0] hsA [.bool false, .int .i64 0, .int .i64 0]).run E=some (.d (.bool false),hsA):=by kernel_rfl
    rw[show(PRes.val [.bool false, .int .i64 0, .int .i64 0]).leaves= [.bool false, .int .i64 0, .int .i64 0]from rfl,e]at hr;cases hr;exact u4n a c
   |false=>
    have e:(v1b sy Tryz.prog 0 [4] [.ifo 51 false [.int .i64 a, .int .i64 c], .ifp 53 0 0] hsA [.bool true, .int .i64 a, .int .i64 c]).run E=some (.d (.bool true),[.cells (.ty 51) [.d (.int .i64 a), .d (.int .i64 c)]]):=by kernel_rfl
    rw[show(PRes.val [.bool true, .int .i64 a, .int .i64 c]).leaves= [.bool true, .int .i64 a, .int .i64 c]from rfl,e]at hr;cases hr;exact u4o a c
  ·cases hA
end Go.Vm
end
