/- Part ROK of the proof. What is proved by the whole: the statement that the claim names, with no condition. -/
import Derived.Test.YtdilhaphlahfjaaGreatDoorROJ
set_option linter.all false
section
set_option maxRecDepth 100000
set_option maxHeartbeats 4000000
namespace Go.Vm
open Go.Proofs
section
variable {l : List Tk} {i j k N : Nat} {e x y : Ex}
def x1z (h: ∀i,Az l i (fm (pcs e))->f1 (tkT (tkA l (i+tL e)))=true-> ∃N,N<=20*tL e/\Ev l .atom i e (i+tL e) N):v9e l e:=fun i ha hf=>by
 obtain⟨N,hN,h⟩:=h i ha hf;exact q6o (h.mono hN)
def k5k {s:BA}(h:tb s= []):s=bs []:=x3f (by rw[h];rfl)
def q4q (o:Nat)(h3:3<=o)(h16:o<=16)(hj:tkT (tkA l j)=⟨if 7<=o/\o<=10 then 1 else 5,tb (y0k o),0⟩)(hk:tkT (tkA l k)=⟨5,[41],0⟩)
  (hx: ∀nt,nt≠ .atom->foB nt (tkT (tkA l j))=true->Ev l nt i x j N) (hy: ∀nt,nt≠ .atom->foB nt (tkT (tkA l k))=true->Ev l nt (j+1) y k N) (hN:2<=N):Ev l .arrow i (x4p o x y) k (N+10):=by
 have q: ∀nt,foB nt ⟨5,[41],0⟩=true->foB nt (tkT (tkA l k))=true:=fun nt h=>by rw[hk];exact h
 match o,h3,h16,hj with
 |3,_,_,hj|4,_,_,hj=>exact x6q .sum (y7h (a:=3) (n:=2) (fun _=>rfl) (hx .prod (by simp) (by rw[hj];rfl)) hN (by rw[y8x,hj];rfl) (hy .prod (by simp) (q _ rfl)) (by rw[hk];rfl)) (by omega) (q .arrow rfl) (by simp) (by simp)
 |5,_,_,hj|6,_,_,hj|7,_,_,hj=>exact x6q .prod (y7h (a:=5) (n:=3) (fun _=>rfl) (hx .un (by simp) (by rw[hj];rfl)) hN (by rw[y8x,hj];rfl) (hy .un (by simp) (q _ rfl)) (by rw[hk];rfl)) (by omega) (q .arrow rfl) (by simp) (by simp)
 |8,_,_,hj=>exact x6q .and (y7h (a:=8) (n:=1) (fun _=>rfl) (hx .cmp (by simp) (by rw[hj];rfl)) hN (by rw[y8x,hj];rfl) (hy .cmp (by simp) (q _ rfl)) (by rw[hk];rfl)) (by omega) (q .arrow rfl) (by simp) (by simp)
 |9,_,_,hj|10,_,_,hj=>exact x6q .or (y7h (a:=9) (n:=2) (fun _=>rfl) (hx .and (by simp) (by rw[hj];rfl)) hN (by rw[y8x,hj];rfl) (hy .and (by simp) (q _ rfl)) (by rw[hk];rfl)) (by omega) (q .arrow rfl) (by simp) (by simp)
 |11,_,_,hj|12,_,_,hj|13,_,_,hj|14,_,_,hj|15,_,_,hj|16,_,_,hj=>exact x6q .cmp (q4p (hx .sum (by simp) (by rw[hj];rfl)) (by rw[y8x,hj];rfl) (hy .sum (by simp) (q _ rfl))) (by omega) (q .arrow rfl) (by simp) (by simp)
 |o+17,_,h,_=>omega
def x8a {t t':T}(nt:Nt)(h:t=t')(h2:foB nt t'=true):foB nt t=true:=by rw[h];exact h2
def k5x (k n:Int)(s:BA)(o:Int)(a:List BA)(u:List Ex)(hp:y0b (.mk k n s o a u)=true)(hu: ∀x∈u,v9e l x/\Stx x):v9e l (.mk k n s o a u)/\Stx (.mk k n s o a u):=by
 unfold y0b at hp;simp only[a0g]at hp;obtain⟨hk,h1,h2,h3,h4,h5,h6,h7⟩:=hp;have h5:=a0f h5;have h6:=a0f h6;have harm:=z6r h4;have e0:pcs (.mk k n s o a u)=pcK k n s o a (x1u u):=by rw[pcs]
 have hn0:k≠1->k≠2->k≠13->n=0:=fun a b c=>by simpa[u2n,a,b,c]using h1
 have ho0:k≠5->k≠6->o=0:=fun a b=>by simpa[u2j,a,b]using h3
 have hs0:k≠3->k≠11->k≠12->k≠13->k≠4->k≠17->s=bs []:=fun a b c d e f=>k5k (by simpa[y9d,a,b,c,d,e,f]using h2)
 have ha0:k≠11->k≠12->a= []:=fun q r=>by
  unfold y1c at h4;simp only[a0g]at h4;have:=h4.2;simp only[decide_eq_false q,decide_eq_false r,cond_false]at this;exact List.length_eq_zero_iff.1 (a0f this)
 rcases w1j k hk with rfl|rfl|rfl|rfl|rfl|rfl|rfl|rfl|rfl|rfl|rfl|rfl|rfl|rfl|rfl|rfl|rfl
 · -- 1
   have hu0:u= []:=List.length_eq_zero_iff.1 (by have h6:(u.length:Int)<=0:=h6;omega)
   have:=hs0 (by decide) (by decide) (by decide) (by decide) (by decide) (by decide)
   have:=ho0 (by decide) (by decide)
   have:=ha0 (by decide) (by decide)
   subst_vars
   refine⟨x1z fun i ha hf=>⟨1,Nat.le_of_ble_eq_true rfl,x5s (N:=0) fun m _=> ?_⟩,⟨⟨3,y0f n.toNat,n⟩,[],rfl,by unfold u8v nT y6n;simp⟩⟩
   have h0:tkT (tkA l i)=⟨3,y0f n.toNat,n⟩:=ha.1;have hk:(tkA l i).k=3:=congrArg T.k h0;have hn:(tkA l i).n=n:=congrArg T.n h0;unfold x7i;rw[hk,hn];rfl
 · -- 2
   have hu0:u= []:=List.length_eq_zero_iff.1 (by have h6:(u.length:Int)<=0:=h6;omega)
   have:=hs0 (by decide) (by decide) (by decide) (by decide) (by decide) (by decide)
   have:=ho0 (by decide) (by decide)
   have:=ha0 (by decide) (by decide)
   have h1:n=0\/n=1:=by simpa[u2n]using h1
   subst_vars
   rcases h1 with rfl|rfl
   ·refine⟨x1z fun i ha hf=>⟨1,Nat.le_of_ble_eq_true rfl,x5s (N:=0) fun m _=> ?_⟩,⟨_,_,rfl,rfl⟩⟩
    have h0:tkT (tkA l i)=⟨1,z9c,0⟩:=ha.1;rw[z1h h0 rfl rfl rfl];unfold x6v;rw[x0q h0 x6g (b:=false) rfl,x0q h0 x3p (b:=true) rfl];rfl
   ·refine⟨x1z fun i ha hf=>⟨1,Nat.le_of_ble_eq_true rfl,x5s (N:=0) fun m _=> ?_⟩,⟨_,_,rfl,rfl⟩⟩
    have h0:tkT (tkA l i)=⟨1,v5c,0⟩:=ha.1;rw[z1h h0 rfl rfl rfl];unfold x6v;rw[x0q h0 x6g (b:=true) rfl];rfl
 · -- 3
   have hu0:u= []:=List.length_eq_zero_iff.1 (by have h6:(u.length:Int)<=0:=h6;omega)
   have:=hn0 (by decide) (by decide) (by decide)
   have:=ho0 (by decide) (by decide)
   have:=ha0 (by decide) (by decide)
   subst_vars
   have h2:x3q (tb s)=true:=h2;refine⟨x1z fun i ha hf=>⟨1,Nat.le_of_ble_eq_true rfl,x5s (N:=0) fun m _=> ?_⟩,⟨⟨1,tb s,0⟩,[],rfl,?_⟩⟩
   ·have h0:tkT (tkA l i)=⟨1,tb s,0⟩:=ha.1;have hs:(tkA l i).s=s:=x3f (congrArg T.b h0);have hf:f1 (tkT (tkA l (i+1)))=true:=hf;rw[y7t h0 h2,x7e (w:=bs [40]) (x1s hf),hs];rfl
   ·unfold u8v nT;rw[x7p h2 rfl,x5j h2 rfl,x5j h2 rfl,x7p h2 rfl];rfl
 · -- 4
   have hu0:u= []:=List.length_eq_zero_iff.1 (by have h6:(u.length:Int)<=0:=h6;omega)
   have:=hn0 (by decide) (by decide) (by decide)
   have:=ho0 (by decide) (by decide)
   have:=ha0 (by decide) (by decide)
   subst_vars
   refine⟨x1z fun i ha hf=>⟨1,Nat.le_of_ble_eq_true rfl,x5s (N:=0) fun m _=> ?_⟩,⟨⟨2,tb s,0⟩,[],rfl,?_⟩⟩
   ·have h0:tkT (tkA l i)=⟨2,tb s,0⟩:=ha.1;have hs:(tkA l i).s=s:=x3f (congrArg T.b h0);have hk:(tkA l i).k=2:=congrArg T.k h0;unfold x7i;rw[hk,hs];rfl
   ·unfold u8v nT y6n;simp
 · -- 5
   have hl:u.length=1:=by simp[hiB,loB]at h5 h6;omega
   have:=hn0 (by decide) (by decide) (by decide)
   have:=hs0 (by decide) (by decide) (by decide) (by decide) (by decide) (by decide)
   have:=ha0 (by decide) (by decide)
   match u,hl,hu with
   | [x],_,hu=>
     obtain⟨g,st⟩:=hu x (by simp)
     have hp:=st.pos
     subst_vars
     have h3:o=1\/o=2:=by simp[u2j]at h3;omega
     rcases h3 with rfl|rfl
     ·have e:fm (pcs (.mk 5 0 (bs []) 1 [] [x]))=⟨5,[40],0⟩::⟨5,[45],0⟩::(fm (pcs x)++[⟨5,[41],0⟩]):=by
       rw[e0];show fm ([mk 40,mk 45]++pcs x++[mk 41])=_;simp only[a0d,a0h,mk,x2a,x2f,x5x]
      have hL:tL (.mk 5 0 (bs []) 1 [] [x])=tL x+3:=by unfold tL;rw[e];simp
      refine⟨x1z fun i ha hf=>⟨20*tL x+11+1+9+1,by omega,?_⟩,⟨_,_,e,rfl⟩⟩
      rw[e,x1d,x1d,x2n]at ha;obtain⟨a0,a1,a2,a3⟩:=ha;have a3:tkT (tkA l (i+1+1+tL x))=⟨5,[41],0⟩:=a3.1;have hx:=x8b g st .un (by simp) a2 (x8a _ a3 rfl)
      have:=rnd a0 (x6q .un (q7g a1 hx) (by omega) (x8a .arrow a3 rfl) (by simp) (by simp)) a3
      rw[hL,show i+(tL x+3)=i+1+1+tL x+1 by omega]
      exact this
     ·have e:fm (pcs (.mk 5 0 (bs []) 2 [] [x]))=⟨5,[40],0⟩::⟨1,v1l,0⟩::(fm (pcs x)++[⟨5,[41],0⟩]):=by
       rw[e0];show fm ([mk 40,wd v1l,none]++pcs x++[mk 41])=_;simp only[a0d,a0h,mk,wd,x2a,x2o,x2f,x5x]
      have hL:tL (.mk 5 0 (bs []) 2 [] [x])=tL x+3:=by unfold tL;rw[e];simp
      refine⟨x1z fun i ha hf=>⟨20*tL x+11+1+9+1,by omega,?_⟩,⟨_,_,e,rfl⟩⟩
      rw[e,x1d,x1d,x2n]at ha;obtain⟨a0,a1,a2,a3⟩:=ha;have a3:tkT (tkA l (i+1+1+tL x))=⟨5,[41],0⟩:=a3.1;have hx:=x8b g st .un (by simp) a2 (x8a _ a3 rfl)
      have:=rnd a0 (x6q .un (q7f a1 hx) (by omega) (x8a .arrow a3 rfl) (by simp) (by simp)) a3
      rw[hL,show i+(tL x+3)=i+1+1+tL x+1 by omega]
      exact this
 · -- 6
   have hl:u.length=2:=by simp[hiB,loB]at h5 h6;omega
   have:=hn0 (by decide) (by decide) (by decide)
   have:=hs0 (by decide) (by decide) (by decide) (by decide) (by decide) (by decide)
   have:=ha0 (by decide) (by decide)
   match u,hl,hu with
   | [x,y],_,hu=>
     obtain⟨g,st⟩:=hu x (by simp)
     obtain⟨g2,st2⟩:=hu y (by simp)
     have hp:=st.pos;have hp2:=st2.pos
     subst_vars
     have h3:3<=o/\o<=16:=by simpa[u2j]using h3
     obtain⟨o,rfl⟩: ∃q:Nat,o=(q:Int):=⟨o.toNat,by omega⟩
     have e:fm (pcs (.mk 6 0 (bs []) (o:Int) [] [x,y]))=⟨5,[40],0⟩::(fm (pcs x)++⟨if 7<=o/\o<=10 then 1 else 5,tb (y0k o),0⟩::(fm (pcs y)++[⟨5,[41],0⟩])):=by
      rw[e0];show fm ([mk 40]++pcs x++[none,opK (o:Int).toNat,none]++pcs y++[mk 41])=_;simp only[a0d,a0h,List.append_assoc,mk,opK,x2a,x2o,x2f,x5x,a0n]
     have hL:tL (.mk 6 0 (bs []) (o:Int) [] [x,y])=tL x+tL y+3:=by unfold tL;rw[e];simp;omega
     refine⟨x1z fun i ha hf=>⟨20*tL x+20*tL y+11+10+1,by omega,?_⟩,⟨_,_,e,rfl⟩⟩
     rw[e,x1d,x2n,x1d,x2n]at ha;obtain⟨a0,a1,a2,a3,a4⟩:=ha;have a2:tkT (tkA l (i+1+tL x))=_:=a2;have a4:tkT (tkA l (i+1+tL x+1+tL y))=⟨5,[41],0⟩:=a4.1;have:=rnd a0 (q4q (N:=20*tL x+20*tL y+11) o (by omega) (by omega) a2 a4 (fun nt hn hf=>(x8b g st nt hn a1 hf).mono (by omega)) (fun nt hn hf=>(x8b g2 st2 nt hn a3 hf).mono (by omega)) (by omega)) a4
     rw[hL,show i+(tL x+tL y+3)=i+1+tL x+1+tL y+1 by omega]
     exact this
 · -- 7
   have hl:u.length=3:=by simp[hiB,loB]at h5 h6;omega
   have:=hn0 (by decide) (by decide) (by decide)
   have:=hs0 (by decide) (by decide) (by decide) (by decide) (by decide) (by decide)
   have:=ha0 (by decide) (by decide)
   have:=ho0 (by decide) (by decide)
   match u,hl,hu with
   | [x,y,z],_,hu=>
     obtain⟨g,st⟩:=hu x (by simp)
     obtain⟨g2,st2⟩:=hu y (by simp)
     obtain⟨g3,st3⟩:=hu z (by simp)
     have hp:=st.pos;have hp2:=st2.pos;have hp3:=st3.pos
     subst_vars
     have e:fm (pcs (.mk 7 0 (bs []) 0 [] [x,y,z]))=⟨5,[40],0⟩::⟨1,kIf,0⟩::(fm (pcs x)++⟨1,u2z,0⟩::(fm (pcs y)++⟨1,u3b,0⟩::(fm (pcs z)++[⟨5,[41],0⟩]))):=by
      rw[e0];show fm ([mk 40,wd kIf,none]++pcs x++[none,wd u2z,none]++pcs y++[none,wd u3b,none]++pcs z++[mk 41])=_;simp only[a0d,a0h,List.append_assoc,mk,wd,x2a,x2o,x2f,x5x]
     have hL:tL (.mk 7 0 (bs []) 0 [] [x,y,z])=tL x+tL y+tL z+5:=by unfold tL;rw[e];simp;omega
     refine⟨x1z fun i ha hf=>⟨20*tL x+20*tL y+20*tL z+11+1+1+10+1,by omega,?_⟩,⟨_,_,e,rfl⟩⟩
     rw[e,x1d,x1d,x2n,x1d,x2n,x1d,x2n]at ha;obtain⟨a0,a1,a2,a3,a4,a5,a6,a7⟩:=ha;have a3:tkT (tkA l (i+1+1+tL x))=_:=a3;have a5:tkT (tkA l (i+1+1+tL x+1+tL y))=_:=a5;have a7:tkT (tkA l (i+1+1+tL x+1+tL y+1+tL z))=⟨5,[41],0⟩:=a7.1;have hx:=(x8b g st .arrow (by simp) a2 (x8a _ a3 rfl)).mono (M:=20*tL x+20*tL y+20*tL z+11) (by omega)
     have hy:=(x8b g2 st2 .arrow (by simp) a4 (x8a _ a5 rfl)).mono (M:=20*tL x+20*tL y+20*tL z+11) (by omega)
     have hz:=(x8b g3 st3 .arrow (by simp) a6 (x8a _ a7 rfl)).mono (M:=20*tL x+20*tL y+20*tL z+11) (by omega)
     have:=rnd a0 (y1j (z1g (k7s a1 hx a3 hy a5 hz) (by omega) (x8a .un a7 rfl)) (by rw[a1];rfl) (x8a .arrow a7 rfl)) a7
     rw[hL,show i+(tL x+tL y+tL z+5)=i+1+1+tL x+1+tL y+1+tL z+1 by omega]
     exact this
 · -- 8
   have hl:u.length=2:=by simp[hiB,loB]at h5 h6;omega
   have:=hn0 (by decide) (by decide) (by decide)
   have:=hs0 (by decide) (by decide) (by decide) (by decide) (by decide) (by decide)
   have:=ha0 (by decide) (by decide)
   have:=ho0 (by decide) (by decide)
   match u,hl,hu with
   | [x,y],_,hu=>
     obtain⟨g,st⟩:=hu x (by simp)
     obtain⟨g2,st2⟩:=hu y (by simp)
     have hp:=st.pos;have hp2:=st2.pos
     subst_vars
     have e:fm (pcs (.mk 8 0 (bs []) 0 [] [x,y]))=⟨5,[40],0⟩::(fm (pcs x)++⟨1,v9i,0⟩::(fm (pcs y)++[⟨5,[41],0⟩])):=by
      rw[e0];show fm ([mk 40]++pcs x++[none,wd v9i,none]++pcs y++[mk 41])=_;simp only[a0d,a0h,List.append_assoc,mk,wd,x2a,x2o,x2f,x5x]
     have hL:tL (.mk 8 0 (bs []) 0 [] [x,y])=tL x+tL y+3:=by unfold tL;rw[e];simp;omega
     refine⟨x1z fun i ha hf=>⟨20*tL x+20*tL y+11+1+9+1,by omega,?_⟩,⟨_,_,e,rfl⟩⟩
     rw[e,x1d,x2n,x1d,x2n]at ha;obtain⟨a0,a1,a2,a3,a4⟩:=ha;have a2:tkT (tkA l (i+1+tL x))=_:=a2;have a4:tkT (tkA l (i+1+tL x+1+tL y))=⟨5,[41],0⟩:=a4.1;have hx:=(x8b g st .or (by simp) a1 (x8a _ a2 rfl)).mono (M:=20*tL x+20*tL y+11) (by omega)
     have hy:=(x8b g2 st2 .fby (by simp) a3 (x8a _ a4 rfl)).mono (M:=20*tL x+20*tL y+11) (by omega)
     have:=rnd a0 (x6q .fby (q4o hx a2 hy) (by omega) (x8a .arrow a4 rfl) (by simp) (by simp)) a4
     rw[hL,show i+(tL x+tL y+3)=i+1+tL x+1+tL y+1 by omega]
     exact this
 · -- 9
   have hl:u.length=2:=by simp[hiB,loB]at h5 h6;omega
   have:=hn0 (by decide) (by decide) (by decide)
   have:=hs0 (by decide) (by decide) (by decide) (by decide) (by decide) (by decide)
   have:=ha0 (by decide) (by decide)
   have:=ho0 (by decide) (by decide)
   match u,hl,hu with
   | [x,y],_,hu=>
     obtain⟨g,st⟩:=hu x (by simp)
     obtain⟨g2,st2⟩:=hu y (by simp)
     have hp:=st.pos;have hp2:=st2.pos
     subst_vars
     have e:fm (pcs (.mk 9 0 (bs []) 0 [] [x,y]))=⟨5,[40],0⟩::(fm (pcs x)++⟨5,[45,62],0⟩::(fm (pcs y)++[⟨5,[41],0⟩])):=by
      rw[e0];show fm ([mk 40]++pcs x++[none,m2 45 62,none]++pcs y++[mk 41])=_;simp only[a0d,a0h,List.append_assoc,mk,m2,x2a,x2o,x2f,x5x]
     have hL:tL (.mk 9 0 (bs []) 0 [] [x,y])=tL x+tL y+3:=by unfold tL;rw[e];simp;omega
     refine⟨x1z fun i ha hf=>⟨20*tL x+20*tL y+11+1+1,by omega,?_⟩,⟨_,_,e,rfl⟩⟩
     rw[e,x1d,x2n,x1d,x2n]at ha;obtain⟨a0,a1,a2,a3,a4⟩:=ha;have a2:tkT (tkA l (i+1+tL x))=_:=a2;have a4:tkT (tkA l (i+1+tL x+1+tL y))=⟨5,[41],0⟩:=a4.1;have hx:=(x8b g st .fby (by simp) a1 (x8a _ a2 rfl)).mono (M:=20*tL x+20*tL y+11) (by omega)
     have hy:=(x8b g2 st2 .arrow (by simp) a3 (x8a _ a4 rfl)).mono (M:=20*tL x+20*tL y+11) (by omega)
     have:=rnd a0 (v8l hx a2 hy) a4;rw[hL,show i+(tL x+tL y+3)=i+1+tL x+1+tL y+1 by omega]
     exact this
 · -- 10
   have hl:u.length=1:=by simp[hiB,loB]at h5 h6;omega
   have:=hn0 (by decide) (by decide) (by decide)
   have:=hs0 (by decide) (by decide) (by decide) (by decide) (by decide) (by decide)
   have:=ha0 (by decide) (by decide)
   have:=ho0 (by decide) (by decide)
   match u,hl,hu with
   | [x],_,hu=>
     obtain⟨g,st⟩:=hu x (by simp)
     have hp:=st.pos
     subst_vars
     have e:fm (pcs (.mk 10 0 (bs []) 0 [] [x]))=⟨5,[40],0⟩::⟨1,w5a,0⟩::(fm (pcs x)++[⟨5,[41],0⟩]):=by
      rw[e0];show fm ([mk 40,wd w5a,none]++pcs x++[mk 41])=_;simp only[a0d,a0h,mk,wd,x2a,x2o,x2f,x5x]
     have hL:tL (.mk 10 0 (bs []) 0 [] [x])=tL x+3:=by unfold tL;rw[e];simp
     refine⟨x1z fun i ha hf=>⟨20*tL x+11+1+9+1,by omega,?_⟩,⟨_,_,e,rfl⟩⟩
     rw[e,x1d,x1d,x2n]at ha;obtain⟨a0,a1,a2,a3⟩:=ha;have a3:tkT (tkA l (i+1+1+tL x))=⟨5,[41],0⟩:=a3.1;have hx:=x8b g st .un (by simp) a2 (x8a _ a3 rfl)
     have:=rnd a0 (x6q .un (q7e a1 hx) (by omega) (x8a .arrow a3 rfl) (by simp) (by simp)) a3
     rw[hL,show i+(tL x+3)=i+1+1+tL x+1 by omega]
     exact this
 · -- 11
   have hl:u.length=1:=by simp[hiB,loB]at h5 h6;omega
   have hla:a.length=1:=by
    unfold y1c at h4;simp only[a0g]at h4;exact a0f h4.2
   have:=hn0 (by decide) (by decide) (by decide)
   have:=ho0 (by decide) (by decide)
   have h2:x3q (tb s)=true:=h2
   match u,hl,hu,a,hla,harm with
   | [x],_,hu,[ar],_,harm=>
     simp only[a1p,List.all_nil,a2a]at harm;obtain⟨g,st⟩:=hu x (by simp)
     have hp:=st.pos
     subst_vars
     have e:fm (pcs (.mk 11 0 s 0 [ar] [x]))=⟨5,[40],0⟩::(fm (pcs x)++⟨1,y3o,0⟩::(fm (onP s ar)++[⟨5,[41],0⟩])):=by
      rw[e0];show fm ([mk 40]++pcs x++[none,wd y3o,none]++onP s ar++[mk 41])=_;simp only[a0d,a0h,List.append_assoc,mk,wd,x2a,x2o,x2f,x5x]
     have hL:tL (.mk 11 0 s 0 [ar] [x])=tL x+(fm (onP s ar)).length+3:=by unfold tL;rw[e];simp;omega
     refine⟨x1z fun i ha hf=>⟨20*tL x+3+10+1,by omega,?_⟩,⟨_,_,e,rfl⟩⟩
     rw[e,x1d,x2n,x1d,x2n]at ha;obtain⟨a0,a1,a2,a3,a4⟩:=ha;have a2:tkT (tkA l (i+1+tL x))=⟨1,y3o,0⟩:=a2;have a4:tkT (tkA l (i+1+tL x+1+(fm (onP s ar)).length))=⟨5,[41],0⟩:=a4.1;have hw:x6l l (i+1+tL x+1)= .ok (s,ar) (i+1+tL x+1+(fm (onP s ar)).length):=v1s h2 harm a3 trivial;obtain⟨base,j0,k,q1,q2,q3⟩:=g (i+1) a1 (by rw[a2];rfl)
     have hpost:Ev l .post (i+1) (.mk 11 0 s 0 [ar] [x]) (i+1+tL x+1+(fm (onP s ar)).length) (20*tL x+3):=fun m hm=>by
      obtain⟨m,rfl⟩: ∃r,m=r+1:=⟨m - 1,by omega⟩
      show y0a l m (prs l m) (i+1)=_;rw[y0a,q2 m (by omega),Rs.bind_ok]
      have q3:=q3 m (by omega) (m - k)
      rw[show m - k+k=m by omega]at q3
      rw[q3];obtain⟨r,hr⟩: ∃r,m - k=r+2:=⟨m - k - 2,by omega⟩
      rw[hr,x2h,x8l,x0q a2 (bs [91]) (b:=false) rfl,x0q a2 (bs [119,104,101,110]) (b:=true) rfl];simp only;rw[hw];simp only;rw[x2h,x8l,x0q a4 (bs [91]) (b:=false) rfl,x0q a4 (bs [119,104,101,110]) (b:=false) rfl]
     have:=rnd a0 (y1j hpost (st.at a1) (by rw[a4];rfl)) a4
     rw[hL,show i+(tL x+(fm (onP s ar)).length+3)=i+1+tL x+1+(fm (onP s ar)).length+1 by omega]
     exact this
 · -- 12
   have hla:1<=a.length:=by
    unfold y1c at h4;simp only[a0g]at h4;have:=h4.2;simp only[show decide ((12:Int)=11)=false from rfl,cond_false,decide_true,cond_true,a0g]at this;exact a0f this.1
   have hl:a.length=u.length:=by simp[hiB,loB]at h5 h6;omega
   have:=hn0 (by decide) (by decide) (by decide)
   have:=ho0 (by decide) (by decide)
   have h2:x3q (tb s)=true:=h2
   subst_vars
   have e:fm (pcs (.mk 12 0 s 0 a u))=⟨5,[40],0⟩::⟨1,y5z,0⟩::⟨1,tb s,0⟩::(fm (x1h a (x1u u))++[⟨5,[41],0⟩]):=by
    rw[e0];show fm ([mk 40,wd y5z,none,wd (tb s)]++x1h a (x1u u)++[mk 41])=_;simp only[a0d,a0h,mk,wd,x2a,x2o,x2f,x5x]
   have hL:tL (.mk 12 0 s 0 a u)=(fm (x1h a (x1u u))).length+4:=by unfold tL;rw[e];simp
   obtain⟨m1,m2⟩:=z8t a u hl;refine⟨x1z fun i ha hf=>⟨20*(fm (x1h a (x1u u))).length+11+1+1+10+1,by omega,?_⟩,⟨_,_,e,rfl⟩⟩
   rw[e,x1d,x1d,x1d]at ha;obtain⟨a0,a1,a2,a3⟩:=ha;have a4:=(x2n.1 a3).2;have a4:tkT (tkA l (i+1+1+1+(fm (x1h a (x1u u))).length))=⟨5,[41],0⟩:=a4.1;have a5:tkT (tkA l (i+1+1+1))=⟨5,[40],0⟩:=by
    match a,u,hla,hl,a3 with
    |b::bt,y::v,_,_,a3=>
     have e2:fm (x1h (b::bt) (x1u (y::v)))=⟨5,[40],0⟩::⟨if x3h (tb b)then 2 else 1,tb b,0⟩::⟨5,[45,62],0⟩::(fm (pcs y)++⟨5,[41],0⟩::fm (x1h bt (x1u v))):=by
      simp only[x1u,x1h,a0d,a0h,mk,Go.Vm.m2,v8y,x2a,x2o,x2f,List.append_assoc]
     rw[e2]at a3;exact a3.1
   have hs:(tkA l (i+1+1)).s=s:=x3f (congrArg T.b a2);have hat:Ev l .atom (i+1) (.mk 12 0 s 0 a u) (i+1+1+1+(fm (x1h a (x1u u))).length) (20*(fm (x1h a (x1u u))).length+11+1):=x5s fun m hm=>by
    rw[u8n a1,x8s,z5g a2 h2,Rs.bind_ok,y3g a5 rfl,y4x,Rs.bind_ok];have:=u6e (l:=l) m a u [] [] (i+1+1+1) m hl hla harm (fun x hx=>⟨(hu x hx).1,(hu x hx).2,by have:=m2 x hx;omega⟩) a3 (by omega)
    rw[this,Rs.bind_ok,hs];rfl
   have:=rnd a0 (y1j (z1g hat (by omega) (by rw[a4];rfl)) (by rw[a1];rfl) (by rw[a4];rfl)) a4
   rw[hL,show i+((fm (x1h a (x1u u))).length+4)=i+1+1+1+(fm (x1h a (x1u u))).length+1 by omega]
   exact this
 · -- 13
   have:=ho0 (by decide) (by decide)
   have:=ha0 (by decide) (by decide)
   have h2:x3q (tb s)=true:=h2;have h1:n=0\/n=1:=by simpa[u2n]using h1
   subst_vars
   have calls: ∀(v:List Ex) (i m n:Nat),(∀x∈v,v9e l x/\Stx x)->Az l i (fm (x1v (x1u v))++[⟨5,[41],0⟩])->20*(fm (x1v (x1u v))).length+11<=m->20*(fm (x1v (x1u v))).length+11<=n->y2q l n (prs l m) s i=y0e l (prs l m) s v (i+(fm (x1v (x1u v))).length+1):=by
    intro v i m n hv ha hm hn;unfold y2q
    match v,hv,ha,hm,hn with
    | [],_,ha,_,_=>
      rw[x0q ha.1 (bs [41]) (b:=true) rfl];rfl
    |x::v,hv,ha,hm,hn=>
     obtain⟨l1,l2⟩:=u6i x v fun y hy=>(hv y hy).2
     have hst:isT l i (bs [41])=false:=by
      have e2:fm (x1v (x1u (x::v)))=fm (pcs x)++fm (y4j (x1u v)):=by simp only[x1u,x1v,x2f]
      rw[e2,List.append_assoc,x2n]at ha;have:=(hv x (by simp)).2.at ha.1
      unfold u8v at this;exact x7e (w:=bs [41]) (y1v (y1v (y1v this)))
     rw[hst];simp only;rw[v4v 41 (.inl rfl) m x v i (fun y hy=>⟨(hv y hy).1,(hv y hy).2,by have:=l2 y hy;omega⟩) ha (by omega),Rs.bind_ok]
   rcases h1 with rfl|rfl
   ·have e:fm (pcs (.mk 13 0 s 0 [] u))=⟨1,tb s,0⟩::⟨5,[40],0⟩::(fm (x1v (x1u u))++[⟨5,[41],0⟩]):=by
     rw[e0];show fm ([wd (tb s),mk 40]++x1v (x1u u)++[mk 41])=_;simp only[a0d,a0h,mk,wd,x2a,x2f,x5x]
    have hL:tL (.mk 13 0 s 0 [] u)=(fm (x1v (x1u u))).length+3:=by unfold tL;rw[e];simp
    refine⟨x1z fun i ha hf=>⟨20*(fm (x1v (x1u u))).length+11+1,by omega,?_⟩,⟨_,_,e,?_⟩⟩
    ·rw[e,x1d,x1d]at ha;obtain⟨a0,a1,a2⟩:=ha;have hs:(tkA l i).s=s:=x3f (congrArg T.b a0);rw[hL]at hf ⊢;refine x5s fun m hm=> ?_
     rw[y7t a0 h2,x0q a1 (bs [40]) (b:=true) rfl,hs];simp only;rw[show i+2=i+1+1 by omega,calls u (i+1+1) m m hu a2 hm hm]
     unfold y0e;rw[show i+1+1+(fm (x1v (x1u u))).length+1=i+((fm (x1v (x1u u))).length+3) by omega,x7e (w:=bs [101,118,101,114,121]) (y1v hf)]
    ·unfold u8v nT;rw[x7p h2 rfl,x5j h2 rfl,x5j h2 rfl,x7p h2 rfl];rfl
   ·have hne:u≠[]:=by rintro rfl;simp[loB]at h5
    obtain⟨v,x,rfl⟩: ∃v x,u=v++[x]:=⟨_,_,(List.dropLast_concat_getLast hne).symm⟩
    have hx:=hu x (by simp)
    have hv: ∀y∈v,v9e l y/\Stx y:=fun y hy=>hu y (by simp[hy])
    have hpx:=hx.2.pos;have pl: ∀v:List Ex,x1u (v++[x])=x1u v++[pcs x]:=by
     intro v
     induction v with
     |nil=>rfl
     |cons y v ih=>simp only[a0d,x1u,ih]
    have e:fm (pcs (.mk 13 1 s 0 [] (v++[x])))=⟨5,[40],0⟩::⟨1,tb s,0⟩::⟨5,[40],0⟩::(fm (x1v (x1u v))++⟨5,[41],0⟩::⟨1,y3p,0⟩::(fm (pcs x)++[⟨5,[41],0⟩])):=by
     rw[e0,pl v];show fm ([mk 40,wd (tb s),mk 40]++x1v ((x1u v++[pcs x]).take ((x1u v++[pcs x]).length - 1))++[mk 41,none,wd y3p,none]++(x1u v++[pcs x]).getD ((x1u v++[pcs x]).length - 1) []++[mk 41])=_;have t1:(x1u v++[pcs x]).length - 1=(x1u v).length:=by simp
     rw[t1,List.take_left,a0i,List.getElem?_concat_length];simp only[a0d,a0h,List.append_assoc,mk,wd,x2a,x2o,x2f,x5x,Option.getD_some]
    have hL:tL (.mk 13 1 s 0 [] (v++[x]))=(fm (x1v (x1u v))).length+tL x+6:=by unfold tL;rw[e];simp;omega
    refine⟨x1z fun i ha hf=>⟨20*(fm (x1v (x1u v))).length+20*tL x+11+1+1+10+1,by omega,?_⟩,⟨_,_,e,rfl⟩⟩
    rw[e,x1d,x1d,x1d,x2n,x1d,x1d,x2n]at ha;obtain⟨a0,a1,a2,a3,a4,a5,a6,a7⟩:=ha;have a7:tkT (tkA l (i+1+1+1+(fm (x1v (x1u v))).length+1+1+tL x))=⟨5,[41],0⟩:=a7.1;have hs:(tkA l (i+1)).s=s:=x3f (congrArg T.b a1);have px:=(x8b hx.1 hx.2 .post (by simp) a6 (x8a _ a7 rfl))
    have hat:Ev l .atom (i+1) (.mk 13 1 s 0 [] (v++[x])) (i+1+1+1+(fm (x1v (x1u v))).length+1+1+tL x) (20*(fm (x1v (x1u v))).length+20*tL x+11+1):=x5s fun m hm=>by
     rw[y7t a1 h2,x0q a2 (bs [40]) (b:=true) rfl,hs];simp only;rw[show i+1+2=i+1+1+1 by omega,calls v (i+1+1+1) m m hv (x2n.2 ⟨a3,a4,trivial⟩) (by omega) (by omega)]
     unfold y0e;rw[x0q a5 (bs [101,118,101,114,121]) (b:=true) rfl];simp only;rw[px m (by omega),Rs.bind_ok]
    have:=rnd a0 (y1j (z1g hat (by omega) (by rw[a7];rfl)) (by
     rw[a1];unfold u8v nT;rw[x7p h2 rfl,x5j h2 rfl,x5j h2 rfl,x7p h2 rfl];rfl) (by rw[a7];rfl)) a7
    rw[hL,show i+((fm (x1v (x1u v))).length+tL x+6)=i+1+1+1+(fm (x1v (x1u v))).length+1+1+tL x+1 by omega]
    exact this
 · -- 14
   have:=hn0 (by decide) (by decide) (by decide)
   have:=hs0 (by decide) (by decide) (by decide) (by decide) (by decide) (by decide)
   have:=ha0 (by decide) (by decide)
   have:=ho0 (by decide) (by decide)
   subst_vars
   match u,hu,h5 with
   | [],_,h5=>simp[loB]at h5
   |x::v,hu,_=>
    have e:fm (pcs (.mk 14 0 (bs []) 0 [] (x::v)))=⟨5,[91],0⟩::(fm (x1v (x1u (x::v)))++[⟨5,[93],0⟩]):=by
     rw[e0];show fm ([mk 91]++x1v (x1u (x::v))++[mk 93])=_;simp only[a0d,a0h,mk,x2a,x2f,x5x]
    have hL:tL (.mk 14 0 (bs []) 0 [] (x::v))=(fm (x1v (x1u (x::v)))).length+2:=by unfold tL;rw[e];simp
    obtain⟨l1,l2⟩:=u6i x v fun y hy=>(hu y hy).2
    refine⟨x1z fun i ha hf=>⟨20*(fm (x1v (x1u (x::v)))).length+11+1,by omega,x5s fun m hm=> ?_⟩,⟨_,_,e,rfl⟩⟩
    rw[e,x1d]at ha;rw[w6s ha.1,v4v 93 (.inr rfl) m x v (i+1) (fun y hy=>⟨(hu y hy).1,(hu y hy).2,by have:=l2 y hy;omega⟩) ha.2 (by omega),Rs.bind_ok,hL]
    show Rs.ok _ _=_;congr 1;omega
 · -- 15
   have hl:u.length=2:=by simp[hiB,loB]at h5 h6;omega
   have:=hn0 (by decide) (by decide) (by decide)
   have:=hs0 (by decide) (by decide) (by decide) (by decide) (by decide) (by decide)
   have:=ha0 (by decide) (by decide)
   have:=ho0 (by decide) (by decide)
   match u,hl,hu with
   | [x,y],_,hu=>
     obtain⟨g,st⟩:=hu x (by simp)
     obtain⟨g2,st2⟩:=hu y (by simp)
     have hp:=st.pos;have hp2:=st2.pos
     subst_vars
     have e:fm (pcs (.mk 15 0 (bs []) 0 [] [x,y]))=fm (pcs x)++⟨5,[91],0⟩::(fm (pcs y)++[⟨5,[93],0⟩]):=by
      rw[e0];show fm (pcs x++[mk 91]++pcs y++[mk 93])=_;simp only[a0d,a0h,List.append_assoc,mk,x2a,x2f,x5x]
     have hL:tL (.mk 15 0 (bs []) 0 [] [x,y])=tL x+tL y+2:=by unfold tL;rw[e];simp;omega
     refine⟨fun i ha hf=> ?_,?_⟩
     ·rw[e,x2n,x1d,x2n]at ha;obtain⟨a1,a2,a3,a4⟩:=ha;have a2:tkT (tkA l (i+tL x))=⟨5,[91],0⟩:=a2;have a4:tkT (tkA l (i+tL x+1+tL y))=⟨5,[93],0⟩:=a4.1;obtain⟨base,j0,k,q1,q2,q3⟩:=g i a1 (by rw[a2];rfl)
      have hy:=x8b g2 st2 .arrow (by simp) a3 (x8a _ a4 rfl)
      have hy:Ev l .arrow (i+tL x+1) y (i+tL x+1+tL y) (20*tL y+11):=hy;rw[hL];refine⟨base,j0,k+1,by omega,fun m hm=>q2 m (by omega),fun m hm r=> ?_⟩
      have q3:=q3 m (by omega) (r+1)
      rw[show r+(k+1)=r+1+k by omega,q3,x2h,x8l,x0q a2 (bs [91]) (b:=true) rfl]
      simp only;rw[hy m (by omega),Rs.bind_ok,y3g a4 rfl,y4x,Rs.bind_ok]
      simp only;rw[show i+tL x+1+tL y+1=i+(tL x+tL y+2) by omega]
      rfl
     ·obtain⟨t,r,h,hs⟩:=st;exact⟨t,_,by rw[e,h,a0d],hs⟩
 · -- 16
   have hl:u.length=3:=by simp[hiB,loB]at h5 h6;omega
   have:=hn0 (by decide) (by decide) (by decide)
   have:=hs0 (by decide) (by decide) (by decide) (by decide) (by decide) (by decide)
   have:=ha0 (by decide) (by decide)
   have:=ho0 (by decide) (by decide)
   match u,hl,hu with
   | [x,y,z],_,hu=>
     obtain⟨g,st⟩:=hu x (by simp)
     obtain⟨g2,st2⟩:=hu y (by simp)
     obtain⟨g3,st3⟩:=hu z (by simp)
     have hp:=st.pos;have hp2:=st2.pos;have hp3:=st3.pos
     subst_vars
     have e:fm (pcs (.mk 16 0 (bs []) 0 [] [x,y,z]))=⟨5,[40],0⟩::(fm (pcs x)++⟨1,u2y,0⟩::⟨5,[91],0⟩::(fm (pcs y)++⟨5,[93],0⟩::⟨5,[61],0⟩::(fm (pcs z)++[⟨5,[41],0⟩]))):=by
      rw[e0];show fm ([mk 40]++pcs x++[none,wd u2y,none,mk 91]++pcs y++[mk 93,none,mk 61,none]++pcs z++[mk 41])=_;simp only[a0d,a0h,List.append_assoc,mk,wd,x2a,x2o,x2f,x5x]
     have hL:tL (.mk 16 0 (bs []) 0 [] [x,y,z])=tL x+tL y+tL z+6:=by unfold tL;rw[e];simp;omega
     refine⟨x1z fun i ha hf=>⟨20*tL x+20*tL y+20*tL z+11+1,by omega,?_⟩,⟨_,_,e,rfl⟩⟩
     rw[e,x1d,x2n,x1d,x1d,x2n,x1d,x1d,x2n]at ha;obtain⟨a0,a1,a2,a3,a4,a5,a6,a7,a8⟩:=ha;have a2:tkT (tkA l (i+1+tL x))=_:=a2;have a3:tkT (tkA l (i+1+tL x+1))=_:=a3;have a4:Az l (i+1+tL x+2) (fm (pcs y)):=a4;have a5:tkT (tkA l (i+1+tL x+2+tL y))=_:=a5;have a6:tkT (tkA l (i+1+tL x+2+tL y+1))=_:=a6;have a7:Az l (i+1+tL x+2+tL y+2) (fm (pcs z)):=a7;have a8:tkT (tkA l (i+1+tL x+2+tL y+2+tL z))=⟨5,[41],0⟩:=a8.1;have hx:=(x8b g st .arrow (by simp) a1 (x8a _ a2 rfl)).mono (M:=20*tL x+20*tL y+20*tL z+11) (by omega)
     have hy:=(x8b g2 st2 .arrow (by simp) a4 (x8a _ a5 rfl)).mono (M:=20*tL x+20*tL y+20*tL z+11) (by omega)
     have hz:=(x8b g3 st3 .arrow (by simp) a7 (x8a _ a8 rfl)).mono (M:=20*tL x+20*tL y+20*tL z+11) (by omega)
     have:=w0f (q:=0) a0 hx a2 a3 hy a5 a6 hz a8;rw[hL,show i+(tL x+tL y+tL z+6)=i+1+tL x+2+tL y+2+tL z+1 by omega]
     exact this
 · -- 17
   have hu0:u= []:=List.length_eq_zero_iff.1 (by have h6:(u.length:Int)<=0:=h6;omega)
   have:=hn0 (by decide) (by decide) (by decide)
   have:=ho0 (by decide) (by decide)
   have:=ha0 (by decide) (by decide)
   subst_vars
   refine⟨x1z fun i ha hf=>⟨1,Nat.le_of_ble_eq_true rfl,x5s (N:=0) fun m _=> ?_⟩,⟨⟨4,tb s,0⟩,[],rfl,?_⟩⟩
   ·have h0:tkT (tkA l i)=⟨4,tb s,0⟩:=ha.1;have hs:(tkA l i).s=s:=x3f (congrArg T.b h0);have hk:(tkA l i).k=4:=congrArg T.k h0;unfold x7i;rw[hk,hs];rfl
   ·unfold u8v nT y6n;simp
mutual
def u6t: ∀e:Ex,y1e e=true->v9e l e/\Stx e
 | .mk k n s o a u,h=>by
   simp only[y1e,a0g]at h;exact k5x k n s o a u h.1 (z9k u h.2)
def z9k: ∀u:List Ex,y4h u=true-> ∀x∈u,v9e l x/\Stx x
 | [],_,x,h=>by cases h
 |e::u,h,x,hx=>by
  simp only[y4h,a0g]at h;rcases a1m.1 hx with he|hx
  ·rw[he];exact u6t e h.1
  ·exact z9k u h.2 x hx
end
end
def k2v {l:List Tk}: ∀ {ts:List T} {a b:List Tk},a.map tkT=ts->Az (l++(a++b)) l.length ts
 | [],[],b,_=>trivial
 | [],_::_,b,h=>by cases h
 |_::_,[],b,h=>by cases h
 |t::ts,x::a,b,h=>by
  rw[a1o,List.cons.injEq]at h;refine⟨?_,?_⟩
  ·have:tkA (l++(x::a++b)) l.length=x:=by
    unfold tkA;rw[a0i];simp
   rw[this];exact h.1
  ·have:=k2v (l:=l++[x]) (a:=a) (b:=b) h.2
   simpa using this
def rnT:Pc->List Nat->Prop
 | [],l=>l= []
 |none::r,l=> ∃c m,l=c::m/\(c=32\/c=10)/\rnT r m
 |some t::r,l=> ∃m,l=t.w++m/\rnT r m
def x8j: ∀p:Pc,rnT p (x0f p)
 | []=>rfl
 |none::r=>⟨32,_,rfl, .inl rfl,x8j r⟩
 |some t::r=>⟨_,rfl,x8j r⟩
def x5z: ∀ {p q:Pc} {x y:List Nat},rnT p x->rnT q y->rnT (p++q) (x++y)
 | [],q,x,y,h1,h2=>by cases h1;exact h2
 |none::r,q,x,y,⟨c,m,e,hc,h1⟩,h2=>⟨c,m++y,by rw[e];rfl,hc,x5z h1 h2⟩
 |some t::r,q,x,y,⟨m,e,h1⟩,h2=>⟨m++y,by rw[e,List.append_assoc],x5z h1 h2⟩
def v3f:rnT [none] [10]:=⟨10,[],rfl, .inr rfl,rfl⟩
def k7v (t:T):ajB t 10=ajB t 32:=by
 unfold ajB;split
 ·rfl
 ·split
  ·split
   ·rename_i c _;have h: ∀d,d=10\/d=32->y2w.contains [c,d]=false:=fun d hd=>by
     cases hx:y2w.contains [c,d]with
     |false=>rfl
     |true=>
      have:=List.contains_iff_mem.1 hx;unfold y2w at this;simp at this;omega
    rw[h 10 (.inl rfl),h 32 (.inr rfl)];have e1:decide ((10:Nat)=45)=false:=rfl;have e2:decide ((32:Nat)=45)=false:=rfl;rw[e1,e2]
   ·rfl
  ·rfl
def k4h {t:T}(h:t.OK):0 < t.w.length:=by
 have e: ∀d,ajB t d=true->0 < t.w.length:=fun d hd=>by
  have hb:tb (⟨(t.w.map UInt8.ofNat).toArray⟩:BA)=t.w.map (fun c=>(UInt8.ofNat c).toNat):=by simp[tb]
  unfold T.w;rcases h with⟨h1,h2,h3,h4⟩|⟨h1,h2,h3⟩|⟨h1,h2⟩|⟨h1,h2,h3,h4⟩|⟨h1,h2,h3⟩|⟨h1,c,h2,h3,h4⟩
  ·rw[if_neg (by omega)];exact(x2y h3).1
  ·rw[if_neg (by omega)];exact(x2y h2).1
  ·rw[if_neg (by omega)];exact h2.2.1
  ·rw[if_pos h1];simp
  ·rw[if_neg (by omega)]
   obtain⟨i,hi,he⟩:=y5p.1 h2;rw[he]
   match i,hi with
   |0,_|1,_|2,_|3,_|4,_=>decide
  ·rw[if_neg (by omega),h3];exact Nat.one_pos
 by_cases h4:t.k=4
 ·unfold T.w;rw[if_pos h4];simp
 ·by_cases h5:t.k=5
  ·rcases h with⟨h1,_⟩|⟨h1,_⟩|⟨h1,_⟩|⟨h1,_⟩|⟨h1,h2,h3⟩|⟨h1,c,h2,h3,h4'⟩<;>try omega
   ·obtain⟨i,hi,he⟩:=y5p.1 h2;unfold T.w;rw[if_neg h4,he]
    match i,hi with
    |0,_|1,_|2,_|3,_|4,_=>decide
   ·unfold T.w;rw[if_neg h4,h3];exact Nat.one_pos
  ·refine e 32 ?_;unfold ajB;rw[if_neg h4,if_neg h5];rfl
def k3a {t:T}{p:Pc}{l:List Nat}(ho: ∀x,some x∈p->x.OK)(h:rnT p l):ajB t (hd 0 p)=ajB t (l.getD 0 0):=by
 match p,h,ho with
 | [],h,_=>cases h;rfl
 |none::r,⟨c,m,e,hc,_⟩,_=>
  subst e;show ajB t 32=ajB t c;rcases hc with rfl|rfl
  ·rfl
  ·exact(k7v t).symm
 |some x::r,⟨m,e,_⟩,ho=>
  have hp:=k4h (ho x a0u);rw[z5p _ _ _ hp,e,x9q hp]
def u9s (s:BA)(a c:Nat)(hc:c=32\/c=10)(h:(tb s).drop a=c::(tb s).drop (a+1)):y1t s a=y1t s (a+1):=by
 have hg:a+x6s ((tb s).drop a)=a+1+x6s ((tb s).drop (a+1)):=by
  rw[h,v5w _ (by rcases hc with rfl|rfl<;>rfl)];omega
 rw[y1t.eq_def s a,y1t.eq_def s (a+1)];simp only[hg]
def u2v (s:BA): ∀(ps:Pc) (a:Nat),a<=(tb s).length->rnT ps ((tb s).drop a)->(∀t,some t∈ps->t.OK)->x2w 0 ps=true->
  ∃l:List Tk,l.map tkT=ps.filterMap id/\y1t s a=(l,(tb s).length,true)
 | [],a,ha,hd,_,_=>by
   have hd:(tb s).drop a= []:=hd;have h0:a=(tb s).length:=by
    have:=congrArg List.length hd;simp only[a1u,a0e]at this;omega
   refine⟨[],rfl,?_⟩;rw[y1t.eq_def,hd];have hg:x6s []=0:=x7r rfl rfl;rw[hg,dif_neg (by omega)]
   subst h0;rfl
 |none::ps,a,ha,⟨c,m,hd,hc,hm⟩,ho,hch=>by
  have hd1:(tb s).drop (a+1)=m:=u0h (x:=[c]) hd;have hlt:a < (tb s).length:=by
   have:=congrArg List.length hd;simp only[a1u,a0a]at this;omega
  obtain⟨l,h1,h2⟩:=u2v s ps (a+1) hlt (by rw[hd1];exact hm) (fun t h=>ho t (a0v _ h)) hch
  refine⟨l,by simpa using h1,?_⟩
  rw[u9s s a c hc (by rw[hd,hd1]),h2]
 |some t::ps,a,ha,⟨m,hd,hm⟩,ho,hc=>by
  rw[x2w,a0g]at hc;have hlen:=congrArg List.length hd;simp only[a1u,a0j]at hlen;have e1:tb (s.extract a (tb s).length)=t.w++m:=by rw[x6h,a0t];exact hd
  have haj:ajB t (m.getD 0 0)=true:=by
   rw[<-k3a (fun x h=>ho x (a0v _ h)) hm];exact hc.1
  obtain⟨hk,hg,hw⟩:=q7o e1 (ho t a0u) haj;rw[x6h,a0t]at hg;obtain⟨l,h1,h2⟩:=u2v s ps (a+t.w.length) (by omega) (by rw[u0h hd];exact hm) (fun t h=>ho t (a0v _ h)) hc.2
  have heq:=y1t.eq_def s a;simp only[hg,Nat.add_zero]at heq;rw[dif_pos (by omega),dif_pos ⟨hk.ok,by rw[hk.w];exact hw⟩,hk.w,h2]at heq
  refine⟨_::l,?_,heq⟩;simp only[a1o,List.filterMap_cons,id,h1];congr 1;obtain⟨k,b,n⟩:=t;simp only[tkT,hk.k,hk.b,hk.n]
def Bk {α:Type}(l:List Tk)(m:RM α)(ts:List T)(F:T->Bool)(v:α):Prop:= ∀i,Az l i ts->F (tkT (tkA l (i+ts.length)))=true->i+ts.length < l.length->m i= .ok v (i+ts.length)
def tt (_:T):Bool:=true
def nxt:List T->(T->Bool)->(T->Bool)->Prop
 | [],F,G=> ∀x,F x=true->G x=true
 |t::_,_,G=>G t=true
def x6i {ts:List T}{F:T->Bool}:nxt ts F tt:=by
 cases ts with
 |nil=>exact fun _ _=>rfl
 |cons=>exact rfl
def w4y {l:List Tk}{ts:List T}{F G:T->Bool}(h:nxt ts F G){i:Nat}(ha:Az l i ts)(hf:F (tkT (tkA l (i+ts.length)))=true):G (tkT (tkA l i))=true:=by
 match ts,h,ha,hf with
 | [],h,_,hf=>exact h _ hf
 |t::r,h,ha,_=>rw[ha.1];exact h
section
variable {α β : Type} {l : List Tk} {m : RM α} {k : α -> RM β} {t1 t2 : List T} {t : T} {F G : T -> Bool} {a : α} {b : β}
def Bk.bind (h1:Bk l m t1 G a)(h2:Bk l (k a) t2 F b)(hx:nxt t2 F G):Bk l (m.bind k) (t1++t2) F b:=fun i ha hf hl=>by
 rw[a0j,<-a2e]at hf hl ⊢;obtain⟨a1,a2⟩:=x2n.1 ha;unfold RM.bind;rw[h1 i a1 (w4y hx a2 hf) (by omega)]
 exact h2 _ a2 hf hl
def Bk.ret (v:α):Bk l (RM.ret v) [] F v:=fun i _ _ _=>rfl
def Bk.fuel {ts:List T}{v:α}(h:ts.length < l.length->Bk l m ts F v):Bk l m ts F v:=fun i ha hf hl=>h (by omega) i ha hf hl
def Bk.tok {n:Int}{f:Tk->RM β}(hk:t.k=n)(hw:n=1->x4q t.b=false)(h: ∀x:Tk,tkT x=t->Bk l (f x) t2 F b):Bk l ((z4g l n).bind f) (t::t2) F b:=fun i ha hf hl=>by
 obtain⟨a1,a2⟩:=x1d.1 ha;have e1:(tkA l i).k=t.k:=congrArg T.k a1;have e2:tb (tkA l i).s=t.b:=congrArg T.b a1;have hc:(decide ((tkA l i).k=n)&& !(decide (n=1)&&x4q (tb (tkA l i).s)))=true:=by
  rw[e1,e2,hk,a0q rfl,a2j]
  by_cases h1:n=1
  ·rw[hw h1,Bool.and_false];rfl
  ·rw[decide_eq_false h1];rfl
 rw[a0a,show i+(t2.length+1)=i+1+t2.length by omega]at hf hl ⊢
 unfold RM.bind z4g;rw[hc];exact h _ a1 _ a2 hf hl
def Bk.yes {x:BA}{f:Bool->RM β}(hx:y6n t (tb x)=true)(h:Bk l (f true) t2 F b):Bk l ((tkR l x).bind f) (t::t2) F b:=fun i ha hf hl=>by
 obtain⟨a1,a2⟩:=x1d.1 ha;rw[a0a,show i+(t2.length+1)=i+1+t2.length by omega]at hf hl ⊢
 unfold RM.bind tkR;rw[y9i,a1,hx];exact h _ a2 hf hl
def Bk.no {x:BA}{f:Bool->RM β}(hx:nxt t2 F fun t=>nT t (tb x))(h:Bk l (f false) t2 F b):Bk l ((tkR l x).bind f) t2 F b:=fun i ha hf hl=>by
 have h1:=w4y hx ha hf;unfold RM.bind tkR;rw[x7e h1];exact h _ ha hf hl
def okW:List T->List BA->Bool
 | [],[]=>true
 |t::ts,w::ws=>y6n t (tb w)&&okW ts ws
 |_,_=>false
def u5z: ∀(ts:List T) (ws:List BA) (i:Nat),okW ts ws=true->Az l i ts->x2b l ws i= .ok () (i+ts.length)
 | [],[],i,_,_=>rfl
 |t::ts,w::ws,i,h,ha=>by
  simp only[okW,a0g]at h;rw[x2b,y9i,ha.1,h.1];simp only;rw[u5z ts ws (i+1) h.2 ha.2,a0a,show i+1+ts.length=i+(ts.length+1) by omega]
def Bk.j1r {ws:List BA}(h:okW t1 ws=true):Bk l (x5v l ws) t1 F ():=fun i ha hf hl=>by
 unfold x5v;rw[u5z t1 ws i h ha]
end
def w7o (n:Int):List BA->List T
 | []=>[]
 |x::r=>⟨5,[44],0⟩::⟨n,tb x,0⟩::w7o n r
def k8v (n:Int)(x:BA):Prop:=n=1->x4q (tb x)=false
def u5f (n:Int): ∀r:List BA,(w7o n r).length=2*r.length
 | []=>rfl
 |_::r=>by simp only[w7o,a0a,u5f n r];omega
section
variable {l : List Tk}
def u1e (n:Int): ∀(r:List BA) (k:Nat) (acc:List BA),r.length<=k->(∀x∈r,k8v n x)->Bk l (y3h l n k acc) (w7o n r) (fun t=>nT t [44]) (acc++r)
 | [],0,acc,_,_=>by rw[a0y];exact Bk.ret acc
 | [],k+1,acc,_,_=>by
   rw[a0y];exact Bk.no (x:=bs [44]) (fun _ h=>h) (Bk.ret acc)
 |x::r,0,acc,h,_=>absurd h (by simp)
 |x::r,k+1,acc,h,ho=>Bk.yes (x:=bs [44]) rfl (Bk.tok (t:=⟨n,tb x,0⟩) rfl (ho x a0u) fun y hy=>by
  have e:y.s=x:=x3f (congrArg T.b hy);have:=u1e n r k (acc++[x]) (by simpa using h) fun z hz=>ho z (a0v _ hz)
  rw[List.append_assoc]at this;rw[e];exact this)
def y9a (n:Int):List BA->List T
 | []=>[]
 |x::r=>⟨n,tb x,0⟩::w7o n r
def u8a (n:Int){r:List BA}(h0:r≠[])(ho: ∀x∈r,k8v n x):Bk l (y9c l n) (y9a n r) (fun t=>nT t [44]) r:=by
 obtain⟨x,r,rfl⟩:=List.exists_cons_of_ne_nil h0;refine Bk.fuel fun hl=> ?_
 simp only[y9a,a0a,u5f]at hl;exact Bk.tok (t:=⟨n,tb x,0⟩) rfl (ho x a0u) fun y hy=>by
  have e:y.s=x:=x3f (congrArg T.b hy);rw[e];exact u1e n r l.length [x] (by omega) fun z hz=>ho z (a0v _ hz)
def enT (e:En):List T:=⟨1,tb e.1,0⟩::([⟨5,[123],0⟩]++(y9a 2 e.2++([⟨5,[125],0⟩,⟨5,[59],0⟩]++[])))
def q4m {e:En}(h1:x4q (tb e.1)=false)(h2:e.2≠[]):Bk l (v0l l) (enT e) tt e:=by
 refine Bk.tok (t:=⟨1,tb e.1,0⟩) rfl (fun _=>h1) fun y hy=> ?_
 have he:y.s=e.1:=x3f (congrArg T.b hy);refine Bk.bind (G:=tt) (Bk.j1r rfl) ?_ (by obtain⟨x,r,h⟩:=List.exists_cons_of_ne_nil h2;rw[h];rfl)
 refine Bk.bind (u8a 2 h2 fun x _ h=>(by cases h)) ?_ rfl
 refine Bk.bind (G:=tt) (Bk.j1r rfl) ?_ (fun _ _=>rfl)
 rw[he];exact Bk.ret _
end
def k5t:List Nat:=[105,110,116]
def w9f:List Nat:=[98,111,111,108]
def u9u:List Nat:=[108,101,116]
def nmE (ens:List En)(e:Int):List Nat:=match ens[e.toNat]? with
 |some x=>tb x.1
 |none=>[]
def u4f (ens:List En)(k e:Int):T:=⟨1,if k=3 then nmE ens e else if k=2 then w9f else k5t,0⟩
def w8x (c:Int):List T:=if 0 < c then[⟨5,[91],0⟩,⟨3,y0f c.toNat,c⟩,⟨5,[93],0⟩]else[]
def q7i (ens:List En)(k e c:Int):List T:=[u4f ens k e]++w8x c
def q6s (o q:BA):List T:=if tb o= []then[]else⟨1,y3o,0⟩::(fm (onP o q)++[])
def dcT (ens:List En)(d:Dc):List T:=⟨1,tb d.n,0⟩::([⟨5,[58],0⟩]++(q7i ens d.k d.e d.c++q6s d.o d.q))
structure EnN (ens:List En):Prop where
 nd:(ens.map (·.1)).Nodup
 lo: ∀e∈ens,x3q (tb e.1)=true
def q9a {b w:List Nat}(h:x4q b=false)(hw:x4q w=true): ¬b=w:=fun e=>by rw[e,hw]at h;cases h
def u6b {b w:List Nat}{n:Int}(h:x4q b=false)(hw:x4q w=true):nT ⟨1,b,n⟩ w=true:=by
 unfold nT y6n;rw[decide_eq_false (q9a h hw)];rfl
def w1o {ens:List En}(h:EnN ens){e:Nat}{x:En}(hx:ens[e]? =some x):q6w ens x.1=some e:=by
 unfold q6w;obtain⟨h1,h2⟩:=a0c.1 hx;refine List.findIdx?_eq_some_iff_getElem.2 ⟨h1,by rw[h2];exact a0q rfl,fun j hj=> ?_⟩
 have hj':j < ens.length:=by omega
 have: ¬(ens[j]'hj').1=x.1:=fun e'=>by
  have h3:(ens.map (·.1))[j]'(by simpa using hj')=(ens.map (·.1))[e]'(by simpa using h1):=by simp only[List.getElem_map,h2,e']
  have:=(List.getElem_inj h.nd).1 h3;omega
 simp only[a0s];exact fun e'=>this (x3f e')
section
variable {l : List Tk} {ens : List En} {F : T -> Bool}
def q4n (hE:EnN ens){k e c:Int}(h:tyB ens k e c=true):Bk l (v8q l ens) [u4f ens k e] F (k,e):=by
 unfold tyB at h;simp only[a0g]at h;obtain⟨_,h⟩:=h
 by_cases h1:k=1
 ·subst h1;have he:e=0:=by simpa using h
  subst he;exact Bk.yes (x:=bs [105,110,116]) rfl (Bk.ret _)
 ·by_cases h2:k=2
  ·subst h2;have he:e=0:=by simpa using h
   subst he;exact Bk.no (x:=bs [105,110,116]) rfl (Bk.yes (x:=bs [98,111,111,108]) rfl (Bk.ret _))
  ·simp only[decide_eq_false h1,decide_eq_false h2,cond_false,a0g,a0s]at h;obtain⟨h3,h4,h5⟩:=h;subst h3;obtain⟨n,rfl⟩: ∃n:Nat,e=(n:Int):=⟨e.toNat,by omega⟩
   have hn:n < ens.length:=by omega
   have hx:ens[n]? =some ens[n]:=a0b hn;have hb:u4f ens 3 (n:Int)=⟨1,tb (ens[n]).1,0⟩:=by
    unfold u4f nmE;simp only[a0n,hx,if_true]
   have hw:=(x2z (hE.lo _ (a1i hn))).2;rw[hb];refine Bk.no (x:=bs [105,110,116]) (u6b hw rfl) (Bk.no (x:=bs [98,111,111,108]) (u6b hw rfl) (Bk.tok (t:=⟨1,tb (ens[n]).1,0⟩) rfl (fun _=>hw) fun y hy=> ?_))
   have e1:y.s=(ens[n]).1:=x3f (congrArg T.b hy);unfold u4h;rw[e1,w1o hE hx];exact Bk.ret _
def k2l (hE:EnN ens){k e c:Int}(h:tyB ens k e c=true)(hF: ∀x,F x=true->nT x [91]=true):Bk l (tyR l ens) (q7i ens k e c) F (k,e,c):=by
 have hc:0<=c/\c<=8:=by
  unfold tyB at h;simp only[a0g,Bool.not_eq_true',Bool.or_eq_false_iff,decide_eq_false_iff_not]at h;omega
 unfold q7i w8x;refine Bk.bind (G:=tt) (q4n hE h) ?_ x6i
 by_cases h0:0 < c
 ·rw[if_pos h0];refine Bk.yes (x:=bs [91]) rfl (Bk.tok (t:=⟨3,y0f c.toNat,c⟩) rfl (fun h=>by cases h) fun y hy=> ?_)
  have e1:y.n=c:=congrArg T.n hy;rw[e1,decide_eq_false (by omega),decide_eq_false (by omega)]
  exact Bk.bind (t1:=[⟨5,[93],0⟩]) (t2:=[]) (G:=tt) (Bk.j1r (ws:=[bs [93]]) rfl) (Bk.ret _) x6i
 ·rw[if_neg h0];have:c=0:=by omega
  subst this;exact Bk.no (x:=bs [91]) hF (Bk.ret _)
def q4i {o q:BA}(h1:x3q (tb o)=true)(h2:x8y q=true):Bk l (z4d l) (fm (onP o q)) F (o,q):=fun i ha hf hl=>by
 unfold z4d;rw[v1s h1 h2 ha trivial]
def v8k (hE:EnN ens){d:Dc}(h:x3v ens d=true)(hF: ∀x,F x=true->nT x [91]=true/\nT x y3o=true):Bk l (v0o l ens) (dcT ens d) F d:=by
 obtain⟨dn,k,e,c,o,q⟩:=d;unfold x3v at h;simp only[a0g,Bool.or_eq_true]at h;obtain⟨⟨h1,h2⟩,h3⟩:=h;refine Bk.tok (t:=⟨1,tb dn,0⟩) rfl (fun _=>(x2z h1).2) fun y hy=> ?_
 have e1:y.s=dn:=x3f (congrArg T.b hy);rw[e1];refine Bk.bind (G:=tt) (Bk.j1r rfl) ?_ x6i
 by_cases ho:tb o= []
 ·have hb:o=bs []:=x3f ho;have hq:q=bs []:=by
   rcases h3 with h3|⟨h3,_⟩
   ·unfold v1h at h3;simp only[a0g,a0s]at h3;exact x3f h3.2
   ·rw[show tb o= []from ho]at h3;cases h3
  subst hb hq;have eo:q6s (bs []) (bs [])= []:=rfl;rw[eo];refine Bk.bind (G:=fun t=>nT t [91]) (k2l hE h2 fun x hx=>hx) ?_ (fun x hx=>(hF x hx).1)
  exact Bk.no (x:=bs [119,104,101,110]) (fun x hx=>(hF x hx).2) (Bk.ret _)
 ·have h4:x3q (tb o)=true/\x8y q=true:=by
   rcases h3 with h3|h3
   ·unfold v1h at h3;simp only[a0g,a0s]at h3;exact absurd h3.1 ho
   ·exact h3
  have eo:q6s o q=⟨1,y3o,0⟩::(fm (onP o q)++[]):=by unfold q6s;rw[if_neg ho]
  rw[eo];refine Bk.bind (G:=fun t=>nT t [91]) (k2l hE h2 fun x hx=>hx) ?_ rfl
  exact Bk.yes (x:=bs [119,104,101,110]) rfl (Bk.bind (G:=tt) (q4i h4.1 h4.2) (Bk.ret _) x6i)
def x8x (ens:List En):List Dc->List T
 | []=>[]
 |d::r=>⟨5,[59],0⟩::(dcT ens d++x8x ens r)
def y1a (ens:List En):List Dc->List T
 | []=>[]
 |d::r=>dcT ens d++x8x ens r
def fD (t:T):Bool:=nT t [91]&&nT t y3o
def v6o: ∀x,fD x=true->nT x [91]=true/\nT x y3o=true:=fun x h=>by simpa[fD]using h
def u7g (ens:List En): ∀r:List Dc,r.length<=(x8x ens r).length
 | []=>a0p _
 |d::r=>by have:=u7g ens r;simp only[x8x,a0a,a0j];omega
def v6p {r:List Dc}{i:Nat}(ha:Az l i (x8x ens r))(hf:fD (tkT (tkA l (i+(x8x ens r).length)))=true):fD (tkT (tkA l i))=true:=by
 match r,ha,hf with
 | [],_,hf=>exact hf
 |d::r,ha,_=>rw[ha.1];rfl
def z0q (hE:EnN ens)(last:Bool): ∀(r:List Dc) (k:Nat) (acc:List Dc) (i:Nat),r.length<=k->(∀d∈r,x3v ens d=true)->Az l i (x8x ens r)->fD (tkT (tkA l (i+(x8x ens r).length)))=true->
  y0d l last (i+(x8x ens r).length)= .ok false (i+(x8x ens r).length)->i+(x8x ens r).length < l.length->y1b l ens last k acc i= .ok (acc++r) (i+(x8x ens r).length)
 | [],0,acc,i,_,_,_,_,_,_=>by rw[a0y];rfl
 | [],k+1,acc,i,_,_,_,_,hm,_=>by
   have hm:y0d l last i= .ok false i:=hm;rw[a0y,y1b];unfold RM.bind;rw[hm];rfl
 |d::r,0,_,_,h,_,_,_,_,_=>absurd h (by simp)
 |d::r,k+1,acc,i,h,ho,ha,hf,hm,hl=>by
  have hd:=ho d a0u;obtain⟨a1,a2⟩:=x1d.1 (show Az l i (⟨5,[59],0⟩::(dcT ens d++x8x ens r))from ha);have e0:i+(x8x ens (d::r)).length=i+1+(dcT ens d).length+(x8x ens r).length:=by simp only[x8x,a0a,a0j];omega
  rw[e0]at hf hm hl ⊢;obtain⟨a3,a4⟩:=x2n.1 a2;have hmore:y0d l last i= .ok true (i+1):=by
   have hn:isT l (i+1) v9n=false:=by
    refine x7e ?_;rw[show tkT (tkA l (i+1))=⟨1,tb d.n,0⟩from a2.1];unfold x3v at hd;simp only[a0g]at hd;exact u6b (x2z hd.1.1).2 rfl
   unfold y0d;rw[y9i,a1,hn,Bool.and_false];rfl
  have hdec:=v8k (l:=l) hE hd v6o (i+1) a3 (v6p a4 hf) (by omega)
  rw[y1b];unfold RM.bind;rw[hmore];simp only[hdec];rw[z0q hE last r k (acc++[d]) _ (by simpa using h) (fun x hx=>ho x (a0v _ hx)) a4 hf hm hl,List.append_assoc]
  rfl
def z0p (hE:EnN ens)(last:Bool){r:List Dc}(h0:r≠[])(ho: ∀d∈r,x3v ens d=true){i:Nat}(ha:Az l i (y1a ens r))(hf:fD (tkT (tkA l (i+(y1a ens r).length)))=true)
  (hm:y0d l last (i+(y1a ens r).length)= .ok false (i+(y1a ens r).length)) (hl:i+(y1a ens r).length < l.length):y4b l ens last i= .ok r (i+(y1a ens r).length):=by
 obtain⟨d,r,rfl⟩:=List.exists_cons_of_ne_nil h0;have ha:Az l i (dcT ens d++x8x ens r):=ha;obtain⟨a1,a2⟩:=x2n.1 ha;have e0:i+(y1a ens (d::r)).length=i+(dcT ens d).length+(x8x ens r).length:=by simp only[y1a,a0j];omega
 rw[e0]at hf hm hl ⊢;have hdec:=v8k (l:=l) hE (ho d a0u) v6o i a1 (v6p a2 hf) (by omega)
 have:=u7g ens r;unfold y4b RM.bind;rw[hdec];exact z0q hE last r l.length [d] _ (by omega) (fun x hx=>ho x (a0v _ hx)) a2 hf hm hl
def u8b (hE:EnN ens){r:List Dc}(h0:r≠[])(ho: ∀d∈r,x3v ens d=true):Bk l (y4b l ens false) (y1a ens r) (fun t=>fD t&&nT t [59]) r:=fun i ha hf hl=>by
 simp only[a0g]at hf;refine z0p hE false h0 ho ha hf.1 ?_ hl;have:=x7e (w:=bs [59]) hf.2;unfold y0d;rw[this];rfl
end
def w1l:List Nat:=[114,101,116,117,114,110,115]
def q6v:List Nat:=[118,97,114]
def u9t:List Nat:=[116,101,108]
def u3a:List Nat:=[101,110,117,109]
def z9b:List Nat:=[110,111,100,101]
section
variable {l : List Tk} {ens : List En} {F : T -> Bool}
def q4l {e:Ex}(h:y1e e=true)(hm:x3c e=true):Bk l (y6r l) (fm (pcs e)) (fun t=>foB .arrow t) e:=fun i ha hf hl=>by
 obtain⟨g,st⟩:=u6t (l:=l) e h;have hev:=x8b g st .arrow (by simp) ha hf
 have hread:y3b l i= .ok e (i+tL e):=by
  unfold y3b;refine hev _ ?_;have:i+tL e < l.length:=hl;unfold fuel;omega
 unfold y6r;rw[hread];simp only[hm,h,Bool.not_true,cond_false];rfl
def eqT (x:Eqn):List T:=y9a 1 x.ns++([⟨5,[61],0⟩]++(fm (pcs x.e)++([⟨5,[59],0⟩]++[])))
def u9p {n:Int}{r:List BA}(h0:r≠[]){t2:List T}{F G:T->Bool}(h: ∀x∈r,G ⟨n,tb x,0⟩=true):nxt (y9a n r++t2) F G:=by
 obtain⟨x,r,rfl⟩:=List.exists_cons_of_ne_nil h0;exact h x a0u
def y3u {x:Eqn}(h:eqB x=true):x.ns≠[]/\x3c x.e=true/\y1e x.e=true/\ ∀s∈x.ns,x3q (tb s)=true:=by
 unfold eqB at h;simp only[a0g,Bool.not_eq_true',decide_eq_false_iff_not,a0l]at h;refine⟨fun e=>h.1.1.1 (by rw[e];rfl),h.1.1.2.1,h.1.1.2.2,h.2⟩
def k7o {x:Eqn}(h:eqB x=true):Bk l (eqR l) (eqT x) F x:=by
 obtain⟨h1,h2,h3,h4⟩:=y3u h;refine Bk.bind (u8a 1 h1 fun s hs _=>(x2z (h4 s hs)).2) ?_ rfl
 refine Bk.bind (G:=tt) (Bk.j1r rfl) ?_ x6i;refine Bk.bind (q4l h3 h2) ?_ rfl;refine Bk.bind (G:=tt) (Bk.j1r rfl) ?_ x6i;exact Bk.ret _
def q2l:List Eqn->List T
 | []=>[⟨1,u9t,0⟩]
 |x::r=>eqT x++q2l r
def q2m {x:Eqn}(h:eqB x=true){t2:List T}:nxt (eqT x++t2) F fun t=>nT t u9t:=by
 obtain⟨h1,_,_,h4⟩:=y3u h;unfold eqT;rw[List.append_assoc];exact u9p h1 fun s hs=>u6b (x2z (h4 s hs)).2 rfl
def u7b: ∀r:List Eqn,r.length < (q2l r).length
 | []=>Nat.zero_lt_one
 |x::r=>by
  have:=u7b r;simp only[q2l,eqT,a0j,a0a];omega
def v8j: ∀(r:List Eqn) (k:Nat) (acc:List Eqn),r.length < k->(∀x∈r,eqB x=true)->Bk l (w5t l k acc) (q2l r) F (acc++r)
 |_,0,_,h,_=>absurd h (by simp)
 | [],k+1,acc,_,_=>by
   rw[a0y];exact Bk.yes (x:=bs [116,101,108]) rfl (Bk.ret acc)
 |x::r,k+1,acc,h,ho=>by
  have hx:=ho x a0u;refine Bk.no (x:=bs [116,101,108]) (q2m hx) (Bk.bind (G:=tt) (k7o hx) ?_ x6i);have:=v8j r k (acc++[x]) (by simpa using h) fun z hz=>ho z (a0v _ hz)
  rw[List.append_assoc]at this;exact this
def k3p (ens:List En)(d:List Dc):List T:=match d with
 | []=>[⟨5,[41],0⟩]
 |d::r=>y1a ens (d::r)++([⟨5,[41],0⟩]++[])
def v9q (ens:List En)(d:List Dc):List T:=match d with
 | []=>[]
 |d::r=>⟨1,q6v,0⟩::(y1a ens (d::r)++([⟨5,[59],0⟩]++[]))
def u0l {d:Dc}(h:x3v ens d=true):x3q (tb d.n)=true:=by
 unfold x3v at h;simp only[a0g]at h;exact h.1.1
def k2m (hE:EnN ens){d:List Dc}(ho: ∀x∈d,x3v ens x=true):Bk l (q9h l ens) (k3p ens d) F d:=by
 match d,ho with
 | [],_=>exact Bk.yes (x:=bs [41]) rfl (Bk.ret [])
 |d::r,ho=>
  have h1:nT ⟨1,tb d.n,0⟩ [41]=true:=by
   have:=u0l (ho d a0u);unfold nT y6n;rw[decide_eq_false fun e=>by rw[show tb d.n= [41]from e]at this;cases this];rfl
  refine Bk.no (x:=bs [41]) h1 (Bk.bind (u8b hE (by simp) ho) ?_ rfl)
  exact Bk.bind (G:=tt) (Bk.j1r rfl) (Bk.ret _) x6i
def q4j (hE:EnN ens){d:List Dc}(ho: ∀x∈d,x3v ens x=true):Bk l (v1t l ens) (v9q ens d) (fun t=>y6n t u9u) d:=by
 match d,ho with
 | [],_=>
   refine Bk.no (x:=bs [118,97,114]) (fun x hx=> ?_) (Bk.ret [])
   unfold y6n at hx;simp only[a0g,a0s]at hx;have:nT x [118,97,114]=true:=by
    unfold nT y6n;rw[hx.1];rfl
   exact this
 |d::r,ho=>
  refine Bk.yes (x:=bs [118,97,114]) rfl fun i ha hf hl=> ?_
  simp only[a0j,a0a,a0e]at hf hl ⊢;obtain⟨a1,a2⟩:=x2n.1 ha;have a2:tkT (tkA l (i+(y1a ens (d::r)).length))=⟨5,[59],0⟩:=a2.1;have hd:=z0p (l:=l) hE true (r:=d::r) (by simp) ho a1 (by rw[a2];rfl) (by
   have h1:isT l (i+(y1a ens (d::r)).length+1) v9n=true:=by
    rw[y9i];exact hf
   unfold y0d;rw[h1,y9i,a2];rfl) (by omega)
  unfold RM.bind;rw[hd];simp only;unfold x5v x2b;rw[y9i,a2];rfl
def w0z (ens:List En)(n:Nd):List T:=⟨1,tb n.n,0⟩::([⟨5,[40],0⟩]++(k3p ens n.ins++([⟨1,w1l,0⟩,⟨5,[40],0⟩]++(y1a ens n.outs++([⟨5,[41],0⟩]++(v9q ens n.vars++([⟨1,u9u,0⟩]++(q2l n.eqs++[]))))))))
structure NodeK (ens:List En) (n:Nd):Prop where
 nm:x3q (tb n.n)=true
 ins: ∀x∈n.ins,x3v ens x=true
 outs: ∀x∈n.outs,x3v ens x=true
 o0:n.outs≠[]
 vars: ∀x∈n.vars,x3v ens x=true
 eqs: ∀x∈n.eqs,eqB x=true
def y1l {n:Nd}(h:y0s ens n=true):NodeK ens n:=by
 unfold y0s y2c at h;simp only[a0g,a0l,a1k,a0s]at h;obtain⟨h1,_,_,h2,h3,h4⟩:=h;exact⟨h3,fun x hx=>h1 x (.inl (.inl hx)),fun x hx=>h1 x (.inl (.inr hx)),(fun e=>by rw[e]at h4;cases h4),fun x hx=>h1 x (.inr hx),h2⟩
def q4k (hE:EnN ens){n:Nd}(h:NodeK ens n):Bk l (u9m l ens) (w0z ens n) F n:=by
 refine Bk.tok (t:=⟨1,tb n.n,0⟩) rfl (fun _=>(x2z h.nm).2) fun y hy=> ?_
 have e1:y.s=n.n:=x3f (congrArg T.b hy);rw[e1];refine Bk.bind (G:=tt) (Bk.j1r rfl) ?_ x6i;refine Bk.bind (G:=tt) (k2m hE h.ins) ?_ x6i;refine Bk.bind (G:=tt) (Bk.j1r rfl) ?_ x6i;refine Bk.bind (u8b hE h.o0 h.outs) ?_ rfl;refine Bk.bind (G:=tt) (Bk.j1r rfl) ?_ x6i;refine Bk.bind (q4j hE h.vars) ?_ rfl;refine Bk.bind (G:=tt) (Bk.j1r rfl) ?_ x6i;refine Bk.fuel fun hl=> ?_
 have:=u7b n.eqs;refine Bk.bind (G:=tt) (v8j n.eqs l.length [] (by simp only[a0j]at hl;omega) h.eqs) ?_ x6i
 exact Bk.ret _
def v6x:List En->List T
 | []=>[]
 |e::r=>⟨1,u3a,0⟩::(enT e++v6x r)
def v9g (ens:List En):List Nd->List T
 | []=>[]
 |n::r=>⟨1,z9b,0⟩::(w0z ens n++v9g ens r)
def u7e: ∀r:List En,r.length<=(v6x r).length
 | []=>a0p _
 |e::r=>by have:=u7e r;simp only[v6x,a0a,a0j];omega
def u6a: ∀r:List Nd,r.length<=(v9g ens r).length
 | []=>a0p _
 |n::r=>by have:=u6a r;simp only[v9g,a0a,a0j];omega
def u1f: ∀(r:List En) (k:Nat) (acc:List En),r.length<=k->(∀e∈r,x4q (tb e.1)=false/\e.2≠[])->Bk l (y3v l k acc) (v6x r) (fun t=>nT t u3a) (acc++r)
 | [],0,acc,_,_=>by rw[a0y];exact Bk.ret acc
 | [],k+1,acc,_,_=>by
   rw[a0y];exact Bk.no (x:=bs [101,110,117,109]) (fun _ h=>h) (Bk.ret acc)
 |e::r,0,_,h,_=>absurd h (by simp)
 |e::r,k+1,acc,h,ho=>by
  have he:=ho e a0u;refine Bk.yes (x:=bs [101,110,117,109]) rfl (Bk.bind (q4m he.1 he.2) ?_ x6i);have:=u1f r k (acc++[e]) (by simpa using h) fun z hz=>ho z (a0v _ hz)
  rw[List.append_assoc]at this;exact this
def u1d (hE:EnN ens): ∀(r:List Nd) (k:Nat) (acc:List Nd),r.length<=k->(∀n∈r,NodeK ens n)->Bk l (y3f l ens k acc) (v9g ens r) (fun t=>nT t z9b) (acc++r)
 | [],0,acc,_,_=>by rw[a0y];exact Bk.ret acc
 | [],k+1,acc,_,_=>by
   rw[a0y];exact Bk.no (x:=bs [110,111,100,101]) (fun _ h=>h) (Bk.ret acc)
 |n::r,0,_,h,_=>absurd h (by simp)
 |n::r,k+1,acc,h,ho=>by
  refine Bk.yes (x:=bs [110,111,100,101]) rfl (Bk.bind (G:=tt) (q4k hE (ho n a0u)) ?_ x6i);have:=u1d hE r k (acc++[n]) (by simpa using h) fun z hz=>ho z (a0v _ hz)
  rw[List.append_assoc]at this;exact this
def y6j (ens:List En)(nds:List Nd):List T:=v6x ens++v9g ens nds
def k1m {t:T}(h:t.k=6)(w:List Nat):nT t w=true:=by
 unfold nT y6n;rw[h];simp
def v3u (hE:EnN ens){nds:List Nd}(h1: ∀e∈ens,e.2≠[])(h2: ∀n∈nds,NodeK ens n)(ha:Az l 0 (y6j ens nds))(hk:(tkA l (y6j ens nds).length).k=6)(hl:(y6j ens nds).length < l.length):y2i l 0= .ok (ens,nds) (y6j ens nds).length:=by
 obtain⟨a1,a2⟩:=x2n.1 (show Az l 0 (v6x ens++v9g ens nds)from ha);have e0:(y6j ens nds).length=(v6x ens).length+(v9g ens nds).length:=by simp[y6j]
 rw[e0]at hk hl ⊢;rw[a1y]at a2;have l1:=u7e ens;have l2:=u6a (ens:=ens) nds;have r1:=u1f (l:=l) ens l.length [] (by omega) (fun e he=>⟨(x2z (hE.lo e he)).2,h1 e he⟩) 0 a1 (by
  rw[a1y]
  match nds,a2,hk with
  | [],_,hk=>exact k1m (show(tkT (tkA l (v6x ens).length)).k=6 from hk) _
  |n::r,a2,_=>rw[a2.1];rfl) (by omega)
 rw[a1y,a0h]at r1;have r2:=u1d (l:=l) hE nds l.length [] (by omega) h2 _ a2 (k1m (show(tkT (tkA l ((v6x ens).length+(v9g ens nds).length))).k=6 from hk) _) hl
 rw[a0h]at r2;unfold y2i RM.bind;rw[r1];simp only[r2];unfold v9j;rw[hk];rfl
end
def u9n (n:Int)(r:List BA):Pc:=x1v (r.map fun x=>[some ⟨n,tb x,0⟩])
def lnP (c:Int):Pc:=if 0 < c then[mk 91,some ⟨3,y0f c.toNat,c⟩,mk 93]else[]
def tyP (ens:List En)(k e c:Int):Pc:=some (u4f ens k e)::lnP c
def whP (o q:BA):Pc:=if tb o= []then[]else none::wd y3o::none::onP o q
def dcP (ens:List En)(d:Dc):Pc:=wd (tb d.n)::mk 58::none::(tyP ens d.k d.e d.c++whP d.o d.q)
def w5y (ens:List En):List Dc->Pc
 | []=>[]
 |d::r=>mk 59::none::(dcP ens d++w5y ens r)
def dsP (ens:List En):List Dc->Pc
 | []=>[]
 |d::r=>dcP ens d++w5y ens r
def vrP (ens:List En):List Dc->Pc
 | []=>[]
 |d::r=>wd q6v::none::(dsP ens (d::r)++[mk 59,none])
def eqP (x:Eqn):Pc:=none::none::(u9n 1 x.ns++(none::mk 61::none::(pcs x.e++[mk 59,none])))
def u3s:List Eqn->Pc
 | []=>[wd u9t,none]
 |x::r=>eqP x++u3s r
def ndP (ens:List En)(n:Nd):Pc:=wd z9b::none::wd (tb n.n)::mk 40::(dsP ens n.ins++(mk 41::none::wd w1l::none::mk 40::(dsP ens n.outs++(mk 41::none::(vrP ens n.vars++(wd u9u::none::u3s n.eqs))))))
def enP (e:En):Pc:=wd u3a::none::wd (tb e.1)::none::mk 123::none::(u9n 2 e.2++[none,mk 125,mk 59,none])
def v9k:List En->Pc
 | []=>[]
 |e::r=>enP e++v9k r
def v9h (ens:List En):List Nd->Pc
 | []=>[]
 |n::r=>ndP ens n++v9h ens r
def pgP (ens:List En)(nds:List Nd):Pc:=v9k ens++v9h ens nds
def v6h (n:Int): ∀r:List BA,fm (y4j (r.map fun x=>[some ⟨n,tb x,0⟩]))=w7o n r
 | []=>rfl
 |x::r=>by
  have:=v6h n r;simp only[a1o,y4j,mk,x2a,x2o,a0d,a0h,w7o,this]
def w5m (n:Int)(r:List BA):fm (u9n n r)=y9a n r:=by
 match r with
 | []=>rfl
 |x::r=>
  have:=v6h n r;simp only[u9n,a1o,x1v,x2a,a0d,a0h,y9a,this]
def k6m (ens:List En)(k e c:Int):fm (tyP ens k e c)=q7i ens k e c:=by
 unfold tyP lnP q7i w8x;split<;>rfl
def k6k (o q:BA):fm (whP o q)=q6s o q:=by
 unfold whP q6s;split
 ·rfl
 ·simp only[wd,x2o,x2a,a0y]
def k1i (ens:List En)(d:Dc):fm (dcP ens d)=dcT ens d:=by
 simp only[dcP,dcT,wd,mk,x2a,x2o,x2f,k6m,k6k,a0d,a0h]
def w5q (ens:List En): ∀r:List Dc,fm (w5y ens r)=x8x ens r
 | []=>rfl
 |d::r=>by simp only[w5y,x8x,mk,x2a,x2o,x2f,k1i,w5q ens r]
def k1h (ens:List En)(r:List Dc):fm (dsP ens r)=y1a ens r:=by
 match r with
 | []=>rfl
 |d::r=>simp only[dsP,y1a,x2f,k1i,w5q]
def k6l (ens:List En)(r:List Dc):fm (vrP ens r)=v9q ens r:=by
 match r with
 | []=>rfl
 |d::r=>simp only[vrP,v9q,wd,mk,x2f,x2a,x2o,x5x,k1h,a0y]
def k1g (x:Eqn):fm (eqP x)=eqT x:=by
 simp only[eqP,eqT,mk,x2f,x2a,x2o,x5x,w5m,a0y,a0d,a0h]
def w5o: ∀r:List Eqn,fm (u3s r)=q2l r
 | []=>rfl
 |x::r=>by simp only[u3s,q2l,x2f,k1g,w5o r]
def w9l (ens:List En)(d:List Dc)(X:List T):y1a ens d++⟨5,[41],0⟩::X=k3p ens d++X:=by
 match d with
 | []=>rfl
 |d::r=>simp only[k3p,List.append_assoc,a0d,a0h,a0y]
def k6o (ens:List En)(n:Nd):fm (ndP ens n)=⟨1,z9b,0⟩::w0z ens n:=by
 simp only[ndP,w0z,wd,mk,x2f,x2a,x2o,k1h,k6l,w5o,w9l,a0y,a0d,a0h]
def k6p (e:En):fm (enP e)=⟨1,u3a,0⟩::enT e:=by
 simp only[enP,enT,wd,mk,x2f,x2a,x2o,x5x,w5m,a0y,a0d,a0h]
def w5p: ∀r:List En,fm (v9k r)=v6x r
 | []=>rfl
 |e::r=>by simp only[v9k,v6x,x2f,k6p,w5p r,a0d]
def w5n (ens:List En): ∀r:List Nd,fm (v9h ens r)=v9g ens r
 | []=>rfl
 |n::r=>by simp only[v9h,v9g,x2f,k6o,w5n ens r,a0d]
def k6n (ens:List En)(nds:List Nd):fm (pgP ens nds)=y6j ens nds:=by
 simp only[pgP,y6j,x2f,w5p,w5n]
structure CP (p:Pc):Prop where
 ok:okP p
 ch: ∀d,edB d=true->x2w d p=true
def NP (p:Pc):Prop:= ∀d,edB d=true->x0t (hd d p)=false
def EP (p:Pc):Prop:= ∀d,edB d=true->edB (hd d p)=true
def EP.np {p:Pc}(h:EP p):NP p:=fun d hd'=>x4g (h d hd')
def CP.app {p q:Pc}(h1:CP p)(h2:CP q)(h:EP q):CP (p++q):=⟨(x2v _ _).2 ⟨h1.ok,h2.ok⟩,fun d hd'=>by rw[x1f,h1.ch _ (h d hd'),h2.ch d hd'];rfl⟩
def CP.nil:CP []:=⟨trivial,fun _ _=>rfl⟩
def CP.blank {p:Pc}(h:CP p):CP (none::p):=⟨h.ok,h.ch⟩
def y1f {p:Pc}{c:Nat}(hc:u2k.contains c=true)(h:CP p)(ha: ∀d,edB d=true->ajB ⟨5,[c],0⟩ (hd d p)=true):CP (mk c::p):=⟨⟨u4p hc,h.ok⟩,fun d hd'=>by rw[x9r,ha d hd',h.ch d hd'];rfl⟩
def CP.word {p:Pc}{b:List Nat}(hb:T.OK ⟨1,b,0⟩)(h:CP p)(hn:NP p):CP (wd b::p):=⟨⟨hb,h.ok⟩,fun d hd'=>by rw[z2e,hn d hd',h.ch d hd'];rfl⟩
def v9f:EP []:=fun _ h=>h
def x7l (p:Pc):EP (none::p):=fun _ _=>rfl
def v1j {c:Nat}(hc:edB c=true)(p:Pc):EP (mk c::p):=fun _ _=>hc
def k3j {c:Nat}(hc:x0t c=false)(p:Pc):NP (mk c::p):=fun _ _=>hc
def EP.app {p q:Pc}(h1:EP p)(h2:EP q):EP (p++q):=fun d hd'=>by rw[x7q];exact h1 _ (h2 d hd')
def q6l {r:List BA}(h: ∀x∈r,x3q (tb x)=true):CP (u9n 1 r):=by
 have:=z1l (t:=r.map fun x=>[some ⟨1,tb x,0⟩]) fun p hp=>by
  obtain⟨x,hx,rfl⟩:=a1z.1 hp;exact⟨⟨y4i (h x hx),trivial⟩,fun d hd'=>by show(!x0t (hd d [])&&true)=true;rw[w5c,x4g hd'];rfl,fun d=>v4r (h x hx) d []⟩
 exact⟨this.1,this.2⟩
def q6k {r:List BA}(h: ∀x∈r,x3h (tb x)=true):CP (u9n 2 r):=by
 have:=z1l (t:=r.map fun x=>[some ⟨2,tb x,0⟩]) fun p hp=>by
  obtain⟨x,hx,rfl⟩:=a1z.1 hp;exact⟨⟨u4q (h x hx),trivial⟩,fun d hd'=>by show(!x0t (hd d [])&&true)=true;rw[w5c,x4g hd'];rfl,fun d=>v5h (h x hx) d []⟩
 exact⟨this.1,this.2⟩
def k8e {o q:BA}(hs:x3q (tb o)=true)(ha:x8y q=true):CP (onP o q):=by
 refine⟨(k3g hs ha).1,fun d hd'=> ?_⟩
 have hi:=x4g hd';unfold onP;split
 ·show(!x0t d&&true)=true;rw[hi];rfl
 ·split
  ·show(!x0t 32&&(!x0t d&&true))=true;rw[hi];rfl
  ·rw[v7f];show(!x0t 40&&(ajB ⟨5,[40],0⟩ _&&(!x0t 41&&(ajB ⟨5,[41],0⟩ d&&true))))=true;rw[u1r,u1q];rfl
section
variable {ens : List En}
def k7l (hE:EnN ens){k e c:Int}(h:tyB ens k e c=true):T.OK (u4f ens k e):=by
 unfold tyB at h;simp only[a0g]at h;obtain⟨_,h⟩:=h
 by_cases h3:k=3
 ·subst h3;have h:(decide (0<=e)&&decide (e < (ens.length:Int)))=true:=by simpa using h
  simp only[a0g,a0s]at h;obtain⟨n,rfl⟩: ∃n:Nat,e=(n:Int):=⟨e.toNat,by omega⟩
  have hn:n < ens.length:=by omega
  have hx:ens[n]? =some ens[n]:=a0b hn;unfold u4f nmE;simp only[a0n,hx,if_true];exact y4i (hE.lo _ (a1i hn))
 ·unfold u4f;rw[if_neg h3];split
  ·exact y1x rfl rfl
  ·exact y1x rfl rfl
def k5o {c:Int}(hc:c<=8):CP (lnP c)/\EP (lnP c):=by
 unfold lnP;split
 ·rename_i h0;refine⟨⟨⟨u4p rfl,w6h (by omega) (by omega),u4p rfl,trivial⟩,fun d hd'=> ?_⟩,v1j rfl _⟩
  rw[x9r,k1u,x9r,k4e,y1u,k4d];rfl
 ·exact⟨CP.nil,v9f⟩
def k4k (hE:EnN ens){k e c:Int}(h:tyB ens k e c=true):CP (tyP ens k e c):=by
 have hc:c<=8:=by
  unfold tyB at h;simp only[a0g,Bool.not_eq_true',Bool.or_eq_false_iff,decide_eq_false_iff_not]at h;omega
 obtain⟨h1,h2⟩:=k5o hc;exact CP.word (k7l hE h) h1 h2.np
def k4g {d:Dc}(h:x3v ens d=true):CP (whP d.o d.q)/\EP (whP d.o d.q):=by
 unfold x3v at h;simp only[a0g,Bool.or_eq_true]at h;unfold whP;split
 ·exact⟨CP.nil,v9f⟩
 ·rename_i ho;have h4:x3q (tb d.o)=true/\x8y d.q=true:=by
   rcases h.2 with h3|h3
   ·unfold v1h at h3;simp only[a0g,a0s]at h3;exact absurd h3.1 ho
   ·exact h3
  exact⟨CP.blank (CP.word (y1x rfl rfl) (CP.blank (k8e h4.1 h4.2)) (x7l _).np),x7l _⟩
def k1q (hE:EnN ens){d:Dc}(h:x3v ens d=true):CP (dcP ens d):=by
 obtain⟨h1,h2⟩:=k4g h;have h3:=u0l h;unfold x3v at h;simp only[a0g]at h;exact CP.word (y4i h3) (y1f rfl (CP.blank (CP.app (k4k hE h.1.2) h1 h2)) fun _ _=>rfl) (k3j rfl _)
def w5x (hE:EnN ens): ∀ {r:List Dc},(∀d∈r,x3v ens d=true)->CP (w5y ens r)/\EP (w5y ens r)
 | [],_=>⟨CP.nil,v9f⟩
 |d::r,h=>by
  obtain⟨h1,h2⟩:=w5x hE (r:=r) fun x hx=>h x (a0v _ hx)
  exact⟨y1f rfl (CP.blank (CP.app (k1q hE (h d a0u)) h1 h2)) (fun _ _=>z2h (by decide)),v1j rfl _⟩
def q2s (hE:EnN ens){r:List Dc}(h: ∀d∈r,x3v ens d=true):CP (dsP ens r):=by
 match r,h with
 | [],_=>exact CP.nil
 |d::r,h=>
  obtain⟨h1,h2⟩:=w5x hE (r:=r) fun x hx=>h x (a0v _ hx)
  exact CP.app (k1q hE (h d a0u)) h1 h2
def k1n:CP [mk 59,none]:=y1f rfl (CP.blank CP.nil) fun _ _=>z2h (by decide)
def k4i (hE:EnN ens){r:List Dc}(h: ∀d∈r,x3v ens d=true){X:Pc}(hX:CP X):CP (vrP ens r++X):=by
 match r,h with
 | [],_=>exact hX
 |d::r,h=>
  have:vrP ens (d::r)++X=wd q6v::none::(dsP ens (d::r)++(mk 59::none::X)):=by simp only[vrP,a0d,List.append_assoc,a0h]
  rw[this];exact CP.word (y1x rfl rfl) (CP.blank (CP.app (q2s hE h) (y1f rfl (CP.blank hX) fun _ _=>z2h (by decide)) (v1j rfl _))) (x7l _).np
def w5u {x:Eqn}(h:eqB x=true)(hr:x.e.rng):CP (eqP x):=by
 obtain⟨_,_,h3,h4⟩:=y3u h;have hp:=w6g x.e h3 hr;exact CP.blank (CP.blank (CP.app (q6l h4) (CP.blank (y1f rfl (CP.blank (CP.app ⟨hp.ok,hp.ch⟩ k1n (v1j rfl _))) fun _ _=>rfl)) (x7l _)))
def w5s: ∀ {r:List Eqn},(∀x∈r,eqB x=true/\x.e.rng)->CP (none::u3s r)
 | [],_=>CP.blank (CP.word (y1x rfl rfl) (CP.blank CP.nil) (x7l _).np)
 |x::r,h=>by
  have h1:=h x a0u;have h2:=w5s (r:=r) fun y hy=>h y (a0v _ hy)
  refine CP.blank ⟨(x2v _ _).2 ⟨(w5u h1.1 h1.2).ok,h2.ok⟩,fun d hd'=> ?_⟩
  have e:eqP x=(none::none::(u9n 1 x.ns++(none::mk 61::none::(pcs x.e++[mk 59]))))++[none]:=by simp only[eqP,a0d,List.append_assoc,a0h]
  have h3:=h2.ch d hd';rw[x5o]at h3;show x2w d (eqP x++u3s r)=true;rw[e,List.append_assoc,x1f];have h4:=(w5u h1.1 h1.2).ch 0 rfl;rw[e,x1f,a0g]at h4;rw[show hd d ([none]++u3s r)=hd 0 [none]from rfl,h4.1];exact h3
def k5m (hE:EnN ens){n:Nd}(h:NodeK ens n)(hr: ∀x∈n.eqs,x.e.rng):CP (ndP ens n):=by
 have h5:=w5s fun x hx=>⟨h.eqs x hx,hr x hx⟩
 have h4:CP (wd u9u::none::u3s n.eqs):=CP.word (y1x rfl rfl) h5 (x7l _).np;have h3:=k4i hE h.vars h4;have h2:CP (dsP ens n.outs++(mk 41::none::(vrP ens n.vars++(wd u9u::none::u3s n.eqs)))):=CP.app (q2s hE h.outs) (y1f rfl (CP.blank h3) fun _ _=>u1q _) (v1j rfl _)
 have h1:=CP.app (q2s hE h.ins) (q:=mk 41::none::wd w1l::none::mk 40::(dsP ens n.outs++(mk 41::none::(vrP ens n.vars++(wd u9u::none::u3s n.eqs))))) (y1f rfl (CP.blank (CP.word (y1x rfl rfl) (CP.blank (y1f rfl h2 fun _ _=>u1r _)) (x7l _).np)) fun _ _=>u1q _) (v1j rfl _)
 exact CP.word (y1x rfl rfl) (CP.blank (CP.word (y4i h.nm) (y1f rfl h1 fun _ _=>u1r _) (k3j rfl _))) (x7l _).np
def k6w {e:En}(h1:x3q (tb e.1)=true)(h2: ∀c∈e.2,x3h (tb c)=true):CP (enP e):=by
 have h4:CP [none,mk 125,mk 59,none]:=CP.blank (y1f rfl k1n fun _ _=>z2h (by decide))
 exact CP.word (y1x rfl rfl) (CP.blank (CP.word (y4i h1) (CP.blank (y1f rfl (CP.blank (CP.app (q6k h2) h4 (x7l _))) fun _ _=>z2h (by decide))) (x7l _).np)) (x7l _).np
end
def q7a (e:En):Pc:=wd u3a::none::wd (tb e.1)::none::mk 123::none::(u9n 2 e.2++[none,mk 125,mk 59])
def k3t (x:Eqn):Pc:=none::none::(u9n 1 x.ns++(none::mk 61::none::(pcs x.e++[mk 59])))
def k3k (ens:List En)(r:List Dc):Pc:=wd q6v::none::(dsP ens r++[mk 59])
def q9k (ens:List En)(n:Nd):Pc:=wd z9b::none::wd (tb n.n)::mk 40::(dsP ens n.ins++(mk 41::none::wd w1l::none::mk 40::(dsP ens n.outs++[mk 41])))
def q7m (e:En):List Nat:=x0f (q7a e)++[10]
def q6p (x:Eqn):List Nat:=x0f (k3t x)++[10]
def y6h:List Eqn->List Nat
 | []=>[]
 |x::r=>q6p x++y6h r
def q7k (ens:List En)(r:List Dc):List Nat:=match r with
 | []=>[]
 |d::r=>x0f (k3k ens (d::r))++[10]
def w6y (ens:List En)(n:Nd):List Nat:=(x0f (q9k ens n)++[10])++(q7k ens n.vars++(u9u++([10]++(y6h n.eqs++(u9t++[10])))))
def z4e:List En->List Nat
 | []=>[]
 |e::r=>q7m e++z4e r
def z1o (ens:List En):List Nd->List Nat
 | []=>[]
 |n::r=>w6y ens n++z1o ens r
def q7l (ens:List En)(nds:List Nd):List Nat:=z4e ens++z1o ens nds
def w0g {p:Pc}:rnT (p++[none]) (x0f p++[10]):=x5z (x8j p) v3f
def k4x (e:En):rnT (enP e) (q7m e):=by
 have:enP e=q7a e++[none]:=by simp only[enP,q7a,a0d,List.append_assoc,a0h]
 rw[this];exact w0g
def k4w (x:Eqn):rnT (eqP x) (q6p x):=by
 have:eqP x=k3t x++[none]:=by simp only[eqP,k3t,a0d,List.append_assoc,a0h]
 rw[this];exact w0g
def w4o: ∀r:List Eqn,rnT (u3s r) (y6h r++(u9t++[10]))
 | []=>by
   show rnT ([wd u9t]++[none]) (u9t++[10]);exact x5z (x:=u9t) (x8j [wd u9t]) v3f
 |x::r=>by
  show rnT (eqP x++u3s r) ((q6p x++y6h r)++(u9t++[10]));rw[List.append_assoc];exact x5z (k4w x) (w4o r)
def k4u (ens:List En)(r:List Dc):rnT (vrP ens r) (q7k ens r):=by
 match r with
 | []=>rfl
 |d::r=>
  have:vrP ens (d::r)=k3k ens (d::r)++[none]:=by simp only[vrP,k3k,a0d,List.append_assoc,a0h]
  rw[this];exact w0g
def k4v (ens:List En)(n:Nd):rnT (ndP ens n) (w6y ens n):=by
 have:ndP ens n=(q9k ens n++[none])++(vrP ens n.vars++([wd u9u]++([none]++u3s n.eqs))):=by simp only[ndP,q9k,a0d,List.append_assoc,a0h]
 rw[this];exact x5z w0g (x5z (k4u ens n.vars) (x5z (p:=[wd u9u]) (x:=u9u) (x8j [wd u9u]) (x5z v3f (w4o n.eqs))))
def w4p: ∀r:List En,rnT (v9k r) (z4e r)
 | []=>rfl
 |e::r=>x5z (k4x e) (w4p r)
def w4n (ens:List En): ∀r:List Nd,rnT (v9h ens r) (z1o ens r)
 | []=>rfl
 |n::r=>x5z (k4v ens n) (w4n ens r)
def u0c {ens:List En}(h:x7g ens=0):EnN ens/\ ∀e∈ens,e.2≠[]/\ ∀c∈e.2,x3h (tb c)=true:=by
 unfold x7g at h;cases h1:x6j ens with
 |true=>rw[h1]at h;cases h
 |false=>
  cases h2:u6h ens&&y0v (x1o ens)with
  |false=>rw[h1,h2]at h;cases h
  |true=>
   cases h3:(!(decide (ens.map (·.1)).Nodup) || !(decide (x1o ens).Nodup))with
   |true=>rw[h1,h2,h3]at h;cases h
   |false=>
    simp only[Bool.or_eq_false_iff,Bool.not_eq_false',a0s]at h3;unfold u6h y0v x1o at h2;simp only[a0g,a0l,a0s,List.mem_flatMap]at h2;exact⟨⟨h3.1,fun e he=>(h2.1 e he).1⟩,fun e he=>⟨(fun h0=>by have:=(h2.1 e he).2;rw[h0]at this;cases this),fun c hc=>h2.2 c ⟨e,he,hc⟩⟩⟩
def y4c {ens:List En}{nds:List Nd}(h:y4d ens nds=0):x7g ens=0/\ ∀n∈nds,y0s ens n=true:=by
 unfold y4d at h
 by_cases h1:x7g ens=0
 ·refine⟨h1,?_⟩;rw[a0q h1]at h;simp only[Bool.not_true,cond_false]at h
  by_cases h2:(nds.length:Int)=0
  ·rw[a0q h2]at h;cases h
  ·rw[decide_eq_false h2]at h;simp only[cond_false]at h;cases h3:(decide (6 < (nds.length:Int)) || nds.any y2a)with
   |true=>rw[h3]at h;cases h
   |false=>
    rw[h3]at h;simp only[cond_false]at h;cases h4:nds.all (y0s ens)with
    |true=>exact a0l.1 h4
    |false=>rw[h4]at h;cases h
 ·rw[decide_eq_false h1]at h;simp only[a2f,cond_true]at h;exact absurd h h1
def u9f (s:BA)(ens:List En)(nds:List Nd)(hs:tb s=q7l ens nds)(hl:(tb s).length<=6000)(hc:y4d ens nds=0)(hr: ∀n∈nds,∀x∈n.eqs,x.e.rng):y6k s=((ens,nds),((tb s).length:Int),0):=by
 obtain⟨hc1,hc2⟩:=y4c hc;obtain⟨hE,hE2⟩:=u0c hc1;have hN: ∀n∈nds,NodeK ens n:=fun n hn=>y1l (hc2 n hn)
 have hOK: ∀r:List En,(∀e∈r,e∈ens)-> ∀X:Pc,okP X->x2w 0 X=true->(∀p:Pc,True)->okP (v9k r++X)/\x2w 0 (v9k r++X)=true:=by
  intro r
  induction r with
  |nil=>exact fun _ X h1 h2 _=>⟨h1,h2⟩
  |cons e r ih=>
   intro hr X h1 h2 h3;obtain⟨i1,i2⟩:=ih (fun x hx=>hr x (a0v _ hx)) X h1 h2 h3
   have he:=hr e a0u;have hcp:=k6w (hE.lo e he) (hE2 e he).2;have ee:enP e=q7a e++[none]:=by simp only[enP,q7a,a0d,List.append_assoc,a0h]
   have h4:=hcp.ch 0 rfl;rw[ee,x1f,a0g]at h4;show okP ((enP e++v9k r)++X)/\x2w 0 ((enP e++v9k r)++X)=true;rw[List.append_assoc];refine⟨(x2v _ _).2 ⟨hcp.ok,i1⟩,?_⟩;rw[ee,List.append_assoc,x1f,show hd 0 ([none]++(v9k r++X))=hd 0 [none]from rfl,h4.1];exact i2
 have hND: ∀r:List Nd,(∀n∈r,n∈nds)->okP (v9h ens r)/\x2w 0 (v9h ens r)=true:=by
  intro r
  induction r with
  |nil=>exact fun _=>⟨trivial,rfl⟩
  |cons n r ih=>
   intro hr';obtain⟨i1,i2⟩:=ih (fun x hx=>hr' x (a0v _ hx))
   have hn:=hr' n a0u;have hcp:=k5m hE (hN n hn) (hr n hn);have ee: ∀q:List Eqn,∃p:Pc,u3s q=p++[none]:=by
    intro q
    induction q with
    |nil=>exact⟨[wd u9t],rfl⟩
    |cons x q ih=>obtain⟨p,hp⟩:=ih;exact⟨eqP x++p,by rw[u3s,hp,List.append_assoc]⟩
   obtain⟨p,hp⟩:=ee n.eqs;have ee: ∃p:Pc,ndP ens n=p++[none]:=⟨wd z9b::none::wd (tb n.n)::mk 40::(dsP ens n.ins++(mk 41::none::wd w1l::none::mk 40::(dsP ens n.outs++(mk 41::none::(vrP ens n.vars++(wd u9u::none::p)))))),by
    simp only[ndP,hp,a0d,List.append_assoc]⟩
   obtain⟨p,hp⟩:=ee;have h4:=hcp.ch 0 rfl;rw[hp,x1f,a0g]at h4;refine⟨(x2v _ _).2 ⟨hcp.ok,i1⟩,?_⟩;show x2w 0 (ndP ens n++v9h ens r)=true;rw[hp,List.append_assoc,x1f,show hd 0 ([none]++v9h ens r)=hd 0 [none]from rfl,h4.1];exact i2
 obtain⟨n1,n2⟩:=hND nds fun _ h=>h
 obtain⟨o1,o2⟩:=hOK ens (fun _ h=>h) (v9h ens nds) n1 n2 fun _=>trivial
 obtain⟨t,q1,q2⟩:=u2v s (pgP ens nds) 0 (a0w _) (by rw[a2k,hs];exact x5z (w4p ens) (w4n ens nds)) (u2m.1 o1) o2
 rw[q2h,k6n]at q1;have hlen:t.length=(y6j ens nds).length:=by rw[<-q1,a1f]
 have ht:x6x s=t++[q6y s]:=by unfold x6x;rw[q2]
 have haz:Az (x6x s) 0 (y6j ens nds):=by
  have:=k2v (l:=[]) (b:=[q6y s]) q1;rw[ht];exact this
 have hend:tkA (x6x s) (y6j ens nds).length=q6y s:=by
  unfold tkA;rw[ht,a0i,<-hlen];simp
 have hL:(y6j ens nds).length+1=(x6x s).length:=by rw[ht,a0j,hlen];rfl
 have hp:=v3u (l:=x6x s) hE (nds:=nds) (fun e he=>(hE2 e he).1) hN haz (by rw[hend];rfl) (by omega)
 unfold y6k;rw[q2,decide_eq_false (by omega: ¬(6000:Int) < ((tb s).length:Int))]
 simp only[hp,hc,decide_true,Bool.not_true,cond_false]
end Go.Vm
end
section
set_option maxRecDepth 1000000
set_option maxHeartbeats 0
namespace Go.Vm
open Go.Proofs
noncomputable section
variable (A : Sy) (E : Env)
def g73 (e_0 e_1:Int)(e_2:BA)(e_3:Int)(e_4 e_5:LL):Option PRes:=zC E 118 [kE e_0 e_1 e_2 e_3 e_4 e_5] fun p1=>yB A p1 0 fun b3=>bif (A.bnot b3)then vL [.str (bs [])] else zC E 120 [kE e_0 e_1 e_2 e_3 e_4 e_5] fun p4=>yS A p4 0 fun s6=>vL [.str s6]
def k0a (e_0 e_1:Int)(e_2:BA)(e_3:Int)(e_4 e_5:LL):fT A E 73 [.agg [.d (.int .i64 e_0), .d (.int .i64 e_1), .d (.str e_2), .d (.int .i64 e_3), .d (.sl 1 e_4), .d (.sl 6 e_5)]]=g73 A E e_0 e_1 e_2 e_3 e_4 e_5:=by kernel_rfl
def k6j (A:Sy)(E:Env)(e_0 e_1:Int)(e_2:BA)(e_3:Int)(e_4 e_5:LL):Option PRes:=E.lp (fun ds1=>(opI (A.cell ds1 0) .i64).bind fun n2=>oE A ds1 1 fun n3 n4 s5 n6 l7 l8=>(opL (A.cell ds1 7) 1).bind fun l9=>bif (A.ilt n2 (A.rlen l8))then bif (A.inr n2 (A.rlen l8))then oE A (A.row l8 n2) 0 fun n10 n11 s12 n13 l14 l15=>(E.call 120 [(kE n10 n11 s12 n13 l14 l15)]).bind fun p16=>(opS (A.cell p16.leaves 0)).bind fun s18=>bif (A.fits l9 [[(.str s18)]] 16)then some (.inl [(.int .i64 (A.wrap .i64 (A.add n2 1))),(.int .i64 n3),(.int .i64 n4),(.str s5),(.int .i64 n6),(.sl 1 l7),(.sl 6 l8),(.sl 1 (A.rapp l9 [[(.str s18)]]))]) else none else none else bif (A.ieq n3 5)then bif (A.ieq n6 1)then bif (A.inr 0 (A.rlen l9))then (opS (A.cell (A.rown l9 (A.nat 0)) 0)).bind fun s19=>bif (A.sfit (bs [40,45]) s19)then bif (A.sfit (A.sapp (bs [40,45]) s19) (bs [41]))then some (.inr (.val [(.str (A.sapp (A.sapp (bs [40,45]) s19) (bs [41])))])) else none else none else none else bif (A.inr 0 (A.rlen l9))then (opS (A.cell (A.rown l9 (A.nat 0)) 0)).bind fun s20=>bif (A.sfit (bs [40,110,111,116,32]) s20)then bif (A.sfit (A.sapp (bs [40,110,111,116,32]) s20) (bs [41]))then some (.inr (.val [(.str (A.sapp (A.sapp (bs [40,110,111,116,32]) s20) (bs [41])))])) else none else none else none else bif (A.ieq n3 6)then bif (A.inr 0 (A.rlen l9))then (opS (A.cell (A.rown l9 (A.nat 0)) 0)).bind fun s21=>bif (A.sfit (bs [40]) s21)then bif (A.sfit (A.sapp (bs [40]) s21) (bs [32]))then (E.call 157 [(.d (.int .i64 n6))]).bind fun p22=>(opS (A.cell p22.leaves 0)).bind fun s24=>bif (A.sfit (A.sapp (A.sapp (bs [40]) s21) (bs [32])) s24)then bif (A.sfit (A.sapp (A.sapp (A.sapp (bs [40]) s21) (bs [32])) s24) (bs [32]))then bif (A.inr 1 (A.rlen l9))then (opS (A.cell (A.rown l9 (A.nat 1)) 0)).bind fun s25=>bif (A.sfit (A.sapp (A.sapp (A.sapp (A.sapp (bs [40]) s21) (bs [32])) s24) (bs [32])) s25)then bif (A.sfit (A.sapp (A.sapp (A.sapp (A.sapp (A.sapp (bs [40]) s21) (bs [32])) s24) (bs [32])) s25) (bs [41]))then some (.inr (.val [(.str (A.sapp (A.sapp (A.sapp (A.sapp (A.sapp (A.sapp (bs [40]) s21) (bs [32])) s24) (bs [32])) s25) (bs [41])))])) else none else none else none else none else none else none else none else none else bif (A.ieq n3 7)then bif (A.inr 0 (A.rlen l9))then (opS (A.cell (A.rown l9 (A.nat 0)) 0)).bind fun s26=>bif (A.sfit (bs [40,105,102,32]) s26)then bif (A.sfit (A.sapp (bs [40,105,102,32]) s26) (bs [32,116,104,101,110,32]))then bif (A.inr 1 (A.rlen l9))then (opS (A.cell (A.rown l9 (A.nat 1)) 0)).bind fun s27=>bif (A.sfit (A.sapp (A.sapp (bs [40,105,102,32]) s26) (bs [32,116,104,101,110,32])) s27)then bif (A.sfit (A.sapp (A.sapp (A.sapp (bs [40,105,102,32]) s26) (bs [32,116,104,101,110,32])) s27) (bs [32,101,108,115,101,32]))then bif (A.inr 2 (A.rlen l9))then (opS (A.cell (A.rown l9 (A.nat 2)) 0)).bind fun s28=>bif (A.sfit (A.sapp (A.sapp (A.sapp (A.sapp (bs [40,105,102,32]) s26) (bs [32,116,104,101,110,32])) s27) (bs [32,101,108,115,101,32])) s28)then bif (A.sfit (A.sapp (A.sapp (A.sapp (A.sapp (A.sapp (bs [40,105,102,32]) s26) (bs [32,116,104,101,110,32])) s27) (bs [32,101,108,115,101,32])) s28) (bs [41]))then some (.inr (.val [(.str (A.sapp (A.sapp (A.sapp (A.sapp (A.sapp (A.sapp (bs [40,105,102,32]) s26) (bs [32,116,104,101,110,32])) s27) (bs [32,101,108,115,101,32])) s28) (bs [41])))])) else none else none else none else none else none else none else none else none else none else bif (A.ieq n3 8)then bif (A.inr 0 (A.rlen l9))then (opS (A.cell (A.rown l9 (A.nat 0)) 0)).bind fun s29=>bif (A.sfit (bs [40]) s29)then bif (A.sfit (A.sapp (bs [40]) s29) (bs [32,102,98,121,32]))then bif (A.inr 1 (A.rlen l9))then (opS (A.cell (A.rown l9 (A.nat 1)) 0)).bind fun s30=>bif (A.sfit (A.sapp (A.sapp (bs [40]) s29) (bs [32,102,98,121,32])) s30)then bif (A.sfit (A.sapp (A.sapp (A.sapp (bs [40]) s29) (bs [32,102,98,121,32])) s30) (bs [41]))then some (.inr (.val [(.str (A.sapp (A.sapp (A.sapp (A.sapp (bs [40]) s29) (bs [32,102,98,121,32])) s30) (bs [41])))])) else none else
 none else none else none else none else none else bif (A.ieq n3 9)then bif (A.inr 0 (A.rlen l9))then (opS (A.cell (A.rown l9 (A.nat 0)) 0)).bind fun s31=>bif (A.sfit (bs [40]) s31)then bif (A.sfit (A.sapp (bs [40]) s31) (bs [32,45,62,32]))then bif (A.inr 1 (A.rlen l9))then (opS (A.cell (A.rown l9 (A.nat 1)) 0)).bind fun s32=>bif (A.sfit (A.sapp (A.sapp (bs [40]) s31) (bs [32,45,62,32])) s32)then bif (A.sfit (A.sapp (A.sapp (A.sapp (bs [40]) s31) (bs [32,45,62,32])) s32) (bs [41]))then some (.inr (.val [(.str (A.sapp (A.sapp (A.sapp (A.sapp (bs [40]) s31) (bs [32,45,62,32])) s32) (bs [41])))])) else none else none else none else none else none else none else bif (A.ieq n3 10)then bif (A.inr 0 (A.rlen l9))then (opS (A.cell (A.rown l9 (A.nat 0)) 0)).bind fun s33=>bif (A.sfit (bs [40,112,114,101,32]) s33)then bif (A.sfit (A.sapp (bs [40,112,114,101,32]) s33) (bs [41]))then some (.inr (.val [(.str (A.sapp (A.sapp (bs [40,112,114,101,32]) s33) (bs [41])))])) else none else none else none else bif (A.ieq n3 11)then bif (A.inr 0 (A.rlen l9))then (opS (A.cell (A.rown l9 (A.nat 0)) 0)).bind fun s34=>bif (A.sfit (bs [40]) s34)then bif (A.sfit (A.sapp (bs [40]) s34) (bs [32,119,104,101,110,32]))then bif (A.inr 0 (A.rlen l7))then (opS (A.cell (A.row l7 0) 0)).bind fun s35=>(E.call 156 [(.d (.str s5)),(.d (.str s35))]).bind fun p36=>(opS (A.cell p36.leaves 0)).bind fun s38=>bif (A.sfit (A.sapp (A.sapp (bs [40]) s34) (bs [32,119,104,101,110,32])) s38)then bif (A.sfit (A.sapp (A.sapp (A.sapp (bs [40]) s34) (bs [32,119,104,101,110,32])) s38) (bs [41]))then some (.inr (.val [(.str (A.sapp (A.sapp (A.sapp (A.sapp (bs [40]) s34) (bs [32,119,104,101,110,32])) s38) (bs [41])))])) else none else none else none else none else none else none else bif (A.ieq n3 12)then bif (A.sfit (bs [40,109,101,114,103,101,32]) s5)then E.lp (fun ds39=>(opS (A.cell ds39 0)).bind fun s40=>(opI (A.cell ds39 1) .i64).bind fun n41=>oE A ds39 2 fun n42 n43 s44 n45 l46 l47=>(opL (A.cell ds39 8) 1).bind fun l48=>bif (A.ilt n41 (A.rlen l48))then bif (A.sfit s40 (bs [32,40]))then bif (A.inr n41 (A.rlen l46))then (opS (A.cell (A.row l46 n41) 0)).bind fun s49=>bif (A.sfit (A.sapp s40 (bs [32,40])) s49)then bif (A.sfit (A.sapp (A.sapp s40 (bs [32,40])) s49) (bs [32,45,62,32]))then bif (A.inr n41 (A.rlen l48))then (opS (A.cell (A.rown l48 (A.nat n41)) 0)).bind fun s50=>bif (A.sfit (A.sapp (A.sapp (A.sapp s40 (bs [32,40])) s49) (bs [32,45,62,32])) s50)then bif (A.sfit (A.sapp (A.sapp (A.sapp (A.sapp s40 (bs [32,40])) s49) (bs [32,45,62,32])) s50) (bs [41]))then some (.inl [(.str (A.sapp (A.sapp (A.sapp (A.sapp (A.sapp s40 (bs [32,40])) s49) (bs [32,45,62,32])) s50) (bs [41]))),(.int .i64 (A.wrap .i64 (A.add n41 1))),(.int .i64 n42),(.int .i64 n43),(.str s44),(.int .i64 n45),(.sl 1 l46),(.sl 6 l47),(.sl 1 l48)]) else none else none else none else none else none else none else none else bif (A.sfit s40 (bs [41]))then some (.inr (.inr (.val [(.str (A.sapp s40 (bs [41])))]))) else none) [(.str (A.sapp (bs [40,109,101,114,103,101,32]) s5)),(.int .i64 0),(.int .i64 n3),(.int .i64 n4),(.str s5),(.int .i64 n6),(.sl 1 l7),(.sl 6 l8),(.sl 1 l9)] else none else bif (A.ieq n3 13)then (E.call 158 [(kE n3 n4 s5 n6 l7 l8)]).bind fun p51=>(opS (A.cell p51.leaves 0)).bind fun s53=>some (.inr (.val [(.str s53)])) else bif (A.ieq n3 14)then (E.call 159 [(.d (.sl 6 l8))]).bind fun p54=>(opS (A.cell p54.leaves 0)).bind fun s56=>bif (A.sfit (bs [91]) s56)then bif (A.sfit (A.sapp (bs [91]) s56) (bs [93]))then some (.inr (.val [(.str (A.sapp (A.sapp (bs [91]) s56) (bs [93])))])) else none else none else bif (A.ieq n3 15)then bif (A.inr 0 (A.rlen l9))then (opS (A.cell (A.rown l9 (A.nat 0)) 0)).bind fun s57=>bif (A.sfit s57 (bs [91]))then bif (A.inr 1 (A.rlen l9))then (opS (A.cell (A.rown l9 (A.nat 1)) 0)).bind fun s58=>bif (A.sfit (A.sapp s57 (bs [91])) s58)then bif (A.sfit (A.sapp (A.sapp s57 (bs [91])) s58) (bs [93]))then some (.inr (.val [(.str (A.sapp (A.sapp (A.sapp s57 (bs [91])) s58) (bs [93])))]))
 else none else none else none else none else none else bif (A.ieq n3 16)then bif (A.inr 0 (A.rlen l9))then (opS (A.cell (A.rown l9 (A.nat 0)) 0)).bind fun s59=>bif (A.sfit (bs [40]) s59)then bif (A.sfit (A.sapp (bs [40]) s59) (bs [32,119,105,116,104,32,91]))then bif (A.inr 1 (A.rlen l9))then (opS (A.cell (A.rown l9 (A.nat 1)) 0)).bind fun s60=>bif (A.sfit (A.sapp (A.sapp (bs [40]) s59) (bs [32,119,105,116,104,32,91])) s60)then bif (A.sfit (A.sapp (A.sapp (A.sapp (bs [40]) s59) (bs [32,119,105,116,104,32,91])) s60) (bs [93,32,61,32]))then bif (A.inr 2 (A.rlen l9))then (opS (A.cell (A.rown l9 (A.nat 2)) 0)).bind fun s61=>bif (A.sfit (A.sapp (A.sapp (A.sapp (A.sapp (bs [40]) s59) (bs [32,119,105,116,104,32,91])) s60) (bs [93,32,61,32])) s61)then bif (A.sfit (A.sapp (A.sapp (A.sapp (A.sapp (A.sapp (bs [40]) s59) (bs [32,119,105,116,104,32,91])) s60) (bs [93,32,61,32])) s61) (bs [41]))then some (.inr (.val [(.str (A.sapp (A.sapp (A.sapp (A.sapp (A.sapp (A.sapp (bs [40]) s59) (bs [32,119,105,116,104,32,91])) s60) (bs [93,32,61,32])) s61) (bs [41])))])) else none else none else none else none else none else none else none else none else none else (E.call 160 [(kE n3 n4 s5 n6 l7 l8)]).bind fun p62=>(opS (A.cell p62.leaves 0)).bind fun s64=>some (.inr (.val [(.str s64)]))) [(.int .i64 0),(.int .i64 e_0),(.int .i64 e_1),(.str e_2),(.int .i64 e_3),(.sl 1 e_4),(.sl 6 e_5),(.sl 1 [])]
def q1v (e_0 e_1:Int)(e_2:BA)(e_3:Int)(e_4 e_5:LL):fT A E 120 [.agg [.d (.int .i64 e_0), .d (.int .i64 e_1), .d (.str e_2), .d (.int .i64 e_3), .d (.sl 1 e_4), .d (.sl 6 e_5)]]=k6j A E e_0 e_1 e_2 e_3 e_4 e_5:=by kernel_rfl
def k6i (A:Sy)(E:Env)(name_ arm_:BA):Option PRes:=bif (A.seq arm_ (bs [116,114,117,101]))then vL [.str name_] else bif (A.seq arm_ (bs [102,97,108,115,101]))then iT (A.sfit (bs [110,111,116,32]) name_) <| vL [.str (A.sapp (bs [110,111,116,32]) name_)] else iT (A.sfit arm_ (bs [40])) <| iT (A.sfit (A.sapp arm_ (bs [40])) name_) <| iT (A.sfit (A.sapp (A.sapp arm_ (bs [40])) name_) (bs [41])) <| vL [.str (A.sapp (A.sapp (A.sapp arm_ (bs [40])) name_) (bs [41]))]
def q1b (name_ arm_:BA):fT A E 156 [.d (.str name_), .d (.str arm_)]=k6i A E name_ arm_:=by kernel_rfl
def k3r (e_0 e_1:Int)(e_2:BA)(e_3:Int)(e_4 e_5:LL):Option PRes:=iT (A.sfit e_2 (bs [40])) <| iT (A.cutok 0 (zW A (A.sub (A.rlen e_5) e_1)) (A.rlen e_5)) <| zC E 159 [.d (.sl 6 (A.cut e_5 0 (zW A (A.sub (A.rlen e_5) e_1))))] fun p1=>yS A p1 0 fun s3=>iT (A.sfit (A.sapp e_2 (bs [40])) s3) <| iT (A.sfit (A.sapp (A.sapp e_2 (bs [40])) s3) (bs [41])) <| bif (A.ieq e_1 1)then iT (A.sfit (bs [40]) (A.sapp (A.sapp (A.sapp e_2 (bs [40])) s3) (bs [41]))) <| iT (A.sfit (A.sapp (bs [40]) (A.sapp (A.sapp (A.sapp e_2 (bs [40])) s3) (bs [41]))) (bs [32,101,118,101,114,121,32])) <| iT (A.inr (zW A (A.sub (A.rlen e_5) e_1)) (A.rlen e_5)) <| zI A (A.row e_5 (zW A (A.sub (A.rlen e_5) e_1))) 0 fun n4=>zI A (A.row e_5 (zW A (A.sub (A.rlen e_5) e_1))) 1 fun n5=>zS A (A.row e_5 (zW A (A.sub (A.rlen e_5) e_1))) 2 fun s6=>zI A (A.row e_5 (zW A (A.sub (A.rlen e_5) e_1))) 3 fun n7=>zL A (A.row e_5 (zW A (A.sub (A.rlen e_5) e_1))) 4 1 fun l8=>zL A (A.row e_5 (zW A (A.sub (A.rlen e_5) e_1))) 5 6 fun l9=>zC E 120 [kE n4 n5 s6 n7 l8 l9] fun p10=>yS A p10 0 fun s12=>iT (A.sfit (A.sapp (A.sapp (bs [40]) (A.sapp (A.sapp (A.sapp e_2 (bs [40])) s3) (bs [41]))) (bs [32,101,118,101,114,121,32])) s12) <| iT (A.sfit (A.sapp (A.sapp (A.sapp (bs [40]) (A.sapp (A.sapp (A.sapp e_2 (bs [40])) s3) (bs [41]))) (bs [32,101,118,101,114,121,32])) s12) (bs [41])) <| vL [.str (A.sapp (A.sapp (A.sapp (A.sapp (bs [40]) (A.sapp (A.sapp (A.sapp e_2 (bs [40])) s3) (bs [41]))) (bs [32,101,118,101,114,121,32])) s12) (bs [41]))] else vL [.str (A.sapp (A.sapp (A.sapp e_2 (bs [40])) s3) (bs [41]))]
def q0z (e_0 e_1:Int)(e_2:BA)(e_3:Int)(e_4 e_5:LL):fT A E 158 [.agg [.d (.int .i64 e_0), .d (.int .i64 e_1), .d (.str e_2), .d (.int .i64 e_3), .d (.sl 1 e_4), .d (.sl 6 e_5)]]=k3r A E e_0 e_1 e_2 e_3 e_4 e_5:=by kernel_rfl
def k6h (A:Sy)(E:Env)(l_:LL):Option PRes:=E.lp (fun ds1=>(opL (A.cell ds1 0) 6).bind fun l2=>(opS (A.cell ds1 1)).bind fun s3=>(opI (A.cell ds1 2) .i64).bind fun n4=>bif (A.ilt n4 (A.rlen l2))then bif (A.ilt 0 n4)then bif (A.sfit s3 (bs [44,32]))then bif (A.inr n4 (A.rlen l2))then oE A (A.row l2 n4) 0 fun n5 n6 s7 n8 l9 l10=>(E.call 120 [(kE n5 n6 s7 n8 l9 l10)]).bind fun p11=>(opS (A.cell p11.leaves 0)).bind fun s13=>bif (A.sfit (A.sapp s3 (bs [44,32])) s13)then some (.inl [(.sl 6 l2),(.str (A.sapp (A.sapp s3 (bs [44,32])) s13)),(.int .i64 (A.wrap .i64 (A.add n4 1)))]) else none else none else none else bif (A.inr n4 (A.rlen l2))then oE A (A.row l2 n4) 0 fun n14 n15 s16 n17 l18 l19=>(E.call 120 [(kE n14 n15 s16 n17 l18 l19)]).bind fun p20=>(opS (A.cell p20.leaves 0)).bind fun s22=>bif (A.sfit s3 s22)then some (.inl [(.sl 6 l2),(.str (A.sapp s3 s22)),(.int .i64 (A.wrap .i64 (A.add n4 1)))]) else none else none else some (.inr (.val [(.str s3)]))) [(.sl 6 l_),(.str (bs [])),(.int .i64 0)]
def q0y (l_:LL):fT A E 159 [.d (.sl 6 l_)]=k6h A E l_:=by kernel_rfl
def k0y (e_0 e_1:Int)(e_2:BA)(e_3:Int)(e_4 e_5:LL):Option PRes:=bif (A.ieq e_0 1)then zC E 187 [.d (nI e_1)] fun p1=>yS A p1 0 fun s3=>vL [.str s3] else bif (A.ieq e_0 2)then bif (A.ieq e_1 1)then vL [.str (bs [116,114,117,101])] else vL [.str (bs [102,97,108,115,101])] else bif (A.ieq e_0 17)then iT (A.sfit (bs [39]) e_2) <| iT (A.sfit (A.sapp (bs [39]) e_2) (bs [39])) <| vL [.str (A.sapp (A.sapp (bs [39]) e_2) (bs [39]))] else vL [.str e_2]
def q0x (e_0 e_1:Int)(e_2:BA)(e_3:Int)(e_4 e_5:LL):fT A E 160 [.agg [.d (.int .i64 e_0), .d (.int .i64 e_1), .d (.str e_2), .d (.int .i64 e_3), .d (.sl 1 e_4), .d (.sl 6 e_5)]]=k0y A E e_0 e_1 e_2 e_3 e_4 e_5:=by kernel_rfl
def g157 (A:Sy)(E:Env)(op_:Int):Option PRes:=x0u (bif (A.ilt op_ 1)then vB true else vB (A.ilt 16 op_)) fun ds1=>zB A ds1 0 fun b2=>bif b2 then vL [.str (bs [])] else iT (A.inr op_ (A.rlen [[.str (bs [])],[.str (bs [45])],[.str (bs [110,111,116])],[.str (bs [43])],[.str (bs [45])],[.str (bs [42])],[.str (bs [47])],[.str (bs [109,111,100])],[.str (bs [97,110,100])],[.str (bs [111,114])],[.str (bs [120,111,114])],[.str (bs [61])],[.str (bs [60,62])],[.str (bs [60])],[.str (bs [60,61])],[.str (bs [62])],[.str (bs [62,61])]])) <| zS A (A.rown [[.str (bs [])],[.str (bs [45])],[.str (bs [110,111,116])],[.str (bs [43])],[.str (bs [45])],[.str (bs [42])],[.str (bs [47])],[.str (bs [109,111,100])],[.str (bs [97,110,100])],[.str (bs [111,114])],[.str (bs [120,111,114])],[.str (bs [61])],[.str (bs [60,62])],[.str (bs [60])],[.str (bs [60,61])],[.str (bs [62])],[.str (bs [62,61])]] (A.nat op_)) 0 fun s3=>vL [.str s3]
def q1a (op_:Int):fT A E 157 [.d (.int .i64 op_)]=g157 A E op_:=by kernel_rfl
def k9y (A:Sy)(E:Env)(n_:Int):Option PRes:=bif (A.ilt n_ 0)then E.lp (fun ds1=>(opI (A.cell ds1 0) .i64).bind fun n2=>(opI (A.cell ds1 1) .u64).bind fun n3=>(opS (A.cell ds1 2)).bind fun s4=>x0u (bif (A.ilt 0 n3)then some (.inl [(.bool true)]) else some (.inl [(.bool (A.seq s4 (bs [])))])) fun ds5=>(opB (A.cell ds5 0)).bind fun b6=>bif b6 then bif (A.bnot (A.ieq 10 0))then bif (A.isby [[(.int .u8 (A.wrap .u8 (A.wrap .u64 (A.add 48 (A.rem n3 10)))))]])then bif (A.sfit (A.bstr [[(.int .u8 (A.wrap .u8 (A.wrap .u64 (A.add 48 (A.rem n3 10)))))]]) s4)then bif (A.bnot (A.ieq 10 0))then some (.inl [(.int .i64 n2),(.int .u64 (A.wrap .u64 (A.quo n3 10))),(.str (A.sapp (A.bstr [[(.int .u8 (A.wrap .u8 (A.wrap .u64 (A.add 48 (A.rem n3 10)))))]]) s4))]) else none else none else none else none else bif (A.ilt n2 0)then bif (A.sfit (bs [45]) s4)then some (.inr (.val [(.str (A.sapp (bs [45]) s4))])) else none else some (.inr (.val [(.str s4)]))) [(.int .i64 n_),(.int .u64 (A.wrap .u64 (A.sub 0 (A.wrap .u64 n_)))),(.str (bs []))] else E.lp (fun ds7=>(opI (A.cell ds7 0) .i64).bind fun n8=>(opI (A.cell ds7 1) .u64).bind fun n9=>(opS (A.cell ds7 2)).bind fun s10=>x0u (bif (A.ilt 0 n9)then some (.inl [(.bool true)]) else some (.inl [(.bool (A.seq s10 (bs [])))])) fun ds11=>(opB (A.cell ds11 0)).bind fun b12=>bif b12 then bif (A.bnot (A.ieq 10 0))then bif (A.isby [[(.int .u8 (A.wrap .u8 (A.wrap .u64 (A.add 48 (A.rem n9 10)))))]])then bif (A.sfit (A.bstr [[(.int .u8 (A.wrap .u8 (A.wrap .u64 (A.add 48 (A.rem n9 10)))))]]) s10)then bif (A.bnot (A.ieq 10 0))then some (.inl [(.int .i64 n8),(.int .u64 (A.wrap .u64 (A.quo n9 10))),(.str (A.sapp (A.bstr [[(.int .u8 (A.wrap .u8 (A.wrap .u64 (A.add 48 (A.rem n9 10)))))]]) s10))]) else none else none else none else none else bif (A.ilt n8 0)then bif (A.sfit (bs [45]) s10)then some (.inr (.val [(.str (A.sapp (bs [45]) s10))])) else none else some (.inr (.val [(.str s10)]))) [(.int .i64 n_),(.int .u64 (A.wrap .u64 n_)),(.str (bs []))]
def q0k (n_:Int):fT A E 187 [.d (.int .i64 n_)]=k9y A E n_:=by kernel_rfl
end
end Go.Vm
end
section
set_option maxRecDepth 100000
set_option maxHeartbeats 4000000
namespace Go.Vm
open Go.Proofs
def x1c (l:List UInt8):(bs l).size=l.length:=rfl
def sfT {a b:BA}(h:a.size+b.size<=9223372036854775807):sy.sfit a b=true:=a0q h
def w7d (c:Nat)(h:c < 256):tb (sy.bstr [[.int .u8 (c:Int)]])= [c]:=by
 show tb (q4h [[.int .u8 (c:Int)]])= [c];unfold q4h;simp only[a1o,a1x,byN,Option.getD_some];unfold strOfNums;show[(UInt8.ofNat (c:Int).toNat).toNat]= [c];rw[a0n,UInt8.toNat_ofNat'];simp;omega
def z1e (c:Nat):(sy.bstr [[.int .u8 (c:Int)]]).size=1:=rfl
def z4i (q:Nat):List Nat:=if q=0 then[]else y0f q
def u0j (q:Nat)(h:0 < q):y0f q=z4i (q / 10)++[48+q % 10]:=by
 rw[y0f.eq_def];split
 ·rename_i h1;unfold z4i;rw[if_pos (by omega),Nat.mod_eq_of_lt h1];rfl
 ·unfold z4i;rw[if_neg (by omega)]
def v1y {a:Int}(h0:0<=a)(h:a < 18446744073709551616):IntKind.u64.wrap a=a:=by
 show a % _=a;exact Int.emod_eq_of_lt h0 h
def k4j {a:Int}(h0:0<=a)(h:a < 256):IntKind.u8.wrap a=a:=by
 show a % _=a;exact Int.emod_eq_of_lt h0 h
def v7y (n:Nat)(hn:n < 9223372036854775808): ∃s,cF 187 [.d (.int .i64 (n:Int))]=some (.val [.str s])/\tb s=y0f n/\s.size<=100:=by
 have hx: ∃p,x6n (fun ds7=>
     (opI (sy.cell ds7 0) .i64).bind fun n8=>
     (opI (sy.cell ds7 1) .u64).bind fun n9=>
     (opS (sy.cell ds7 2)).bind fun s10=>
     x0u (
      bif (sy.ilt 0 n9)then some (.inl [(.bool true)])
      else some (.inl [(.bool (sy.seq s10 (bs [])))])) fun ds11=>
     (opB (sy.cell ds11 0)).bind fun b12=>
     bif b12 then
      bif (sy.bnot (sy.ieq 10 0))then
       bif (sy.isby [[(.int .u8 (sy.wrap .u8 (sy.wrap .u64 (sy.add 48 (sy.rem n9 10)))))]])then
        bif (sy.sfit (sy.bstr [[(.int .u8 (sy.wrap .u8 (sy.wrap .u64 (sy.add 48 (sy.rem n9 10)))))]]) s10)then
         bif (sy.bnot (sy.ieq 10 0))then
          some (.inl [(.int .i64 n8),(.int .u64 (sy.wrap .u64 (sy.quo n9 10))),(.str (sy.sapp (sy.bstr [[(.int .u8 (sy.wrap .u8 (sy.wrap .u64 (sy.add 48 (sy.rem n9 10)))))]]) s10))])
         else none
        else none
       else none
      else none
     else
      bif (sy.ilt n8 0)then
       bif (sy.sfit (bs [45]) s10)then some (.inr (PRes.val [(.str (sy.sapp (bs [45]) s10))]))else none
      else some (.inr (PRes.val [(.str s10)]))) [(.int .i64 (n:Int)),(.int .u64 (sy.wrap .u64 (n:Int))),(.str (bs []))]=some p/\ ∃s,p= .val [.str s]/\tb s=y0f n/\s.size<=100:=by
  have e0:sy.wrap .u64 (n:Int)=(n:Int):=v1y (by omega) (by omega)
  rw[e0];refine x4x (fun x:Nat × BA=>[.int .i64 (n:Int), .int .u64 (x.1:Int), .str x.2]) (fun x=>(x.2=bs []/\x.1=n\/0 < x.2.size/\y0f n=z4i x.1++tb x.2)/\x.1 < 10 ^ (20 - x.2.size)/\x.2.size<=20) (fun x=>x.1*2+(if x.2.size=0 then 1 else 0)) (fun x hx=> ?_) (n,bs []) ⟨.inl ⟨rfl,rfl⟩,by show n < 10 ^ 20;omega,by show 0<=20;omega⟩
  obtain⟨q,s⟩:=x;obtain⟨h1,h2,h3⟩:=hx;simp only at h1 h2 h3 ⊢;have hs0:(s.toList == (bs []).toList)=decide (s.size=0):=by
   rw[x2c];refine x8c ⟨fun h=> ?_,fun h=> ?_⟩
   ·have:=congrArg List.length h;rw[x2g]at this;exact this
   ·exact List.length_eq_zero_iff.1 (by rw[x2g];exact h)
  by_cases hq:0 < q\/s.size=0
  ·left
   have hqq:(q:Int) < 18446744073709551616:=by
    have:10 ^ (20 - s.size)<=10 ^ 20:=Nat.pow_le_pow_right (by omega) (by omega)
    have h20:(10:Nat) ^ 20=100000000000000000000:=by decide
    rcases h1 with⟨_,h⟩|⟨hp,_⟩
    ·omega
    ·have:10 ^ (20 - s.size)<=10 ^ 19:=Nat.pow_le_pow_right (by omega) (by omega)
     have h19:(10:Nat) ^ 19=10000000000000000000:=by decide
     omega
   have hr:sy.rem (q:Int) 10=((q % 10:Nat):Int):=by
    show Int.tmod (q:Int) 10=_;rw[Int.tmod_eq_emod_of_nonneg (by omega)];omega
   have hd:sy.quo (q:Int) 10=((q / 10:Nat):Int):=by
    show Int.tdiv (q:Int) 10=_;rw[Int.tdiv_eq_ediv_of_nonneg (by omega)];omega
   have hw:IntKind.u8.wrap (IntKind.u64.wrap (48+((q % 10:Nat):Int)))=((48+q % 10:Nat):Int):=by
    rw[v1y (by omega) (by omega),k4j (by omega) (by omega)];omega
   have hw2:IntKind.u64.wrap ((q / 10:Nat):Int)=((q / 10:Nat):Int):=v1y (by omega) (by omega)
   have hby:sy.isby [[.int .u8 ((48+q % 10:Nat):Int)]]=true:=rfl;have hsf:sy.sfit (sy.bstr [[.int .u8 ((48+q % 10:Nat):Int)]]) s=true:=sfT (by rw[z1e];omega)
   have hb:(decide ((0:Int) < (q:Int)) || (s.toList == (bs []).toList))=true:=by
    rw[hs0]
    by_cases h:0 < q
    ·rw[a0q (by omega)];rfl
    ·rw[a0q (show s.size=0 by omega),Bool.or_true]
   refine⟨(q / 10,sy.bstr [[.int .u8 ((48+q % 10:Nat):Int)]]++s),?_,⟨.inr ⟨?_,?_⟩,?_,?_⟩,?_⟩
   ·simp only[go1];rw[hb];simp only[go1,show decide ((10:Int)=0)=false from rfl,hr,hd,hw,hw2,hby,hsf]
   ·show 0 < (sy.bstr [[.int .u8 ((48+q % 10:Nat):Int)]]++s).size;rw[ByteArray.size_append,z1e];omega
   ·show y0f n=z4i (q / 10)++tb (sy.bstr [[.int .u8 ((48+q % 10:Nat):Int)]]++s);rw[x0y,w7d _ (by omega)]
    rcases h1 with⟨hs,hqn⟩|⟨hp,he⟩
    ·subst hs;subst hqn;show y0f q=z4i (q / 10)++([48+q % 10]++[]);rw[a0y]
     by_cases h0:0 < q
     ·exact u0j q h0
     ·have:q=0:=by omega
      subst this;rw[y0f.eq_def,dif_pos (by omega)];rfl
    ·have h0:0 < q:=by omega
     rw[he];show z4i q++tb s=_;rw[show z4i q=y0f q by unfold z4i;rw[if_neg (by omega)],u0j q h0,List.append_assoc]
   ·show q / 10 < 10 ^ (20 - (sy.bstr [[.int .u8 ((48+q % 10:Nat):Int)]]++s).size);rw[ByteArray.size_append,z1e]
    by_cases h20:s.size=20
    ·rw[h20]at h2;have:q < 1:=h2;have:q=0:=by omega
     omega
    ·have e:20 - s.size=(20 - (1+s.size))+1:=by omega
     rw[e,Nat.pow_succ]at h2;omega
   ·show(sy.bstr [[.int .u8 ((48+q % 10:Nat):Int)]]++s).size<=20;rw[ByteArray.size_append,z1e]
    by_cases h20:s.size=20
    ·rw[h20]at h2;have:q < 1:=h2;omega
    ·omega
   ·show q / 10*2+(if(sy.bstr [[.int .u8 ((48+q % 10:Nat):Int)]]++s).size=0 then 1 else 0) < q*2+(if s.size=0 then 1 else 0);rw[ByteArray.size_append,z1e,if_neg (by omega)]
    split<;>omega
  ·right
   have hb:(decide ((0:Int) < (q:Int)) || (s.toList == (bs []).toList))=false:=by
    rw[hs0,decide_eq_false (by omega: ¬(0:Int) < (q:Int)),decide_eq_false (by omega: ¬s.size=0)];rfl
   have hn0:decide ((n:Int) < 0)=false:=decide_eq_false (by omega)
   refine⟨.val [.str s],?_,s,rfl,?_,by omega⟩
   ·simp only[go1];rw[hb];simp only[go1,hn0]
   ·rcases h1 with⟨hs,_⟩|⟨hp,he⟩
    ·subst hs;exact absurd (.inr rfl) hq
    ·have:q=0:=by omega
     subst this;exact he.symm
 obtain⟨p,hp,s,rfl,h1,h2⟩:=hx;refine⟨s,?_,h1,h2⟩;have h0:decide ((n:Int) < 0)=false:=decide_eq_false (by omega)
 refine cO rfl ?_;rw[q0k];unfold k9y;rw[v2o,h0];exact hp
def q3p (o:Nat)(h1:3<=o)(h2:o<=16):cF 157 [.d (.int .i64 (o:Int))]=some (.val [.str (y0k o)]):=by
 refine cO rfl ?_;rw[q1a]
 match o,h1,h2 with
 |3,_,_|4,_,_|5,_,_|6,_,_|7,_,_|8,_,_|9,_,_|10,_,_|11,_,_|12,_,_|13,_,_|14,_,_|15,_,_|16,_,_=>rfl
 |o+17,_,h=>omega
def k1y (s a:BA)(hs:s.size<=100000)(ha:a.size<=100000): ∃r,cF 156 [.d (.str s), .d (.str a)]=some (.val [.str r])/\tb r=x0f (onP s a)/\r.size<=300000:=by
 have e1:(a.toList == (bs [116,114,117,101]).toList)=decide (tb a=v5c):=x2c _ _;have e2:(a.toList == (bs [102,97,108,115,101]).toList)=decide (tb a=z9c):=x2c _ _;have s1:sy.sfit (bs [110,111,116,32]) s=true:=sfT (by simp only[x1c,a0a,a0e];omega)
 have s2:sy.sfit a (bs [40])=true:=sfT (by simp only[x1c,a0a,a0e];omega)
 have s3:sy.sfit (a++bs [40]) s=true:=sfT (by simp only[ByteArray.size_append,x1c,a0a,a0e];omega)
 have s4:sy.sfit (a++bs [40]++s) (bs [41])=true:=sfT (by simp only[ByteArray.size_append,x1c,a0a,a0e];omega)
 have core: ∃r,k6i sy eF s a=some (.val [.str r])/\tb r=x0f (onP s a)/\r.size<=300000:=by
  simp only[k6i,go1,e1,e2,s1,s2,s3,s4];unfold onP
  by_cases h1:tb a=v5c
  ·rw[if_pos h1,a0q h1];exact⟨s,rfl,(a0y _).symm,by omega⟩
  ·rw[if_neg h1,decide_eq_false h1]
   by_cases h2:tb a=z9c
   ·rw[if_pos h2,a0q h2];refine⟨_,rfl,?_,?_⟩
    ·rw[x0y];show[110,111,116,32]++tb s=v1l++32::(tb s++[]);rw[a0y];rfl
    ·simp only[ByteArray.size_append,x1c,a0a,a0e];omega
   ·rw[if_neg h2,decide_eq_false h2];refine⟨_,rfl,?_,?_⟩
    ·rw[x0y,x0y,x0y];have:T.w ⟨if x3h (tb a)then 2 else 1,tb a,0⟩=tb a:=by
      unfold T.w;rw[if_neg (by simp only;split<;>decide)]
     show tb a++[40]++tb s++[41]=T.w ⟨if x3h (tb a)then 2 else 1,tb a,0⟩++([40]++(tb s++([41]++[])));rw[this];simp
    ·simp only[ByteArray.size_append,x1c,a0a,a0e];omega
 obtain⟨r,h1,h2⟩:=core;exact⟨r,cO rfl ((q1b _ _ _ _).trans h1),h2⟩
def z0x (k n:Int)(s:BA)(o:Int)(a u:LL)(h0:k=1->0<=n/\n < 9223372036854775808)(hs:s.size<=100000)(hk:k=1\/k=2\/k=3\/k=4\/k=17): ∃r,cF 160 [kE k n s o a u]=some (.val [.str r])/\tb r=x0f (v4y k n s)/\r.size<=300000:=by
 have s1:sy.sfit (bs [39]) s=true:=sfT (by simp only[x1c,a0a,a0e];omega)
 have s2:sy.sfit (bs [39]++s) (bs [39])=true:=sfT (by simp only[ByteArray.size_append,x1c,a0a,a0e];omega)
 have core: ∃r,k0y sy eF k n s o a u=some (.val [.str r])/\tb r=x0f (v4y k n s)/\r.size<=300000:=by
  rcases hk with rfl|rfl|rfl|rfl|rfl
  ·obtain⟨q1,q2⟩:=h0 rfl;obtain⟨n,rfl⟩: ∃q:Nat,n=(q:Int):=⟨n.toNat,by omega⟩
   obtain⟨r,h1,h2,h3⟩:=v7y n (by omega)
   refine⟨r,?_,?_,by omega⟩
   ·simp only[k0y,go1,h1]
   ·rw[h2];show y0f n=y0f (n:Int).toNat++[];rw[a0y,a0n]
  ·simp only[k0y,go1,show decide ((2:Int)=1)=false from rfl]
   by_cases hn:n=1
   ·rw[a0q hn];refine⟨_,rfl,?_,by decide⟩
    subst hn;rfl
   ·rw[decide_eq_false hn];refine⟨_,rfl,?_,by decide⟩
    unfold v4y;rw[if_neg (by decide),if_pos rfl,if_neg hn];rfl
  ·exact⟨s,rfl,(a0y _).symm,by omega⟩
  ·exact⟨s,rfl,(a0y _).symm,by omega⟩
  ·simp only[k0y,go1,show decide ((17:Int)=1)=false from rfl,show decide ((17:Int)=2)=false from rfl,s1,s2];refine⟨_,rfl,?_,?_⟩
   ·rw[x0y,x0y];show[39]++tb s++[39]=(39::(tb s++[39]))++[];simp
   ·simp only[ByteArray.size_append,x1c,a0a,a0e];omega
 obtain⟨r,h1,h2⟩:=core;exact⟨r,cO rfl ((q0x _ _ _ _ _ _ _ _).trans h1),h2⟩
def Txt (x:Ex):Prop:= ∀k n s o a u,x= .mk k n s o a u-> ∃r,cF 120 [kE k n s o (x0c a) (Ex.rows u)]=some (.val [.str r])/\tb r=x0f (pcs x)/\r.size<=1000000*x.size
def y8k: ∀(v:List Ex) (x:Ex),x0f (y4j (x1u (v++[x])))=x0f (y4j (x1u v))++[44,32]++x0f (pcs x)
 | [],x=>by
   show x0f ([mk 44,none]++pcs x++[])= []++[44,32]++x0f (pcs x);rw[a0y];rfl
 |y::v,x=>by
  simp only[a0d,x1u,y4j,List.append_assoc,a0h];have: ∀z:Pc,x0f (mk 44::none::z)=44::32::x0f z:=fun z=>rfl
  simp only[this,x0p,y8k v x,List.append_assoc,a0d,a0h]
def u2f (v:List Ex)(x:Ex)(h:v≠[]):x0f (x1v (x1u (v++[x])))=x0f (x1v (x1u v))++[44,32]++x0f (pcs x):=by
 match v,h with
 |y::v,_=>
  simp only[a0d,x1u,x1v,x0p,y8k v x,List.append_assoc]
def u4c (u:List Ex)(hz:Ex.j0a u<=1000)(hu: ∀x∈u,Txt x): ∃r,cF 159 [.d (.sl 6 (Ex.rows u))]=some (.val [.str r])/\tb r=x0f (x1v (x1u u))/\r.size<=1000002*Ex.j0a u:=by
 have hl:=x2m u;have core: ∃p,k6h sy eF (Ex.rows u)=some p/\ ∃r,p= .val [.str r]/\tb r=x0f (x1v (x1u u))/\r.size<=1000002*Ex.j0a u:=by
  unfold k6h;refine x4x (fun x:Nat × BA=>[.sl 6 (Ex.rows u), .str x.2, .int .i64 (x.1:Int)]) (fun x=>x.1<=u.length/\tb x.2=x0f (x1v (x1u (u.take x.1)))/\x.2.size<=1000002*Ex.j0a (u.take x.1)) (fun x=>u.length - x.1) (fun x hx=> ?_) (0,bs []) ⟨a0w _,by simp[x1v,x1u,x0f,z6y],by show 0<=_;omega⟩
  obtain⟨i,s⟩:=x;obtain⟨h1,h2,h3⟩:=hx;simp only at h1 h2 h3 ⊢
  by_cases hlt:i < u.length
  ·left
   have hx:=a0b hlt;have ht:=hu u[i] (a1i hlt);have htk:u.take (i+1)=u.take i++[u[i]]:=by rw[a1e,hx];rfl
   have hszs:Ex.j0a (u.take (i+1))<=Ex.j0a u:=by
    have:=x4t (u.take (i+1)) (u.drop (i+1));rw[a1w]at this;omega
   rw[htk,x5g]at hszs;have he1:1<=u[i].size:=by
    cases hh:u[i]with
    |mk=>simp[Ex.size]
   generalize u[i]=e at hx ht htk hszs he1;have hr:=w6o hx;obtain⟨k2,n2,s2,o2,a2,u2⟩:=e;obtain⟨t,h4,h5,h6⟩:=ht k2 n2 s2 o2 a2 u2 rfl;have w1:IntKind.i64.wrap ((i:Int)+1)=((i+1:Nat):Int):=by rw[x0v (by omega) (by omega)];omega
   by_cases hi0:i=0
   ·subst hi0;have hs0:s.size=0:=by
     have:Ex.j0a (u.take 0)=0:=by simp[Ex.j0a]
     omega
    refine⟨(1,s++t),?_,⟨hlt,?_,?_⟩,by simp only;omega⟩
    ·have sf:sy.sfit s t=true:=sfT (by omega)
     have l0:decide ((0:Int) < (u.length:Int))=true:=x0l hlt;have i0:decide ((0:Int)<=0/\(0:Int) < (u.length:Int))=true:=x0m hlt;have hr:sy.row (Ex.rows u) 0=_:=hr;have w1:IntKind.i64.wrap ((0:Int)+1)=((1:Nat):Int):=w1;simp only[go1,x0i,l0,i0,hr,Ex.row,oE,h4,show((0:Nat):Int)=0 from rfl,Int.lt_irrefl,sf,w1]
    ·simp only;rw[x0y,h2,h5,htk];simp[x1v,x1u,y4j,x0f]
    ·simp only;rw[htk,x5g,ByteArray.size_append];omega
   ·have hne:u.take i≠[]:=by
     intro h;have:=congrArg List.length h;rw[a1s,a0e]at this;omega
    refine⟨(i+1,s++bs [44,32]++t),?_,⟨hlt,?_,?_⟩,by simp only;omega⟩
    ·have sf:sy.sfit s (bs [44,32])=true:=sfT (by simp only[x1c,a0a,a0e];omega)
     have sf2:sy.sfit (s++bs [44,32]) t=true:=sfT (by simp only[ByteArray.size_append,x1c,a0a,a0e];omega)
     have l0:=x0l hlt;have i0:=x0m hlt;have z0:decide ((0:Int) < (i:Int))=true:=a0q (by omega)
     simp only[go1,x0i,l0,i0,hr,Ex.row,oE,h4,z0,sf,sf2,w1]
    ·simp only;rw[x0y,x0y,h2,h5,htk,u2f _ _ hne];rfl
    ·simp only;rw[htk,x5g,ByteArray.size_append,ByteArray.size_append,x1c];simp only[a0a,a0e];omega
  ·right
   have:i=u.length:=by omega
   subst this;rw[a0t]at h2 h3;refine⟨_,?_,s,rfl,h2,h3⟩;simp only[go1,x0i,x0g]
 obtain⟨p,h1,r,rfl,h2⟩:=core;exact⟨r,cO rfl ((q0y _ _ _).trans h1),h2⟩
def v3c (u:List Ex)(i:Nat):(Ex.rows u).take i=Ex.rows (u.take i):=by
 induction u generalizing i with
 |nil=>simp[Ex.rows]
 |cons e u ih=>
  cases i with
  |zero=>rfl
  |succ i=>simp only[Ex.rows,List.take_succ_cons,ih]
def cut0 (u:List Ex)(i:Nat):sy.cut (Ex.rows u) 0 (i:Int)=Ex.rows (u.take i):=by
 show((Ex.rows u).take (i:Int).toNat).drop (0:Int).toNat=_;rw[a0n,v3c];rfl
def y8s (x:Ex): ∀v:List Ex,x1u (v++[x])=x1u v++[pcs x]
 | []=>rfl
 |y::v=>by simp only[a0d,x1u,y8s x v]
def q3m (n:Int)(s:BA)(o:Int)(a:List BA)(u:List Ex)(hz:Ex.j0a u<=1000)(hs:s.size<=100000)(hn:n=0\/n=1/\u≠[])(hu: ∀x∈u,Txt x): ∃r,cF 158 [kE 13 n s o (x0c a) (Ex.rows u)]=some (.val [.str r])/\tb r=x0f (v7h n s (x1u u))/\r.size<=1000000*(Ex.j0a u+1):=by
 have hl:=x2m u;have core: ∃r,k3r sy eF 13 n s o (x0c a) (Ex.rows u)=some (.val [.str r])/\tb r=x0f (v7h n s (x1u u))/\r.size<=1000000*(Ex.j0a u+1):=by
  have f1:sy.sfit s (bs [40])=true:=sfT (by rw[x1c];simp only[a0a,a0e];omega)
  rcases hn with rfl|⟨rfl,hne⟩
  ·obtain⟨r,h1,h2,h3⟩:=u4c u hz hu;have w0:IntKind.i64.wrap ((u.length:Int) - 0)=((u.length:Nat):Int):=by rw[x0v (by omega) (by omega)];omega
   have c0:decide ((0:Int)<=0/\(0:Int)<=(u.length:Int)/\(u.length:Int)<=(u.length:Int))=true:=a0q ⟨Int.le_refl _,by omega,Int.le_refl _⟩
   have c1:=cut0 u u.length;rw[a0t]at c1;have c1:((Ex.rows u).take (u.length:Int).toNat).drop (0:Int).toNat=Ex.rows u:=c1;have f2:sy.sfit (s++bs [40]) r=true:=sfT (by simp only[ByteArray.size_append,x1c,a0a,a0e];omega)
   have f3:sy.sfit (s++bs [40]++r) (bs [41])=true:=sfT (by simp only[ByteArray.size_append,x1c,a0a,a0e];omega)
   refine⟨s++bs [40]++r++bs [41],?_,?_,?_⟩
   ·simp only[k3r,go1,x0i,f1,w0,c0,c1,h1,f2,f3,Int.reduceEq]
   ·have e:v7h 0 s (x1u u)= [wd (tb s),mk 40]++x1v (x1u u)++[mk 41]:=rfl;rw[e];simp only[x0y,h2,x0p];show tb s++[40]++x0f (x1v (x1u u))++[41]=tb s++[40]++x0f (x1v (x1u u))++[41];rfl
   ·simp only[ByteArray.size_append,x1c,a0a,a0e];omega
  ·obtain⟨v,x,rfl⟩: ∃v x,u=v++[x]:=⟨_,_,(List.dropLast_concat_getLast hne).symm⟩
   have hsz:=x5g x v;have hx1:1<=x.size:=by cases x;simp[Ex.size]
   obtain⟨r,h1,h2,h3⟩:=u4c v (by omega) fun y hy=>hu y (by simp[hy])
   have hxt:=hu x (by simp)
   have hxr:(v++[x])[v.length]? =some x:=by simp
   have hr:=w6o hxr;obtain⟨k2,n2,s2,o2,a2,u2⟩:=x;obtain⟨t,h4,h5,h6⟩:=hxt k2 n2 s2 o2 a2 u2 rfl;have hL:(v++[Ex.mk k2 n2 s2 o2 a2 u2]).length=v.length+1:=by simp
   rw[hL]at hl;have w0:IntKind.i64.wrap (((v.length+1:Nat):Int) - 1)=(v.length:Int):=by rw[x0v (by omega) (by omega)];omega
   have c0:decide ((0:Int)<=0/\(0:Int)<=(v.length:Int)/\(v.length:Int)<=((v.length+1:Nat):Int))=true:=a0q ⟨Int.le_refl _,by omega,by omega⟩
   have c1:=cut0 (v++[Ex.mk k2 n2 s2 o2 a2 u2]) v.length;rw[List.take_left]at c1;have c1:((Ex.rows (v++[Ex.mk k2 n2 s2 o2 a2 u2])).take (v.length:Int).toNat).drop (0:Int).toNat=Ex.rows v:=c1;have i0:decide ((0:Int)<=(v.length:Int)/\(v.length:Int) < ((v.length+1:Nat):Int))=true:=a0q ⟨by omega,by omega⟩
   have f2:sy.sfit (s++bs [40]) r=true:=sfT (by simp only[ByteArray.size_append,x1c,a0a,a0e];omega)
   have f3:sy.sfit (s++bs [40]++r) (bs [41])=true:=sfT (by simp only[ByteArray.size_append,x1c,a0a,a0e];omega)
   have f4:sy.sfit (bs [40]) (s++bs [40]++r++bs [41])=true:=sfT (by simp only[ByteArray.size_append,x1c,a0a,a0e];omega)
   have f5:sy.sfit (bs [40]++(s++bs [40]++r++bs [41])) (bs [32,101,118,101,114,121,32])=true:=sfT (by simp only[ByteArray.size_append,x1c,a0a,a0e];omega)
   have f6:sy.sfit (bs [40]++(s++bs [40]++r++bs [41])++bs [32,101,118,101,114,121,32]) t=true:=sfT (by simp only[ByteArray.size_append,x1c,a0a,a0e];omega)
   have f7:sy.sfit (bs [40]++(s++bs [40]++r++bs [41])++bs [32,101,118,101,114,121,32]++t) (bs [41])=true:=sfT (by simp only[ByteArray.size_append,x1c,a0a,a0e];omega)
   refine⟨bs [40]++(s++bs [40]++r++bs [41])++bs [32,101,118,101,114,121,32]++t++bs [41],?_,?_,?_⟩
   ·simp only[k3r,go1,x0i,hL,f1,w0,c0,c1,h1,f2,f3,f4,f5,i0,hr,Ex.row,h4,f6,f7]
   ·have e:v7h 1 s (x1u (v++[Ex.mk k2 n2 s2 o2 a2 u2]))= [mk 40,wd (tb s),mk 40]++x1v (x1u v)++[mk 41,none,wd y3p,none]++pcs (Ex.mk k2 n2 s2 o2 a2 u2)++[mk 41]:=by
     rw[y8s];show[mk 40,wd (tb s),mk 40]++x1v ((x1u v++[pcs (Ex.mk k2 n2 s2 o2 a2 u2)]).take ((x1u v++[pcs (Ex.mk k2 n2 s2 o2 a2 u2)]).length - 1))++[mk 41,none,wd y3p,none]++(x1u v++[pcs (Ex.mk k2 n2 s2 o2 a2 u2)]).getD ((x1u v++[pcs (Ex.mk k2 n2 s2 o2 a2 u2)]).length - 1) []++[mk 41]=_;have t1:(x1u v++[pcs (Ex.mk k2 n2 s2 o2 a2 u2)]).length - 1=(x1u v).length:=by simp
     rw[t1,List.take_left,a0i,List.getElem?_concat_length];rfl
    rw[e];simp only[x0y,h2,h5,x0p];have r1:x0f [mk 40,wd (tb s),mk 40]= [40]++(tb s++[40]):=rfl;have r2:x0f [mk 41,none,wd y3p,none]= [41]++[32,101,118,101,114,121,32]:=rfl;have r3:x0f [mk 41]= [41]:=rfl;have q1:tb (bs [40])= [40]:=rfl;have q2:tb (bs [41])= [41]:=rfl;have q3:tb (bs [32,101,118,101,114,121,32])= [32,101,118,101,114,121,32]:=rfl;rw[r1,r2,r3,q1,q2,q3];simp only[List.append_assoc]
   ·simp only[ByteArray.size_append,x1c,a0a,a0e];omega
 obtain⟨r,h1,h2⟩:=core;exact⟨r,cO rfl ((q0z _ _ _ _ _ _ _ _).trans h1),h2⟩
def tot (ts:List BA):Nat:=(ts.map ByteArray.size).sum
def z4f (ts:List BA)(t:BA):tot (ts++[t])=tot ts+t.size:=by simp[tot]
structure TS' (u:List Ex) (ts:List BA):Prop where
 m:ts.map tb=u.map fun x=>x0f (pcs x)
 z:tot ts<=1000000*Ex.j0a u
def TS'.l1 {x:Ex}{ts:List BA}(h:TS' [x] ts): ∃t,ts= [t]/\tb t=x0f (pcs x)/\t.size<=1000000*x.size:=by
 have hl:ts.length=1:=by simpa using congrArg List.length h.m
 match ts,hl,h.m,h.z with
 | [t],_,m,z=>
   simp only[a1o,a1x,List.cons.injEq]at m;simp[tot,Ex.j0a]at z;exact⟨t,rfl,m.1,by omega⟩
def TS'.l2 {x y:Ex}{ts:List BA}(h:TS' [x,y] ts): ∃t v,ts= [t,v]/\tb t=x0f (pcs x)/\tb v=x0f (pcs y)/\t.size+v.size<=1000000*(x.size+y.size):=by
 have hl:ts.length=2:=by simpa using congrArg List.length h.m
 match ts,hl,h.m,h.z with
 | [t,v],_,m,z=>
   simp only[a1o,a1x,List.cons.injEq]at m;simp[tot,Ex.j0a]at z;exact⟨t,v,rfl,m.1,m.2.1,by omega⟩
def TS'.l3 {x y z:Ex}{ts:List BA}(h:TS' [x,y,z] ts): ∃t v w,ts= [t,v,w]/\tb t=x0f (pcs x)/\tb v=x0f (pcs y)/\tb w=x0f (pcs z)/\t.size+v.size+w.size<=1000000*(x.size+y.size+z.size):=by
 have hl:ts.length=3:=by simpa using congrArg List.length h.m
 match ts,hl,h.m,h.z with
 | [t,v,w],_,m,z=>
   simp only[a1o,a1x,List.cons.injEq]at m;simp[tot,Ex.j0a]at z;exact⟨t,v,w,rfl,m.1,m.2.1,m.2.2.1,by omega⟩
def z3g (a:BA)(x:Pc): ∀(ar:List BA) (t:List Pc),ar.length=t.length->x0f (x1h (ar++[a]) (t++[x]))=x0f (x1h ar t)++[32,40]++tb a++[32,45,62,32]++x0f x++[41]
 | [],[],_=>by
   have hw:T.w ⟨if x3h (tb a)then 2 else 1,tb a,0⟩=tb a:=by
    unfold T.w;rw[if_neg (by simp only;split<;>decide)]
   have e:x1h ([]++[a]) ([]++[x])= [none,mk 40,v8y a,none,m2 45 62,none]++x++[mk 41]++x1h [] []:=rfl;have e2:x1h [] []= []:=by unfold x1h;rfl
   rw[e,e2];simp only[x0p,a0y];have:x0f [none,mk 40,v8y a,none,m2 45 62,none]= [32,40]++(T.w ⟨if x3h (tb a)then 2 else 1,tb a,0⟩++[32,45,62,32]):=rfl;rw[this,hw];show[32,40]++(tb a++[32,45,62,32])++x0f x++[41]= []++[32,40]++tb a++[32,45,62,32]++x0f x++[41];simp only[List.append_assoc,a0h]
 |b::ar,y::t,h=>by
  have ih:=z3g a x ar t (by simpa using h)
  simp only[a0d,x1h];simp only[<-a0d,x0p,ih];simp only[List.append_assoc]
 | [],_::_,h=>by simp at h
 |_::_,[],h=>by simp at h
def v7t: ∀(m:Nat) (k n:Int) (s:BA) (o:Int) (a:List BA) (u:List Ex),(Ex.mk k n s o a u).size<=m->m<=1000->y1e (.mk k n s o a u)=true->(Ex.mk k n s o a u).j1j->(Ex.mk k n s o a u).rng->
  ∃r,cF 120 [kE k n s o (x0c a) (Ex.rows u)]=some (.val [.str r])/\tb r=x0f (pcs (.mk k n s o a u))/\r.size<=1000000*(Ex.mk k n s o a u).size
 |0,k,n,s,o,a,u,h,_,_,_,_=>by simp only[Ex.size]at h;omega
 |m+1,k,n,s,o,a,u,h,hm,hall,hfine,hrng=>by
  have hz:Ex.j0a u<=m:=by simp only[Ex.size]at h;omega
  have hl:=x2m u;obtain⟨⟨fs,fa,fal⟩,fu⟩:=hfine;obtain⟨rn,ru⟩:=hrng;simp only[y1e,a0g]at hall;obtain⟨hpart,hu⟩:=hall;have hT: ∀x∈u,Txt x:=fun x hx=>by
   rintro k2 n2 s2 o2 a2 u2 rfl
   obtain⟨i,hi⟩:=List.getElem?_of_mem hx;have h1:=x4d hi;have h2:=y7m hi fu;have h3:y1e (.mk k2 n2 s2 o2 a2 u2)=true:=by
    have: ∀ {l:List Ex},y4h l=true-> ∀x∈l,y1e x=true:=by
     intro l
     induction l with
     |nil=>intro _ x h;cases h
     |cons y l ih=>
      intro h x hx;simp only[y4h,a0g]at h;rcases a1m.1 hx with rfl|hx
      ·exact h.1
      ·exact ih h.2 x hx
    exact this hu _ hx
   have h4:(Ex.mk k2 n2 s2 o2 a2 u2).rng:=by
    have: ∀ {l:List Ex},Ex.j0l l-> ∀x∈l,x.rng:=by
     intro l
     induction l with
     |nil=>intro _ x h;cases h
     |cons y l ih=>
      intro h x hx;rcases a1m.1 hx with rfl|hx
      ·exact h.1
      ·exact ih h.2 x hx
    exact this ru _ hx
   exact v7t m k2 n2 s2 o2 a2 u2 (by omega) (by omega) h3 h2 h4
  have core: ∃p,k6j sy eF k n s o (x0c a) (Ex.rows u)=some p/\ ∃r,p= .val [.str r]/\tb r=x0f (pcK k n s o a (x1u u))/\r.size<=1000000*(Ex.j0a u+1):=by
   unfold k6j;refine x4x (fun x:Nat × List BA=>[.int .i64 (x.1:Int), .int .i64 k, .int .i64 n, .str s, .int .i64 o, .sl 1 (x0c a), .sl 6 (Ex.rows u), .sl 1 (x0c x.2)]) (fun x=>x.1<=u.length/\x.2.length=x.1/\TS' (u.take x.1) x.2) (fun x=>u.length - x.1) (fun x hx=> ?_) (0,[]) ⟨a0w _,rfl,⟨by simp,by simp[tot]⟩⟩
   obtain⟨i,ts⟩:=x;obtain⟨h1,hti,hts⟩:=hx;simp only at h1 hti hts ⊢
   by_cases hlt:i < u.length
   ·left
    have hx:=a0b hlt;have ht:=hT u[i] (a1i hlt);have htk:u.take (i+1)=u.take i++[u[i]]:=by rw[a1e,hx];rfl
    generalize u[i]=e at hx ht htk;have hr:=w6o hx;obtain⟨k2,n2,s2,o2,a2,u2⟩:=e;obtain⟨t,h4,h5,h6⟩:=ht k2 n2 s2 o2 a2 u2 rfl;have w1:IntKind.i64.wrap ((i:Int)+1)=((i+1:Nat):Int):=by rw[x0v (by omega) (by omega)];omega
    have l0:=x0l hlt;have i0:=x0m hlt;have fit:decide (((x0c ts).length+[[D.str t]].length)*(16+1)<=140737488355328)=true:=a0q (by rw[x0e];simp only[a0a,a0e];omega)
    refine⟨(i+1,ts++[t]),?_,⟨hlt,by simp[hti],?_,?_⟩,by simp only;omega⟩
    ·have e1:x0c ts++[[D.str t]]=x0c (ts++[t]):=by rw[<-y2z];rfl
     simp only[go1,x0i,l0,i0,hr,Ex.row,oE,h4,fit,e1,w1]
    ·simp only;rw[htk,List.map_append,List.map_append,hts.m];simp[h5]
    ·simp only;rw[htk,z4f,x5g];have:=hts.z;omega
   ·right
    have:i=u.length:=by omega
    subst this;rw[a0t]at hts;have hpart0:=hpart;unfold y0b at hpart;simp only[a0g]at hpart;obtain⟨hk,h1,h2,h3,h4,h5,h6,h7⟩:=hpart;have h5:=a0f h5;have h6:=a0f h6;have l0:decide (((u.length:Nat):Int) < (u.length:Int))=false:=x0g _;rcases w1j k hk with rfl|rfl|rfl|rfl|rfl|rfl|rfl|rfl|rfl|rfl|rfl|rfl|rfl|rfl|rfl|rfl|rfl
    · -- 1
      obtain⟨r,q1,q2,q3⟩:=z0x 1 n s o (x0c a) (Ex.rows u) (fun _=>⟨a0f h1,rn⟩) fs (by decide)
      refine⟨_,?_,r,rfl,q2,by omega⟩
      simp only[go1,oE,x0i,l0,Int.reduceEq,q1]
    · -- 2
      obtain⟨r,q1,q2,q3⟩:=z0x 2 n s o (x0c a) (Ex.rows u) (fun h=>by cases h) fs (by decide)
      refine⟨_,?_,r,rfl,q2,by omega⟩
      simp only[go1,oE,x0i,l0,Int.reduceEq,q1]
    · -- 3
      obtain⟨r,q1,q2,q3⟩:=z0x 3 n s o (x0c a) (Ex.rows u) (fun h=>by cases h) fs (by decide)
      refine⟨_,?_,r,rfl,q2,by omega⟩
      simp only[go1,oE,x0i,l0,Int.reduceEq,q1]
    · -- 4
      obtain⟨r,q1,q2,q3⟩:=z0x 4 n s o (x0c a) (Ex.rows u) (fun h=>by cases h) fs (by decide)
      refine⟨_,?_,r,rfl,q2,by omega⟩
      simp only[go1,oE,x0i,l0,Int.reduceEq,q1]
    · -- 5
      have hlu:u.length=1:=by simp[hiB,loB]at h5 h6;omega
      match u,hlu,hts,l0 with
      | [x],_,hts,l0=>
        obtain⟨t,rfl,q0,hb⟩:=hts.l1;simp only[Ex.j0a]at hz ⊢;have c0:sy.cell (sy.rown (x0c [t]) 0) 0=some (.str t):=rfl;have c0':sy.cell (sy.rown (x0c [t]) (Int.toNat 0)) 0=some (.str t):=rfl;have i0:decide ((0:Int)<=0/\(0:Int) < ((x0c [t]).length:Int))=true:=rfl
        by_cases ho:o=1
        ·subst ho;refine⟨_,?_,bs [40,45]++t++bs [41],rfl,?_,?_⟩
         ·simp (disch:=(simp only[ByteArray.size_append,x1c,a0a,a0e];omega)) only [go1,oE,x0i,l0,sfT,Int.reduceEq,c0',i0]
         ·show _=x0f ([mk 40,mk 45]++pcs x++[mk 41]);simp only[x0y,x0p,List.append_assoc,q0];rfl
         ·simp only[ByteArray.size_append,x1c,a0a,a0e];omega
        ·have e:pcK 5 n s o a (x1u [x])= [mk 40,wd v1l,none]++pcs x++[mk 41]:=by unfold pcK;rw[if_pos rfl,if_neg ho];rfl
         rw[e];have ho:=decide_eq_false ho;refine⟨_,?_,bs [40,110,111,116,32]++t++bs [41],rfl,?_,?_⟩
         ·simp (disch:=(simp only[ByteArray.size_append,x1c,a0a,a0e];omega)) only [go1,oE,x0i,l0,sfT,Int.reduceEq,c0',i0,ho]
         ·show _=x0f ([mk 40,wd v1l,none]++pcs x++[mk 41]);simp only[x0y,x0p,List.append_assoc,q0];rfl
         ·simp only[ByteArray.size_append,x1c,a0a,a0e];omega
    · -- 6
      have hlu:u.length=2:=by simp[hiB,loB]at h5 h6;omega
      match u,hlu,hts,l0 with
      | [x,y],_,hts,l0=>
        obtain⟨t,v,rfl,q0,q1,hb⟩:=hts.l2;simp only[Ex.j0a]at hz ⊢;have ho:3<=o/\o<=16:=by simpa[u2j]using h3
        obtain⟨o,rfl⟩: ∃q:Nat,o=(q:Int):=⟨o.toNat,by omega⟩
        have hsg:=q3p o (by omega) (by omega)
        have hss:(y0k o).size<=3:=by
         have h1:3<=o:=by omega
         have h2:o<=16:=by omega
         match o,h1,h2 with
         |3,_,_|4,_,_|5,_,_|6,_,_|7,_,_|8,_,_|9,_,_|10,_,_|11,_,_|12,_,_|13,_,_|14,_,_|15,_,_|16,_,_=>decide
         |o+17,_,h=>omega
        have qx:x0f [none,opK o,none]= [32]++(tb (y0k o)++[32]):=by
         show 32::(T.w ⟨if 7<=o/\o<=10 then 1 else 5,tb (y0k o),0⟩++[32])=_;unfold T.w;rw[if_neg (by simp only;split<;>decide)]
         rfl
        have c0:sy.cell (sy.rown (x0c [t,v]) 0) 0=some (.str t):=rfl;have c0':sy.cell (sy.rown (x0c [t,v]) (Int.toNat 0)) 0=some (.str t):=rfl;have i0:decide ((0:Int)<=0/\(0:Int) < ((x0c [t,v]).length:Int))=true:=rfl;have c1:sy.cell (sy.rown (x0c [t,v]) 1) 0=some (.str v):=rfl;have c1':sy.cell (sy.rown (x0c [t,v]) (Int.toNat 1)) 0=some (.str v):=rfl;have i1:decide ((0:Int)<=1/\(1:Int) < ((x0c [t,v]).length:Int))=true:=rfl;refine⟨_,?_,bs [40]++t++bs [32]++y0k o++bs [32]++v++bs [41],rfl,?_,?_⟩
        ·simp (disch:=(simp only[ByteArray.size_append,x1c,a0a,a0e];omega)) only [go1,oE,x0i,l0,sfT,Int.reduceEq,c0',i0,c1',i1,hsg]
        ·show _=x0f ([mk 40]++pcs x++[none,opK o,none]++pcs y++[mk 41]);simp only[x0y,x0p,List.append_assoc,q0,q1,qx];rfl
        ·simp only[ByteArray.size_append,x1c,a0a,a0e];omega
    · -- 7
      have hlu:u.length=3:=by simp[hiB,loB]at h5 h6;omega
      match u,hlu,hts,l0 with
      | [x,y,z],_,hts,l0=>
        obtain⟨t,v,w,rfl,q0,q1,q2,hb⟩:=hts.l3;simp only[Ex.j0a]at hz ⊢;have c0:sy.cell (sy.rown (x0c [t,v,w]) 0) 0=some (.str t):=rfl;have c0':sy.cell (sy.rown (x0c [t,v,w]) (Int.toNat 0)) 0=some (.str t):=rfl;have i0:decide ((0:Int)<=0/\(0:Int) < ((x0c [t,v,w]).length:Int))=true:=rfl;have c1:sy.cell (sy.rown (x0c [t,v,w]) 1) 0=some (.str v):=rfl;have c1':sy.cell (sy.rown (x0c [t,v,w]) (Int.toNat 1)) 0=some (.str v):=rfl;have i1:decide ((0:Int)<=1/\(1:Int) < ((x0c [t,v,w]).length:Int))=true:=rfl;have c2:sy.cell (sy.rown (x0c [t,v,w]) 2) 0=some (.str w):=rfl;have c2':sy.cell (sy.rown (x0c [t,v,w]) (Int.toNat 2)) 0=some (.str w):=rfl;have i2:decide ((0:Int)<=2/\(2:Int) < ((x0c [t,v,w]).length:Int))=true:=rfl;refine⟨_,?_,bs [40,105,102,32]++t++bs [32,116,104,101,110,32]++v++bs [32,101,108,115,101,32]++w++bs [41],rfl,?_,?_⟩
        ·simp (disch:=(simp only[ByteArray.size_append,x1c,a0a,a0e];omega)) only [go1,oE,x0i,l0,sfT,Int.reduceEq,c0',i0,c1',i1,c2',i2]
        ·show _=x0f ([mk 40,wd kIf,none]++pcs x++[none,wd u2z,none]++pcs y++[none,wd u3b,none]++pcs z++[mk 41]);simp only[x0y,x0p,List.append_assoc,q0,q1,q2];rfl
        ·simp only[ByteArray.size_append,x1c,a0a,a0e];omega
    · -- 8
      have hlu:u.length=2:=by simp[hiB,loB]at h5 h6;omega
      match u,hlu,hts,l0 with
      | [x,y],_,hts,l0=>
        obtain⟨t,v,rfl,q0,q1,hb⟩:=hts.l2;simp only[Ex.j0a]at hz ⊢;have c0:sy.cell (sy.rown (x0c [t,v]) 0) 0=some (.str t):=rfl;have c0':sy.cell (sy.rown (x0c [t,v]) (Int.toNat 0)) 0=some (.str t):=rfl;have i0:decide ((0:Int)<=0/\(0:Int) < ((x0c [t,v]).length:Int))=true:=rfl;have c1:sy.cell (sy.rown (x0c [t,v]) 1) 0=some (.str v):=rfl;have c1':sy.cell (sy.rown (x0c [t,v]) (Int.toNat 1)) 0=some (.str v):=rfl;have i1:decide ((0:Int)<=1/\(1:Int) < ((x0c [t,v]).length:Int))=true:=rfl;refine⟨_,?_,bs [40]++t++bs [32,102,98,121,32]++v++bs [41],rfl,?_,?_⟩
        ·simp (disch:=(simp only[ByteArray.size_append,x1c,a0a,a0e];omega)) only [go1,oE,x0i,l0,sfT,Int.reduceEq,c0',i0,c1',i1]
        ·show _=x0f ([mk 40]++pcs x++[none,wd v9i,none]++pcs y++[mk 41]);simp only[x0y,x0p,List.append_assoc,q0,q1];rfl
        ·simp only[ByteArray.size_append,x1c,a0a,a0e];omega
    · -- 9
      have hlu:u.length=2:=by simp[hiB,loB]at h5 h6;omega
      match u,hlu,hts,l0 with
      | [x,y],_,hts,l0=>
        obtain⟨t,v,rfl,q0,q1,hb⟩:=hts.l2;simp only[Ex.j0a]at hz ⊢;have c0:sy.cell (sy.rown (x0c [t,v]) 0) 0=some (.str t):=rfl;have c0':sy.cell (sy.rown (x0c [t,v]) (Int.toNat 0)) 0=some (.str t):=rfl;have i0:decide ((0:Int)<=0/\(0:Int) < ((x0c [t,v]).length:Int))=true:=rfl;have c1:sy.cell (sy.rown (x0c [t,v]) 1) 0=some (.str v):=rfl;have c1':sy.cell (sy.rown (x0c [t,v]) (Int.toNat 1)) 0=some (.str v):=rfl;have i1:decide ((0:Int)<=1/\(1:Int) < ((x0c [t,v]).length:Int))=true:=rfl;refine⟨_,?_,bs [40]++t++bs [32,45,62,32]++v++bs [41],rfl,?_,?_⟩
        ·simp (disch:=(simp only[ByteArray.size_append,x1c,a0a,a0e];omega)) only [go1,oE,x0i,l0,sfT,Int.reduceEq,c0',i0,c1',i1]
        ·show _=x0f ([mk 40]++pcs x++[none,m2 45 62,none]++pcs y++[mk 41]);simp only[x0y,x0p,List.append_assoc,q0,q1];rfl
        ·simp only[ByteArray.size_append,x1c,a0a,a0e];omega
    · -- 10
      have hlu:u.length=1:=by simp[hiB,loB]at h5 h6;omega
      match u,hlu,hts,l0 with
      | [x],_,hts,l0=>
        obtain⟨t,rfl,q0,hb⟩:=hts.l1;simp only[Ex.j0a]at hz ⊢;have c0:sy.cell (sy.rown (x0c [t]) 0) 0=some (.str t):=rfl;have c0':sy.cell (sy.rown (x0c [t]) (Int.toNat 0)) 0=some (.str t):=rfl;have i0:decide ((0:Int)<=0/\(0:Int) < ((x0c [t]).length:Int))=true:=rfl;refine⟨_,?_,bs [40,112,114,101,32]++t++bs [41],rfl,?_,?_⟩
        ·simp (disch:=(simp only[ByteArray.size_append,x1c,a0a,a0e];omega)) only [go1,oE,x0i,l0,sfT,Int.reduceEq,c0',i0]
        ·show _=x0f ([mk 40,wd w5a,none]++pcs x++[mk 41]);simp only[x0y,x0p,List.append_assoc,q0];rfl
        ·simp only[ByteArray.size_append,x1c,a0a,a0e];omega
    · -- 11
      have hlu:u.length=1:=by simp[hiB,loB]at h5 h6;omega
      match u,hlu,hts,l0 with
      | [x],_,hts,l0=>
        obtain⟨t,rfl,q0,hb⟩:=hts.l1;simp only[Ex.j0a]at hz ⊢;have hla:a.length=1:=by
         unfold y1c at h4;simp only[a0g]at h4;exact a0f h4.2
        obtain⟨ar,rfl⟩: ∃ar,a= [ar]:=List.length_eq_one_iff.1 hla
        obtain⟨g,g1,qx,g3⟩:=k1y s ar fs (fa ar (by simp))
        have ca:sy.cell (sy.row (x0c [ar]) 0) 0=some (.str ar):=rfl;have ia:decide ((0:Int)<=0/\(0:Int) < ((x0c [ar]).length:Int))=true:=rfl;have c0:sy.cell (sy.rown (x0c [t]) 0) 0=some (.str t):=rfl;have c0':sy.cell (sy.rown (x0c [t]) (Int.toNat 0)) 0=some (.str t):=rfl;have i0:decide ((0:Int)<=0/\(0:Int) < ((x0c [t]).length:Int))=true:=rfl;refine⟨_,?_,bs [40]++t++bs [32,119,104,101,110,32]++g++bs [41],rfl,?_,?_⟩
        ·simp (disch:=(simp only[ByteArray.size_append,x1c,a0a,a0e];omega)) only [go1,oE,x0i,l0,sfT,Int.reduceEq,c0',i0,ca,ia,g1]
        ·show _=x0f ([mk 40]++pcs x++[none,wd y3o,none]++onP s ar++[mk 41]);simp only[x0y,x0p,List.append_assoc,q0,qx];rfl
        ·simp only[ByteArray.size_append,x1c,a0a,a0e];omega
    · -- 12
      have hla:a.length=u.length:=by simp[hiB,loB]at h5 h6;omega
      have f0:sy.sfit (bs [40,109,101,114,103,101,32]) s=true:=sfT (by simp only[ByteArray.size_append,x1c,a0a,a0e];omega)
      have tl:ts.length=u.length:=by simpa using congrArg List.length hts.m
      have k12: ∃p,x6n (fun ds39=>
        (opS (sy.cell ds39 0)).bind fun s40=>
        (opI (sy.cell ds39 1) .i64).bind fun n41=>
        oE sy ds39 2 fun n42 n43 s44 n45 l46 l47=>
        (opL (sy.cell ds39 8) 1).bind fun l48=>
        bif (sy.ilt n41 (sy.rlen l48))then
         bif (sy.sfit s40 (bs [32,40]))then
          bif (sy.inr n41 (sy.rlen l46))then
           (opS (sy.cell (sy.row l46 n41) 0)).bind fun s49=>
           bif (sy.sfit (sy.sapp s40 (bs [32,40])) s49)then
            bif (sy.sfit (sy.sapp (sy.sapp s40 (bs [32,40])) s49) (bs [32,45,62,32]))then
             bif (sy.inr n41 (sy.rlen l48))then
              (opS (sy.cell (sy.rown l48 (sy.nat n41)) 0)).bind fun s50=>
              bif (sy.sfit (sy.sapp (sy.sapp (sy.sapp s40 (bs [32,40])) s49) (bs [32,45,62,32])) s50)then
               bif (sy.sfit (sy.sapp (sy.sapp (sy.sapp (sy.sapp s40 (bs [32,40])) s49) (bs [32,45,62,32])) s50) (bs [41]))then
                some (.inl [(.str (sy.sapp (sy.sapp (sy.sapp (sy.sapp (sy.sapp s40 (bs [32,40])) s49) (bs [32,45,62,32])) s50) (bs [41]))),(.int .i64 (sy.wrap .i64 (sy.add n41 1))),(.int .i64 n42),(.int .i64 n43),(.str s44),(.int .i64 n45),(.sl 1 l46),(.sl 6 l47),(.sl 1 l48)])
               else
                none
              else
               none
             else
              none
            else
             none
           else
            none
          else
           none
         else
          none
        else
         bif (sy.sfit s40 (bs [41]))then
          some (.inr ((.inr (PRes.val [(.str (sy.sapp s40 (bs [41])))])):List D ⊕ PRes))
         else
          none
       ) [(.str (sy.sapp (bs [40,109,101,114,103,101,32]) s)),(.int .i64 0),(.int .i64 12),(.int .i64 n),(.str s),(.int .i64 o),(.sl 1 (x0c a)),(.sl 6 (Ex.rows u)),(.sl 1 (x0c ts))]=some p/\ ∃r,p= .inr (.val [.str r])/\tb r=x0f (pcK 12 n s o a (x1u u))/\r.size<=1000000*(Ex.j0a u+1):=by
       refine x4x (fun x:Nat × BA=>[.str x.2, .int .i64 (x.1:Int), .int .i64 12, .int .i64 n, .str s, .int .i64 o, .sl 1 (x0c a), .sl 6 (Ex.rows u), .sl 1 (x0c ts)]) (fun x=>x.1<=u.length/\tb x.2= [40,109,101,114,103,101,32]++tb s++x0f (x1h (a.take x.1) (x1u (u.take x.1)))/\x.2.size<=100007+tot (ts.take x.1)+100010*x.1) (fun x=>u.length - x.1) (fun x hx=> ?_) (0,bs [40,109,101,114,103,101,32]++s) ⟨a0w _,?_,?_⟩
       ·obtain⟨i,r⟩:=x;obtain⟨g1,g2,g3⟩:=hx;simp only at g1 g2 g3 ⊢
        by_cases hlt:i < u.length
        ·left
         have hla':i < a.length:=by omega
         have hlt':i < ts.length:=by omega
         have ha:=a0b hla';have ht:=a0b hlt';have hx:=a0b hlt;have htx:tb ts[i]=x0f (pcs u[i]):=by
          have:=congrArg (fun l=>l[i]?) hts.m
          simp only[a0m,ht,hx,Option.map_some,Option.some.injEq]at this;exact this
         have az:a[i].size<=100000:=fa _ (a1i hla');have tk1:ts.take (i+1)=ts.take i++[ts[i]]:=by rw[a1e,ht];rfl
         have tk2:a.take (i+1)=a.take i++[a[i]]:=by rw[a1e,ha];rfl
         have tk3:u.take (i+1)=u.take i++[u[i]]:=by rw[a1e,hx];rfl
         have tz:tot (ts.take i)+ts[i].size<=tot ts:=by
          have e:tot ts=tot (ts.take (i+1))+tot (ts.drop (i+1)):=by
           unfold tot;rw[<-List.sum_append,<-List.map_append,a1w]
          rw[tk1,z4f]at e;omega
         have ttz:=hts.z;generalize a[i]=aa at ha az tk2;generalize ts[i]=tt at ht htx tk1 tz;generalize u[i]=xx at hx htx tk3;have ca:=x1w ha;have ct:sy.cell (sy.rown (x0c ts) i) 0=some (.str tt):=by
          show sy.cell ((x0c ts).getD i []) 0=_;rw[a0i];simp[x0c,w0a,ht];rfl
         have w1:IntKind.i64.wrap ((i:Int)+1)=((i+1:Nat):Int):=by rw[x0v (by omega) (by omega)];omega
         have l1:decide ((i:Int) < (ts.length:Int))=true:=x0l hlt';have i1:decide ((0:Int)<=(i:Int)/\(i:Int) < (ts.length:Int))=true:=x0m hlt';have i2:decide ((0:Int)<=(i:Int)/\(i:Int) < (a.length:Int))=true:=x0m hla';refine⟨(i+1,r++bs [32,40]++aa++bs [32,45,62,32]++tt++bs [41]),?_,⟨hlt,?_,?_⟩,by simp only;omega⟩
         ·simp (disch:=(simp only[ByteArray.size_append,x1c,a0a,a0e];omega)) only [go1,oE,x0e,l1,i1,i2,ca,ct,w1,sfT,a0n]
         ·simp only;rw[tk2,tk3,y8s,z3g _ _ _ _ (by rw[z4x,a1s,a1s];omega)]
          simp only[x0y,g2,htx,List.append_assoc];rfl
         ·simp only;rw[tk1,z4f];simp only[ByteArray.size_append,x1c,a0a,a0e];omega
        ·right
         have:i=u.length:=by omega
         subst this;have l1:decide (((u.length:Nat):Int) < (ts.length:Int))=false:=by rw[tl];exact x0g _
         have ttz:=hts.z;rw[<-tl,a0t]at g3;rw[<-hla,a0t,hla,a0t]at g2;refine⟨_,?_,r++bs [41],rfl,?_,?_⟩
         ·simp (disch:=(simp only[ByteArray.size_append,x1c,a0a,a0e];omega)) only [go1,oE,x0e,l1,sfT]
         ·show _=x0f ([mk 40,wd y5z,none,wd (tb s)]++x1h a (x1u u)++[mk 41]);simp only[x0y,g2,x0p,List.append_assoc];have:x0f [mk 40,wd y5z,none,wd (tb s)]= [40,109,101,114,103,101,32]++(tb s++[]):=rfl;rw[this];simp only[List.append_assoc,a0y];rfl
         ·simp only[ByteArray.size_append,x1c,a0a,a0e];have:1<=a.length:=by
           unfold y1c at h4;simp only[a0g]at h4;have:=h4.2;simp only[show decide ((12:Int)=11)=false from rfl,cond_false,decide_true,cond_true,a0g]at this;exact a0f this.1
          have:u.length<=6:=by
           unfold y1c at h4;simp only[a0g]at h4;have:=h4.2;simp only[show decide ((12:Int)=11)=false from rfl,cond_false,decide_true,cond_true,a0g]at this;have:=a0f this.2.1;omega
          omega
       ·show tb (bs [40,109,101,114,103,101,32]++s)=_++_++x0f (x1h (a.take 0) (x1u (u.take 0)));have:x1h (a.take 0) (x1u (u.take 0))= []:=by unfold x1h;rfl
        rw[this,x0y];simp only[x0f,a0y];rfl
       ·show(bs [40,109,101,114,103,101,32]++s).size<=_;simp only[ByteArray.size_append,x1c,a0a,a0e];omega
      obtain⟨p,g1,r,rfl,g2,g3⟩:=k12;refine⟨_,?_,r,rfl,g2,g3⟩;simp only[go1,oE,x0i,l0,Int.reduceEq,f0];simp only[u2a]at g1
      first|exact g1|(simp only[go1,oE]at g1;exact g1)
    · -- 13
      have hn:n=0\/n=1:=by simpa[u2n]using h1
      obtain⟨r,q1,q2,q3⟩:=q3m n s o a u (by omega) fs (by
       rcases hn with rfl|rfl
       ·exact .inl rfl
       ·refine .inr ⟨rfl,?_⟩
        rintro rfl
        simp[loB]at h5) hT
      refine⟨_,?_,r,rfl,q2,q3⟩;simp only[go1,oE,x0i,l0,Int.reduceEq,q1]
    · -- 14
      obtain⟨r,q1,q2,q3⟩:=u4c u (by omega) hT
      refine⟨_,?_,bs [91]++r++bs [93],rfl,?_,?_⟩
      ·simp (disch:=(simp only[ByteArray.size_append,x1c,a0a,a0e];omega)) only [go1,oE,x0i,l0,Int.reduceEq,q1,sfT]
      ·show _=x0f ([mk 91]++x1v (x1u u)++[mk 93]);simp only[x0y,x0p,List.append_assoc,q2];rfl
      ·simp only[ByteArray.size_append,x1c,a0a,a0e];omega
    · -- 15
      have hlu:u.length=2:=by simp[hiB,loB]at h5 h6;omega
      match u,hlu,hts,l0 with
      | [x,y],_,hts,l0=>
        obtain⟨t,v,rfl,q0,q1,hb⟩:=hts.l2;simp only[Ex.j0a]at hz ⊢;have c0:sy.cell (sy.rown (x0c [t,v]) 0) 0=some (.str t):=rfl;have c0':sy.cell (sy.rown (x0c [t,v]) (Int.toNat 0)) 0=some (.str t):=rfl;have i0:decide ((0:Int)<=0/\(0:Int) < ((x0c [t,v]).length:Int))=true:=rfl;have c1:sy.cell (sy.rown (x0c [t,v]) 1) 0=some (.str v):=rfl;have c1':sy.cell (sy.rown (x0c [t,v]) (Int.toNat 1)) 0=some (.str v):=rfl;have i1:decide ((0:Int)<=1/\(1:Int) < ((x0c [t,v]).length:Int))=true:=rfl;refine⟨_,?_,t++bs [91]++v++bs [93],rfl,?_,?_⟩
        ·simp (disch:=(simp only[ByteArray.size_append,x1c,a0a,a0e];omega)) only [go1,oE,x0i,l0,sfT,Int.reduceEq,c0',i0,c1',i1]
        ·show _=x0f (pcs x++[mk 91]++pcs y++[mk 93]);simp only[x0y,x0p,List.append_assoc,q0,q1];rfl
        ·simp only[ByteArray.size_append,x1c,a0a,a0e];omega
    · -- 16
      have hlu:u.length=3:=by simp[hiB,loB]at h5 h6;omega
      match u,hlu,hts,l0 with
      | [x,y,z],_,hts,l0=>
        obtain⟨t,v,w,rfl,q0,q1,q2,hb⟩:=hts.l3;simp only[Ex.j0a]at hz ⊢;have c0:sy.cell (sy.rown (x0c [t,v,w]) 0) 0=some (.str t):=rfl;have c0':sy.cell (sy.rown (x0c [t,v,w]) (Int.toNat 0)) 0=some (.str t):=rfl;have i0:decide ((0:Int)<=0/\(0:Int) < ((x0c [t,v,w]).length:Int))=true:=rfl;have c1:sy.cell (sy.rown (x0c [t,v,w]) 1) 0=some (.str v):=rfl;have c1':sy.cell (sy.rown (x0c [t,v,w]) (Int.toNat 1)) 0=some (.str v):=rfl;have i1:decide ((0:Int)<=1/\(1:Int) < ((x0c [t,v,w]).length:Int))=true:=rfl;have c2:sy.cell (sy.rown (x0c [t,v,w]) 2) 0=some (.str w):=rfl;have c2':sy.cell (sy.rown (x0c [t,v,w]) (Int.toNat 2)) 0=some (.str w):=rfl;have i2:decide ((0:Int)<=2/\(2:Int) < ((x0c [t,v,w]).length:Int))=true:=rfl;refine⟨_,?_,bs [40]++t++bs [32,119,105,116,104,32,91]++v++bs [93,32,61,32]++w++bs [41],rfl,?_,?_⟩
        ·simp (disch:=(simp only[ByteArray.size_append,x1c,a0a,a0e];omega)) only [go1,oE,x0i,l0,sfT,Int.reduceEq,c0',i0,c1',i1,c2',i2]
        ·show _=x0f ([mk 40]++pcs x++[none,wd u2y,none,mk 91]++pcs y++[mk 93,none,mk 61,none]++pcs z++[mk 41]);simp only[x0y,x0p,List.append_assoc,q0,q1,q2];rfl
        ·simp only[ByteArray.size_append,x1c,a0a,a0e];omega
    · -- 17
      obtain⟨r,q1,q2,q3⟩:=z0x 17 n s o (x0c a) (Ex.rows u) (fun h=>by cases h) fs (by decide)
      refine⟨_,?_,r,rfl,q2,by omega⟩
      simp only[go1,oE,x0i,l0,Int.reduceEq,q1]
  obtain⟨p,h1,r,rfl,h2,h3⟩:=core;refine⟨r,cO rfl ((q1v _ _ _ _ _ _ _ _).trans h1),by rw[pcs];exact h2,?_⟩
  simp only[Ex.size];exact h3
def jnS (b:List Nat):List (List Nat)->List Nat
 | []=>[]
 |x::r=>b++x++jnS b r
def jnT (b:List Nat):List (List Nat)->List Nat
 | []=>[]
 |x::r=>x++jnS b r
def u6p (b x:List Nat): ∀r,jnS b (r++[x])=jnS b r++(b++x)
 | []=>by simp[jnS]
 |y::r=>by simp only[a0d,jnS,u6p b x r,List.append_assoc]
def u6o (b x:List Nat){r:List (List Nat)}(h:r≠[]):jnT b (r++[x])=jnT b r++(b++x):=by
 obtain⟨y,r,rfl⟩:=List.exists_cons_of_ne_nil h;simp only[a0d,jnT,u6p,List.append_assoc]
def y2d {α:Type}{r:List α}{i:Nat}{x:α}(h:r[i]? =some x):r.take (i+1)=r.take i++[x]:=by rw[a1e,h];rfl
def v2f {α:Type}{r:List α}{i:Nat}(h:i<=r.length)(h0: ¬i=0):r.take i≠[]:=fun e=>by
 have:=congrArg List.length e;rw[a1s,a0e]at this;omega
def y8l (n:Int)(hn: ¬n=4): ∀r:List BA,x0f (y4j (r.map fun x=>[some ⟨n,tb x,0⟩]))=jnS [44,32] (r.map tb)
 | []=>rfl
 |x::r=>by
  have:=y8l n hn r;simp only[a1o,y4j,jnS,mk,a0d,a0h,x0f,T.w,if_neg hn,this];simp
def z2v (n:Int)(hn: ¬n=4)(r:List BA):x0f (u9n n r)=jnT [44,32] (r.map tb):=by
 match r with
 | []=>rfl
 |x::r=>
  simp only[u9n,a1o,x1v,jnT,a0d,a0h,x0f,T.w,if_neg hn,y8l n hn r]
def v7s (r:List BA)(hr:r.length<=1000000)(hs: ∀x∈r,x.size<=100000): ∃t,cF 33 [.d (.sl 1 (x0c r))]=some (.val [.str t])/\tb t=jnT [44,32] (r.map tb)/\t.size<=100002*r.length:=by
 have core: ∃p,g33 sy eF (x0c r)=some p/\ ∃t,p= .val [.str t]/\tb t=jnT [44,32] (r.map tb)/\t.size<=100002*r.length:=by
  unfold g33;refine x4x (fun x:Nat × BA=>[.sl 1 (x0c r), .str x.2, .int .i64 (x.1:Int)]) (fun x=>x.1<=r.length/\tb x.2=jnT [44,32] ((r.take x.1).map tb)/\x.2.size<=100002*x.1) (fun x=>r.length - x.1) (fun x hx=> ?_) (0,bs []) ⟨a0w _,rfl,a0p _⟩
  obtain⟨i,s⟩:=x;obtain⟨h1,h2,h3⟩:=hx;simp only at h1 h2 h3 ⊢
  by_cases hlt:i < r.length
  ·left
   have hx:=a0b hlt;have hz:=hs _ (a1i hlt);have hr':=x1w hx;have w1:IntKind.i64.wrap ((i:Int)+1)=((i+1:Nat):Int):=by rw[x0v (by omega) (by omega)];omega
   generalize r[i]=t at hx hz hr'
   by_cases hi0:i=0
   ·subst hi0;refine⟨(1,s++t),?_,⟨hlt,?_,?_⟩,by simp only;omega⟩
    ·have sf:sy.sfit s t=true:=sfT (by omega)
     have l0:decide ((0:Int) < (r.length:Int))=true:=x0l hlt;have i0:decide ((0:Int)<=0/\(0:Int) < (r.length:Int))=true:=x0m hlt;have hr':sy.cell (sy.row (x0c r) 0) 0=_:=hr';have w1:IntKind.i64.wrap ((0:Int)+1)=((1:Nat):Int):=w1;simp only[go1,x0e,l0,i0,hr',show((0:Nat):Int)=0 from rfl,Int.lt_irrefl,sf,w1]
    ·simp only;rw[x0y,h2,y2d hx];simp[jnT,jnS]
    ·simp only[ByteArray.size_append];omega
   ·refine⟨(i+1,s++bs [44,32]++t),?_,⟨hlt,?_,?_⟩,by simp only;omega⟩
    ·have sf:sy.sfit s (bs [44,32])=true:=sfT (by simp only[x1c,a0a,a0e];omega)
     have sf2:sy.sfit (s++bs [44,32]) t=true:=sfT (by simp only[ByteArray.size_append,x1c,a0a,a0e];omega)
     have l0:=x0l hlt;have i0:=x0m hlt;have z0:decide ((0:Int) < (i:Int))=true:=a0q (by omega)
     simp only[go1,x0e,l0,i0,hr',z0,sf,sf2,w1]
    ·simp only;rw[x0y,x0y,h2,y2d hx,List.map_append,List.map_singleton,u6o _ _ (by simpa using v2f h1 hi0),List.append_assoc]
     rfl
    ·simp only[ByteArray.size_append,x1c,a0a,a0e];omega
  ·right
   have:i=r.length:=by omega
   subst this;rw[a0t]at h2;refine⟨_,?_,s,rfl,h2,h3⟩;simp only[go1,x0e,x0g]
 obtain⟨p,h1,t,rfl,h2⟩:=core;exact⟨t,cO rfl ((k0p _ _ _).trans h1),h2⟩
def dig1 {c:Int}(h0:0 < c)(h8:c<=8):y0f c.toNat= [48+c.toNat]:=by
 rw[y0f,dif_pos (by omega)]
def w1i (c:Int):List Nat:=if 0 < c then[91]++[48+c.toNat]++[93]else[]
def v3j {c:Int}(h8:c<=8):x0f (lnP c)=w1i c:=by
 unfold lnP w1i;split
 ·rename_i h0;rw[dig1 h0 h8];rfl
 ·rfl
def k4l {c:Int}(h0:0 < c)(h8:c<=8):tb (sy.bstr [[.int .u8 (sy.wrap .u8 (sy.wrap .i64 (sy.add 48 c)))]])= [48+c.toNat]/\sy.isby [[.int .u8 (sy.wrap .u8 (sy.wrap .i64 (sy.add 48 c)))]]=true:=by
 obtain⟨n,rfl⟩: ∃n:Nat,c=(n:Int):=⟨c.toNat,by omega⟩
 match n,h0,h8 with
 |1,_,_|2,_,_|3,_,_|4,_,_|5,_,_|6,_,_|7,_,_|8,_,_=>exact⟨rfl,rfl⟩
 |0,h,_=>omega
 |n+9,_,h=>omega
def by8 {c:Int}(h0:0 < c)(h8:c<=8): ∃z:BA,sy.bstr [[.int .u8 (IntKind.u8.wrap (IntKind.i64.wrap (48+c)))]]=z/\tb z= [48+c.toNat]/\z.size=1/\sy.isby [[.int .u8 (IntKind.u8.wrap (IntKind.i64.wrap (48+c)))]]=true:=by
 obtain⟨h1,h2⟩:=k4l h0 h8;exact⟨_,rfl,h1,by rw[<-x2g];exact congrArg List.length h1,h2⟩
def w2r (ens:List En)(hE: ∀x∈ens,EnOK x){k e c:Int}(h:tyB ens k e c=true): ∃t,cF 155 [.d (.sl 2 (x0j ens)), .agg [.d (.int .i64 k), .d (.int .i64 e), .d (.int .i64 c)]]=some (.val [.str t])/\tb t=x0f (tyP ens k e c)/\t.size<=100010:=by
 have hq:=z7r ens k e c;rw[h]at hq;have hc:0<=c/\c<=8:=by
  unfold tyB at h;simp only[a0g,Bool.not_eq_true',Bool.or_eq_false_iff,decide_eq_false_iff_not]at h;omega
 have core: ∃t,w5l sy eF (x0j ens) k e c=some (.val [.str t])/\tb t=(u4f ens k e).b++w1i c/\t.size<=100010:=by
  unfold tyB at h;simp only[a0g]at h;obtain⟨_,h⟩:=h
  by_cases h3:k=3
  ·subst h3;have h:(decide (0<=e)&&decide (e < (ens.length:Int)))=true:=by simpa using h
   simp only[a0g,a0s]at h;obtain⟨n,rfl⟩: ∃n:Nat,e=(n:Int):=⟨e.toNat,by omega⟩
   have hn:n < ens.length:=by omega
   have hx:ens[n]? =some ens[n]:=a0b hn;have hz:=(hE _ (a1i hn)).n;have hb:(u4f ens 3 (n:Int)).b=tb (ens[n]).1:=by
    unfold u4f nmE;simp only[a0n,hx,if_true]
   have hr:sy.cell (sy.row (x0j ens) (n:Int)) 0=some (.str (ens[n]).1):=by rw[y3w hx];rfl
   have i0:decide (0<=(n:Int)/\(n:Int) < (ens.length:Int))=true:=x0m hn;rw[hb];generalize (ens[n]).1=s at hz hr
   by_cases h0:0 < c
   ·obtain⟨z,e1,e2,e3,e4⟩:=by8 h0 hc.2;have s1:sy.sfit s (bs [91])=true:=sfT (by simp only[x1c,a0a,a0e];omega)
    have s2:sy.sfit (s++bs [91]) z=true:=sfT (by simp only[ByteArray.size_append,x1c,a0a,a0e];omega)
    have s3:sy.sfit (s++bs [91]++z) (bs [93])=true:=sfT (by simp only[ByteArray.size_append,x1c,a0a,a0e];omega)
    refine⟨s++bs [91]++z++bs [93],?_,?_,?_⟩
    ·simp only[w5l,go1,Int.reduceEq,hq,x1e,hr,i0,a0q h0,e1,e4,s1,s2,s3]
    ·unfold w1i;rw[if_pos h0,x0y,x0y,x0y,e2];simp[z6y]
    ·simp only[ByteArray.size_append,x1c,a0a,a0e];omega
   ·refine⟨s,?_,?_,by omega⟩
    ·simp only[w5l,go1,Int.reduceEq,hq,x1e,hr,i0,decide_eq_false h0]
    ·unfold w1i;rw[if_neg h0,a0y]
  ·by_cases h2:k=2
   ·subst h2;have hb:(u4f ens 2 e).b=w9f:=rfl;rw[hb]
    by_cases h0:0 < c
    ·obtain⟨z,e1,e2,e3,e4⟩:=by8 h0 hc.2;have s1:sy.sfit (bs [98,111,111,108]) (bs [91])=true:=sfT (by simp only[x1c,a0a,a0e];omega)
     have s2:sy.sfit (bs [98,111,111,108]++bs [91]) z=true:=sfT (by simp only[ByteArray.size_append,x1c,a0a,a0e];omega)
     have s3:sy.sfit (bs [98,111,111,108]++bs [91]++z) (bs [93])=true:=sfT (by simp only[ByteArray.size_append,x1c,a0a,a0e];omega)
     refine⟨bs [98,111,111,108]++bs [91]++z++bs [93],?_,?_,?_⟩
     ·simp only[w5l,go1,Int.reduceEq,hq,a0q h0,e1,e4,s1,s2,s3]
     ·unfold w1i;rw[if_pos h0,x0y,x0y,x0y,e2];simp[z6y,w9f]
     ·simp only[ByteArray.size_append,x1c,a0a,a0e];omega
    ·refine⟨bs [98,111,111,108],?_,?_,by simp only[x1c,a0a,a0e];omega⟩
     ·simp only[w5l,go1,Int.reduceEq,hq,decide_eq_false h0]
     ·unfold w1i;rw[if_neg h0,a0y];rfl
   ·have hb:(u4f ens k e).b=k5t:=by unfold u4f;rw[if_neg h3,if_neg h2]
    rw[hb]
    by_cases h0:0 < c
    ·obtain⟨z,e1,e2,e3,e4⟩:=by8 h0 hc.2;have s1:sy.sfit (bs [105,110,116]) (bs [91])=true:=sfT (by simp only[x1c,a0a,a0e];omega)
     have s2:sy.sfit (bs [105,110,116]++bs [91]) z=true:=sfT (by simp only[ByteArray.size_append,x1c,a0a,a0e];omega)
     have s3:sy.sfit (bs [105,110,116]++bs [91]++z) (bs [93])=true:=sfT (by simp only[ByteArray.size_append,x1c,a0a,a0e];omega)
     refine⟨bs [105,110,116]++bs [91]++z++bs [93],?_,?_,?_⟩
     ·simp only[w5l,go1,hq,decide_eq_false h2,decide_eq_false h3,a0q h0,e1,e4,s1,s2,s3]
     ·unfold w1i;rw[if_pos h0,x0y,x0y,x0y,e2];simp[z6y,k5t]
     ·simp only[ByteArray.size_append,x1c,a0a,a0e];omega
    ·refine⟨bs [105,110,116],?_,?_,by simp only[x1c,a0a,a0e];omega⟩
     ·simp only[w5l,go1,hq,decide_eq_false h2,decide_eq_false h3,decide_eq_false h0]
     ·unfold w1i;rw[if_neg h0,a0y];rfl
 obtain⟨t,h1,h2,h3⟩:=core;refine⟨t,cO rfl ((q1c _ _ _ _ _ _).trans h1),?_,h3⟩;rw[h2];show _=(u4f ens k e).w++x0f (lnP c);rw[v3j hc.2];rfl
def v3l (ens:List En)(d:Dc):x0f (dcP ens d)=tb d.n++([58,32]++(x0f (tyP ens d.k d.e d.c)++(if tb d.o= []then[]else[32,119,104,101,110,32]++x0f (onP d.o d.q)))):=by
 have e1:x0f (dcP ens d)=tb d.n++([58]++(32::x0f (tyP ens d.k d.e d.c++whP d.o d.q))):=rfl;rw[e1,x0p];unfold whP;split
 ·rfl
 ·rfl
def v0y (ens:List En)(hE: ∀x∈ens,EnOK x)(d:Dc)(h:x3v ens d=true)(hd:DcOK d): ∃t,cF 119 [.d (.sl 2 (x0j ens)),dV d]=some (.val [.str t])/\tb t=x0f (dcP ens d)/\t.size<=1000000:=by
 have hty:tyB ens d.k d.e d.c=true:=by
  unfold x3v at h;simp only[a0g]at h;exact h.1.2
 obtain⟨y,h1,h2,h3⟩:=w2r ens hE hty;obtain⟨w,h4,h5,h6⟩:=k1y d.o d.q hd.o hd.q;have hz:=hd.n;rw[v3l];obtain⟨n,k,e,c,o,q⟩:=d;simp only at h1 h2 h3 h4 h5 h6 hz ⊢;have s1:sy.sfit n (bs [58,32])=true:=sfT (by simp only[x1c,a0a,a0e];omega)
 have s2:sy.sfit (n++bs [58,32]) y=true:=sfT (by simp only[ByteArray.size_append,x1c,a0a,a0e];omega)
 have s3:sy.sfit (n++bs [58,32]++y) (bs [32,119,104,101,110,32])=true:=sfT (by simp only[ByteArray.size_append,x1c,a0a,a0e];omega)
 have s4:sy.sfit (n++bs [58,32]++y++bs [32,119,104,101,110,32]) w=true:=sfT (by simp only[ByteArray.size_append,x1c,a0a,a0e];omega)
 have e1:(o.toList == (bs []).toList)=decide (tb o= []):=x2c _ _;have core: ∃t,k3s sy eF (x0j ens) n k e c o q=some (.val [.str t])/\tb t=tb n++([58,32]++(x0f (tyP ens k e c)++(if tb o= []then[]else[32,119,104,101,110,32]++x0f (onP o q))))/\t.size<=1000000:=by
  by_cases ho:tb o= []
  ·refine⟨n++bs [58,32]++y,?_,?_,?_⟩
   ·simp only[k3s,go1,s1,h1,s2,e1,a0q ho]
   ·rw[if_pos ho,x0y,x0y,h2,a0y,List.append_assoc];rfl
   ·simp only[ByteArray.size_append,x1c,a0a,a0e];omega
  ·refine⟨n++bs [58,32]++y++bs [32,119,104,101,110,32]++w,?_,?_,?_⟩
   ·simp only[k3s,go1,s1,h1,s2,s3,s4,h4,e1,decide_eq_false ho]
   ·rw[if_neg ho,x0y,x0y,x0y,x0y,h2,h5,List.append_assoc,List.append_assoc,List.append_assoc];rfl
   ·simp only[ByteArray.size_append,x1c,a0a,a0e];omega
 obtain⟨t,q1,q2,q3⟩:=core;exact⟨t,cO rfl ((q1w _ _ _ _ _ _ _ _ _).trans q1),q2,q3⟩
def z2w (ens:List En): ∀r:List Dc,x0f (w5y ens r)=jnS [59,32] (r.map fun d=>x0f (dcP ens d))
 | []=>rfl
 |d::r=>by
  have:=z2w ens r;show[59]++(32::x0f (dcP ens d++w5y ens r))=_;rw[x0p,this];rfl
def v3k (ens:List En)(r:List Dc):x0f (dsP ens r)=jnT [59,32] (r.map fun d=>x0f (dcP ens d)):=by
 match r with
 | []=>rfl
 |d::r=>rw[dsP,x0p,z2w];rfl
def y2t (ens:List En)(hE: ∀x∈ens,EnOK x)(r:List Dc)(hr:r.length<=1000)(h: ∀d∈r,x3v ens d=true/\DcOK d): ∃t,cF 72 [.d (.sl 2 (x0j ens)), .d (.sl 6 (x0n r))]=some (.val [.str t])/\tb t=x0f (dsP ens r)/\t.size<=1000002*r.length:=by
 have core: ∃p,g72 sy eF (x0j ens) (x0n r)=some p/\ ∃t,p= .val [.str t]/\tb t=jnT [59,32] (r.map fun d=>x0f (dcP ens d))/\t.size<=1000002*r.length:=by
  unfold g72;refine x4x (fun x:Nat × BA=>[.sl 2 (x0j ens), .sl 6 (x0n r), .str x.2, .int .i64 (x.1:Int)]) (fun x=>x.1<=r.length/\tb x.2=jnT [59,32] ((r.take x.1).map fun d=>x0f (dcP ens d))/\x.2.size<=1000002*x.1) (fun x=>r.length - x.1) (fun x hx=> ?_) (0,bs []) ⟨a0w _,rfl,a0p _⟩
  obtain⟨i,s⟩:=x;obtain⟨h1,h2,h3⟩:=hx;simp only at h1 h2 h3 ⊢
  by_cases hlt:i < r.length
  ·left
   have hx:=a0b hlt;obtain⟨g1,g2⟩:=h _ (a1i hlt);obtain⟨t,q1,q2,q3⟩:=v0y ens hE _ g1 g2;have hr':=y0z hx;have w1:IntKind.i64.wrap ((i:Int)+1)=((i+1:Nat):Int):=by rw[x0v (by omega) (by omega)];omega
   generalize r[i]=d at hx g1 g2 q1 q2 hr'
   by_cases hi0:i=0
   ·subst hi0;refine⟨(1,s++t),?_,⟨hlt,?_,?_⟩,by simp only;omega⟩
    ·have sf:sy.sfit s t=true:=sfT (by omega)
     have l0:decide ((0:Int) < (r.length:Int))=true:=x0l hlt;have i0:decide ((0:Int)<=0/\(0:Int) < (r.length:Int))=true:=x0m hlt;have hr':sy.row (x0n r) 0=_:=hr';have w1:IntKind.i64.wrap ((0:Int)+1)=((1:Nat):Int):=w1;simp only[go1,x0s,l0,i0,hr',z6t,oD,q1,show((0:Nat):Int)=0 from rfl,Int.lt_irrefl,sf,w1]
    ·simp only;rw[x0y,h2,q2,y2d hx];simp[jnT,jnS]
    ·simp only[ByteArray.size_append];omega
   ·refine⟨(i+1,s++bs [59,32]++t),?_,⟨hlt,?_,?_⟩,by simp only;omega⟩
    ·have sf:sy.sfit s (bs [59,32])=true:=sfT (by simp only[x1c,a0a,a0e];omega)
     have sf2:sy.sfit (s++bs [59,32]) t=true:=sfT (by simp only[ByteArray.size_append,x1c,a0a,a0e];omega)
     have l0:=x0l hlt;have i0:=x0m hlt;have z0:decide ((0:Int) < (i:Int))=true:=a0q (by omega)
     simp only[go1,x0s,l0,i0,hr',z6t,oD,q1,z0,sf,sf2,w1]
    ·simp only;rw[x0y,x0y,h2,q2,y2d hx,List.map_append,List.map_singleton,u6o _ _ (by simpa using v2f h1 hi0),List.append_assoc]
     rfl
    ·simp only[ByteArray.size_append,x1c,a0a,a0e];omega
  ·right
   have:i=r.length:=by omega
   subst this;rw[a0t]at h2;refine⟨_,?_,s,rfl,h2,h3⟩;simp only[go1,x0s,x0g]
 obtain⟨p,h1,t,rfl,h2,h3⟩:=core;exact⟨t,cO rfl ((k0b _ _ _ _).trans h1),by rw[h2,v3k],h3⟩
end Go.Vm
end
