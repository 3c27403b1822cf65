/- Part RBK of the proof. What is proved by the whole: the statement that the claim names, with no condition. -/
import Derived.Test.YtdilhaphlahfjaaGreatDoorRBJ
set_option linter.all false
section
set_option maxRecDepth 100000
set_option maxHeartbeats 4000000
namespace Go.Vm
open Go.Proofs
section
variable {l : List Tk} {i j k N : Nat} {e x y : Ex}
def x1z (h: ∀i,Az l i (fm (pcs e))->f1 (tkT (tkA l (i+tL e)))=true-> ∃N,N<=20*tL e/\Ev l .atom i e (i+tL e) N):v8y l e:=fun i ha hf=>by
 obtain⟨N,hN,h⟩:=h i ha hf;exact q5v (h.mono hN)
def k4v {s:BA}(h:tb s= []):s=bs []:=x3f (by rw[h];rfl)
def q3y (o:Nat)(h3:3<=o)(h16:o<=16)(hj:tkT (tkA l j)=⟨if 7<=o/\o<=10 then 1 else 5,tb (y0n o),0⟩)(hk:tkT (tkA l k)=⟨5,[41],0⟩)
  (hx: ∀nt,nt≠ .atom->foB nt (tkT (tkA l j))=true->Ev l nt i x j N) (hy: ∀nt,nt≠ .atom->foB nt (tkT (tkA l k))=true->Ev l nt (j+1) y k N) (hN:2<=N):Ev l .arrow i (x9u o x y) k (N+10):=by
 have q: ∀nt,foB nt ⟨5,[41],0⟩=true->foB nt (tkT (tkA l k))=true:=fun nt h=>by rw[hk];exact h
 match o,h3,h16,hj with
 |3,_,_,hj|4,_,_,hj=>exact x6o .sum (y7h (a:=3) (n:=2) (fun _=>rfl) (hx .prod (by simp) (by rw[hj];rfl)) hN (by rw[y8y,hj];rfl) (hy .prod (by simp) (q _ rfl)) (by rw[hk];rfl)) (by omega) (q .arrow rfl) (by simp) (by simp)
 |5,_,_,hj|6,_,_,hj|7,_,_,hj=>exact x6o .prod (y7h (a:=5) (n:=3) (fun _=>rfl) (hx .un (by simp) (by rw[hj];rfl)) hN (by rw[y8y,hj];rfl) (hy .un (by simp) (q _ rfl)) (by rw[hk];rfl)) (by omega) (q .arrow rfl) (by simp) (by simp)
 |8,_,_,hj=>exact x6o .and (y7h (a:=8) (n:=1) (fun _=>rfl) (hx .cmp (by simp) (by rw[hj];rfl)) hN (by rw[y8y,hj];rfl) (hy .cmp (by simp) (q _ rfl)) (by rw[hk];rfl)) (by omega) (q .arrow rfl) (by simp) (by simp)
 |9,_,_,hj|10,_,_,hj=>exact x6o .or (y7h (a:=9) (n:=2) (fun _=>rfl) (hx .and (by simp) (by rw[hj];rfl)) hN (by rw[y8y,hj];rfl) (hy .and (by simp) (q _ rfl)) (by rw[hk];rfl)) (by omega) (q .arrow rfl) (by simp) (by simp)
 |11,_,_,hj|12,_,_,hj|13,_,_,hj|14,_,_,hj|15,_,_,hj|16,_,_,hj=>exact x6o .cmp (q3x (hx .sum (by simp) (by rw[hj];rfl)) (by rw[y8y,hj];rfl) (hy .sum (by simp) (q _ rfl))) (by omega) (q .arrow rfl) (by simp) (by simp)
 |o+17,_,h,_=>omega
def x8c {t t':T}(nt:Nt)(h:t=t')(h2:foB nt t'=true):foB nt t=true:=by rw[h];exact h2
def k5i (k n:Int)(s:BA)(o:Int)(a:List BA)(u:List Ex)(hp:y0f (.mk k n s o a u)=true)(hu: ∀x∈u,v8y l x/\Stx x):v8y l (.mk k n s o a u)/\Stx (.mk k n s o a u):=by
 unfold y0f at hp;simp only[a0g]at hp;obtain⟨hk,h1,h2,h3,h4,h5,h6,h7⟩:=hp;have h5:=a0f h5;have h6:=a0f h6;have harm:=z6o h4;have e0:pcs (.mk k n s o a u)=pcK k n s o a (x1v u):=by rw[pcs]
 have hn0:k≠1->k≠2->k≠13->n=0:=fun a b c=>by simpa[u2k,a,b,c]using h1
 have ho0:k≠5->k≠6->o=0:=fun a b=>by simpa[u2g,a,b]using h3
 have hs0:k≠3->k≠11->k≠12->k≠13->k≠4->k≠17->s=bs []:=fun a b c d e f=>k4v (by simpa[y9d,a,b,c,d,e,f]using h2)
 have ha0:k≠11->k≠12->a= []:=fun q r=>by
  unfold y1e at h4;simp only[a0g]at h4;have:=h4.2;simp only[decide_eq_false q,decide_eq_false r,cond_false]at this;exact List.length_eq_zero_iff.1 (a0f this)
 rcases w1d k hk with rfl|rfl|rfl|rfl|rfl|rfl|rfl|rfl|rfl|rfl|rfl|rfl|rfl|rfl|rfl|rfl|rfl
 · -- 1
   have hu0:u= []:=List.length_eq_zero_iff.1 (by have h6:(u.length:Int)<=0:=h6;omega)
   have:=hs0 (by decide) (by decide) (by decide) (by decide) (by decide) (by decide)
   have:=ho0 (by decide) (by decide)
   have:=ha0 (by decide) (by decide)
   subst_vars
   refine⟨x1z fun i ha hf=>⟨1,Nat.le_of_ble_eq_true rfl,x5r (N:=0) fun m _=> ?_⟩,⟨⟨3,y0i n.toNat,n⟩,[],rfl,by unfold u8q nT y6n;simp⟩⟩
   have h0:tkT (tkA l i)=⟨3,y0i n.toNat,n⟩:=ha.1;have hk:(tkA l i).k=3:=congrArg T.k h0;have hn:(tkA l i).n=n:=congrArg T.n h0;unfold x8h;rw[hk,hn];rfl
 · -- 2
   have hu0:u= []:=List.length_eq_zero_iff.1 (by have h6:(u.length:Int)<=0:=h6;omega)
   have:=hs0 (by decide) (by decide) (by decide) (by decide) (by decide) (by decide)
   have:=ho0 (by decide) (by decide)
   have:=ha0 (by decide) (by decide)
   have h1:n=0\/n=1:=by simpa[u2k]using h1
   subst_vars
   rcases h1 with rfl|rfl
   ·refine⟨x1z fun i ha hf=>⟨1,Nat.le_of_ble_eq_true rfl,x5r (N:=0) fun m _=> ?_⟩,⟨_,_,rfl,rfl⟩⟩
    have h0:tkT (tkA l i)=⟨1,z8v,0⟩:=ha.1;rw[z1i h0 rfl rfl rfl];unfold x7w;rw[x0s h0 x6f (b:=false) rfl,x0s h0 x3q (b:=true) rfl];rfl
   ·refine⟨x1z fun i ha hf=>⟨1,Nat.le_of_ble_eq_true rfl,x5r (N:=0) fun m _=> ?_⟩,⟨_,_,rfl,rfl⟩⟩
    have h0:tkT (tkA l i)=⟨1,v4t,0⟩:=ha.1;rw[z1i h0 rfl rfl rfl];unfold x7w;rw[x0s h0 x6f (b:=true) rfl];rfl
 · -- 3
   have hu0:u= []:=List.length_eq_zero_iff.1 (by have h6:(u.length:Int)<=0:=h6;omega)
   have:=hn0 (by decide) (by decide) (by decide)
   have:=ho0 (by decide) (by decide)
   have:=ha0 (by decide) (by decide)
   subst_vars
   have h2:x3r (tb s)=true:=h2;refine⟨x1z fun i ha hf=>⟨1,Nat.le_of_ble_eq_true rfl,x5r (N:=0) fun m _=> ?_⟩,⟨⟨1,tb s,0⟩,[],rfl,?_⟩⟩
   ·have h0:tkT (tkA l i)=⟨1,tb s,0⟩:=ha.1;have hs:(tkA l i).s=s:=x3f (congrArg T.b h0);have hf:f1 (tkT (tkA l (i+1)))=true:=hf;rw[y7t h0 h2,x7c (w:=bs [40]) (x1t hf),hs];rfl
   ·unfold u8q nT;rw[x7n h2 rfl,x5i h2 rfl,x5i h2 rfl,x7n h2 rfl];rfl
 · -- 4
   have hu0:u= []:=List.length_eq_zero_iff.1 (by have h6:(u.length:Int)<=0:=h6;omega)
   have:=hn0 (by decide) (by decide) (by decide)
   have:=ho0 (by decide) (by decide)
   have:=ha0 (by decide) (by decide)
   subst_vars
   refine⟨x1z fun i ha hf=>⟨1,Nat.le_of_ble_eq_true rfl,x5r (N:=0) fun m _=> ?_⟩,⟨⟨2,tb s,0⟩,[],rfl,?_⟩⟩
   ·have h0:tkT (tkA l i)=⟨2,tb s,0⟩:=ha.1;have hs:(tkA l i).s=s:=x3f (congrArg T.b h0);have hk:(tkA l i).k=2:=congrArg T.k h0;unfold x8h;rw[hk,hs];rfl
   ·unfold u8q nT y6n;simp
 · -- 5
   have hl:u.length=1:=by simp[hiB,loB]at h5 h6;omega
   have:=hn0 (by decide) (by decide) (by decide)
   have:=hs0 (by decide) (by decide) (by decide) (by decide) (by decide) (by decide)
   have:=ha0 (by decide) (by decide)
   match u,hl,hu with
   | [x],_,hu=>
     obtain⟨g,st⟩:=hu x (by simp)
     have hp:=st.pos
     subst_vars
     have h3:o=1\/o=2:=by simp[u2g]at h3;omega
     rcases h3 with rfl|rfl
     ·have e:fm (pcs (.mk 5 0 (bs []) 1 [] [x]))=⟨5,[40],0⟩::⟨5,[45],0⟩::(fm (pcs x)++[⟨5,[41],0⟩]):=by
       rw[e0];show fm ([mk 40,mk 45]++pcs x++[mk 41])=_;simp only[a0d,a0h,mk,x2a,x2g,x5x]
      have hL:tL (.mk 5 0 (bs []) 1 [] [x])=tL x+3:=by unfold tL;rw[e];simp
      refine⟨x1z fun i ha hf=>⟨20*tL x+11+1+9+1,by omega,?_⟩,⟨_,_,e,rfl⟩⟩
      rw[e,x1d,x1d,x2q]at ha;obtain⟨a0,a1,a2,a3⟩:=ha;have a3:tkT (tkA l (i+1+1+tL x))=⟨5,[41],0⟩:=a3.1;have hx:=x8d g st .un (by simp) a2 (x8c _ a3 rfl)
      have:=rnd a0 (x6o .un (q6p a1 hx) (by omega) (x8c .arrow a3 rfl) (by simp) (by simp)) a3
      rw[hL,show i+(tL x+3)=i+1+1+tL x+1 by omega]
      exact this
     ·have e:fm (pcs (.mk 5 0 (bs []) 2 [] [x]))=⟨5,[40],0⟩::⟨1,v1h,0⟩::(fm (pcs x)++[⟨5,[41],0⟩]):=by
       rw[e0];show fm ([mk 40,wd v1h,none]++pcs x++[mk 41])=_;simp only[a0d,a0h,mk,wd,x2a,x2r,x2g,x5x]
      have hL:tL (.mk 5 0 (bs []) 2 [] [x])=tL x+3:=by unfold tL;rw[e];simp
      refine⟨x1z fun i ha hf=>⟨20*tL x+11+1+9+1,by omega,?_⟩,⟨_,_,e,rfl⟩⟩
      rw[e,x1d,x1d,x2q]at ha;obtain⟨a0,a1,a2,a3⟩:=ha;have a3:tkT (tkA l (i+1+1+tL x))=⟨5,[41],0⟩:=a3.1;have hx:=x8d g st .un (by simp) a2 (x8c _ a3 rfl)
      have:=rnd a0 (x6o .un (q6o a1 hx) (by omega) (x8c .arrow a3 rfl) (by simp) (by simp)) a3
      rw[hL,show i+(tL x+3)=i+1+1+tL x+1 by omega]
      exact this
 · -- 6
   have hl:u.length=2:=by simp[hiB,loB]at h5 h6;omega
   have:=hn0 (by decide) (by decide) (by decide)
   have:=hs0 (by decide) (by decide) (by decide) (by decide) (by decide) (by decide)
   have:=ha0 (by decide) (by decide)
   match u,hl,hu with
   | [x,y],_,hu=>
     obtain⟨g,st⟩:=hu x (by simp)
     obtain⟨g2,st2⟩:=hu y (by simp)
     have hp:=st.pos;have hp2:=st2.pos
     subst_vars
     have h3:3<=o/\o<=16:=by simpa[u2g]using h3
     obtain⟨o,rfl⟩: ∃q:Nat,o=(q:Int):=⟨o.toNat,by omega⟩
     have e:fm (pcs (.mk 6 0 (bs []) (o:Int) [] [x,y]))=⟨5,[40],0⟩::(fm (pcs x)++⟨if 7<=o/\o<=10 then 1 else 5,tb (y0n o),0⟩::(fm (pcs y)++[⟨5,[41],0⟩])):=by
      rw[e0];show fm ([mk 40]++pcs x++[none,opK (o:Int).toNat,none]++pcs y++[mk 41])=_;simp only[a0d,a0h,List.append_assoc,mk,opK,x2a,x2r,x2g,x5x,a0n]
     have hL:tL (.mk 6 0 (bs []) (o:Int) [] [x,y])=tL x+tL y+3:=by unfold tL;rw[e];simp;omega
     refine⟨x1z fun i ha hf=>⟨20*tL x+20*tL y+11+10+1,by omega,?_⟩,⟨_,_,e,rfl⟩⟩
     rw[e,x1d,x2q,x1d,x2q]at ha;obtain⟨a0,a1,a2,a3,a4⟩:=ha;have a2:tkT (tkA l (i+1+tL x))=_:=a2;have a4:tkT (tkA l (i+1+tL x+1+tL y))=⟨5,[41],0⟩:=a4.1;have:=rnd a0 (q3y (N:=20*tL x+20*tL y+11) o (by omega) (by omega) a2 a4 (fun nt hn hf=>(x8d g st nt hn a1 hf).mono (by omega)) (fun nt hn hf=>(x8d g2 st2 nt hn a3 hf).mono (by omega)) (by omega)) a4
     rw[hL,show i+(tL x+tL y+3)=i+1+tL x+1+tL y+1 by omega]
     exact this
 · -- 7
   have hl:u.length=3:=by simp[hiB,loB]at h5 h6;omega
   have:=hn0 (by decide) (by decide) (by decide)
   have:=hs0 (by decide) (by decide) (by decide) (by decide) (by decide) (by decide)
   have:=ha0 (by decide) (by decide)
   have:=ho0 (by decide) (by decide)
   match u,hl,hu with
   | [x,y,z],_,hu=>
     obtain⟨g,st⟩:=hu x (by simp)
     obtain⟨g2,st2⟩:=hu y (by simp)
     obtain⟨g3,st3⟩:=hu z (by simp)
     have hp:=st.pos;have hp2:=st2.pos;have hp3:=st3.pos
     subst_vars
     have e:fm (pcs (.mk 7 0 (bs []) 0 [] [x,y,z]))=⟨5,[40],0⟩::⟨1,kIf,0⟩::(fm (pcs x)++⟨1,u2v,0⟩::(fm (pcs y)++⟨1,u2x,0⟩::(fm (pcs z)++[⟨5,[41],0⟩]))):=by
      rw[e0];show fm ([mk 40,wd kIf,none]++pcs x++[none,wd u2v,none]++pcs y++[none,wd u2x,none]++pcs z++[mk 41])=_;simp only[a0d,a0h,List.append_assoc,mk,wd,x2a,x2r,x2g,x5x]
     have hL:tL (.mk 7 0 (bs []) 0 [] [x,y,z])=tL x+tL y+tL z+5:=by unfold tL;rw[e];simp;omega
     refine⟨x1z fun i ha hf=>⟨20*tL x+20*tL y+20*tL z+11+1+1+10+1,by omega,?_⟩,⟨_,_,e,rfl⟩⟩
     rw[e,x1d,x1d,x2q,x1d,x2q,x1d,x2q]at ha;obtain⟨a0,a1,a2,a3,a4,a5,a6,a7⟩:=ha;have a3:tkT (tkA l (i+1+1+tL x))=_:=a3;have a5:tkT (tkA l (i+1+1+tL x+1+tL y))=_:=a5;have a7:tkT (tkA l (i+1+1+tL x+1+tL y+1+tL z))=⟨5,[41],0⟩:=a7.1;have hx:=(x8d g st .arrow (by simp) a2 (x8c _ a3 rfl)).mono (M:=20*tL x+20*tL y+20*tL z+11) (by omega)
     have hy:=(x8d g2 st2 .arrow (by simp) a4 (x8c _ a5 rfl)).mono (M:=20*tL x+20*tL y+20*tL z+11) (by omega)
     have hz:=(x8d g3 st3 .arrow (by simp) a6 (x8c _ a7 rfl)).mono (M:=20*tL x+20*tL y+20*tL z+11) (by omega)
     have:=rnd a0 (y1k (z1h (k7d a1 hx a3 hy a5 hz) (by omega) (x8c .un a7 rfl)) (by rw[a1];rfl) (x8c .arrow a7 rfl)) a7
     rw[hL,show i+(tL x+tL y+tL z+5)=i+1+1+tL x+1+tL y+1+tL z+1 by omega]
     exact this
 · -- 8
   have hl:u.length=2:=by simp[hiB,loB]at h5 h6;omega
   have:=hn0 (by decide) (by decide) (by decide)
   have:=hs0 (by decide) (by decide) (by decide) (by decide) (by decide) (by decide)
   have:=ha0 (by decide) (by decide)
   have:=ho0 (by decide) (by decide)
   match u,hl,hu with
   | [x,y],_,hu=>
     obtain⟨g,st⟩:=hu x (by simp)
     obtain⟨g2,st2⟩:=hu y (by simp)
     have hp:=st.pos;have hp2:=st2.pos
     subst_vars
     have e:fm (pcs (.mk 8 0 (bs []) 0 [] [x,y]))=⟨5,[40],0⟩::(fm (pcs x)++⟨1,v9c,0⟩::(fm (pcs y)++[⟨5,[41],0⟩])):=by
      rw[e0];show fm ([mk 40]++pcs x++[none,wd v9c,none]++pcs y++[mk 41])=_;simp only[a0d,a0h,List.append_assoc,mk,wd,x2a,x2r,x2g,x5x]
     have hL:tL (.mk 8 0 (bs []) 0 [] [x,y])=tL x+tL y+3:=by unfold tL;rw[e];simp;omega
     refine⟨x1z fun i ha hf=>⟨20*tL x+20*tL y+11+1+9+1,by omega,?_⟩,⟨_,_,e,rfl⟩⟩
     rw[e,x1d,x2q,x1d,x2q]at ha;obtain⟨a0,a1,a2,a3,a4⟩:=ha;have a2:tkT (tkA l (i+1+tL x))=_:=a2;have a4:tkT (tkA l (i+1+tL x+1+tL y))=⟨5,[41],0⟩:=a4.1;have hx:=(x8d g st .or (by simp) a1 (x8c _ a2 rfl)).mono (M:=20*tL x+20*tL y+11) (by omega)
     have hy:=(x8d g2 st2 .fby (by simp) a3 (x8c _ a4 rfl)).mono (M:=20*tL x+20*tL y+11) (by omega)
     have:=rnd a0 (x6o .fby (q3w hx a2 hy) (by omega) (x8c .arrow a4 rfl) (by simp) (by simp)) a4
     rw[hL,show i+(tL x+tL y+3)=i+1+tL x+1+tL y+1 by omega]
     exact this
 · -- 9
   have hl:u.length=2:=by simp[hiB,loB]at h5 h6;omega
   have:=hn0 (by decide) (by decide) (by decide)
   have:=hs0 (by decide) (by decide) (by decide) (by decide) (by decide) (by decide)
   have:=ha0 (by decide) (by decide)
   have:=ho0 (by decide) (by decide)
   match u,hl,hu with
   | [x,y],_,hu=>
     obtain⟨g,st⟩:=hu x (by simp)
     obtain⟨g2,st2⟩:=hu y (by simp)
     have hp:=st.pos;have hp2:=st2.pos
     subst_vars
     have e:fm (pcs (.mk 9 0 (bs []) 0 [] [x,y]))=⟨5,[40],0⟩::(fm (pcs x)++⟨5,[45,62],0⟩::(fm (pcs y)++[⟨5,[41],0⟩])):=by
      rw[e0];show fm ([mk 40]++pcs x++[none,m2 45 62,none]++pcs y++[mk 41])=_;simp only[a0d,a0h,List.append_assoc,mk,m2,x2a,x2r,x2g,x5x]
     have hL:tL (.mk 9 0 (bs []) 0 [] [x,y])=tL x+tL y+3:=by unfold tL;rw[e];simp;omega
     refine⟨x1z fun i ha hf=>⟨20*tL x+20*tL y+11+1+1,by omega,?_⟩,⟨_,_,e,rfl⟩⟩
     rw[e,x1d,x2q,x1d,x2q]at ha;obtain⟨a0,a1,a2,a3,a4⟩:=ha;have a2:tkT (tkA l (i+1+tL x))=_:=a2;have a4:tkT (tkA l (i+1+tL x+1+tL y))=⟨5,[41],0⟩:=a4.1;have hx:=(x8d g st .fby (by simp) a1 (x8c _ a2 rfl)).mono (M:=20*tL x+20*tL y+11) (by omega)
     have hy:=(x8d g2 st2 .arrow (by simp) a3 (x8c _ a4 rfl)).mono (M:=20*tL x+20*tL y+11) (by omega)
     have:=rnd a0 (v8g hx a2 hy) a4;rw[hL,show i+(tL x+tL y+3)=i+1+tL x+1+tL y+1 by omega]
     exact this
 · -- 10
   have hl:u.length=1:=by simp[hiB,loB]at h5 h6;omega
   have:=hn0 (by decide) (by decide) (by decide)
   have:=hs0 (by decide) (by decide) (by decide) (by decide) (by decide) (by decide)
   have:=ha0 (by decide) (by decide)
   have:=ho0 (by decide) (by decide)
   match u,hl,hu with
   | [x],_,hu=>
     obtain⟨g,st⟩:=hu x (by simp)
     have hp:=st.pos
     subst_vars
     have e:fm (pcs (.mk 10 0 (bs []) 0 [] [x]))=⟨5,[40],0⟩::⟨1,w4t,0⟩::(fm (pcs x)++[⟨5,[41],0⟩]):=by
      rw[e0];show fm ([mk 40,wd w4t,none]++pcs x++[mk 41])=_;simp only[a0d,a0h,mk,wd,x2a,x2r,x2g,x5x]
     have hL:tL (.mk 10 0 (bs []) 0 [] [x])=tL x+3:=by unfold tL;rw[e];simp
     refine⟨x1z fun i ha hf=>⟨20*tL x+11+1+9+1,by omega,?_⟩,⟨_,_,e,rfl⟩⟩
     rw[e,x1d,x1d,x2q]at ha;obtain⟨a0,a1,a2,a3⟩:=ha;have a3:tkT (tkA l (i+1+1+tL x))=⟨5,[41],0⟩:=a3.1;have hx:=x8d g st .un (by simp) a2 (x8c _ a3 rfl)
     have:=rnd a0 (x6o .un (q6n a1 hx) (by omega) (x8c .arrow a3 rfl) (by simp) (by simp)) a3
     rw[hL,show i+(tL x+3)=i+1+1+tL x+1 by omega]
     exact this
 · -- 11
   have hl:u.length=1:=by simp[hiB,loB]at h5 h6;omega
   have hla:a.length=1:=by
    unfold y1e at h4;simp only[a0g]at h4;exact a0f h4.2
   have:=hn0 (by decide) (by decide) (by decide)
   have:=ho0 (by decide) (by decide)
   have h2:x3r (tb s)=true:=h2
   match u,hl,hu,a,hla,harm with
   | [x],_,hu,[ar],_,harm=>
     simp only[a1p,List.all_nil,a2a]at harm;obtain⟨g,st⟩:=hu x (by simp)
     have hp:=st.pos
     subst_vars
     have e:fm (pcs (.mk 11 0 s 0 [ar] [x]))=⟨5,[40],0⟩::(fm (pcs x)++⟨1,y3l,0⟩::(fm (onP s ar)++[⟨5,[41],0⟩])):=by
      rw[e0];show fm ([mk 40]++pcs x++[none,wd y3l,none]++onP s ar++[mk 41])=_;simp only[a0d,a0h,List.append_assoc,mk,wd,x2a,x2r,x2g,x5x]
     have hL:tL (.mk 11 0 s 0 [ar] [x])=tL x+(fm (onP s ar)).length+3:=by unfold tL;rw[e];simp;omega
     refine⟨x1z fun i ha hf=>⟨20*tL x+3+10+1,by omega,?_⟩,⟨_,_,e,rfl⟩⟩
     rw[e,x1d,x2q,x1d,x2q]at ha;obtain⟨a0,a1,a2,a3,a4⟩:=ha;have a2:tkT (tkA l (i+1+tL x))=⟨1,y3l,0⟩:=a2;have a4:tkT (tkA l (i+1+tL x+1+(fm (onP s ar)).length))=⟨5,[41],0⟩:=a4.1;have hw:x6j l (i+1+tL x+1)= .ok (s,ar) (i+1+tL x+1+(fm (onP s ar)).length):=v1m h2 harm a3 trivial;obtain⟨base,j0,k,q1,q2,q3⟩:=g (i+1) a1 (by rw[a2];rfl)
     have hpost:Ev l .post (i+1) (.mk 11 0 s 0 [ar] [x]) (i+1+tL x+1+(fm (onP s ar)).length) (20*tL x+3):=fun m hm=>by
      obtain⟨m,rfl⟩: ∃r,m=r+1:=⟨m - 1,by omega⟩
      show y1t l m (prs l m) (i+1)=_;rw[y1t,q2 m (by omega),Rs.bind_ok]
      have q3:=q3 m (by omega) (m - k)
      rw[show m - k+k=m by omega]at q3
      rw[q3];obtain⟨r,hr⟩: ∃r,m - k=r+2:=⟨m - k - 2,by omega⟩
      rw[hr,x2k,y0e,x0s a2 (bs [91]) (b:=false) rfl,x0s a2 (bs [119,104,101,110]) (b:=true) rfl];simp only;rw[hw];simp only;rw[x2k,y0e,x0s a4 (bs [91]) (b:=false) rfl,x0s a4 (bs [119,104,101,110]) (b:=false) rfl]
     have:=rnd a0 (y1k hpost (st.at a1) (by rw[a4];rfl)) a4
     rw[hL,show i+(tL x+(fm (onP s ar)).length+3)=i+1+tL x+1+(fm (onP s ar)).length+1 by omega]
     exact this
 · -- 12
   have hla:1<=a.length:=by
    unfold y1e at h4;simp only[a0g]at h4;have:=h4.2;simp only[show decide ((12:Int)=11)=false from rfl,cond_false,decide_true,cond_true,a0g]at this;exact a0f this.1
   have hl:a.length=u.length:=by simp[hiB,loB]at h5 h6;omega
   have:=hn0 (by decide) (by decide) (by decide)
   have:=ho0 (by decide) (by decide)
   have h2:x3r (tb s)=true:=h2
   subst_vars
   have e:fm (pcs (.mk 12 0 s 0 a u))=⟨5,[40],0⟩::⟨1,y5w,0⟩::⟨1,tb s,0⟩::(fm (x1g a (x1v u))++[⟨5,[41],0⟩]):=by
    rw[e0];show fm ([mk 40,wd y5w,none,wd (tb s)]++x1g a (x1v u)++[mk 41])=_;simp only[a0d,a0h,mk,wd,x2a,x2r,x2g,x5x]
   have hL:tL (.mk 12 0 s 0 a u)=(fm (x1g a (x1v u))).length+4:=by unfold tL;rw[e];simp
   obtain⟨m1,m2⟩:=z8m a u hl;refine⟨x1z fun i ha hf=>⟨20*(fm (x1g a (x1v u))).length+11+1+1+10+1,by omega,?_⟩,⟨_,_,e,rfl⟩⟩
   rw[e,x1d,x1d,x1d]at ha;obtain⟨a0,a1,a2,a3⟩:=ha;have a4:=(x2q.1 a3).2;have a4:tkT (tkA l (i+1+1+1+(fm (x1g a (x1v u))).length))=⟨5,[41],0⟩:=a4.1;have a5:tkT (tkA l (i+1+1+1))=⟨5,[40],0⟩:=by
    match a,u,hla,hl,a3 with
    |b::bt,y::v,_,_,a3=>
     have e2:fm (x1g (b::bt) (x1v (y::v)))=⟨5,[40],0⟩::⟨if x3h (tb b)then 2 else 1,tb b,0⟩::⟨5,[45,62],0⟩::(fm (pcs y)++⟨5,[41],0⟩::fm (x1g bt (x1v v))):=by
      simp only[x1v,x1g,a0d,a0h,mk,Go.Vm.m2,v8s,x2a,x2r,x2g,List.append_assoc]
     rw[e2]at a3;exact a3.1
   have hs:(tkA l (i+1+1)).s=s:=x3f (congrArg T.b a2);have hat:Ev l .atom (i+1) (.mk 12 0 s 0 a u) (i+1+1+1+(fm (x1g a (x1v u))).length) (20*(fm (x1g a (x1v u))).length+11+1):=x5r fun m hm=>by
    rw[u8i a1,y0a,z5c a2 h2,Rs.bind_ok,y3e a5 rfl,y4s,Rs.bind_ok];have:=u5z (l:=l) m a u [] [] (i+1+1+1) m hl hla harm (fun x hx=>⟨(hu x hx).1,(hu x hx).2,by have:=m2 x hx;omega⟩) a3 (by omega)
    rw[this,Rs.bind_ok,hs];rfl
   have:=rnd a0 (y1k (z1h hat (by omega) (by rw[a4];rfl)) (by rw[a1];rfl) (by rw[a4];rfl)) a4
   rw[hL,show i+((fm (x1g a (x1v u))).length+4)=i+1+1+1+(fm (x1g a (x1v u))).length+1 by omega]
   exact this
 · -- 13
   have:=ho0 (by decide) (by decide)
   have:=ha0 (by decide) (by decide)
   have h2:x3r (tb s)=true:=h2;have h1:n=0\/n=1:=by simpa[u2k]using h1
   subst_vars
   have calls: ∀(v:List Ex) (i m n:Nat),(∀x∈v,v8y l x/\Stx x)->Az l i (fm (x1w (x1v v))++[⟨5,[41],0⟩])->20*(fm (x1w (x1v v))).length+11<=m->20*(fm (x1w (x1v v))).length+11<=n->y3x l n (prs l m) s i=y1w l (prs l m) s v (i+(fm (x1w (x1v v))).length+1):=by
    intro v i m n hv ha hm hn;unfold y3x
    match v,hv,ha,hm,hn with
    | [],_,ha,_,_=>
      rw[x0s ha.1 (bs [41]) (b:=true) rfl];rfl
    |x::v,hv,ha,hm,hn=>
     obtain⟨l1,l2⟩:=u6c x v fun y hy=>(hv y hy).2
     have hst:isT l i (bs [41])=false:=by
      have e2:fm (x1w (x1v (x::v)))=fm (pcs x)++fm (y4c (x1v v)):=by simp only[x1v,x1w,x2g]
      rw[e2,List.append_assoc,x2q]at ha;have:=(hv x (by simp)).2.at ha.1
      unfold u8q at this;exact x7c (w:=bs [41]) (y1x (y1x (y1x this)))
     rw[hst];simp only;rw[v4m 41 (.inl rfl) m x v i (fun y hy=>⟨(hv y hy).1,(hv y hy).2,by have:=l2 y hy;omega⟩) ha (by omega),Rs.bind_ok]
   rcases h1 with rfl|rfl
   ·have e:fm (pcs (.mk 13 0 s 0 [] u))=⟨1,tb s,0⟩::⟨5,[40],0⟩::(fm (x1w (x1v u))++[⟨5,[41],0⟩]):=by
     rw[e0];show fm ([wd (tb s),mk 40]++x1w (x1v u)++[mk 41])=_;simp only[a0d,a0h,mk,wd,x2a,x2g,x5x]
    have hL:tL (.mk 13 0 s 0 [] u)=(fm (x1w (x1v u))).length+3:=by unfold tL;rw[e];simp
    refine⟨x1z fun i ha hf=>⟨20*(fm (x1w (x1v u))).length+11+1,by omega,?_⟩,⟨_,_,e,?_⟩⟩
    ·rw[e,x1d,x1d]at ha;obtain⟨a0,a1,a2⟩:=ha;have hs:(tkA l i).s=s:=x3f (congrArg T.b a0);rw[hL]at hf ⊢;refine x5r fun m hm=> ?_
     rw[y7t a0 h2,x0s a1 (bs [40]) (b:=true) rfl,hs];simp only;rw[show i+2=i+1+1 by omega,calls u (i+1+1) m m hu a2 hm hm]
     unfold y1w;rw[show i+1+1+(fm (x1w (x1v u))).length+1=i+((fm (x1w (x1v u))).length+3) by omega,x7c (w:=bs [101,118,101,114,121]) (y1x hf)]
    ·unfold u8q nT;rw[x7n h2 rfl,x5i h2 rfl,x5i h2 rfl,x7n h2 rfl];rfl
   ·have hne:u≠[]:=by rintro rfl;simp[loB]at h5
    obtain⟨v,x,rfl⟩: ∃v x,u=v++[x]:=⟨_,_,(List.dropLast_concat_getLast hne).symm⟩
    have hx:=hu x (by simp)
    have hv: ∀y∈v,v8y l y/\Stx y:=fun y hy=>hu y (by simp[hy])
    have hpx:=hx.2.pos;have pl: ∀v:List Ex,x1v (v++[x])=x1v v++[pcs x]:=by
     intro v
     induction v with
     |nil=>rfl
     |cons y v ih=>simp only[a0d,x1v,ih]
    have e:fm (pcs (.mk 13 1 s 0 [] (v++[x])))=⟨5,[40],0⟩::⟨1,tb s,0⟩::⟨5,[40],0⟩::(fm (x1w (x1v v))++⟨5,[41],0⟩::⟨1,y3m,0⟩::(fm (pcs x)++[⟨5,[41],0⟩])):=by
     rw[e0,pl v];show fm ([mk 40,wd (tb s),mk 40]++x1w ((x1v v++[pcs x]).take ((x1v v++[pcs x]).length - 1))++[mk 41,none,wd y3m,none]++(x1v v++[pcs x]).getD ((x1v v++[pcs x]).length - 1) []++[mk 41])=_;have t1:(x1v v++[pcs x]).length - 1=(x1v v).length:=by simp
     rw[t1,List.take_left,a0i,List.getElem?_concat_length];simp only[a0d,a0h,List.append_assoc,mk,wd,x2a,x2r,x2g,x5x,Option.getD_some]
    have hL:tL (.mk 13 1 s 0 [] (v++[x]))=(fm (x1w (x1v v))).length+tL x+6:=by unfold tL;rw[e];simp;omega
    refine⟨x1z fun i ha hf=>⟨20*(fm (x1w (x1v v))).length+20*tL x+11+1+1+10+1,by omega,?_⟩,⟨_,_,e,rfl⟩⟩
    rw[e,x1d,x1d,x1d,x2q,x1d,x1d,x2q]at ha;obtain⟨a0,a1,a2,a3,a4,a5,a6,a7⟩:=ha;have a7:tkT (tkA l (i+1+1+1+(fm (x1w (x1v v))).length+1+1+tL x))=⟨5,[41],0⟩:=a7.1;have hs:(tkA l (i+1)).s=s:=x3f (congrArg T.b a1);have px:=(x8d hx.1 hx.2 .post (by simp) a6 (x8c _ a7 rfl))
    have hat:Ev l .atom (i+1) (.mk 13 1 s 0 [] (v++[x])) (i+1+1+1+(fm (x1w (x1v v))).length+1+1+tL x) (20*(fm (x1w (x1v v))).length+20*tL x+11+1):=x5r fun m hm=>by
     rw[y7t a1 h2,x0s a2 (bs [40]) (b:=true) rfl,hs];simp only;rw[show i+1+2=i+1+1+1 by omega,calls v (i+1+1+1) m m hv (x2q.2 ⟨a3,a4,trivial⟩) (by omega) (by omega)]
     unfold y1w;rw[x0s a5 (bs [101,118,101,114,121]) (b:=true) rfl];simp only;rw[px m (by omega),Rs.bind_ok]
    have:=rnd a0 (y1k (z1h hat (by omega) (by rw[a7];rfl)) (by
     rw[a1];unfold u8q nT;rw[x7n h2 rfl,x5i h2 rfl,x5i h2 rfl,x7n h2 rfl];rfl) (by rw[a7];rfl)) a7
    rw[hL,show i+((fm (x1w (x1v v))).length+tL x+6)=i+1+1+1+(fm (x1w (x1v v))).length+1+1+tL x+1 by omega]
    exact this
 · -- 14
   have:=hn0 (by decide) (by decide) (by decide)
   have:=hs0 (by decide) (by decide) (by decide) (by decide) (by decide) (by decide)
   have:=ha0 (by decide) (by decide)
   have:=ho0 (by decide) (by decide)
   subst_vars
   match u,hu,h5 with
   | [],_,h5=>simp[loB]at h5
   |x::v,hu,_=>
    have e:fm (pcs (.mk 14 0 (bs []) 0 [] (x::v)))=⟨5,[91],0⟩::(fm (x1w (x1v (x::v)))++[⟨5,[93],0⟩]):=by
     rw[e0];show fm ([mk 91]++x1w (x1v (x::v))++[mk 93])=_;simp only[a0d,a0h,mk,x2a,x2g,x5x]
    have hL:tL (.mk 14 0 (bs []) 0 [] (x::v))=(fm (x1w (x1v (x::v)))).length+2:=by unfold tL;rw[e];simp
    obtain⟨l1,l2⟩:=u6c x v fun y hy=>(hu y hy).2
    refine⟨x1z fun i ha hf=>⟨20*(fm (x1w (x1v (x::v)))).length+11+1,by omega,x5r fun m hm=> ?_⟩,⟨_,_,e,rfl⟩⟩
    rw[e,x1d]at ha;rw[w6l ha.1,v4m 93 (.inr rfl) m x v (i+1) (fun y hy=>⟨(hu y hy).1,(hu y hy).2,by have:=l2 y hy;omega⟩) ha.2 (by omega),Rs.bind_ok,hL]
    show Rs.ok _ _=_;congr 1;omega
 · -- 15
   have hl:u.length=2:=by simp[hiB,loB]at h5 h6;omega
   have:=hn0 (by decide) (by decide) (by decide)
   have:=hs0 (by decide) (by decide) (by decide) (by decide) (by decide) (by decide)
   have:=ha0 (by decide) (by decide)
   have:=ho0 (by decide) (by decide)
   match u,hl,hu with
   | [x,y],_,hu=>
     obtain⟨g,st⟩:=hu x (by simp)
     obtain⟨g2,st2⟩:=hu y (by simp)
     have hp:=st.pos;have hp2:=st2.pos
     subst_vars
     have e:fm (pcs (.mk 15 0 (bs []) 0 [] [x,y]))=fm (pcs x)++⟨5,[91],0⟩::(fm (pcs y)++[⟨5,[93],0⟩]):=by
      rw[e0];show fm (pcs x++[mk 91]++pcs y++[mk 93])=_;simp only[a0d,a0h,List.append_assoc,mk,x2a,x2g,x5x]
     have hL:tL (.mk 15 0 (bs []) 0 [] [x,y])=tL x+tL y+2:=by unfold tL;rw[e];simp;omega
     refine⟨fun i ha hf=> ?_,?_⟩
     ·rw[e,x2q,x1d,x2q]at ha;obtain⟨a1,a2,a3,a4⟩:=ha;have a2:tkT (tkA l (i+tL x))=⟨5,[91],0⟩:=a2;have a4:tkT (tkA l (i+tL x+1+tL y))=⟨5,[93],0⟩:=a4.1;obtain⟨base,j0,k,q1,q2,q3⟩:=g i a1 (by rw[a2];rfl)
      have hy:=x8d g2 st2 .arrow (by simp) a3 (x8c _ a4 rfl)
      have hy:Ev l .arrow (i+tL x+1) y (i+tL x+1+tL y) (20*tL y+11):=hy;rw[hL];refine⟨base,j0,k+1,by omega,fun m hm=>q2 m (by omega),fun m hm r=> ?_⟩
      have q3:=q3 m (by omega) (r+1)
      rw[show r+(k+1)=r+1+k by omega,q3,x2k,y0e,x0s a2 (bs [91]) (b:=true) rfl]
      simp only;rw[hy m (by omega),Rs.bind_ok,y3e a4 rfl,y4s,Rs.bind_ok]
      simp only;rw[show i+tL x+1+tL y+1=i+(tL x+tL y+2) by omega]
      rfl
     ·obtain⟨t,r,h,hs⟩:=st;exact⟨t,_,by rw[e,h,a0d],hs⟩
 · -- 16
   have hl:u.length=3:=by simp[hiB,loB]at h5 h6;omega
   have:=hn0 (by decide) (by decide) (by decide)
   have:=hs0 (by decide) (by decide) (by decide) (by decide) (by decide) (by decide)
   have:=ha0 (by decide) (by decide)
   have:=ho0 (by decide) (by decide)
   match u,hl,hu with
   | [x,y,z],_,hu=>
     obtain⟨g,st⟩:=hu x (by simp)
     obtain⟨g2,st2⟩:=hu y (by simp)
     obtain⟨g3,st3⟩:=hu z (by simp)
     have hp:=st.pos;have hp2:=st2.pos;have hp3:=st3.pos
     subst_vars
     have e:fm (pcs (.mk 16 0 (bs []) 0 [] [x,y,z]))=⟨5,[40],0⟩::(fm (pcs x)++⟨1,u2u,0⟩::⟨5,[91],0⟩::(fm (pcs y)++⟨5,[93],0⟩::⟨5,[61],0⟩::(fm (pcs z)++[⟨5,[41],0⟩]))):=by
      rw[e0];show fm ([mk 40]++pcs x++[none,wd u2u,none,mk 91]++pcs y++[mk 93,none,mk 61,none]++pcs z++[mk 41])=_;simp only[a0d,a0h,List.append_assoc,mk,wd,x2a,x2r,x2g,x5x]
     have hL:tL (.mk 16 0 (bs []) 0 [] [x,y,z])=tL x+tL y+tL z+6:=by unfold tL;rw[e];simp;omega
     refine⟨x1z fun i ha hf=>⟨20*tL x+20*tL y+20*tL z+11+1,by omega,?_⟩,⟨_,_,e,rfl⟩⟩
     rw[e,x1d,x2q,x1d,x1d,x2q,x1d,x1d,x2q]at ha;obtain⟨a0,a1,a2,a3,a4,a5,a6,a7,a8⟩:=ha;have a2:tkT (tkA l (i+1+tL x))=_:=a2;have a3:tkT (tkA l (i+1+tL x+1))=_:=a3;have a4:Az l (i+1+tL x+2) (fm (pcs y)):=a4;have a5:tkT (tkA l (i+1+tL x+2+tL y))=_:=a5;have a6:tkT (tkA l (i+1+tL x+2+tL y+1))=_:=a6;have a7:Az l (i+1+tL x+2+tL y+2) (fm (pcs z)):=a7;have a8:tkT (tkA l (i+1+tL x+2+tL y+2+tL z))=⟨5,[41],0⟩:=a8.1;have hx:=(x8d g st .arrow (by simp) a1 (x8c _ a2 rfl)).mono (M:=20*tL x+20*tL y+20*tL z+11) (by omega)
     have hy:=(x8d g2 st2 .arrow (by simp) a4 (x8c _ a5 rfl)).mono (M:=20*tL x+20*tL y+20*tL z+11) (by omega)
     have hz:=(x8d g3 st3 .arrow (by simp) a7 (x8c _ a8 rfl)).mono (M:=20*tL x+20*tL y+20*tL z+11) (by omega)
     have:=w0d (q:=0) a0 hx a2 a3 hy a5 a6 hz a8;rw[hL,show i+(tL x+tL y+tL z+6)=i+1+tL x+2+tL y+2+tL z+1 by omega]
     exact this
 · -- 17
   have hu0:u= []:=List.length_eq_zero_iff.1 (by have h6:(u.length:Int)<=0:=h6;omega)
   have:=hn0 (by decide) (by decide) (by decide)
   have:=ho0 (by decide) (by decide)
   have:=ha0 (by decide) (by decide)
   subst_vars
   refine⟨x1z fun i ha hf=>⟨1,Nat.le_of_ble_eq_true rfl,x5r (N:=0) fun m _=> ?_⟩,⟨⟨4,tb s,0⟩,[],rfl,?_⟩⟩
   ·have h0:tkT (tkA l i)=⟨4,tb s,0⟩:=ha.1;have hs:(tkA l i).s=s:=x3f (congrArg T.b h0);have hk:(tkA l i).k=4:=congrArg T.k h0;unfold x8h;rw[hk,hs];rfl
   ·unfold u8q nT y6n;simp
mutual
def u6n: ∀e:Ex,y1y e=true->v8y l e/\Stx e
 | .mk k n s o a u,h=>by
   simp only[y1y,a0g]at h;exact k5i k n s o a u h.1 (z9e u h.2)
def z9e: ∀u:List Ex,y4a u=true-> ∀x∈u,v8y l x/\Stx x
 | [],_,x,h=>by cases h
 |e::u,h,x,hx=>by
  simp only[y4a,a0g]at h;rcases a1n.1 hx with he|hx
  ·rw[he];exact u6n e h.1
  ·exact z9e u h.2 x hx
end
end
def k2h {l:List Tk}: ∀ {ts:List T} {a b:List Tk},a.map tkT=ts->Az (l++(a++b)) l.length ts
 | [],[],b,_=>trivial
 | [],_::_,b,h=>by cases h
 |_::_,[],b,h=>by cases h
 |t::ts,x::a,b,h=>by
  rw[a1o,List.cons.injEq]at h;refine⟨?_,?_⟩
  ·have:tkA (l++(x::a++b)) l.length=x:=by
    unfold tkA;rw[a0i];simp
   rw[this];exact h.1
  ·have:=k2h (l:=l++[x]) (a:=a) (b:=b) h.2
   simpa using this
def rnT:Pc->List Nat->Prop
 | [],l=>l= []
 |none::r,l=> ∃c m,l=c::m/\(c=32\/c=10)/\rnT r m
 |some t::r,l=> ∃m,l=t.w++m/\rnT r m
def x8n: ∀p:Pc,rnT p (x0f p)
 | []=>rfl
 |none::r=>⟨32,_,rfl, .inl rfl,x8n r⟩
 |some t::r=>⟨_,rfl,x8n r⟩
def x5z: ∀ {p q:Pc} {x y:List Nat},rnT p x->rnT q y->rnT (p++q) (x++y)
 | [],q,x,y,h1,h2=>by cases h1;exact h2
 |none::r,q,x,y,⟨c,m,e,hc,h1⟩,h2=>⟨c,m++y,by rw[e];rfl,hc,x5z h1 h2⟩
 |some t::r,q,x,y,⟨m,e,h1⟩,h2=>⟨m++y,by rw[e,List.append_assoc],x5z h1 h2⟩
def v2y:rnT [none] [10]:=⟨10,[],rfl, .inr rfl,rfl⟩
def k7g (t:T):ajB t 10=ajB t 32:=by
 unfold ajB;split
 ·rfl
 ·split
  ·split
   ·rename_i c _;have h: ∀d,d=10\/d=32->y2u.contains [c,d]=false:=fun d hd=>by
     cases hx:y2u.contains [c,d]with
     |false=>rfl
     |true=>
      have:=List.contains_iff_mem.1 hx;unfold y2u at this;simp at this;omega
    rw[h 10 (.inl rfl),h 32 (.inr rfl)];have e1:decide ((10:Nat)=45)=false:=rfl;have e2:decide ((32:Nat)=45)=false:=rfl;rw[e1,e2]
   ·rfl
  ·rfl
def k3v {t:T}(h:t.OK):0 < t.w.length:=by
 have e: ∀d,ajB t d=true->0 < t.w.length:=fun d hd=>by
  have hb:tb (⟨(t.w.map UInt8.ofNat).toArray⟩:BA)=t.w.map (fun c=>(UInt8.ofNat c).toNat):=by simp[tb]
  unfold T.w;rcases h with⟨h1,h2,h3,h4⟩|⟨h1,h2,h3⟩|⟨h1,h2⟩|⟨h1,h2,h3,h4⟩|⟨h1,h2,h3⟩|⟨h1,c,h2,h3,h4⟩
  ·rw[if_neg (by omega)];exact(x3a h3).1
  ·rw[if_neg (by omega)];exact(x3a h2).1
  ·rw[if_neg (by omega)];exact h2.2.1
  ·rw[if_pos h1];simp
  ·rw[if_neg (by omega)]
   obtain⟨i,hi,he⟩:=y5k.1 h2;rw[he]
   match i,hi with
   |0,_|1,_|2,_|3,_|4,_=>decide
  ·rw[if_neg (by omega),h3];exact Nat.one_pos
 by_cases h4:t.k=4
 ·unfold T.w;rw[if_pos h4];simp
 ·by_cases h5:t.k=5
  ·rcases h with⟨h1,_⟩|⟨h1,_⟩|⟨h1,_⟩|⟨h1,_⟩|⟨h1,h2,h3⟩|⟨h1,c,h2,h3,h4'⟩<;>try omega
   ·obtain⟨i,hi,he⟩:=y5k.1 h2;unfold T.w;rw[if_neg h4,he]
    match i,hi with
    |0,_|1,_|2,_|3,_|4,_=>decide
   ·unfold T.w;rw[if_neg h4,h3];exact Nat.one_pos
  ·refine e 32 ?_;unfold ajB;rw[if_neg h4,if_neg h5];rfl
def k2m {t:T}{p:Pc}{l:List Nat}(ho: ∀x,some x∈p->x.OK)(h:rnT p l):ajB t (hd 0 p)=ajB t (l.getD 0 0):=by
 match p,h,ho with
 | [],h,_=>cases h;rfl
 |none::r,⟨c,m,e,hc,_⟩,_=>
  subst e;show ajB t 32=ajB t c;rcases hc with rfl|rfl
  ·rfl
  ·exact(k7g t).symm
 |some x::r,⟨m,e,_⟩,ho=>
  have hp:=k3v (ho x a0v);rw[z5l _ _ _ hp,e,x9r hp]
def u9o (s:BA)(a c:Nat)(hc:c=32\/c=10)(h:(tb s).drop a=c::(tb s).drop (a+1)):y5u s a=y5u s (a+1):=by
 have hg:a+x7r ((tb s).drop a)=a+1+x7r ((tb s).drop (a+1)):=by
  rw[h,v5n _ (by rcases hc with rfl|rfl<;>rfl)];omega
 rw[y5u.eq_def s a,y5u.eq_def s (a+1)];simp only[hg]
def u2s (s:BA): ∀(ps:Pc) (a:Nat),a<=(tb s).length->rnT ps ((tb s).drop a)->(∀t,some t∈ps->t.OK)->x2y 0 ps=true->
  ∃l:List Tk,l.map tkT=ps.filterMap id/\y5u s a=(l,(tb s).length,true)
 | [],a,ha,hd,_,_=>by
   have hd:(tb s).drop a= []:=hd;have h0:a=(tb s).length:=by
    have:=congrArg List.length hd;simp only[a1u,a0e]at this;omega
   refine⟨[],rfl,?_⟩;rw[y5u.eq_def,hd];have hg:x7r []=0:=x7q rfl rfl;rw[hg,dif_neg (by omega)]
   subst h0;rfl
 |none::ps,a,ha,⟨c,m,hd,hc,hm⟩,ho,hch=>by
  have hd1:(tb s).drop (a+1)=m:=u0c (x:=[c]) hd;have hlt:a < (tb s).length:=by
   have:=congrArg List.length hd;simp only[a1u,a0b]at this;omega
  obtain⟨l,h1,h2⟩:=u2s s ps (a+1) hlt (by rw[hd1];exact hm) (fun t h=>ho t (a0w _ h)) hch
  refine⟨l,by simpa using h1,?_⟩
  rw[u9o s a c hc (by rw[hd,hd1]),h2]
 |some t::ps,a,ha,⟨m,hd,hm⟩,ho,hc=>by
  rw[x2y,a0g]at hc;have hlen:=congrArg List.length hd;simp only[a1u,a0j]at hlen;have e1:tb (s.extract a (tb s).length)=t.w++m:=by rw[x6g,a0r];exact hd
  have haj:ajB t (m.getD 0 0)=true:=by
   rw[<-k2m (fun x h=>ho x (a0w _ h)) hm];exact hc.1
  obtain⟨hk,hg,hw⟩:=q6w e1 (ho t a0v) haj;rw[x6g,a0r]at hg;obtain⟨l,h1,h2⟩:=u2s s ps (a+t.w.length) (by omega) (by rw[u0c hd];exact hm) (fun t h=>ho t (a0w _ h)) hc.2
  have heq:=y5u.eq_def s a;simp only[hg,Nat.add_zero]at heq;rw[dif_pos (by omega),dif_pos ⟨hk.ok,by rw[hk.w];exact hw⟩,hk.w,h2]at heq
  refine⟨_::l,?_,heq⟩;simp only[a1o,List.filterMap_cons,id,h1];congr 1;obtain⟨k,b,n⟩:=t;simp only[tkT,hk.k,hk.b,hk.n]
def Bk {α:Type}(l:List Tk)(m:RM α)(ts:List T)(F:T->Bool)(v:α):Prop:= ∀i,Az l i ts->F (tkT (tkA l (i+ts.length)))=true->i+ts.length < l.length->m i= .ok v (i+ts.length)
def tt (_:T):Bool:=true
def nxt:List T->(T->Bool)->(T->Bool)->Prop
 | [],F,G=> ∀x,F x=true->G x=true
 |t::_,_,G=>G t=true
def x6h {ts:List T}{F:T->Bool}:nxt ts F tt:=by
 cases ts with
 |nil=>exact fun _ _=>rfl
 |cons=>exact rfl
def w4s {l:List Tk}{ts:List T}{F G:T->Bool}(h:nxt ts F G){i:Nat}(ha:Az l i ts)(hf:F (tkT (tkA l (i+ts.length)))=true):G (tkT (tkA l i))=true:=by
 match ts,h,ha,hf with
 | [],h,_,hf=>exact h _ hf
 |t::r,h,ha,_=>rw[ha.1];exact h
section
variable {α β : Type} {l : List Tk} {m : RM α} {k : α -> RM β} {t1 t2 : List T} {t : T} {F G : T -> Bool} {a : α} {b : β}
def Bk.bind (h1:Bk l m t1 G a)(h2:Bk l (k a) t2 F b)(hx:nxt t2 F G):Bk l (m.bind k) (t1++t2) F b:=fun i ha hf hl=>by
 rw[a0j,<-a2e]at hf hl ⊢;obtain⟨a1,a2⟩:=x2q.1 ha;unfold RM.bind;rw[h1 i a1 (w4s hx a2 hf) (by omega)]
 exact h2 _ a2 hf hl
def Bk.ret (v:α):Bk l (RM.ret v) [] F v:=fun i _ _ _=>rfl
def Bk.fuel {ts:List T}{v:α}(h:ts.length < l.length->Bk l m ts F v):Bk l m ts F v:=fun i ha hf hl=>h (by omega) i ha hf hl
def Bk.tok {n:Int}{f:Tk->RM β}(hk:t.k=n)(hw:n=1->x4r t.b=false)(h: ∀x:Tk,tkT x=t->Bk l (f x) t2 F b):Bk l ((z6u l n).bind f) (t::t2) F b:=fun i ha hf hl=>by
 obtain⟨a1,a2⟩:=x1d.1 ha;have e1:(tkA l i).k=t.k:=congrArg T.k a1;have e2:tb (tkA l i).s=t.b:=congrArg T.b a1;have hc:(decide ((tkA l i).k=n)&& !(decide (n=1)&&x4r (tb (tkA l i).s)))=true:=by
  rw[e1,e2,hk,a0o rfl,a2j]
  by_cases h1:n=1
  ·rw[hw h1,Bool.and_false];rfl
  ·rw[decide_eq_false h1];rfl
 rw[a0b,show i+(t2.length+1)=i+1+t2.length by omega]at hf hl ⊢
 unfold RM.bind z6u;rw[hc];exact h _ a1 _ a2 hf hl
def Bk.yes {x:BA}{f:Bool->RM β}(hx:y6n t (tb x)=true)(h:Bk l (f true) t2 F b):Bk l ((tkR l x).bind f) (t::t2) F b:=fun i ha hf hl=>by
 obtain⟨a1,a2⟩:=x1d.1 ha;rw[a0b,show i+(t2.length+1)=i+1+t2.length by omega]at hf hl ⊢
 unfold RM.bind tkR;rw[y9i,a1,hx];exact h _ a2 hf hl
def Bk.no {x:BA}{f:Bool->RM β}(hx:nxt t2 F fun t=>nT t (tb x))(h:Bk l (f false) t2 F b):Bk l ((tkR l x).bind f) t2 F b:=fun i ha hf hl=>by
 have h1:=w4s hx ha hf;unfold RM.bind tkR;rw[x7c h1];exact h _ ha hf hl
def okW:List T->List BA->Bool
 | [],[]=>true
 |t::ts,w::ws=>y6n t (tb w)&&okW ts ws
 |_,_=>false
def u5u: ∀(ts:List T) (ws:List BA) (i:Nat),okW ts ws=true->Az l i ts->x2b l ws i= .ok () (i+ts.length)
 | [],[],i,_,_=>rfl
 |t::ts,w::ws,i,h,ha=>by
  simp only[okW,a0g]at h;rw[x2b,y9i,ha.1,h.1];simp only;rw[u5u ts ws (i+1) h.2 ha.2,a0b,show i+1+ts.length=i+(ts.length+1) by omega]
def Bk.j1r {ws:List BA}(h:okW t1 ws=true):Bk l (x6l l ws) t1 F ():=fun i ha hf hl=>by
 unfold x6l;rw[u5u t1 ws i h ha]
end
def w7i (n:Int):List BA->List T
 | []=>[]
 |x::r=>⟨5,[44],0⟩::⟨n,tb x,0⟩::w7i n r
def k8g (n:Int)(x:BA):Prop:=n=1->x4r (tb x)=false
def u5b (n:Int): ∀r:List BA,(w7i n r).length=2*r.length
 | []=>rfl
 |_::r=>by simp only[w7i,a0b,u5b n r];omega
section
variable {l : List Tk}
def u0y (n:Int): ∀(r:List BA) (k:Nat) (acc:List BA),r.length<=k->(∀x∈r,k8g n x)->Bk l (y5t l n k acc) (w7i n r) (fun t=>nT t [44]) (acc++r)
 | [],0,acc,_,_=>by rw[a0y];exact Bk.ret acc
 | [],k+1,acc,_,_=>by
   rw[a0y];exact Bk.no (x:=bs [44]) (fun _ h=>h) (Bk.ret acc)
 |x::r,0,acc,h,_=>absurd h (by simp)
 |x::r,k+1,acc,h,ho=>Bk.yes (x:=bs [44]) rfl (Bk.tok (t:=⟨n,tb x,0⟩) rfl (ho x a0v) fun y hy=>by
  have e:y.s=x:=x3f (congrArg T.b hy);have:=u0y n r k (acc++[x]) (by simpa using h) fun z hz=>ho z (a0w _ hz)
  rw[List.append_assoc]at this;rw[e];exact this)
def y9b (n:Int):List BA->List T
 | []=>[]
 |x::r=>⟨n,tb x,0⟩::w7i n r
def u7v (n:Int){r:List BA}(h0:r≠[])(ho: ∀x∈r,k8g n x):Bk l (z3g l n) (y9b n r) (fun t=>nT t [44]) r:=by
 obtain⟨x,r,rfl⟩:=List.exists_cons_of_ne_nil h0;refine Bk.fuel fun hl=> ?_
 simp only[y9b,a0b,u5b]at hl;exact Bk.tok (t:=⟨n,tb x,0⟩) rfl (ho x a0v) fun y hy=>by
  have e:y.s=x:=x3f (congrArg T.b hy);rw[e];exact u0y n r l.length [x] (by omega) fun z hz=>ho z (a0w _ hz)
def enT (e:En):List T:=⟨1,tb e.1,0⟩::([⟨5,[123],0⟩]++(y9b 2 e.2++([⟨5,[125],0⟩,⟨5,[59],0⟩]++[])))
def q3u {e:En}(h1:x4r (tb e.1)=false)(h2:e.2≠[]):Bk l (v6o l) (enT e) tt e:=by
 refine Bk.tok (t:=⟨1,tb e.1,0⟩) rfl (fun _=>h1) fun y hy=> ?_
 have he:y.s=e.1:=x3f (congrArg T.b hy);refine Bk.bind (G:=tt) (Bk.j1r rfl) ?_ (by obtain⟨x,r,h⟩:=List.exists_cons_of_ne_nil h2;rw[h];rfl)
 refine Bk.bind (u7v 2 h2 fun x _ h=>(by cases h)) ?_ rfl
 refine Bk.bind (G:=tt) (Bk.j1r rfl) ?_ (fun _ _=>rfl)
 rw[he];exact Bk.ret _
end
def k5e:List Nat:=[105,110,116]
def w8n:List Nat:=[98,111,111,108]
def u9q:List Nat:=[108,101,116]
def nmE (ens:List En)(e:Int):List Nat:=match ens[e.toNat]? with
 |some x=>tb x.1
 |none=>[]
def u4b (ens:List En)(k e:Int):T:=⟨1,if k=3 then nmE ens e else if k=2 then w8n else k5e,0⟩
def w8f (c:Int):List T:=if 0 < c then[⟨5,[91],0⟩,⟨3,y0i c.toNat,c⟩,⟨5,[93],0⟩]else[]
def q6r (ens:List En)(k e c:Int):List T:=[u4b ens k e]++w8f c
def q6a (o q:BA):List T:=if tb o= []then[]else⟨1,y3l,0⟩::(fm (onP o q)++[])
def dcT (ens:List En)(d:Dc):List T:=⟨1,tb d.n,0⟩::([⟨5,[58],0⟩]++(q6r ens d.k d.e d.c++q6a d.o d.q))
structure EnN (ens:List En):Prop where
 nd:(ens.map (·.1)).Nodup
 lo: ∀e∈ens,x3r (tb e.1)=true
def q8g {b w:List Nat}(h:x4r b=false)(hw:x4r w=true): ¬b=w:=fun e=>by rw[e,hw]at h;cases h
def u5w {b w:List Nat}{n:Int}(h:x4r b=false)(hw:x4r w=true):nT ⟨1,b,n⟩ w=true:=by
 unfold nT y6n;rw[decide_eq_false (q8g h hw)];rfl
def w1j {ens:List En}(h:EnN ens){e:Nat}{x:En}(hx:ens[e]? =some x):q6e ens x.1=some e:=by
 unfold q6e;obtain⟨h1,h2⟩:=a0c.1 hx;refine List.findIdx?_eq_some_iff_getElem.2 ⟨h1,by rw[h2];exact a0o rfl,fun j hj=> ?_⟩
 have hj':j < ens.length:=by omega
 have: ¬(ens[j]'hj').1=x.1:=fun e'=>by
  have h3:(ens.map (·.1))[j]'(by simpa using hj')=(ens.map (·.1))[e]'(by simpa using h1):=by simp only[List.getElem_map,h2,e']
  have:=(List.getElem_inj h.nd).1 h3;omega
 simp only[a0u];exact fun e'=>this (x3f e')
section
variable {l : List Tk} {ens : List En} {F : T -> Bool}
def q3v (hE:EnN ens){k e c:Int}(h:tyB ens k e c=true):Bk l (w3l l ens) [u4b ens k e] F (k,e):=by
 unfold tyB at h;simp only[a0g]at h;obtain⟨_,h⟩:=h
 by_cases h1:k=1
 ·subst h1;have he:e=0:=by simpa using h
  subst he;exact Bk.yes (x:=bs [105,110,116]) rfl (Bk.ret _)
 ·by_cases h2:k=2
  ·subst h2;have he:e=0:=by simpa using h
   subst he;exact Bk.no (x:=bs [105,110,116]) rfl (Bk.yes (x:=bs [98,111,111,108]) rfl (Bk.ret _))
  ·simp only[decide_eq_false h1,decide_eq_false h2,cond_false,a0g,a0u]at h;obtain⟨h3,h4,h5⟩:=h;subst h3;obtain⟨n,rfl⟩: ∃n:Nat,e=(n:Int):=⟨e.toNat,by omega⟩
   have hn:n < ens.length:=by omega
   have hx:ens[n]? =some ens[n]:=a0a hn;have hb:u4b ens 3 (n:Int)=⟨1,tb (ens[n]).1,0⟩:=by
    unfold u4b nmE;simp only[a0n,hx,if_true]
   have hw:=(x3b (hE.lo _ (a1i hn))).2;rw[hb];refine Bk.no (x:=bs [105,110,116]) (u5w hw rfl) (Bk.no (x:=bs [98,111,111,108]) (u5w hw rfl) (Bk.tok (t:=⟨1,tb (ens[n]).1,0⟩) rfl (fun _=>hw) fun y hy=> ?_))
   have e1:y.s=(ens[n]).1:=x3f (congrArg T.b hy);unfold v1c;rw[e1,w1j hE hx];exact Bk.ret _
def k1x (hE:EnN ens){k e c:Int}(h:tyB ens k e c=true)(hF: ∀x,F x=true->nT x [91]=true):Bk l (tyR l ens) (q6r ens k e c) F (k,e,c):=by
 have hc:0<=c/\c<=8:=by
  unfold tyB at h;simp only[a0g,Bool.not_eq_true',Bool.or_eq_false_iff,decide_eq_false_iff_not]at h;omega
 unfold q6r w8f;refine Bk.bind (G:=tt) (q3v hE h) ?_ x6h
 by_cases h0:0 < c
 ·rw[if_pos h0];refine Bk.yes (x:=bs [91]) rfl (Bk.tok (t:=⟨3,y0i c.toNat,c⟩) rfl (fun h=>by cases h) fun y hy=> ?_)
  have e1:y.n=c:=congrArg T.n hy;rw[e1,decide_eq_false (by omega),decide_eq_false (by omega)]
  exact Bk.bind (t1:=[⟨5,[93],0⟩]) (t2:=[]) (G:=tt) (Bk.j1r (ws:=[bs [93]]) rfl) (Bk.ret _) x6h
 ·rw[if_neg h0];have:c=0:=by omega
  subst this;exact Bk.no (x:=bs [91]) hF (Bk.ret _)
def q3q {o q:BA}(h1:x3r (tb o)=true)(h2:x9a q=true):Bk l (u1o l) (fm (onP o q)) F (o,q):=fun i ha hf hl=>by
 unfold u1o;rw[v1m h1 h2 ha trivial]
def v8f (hE:EnN ens){d:Dc}(h:x3y ens d=true)(hF: ∀x,F x=true->nT x [91]=true/\nT x y3l=true):Bk l (v6u l ens) (dcT ens d) F d:=by
 obtain⟨dn,k,e,c,o,q⟩:=d;unfold x3y at h;simp only[a0g,Bool.or_eq_true]at h;obtain⟨⟨h1,h2⟩,h3⟩:=h;refine Bk.tok (t:=⟨1,tb dn,0⟩) rfl (fun _=>(x3b h1).2) fun y hy=> ?_
 have e1:y.s=dn:=x3f (congrArg T.b hy);rw[e1];refine Bk.bind (G:=tt) (Bk.j1r rfl) ?_ x6h
 by_cases ho:tb o= []
 ·have hb:o=bs []:=x3f ho;have hq:q=bs []:=by
   rcases h3 with h3|⟨h3,_⟩
   ·unfold v1d at h3;simp only[a0g,a0u]at h3;exact x3f h3.2
   ·rw[show tb o= []from ho]at h3;cases h3
  subst hb hq;have eo:q6a (bs []) (bs [])= []:=rfl;rw[eo];refine Bk.bind (G:=fun t=>nT t [91]) (k1x hE h2 fun x hx=>hx) ?_ (fun x hx=>(hF x hx).1)
  exact Bk.no (x:=bs [119,104,101,110]) (fun x hx=>(hF x hx).2) (Bk.ret _)
 ·have h4:x3r (tb o)=true/\x9a q=true:=by
   rcases h3 with h3|h3
   ·unfold v1d at h3;simp only[a0g,a0u]at h3;exact absurd h3.1 ho
   ·exact h3
  have eo:q6a o q=⟨1,y3l,0⟩::(fm (onP o q)++[]):=by unfold q6a;rw[if_neg ho]
  rw[eo];refine Bk.bind (G:=fun t=>nT t [91]) (k1x hE h2 fun x hx=>hx) ?_ rfl
  exact Bk.yes (x:=bs [119,104,101,110]) rfl (Bk.bind (G:=tt) (q3q h4.1 h4.2) (Bk.ret _) x6h)
def x8z (ens:List En):List Dc->List T
 | []=>[]
 |d::r=>⟨5,[59],0⟩::(dcT ens d++x8z ens r)
def y1c (ens:List En):List Dc->List T
 | []=>[]
 |d::r=>dcT ens d++x8z ens r
def fD (t:T):Bool:=nT t [91]&&nT t y3l
def v6h: ∀x,fD x=true->nT x [91]=true/\nT x y3l=true:=fun x h=>by simpa[fD]using h
def u7b (ens:List En): ∀r:List Dc,r.length<=(x8z ens r).length
 | []=>a0q _
 |d::r=>by have:=u7b ens r;simp only[x8z,a0b,a0j];omega
def v6i {r:List Dc}{i:Nat}(ha:Az l i (x8z ens r))(hf:fD (tkT (tkA l (i+(x8z ens r).length)))=true):fD (tkT (tkA l i))=true:=by
 match r,ha,hf with
 | [],_,hf=>exact hf
 |d::r,ha,_=>rw[ha.1];rfl
def z0q (hE:EnN ens)(last:Bool): ∀(r:List Dc) (k:Nat) (acc:List Dc) (i:Nat),r.length<=k->(∀d∈r,x3y ens d=true)->Az l i (x8z ens r)->fD (tkT (tkA l (i+(x8z ens r).length)))=true->
  y1u l last (i+(x8z ens r).length)= .ok false (i+(x8z ens r).length)->i+(x8z ens r).length < l.length->y2c l ens last k acc i= .ok (acc++r) (i+(x8z ens r).length)
 | [],0,acc,i,_,_,_,_,_,_=>by rw[a0y];rfl
 | [],k+1,acc,i,_,_,_,_,hm,_=>by
   have hm:y1u l last i= .ok false i:=hm;rw[a0y,y2c];unfold RM.bind;rw[hm];rfl
 |d::r,0,_,_,h,_,_,_,_,_=>absurd h (by simp)
 |d::r,k+1,acc,i,h,ho,ha,hf,hm,hl=>by
  have hd:=ho d a0v;obtain⟨a1,a2⟩:=x1d.1 (show Az l i (⟨5,[59],0⟩::(dcT ens d++x8z ens r))from ha);have e0:i+(x8z ens (d::r)).length=i+1+(dcT ens d).length+(x8z ens r).length:=by simp only[x8z,a0b,a0j];omega
  rw[e0]at hf hm hl ⊢;obtain⟨a3,a4⟩:=x2q.1 a2;have hmore:y1u l last i= .ok true (i+1):=by
   have hn:isT l (i+1) v9g=false:=by
    refine x7c ?_;rw[show tkT (tkA l (i+1))=⟨1,tb d.n,0⟩from a2.1];unfold x3y at hd;simp only[a0g]at hd;exact u5w (x3b hd.1.1).2 rfl
   unfold y1u;rw[y9i,a1,hn,Bool.and_false];rfl
  have hdec:=v8f (l:=l) hE hd v6h (i+1) a3 (v6i a4 hf) (by omega)
  rw[y2c];unfold RM.bind;rw[hmore];simp only[hdec];rw[z0q hE last r k (acc++[d]) _ (by simpa using h) (fun x hx=>ho x (a0w _ hx)) a4 hf hm hl,List.append_assoc]
  rfl
def z0p (hE:EnN ens)(last:Bool){r:List Dc}(h0:r≠[])(ho: ∀d∈r,x3y ens d=true){i:Nat}(ha:Az l i (y1c ens r))(hf:fD (tkT (tkA l (i+(y1c ens r).length)))=true)
  (hm:y1u l last (i+(y1c ens r).length)= .ok false (i+(y1c ens r).length)) (hl:i+(y1c ens r).length < l.length):y6c l ens last i= .ok r (i+(y1c ens r).length):=by
 obtain⟨d,r,rfl⟩:=List.exists_cons_of_ne_nil h0;have ha:Az l i (dcT ens d++x8z ens r):=ha;obtain⟨a1,a2⟩:=x2q.1 ha;have e0:i+(y1c ens (d::r)).length=i+(dcT ens d).length+(x8z ens r).length:=by simp only[y1c,a0j];omega
 rw[e0]at hf hm hl ⊢;have hdec:=v8f (l:=l) hE (ho d a0v) v6h i a1 (v6i a2 hf) (by omega)
 have:=u7b ens r;unfold y6c RM.bind;rw[hdec];exact z0q hE last r l.length [d] _ (by omega) (fun x hx=>ho x (a0w _ hx)) a2 hf hm hl
def u7w (hE:EnN ens){r:List Dc}(h0:r≠[])(ho: ∀d∈r,x3y ens d=true):Bk l (y6c l ens false) (y1c ens r) (fun t=>fD t&&nT t [59]) r:=fun i ha hf hl=>by
 simp only[a0g]at hf;refine z0p hE false h0 ho ha hf.1 ?_ hl;have:=x7c (w:=bs [59]) hf.2;unfold y1u;rw[this];rfl
end
def w1f:List Nat:=[114,101,116,117,114,110,115]
def q6d:List Nat:=[118,97,114]
def u9p:List Nat:=[116,101,108]
def u2w:List Nat:=[101,110,117,109]
def z8u:List Nat:=[110,111,100,101]
section
variable {l : List Tk} {ens : List En} {F : T -> Bool}
def q3t {e:Ex}(h:y1y e=true)(hm:x3k e=true):Bk l (z5v l) (fm (pcs e)) (fun t=>foB .arrow t) e:=fun i ha hf hl=>by
 obtain⟨g,st⟩:=u6n (l:=l) e h;have hev:=x8d g st .arrow (by simp) ha hf
 have hread:y4l l i= .ok e (i+tL e):=by
  unfold y4l;refine hev _ ?_;have:i+tL e < l.length:=hl;unfold fuel;omega
 unfold z5v;rw[hread];simp only[hm,h,Bool.not_true,cond_false];rfl
def eqT (x:Eqn):List T:=y9b 1 x.ns++([⟨5,[61],0⟩]++(fm (pcs x.e)++([⟨5,[59],0⟩]++[])))
def u9l {n:Int}{r:List BA}(h0:r≠[]){t2:List T}{F G:T->Bool}(h: ∀x∈r,G ⟨n,tb x,0⟩=true):nxt (y9b n r++t2) F G:=by
 obtain⟨x,r,rfl⟩:=List.exists_cons_of_ne_nil h0;exact h x a0v
def y3r {x:Eqn}(h:eqB x=true):x.ns≠[]/\x3k x.e=true/\y1y x.e=true/\ ∀s∈x.ns,x3r (tb s)=true:=by
 unfold eqB at h;simp only[a0g,Bool.not_eq_true',decide_eq_false_iff_not,a0l]at h;refine⟨fun e=>h.1.1.1 (by rw[e];rfl),h.1.1.2.1,h.1.1.2.2,h.2⟩
def k6z {x:Eqn}(h:eqB x=true):Bk l (eqR l) (eqT x) F x:=by
 obtain⟨h1,h2,h3,h4⟩:=y3r h;refine Bk.bind (u7v 1 h1 fun s hs _=>(x3b (h4 s hs)).2) ?_ rfl
 refine Bk.bind (G:=tt) (Bk.j1r rfl) ?_ x6h;refine Bk.bind (q3t h3 h2) ?_ rfl;refine Bk.bind (G:=tt) (Bk.j1r rfl) ?_ x6h;exact Bk.ret _
def q1t:List Eqn->List T
 | []=>[⟨1,u9p,0⟩]
 |x::r=>eqT x++q1t r
def q1u {x:Eqn}(h:eqB x=true){t2:List T}:nxt (eqT x++t2) F fun t=>nT t u9p:=by
 obtain⟨h1,_,_,h4⟩:=y3r h;unfold eqT;rw[List.append_assoc];exact u9l h1 fun s hs=>u5w (x3b (h4 s hs)).2 rfl
def u6w: ∀r:List Eqn,r.length < (q1t r).length
 | []=>Nat.zero_lt_one
 |x::r=>by
  have:=u6w r;simp only[q1t,eqT,a0j,a0b];omega
def v8e: ∀(r:List Eqn) (k:Nat) (acc:List Eqn),r.length < k->(∀x∈r,eqB x=true)->Bk l (q6g l k acc) (q1t r) F (acc++r)
 |_,0,_,h,_=>absurd h (by simp)
 | [],k+1,acc,_,_=>by
   rw[a0y];exact Bk.yes (x:=bs [116,101,108]) rfl (Bk.ret acc)
 |x::r,k+1,acc,h,ho=>by
  have hx:=ho x a0v;refine Bk.no (x:=bs [116,101,108]) (q1u hx) (Bk.bind (G:=tt) (k6z hx) ?_ x6h);have:=v8e r k (acc++[x]) (by simpa using h) fun z hz=>ho z (a0w _ hz)
  rw[List.append_assoc]at this;exact this
def k3c (ens:List En)(d:List Dc):List T:=match d with
 | []=>[⟨5,[41],0⟩]
 |d::r=>y1c ens (d::r)++([⟨5,[41],0⟩]++[])
def v9k (ens:List En)(d:List Dc):List T:=match d with
 | []=>[]
 |d::r=>⟨1,q6d,0⟩::(y1c ens (d::r)++([⟨5,[59],0⟩]++[]))
def u0g {d:Dc}(h:x3y ens d=true):x3r (tb d.n)=true:=by
 unfold x3y at h;simp only[a0g]at h;exact h.1.1
def k1y (hE:EnN ens){d:List Dc}(ho: ∀x∈d,x3y ens x=true):Bk l (k3d l ens) (k3c ens d) F d:=by
 match d,ho with
 | [],_=>exact Bk.yes (x:=bs [41]) rfl (Bk.ret [])
 |d::r,ho=>
  have h1:nT ⟨1,tb d.n,0⟩ [41]=true:=by
   have:=u0g (ho d a0v);unfold nT y6n;rw[decide_eq_false fun e=>by rw[show tb d.n= [41]from e]at this;cases this];rfl
  refine Bk.no (x:=bs [41]) h1 (Bk.bind (u7w hE (by simp) ho) ?_ rfl)
  exact Bk.bind (G:=tt) (Bk.j1r rfl) (Bk.ret _) x6h
def q3r (hE:EnN ens){d:List Dc}(ho: ∀x∈d,x3y ens x=true):Bk l (v9m l ens) (v9k ens d) (fun t=>y6n t u9q) d:=by
 match d,ho with
 | [],_=>
   refine Bk.no (x:=bs [118,97,114]) (fun x hx=> ?_) (Bk.ret [])
   unfold y6n at hx;simp only[a0g,a0u]at hx;have:nT x [118,97,114]=true:=by
    unfold nT y6n;rw[hx.1];rfl
   exact this
 |d::r,ho=>
  refine Bk.yes (x:=bs [118,97,114]) rfl fun i ha hf hl=> ?_
  simp only[a0j,a0b,a0e]at hf hl ⊢;obtain⟨a1,a2⟩:=x2q.1 ha;have a2:tkT (tkA l (i+(y1c ens (d::r)).length))=⟨5,[59],0⟩:=a2.1;have hd:=z0p (l:=l) hE true (r:=d::r) (by simp) ho a1 (by rw[a2];rfl) (by
   have h1:isT l (i+(y1c ens (d::r)).length+1) v9g=true:=by
    rw[y9i];exact hf
   unfold y1u;rw[h1,y9i,a2];rfl) (by omega)
  unfold RM.bind;rw[hd];simp only;unfold x6l x2b;rw[y9i,a2];rfl
def w0t (ens:List En)(n:Nd):List T:=⟨1,tb n.n,0⟩::([⟨5,[40],0⟩]++(k3c ens n.ins++([⟨1,w1f,0⟩,⟨5,[40],0⟩]++(y1c ens n.outs++([⟨5,[41],0⟩]++(v9k ens n.vars++([⟨1,u9q,0⟩]++(q1t n.eqs++[]))))))))
structure NodeK (ens:List En) (n:Nd):Prop where
 nm:x3r (tb n.n)=true
 ins: ∀x∈n.ins,x3y ens x=true
 outs: ∀x∈n.outs,x3y ens x=true
 o0:n.outs≠[]
 vars: ∀x∈n.vars,x3y ens x=true
 eqs: ∀x∈n.eqs,eqB x=true
def y1m {n:Nd}(h:y0u ens n=true):NodeK ens n:=by
 unfold y0u y2e at h;simp only[a0g,a0l,a1k,a0u]at h;obtain⟨h1,_,_,h2,h3,h4⟩:=h;exact⟨h3,fun x hx=>h1 x (.inl (.inl hx)),fun x hx=>h1 x (.inl (.inr hx)),(fun e=>by rw[e]at h4;cases h4),fun x hx=>h1 x (.inr hx),h2⟩
def q3s (hE:EnN ens){n:Nd}(h:NodeK ens n):Bk l (w0u l ens) (w0t ens n) F n:=by
 refine Bk.tok (t:=⟨1,tb n.n,0⟩) rfl (fun _=>(x3b h.nm).2) fun y hy=> ?_
 have e1:y.s=n.n:=x3f (congrArg T.b hy);rw[e1];refine Bk.bind (G:=tt) (Bk.j1r rfl) ?_ x6h;refine Bk.bind (G:=tt) (k1y hE h.ins) ?_ x6h;refine Bk.bind (G:=tt) (Bk.j1r rfl) ?_ x6h;refine Bk.bind (u7w hE h.o0 h.outs) ?_ rfl;refine Bk.bind (G:=tt) (Bk.j1r rfl) ?_ x6h;refine Bk.bind (q3r hE h.vars) ?_ rfl;refine Bk.bind (G:=tt) (Bk.j1r rfl) ?_ x6h;refine Bk.fuel fun hl=> ?_
 have:=u6w n.eqs;refine Bk.bind (G:=tt) (v8e n.eqs l.length [] (by simp only[a0j]at hl;omega) h.eqs) ?_ x6h
 exact Bk.ret _
def v6p:List En->List T
 | []=>[]
 |e::r=>⟨1,u2w,0⟩::(enT e++v6p r)
def v9a (ens:List En):List Nd->List T
 | []=>[]
 |n::r=>⟨1,z8u,0⟩::(w0t ens n++v9a ens r)
def u6z: ∀r:List En,r.length<=(v6p r).length
 | []=>a0q _
 |e::r=>by have:=u6z r;simp only[v6p,a0b,a0j];omega
def u5v: ∀r:List Nd,r.length<=(v9a ens r).length
 | []=>a0q _
 |n::r=>by have:=u5v r;simp only[v9a,a0b,a0j];omega
def u0z: ∀(r:List En) (k:Nat) (acc:List En),r.length<=k->(∀e∈r,x4r (tb e.1)=false/\e.2≠[])->Bk l (y6b l k acc) (v6p r) (fun t=>nT t u2w) (acc++r)
 | [],0,acc,_,_=>by rw[a0y];exact Bk.ret acc
 | [],k+1,acc,_,_=>by
   rw[a0y];exact Bk.no (x:=bs [101,110,117,109]) (fun _ h=>h) (Bk.ret acc)
 |e::r,0,_,h,_=>absurd h (by simp)
 |e::r,k+1,acc,h,ho=>by
  have he:=ho e a0v;refine Bk.yes (x:=bs [101,110,117,109]) rfl (Bk.bind (q3u he.1 he.2) ?_ x6h);have:=u0z r k (acc++[e]) (by simpa using h) fun z hz=>ho z (a0w _ hz)
  rw[List.append_assoc]at this;exact this
def u0x (hE:EnN ens): ∀(r:List Nd) (k:Nat) (acc:List Nd),r.length<=k->(∀n∈r,NodeK ens n)->Bk l (y9a l ens k acc) (v9a ens r) (fun t=>nT t z8u) (acc++r)
 | [],0,acc,_,_=>by rw[a0y];exact Bk.ret acc
 | [],k+1,acc,_,_=>by
   rw[a0y];exact Bk.no (x:=bs [110,111,100,101]) (fun _ h=>h) (Bk.ret acc)
 |n::r,0,_,h,_=>absurd h (by simp)
 |n::r,k+1,acc,h,ho=>by
  refine Bk.yes (x:=bs [110,111,100,101]) rfl (Bk.bind (G:=tt) (q3s hE (ho n a0v)) ?_ x6h);have:=u0x hE r k (acc++[n]) (by simpa using h) fun z hz=>ho z (a0w _ hz)
  rw[List.append_assoc]at this;exact this
def y6j (ens:List En)(nds:List Nd):List T:=v6p ens++v9a ens nds
def k0w {t:T}(h:t.k=6)(w:List Nat):nT t w=true:=by
 unfold nT y6n;rw[h];simp
def v3o (hE:EnN ens){nds:List Nd}(h1: ∀e∈ens,e.2≠[])(h2: ∀n∈nds,NodeK ens n)(ha:Az l 0 (y6j ens nds))(hk:(tkA l (y6j ens nds).length).k=6)(hl:(y6j ens nds).length < l.length):y6k l 0= .ok (ens,nds) (y6j ens nds).length:=by
 obtain⟨a1,a2⟩:=x2q.1 (show Az l 0 (v6p ens++v9a ens nds)from ha);have e0:(y6j ens nds).length=(v6p ens).length+(v9a ens nds).length:=by simp[y6j]
 rw[e0]at hk hl ⊢;rw[a1y]at a2;have l1:=u6z ens;have l2:=u5v (ens:=ens) nds;have r1:=u0z (l:=l) ens l.length [] (by omega) (fun e he=>⟨(x3b (hE.lo e he)).2,h1 e he⟩) 0 a1 (by
  rw[a1y]
  match nds,a2,hk with
  | [],_,hk=>exact k0w (show(tkT (tkA l (v6p ens).length)).k=6 from hk) _
  |n::r,a2,_=>rw[a2.1];rfl) (by omega)
 rw[a1y,a0h]at r1;have r2:=u0x (l:=l) hE nds l.length [] (by omega) h2 _ a2 (k0w (show(tkT (tkA l ((v6p ens).length+(v9a ens nds).length))).k=6 from hk) _) hl
 rw[a0h]at r2;unfold y6k RM.bind;rw[r1];simp only[r2];unfold w5l;rw[hk];rfl
end
def u9j (n:Int)(r:List BA):Pc:=x1w (r.map fun x=>[some ⟨n,tb x,0⟩])
def lnP (c:Int):Pc:=if 0 < c then[mk 91,some ⟨3,y0i c.toNat,c⟩,mk 93]else[]
def tyP (ens:List En)(k e c:Int):Pc:=some (u4b ens k e)::lnP c
def whP (o q:BA):Pc:=if tb o= []then[]else none::wd y3l::none::onP o q
def dcP (ens:List En)(d:Dc):Pc:=wd (tb d.n)::mk 58::none::(tyP ens d.k d.e d.c++whP d.o d.q)
def w5s (ens:List En):List Dc->Pc
 | []=>[]
 |d::r=>mk 59::none::(dcP ens d++w5s ens r)
def dsP (ens:List En):List Dc->Pc
 | []=>[]
 |d::r=>dcP ens d++w5s ens r
def vrP (ens:List En):List Dc->Pc
 | []=>[]
 |d::r=>wd q6d::none::(dsP ens (d::r)++[mk 59,none])
def eqP (x:Eqn):Pc:=none::none::(u9j 1 x.ns++(none::mk 61::none::(pcs x.e++[mk 59,none])))
def u3o:List Eqn->Pc
 | []=>[wd u9p,none]
 |x::r=>eqP x++u3o r
def ndP (ens:List En)(n:Nd):Pc:=wd z8u::none::wd (tb n.n)::mk 40::(dsP ens n.ins++(mk 41::none::wd w1f::none::mk 40::(dsP ens n.outs++(mk 41::none::(vrP ens n.vars++(wd u9q::none::u3o n.eqs))))))
def enP (e:En):Pc:=wd u2w::none::wd (tb e.1)::none::mk 123::none::(u9j 2 e.2++[none,mk 125,mk 59,none])
def v9d:List En->Pc
 | []=>[]
 |e::r=>enP e++v9d r
def v9b (ens:List En):List Nd->Pc
 | []=>[]
 |n::r=>ndP ens n++v9b ens r
def pgP (ens:List En)(nds:List Nd):Pc:=v9d ens++v9b ens nds
def v5y (n:Int): ∀r:List BA,fm (y4c (r.map fun x=>[some ⟨n,tb x,0⟩]))=w7i n r
 | []=>rfl
 |x::r=>by
  have:=v5y n r;simp only[a1o,y4c,mk,x2a,x2r,a0d,a0h,w7i,this]
def w5g (n:Int)(r:List BA):fm (u9j n r)=y9b n r:=by
 match r with
 | []=>rfl
 |x::r=>
  have:=v5y n r;simp only[u9j,a1o,x1w,x2a,a0d,a0h,y9b,this]
def k5x (ens:List En)(k e c:Int):fm (tyP ens k e c)=q6r ens k e c:=by
 unfold tyP lnP q6r w8f;split<;>rfl
def k5v (o q:BA):fm (whP o q)=q6a o q:=by
 unfold whP q6a;split
 ·rfl
 ·simp only[wd,x2r,x2a,a0y]
def k0s (ens:List En)(d:Dc):fm (dcP ens d)=dcT ens d:=by
 simp only[dcP,dcT,wd,mk,x2a,x2r,x2g,k5x,k5v,a0d,a0h]
def w5k (ens:List En): ∀r:List Dc,fm (w5s ens r)=x8z ens r
 | []=>rfl
 |d::r=>by simp only[w5s,x8z,mk,x2a,x2r,x2g,k0s,w5k ens r]
def k0r (ens:List En)(r:List Dc):fm (dsP ens r)=y1c ens r:=by
 match r with
 | []=>rfl
 |d::r=>simp only[dsP,y1c,x2g,k0s,w5k]
def k5w (ens:List En)(r:List Dc):fm (vrP ens r)=v9k ens r:=by
 match r with
 | []=>rfl
 |d::r=>simp only[vrP,v9k,wd,mk,x2g,x2a,x2r,x5x,k0r,a0y]
def k0q (x:Eqn):fm (eqP x)=eqT x:=by
 simp only[eqP,eqT,mk,x2g,x2a,x2r,x5x,w5g,a0y,a0d,a0h]
def w5i: ∀r:List Eqn,fm (u3o r)=q1t r
 | []=>rfl
 |x::r=>by simp only[u3o,q1t,x2g,k0q,w5i r]
def w8t (ens:List En)(d:List Dc)(X:List T):y1c ens d++⟨5,[41],0⟩::X=k3c ens d++X:=by
 match d with
 | []=>rfl
 |d::r=>simp only[k3c,List.append_assoc,a0d,a0h,a0y]
def k5z (ens:List En)(n:Nd):fm (ndP ens n)=⟨1,z8u,0⟩::w0t ens n:=by
 simp only[ndP,w0t,wd,mk,x2g,x2a,x2r,k0r,k5w,w5i,w8t,a0y,a0d,a0h]
def k6a (e:En):fm (enP e)=⟨1,u2w,0⟩::enT e:=by
 simp only[enP,enT,wd,mk,x2g,x2a,x2r,x5x,w5g,a0y,a0d,a0h]
def w5j: ∀r:List En,fm (v9d r)=v6p r
 | []=>rfl
 |e::r=>by simp only[v9d,v6p,x2g,k6a,w5j r,a0d]
def w5h (ens:List En): ∀r:List Nd,fm (v9b ens r)=v9a ens r
 | []=>rfl
 |n::r=>by simp only[v9b,v9a,x2g,k5z,w5h ens r,a0d]
def k5y (ens:List En)(nds:List Nd):fm (pgP ens nds)=y6j ens nds:=by
 simp only[pgP,y6j,x2g,w5j,w5h]
structure CP (p:Pc):Prop where
 ok:okP p
 ch: ∀d,edB d=true->x2y d p=true
def NP (p:Pc):Prop:= ∀d,edB d=true->x0w (hd d p)=false
def EP (p:Pc):Prop:= ∀d,edB d=true->edB (hd d p)=true
def EP.np {p:Pc}(h:EP p):NP p:=fun d hd'=>x4h (h d hd')
def CP.app {p q:Pc}(h1:CP p)(h2:CP q)(h:EP q):CP (p++q):=⟨(x2x _ _).2 ⟨h1.ok,h2.ok⟩,fun d hd'=>by rw[x1f,h1.ch _ (h d hd'),h2.ch d hd'];rfl⟩
def CP.nil:CP []:=⟨trivial,fun _ _=>rfl⟩
def CP.blank {p:Pc}(h:CP p):CP (none::p):=⟨h.ok,h.ch⟩
def y1g {p:Pc}{c:Nat}(hc:u2h.contains c=true)(h:CP p)(ha: ∀d,edB d=true->ajB ⟨5,[c],0⟩ (hd d p)=true):CP (mk c::p):=⟨⟨u4k hc,h.ok⟩,fun d hd'=>by rw[x9t,ha d hd',h.ch d hd'];rfl⟩
def CP.word {p:Pc}{b:List Nat}(hb:T.OK ⟨1,b,0⟩)(h:CP p)(hn:NP p):CP (wd b::p):=⟨⟨hb,h.ok⟩,fun d hd'=>by rw[z2e,hn d hd',h.ch d hd'];rfl⟩
def v8z:EP []:=fun _ h=>h
def x7k (p:Pc):EP (none::p):=fun _ _=>rfl
def v1f {c:Nat}(hc:edB c=true)(p:Pc):EP (mk c::p):=fun _ _=>hc
def k2v {c:Nat}(hc:x0w c=false)(p:Pc):NP (mk c::p):=fun _ _=>hc
def EP.app {p q:Pc}(h1:EP p)(h2:EP q):EP (p++q):=fun d hd'=>by rw[x7o];exact h1 _ (h2 d hd')
def q5s {r:List BA}(h: ∀x∈r,x3r (tb x)=true):CP (u9j 1 r):=by
 have:=z1m (t:=r.map fun x=>[some ⟨1,tb x,0⟩]) fun p hp=>by
  obtain⟨x,hx,rfl⟩:=a1z.1 hp;exact⟨⟨y4b (h x hx),trivial⟩,fun d hd'=>by show(!x0w (hd d [])&&true)=true;rw[w4v,x4h hd'];rfl,fun d=>v4j (h x hx) d []⟩
 exact⟨this.1,this.2⟩
def q5r {r:List BA}(h: ∀x∈r,x3h (tb x)=true):CP (u9j 2 r):=by
 have:=z1m (t:=r.map fun x=>[some ⟨2,tb x,0⟩]) fun p hp=>by
  obtain⟨x,hx,rfl⟩:=a1z.1 hp;exact⟨⟨u4l (h x hx),trivial⟩,fun d hd'=>by show(!x0w (hd d [])&&true)=true;rw[w4v,x4h hd'];rfl,fun d=>v4y (h x hx) d []⟩
 exact⟨this.1,this.2⟩
def k7p {o q:BA}(hs:x3r (tb o)=true)(ha:x9a q=true):CP (onP o q):=by
 refine⟨(k2s hs ha).1,fun d hd'=> ?_⟩
 have hi:=x4h hd';unfold onP;split
 ·show(!x0w d&&true)=true;rw[hi];rfl
 ·split
  ·show(!x0w 32&&(!x0w d&&true))=true;rw[hi];rfl
  ·rw[v6z];show(!x0w 40&&(ajB ⟨5,[40],0⟩ _&&(!x0w 41&&(ajB ⟨5,[41],0⟩ d&&true))))=true;rw[u1l,u1k];rfl
section
variable {ens : List En}
def k6w (hE:EnN ens){k e c:Int}(h:tyB ens k e c=true):T.OK (u4b ens k e):=by
 unfold tyB at h;simp only[a0g]at h;obtain⟨_,h⟩:=h
 by_cases h3:k=3
 ·subst h3;have h:(decide (0<=e)&&decide (e < (ens.length:Int)))=true:=by simpa using h
  simp only[a0g,a0u]at h;obtain⟨n,rfl⟩: ∃n:Nat,e=(n:Int):=⟨e.toNat,by omega⟩
  have hn:n < ens.length:=by omega
  have hx:ens[n]? =some ens[n]:=a0a hn;unfold u4b nmE;simp only[a0n,hx,if_true];exact y4b (hE.lo _ (a1i hn))
 ·unfold u4b;rw[if_neg h3];split
  ·exact y1z rfl rfl
  ·exact y1z rfl rfl
def k4z {c:Int}(hc:c<=8):CP (lnP c)/\EP (lnP c):=by
 unfold lnP;split
 ·rename_i h0;refine⟨⟨⟨u4k rfl,w6c (by omega) (by omega),u4k rfl,trivial⟩,fun d hd'=> ?_⟩,v1f rfl _⟩
  rw[x9t,k1f,x9t,k3s,y1v,k3r];rfl
 ·exact⟨CP.nil,v8z⟩
def k3y (hE:EnN ens){k e c:Int}(h:tyB ens k e c=true):CP (tyP ens k e c):=by
 have hc:c<=8:=by
  unfold tyB at h;simp only[a0g,Bool.not_eq_true',Bool.or_eq_false_iff,decide_eq_false_iff_not]at h;omega
 obtain⟨h1,h2⟩:=k4z hc;exact CP.word (k6w hE h) h1 h2.np
def k3u {d:Dc}(h:x3y ens d=true):CP (whP d.o d.q)/\EP (whP d.o d.q):=by
 unfold x3y at h;simp only[a0g,Bool.or_eq_true]at h;unfold whP;split
 ·exact⟨CP.nil,v8z⟩
 ·rename_i ho;have h4:x3r (tb d.o)=true/\x9a d.q=true:=by
   rcases h.2 with h3|h3
   ·unfold v1d at h3;simp only[a0g,a0u]at h3;exact absurd h3.1 ho
   ·exact h3
  exact⟨CP.blank (CP.word (y1z rfl rfl) (CP.blank (k7p h4.1 h4.2)) (x7k _).np),x7k _⟩
def k1b (hE:EnN ens){d:Dc}(h:x3y ens d=true):CP (dcP ens d):=by
 obtain⟨h1,h2⟩:=k3u h;have h3:=u0g h;unfold x3y at h;simp only[a0g]at h;exact CP.word (y4b h3) (y1g rfl (CP.blank (CP.app (k3y hE h.1.2) h1 h2)) fun _ _=>rfl) (k2v rfl _)
def w5r (hE:EnN ens): ∀ {r:List Dc},(∀d∈r,x3y ens d=true)->CP (w5s ens r)/\EP (w5s ens r)
 | [],_=>⟨CP.nil,v8z⟩
 |d::r,h=>by
  obtain⟨h1,h2⟩:=w5r hE (r:=r) fun x hx=>h x (a0w _ hx)
  exact⟨y1g rfl (CP.blank (CP.app (k1b hE (h d a0v)) h1 h2)) (fun _ _=>z2h (by decide)),v1f rfl _⟩
def q2a (hE:EnN ens){r:List Dc}(h: ∀d∈r,x3y ens d=true):CP (dsP ens r):=by
 match r,h with
 | [],_=>exact CP.nil
 |d::r,h=>
  obtain⟨h1,h2⟩:=w5r hE (r:=r) fun x hx=>h x (a0w _ hx)
  exact CP.app (k1b hE (h d a0v)) h1 h2
def k0x:CP [mk 59,none]:=y1g rfl (CP.blank CP.nil) fun _ _=>z2h (by decide)
def k3w (hE:EnN ens){r:List Dc}(h: ∀d∈r,x3y ens d=true){X:Pc}(hX:CP X):CP (vrP ens r++X):=by
 match r,h with
 | [],_=>exact hX
 |d::r,h=>
  have:vrP ens (d::r)++X=wd q6d::none::(dsP ens (d::r)++(mk 59::none::X)):=by simp only[vrP,a0d,List.append_assoc,a0h]
  rw[this];exact CP.word (y1z rfl rfl) (CP.blank (CP.app (q2a hE h) (y1g rfl (CP.blank hX) fun _ _=>z2h (by decide)) (v1f rfl _))) (x7k _).np
def w5o {x:Eqn}(h:eqB x=true)(hr:x.e.rng):CP (eqP x):=by
 obtain⟨_,_,h3,h4⟩:=y3r h;have hp:=w6b x.e h3 hr;exact CP.blank (CP.blank (CP.app (q5s h4) (CP.blank (y1g rfl (CP.blank (CP.app ⟨hp.ok,hp.ch⟩ k0x (v1f rfl _))) fun _ _=>rfl)) (x7k _)))
def w5n: ∀ {r:List Eqn},(∀x∈r,eqB x=true/\x.e.rng)->CP (none::u3o r)
 | [],_=>CP.blank (CP.word (y1z rfl rfl) (CP.blank CP.nil) (x7k _).np)
 |x::r,h=>by
  have h1:=h x a0v;have h2:=w5n (r:=r) fun y hy=>h y (a0w _ hy)
  refine CP.blank ⟨(x2x _ _).2 ⟨(w5o h1.1 h1.2).ok,h2.ok⟩,fun d hd'=> ?_⟩
  have e:eqP x=(none::none::(u9j 1 x.ns++(none::mk 61::none::(pcs x.e++[mk 59]))))++[none]:=by simp only[eqP,a0d,List.append_assoc,a0h]
  have h3:=h2.ch d hd';rw[x5n]at h3;show x2y d (eqP x++u3o r)=true;rw[e,List.append_assoc,x1f];have h4:=(w5o h1.1 h1.2).ch 0 rfl;rw[e,x1f,a0g]at h4;rw[show hd d ([none]++u3o r)=hd 0 [none]from rfl,h4.1];exact h3
def k4x (hE:EnN ens){n:Nd}(h:NodeK ens n)(hr: ∀x∈n.eqs,x.e.rng):CP (ndP ens n):=by
 have h5:=w5n fun x hx=>⟨h.eqs x hx,hr x hx⟩
 have h4:CP (wd u9q::none::u3o n.eqs):=CP.word (y1z rfl rfl) h5 (x7k _).np;have h3:=k3w hE h.vars h4;have h2:CP (dsP ens n.outs++(mk 41::none::(vrP ens n.vars++(wd u9q::none::u3o n.eqs)))):=CP.app (q2a hE h.outs) (y1g rfl (CP.blank h3) fun _ _=>u1k _) (v1f rfl _)
 have h1:=CP.app (q2a hE h.ins) (q:=mk 41::none::wd w1f::none::mk 40::(dsP ens n.outs++(mk 41::none::(vrP ens n.vars++(wd u9q::none::u3o n.eqs))))) (y1g rfl (CP.blank (CP.word (y1z rfl rfl) (CP.blank (y1g rfl h2 fun _ _=>u1l _)) (x7k _).np)) fun _ _=>u1k _) (v1f rfl _)
 exact CP.word (y1z rfl rfl) (CP.blank (CP.word (y4b h.nm) (y1g rfl h1 fun _ _=>u1l _) (k2v rfl _))) (x7k _).np
def k6g {e:En}(h1:x3r (tb e.1)=true)(h2: ∀c∈e.2,x3h (tb c)=true):CP (enP e):=by
 have h4:CP [none,mk 125,mk 59,none]:=CP.blank (y1g rfl k0x fun _ _=>z2h (by decide))
 exact CP.word (y1z rfl rfl) (CP.blank (CP.word (y4b h1) (CP.blank (y1g rfl (CP.blank (CP.app (q5r h2) h4 (x7k _))) fun _ _=>z2h (by decide))) (x7k _).np)) (x7k _).np
end
def q6j (e:En):Pc:=wd u2w::none::wd (tb e.1)::none::mk 123::none::(u9j 2 e.2++[none,mk 125,mk 59])
def k3h (x:Eqn):Pc:=none::none::(u9j 1 x.ns++(none::mk 61::none::(pcs x.e++[mk 59])))
def k2w (ens:List En)(r:List Dc):Pc:=wd q6d::none::(dsP ens r++[mk 59])
def q8p (ens:List En)(n:Nd):Pc:=wd z8u::none::wd (tb n.n)::mk 40::(dsP ens n.ins++(mk 41::none::wd w1f::none::mk 40::(dsP ens n.outs++[mk 41])))
def q6v (e:En):List Nat:=x0f (q6j e)++[10]
def q5w (x:Eqn):List Nat:=x0f (k3h x)++[10]
def y6h:List Eqn->List Nat
 | []=>[]
 |x::r=>q5w x++y6h r
def q6t (ens:List En)(r:List Dc):List Nat:=match r with
 | []=>[]
 |d::r=>x0f (k2w ens (d::r))++[10]
def q6u (ens:List En)(n:Nd):List Nat:=(x0f (q8p ens n)++[10])++(q6t ens n.vars++(u9q++([10]++(y6h n.eqs++(u9p++[10])))))
def z4g:List En->List Nat
 | []=>[]
 |e::r=>q6v e++z4g r
def z1p (ens:List En):List Nd->List Nat
 | []=>[]
 |n::r=>q6u ens n++z1p ens r
def k2x (ens:List En)(nds:List Nd):List Nat:=z4g ens++z1p ens nds
def w0e {p:Pc}:rnT (p++[none]) (x0f p++[10]):=x5z (x8n p) v2y
def k4l (e:En):rnT (enP e) (q6v e):=by
 have:enP e=q6j e++[none]:=by simp only[enP,q6j,a0d,List.append_assoc,a0h]
 rw[this];exact w0e
def k4k (x:Eqn):rnT (eqP x) (q5w x):=by
 have:eqP x=k3h x++[none]:=by simp only[eqP,k3h,a0d,List.append_assoc,a0h]
 rw[this];exact w0e
def w4l: ∀r:List Eqn,rnT (u3o r) (y6h r++(u9p++[10]))
 | []=>by
   show rnT ([wd u9p]++[none]) (u9p++[10]);exact x5z (x:=u9p) (x8n [wd u9p]) v2y
 |x::r=>by
  show rnT (eqP x++u3o r) ((q5w x++y6h r)++(u9p++[10]));rw[List.append_assoc];exact x5z (k4k x) (w4l r)
def k4i (ens:List En)(r:List Dc):rnT (vrP ens r) (q6t ens r):=by
 match r with
 | []=>rfl
 |d::r=>
  have:vrP ens (d::r)=k2w ens (d::r)++[none]:=by simp only[vrP,k2w,a0d,List.append_assoc,a0h]
  rw[this];exact w0e
def k4j (ens:List En)(n:Nd):rnT (ndP ens n) (q6u ens n):=by
 have:ndP ens n=(q8p ens n++[none])++(vrP ens n.vars++([wd u9q]++([none]++u3o n.eqs))):=by simp only[ndP,q8p,a0d,List.append_assoc,a0h]
 rw[this];exact x5z w0e (x5z (k4i ens n.vars) (x5z (p:=[wd u9q]) (x:=u9q) (x8n [wd u9q]) (x5z v2y (w4l n.eqs))))
def w4m: ∀r:List En,rnT (v9d r) (z4g r)
 | []=>rfl
 |e::r=>x5z (k4l e) (w4m r)
def w4k (ens:List En): ∀r:List Nd,rnT (v9b ens r) (z1p ens r)
 | []=>rfl
 |n::r=>x5z (k4j ens n) (w4k ens r)
def z9w {ens:List En}(h:x7s ens=0):EnN ens/\ ∀e∈ens,e.2≠[]/\ ∀c∈e.2,x3h (tb c)=true:=by
 unfold x7s at h;cases h1:x7p ens with
 |true=>rw[h1]at h;cases h
 |false=>
  cases h2:u6b ens&&y0y (x1q ens)with
  |false=>rw[h1,h2]at h;cases h
  |true=>
   cases h3:(!(decide (ens.map (·.1)).Nodup) || !(decide (x1q ens).Nodup))with
   |true=>rw[h1,h2,h3]at h;cases h
   |false=>
    simp only[Bool.or_eq_false_iff,Bool.not_eq_false',a0u]at h3;unfold u6b y0y x1q at h2;simp only[a0g,a0l,a0u,List.mem_flatMap]at h2;exact⟨⟨h3.1,fun e he=>(h2.1 e he).1⟩,fun e he=>⟨(fun h0=>by have:=(h2.1 e he).2;rw[h0]at this;cases this),fun c hc=>h2.2 c ⟨e,he,hc⟩⟩⟩
def z0w {ens:List En}{nds:List Nd}(h:y6r ens nds=0):x7s ens=0/\ ∀n∈nds,y0u ens n=true:=by
 unfold y6r at h
 by_cases h1:x7s ens=0
 ·refine⟨h1,?_⟩;rw[a0o h1]at h;simp only[Bool.not_true,cond_false]at h
  by_cases h2:(nds.length:Int)=0
  ·rw[a0o h2]at h;cases h
  ·rw[decide_eq_false h2]at h;simp only[cond_false]at h;cases h3:(decide (6 < (nds.length:Int)) || nds.any y5x)with
   |true=>rw[h3]at h;cases h
   |false=>
    rw[h3]at h;simp only[cond_false]at h;cases h4:nds.all (y0u ens)with
    |true=>exact a0l.1 h4
    |false=>rw[h4]at h;cases h
 ·rw[decide_eq_false h1]at h;simp only[a2f,cond_true]at h;exact absurd h h1
def u9b (s:BA)(ens:List En)(nds:List Nd)(hs:tb s=k2x ens nds)(hl:(tb s).length<=6000)(hc:y6r ens nds=0)(hr: ∀n∈nds,∀x∈n.eqs,x.e.rng):z7s s=((ens,nds),((tb s).length:Int),0):=by
 obtain⟨hc1,hc2⟩:=z0w hc;obtain⟨hE,hE2⟩:=z9w hc1;have hN: ∀n∈nds,NodeK ens n:=fun n hn=>y1m (hc2 n hn)
 have hOK: ∀r:List En,(∀e∈r,e∈ens)-> ∀X:Pc,okP X->x2y 0 X=true->(∀p:Pc,True)->okP (v9d r++X)/\x2y 0 (v9d r++X)=true:=by
  intro r
  induction r with
  |nil=>exact fun _ X h1 h2 _=>⟨h1,h2⟩
  |cons e r ih=>
   intro hr X h1 h2 h3;obtain⟨i1,i2⟩:=ih (fun x hx=>hr x (a0w _ hx)) X h1 h2 h3
   have he:=hr e a0v;have hcp:=k6g (hE.lo e he) (hE2 e he).2;have ee:enP e=q6j e++[none]:=by simp only[enP,q6j,a0d,List.append_assoc,a0h]
   have h4:=hcp.ch 0 rfl;rw[ee,x1f,a0g]at h4;show okP ((enP e++v9d r)++X)/\x2y 0 ((enP e++v9d r)++X)=true;rw[List.append_assoc];refine⟨(x2x _ _).2 ⟨hcp.ok,i1⟩,?_⟩;rw[ee,List.append_assoc,x1f,show hd 0 ([none]++(v9d r++X))=hd 0 [none]from rfl,h4.1];exact i2
 have hND: ∀r:List Nd,(∀n∈r,n∈nds)->okP (v9b ens r)/\x2y 0 (v9b ens r)=true:=by
  intro r
  induction r with
  |nil=>exact fun _=>⟨trivial,rfl⟩
  |cons n r ih=>
   intro hr';obtain⟨i1,i2⟩:=ih (fun x hx=>hr' x (a0w _ hx))
   have hn:=hr' n a0v;have hcp:=k4x hE (hN n hn) (hr n hn);have ee: ∀q:List Eqn,∃p:Pc,u3o q=p++[none]:=by
    intro q
    induction q with
    |nil=>exact⟨[wd u9p],rfl⟩
    |cons x q ih=>obtain⟨p,hp⟩:=ih;exact⟨eqP x++p,by rw[u3o,hp,List.append_assoc]⟩
   obtain⟨p,hp⟩:=ee n.eqs;have ee: ∃p:Pc,ndP ens n=p++[none]:=⟨wd z8u::none::wd (tb n.n)::mk 40::(dsP ens n.ins++(mk 41::none::wd w1f::none::mk 40::(dsP ens n.outs++(mk 41::none::(vrP ens n.vars++(wd u9q::none::p)))))),by
    simp only[ndP,hp,a0d,List.append_assoc]⟩
   obtain⟨p,hp⟩:=ee;have h4:=hcp.ch 0 rfl;rw[hp,x1f,a0g]at h4;refine⟨(x2x _ _).2 ⟨hcp.ok,i1⟩,?_⟩;show x2y 0 (ndP ens n++v9b ens r)=true;rw[hp,List.append_assoc,x1f,show hd 0 ([none]++v9b ens r)=hd 0 [none]from rfl,h4.1];exact i2
 obtain⟨n1,n2⟩:=hND nds fun _ h=>h
 obtain⟨o1,o2⟩:=hOK ens (fun _ h=>h) (v9b ens nds) n1 n2 fun _=>trivial
 obtain⟨t,q1,q2⟩:=u2s s (pgP ens nds) 0 (a0t _) (by rw[a2k,hs];exact x5z (w4m ens) (w4k ens nds)) (u2j.1 o1) o2
 rw[q1p,k5y]at q1;have hlen:t.length=(y6j ens nds).length:=by rw[<-q1,a1f]
 have ht:x9d s=t++[q6h s]:=by unfold x9d;rw[q2]
 have haz:Az (x9d s) 0 (y6j ens nds):=by
  have:=k2h (l:=[]) (b:=[q6h s]) q1;rw[ht];exact this
 have hend:tkA (x9d s) (y6j ens nds).length=q6h s:=by
  unfold tkA;rw[ht,a0i,<-hlen];simp
 have hL:(y6j ens nds).length+1=(x9d s).length:=by rw[ht,a0j,hlen];rfl
 have hp:=v3o (l:=x9d s) hE (nds:=nds) (fun e he=>(hE2 e he).1) hN haz (by rw[hend];rfl) (by omega)
 unfold z7s;rw[q2,decide_eq_false (by omega: ¬(6000:Int) < ((tb s).length:Int))]
 simp only[hp,hc,decide_true,Bool.not_true,cond_false]
end Go.Vm
end
section
set_option maxRecDepth 1000000
set_option maxHeartbeats 0
namespace Go.Vm
open Go.Proofs
noncomputable section
variable (A : Sy) (E : Env)
def g73 (e_0 e_1:Int)(e_2:BA)(e_3:Int)(e_4 e_5:LL):Option PRes:=zC E 118 [kE e_0 e_1 e_2 e_3 e_4 e_5] fun p1=>yB A p1 0 fun b3=>bif (A.bnot b3)then vL [.str (bs [])] else zC E 120 [kE e_0 e_1 e_2 e_3 e_4 e_5] fun p4=>yS A p4 0 fun s6=>vL [.str s6]
def q9f (e_0 e_1:Int)(e_2:BA)(e_3:Int)(e_4 e_5:LL):fT A E 73 [.agg [.d (.int .i64 e_0), .d (.int .i64 e_1), .d (.str e_2), .d (.int .i64 e_3), .d (.sl 1 e_4), .d (.sl 6 e_5)]]=g73 A E e_0 e_1 e_2 e_3 e_4 e_5:=by kernel_rfl
def k5u (A:Sy)(E:Env)(e_0 e_1:Int)(e_2:BA)(e_3:Int)(e_4 e_5:LL):Option PRes:=E.lp (fun ds1=>(opI (A.cell ds1 0) .i64).bind fun n2=>oE A ds1 1 fun n3 n4 s5 n6 l7 l8=>(opL (A.cell ds1 7) 1).bind fun l9=>bif (A.ilt n2 (A.rlen l8))then bif (A.inr n2 (A.rlen l8))then oE A (A.row l8 n2) 0 fun n10 n11 s12 n13 l14 l15=>(E.call 120 [(kE n10 n11 s12 n13 l14 l15)]).bind fun p16=>(opS (A.cell p16.leaves 0)).bind fun s18=>bif (A.fits l9 [[(.str s18)]] 16)then some (.inl [(.int .i64 (A.wrap .i64 (A.add n2 1))),(.int .i64 n3),(.int .i64 n4),(.str s5),(.int .i64 n6),(.sl 1 l7),(.sl 6 l8),(.sl 1 (A.rapp l9 [[(.str s18)]]))]) else none else none else bif (A.ieq n3 5)then bif (A.ieq n6 1)then bif (A.inr 0 (A.rlen l9))then (opS (A.cell (A.rown l9 (A.nat 0)) 0)).bind fun s19=>bif (A.sfit (bs [40,45]) s19)then bif (A.sfit (A.sapp (bs [40,45]) s19) (bs [41]))then some (.inr (.val [(.str (A.sapp (A.sapp (bs [40,45]) s19) (bs [41])))])) else none else none else none else bif (A.inr 0 (A.rlen l9))then (opS (A.cell (A.rown l9 (A.nat 0)) 0)).bind fun s20=>bif (A.sfit (bs [40,110,111,116,32]) s20)then bif (A.sfit (A.sapp (bs [40,110,111,116,32]) s20) (bs [41]))then some (.inr (.val [(.str (A.sapp (A.sapp (bs [40,110,111,116,32]) s20) (bs [41])))])) else none else none else none else bif (A.ieq n3 6)then bif (A.inr 0 (A.rlen l9))then (opS (A.cell (A.rown l9 (A.nat 0)) 0)).bind fun s21=>bif (A.sfit (bs [40]) s21)then bif (A.sfit (A.sapp (bs [40]) s21) (bs [32]))then (E.call 157 [(.d (.int .i64 n6))]).bind fun p22=>(opS (A.cell p22.leaves 0)).bind fun s24=>bif (A.sfit (A.sapp (A.sapp (bs [40]) s21) (bs [32])) s24)then bif (A.sfit (A.sapp (A.sapp (A.sapp (bs [40]) s21) (bs [32])) s24) (bs [32]))then bif (A.inr 1 (A.rlen l9))then (opS (A.cell (A.rown l9 (A.nat 1)) 0)).bind fun s25=>bif (A.sfit (A.sapp (A.sapp (A.sapp (A.sapp (bs [40]) s21) (bs [32])) s24) (bs [32])) s25)then bif (A.sfit (A.sapp (A.sapp (A.sapp (A.sapp (A.sapp (bs [40]) s21) (bs [32])) s24) (bs [32])) s25) (bs [41]))then some (.inr (.val [(.str (A.sapp (A.sapp (A.sapp (A.sapp (A.sapp (A.sapp (bs [40]) s21) (bs [32])) s24) (bs [32])) s25) (bs [41])))])) else none else none else none else none else none else none else none else none else bif (A.ieq n3 7)then bif (A.inr 0 (A.rlen l9))then (opS (A.cell (A.rown l9 (A.nat 0)) 0)).bind fun s26=>bif (A.sfit (bs [40,105,102,32]) s26)then bif (A.sfit (A.sapp (bs [40,105,102,32]) s26) (bs [32,116,104,101,110,32]))then bif (A.inr 1 (A.rlen l9))then (opS (A.cell (A.rown l9 (A.nat 1)) 0)).bind fun s27=>bif (A.sfit (A.sapp (A.sapp (bs [40,105,102,32]) s26) (bs [32,116,104,101,110,32])) s27)then bif (A.sfit (A.sapp (A.sapp (A.sapp (bs [40,105,102,32]) s26) (bs [32,116,104,101,110,32])) s27) (bs [32,101,108,115,101,32]))then bif (A.inr 2 (A.rlen l9))then (opS (A.cell (A.rown l9 (A.nat 2)) 0)).bind fun s28=>bif (A.sfit (A.sapp (A.sapp (A.sapp (A.sapp (bs [40,105,102,32]) s26) (bs [32,116,104,101,110,32])) s27) (bs [32,101,108,115,101,32])) s28)then bif (A.sfit (A.sapp (A.sapp (A.sapp (A.sapp (A.sapp (bs [40,105,102,32]) s26) (bs [32,116,104,101,110,32])) s27) (bs [32,101,108,115,101,32])) s28) (bs [41]))then some (.inr (.val [(.str (A.sapp (A.sapp (A.sapp (A.sapp (A.sapp (A.sapp (bs [40,105,102,32]) s26) (bs [32,116,104,101,110,32])) s27) (bs [32,101,108,115,101,32])) s28) (bs [41])))])) else none else none else none else none else none else none else none else none else none else bif (A.ieq n3 8)then bif (A.inr 0 (A.rlen l9))then (opS (A.cell (A.rown l9 (A.nat 0)) 0)).bind fun s29=>bif (A.sfit (bs [40]) s29)then bif (A.sfit (A.sapp (bs [40]) s29) (bs [32,102,98,121,32]))then bif (A.inr 1 (A.rlen l9))then (opS (A.cell (A.rown l9 (A.nat 1)) 0)).bind fun s30=>bif (A.sfit (A.sapp (A.sapp (bs [40]) s29) (bs [32,102,98,121,32])) s30)then bif (A.sfit (A.sapp (A.sapp (A.sapp (bs [40]) s29) (bs [32,102,98,121,32])) s30) (bs [41]))then some (.inr (.val [(.str (A.sapp (A.sapp (A.sapp (A.sapp (bs [40]) s29) (bs [32,102,98,121,32])) s30) (bs [41])))])) else none else
 none else none else none else none else none else bif (A.ieq n3 9)then bif (A.inr 0 (A.rlen l9))then (opS (A.cell (A.rown l9 (A.nat 0)) 0)).bind fun s31=>bif (A.sfit (bs [40]) s31)then bif (A.sfit (A.sapp (bs [40]) s31) (bs [32,45,62,32]))then bif (A.inr 1 (A.rlen l9))then (opS (A.cell (A.rown l9 (A.nat 1)) 0)).bind fun s32=>bif (A.sfit (A.sapp (A.sapp (bs [40]) s31) (bs [32,45,62,32])) s32)then bif (A.sfit (A.sapp (A.sapp (A.sapp (bs [40]) s31) (bs [32,45,62,32])) s32) (bs [41]))then some (.inr (.val [(.str (A.sapp (A.sapp (A.sapp (A.sapp (bs [40]) s31) (bs [32,45,62,32])) s32) (bs [41])))])) else none else none else none else none else none else none else bif (A.ieq n3 10)then bif (A.inr 0 (A.rlen l9))then (opS (A.cell (A.rown l9 (A.nat 0)) 0)).bind fun s33=>bif (A.sfit (bs [40,112,114,101,32]) s33)then bif (A.sfit (A.sapp (bs [40,112,114,101,32]) s33) (bs [41]))then some (.inr (.val [(.str (A.sapp (A.sapp (bs [40,112,114,101,32]) s33) (bs [41])))])) else none else none else none else bif (A.ieq n3 11)then bif (A.inr 0 (A.rlen l9))then (opS (A.cell (A.rown l9 (A.nat 0)) 0)).bind fun s34=>bif (A.sfit (bs [40]) s34)then bif (A.sfit (A.sapp (bs [40]) s34) (bs [32,119,104,101,110,32]))then bif (A.inr 0 (A.rlen l7))then (opS (A.cell (A.row l7 0) 0)).bind fun s35=>(E.call 156 [(.d (.str s5)),(.d (.str s35))]).bind fun p36=>(opS (A.cell p36.leaves 0)).bind fun s38=>bif (A.sfit (A.sapp (A.sapp (bs [40]) s34) (bs [32,119,104,101,110,32])) s38)then bif (A.sfit (A.sapp (A.sapp (A.sapp (bs [40]) s34) (bs [32,119,104,101,110,32])) s38) (bs [41]))then some (.inr (.val [(.str (A.sapp (A.sapp (A.sapp (A.sapp (bs [40]) s34) (bs [32,119,104,101,110,32])) s38) (bs [41])))])) else none else none else none else none else none else none else bif (A.ieq n3 12)then bif (A.sfit (bs [40,109,101,114,103,101,32]) s5)then E.lp (fun ds39=>(opS (A.cell ds39 0)).bind fun s40=>(opI (A.cell ds39 1) .i64).bind fun n41=>oE A ds39 2 fun n42 n43 s44 n45 l46 l47=>(opL (A.cell ds39 8) 1).bind fun l48=>bif (A.ilt n41 (A.rlen l48))then bif (A.sfit s40 (bs [32,40]))then bif (A.inr n41 (A.rlen l46))then (opS (A.cell (A.row l46 n41) 0)).bind fun s49=>bif (A.sfit (A.sapp s40 (bs [32,40])) s49)then bif (A.sfit (A.sapp (A.sapp s40 (bs [32,40])) s49) (bs [32,45,62,32]))then bif (A.inr n41 (A.rlen l48))then (opS (A.cell (A.rown l48 (A.nat n41)) 0)).bind fun s50=>bif (A.sfit (A.sapp (A.sapp (A.sapp s40 (bs [32,40])) s49) (bs [32,45,62,32])) s50)then bif (A.sfit (A.sapp (A.sapp (A.sapp (A.sapp s40 (bs [32,40])) s49) (bs [32,45,62,32])) s50) (bs [41]))then some (.inl [(.str (A.sapp (A.sapp (A.sapp (A.sapp (A.sapp s40 (bs [32,40])) s49) (bs [32,45,62,32])) s50) (bs [41]))),(.int .i64 (A.wrap .i64 (A.add n41 1))),(.int .i64 n42),(.int .i64 n43),(.str s44),(.int .i64 n45),(.sl 1 l46),(.sl 6 l47),(.sl 1 l48)]) else none else none else none else none else none else none else none else bif (A.sfit s40 (bs [41]))then some (.inr (.inr (.val [(.str (A.sapp s40 (bs [41])))]))) else none) [(.str (A.sapp (bs [40,109,101,114,103,101,32]) s5)),(.int .i64 0),(.int .i64 n3),(.int .i64 n4),(.str s5),(.int .i64 n6),(.sl 1 l7),(.sl 6 l8),(.sl 1 l9)] else none else bif (A.ieq n3 13)then (E.call 158 [(kE n3 n4 s5 n6 l7 l8)]).bind fun p51=>(opS (A.cell p51.leaves 0)).bind fun s53=>some (.inr (.val [(.str s53)])) else bif (A.ieq n3 14)then (E.call 159 [(.d (.sl 6 l8))]).bind fun p54=>(opS (A.cell p54.leaves 0)).bind fun s56=>bif (A.sfit (bs [91]) s56)then bif (A.sfit (A.sapp (bs [91]) s56) (bs [93]))then some (.inr (.val [(.str (A.sapp (A.sapp (bs [91]) s56) (bs [93])))])) else none else none else bif (A.ieq n3 15)then bif (A.inr 0 (A.rlen l9))then (opS (A.cell (A.rown l9 (A.nat 0)) 0)).bind fun s57=>bif (A.sfit s57 (bs [91]))then bif (A.inr 1 (A.rlen l9))then (opS (A.cell (A.rown l9 (A.nat 1)) 0)).bind fun s58=>bif (A.sfit (A.sapp s57 (bs [91])) s58)then bif (A.sfit (A.sapp (A.sapp s57 (bs [91])) s58) (bs [93]))then some (.inr (.val [(.str (A.sapp (A.sapp (A.sapp s57 (bs [91])) s58) (bs [93])))]))
 else none else none else none else none else none else bif (A.ieq n3 16)then bif (A.inr 0 (A.rlen l9))then (opS (A.cell (A.rown l9 (A.nat 0)) 0)).bind fun s59=>bif (A.sfit (bs [40]) s59)then bif (A.sfit (A.sapp (bs [40]) s59) (bs [32,119,105,116,104,32,91]))then bif (A.inr 1 (A.rlen l9))then (opS (A.cell (A.rown l9 (A.nat 1)) 0)).bind fun s60=>bif (A.sfit (A.sapp (A.sapp (bs [40]) s59) (bs [32,119,105,116,104,32,91])) s60)then bif (A.sfit (A.sapp (A.sapp (A.sapp (bs [40]) s59) (bs [32,119,105,116,104,32,91])) s60) (bs [93,32,61,32]))then bif (A.inr 2 (A.rlen l9))then (opS (A.cell (A.rown l9 (A.nat 2)) 0)).bind fun s61=>bif (A.sfit (A.sapp (A.sapp (A.sapp (A.sapp (bs [40]) s59) (bs [32,119,105,116,104,32,91])) s60) (bs [93,32,61,32])) s61)then bif (A.sfit (A.sapp (A.sapp (A.sapp (A.sapp (A.sapp (bs [40]) s59) (bs [32,119,105,116,104,32,91])) s60) (bs [93,32,61,32])) s61) (bs [41]))then some (.inr (.val [(.str (A.sapp (A.sapp (A.sapp (A.sapp (A.sapp (A.sapp (bs [40]) s59) (bs [32,119,105,116,104,32,91])) s60) (bs [93,32,61,32])) s61) (bs [41])))])) else none else none else none else none else none else none else none else none else none else (E.call 160 [(kE n3 n4 s5 n6 l7 l8)]).bind fun p62=>(opS (A.cell p62.leaves 0)).bind fun s64=>some (.inr (.val [(.str s64)]))) [(.int .i64 0),(.int .i64 e_0),(.int .i64 e_1),(.str e_2),(.int .i64 e_3),(.sl 1 e_4),(.sl 6 e_5),(.sl 1 [])]
def q1d (e_0 e_1:Int)(e_2:BA)(e_3:Int)(e_4 e_5:LL):fT A E 120 [.agg [.d (.int .i64 e_0), .d (.int .i64 e_1), .d (.str e_2), .d (.int .i64 e_3), .d (.sl 1 e_4), .d (.sl 6 e_5)]]=k5u A E e_0 e_1 e_2 e_3 e_4 e_5:=by kernel_rfl
def k5t (A:Sy)(E:Env)(name_ arm_:BA):Option PRes:=bif (A.seq arm_ (bs [116,114,117,101]))then vL [.str name_] else bif (A.seq arm_ (bs [102,97,108,115,101]))then iT (A.sfit (bs [110,111,116,32]) name_) <| vL [.str (A.sapp (bs [110,111,116,32]) name_)] else iT (A.sfit arm_ (bs [40])) <| iT (A.sfit (A.sapp arm_ (bs [40])) name_) <| iT (A.sfit (A.sapp (A.sapp arm_ (bs [40])) name_) (bs [41])) <| vL [.str (A.sapp (A.sapp (A.sapp arm_ (bs [40])) name_) (bs [41]))]
def q0j (name_ arm_:BA):fT A E 156 [.d (.str name_), .d (.str arm_)]=k5t A E name_ arm_:=by kernel_rfl
def k3f (e_0 e_1:Int)(e_2:BA)(e_3:Int)(e_4 e_5:LL):Option PRes:=iT (A.sfit e_2 (bs [40])) <| iT (A.cutok 0 (zW A (A.sub (A.rlen e_5) e_1)) (A.rlen e_5)) <| zC E 159 [.d (.sl 6 (A.cut e_5 0 (zW A (A.sub (A.rlen e_5) e_1))))] fun p1=>yS A p1 0 fun s3=>iT (A.sfit (A.sapp e_2 (bs [40])) s3) <| iT (A.sfit (A.sapp (A.sapp e_2 (bs [40])) s3) (bs [41])) <| bif (A.ieq e_1 1)then iT (A.sfit (bs [40]) (A.sapp (A.sapp (A.sapp e_2 (bs [40])) s3) (bs [41]))) <| iT (A.sfit (A.sapp (bs [40]) (A.sapp (A.sapp (A.sapp e_2 (bs [40])) s3) (bs [41]))) (bs [32,101,118,101,114,121,32])) <| iT (A.inr (zW A (A.sub (A.rlen e_5) e_1)) (A.rlen e_5)) <| zI A (A.row e_5 (zW A (A.sub (A.rlen e_5) e_1))) 0 fun n4=>zI A (A.row e_5 (zW A (A.sub (A.rlen e_5) e_1))) 1 fun n5=>zS A (A.row e_5 (zW A (A.sub (A.rlen e_5) e_1))) 2 fun s6=>zI A (A.row e_5 (zW A (A.sub (A.rlen e_5) e_1))) 3 fun n7=>zL A (A.row e_5 (zW A (A.sub (A.rlen e_5) e_1))) 4 1 fun l8=>zL A (A.row e_5 (zW A (A.sub (A.rlen e_5) e_1))) 5 6 fun l9=>zC E 120 [kE n4 n5 s6 n7 l8 l9] fun p10=>yS A p10 0 fun s12=>iT (A.sfit (A.sapp (A.sapp (bs [40]) (A.sapp (A.sapp (A.sapp e_2 (bs [40])) s3) (bs [41]))) (bs [32,101,118,101,114,121,32])) s12) <| iT (A.sfit (A.sapp (A.sapp (A.sapp (bs [40]) (A.sapp (A.sapp (A.sapp e_2 (bs [40])) s3) (bs [41]))) (bs [32,101,118,101,114,121,32])) s12) (bs [41])) <| vL [.str (A.sapp (A.sapp (A.sapp (A.sapp (bs [40]) (A.sapp (A.sapp (A.sapp e_2 (bs [40])) s3) (bs [41]))) (bs [32,101,118,101,114,121,32])) s12) (bs [41]))] else vL [.str (A.sapp (A.sapp (A.sapp e_2 (bs [40])) s3) (bs [41]))]
def q0h (e_0 e_1:Int)(e_2:BA)(e_3:Int)(e_4 e_5:LL):fT A E 158 [.agg [.d (.int .i64 e_0), .d (.int .i64 e_1), .d (.str e_2), .d (.int .i64 e_3), .d (.sl 1 e_4), .d (.sl 6 e_5)]]=k3f A E e_0 e_1 e_2 e_3 e_4 e_5:=by kernel_rfl
def k5s (A:Sy)(E:Env)(l_:LL):Option PRes:=E.lp (fun ds1=>(opL (A.cell ds1 0) 6).bind fun l2=>(opS (A.cell ds1 1)).bind fun s3=>(opI (A.cell ds1 2) .i64).bind fun n4=>bif (A.ilt n4 (A.rlen l2))then bif (A.ilt 0 n4)then bif (A.sfit s3 (bs [44,32]))then bif (A.inr n4 (A.rlen l2))then oE A (A.row l2 n4) 0 fun n5 n6 s7 n8 l9 l10=>(E.call 120 [(kE n5 n6 s7 n8 l9 l10)]).bind fun p11=>(opS (A.cell p11.leaves 0)).bind fun s13=>bif (A.sfit (A.sapp s3 (bs [44,32])) s13)then some (.inl [(.sl 6 l2),(.str (A.sapp (A.sapp s3 (bs [44,32])) s13)),(.int .i64 (A.wrap .i64 (A.add n4 1)))]) else none else none else none else bif (A.inr n4 (A.rlen l2))then oE A (A.row l2 n4) 0 fun n14 n15 s16 n17 l18 l19=>(E.call 120 [(kE n14 n15 s16 n17 l18 l19)]).bind fun p20=>(opS (A.cell p20.leaves 0)).bind fun s22=>bif (A.sfit s3 s22)then some (.inl [(.sl 6 l2),(.str (A.sapp s3 s22)),(.int .i64 (A.wrap .i64 (A.add n4 1)))]) else none else none else some (.inr (.val [(.str s3)]))) [(.sl 6 l_),(.str (bs [])),(.int .i64 0)]
def q0g (l_:LL):fT A E 159 [.d (.sl 6 l_)]=k5s A E l_:=by kernel_rfl
def k0h (e_0 e_1:Int)(e_2:BA)(e_3:Int)(e_4 e_5:LL):Option PRes:=bif (A.ieq e_0 1)then zC E 187 [.d (nI e_1)] fun p1=>yS A p1 0 fun s3=>vL [.str s3] else bif (A.ieq e_0 2)then bif (A.ieq e_1 1)then vL [.str (bs [116,114,117,101])] else vL [.str (bs [102,97,108,115,101])] else bif (A.ieq e_0 17)then iT (A.sfit (bs [39]) e_2) <| iT (A.sfit (A.sapp (bs [39]) e_2) (bs [39])) <| vL [.str (A.sapp (A.sapp (bs [39]) e_2) (bs [39]))] else vL [.str e_2]
def q0f (e_0 e_1:Int)(e_2:BA)(e_3:Int)(e_4 e_5:LL):fT A E 160 [.agg [.d (.int .i64 e_0), .d (.int .i64 e_1), .d (.str e_2), .d (.int .i64 e_3), .d (.sl 1 e_4), .d (.sl 6 e_5)]]=k0h A E e_0 e_1 e_2 e_3 e_4 e_5:=by kernel_rfl
def g157 (A:Sy)(E:Env)(op_:Int):Option PRes:=x0u (bif (A.ilt op_ 1)then vB true else vB (A.ilt 16 op_)) fun ds1=>zB A ds1 0 fun b2=>bif b2 then vL [.str (bs [])] else iT (A.inr op_ (A.rlen [[.str (bs [])],[.str (bs [45])],[.str (bs [110,111,116])],[.str (bs [43])],[.str (bs [45])],[.str (bs [42])],[.str (bs [47])],[.str (bs [109,111,100])],[.str (bs [97,110,100])],[.str (bs [111,114])],[.str (bs [120,111,114])],[.str (bs [61])],[.str (bs [60,62])],[.str (bs [60])],[.str (bs [60,61])],[.str (bs [62])],[.str (bs [62,61])]])) <| zS A (A.rown [[.str (bs [])],[.str (bs [45])],[.str (bs [110,111,116])],[.str (bs [43])],[.str (bs [45])],[.str (bs [42])],[.str (bs [47])],[.str (bs [109,111,100])],[.str (bs [97,110,100])],[.str (bs [111,114])],[.str (bs [120,111,114])],[.str (bs [61])],[.str (bs [60,62])],[.str (bs [60])],[.str (bs [60,61])],[.str (bs [62])],[.str (bs [62,61])]] (A.nat op_)) 0 fun s3=>vL [.str s3]
def q0i (op_:Int):fT A E 157 [.d (.int .i64 op_)]=g157 A E op_:=by kernel_rfl
def k9j (A:Sy)(E:Env)(n_:Int):Option PRes:=bif (A.ilt n_ 0)then E.lp (fun ds1=>(opI (A.cell ds1 0) .i64).bind fun n2=>(opI (A.cell ds1 1) .u64).bind fun n3=>(opS (A.cell ds1 2)).bind fun s4=>x0u (bif (A.ilt 0 n3)then some (.inl [(.bool true)]) else some (.inl [(.bool (A.seq s4 (bs [])))])) fun ds5=>(opB (A.cell ds5 0)).bind fun b6=>bif b6 then bif (A.bnot (A.ieq 10 0))then bif (A.isby [[(.int .u8 (A.wrap .u8 (A.wrap .u64 (A.add 48 (A.rem n3 10)))))]])then bif (A.sfit (A.bstr [[(.int .u8 (A.wrap .u8 (A.wrap .u64 (A.add 48 (A.rem n3 10)))))]]) s4)then bif (A.bnot (A.ieq 10 0))then some (.inl [(.int .i64 n2),(.int .u64 (A.wrap .u64 (A.quo n3 10))),(.str (A.sapp (A.bstr [[(.int .u8 (A.wrap .u8 (A.wrap .u64 (A.add 48 (A.rem n3 10)))))]]) s4))]) else none else none else none else none else bif (A.ilt n2 0)then bif (A.sfit (bs [45]) s4)then some (.inr (.val [(.str (A.sapp (bs [45]) s4))])) else none else some (.inr (.val [(.str s4)]))) [(.int .i64 n_),(.int .u64 (A.wrap .u64 (A.sub 0 (A.wrap .u64 n_)))),(.str (bs []))] else E.lp (fun ds7=>(opI (A.cell ds7 0) .i64).bind fun n8=>(opI (A.cell ds7 1) .u64).bind fun n9=>(opS (A.cell ds7 2)).bind fun s10=>x0u (bif (A.ilt 0 n9)then some (.inl [(.bool true)]) else some (.inl [(.bool (A.seq s10 (bs [])))])) fun ds11=>(opB (A.cell ds11 0)).bind fun b12=>bif b12 then bif (A.bnot (A.ieq 10 0))then bif (A.isby [[(.int .u8 (A.wrap .u8 (A.wrap .u64 (A.add 48 (A.rem n9 10)))))]])then bif (A.sfit (A.bstr [[(.int .u8 (A.wrap .u8 (A.wrap .u64 (A.add 48 (A.rem n9 10)))))]]) s10)then bif (A.bnot (A.ieq 10 0))then some (.inl [(.int .i64 n8),(.int .u64 (A.wrap .u64 (A.quo n9 10))),(.str (A.sapp (A.bstr [[(.int .u8 (A.wrap .u8 (A.wrap .u64 (A.add 48 (A.rem n9 10)))))]]) s10))]) else none else none else none else none else bif (A.ilt n8 0)then bif (A.sfit (bs [45]) s10)then some (.inr (.val [(.str (A.sapp (bs [45]) s10))])) else none else some (.inr (.val [(.str s10)]))) [(.int .i64 n_),(.int .u64 (A.wrap .u64 n_)),(.str (bs []))]
def w9s (n_:Int):fT A E 187 [.d (.int .i64 n_)]=k9j A E n_:=by kernel_rfl
end
end Go.Vm
end
section
set_option maxRecDepth 100000
set_option maxHeartbeats 4000000
namespace Go.Vm
open Go.Proofs
def x1c (l:List UInt8):(bs l).size=l.length:=rfl
def sfT {a b:BA}(h:a.size+b.size<=9223372036854775807):sy.sfit a b=true:=a0o h
def w6y (c:Nat)(h:c < 256):tb (sy.bstr [[.int .u8 (c:Int)]])= [c]:=by
 show tb (q3p [[.int .u8 (c:Int)]])= [c];unfold q3p;simp only[a1o,a1x,byN,Option.getD_some];unfold strOfNums;show[(UInt8.ofNat (c:Int).toNat).toNat]= [c];rw[a0n,UInt8.toNat_ofNat'];simp;omega
def z1f (c:Nat):(sy.bstr [[.int .u8 (c:Int)]]).size=1:=rfl
def z4i (q:Nat):List Nat:=if q=0 then[]else y0i q
def u0e (q:Nat)(h:0 < q):y0i q=z4i (q / 10)++[48+q % 10]:=by
 rw[y0i.eq_def];split
 ·rename_i h1;unfold z4i;rw[if_pos (by omega),Nat.mod_eq_of_lt h1];rfl
 ·unfold z4i;rw[if_neg (by omega)]
def v1r {a:Int}(h0:0<=a)(h:a < 18446744073709551616):IntKind.u64.wrap a=a:=by
 show a % _=a;exact Int.emod_eq_of_lt h0 h
def k3x {a:Int}(h0:0<=a)(h:a < 256):IntKind.u8.wrap a=a:=by
 show a % _=a;exact Int.emod_eq_of_lt h0 h
def v7s (n:Nat)(hn:n < 9223372036854775808): ∃s,cF 187 [.d (.int .i64 (n:Int))]=some (.val [.str s])/\tb s=y0i n/\s.size<=100:=by
 have hx: ∃p,x6d (fun ds7=>
     (opI (sy.cell ds7 0) .i64).bind fun n8=>
     (opI (sy.cell ds7 1) .u64).bind fun n9=>
     (opS (sy.cell ds7 2)).bind fun s10=>
     x0u (
      bif (sy.ilt 0 n9)then some (.inl [(.bool true)])
      else some (.inl [(.bool (sy.seq s10 (bs [])))])) fun ds11=>
     (opB (sy.cell ds11 0)).bind fun b12=>
     bif b12 then
      bif (sy.bnot (sy.ieq 10 0))then
       bif (sy.isby [[(.int .u8 (sy.wrap .u8 (sy.wrap .u64 (sy.add 48 (sy.rem n9 10)))))]])then
        bif (sy.sfit (sy.bstr [[(.int .u8 (sy.wrap .u8 (sy.wrap .u64 (sy.add 48 (sy.rem n9 10)))))]]) s10)then
         bif (sy.bnot (sy.ieq 10 0))then
          some (.inl [(.int .i64 n8),(.int .u64 (sy.wrap .u64 (sy.quo n9 10))),(.str (sy.sapp (sy.bstr [[(.int .u8 (sy.wrap .u8 (sy.wrap .u64 (sy.add 48 (sy.rem n9 10)))))]]) s10))])
         else none
        else none
       else none
      else none
     else
      bif (sy.ilt n8 0)then
       bif (sy.sfit (bs [45]) s10)then some (.inr (PRes.val [(.str (sy.sapp (bs [45]) s10))]))else none
      else some (.inr (PRes.val [(.str s10)]))) [(.int .i64 (n:Int)),(.int .u64 (sy.wrap .u64 (n:Int))),(.str (bs []))]=some p/\ ∃s,p= .val [.str s]/\tb s=y0i n/\s.size<=100:=by
  have e0:sy.wrap .u64 (n:Int)=(n:Int):=v1r (by omega) (by omega)
  rw[e0];refine x2l (fun x:Nat × BA=>[.int .i64 (n:Int), .int .u64 (x.1:Int), .str x.2]) (fun x=>(x.2=bs []/\x.1=n\/0 < x.2.size/\y0i n=z4i x.1++tb x.2)/\x.1 < 10 ^ (20 - x.2.size)/\x.2.size<=20) (fun x=>x.1*2+(if x.2.size=0 then 1 else 0)) (fun x hx=> ?_) (n,bs []) ⟨.inl ⟨rfl,rfl⟩,by show n < 10 ^ 20;omega,by show 0<=20;omega⟩
  obtain⟨q,s⟩:=x;obtain⟨h1,h2,h3⟩:=hx;simp only at h1 h2 h3 ⊢;have hs0:(s.toList == (bs []).toList)=decide (s.size=0):=by
   rw[x2f];refine x8e ⟨fun h=> ?_,fun h=> ?_⟩
   ·have:=congrArg List.length h;rw[x2i]at this;exact this
   ·exact List.length_eq_zero_iff.1 (by rw[x2i];exact h)
  by_cases hq:0 < q\/s.size=0
  ·left
   have hqq:(q:Int) < 18446744073709551616:=by
    have:10 ^ (20 - s.size)<=10 ^ 20:=Nat.pow_le_pow_right (by omega) (by omega)
    have h20:(10:Nat) ^ 20=100000000000000000000:=by decide
    rcases h1 with⟨_,h⟩|⟨hp,_⟩
    ·omega
    ·have:10 ^ (20 - s.size)<=10 ^ 19:=Nat.pow_le_pow_right (by omega) (by omega)
     have h19:(10:Nat) ^ 19=10000000000000000000:=by decide
     omega
   have hr:sy.rem (q:Int) 10=((q % 10:Nat):Int):=by
    show Int.tmod (q:Int) 10=_;rw[Int.tmod_eq_emod_of_nonneg (by omega)];omega
   have hd:sy.quo (q:Int) 10=((q / 10:Nat):Int):=by
    show Int.tdiv (q:Int) 10=_;rw[Int.tdiv_eq_ediv_of_nonneg (by omega)];omega
   have hw:IntKind.u8.wrap (IntKind.u64.wrap (48+((q % 10:Nat):Int)))=((48+q % 10:Nat):Int):=by
    rw[v1r (by omega) (by omega),k3x (by omega) (by omega)];omega
   have hw2:IntKind.u64.wrap ((q / 10:Nat):Int)=((q / 10:Nat):Int):=v1r (by omega) (by omega)
   have hby:sy.isby [[.int .u8 ((48+q % 10:Nat):Int)]]=true:=rfl;have hsf:sy.sfit (sy.bstr [[.int .u8 ((48+q % 10:Nat):Int)]]) s=true:=sfT (by rw[z1f];omega)
   have hb:(decide ((0:Int) < (q:Int)) || (s.toList == (bs []).toList))=true:=by
    rw[hs0]
    by_cases h:0 < q
    ·rw[a0o (by omega)];rfl
    ·rw[a0o (show s.size=0 by omega),Bool.or_true]
   refine⟨(q / 10,sy.bstr [[.int .u8 ((48+q % 10:Nat):Int)]]++s),?_,⟨.inr ⟨?_,?_⟩,?_,?_⟩,?_⟩
   ·simp only[go1];rw[hb];simp only[go1,show decide ((10:Int)=0)=false from rfl,hr,hd,hw,hw2,hby,hsf]
   ·show 0 < (sy.bstr [[.int .u8 ((48+q % 10:Nat):Int)]]++s).size;rw[ByteArray.size_append,z1f];omega
   ·show y0i n=z4i (q / 10)++tb (sy.bstr [[.int .u8 ((48+q % 10:Nat):Int)]]++s);rw[x0y,w6y _ (by omega)]
    rcases h1 with⟨hs,hqn⟩|⟨hp,he⟩
    ·subst hs;subst hqn;show y0i q=z4i (q / 10)++([48+q % 10]++[]);rw[a0y]
     by_cases h0:0 < q
     ·exact u0e q h0
     ·have:q=0:=by omega
      subst this;rw[y0i.eq_def,dif_pos (by omega)];rfl
    ·have h0:0 < q:=by omega
     rw[he];show z4i q++tb s=_;rw[show z4i q=y0i q by unfold z4i;rw[if_neg (by omega)],u0e q h0,List.append_assoc]
   ·show q / 10 < 10 ^ (20 - (sy.bstr [[.int .u8 ((48+q % 10:Nat):Int)]]++s).size);rw[ByteArray.size_append,z1f]
    by_cases h20:s.size=20
    ·rw[h20]at h2;have:q < 1:=h2;have:q=0:=by omega
     omega
    ·have e:20 - s.size=(20 - (1+s.size))+1:=by omega
     rw[e,Nat.pow_succ]at h2;omega
   ·show(sy.bstr [[.int .u8 ((48+q % 10:Nat):Int)]]++s).size<=20;rw[ByteArray.size_append,z1f]
    by_cases h20:s.size=20
    ·rw[h20]at h2;have:q < 1:=h2;omega
    ·omega
   ·show q / 10*2+(if(sy.bstr [[.int .u8 ((48+q % 10:Nat):Int)]]++s).size=0 then 1 else 0) < q*2+(if s.size=0 then 1 else 0);rw[ByteArray.size_append,z1f,if_neg (by omega)]
    split<;>omega
  ·right
   have hb:(decide ((0:Int) < (q:Int)) || (s.toList == (bs []).toList))=false:=by
    rw[hs0,decide_eq_false (by omega: ¬(0:Int) < (q:Int)),decide_eq_false (by omega: ¬s.size=0)];rfl
   have hn0:decide ((n:Int) < 0)=false:=decide_eq_false (by omega)
   refine⟨.val [.str s],?_,s,rfl,?_,by omega⟩
   ·simp only[go1];rw[hb];simp only[go1,hn0]
   ·rcases h1 with⟨hs,_⟩|⟨hp,he⟩
    ·subst hs;exact absurd (.inr rfl) hq
    ·have:q=0:=by omega
     subst this;exact he.symm
 obtain⟨p,hp,s,rfl,h1,h2⟩:=hx;refine⟨s,?_,h1,h2⟩;have h0:decide ((n:Int) < 0)=false:=decide_eq_false (by omega)
 refine cO rfl ?_;rw[w9s];unfold k9j;rw[v2h,h0];exact hp
def q2w (o:Nat)(h1:3<=o)(h2:o<=16):cF 157 [.d (.int .i64 (o:Int))]=some (.val [.str (y0n o)]):=by
 refine cO rfl ?_;rw[q0i]
 match o,h1,h2 with
 |3,_,_|4,_,_|5,_,_|6,_,_|7,_,_|8,_,_|9,_,_|10,_,_|11,_,_|12,_,_|13,_,_|14,_,_|15,_,_|16,_,_=>rfl
 |o+17,_,h=>omega
def k1k (s a:BA)(hs:s.size<=100000)(ha:a.size<=100000): ∃r,cF 156 [.d (.str s), .d (.str a)]=some (.val [.str r])/\tb r=x0f (onP s a)/\r.size<=300000:=by
 have e1:(a.toList == (bs [116,114,117,101]).toList)=decide (tb a=v4t):=x2f _ _;have e2:(a.toList == (bs [102,97,108,115,101]).toList)=decide (tb a=z8v):=x2f _ _;have s1:sy.sfit (bs [110,111,116,32]) s=true:=sfT (by simp only[x1c,a0b,a0e];omega)
 have s2:sy.sfit a (bs [40])=true:=sfT (by simp only[x1c,a0b,a0e];omega)
 have s3:sy.sfit (a++bs [40]) s=true:=sfT (by simp only[ByteArray.size_append,x1c,a0b,a0e];omega)
 have s4:sy.sfit (a++bs [40]++s) (bs [41])=true:=sfT (by simp only[ByteArray.size_append,x1c,a0b,a0e];omega)
 have core: ∃r,k5t sy eF s a=some (.val [.str r])/\tb r=x0f (onP s a)/\r.size<=300000:=by
  simp only[k5t,go1,e1,e2,s1,s2,s3,s4];unfold onP
  by_cases h1:tb a=v4t
  ·rw[if_pos h1,a0o h1];exact⟨s,rfl,(a0y _).symm,by omega⟩
  ·rw[if_neg h1,decide_eq_false h1]
   by_cases h2:tb a=z8v
   ·rw[if_pos h2,a0o h2];refine⟨_,rfl,?_,?_⟩
    ·rw[x0y];show[110,111,116,32]++tb s=v1h++32::(tb s++[]);rw[a0y];rfl
    ·simp only[ByteArray.size_append,x1c,a0b,a0e];omega
   ·rw[if_neg h2,decide_eq_false h2];refine⟨_,rfl,?_,?_⟩
    ·rw[x0y,x0y,x0y];have:T.w ⟨if x3h (tb a)then 2 else 1,tb a,0⟩=tb a:=by
      unfold T.w;rw[if_neg (by simp only;split<;>decide)]
     show tb a++[40]++tb s++[41]=T.w ⟨if x3h (tb a)then 2 else 1,tb a,0⟩++([40]++(tb s++([41]++[])));rw[this];simp
    ·simp only[ByteArray.size_append,x1c,a0b,a0e];omega
 obtain⟨r,h1,h2⟩:=core;exact⟨r,cO rfl ((q0j _ _ _ _).trans h1),h2⟩
def z0y (k n:Int)(s:BA)(o:Int)(a u:LL)(h0:k=1->0<=n/\n < 9223372036854775808)(hs:s.size<=100000)(hk:k=1\/k=2\/k=3\/k=4\/k=17): ∃r,cF 160 [kE k n s o a u]=some (.val [.str r])/\tb r=x0f (v4p k n s)/\r.size<=300000:=by
 have s1:sy.sfit (bs [39]) s=true:=sfT (by simp only[x1c,a0b,a0e];omega)
 have s2:sy.sfit (bs [39]++s) (bs [39])=true:=sfT (by simp only[ByteArray.size_append,x1c,a0b,a0e];omega)
 have core: ∃r,k0h sy eF k n s o a u=some (.val [.str r])/\tb r=x0f (v4p k n s)/\r.size<=300000:=by
  rcases hk with rfl|rfl|rfl|rfl|rfl
  ·obtain⟨q1,q2⟩:=h0 rfl;obtain⟨n,rfl⟩: ∃q:Nat,n=(q:Int):=⟨n.toNat,by omega⟩
   obtain⟨r,h1,h2,h3⟩:=v7s n (by omega)
   refine⟨r,?_,?_,by omega⟩
   ·simp only[k0h,go1,h1]
   ·rw[h2];show y0i n=y0i (n:Int).toNat++[];rw[a0y,a0n]
  ·simp only[k0h,go1,show decide ((2:Int)=1)=false from rfl]
   by_cases hn:n=1
   ·rw[a0o hn];refine⟨_,rfl,?_,by decide⟩
    subst hn;rfl
   ·rw[decide_eq_false hn];refine⟨_,rfl,?_,by decide⟩
    unfold v4p;rw[if_neg (by decide),if_pos rfl,if_neg hn];rfl
  ·exact⟨s,rfl,(a0y _).symm,by omega⟩
  ·exact⟨s,rfl,(a0y _).symm,by omega⟩
  ·simp only[k0h,go1,show decide ((17:Int)=1)=false from rfl,show decide ((17:Int)=2)=false from rfl,s1,s2];refine⟨_,rfl,?_,?_⟩
   ·rw[x0y,x0y];show[39]++tb s++[39]=(39::(tb s++[39]))++[];simp
   ·simp only[ByteArray.size_append,x1c,a0b,a0e];omega
 obtain⟨r,h1,h2⟩:=core;exact⟨r,cO rfl ((q0f _ _ _ _ _ _ _ _).trans h1),h2⟩
def Txt (x:Ex):Prop:= ∀k n s o a u,x= .mk k n s o a u-> ∃r,cF 120 [kE k n s o (x0b a) (Ex.rows u)]=some (.val [.str r])/\tb r=x0f (pcs x)/\r.size<=1000000*x.size
def y8k: ∀(v:List Ex) (x:Ex),x0f (y4c (x1v (v++[x])))=x0f (y4c (x1v v))++[44,32]++x0f (pcs x)
 | [],x=>by
   show x0f ([mk 44,none]++pcs x++[])= []++[44,32]++x0f (pcs x);rw[a0y];rfl
 |y::v,x=>by
  simp only[a0d,x1v,y4c,List.append_assoc,a0h];have: ∀z:Pc,x0f (mk 44::none::z)=44::32::x0f z:=fun z=>rfl
  simp only[this,x0r,y8k v x,List.append_assoc,a0d,a0h]
def u2c (v:List Ex)(x:Ex)(h:v≠[]):x0f (x1w (x1v (v++[x])))=x0f (x1w (x1v v))++[44,32]++x0f (pcs x):=by
 match v,h with
 |y::v,_=>
  simp only[a0d,x1v,x1w,x0r,y8k v x,List.append_assoc]
def u3x (u:List Ex)(hz:Ex.j0a u<=1000)(hu: ∀x∈u,Txt x): ∃r,cF 159 [.d (.sl 6 (Ex.rows u))]=some (.val [.str r])/\tb r=x0f (x1w (x1v u))/\r.size<=1000002*Ex.j0a u:=by
 have hl:=x2j u;have core: ∃p,k5s sy eF (Ex.rows u)=some p/\ ∃r,p= .val [.str r]/\tb r=x0f (x1w (x1v u))/\r.size<=1000002*Ex.j0a u:=by
  unfold k5s;refine x2l (fun x:Nat × BA=>[.sl 6 (Ex.rows u), .str x.2, .int .i64 (x.1:Int)]) (fun x=>x.1<=u.length/\tb x.2=x0f (x1w (x1v (u.take x.1)))/\x.2.size<=1000002*Ex.j0a (u.take x.1)) (fun x=>u.length - x.1) (fun x hx=> ?_) (0,bs []) ⟨a0t _,by simp[x1w,x1v,x0f,z6v],by show 0<=_;omega⟩
  obtain⟨i,s⟩:=x;obtain⟨h1,h2,h3⟩:=hx;simp only at h1 h2 h3 ⊢
  by_cases hlt:i < u.length
  ·left
   have hx:=a0a hlt;have ht:=hu u[i] (a1i hlt);have htk:u.take (i+1)=u.take i++[u[i]]:=by rw[a1d,hx];rfl
   have hszs:Ex.j0a (u.take (i+1))<=Ex.j0a u:=by
    have:=x4u (u.take (i+1)) (u.drop (i+1));rw[a1w]at this;omega
   rw[htk,x4n]at hszs;have he1:1<=u[i].size:=by
    cases hh:u[i]with
    |mk=>simp[Ex.size]
   generalize u[i]=e at hx ht htk hszs he1;have hr:=v9h hx;obtain⟨k2,n2,s2,o2,a2,u2⟩:=e;obtain⟨t,h4,h5,h6⟩:=ht k2 n2 s2 o2 a2 u2 rfl;have w1:IntKind.i64.wrap ((i:Int)+1)=((i+1:Nat):Int):=by rw[x0p (by omega) (by omega)];omega
   by_cases hi0:i=0
   ·subst hi0;have hs0:s.size=0:=by
     have:Ex.j0a (u.take 0)=0:=by simp[Ex.j0a]
     omega
    refine⟨(1,s++t),?_,⟨hlt,?_,?_⟩,by simp only;omega⟩
    ·have sf:sy.sfit s t=true:=sfT (by omega)
     have l0:decide ((0:Int) < (u.length:Int))=true:=x0l hlt;have i0:decide ((0:Int)<=0/\(0:Int) < (u.length:Int))=true:=x0k hlt;have hr:sy.row (Ex.rows u) 0=_:=hr;have w1:IntKind.i64.wrap ((0:Int)+1)=((1:Nat):Int):=w1;simp only[go1,x0h,l0,i0,hr,Ex.row,oE,h4,show((0:Nat):Int)=0 from rfl,Int.lt_irrefl,sf,w1]
    ·simp only;rw[x0y,h2,h5,htk];simp[x1w,x1v,y4c,x0f]
    ·simp only;rw[htk,x4n,ByteArray.size_append];omega
   ·have hne:u.take i≠[]:=by
     intro h;have:=congrArg List.length h;rw[a1q,a0e]at this;omega
    refine⟨(i+1,s++bs [44,32]++t),?_,⟨hlt,?_,?_⟩,by simp only;omega⟩
    ·have sf:sy.sfit s (bs [44,32])=true:=sfT (by simp only[x1c,a0b,a0e];omega)
     have sf2:sy.sfit (s++bs [44,32]) t=true:=sfT (by simp only[ByteArray.size_append,x1c,a0b,a0e];omega)
     have l0:=x0l hlt;have i0:=x0k hlt;have z0:decide ((0:Int) < (i:Int))=true:=a0o (by omega)
     simp only[go1,x0h,l0,i0,hr,Ex.row,oE,h4,z0,sf,sf2,w1]
    ·simp only;rw[x0y,x0y,h2,h5,htk,u2c _ _ hne];rfl
    ·simp only;rw[htk,x4n,ByteArray.size_append,ByteArray.size_append,x1c];simp only[a0b,a0e];omega
  ·right
   have:i=u.length:=by omega
   subst this;rw[a0r]at h2 h3;refine⟨_,?_,s,rfl,h2,h3⟩;simp only[go1,x0h,x0g]
 obtain⟨p,h1,r,rfl,h2⟩:=core;exact⟨r,cO rfl ((q0g _ _ _).trans h1),h2⟩
def v2v (u:List Ex)(i:Nat):(Ex.rows u).take i=Ex.rows (u.take i):=by
 induction u generalizing i with
 |nil=>simp[Ex.rows]
 |cons e u ih=>
  cases i with
  |zero=>rfl
  |succ i=>simp only[Ex.rows,List.take_succ_cons,ih]
def cut0 (u:List Ex)(i:Nat):sy.cut (Ex.rows u) 0 (i:Int)=Ex.rows (u.take i):=by
 show((Ex.rows u).take (i:Int).toNat).drop (0:Int).toNat=_;rw[a0n,v2v];rfl
def y8t (x:Ex): ∀v:List Ex,x1v (v++[x])=x1v v++[pcs x]
 | []=>rfl
 |y::v=>by simp only[a0d,x1v,y8t x v]
def q2t (n:Int)(s:BA)(o:Int)(a:List BA)(u:List Ex)(hz:Ex.j0a u<=1000)(hs:s.size<=100000)(hn:n=0\/n=1/\u≠[])(hu: ∀x∈u,Txt x): ∃r,cF 158 [kE 13 n s o (x0b a) (Ex.rows u)]=some (.val [.str r])/\tb r=x0f (v7b n s (x1v u))/\r.size<=1000000*(Ex.j0a u+1):=by
 have hl:=x2j u;have core: ∃r,k3f sy eF 13 n s o (x0b a) (Ex.rows u)=some (.val [.str r])/\tb r=x0f (v7b n s (x1v u))/\r.size<=1000000*(Ex.j0a u+1):=by
  have f1:sy.sfit s (bs [40])=true:=sfT (by rw[x1c];simp only[a0b,a0e];omega)
  rcases hn with rfl|⟨rfl,hne⟩
  ·obtain⟨r,h1,h2,h3⟩:=u3x u hz hu;have w0:IntKind.i64.wrap ((u.length:Int) - 0)=((u.length:Nat):Int):=by rw[x0p (by omega) (by omega)];omega
   have c0:decide ((0:Int)<=0/\(0:Int)<=(u.length:Int)/\(u.length:Int)<=(u.length:Int))=true:=a0o ⟨Int.le_refl _,by omega,Int.le_refl _⟩
   have c1:=cut0 u u.length;rw[a0r]at c1;have c1:((Ex.rows u).take (u.length:Int).toNat).drop (0:Int).toNat=Ex.rows u:=c1;have f2:sy.sfit (s++bs [40]) r=true:=sfT (by simp only[ByteArray.size_append,x1c,a0b,a0e];omega)
   have f3:sy.sfit (s++bs [40]++r) (bs [41])=true:=sfT (by simp only[ByteArray.size_append,x1c,a0b,a0e];omega)
   refine⟨s++bs [40]++r++bs [41],?_,?_,?_⟩
   ·simp only[k3f,go1,x0h,f1,w0,c0,c1,h1,f2,f3,Int.reduceEq]
   ·have e:v7b 0 s (x1v u)= [wd (tb s),mk 40]++x1w (x1v u)++[mk 41]:=rfl;rw[e];simp only[x0y,h2,x0r];show tb s++[40]++x0f (x1w (x1v u))++[41]=tb s++[40]++x0f (x1w (x1v u))++[41];rfl
   ·simp only[ByteArray.size_append,x1c,a0b,a0e];omega
  ·obtain⟨v,x,rfl⟩: ∃v x,u=v++[x]:=⟨_,_,(List.dropLast_concat_getLast hne).symm⟩
   have hsz:=x4n x v;have hx1:1<=x.size:=by cases x;simp[Ex.size]
   obtain⟨r,h1,h2,h3⟩:=u3x v (by omega) fun y hy=>hu y (by simp[hy])
   have hxt:=hu x (by simp)
   have hxr:(v++[x])[v.length]? =some x:=by simp
   have hr:=v9h hxr;obtain⟨k2,n2,s2,o2,a2,u2⟩:=x;obtain⟨t,h4,h5,h6⟩:=hxt k2 n2 s2 o2 a2 u2 rfl;have hL:(v++[Ex.mk k2 n2 s2 o2 a2 u2]).length=v.length+1:=by simp
   rw[hL]at hl;have w0:IntKind.i64.wrap (((v.length+1:Nat):Int) - 1)=(v.length:Int):=by rw[x0p (by omega) (by omega)];omega
   have c0:decide ((0:Int)<=0/\(0:Int)<=(v.length:Int)/\(v.length:Int)<=((v.length+1:Nat):Int))=true:=a0o ⟨Int.le_refl _,by omega,by omega⟩
   have c1:=cut0 (v++[Ex.mk k2 n2 s2 o2 a2 u2]) v.length;rw[List.take_left]at c1;have c1:((Ex.rows (v++[Ex.mk k2 n2 s2 o2 a2 u2])).take (v.length:Int).toNat).drop (0:Int).toNat=Ex.rows v:=c1;have i0:decide ((0:Int)<=(v.length:Int)/\(v.length:Int) < ((v.length+1:Nat):Int))=true:=a0o ⟨by omega,by omega⟩
   have f2:sy.sfit (s++bs [40]) r=true:=sfT (by simp only[ByteArray.size_append,x1c,a0b,a0e];omega)
   have f3:sy.sfit (s++bs [40]++r) (bs [41])=true:=sfT (by simp only[ByteArray.size_append,x1c,a0b,a0e];omega)
   have f4:sy.sfit (bs [40]) (s++bs [40]++r++bs [41])=true:=sfT (by simp only[ByteArray.size_append,x1c,a0b,a0e];omega)
   have f5:sy.sfit (bs [40]++(s++bs [40]++r++bs [41])) (bs [32,101,118,101,114,121,32])=true:=sfT (by simp only[ByteArray.size_append,x1c,a0b,a0e];omega)
   have f6:sy.sfit (bs [40]++(s++bs [40]++r++bs [41])++bs [32,101,118,101,114,121,32]) t=true:=sfT (by simp only[ByteArray.size_append,x1c,a0b,a0e];omega)
   have f7:sy.sfit (bs [40]++(s++bs [40]++r++bs [41])++bs [32,101,118,101,114,121,32]++t) (bs [41])=true:=sfT (by simp only[ByteArray.size_append,x1c,a0b,a0e];omega)
   refine⟨bs [40]++(s++bs [40]++r++bs [41])++bs [32,101,118,101,114,121,32]++t++bs [41],?_,?_,?_⟩
   ·simp only[k3f,go1,x0h,hL,f1,w0,c0,c1,h1,f2,f3,f4,f5,i0,hr,Ex.row,h4,f6,f7]
   ·have e:v7b 1 s (x1v (v++[Ex.mk k2 n2 s2 o2 a2 u2]))= [mk 40,wd (tb s),mk 40]++x1w (x1v v)++[mk 41,none,wd y3m,none]++pcs (Ex.mk k2 n2 s2 o2 a2 u2)++[mk 41]:=by
     rw[y8t];show[mk 40,wd (tb s),mk 40]++x1w ((x1v v++[pcs (Ex.mk k2 n2 s2 o2 a2 u2)]).take ((x1v v++[pcs (Ex.mk k2 n2 s2 o2 a2 u2)]).length - 1))++[mk 41,none,wd y3m,none]++(x1v v++[pcs (Ex.mk k2 n2 s2 o2 a2 u2)]).getD ((x1v v++[pcs (Ex.mk k2 n2 s2 o2 a2 u2)]).length - 1) []++[mk 41]=_;have t1:(x1v v++[pcs (Ex.mk k2 n2 s2 o2 a2 u2)]).length - 1=(x1v v).length:=by simp
     rw[t1,List.take_left,a0i,List.getElem?_concat_length];rfl
    rw[e];simp only[x0y,h2,h5,x0r];have r1:x0f [mk 40,wd (tb s),mk 40]= [40]++(tb s++[40]):=rfl;have r2:x0f [mk 41,none,wd y3m,none]= [41]++[32,101,118,101,114,121,32]:=rfl;have r3:x0f [mk 41]= [41]:=rfl;have q1:tb (bs [40])= [40]:=rfl;have q2:tb (bs [41])= [41]:=rfl;have q3:tb (bs [32,101,118,101,114,121,32])= [32,101,118,101,114,121,32]:=rfl;rw[r1,r2,r3,q1,q2,q3];simp only[List.append_assoc]
   ·simp only[ByteArray.size_append,x1c,a0b,a0e];omega
 obtain⟨r,h1,h2⟩:=core;exact⟨r,cO rfl ((q0h _ _ _ _ _ _ _ _).trans h1),h2⟩
def tot (ts:List BA):Nat:=(ts.map ByteArray.size).sum
def z4h (ts:List BA)(t:BA):tot (ts++[t])=tot ts+t.size:=by simp[tot]
structure TS' (u:List Ex) (ts:List BA):Prop where
 m:ts.map tb=u.map fun x=>x0f (pcs x)
 z:tot ts<=1000000*Ex.j0a u
def TS'.l1 {x:Ex}{ts:List BA}(h:TS' [x] ts): ∃t,ts= [t]/\tb t=x0f (pcs x)/\t.size<=1000000*x.size:=by
 have hl:ts.length=1:=by simpa using congrArg List.length h.m
 match ts,hl,h.m,h.z with
 | [t],_,m,z=>
   simp only[a1o,a1x,List.cons.injEq]at m;simp[tot,Ex.j0a]at z;exact⟨t,rfl,m.1,by omega⟩
def TS'.l2 {x y:Ex}{ts:List BA}(h:TS' [x,y] ts): ∃t v,ts= [t,v]/\tb t=x0f (pcs x)/\tb v=x0f (pcs y)/\t.size+v.size<=1000000*(x.size+y.size):=by
 have hl:ts.length=2:=by simpa using congrArg List.length h.m
 match ts,hl,h.m,h.z with
 | [t,v],_,m,z=>
   simp only[a1o,a1x,List.cons.injEq]at m;simp[tot,Ex.j0a]at z;exact⟨t,v,rfl,m.1,m.2.1,by omega⟩
def TS'.l3 {x y z:Ex}{ts:List BA}(h:TS' [x,y,z] ts): ∃t v w,ts= [t,v,w]/\tb t=x0f (pcs x)/\tb v=x0f (pcs y)/\tb w=x0f (pcs z)/\t.size+v.size+w.size<=1000000*(x.size+y.size+z.size):=by
 have hl:ts.length=3:=by simpa using congrArg List.length h.m
 match ts,hl,h.m,h.z with
 | [t,v,w],_,m,z=>
   simp only[a1o,a1x,List.cons.injEq]at m;simp[tot,Ex.j0a]at z;exact⟨t,v,w,rfl,m.1,m.2.1,m.2.2.1,by omega⟩
def z3h (a:BA)(x:Pc): ∀(ar:List BA) (t:List Pc),ar.length=t.length->x0f (x1g (ar++[a]) (t++[x]))=x0f (x1g ar t)++[32,40]++tb a++[32,45,62,32]++x0f x++[41]
 | [],[],_=>by
   have hw:T.w ⟨if x3h (tb a)then 2 else 1,tb a,0⟩=tb a:=by
    unfold T.w;rw[if_neg (by simp only;split<;>decide)]
   have e:x1g ([]++[a]) ([]++[x])= [none,mk 40,v8s a,none,m2 45 62,none]++x++[mk 41]++x1g [] []:=rfl;have e2:x1g [] []= []:=by unfold x1g;rfl
   rw[e,e2];simp only[x0r,a0y];have:x0f [none,mk 40,v8s a,none,m2 45 62,none]= [32,40]++(T.w ⟨if x3h (tb a)then 2 else 1,tb a,0⟩++[32,45,62,32]):=rfl;rw[this,hw];show[32,40]++(tb a++[32,45,62,32])++x0f x++[41]= []++[32,40]++tb a++[32,45,62,32]++x0f x++[41];simp only[List.append_assoc,a0h]
 |b::ar,y::t,h=>by
  have ih:=z3h a x ar t (by simpa using h)
  simp only[a0d,x1g];simp only[<-a0d,x0r,ih];simp only[List.append_assoc]
 | [],_::_,h=>by simp at h
 |_::_,[],h=>by simp at h
def v7n: ∀(m:Nat) (k n:Int) (s:BA) (o:Int) (a:List BA) (u:List Ex),(Ex.mk k n s o a u).size<=m->m<=1000->y1y (.mk k n s o a u)=true->(Ex.mk k n s o a u).j1f->(Ex.mk k n s o a u).rng->
  ∃r,cF 120 [kE k n s o (x0b a) (Ex.rows u)]=some (.val [.str r])/\tb r=x0f (pcs (.mk k n s o a u))/\r.size<=1000000*(Ex.mk k n s o a u).size
 |0,k,n,s,o,a,u,h,_,_,_,_=>by simp only[Ex.size]at h;omega
 |m+1,k,n,s,o,a,u,h,hm,hall,hfine,hrng=>by
  have hz:Ex.j0a u<=m:=by simp only[Ex.size]at h;omega
  have hl:=x2j u;obtain⟨⟨fs,fa,fal⟩,fu⟩:=hfine;obtain⟨rn,ru⟩:=hrng;simp only[y1y,a0g]at hall;obtain⟨hpart,hu⟩:=hall;have hT: ∀x∈u,Txt x:=fun x hx=>by
   rintro k2 n2 s2 o2 a2 u2 rfl
   obtain⟨i,hi⟩:=List.getElem?_of_mem hx;have h1:=x3u hi;have h2:=y7m hi fu;have h3:y1y (.mk k2 n2 s2 o2 a2 u2)=true:=by
    have: ∀ {l:List Ex},y4a l=true-> ∀x∈l,y1y x=true:=by
     intro l
     induction l with
     |nil=>intro _ x h;cases h
     |cons y l ih=>
      intro h x hx;simp only[y4a,a0g]at h;rcases a1n.1 hx with rfl|hx
      ·exact h.1
      ·exact ih h.2 x hx
    exact this hu _ hx
   have h4:(Ex.mk k2 n2 s2 o2 a2 u2).rng:=by
    have: ∀ {l:List Ex},Ex.j2h l-> ∀x∈l,x.rng:=by
     intro l
     induction l with
     |nil=>intro _ x h;cases h
     |cons y l ih=>
      intro h x hx;rcases a1n.1 hx with rfl|hx
      ·exact h.1
      ·exact ih h.2 x hx
    exact this ru _ hx
   exact v7n m k2 n2 s2 o2 a2 u2 (by omega) (by omega) h3 h2 h4
  have core: ∃p,k5u sy eF k n s o (x0b a) (Ex.rows u)=some p/\ ∃r,p= .val [.str r]/\tb r=x0f (pcK k n s o a (x1v u))/\r.size<=1000000*(Ex.j0a u+1):=by
   unfold k5u;refine x2l (fun x:Nat × List BA=>[.int .i64 (x.1:Int), .int .i64 k, .int .i64 n, .str s, .int .i64 o, .sl 1 (x0b a), .sl 6 (Ex.rows u), .sl 1 (x0b x.2)]) (fun x=>x.1<=u.length/\x.2.length=x.1/\TS' (u.take x.1) x.2) (fun x=>u.length - x.1) (fun x hx=> ?_) (0,[]) ⟨a0t _,rfl,⟨by simp,by simp[tot]⟩⟩
   obtain⟨i,ts⟩:=x;obtain⟨h1,hti,hts⟩:=hx;simp only at h1 hti hts ⊢
   by_cases hlt:i < u.length
   ·left
    have hx:=a0a hlt;have ht:=hT u[i] (a1i hlt);have htk:u.take (i+1)=u.take i++[u[i]]:=by rw[a1d,hx];rfl
    generalize u[i]=e at hx ht htk;have hr:=v9h hx;obtain⟨k2,n2,s2,o2,a2,u2⟩:=e;obtain⟨t,h4,h5,h6⟩:=ht k2 n2 s2 o2 a2 u2 rfl;have w1:IntKind.i64.wrap ((i:Int)+1)=((i+1:Nat):Int):=by rw[x0p (by omega) (by omega)];omega
    have l0:=x0l hlt;have i0:=x0k hlt;have fit:decide (((x0b ts).length+[[D.str t]].length)*(16+1)<=140737488355328)=true:=a0o (by rw[x0c];simp only[a0b,a0e];omega)
    refine⟨(i+1,ts++[t]),?_,⟨hlt,by simp[hti],?_,?_⟩,by simp only;omega⟩
    ·have e1:x0b ts++[[D.str t]]=x0b (ts++[t]):=by rw[<-y2x];rfl
     simp only[go1,x0h,l0,i0,hr,Ex.row,oE,h4,fit,e1,w1]
    ·simp only;rw[htk,List.map_append,List.map_append,hts.m];simp[h5]
    ·simp only;rw[htk,z4h,x4n];have:=hts.z;omega
   ·right
    have:i=u.length:=by omega
    subst this;rw[a0r]at hts;have hpart0:=hpart;unfold y0f at hpart;simp only[a0g]at hpart;obtain⟨hk,h1,h2,h3,h4,h5,h6,h7⟩:=hpart;have h5:=a0f h5;have h6:=a0f h6;have l0:decide (((u.length:Nat):Int) < (u.length:Int))=false:=x0g _;rcases w1d k hk with rfl|rfl|rfl|rfl|rfl|rfl|rfl|rfl|rfl|rfl|rfl|rfl|rfl|rfl|rfl|rfl|rfl
    · -- 1
      obtain⟨r,q1,q2,q3⟩:=z0y 1 n s o (x0b a) (Ex.rows u) (fun _=>⟨a0f h1,rn⟩) fs (by decide)
      refine⟨_,?_,r,rfl,q2,by omega⟩
      simp only[go1,oE,x0h,l0,Int.reduceEq,q1]
    · -- 2
      obtain⟨r,q1,q2,q3⟩:=z0y 2 n s o (x0b a) (Ex.rows u) (fun h=>by cases h) fs (by decide)
      refine⟨_,?_,r,rfl,q2,by omega⟩
      simp only[go1,oE,x0h,l0,Int.reduceEq,q1]
    · -- 3
      obtain⟨r,q1,q2,q3⟩:=z0y 3 n s o (x0b a) (Ex.rows u) (fun h=>by cases h) fs (by decide)
      refine⟨_,?_,r,rfl,q2,by omega⟩
      simp only[go1,oE,x0h,l0,Int.reduceEq,q1]
    · -- 4
      obtain⟨r,q1,q2,q3⟩:=z0y 4 n s o (x0b a) (Ex.rows u) (fun h=>by cases h) fs (by decide)
      refine⟨_,?_,r,rfl,q2,by omega⟩
      simp only[go1,oE,x0h,l0,Int.reduceEq,q1]
    · -- 5
      have hlu:u.length=1:=by simp[hiB,loB]at h5 h6;omega
      match u,hlu,hts,l0 with
      | [x],_,hts,l0=>
        obtain⟨t,rfl,q0,hb⟩:=hts.l1;simp only[Ex.j0a]at hz ⊢;have c0:sy.cell (sy.rown (x0b [t]) 0) 0=some (.str t):=rfl;have c0':sy.cell (sy.rown (x0b [t]) (Int.toNat 0)) 0=some (.str t):=rfl;have i0:decide ((0:Int)<=0/\(0:Int) < ((x0b [t]).length:Int))=true:=rfl
        by_cases ho:o=1
        ·subst ho;refine⟨_,?_,bs [40,45]++t++bs [41],rfl,?_,?_⟩
         ·simp (disch:=(simp only[ByteArray.size_append,x1c,a0b,a0e];omega)) only [go1,oE,x0h,l0,sfT,Int.reduceEq,c0',i0]
         ·show _=x0f ([mk 40,mk 45]++pcs x++[mk 41]);simp only[x0y,x0r,List.append_assoc,q0];rfl
         ·simp only[ByteArray.size_append,x1c,a0b,a0e];omega
        ·have e:pcK 5 n s o a (x1v [x])= [mk 40,wd v1h,none]++pcs x++[mk 41]:=by unfold pcK;rw[if_pos rfl,if_neg ho];rfl
         rw[e];have ho:=decide_eq_false ho;refine⟨_,?_,bs [40,110,111,116,32]++t++bs [41],rfl,?_,?_⟩
         ·simp (disch:=(simp only[ByteArray.size_append,x1c,a0b,a0e];omega)) only [go1,oE,x0h,l0,sfT,Int.reduceEq,c0',i0,ho]
         ·show _=x0f ([mk 40,wd v1h,none]++pcs x++[mk 41]);simp only[x0y,x0r,List.append_assoc,q0];rfl
         ·simp only[ByteArray.size_append,x1c,a0b,a0e];omega
    · -- 6
      have hlu:u.length=2:=by simp[hiB,loB]at h5 h6;omega
      match u,hlu,hts,l0 with
      | [x,y],_,hts,l0=>
        obtain⟨t,v,rfl,q0,q1,hb⟩:=hts.l2;simp only[Ex.j0a]at hz ⊢;have ho:3<=o/\o<=16:=by simpa[u2g]using h3
        obtain⟨o,rfl⟩: ∃q:Nat,o=(q:Int):=⟨o.toNat,by omega⟩
        have hsg:=q2w o (by omega) (by omega)
        have hss:(y0n o).size<=3:=by
         have h1:3<=o:=by omega
         have h2:o<=16:=by omega
         match o,h1,h2 with
         |3,_,_|4,_,_|5,_,_|6,_,_|7,_,_|8,_,_|9,_,_|10,_,_|11,_,_|12,_,_|13,_,_|14,_,_|15,_,_|16,_,_=>decide
         |o+17,_,h=>omega
        have qx:x0f [none,opK o,none]= [32]++(tb (y0n o)++[32]):=by
         show 32::(T.w ⟨if 7<=o/\o<=10 then 1 else 5,tb (y0n o),0⟩++[32])=_;unfold T.w;rw[if_neg (by simp only;split<;>decide)]
         rfl
        have c0:sy.cell (sy.rown (x0b [t,v]) 0) 0=some (.str t):=rfl;have c0':sy.cell (sy.rown (x0b [t,v]) (Int.toNat 0)) 0=some (.str t):=rfl;have i0:decide ((0:Int)<=0/\(0:Int) < ((x0b [t,v]).length:Int))=true:=rfl;have c1:sy.cell (sy.rown (x0b [t,v]) 1) 0=some (.str v):=rfl;have c1':sy.cell (sy.rown (x0b [t,v]) (Int.toNat 1)) 0=some (.str v):=rfl;have i1:decide ((0:Int)<=1/\(1:Int) < ((x0b [t,v]).length:Int))=true:=rfl;refine⟨_,?_,bs [40]++t++bs [32]++y0n o++bs [32]++v++bs [41],rfl,?_,?_⟩
        ·simp (disch:=(simp only[ByteArray.size_append,x1c,a0b,a0e];omega)) only [go1,oE,x0h,l0,sfT,Int.reduceEq,c0',i0,c1',i1,hsg]
        ·show _=x0f ([mk 40]++pcs x++[none,opK o,none]++pcs y++[mk 41]);simp only[x0y,x0r,List.append_assoc,q0,q1,qx];rfl
        ·simp only[ByteArray.size_append,x1c,a0b,a0e];omega
    · -- 7
      have hlu:u.length=3:=by simp[hiB,loB]at h5 h6;omega
      match u,hlu,hts,l0 with
      | [x,y,z],_,hts,l0=>
        obtain⟨t,v,w,rfl,q0,q1,q2,hb⟩:=hts.l3;simp only[Ex.j0a]at hz ⊢;have c0:sy.cell (sy.rown (x0b [t,v,w]) 0) 0=some (.str t):=rfl;have c0':sy.cell (sy.rown (x0b [t,v,w]) (Int.toNat 0)) 0=some (.str t):=rfl;have i0:decide ((0:Int)<=0/\(0:Int) < ((x0b [t,v,w]).length:Int))=true:=rfl;have c1:sy.cell (sy.rown (x0b [t,v,w]) 1) 0=some (.str v):=rfl;have c1':sy.cell (sy.rown (x0b [t,v,w]) (Int.toNat 1)) 0=some (.str v):=rfl;have i1:decide ((0:Int)<=1/\(1:Int) < ((x0b [t,v,w]).length:Int))=true:=rfl;have c2:sy.cell (sy.rown (x0b [t,v,w]) 2) 0=some (.str w):=rfl;have c2':sy.cell (sy.rown (x0b [t,v,w]) (Int.toNat 2)) 0=some (.str w):=rfl;have i2:decide ((0:Int)<=2/\(2:Int) < ((x0b [t,v,w]).length:Int))=true:=rfl;refine⟨_,?_,bs [40,105,102,32]++t++bs [32,116,104,101,110,32]++v++bs [32,101,108,115,101,32]++w++bs [41],rfl,?_,?_⟩
        ·simp (disch:=(simp only[ByteArray.size_append,x1c,a0b,a0e];omega)) only [go1,oE,x0h,l0,sfT,Int.reduceEq,c0',i0,c1',i1,c2',i2]
        ·show _=x0f ([mk 40,wd kIf,none]++pcs x++[none,wd u2v,none]++pcs y++[none,wd u2x,none]++pcs z++[mk 41]);simp only[x0y,x0r,List.append_assoc,q0,q1,q2];rfl
        ·simp only[ByteArray.size_append,x1c,a0b,a0e];omega
    · -- 8
      have hlu:u.length=2:=by simp[hiB,loB]at h5 h6;omega
      match u,hlu,hts,l0 with
      | [x,y],_,hts,l0=>
        obtain⟨t,v,rfl,q0,q1,hb⟩:=hts.l2;simp only[Ex.j0a]at hz ⊢;have c0:sy.cell (sy.rown (x0b [t,v]) 0) 0=some (.str t):=rfl;have c0':sy.cell (sy.rown (x0b [t,v]) (Int.toNat 0)) 0=some (.str t):=rfl;have i0:decide ((0:Int)<=0/\(0:Int) < ((x0b [t,v]).length:Int))=true:=rfl;have c1:sy.cell (sy.rown (x0b [t,v]) 1) 0=some (.str v):=rfl;have c1':sy.cell (sy.rown (x0b [t,v]) (Int.toNat 1)) 0=some (.str v):=rfl;have i1:decide ((0:Int)<=1/\(1:Int) < ((x0b [t,v]).length:Int))=true:=rfl;refine⟨_,?_,bs [40]++t++bs [32,102,98,121,32]++v++bs [41],rfl,?_,?_⟩
        ·simp (disch:=(simp only[ByteArray.size_append,x1c,a0b,a0e];omega)) only [go1,oE,x0h,l0,sfT,Int.reduceEq,c0',i0,c1',i1]
        ·show _=x0f ([mk 40]++pcs x++[none,wd v9c,none]++pcs y++[mk 41]);simp only[x0y,x0r,List.append_assoc,q0,q1];rfl
        ·simp only[ByteArray.size_append,x1c,a0b,a0e];omega
    · -- 9
      have hlu:u.length=2:=by simp[hiB,loB]at h5 h6;omega
      match u,hlu,hts,l0 with
      | [x,y],_,hts,l0=>
        obtain⟨t,v,rfl,q0,q1,hb⟩:=hts.l2;simp only[Ex.j0a]at hz ⊢;have c0:sy.cell (sy.rown (x0b [t,v]) 0) 0=some (.str t):=rfl;have c0':sy.cell (sy.rown (x0b [t,v]) (Int.toNat 0)) 0=some (.str t):=rfl;have i0:decide ((0:Int)<=0/\(0:Int) < ((x0b [t,v]).length:Int))=true:=rfl;have c1:sy.cell (sy.rown (x0b [t,v]) 1) 0=some (.str v):=rfl;have c1':sy.cell (sy.rown (x0b [t,v]) (Int.toNat 1)) 0=some (.str v):=rfl;have i1:decide ((0:Int)<=1/\(1:Int) < ((x0b [t,v]).length:Int))=true:=rfl;refine⟨_,?_,bs [40]++t++bs [32,45,62,32]++v++bs [41],rfl,?_,?_⟩
        ·simp (disch:=(simp only[ByteArray.size_append,x1c,a0b,a0e];omega)) only [go1,oE,x0h,l0,sfT,Int.reduceEq,c0',i0,c1',i1]
        ·show _=x0f ([mk 40]++pcs x++[none,m2 45 62,none]++pcs y++[mk 41]);simp only[x0y,x0r,List.append_assoc,q0,q1];rfl
        ·simp only[ByteArray.size_append,x1c,a0b,a0e];omega
    · -- 10
      have hlu:u.length=1:=by simp[hiB,loB]at h5 h6;omega
      match u,hlu,hts,l0 with
      | [x],_,hts,l0=>
        obtain⟨t,rfl,q0,hb⟩:=hts.l1;simp only[Ex.j0a]at hz ⊢;have c0:sy.cell (sy.rown (x0b [t]) 0) 0=some (.str t):=rfl;have c0':sy.cell (sy.rown (x0b [t]) (Int.toNat 0)) 0=some (.str t):=rfl;have i0:decide ((0:Int)<=0/\(0:Int) < ((x0b [t]).length:Int))=true:=rfl;refine⟨_,?_,bs [40,112,114,101,32]++t++bs [41],rfl,?_,?_⟩
        ·simp (disch:=(simp only[ByteArray.size_append,x1c,a0b,a0e];omega)) only [go1,oE,x0h,l0,sfT,Int.reduceEq,c0',i0]
        ·show _=x0f ([mk 40,wd w4t,none]++pcs x++[mk 41]);simp only[x0y,x0r,List.append_assoc,q0];rfl
        ·simp only[ByteArray.size_append,x1c,a0b,a0e];omega
    · -- 11
      have hlu:u.length=1:=by simp[hiB,loB]at h5 h6;omega
      match u,hlu,hts,l0 with
      | [x],_,hts,l0=>
        obtain⟨t,rfl,q0,hb⟩:=hts.l1;simp only[Ex.j0a]at hz ⊢;have hla:a.length=1:=by
         unfold y1e at h4;simp only[a0g]at h4;exact a0f h4.2
        obtain⟨ar,rfl⟩: ∃ar,a= [ar]:=List.length_eq_one_iff.1 hla
        obtain⟨g,g1,qx,g3⟩:=k1k s ar fs (fa ar (by simp))
        have ca:sy.cell (sy.row (x0b [ar]) 0) 0=some (.str ar):=rfl;have ia:decide ((0:Int)<=0/\(0:Int) < ((x0b [ar]).length:Int))=true:=rfl;have c0:sy.cell (sy.rown (x0b [t]) 0) 0=some (.str t):=rfl;have c0':sy.cell (sy.rown (x0b [t]) (Int.toNat 0)) 0=some (.str t):=rfl;have i0:decide ((0:Int)<=0/\(0:Int) < ((x0b [t]).length:Int))=true:=rfl;refine⟨_,?_,bs [40]++t++bs [32,119,104,101,110,32]++g++bs [41],rfl,?_,?_⟩
        ·simp (disch:=(simp only[ByteArray.size_append,x1c,a0b,a0e];omega)) only [go1,oE,x0h,l0,sfT,Int.reduceEq,c0',i0,ca,ia,g1]
        ·show _=x0f ([mk 40]++pcs x++[none,wd y3l,none]++onP s ar++[mk 41]);simp only[x0y,x0r,List.append_assoc,q0,qx];rfl
        ·simp only[ByteArray.size_append,x1c,a0b,a0e];omega
    · -- 12
      have hla:a.length=u.length:=by simp[hiB,loB]at h5 h6;omega
      have f0:sy.sfit (bs [40,109,101,114,103,101,32]) s=true:=sfT (by simp only[ByteArray.size_append,x1c,a0b,a0e];omega)
      have tl:ts.length=u.length:=by simpa using congrArg List.length hts.m
      have k12: ∃p,x6d (fun ds39=>
        (opS (sy.cell ds39 0)).bind fun s40=>
        (opI (sy.cell ds39 1) .i64).bind fun n41=>
        oE sy ds39 2 fun n42 n43 s44 n45 l46 l47=>
        (opL (sy.cell ds39 8) 1).bind fun l48=>
        bif (sy.ilt n41 (sy.rlen l48))then
         bif (sy.sfit s40 (bs [32,40]))then
          bif (sy.inr n41 (sy.rlen l46))then
           (opS (sy.cell (sy.row l46 n41) 0)).bind fun s49=>
           bif (sy.sfit (sy.sapp s40 (bs [32,40])) s49)then
            bif (sy.sfit (sy.sapp (sy.sapp s40 (bs [32,40])) s49) (bs [32,45,62,32]))then
             bif (sy.inr n41 (sy.rlen l48))then
              (opS (sy.cell (sy.rown l48 (sy.nat n41)) 0)).bind fun s50=>
              bif (sy.sfit (sy.sapp (sy.sapp (sy.sapp s40 (bs [32,40])) s49) (bs [32,45,62,32])) s50)then
               bif (sy.sfit (sy.sapp (sy.sapp (sy.sapp (sy.sapp s40 (bs [32,40])) s49) (bs [32,45,62,32])) s50) (bs [41]))then
                some (.inl [(.str (sy.sapp (sy.sapp (sy.sapp (sy.sapp (sy.sapp s40 (bs [32,40])) s49) (bs [32,45,62,32])) s50) (bs [41]))),(.int .i64 (sy.wrap .i64 (sy.add n41 1))),(.int .i64 n42),(.int .i64 n43),(.str s44),(.int .i64 n45),(.sl 1 l46),(.sl 6 l47),(.sl 1 l48)])
               else
                none
              else
               none
             else
              none
            else
             none
           else
            none
          else
           none
         else
          none
        else
         bif (sy.sfit s40 (bs [41]))then
          some (.inr ((.inr (PRes.val [(.str (sy.sapp s40 (bs [41])))])):List D ⊕ PRes))
         else
          none
       ) [(.str (sy.sapp (bs [40,109,101,114,103,101,32]) s)),(.int .i64 0),(.int .i64 12),(.int .i64 n),(.str s),(.int .i64 o),(.sl 1 (x0b a)),(.sl 6 (Ex.rows u)),(.sl 1 (x0b ts))]=some p/\ ∃r,p= .inr (.val [.str r])/\tb r=x0f (pcK 12 n s o a (x1v u))/\r.size<=1000000*(Ex.j0a u+1):=by
       refine x2l (fun x:Nat × BA=>[.str x.2, .int .i64 (x.1:Int), .int .i64 12, .int .i64 n, .str s, .int .i64 o, .sl 1 (x0b a), .sl 6 (Ex.rows u), .sl 1 (x0b ts)]) (fun x=>x.1<=u.length/\tb x.2= [40,109,101,114,103,101,32]++tb s++x0f (x1g (a.take x.1) (x1v (u.take x.1)))/\x.2.size<=100007+tot (ts.take x.1)+100010*x.1) (fun x=>u.length - x.1) (fun x hx=> ?_) (0,bs [40,109,101,114,103,101,32]++s) ⟨a0t _,?_,?_⟩
       ·obtain⟨i,r⟩:=x;obtain⟨g1,g2,g3⟩:=hx;simp only at g1 g2 g3 ⊢
        by_cases hlt:i < u.length
        ·left
         have hla':i < a.length:=by omega
         have hlt':i < ts.length:=by omega
         have ha:=a0a hla';have ht:=a0a hlt';have hx:=a0a hlt;have htx:tb ts[i]=x0f (pcs u[i]):=by
          have:=congrArg (fun l=>l[i]?) hts.m
          simp only[a0m,ht,hx,Option.map_some,Option.some.injEq]at this;exact this
         have az:a[i].size<=100000:=fa _ (a1i hla');have tk1:ts.take (i+1)=ts.take i++[ts[i]]:=by rw[a1d,ht];rfl
         have tk2:a.take (i+1)=a.take i++[a[i]]:=by rw[a1d,ha];rfl
         have tk3:u.take (i+1)=u.take i++[u[i]]:=by rw[a1d,hx];rfl
         have tz:tot (ts.take i)+ts[i].size<=tot ts:=by
          have e:tot ts=tot (ts.take (i+1))+tot (ts.drop (i+1)):=by
           unfold tot;rw[<-List.sum_append,<-List.map_append,a1w]
          rw[tk1,z4h]at e;omega
         have ttz:=hts.z;generalize a[i]=aa at ha az tk2;generalize ts[i]=tt at ht htx tk1 tz;generalize u[i]=xx at hx htx tk3;have ca:=x1j ha;have ct:sy.cell (sy.rown (x0b ts) i) 0=some (.str tt):=by
          show sy.cell ((x0b ts).getD i []) 0=_;rw[a0i];simp[x0b,v9y,ht];rfl
         have w1:IntKind.i64.wrap ((i:Int)+1)=((i+1:Nat):Int):=by rw[x0p (by omega) (by omega)];omega
         have l1:decide ((i:Int) < (ts.length:Int))=true:=x0l hlt';have i1:decide ((0:Int)<=(i:Int)/\(i:Int) < (ts.length:Int))=true:=x0k hlt';have i2:decide ((0:Int)<=(i:Int)/\(i:Int) < (a.length:Int))=true:=x0k hla';refine⟨(i+1,r++bs [32,40]++aa++bs [32,45,62,32]++tt++bs [41]),?_,⟨hlt,?_,?_⟩,by simp only;omega⟩
         ·simp (disch:=(simp only[ByteArray.size_append,x1c,a0b,a0e];omega)) only [go1,oE,x0c,l1,i1,i2,ca,ct,w1,sfT,a0n]
         ·simp only;rw[tk2,tk3,y8t,z3h _ _ _ _ (by rw[z4u,a1q,a1q];omega)]
          simp only[x0y,g2,htx,List.append_assoc];rfl
         ·simp only;rw[tk1,z4h];simp only[ByteArray.size_append,x1c,a0b,a0e];omega
        ·right
         have:i=u.length:=by omega
         subst this;have l1:decide (((u.length:Nat):Int) < (ts.length:Int))=false:=by rw[tl];exact x0g _
         have ttz:=hts.z;rw[<-tl,a0r]at g3;rw[<-hla,a0r,hla,a0r]at g2;refine⟨_,?_,r++bs [41],rfl,?_,?_⟩
         ·simp (disch:=(simp only[ByteArray.size_append,x1c,a0b,a0e];omega)) only [go1,oE,x0c,l1,sfT]
         ·show _=x0f ([mk 40,wd y5w,none,wd (tb s)]++x1g a (x1v u)++[mk 41]);simp only[x0y,g2,x0r,List.append_assoc];have:x0f [mk 40,wd y5w,none,wd (tb s)]= [40,109,101,114,103,101,32]++(tb s++[]):=rfl;rw[this];simp only[List.append_assoc,a0y];rfl
         ·simp only[ByteArray.size_append,x1c,a0b,a0e];have:1<=a.length:=by
           unfold y1e at h4;simp only[a0g]at h4;have:=h4.2;simp only[show decide ((12:Int)=11)=false from rfl,cond_false,decide_true,cond_true,a0g]at this;exact a0f this.1
          have:u.length<=6:=by
           unfold y1e at h4;simp only[a0g]at h4;have:=h4.2;simp only[show decide ((12:Int)=11)=false from rfl,cond_false,decide_true,cond_true,a0g]at this;have:=a0f this.2.1;omega
          omega
       ·show tb (bs [40,109,101,114,103,101,32]++s)=_++_++x0f (x1g (a.take 0) (x1v (u.take 0)));have:x1g (a.take 0) (x1v (u.take 0))= []:=by unfold x1g;rfl
        rw[this,x0y];simp only[x0f,a0y];rfl
       ·show(bs [40,109,101,114,103,101,32]++s).size<=_;simp only[ByteArray.size_append,x1c,a0b,a0e];omega
      obtain⟨p,g1,r,rfl,g2,g3⟩:=k12;refine⟨_,?_,r,rfl,g2,g3⟩;simp only[go1,oE,x0h,l0,Int.reduceEq,f0];simp only[u1x]at g1
      first|exact g1|(simp only[go1,oE]at g1;exact g1)
    · -- 13
      have hn:n=0\/n=1:=by simpa[u2k]using h1
      obtain⟨r,q1,q2,q3⟩:=q2t n s o a u (by omega) fs (by
       rcases hn with rfl|rfl
       ·exact .inl rfl
       ·refine .inr ⟨rfl,?_⟩
        rintro rfl
        simp[loB]at h5) hT
      refine⟨_,?_,r,rfl,q2,q3⟩;simp only[go1,oE,x0h,l0,Int.reduceEq,q1]
    · -- 14
      obtain⟨r,q1,q2,q3⟩:=u3x u (by omega) hT
      refine⟨_,?_,bs [91]++r++bs [93],rfl,?_,?_⟩
      ·simp (disch:=(simp only[ByteArray.size_append,x1c,a0b,a0e];omega)) only [go1,oE,x0h,l0,Int.reduceEq,q1,sfT]
      ·show _=x0f ([mk 91]++x1w (x1v u)++[mk 93]);simp only[x0y,x0r,List.append_assoc,q2];rfl
      ·simp only[ByteArray.size_append,x1c,a0b,a0e];omega
    · -- 15
      have hlu:u.length=2:=by simp[hiB,loB]at h5 h6;omega
      match u,hlu,hts,l0 with
      | [x,y],_,hts,l0=>
        obtain⟨t,v,rfl,q0,q1,hb⟩:=hts.l2;simp only[Ex.j0a]at hz ⊢;have c0:sy.cell (sy.rown (x0b [t,v]) 0) 0=some (.str t):=rfl;have c0':sy.cell (sy.rown (x0b [t,v]) (Int.toNat 0)) 0=some (.str t):=rfl;have i0:decide ((0:Int)<=0/\(0:Int) < ((x0b [t,v]).length:Int))=true:=rfl;have c1:sy.cell (sy.rown (x0b [t,v]) 1) 0=some (.str v):=rfl;have c1':sy.cell (sy.rown (x0b [t,v]) (Int.toNat 1)) 0=some (.str v):=rfl;have i1:decide ((0:Int)<=1/\(1:Int) < ((x0b [t,v]).length:Int))=true:=rfl;refine⟨_,?_,t++bs [91]++v++bs [93],rfl,?_,?_⟩
        ·simp (disch:=(simp only[ByteArray.size_append,x1c,a0b,a0e];omega)) only [go1,oE,x0h,l0,sfT,Int.reduceEq,c0',i0,c1',i1]
        ·show _=x0f (pcs x++[mk 91]++pcs y++[mk 93]);simp only[x0y,x0r,List.append_assoc,q0,q1];rfl
        ·simp only[ByteArray.size_append,x1c,a0b,a0e];omega
    · -- 16
      have hlu:u.length=3:=by simp[hiB,loB]at h5 h6;omega
      match u,hlu,hts,l0 with
      | [x,y,z],_,hts,l0=>
        obtain⟨t,v,w,rfl,q0,q1,q2,hb⟩:=hts.l3;simp only[Ex.j0a]at hz ⊢;have c0:sy.cell (sy.rown (x0b [t,v,w]) 0) 0=some (.str t):=rfl;have c0':sy.cell (sy.rown (x0b [t,v,w]) (Int.toNat 0)) 0=some (.str t):=rfl;have i0:decide ((0:Int)<=0/\(0:Int) < ((x0b [t,v,w]).length:Int))=true:=rfl;have c1:sy.cell (sy.rown (x0b [t,v,w]) 1) 0=some (.str v):=rfl;have c1':sy.cell (sy.rown (x0b [t,v,w]) (Int.toNat 1)) 0=some (.str v):=rfl;have i1:decide ((0:Int)<=1/\(1:Int) < ((x0b [t,v,w]).length:Int))=true:=rfl;have c2:sy.cell (sy.rown (x0b [t,v,w]) 2) 0=some (.str w):=rfl;have c2':sy.cell (sy.rown (x0b [t,v,w]) (Int.toNat 2)) 0=some (.str w):=rfl;have i2:decide ((0:Int)<=2/\(2:Int) < ((x0b [t,v,w]).length:Int))=true:=rfl;refine⟨_,?_,bs [40]++t++bs [32,119,105,116,104,32,91]++v++bs [93,32,61,32]++w++bs [41],rfl,?_,?_⟩
        ·simp (disch:=(simp only[ByteArray.size_append,x1c,a0b,a0e];omega)) only [go1,oE,x0h,l0,sfT,Int.reduceEq,c0',i0,c1',i1,c2',i2]
        ·show _=x0f ([mk 40]++pcs x++[none,wd u2u,none,mk 91]++pcs y++[mk 93,none,mk 61,none]++pcs z++[mk 41]);simp only[x0y,x0r,List.append_assoc,q0,q1,q2];rfl
        ·simp only[ByteArray.size_append,x1c,a0b,a0e];omega
    · -- 17
      obtain⟨r,q1,q2,q3⟩:=z0y 17 n s o (x0b a) (Ex.rows u) (fun h=>by cases h) fs (by decide)
      refine⟨_,?_,r,rfl,q2,by omega⟩
      simp only[go1,oE,x0h,l0,Int.reduceEq,q1]
  obtain⟨p,h1,r,rfl,h2,h3⟩:=core;refine⟨r,cO rfl ((q1d _ _ _ _ _ _ _ _).trans h1),by rw[pcs];exact h2,?_⟩
  simp only[Ex.size];exact h3
def jnS (b:List Nat):List (List Nat)->List Nat
 | []=>[]
 |x::r=>b++x++jnS b r
def jnT (b:List Nat):List (List Nat)->List Nat
 | []=>[]
 |x::r=>x++jnS b r
def u6j (b x:List Nat): ∀r,jnS b (r++[x])=jnS b r++(b++x)
 | []=>by simp[jnS]
 |y::r=>by simp only[a0d,jnS,u6j b x r,List.append_assoc]
def u6i (b x:List Nat){r:List (List Nat)}(h:r≠[]):jnT b (r++[x])=jnT b r++(b++x):=by
 obtain⟨y,r,rfl⟩:=List.exists_cons_of_ne_nil h;simp only[a0d,jnT,u6j,List.append_assoc]
def x6v {α:Type}{r:List α}{i:Nat}{x:α}(h:r[i]? =some x):r.take (i+1)=r.take i++[x]:=by rw[a1d,h];rfl
def v1y {α:Type}{r:List α}{i:Nat}(h:i<=r.length)(h0: ¬i=0):r.take i≠[]:=fun e=>by
 have:=congrArg List.length e;rw[a1q,a0e]at this;omega
def y8l (n:Int)(hn: ¬n=4): ∀r:List BA,x0f (y4c (r.map fun x=>[some ⟨n,tb x,0⟩]))=jnS [44,32] (r.map tb)
 | []=>rfl
 |x::r=>by
  have:=y8l n hn r;simp only[a1o,y4c,jnS,mk,a0d,a0h,x0f,T.w,if_neg hn,this];simp
def z2v (n:Int)(hn: ¬n=4)(r:List BA):x0f (u9j n r)=jnT [44,32] (r.map tb):=by
 match r with
 | []=>rfl
 |x::r=>
  simp only[u9j,a1o,x1w,jnT,a0d,a0h,x0f,T.w,if_neg hn,y8l n hn r]
def v7m (r:List BA)(hr:r.length<=1000000)(hs: ∀x∈r,x.size<=100000): ∃t,cF 33 [.d (.sl 1 (x0b r))]=some (.val [.str t])/\tb t=jnT [44,32] (r.map tb)/\t.size<=100002*r.length:=by
 have core: ∃p,g33 sy eF (x0b r)=some p/\ ∃t,p= .val [.str t]/\tb t=jnT [44,32] (r.map tb)/\t.size<=100002*r.length:=by
  unfold g33;refine x2l (fun x:Nat × BA=>[.sl 1 (x0b r), .str x.2, .int .i64 (x.1:Int)]) (fun x=>x.1<=r.length/\tb x.2=jnT [44,32] ((r.take x.1).map tb)/\x.2.size<=100002*x.1) (fun x=>r.length - x.1) (fun x hx=> ?_) (0,bs []) ⟨a0t _,rfl,a0q _⟩
  obtain⟨i,s⟩:=x;obtain⟨h1,h2,h3⟩:=hx;simp only at h1 h2 h3 ⊢
  by_cases hlt:i < r.length
  ·left
   have hx:=a0a hlt;have hz:=hs _ (a1i hlt);have hr':=x1j hx;have w1:IntKind.i64.wrap ((i:Int)+1)=((i+1:Nat):Int):=by rw[x0p (by omega) (by omega)];omega
   generalize r[i]=t at hx hz hr'
   by_cases hi0:i=0
   ·subst hi0;refine⟨(1,s++t),?_,⟨hlt,?_,?_⟩,by simp only;omega⟩
    ·have sf:sy.sfit s t=true:=sfT (by omega)
     have l0:decide ((0:Int) < (r.length:Int))=true:=x0l hlt;have i0:decide ((0:Int)<=0/\(0:Int) < (r.length:Int))=true:=x0k hlt;have hr':sy.cell (sy.row (x0b r) 0) 0=_:=hr';have w1:IntKind.i64.wrap ((0:Int)+1)=((1:Nat):Int):=w1;simp only[go1,x0c,l0,i0,hr',show((0:Nat):Int)=0 from rfl,Int.lt_irrefl,sf,w1]
    ·simp only;rw[x0y,h2,x6v hx];simp[jnT,jnS]
    ·simp only[ByteArray.size_append];omega
   ·refine⟨(i+1,s++bs [44,32]++t),?_,⟨hlt,?_,?_⟩,by simp only;omega⟩
    ·have sf:sy.sfit s (bs [44,32])=true:=sfT (by simp only[x1c,a0b,a0e];omega)
     have sf2:sy.sfit (s++bs [44,32]) t=true:=sfT (by simp only[ByteArray.size_append,x1c,a0b,a0e];omega)
     have l0:=x0l hlt;have i0:=x0k hlt;have z0:decide ((0:Int) < (i:Int))=true:=a0o (by omega)
     simp only[go1,x0c,l0,i0,hr',z0,sf,sf2,w1]
    ·simp only;rw[x0y,x0y,h2,x6v hx,List.map_append,List.map_singleton,u6i _ _ (by simpa using v1y h1 hi0),List.append_assoc]
     rfl
    ·simp only[ByteArray.size_append,x1c,a0b,a0e];omega
  ·right
   have:i=r.length:=by omega
   subst this;rw[a0r]at h2;refine⟨_,?_,s,rfl,h2,h3⟩;simp only[go1,x0c,x0g]
 obtain⟨p,h1,t,rfl,h2⟩:=core;exact⟨t,cO rfl ((q9w _ _ _).trans h1),h2⟩
def dig1 {c:Int}(h0:0 < c)(h8:c<=8):y0i c.toNat= [48+c.toNat]:=by
 rw[y0i,dif_pos (by omega)]
def w1c (c:Int):List Nat:=if 0 < c then[91]++[48+c.toNat]++[93]else[]
def v3c {c:Int}(h8:c<=8):x0f (lnP c)=w1c c:=by
 unfold lnP w1c;split
 ·rename_i h0;rw[dig1 h0 h8];rfl
 ·rfl
def k3z {c:Int}(h0:0 < c)(h8:c<=8):tb (sy.bstr [[.int .u8 (sy.wrap .u8 (sy.wrap .i64 (sy.add 48 c)))]])= [48+c.toNat]/\sy.isby [[.int .u8 (sy.wrap .u8 (sy.wrap .i64 (sy.add 48 c)))]]=true:=by
 obtain⟨n,rfl⟩: ∃n:Nat,c=(n:Int):=⟨c.toNat,by omega⟩
 match n,h0,h8 with
 |1,_,_|2,_,_|3,_,_|4,_,_|5,_,_|6,_,_|7,_,_|8,_,_=>exact⟨rfl,rfl⟩
 |0,h,_=>omega
 |n+9,_,h=>omega
def by8 {c:Int}(h0:0 < c)(h8:c<=8): ∃z:BA,sy.bstr [[.int .u8 (IntKind.u8.wrap (IntKind.i64.wrap (48+c)))]]=z/\tb z= [48+c.toNat]/\z.size=1/\sy.isby [[.int .u8 (IntKind.u8.wrap (IntKind.i64.wrap (48+c)))]]=true:=by
 obtain⟨h1,h2⟩:=k3z h0 h8;exact⟨_,rfl,h1,by rw[<-x2i];exact congrArg List.length h1,h2⟩
def w2m (ens:List En)(hE: ∀x∈ens,EnOK x){k e c:Int}(h:tyB ens k e c=true): ∃t,cF 155 [.d (.sl 2 (x0j ens)), .agg [.d (.int .i64 k), .d (.int .i64 e), .d (.int .i64 c)]]=some (.val [.str t])/\tb t=x0f (tyP ens k e c)/\t.size<=100010:=by
 have hq:=z7p ens k e c;rw[h]at hq;have hc:0<=c/\c<=8:=by
  unfold tyB at h;simp only[a0g,Bool.not_eq_true',Bool.or_eq_false_iff,decide_eq_false_iff_not]at h;omega
 have core: ∃t,w5f sy eF (x0j ens) k e c=some (.val [.str t])/\tb t=(u4b ens k e).b++w1c c/\t.size<=100010:=by
  unfold tyB at h;simp only[a0g]at h;obtain⟨_,h⟩:=h
  by_cases h3:k=3
  ·subst h3;have h:(decide (0<=e)&&decide (e < (ens.length:Int)))=true:=by simpa using h
   simp only[a0g,a0u]at h;obtain⟨n,rfl⟩: ∃n:Nat,e=(n:Int):=⟨e.toNat,by omega⟩
   have hn:n < ens.length:=by omega
   have hx:ens[n]? =some ens[n]:=a0a hn;have hz:=(hE _ (a1i hn)).n;have hb:(u4b ens 3 (n:Int)).b=tb (ens[n]).1:=by
    unfold u4b nmE;simp only[a0n,hx,if_true]
   have hr:sy.cell (sy.row (x0j ens) (n:Int)) 0=some (.str (ens[n]).1):=by rw[x7f hx];rfl
   have i0:decide (0<=(n:Int)/\(n:Int) < (ens.length:Int))=true:=x0k hn;rw[hb];generalize (ens[n]).1=s at hz hr
   by_cases h0:0 < c
   ·obtain⟨z,e1,e2,e3,e4⟩:=by8 h0 hc.2;have s1:sy.sfit s (bs [91])=true:=sfT (by simp only[x1c,a0b,a0e];omega)
    have s2:sy.sfit (s++bs [91]) z=true:=sfT (by simp only[ByteArray.size_append,x1c,a0b,a0e];omega)
    have s3:sy.sfit (s++bs [91]++z) (bs [93])=true:=sfT (by simp only[ByteArray.size_append,x1c,a0b,a0e];omega)
    refine⟨s++bs [91]++z++bs [93],?_,?_,?_⟩
    ·simp only[w5f,go1,Int.reduceEq,hq,x0t,hr,i0,a0o h0,e1,e4,s1,s2,s3]
    ·unfold w1c;rw[if_pos h0,x0y,x0y,x0y,e2];simp[z6v]
    ·simp only[ByteArray.size_append,x1c,a0b,a0e];omega
   ·refine⟨s,?_,?_,by omega⟩
    ·simp only[w5f,go1,Int.reduceEq,hq,x0t,hr,i0,decide_eq_false h0]
    ·unfold w1c;rw[if_neg h0,a0y]
  ·by_cases h2:k=2
   ·subst h2;have hb:(u4b ens 2 e).b=w8n:=rfl;rw[hb]
    by_cases h0:0 < c
    ·obtain⟨z,e1,e2,e3,e4⟩:=by8 h0 hc.2;have s1:sy.sfit (bs [98,111,111,108]) (bs [91])=true:=sfT (by simp only[x1c,a0b,a0e];omega)
     have s2:sy.sfit (bs [98,111,111,108]++bs [91]) z=true:=sfT (by simp only[ByteArray.size_append,x1c,a0b,a0e];omega)
     have s3:sy.sfit (bs [98,111,111,108]++bs [91]++z) (bs [93])=true:=sfT (by simp only[ByteArray.size_append,x1c,a0b,a0e];omega)
     refine⟨bs [98,111,111,108]++bs [91]++z++bs [93],?_,?_,?_⟩
     ·simp only[w5f,go1,Int.reduceEq,hq,a0o h0,e1,e4,s1,s2,s3]
     ·unfold w1c;rw[if_pos h0,x0y,x0y,x0y,e2];simp[z6v,w8n]
     ·simp only[ByteArray.size_append,x1c,a0b,a0e];omega
    ·refine⟨bs [98,111,111,108],?_,?_,by simp only[x1c,a0b,a0e];omega⟩
     ·simp only[w5f,go1,Int.reduceEq,hq,decide_eq_false h0]
     ·unfold w1c;rw[if_neg h0,a0y];rfl
   ·have hb:(u4b ens k e).b=k5e:=by unfold u4b;rw[if_neg h3,if_neg h2]
    rw[hb]
    by_cases h0:0 < c
    ·obtain⟨z,e1,e2,e3,e4⟩:=by8 h0 hc.2;have s1:sy.sfit (bs [105,110,116]) (bs [91])=true:=sfT (by simp only[x1c,a0b,a0e];omega)
     have s2:sy.sfit (bs [105,110,116]++bs [91]) z=true:=sfT (by simp only[ByteArray.size_append,x1c,a0b,a0e];omega)
     have s3:sy.sfit (bs [105,110,116]++bs [91]++z) (bs [93])=true:=sfT (by simp only[ByteArray.size_append,x1c,a0b,a0e];omega)
     refine⟨bs [105,110,116]++bs [91]++z++bs [93],?_,?_,?_⟩
     ·simp only[w5f,go1,hq,decide_eq_false h2,decide_eq_false h3,a0o h0,e1,e4,s1,s2,s3]
     ·unfold w1c;rw[if_pos h0,x0y,x0y,x0y,e2];simp[z6v,k5e]
     ·simp only[ByteArray.size_append,x1c,a0b,a0e];omega
    ·refine⟨bs [105,110,116],?_,?_,by simp only[x1c,a0b,a0e];omega⟩
     ·simp only[w5f,go1,hq,decide_eq_false h2,decide_eq_false h3,decide_eq_false h0]
     ·unfold w1c;rw[if_neg h0,a0y];rfl
 obtain⟨t,h1,h2,h3⟩:=core;refine⟨t,cO rfl ((q0k _ _ _ _ _ _).trans h1),?_,h3⟩;rw[h2];show _=(u4b ens k e).w++x0f (lnP c);rw[v3c hc.2];rfl
def v3f (ens:List En)(d:Dc):x0f (dcP ens d)=tb d.n++([58,32]++(x0f (tyP ens d.k d.e d.c)++(if tb d.o= []then[]else[32,119,104,101,110,32]++x0f (onP d.o d.q)))):=by
 have e1:x0f (dcP ens d)=tb d.n++([58]++(32::x0f (tyP ens d.k d.e d.c++whP d.o d.q))):=rfl;rw[e1,x0r];unfold whP;split
 ·rfl
 ·rfl
def v0t (ens:List En)(hE: ∀x∈ens,EnOK x)(d:Dc)(h:x3y ens d=true)(hd:DcOK d): ∃t,cF 119 [.d (.sl 2 (x0j ens)),dV d]=some (.val [.str t])/\tb t=x0f (dcP ens d)/\t.size<=1000000:=by
 have hty:tyB ens d.k d.e d.c=true:=by
  unfold x3y at h;simp only[a0g]at h;exact h.1.2
 obtain⟨y,h1,h2,h3⟩:=w2m ens hE hty;obtain⟨w,h4,h5,h6⟩:=k1k d.o d.q hd.o hd.q;have hz:=hd.n;rw[v3f];obtain⟨n,k,e,c,o,q⟩:=d;simp only at h1 h2 h3 h4 h5 h6 hz ⊢;have s1:sy.sfit n (bs [58,32])=true:=sfT (by simp only[x1c,a0b,a0e];omega)
 have s2:sy.sfit (n++bs [58,32]) y=true:=sfT (by simp only[ByteArray.size_append,x1c,a0b,a0e];omega)
 have s3:sy.sfit (n++bs [58,32]++y) (bs [32,119,104,101,110,32])=true:=sfT (by simp only[ByteArray.size_append,x1c,a0b,a0e];omega)
 have s4:sy.sfit (n++bs [58,32]++y++bs [32,119,104,101,110,32]) w=true:=sfT (by simp only[ByteArray.size_append,x1c,a0b,a0e];omega)
 have e1:(o.toList == (bs []).toList)=decide (tb o= []):=x2f _ _;have core: ∃t,k3g sy eF (x0j ens) n k e c o q=some (.val [.str t])/\tb t=tb n++([58,32]++(x0f (tyP ens k e c)++(if tb o= []then[]else[32,119,104,101,110,32]++x0f (onP o q))))/\t.size<=1000000:=by
  by_cases ho:tb o= []
  ·refine⟨n++bs [58,32]++y,?_,?_,?_⟩
   ·simp only[k3g,go1,s1,h1,s2,e1,a0o ho]
   ·rw[if_pos ho,x0y,x0y,h2,a0y,List.append_assoc];rfl
   ·simp only[ByteArray.size_append,x1c,a0b,a0e];omega
  ·refine⟨n++bs [58,32]++y++bs [32,119,104,101,110,32]++w,?_,?_,?_⟩
   ·simp only[k3g,go1,s1,h1,s2,s3,s4,h4,e1,decide_eq_false ho]
   ·rw[if_neg ho,x0y,x0y,x0y,x0y,h2,h5,List.append_assoc,List.append_assoc,List.append_assoc];rfl
   ·simp only[ByteArray.size_append,x1c,a0b,a0e];omega
 obtain⟨t,q1,q2,q3⟩:=core;exact⟨t,cO rfl ((q1e _ _ _ _ _ _ _ _ _).trans q1),q2,q3⟩
def z2w (ens:List En): ∀r:List Dc,x0f (w5s ens r)=jnS [59,32] (r.map fun d=>x0f (dcP ens d))
 | []=>rfl
 |d::r=>by
  have:=z2w ens r;show[59]++(32::x0f (dcP ens d++w5s ens r))=_;rw[x0r,this];rfl
def v3e (ens:List En)(r:List Dc):x0f (dsP ens r)=jnT [59,32] (r.map fun d=>x0f (dcP ens d)):=by
 match r with
 | []=>rfl
 |d::r=>rw[dsP,x0r,z2w];rfl
def y2r (ens:List En)(hE: ∀x∈ens,EnOK x)(r:List Dc)(hr:r.length<=1000)(h: ∀d∈r,x3y ens d=true/\DcOK d): ∃t,cF 72 [.d (.sl 2 (x0j ens)), .d (.sl 6 (x0m r))]=some (.val [.str t])/\tb t=x0f (dsP ens r)/\t.size<=1000002*r.length:=by
 have core: ∃p,g72 sy eF (x0j ens) (x0m r)=some p/\ ∃t,p= .val [.str t]/\tb t=jnT [59,32] (r.map fun d=>x0f (dcP ens d))/\t.size<=1000002*r.length:=by
  unfold g72;refine x2l (fun x:Nat × BA=>[.sl 2 (x0j ens), .sl 6 (x0m r), .str x.2, .int .i64 (x.1:Int)]) (fun x=>x.1<=r.length/\tb x.2=jnT [59,32] ((r.take x.1).map fun d=>x0f (dcP ens d))/\x.2.size<=1000002*x.1) (fun x=>r.length - x.1) (fun x hx=> ?_) (0,bs []) ⟨a0t _,rfl,a0q _⟩
  obtain⟨i,s⟩:=x;obtain⟨h1,h2,h3⟩:=hx;simp only at h1 h2 h3 ⊢
  by_cases hlt:i < r.length
  ·left
   have hx:=a0a hlt;obtain⟨g1,g2⟩:=h _ (a1i hlt);obtain⟨t,q1,q2,q3⟩:=v0t ens hE _ g1 g2;have hr':=x9s hx;have w1:IntKind.i64.wrap ((i:Int)+1)=((i+1:Nat):Int):=by rw[x0p (by omega) (by omega)];omega
   generalize r[i]=d at hx g1 g2 q1 q2 hr'
   by_cases hi0:i=0
   ·subst hi0;refine⟨(1,s++t),?_,⟨hlt,?_,?_⟩,by simp only;omega⟩
    ·have sf:sy.sfit s t=true:=sfT (by omega)
     have l0:decide ((0:Int) < (r.length:Int))=true:=x0l hlt;have i0:decide ((0:Int)<=0/\(0:Int) < (r.length:Int))=true:=x0k hlt;have hr':sy.row (x0m r) 0=_:=hr';have w1:IntKind.i64.wrap ((0:Int)+1)=((1:Nat):Int):=w1;simp only[go1,x0q,l0,i0,hr',z3r,oD,q1,show((0:Nat):Int)=0 from rfl,Int.lt_irrefl,sf,w1]
    ·simp only;rw[x0y,h2,q2,x6v hx];simp[jnT,jnS]
    ·simp only[ByteArray.size_append];omega
   ·refine⟨(i+1,s++bs [59,32]++t),?_,⟨hlt,?_,?_⟩,by simp only;omega⟩
    ·have sf:sy.sfit s (bs [59,32])=true:=sfT (by simp only[x1c,a0b,a0e];omega)
     have sf2:sy.sfit (s++bs [59,32]) t=true:=sfT (by simp only[ByteArray.size_append,x1c,a0b,a0e];omega)
     have l0:=x0l hlt;have i0:=x0k hlt;have z0:decide ((0:Int) < (i:Int))=true:=a0o (by omega)
     simp only[go1,x0q,l0,i0,hr',z3r,oD,q1,z0,sf,sf2,w1]
    ·simp only;rw[x0y,x0y,h2,q2,x6v hx,List.map_append,List.map_singleton,u6i _ _ (by simpa using v1y h1 hi0),List.append_assoc]
     rfl
    ·simp only[ByteArray.size_append,x1c,a0b,a0e];omega
  ·right
   have:i=r.length:=by omega
   subst this;rw[a0r]at h2;refine⟨_,?_,s,rfl,h2,h3⟩;simp only[go1,x0q,x0g]
 obtain⟨p,h1,t,rfl,h2,h3⟩:=core;exact⟨t,cO rfl ((q9g _ _ _ _).trans h1),by rw[h2,v3e],h3⟩
end Go.Vm
end
