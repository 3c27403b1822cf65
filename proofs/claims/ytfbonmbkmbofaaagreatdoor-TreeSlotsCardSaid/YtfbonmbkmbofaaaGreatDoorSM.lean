/- Part SM of the proof. What is proved by the whole: the statement that the claim names, with no condition. -/
import Derived.Test.YtfbonmbkmbofaaaGreatDoorSL
set_option linter.all false
section
set_option maxRecDepth 100000
set_option maxHeartbeats 4000000
namespace Go.Vm
open Go.Proofs
section
variable (fls : List Fl)
def stF (i:Nat):List CellP:=startF fls (i+1) i
def tyF (i:Nat):List T3:=typesF fls (i+1) i
def instF:Nat->Nat->Nat
 |0,_=>0
 |m+1,i=>match fls[i]? with
  |none=>0
  |some f=>1+((f.eqs.filter is7).map fun q=>instF m q.nd.toNat).sum
def inF (i:Nat):Nat:=instF fls (i+1) i
variable {fls} {R : T3 -> List Int -> Prop} (h : ∀ i f, fls[i]? = some f -> FlOK R i f)
include h
theorem startF_fuel: ∀m i,i < m->startF fls m i=stF fls i
 |0,i,hi=>by omega
 |m+1,i,hi=>by
  unfold stF startF;cases hf:fls[i]? with
  |none=>rfl
  |some f=>
   simp only;congr 1;have: ∀l:List Pq,(∀q∈l,q∈f.eqs/\q.k=7)->(l.flatMap fun q=>(startF fls m q.nd.toNat).map (over q.hd))=l.flatMap fun q=>(startF fls i q.nd.toNat).map (over q.hd):=by
    intro l
    induction l with
    |nil=>intro _;rfl
    |cons q l ih=>
     intro hl;obtain⟨hq,h7⟩:=hl q List.mem_cons_self;obtain⟨h0,h1⟩:=(h i f hf).call q hq h7;have e1:=startF_fuel m q.nd.toNat (by omega)
     have e2:startF fls i q.nd.toNat=stF fls q.nd.toNat:=by
      rcases Nat.lt_or_ge i (m+1)with hlt|hge
      ·rcases Nat.eq_or_lt_of_le (Nat.le_of_lt_succ hlt)with rfl|hlt
       ·exact e1
       ·exact startF_fuel i q.nd.toNat (by omega)
      ·omega
     rw[List.flatMap_cons,List.flatMap_cons,e1,e2,ih fun x hx=>hl x (List.mem_cons_of_mem _ hx)]
   exact this _ fun q hq=>⟨(List.mem_filter.1 hq).1,of_decide_eq_true (List.mem_filter.1 hq).2⟩
theorem typesF_fuel: ∀m i,i < m->typesF fls m i=tyF fls i
 |0,i,hi=>by omega
 |m+1,i,hi=>by
  unfold tyF typesF;cases hf:fls[i]? with
  |none=>rfl
  |some f=>
   simp only;congr 1;have: ∀l:List Pq,(∀q∈l,q∈f.eqs/\q.k=7)->(l.flatMap fun q=>typesF fls m q.nd.toNat)=l.flatMap fun q=>typesF fls i q.nd.toNat:=by
    intro l
    induction l with
    |nil=>intro _;rfl
    |cons q l ih=>
     intro hl;obtain⟨hq,h7⟩:=hl q List.mem_cons_self;obtain⟨h0,h1⟩:=(h i f hf).call q hq h7;have e1:=typesF_fuel m q.nd.toNat (by omega)
     have e2:typesF fls i q.nd.toNat=tyF fls q.nd.toNat:=by
      rcases Nat.eq_or_lt_of_le (Nat.le_of_lt_succ hi)with rfl|hlt
      ·exact e1
      ·exact typesF_fuel i q.nd.toNat (by omega)
     rw[List.flatMap_cons,List.flatMap_cons,e1,e2,ih fun x hx=>hl x (List.mem_cons_of_mem _ hx)]
   exact this _ fun q hq=>⟨(List.mem_filter.1 hq).1,of_decide_eq_true (List.mem_filter.1 hq).2⟩
theorem instF_fuel: ∀m i,i < m->instF fls m i=inF fls i
 |0,i,hi=>by omega
 |m+1,i,hi=>by
  unfold inF instF;cases hf:fls[i]? with
  |none=>rfl
  |some f=>
   simp only;congr 1;have: ∀l:List Pq,(∀q∈l,q∈f.eqs/\q.k=7)->(l.map fun q=>instF fls m q.nd.toNat).sum=(l.map fun q=>instF fls i q.nd.toNat).sum:=by
    intro l
    induction l with
    |nil=>intro _;rfl
    |cons q l ih=>
     intro hl;obtain⟨hq,h7⟩:=hl q List.mem_cons_self;obtain⟨h0,h1⟩:=(h i f hf).call q hq h7;have e1:=instF_fuel m q.nd.toNat (by omega)
     have e2:instF fls i q.nd.toNat=inF fls q.nd.toNat:=by
      rcases Nat.eq_or_lt_of_le (Nat.le_of_lt_succ hi)with rfl|hlt
      ·exact e1
      ·exact instF_fuel i q.nd.toNat (by omega)
     simp only[List.map_cons,List.sum_cons];rw[e1,e2,ih fun x hx=>hl x (List.mem_cons_of_mem _ hx)]
   exact this _ fun q hq=>⟨(List.mem_filter.1 hq).1,of_decide_eq_true (List.mem_filter.1 hq).2⟩
end
section
variable (fls : List Fl)
def sA (l:List Pq):List CellP:=(l.filter is5).map fun q=>(q.hd,q.it)
def sB (l:List Pq):List CellP:=(l.filter is7).flatMap fun q=>(stF fls q.nd.toNat).map (over q.hd)
def tA (f:Fl)(l:List Pq):List T3:=(l.filter is5).map fun q=>f.ty q.hd
def tB (l:List Pq):List T3:=(l.filter is7).flatMap fun q=>tyF fls q.nd.toNat
def nB (l:List Pq):Nat:=((l.filter is7).map fun q=>inF fls q.nd.toNat).sum
variable {fls} {R : T3 -> List Int -> Prop}
theorem flat_congr {α β:Type}{g g':α->List β}: ∀ {l:List α},(∀x∈l,g x=g' x)->l.flatMap g=l.flatMap g'
 | [],_=>rfl
 |x::l,h=>by rw[List.flatMap_cons,List.flatMap_cons,h x List.mem_cons_self,flat_congr fun y hy=>h y (List.mem_cons_of_mem _ hy)]
theorem st_eq (h: ∀i f,fls[i]? =some f->FlOK R i f){i:Nat}{f:Fl}(hf:fls[i]? =some f):stF fls i=sA f.eqs++sB fls f.eqs:=by
 unfold stF startF sA sB;rw[hf];simp only;congr 1;refine flat_congr fun q hq=> ?_
 have h1:=(h i f hf).call q (List.mem_filter.1 hq).1 (of_decide_eq_true (List.mem_filter.1 hq).2);rw[startF_fuel h i _ (by omega)]
theorem ty_eq (h: ∀i f,fls[i]? =some f->FlOK R i f){i:Nat}{f:Fl}(hf:fls[i]? =some f):tyF fls i=tA f f.eqs++tB fls f.eqs:=by
 unfold tyF typesF tA tB;rw[hf];simp only;congr 1;refine flat_congr fun q hq=> ?_
 have h1:=(h i f hf).call q (List.mem_filter.1 hq).1 (of_decide_eq_true (List.mem_filter.1 hq).2);rw[typesF_fuel h i _ (by omega)]
theorem in_eq (h: ∀i f,fls[i]? =some f->FlOK R i f){i:Nat}{f:Fl}(hf:fls[i]? =some f):inF fls i=1+nB fls f.eqs:=by
 unfold inF instF nB;rw[hf];simp only;congr 2;refine List.map_congr_left fun q hq=> ?_
 have h1:=(h i f hf).call q (List.mem_filter.1 hq).1 (of_decide_eq_true (List.mem_filter.1 hq).2);rw[instF_fuel h i _ (by omega)]
theorem sA_snoc (l:List Pq)(q:Pq):sA (l++[q])=sA l++if q.k=5 then[(q.hd,q.it)]else[]:=by
 unfold sA;rw[List.filter_append,List.map_append];congr 1
 by_cases hk:q.k=5
 ·simp[is5,hk]
 ·simp[is5,hk]
theorem tA_snoc (f:Fl)(l:List Pq)(q:Pq):tA f (l++[q])=tA f l++if q.k=5 then[f.ty q.hd]else[]:=by
 unfold tA;rw[List.filter_append,List.map_append];congr 1
 by_cases hk:q.k=5
 ·simp[is5,hk]
 ·simp[is5,hk]
theorem sB_snoc (l:List Pq)(q:Pq):sB fls (l++[q])=sB fls l++if q.k=7 then(stF fls q.nd.toNat).map (over q.hd)else[]:=by
 unfold sB;rw[List.filter_append,List.flatMap_append];congr 1
 by_cases hk:q.k=7
 ·simp[is7,hk]
 ·simp[is7,hk]
theorem tB_snoc (l:List Pq)(q:Pq):tB fls (l++[q])=tB fls l++if q.k=7 then tyF fls q.nd.toNat else[]:=by
 unfold tB;rw[List.filter_append,List.flatMap_append];congr 1
 by_cases hk:q.k=7
 ·simp[is7,hk]
 ·simp[is7,hk]
theorem nB_snoc (l:List Pq)(q:Pq):nB fls (l++[q])=nB fls l+if q.k=7 then inF fls q.nd.toNat else 0:=by
 unfold nB;rw[List.filter_append,List.map_append,List.sum_append];congr 1
 by_cases hk:q.k=7
 ·simp[is7,hk]
 ·simp[is7,hk]
end
theorem irown_at {l:List Int}{i:Nat}{x:Int}(h:l[i]? =some x):sy.cell (sy.rown (irows l) i) 0=some (.int .i64 x):=by
 have:=irow_at h;rw[sy_row,Int.toNat_natCast]at this;rw[sy_rown,this];rfl
theorem x_mpart (q:Pq)(i:Nat)(hn:q.ns≠[])(h:q.k=7->0<=q.nd/\q.nd < (i:Int)):cF 94 [qV q, .d (.int .i64 (i:Int))]=some (.val [.bool (decide (q.k=5)), .bool (decide (q.k=7))]):=by
 have hl:=List.length_pos_iff.2 hn;have e0:decide ((q.ns.length:Int)=0)=false:=decF (by omega)
 by_cases h7:q.k=7
 ·obtain⟨h1,h2⟩:=h h7;refine cOf (by kernel_rfl) rfl ?_
  rw[g94_eq];simp only[g94,go1,eq_self,srows_len,e0,decT h7,decT h1,decT h2]
 ·refine cOf (by kernel_rfl) rfl ?_
  rw[g94_eq];simp only[g94,go1,eq_self,srows_len,e0,decF h7]
theorem x_mcut (n:Int):cF 95 [.d (.int .i64 n)]=some (.val [.int .i64 (min n 1000)]):=by
 refine cOf (by kernel_rfl) rfl ?_
 rw[g95_eq];simp only[g95,go1,eq_self]
abbrev lV (ens:List En)(fls:List Fl):V:= .agg [.d (.sl 2 (erows ens)), .d (.sl 5 (frows fls))]
def crw (x:Nat × Nat):List D:=[.int .i64 (x.1:Int), .int .i64 (x.2:Int)]
def crr (l:List (Nat × Nat)):LL:=l.map crw
section
variable (c : Nat -> Nat × Nat) (n i : Nat)
def cV (x:Nat × Nat):List (Nat × Nat):=(List.range i).map c++x::List.replicate (n - i) (0,0)
variable {c n i}
theorem cV_len (hi:i<=n)(x:Nat × Nat):(crr (cV c n i x)).length=n+1:=by
 unfold crr cV;simp;omega
theorem cV_next (hi:i < n):cV c n i (c i)=cV c n (i+1) (0,0):=by
 unfold cV;rw[List.range_succ,List.map_append,List.append_assoc,show n - i=(n - (i+1))+1 by omega,List.replicate_succ]
 rfl
theorem cV_at (x:Nat × Nat):sy.rown (crr (cV c n i x)) i=crw x:=by
 rw[sy_rown,List.getD_eq_getElem?_getD];unfold crr cV;rw[List.getElem?_map,List.getElem?_append_right (by simp)]
 simp
theorem cV_lt {j:Nat}(hj:j < i)(x:Nat × Nat):sy.rown (crr (cV c n i x)) j=crw (c j):=by
 rw[sy_rown,List.getD_eq_getElem?_getD];unfold crr cV;rw[List.getElem?_map,List.getElem?_append_left (by simpa using hj)]
 simp[hj]
theorem cV_set (x y:Nat × Nat):(crr (cV c n i x)).set i (crw y)=crr (cV c n i y):=by
 unfold crr cV;rw[List.map_append,List.map_append,List.set_append_right _ _ (by simp)]
 simp
theorem cV_put0 (x:Nat × Nat)(v:Int)(p:Nat)(hv:v=(p:Int)):sy.rput (crr (cV c n i x)) i 0 [.int .i64 v]=crr (cV c n i (p,x.2)):=by
 have e:sy.rput (crr (cV c n i x)) i 0 [.int .i64 v]=(crr (cV c n i x)).set i ((sy.rown (crr (cV c n i x)) i).take 0++[.int .i64 v]++(sy.rown (crr (cV c n i x)) i).drop (0+1)):=rfl;rw[e,cV_at,hv,<-cV_set x (p,x.2)];rfl
theorem cV_put1 (x:Nat × Nat)(v:Int)(p:Nat)(hv:v=(p:Int)):sy.rput (crr (cV c n i x)) i 1 [.int .i64 v]=crr (cV c n i (x.1,p)):=by
 have e:sy.rput (crr (cV c n i x)) i 1 [.int .i64 v]=(crr (cV c n i x)).set i ((sy.rown (crr (cV c n i x)) i).take 1++[.int .i64 v]++(sy.rown (crr (cV c n i x)) i).drop (1+1)):=rfl;rw[e,cV_at,hv,<-cV_set x (x.1,p)];rfl
end
section
variable {ens : List En} {fls : List Fl} (hF : ∀ i f, fls[i]? = some f -> FOK ens i f) (hfl : fls.length <= 1000000)
include hF hfl
def cnt1 (fls:List Fl)(i:Nat):Nat:=min (stF fls i).length 1000
def cnt2 (fls:List Fl)(i:Nat):Nat:=min (inF fls i) 1000
def natL (c:Nat->Nat)(i:Nat):List Int:=(List.range i).map fun j=>(c j:Int)
omit hF hfl in
theorem natL_len (c:Nat->Nat)(i:Nat):(natL c i).length=i:=by simp[natL]
omit hF hfl in
theorem natL_at {c:Nat->Nat}{i j:Nat}(h:j < i):(natL c i)[j]? =some (c j:Int):=by simp[natL,h]
omit hF hfl in
theorem natL_next (c:Nat->Nat)(i:Nat):irows (natL c (i+1))=irows (natL c i)++[[.int .i64 (c i:Int)]]:=by
 unfold natL irows;rw[List.range_succ];simp[irow]
theorem x_mCount {n:Nat}(hn:n < fls.length):cF 50 [lV ens fls, .d (.int .i64 (n:Int))]=some (.val [.int .i64 (cnt1 fls n:Int), .int .i64 (cnt2 fls n:Int)]):=by
 have hO: ∀i f,fls[i]? =some f->FlOK (QR ens) i f:=fun i f h=>(hF i f h).ok
 suffices h: ∃p,cF 50 [lV ens fls, .d (.int .i64 (n:Int))]=some p/\p= .val [.int .i64 (cnt1 fls n:Int), .int .i64 (cnt2 fls n:Int)] by
  obtain⟨_,h,rfl⟩:=h;exact h
 have e0:decide ((n:Int) < 0)=false:=decF (by omega)
 have e1:decide ((fls.length:Int)<=(n:Int))=false:=decF (by omega)
 refine cOfP (by kernel_rfl) rfl ?_
 rw[g50_eq];simp only[g50,go1,oP,Nat.reduceAdd,frows_len,e0,e1];refine for_n (n+1) (fun i (_:Unit)=>[.int .i64 (n:Int), .int .i64 (i:Int), .sl 2 (erows ens), .sl 5 (frows fls), .sl 1 (irows (natL (cnt1 fls) i)), .sl 1 (irows (natL (cnt2 fls) i))]) (fun _ _=>True) () trivial rfl (fun i _ _ hin=> ?_) fun _ _=> ?_
 ·have hil:i < fls.length:=by omega
  have hf:=List.getElem?_eq_getElem hil;generalize fls[i]=f at hf;have hfo:=hF i f hf;have hel:=hfo.el;have e2:decide ((i:Int)<=(n:Int))=true:=decT (by omega)
  have e4:sy.cell (sy.skip 4 [D.str f.n, .sl 5 (vrows f.ins), .sl 5 (vrows f.outs), .sl 5 (vrows f.vars), .sl 10 (prows f.eqs)]) 0=some (.sl 10 (prows f.eqs)):=rfl;simp only[go1,e2];refine for_s f.eqs (fun k (x:Nat × Nat)=>[.int .i64 (n:Int), .int .i64 (i:Int), .int .i64 (x.1:Int), .int .i64 (x.2:Int), .int .i64 (k:Int), .sl 2 (erows ens), .sl 5 (frows fls), .sl 1 (irows (natL (cnt1 fls) i)), .sl 1 (irows (natL (cnt2 fls) i))]) (fun k x=>x=(min ((sA (f.eqs.take k)).length+(sB fls (f.eqs.take k)).length) 1000,min (1+nB fls (f.eqs.take k)) 1000)) (0,1) (by simp[sA,sB,nB]) rfl (fun k x q hq hI hkl=> ?_) (fun x hI=> ?_)
  ·obtain⟨p,m⟩:=x;obtain⟨rfl,rfl⟩:=Prod.mk.inj hI;have hqm:=List.mem_of_getElem? hq;have hqo:=hfo.ok.call q hqm;have hP:=x_mpart q i (hfo.ok.ne q hqm) hqo;have hC:=x_mcut;have ht:f.eqs.take (k+1)=f.eqs.take k++[q]:=by rw[List.take_add_one,hq];rfl
   rw[ht,sA_snoc,sB_snoc,nB_snoc];generalize hpa:(sA (f.eqs.take k)).length=pa;generalize hpb:(sB fls (f.eqs.take k)).length=pb;generalize hpn:nB fls (f.eqs.take k)=pn
   by_cases h5:q.k=5
   ·have h7: ¬q.k=7:=by omega
    have hw:IntKind.i64.wrap (((min (pa+pb) 1000:Nat):Int)+1)=((min (pa+pb) 1000:Nat):Int)+1:=wrap_id (by omega) (by omega)
    rw[decT h5,decF h7]at hP;simp only[go1,frows_len,inr_at hil,frow_at hf,e4,prows_len,ilt_at hkl,inr_at hkl,prow_at hq,hP,hw,hC,wrap_succ hkl (by omega)]
    refine⟨_,rfl,(min (pa+1+pb) 1000,min (1+pn) 1000),?_,?_⟩
    ·simp only[show min (((min (pa+pb) 1000:Nat):Int)+1) 1000=((min (pa+1+pb) 1000:Nat):Int) by omega]
     rfl
    ·simp[h5,hpa,hpb]
   ·by_cases h7:q.k=7
    ·obtain⟨h8,h9⟩:=hqo h7;obtain⟨j,hj⟩:=Int.eq_ofNat_of_zero_le h8;have hji:j < i:=by omega
     have g1:=irown_at (natL_at (c:=cnt1 fls) hji);have g2:=irown_at (natL_at (c:=cnt2 fls) hji);have c1:cnt1 fls j<=1000:=Nat.min_le_right _ _;have c2:cnt2 fls j<=1000:=Nat.min_le_right _ _;have hw:IntKind.i64.wrap (((min (pa+pb) 1000:Nat):Int)+(cnt1 fls j:Int))=((min (pa+pb) 1000:Nat):Int)+(cnt1 fls j:Int):=wrap_id (by omega) (by omega)
     have hw2:IntKind.i64.wrap (((min (1+pn) 1000:Nat):Int)+(cnt2 fls j:Int))=((min (1+pn) 1000:Nat):Int)+(cnt2 fls j:Int):=wrap_id (by omega) (by omega)
     rw[decF h5,decT h7]at hP;unfold qV at hP;rw[hj]at hP;simp only[go1,frows_len,inr_at hil,frow_at hf,e4,prows_len,ilt_at hkl,inr_at hkl,prow_at hq,hj,hP,irows_len,natL_len,inr_at hji,Int.toNat_natCast,g1,g2,hw,hw2,hC,wrap_succ hkl (by omega)]
     refine⟨_,rfl,(min (pa+(pb+(stF fls j).length)) 1000,min (1+(pn+inF fls j)) 1000),?_,?_⟩
     ·unfold cnt1 cnt2;simp only[show min (((min (pa+pb) 1000:Nat):Int)+((min (stF fls j).length 1000:Nat):Int)) 1000=((min (pa+(pb+(stF fls j).length)) 1000:Nat):Int) by omega,show min (((min (1+pn) 1000:Nat):Int)+((min (inF fls j) 1000:Nat):Int)) 1000=((min (1+(pn+inF fls j)) 1000:Nat):Int) by omega]
      rfl
     ·simp[h7,hpa,hpb]
    ·rw[decF h5,decF h7]at hP;simp only[go1,frows_len,inr_at hil,frow_at hf,e4,prows_len,ilt_at hkl,inr_at hkl,prow_at hq,hP,wrap_succ hkl (by omega)]
     refine⟨_,rfl,(_,_),rfl,?_⟩;simp[h5,h7,hpa,hpb]
  ·rw[List.take_length]at hI;subst hI;have e5:min ((sA f.eqs).length+(sB fls f.eqs).length) 1000=cnt1 fls i:=by unfold cnt1;rw[st_eq hO hf,List.length_append]
   have e6:min (1+nB fls f.eqs) 1000=cnt2 fls i:=by unfold cnt2;rw[in_eq hO hf]
   have f1:=fitsR (irows (natL (cnt1 fls) i)) [[.int .i64 (cnt1 fls i:Int)]] 8 (by rw[irows_len,natL_len];simp only[List.length_cons,List.length_nil];omega)
   have f2:=fitsR (irows (natL (cnt2 fls) i)) [[.int .i64 (cnt2 fls i:Int)]] 8 (by rw[irows_len,natL_len];simp only[List.length_cons,List.length_nil];omega)
   simp only[go1,Nat.reduceAdd]at f1 f2;rw[e5,e6];simp only[go1,frows_len,inr_at hil,frow_at hf,e4,prows_len,ilt_self,f1,f2,wrap_succ hil (by omega)]
   refine⟨_,rfl,(),?_⟩;rw[natL_next,natL_next];rfl
 ·have e2:decide (((n+1:Nat):Int)<=(n:Int))=false:=decF (by omega)
  simp only[go1,e2,irows_len,natL_len,inr_at (Nat.lt_succ_self n),Int.toNat_natCast,irown_at (natL_at (c:=cnt1 fls) (Nat.lt_succ_self n)),irown_at (natL_at (c:=cnt2 fls) (Nat.lt_succ_self n))];exact⟨_,rfl,rfl⟩
end
section
variable {ens : List En} {fls : List Fl} (hF : ∀ i f, fls[i]? = some f -> FOK ens i f) (hfl : fls.length <= 1000000)
include hF hfl
def cnt (fls:List Fl)(i:Nat):Nat × Nat:=(cnt1 fls i,cnt2 fls i)
theorem x_Count {n:Nat}(hn:n < fls.length):cF 54 [lV ens fls, .d (.int .i64 (n:Int))]=some (.val [.int .i64 (cnt1 fls n:Int), .int .i64 (cnt2 fls n:Int)]):=by
 have hO: ∀i f,fls[i]? =some f->FlOK (QR ens) i f:=fun i f h=>(hF i f h).ok
 suffices h: ∃p,cF 54 [lV ens fls, .d (.int .i64 (n:Int))]=some p/\p= .val [.int .i64 (cnt1 fls n:Int), .int .i64 (cnt2 fls n:Int)] by
  obtain⟨_,h,rfl⟩:=h;exact h
 have e0:decide ((n:Int) < 0)=false:=decF (by omega)
 have e1:decide ((fls.length:Int)<=(n:Int))=false:=decF (by omega)
 have hw:IntKind.i64.wrap ((n:Int)+1)=((n+1:Nat):Int):=wrap_id (by omega) (by omega)
 have hmk:decide (0<=((n+1:Nat):Int)/\((n+1:Nat):Int)*(((16:Nat):Int)+1)<=140737488355328)=true:=decT (by omega)
 have hrep:List.replicate (Int.toNat ((n+1:Nat):Int)) [D.int .i64 0, .int .i64 0]=crr (cV (cnt fls) n 0 (0,0)):=by
  rw[Int.toNat_natCast];unfold crr cV;simp[List.replicate_succ,crw]
 have hrl:(crr (cV (cnt fls) n 0 (0,0))).length=n+1:=cV_len (Nat.zero_le _) _;refine cOfP (by kernel_rfl) rfl ?_
 rw[g54_eq];simp only[g54,go1,oF,oP,eq_self,Nat.reduceAdd,frows_len,e0,e1,hw,hmk,hrep,hrl];refine for_n (n+1) (fun i (_:Unit)=>[.int .i64 (n:Int), .int .i64 ((n+1:Nat):Int), .int .i64 (i:Int), .sl 2 (erows ens), .sl 5 (frows fls), .sl 2 (if i<=n then crr (cV (cnt fls) n i (0,0))else crr (cV (cnt fls) n n (cnt fls n)))]) (fun _ _=>True) () trivial (by rw[if_pos (Nat.zero_le _)];rfl) (fun i _ _ hin=> ?_) fun _ _=> ?_
 ·have hi:i<=n:=by omega
  have hil:i < fls.length:=by omega
  have hf:=List.getElem?_eq_getElem hil;generalize fls[i]=f at hf;have hfo:=hF i f hf;have hel:=hfo.el;rw[if_pos hi];have hL: ∀x,(crr (cV (cnt fls) n i x)).length=n+1:=cV_len hi
  have hA: ∀x:Nat × Nat,sy.rown (crr (cV (cnt fls) n i x)) i= [.int .i64 (x.1:Int), .int .i64 (x.2:Int)]:=fun x=>cV_at x
  have e3:decide (i < n+1)=true:=decT (by omega)
  have e4:sy.cell (sy.skip 4 [D.str f.n, .sl 5 (vrows f.ins), .sl 5 (vrows f.outs), .sl 5 (vrows f.vars), .sl 10 (prows f.eqs)]) 0=some (.sl 10 (prows f.eqs)):=rfl;have p1:sy.rput (crr (cV (cnt fls) n i (0,0))) i 1 [.int .i64 1]=crr (cV (cnt fls) n i (0,1)):=cV_put1 (0,0) 1 1 rfl;simp only[go1,ilt_at hin,inr_at hin,hL,Int.toNat_natCast,e3,frows_len,inr_at hil,frow_at hf,p1,prows_len];refine for_s f.eqs (fun k (x:Nat)=>[.sl 10 (prows f.eqs), .int .i64 (f.eqs.length:Int), .int .i64 (k:Int), .sl 2 (erows ens), .sl 5 (frows fls), .sl 2 (crr (cV (cnt fls) n i (x,1))), .int .i64 (i:Int), .str f.n, .sl 5 (vrows f.ins), .sl 5 (vrows f.outs), .sl 5 (vrows f.vars), .sl 10 (prows f.eqs), .int .i64 (n:Int), .int .i64 ((n+1:Nat):Int), .int .i64 (i:Int)]) (fun k x=>x=min (sA (f.eqs.take k)).length 1000) 0 (by simp[sA]) rfl (fun k x q hq hI hkl=> ?_) (fun x hI=> ?_)
  ·have hqm:=List.mem_of_getElem? hq;have hnl:=List.length_pos_iff.2 (hfo.ok.ne q hqm);have e5:decide ((0:Int) < (q.ns.length:Int))=true:=decT (by omega)
   have ht:f.eqs.take (k+1)=f.eqs.take k++[q]:=by rw[List.take_add_one,hq];rfl
   rw[ht,sA_snoc];generalize hpa:(sA (f.eqs.take k)).length=pa at hI
   by_cases h5:q.k=5
   ·have hwx:IntKind.i64.wrap ((x:Int)+1)=(x:Int)+1:=wrap_id (by omega) (by omega)
    have p2:=cV_put0 (c:=cnt fls) (n:=n) (i:=i) (x,1) (min ((x:Int)+1) 1000) (min (pa+1) 1000) (by omega)
    simp only at p2;simp only[go1,prows_len,ilt_at hkl,inr_at hkl,prow_at hq,decT h5,srows_len,e5,hL,inr_at hin,Int.toNat_natCast,hA,hwx,e3,p2,wrap_succ hkl (by omega)]
    exact⟨_,rfl,min (pa+1) 1000,rfl,by simp[h5,hpa]⟩
   ·simp only[go1,prows_len,ilt_at hkl,inr_at hkl,prow_at hq,decF h5,wrap_succ hkl (by omega)]
    exact⟨_,rfl,x,rfl,by simp[h5,hpa,hI]⟩
  ·rw[List.take_length]at hI;simp only[go1,ilt_self,frows_len,inr_at hil,frow_at hf,e4,prows_len];refine for_s f.eqs (fun k (x:Nat × Nat)=>[.sl 10 (prows f.eqs), .int .i64 (f.eqs.length:Int), .int .i64 (k:Int), .sl 2 (erows ens), .sl 5 (frows fls), .sl 2 (crr (cV (cnt fls) n i x)), .int .i64 (i:Int), .str f.n, .sl 5 (vrows f.ins), .sl 5 (vrows f.outs), .sl 5 (vrows f.vars), .sl 10 (prows f.eqs), .sl 2 (erows ens), .sl 5 (frows fls), .int .i64 (i:Int), .int .i64 (n:Int), .int .i64 ((n+1:Nat):Int), .int .i64 (i:Int)]) (fun k y=>y=(min ((sA f.eqs).length+(sB fls (f.eqs.take k)).length) 1000,min (1+nB fls (f.eqs.take k)) 1000)) (x,1) (by simp[sB,nB,hI]) rfl (fun k y q hq hJ hkl=> ?_) (fun y hJ=> ?_)
   ·have hqm:=List.mem_of_getElem? hq;have hqo:=hfo.ok.call q hqm;have hnl:=List.length_pos_iff.2 (hfo.ok.ne q hqm);have e5:decide ((0:Int) < (q.ns.length:Int))=true:=decT (by omega)
    have ht:f.eqs.take (k+1)=f.eqs.take k++[q]:=by rw[List.take_add_one,hq];rfl
    rw[ht,sB_snoc,nB_snoc];obtain⟨p,m⟩:=y;obtain⟨rfl,rfl⟩:=Prod.mk.inj hJ;generalize hpa:(sA f.eqs).length=pa;generalize hpb:(sB fls (f.eqs.take k)).length=pb;generalize hpn:nB fls (f.eqs.take k)=pn
    by_cases h7:q.k=7
    ·obtain⟨h8,h9⟩:=hqo h7;obtain⟨j,hj⟩:=Int.eq_ofNat_of_zero_le h8;have hji:j < i:=by omega
     have hj1:j < n+1:=by omega
     have g1: ∀x,sy.rown (crr (cV (cnt fls) n i x)) j= [.int .i64 (cnt1 fls j:Int), .int .i64 (cnt2 fls j:Int)]:=fun x=>cV_lt hji x
     have c1:cnt1 fls j<=1000:=Nat.min_le_right _ _;have c2:cnt2 fls j<=1000:=Nat.min_le_right _ _;have hw1:IntKind.i64.wrap (((min (pa+pb) 1000:Nat):Int)+(cnt1 fls j:Int))=((min (pa+pb) 1000:Nat):Int)+(cnt1 fls j:Int):=wrap_id (by omega) (by omega)
     have hw2:IntKind.i64.wrap (((min (1+pn) 1000:Nat):Int)+(cnt2 fls j:Int))=((min (1+pn) 1000:Nat):Int)+(cnt2 fls j:Int):=wrap_id (by omega) (by omega)
     have q1:=cV_put0 (c:=cnt fls) (n:=n) (i:=i) (min (pa+pb) 1000,min (1+pn) 1000) (min (((min (pa+pb) 1000:Nat):Int)+(cnt1 fls j:Int)) 1000) (min (pa+(pb+(stF fls j).length)) 1000) (by unfold cnt1;omega)
     have q2:=cV_put1 (c:=cnt fls) (n:=n) (i:=i) (min (pa+(pb+(stF fls j).length)) 1000,min (1+pn) 1000) (min (((min (1+pn) 1000:Nat):Int)+(cnt2 fls j:Int)) 1000) (min (1+(pn+inF fls j)) 1000) (by unfold cnt2;omega)
     simp only at q1 q2;simp only[go1,prows_len,ilt_at hkl,inr_at hkl,prow_at hq,decT h7,srows_len,e5,hj,decT (show 0<=(j:Int) by omega),ilt_at hji,hL,inr_at hin,inr_at hj1,Int.toNat_natCast,hA,g1,hw1,e3,q1,hw2,q2,wrap_succ hkl (by omega)]
     exact⟨_,rfl,(min (pa+(pb+(stF fls j).length)) 1000,min (1+(pn+inF fls j)) 1000),rfl,by simp[h7,hpb]⟩
    ·simp only[go1,prows_len,ilt_at hkl,inr_at hkl,prow_at hq,decF h7,wrap_succ hkl (by omega)]
     exact⟨_,rfl,(_,_),rfl,by simp[h7,hpb]⟩
   ·rw[List.take_length]at hJ;have e6:y=cnt fls i:=by
     rw[hJ];unfold cnt cnt1 cnt2;rw[st_eq hO hf,in_eq hO hf,List.length_append]
    subst e6;have e7:(if i+1<=n then crr (cV (cnt fls) n (i+1) (0,0))else crr (cV (cnt fls) n n (cnt fls n)))=crr (cV (cnt fls) n i (cnt fls i)):=by
     by_cases hlt:i+1<=n
     ·rw[if_pos hlt,cV_next (by omega)]
     ·rw[if_neg hlt,show i=n by omega]
    simp only[go1,ilt_self,wrap_succ hin (by omega),e7]
    exact⟨_,rfl,(),rfl⟩
 ·have hL: ∀x,(crr (cV (cnt fls) n n x)).length=n+1:=cV_len (Nat.le_refl _)
  have hA:sy.rown (crr (cV (cnt fls) n n (cnt fls n))) n= [.int .i64 (cnt1 fls n:Int), .int .i64 (cnt2 fls n:Int)]:=cV_at _;rw[if_neg (by omega)]
  simp only[go1,ilt_self,hL,inr_at (Nat.lt_succ_self n),Int.toNat_natCast,hA];exact⟨_,rfl,rfl⟩
end
def kprow (x:CellP):List D:=[.str x.1, .sl 1 (irows x.2)]
def kprows (l:List CellP):LL:=l.map kprow
theorem kprows_len (l:List CellP):(kprows l).length=l.length:=by simp[kprows]
theorem kprow_at {l:List CellP}{i:Nat}{x:CellP}(h:l[i]? =some x):sy.row (kprows l) (i:Int)= [.str x.1, .sl 1 (irows x.2)]:=by
 rw[sy_row,Int.toNat_natCast,List.getD_eq_getElem?_getD];unfold kprows;rw[List.getElem?_map,h];rfl
theorem hd_at {q:Pq}(h:q.ns≠[]):q.ns[0]? =some q.hd:=by
 unfold Pq.hd;cases hq:q.ns with
 |nil=>exact absurd hq h
 |cons y r=>rfl
theorem x_values (v:List Int)(h:v.length<=1000000):cF 98 [.d (.sl 1 (irows v))]=some (.own 2 1 (irows v)):=by
 have e1:decide (0<=(v.length:Int)/\(v.length:Int)*(((8:Nat):Int)+1)<=140737488355328)=true:=decT (by omega)
 have e2:decide (0<=(v.length:Int))=true:=decT (by omega)
 have e3:List.take (min v.length v.length) (irows v)=irows v:=by rw[Nat.min_self,<-irows_len v,List.take_length]
 have e4:(List.replicate v.length [D.int .i64 0]).drop (0+min v.length v.length)= []:=by simp
 refine cOf (by kernel_rfl) rfl ?_
 rw[g98_eq];simp only[g98,go1,eq_self,irows_len,e1,List.length_replicate,Int.toNat_natCast,Int.zero_add,Int.le_refl,e2];simp[sy_rcopy,irows_len];rw[<-irows_len v,List.take_length]
section
variable {fls : List Fl} {R : T3 -> List Int -> Prop}
theorem sA_app (a b:List Pq):sA (a++b)=sA a++sA b:=by unfold sA;rw[List.filter_append,List.map_append]
theorem sB_app (a b:List Pq):sB fls (a++b)=sB fls a++sB fls b:=by unfold sB;rw[List.filter_append,List.flatMap_append]
theorem tB_app (a b:List Pq):tB fls (a++b)=tB fls a++tB fls b:=by unfold tB;rw[List.filter_append,List.flatMap_append]
theorem sA_take (l:List Pq)(k:Nat):(sA (l.take k)).length<=(sA l).length:=by
 have:=congrArg List.length (sA_app (l.take k) (l.drop k));rw[List.take_append_drop,List.length_append]at this;omega
theorem sB_take (l:List Pq)(k:Nat):(sB fls (l.take k)).length<=(sB fls l).length:=by
 have:=congrArg List.length (sB_app (fls:=fls) (l.take k) (l.drop k));rw[List.take_append_drop,List.length_append]at this;omega
theorem tB_take (l:List Pq)(k:Nat):(tB fls (l.take k)).length<=(tB fls l).length:=by
 have:=congrArg List.length (tB_app (fls:=fls) (l.take k) (l.drop k));rw[List.take_append_drop,List.length_append]at this;omega
theorem Kept.all {m:Nat}: ∀ {l:List CellP} {r:List T3},Kept R m l r-> ∀x∈l,(tb x.1).length<=17*m
 | [],_,_,x,hx=>by cases hx
 |y::l,t::r,h,x,hx=>by
  rcases List.mem_cons.1 hx with rfl|hx
  ·exact h.1.2.1
  ·exact Kept.all h.2 x hx
theorem st_size (h: ∀i f,fls[i]? =some f->FlOK R i f){i:Nat}{x:CellP}(hx:x∈stF fls i):x.1.size<=17*(i+1):=by
 have:=(kept_all h (i+1) i (Nat.lt_succ_self i)).all x hx
 rwa [tb_len]at this
theorem hd_size (h: ∀i f,fls[i]? =some f->FlOK R i f){i:Nat}{f:Fl}(hf:fls[i]? =some f){q:Pq}(hq:q∈f.eqs):q.hd.size<=16:=by
 have:=((h i f hf).hd q hq).2.2
 rwa [tb_len]at this
end
section
variable {ens : List En} {fls : List Fl} (hF : ∀ i f, fls[i]? = some f -> FOK ens i f) (hfl : fls.length <= 1000000)
include hF hfl
def MsC (ens:List En)(fls:List Fl)(i:Nat):Prop:=cF 51 [lV ens fls, .d (.int .i64 (i:Int))]=some (.own 67 2 (kprows (stF fls i)))
theorem x_mstart: ∀(m i:Nat),i < m->i < fls.length->(stF fls i).length<=1000->MsC ens fls i
 |0,i,h,_,_=>by omega
 |m+1,i,h,hil,hsl=>by
  have hO: ∀i f,fls[i]? =some f->FlOK (QR ens) i f:=fun i f h=>(hF i f h).ok
  have hf:=List.getElem?_eq_getElem hil;generalize fls[i]=f at hf;have hfo:=hF i f hf;have hel:=hfo.el;have hst:=st_eq hO hf;have hsl2:=congrArg List.length hst;rw[List.length_append]at hsl2
  suffices h: ∃p,cF 51 [lV ens fls, .d (.int .i64 (i:Int))]=some p/\p= .own 67 2 (kprows (stF fls i)) by
   obtain⟨_,h,rfl⟩:=h;exact h
  have e0: ∀q:Pq,∀j,sy.cell (sy.skip 1 [D.int .i64 q.k, .sl 1 (srows q.ns), .int .i64 q.o, .sl 2 (crows q.ar), .sl 1 (irows q.it), .int .i64 q.nd, .bool q.rs, .str q.ev, .int .i64 q.ec, .sl 2 (crows q.on)]) j=sy.cell [D.sl 1 (srows q.ns), .int .i64 q.o, .sl 2 (crows q.ar), .sl 1 (irows q.it), .int .i64 q.nd, .bool q.rs, .str q.ev, .int .i64 q.ec, .sl 2 (crows q.on)] j:=fun _ _=>rfl
  have e4: ∀q:Pq,∀j,sy.cell (sy.skip 4 [D.int .i64 q.k, .sl 1 (srows q.ns), .int .i64 q.o, .sl 2 (crows q.ar), .sl 1 (irows q.it), .int .i64 q.nd, .bool q.rs, .str q.ev, .int .i64 q.ec, .sl 2 (crows q.on)]) j=sy.cell [D.sl 1 (irows q.it), .int .i64 q.nd, .bool q.rs, .str q.ev, .int .i64 q.ec, .sl 2 (crows q.on)] j:=fun _ _=>rfl
  have e5: ∀(q:Pq) (d:Int),∀j,sy.cell (sy.skip 5 [D.int .i64 q.k, .sl 1 (srows q.ns), .int .i64 q.o, .sl 2 (crows q.ar), .sl 1 (irows q.it), .int .i64 d, .bool q.rs, .str q.ev, .int .i64 q.ec, .sl 2 (crows q.on)]) j=sy.cell [D.int .i64 d, .bool q.rs, .str q.ev, .int .i64 q.ec, .sl 2 (crows q.on)] j:=fun _ _ _=>rfl
  refine cOfP (by kernel_rfl) rfl ?_
  rw[g51_eq];simp only[g51,go1,oF,oP,Nat.reduceAdd,Int.reduceLE,frows_len,inr_at hil,frow_at hf];refine for_s f.eqs (fun k (out:List CellP)=>[.int .i64 (i:Int), .int .i64 (k:Int), .sl 2 (erows ens), .sl 5 (frows fls), .sl 2 (kprows out), .str f.n, .sl 5 (vrows f.ins), .sl 5 (vrows f.outs), .sl 5 (vrows f.vars), .sl 10 (prows f.eqs)]) (fun k out=>out=sA (f.eqs.take k)) [] (by simp[sA]) rfl (fun k out q hq hI hkl=> ?_) (fun out hI=> ?_)
  ·have hqm:=List.mem_of_getElem? hq;have hne:=hfo.ok.ne q hqm;have hnp:=List.length_pos_iff.2 hne;have hP:=x_mpart q i hne (hfo.ok.call q hqm);have ht:f.eqs.take (k+1)=f.eqs.take k++[q]:=by rw[List.take_add_one,hq];rfl
   have hol:out.length<=1000:=by rw[hI];have:=sA_take f.eqs k;omega
   rw[ht,sA_snoc]
   by_cases h5:q.k=5
   ·have hft:=fitsR (kprows out) [[.str q.hd, .sl 1 (irows q.it)]] 40 (by rw[kprows_len];simp only[List.length_cons,List.length_nil];omega)
    simp only[go1,Nat.reduceAdd]at hft;rw[decT h5]at hP;simp only[go1,prows_len,ilt_at hkl,inr_at hkl,prow_at hq,hP,e0,e4,srows_len,inr_0 hnp,srow_0 (hd_at hne),hft,wrap_succ hkl (by omega)]
    exact⟨_,rfl,out++[(q.hd,q.it)],by simp[kprows,kprow],by rw[hI,if_pos h5]⟩
   ·rw[decF h5]at hP;simp only[go1,prows_len,ilt_at hkl,inr_at hkl,prow_at hq,hP,wrap_succ hkl (by omega)]
    exact⟨_,rfl,out,rfl,by rw[hI,if_neg h5,List.append_nil]⟩
  ·rw[List.take_length]at hI;simp only[go1,prows_len,ilt_self];refine for_s f.eqs (fun k (o2:List CellP)=>[.int .i64 (i:Int), .int .i64 (k:Int), .sl 2 (erows ens), .sl 5 (frows fls), .sl 2 (kprows o2), .str f.n, .sl 5 (vrows f.ins), .sl 5 (vrows f.outs), .sl 5 (vrows f.vars), .sl 10 (prows f.eqs)]) (fun k o2=>o2=sA f.eqs++sB fls (f.eqs.take k)) out (by simp[sB,hI]) rfl (fun k o2 q hq hJ hkl=> ?_) (fun o2 hJ=> ?_)
   ·have hqm:=List.mem_of_getElem? hq;have hne:=hfo.ok.ne q hqm;have hnp:=List.length_pos_iff.2 hne;have hqo:=hfo.ok.call q hqm;have hP:=x_mpart q i hne hqo;have ht:f.eqs.take (k+1)=f.eqs.take k++[q]:=by rw[List.take_add_one,hq];rfl
    have hsn:=sB_snoc (fls:=fls) (f.eqs.take k) q
    by_cases h7:q.k=7
    ·obtain⟨h8,h9⟩:=hqo h7;obtain⟨j,hj⟩:=Int.eq_ofNat_of_zero_le h8;have hji:j < i:=by omega
     have hsl3:=sB_take (fls:=fls) f.eqs (k+1);rw[ht,hsn,if_pos h7,List.length_append,List.length_map,hj,Int.toNat_natCast]at hsl3;have hrec:=x_mstart m j (by omega) (by omega) (by omega)
     unfold MsC at hrec;have hhs:=hd_size hO hf hqm;rw[decT h7]at hP;unfold qV at hP;rw[hj]at hP;rw[ht,hsn,if_pos h7,hj,Int.toNat_natCast];simp only[go1,prows_len,ilt_at hkl,inr_at hkl,prow_at hq,hj,hP,e5,hrec];refine for_s (stF fls j) (fun t (o3:List CellP)=>[.int .i64 (i:Int), .int .i64 (k:Int), .sl 2 (kprows (stF fls j)), .int .i64 (t:Int), .sl 2 (erows ens), .sl 5 (frows fls), .sl 2 (kprows o3), .str f.n, .sl 5 (vrows f.ins), .sl 5 (vrows f.outs), .sl 5 (vrows f.vars), .sl 10 (prows f.eqs)]) (fun t o3=>o3=o2++((stF fls j).take t).map (over q.hd)) o2 (by simp) rfl (fun t o3 x hx hK htl=> ?_) (fun o3 hK=> ?_)
     ·have hol:o3.length<=3000:=by
       rw[hK,hJ];simp only[List.length_append,List.length_map,List.length_take];have:=sB_take (fls:=fls) f.eqs k;omega
      have hxs:=st_size hO (List.mem_of_getElem? hx);have b1:=sfT (a:=q.hd) (b:=bs [47]) (by rw[bs_sz];simp only[List.length_cons,List.length_nil];omega)
      have b2:=sfT (a:=q.hd++bs [47]) (b:=x.1) (by rw[ByteArray.size_append,bs_sz];simp only[List.length_cons,List.length_nil];omega)
      have e6:sy.cell (sy.skip 1 [D.str x.1, .sl 1 (irows x.2)]) 0=some (.sl 1 (irows x.2)):=rfl;have hft:=fitsR (kprows o3) [[.str (q.hd++bs [47]++x.1), .sl 1 (irows x.2)]] 40 (by rw[kprows_len];simp only[List.length_cons,List.length_nil];omega)
      simp only[go1,Nat.reduceAdd,kprows_len]at hft;simp only[go1,kprows_len,ilt_at htl,inr_at htl,prows_len,inr_at hkl,prow_at hq,e0,srows_len,inr_0 hnp,srow_0 (hd_at hne),b1,kprow_at hx,b2,e6,hft,wrap_succ htl (by omega)]
      refine⟨_,rfl,o3++[over q.hd x],by simp[kprows,kprow,over,slash],?_⟩
      rw[hK,List.take_add_one,hx];simp
     ·simp only[go1,kprows_len,ilt_self,wrap_succ hkl (by omega)]
      rw[List.take_length]at hK;exact⟨_,rfl,o3,rfl,by rw[hK,hJ,List.append_assoc]⟩
    ·rw[decF h7]at hP;rw[ht,hsn,if_neg h7,List.append_nil];simp only[go1,prows_len,ilt_at hkl,inr_at hkl,prow_at hq,hP,wrap_succ hkl (by omega)]
     exact⟨_,rfl,o2,rfl,hJ⟩
   ·rw[List.take_length,<-hst]at hJ;subst hJ;simp only[go1,prows_len,ilt_self];exact⟨_,rfl,rfl⟩
theorem x_mStart {n:Nat}(hn:n < fls.length): ∃p,cF 21 [lV ens fls, .d (.int .i64 (n:Int))]=some p/\((p= .val [.sl 2 [], .bool false]/\(cnt2 fls n=0\/120 < cnt1 fls n\/120 < cnt2 fls n))\/(p= .val [.sl 2 (kprows (stF fls n)), .bool true]/\(stF fls n).length<=120/\ ¬(cnt2 fls n=0\/120 < cnt1 fls n\/120 < cnt2 fls n))):=by
 have h1:=x_mCount hF hfl hn
 by_cases hc:cnt2 fls n=0\/120 < cnt1 fls n\/120 < cnt2 fls n
 ·refine⟨.val [.sl 2 [], .bool false],?_, .inl ⟨rfl,hc⟩⟩
  by_cases c1:cnt2 fls n=0
  ·refine cOf (by kernel_rfl) rfl ?_
   rw[g21_eq];simp only[g21,go1,eq_self,h1,decT (p:=(cnt2 fls n:Int)=0) (by omega)]
  ·by_cases c2:120 < cnt1 fls n
   ·refine cOf (by kernel_rfl) rfl ?_
    rw[g21_eq];simp only[g21,go1,eq_self,h1,decF (p:=(cnt2 fls n:Int)=0) (by omega),decT (p:=120 < (cnt1 fls n:Int)) (by omega)]
   ·refine cOf (by kernel_rfl) rfl ?_
    rw[g21_eq];simp only[g21,go1,eq_self,h1,decF (p:=(cnt2 fls n:Int)=0) (by omega),decT (p:=120 < (cnt2 fls n:Int)) (by omega)]
 ·have hl:(stF fls n).length<=120:=by unfold cnt1 at hc;omega
  have h2:=x_mstart hF hfl (n+1) n (Nat.lt_succ_self n) hn (by omega)
  unfold MsC at h2;refine⟨.val [.sl 2 (kprows (stF fls n)), .bool true],?_, .inr ⟨rfl,hl,hc⟩⟩;refine cOf (by kernel_rfl) rfl ?_
  rw[g21_eq];simp only[g21,go1,eq_self,h1,decF (p:=(cnt2 fls n:Int)=0) (by omega),decF (p:=120 < (cnt1 fls n:Int)) (by omega),decF (p:=120 < (cnt2 fls n:Int)) (by omega),h2]
end
def pre (a:BA)(x:CellP):CellP:=(a++x.1,x.2)
theorem pre_nil (x:CellP):pre (bs []) x=x:=by
 unfold pre;refine Prod.ext (tb_inj ?_) rfl;rw[tb_app];rfl
theorem pre_over (a s:BA)(x:CellP):pre a (over s x)=pre (a++s++bs [47]) x:=by
 unfold pre over slash;refine Prod.ext (tb_inj ?_) rfl;simp only[tb_app,List.append_assoc]
theorem dcBe (en fl:LL)(at_:Int)(ah:BA)(out:LL):decB (kBe en fl at_ ah out)=some (0,[.agg [.d (.sl 2 en), .d (.sl 5 fl)], .d (.int .i64 at_), .d (.str ah), .fn 56 [.ptr 0 0]],[.cells (.ty 53) [.own 1], .arr 67 2 out]):=rfl
section
variable {ens : List En} {fls : List Fl} (hF : ∀ i f, fls[i]? = some f -> FOK ens i f) (hfl : fls.length <= 1000000)
include hF hfl
theorem it_len {i:Nat}{f:Fl}(hf:fls[i]? =some f){q:Pq}(hq:q∈f.eqs)(h5:q.k=5):q.it.length<=8:=by
 have h:=(hF i f hf).ok.fby q hq h5;have h1:=(tyR_iff.1 (show tyR ens ((f.ty q.hd).1,(f.ty q.hd).2.1,(f.ty q.hd).2.2)from h.1));have h2:=h.2.1;omega
theorem x_below: ∀(m i:Nat) (ah:BA) (out:List CellP),i < m->i < fls.length->(stF fls i).length+out.length<=100000->ah.size+17*(i+1)<=1000000000->cF 1000055 (kBe (erows ens) (frows fls) (i:Int) ah (kprows out))=some (.val [.sl 2 (kprows (out++(stF fls i).map (pre ah)))])
 |0,i,_,_,h,_,_,_=>by omega
 |m+1,i,ah,out,h,hil,hsl,hah=>by
  have hO: ∀i f,fls[i]? =some f->FlOK (QR ens) i f:=fun i f h=>(hF i f h).ok
  have hf:=List.getElem?_eq_getElem hil;generalize fls[i]=f at hf;have hfo:=hF i f hf;have hel:=hfo.el;have hst:=st_eq hO hf;have hsl2:=congrArg List.length hst;rw[List.length_append]at hsl2
  suffices h: ∃p,cF 1000055 (kBe (erows ens) (frows fls) (i:Int) ah (kprows out))=some p/\p= .val [.sl 2 (kprows (out++(stF fls i).map (pre ah)))] by
   obtain⟨_,h,rfl⟩:=h;exact h
  have e4:sy.cell (sy.skip 4 [D.str f.n, .sl 5 (vrows f.ins), .sl 5 (vrows f.outs), .sl 5 (vrows f.vars), .sl 10 (prows f.eqs)]) 0=some (.sl 10 (prows f.eqs)):=rfl;refine cOfBP (f:=55) (by kernel_rfl) (dcBe ..) (by kernel_rfl) rfl ?_
  rw[b55_eq];simp only[b55,go1,oF,oP,Nat.reduceAdd,Int.reduceLE,frows_len,inr_at hil,frow_at hf,prows_len];refine for_s f.eqs (fun k (o:List CellP)=>[.sl 10 (prows f.eqs), .int .i64 (f.eqs.length:Int), .int .i64 (k:Int), .sl 2 (kprows o), .sl 2 (erows ens), .sl 5 (frows fls), .str ah, .str f.n, .sl 5 (vrows f.ins), .sl 5 (vrows f.outs), .sl 5 (vrows f.vars), .sl 10 (prows f.eqs), .int .i64 (i:Int)]) (fun k o=>o=out++(sA (f.eqs.take k)).map (pre ah)) out (by simp[sA]) rfl (fun k o q hq hI hkl=> ?_) (fun o hI=> ?_)
  ·have hqm:=List.mem_of_getElem? hq;have hne:=hfo.ok.ne q hqm;have hnp:=List.length_pos_iff.2 hne;have ht:f.eqs.take (k+1)=f.eqs.take k++[q]:=by rw[List.take_add_one,hq];rfl
   have hol:o.length<=100000:=by rw[hI,List.length_append,List.length_map];have:=sA_take f.eqs k;omega
   rw[ht,sA_snoc,List.map_append]
   by_cases h5:q.k=5
   ·have hhs:=hd_size hO hf hqm;have b1:=sfT (a:=ah) (b:=q.hd) (by omega)
    have hv:=x_values q.it (by have:=it_len hF hfl hf hqm h5;omega)
    have hft:=fitsR (kprows o) [[.str (ah++q.hd), .sl 1 (irows q.it)]] 40 (by rw[kprows_len];simp only[List.length_cons,List.length_nil];omega)
    simp only[go1,Nat.reduceAdd]at hft;simp only[go1,ilt_at hkl,prows_len,inr_at hkl,prow_at hq,decT h5,srows_len,decT (p:=0 < (q.ns.length:Int)) (by omega),srow_0 (hd_at hne),b1,hv,hft,wrap_succ hkl (by omega)]
    exact⟨_,rfl,o++[pre ah (q.hd,q.it)],by simp[kprows,kprow,pre],by rw[hI,if_pos h5];simp⟩
   ·simp only[go1,ilt_at hkl,prows_len,inr_at hkl,prow_at hq,decF h5,wrap_succ hkl (by omega)]
    exact⟨_,rfl,o,rfl,by rw[hI,if_neg h5];simp⟩
  ·rw[List.take_length]at hI;simp only[go1,ilt_self,frows_len,inr_at hil,frow_at hf,e4,prows_len];refine for_s f.eqs (fun k (o2:List CellP)=>[.sl 10 (prows f.eqs), .int .i64 (f.eqs.length:Int), .int .i64 (k:Int), .sl 2 (kprows o2), .sl 2 (erows ens), .sl 5 (frows fls), .str ah, .str f.n, .sl 5 (vrows f.ins), .sl 5 (vrows f.outs), .sl 5 (vrows f.vars), .sl 10 (prows f.eqs), .sl 2 (erows ens), .sl 5 (frows fls), .int .i64 (i:Int), .int .i64 (i:Int)]) (fun k o2=>o2=out++(sA f.eqs).map (pre ah)++(sB fls (f.eqs.take k)).map (pre ah)) o (by simp[sB,hI]) rfl (fun k o2 q hq hJ hkl=> ?_) (fun o2 hJ=> ?_)
   ·have hqm:=List.mem_of_getElem? hq;have hne:=hfo.ok.ne q hqm;have hnp:=List.length_pos_iff.2 hne;have hqo:=hfo.ok.call q hqm;have ht:f.eqs.take (k+1)=f.eqs.take k++[q]:=by rw[List.take_add_one,hq];rfl
    have hsn:=sB_snoc (fls:=fls) (f.eqs.take k) q
    by_cases h7:q.k=7
    ·obtain⟨h8,h9⟩:=hqo h7;obtain⟨j,hj⟩:=Int.eq_ofNat_of_zero_le h8;have hji:j < i:=by omega
     have hsl3:=sB_take (fls:=fls) f.eqs (k+1);rw[ht,hsn,if_pos h7,List.length_append,List.length_map,hj,Int.toNat_natCast]at hsl3;have hhs:=hd_size hO hf hqm;have hz:(ah++q.hd++bs [47]).size<=ah.size+17:=by rw[ByteArray.size_append,ByteArray.size_append,bs_sz];simp only[List.length_cons,List.length_nil];omega
     have hrec:=x_below m j (ah++q.hd++bs [47]) o2 (by omega) (by omega) (by
      rw[hJ];simp only[List.length_append,List.length_map];omega) (by omega)
     have b1:=sfT (a:=ah) (b:=q.hd) (by omega)
     have b2:=sfT (a:=ah++q.hd) (b:=bs [47]) (by rw[ByteArray.size_append,bs_sz];simp only[List.length_cons,List.length_nil];omega)
     rw[ht,hsn,if_pos h7,hj,Int.toNat_natCast];simp only[go1,ilt_at hkl,prows_len,inr_at hkl,prow_at hq,decT h7,hj,srows_len,decT (p:=0 < (q.ns.length:Int)) (by omega),decT (show 0<=(j:Int) by omega),ilt_at hji,srow_0 (hd_at hne),b1,b2,hrec,wrap_succ hkl (by omega)]
     refine⟨_,rfl,o2++(stF fls j).map (pre (ah++q.hd++bs [47])),rfl,?_⟩;rw[hJ,List.map_append,List.map_map];have:(pre ah ∘ over q.hd)=pre (ah++q.hd++bs [47]):=by funext x;exact pre_over _ _ _
     rw[this,List.append_assoc _ _ ((stF fls j).map _)]
    ·rw[ht,hsn,if_neg h7,List.append_nil];simp only[go1,ilt_at hkl,prows_len,inr_at hkl,prow_at hq,decF h7,wrap_succ hkl (by omega)]
     exact⟨_,rfl,o2,rfl,hJ⟩
   ·rw[List.take_length,List.append_assoc,<-List.map_append,<-hst]at hJ;subst hJ;simp only[go1,ilt_self];exact⟨_,rfl,rfl⟩
theorem x_Start {n:Nat}(hn:n < fls.length): ∃p,cF 23 [lV ens fls, .d (.int .i64 (n:Int))]=some p/\((p= .val [.sl 2 [], .bool false]/\(cnt2 fls n=0\/120 < cnt1 fls n\/120 < cnt2 fls n))\/(p= .val [.sl 2 (kprows (stF fls n)), .bool true]/\(stF fls n).length<=120/\ ¬(cnt2 fls n=0\/120 < cnt1 fls n\/120 < cnt2 fls n))):=by
 have h1:=x_Count hF hfl hn
 by_cases hc:cnt2 fls n=0\/120 < cnt1 fls n\/120 < cnt2 fls n
 ·refine⟨.val [.sl 2 [], .bool false],?_, .inl ⟨rfl,hc⟩⟩
  by_cases c1:cnt2 fls n=0
  ·refine cOf (by kernel_rfl) rfl ?_
   rw[g23_eq];simp only[g23,go1,eq_self,h1,decT (p:=(cnt2 fls n:Int)=0) (by omega)]
  ·by_cases c2:120 < cnt1 fls n
   ·refine cOf (by kernel_rfl) rfl ?_
    rw[g23_eq];simp only[g23,go1,eq_self,h1,decF (p:=(cnt2 fls n:Int)=0) (by omega),decT (p:=120 < (cnt1 fls n:Int)) (by omega)]
   ·refine cOf (by kernel_rfl) rfl ?_
    rw[g23_eq];simp only[g23,go1,eq_self,h1,decF (p:=(cnt2 fls n:Int)=0) (by omega),decT (p:=120 < (cnt2 fls n:Int)) (by omega)]
 ·have hl:(stF fls n).length<=120:=by unfold cnt1 at hc;omega
  have h2:=x_below hF hfl (n+1) n (bs []) [] (Nat.lt_succ_self n) hn (by simp;omega) (by rw[bs_sz];simp only[List.length_nil];omega)
  have e:(stF fls n).map (pre (bs []))=stF fls n:=by
   have:pre (bs [])=id:=funext pre_nil;rw[this,List.map_id]
  rw[e,List.nil_append]at h2;have h2:cF 1000055 (kBe (erows ens) (frows fls) (n:Int) (bs []) [])=_:=h2;refine⟨.val [.sl 2 (kprows (stF fls n)), .bool true],?_, .inr ⟨rfl,hl,hc⟩⟩;refine cOf (by kernel_rfl) rfl ?_
  rw[g23_eq];simp only[g23,go1,eq_self,h1,decF (p:=(cnt2 fls n:Int)=0) (by omega),decF (p:=120 < (cnt1 fls n:Int)) (by omega),decF (p:=120 < (cnt2 fls n:Int)) (by omega),h2]
end
theorem vrow_at {l:List Vr}{i:Nat}{v:Vr}(h:l[i]? =some v):sy.row (vrows l) (i:Int)= [.str v.n, .int .i64 v.t.1, .int .i64 v.t.2.1, .int .i64 v.t.2.2, .sl 2 (crows v.on)]:=by
 rw[sy_row,Int.toNat_natCast,List.getD_eq_getElem?_getD];unfold vrows;rw[List.getElem?_map,h];rfl
theorem vrows_app (a b:List Vr):vrows (a++b)=vrows a++vrows b:=by unfold vrows;rw[List.map_append]
def varR:Option Vr->List D
 |some v=>[.str v.n, .int .i64 v.t.1, .int .i64 v.t.2.1, .int .i64 v.t.2.2, .sl 2 (crows v.on), .bool true]
 |none=>[.str (bs []), .int .i64 0, .int .i64 0, .int .i64 0, .sl 2 [], .bool false]
theorem varR_ty (f:Fl)(s:BA): ∃(n:BA) (on:LL) (b:Bool),varR (f.all.find? (isV s))= [.str n, .int .i64 (f.ty s).1, .int .i64 (f.ty s).2.1, .int .i64 (f.ty s).2.2, .sl 2 on, .bool b]:=by
 unfold Fl.ty;cases f.all.find? (isV s)with
 |none=>exact⟨_,_,_,rfl⟩
 |some v=>exact⟨_,_,_,rfl⟩
def lrow (l:List Vr):List D:=[.sl 5 (vrows l)]
theorem lrow_at {L:List (List Vr)}{i:Nat}{l:List Vr}(h:L[i]? =some l):sy.row (L.map lrow) (i:Int)= [.sl 5 (vrows l)]:=by
 rw[sy_row,Int.toNat_natCast,List.getD_eq_getElem?_getD,List.getElem?_map,h];rfl
section
variable {f : Fl} (hal : f.all.length <= 100000000)
include hal
theorem x_nAll:cF 149 [fV f]=some (.own 94 5 (vrows f.all)):=by
 have hl:f.ins.length+f.outs.length+f.vars.length<=100000000:=by unfold Fl.all at hal;simp only[List.length_append]at hal;omega
 have f1:=fitsR [] (vrows f.ins) 64 (by rw[vrows_len];simp only[List.length_nil];omega)
 have f2:=fitsR ([]++vrows f.ins) (vrows f.outs) 64 (by rw[List.nil_append,vrows_len,vrows_len];omega)
 have f3:=fitsR ([]++vrows f.ins++vrows f.outs) (vrows f.vars) 64 (by rw[List.nil_append,List.length_append,vrows_len,vrows_len,vrows_len];omega)
 simp only[go1,Nat.reduceAdd]at f1 f2 f3;refine cOf (by kernel_rfl) rfl ?_
 rw[g149_eq];simp only[g149,go1,Nat.reduceAdd,f1,f2,f3];unfold Fl.all;rw[vrows_app,vrows_app,List.nil_append]
theorem x_nVar (s:BA):cF 102 [fV f, .d (.str s)]=some (.val (varR (f.all.find? (isV s)))):=by
 have h1:=x_nAll hal;refine cOf (by kernel_rfl) rfl ?_
 rw[g102_eq];simp only[g102,go1,oV,h1];refine find_loop (isV s) f.all (fun i=>[.str s, .sl 5 (vrows f.all), .int .i64 (i:Int), .str (bs []), .int .i64 0, .int .i64 0, .int .i64 0]) (fun o=>PRes.val (varR o)) rfl (fun i x hx hlt=> ?_) ?_
 ·simp only[go1,vrows_len,ilt_at hlt,inr_at hlt,vrow_at hx,seq_tb,wrap_succ hlt (by omega)]
  unfold isV;cases decide (tb x.n=tb s)<;>rfl
 ·simp only[go1,vrows_len,ilt_self];rfl
theorem x_concat:cF 99 [.d (.sl 1 [[.sl 5 (vrows f.ins)],[.sl 5 (vrows f.outs)],[.sl 5 (vrows f.vars)]])]=some (.own 94 5 (vrows f.all)):=by
 have hl:f.ins.length+f.outs.length+f.vars.length<=100000000:=by unfold Fl.all at hal;simp only[List.length_append]at hal;omega
 suffices h: ∃p,cF 99 [.d (.sl 1 [[.sl 5 (vrows f.ins)],[.sl 5 (vrows f.outs)],[.sl 5 (vrows f.vars)]])]=some p/\p= .own 94 5 (vrows f.all) by
  obtain⟨_,h,rfl⟩:=h;exact h
 have hL: ∀l∈[f.ins,f.outs,f.vars],l.length<=100000000:=fun l hl'=>by simp at hl';rcases hl' with rfl|rfl|rfl<;>omega
 have eL:[[D.sl 5 (vrows f.ins)],[D.sl 5 (vrows f.outs)],[D.sl 5 (vrows f.vars)]]= [f.ins,f.outs,f.vars].map lrow:=rfl;have hflat:([f.ins,f.outs,f.vars]:List (List Vr)).flatten=f.all:=by unfold Fl.all;simp
 rw[eL];have h3:(([f.ins,f.outs,f.vars]:List (List Vr)).map lrow).length=([f.ins,f.outs,f.vars]:List (List Vr)).length:=by rw[List.length_map]
 have hlen:([f.ins,f.outs,f.vars]:List (List Vr)).length=3:=rfl;generalize hLL:([f.ins,f.outs,f.vars]:List (List Vr))=L at hL eL hflat h3 hlen ⊢;have hacc: ∀i,(L.take i).flatten.length<=100000000:=fun i=>by
  have:(L.take i).flatten.length+(L.drop i).flatten.length=L.flatten.length:=by rw[<-List.length_append,<-List.flatten_append,List.take_append_drop]
  rw[hflat]at this;omega
 have hstep: ∀i l,L[i]? =some l->(L.take (i+1)).flatten=(L.take i).flatten++l:=fun i l h=>by rw[List.take_add_one,h];simp
 refine cOfP (by kernel_rfl) rfl ?_
 rw[g99_eq];simp only[g99,go1,Nat.reduceAdd,Int.reduceLE,Int.reduceSub,h3];refine for_s L (fun i (n:Nat)=>[.sl 1 (L.map lrow), .int .i64 (n:Int), .sl 1 (L.map lrow), .int .i64 (L.length:Int), .int .i64 (i:Int)]) (fun i n=>n=(L.take i).flatten.length) 0 (by simp) rfl (fun i n l hx hI hil=> ?_) (fun n hI=> ?_)
 ·have hn:=hacc i;have hll:=hL l (List.mem_of_getElem? hx);have hw:IntKind.i64.wrap ((n:Int)+(l.length:Int))=((n+l.length:Nat):Int):=by rw[wrap_id (by omega) (by omega)];omega
  have e1:decide (((n+l.length:Nat):Int) < 0)=false:=decF (by omega)
  simp only[go1,h3,ilt_at hil,inr_at hil,lrow_at hx,vrows_len,hw,e1,wrap_succ hil (by omega)]
  exact⟨_,rfl,n+l.length,rfl,by rw[hstep i l hx,List.length_append,hI]⟩
 ·rw[List.take_length]at hI;have hn:n<=100000000:=by rw[hI,hflat];exact hal
  have e1:decide ((n:Int) < 0)=false:=decF (by omega)
  have hw0:IntKind.i64.wrap (0:Int)=0:=wrap_id (by omega) (by omega)
  have hw1:IntKind.i64.wrap ((n:Int) - 0)=(n:Int):=by rw[Int.sub_zero];exact wrap_id (by omega) (by omega)
  have e2:decide (0 < (n:Int)/\(n:Int)*(((64:Nat):Int)+1)<=140737488355328)=decide (0 < (n:Int)):=by
   by_cases h0:0 < (n:Int)
   ·rw[decT h0,decT (by omega)]
   ·rw[decF h0,decF (by omega)]
  have e3: ∀r:LL,List.take (Int.toNat 0) r= []:=fun r=>rfl
  have e4:decide (0<=(n:Int))=true:=decT (by omega)
  cases hp:decide (0 < (n:Int))with
  |true=>
   simp only[go1,h3,ilt_self,e1,hw0,hw1,hp,e2,e3,List.length_replicate,Int.toNat_natCast,e4];refine for_s L (fun i (acc:List Vr)=>[.sl 1 (L.map lrow), .int .i64 (L.length:Int), .int .i64 (i:Int), .sl 5 (vrows acc)]) (fun i acc=>acc=(L.take i).flatten) [] (by simp) rfl (fun i acc l hx hJ hil=> ?_) (fun acc hJ=> ?_)
   ·have hac:=hacc i;have hll:=hL l (List.mem_of_getElem? hx);have hft:=fitsR (vrows acc) (vrows l) 64 (by rw[vrows_len,vrows_len,hJ];omega)
    simp only[go1,Nat.reduceAdd]at hft;simp only[go1,h3,ilt_at hil,inr_at hil,lrow_at hx,hft,wrap_succ hil (by omega)]
    exact⟨_,rfl,acc++l,by rw[vrows_app];rfl,by rw[hstep i l hx,hJ]⟩
   ·rw[List.take_length,hflat]at hJ;subst hJ;simp only[go1,ilt_self];exact⟨_,rfl,rfl⟩
  |false=>
   simp only[go1,h3,ilt_self,e1,hw0,hw1,hp];refine for_s L (fun i (acc:List Vr)=>[.sl 1 (L.map lrow), .int .i64 (L.length:Int), .int .i64 (i:Int), .sl 5 (vrows acc)]) (fun i acc=>acc=(L.take i).flatten) [] (by simp) rfl (fun i acc l hx hJ hil=> ?_) (fun acc hJ=> ?_)
   ·have hac:=hacc i;have hll:=hL l (List.mem_of_getElem? hx);have hft:=fitsR (vrows acc) (vrows l) 64 (by rw[vrows_len,vrows_len,hJ];omega)
    simp only[go1,Nat.reduceAdd]at hft;simp only[go1,h3,ilt_at hil,inr_at hil,lrow_at hx,hft,wrap_succ hil (by omega)]
    exact⟨_,rfl,acc++l,by rw[vrows_app];rfl,by rw[hstep i l hx,hJ]⟩
   ·rw[List.take_length,hflat]at hJ;subst hJ;simp only[go1,ilt_self];exact⟨_,rfl,rfl⟩
end
theorem x_nVar0 {f:Fl}(hal:f.all.length<=100000000)(s:BA):cF 58 [fV f, .d (.str s)]=some (.val (varR (f.all.find? (isV s)))):=by
 have h1:=x_concat hal;refine cOf (by kernel_rfl) rfl ?_
 rw[g58_eq];simp only[g58,go1,oF,oV,Nat.reduceAdd,Int.reduceLT,Int.reduceLE,h1,vrows_len];refine find_loop (isV s) f.all (fun i=>[.sl 5 (vrows f.all), .int .i64 (f.all.length:Int), .int .i64 (i:Int), .str f.n, .sl 5 (vrows f.ins), .sl 5 (vrows f.outs), .sl 5 (vrows f.vars), .sl 10 (prows f.eqs), .str s, .str (bs []), .int .i64 0, .int .i64 0, .int .i64 0]) (fun o=>PRes.val (varR o)) rfl (fun i x hx hlt=> ?_) ?_
 ·simp only[go1,vrows_len,ilt_at hlt,inr_at hlt,vrow_at hx,seq_tb,decF (p:=(i:Int) < 0) (by omega),wrap_succ hlt (by omega)]
  unfold isV;cases decide (tb x.n=tb s)<;>rfl
 ·simp only[go1,ilt_self];rfl
theorem tyrows_app (a b:List T3):tyrows (a++b)=tyrows a++tyrows b:=by unfold tyrows;rw[List.map_append]
section
variable {ens : List En} {fls : List Fl} (hF : ∀ i f, fls[i]? = some f -> FOK ens i f) (hfl : fls.length <= 1000000)
include hF hfl
theorem ty_len (i:Nat):(tyF fls i).length=(stF fls i).length:=(kept_all (fun i f h=>(hF i f h).ok) (i+1) i (Nat.lt_succ_self i)).len.symm
theorem x_vvars: ∀(m i:Nat),i < m->i < fls.length->(tyF fls i).length<=1000->cF 59 [lV ens fls, .d (.int .i64 (i:Int))]=some (.own 57 3 (tyrows (tyF fls i)))
 |0,i,h,_,_=>by omega
 |m+1,i,h,hil,hsl=>by
  have hO: ∀i f,fls[i]? =some f->FlOK (QR ens) i f:=fun i f h=>(hF i f h).ok
  have hf:=List.getElem?_eq_getElem hil;generalize fls[i]=f at hf;have hfo:=hF i f hf;have hel:=hfo.el;have hst:=ty_eq hO hf;have hsl2:=congrArg List.length hst;rw[List.length_append]at hsl2
  suffices h: ∃p,cF 59 [lV ens fls, .d (.int .i64 (i:Int))]=some p/\p= .own 57 3 (tyrows (tyF fls i)) by
   obtain⟨_,h,rfl⟩:=h;exact h
  have e0: ∀q:Pq,∀j,sy.cell (sy.skip 1 [D.int .i64 q.k, .sl 1 (srows q.ns), .int .i64 q.o, .sl 2 (crows q.ar), .sl 1 (irows q.it), .int .i64 q.nd, .bool q.rs, .str q.ev, .int .i64 q.ec, .sl 2 (crows q.on)]) j=sy.cell [D.sl 1 (srows q.ns), .int .i64 q.o, .sl 2 (crows q.ar), .sl 1 (irows q.it), .int .i64 q.nd, .bool q.rs, .str q.ev, .int .i64 q.ec, .sl 2 (crows q.on)] j:=fun _ _=>rfl
  have e5: ∀q:Pq,∀j,sy.cell (sy.skip 5 [D.int .i64 q.k, .sl 1 (srows q.ns), .int .i64 q.o, .sl 2 (crows q.ar), .sl 1 (irows q.it), .int .i64 q.nd, .bool q.rs, .str q.ev, .int .i64 q.ec, .sl 2 (crows q.on)]) j=sy.cell [D.int .i64 q.nd, .bool q.rs, .str q.ev, .int .i64 q.ec, .sl 2 (crows q.on)] j:=fun _ _=>rfl
  have hVr:=x_nVar hfo.al;refine cOfP (by kernel_rfl) rfl ?_
  rw[g59_eq];simp only[g59,go1,oF,oV,Nat.reduceAdd,Int.reduceLE,frows_len,inr_at hil,frow_at hf];refine for_s f.eqs (fun k (out:List T3)=>[.int .i64 (k:Int), .sl 2 (erows ens), .sl 5 (frows fls), .sl 3 (tyrows out), .str f.n, .sl 5 (vrows f.ins), .sl 5 (vrows f.outs), .sl 5 (vrows f.vars), .sl 10 (prows f.eqs)]) (fun k out=>out=tA f (f.eqs.take k)) [] (by simp[tA]) rfl (fun k out q hq hI hkl=> ?_) (fun out hI=> ?_)
  ·have hqm:=List.mem_of_getElem? hq;have hne:=hfo.ok.ne q hqm;have hnp:=List.length_pos_iff.2 hne;have ht:f.eqs.take (k+1)=f.eqs.take k++[q]:=by rw[List.take_add_one,hq];rfl
   have hol:out.length<=1000000:=by
    rw[hI];unfold tA;rw[List.length_map];have h1:=List.length_filter_le is5 (f.eqs.take k);rw[List.length_take]at h1;omega
   rw[ht,tA_snoc]
   by_cases h5:q.k=5
   ·obtain⟨n',on',b',hv⟩:=varR_ty f q.hd;have hVq:=hVr q.hd;rw[hv]at hVq;have hft:=fitsR (tyrows out) [[.int .i64 (f.ty q.hd).1, .int .i64 (f.ty q.hd).2.1, .int .i64 (f.ty q.hd).2.2]] 24 (by rw[tyrows_len];simp only[List.length_cons,List.length_nil];omega)
    simp only[go1,Nat.reduceAdd]at hft;simp only[go1,prows_len,ilt_at hkl,inr_at hkl,prow_at hq,decT h5,e0,srows_len,inr_0 hnp,srow_0 (hd_at hne),hVq,hft,wrap_succ hkl (by omega)]
    exact⟨_,rfl,out++[f.ty q.hd],by simp[tyrows,trow],by rw[hI,if_pos h5]⟩
   ·simp only[go1,prows_len,ilt_at hkl,inr_at hkl,prow_at hq,decF h5,wrap_succ hkl (by omega)]
    exact⟨_,rfl,out,rfl,by rw[hI,if_neg h5,List.append_nil]⟩
  ·rw[List.take_length]at hI;simp only[go1,prows_len,ilt_self];refine for_s f.eqs (fun k (o2:List T3)=>[.int .i64 (k:Int), .sl 2 (erows ens), .sl 5 (frows fls), .sl 3 (tyrows o2), .str f.n, .sl 5 (vrows f.ins), .sl 5 (vrows f.outs), .sl 5 (vrows f.vars), .sl 10 (prows f.eqs)]) (fun k o2=>o2=tA f f.eqs++tB fls (f.eqs.take k)) out (by simp[tB,hI]) rfl (fun k o2 q hq hJ hkl=> ?_) (fun o2 hJ=> ?_)
   ·have hqm:=List.mem_of_getElem? hq;have hqo:=hfo.ok.call q hqm;have ht:f.eqs.take (k+1)=f.eqs.take k++[q]:=by rw[List.take_add_one,hq];rfl
    have hsn:=tB_snoc (fls:=fls) (f.eqs.take k) q
    by_cases h7:q.k=7
    ·obtain⟨h8,h9⟩:=hqo h7;obtain⟨j,hj⟩:=Int.eq_ofNat_of_zero_le h8;have hji:j < i:=by omega
     have hsl3:=tB_take (fls:=fls) f.eqs (k+1);rw[ht,hsn,if_pos h7,List.length_append,hj,Int.toNat_natCast]at hsl3;have hrec:=x_vvars m j (by omega) (by omega) (by omega)
     rw[<-hj]at hrec;have hft:=fitsR (tyrows o2) (tyrows (tyF fls j)) 24 (by
      rw[tyrows_len,tyrows_len,hJ,List.length_append];omega)
     simp only[go1,Nat.reduceAdd]at hft;rw[ht,hsn,if_pos h7];simp only[go1,prows_len,ilt_at hkl,inr_at hkl,prow_at hq,decT h7,e5,hrec,hft,wrap_succ hkl (by omega)]
     exact⟨_,rfl,o2++tyF fls j,by rw[tyrows_app];rfl,by rw[hJ,List.append_assoc,hj,Int.toNat_natCast]⟩
    ·rw[ht,hsn,if_neg h7,List.append_nil];simp only[go1,prows_len,ilt_at hkl,inr_at hkl,prow_at hq,decF h7,wrap_succ hkl (by omega)]
     exact⟨_,rfl,o2,rfl,hJ⟩
   ·rw[List.take_length,<-hst]at hJ;subst hJ;simp only[go1,prows_len,ilt_self];exact⟨_,rfl,rfl⟩
theorem x_types: ∀(m i:Nat),i < m->i < fls.length->(tyF fls i).length<=1000->cF 25 [lV ens fls, .d (.int .i64 (i:Int))]=some (.own 57 3 (tyrows (tyF fls i)))
 |0,i,h,_,_=>by omega
 |m+1,i,h,hil,hsl=>by
  have hO: ∀i f,fls[i]? =some f->FlOK (QR ens) i f:=fun i f h=>(hF i f h).ok
  have hf:=List.getElem?_eq_getElem hil;generalize fls[i]=f at hf;have hfo:=hF i f hf;have hel:=hfo.el;have hst:=ty_eq hO hf;have hsl2:=congrArg List.length hst;rw[List.length_append]at hsl2
  suffices h: ∃p,cF 25 [lV ens fls, .d (.int .i64 (i:Int))]=some p/\p= .own 57 3 (tyrows (tyF fls i)) by
   obtain⟨_,h,rfl⟩:=h;exact h
  have hVr:=x_nVar0 hfo.al;refine cOfP (by kernel_rfl) rfl ?_
  rw[g25_eq];simp only[g25,go1,oF,oV,oP,Nat.reduceAdd,Int.reduceLE,frows_len,inr_at hil,frow_at hf,prows_len];refine for_s f.eqs (fun k (x:List T3 × List T3)=>[.sl 10 (prows f.eqs), .int .i64 (f.eqs.length:Int), .int .i64 (k:Int), .sl 2 (erows ens), .sl 5 (frows fls), .sl 3 (tyrows x.1), .sl 3 (tyrows x.2), .str f.n, .sl 5 (vrows f.ins), .sl 5 (vrows f.outs), .sl 5 (vrows f.vars), .sl 10 (prows f.eqs)]) (fun k x=>x=(tA f (f.eqs.take k),tB fls (f.eqs.take k))) ([],[]) (by simp[tA,tB]) rfl (fun k x q hq hI hkl=> ?_) (fun x hI=> ?_)
  ·obtain⟨out,o2⟩:=x;obtain⟨rfl,rfl⟩:=Prod.mk.inj hI;have hqm:=List.mem_of_getElem? hq;have hne:=hfo.ok.ne q hqm;have hnp:=List.length_pos_iff.2 hne;have hqo:=hfo.ok.call q hqm;have ht:f.eqs.take (k+1)=f.eqs.take k++[q]:=by rw[List.take_add_one,hq];rfl
   have hol:(tA f (f.eqs.take k)).length<=1000000:=by
    unfold tA;rw[List.length_map];have h1:=List.length_filter_le is5 (f.eqs.take k);rw[List.length_take]at h1;omega
   have hsn:=tB_snoc (fls:=fls) (f.eqs.take k) q
   by_cases h5:q.k=5
   ·have h7: ¬q.k=7:=by omega
    obtain⟨n',on',b',hv⟩:=varR_ty f q.hd;have hVq:=hVr q.hd;rw[hv]at hVq;have hft:=fitsR (tyrows (tA f (f.eqs.take k))) [[.int .i64 (f.ty q.hd).1, .int .i64 (f.ty q.hd).2.1, .int .i64 (f.ty q.hd).2.2]] 24 (by rw[tyrows_len];simp only[List.length_cons,List.length_nil];omega)
    simp only[go1,Nat.reduceAdd]at hft;simp only[go1,prows_len,ilt_at hkl,inr_at hkl,prow_at hq,decT h5,decF h7,srows_len,inr_0 hnp,srow_0 (hd_at hne),hVq,hft,wrap_succ hkl (by omega)]
    refine⟨_,rfl,(tA f (f.eqs.take k)++[f.ty q.hd],tB fls (f.eqs.take k)),by simp[tyrows,trow],?_⟩
    rw[ht,tA_snoc,tB_snoc,if_pos h5,if_neg h7,List.append_nil]
   ·by_cases h7:q.k=7
    ·obtain⟨h8,h9⟩:=hqo h7;obtain⟨j,hj⟩:=Int.eq_ofNat_of_zero_le h8;have hji:j < i:=by omega
     have hsl3:=tB_take (fls:=fls) f.eqs (k+1);rw[ht,hsn,if_pos h7,List.length_append,hj,Int.toNat_natCast]at hsl3;have hrec:=x_types m j (by omega) (by omega) (by omega)
     rw[<-hj]at hrec;have hft:=fitsR (tyrows (tB fls (f.eqs.take k))) (tyrows (tyF fls j)) 24 (by
      rw[tyrows_len,tyrows_len];omega)
     simp only[go1,Nat.reduceAdd]at hft;simp only[go1,prows_len,ilt_at hkl,inr_at hkl,prow_at hq,decF h5,decT h7,hrec,hft,wrap_succ hkl (by omega)]
     refine⟨_,rfl,(tA f (f.eqs.take k),tB fls (f.eqs.take k)++tyF fls j),by simp only[tyrows_app];rfl,?_⟩
     rw[ht,tA_snoc,tB_snoc,if_neg h5,if_pos h7,List.append_nil,hj,Int.toNat_natCast]
    ·simp only[go1,prows_len,ilt_at hkl,inr_at hkl,prow_at hq,decF h5,decF h7,wrap_succ hkl (by omega)]
     refine⟨_,rfl,(tA f (f.eqs.take k),tB fls (f.eqs.take k)),rfl,?_⟩;rw[ht,tA_snoc,tB_snoc,if_neg h5,if_neg h7,List.append_nil,List.append_nil]
  ·obtain⟨out,o2⟩:=x;obtain⟨rfl,rfl⟩:=Prod.mk.inj hI;rw[List.take_length];have hft:=fitsR (tyrows (tA f f.eqs)) (tyrows (tB fls f.eqs)) 24 (by rw[tyrows_len,tyrows_len];omega)
   simp only[go1,Nat.reduceAdd]at hft;simp only[go1,ilt_self,hft];refine⟨_,rfl,?_⟩;rw[hst,tyrows_app];rfl
theorem x_vTypes {n:Nat}(hn:n < fls.length): ∃p,cF 26 [lV ens fls, .d (.int .i64 (n:Int))]=some p/\((p= .val [.sl 2 [], .sl 3 [], .bool false]/\(cnt2 fls n=0\/120 < cnt1 fls n\/120 < cnt2 fls n))\/(p= .val [.sl 2 (kprows (stF fls n)), .sl 3 (tyrows (tyF fls n)), .bool true]/\(stF fls n).length<=120/\ ¬(cnt2 fls n=0\/120 < cnt1 fls n\/120 < cnt2 fls n))):=by
 obtain⟨_,h1,⟨rfl,hc⟩|⟨rfl,hl,hc⟩⟩:=x_mStart hF hfl hn
 ·refine cOfP (by kernel_rfl) rfl ?_
  rw[g26_eq];simp only[g26,go1,h1];exact⟨_,rfl, .inl ⟨rfl,hc⟩⟩
 ·have h2:=x_vvars hF hfl (n+1) n (Nat.lt_succ_self n) hn (by rw[ty_len hF hfl];omega)
  refine cOfP (by kernel_rfl) rfl ?_
  rw[g26_eq];simp only[g26,go1,h1,h2];exact⟨_,rfl, .inr ⟨rfl,hl,hc⟩⟩
end
abbrev Sl:=BA × T3 × Nat × List Int
def slrow (s:Sl):List D:=[.str s.1, .int .i64 s.2.1.1, .int .i64 s.2.1.2.1, .int .i64 s.2.1.2.2, .int .i64 (s.2.2.1:Int), .sl 1 (irows s.2.2.2)]
def slrows (l:List Sl):LL:=l.map slrow
theorem slrows_len (l:List Sl):(slrows l).length=l.length:=by simp[slrows]
theorem slrow_at {l:List Sl}{i:Nat}{s:Sl}(h:l[i]? =some s):sy.row (slrows l) (i:Int)= [.str s.1, .int .i64 s.2.1.1, .int .i64 s.2.1.2.1, .int .i64 s.2.1.2.2, .int .i64 (s.2.2.1:Int), .sl 1 (irows s.2.2.2)]:=by
 rw[sy_row,Int.toNat_natCast,List.getD_eq_getElem?_getD];unfold slrows;rw[List.getElem?_map,h];rfl
def cT (t:T3):Nat:=(max 1 t.2.2).toNat
def sumC (l:List T3):Nat:=(l.map cT).sum
theorem sumC_snoc (l:List T3)(t:T3):sumC (l++[t])=sumC l+cT t:=by unfold sumC;simp
def slot (st:List CellP)(ty:List T3)(i:Nat):Sl:=((st.getD i (bs [],[])).1,ty.getD i (0,0,0),sumC (ty.take i),(st.getD i (bs [],[])).2)
def slots (st:List CellP)(ty:List T3):List Sl:=(List.range st.length).map (slot st ty)
theorem slots_len (st:List CellP)(ty:List T3):(slots st ty).length=st.length:=by simp[slots]
theorem slots_snoc {st:List CellP}{ty:List T3}{i:Nat}:(List.range (i+1)).map (slot st ty)=(List.range i).map (slot st ty)++[slot st ty i]:=by rw[List.range_succ,List.map_append];rfl
theorem slot_at {st:List CellP}{ty:List T3}{i:Nat}{x:CellP}{t:T3}(hx:st[i]? =some x)(ht:ty[i]? =some t):slot st ty i=(x.1,t,sumC (ty.take i),x.2):=by
 unfold slot;rw[List.getD_eq_getElem?_getD,List.getD_eq_getElem?_getD,hx,ht];rfl
def smT (t:T3):Prop:=0<=t.2.2/\t.2.2<=8
theorem cT_le {t:T3}(h:smT t):1<=cT t/\cT t<=8:=by
 obtain⟨h1,h2⟩:=h;unfold cT;omega
theorem sumC_le: ∀ {l:List T3},(∀t∈l,smT t)->sumC l<=8*l.length
 | [],_=>by simp[sumC]
 |t::l,h=>by
  have h1:=sumC_le fun x hx=>h x (List.mem_cons_of_mem t hx)
  have h2:=cT_le (h t List.mem_cons_self);unfold sumC at h1 ⊢;simp only[List.map_cons,List.sum_cons,List.length_cons];omega
theorem x_tyCells {t:T3}(h:smT t):cF 29 [kT t.1 t.2.1 t.2.2]=some (.val [.int .i64 (cT t:Int)]):=by
 obtain⟨h1,h2⟩:=h;refine cOf (by kernel_rfl) rfl ?_
 rw[g29_eq];simp only[g29,go1];rw[show min (max t.2.2 1) 8=(cT t:Int) by unfold cT;omega]
theorem x_rtyCells {t:T3}(h:smT t):cF 27 [kT t.1 t.2.1 t.2.2]=some (.val [.int .i64 (cT t:Int)]):=by
 obtain⟨h1,h2⟩:=h;rw[x_tCells _ _ _ h2,show max 1 t.2.2=(cT t:Int) by unfold cT;omega]
section
variable {ens : List En} {fls : List Fl} (hF : ∀ i f, fls[i]? = some f -> FOK ens i f) (hfl : fls.length <= 1000000)
include hF hfl
theorem ty_small {n:Nat}: ∀t∈tyF fls n,smT t:=fun t ht=>by
 obtain⟨i,hi⟩:=List.getElem?_of_mem ht;have hil:=(List.getElem?_eq_some_iff.1 hi).1;have hl:=ty_len hF hfl n;have hK:=(kept_all (fun i f h=>(hF i f h).ok) (n+1) n (Nat.lt_succ_self n)).at i _ t (List.getElem?_eq_getElem (show i < (startF fls (n+1) n).length by have:(stF fls n).length=(startF fls (n+1) n).length:=rfl;omega)) hi
 have h1:=tyR_iff.1 (show tyR ens (t.1,t.2.1,t.2.2)from hK.2.2.1);exact⟨h1.1,h1.2.1⟩
theorem x_rSlots {n:Nat}(hn:fls.length=n+1): ∃p,cF 8 [lV ens fls]=some p/\((p= .val [.sl 6 [], .bool false]/\(cnt2 fls n=0\/120 < cnt1 fls n\/120 < cnt2 fls n))\/(p= .val [.sl 6 (slrows (slots (stF fls n) (tyF fls n))), .bool true]/\(stF fls n).length<=120/\ ¬(cnt2 fls n=0\/120 < cnt1 fls n\/120 < cnt2 fls n))):=by
 have hw:IntKind.i64.wrap ((fls.length:Int) - 1)=(n:Int):=by rw[wrap_id (by omega) (by omega)];omega
 obtain⟨_,h1,⟨rfl,hc⟩|⟨rfl,hl,hc⟩⟩:=x_vTypes hF hfl (n:=n) (by omega)
 ·refine cOfP (by kernel_rfl) rfl ?_
  rw[g8_eq];simp only[g8,go1,Nat.reduceAdd,frows_len,hw,h1];exact⟨_,rfl, .inl ⟨rfl,hc⟩⟩
 ·have htl:=ty_len hF hfl n;have hsm:=ty_small hF hfl (n:=n);generalize stF fls n=st at*;generalize tyF fls n=ty at*;refine cOfP (by kernel_rfl) rfl ?_
  rw[g8_eq];simp only[g8,go1,Nat.reduceAdd,frows_len,hw,h1];refine for_s st (fun i (x:List Sl × Nat)=>[.sl 2 (kprows st), .sl 3 (tyrows ty), .int .i64 (x.2:Int), .int .i64 (i:Int), .sl 6 (slrows x.1)]) (fun i x=>x=((List.range i).map (slot st ty),sumC (ty.take i))) ([],0) (by simp[sumC]) rfl (fun i x c hc' hI hil=> ?_) (fun x hI=> ?_)
  ·obtain⟨acc,a⟩:=x;obtain⟨rfl,rfl⟩:=Prod.mk.inj hI;have hit:i < ty.length:=by omega
   have ht:=List.getElem?_eq_getElem hit;generalize ty[i]=t at ht;have hs:=hsm t (List.mem_of_getElem? ht);have hC:=x_rtyCells hs;have hct:=cT_le hs;have hle:=sumC_le (l:=ty.take i) fun y hy=>hsm y (List.mem_of_mem_take hy)
   rw[List.length_take]at hle;have hw2:IntKind.i64.wrap ((sumC (ty.take i):Int)+(cT t:Int))=((sumC (ty.take i)+cT t:Nat):Int):=by rw[wrap_id (by omega) (by omega)];omega
   have hf:=fitsR (slrows ((List.range i).map (slot st ty))) [[.str c.1, .int .i64 t.1, .int .i64 t.2.1, .int .i64 t.2.2, .int .i64 (sumC (ty.take i):Int), .sl 1 (irows c.2)]] 72 (by rw[slrows_len];simp only[List.length_map,List.length_range,List.length_cons,List.length_nil];omega)
   have e1:sy.cell (sy.skip 1 [D.str c.1, .sl 1 (irows c.2)]) 0=some (.sl 1 (irows c.2)):=rfl;simp only[go1,Nat.reduceAdd]at hf;simp only[go1,kprows_len,tyrows_len,ilt_at hil,inr_at hil,inr_at hit,kprow_at hc',trow_at ht,e1,hf,hC,hw2,wrap_succ hil (by omega)]
   refine⟨_,rfl,((List.range (i+1)).map (slot st ty),sumC (ty.take (i+1))),?_,rfl⟩;rw[slots_snoc,slot_at hc' ht,List.take_add_one,ht,Option.toList_some,sumC_snoc];simp[slrows,slrow]
  ·obtain⟨acc,a⟩:=x;obtain⟨rfl,rfl⟩:=Prod.mk.inj hI;simp only[go1,kprows_len,ilt_self];exact⟨_,rfl, .inr ⟨rfl,hl,hc⟩⟩
theorem x_Slots {n:Nat}(hn:fls.length=n+1): ∃p,cF 7 [lV ens fls]=some p/\((p= .val [.sl 6 [], .bool false]/\(cnt2 fls n=0\/120 < cnt1 fls n\/120 < cnt2 fls n))\/(p= .val [.sl 6 (slrows (slots (stF fls n) (tyF fls n))), .bool true]/\(stF fls n).length<=120/\ ¬(cnt2 fls n=0\/120 < cnt1 fls n\/120 < cnt2 fls n))):=by
 have hw:IntKind.i64.wrap ((fls.length:Int) - 1)=(n:Int):=by rw[wrap_id (by omega) (by omega)];omega
 obtain⟨_,h1,⟨rfl,hc⟩|⟨rfl,hl,hc⟩⟩:=x_Start hF hfl (n:=n) (by omega)
 ·refine cOfP (by kernel_rfl) rfl ?_
  rw[g7_eq];simp only[g7,go1,Nat.reduceAdd,frows_len,hw,h1];exact⟨_,rfl, .inl ⟨rfl,hc⟩⟩
 ·have htl:=ty_len hF hfl n;have hsm:=ty_small hF hfl (n:=n);have h2:=x_types hF hfl (n+1) n (Nat.lt_succ_self n) (by omega) (by omega)
  generalize stF fls n=st at*;generalize tyF fls n=ty at*;refine cOfP (by kernel_rfl) rfl ?_
  rw[g7_eq];simp only[g7,go1,Nat.reduceAdd,frows_len,hw,h1,h2,tyrows_len];refine for_s ty (fun i (x:List Sl × Nat)=>[.sl 2 (kprows st), .sl 3 (tyrows ty), .int .i64 (ty.length:Int), .int .i64 (i:Int), .sl 6 (slrows x.1), .int .i64 (x.2:Int)]) (fun i x=>x=((List.range i).map (slot st ty),sumC (ty.take i))) ([],0) (by simp[sumC]) rfl (fun i x t ht hI hit=> ?_) (fun x hI=> ?_)
  ·obtain⟨acc,a⟩:=x;obtain⟨rfl,rfl⟩:=Prod.mk.inj hI;have hil:i < st.length:=by omega
   have hc':=List.getElem?_eq_getElem hil;generalize st[i]=c at hc';have hs:=hsm t (List.mem_of_getElem? ht);have hC:=x_tyCells hs;have hct:=cT_le hs;have hle:=sumC_le (l:=ty.take i) fun y hy=>hsm y (List.mem_of_mem_take hy)
   rw[List.length_take]at hle;have hw2:IntKind.i64.wrap ((sumC (ty.take i):Int)+(cT t:Int))=((sumC (ty.take i)+cT t:Nat):Int):=by rw[wrap_id (by omega) (by omega)];omega
   have hf:=fitsR (slrows ((List.range i).map (slot st ty))) [[.str c.1, .int .i64 t.1, .int .i64 t.2.1, .int .i64 t.2.2, .int .i64 (sumC (ty.take i):Int), .sl 1 (irows c.2)]] 72 (by rw[slrows_len];simp only[List.length_map,List.length_range,List.length_cons,List.length_nil];omega)
   have e1:sy.cell (sy.skip 1 [D.str c.1, .sl 1 (irows c.2)]) 0=some (.sl 1 (irows c.2)):=rfl;simp only[go1,Nat.reduceAdd]at hf;simp only[go1,kprows_len,tyrows_len,ilt_at hit,inr_at hil,inr_at hit,kprow_at hc',trow_at ht,e1,hf,hC,hw2,wrap_succ hit (by omega)]
   refine⟨_,rfl,((List.range (i+1)).map (slot st ty),sumC (ty.take (i+1))),?_,rfl⟩;rw[slots_snoc,slot_at hc' ht,List.take_add_one,ht,Option.toList_some,sumC_snoc];simp[slrows,slrow]
  ·obtain⟨acc,a⟩:=x;obtain⟨rfl,rfl⟩:=Prod.mk.inj hI;simp only[go1,ilt_self];refine⟨_,rfl, .inr ⟨?_,hl,hc⟩⟩;unfold slots;rw[htl]
end
theorem x_rVals (a:List Int)(ha:a.length<=1000000):cF 28 [.d (.sl 1 (irows a)), .d (.sl 1 (irows a))]=some (.val [.bool true]):=by
 suffices h: ∃p,cF 28 [.d (.sl 1 (irows a)), .d (.sl 1 (irows a))]=some p/\p= .val [.bool true] by
  obtain⟨_,h,rfl⟩:=h;exact h
 refine cOfP (by kernel_rfl) rfl ?_
 rw[g28_eq];simp only[g28,go1,eq_self,irows_len];refine for_at 2 a rfl (fun i x hx hil=> ?_) ?_
 ·simp only[go1,eq_self,List.set,irows_len,ilt_at hil,inr_at hil,irow_at hx,wrap_succ hil (by omega)]
  exact⟨_,rfl,rfl⟩
 ·simp only[go1,List.set,irows_len,ilt_self];exact⟨_,rfl,rfl⟩
theorem x_equal (a:List Int)(ha:a.length<=1000000):cF 66 [.d (.sl 1 (irows a)), .d (.sl 1 (irows a))]=some (.val [.bool true]):=by
 suffices h: ∃p,cF 66 [.d (.sl 1 (irows a)), .d (.sl 1 (irows a))]=some p/\p= .val [.bool true] by
  obtain⟨_,h,rfl⟩:=h;exact h
 refine cOfP (by kernel_rfl) rfl ?_
 rw[g66_eq];simp only[g66,go1,eq_self,irows_len];refine for_at 3 a rfl (fun i x hx hil=> ?_) ?_
 ·simp only[go1,eq_self,List.set,irows_len,ilt_at hil,inr_at hil,irow_at hx,wrap_succ hil (by omega)]
  exact⟨_,rfl,rfl⟩
 ·simp only[go1,List.set,ilt_self];exact⟨_,rfl,rfl⟩
section
variable {S : List Sl} (hl : S.length <= 1000000) (hv : ∀ s ∈ S, s.2.2.2.length <= 1000000)
include hl hv
theorem x_rSame:cF 9 [.d (.sl 6 (slrows S)), .d (.sl 6 (slrows S))]=some (.val [.bool true]):=by
 suffices h: ∃p,cF 9 [.d (.sl 6 (slrows S)), .d (.sl 6 (slrows S))]=some p/\p= .val [.bool true] by
  obtain⟨_,h,rfl⟩:=h;exact h
 refine cOfP (by kernel_rfl) rfl ?_
 rw[g9_eq];simp only[g9,go1,eq_self,slrows_len];refine for_at 2 S rfl (fun i x hx hil=> ?_) ?_
 ·have hV:=x_rVals x.2.2.2 (hv x (List.mem_of_getElem? hx));have e1: ∀j,sy.cell (sy.skip 1 [D.str x.1, .int .i64 x.2.1.1, .int .i64 x.2.1.2.1, .int .i64 x.2.1.2.2, .int .i64 (x.2.2.1:Int), .sl 1 (irows x.2.2.2)]) j=sy.cell [D.int .i64 x.2.1.1, .int .i64 x.2.1.2.1, .int .i64 x.2.1.2.2, .int .i64 (x.2.2.1:Int), .sl 1 (irows x.2.2.2)] j:=fun _=>rfl
  have e4: ∀j,sy.cell (sy.skip 4 [D.str x.1, .int .i64 x.2.1.1, .int .i64 x.2.1.2.1, .int .i64 x.2.1.2.2, .int .i64 (x.2.2.1:Int), .sl 1 (irows x.2.2.2)]) j=sy.cell [D.int .i64 (x.2.2.1:Int), .sl 1 (irows x.2.2.2)] j:=fun _=>rfl
  have e5: ∀j,sy.cell (sy.skip 5 [D.str x.1, .int .i64 x.2.1.1, .int .i64 x.2.1.2.1, .int .i64 x.2.1.2.2, .int .i64 (x.2.2.1:Int), .sl 1 (irows x.2.2.2)]) j=sy.cell [D.sl 1 (irows x.2.2.2)] j:=fun _=>rfl
  simp only[go1,eq_self,List.set,slrows_len,ilt_at hil,inr_at hil,slrow_at hx,e1,e4,e5,seq_tb,hV,wrap_succ hil (by omega)]
  exact⟨_,rfl,rfl⟩
 ·simp only[go1,List.set,slrows_len,ilt_self];exact⟨_,rfl,rfl⟩
theorem x_tsame {x:Sl}(hx:x∈S):cF 34 [.agg [.d (.str x.1), .d (.int .i64 x.2.1.1), .d (.int .i64 x.2.1.2.1), .d (.int .i64 x.2.1.2.2), .d (.int .i64 (x.2.2.1:Int)), .d (.sl 1 (irows x.2.2.2))], .agg [.d (.str x.1), .d (.int .i64 x.2.1.1), .d (.int .i64 x.2.1.2.1), .d (.int .i64 x.2.1.2.2), .d (.int .i64 (x.2.2.1:Int)), .d (.sl 1 (irows x.2.2.2))]]=some (.val [.bool true]):=by
 have hE:=x_equal x.2.2.2 (hv x hx);refine cOf (by kernel_rfl) rfl ?_
 rw[g34_eq];simp only[g34,go1,eq_self,seq_tb,hE]
theorem x_tSame:cF 13 [.d (.sl 6 (slrows S)), .d (.sl 6 (slrows S))]=some (.val [.bool true]):=by
 have h: ∃p,cF 33 [.d (.sl 6 (slrows S)), .d (.sl 6 (slrows S)), .fn 34 []]=some p/\p= .val [.bool true]:=by
  refine cOfP (by kernel_rfl) rfl ?_
  rw[g33_34_eq];simp only[g33_34,go1,eq_self,slrows_len];refine for_at 3 S rfl (fun i x hx hil=> ?_) ?_
  ·have hs:=x_tsame hl hv (List.mem_of_getElem? hx);simp only[go1,List.set,slrows_len,ilt_at hil,inr_at hil,slrow_at hx,hs,wrap_succ hil (by omega)]
   exact⟨_,rfl,rfl⟩
  ·simp only[go1,List.set,ilt_self];exact⟨_,rfl,rfl⟩
 obtain⟨_,h,rfl⟩:=h;refine cOf (by kernel_rfl) rfl ?_
 rw[g13_eq];simp only[g13,go1,eq_self,h]
def SmS (S:List Sl):Prop:= ∀s∈S,smT s.2.1
def cS (S:List Sl):Nat:=sumC (S.map (·.2.1))
omit hl hv in
theorem cS_snoc (S:List Sl)(s:Sl):cS (S++[s])=cS S+cT s.2.1:=by unfold cS;rw[List.map_append];exact sumC_snoc _ _
omit hl hv in
theorem cS_le (h:SmS S)(i:Nat):cS (S.take i)<=8*S.length:=by
 have:=sumC_le (l:=(S.take i).map (·.2.1)) fun t ht=>by
  obtain⟨s,hs,rfl⟩:=List.mem_map.1 ht;exact h s (List.mem_of_mem_take hs)
 rw[List.length_map,List.length_take]at this;unfold cS;omega
omit hv in
theorem x_Cells (h:SmS S):cF 10 [.d (.sl 6 (slrows S))]=some (.val [.int .i64 (cS S:Int)]):=by
 suffices h: ∃p,cF 10 [.d (.sl 6 (slrows S))]=some p/\p= .val [.int .i64 (cS S:Int)] by
  obtain⟨_,h,rfl⟩:=h;exact h
 refine cOfP (by kernel_rfl) rfl ?_
 rw[g10_eq];simp only[g10,go1,slrows_len];refine for_s S (fun i (n:Nat)=>[.int .i64 (n:Int), .sl 6 (slrows S), .int .i64 (S.length:Int), .int .i64 (i:Int)]) (fun i n=>n=cS (S.take i)) 0 rfl rfl (fun i n x hx hI hil=> ?_) (fun n hI=> ?_)
 ·have hs:=h x (List.mem_of_getElem? hx);have hC:=x_tyCells hs;have hct:=cT_le hs;have hle:=cS_le h i;have hw:IntKind.i64.wrap ((n:Int)+(cT x.2.1:Int))=((n+cT x.2.1:Nat):Int):=by rw[wrap_id (by omega) (by omega)];omega
  simp only[go1,slrows_len,ilt_at hil,inr_at hil,slrow_at hx,hC,hw,wrap_succ hil (by omega)]
  exact⟨_,rfl,_,rfl,by rw[List.take_add_one,hx,Option.toList_some,cS_snoc,hI]⟩
 ·simp only[go1,ilt_self];rw[List.take_length]at hI;subst hI;exact⟨_,rfl,rfl⟩
omit hv in
theorem x_rCells (h:SmS S):cF 11 [.d (.sl 6 (slrows S))]=some (.val [.int .i64 (cS S:Int)]):=by
 suffices h: ∃p,cF 11 [.d (.sl 6 (slrows S))]=some p/\p= .val [.int .i64 (cS S:Int)] by
  obtain⟨_,h,rfl⟩:=h;exact h
 refine cOfP (by kernel_rfl) rfl ?_
 rw[g11_eq];simp only[g11,go1];refine for_s S (fun i (n:Nat)=>[.sl 6 (slrows S), .int .i64 (n:Int), .int .i64 (i:Int)]) (fun i n=>n=cS (S.take i)) 0 rfl rfl (fun i n x hx hI hil=> ?_) (fun n hI=> ?_)
 ·have hs:=h x (List.mem_of_getElem? hx);have hC:=x_rtyCells hs;have hct:=cT_le hs;have hle:=cS_le h i;have hw:IntKind.i64.wrap ((n:Int)+(cT x.2.1:Int))=((n+cT x.2.1:Nat):Int):=by rw[wrap_id (by omega) (by omega)];omega
  have e1: ∀j,sy.cell (sy.skip 1 [D.str x.1, .int .i64 x.2.1.1, .int .i64 x.2.1.2.1, .int .i64 x.2.1.2.2, .int .i64 (x.2.2.1:Int), .sl 1 (irows x.2.2.2)]) j=sy.cell [D.int .i64 x.2.1.1, .int .i64 x.2.1.2.1, .int .i64 x.2.1.2.2, .int .i64 (x.2.2.1:Int), .sl 1 (irows x.2.2.2)] j:=fun _=>rfl
  simp only[go1,slrows_len,ilt_at hil,inr_at hil,slrow_at hx,e1,hC,hw,wrap_succ hil (by omega)]
  exact⟨_,rfl,_,rfl,by rw[List.take_add_one,hx,Option.toList_some,cS_snoc,hI]⟩
 ·simp only[go1,slrows_len,ilt_self];rw[List.take_length]at hI;subst hI;exact⟨_,rfl,rfl⟩
end
theorem x_tyRight {ens:List En}{t:T3}(h:tyR ens t):cF 64 [.d (.sl 2 (erows ens)),kT t.1 t.2.1 t.2.2]=some (.val [.bool true]):=by
 have h1:=tyR_iff.1 (show tyR ens (t.1,t.2.1,t.2.2)from h);obtain⟨h2,h3,h4⟩:=h1;rcases h4 with⟨a,b⟩|⟨a,b⟩|⟨a,b,c⟩
 ·refine cOf (by kernel_rfl) rfl ?_
  rw[g64_eq];simp only[g64,go1,eq_self,decF (p:=t.2.2 < 0) (by omega),decF (p:=8 < t.2.2) (by omega),decT (p:=t.1=1) a,decT (p:=t.2.1=0) b]
 ·refine cOf (by kernel_rfl) rfl ?_
  rw[g64_eq];simp only[g64,go1,eq_self,decF (p:=t.2.2 < 0) (by omega),decF (p:=8 < t.2.2) (by omega),decF (p:=t.1=1) (by omega),decT (p:=t.1=2) a,decT (p:=t.2.1=0) b]
 ·refine cOf (by kernel_rfl) rfl ?_
  rw[g64_eq];simp only[g64,go1,eq_self,decF (p:=t.2.2 < 0) (by omega),decF (p:=8 < t.2.2) (by omega),decF (p:=t.1=1) (by omega),decF (p:=t.1=2) (by omega),decT (p:=t.1=3) a,decT (p:=0<=t.2.1) b,erows_len,decT (p:=t.2.1 < (ens.length:Int)) c]
theorem x_One {ens:List En}{t:T3}(h:tyR ens t){n:Int}(hn:oneR ens t.1 t.2.1 n):cF 63 [.d (.sl 2 (erows ens)),kT t.1 t.2.1 t.2.2, .d (.int .i64 n)]=some (.val [.bool true]):=by
 have h1:=x_tyRight h;rcases hn with⟨a,b⟩|⟨a,b,c⟩|⟨a,b,x,hx,c,d⟩
 ·refine cOf (by kernel_rfl) rfl ?_
  rw[g63_eq];simp only[g63,go1,eq_self,h1,decF (p:=t.1=2) (by omega),decF (p:=t.1=3) (by omega)]
 ·rcases c with rfl|rfl
  ·refine cOf (by kernel_rfl) rfl ?_
   rw[g63_eq];simp only[g63,go1,eq_self,Int.reduceEq,Int.reduceLE,h1,decT (p:=t.1=2) a]
  ·refine cOf (by kernel_rfl) rfl ?_
   rw[g63_eq];simp only[g63,go1,eq_self,Int.reduceEq,Int.reduceLE,h1,decT (p:=t.1=2) a]
 ·obtain⟨j,hj⟩:=Int.eq_ofNat_of_zero_le b;rw[hj,Int.toNat_natCast]at hx;have hil:=(List.getElem?_eq_some_iff.1 hx).1;rw[hj]at h1;refine cOf (by kernel_rfl) rfl ?_
  rw[g63_eq];simp only[g63,go1,eq_self,h1,decF (p:=t.1=2) (by omega),decT (p:=t.1=3) a,decT (p:=0<=n) c,hj,erows_len,inr_at hil,enm_at hx,sk1L,srows_len,decT (p:=n < (x.2.length:Int)) d]
theorem x_vRight {ens:List En}{t:T3}(h:tyR ens t){v:List Int}(hv:valR ens t v):cF 31 [.d (.sl 2 (erows ens)),kT t.1 t.2.1 t.2.2, .d (.sl 1 (irows v))]=some (.val [.bool true]):=by
 have h0:=tyR_iff.1 (show tyR ens (t.1,t.2.1,t.2.2)from h);have h1:=x_tyRight h;have h2:=x_tyCells (t:=t) ⟨h0.1,h0.2.1⟩;have hl:=hv.1;have hct:(v.length:Int)=(cT t:Int):=by unfold cT;omega
 have h3: ∃p,cF 65 [.d (.sl 1 (irows v)), .fn 62 [.pel [.sl 2 (erows ens)], .pel [.int .i64 t.1, .int .i64 t.2.1, .int .i64 t.2.2]]]=some p/\p= .val [.bool false]:=by
  refine cOfP (by kernel_rfl) rfl ?_
  rw[g65_62_eq];simp only[g65_62,go1,Int.reduceLE,irows_len];refine for_s v (fun i (_:Unit)=>[.sl 1 (irows v), .sl 2 (erows ens), .int .i64 t.1, .int .i64 t.2.1, .int .i64 t.2.2, .int .i64 (v.length:Int), .int .i64 (i:Int)]) (fun _ _=>True) () trivial rfl (fun i _ n hn _ hil=> ?_) (fun _ _=> ?_)
  ·have hO:=x_One h (hv.2 n (List.mem_of_getElem? hn));simp only[go1,irows_len,ilt_at hil,inr_at hil,irow_at hn,hO,wrap_succ hil (by omega)]
   exact⟨_,rfl,(),rfl⟩
  ·simp only[go1,ilt_self];exact⟨_,rfl,rfl⟩
 obtain⟨_,h3,rfl⟩:=h3;refine cOf (by kernel_rfl) rfl ?_
 rw[g31_eq];simp only[g31,go1,eq_self,h1,h2,irows_len,hct,h3]
structure RiH (ens:List En) (S:List Sl):Prop where
 len:S.length<=120
 at_: ∀(i:Nat) s,S[i]? =some s->s.2.2.1=cS (S.take i)
 path: ∀s∈S,pathN (tb s.1)=true/\s.1.size<=100000
 val: ∀s∈S,QR ens s.2.1 s.2.2.2
 nd:(S.map fun s=>tb s.1).Nodup
def RiH.sm {ens:List En}{S:List Sl}(h:RiH ens S):SmS S:=fun s hs=>by
 have h1:=tyR_iff.1 (show tyR ens (s.2.1.1,s.2.1.2.1,s.2.1.2.2)from(h.val s hs).1);exact⟨h1.1,h1.2.1⟩
def RiH.v8 {ens:List En}{S:List Sl}(h:RiH ens S): ∀s∈S,s.2.2.2.length<=1000000:=fun s hs=>by
 have h1:=h.sm s hs;have h2:=(h.val s hs).2.1;unfold smT at h1;omega
def x_tRight {ens:List En}{S:List Sl}(h:RiH ens S):cF 12 [.d (.sl 2 (erows ens)), .d (.sl 6 (slrows S))]=some (.val [.bool (decide ((cS S:Int)<=1000))]):=by
 have hlen:=h.len;have hC:=x_Cells (S:=S) (by omega) h.sm
 have e1:decide ((120:Int) < (S.length:Int))=false:=decF (by omega)
 suffices hs: ∃p,cF 12 [.d (.sl 2 (erows ens)), .d (.sl 6 (slrows S))]=some p/\p= .val [.bool (decide ((cS S:Int)<=1000))] by
  obtain⟨_,h,rfl⟩:=hs;exact h
 by_cases hc:cS S<=1000
 ·rw[decT (p:=(cS S:Int)<=1000) (by omega)]
  refine cOfP (by kernel_rfl) rfl ?_
  rw[g12_eq];simp only[g12,go1,Nat.reduceAdd,slrows_len,e1,hC,decF (p:=1000 < (cS S:Int)) (by omega)]
  refine for_s S (fun i (_:Unit)=>[.sl 2 (erows ens), .sl 6 (slrows S), .int .i64 (S.length:Int), .int .i64 (i:Int), .int .i64 (cS (S.take i):Int), .sl 1 (srows ((S.take i).map (·.1)))]) (fun _ _=>True) () trivial rfl (fun i _ s hs _ hil=> ?_) (fun _ _=> ?_)
  ·have hm:=List.mem_of_getElem? hs;have hsm:=h.sm s hm;have hT:=x_tyCells hsm;have hct:=cT_le hsm;have hle:=cS_le h.sm i;have hat:=h.at_ i s hs;have hP:=c_Path s.1 (h.path s hm).2;rw[(h.path s hm).1]at hP;have hV:=x_vRight (h.val s hm).1 (h.val s hm).2;have hw:IntKind.i64.wrap ((cS (S.take i):Int)+(cT s.2.1:Int))=((cS (S.take i)+cT s.2.1:Nat):Int):=by rw[wrap_id (by omega) (by omega)];omega
   have hf:=fitsR (srows ((S.take i).map (·.1))) [[.str s.1]] 16 (by rw[srows_len];simp only[List.length_map,List.length_take,List.length_cons,List.length_nil];omega)
   simp only[go1,Nat.reduceAdd]at hf;simp only[go1,eq_self,ilt_at hil,slrows_len,inr_at hil,slrow_at hs,hT,hat,hP,hV,hf,hw,wrap_succ hil (by omega)]
   refine⟨_,rfl,(),?_⟩;rw[List.take_add_one,hs,Option.toList_some,cS_snoc,List.map_append];simp[srows,srow]
  ·have hO:=c_iOnce (S.map (·.1)) (by rw[List.length_map];omega)
   have hN:(S.map (·.1)).Nodup:=by
    have:=h.nd;have e:(S.map fun s=>tb s.1)=(S.map (·.1)).map tb:=by rw[List.map_map];rfl
    rw[e]at this;exact List.Pairwise.of_map tb (fun a b hab e=>hab (by rw[e])) this
   rw[decide_eq_true hN]at hO;rw[List.take_length];simp only[go1,ilt_self,hO];exact⟨_,rfl,rfl⟩
 ·rw[decF (p:=(cS S:Int)<=1000) (by omega)]
  refine cOfP (by kernel_rfl) rfl ?_
  rw[g12_eq];simp only[g12,go1,Nat.reduceAdd,slrows_len,e1,hC,decT (p:=1000 < (cS S:Int)) (by omega)]
  exact⟨_,rfl,rfl⟩
def S0:List Sl:=[(bs [97],(2,0,2),0,[0,1]),(bs [98],(1,0,0),2,[5])]
def ri_S0:RiH [] S0:=by
 refine⟨by decide,fun i s hs=> ?_,fun s hs=> ?_,fun s hs=> ?_,by decide⟩
 ·match i,hs with
  |0,hs=>cases hs;rfl
  |1,hs=>cases hs;rfl
 ·simp only[S0,List.mem_cons,List.not_mem_nil,or_false]at hs;rcases hs with rfl|rfl
  ·exact⟨by decide,by decide⟩
  ·exact⟨by decide,by decide⟩
 ·simp only[S0,List.mem_cons,List.not_mem_nil,or_false]at hs;rcases hs with rfl|rfl
  ·refine⟨tyR_iff.2 (by decide),rfl,fun n hn=> ?_⟩
   simp at hn;exact .inr (.inl ⟨rfl,rfl,hn⟩)
  ·exact⟨tyR_iff.2 (by decide),rfl,fun n hn=> .inl ⟨rfl,rfl⟩⟩
def x_live:cF 6 []=some (.val [.bool true]):=by
 have h1:=x_Cells (S:=S0) (by decide) ri_S0.sm
 have h1:cF 10 [.d (.sl 6 [[.str (bs [97]), .int .i64 2, .int .i64 0, .int .i64 2, .int .i64 0, .sl 1 [[.int .i64 0],[.int .i64 1]]],[.str (bs [98]), .int .i64 1, .int .i64 0, .int .i64 0, .int .i64 2, .sl 1 [[.int .i64 5]]]])]=some (.val [.int .i64 3]):=h1;have h2:=x_tRight ri_S0;have h2:cF 12 [.d (.sl 2 []), .d (.sl 6 [[.str (bs [97]), .int .i64 2, .int .i64 0, .int .i64 2, .int .i64 0, .sl 1 [[.int .i64 0],[.int .i64 1]]],[.str (bs [98]), .int .i64 1, .int .i64 0, .int .i64 0, .int .i64 2, .sl 1 [[.int .i64 5]]]])]=some (.val [.bool true]):=h2;have h3:cF 22 [.d (.sl 6 [[.str (bs [97]), .int .i64 2, .int .i64 0, .int .i64 2, .int .i64 0, .sl 1 [[.int .i64 0],[.int .i64 1]]],[.str (bs [98]), .int .i64 1, .int .i64 0, .int .i64 0, .int .i64 2, .sl 1 [[.int .i64 5]]]]), .d (.str (bs [98]))]=some (.val [.int .i64 1]):=by
  suffices h: ∃p,cF 22 [.d (.sl 6 (slrows S0)), .d (.str (bs [98]))]=some p/\p= .val [.int .i64 1] by
   obtain⟨_,h,rfl⟩:=h;exact h
  refine cOfP (by kernel_rfl) rfl ?_
  rw[g22_eq];simp only[g22,go1,slrows_len];refine for_s S0 (fun i (_:Unit)=>[.sl 6 (slrows S0), .int .i64 (S0.length:Int), .int .i64 (i:Int), .str (bs [98])]) (fun i _=>i<=1) () (by decide) rfl (fun i _ s hs hI hil=> ?_) (fun _ hI=>absurd hI (by decide))
  simp only[go1,ilt_at hil,slrows_len,inr_at hil,slrow_at hs,seq_tb,wrap_succ hil (by decide)]
  match i,hs,hI with
  |0,hs,hI=>
   cases hs;exact⟨_,rfl,(),rfl,by omega⟩
  |1,hs,hI=>
   cases hs;exact⟨_,rfl,rfl⟩
 refine cOf (by kernel_rfl) rfl ?_
 rw[g6_eq];simp only[g6,go1,eq_self,h1,h2,h3]
def pb_of {ens:List En}{nds:List Nd}(h1:ens.length<=8/\ ∀x∈ens,EB x)(h2:nds.length<=10)(h3: ∀n∈nds,NS n):PB ens nds/\ChkH ens nds:=by
 have hal: ∀n∈nds,(allD n).length<=60:=fun n hn=>by
  obtain⟨⟨a, -⟩,⟨b, -⟩,⟨c, -⟩, -, -, -⟩:=h3 n hn;unfold allD;simp only[List.length_append];omega
 refine⟨⟨by omega,fun e he=>by have:=(h1.2 e he).2.1;omega,by omega,fun n hn=>by have:=hal n hn;omega,fun n hn=>by have:=(h3 n hn).q;omega,fun n hn x hx=>by have:=((h3 n hn).e x hx).ns;omega,fun n hn x hx=>by have:=((h3 n hn).e x hx).sz;omega,fun n hn x hx=>((h3 n hn).e x hx).fn⟩,⟨fun x hx=>⟨by have:=(h1.2 x hx).1;omega,fun c hc=>by have:=(h1.2 x hx).2.2 c hc;omega⟩,fun n hn=>⟨by have:=hal n hn;omega,by have:=(h3 n hn).q;omega,fun x hx=> ?_,fun d hd=> ?_,by have:=(h3 n hn).m;omega⟩,fun hk n hn d hd=>((node_parts ((chk_parts hk).2 n hn)).1 d hd).2,fun hk n hn x hx=>(eqB_parts ((node_parts ((chk_parts hk).2 n hn)).2 x hx)).2.2.1,fun hk n hn x hx=>(eqB_parts ((node_parts ((chk_parts hk).2 n hn)).2 x hx)).1⟩⟩
 ·have h4:=(h3 n hn).e x hx;exact⟨by have:=h4.ns;omega,by have:=h4.sz;omega,h4.fn,fun s hs=>by have:=h4.st s hs;omega⟩
 ·unfold allD at hd;rcases List.mem_append.1 hd with hd|hd
  ·rcases List.mem_append.1 hd with hd|hd
   ·exact(h3 n hn).i.2 d hd
   ·exact(h3 n hn).o.2 d hd
  ·exact(h3 n hn).v.2 d hd
def ri_slots {ens:List En}{fls:List Fl}(hF: ∀i f,fls[i]? =some f->FOK ens i f)(hfl:fls.length<=1000){n:Nat}(hn:n < 1000)(hl:(stF fls n).length<=120):RiH ens (slots (stF fls n) (tyF fls n)):=by
 have hO: ∀i f,fls[i]? =some f->FlOK (QR ens) i f:=fun i f h=>(hF i f h).ok
 have hK:Kept (QR ens) (n+1) (stF fls n) (tyF fls n):=kept_all hO (n+1) n (Nat.lt_succ_self n);have hN:((stF fls n).map fun x=>tb x.1).Nodup:=start_nodup hO (n+1) n
 have htl:=ty_len hF (by omega) n
 have key: ∀i s,(slots (stF fls n) (tyF fls n))[i]? =some s-> ∃x t,(stF fls n)[i]? =some x/\(tyF fls n)[i]? =some t/\s=(x.1,t,sumC ((tyF fls n).take i),x.2):=fun i s hs=>by
  have hil:=(List.getElem?_eq_some_iff.1 hs).1;rw[slots_len]at hil;have hx:=List.getElem?_eq_getElem hil;have ht:=List.getElem?_eq_getElem (show i < (tyF fls n).length by omega)
  refine⟨_,_,hx,ht,?_⟩;unfold slots at hs;rw[List.getElem?_map,List.getElem?_range hil]at hs;have hs:=Option.some.inj hs;rw[<-hs,slot_at hx ht]
 have hty:(slots (stF fls n) (tyF fls n)).map (·.2.1)=tyF fls n:=by
  refine List.ext_getElem? fun i=> ?_
  rw[List.getElem?_map];cases hs:(slots (stF fls n) (tyF fls n))[i]? with
  |none=>
   rw[List.getElem?_eq_none_iff,slots_len]at hs
   symm
   rw[Option.map_none,List.getElem?_eq_none_iff];omega
  |some s=>
   obtain⟨x,t,h1,h2,rfl⟩:=key i s hs;rw[h2];rfl
 have hnm:((slots (stF fls n) (tyF fls n)).map fun s=>tb s.1)=(stF fls n).map fun x=>tb x.1:=by
  refine List.ext_getElem? fun i=> ?_
  rw[List.getElem?_map,List.getElem?_map];cases hs:(slots (stF fls n) (tyF fls n))[i]? with
  |none=>
   rw[List.getElem?_eq_none_iff,slots_len]at hs;rw[List.getElem?_eq_none_iff.2 hs];rfl
  |some s=>
   obtain⟨x,t,h1,h2,rfl⟩:=key i s hs;rw[h1];rfl
 refine⟨by rw[slots_len];exact hl,fun i s hs=> ?_,fun s hs=> ?_,fun s hs=> ?_,by rw[hnm];exact hN⟩
 ·obtain⟨x,t,h1,h2,rfl⟩:=key i s hs;unfold cS;rw[List.map_take,hty]
 ·obtain⟨i,hi⟩:=List.getElem?_of_mem hs;obtain⟨x,t,h1,h2,rfl⟩:=key i s hi;obtain⟨k1,k2,k3⟩:=hK.at i x t h1 h2;rw[tb_len]at k2;exact⟨k1,by simp only;omega⟩
 ·obtain⟨i,hi⟩:=List.getElem?_of_mem hs;obtain⟨x,t,h1,h2,rfl⟩:=key i s hi;exact(hK.at i x t h1 h2).2.2
def c_TreeSlots (ens:List En)(nds:List Nd)(hl: ∀n∈nds,LB n):cF 3 [pV ens nds]=some (.val [.bool true]):=by
 have hv:=x_live;obtain⟨b,hS,hb⟩:=c_pgSmall ens nds hl;have fin: ∀d:List D,(∃(l f:LL) (n:Int),d= [.sl 2 l, .sl 5 f, .int .i64 n, .bool false])->cF 5 [pV ens nds]=some (.val d)->cF 3 [pV ens nds]=some (.val [.bool true]):=fun d ⟨l,f,n,e⟩ h=>by
  subst e;refine cOf (by kernel_rfl) rfl ?_
  rw[g3_eq];simp only[g3,go1,eq_self,h,hv]
 cases b with
 |false=>
  refine fin [.sl 2 [], .sl 5 [], .int .i64 0, .bool false] ⟨_,_,_,rfl⟩ ?_;refine cOf (by kernel_rfl) rfl ?_
  rw[g5_eq];simp only[g5,go1,eq_self,hS]
 |true=>
  obtain⟨h1,h2,h3⟩:=hb rfl;obtain⟨hp,hc⟩:=pb_of h1 h2 h3;obtain⟨_,hD,rfl|⟨fls,rfl,⟨hfl,hf0⟩,hF⟩⟩:=x_dFlows hp hc
  ·refine fin [.sl 2 [], .sl 5 [], .int .i64 0, .bool false] ⟨_,_,_,rfl⟩ ?_;refine cOf (by kernel_rfl) rfl ?_
   rw[g5_eq];simp only[g5,go1,eq_self,hS,hD]
  ·obtain⟨n,hn⟩: ∃n,fls.length=n+1:=⟨fls.length - 1,by omega⟩
   have hw:IntKind.i64.wrap ((fls.length:Int) - 1)=(n:Int):=by rw[wrap_id (by omega) (by omega)];omega
   obtain⟨_,hM,⟨rfl, -⟩|⟨rfl,hlen,hnc⟩⟩:=x_mStart hF (by omega) (n:=n) (by omega)
   ·refine fin [.sl 2 (erows ens), .sl 5 (frows fls), .int .i64 (n:Int), .bool false] ⟨_,_,_,rfl⟩ ?_;refine cOf (by kernel_rfl) rfl ?_
    rw[g5_eq];simp only[g5,go1,eq_self,hS,hD,frows_len,hw,hM]
   ·have hLF:cF 5 [pV ens nds]=some (.val [.sl 2 (erows ens), .sl 5 (frows fls), .int .i64 (n:Int), .bool true]):=by
     refine cOf (by kernel_rfl) rfl ?_
     rw[g5_eq];simp only[g5,go1,eq_self,hS,hD,frows_len,hw,hM]
    obtain⟨_,hA,⟨-,hcc⟩|⟨rfl, -⟩⟩:=x_Slots hF (by omega) hn
    ·exact absurd hcc hnc
    obtain⟨_,hB,⟨-,hcc⟩|⟨rfl, -⟩⟩:=x_rSlots hF (by omega) hn
    ·exact absurd hcc hnc
    have hR:=ri_slots hF (by omega) (n:=n) (by omega) hlen
    generalize slots (stF fls n) (tyF fls n)=S at hR hA hB;have hSl:=hR.len;have g9:=x_rSame (S:=S) (by omega) hR.v8
    have g10:=x_Cells (S:=S) (by omega) hR.sm
    have g11:=x_rCells (S:=S) (by omega) hR.sm
    have g12:=x_tRight hR;have g13:=x_tSame (S:=S) (by omega) hR.v8
    have ebb: ∀b:Bool,sy.beq b b=true:=fun b=>by cases b<;>rfl
    refine cOf (by kernel_rfl) rfl ?_
    rw[g3_eq];simp only[g3,go1,eq_self,hLF,hA,hB,g9,g10,g11,g12,g13,hv]
    try simp
end Go.Vm
end
