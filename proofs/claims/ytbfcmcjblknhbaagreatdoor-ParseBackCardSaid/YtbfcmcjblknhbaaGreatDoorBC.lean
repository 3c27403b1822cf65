/-
  Part BC of the proof. What is proved by the whole: the statement that the claim names, with no condition. This part: lemmas.
-/
import Derived.Test.YtbfcmcjblknhbaaGreatDoorBB
set_option linter.unusedSimpArgs false
set_option linter.unusedVariables false

section
set_option linter.all false
set_option maxRecDepth 100000
set_option maxHeartbeats 4000000
namespace Go.Vm
open Go.Proofs
theorem foB_f2 {t:T}: ∀ {nt:Nt},foB nt t=true→nt≠ .atom→f2 t=true
 | .atom,_,h=>(h rfl).elim
 | .post,h,_| .un,h,_=>h
 | .prod,h,_=>and1 h
 | .sum,h,_=>and1 (and1 h)
 | .cmp,h,_=>and1 (and1 (and1 h))
 | .and,h,_=>and1 (and1 (and1 (and1 h)))
 | .or,h,_=>and1 (and1 (and1 (and1 (and1 h))))
 | .fby,h,_=>and1 (and1 (and1 (and1 (and1 (and1 h)))))
 | .arrow,h,_=>and1 (and1 (and1 (and1 (and1 (and1 (and1 h))))))
def tL (x:Ex):Nat:=(fm (pcs x)).length
def Good (l:List Tk)(x:Ex):Prop:= ∀i,Az l i (fm (pcs x))→f1 (tkT (tkA l (i+tL x)))=true→AI l x i (i+tL x) (tL x)
def St (x:Ex):Prop:= ∃t r,fm (pcs x)=t::r∧staB t=true
section
variable {l : List Tk} {i j k N M n : Nat} {e x y z : Ex} {p : PR}
theorem St.pos (h:St x):1≤tL x:=by
 obtain⟨t,r,h,_⟩:=h
 unfold tL;rw[h];simp
theorem St.at (h:St x)(ha:Az l i (fm (pcs x))):staB (tkT (tkA l i))=true:=by
 obtain⟨t,r,h,hs⟩:=h
 rw[h]at ha
 rw[ha.1];exact hs
theorem ev_of (hg:Good l x)(hs:St x)(nt:Nt)(hn:nt≠ .atom)(ha:Az l i (fm (pcs x)))(hf:foB nt (tkT (tkA l (i+tL x)))=true):Ev l nt i x (i+tL x) (20*tL x+11):=by
 have h2:=foB_f2 hf hn
 exact AI_ev hs.pos (hg i ha (and1 h2)) (hs.at ha) nt hf hn h2
theorem tok_isT {t:T}(h:tkT (tkA l i)=t)(w:ByteArray){b:Bool}(hb:isTT t (tb w)=b):isT l i w=b:=by rw[isT_T,h,hb]
theorem atom_k {t:T}(h:tkT (tkA l i)=t)(h3:decide (t.k=3)=false)(h2:decide (t.k=2)=false)(h4:decide (t.k=4)=false):atomS l n p i=wordS l n p i:=by
 subst h
 unfold atomS
 rw[show decide ((tkA l i).k=3)=false from h3,show decide ((tkA l i).k=2)=false from h2,show decide ((tkA l i).k=4)=false from h4]
theorem word_lp (h:tkT (tkA l i)=⟨5,[40],0⟩):atomS l n p i=roundS l p (i+1):=by
 rw[atom_k h rfl rfl rfl]
 unfold wordS
 rw[tok_isT h bTrue (b:=false) rfl,tok_isT h bFalse (b:=false) rfl,tok_isT h (bs [91]) (b:=false) rfl,tok_isT h (bs [40]) (b:=true) rfl]
theorem word_lb (h:tkT (tkA l i)=⟨5,[91],0⟩):atomS l n p i=(listS l n p (bs [93]) (i+1)).bind fun es j=> .ok (ex 14 es) j:=by
 rw[atom_k h rfl rfl rfl]
 unfold wordS
 rw[tok_isT h bTrue (b:=false) rfl,tok_isT h bFalse (b:=false) rfl,tok_isT h (bs [91]) (b:=true) rfl]
theorem word_merge (h:tkT (tkA l i)=⟨1,kMerge,0⟩):atomS l n p i=mergeS l n p (i+1):=by
 rw[atom_k h rfl rfl rfl]
 unfold wordS
 rw[tok_isT h bTrue (b:=false) rfl,tok_isT h bFalse (b:=false) rfl,tok_isT h (bs [91]) (b:=false) rfl,tok_isT h (bs [40]) (b:=false) rfl,tok_isT h (bs [109,101,114,103,101]) (b:=true) rfl]
theorem word_if (h:tkT (tkA l i)=⟨1,kIf,0⟩):atomS l n p i=choiceS l p (i+1):=by
 rw[atom_k h rfl rfl rfl]
 unfold wordS
 rw[tok_isT h bTrue (b:=false) rfl,tok_isT h bFalse (b:=false) rfl,tok_isT h (bs [91]) (b:=false) rfl,tok_isT h (bs [40]) (b:=false) rfl,tok_isT h (bs [109,101,114,103,101]) (b:=false) rfl,tok_isT h (bs [105,102]) (b:=true) rfl]
theorem low_key {b w:List Nat}(hb:lowN b=true)(hw:wordN w=true):isTT ⟨1,b,0⟩ w=false:=by
 unfold isTT
 have:b≠w:=fun h=>by
  have:=(low_name hb).2
  rw[h,hw]at this
  cases this
 simp only [decide_eq_false this,Bool.false_and]
theorem low_mark {b:List Nat}{c:Nat}(hb:lowN b=true)(hc:smallN c=false):isTT ⟨1,b,0⟩ [c]=false:=by
 unfold isTT
 have:b≠[c]:=fun h=>by
  have:=(name_parts (low_name hb).1).2.1
  rw[h]at this
  simp only [List.getD_cons_zero]at this
  rw[hc]at this
  cases this
 simp only [decide_eq_false this,Bool.false_and]
theorem word_name {b:List Nat}(h:tkT (tkA l i)=⟨1,b,0⟩)(hb:lowN b=true):atomS l n p i=(match isT l (i+1) (bs [40])with
  |true=>callS l n p (tkA l i).s (i+2)
  |false=> .ok (.mk 3 0 (tkA l i).s 0 [] []) (i+1)):=by
 rw[atom_k h rfl rfl rfl]
 unfold wordS
 have hn:nameS l i= .ok (tkA l i).s (i+1):=by
  unfold nameS
  have h1:(tkA l i).k=1:=congrArg T.k h
  have h2:tb (tkA l i).s=b:=congrArg T.b h
  rw[h1,h2,(low_name hb).2]
  rfl
 rw[tok_isT h bTrue (low_key hb rfl),tok_isT h bFalse (low_key hb rfl),tok_isT h (bs [91]) (low_mark hb rfl),tok_isT h (bs [40]) (low_mark hb rfl),tok_isT h (bs [109,101,114,103,101]) (low_key hb rfl),tok_isT h (bs [105,102]) (low_key hb rfl),hn]
 rfl
theorem need1 {w:ByteArray}{t:T}(h:tkT (tkA l i)=t)(hw:isTT t (tb w)=true)(ws:List ByteArray):needS l (w::ws) i=needS l ws (i+1):=by
 rw[needS,tok_isT h w hw]
theorem need0:needS l [] i= .ok () i:=rfl
theorem Ev_atom (h: ∀m,N≤m→atomS l m (prs l m) i= .ok e j):Ev l .atom i e j (N+1):=fun m hm=>by
 obtain⟨m,rfl⟩: ∃r,m=r+1:=⟨m - 1,by omega⟩
 exact h m (by omega)
theorem rnd (h0:tkT (tkA l i)=⟨5,[40],0⟩)(h:Ev l .arrow (i+1) e j N)(h1:tkT (tkA l j)=⟨5,[41],0⟩):Ev l .atom i e (j+1) (N+1):=Ev_atom fun m hm=>by
 rw[word_lp h0,roundS,h m hm,Rs.bind_ok,tok_isT h1 (bs [119,105,116,104]) (b:=false) rfl]
 simp only
 rw[need1 h1 rfl,need0,Rs.bind_ok]
theorem atom_post (h:Ev l .atom i e j N)(h1:1≤N)(hf:f2 (tkT (tkA l j))=true):Ev l .post i e j (N+1):=fun m hm=>by
 obtain⟨m,rfl⟩: ∃r,m=r+1:=⟨m - 1,by omega⟩
 show postS l m (prs l m) i=_
 rw[postS,h m (by omega),Rs.bind_ok]
 obtain⟨r,rfl⟩: ∃r,m=r+1:=⟨m - 1,by omega⟩
 have hf:=and2 hf
 rw[iterS,postT,nT_isT (w:=bs [91]) (and1 hf),nT_isT (w:=bs [119,104,101,110]) (and2 hf)]
theorem post_arrow (h:Ev l .post i e j N)(hs:staB (tkT (tkA l i))=true)(hf:f10 (tkT (tkA l j))=true):Ev l .arrow i e j (N+10):=fr_un (up_un h hs) (by omega) .arrow hf (by simp) (by simp)
theorem un_neg (h0:tkT (tkA l i)=⟨5,[45],0⟩)(h:Ev l .un (i+1) x j N):Ev l .un i (.mk 5 0 (bs []) 1 [] [x]) j (N+1):=fun m hm=>by
 obtain⟨m,rfl⟩: ∃r,m=r+1:=⟨m - 1,by omega⟩
 show unS l (prs l m) i=_
 rw[unS,tok_isT h0 (bs [45]) (b:=true) rfl]
 simp only
 rw[h m (by omega),Rs.bind_ok]
theorem un_not (h0:tkT (tkA l i)=⟨1,kNot,0⟩)(h:Ev l .un (i+1) x j N):Ev l .un i (.mk 5 0 (bs []) 2 [] [x]) j (N+1):=fun m hm=>by
 obtain⟨m,rfl⟩: ∃r,m=r+1:=⟨m - 1,by omega⟩
 show unS l (prs l m) i=_
 rw[unS,tok_isT h0 (bs [45]) (b:=false) rfl,tok_isT h0 (bs [110,111,116]) (b:=true) rfl]
 simp only
 rw[h m (by omega),Rs.bind_ok]
theorem un_pre (h0:tkT (tkA l i)=⟨1,kPre,0⟩)(h:Ev l .un (i+1) x j N):Ev l .un i (ex 10 [x]) j (N+1):=fun m hm=>by
 obtain⟨m,rfl⟩: ∃r,m=r+1:=⟨m - 1,by omega⟩
 show unS l (prs l m) i=_
 rw[unS,tok_isT h0 (bs [45]) (b:=false) rfl,tok_isT h0 (bs [110,111,116]) (b:=false) rfl,tok_isT h0 (bs [112,114,101]) (b:=true) rfl]
 simp only
 rw[h m (by omega),Rs.bind_ok]
theorem at_if (h0:tkT (tkA l i)=⟨1,kIf,0⟩)(hx:Ev l .arrow (i+1) x j N)(h1:tkT (tkA l j)=⟨1,kThen,0⟩)(hy:Ev l .arrow (j+1) y k N)(h2:tkT (tkA l k)=⟨1,kElse,0⟩)(hz:Ev l .arrow (k+1) z M N):Ev l .atom i (ex 7 [x,y,z]) M (N+1):=Ev_atom fun m hm=>by
 rw[word_if h0,choiceS,hx m hm,Rs.bind_ok,need1 h1 rfl,need0,Rs.bind_ok,hy m hm,Rs.bind_ok,need1 h2 rfl,need0,Rs.bind_ok,hz m hm,Rs.bind_ok]
theorem rnd_with {q:Nat}(h0:tkT (tkA l i)=⟨5,[40],0⟩)(hx:Ev l .arrow (i+1) x j N)(h1:tkT (tkA l j)=⟨1,kWith,0⟩)(h2:tkT (tkA l (j+1))=⟨5,[91],0⟩)(hy:Ev l .arrow (j+2) y k N)(h3:tkT (tkA l k)=⟨5,[93],0⟩)(h4:tkT (tkA l (k+1))=⟨5,[61],0⟩)(hz:Ev l .arrow (k+2) z M N)(h5:tkT (tkA l M)=⟨5,[41],0⟩):Ev l .atom i (ex 16 [x,y,z]) (M+1) (N+1):=Ev_atom fun m hm=>by
 rw[word_lp h0,roundS,hx m hm,Rs.bind_ok,tok_isT h1 (bs [119,105,116,104]) (b:=true) rfl]
 simp only
 rw[need1 h2 rfl,need0,Rs.bind_ok,hy m hm,Rs.bind_ok,need1 h3 rfl,need1 h4 rfl,need0,Rs.bind_ok,hz m hm,Rs.bind_ok,need1 h5 rfl,need0,Rs.bind_ok]
theorem listT_ok (c:UInt8)(hc:c=41∨c=93)(m:Nat): ∀(u:List Ex) (es:List Ex) (i r:Nat),(∀x∈u,Good l x∧St x∧20*tL x+11≤m)→Az l i (fm (sepP (pcsL u))++[⟨5,[c.toNat],0⟩])→u.length+1≤r→
  iterS (listT l (prs l m) (bs [c])) r (es,i)= .ok (es++u) (i+(fm (sepP (pcsL u))).length+1)
 | [],es,i,r,_,ha,hr=>by
   obtain⟨r,rfl⟩: ∃q,r=q+1:=⟨r - 1,by omega⟩
   have ha:=ha.1
   have h44:isTT ⟨5,[c.toNat],0⟩ (tb (bs [44]))=false:=by rcases hc with rfl|rfl<;>rfl
   have hcc:isTT ⟨5,[c.toNat],0⟩ (tb (bs [c]))=true:=by rcases hc with rfl|rfl<;>rfl
   rw[iterS,listT,tok_isT ha (bs [44]) h44]
   simp only
   rw[need1 ha hcc,need0,Rs.bind_ok,List.append_nil]
   rfl
 |x::u,es,i,r,h,ha,hr=>by
  obtain⟨r,rfl⟩: ∃q,r=q+1:=⟨r - 1,by omega⟩
  obtain⟨g1,g2,g3⟩:=h x List.mem_cons_self
  have e:fm (sepP (pcsL (x::u)))=⟨5,[44],0⟩::(fm (pcs x)++fm (sepP (pcsL u))):=by
   simp only [pcsL,sepP,List.cons_append,List.nil_append,mk,fm_some,fm_none,fm_app]
  rw[e,List.cons_append,at_cons,List.append_assoc,at_app]at ha
  obtain⟨a1,a2,a3⟩:=ha
  have hf:f10 (tkT (tkA l (i+1+tL x)))=true:=by
   match u,a3 with
   | [],a3=>
     have:=a3.1
     show f10 (tkT (tkA l (i+1+(fm (pcs x)).length)))=true
     rw[this]
     rcases hc with rfl|rfl<;>rfl
   |y::u,a3=>
    have:=a3.1
    show f10 (tkT (tkA l (i+1+(fm (pcs x)).length)))=true
    rw[this];rfl
  have hx:=ev_of g1 g2 .arrow (by simp) a2 hf m g3
  have ih:=listT_ok c hc m u (es++[x]) (i+1+tL x) r (fun y hy=>h y (List.mem_cons_of_mem _ hy)) a3 (by simp only [List.length_cons]at hr;omega)
  rw[iterS,listT,tok_isT a1 (bs [44]) (b:=true) rfl]
  simp only
  rw[hx]
  simp only
  rw[ih,e]
  simp only [List.append_assoc,List.singleton_append,List.length_cons,List.length_append,tL]
  congr 1
  omega
theorem list_ok (c:UInt8)(hc:c=41∨c=93)(m:Nat)(x:Ex)(u:List Ex)(i:Nat)(h: ∀y∈x::u,Good l y∧St y∧20*tL y+11≤m)(ha:Az l i (fm (listP (pcsL (x::u)))++[⟨5,[c.toNat],0⟩]))(hr:u.length+1≤n):
  listS l n (prs l m) (bs [c]) i= .ok (x::u) (i+(fm (listP (pcsL (x::u)))).length+1):=by
 obtain⟨g1,g2,g3⟩:=h x List.mem_cons_self
 have e:fm (listP (pcsL (x::u)))=fm (pcs x)++fm (sepP (pcsL u)):=by simp only [pcsL,listP,fm_app]
 rw[e,List.append_assoc,at_app]at ha
 obtain⟨a2,a3⟩:=ha
 have hf:f10 (tkT (tkA l (i+tL x)))=true:=by
  match u,a3 with
  | [],a3=>
    have:=a3.1
    show f10 (tkT (tkA l (i+(fm (pcs x)).length)))=true
    rw[this]
    rcases hc with rfl|rfl<;>rfl
  |y::u,a3=>
   have:=a3.1
   show f10 (tkT (tkA l (i+(fm (pcs x)).length)))=true
   rw[this];rfl
 have hx:=ev_of g1 g2 .arrow (by simp) a2 hf m g3
 have ih:=listT_ok c hc m u [x] (i+tL x) n (fun y hy=>h y (List.mem_cons_of_mem _ hy)) a3 hr
 rw[listS,hx,Rs.bind_ok,ih,e]
 simp only [List.singleton_append,List.length_append,tL]
 congr 1
 omega
theorem seps_len: ∀u:List Ex,(∀x∈u,St x)→u.length≤(fm (sepP (pcsL u))).length∧ ∀x∈u,tL x+1≤(fm (sepP (pcsL u))).length
 | [],_=>⟨Nat.le_refl _,by simp⟩
 |x::u,h=>by
  obtain⟨h1,h2⟩:=seps_len u fun y hy=>h y (List.mem_cons_of_mem _ hy)
  have e:fm (sepP (pcsL (x::u)))=⟨5,[44],0⟩::(fm (pcs x)++fm (sepP (pcsL u))):=by
   simp only [pcsL,sepP,List.cons_append,List.nil_append,mk,fm_some,fm_none,fm_app]
  rw[e]
  simp only [List.length_cons,List.length_append]
  refine⟨by omega,fun y hy=> ?_⟩
  rcases List.mem_cons.1 hy with rfl|hy
  ·unfold tL;omega
  ·have:=h2 y hy;omega
theorem list_len (x:Ex)(u:List Ex)(h: ∀y∈x::u,St y):u.length+1≤(fm (listP (pcsL (x::u)))).length∧ ∀y∈x::u,tL y≤(fm (listP (pcsL (x::u)))).length:=by
 obtain⟨h1,h2⟩:=seps_len u fun y hy=>h y (List.mem_cons_of_mem _ hy)
 have hx:=(h x List.mem_cons_self).pos
 have e:fm (listP (pcsL (x::u)))=fm (pcs x)++fm (sepP (pcsL u)):=by simp only [pcsL,listP,fm_app]
 rw[e]
 simp only [List.length_append]
 unfold tL at hx
 refine⟨by omega,fun y hy=> ?_⟩
 rcases List.mem_cons.1 hy with rfl|hy
 ·unfold tL;omega
 ·have:=h2 y hy;omega
theorem name_of {b:List Nat}(h:tkT (tkA l i)=⟨1,b,0⟩)(hb:lowN b=true):nameS l i= .ok (tkA l i).s (i+1):=by
 unfold nameS
 have h1:(tkA l i).k=1:=congrArg T.k h
 have h2:tb (tkA l i).s=b:=congrArg T.b h
 rw[h1,h2,(low_name hb).2]
 rfl
theorem arm_tok {a:ByteArray}(ha:armN a=true)(h:tkT (tkA l i)=⟨if highN (tb a)then 2 else 1,tb a,0⟩):armedB l i=true∧(tkA l i).s=a∧isT l i (bs [110,111,116])=false:=by
 have hs:(tkA l i).s=a:=tb_inj (congrArg T.b h)
 have hk:(tkA l i).k=if highN (tb a)then 2 else 1:=congrArg T.k h
 unfold armN at ha
 refine⟨?_,hs,?_⟩
 ·unfold armedB
  cases hh:highN (tb a)with
  |true=>
   rw[hh,if_pos rfl]at hk
   rw[hk];rfl
  |false=>
   rw[hh,Bool.false_or]at ha
   rw[hh,if_neg (by decide)]at hk
   unfold isT
   rw[hs,hk]
   rcases Bool.or_eq_true _ _▸ha with ha|ha<;>(rw[of_decide_eq_true ha];rfl)
 ·unfold isT
  rw[hs,hk]
  cases hh:highN (tb a)with
  |true=>simp
  |false=>
   rw[hh,Bool.false_or]at ha
   rcases Bool.or_eq_true _ _▸ha with ha|ha<;>(rw[of_decide_eq_true ha];rfl)
theorem arm_of {a:ByteArray}(ha:armN a=true)(h:tkT (tkA l i)=⟨if highN (tb a)then 2 else 1,tb a,0⟩):armS l i= .ok a (i+1):=by
 obtain⟨h1,h2,_⟩:=arm_tok ha h
 unfold armS
 rw[h1,h2]
theorem when_ok {s a:ByteArray}(hs:lowN (tb s)=true)(ha:armN a=true)(h:Az l i (fm (onP s a)))(h41:True):whenS l i= .ok (s,a) (i+(fm (onP s a)).length):=by
 unfold onP at h ⊢
 split at h
 ·rename_i ht
  rw[if_pos ht]
  have h0:tkT (tkA l i)=⟨1,tb s,0⟩:=h.1
  have e:(tkA l i).s=s:=tb_inj (congrArg T.b h0)
  have hk:(tkA l i).k=1:=congrArg T.k h0
  have hA:armedB l i=false:=by
   unfold armedB
   rw[hk,tok_isT h0 bTrue (low_key hs rfl),tok_isT h0 bFalse (low_key hs rfl)];rfl
  unfold whenS
  rw[tok_isT h0 (bs [110,111,116]) (low_key hs rfl),hA]
  simp only
  rw[name_of h0 hs,Rs.bind_ok,e,show bTrue=a from tb_inj (by rw[ht];rfl)]
  rfl
 ·rename_i ht
  rw[if_neg ht]
  split at h
  ·rename_i hf
   rw[if_pos hf]
   have h0:tkT (tkA l i)=⟨1,kNot,0⟩:=h.1
   have h1:tkT (tkA l (i+1))=⟨1,tb s,0⟩:=h.2.1
   have e:(tkA l (i+1)).s=s:=tb_inj (congrArg T.b h1)
   unfold whenS
   rw[tok_isT h0 (bs [110,111,116]) (b:=true) rfl]
   simp only
   rw[name_of h1 hs,Rs.bind_ok,e,show bFalse=a from tb_inj (by rw[hf];rfl)]
   rfl
  ·rename_i hf
   rw[if_neg hf]
   have h0:tkT (tkA l i)=⟨if highN (tb a)then 2 else 1,tb a,0⟩:=h.1
   have h1:tkT (tkA l (i+1))=⟨5,[40],0⟩:=h.2.1
   have h2:tkT (tkA l (i+2))=⟨1,tb s,0⟩:=h.2.2.1
   have h3:tkT (tkA l (i+3))=⟨5,[41],0⟩:=h.2.2.2.1
   have e:(tkA l (i+2)).s=s:=tb_inj (congrArg T.b h2)
   obtain⟨q1,q2,q3⟩:=arm_tok ha h0
   unfold whenS
   rw[q3,q1]
   simp only
   rw[arm_of ha h0,Rs.bind_ok,need1 h1 rfl,need0,Rs.bind_ok,name_of h2 hs,Rs.bind_ok,need1 h3 rfl,need0,Rs.bind_ok,e]
   rfl
theorem merge_end {ar:List ByteArray}{es:List Ex}(r:Nat):iterS (mergeT l p) (r+1) (ar,es,i,false)= .ok (ar,es) i:=rfl
theorem merge_it (m:Nat): ∀(a:List ByteArray) (u:List Ex) (ar:List ByteArray) (es:List Ex) (i r:Nat),a.length=u.length→1≤a.length→a.all armN=true→(∀x∈u,Good l x∧St x∧20*tL x+11≤m)→Az l i (fm (mergeP a (pcsL u))++[⟨5,[41],0⟩])→a.length+1≤r→
  iterS (mergeT l (prs l m)) r (ar,es,i+1,true)= .ok (ar++a,es++u) (i+(fm (mergeP a (pcsL u))).length)
 | [],_,_,_,_,_,_,h,_,_,_,_=>by simp at h
 |_::_,[],_,_,_,_,h,_,_,_,_,_=>by simp at h
 |a::at_,x::u,ar,es,i,r,hl,_,ha,h,hA,hr=>by
  obtain⟨r,rfl⟩: ∃q,r=q+1:=⟨r - 1,by omega⟩
  simp only [List.all_cons,Bool.and_eq_true]at ha
  obtain⟨g1,g2,g3⟩:=h x List.mem_cons_self
  have e:fm (mergeP (a::at_) (pcsL (x::u)))=⟨5,[40],0⟩::⟨if highN (tb a)then 2 else 1,tb a,0⟩::⟨5,[45,62],0⟩::(fm (pcs x)++⟨5,[41],0⟩::fm (mergeP at_ (pcsL u))):=by
   simp only [pcsL,mergeP,List.cons_append,List.nil_append,mk,m2,armP,fm_some,fm_none,fm_app,List.append_assoc]
  rw[e]at hA
  simp only [List.cons_append,List.append_assoc]at hA
  rw[at_cons,at_cons,at_cons,at_app]at hA
  obtain⟨a0,a1,a2,a3,a4,a5⟩:=hA
  have hx:=ev_of g1 g2 .arrow (by simp) a3 (by show f10 (tkT (tkA l (i+1+1+1+(fm (pcs x)).length)))=true;rw[a4];rfl) m g3
  have hx:prs l m .arrow (i+1+1+1)= .ok x (i+1+1+1+(fm (pcs x)).length):=hx
  rw[iterS,mergeT,arm_of ha.1 a1,Rs.bind_ok,need1 a2 rfl,need0,Rs.bind_ok,hx,Rs.bind_ok,need1 a4 rfl,need0,Rs.bind_ok,e]
  simp only
  match at_,u,hl,ha.2,a5,hr with
  | [],[],_,_,a5,hr=>
    have a5:=a5.1
    rw[tok_isT a5 (bs [40]) (b:=false) rfl]
    simp only [List.length_cons,List.length_nil]at hr
    obtain⟨r,rfl⟩: ∃q,r=q+1:=⟨r - 1,by omega⟩
    show iterS (mergeT l (prs l m)) (r+1) (ar++[a],es++[x],i+1+1+1+(fm (pcs x)).length+1,false)=_
    rw[merge_end]
    simp only [mergeP,fm,List.length_cons,List.length_append,List.length_nil]
    congr 1
    omega
  |b::bt,y::v,hl,hb,a5,hr=>
   have ih:=merge_it m (b::bt) (y::v) (ar++[a]) (es++[x]) (i+1+1+1+(fm (pcs x)).length+1) r (by simpa using hl) (by simp) hb (fun z hz=>h z (List.mem_cons_of_mem _ hz)) a5 (by simp only [List.length_cons]at hr ⊢;omega)
   have a6:tkT (tkA l (i+1+1+1+(fm (pcs x)).length+1))=⟨5,[40],0⟩:=by
    have e2:fm (mergeP (b::bt) (pcsL (y::v)))=⟨5,[40],0⟩::⟨if highN (tb b)then 2 else 1,tb b,0⟩::⟨5,[45,62],0⟩::(fm (pcs y)++⟨5,[41],0⟩::fm (mergeP bt (pcsL v))):=by
     simp only [pcsL,mergeP,List.cons_append,List.nil_append,mk,m2,armP,fm_some,fm_none,fm_app,List.append_assoc]
    rw[e2]at a5
    exact a5.1
   rw[tok_isT a6 (bs [40]) (b:=true) rfl]
   simp only
   rw[ih]
   simp only [List.append_assoc,List.singleton_append,List.length_cons,List.length_append]
   congr 1
   omega
theorem merge_len: ∀(a:List ByteArray) (u:List Ex),a.length=u.length→a.length≤(fm (mergeP a (pcsL u))).length∧ ∀x∈u,tL x+4≤(fm (mergeP a (pcsL u))).length
 | [],[],_=>⟨Nat.zero_le _,by simp⟩
 | [],_::_,h=>by simp at h
 |_::_,[],h=>by simp at h
 |a::at_,x::u,h=>by
  obtain⟨h1,h2⟩:=merge_len at_ u (by simpa using h)
  have e:fm (mergeP (a::at_) (pcsL (x::u)))=⟨5,[40],0⟩::⟨if highN (tb a)then 2 else 1,tb a,0⟩::⟨5,[45,62],0⟩::(fm (pcs x)++⟨5,[41],0⟩::fm (mergeP at_ (pcsL u))):=by
   simp only [pcsL,mergeP,List.cons_append,List.nil_append,mk,m2,armP,fm_some,fm_none,fm_app,List.append_assoc]
  rw[e]
  simp only [List.length_cons,List.length_append]
  refine⟨by omega,fun y hy=> ?_⟩
  rcases List.mem_cons.1 hy with rfl|hy
  ·unfold tL;omega
  ·have:=h2 y hy;omega
end
end Go.Vm
end

section
set_option linter.all false
set_option maxRecDepth 100000
set_option maxHeartbeats 4000000
namespace Go.Vm
open Go.Proofs
section
variable {l : List Tk} {i j k N : Nat} {e x y : Ex}
theorem good_atom (h: ∀i,Az l i (fm (pcs e))→f1 (tkT (tkA l (i+tL e)))=true→ ∃N,N≤20*tL e∧Ev l .atom i e (i+tL e) N):Good l e:=fun i ha hf=>by
 obtain⟨N,hN,h⟩:=h i ha hf
 exact AI_atom (h.mono hN)
theorem nil_b {s:ByteArray}(h:tb s= []):s=bs []:=tb_inj (by rw[h];rfl)
theorem bin_all (o:Nat)(h3:3≤o)(h16:o≤16)(hj:tkT (tkA l j)=⟨if 7≤o∧o≤10 then 1 else 5,tb (signB o),0⟩)(hk:tkT (tkA l k)=⟨5,[41],0⟩)
  (hx: ∀nt,nt≠ .atom→foB nt (tkT (tkA l j))=true→Ev l nt i x j N) (hy: ∀nt,nt≠ .atom→foB nt (tkT (tkA l k))=true→Ev l nt (j+1) y k N) (hN:2≤N):Ev l .arrow i (binE o x y) k (N+10):=by
 have q: ∀nt,foB nt ⟨5,[41],0⟩=true→foB nt (tkT (tkA l k))=true:=fun nt h=>by rw[hk];exact h
 match o,h3,h16,hj with
 |3,_,_,hj|4,_,_,hj=>exact fr_arrow .sum (left_bin (a:=3) (n:=2) (fun _=>rfl) (hx .prod (by simp) (by rw[hj];rfl)) hN (by rw[opSg_T,hj];rfl) (hy .prod (by simp) (q _ rfl)) (by rw[hk];rfl)) (by omega) (q .arrow rfl) (by simp) (by simp)
 |5,_,_,hj|6,_,_,hj|7,_,_,hj=>exact fr_arrow .prod (left_bin (a:=5) (n:=3) (fun _=>rfl) (hx .un (by simp) (by rw[hj];rfl)) hN (by rw[opSg_T,hj];rfl) (hy .un (by simp) (q _ rfl)) (by rw[hk];rfl)) (by omega) (q .arrow rfl) (by simp) (by simp)
 |8,_,_,hj=>exact fr_arrow .and (left_bin (a:=8) (n:=1) (fun _=>rfl) (hx .cmp (by simp) (by rw[hj];rfl)) hN (by rw[opSg_T,hj];rfl) (hy .cmp (by simp) (q _ rfl)) (by rw[hk];rfl)) (by omega) (q .arrow rfl) (by simp) (by simp)
 |9,_,_,hj|10,_,_,hj=>exact fr_arrow .or (left_bin (a:=9) (n:=2) (fun _=>rfl) (hx .and (by simp) (by rw[hj];rfl)) hN (by rw[opSg_T,hj];rfl) (hy .and (by simp) (q _ rfl)) (by rw[hk];rfl)) (by omega) (q .arrow rfl) (by simp) (by simp)
 |11,_,_,hj|12,_,_,hj|13,_,_,hj|14,_,_,hj|15,_,_,hj|16,_,_,hj=>exact fr_arrow .cmp (bin_cmp (hx .sum (by simp) (by rw[hj];rfl)) (by rw[opSg_T,hj];rfl) (hy .sum (by simp) (q _ rfl))) (by omega) (q .arrow rfl) (by simp) (by simp)
 |o+17,_,h,_=>omega
theorem fo_at {t t':T}(nt:Nt)(h:t=t')(h2:foB nt t'=true):foB nt t=true:=by rw[h];exact h2
theorem good1 (k n:Int)(s:ByteArray)(o:Int)(a:List ByteArray)(u:List Ex)(hp:partB (.mk k n s o a u)=true)(hu: ∀x∈u,Good l x∧St x):Good l (.mk k n s o a u)∧St (.mk k n s o a u):=by
 unfold partB at hp
 simp only [Bool.and_eq_true]at hp
 obtain⟨hk,h1,h2,h3,h4,h5,h6,h7⟩:=hp
 have h5:=of_decide_eq_true h5
 have h6:=of_decide_eq_true h6
 have harm:=all_arms h4
 have e0:pcs (.mk k n s o a u)=pcK k n s o a (pcsL u):=by rw[pcs]
 have hn0:k≠1→k≠2→k≠13→n=0:=fun a b c=>by simpa [numB,a,b,c]using h1
 have ho0:k≠5→k≠6→o=0:=fun a b=>by simpa [opB_,a,b]using h3
 have hs0:k≠3→k≠11→k≠12→k≠13→k≠4→k≠17→s=bs []:=fun a b c d e f=>nil_b (by simpa [nameB,a,b,c,d,e,f]using h2)
 have ha0:k≠11→k≠12→a= []:=fun q r=>by
  unfold armsB at h4
  simp only [Bool.and_eq_true]at h4
  have:=h4.2
  simp only [decide_eq_false q,decide_eq_false r,cond_false]at this
  exact List.length_eq_zero_iff.1 (of_decide_eq_true this)
 rcases kinds k hk with rfl|rfl|rfl|rfl|rfl|rfl|rfl|rfl|rfl|rfl|rfl|rfl|rfl|rfl|rfl|rfl|rfl
 · -- 1
   have hu0:u= []:=List.length_eq_zero_iff.1 (by have h6:(u.length:Int)≤0:=h6;omega)
   have:=hs0 (by decide) (by decide) (by decide) (by decide) (by decide) (by decide)
   have:=ho0 (by decide) (by decide)
   have:=ha0 (by decide) (by decide)
   subst_vars
   refine⟨good_atom fun i ha hf=>⟨1,Nat.le_of_ble_eq_true rfl,Ev_atom (N:=0) fun m _=> ?_⟩,⟨⟨3,digN n.toNat,n⟩,[],rfl,by unfold staB nT isTT;simp⟩⟩
   have h0:tkT (tkA l i)=⟨3,digN n.toNat,n⟩:=ha.1
   have hk:(tkA l i).k=3:=congrArg T.k h0
   have hn:(tkA l i).n=n:=congrArg T.n h0
   unfold atomS
   rw[hk,hn]
   rfl
 · -- 2
   have hu0:u= []:=List.length_eq_zero_iff.1 (by have h6:(u.length:Int)≤0:=h6;omega)
   have:=hs0 (by decide) (by decide) (by decide) (by decide) (by decide) (by decide)
   have:=ho0 (by decide) (by decide)
   have:=ha0 (by decide) (by decide)
   have h1:n=0∨n=1:=by simpa [numB]using h1
   subst_vars
   rcases h1 with rfl|rfl
   ·refine⟨good_atom fun i ha hf=>⟨1,Nat.le_of_ble_eq_true rfl,Ev_atom (N:=0) fun m _=> ?_⟩,⟨_,_,rfl,rfl⟩⟩
    have h0:tkT (tkA l i)=⟨1,kFalse,0⟩:=ha.1
    rw[atom_k h0 rfl rfl rfl]
    unfold wordS
    rw[tok_isT h0 bTrue (b:=false) rfl,tok_isT h0 bFalse (b:=true) rfl]
    rfl
   ·refine⟨good_atom fun i ha hf=>⟨1,Nat.le_of_ble_eq_true rfl,Ev_atom (N:=0) fun m _=> ?_⟩,⟨_,_,rfl,rfl⟩⟩
    have h0:tkT (tkA l i)=⟨1,kTrue,0⟩:=ha.1
    rw[atom_k h0 rfl rfl rfl]
    unfold wordS
    rw[tok_isT h0 bTrue (b:=true) rfl]
    rfl
 · -- 3
   have hu0:u= []:=List.length_eq_zero_iff.1 (by have h6:(u.length:Int)≤0:=h6;omega)
   have:=hn0 (by decide) (by decide) (by decide)
   have:=ho0 (by decide) (by decide)
   have:=ha0 (by decide) (by decide)
   subst_vars
   have h2:lowN (tb s)=true:=h2
   refine⟨good_atom fun i ha hf=>⟨1,Nat.le_of_ble_eq_true rfl,Ev_atom (N:=0) fun m _=> ?_⟩,⟨⟨1,tb s,0⟩,[],rfl,?_⟩⟩
   ·have h0:tkT (tkA l i)=⟨1,tb s,0⟩:=ha.1
    have hs:(tkA l i).s=s:=tb_inj (congrArg T.b h0)
    have hf:f1 (tkT (tkA l (i+1)))=true:=hf
    rw[word_name h0 h2,nT_isT (w:=bs [40]) (and1 hf),hs]
    rfl
   ·unfold staB nT
    rw[low_mark h2 rfl,low_key h2 rfl,low_key h2 rfl,low_mark h2 rfl];rfl
 · -- 4
   have hu0:u= []:=List.length_eq_zero_iff.1 (by have h6:(u.length:Int)≤0:=h6;omega)
   have:=hn0 (by decide) (by decide) (by decide)
   have:=ho0 (by decide) (by decide)
   have:=ha0 (by decide) (by decide)
   subst_vars
   refine⟨good_atom fun i ha hf=>⟨1,Nat.le_of_ble_eq_true rfl,Ev_atom (N:=0) fun m _=> ?_⟩,⟨⟨2,tb s,0⟩,[],rfl,?_⟩⟩
   ·have h0:tkT (tkA l i)=⟨2,tb s,0⟩:=ha.1
    have hs:(tkA l i).s=s:=tb_inj (congrArg T.b h0)
    have hk:(tkA l i).k=2:=congrArg T.k h0
    unfold atomS
    rw[hk,hs]
    rfl
   ·unfold staB nT isTT;simp
 · -- 5
   have hl:u.length=1:=by simp [hiB,loB]at h5 h6;omega
   have:=hn0 (by decide) (by decide) (by decide)
   have:=hs0 (by decide) (by decide) (by decide) (by decide) (by decide) (by decide)
   have:=ha0 (by decide) (by decide)
   match u,hl,hu with
   | [x],_,hu=>
     obtain⟨g,st⟩:=hu x (by simp)
     have hp:=st.pos
     subst_vars
     have h3:o=1∨o=2:=by simp [opB_]at h3;omega
     rcases h3 with rfl|rfl
     ·have e:fm (pcs (.mk 5 0 (bs []) 1 [] [x]))=⟨5,[40],0⟩::⟨5,[45],0⟩::(fm (pcs x)++[⟨5,[41],0⟩]):=by
       rw[e0]
       show fm ([mk 40,mk 45]++pcs x++[mk 41])=_
       simp only [List.cons_append,List.nil_append,mk,fm_some,fm_app,fm_nil]
      have hL:tL (.mk 5 0 (bs []) 1 [] [x])=tL x+3:=by unfold tL;rw[e];simp
      refine⟨good_atom fun i ha hf=>⟨20*tL x+11+1+9+1,by omega,?_⟩,⟨_,_,e,rfl⟩⟩
      rw[e,at_cons,at_cons,at_app]at ha
      obtain⟨a0,a1,a2,a3⟩:=ha
      have a3:tkT (tkA l (i+1+1+tL x))=⟨5,[41],0⟩:=a3.1
      have hx:=ev_of g st .un (by simp) a2 (fo_at _ a3 rfl)
      have:=rnd a0 (fr_arrow .un (un_neg a1 hx) (by omega) (fo_at .arrow a3 rfl) (by simp) (by simp)) a3
      rw[hL,show i+(tL x+3)=i+1+1+tL x+1 by omega]
      exact this
     ·have e:fm (pcs (.mk 5 0 (bs []) 2 [] [x]))=⟨5,[40],0⟩::⟨1,kNot,0⟩::(fm (pcs x)++[⟨5,[41],0⟩]):=by
       rw[e0]
       show fm ([mk 40,wd kNot,none]++pcs x++[mk 41])=_
       simp only [List.cons_append,List.nil_append,mk,wd,fm_some,fm_none,fm_app,fm_nil]
      have hL:tL (.mk 5 0 (bs []) 2 [] [x])=tL x+3:=by unfold tL;rw[e];simp
      refine⟨good_atom fun i ha hf=>⟨20*tL x+11+1+9+1,by omega,?_⟩,⟨_,_,e,rfl⟩⟩
      rw[e,at_cons,at_cons,at_app]at ha
      obtain⟨a0,a1,a2,a3⟩:=ha
      have a3:tkT (tkA l (i+1+1+tL x))=⟨5,[41],0⟩:=a3.1
      have hx:=ev_of g st .un (by simp) a2 (fo_at _ a3 rfl)
      have:=rnd a0 (fr_arrow .un (un_not a1 hx) (by omega) (fo_at .arrow a3 rfl) (by simp) (by simp)) a3
      rw[hL,show i+(tL x+3)=i+1+1+tL x+1 by omega]
      exact this
 · -- 6
   have hl:u.length=2:=by simp [hiB,loB]at h5 h6;omega
   have:=hn0 (by decide) (by decide) (by decide)
   have:=hs0 (by decide) (by decide) (by decide) (by decide) (by decide) (by decide)
   have:=ha0 (by decide) (by decide)
   match u,hl,hu with
   | [x,y],_,hu=>
     obtain⟨g,st⟩:=hu x (by simp)
     obtain⟨g2,st2⟩:=hu y (by simp)
     have hp:=st.pos
     have hp2:=st2.pos
     subst_vars
     have h3:3≤o∧o≤16:=by simpa [opB_]using h3
     obtain⟨o,rfl⟩: ∃q:Nat,o=(q:Int):=⟨o.toNat,by omega⟩
     have e:fm (pcs (.mk 6 0 (bs []) (o:Int) [] [x,y]))=⟨5,[40],0⟩::(fm (pcs x)++⟨if 7≤o∧o≤10 then 1 else 5,tb (signB o),0⟩::(fm (pcs y)++[⟨5,[41],0⟩])):=by
      rw[e0]
      show fm ([mk 40]++pcs x++[none,opK (o:Int).toNat,none]++pcs y++[mk 41])=_
      simp only [List.cons_append,List.nil_append,List.append_assoc,mk,opK,fm_some,fm_none,fm_app,fm_nil,Int.toNat_natCast]
     have hL:tL (.mk 6 0 (bs []) (o:Int) [] [x,y])=tL x+tL y+3:=by unfold tL;rw[e];simp;omega
     refine⟨good_atom fun i ha hf=>⟨20*tL x+20*tL y+11+10+1,by omega,?_⟩,⟨_,_,e,rfl⟩⟩
     rw[e,at_cons,at_app,at_cons,at_app]at ha
     obtain⟨a0,a1,a2,a3,a4⟩:=ha
     have a2:tkT (tkA l (i+1+tL x))=_:=a2
     have a4:tkT (tkA l (i+1+tL x+1+tL y))=⟨5,[41],0⟩:=a4.1
     have:=rnd a0 (bin_all (N:=20*tL x+20*tL y+11) o (by omega) (by omega) a2 a4 (fun nt hn hf=>(ev_of g st nt hn a1 hf).mono (by omega)) (fun nt hn hf=>(ev_of g2 st2 nt hn a3 hf).mono (by omega)) (by omega)) a4
     rw[hL,show i+(tL x+tL y+3)=i+1+tL x+1+tL y+1 by omega]
     exact this
 · -- 7
   have hl:u.length=3:=by simp [hiB,loB]at h5 h6;omega
   have:=hn0 (by decide) (by decide) (by decide)
   have:=hs0 (by decide) (by decide) (by decide) (by decide) (by decide) (by decide)
   have:=ha0 (by decide) (by decide)
   have:=ho0 (by decide) (by decide)
   match u,hl,hu with
   | [x,y,z],_,hu=>
     obtain⟨g,st⟩:=hu x (by simp)
     obtain⟨g2,st2⟩:=hu y (by simp)
     obtain⟨g3,st3⟩:=hu z (by simp)
     have hp:=st.pos
     have hp2:=st2.pos
     have hp3:=st3.pos
     subst_vars
     have e:fm (pcs (.mk 7 0 (bs []) 0 [] [x,y,z]))=⟨5,[40],0⟩::⟨1,kIf,0⟩::(fm (pcs x)++⟨1,kThen,0⟩::(fm (pcs y)++⟨1,kElse,0⟩::(fm (pcs z)++[⟨5,[41],0⟩]))):=by
      rw[e0]
      show fm ([mk 40,wd kIf,none]++pcs x++[none,wd kThen,none]++pcs y++[none,wd kElse,none]++pcs z++[mk 41])=_
      simp only [List.cons_append,List.nil_append,List.append_assoc,mk,wd,fm_some,fm_none,fm_app,fm_nil]
     have hL:tL (.mk 7 0 (bs []) 0 [] [x,y,z])=tL x+tL y+tL z+5:=by unfold tL;rw[e];simp;omega
     refine⟨good_atom fun i ha hf=>⟨20*tL x+20*tL y+20*tL z+11+1+1+10+1,by omega,?_⟩,⟨_,_,e,rfl⟩⟩
     rw[e,at_cons,at_cons,at_app,at_cons,at_app,at_cons,at_app]at ha
     obtain⟨a0,a1,a2,a3,a4,a5,a6,a7⟩:=ha
     have a3:tkT (tkA l (i+1+1+tL x))=_:=a3
     have a5:tkT (tkA l (i+1+1+tL x+1+tL y))=_:=a5
     have a7:tkT (tkA l (i+1+1+tL x+1+tL y+1+tL z))=⟨5,[41],0⟩:=a7.1
     have hx:=(ev_of g st .arrow (by simp) a2 (fo_at _ a3 rfl)).mono (M:=20*tL x+20*tL y+20*tL z+11) (by omega)
     have hy:=(ev_of g2 st2 .arrow (by simp) a4 (fo_at _ a5 rfl)).mono (M:=20*tL x+20*tL y+20*tL z+11) (by omega)
     have hz:=(ev_of g3 st3 .arrow (by simp) a6 (fo_at _ a7 rfl)).mono (M:=20*tL x+20*tL y+20*tL z+11) (by omega)
     have:=rnd a0 (post_arrow (atom_post (at_if a1 hx a3 hy a5 hz) (by omega) (fo_at .un a7 rfl)) (by rw[a1];rfl) (fo_at .arrow a7 rfl)) a7
     rw[hL,show i+(tL x+tL y+tL z+5)=i+1+1+tL x+1+tL y+1+tL z+1 by omega]
     exact this
 · -- 8
   have hl:u.length=2:=by simp [hiB,loB]at h5 h6;omega
   have:=hn0 (by decide) (by decide) (by decide)
   have:=hs0 (by decide) (by decide) (by decide) (by decide) (by decide) (by decide)
   have:=ha0 (by decide) (by decide)
   have:=ho0 (by decide) (by decide)
   match u,hl,hu with
   | [x,y],_,hu=>
     obtain⟨g,st⟩:=hu x (by simp)
     obtain⟨g2,st2⟩:=hu y (by simp)
     have hp:=st.pos
     have hp2:=st2.pos
     subst_vars
     have e:fm (pcs (.mk 8 0 (bs []) 0 [] [x,y]))=⟨5,[40],0⟩::(fm (pcs x)++⟨1,kFby,0⟩::(fm (pcs y)++[⟨5,[41],0⟩])):=by
      rw[e0]
      show fm ([mk 40]++pcs x++[none,wd kFby,none]++pcs y++[mk 41])=_
      simp only [List.cons_append,List.nil_append,List.append_assoc,mk,wd,fm_some,fm_none,fm_app,fm_nil]
     have hL:tL (.mk 8 0 (bs []) 0 [] [x,y])=tL x+tL y+3:=by unfold tL;rw[e];simp;omega
     refine⟨good_atom fun i ha hf=>⟨20*tL x+20*tL y+11+1+9+1,by omega,?_⟩,⟨_,_,e,rfl⟩⟩
     rw[e,at_cons,at_app,at_cons,at_app]at ha
     obtain⟨a0,a1,a2,a3,a4⟩:=ha
     have a2:tkT (tkA l (i+1+tL x))=_:=a2
     have a4:tkT (tkA l (i+1+tL x+1+tL y))=⟨5,[41],0⟩:=a4.1
     have hx:=(ev_of g st .or (by simp) a1 (fo_at _ a2 rfl)).mono (M:=20*tL x+20*tL y+11) (by omega)
     have hy:=(ev_of g2 st2 .fby (by simp) a3 (fo_at _ a4 rfl)).mono (M:=20*tL x+20*tL y+11) (by omega)
     have:=rnd a0 (fr_arrow .fby (bin_fby hx a2 hy) (by omega) (fo_at .arrow a4 rfl) (by simp) (by simp)) a4
     rw[hL,show i+(tL x+tL y+3)=i+1+tL x+1+tL y+1 by omega]
     exact this
 · -- 9
   have hl:u.length=2:=by simp [hiB,loB]at h5 h6;omega
   have:=hn0 (by decide) (by decide) (by decide)
   have:=hs0 (by decide) (by decide) (by decide) (by decide) (by decide) (by decide)
   have:=ha0 (by decide) (by decide)
   have:=ho0 (by decide) (by decide)
   match u,hl,hu with
   | [x,y],_,hu=>
     obtain⟨g,st⟩:=hu x (by simp)
     obtain⟨g2,st2⟩:=hu y (by simp)
     have hp:=st.pos
     have hp2:=st2.pos
     subst_vars
     have e:fm (pcs (.mk 9 0 (bs []) 0 [] [x,y]))=⟨5,[40],0⟩::(fm (pcs x)++⟨5,[45,62],0⟩::(fm (pcs y)++[⟨5,[41],0⟩])):=by
      rw[e0]
      show fm ([mk 40]++pcs x++[none,m2 45 62,none]++pcs y++[mk 41])=_
      simp only [List.cons_append,List.nil_append,List.append_assoc,mk,m2,fm_some,fm_none,fm_app,fm_nil]
     have hL:tL (.mk 9 0 (bs []) 0 [] [x,y])=tL x+tL y+3:=by unfold tL;rw[e];simp;omega
     refine⟨good_atom fun i ha hf=>⟨20*tL x+20*tL y+11+1+1,by omega,?_⟩,⟨_,_,e,rfl⟩⟩
     rw[e,at_cons,at_app,at_cons,at_app]at ha
     obtain⟨a0,a1,a2,a3,a4⟩:=ha
     have a2:tkT (tkA l (i+1+tL x))=_:=a2
     have a4:tkT (tkA l (i+1+tL x+1+tL y))=⟨5,[41],0⟩:=a4.1
     have hx:=(ev_of g st .fby (by simp) a1 (fo_at _ a2 rfl)).mono (M:=20*tL x+20*tL y+11) (by omega)
     have hy:=(ev_of g2 st2 .arrow (by simp) a3 (fo_at _ a4 rfl)).mono (M:=20*tL x+20*tL y+11) (by omega)
     have:=rnd a0 (bin_arrow hx a2 hy) a4
     rw[hL,show i+(tL x+tL y+3)=i+1+tL x+1+tL y+1 by omega]
     exact this
 · -- 10
   have hl:u.length=1:=by simp [hiB,loB]at h5 h6;omega
   have:=hn0 (by decide) (by decide) (by decide)
   have:=hs0 (by decide) (by decide) (by decide) (by decide) (by decide) (by decide)
   have:=ha0 (by decide) (by decide)
   have:=ho0 (by decide) (by decide)
   match u,hl,hu with
   | [x],_,hu=>
     obtain⟨g,st⟩:=hu x (by simp)
     have hp:=st.pos
     subst_vars
     have e:fm (pcs (.mk 10 0 (bs []) 0 [] [x]))=⟨5,[40],0⟩::⟨1,kPre,0⟩::(fm (pcs x)++[⟨5,[41],0⟩]):=by
      rw[e0]
      show fm ([mk 40,wd kPre,none]++pcs x++[mk 41])=_
      simp only [List.cons_append,List.nil_append,mk,wd,fm_some,fm_none,fm_app,fm_nil]
     have hL:tL (.mk 10 0 (bs []) 0 [] [x])=tL x+3:=by unfold tL;rw[e];simp
     refine⟨good_atom fun i ha hf=>⟨20*tL x+11+1+9+1,by omega,?_⟩,⟨_,_,e,rfl⟩⟩
     rw[e,at_cons,at_cons,at_app]at ha
     obtain⟨a0,a1,a2,a3⟩:=ha
     have a3:tkT (tkA l (i+1+1+tL x))=⟨5,[41],0⟩:=a3.1
     have hx:=ev_of g st .un (by simp) a2 (fo_at _ a3 rfl)
     have:=rnd a0 (fr_arrow .un (un_pre a1 hx) (by omega) (fo_at .arrow a3 rfl) (by simp) (by simp)) a3
     rw[hL,show i+(tL x+3)=i+1+1+tL x+1 by omega]
     exact this
 · -- 11
   have hl:u.length=1:=by simp [hiB,loB]at h5 h6;omega
   have hla:a.length=1:=by
    unfold armsB at h4
    simp only [Bool.and_eq_true]at h4
    exact of_decide_eq_true h4.2
   have:=hn0 (by decide) (by decide) (by decide)
   have:=ho0 (by decide) (by decide)
   have h2:lowN (tb s)=true:=h2
   match u,hl,hu,a,hla,harm with
   | [x],_,hu,[ar],_,harm=>
     simp only [List.all_cons,List.all_nil,Bool.and_true]at harm
     obtain⟨g,st⟩:=hu x (by simp)
     have hp:=st.pos
     subst_vars
     have e:fm (pcs (.mk 11 0 s 0 [ar] [x]))=⟨5,[40],0⟩::(fm (pcs x)++⟨1,kWhen,0⟩::(fm (onP s ar)++[⟨5,[41],0⟩])):=by
      rw[e0]
      show fm ([mk 40]++pcs x++[none,wd kWhen,none]++onP s ar++[mk 41])=_
      simp only [List.cons_append,List.nil_append,List.append_assoc,mk,wd,fm_some,fm_none,fm_app,fm_nil]
     have hL:tL (.mk 11 0 s 0 [ar] [x])=tL x+(fm (onP s ar)).length+3:=by unfold tL;rw[e];simp;omega
     refine⟨good_atom fun i ha hf=>⟨20*tL x+3+10+1,by omega,?_⟩,⟨_,_,e,rfl⟩⟩
     rw[e,at_cons,at_app,at_cons,at_app]at ha
     obtain⟨a0,a1,a2,a3,a4⟩:=ha
     have a2:tkT (tkA l (i+1+tL x))=⟨1,kWhen,0⟩:=a2
     have a4:tkT (tkA l (i+1+tL x+1+(fm (onP s ar)).length))=⟨5,[41],0⟩:=a4.1
     have hw:whenS l (i+1+tL x+1)= .ok (s,ar) (i+1+tL x+1+(fm (onP s ar)).length):=when_ok h2 harm a3 trivial
     obtain⟨base,j0,k,q1,q2,q3⟩:=g (i+1) a1 (by rw[a2];rfl)
     have hpost:Ev l .post (i+1) (.mk 11 0 s 0 [ar] [x]) (i+1+tL x+1+(fm (onP s ar)).length) (20*tL x+3):=fun m hm=>by
      obtain⟨m,rfl⟩: ∃r,m=r+1:=⟨m - 1,by omega⟩
      show postS l m (prs l m) (i+1)=_
      rw[postS,q2 m (by omega),Rs.bind_ok]
      have q3:=q3 m (by omega) (m - k)
      rw[show m - k+k=m by omega]at q3
      rw[q3]
      obtain⟨r,hr⟩: ∃r,m - k=r+2:=⟨m - k - 2,by omega⟩
      rw[hr,iterS,postT,tok_isT a2 (bs [91]) (b:=false) rfl,tok_isT a2 (bs [119,104,101,110]) (b:=true) rfl]
      simp only
      rw[hw]
      simp only
      rw[iterS,postT,tok_isT a4 (bs [91]) (b:=false) rfl,tok_isT a4 (bs [119,104,101,110]) (b:=false) rfl]
     have:=rnd a0 (post_arrow hpost (st.at a1) (by rw[a4];rfl)) a4
     rw[hL,show i+(tL x+(fm (onP s ar)).length+3)=i+1+tL x+1+(fm (onP s ar)).length+1 by omega]
     exact this
 · -- 12
   have hla:1≤a.length:=by
    unfold armsB at h4
    simp only [Bool.and_eq_true]at h4
    have:=h4.2
    simp only [show decide ((12:Int)=11)=false from rfl,cond_false,decide_true,cond_true,Bool.and_eq_true]at this
    exact of_decide_eq_true this.1
   have hl:a.length=u.length:=by simp [hiB,loB]at h5 h6;omega
   have:=hn0 (by decide) (by decide) (by decide)
   have:=ho0 (by decide) (by decide)
   have h2:lowN (tb s)=true:=h2
   subst_vars
   have e:fm (pcs (.mk 12 0 s 0 a u))=⟨5,[40],0⟩::⟨1,kMerge,0⟩::⟨1,tb s,0⟩::(fm (mergeP a (pcsL u))++[⟨5,[41],0⟩]):=by
    rw[e0]
    show fm ([mk 40,wd kMerge,none,wd (tb s)]++mergeP a (pcsL u)++[mk 41])=_
    simp only [List.cons_append,List.nil_append,List.append_assoc,mk,wd,fm_some,fm_none,fm_app,fm_nil]
   have hL:tL (.mk 12 0 s 0 a u)=(fm (mergeP a (pcsL u))).length+4:=by unfold tL;rw[e];simp
   obtain⟨m1,m2⟩:=merge_len a u hl
   refine⟨good_atom fun i ha hf=>⟨20*(fm (mergeP a (pcsL u))).length+11+1+1+10+1,by omega,?_⟩,⟨_,_,e,rfl⟩⟩
   rw[e,at_cons,at_cons,at_cons]at ha
   obtain⟨a0,a1,a2,a3⟩:=ha
   have a4:=(at_app.1 a3).2
   have a4:tkT (tkA l (i+1+1+1+(fm (mergeP a (pcsL u))).length))=⟨5,[41],0⟩:=a4.1
   have a5:tkT (tkA l (i+1+1+1))=⟨5,[40],0⟩:=by
    match a,u,hla,hl,a3 with
    |b::bt,y::v,_,_,a3=>
     have e2:fm (mergeP (b::bt) (pcsL (y::v)))=⟨5,[40],0⟩::⟨if highN (tb b)then 2 else 1,tb b,0⟩::⟨5,[45,62],0⟩::(fm (pcs y)++⟨5,[41],0⟩::fm (mergeP bt (pcsL v))):=by
      simp only [pcsL,mergeP,List.cons_append,List.nil_append,mk,Go.Vm.m2,armP,fm_some,fm_none,fm_app,List.append_assoc]
     rw[e2]at a3
     exact a3.1
   have hs:(tkA l (i+1+1)).s=s:=tb_inj (congrArg T.b a2)
   have hat:Ev l .atom (i+1) (.mk 12 0 s 0 a u) (i+1+1+1+(fm (mergeP a (pcsL u))).length) (20*(fm (mergeP a (pcsL u))).length+11+1):=Ev_atom fun m hm=>by
    rw[word_merge a1,mergeS,name_of a2 h2,Rs.bind_ok,need1 a5 rfl,need0,Rs.bind_ok]
    have:=merge_it (l:=l) m a u [] [] (i+1+1+1) m hl hla harm (fun x hx=>⟨(hu x hx).1,(hu x hx).2,by have:=m2 x hx;omega⟩) a3 (by omega)
    rw[this,Rs.bind_ok,hs]
    rfl
   have:=rnd a0 (post_arrow (atom_post hat (by omega) (by rw[a4];rfl)) (by rw[a1];rfl) (by rw[a4];rfl)) a4
   rw[hL,show i+((fm (mergeP a (pcsL u))).length+4)=i+1+1+1+(fm (mergeP a (pcsL u))).length+1 by omega]
   exact this
 · -- 13
   have:=ho0 (by decide) (by decide)
   have:=ha0 (by decide) (by decide)
   have h2:lowN (tb s)=true:=h2
   have h1:n=0∨n=1:=by simpa [numB]using h1
   subst_vars
   have calls: ∀(v:List Ex) (i m n:Nat),(∀x∈v,Good l x∧St x)→Az l i (fm (listP (pcsL v))++[⟨5,[41],0⟩])→20*(fm (listP (pcsL v))).length+11≤m→20*(fm (listP (pcsL v))).length+11≤n→callS l n (prs l m) s i=callU l (prs l m) s v (i+(fm (listP (pcsL v))).length+1):=by
    intro v i m n hv ha hm hn
    unfold callS
    match v,hv,ha,hm,hn with
    | [],_,ha,_,_=>
      rw[tok_isT ha.1 (bs [41]) (b:=true) rfl]
      rfl
    |x::v,hv,ha,hm,hn=>
     obtain⟨l1,l2⟩:=list_len x v fun y hy=>(hv y hy).2
     have hst:isT l i (bs [41])=false:=by
      have e2:fm (listP (pcsL (x::v)))=fm (pcs x)++fm (sepP (pcsL v)):=by simp only [pcsL,listP,fm_app]
      rw[e2,List.append_assoc,at_app]at ha
      have:=(hv x (by simp)).2.at ha.1
      unfold staB at this
      exact nT_isT (w:=bs [41]) (and2 (and2 (and2 this)))
     rw[hst]
     simp only
     rw[list_ok 41 (.inl rfl) m x v i (fun y hy=>⟨(hv y hy).1,(hv y hy).2,by have:=l2 y hy;omega⟩) ha (by omega),Rs.bind_ok]
   rcases h1 with rfl|rfl
   ·have e:fm (pcs (.mk 13 0 s 0 [] u))=⟨1,tb s,0⟩::⟨5,[40],0⟩::(fm (listP (pcsL u))++[⟨5,[41],0⟩]):=by
     rw[e0]
     show fm ([wd (tb s),mk 40]++listP (pcsL u)++[mk 41])=_
     simp only [List.cons_append,List.nil_append,List.append_assoc,mk,wd,fm_some,fm_none,fm_app,fm_nil]
    have hL:tL (.mk 13 0 s 0 [] u)=(fm (listP (pcsL u))).length+3:=by unfold tL;rw[e];simp
    refine⟨good_atom fun i ha hf=>⟨20*(fm (listP (pcsL u))).length+11+1,by omega,?_⟩,⟨_,_,e,?_⟩⟩
    ·rw[e,at_cons,at_cons]at ha
     obtain⟨a0,a1,a2⟩:=ha
     have hs:(tkA l i).s=s:=tb_inj (congrArg T.b a0)
     rw[hL]at hf ⊢
     refine Ev_atom fun m hm=> ?_
     rw[word_name a0 h2,tok_isT a1 (bs [40]) (b:=true) rfl,hs]
     simp only
     rw[show i+2=i+1+1 by omega,calls u (i+1+1) m m hu a2 hm hm]
     unfold callU
     rw[show i+1+1+(fm (listP (pcsL u))).length+1=i+((fm (listP (pcsL u))).length+3) by omega,nT_isT (w:=bs [101,118,101,114,121]) (and2 hf)]
    ·unfold staB nT
     rw[low_mark h2 rfl,low_key h2 rfl,low_key h2 rfl,low_mark h2 rfl];rfl
   ·have hne:u≠[]:=by rintro rfl;simp [loB]at h5
    obtain⟨v,x,rfl⟩: ∃v x,u=v++[x]:=⟨_,_,(List.dropLast_concat_getLast hne).symm⟩
    have hx:=hu x (by simp)
    have hv: ∀y∈v,Good l y∧St y:=fun y hy=>hu y (by simp [hy])
    have hpx:=hx.2.pos
    have pl: ∀v:List Ex,pcsL (v++[x])=pcsL v++[pcs x]:=by
     intro v
     induction v with
     |nil=>rfl
     |cons y v ih=>simp only [List.cons_append,pcsL,ih]
    have e:fm (pcs (.mk 13 1 s 0 [] (v++[x])))=⟨5,[40],0⟩::⟨1,tb s,0⟩::⟨5,[40],0⟩::(fm (listP (pcsL v))++⟨5,[41],0⟩::⟨1,kEvery,0⟩::(fm (pcs x)++[⟨5,[41],0⟩])):=by
     rw[e0,pl v]
     show fm ([mk 40,wd (tb s),mk 40]++listP ((pcsL v++[pcs x]).take ((pcsL v++[pcs x]).length - 1))++[mk 41,none,wd kEvery,none]++(pcsL v++[pcs x]).getD ((pcsL v++[pcs x]).length - 1) []++[mk 41])=_
     have t1:(pcsL v++[pcs x]).length - 1=(pcsL v).length:=by simp
     rw[t1,List.take_left,List.getD_eq_getElem?_getD,List.getElem?_concat_length]
     simp only [List.cons_append,List.nil_append,List.append_assoc,mk,wd,fm_some,fm_none,fm_app,fm_nil,Option.getD_some]
    have hL:tL (.mk 13 1 s 0 [] (v++[x]))=(fm (listP (pcsL v))).length+tL x+6:=by unfold tL;rw[e];simp;omega
    refine⟨good_atom fun i ha hf=>⟨20*(fm (listP (pcsL v))).length+20*tL x+11+1+1+10+1,by omega,?_⟩,⟨_,_,e,rfl⟩⟩
    rw[e,at_cons,at_cons,at_cons,at_app,at_cons,at_cons,at_app]at ha
    obtain⟨a0,a1,a2,a3,a4,a5,a6,a7⟩:=ha
    have a7:tkT (tkA l (i+1+1+1+(fm (listP (pcsL v))).length+1+1+tL x))=⟨5,[41],0⟩:=a7.1
    have hs:(tkA l (i+1)).s=s:=tb_inj (congrArg T.b a1)
    have px:=(ev_of hx.1 hx.2 .post (by simp) a6 (fo_at _ a7 rfl))
    have hat:Ev l .atom (i+1) (.mk 13 1 s 0 [] (v++[x])) (i+1+1+1+(fm (listP (pcsL v))).length+1+1+tL x) (20*(fm (listP (pcsL v))).length+20*tL x+11+1):=Ev_atom fun m hm=>by
     rw[word_name a1 h2,tok_isT a2 (bs [40]) (b:=true) rfl,hs]
     simp only
     rw[show i+1+2=i+1+1+1 by omega,calls v (i+1+1+1) m m hv (at_app.2 ⟨a3,a4,trivial⟩) (by omega) (by omega)]
     unfold callU
     rw[tok_isT a5 (bs [101,118,101,114,121]) (b:=true) rfl]
     simp only
     rw[px m (by omega),Rs.bind_ok]
    have:=rnd a0 (post_arrow (atom_post hat (by omega) (by rw[a7];rfl)) (by
     rw[a1];unfold staB nT
     rw[low_mark h2 rfl,low_key h2 rfl,low_key h2 rfl,low_mark h2 rfl];rfl) (by rw[a7];rfl)) a7
    rw[hL,show i+((fm (listP (pcsL v))).length+tL x+6)=i+1+1+1+(fm (listP (pcsL v))).length+1+1+tL x+1 by omega]
    exact this
 · -- 14
   have:=hn0 (by decide) (by decide) (by decide)
   have:=hs0 (by decide) (by decide) (by decide) (by decide) (by decide) (by decide)
   have:=ha0 (by decide) (by decide)
   have:=ho0 (by decide) (by decide)
   subst_vars
   match u,hu,h5 with
   | [],_,h5=>simp [loB]at h5
   |x::v,hu,_=>
    have e:fm (pcs (.mk 14 0 (bs []) 0 [] (x::v)))=⟨5,[91],0⟩::(fm (listP (pcsL (x::v)))++[⟨5,[93],0⟩]):=by
     rw[e0]
     show fm ([mk 91]++listP (pcsL (x::v))++[mk 93])=_
     simp only [List.cons_append,List.nil_append,List.append_assoc,mk,fm_some,fm_app,fm_nil]
    have hL:tL (.mk 14 0 (bs []) 0 [] (x::v))=(fm (listP (pcsL (x::v)))).length+2:=by unfold tL;rw[e];simp
    obtain⟨l1,l2⟩:=list_len x v fun y hy=>(hu y hy).2
    refine⟨good_atom fun i ha hf=>⟨20*(fm (listP (pcsL (x::v)))).length+11+1,by omega,Ev_atom fun m hm=> ?_⟩,⟨_,_,e,rfl⟩⟩
    rw[e,at_cons]at ha
    rw[word_lb ha.1,list_ok 93 (.inr rfl) m x v (i+1) (fun y hy=>⟨(hu y hy).1,(hu y hy).2,by have:=l2 y hy;omega⟩) ha.2 (by omega),Rs.bind_ok,hL]
    show Rs.ok _ _=_
    congr 1
    omega
 · -- 15
   have hl:u.length=2:=by simp [hiB,loB]at h5 h6;omega
   have:=hn0 (by decide) (by decide) (by decide)
   have:=hs0 (by decide) (by decide) (by decide) (by decide) (by decide) (by decide)
   have:=ha0 (by decide) (by decide)
   have:=ho0 (by decide) (by decide)
   match u,hl,hu with
   | [x,y],_,hu=>
     obtain⟨g,st⟩:=hu x (by simp)
     obtain⟨g2,st2⟩:=hu y (by simp)
     have hp:=st.pos
     have hp2:=st2.pos
     subst_vars
     have e:fm (pcs (.mk 15 0 (bs []) 0 [] [x,y]))=fm (pcs x)++⟨5,[91],0⟩::(fm (pcs y)++[⟨5,[93],0⟩]):=by
      rw[e0]
      show fm (pcs x++[mk 91]++pcs y++[mk 93])=_
      simp only [List.cons_append,List.nil_append,List.append_assoc,mk,fm_some,fm_none,fm_app,fm_nil]
     have hL:tL (.mk 15 0 (bs []) 0 [] [x,y])=tL x+tL y+2:=by unfold tL;rw[e];simp;omega
     refine⟨fun i ha hf=> ?_,?_⟩
     ·rw[e,at_app,at_cons,at_app]at ha
      obtain⟨a1,a2,a3,a4⟩:=ha
      have a2:tkT (tkA l (i+tL x))=⟨5,[91],0⟩:=a2
      have a4:tkT (tkA l (i+tL x+1+tL y))=⟨5,[93],0⟩:=a4.1
      obtain⟨base,j0,k,q1,q2,q3⟩:=g i a1 (by rw[a2];rfl)
      have hy:=ev_of g2 st2 .arrow (by simp) a3 (fo_at _ a4 rfl)
      have hy:Ev l .arrow (i+tL x+1) y (i+tL x+1+tL y) (20*tL y+11):=hy
      rw[hL]
      refine⟨base,j0,k+1,by omega,fun m hm=>q2 m (by omega),fun m hm r=> ?_⟩
      have q3:=q3 m (by omega) (r+1)
      rw[show r+(k+1)=r+1+k by omega,q3,iterS,postT,tok_isT a2 (bs [91]) (b:=true) rfl]
      simp only
      rw[hy m (by omega),Rs.bind_ok,need1 a4 rfl,need0,Rs.bind_ok]
      simp only
      rw[show i+tL x+1+tL y+1=i+(tL x+tL y+2) by omega]
      rfl
     ·obtain⟨t,r,h,hs⟩:=st
      exact⟨t,_,by rw[e,h,List.cons_append],hs⟩
 · -- 16
   have hl:u.length=3:=by simp [hiB,loB]at h5 h6;omega
   have:=hn0 (by decide) (by decide) (by decide)
   have:=hs0 (by decide) (by decide) (by decide) (by decide) (by decide) (by decide)
   have:=ha0 (by decide) (by decide)
   have:=ho0 (by decide) (by decide)
   match u,hl,hu with
   | [x,y,z],_,hu=>
     obtain⟨g,st⟩:=hu x (by simp)
     obtain⟨g2,st2⟩:=hu y (by simp)
     obtain⟨g3,st3⟩:=hu z (by simp)
     have hp:=st.pos
     have hp2:=st2.pos
     have hp3:=st3.pos
     subst_vars
     have e:fm (pcs (.mk 16 0 (bs []) 0 [] [x,y,z]))=⟨5,[40],0⟩::(fm (pcs x)++⟨1,kWith,0⟩::⟨5,[91],0⟩::(fm (pcs y)++⟨5,[93],0⟩::⟨5,[61],0⟩::(fm (pcs z)++[⟨5,[41],0⟩]))):=by
      rw[e0]
      show fm ([mk 40]++pcs x++[none,wd kWith,none,mk 91]++pcs y++[mk 93,none,mk 61,none]++pcs z++[mk 41])=_
      simp only [List.cons_append,List.nil_append,List.append_assoc,mk,wd,fm_some,fm_none,fm_app,fm_nil]
     have hL:tL (.mk 16 0 (bs []) 0 [] [x,y,z])=tL x+tL y+tL z+6:=by unfold tL;rw[e];simp;omega
     refine⟨good_atom fun i ha hf=>⟨20*tL x+20*tL y+20*tL z+11+1,by omega,?_⟩,⟨_,_,e,rfl⟩⟩
     rw[e,at_cons,at_app,at_cons,at_cons,at_app,at_cons,at_cons,at_app]at ha
     obtain⟨a0,a1,a2,a3,a4,a5,a6,a7,a8⟩:=ha
     have a2:tkT (tkA l (i+1+tL x))=_:=a2
     have a3:tkT (tkA l (i+1+tL x+1))=_:=a3
     have a4:Az l (i+1+tL x+2) (fm (pcs y)):=a4
     have a5:tkT (tkA l (i+1+tL x+2+tL y))=_:=a5
     have a6:tkT (tkA l (i+1+tL x+2+tL y+1))=_:=a6
     have a7:Az l (i+1+tL x+2+tL y+2) (fm (pcs z)):=a7
     have a8:tkT (tkA l (i+1+tL x+2+tL y+2+tL z))=⟨5,[41],0⟩:=a8.1
     have hx:=(ev_of g st .arrow (by simp) a1 (fo_at _ a2 rfl)).mono (M:=20*tL x+20*tL y+20*tL z+11) (by omega)
     have hy:=(ev_of g2 st2 .arrow (by simp) a4 (fo_at _ a5 rfl)).mono (M:=20*tL x+20*tL y+20*tL z+11) (by omega)
     have hz:=(ev_of g3 st3 .arrow (by simp) a7 (fo_at _ a8 rfl)).mono (M:=20*tL x+20*tL y+20*tL z+11) (by omega)
     have:=rnd_with (q:=0) a0 hx a2 a3 hy a5 a6 hz a8
     rw[hL,show i+(tL x+tL y+tL z+6)=i+1+tL x+2+tL y+2+tL z+1 by omega]
     exact this
 · -- 17
   have hu0:u= []:=List.length_eq_zero_iff.1 (by have h6:(u.length:Int)≤0:=h6;omega)
   have:=hn0 (by decide) (by decide) (by decide)
   have:=ho0 (by decide) (by decide)
   have:=ha0 (by decide) (by decide)
   subst_vars
   refine⟨good_atom fun i ha hf=>⟨1,Nat.le_of_ble_eq_true rfl,Ev_atom (N:=0) fun m _=> ?_⟩,⟨⟨4,tb s,0⟩,[],rfl,?_⟩⟩
   ·have h0:tkT (tkA l i)=⟨4,tb s,0⟩:=ha.1
    have hs:(tkA l i).s=s:=tb_inj (congrArg T.b h0)
    have hk:(tkA l i).k=4:=congrArg T.k h0
    unfold atomS
    rw[hk,hs]
    rfl
   ·unfold staB nT isTT;simp
mutual
theorem good_all: ∀e:Ex,allB e=true→Good l e∧St e
 | .mk k n s o a u,h=>by
   simp only [allB,Bool.and_eq_true]at h
   exact good1 k n s o a u h.1 (goods_all u h.2)
theorem goods_all: ∀u:List Ex,allBs u=true→ ∀x∈u,Good l x∧St x
 | [],_,x,h=>by cases h
 |e::u,h,x,hx=>by
  simp only [allBs,Bool.and_eq_true]at h
  rcases List.mem_cons.1 hx with he|hx
  ·rw[he];exact good_all e h.1
  ·exact goods_all u h.2 x hx
end
end
end Go.Vm
end

section
set_option maxRecDepth 1000000
set_option maxHeartbeats 0
namespace Go.Vm
open Go.Proofs
noncomputable section
def g21 (A:Sy)(E:Env)(e_0:Int)(e_1:Int)(e_2:ByteArray)(e_3:Int)(e_4:List (List D))(e_5:List (List D)):Option PRes:=
 (E.call 20 [(kE e_0 e_1 e_2 e_3 e_4 e_5)]).bind fun p1=>
 (opB (A.cell p1.leaves 0)).bind fun b3=>
 bif (A.bnot b3)then
  some (.val [(.str (bs []))])
 else
  (E.call 39 [(kE e_0 e_1 e_2 e_3 e_4 e_5)]).bind fun p4=>
  (opS (A.cell p4.leaves 0)).bind fun s6=>
  some (.val [(.str s6)])
theorem g21_eq (A:Sy)(E:Env)(e_0:Int)(e_1:Int)(e_2:ByteArray)(e_3:Int)(e_4:List (List D))(e_5:List (List D)):(funT A Tryz.prog cs 21 [.agg [.d (.int .i64 e_0),V.d (.int .i64 e_1),V.d (.str e_2),V.d (.int .i64 e_3),V.d (.sl 1 e_4),V.d (.sl 6 e_5)]]).run E=g21 A E e_0 e_1 e_2 e_3 e_4 e_5:=by kernel_rfl
end
end Go.Vm
end

section
set_option linter.all false
set_option maxRecDepth 100000
set_option maxHeartbeats 4000000
namespace Go.Vm
open Go.Proofs
def l0:List Tk:=[⟨1,bs [97],0,0⟩,⟨5,bs [43],0,2⟩,⟨3,bs [49],1,4⟩,⟨5,bs [42],0,6⟩,⟨1,bs [98],0,8⟩,⟨6,bs [],0,9⟩]
def e1:Ex:= .mk 6 0 (bs []) 3 [] [.mk 3 0 (bs [97]) 0 [] [], .mk 6 0 (bs []) 5 [] [.mk 1 1 (bs []) 0 [] [], .mk 3 0 (bs [98]) 0 [] []]]
theorem live1:cF 8 [.d (.str (bs [97,32,43,32,49,32,42,32,98])), .d (.int .i64 6000)]=some (.val [.sl 4 (trows l0), .int .i64 9, .int .i64 0]):=callF_run 40 fun n=>by
 rw[Nat.add_comm]
 kernel_rfl
theorem live2:partS l0 0=(e1,5,0):=by kernel_rfl
theorem live3:cF 39 [kE 6 0 (bs []) 3 [] (Ex.rows [.mk 3 0 (bs [97]) 0 [] [], .mk 6 0 (bs []) 5 [] [.mk 1 1 (bs []) 0 [] [], .mk 3 0 (bs [98]) 0 [] []]])]=some (.val [.str (bs [40,97,32,43,32,40,49,32,42,32,98,41,41])]):=callF_run 40 fun n=>by
 rw[Nat.add_comm]
 kernel_rfl
end Go.Vm
end

section
set_option linter.all false
set_option maxRecDepth 100000
set_option maxHeartbeats 4000000
namespace Go.Vm
open Go.Proofs
theorem live4:cF 15 [.d (.str (bs [97,32,43,32,49,32,42,32,98]))]=some (.val [.int .i64 6, .int .i64 0, .str (bs []), .int .i64 3, .sl 1 [], .sl 6 (Ex.rows [.mk 3 0 (bs [97]) 0 [] [], .mk 6 0 (bs []) 5 [] [.mk 1 1 (bs []) 0 [] [], .mk 3 0 (bs [98]) 0 [] []]]), .int .i64 9, .int .i64 0]):=by
 have hl:LOK l0:=⟨by decide,rfl,by decide⟩
 have hS:TS l0:=TS_of (by decide)
 have h1:=live1
 have h2:=c_pPart hl hS 0 hl.pos
 have h2:cF 22 [.d (.sl 4 (trows l0)), .d (.int .i64 0)]=_:=h2
 rw[live2]at h2
 simp only [encP,e1]at h2
 refine cOf (by kernel_rfl) rfl ?_
 rw[g15_eq]
 simp only [g15,go1,Int.reduceLE,h1,h2,oP,oE]
 rfl
theorem live5:cF 21 [kE 6 0 (bs []) 3 [] (Ex.rows [.mk 3 0 (bs [97]) 0 [] [], .mk 6 0 (bs []) 5 [] [.mk 1 1 (bs []) 0 [] [], .mk 3 0 (bs [98]) 0 [] []]])]=some (.val [.str (bs [40,97,32,43,32,40,49,32,42,32,98,41,41])]):=by
 have h1:=c_reRight 6 0 (bs []) 3 [] [.mk 3 0 (bs [97]) 0 [] [], .mk 6 0 (bs []) 5 [] [.mk 1 1 (bs []) 0 [] [], .mk 3 0 (bs [98]) 0 [] []]] (by decide) ⟨⟨bs0_size,(fun _ h=>(by cases h)),by decide⟩,⟨⟨by decide,(fun _ h=>(by cases h)),by decide⟩,trivial⟩,⟨⟨bs0_size,(fun _ h=>(by cases h)),by decide⟩,⟨⟨bs0_size,(fun _ h=>(by cases h)),by decide⟩,trivial⟩,⟨⟨by decide,(fun _ h=>(by cases h)),by decide⟩,trivial⟩,trivial⟩,trivial⟩
 have h1:cF 20 [kE 6 0 (bs []) 3 [] (Ex.rows [.mk 3 0 (bs [97]) 0 [] [], .mk 6 0 (bs []) 5 [] [.mk 1 1 (bs []) 0 [] [], .mk 3 0 (bs [98]) 0 [] []]])]=some (.val [.bool true]):=h1
 have h2:=live3
 refine cOf (by kernel_rfl) rfl ?_
 rw[g21_eq]
 simp only [g21,go1,h1,h2]
theorem c_Pnum (x:Int):cF 18 [.d (.int .i64 x)]=some (.val [.int .i64 x]):=by
 refine cOf (by kernel_rfl) rfl ?_
 rw[g18_eq]
 simp only [g18]
theorem c_Plive:cF 14 []=some (.val [.bool true]):=by
 have h1:=live4
 have h2:=c_Pnum 0
 have h3:=live5
 refine cOf (by kernel_rfl) rfl ?_
 rw[g14_eq]
 simp only [g14,go1,h1,h2,h3,oE,seq_tb]
end Go.Vm
end

section
set_option linter.all false
set_option maxRecDepth 100000
set_option maxHeartbeats 4000000
namespace Go.Vm
open Go.Proofs
theorem row_skip {l:List Tk}{i:Nat}(h:i < l.length):sy.cell (sy.skip 3 (sy.row (trows l) (i:Int))) 0=some (.int .i64 ((tkA l i).a:Int)):=by rw[row_tk h];rfl
theorem row_k {l:List Tk}{i:Nat}(h:i < l.length):sy.cell (sy.row (trows l) (i:Int)) 0=some (.int .i64 (tkA l i).k):=by rw[row_tk h];rfl
end Go.Vm
end

section
set_option linter.all false
set_option maxRecDepth 100000
set_option maxHeartbeats 4000000
namespace Go.Vm
open Go.Proofs
theorem az_of {l:List Tk}: ∀ {ts:List T} {a b:List Tk},a.map tkT=ts→Az (l++(a++b)) l.length ts
 | [],[],b,_=>trivial
 | [],_::_,b,h=>by cases h
 |_::_,[],b,h=>by cases h
 |t::ts,x::a,b,h=>by
  rw[List.map_cons,List.cons.injEq]at h
  refine⟨?_,?_⟩
  ·have:tkA (l++(x::a++b)) l.length=x:=by
    unfold tkA
    rw[List.getD_eq_getElem?_getD]
    simp
   rw[this];exact h.1
  ·have:=az_of (l:=l++[x]) (a:=a) (b:=b) h.2
   simpa using this
theorem back_all (e:Ex)(h:allB e=true)(hm:smallB e=true)(hr:e.rng)(s:ByteArray)(hs:tb s=render (pcs e)): ∃l,lexS s 0=(l,(tb s).length,true)∧partS (toksS s) 0=(e,(tL e:Int),0)∧tkA (toksS s) (tL e)=endT s∧tL e < (toksS s).length:=by
 have hp:=PV_pcs e h hr
 obtain⟨l,h1,h2⟩:=lex_render s (pcs e) 0 (Nat.zero_le _) (by rw[List.drop_zero];exact hs) (okP_iff.1 hp.ok) (hp.ch 0 rfl)
 rw[fm_eq]at h1
 have hlen:l.length=tL e:=by unfold tL;rw[←h1,List.length_map]
 have ht:toksS s=l++[endT s]:=by unfold toksS;rw[h2]
 have haz:Az (toksS s) 0 (fm (pcs e)):=by
  have:=az_of (l:=[]) (b:=[endT s]) h1
  rw[ht];exact this
 have hend:tkA (toksS s) (tL e)=endT s:=by
  unfold tkA
  rw[ht,List.getD_eq_getElem?_getD,←hlen]
  simp
 obtain⟨g,st⟩:=good_all (l:=toksS s) e h
 have hev:=ev_of g st .arrow (by simp) haz (by rw[Nat.zero_add,hend];rfl)
 rw[Nat.zero_add]at hev
 have hread:readS (toksS s) 0= .ok e (tL e):=by
  unfold readS
  refine hev _ ?_
  unfold fuel
  rw[ht,List.length_append,hlen]
  simp only [List.length_cons,List.length_nil]
  omega
 refine⟨l,h2,?_,hend,?_⟩
 ·unfold partS
  rw[hread]
  simp only [hm,h,Bool.not_true,cond_false]
 ·rw[ht,List.length_append,hlen]
  simp only [List.length_cons,List.length_nil]
  omega
theorem c_pExprB (e:Ex)(h:allB e=true)(hm:smallB e=true)(hr:e.rng)(s:ByteArray)(hs:tb s=render (pcs e))(hl6:(tb s).length≤6000):cF 15 [.d (.str s)]=some (encP (e,((tb s).length:Int),0)):=by
 have hsz:s.size≤100000:=by rw[←tb_len];omega
 obtain⟨l,hlex,hpart,hend,hlt⟩:=back_all e h hm hr s hs
 have hl:=LOK_toks s hsz
 have hS:=TS_of fun t ht=>(toks_mem hsz ht).1
 have h1:=c_All s 6000 hsz
 have h2:=c_pPart hl hS 0 hl.pos
 have h2:cF 22 [.d (.sl 4 (trows (toksS s))), .d (.int .i64 0)]=_:=h2
 rw[hpart]at h2
 unfold allR at h1
 have hd:decide ((6000:Int) < ((tb s).length:Int))=false:=decide_eq_false (by omega)
 have hx:(lexS s 0).2.2=true:=by rw[hlex]
 rw[hd,hx,show(lexS s 0).1++[endT s]=toksS s from rfl]at h1
 simp only at h1
 refine cOf (by kernel_rfl) rfl ?_
 rw[g15_eq]
 obtain⟨k,n,s1,o,a,u⟩:=e
 simp only [encP]at h2
 have q1:=in_tk hlt
 have q2:=row_skip hlt
 have q3:=row_k hlt
 rw[trows_len]at q1
 rw[hend]at q2 q3
 have e6:decide ((endT s).k=6)=true:=rfl
 simp only [g15,go1,h1,oE,oP,encP,trows_len,q1,q2,q3,h2,size_tb,e6,Int.reduceEq]
end Go.Vm
end

section
set_option linter.all false
set_option maxRecDepth 100000
set_option maxHeartbeats 4000000
namespace Go.Vm
open Go.Proofs
theorem tb_app (a b:ByteArray):tb (a++b)=tb a++tb b:=by
 unfold tb
 rw[ByteArray.data_append,Array.toList_append,List.map_append]
theorem bs_sz (l:List UInt8):(bs l).size=l.length:=rfl
theorem sfT {a b:ByteArray}(h:a.size+b.size≤9223372036854775807):sy.sfit a b=true:=decide_eq_true h
theorem tb_bstr (c:Nat)(h:c < 256):tb (sy.bstr [[.int .u8 (c:Int)]])= [c]:=by
 show tb (bstrR [[.int .u8 (c:Int)]])= [c]
 unfold bstrR
 simp only [List.map_cons,List.map_nil,byN,Option.getD_some]
 unfold strOfNums
 show[(UInt8.ofNat (c:Int).toNat).toNat]= [c]
 rw[Int.toNat_natCast,UInt8.toNat_ofNat']
 simp;omega
theorem bstr_sz (c:Nat):(sy.bstr [[.int .u8 (c:Int)]]).size=1:=rfl
def tailD (q:Nat):List Nat:=if q=0 then[]else digN q
theorem digN_step (q:Nat)(h:0 < q):digN q=tailD (q / 10)++[48+q % 10]:=by
 rw[digN.eq_def]
 split
 ·rename_i h1
  unfold tailD
  rw[if_pos (by omega),Nat.mod_eq_of_lt h1];rfl
 ·unfold tailD
  rw[if_neg (by omega)]
theorem u64_id {a:Int}(h0:0≤a)(h:a < 18446744073709551616):IntKind.u64.wrap a=a:=by
 show a % _=a
 exact Int.emod_eq_of_lt h0 h
theorem u8_id {a:Int}(h0:0≤a)(h:a < 256):IntKind.u8.wrap a=a:=by
 show a % _=a
 exact Int.emod_eq_of_lt h0 h
theorem c_rDigits (n:Nat)(hn:n < 9223372036854775808): ∃s,cF 109 [.d (.int .i64 (n:Int))]=some (.val [.str s])∧tb s=digN n∧s.size≤100:=by
 have hx: ∃p,loopF (fun ds7=>
     (opI (sy.cell ds7 0) .i64).bind fun n8=>
     (opI (sy.cell ds7 1) .u64).bind fun n9=>
     (opS (sy.cell ds7 2)).bind fun s10=>
     cutO (
      bif (sy.ilt 0 n9)then some (.inl [(.bool true)])
      else some (.inl [(.bool (sy.seq s10 (bs [])))])) fun ds11=>
     (opB (sy.cell ds11 0)).bind fun b12=>
     bif b12 then
      bif (sy.bnot (sy.ieq 10 0))then
       bif (sy.isby [[(.int .u8 (sy.wrap .u8 (sy.wrap .u64 (sy.add 48 (sy.rem n9 10)))))]])then
        bif (sy.sfit (sy.bstr [[(.int .u8 (sy.wrap .u8 (sy.wrap .u64 (sy.add 48 (sy.rem n9 10)))))]]) s10)then
         bif (sy.bnot (sy.ieq 10 0))then
          some (.inl [(.int .i64 n8),(.int .u64 (sy.wrap .u64 (sy.quo n9 10))),(.str (sy.sapp (sy.bstr [[(.int .u8 (sy.wrap .u8 (sy.wrap .u64 (sy.add 48 (sy.rem n9 10)))))]]) s10))])
         else none
        else none
       else none
      else none
     else
      bif (sy.ilt n8 0)then
       bif (sy.sfit (bs [45]) s10)then some (.inr (PRes.val [(.str (sy.sapp (bs [45]) s10))]))else none
      else some (.inr (PRes.val [(.str s10)]))) [(.int .i64 (n:Int)),(.int .u64 (sy.wrap .u64 (n:Int))),(.str (bs []))]=some p∧ ∃s,p= .val [.str s]∧tb s=digN n∧s.size≤100:=by
  have e0:sy.wrap .u64 (n:Int)=(n:Int):=u64_id (by omega) (by omega)
  rw[e0]
  refine loopF_ex (fun x:Nat × ByteArray=>[.int .i64 (n:Int), .int .u64 (x.1:Int), .str x.2]) (fun x=>(x.2=bs []∧x.1=n∨0 < x.2.size∧digN n=tailD x.1++tb x.2)∧x.1 < 10 ^ (20 - x.2.size)∧x.2.size≤20) (fun x=>x.1*2+(if x.2.size=0 then 1 else 0)) (fun x hx=> ?_) (n,bs []) ⟨.inl ⟨rfl,rfl⟩,by show n < 10 ^ 20;omega,by show 0≤20;omega⟩
  obtain⟨q,s⟩:=x
  obtain⟨h1,h2,h3⟩:=hx
  simp only at h1 h2 h3 ⊢
  have hs0:(s.toList == (bs []).toList)=decide (s.size=0):=by
   rw[seq_tb]
   refine dec_iff ⟨fun h=> ?_,fun h=> ?_⟩
   ·have:=congrArg List.length h
    rw[tb_len]at this
    exact this
   ·exact List.length_eq_zero_iff.1 (by rw[tb_len];exact h)
  by_cases hq:0 < q∨s.size=0
  ·left
   have hqq:(q:Int) < 18446744073709551616:=by
    have:10 ^ (20 - s.size)≤10 ^ 20:=Nat.pow_le_pow_right (by omega) (by omega)
    have h20:(10:Nat) ^ 20=100000000000000000000:=by decide
    rcases h1 with⟨_,h⟩|⟨hp,_⟩
    ·omega
    ·have:10 ^ (20 - s.size)≤10 ^ 19:=Nat.pow_le_pow_right (by omega) (by omega)
     have h19:(10:Nat) ^ 19=10000000000000000000:=by decide
     omega
   have hr:sy.rem (q:Int) 10=((q % 10:Nat):Int):=by
    show Int.tmod (q:Int) 10=_
    rw[Int.tmod_eq_emod_of_nonneg (by omega)];omega
   have hd:sy.quo (q:Int) 10=((q / 10:Nat):Int):=by
    show Int.tdiv (q:Int) 10=_
    rw[Int.tdiv_eq_ediv_of_nonneg (by omega)];omega
   have hw:IntKind.u8.wrap (IntKind.u64.wrap (48+((q % 10:Nat):Int)))=((48+q % 10:Nat):Int):=by
    rw[u64_id (by omega) (by omega),u8_id (by omega) (by omega)];omega
   have hw2:IntKind.u64.wrap ((q / 10:Nat):Int)=((q / 10:Nat):Int):=u64_id (by omega) (by omega)
   have hby:sy.isby [[.int .u8 ((48+q % 10:Nat):Int)]]=true:=rfl
   have hsf:sy.sfit (sy.bstr [[.int .u8 ((48+q % 10:Nat):Int)]]) s=true:=sfT (by rw[bstr_sz];omega)
   have hb:(decide ((0:Int) < (q:Int)) || (s.toList == (bs []).toList))=true:=by
    rw[hs0]
    by_cases h:0 < q
    ·rw[decide_eq_true (by omega)];rfl
    ·rw[decide_eq_true (show s.size=0 by omega),Bool.or_true]
   refine⟨(q / 10,sy.bstr [[.int .u8 ((48+q % 10:Nat):Int)]]++s),?_,⟨.inr ⟨?_,?_⟩,?_,?_⟩,?_⟩
   ·simp only [go1]
    rw[hb]
    simp only [go1,show decide ((10:Int)=0)=false from rfl,hr,hd,hw,hw2,hby,hsf]
   ·show 0 < (sy.bstr [[.int .u8 ((48+q % 10:Nat):Int)]]++s).size
    rw[ByteArray.size_append,bstr_sz];omega
   ·show digN n=tailD (q / 10)++tb (sy.bstr [[.int .u8 ((48+q % 10:Nat):Int)]]++s)
    rw[tb_app,tb_bstr _ (by omega)]
    rcases h1 with⟨hs,hqn⟩|⟨hp,he⟩
    ·subst hs
     subst hqn
     show digN q=tailD (q / 10)++([48+q % 10]++[])
     rw[List.append_nil]
     by_cases h0:0 < q
     ·exact digN_step q h0
     ·have:q=0:=by omega
      subst this
      rw[digN.eq_def,dif_pos (by omega)];rfl
    ·have h0:0 < q:=by omega
     rw[he]
     show tailD q++tb s=_
     rw[show tailD q=digN q by unfold tailD;rw[if_neg (by omega)],digN_step q h0,List.append_assoc]
   ·show q / 10 < 10 ^ (20 - (sy.bstr [[.int .u8 ((48+q % 10:Nat):Int)]]++s).size)
    rw[ByteArray.size_append,bstr_sz]
    by_cases h20:s.size=20
    ·rw[h20]at h2
     have:q < 1:=h2
     have:q=0:=by omega
     omega
    ·have e:20 - s.size=(20 - (1+s.size))+1:=by omega
     rw[e,Nat.pow_succ]at h2
     omega
   ·show(sy.bstr [[.int .u8 ((48+q % 10:Nat):Int)]]++s).size≤20
    rw[ByteArray.size_append,bstr_sz]
    by_cases h20:s.size=20
    ·rw[h20]at h2
     have:q < 1:=h2
     omega
    ·omega
   ·show q / 10*2+(if(sy.bstr [[.int .u8 ((48+q % 10:Nat):Int)]]++s).size=0 then 1 else 0) < q*2+(if s.size=0 then 1 else 0)
    rw[ByteArray.size_append,bstr_sz,if_neg (by omega)]
    split<;>omega
  ·right
   have hb:(decide ((0:Int) < (q:Int)) || (s.toList == (bs []).toList))=false:=by
    rw[hs0,decide_eq_false (by omega: ¬(0:Int) < (q:Int)),decide_eq_false (by omega: ¬s.size=0)];rfl
   have hn0:decide ((n:Int) < 0)=false:=decide_eq_false (by omega)
   refine⟨.val [.str s],?_,s,rfl,?_,by omega⟩
   ·simp only [go1]
    rw[hb]
    simp only [go1,hn0]
   ·rcases h1 with⟨hs,_⟩|⟨hp,he⟩
    ·subst hs
     exact absurd (.inr rfl) hq
    ·have:q=0:=by omega
     subst this
     exact he.symm
 obtain⟨p,hp,s,rfl,h1,h2⟩:=hx
 refine⟨s,?_,h1,h2⟩
 have h0:decide ((n:Int) < 0)=false:=decide_eq_false (by omega)
 refine cOf (by kernel_rfl) rfl ?_
 rw[g109_eq]
 unfold g109
 rw[sy_ilt,h0]
 exact hp
theorem c_rSign (o:Nat)(h1:3≤o)(h2:o≤16):cF 76 [.d (.int .i64 (o:Int))]=some (.val [.str (signB o)]):=by
 refine cOf (by kernel_rfl) rfl ?_
 rw[g76_eq]
 match o,h1,h2 with
 |3,_,_|4,_,_|5,_,_|6,_,_|7,_,_|8,_,_|9,_,_|10,_,_|11,_,_|12,_,_|13,_,_|14,_,_|15,_,_|16,_,_=>rfl
 |o+17,_,h=>omega
theorem c_rOn (s a:ByteArray)(hs:s.size≤100000)(ha:a.size≤100000): ∃r,cF 77 [.d (.str s), .d (.str a)]=some (.val [.str r])∧tb r=render (onP s a)∧r.size≤300000:=by
 have e1:(a.toList == (bs [116,114,117,101]).toList)=decide (tb a=kTrue):=seq_tb _ _
 have e2:(a.toList == (bs [102,97,108,115,101]).toList)=decide (tb a=kFalse):=seq_tb _ _
 have s1:sy.sfit (bs [110,111,116,32]) s=true:=sfT (by simp only [bs_sz,List.length_cons,List.length_nil];omega)
 have s2:sy.sfit a (bs [40])=true:=sfT (by simp only [bs_sz,List.length_cons,List.length_nil];omega)
 have s3:sy.sfit (a++bs [40]) s=true:=sfT (by simp only [ByteArray.size_append,bs_sz,List.length_cons,List.length_nil];omega)
 have s4:sy.sfit (a++bs [40]++s) (bs [41])=true:=sfT (by simp only [ByteArray.size_append,bs_sz,List.length_cons,List.length_nil];omega)
 have core: ∃r,g77 sy eF s a=some (.val [.str r])∧tb r=render (onP s a)∧r.size≤300000:=by
  simp only [g77,go1,e1,e2,s1,s2,s3,s4]
  unfold onP
  by_cases h1:tb a=kTrue
  ·rw[if_pos h1,decide_eq_true h1]
   exact⟨s,rfl,(List.append_nil _).symm,by omega⟩
  ·rw[if_neg h1,decide_eq_false h1]
   by_cases h2:tb a=kFalse
   ·rw[if_pos h2,decide_eq_true h2]
    refine⟨_,rfl,?_,?_⟩
    ·rw[tb_app]
     show[110,111,116,32]++tb s=kNot++32::(tb s++[])
     rw[List.append_nil];rfl
    ·simp only [ByteArray.size_append,bs_sz,List.length_cons,List.length_nil];omega
   ·rw[if_neg h2,decide_eq_false h2]
    refine⟨_,rfl,?_,?_⟩
    ·rw[tb_app,tb_app,tb_app]
     have:T.w ⟨if highN (tb a)then 2 else 1,tb a,0⟩=tb a:=by
      unfold T.w
      rw[if_neg (by simp only;split<;>decide)]
     show tb a++[40]++tb s++[41]=T.w ⟨if highN (tb a)then 2 else 1,tb a,0⟩++([40]++(tb s++([41]++[])))
     rw[this]
     simp
    ·simp only [ByteArray.size_append,bs_sz,List.length_cons,List.length_nil];omega
 obtain⟨r,h1,h2⟩:=core
 exact⟨r,cOf (by kernel_rfl) rfl ((g77_eq _ _ _ _).trans h1),h2⟩
theorem c_rleaf (k n:Int)(s:ByteArray)(o:Int)(a u:List (List D))(h0:k=1→0≤n∧n < 9223372036854775808)(hs:s.size≤100000)(hk:k=1∨k=2∨k=3∨k=4∨k=17): ∃r,cF 80 [kE k n s o a u]=some (.val [.str r])∧tb r=render (leafP k n s)∧r.size≤300000:=by
 have s1:sy.sfit (bs [39]) s=true:=sfT (by simp only [bs_sz,List.length_cons,List.length_nil];omega)
 have s2:sy.sfit (bs [39]++s) (bs [39])=true:=sfT (by simp only [ByteArray.size_append,bs_sz,List.length_cons,List.length_nil];omega)
 have core: ∃r,g80 sy eF k n s o a u=some (.val [.str r])∧tb r=render (leafP k n s)∧r.size≤300000:=by
  rcases hk with rfl|rfl|rfl|rfl|rfl
  ·obtain⟨q1,q2⟩:=h0 rfl
   obtain⟨n,rfl⟩: ∃q:Nat,n=(q:Int):=⟨n.toNat,by omega⟩
   obtain⟨r,h1,h2,h3⟩:=c_rDigits n (by omega)
   refine⟨r,?_,?_,by omega⟩
   ·simp only [g80,go1,h1]
   ·rw[h2]
    show digN n=digN (n:Int).toNat++[]
    rw[List.append_nil,Int.toNat_natCast]
  ·simp only [g80,go1,show decide ((2:Int)=1)=false from rfl]
   by_cases hn:n=1
   ·rw[decide_eq_true hn]
    refine⟨_,rfl,?_,by decide⟩
    subst hn;rfl
   ·rw[decide_eq_false hn]
    refine⟨_,rfl,?_,by decide⟩
    unfold leafP
    rw[if_neg (by decide),if_pos rfl,if_neg hn];rfl
  ·exact⟨s,rfl,(List.append_nil _).symm,by omega⟩
  ·exact⟨s,rfl,(List.append_nil _).symm,by omega⟩
  ·simp only [g80,go1,show decide ((17:Int)=1)=false from rfl,show decide ((17:Int)=2)=false from rfl,s1,s2]
   refine⟨_,rfl,?_,?_⟩
   ·rw[tb_app,tb_app]
    show[39]++tb s++[39]=(39::(tb s++[39]))++[]
    simp
   ·simp only [ByteArray.size_append,bs_sz,List.length_cons,List.length_nil];omega
 obtain⟨r,h1,h2⟩:=core
 exact⟨r,cOf (by kernel_rfl) rfl ((g80_eq _ _ _ _ _ _ _ _).trans h1),h2⟩
def Txt (x:Ex):Prop:= ∀k n s o a u,x= .mk k n s o a u→ ∃r,cF 39 [kE k n s o (srows a) (Ex.rows u)]=some (.val [.str r])∧tb r=render (pcs x)∧r.size≤1000000*x.size
theorem render_seps: ∀(v:List Ex) (x:Ex),render (sepP (pcsL (v++[x])))=render (sepP (pcsL v))++[44,32]++render (pcs x)
 | [],x=>by
   show render ([mk 44,none]++pcs x++[])= []++[44,32]++render (pcs x)
   rw[List.append_nil];rfl
 |y::v,x=>by
  simp only [List.cons_append,pcsL,sepP,List.append_assoc,List.nil_append,render_app,render_seps v x]
  have: ∀z:Pc,render (mk 44::none::z)=44::32::render z:=fun z=>rfl
  simp only [this,render_app,render_seps v x,List.append_assoc,List.cons_append,List.nil_append]
theorem render_list (v:List Ex)(x:Ex)(h:v≠[]):render (listP (pcsL (v++[x])))=render (listP (pcsL v))++[44,32]++render (pcs x):=by
 match v,h with
 |y::v,_=>
  simp only [List.cons_append,pcsL,listP,render_app,render_seps v x,List.append_assoc]
theorem c_rlist (u:List Ex)(hz:Ex.sizes u≤1000)(hu: ∀x∈u,Txt x): ∃r,cF 79 [.d (.sl 6 (Ex.rows u))]=some (.val [.str r])∧tb r=render (listP (pcsL u))∧r.size≤1000002*Ex.sizes u:=by
 have hl:=sizes_len u
 have core: ∃p,g79 sy eF (Ex.rows u)=some p∧ ∃r,p= .val [.str r]∧tb r=render (listP (pcsL u))∧r.size≤1000002*Ex.sizes u:=by
  unfold g79
  refine loopF_ex (fun x:Nat × ByteArray=>[.sl 6 (Ex.rows u), .str x.2, .int .i64 (x.1:Int)]) (fun x=>x.1≤u.length∧tb x.2=render (listP (pcsL (u.take x.1)))∧x.2.size≤1000002*Ex.sizes (u.take x.1)) (fun x=>u.length - x.1) (fun x hx=> ?_) (0,bs []) ⟨Nat.zero_le _,by simp [listP,pcsL,render,tb_bs],by show 0≤_;omega⟩
  obtain⟨i,s⟩:=x
  obtain⟨h1,h2,h3⟩:=hx
  simp only at h1 h2 h3 ⊢
  by_cases hlt:i < u.length
  ·left
   have hx:=List.getElem?_eq_getElem hlt
   have ht:=hu u[i] (List.getElem_mem hlt)
   have htk:u.take (i+1)=u.take i++[u[i]]:=by rw[List.take_add_one,hx];rfl
   have hszs:Ex.sizes (u.take (i+1))≤Ex.sizes u:=by
    have:=sizes_app (u.take (i+1)) (u.drop (i+1))
    rw[List.take_append_drop]at this
    omega
   rw[htk,sizes_snoc]at hszs
   have he1:1≤u[i].size:=by
    cases hh:u[i]with
    |mk=>simp [Ex.size]
   generalize u[i]=e at hx ht htk hszs he1
   have hr:=xrow hx
   obtain⟨k2,n2,s2,o2,a2,u2⟩:=e
   obtain⟨t,h4,h5,h6⟩:=ht k2 n2 s2 o2 a2 u2 rfl
   have w1:IntKind.i64.wrap ((i:Int)+1)=((i+1:Nat):Int):=by rw[wrap_id (by omega) (by omega)];omega
   by_cases hi0:i=0
   ·subst hi0
    have hs0:s.size=0:=by
     have:Ex.sizes (u.take 0)=0:=by simp [Ex.sizes]
     omega
    refine⟨(1,s++t),?_,⟨hlt,?_,?_⟩,by simp only;omega⟩
    ·have sf:sy.sfit s t=true:=sfT (by omega)
     have l0:decide ((0:Int) < (u.length:Int))=true:=ilt_at hlt
     have i0:decide ((0:Int)≤0∧(0:Int) < (u.length:Int))=true:=inr_at hlt
     have hr:sy.row (Ex.rows u) 0=_:=hr
     have w1:IntKind.i64.wrap ((0:Int)+1)=((1:Nat):Int):=w1
     simp only [go1,rows_len,l0,i0,hr,Ex.row,oE,h4,Int.reduceLT,show((0:Nat):Int)=0 from rfl,Int.lt_irrefl,decide_false,sf,w1]
    ·simp only
     rw[tb_app,h2,h5,htk]
     simp [listP,pcsL,sepP,render]
    ·simp only
     rw[htk,sizes_snoc,ByteArray.size_append]
     omega
   ·have hne:u.take i≠[]:=by
     intro h
     have:=congrArg List.length h
     rw[List.length_take,List.length_nil]at this
     omega
    refine⟨(i+1,s++bs [44,32]++t),?_,⟨hlt,?_,?_⟩,by simp only;omega⟩
    ·have sf:sy.sfit s (bs [44,32])=true:=sfT (by simp only [bs_sz,List.length_cons,List.length_nil];omega)
     have sf2:sy.sfit (s++bs [44,32]) t=true:=sfT (by simp only [ByteArray.size_append,bs_sz,List.length_cons,List.length_nil];omega)
     have l0:=ilt_at hlt
     have i0:=inr_at hlt
     have z0:decide ((0:Int) < (i:Int))=true:=decide_eq_true (by omega)
     simp only [go1,rows_len,l0,i0,hr,Ex.row,oE,h4,z0,sf,sf2,w1]
    ·simp only
     rw[tb_app,tb_app,h2,h5,htk,render_list _ _ hne]
     rfl
    ·simp only
     rw[htk,sizes_snoc,ByteArray.size_append,ByteArray.size_append,bs_sz]
     simp only [List.length_cons,List.length_nil]
     omega
  ·right
   have:i=u.length:=by omega
   subst this
   rw[List.take_length]at h2 h3
   refine⟨_,?_,s,rfl,h2,h3⟩
   simp only [go1,rows_len,ilt_self]
 obtain⟨p,h1,r,rfl,h2⟩:=core
 exact⟨r,cOf (by kernel_rfl) rfl ((g79_eq _ _ _).trans h1),h2⟩
end Go.Vm
end

section
set_option linter.all false
set_option maxRecDepth 100000
set_option maxHeartbeats 4000000
namespace Go.Vm
open Go.Proofs
theorem rows_take (u:List Ex)(i:Nat):(Ex.rows u).take i=Ex.rows (u.take i):=by
 induction u generalizing i with
 |nil=>simp [Ex.rows]
 |cons e u ih=>
  cases i with
  |zero=>rfl
  |succ i=>simp only [Ex.rows,List.take_succ_cons,ih]
theorem cut0 (u:List Ex)(i:Nat):sy.cut (Ex.rows u) 0 (i:Int)=Ex.rows (u.take i):=by
 show((Ex.rows u).take (i:Int).toNat).drop (0:Int).toNat=_
 rw[Int.toNat_natCast,rows_take];rfl
theorem pcsL_snoc (x:Ex): ∀v:List Ex,pcsL (v++[x])=pcsL v++[pcs x]
 | []=>rfl
 |y::v=>by simp only [List.cons_append,pcsL,pcsL_snoc x v]
theorem c_rcall (n:Int)(s:ByteArray)(o:Int)(a:List ByteArray)(u:List Ex)(hz:Ex.sizes u≤1000)(hs:s.size≤100000)(hn:n=0∨n=1∧u≠[])(hu: ∀x∈u,Txt x): ∃r,cF 78 [kE 13 n s o (srows a) (Ex.rows u)]=some (.val [.str r])∧tb r=render (callP n s (pcsL u))∧r.size≤1000000*(Ex.sizes u+1):=by
 have hl:=sizes_len u
 have core: ∃r,g78 sy eF 13 n s o (srows a) (Ex.rows u)=some (.val [.str r])∧tb r=render (callP n s (pcsL u))∧r.size≤1000000*(Ex.sizes u+1):=by
  have f1:sy.sfit s (bs [40])=true:=sfT (by rw[bs_sz];simp only [List.length_cons,List.length_nil];omega)
  rcases hn with rfl|⟨rfl,hne⟩
  ·obtain⟨r,h1,h2,h3⟩:=c_rlist u hz hu
   have w0:IntKind.i64.wrap ((u.length:Int) - 0)=((u.length:Nat):Int):=by rw[wrap_id (by omega) (by omega)];omega
   have c0:decide ((0:Int)≤0∧(0:Int)≤(u.length:Int)∧(u.length:Int)≤(u.length:Int))=true:=decide_eq_true ⟨Int.le_refl _,by omega,Int.le_refl _⟩
   have c1:=cut0 u u.length
   rw[List.take_length]at c1
   have c1:((Ex.rows u).take (u.length:Int).toNat).drop (0:Int).toNat=Ex.rows u:=c1
   have f2:sy.sfit (s++bs [40]) r=true:=sfT (by simp only [ByteArray.size_append,bs_sz,List.length_cons,List.length_nil];omega)
   have f3:sy.sfit (s++bs [40]++r) (bs [41])=true:=sfT (by simp only [ByteArray.size_append,bs_sz,List.length_cons,List.length_nil];omega)
   refine⟨s++bs [40]++r++bs [41],?_,?_,?_⟩
   ·simp only [g78,go1,rows_len,f1,w0,c0,c1,h1,f2,f3,Int.reduceEq]
   ·have e:callP 0 s (pcsL u)= [wd (tb s),mk 40]++listP (pcsL u)++[mk 41]:=rfl
    rw[e]
    simp only [tb_app,h2,render_app]
    show tb s++[40]++render (listP (pcsL u))++[41]=tb s++[40]++render (listP (pcsL u))++[41]
    rfl
   ·simp only [ByteArray.size_append,bs_sz,List.length_cons,List.length_nil];omega
  ·obtain⟨v,x,rfl⟩: ∃v x,u=v++[x]:=⟨_,_,(List.dropLast_concat_getLast hne).symm⟩
   have hsz:=sizes_snoc x v
   have hx1:1≤x.size:=by cases x;simp [Ex.size]
   obtain⟨r,h1,h2,h3⟩:=c_rlist v (by omega) fun y hy=>hu y (by simp [hy])
   have hxt:=hu x (by simp)
   have hxr:(v++[x])[v.length]? =some x:=by simp
   have hr:=xrow hxr
   obtain⟨k2,n2,s2,o2,a2,u2⟩:=x
   obtain⟨t,h4,h5,h6⟩:=hxt k2 n2 s2 o2 a2 u2 rfl
   have hL:(v++[Ex.mk k2 n2 s2 o2 a2 u2]).length=v.length+1:=by simp
   rw[hL]at hl
   have w0:IntKind.i64.wrap (((v.length+1:Nat):Int) - 1)=(v.length:Int):=by rw[wrap_id (by omega) (by omega)];omega
   have c0:decide ((0:Int)≤0∧(0:Int)≤(v.length:Int)∧(v.length:Int)≤((v.length+1:Nat):Int))=true:=decide_eq_true ⟨Int.le_refl _,by omega,by omega⟩
   have c1:=cut0 (v++[Ex.mk k2 n2 s2 o2 a2 u2]) v.length
   rw[List.take_left]at c1
   have c1:((Ex.rows (v++[Ex.mk k2 n2 s2 o2 a2 u2])).take (v.length:Int).toNat).drop (0:Int).toNat=Ex.rows v:=c1
   have i0:decide ((0:Int)≤(v.length:Int)∧(v.length:Int) < ((v.length+1:Nat):Int))=true:=decide_eq_true ⟨by omega,by omega⟩
   have f2:sy.sfit (s++bs [40]) r=true:=sfT (by simp only [ByteArray.size_append,bs_sz,List.length_cons,List.length_nil];omega)
   have f3:sy.sfit (s++bs [40]++r) (bs [41])=true:=sfT (by simp only [ByteArray.size_append,bs_sz,List.length_cons,List.length_nil];omega)
   have f4:sy.sfit (bs [40]) (s++bs [40]++r++bs [41])=true:=sfT (by simp only [ByteArray.size_append,bs_sz,List.length_cons,List.length_nil];omega)
   have f5:sy.sfit (bs [40]++(s++bs [40]++r++bs [41])) (bs [32,101,118,101,114,121,32])=true:=sfT (by simp only [ByteArray.size_append,bs_sz,List.length_cons,List.length_nil];omega)
   have f6:sy.sfit (bs [40]++(s++bs [40]++r++bs [41])++bs [32,101,118,101,114,121,32]) t=true:=sfT (by simp only [ByteArray.size_append,bs_sz,List.length_cons,List.length_nil];omega)
   have f7:sy.sfit (bs [40]++(s++bs [40]++r++bs [41])++bs [32,101,118,101,114,121,32]++t) (bs [41])=true:=sfT (by simp only [ByteArray.size_append,bs_sz,List.length_cons,List.length_nil];omega)
   refine⟨bs [40]++(s++bs [40]++r++bs [41])++bs [32,101,118,101,114,121,32]++t++bs [41],?_,?_,?_⟩
   ·simp only [g78,go1,rows_len,hL,f1,w0,c0,c1,h1,f2,f3,f4,f5,i0,hr,Ex.row,h4,f6,f7]
   ·have e:callP 1 s (pcsL (v++[Ex.mk k2 n2 s2 o2 a2 u2]))= [mk 40,wd (tb s),mk 40]++listP (pcsL v)++[mk 41,none,wd kEvery,none]++pcs (Ex.mk k2 n2 s2 o2 a2 u2)++[mk 41]:=by
     rw[pcsL_snoc]
     show[mk 40,wd (tb s),mk 40]++listP ((pcsL v++[pcs (Ex.mk k2 n2 s2 o2 a2 u2)]).take ((pcsL v++[pcs (Ex.mk k2 n2 s2 o2 a2 u2)]).length - 1))++[mk 41,none,wd kEvery,none]++(pcsL v++[pcs (Ex.mk k2 n2 s2 o2 a2 u2)]).getD ((pcsL v++[pcs (Ex.mk k2 n2 s2 o2 a2 u2)]).length - 1) []++[mk 41]=_
     have t1:(pcsL v++[pcs (Ex.mk k2 n2 s2 o2 a2 u2)]).length - 1=(pcsL v).length:=by simp
     rw[t1,List.take_left,List.getD_eq_getElem?_getD,List.getElem?_concat_length]
     rfl
    rw[e]
    simp only [tb_app,h2,h5,render_app]
    have r1:render [mk 40,wd (tb s),mk 40]= [40]++(tb s++[40]):=rfl
    have r2:render [mk 41,none,wd kEvery,none]= [41]++[32,101,118,101,114,121,32]:=rfl
    have r3:render [mk 41]= [41]:=rfl
    have q1:tb (bs [40])= [40]:=rfl
    have q2:tb (bs [41])= [41]:=rfl
    have q3:tb (bs [32,101,118,101,114,121,32])= [32,101,118,101,114,121,32]:=rfl
    rw[r1,r2,r3,q1,q2,q3]
    simp only [List.append_assoc]
   ·simp only [ByteArray.size_append,bs_sz,List.length_cons,List.length_nil];omega
 obtain⟨r,h1,h2⟩:=core
 exact⟨r,cOf (by kernel_rfl) rfl ((g78_eq _ _ _ _ _ _ _ _).trans h1),h2⟩
def tot (ts:List ByteArray):Nat:=(ts.map ByteArray.size).sum
theorem tot_snoc (ts:List ByteArray)(t:ByteArray):tot (ts++[t])=tot ts+t.size:=by simp [tot]
structure TS' (u:List Ex) (ts:List ByteArray):Prop where
 m:ts.map tb=u.map fun x=>render (pcs x)
 z:tot ts≤1000000*Ex.sizes u
theorem TS'.l1 {x:Ex}{ts:List ByteArray}(h:TS' [x] ts): ∃t,ts= [t]∧tb t=render (pcs x)∧t.size≤1000000*x.size:=by
 have hl:ts.length=1:=by simpa using congrArg List.length h.m
 match ts,hl,h.m,h.z with
 | [t],_,m,z=>
   simp only [List.map_cons,List.map_nil,List.cons.injEq]at m
   simp [tot,Ex.sizes]at z
   exact⟨t,rfl,m.1,by omega⟩
theorem TS'.l2 {x y:Ex}{ts:List ByteArray}(h:TS' [x,y] ts): ∃t v,ts= [t,v]∧tb t=render (pcs x)∧tb v=render (pcs y)∧t.size+v.size≤1000000*(x.size+y.size):=by
 have hl:ts.length=2:=by simpa using congrArg List.length h.m
 match ts,hl,h.m,h.z with
 | [t,v],_,m,z=>
   simp only [List.map_cons,List.map_nil,List.cons.injEq]at m
   simp [tot,Ex.sizes]at z
   exact⟨t,v,rfl,m.1,m.2.1,by omega⟩
theorem TS'.l3 {x y z:Ex}{ts:List ByteArray}(h:TS' [x,y,z] ts): ∃t v w,ts= [t,v,w]∧tb t=render (pcs x)∧tb v=render (pcs y)∧tb w=render (pcs z)∧t.size+v.size+w.size≤1000000*(x.size+y.size+z.size):=by
 have hl:ts.length=3:=by simpa using congrArg List.length h.m
 match ts,hl,h.m,h.z with
 | [t,v,w],_,m,z=>
   simp only [List.map_cons,List.map_nil,List.cons.injEq]at m
   simp [tot,Ex.sizes]at z
   exact⟨t,v,w,rfl,m.1,m.2.1,m.2.2.1,by omega⟩
theorem merge_snoc (a:ByteArray)(x:Pc): ∀(ar:List ByteArray) (t:List Pc),ar.length=t.length→render (mergeP (ar++[a]) (t++[x]))=render (mergeP ar t)++[32,40]++tb a++[32,45,62,32]++render x++[41]
 | [],[],_=>by
   have hw:T.w ⟨if highN (tb a)then 2 else 1,tb a,0⟩=tb a:=by
    unfold T.w
    rw[if_neg (by simp only;split<;>decide)]
   have e:mergeP ([]++[a]) ([]++[x])= [none,mk 40,armP a,none,m2 45 62,none]++x++[mk 41]++mergeP [] []:=rfl
   have e2:mergeP [] []= []:=by unfold mergeP;rfl
   rw[e,e2]
   simp only [render_app,List.append_nil]
   have:render [none,mk 40,armP a,none,m2 45 62,none]= [32,40]++(T.w ⟨if highN (tb a)then 2 else 1,tb a,0⟩++[32,45,62,32]):=rfl
   rw[this,hw]
   show[32,40]++(tb a++[32,45,62,32])++render x++[41]= []++[32,40]++tb a++[32,45,62,32]++render x++[41]
   simp only [List.append_assoc,List.nil_append,List.append_nil]
 |b::ar,y::t,h=>by
  have ih:=merge_snoc a x ar t (by simpa using h)
  simp only [List.cons_append,mergeP]
  simp only [←List.cons_append,render_app,ih]
  simp only [List.append_assoc]
 | [],_::_,h=>by simp at h
 |_::_,[],h=>by simp at h
end Go.Vm
end

section
set_option linter.all false
set_option maxRecDepth 100000
set_option maxHeartbeats 4000000
namespace Go.Vm
open Go.Proofs
theorem c_rtext: ∀(m:Nat) (k n:Int) (s:ByteArray) (o:Int) (a:List ByteArray) (u:List Ex),(Ex.mk k n s o a u).size≤m→m≤1000→allB (.mk k n s o a u)=true→(Ex.mk k n s o a u).fine→(Ex.mk k n s o a u).rng→
  ∃r,cF 39 [kE k n s o (srows a) (Ex.rows u)]=some (.val [.str r])∧tb r=render (pcs (.mk k n s o a u))∧r.size≤1000000*(Ex.mk k n s o a u).size
 |0,k,n,s,o,a,u,h,_,_,_,_=>by simp only [Ex.size]at h;omega
 |m+1,k,n,s,o,a,u,h,hm,hall,hfine,hrng=>by
  have hz:Ex.sizes u≤m:=by simp only [Ex.size]at h;omega
  have hl:=sizes_len u
  obtain⟨⟨fs,fa,fal⟩,fu⟩:=hfine
  obtain⟨rn,ru⟩:=hrng
  simp only [allB,Bool.and_eq_true]at hall
  obtain⟨hpart,hu⟩:=hall
  have hT: ∀x∈u,Txt x:=fun x hx=>by
   rintro k2 n2 s2 o2 a2 u2 rfl
   obtain⟨i,hi⟩:=List.getElem?_of_mem hx
   have h1:=sizes_mem hi
   have h2:=fine_mem hi fu
   have h3:allB (.mk k2 n2 s2 o2 a2 u2)=true:=by
    have: ∀ {l:List Ex},allBs l=true→ ∀x∈l,allB x=true:=by
     intro l
     induction l with
     |nil=>intro _ x h;cases h
     |cons y l ih=>
      intro h x hx
      simp only [allBs,Bool.and_eq_true]at h
      rcases List.mem_cons.1 hx with rfl|hx
      ·exact h.1
      ·exact ih h.2 x hx
    exact this hu _ hx
   have h4:(Ex.mk k2 n2 s2 o2 a2 u2).rng:=by
    have: ∀ {l:List Ex},Ex.rngs l→ ∀x∈l,x.rng:=by
     intro l
     induction l with
     |nil=>intro _ x h;cases h
     |cons y l ih=>
      intro h x hx
      rcases List.mem_cons.1 hx with rfl|hx
      ·exact h.1
      ·exact ih h.2 x hx
    exact this ru _ hx
   exact c_rtext m k2 n2 s2 o2 a2 u2 (by omega) (by omega) h3 h2 h4
  have core: ∃p,g39 sy eF k n s o (srows a) (Ex.rows u)=some p∧ ∃r,p= .val [.str r]∧tb r=render (pcK k n s o a (pcsL u))∧r.size≤1000000*(Ex.sizes u+1):=by
   unfold g39
   refine loopF_ex (fun x:Nat × List ByteArray=>[.int .i64 (x.1:Int), .int .i64 k, .int .i64 n, .str s, .int .i64 o, .sl 1 (srows a), .sl 6 (Ex.rows u), .sl 1 (srows x.2)]) (fun x=>x.1≤u.length∧x.2.length=x.1∧TS' (u.take x.1) x.2) (fun x=>u.length - x.1) (fun x hx=> ?_) (0,[]) ⟨Nat.zero_le _,rfl,⟨by simp,by simp [tot]⟩⟩
   obtain⟨i,ts⟩:=x
   obtain⟨h1,hti,hts⟩:=hx
   simp only at h1 hti hts ⊢
   by_cases hlt:i < u.length
   ·left
    have hx:=List.getElem?_eq_getElem hlt
    have ht:=hT u[i] (List.getElem_mem hlt)
    have htk:u.take (i+1)=u.take i++[u[i]]:=by rw[List.take_add_one,hx];rfl
    generalize u[i]=e at hx ht htk
    have hr:=xrow hx
    obtain⟨k2,n2,s2,o2,a2,u2⟩:=e
    obtain⟨t,h4,h5,h6⟩:=ht k2 n2 s2 o2 a2 u2 rfl
    have w1:IntKind.i64.wrap ((i:Int)+1)=((i+1:Nat):Int):=by rw[wrap_id (by omega) (by omega)];omega
    have l0:=ilt_at hlt
    have i0:=inr_at hlt
    have fit:decide (((srows ts).length+[[D.str t]].length)*(16+1)≤140737488355328)=true:=decide_eq_true (by rw[srows_len];simp only [List.length_cons,List.length_nil];omega)
    refine⟨(i+1,ts++[t]),?_,⟨hlt,by simp [hti],?_,?_⟩,by simp only;omega⟩
    ·have e1:srows ts++[[D.str t]]=srows (ts++[t]):=by rw[←srows_app];rfl
     simp only [go1,rows_len,l0,i0,hr,Ex.row,oE,h4,fit,e1,w1]
    ·simp only
     rw[htk,List.map_append,List.map_append,hts.m]
     simp [h5]
    ·simp only
     rw[htk,tot_snoc,sizes_snoc]
     have:=hts.z
     omega
   ·right
    have:i=u.length:=by omega
    subst this
    rw[List.take_length]at hts
    have hpart0:=hpart
    unfold partB at hpart
    simp only [Bool.and_eq_true]at hpart
    obtain⟨hk,h1,h2,h3,h4,h5,h6,h7⟩:=hpart
    have h5:=of_decide_eq_true h5
    have h6:=of_decide_eq_true h6
    have l0:decide (((u.length:Nat):Int) < (u.length:Int))=false:=ilt_self _
    rcases kinds k hk with rfl|rfl|rfl|rfl|rfl|rfl|rfl|rfl|rfl|rfl|rfl|rfl|rfl|rfl|rfl|rfl|rfl
    · -- 1
      obtain⟨r,q1,q2,q3⟩:=c_rleaf 1 n s o (srows a) (Ex.rows u) (fun _=>⟨of_decide_eq_true h1,rn⟩) fs (by decide)
      refine⟨_,?_,r,rfl,q2,by omega⟩
      simp only [go1,oE,rows_len,l0,Int.reduceEq,q1]
    · -- 2
      obtain⟨r,q1,q2,q3⟩:=c_rleaf 2 n s o (srows a) (Ex.rows u) (fun h=>by cases h) fs (by decide)
      refine⟨_,?_,r,rfl,q2,by omega⟩
      simp only [go1,oE,rows_len,l0,Int.reduceEq,q1]
    · -- 3
      obtain⟨r,q1,q2,q3⟩:=c_rleaf 3 n s o (srows a) (Ex.rows u) (fun h=>by cases h) fs (by decide)
      refine⟨_,?_,r,rfl,q2,by omega⟩
      simp only [go1,oE,rows_len,l0,Int.reduceEq,q1]
    · -- 4
      obtain⟨r,q1,q2,q3⟩:=c_rleaf 4 n s o (srows a) (Ex.rows u) (fun h=>by cases h) fs (by decide)
      refine⟨_,?_,r,rfl,q2,by omega⟩
      simp only [go1,oE,rows_len,l0,Int.reduceEq,q1]
    · -- 5
      have hlu:u.length=1:=by simp [hiB,loB]at h5 h6;omega
      match u,hlu,hts,l0 with
      | [x],_,hts,l0=>
        obtain⟨t,rfl,q0,hb⟩:=hts.l1
        simp only [Ex.sizes]at hz ⊢
        have c0:sy.cell (sy.rown (srows [t]) 0) 0=some (.str t):=rfl
        have c0':sy.cell (sy.rown (srows [t]) (Int.toNat 0)) 0=some (.str t):=rfl
        have i0:decide ((0:Int)≤0∧(0:Int) < ((srows [t]).length:Int))=true:=rfl
        by_cases ho:o=1
        ·subst ho
         refine⟨_,?_,bs [40,45]++t++bs [41],rfl,?_,?_⟩
         ·simp (disch:=(simp only [ByteArray.size_append,bs_sz,List.length_cons,List.length_nil];omega)) only [go1,oE,rows_len,l0,sfT,Int.reduceEq,c0,c0',i0]
         ·show _=render ([mk 40,mk 45]++pcs x++[mk 41])
          simp only [tb_app,render_app,List.append_assoc,q0]
          rfl
         ·simp only [ByteArray.size_append,bs_sz,List.length_cons,List.length_nil]
          omega
        ·have e:pcK 5 n s o a (pcsL [x])= [mk 40,wd kNot,none]++pcs x++[mk 41]:=by unfold pcK;rw[if_pos rfl,if_neg ho];rfl
         rw[e]
         have ho:=decide_eq_false ho
         refine⟨_,?_,bs [40,110,111,116,32]++t++bs [41],rfl,?_,?_⟩
         ·simp (disch:=(simp only [ByteArray.size_append,bs_sz,List.length_cons,List.length_nil];omega)) only [go1,oE,rows_len,l0,sfT,Int.reduceEq,c0,c0',i0,ho]
         ·show _=render ([mk 40,wd kNot,none]++pcs x++[mk 41])
          simp only [tb_app,render_app,List.append_assoc,q0]
          rfl
         ·simp only [ByteArray.size_append,bs_sz,List.length_cons,List.length_nil]
          omega
    · -- 6
      have hlu:u.length=2:=by simp [hiB,loB]at h5 h6;omega
      match u,hlu,hts,l0 with
      | [x,y],_,hts,l0=>
        obtain⟨t,v,rfl,q0,q1,hb⟩:=hts.l2
        simp only [Ex.sizes]at hz ⊢
        have ho:3≤o∧o≤16:=by simpa [opB_]using h3
        obtain⟨o,rfl⟩: ∃q:Nat,o=(q:Int):=⟨o.toNat,by omega⟩
        have hsg:=c_rSign o (by omega) (by omega)
        have hss:(signB o).size≤3:=by
         have h1:3≤o:=by omega
         have h2:o≤16:=by omega
         match o,h1,h2 with
         |3,_,_|4,_,_|5,_,_|6,_,_|7,_,_|8,_,_|9,_,_|10,_,_|11,_,_|12,_,_|13,_,_|14,_,_|15,_,_|16,_,_=>decide
         |o+17,_,h=>omega
        have qx:render [none,opK o,none]= [32]++(tb (signB o)++[32]):=by
         show 32::(T.w ⟨if 7≤o∧o≤10 then 1 else 5,tb (signB o),0⟩++[32])=_
         unfold T.w
         rw[if_neg (by simp only;split<;>decide)]
         rfl
        have c0:sy.cell (sy.rown (srows [t,v]) 0) 0=some (.str t):=rfl
        have c0':sy.cell (sy.rown (srows [t,v]) (Int.toNat 0)) 0=some (.str t):=rfl
        have i0:decide ((0:Int)≤0∧(0:Int) < ((srows [t,v]).length:Int))=true:=rfl
        have c1:sy.cell (sy.rown (srows [t,v]) 1) 0=some (.str v):=rfl
        have c1':sy.cell (sy.rown (srows [t,v]) (Int.toNat 1)) 0=some (.str v):=rfl
        have i1:decide ((0:Int)≤1∧(1:Int) < ((srows [t,v]).length:Int))=true:=rfl
        refine⟨_,?_,bs [40]++t++bs [32]++signB o++bs [32]++v++bs [41],rfl,?_,?_⟩
        ·simp (disch:=(simp only [ByteArray.size_append,bs_sz,List.length_cons,List.length_nil];omega)) only [go1,oE,rows_len,l0,sfT,Int.reduceEq,c0,c0',i0,c1,c1',i1,hsg]
        ·show _=render ([mk 40]++pcs x++[none,opK o,none]++pcs y++[mk 41])
         simp only [tb_app,render_app,List.append_assoc,q0,q1,qx]
         rfl
        ·simp only [ByteArray.size_append,bs_sz,List.length_cons,List.length_nil]
         omega
    · -- 7
      have hlu:u.length=3:=by simp [hiB,loB]at h5 h6;omega
      match u,hlu,hts,l0 with
      | [x,y,z],_,hts,l0=>
        obtain⟨t,v,w,rfl,q0,q1,q2,hb⟩:=hts.l3
        simp only [Ex.sizes]at hz ⊢
        have c0:sy.cell (sy.rown (srows [t,v,w]) 0) 0=some (.str t):=rfl
        have c0':sy.cell (sy.rown (srows [t,v,w]) (Int.toNat 0)) 0=some (.str t):=rfl
        have i0:decide ((0:Int)≤0∧(0:Int) < ((srows [t,v,w]).length:Int))=true:=rfl
        have c1:sy.cell (sy.rown (srows [t,v,w]) 1) 0=some (.str v):=rfl
        have c1':sy.cell (sy.rown (srows [t,v,w]) (Int.toNat 1)) 0=some (.str v):=rfl
        have i1:decide ((0:Int)≤1∧(1:Int) < ((srows [t,v,w]).length:Int))=true:=rfl
        have c2:sy.cell (sy.rown (srows [t,v,w]) 2) 0=some (.str w):=rfl
        have c2':sy.cell (sy.rown (srows [t,v,w]) (Int.toNat 2)) 0=some (.str w):=rfl
        have i2:decide ((0:Int)≤2∧(2:Int) < ((srows [t,v,w]).length:Int))=true:=rfl
        refine⟨_,?_,bs [40,105,102,32]++t++bs [32,116,104,101,110,32]++v++bs [32,101,108,115,101,32]++w++bs [41],rfl,?_,?_⟩
        ·simp (disch:=(simp only [ByteArray.size_append,bs_sz,List.length_cons,List.length_nil];omega)) only [go1,oE,rows_len,l0,sfT,Int.reduceEq,c0,c0',i0,c1,c1',i1,c2,c2',i2]
        ·show _=render ([mk 40,wd kIf,none]++pcs x++[none,wd kThen,none]++pcs y++[none,wd kElse,none]++pcs z++[mk 41])
         simp only [tb_app,render_app,List.append_assoc,q0,q1,q2]
         rfl
        ·simp only [ByteArray.size_append,bs_sz,List.length_cons,List.length_nil]
         omega
    · -- 8
      have hlu:u.length=2:=by simp [hiB,loB]at h5 h6;omega
      match u,hlu,hts,l0 with
      | [x,y],_,hts,l0=>
        obtain⟨t,v,rfl,q0,q1,hb⟩:=hts.l2
        simp only [Ex.sizes]at hz ⊢
        have c0:sy.cell (sy.rown (srows [t,v]) 0) 0=some (.str t):=rfl
        have c0':sy.cell (sy.rown (srows [t,v]) (Int.toNat 0)) 0=some (.str t):=rfl
        have i0:decide ((0:Int)≤0∧(0:Int) < ((srows [t,v]).length:Int))=true:=rfl
        have c1:sy.cell (sy.rown (srows [t,v]) 1) 0=some (.str v):=rfl
        have c1':sy.cell (sy.rown (srows [t,v]) (Int.toNat 1)) 0=some (.str v):=rfl
        have i1:decide ((0:Int)≤1∧(1:Int) < ((srows [t,v]).length:Int))=true:=rfl
        refine⟨_,?_,bs [40]++t++bs [32,102,98,121,32]++v++bs [41],rfl,?_,?_⟩
        ·simp (disch:=(simp only [ByteArray.size_append,bs_sz,List.length_cons,List.length_nil];omega)) only [go1,oE,rows_len,l0,sfT,Int.reduceEq,c0,c0',i0,c1,c1',i1]
        ·show _=render ([mk 40]++pcs x++[none,wd kFby,none]++pcs y++[mk 41])
         simp only [tb_app,render_app,List.append_assoc,q0,q1]
         rfl
        ·simp only [ByteArray.size_append,bs_sz,List.length_cons,List.length_nil]
         omega
    · -- 9
      have hlu:u.length=2:=by simp [hiB,loB]at h5 h6;omega
      match u,hlu,hts,l0 with
      | [x,y],_,hts,l0=>
        obtain⟨t,v,rfl,q0,q1,hb⟩:=hts.l2
        simp only [Ex.sizes]at hz ⊢
        have c0:sy.cell (sy.rown (srows [t,v]) 0) 0=some (.str t):=rfl
        have c0':sy.cell (sy.rown (srows [t,v]) (Int.toNat 0)) 0=some (.str t):=rfl
        have i0:decide ((0:Int)≤0∧(0:Int) < ((srows [t,v]).length:Int))=true:=rfl
        have c1:sy.cell (sy.rown (srows [t,v]) 1) 0=some (.str v):=rfl
        have c1':sy.cell (sy.rown (srows [t,v]) (Int.toNat 1)) 0=some (.str v):=rfl
        have i1:decide ((0:Int)≤1∧(1:Int) < ((srows [t,v]).length:Int))=true:=rfl
        refine⟨_,?_,bs [40]++t++bs [32,45,62,32]++v++bs [41],rfl,?_,?_⟩
        ·simp (disch:=(simp only [ByteArray.size_append,bs_sz,List.length_cons,List.length_nil];omega)) only [go1,oE,rows_len,l0,sfT,Int.reduceEq,c0,c0',i0,c1,c1',i1]
        ·show _=render ([mk 40]++pcs x++[none,m2 45 62,none]++pcs y++[mk 41])
         simp only [tb_app,render_app,List.append_assoc,q0,q1]
         rfl
        ·simp only [ByteArray.size_append,bs_sz,List.length_cons,List.length_nil]
         omega
    · -- 10
      have hlu:u.length=1:=by simp [hiB,loB]at h5 h6;omega
      match u,hlu,hts,l0 with
      | [x],_,hts,l0=>
        obtain⟨t,rfl,q0,hb⟩:=hts.l1
        simp only [Ex.sizes]at hz ⊢
        have c0:sy.cell (sy.rown (srows [t]) 0) 0=some (.str t):=rfl
        have c0':sy.cell (sy.rown (srows [t]) (Int.toNat 0)) 0=some (.str t):=rfl
        have i0:decide ((0:Int)≤0∧(0:Int) < ((srows [t]).length:Int))=true:=rfl
        refine⟨_,?_,bs [40,112,114,101,32]++t++bs [41],rfl,?_,?_⟩
        ·simp (disch:=(simp only [ByteArray.size_append,bs_sz,List.length_cons,List.length_nil];omega)) only [go1,oE,rows_len,l0,sfT,Int.reduceEq,c0,c0',i0]
        ·show _=render ([mk 40,wd kPre,none]++pcs x++[mk 41])
         simp only [tb_app,render_app,List.append_assoc,q0]
         rfl
        ·simp only [ByteArray.size_append,bs_sz,List.length_cons,List.length_nil]
         omega
    · -- 11
      have hlu:u.length=1:=by simp [hiB,loB]at h5 h6;omega
      match u,hlu,hts,l0 with
      | [x],_,hts,l0=>
        obtain⟨t,rfl,q0,hb⟩:=hts.l1
        simp only [Ex.sizes]at hz ⊢
        have hla:a.length=1:=by
         unfold armsB at h4
         simp only [Bool.and_eq_true]at h4
         exact of_decide_eq_true h4.2
        obtain⟨ar,rfl⟩: ∃ar,a= [ar]:=List.length_eq_one_iff.1 hla
        obtain⟨g,g1,qx,g3⟩:=c_rOn s ar fs (fa ar (by simp))
        have ca:sy.cell (sy.row (srows [ar]) 0) 0=some (.str ar):=rfl
        have ia:decide ((0:Int)≤0∧(0:Int) < ((srows [ar]).length:Int))=true:=rfl
        have c0:sy.cell (sy.rown (srows [t]) 0) 0=some (.str t):=rfl
        have c0':sy.cell (sy.rown (srows [t]) (Int.toNat 0)) 0=some (.str t):=rfl
        have i0:decide ((0:Int)≤0∧(0:Int) < ((srows [t]).length:Int))=true:=rfl
        refine⟨_,?_,bs [40]++t++bs [32,119,104,101,110,32]++g++bs [41],rfl,?_,?_⟩
        ·simp (disch:=(simp only [ByteArray.size_append,bs_sz,List.length_cons,List.length_nil];omega)) only [go1,oE,rows_len,l0,sfT,Int.reduceEq,c0,c0',i0,ca,ia,g1]
        ·show _=render ([mk 40]++pcs x++[none,wd kWhen,none]++onP s ar++[mk 41])
         simp only [tb_app,render_app,List.append_assoc,q0,qx]
         rfl
        ·simp only [ByteArray.size_append,bs_sz,List.length_cons,List.length_nil]
         omega
    · -- 12
      have hla:a.length=u.length:=by simp [hiB,loB]at h5 h6;omega
      have f0:sy.sfit (bs [40,109,101,114,103,101,32]) s=true:=sfT (by simp only [ByteArray.size_append,bs_sz,List.length_cons,List.length_nil];omega)
      have tl:ts.length=u.length:=by simpa using congrArg List.length hts.m
      have k12: ∃p,loopF (fun ds39=>
        (opS (sy.cell ds39 0)).bind fun s40=>
        (opI (sy.cell ds39 1) .i64).bind fun n41=>
        oE sy ds39 2 fun n42 n43 s44 n45 l46 l47=>
        (opL (sy.cell ds39 8) 1).bind fun l48=>
        bif (sy.ilt n41 (sy.rlen l48))then
         bif (sy.sfit s40 (bs [32,40]))then
          bif (sy.inr n41 (sy.rlen l46))then
           (opS (sy.cell (sy.row l46 n41) 0)).bind fun s49=>
           bif (sy.sfit (sy.sapp s40 (bs [32,40])) s49)then
            bif (sy.sfit (sy.sapp (sy.sapp s40 (bs [32,40])) s49) (bs [32,45,62,32]))then
             bif (sy.inr n41 (sy.rlen l48))then
              (opS (sy.cell (sy.rown l48 (sy.nat n41)) 0)).bind fun s50=>
              bif (sy.sfit (sy.sapp (sy.sapp (sy.sapp s40 (bs [32,40])) s49) (bs [32,45,62,32])) s50)then
               bif (sy.sfit (sy.sapp (sy.sapp (sy.sapp (sy.sapp s40 (bs [32,40])) s49) (bs [32,45,62,32])) s50) (bs [41]))then
                some (.inl [(.str (sy.sapp (sy.sapp (sy.sapp (sy.sapp (sy.sapp s40 (bs [32,40])) s49) (bs [32,45,62,32])) s50) (bs [41]))),(.int .i64 (sy.wrap .i64 (sy.add n41 1))),(.int .i64 n42),(.int .i64 n43),(.str s44),(.int .i64 n45),(.sl 1 l46),(.sl 6 l47),(.sl 1 l48)])
               else
                none
              else
               none
             else
              none
            else
             none
           else
            none
          else
           none
         else
          none
        else
         bif (sy.sfit s40 (bs [41]))then
          some (.inr ((.inr (PRes.val [(.str (sy.sapp s40 (bs [41])))])):List D ⊕ PRes))
         else
          none
       ) [(.str (sy.sapp (bs [40,109,101,114,103,101,32]) s)),(.int .i64 0),(.int .i64 12),(.int .i64 n),(.str s),(.int .i64 o),(.sl 1 (srows a)),(.sl 6 (Ex.rows u)),(.sl 1 (srows ts))]=some p∧ ∃r,p= .inr (.val [.str r])∧tb r=render (pcK 12 n s o a (pcsL u))∧r.size≤1000000*(Ex.sizes u+1):=by
       refine loopF_ex (fun x:Nat × ByteArray=>[.str x.2, .int .i64 (x.1:Int), .int .i64 12, .int .i64 n, .str s, .int .i64 o, .sl 1 (srows a), .sl 6 (Ex.rows u), .sl 1 (srows ts)]) (fun x=>x.1≤u.length∧tb x.2= [40,109,101,114,103,101,32]++tb s++render (mergeP (a.take x.1) (pcsL (u.take x.1)))∧x.2.size≤100007+tot (ts.take x.1)+100010*x.1) (fun x=>u.length - x.1) (fun x hx=> ?_) (0,bs [40,109,101,114,103,101,32]++s) ⟨Nat.zero_le _,?_,?_⟩
       ·obtain⟨i,r⟩:=x
        obtain⟨g1,g2,g3⟩:=hx
        simp only at g1 g2 g3 ⊢
        by_cases hlt:i < u.length
        ·left
         have hla':i < a.length:=by omega
         have hlt':i < ts.length:=by omega
         have ha:=List.getElem?_eq_getElem hla'
         have ht:=List.getElem?_eq_getElem hlt'
         have hx:=List.getElem?_eq_getElem hlt
         have htx:tb ts[i]=render (pcs u[i]):=by
          have:=congrArg (fun l=>l[i]?) hts.m
          simp only [List.getElem?_map,ht,hx,Option.map_some,Option.some.injEq]at this
          exact this
         have az:a[i].size≤100000:=fa _ (List.getElem_mem hla')
         have tk1:ts.take (i+1)=ts.take i++[ts[i]]:=by rw[List.take_add_one,ht];rfl
         have tk2:a.take (i+1)=a.take i++[a[i]]:=by rw[List.take_add_one,ha];rfl
         have tk3:u.take (i+1)=u.take i++[u[i]]:=by rw[List.take_add_one,hx];rfl
         have tz:tot (ts.take i)+ts[i].size≤tot ts:=by
          have e:tot ts=tot (ts.take (i+1))+tot (ts.drop (i+1)):=by
           unfold tot
           rw[←List.sum_append,←List.map_append,List.take_append_drop]
          rw[tk1,tot_snoc]at e
          omega
         have ttz:=hts.z
         generalize a[i]=aa at ha az tk2
         generalize ts[i]=tt at ht htx tk1 tz
         generalize u[i]=xx at hx htx tk3
         have ca:=srows_at ha
         have ct:sy.cell (sy.rown (srows ts) i) 0=some (.str tt):=by
          show sy.cell ((srows ts).getD i []) 0=_
          rw[List.getD_eq_getElem?_getD]
          simp [srows,srow,ht]
          rfl
         have w1:IntKind.i64.wrap ((i:Int)+1)=((i+1:Nat):Int):=by rw[wrap_id (by omega) (by omega)];omega
         have l1:decide ((i:Int) < (ts.length:Int))=true:=ilt_at hlt'
         have i1:decide ((0:Int)≤(i:Int)∧(i:Int) < (ts.length:Int))=true:=inr_at hlt'
         have i2:decide ((0:Int)≤(i:Int)∧(i:Int) < (a.length:Int))=true:=inr_at hla'
         refine⟨(i+1,r++bs [32,40]++aa++bs [32,45,62,32]++tt++bs [41]),?_,⟨hlt,?_,?_⟩,by simp only;omega⟩
         ·simp (disch:=(simp only [ByteArray.size_append,bs_sz,List.length_cons,List.length_nil];omega)) only [go1,oE,srows_len,l1,i1,i2,ca,ct,w1,sfT,Int.toNat_natCast]
         ·simp only
          rw[tk2,tk3,pcsL_snoc,merge_snoc _ _ _ _ (by rw[pcsL_len,List.length_take,List.length_take];omega)]
          simp only [tb_app,g2,htx,List.append_assoc]
          rfl
         ·simp only
          rw[tk1,tot_snoc]
          simp only [ByteArray.size_append,bs_sz,List.length_cons,List.length_nil]
          omega
        ·right
         have:i=u.length:=by omega
         subst this
         have l1:decide (((u.length:Nat):Int) < (ts.length:Int))=false:=by rw[tl];exact ilt_self _
         have ttz:=hts.z
         rw[←tl,List.take_length]at g3
         rw[←hla,List.take_length,hla,List.take_length]at g2
         refine⟨_,?_,r++bs [41],rfl,?_,?_⟩
         ·simp (disch:=(simp only [ByteArray.size_append,bs_sz,List.length_cons,List.length_nil];omega)) only [go1,oE,srows_len,l1,sfT]
         ·show _=render ([mk 40,wd kMerge,none,wd (tb s)]++mergeP a (pcsL u)++[mk 41])
          simp only [tb_app,g2,render_app,List.append_assoc]
          have:render [mk 40,wd kMerge,none,wd (tb s)]= [40,109,101,114,103,101,32]++(tb s++[]):=rfl
          rw[this]
          simp only [List.append_assoc,List.append_nil]
          rfl
         ·simp only [ByteArray.size_append,bs_sz,List.length_cons,List.length_nil]
          have:1≤a.length:=by
           unfold armsB at h4
           simp only [Bool.and_eq_true]at h4
           have:=h4.2
           simp only [show decide ((12:Int)=11)=false from rfl,cond_false,decide_true,cond_true,Bool.and_eq_true]at this
           exact of_decide_eq_true this.1
          have:u.length≤6:=by
           unfold armsB at h4
           simp only [Bool.and_eq_true]at h4
           have:=h4.2
           simp only [show decide ((12:Int)=11)=false from rfl,cond_false,decide_true,cond_true,Bool.and_eq_true]at this
           have:=of_decide_eq_true this.2.1
           omega
          omega
       ·show tb (bs [40,109,101,114,103,101,32]++s)=_++_++render (mergeP (a.take 0) (pcsL (u.take 0)))
        have:mergeP (a.take 0) (pcsL (u.take 0))= []:=by unfold mergeP;rfl
        rw[this,tb_app]
        simp only [render,List.append_nil]
        rfl
       ·show(bs [40,109,101,114,103,101,32]++s).size≤_
        simp only [ByteArray.size_append,bs_sz,List.length_cons,List.length_nil]
        omega
      obtain⟨p,g1,r,rfl,g2,g3⟩:=k12
      refine⟨_,?_,r,rfl,g2,g3⟩
      simp only [go1,oE,rows_len,l0,Int.reduceEq,f0]
      simp only [sy_sapp]at g1
      first|exact g1|(simp only [go1,oE]at g1;exact g1)
    · -- 13
      have hn:n=0∨n=1:=by simpa [numB]using h1
      obtain⟨r,q1,q2,q3⟩:=c_rcall n s o a u (by omega) fs (by
       rcases hn with rfl|rfl
       ·exact .inl rfl
       ·refine .inr ⟨rfl,?_⟩
        rintro rfl
        simp [loB]at h5) hT
      refine⟨_,?_,r,rfl,q2,q3⟩
      simp only [go1,oE,rows_len,l0,Int.reduceEq,q1]
    · -- 14
      obtain⟨r,q1,q2,q3⟩:=c_rlist u (by omega) hT
      refine⟨_,?_,bs [91]++r++bs [93],rfl,?_,?_⟩
      ·simp (disch:=(simp only [ByteArray.size_append,bs_sz,List.length_cons,List.length_nil];omega)) only [go1,oE,rows_len,l0,Int.reduceEq,q1,sfT]
      ·show _=render ([mk 91]++listP (pcsL u)++[mk 93])
       simp only [tb_app,render_app,List.append_assoc,q2]
       rfl
      ·simp only [ByteArray.size_append,bs_sz,List.length_cons,List.length_nil]
       omega
    · -- 15
      have hlu:u.length=2:=by simp [hiB,loB]at h5 h6;omega
      match u,hlu,hts,l0 with
      | [x,y],_,hts,l0=>
        obtain⟨t,v,rfl,q0,q1,hb⟩:=hts.l2
        simp only [Ex.sizes]at hz ⊢
        have c0:sy.cell (sy.rown (srows [t,v]) 0) 0=some (.str t):=rfl
        have c0':sy.cell (sy.rown (srows [t,v]) (Int.toNat 0)) 0=some (.str t):=rfl
        have i0:decide ((0:Int)≤0∧(0:Int) < ((srows [t,v]).length:Int))=true:=rfl
        have c1:sy.cell (sy.rown (srows [t,v]) 1) 0=some (.str v):=rfl
        have c1':sy.cell (sy.rown (srows [t,v]) (Int.toNat 1)) 0=some (.str v):=rfl
        have i1:decide ((0:Int)≤1∧(1:Int) < ((srows [t,v]).length:Int))=true:=rfl
        refine⟨_,?_,t++bs [91]++v++bs [93],rfl,?_,?_⟩
        ·simp (disch:=(simp only [ByteArray.size_append,bs_sz,List.length_cons,List.length_nil];omega)) only [go1,oE,rows_len,l0,sfT,Int.reduceEq,c0,c0',i0,c1,c1',i1]
        ·show _=render (pcs x++[mk 91]++pcs y++[mk 93])
         simp only [tb_app,render_app,List.append_assoc,q0,q1]
         rfl
        ·simp only [ByteArray.size_append,bs_sz,List.length_cons,List.length_nil]
         omega
    · -- 16
      have hlu:u.length=3:=by simp [hiB,loB]at h5 h6;omega
      match u,hlu,hts,l0 with
      | [x,y,z],_,hts,l0=>
        obtain⟨t,v,w,rfl,q0,q1,q2,hb⟩:=hts.l3
        simp only [Ex.sizes]at hz ⊢
        have c0:sy.cell (sy.rown (srows [t,v,w]) 0) 0=some (.str t):=rfl
        have c0':sy.cell (sy.rown (srows [t,v,w]) (Int.toNat 0)) 0=some (.str t):=rfl
        have i0:decide ((0:Int)≤0∧(0:Int) < ((srows [t,v,w]).length:Int))=true:=rfl
        have c1:sy.cell (sy.rown (srows [t,v,w]) 1) 0=some (.str v):=rfl
        have c1':sy.cell (sy.rown (srows [t,v,w]) (Int.toNat 1)) 0=some (.str v):=rfl
        have i1:decide ((0:Int)≤1∧(1:Int) < ((srows [t,v,w]).length:Int))=true:=rfl
        have c2:sy.cell (sy.rown (srows [t,v,w]) 2) 0=some (.str w):=rfl
        have c2':sy.cell (sy.rown (srows [t,v,w]) (Int.toNat 2)) 0=some (.str w):=rfl
        have i2:decide ((0:Int)≤2∧(2:Int) < ((srows [t,v,w]).length:Int))=true:=rfl
        refine⟨_,?_,bs [40]++t++bs [32,119,105,116,104,32,91]++v++bs [93,32,61,32]++w++bs [41],rfl,?_,?_⟩
        ·simp (disch:=(simp only [ByteArray.size_append,bs_sz,List.length_cons,List.length_nil];omega)) only [go1,oE,rows_len,l0,sfT,Int.reduceEq,c0,c0',i0,c1,c1',i1,c2,c2',i2]
        ·show _=render ([mk 40]++pcs x++[none,wd kWith,none,mk 91]++pcs y++[mk 93,none,mk 61,none]++pcs z++[mk 41])
         simp only [tb_app,render_app,List.append_assoc,q0,q1,q2]
         rfl
        ·simp only [ByteArray.size_append,bs_sz,List.length_cons,List.length_nil]
         omega
    · -- 17
      obtain⟨r,q1,q2,q3⟩:=c_rleaf 17 n s o (srows a) (Ex.rows u) (fun h=>by cases h) fs (by decide)
      refine⟨_,?_,r,rfl,q2,by omega⟩
      simp only [go1,oE,rows_len,l0,Int.reduceEq,q1]
  obtain⟨p,h1,r,rfl,h2,h3⟩:=core
  refine⟨r,cOf (by kernel_rfl) rfl ((g39_eq _ _ _ _ _ _ _ _).trans h1),by rw[pcs];exact h2,?_⟩
  simp only [Ex.size]
  exact h3
end Go.Vm
end

section
set_option linter.all false
set_option maxRecDepth 100000
set_option maxHeartbeats 4000000
namespace Go.Vm
open Go.Proofs
theorem take_len_sizes (u:List Ex)(i:Nat)(h:i≤u.length):i≤Ex.sizes (u.take i):=by
 have:=sizes_len (u.take i)
 rw[List.length_take]at this
 omega
theorem c_rcount: ∀(m:Nat) (k n:Int) (s:ByteArray) (o:Int) (a:List ByteArray) (u:List Ex) (left:Nat),(Ex.mk k n s o a u).size≤m→left≤200→
  ∃r:Nat,cF 33 [kE k n s o (srows a) (Ex.rows u), .d (.int .i64 (left:Int))]=some (.val [.int .i64 (r:Int)])∧r≤left∧(0 < r→(Ex.mk k n s o a u).size+r=left)
 |0,k,n,s,o,a,u,left,h,_=>by simp only [Ex.size]at h;omega
 |m+1,k,n,s,o,a,u,left,h,hleft=>by
  have hz:Ex.sizes u≤m:=by simp only [Ex.size]at h;omega
  have core: ∃p,g33 sy eF k n s o (srows a) (Ex.rows u) (left:Int)=some p∧ ∃r:Nat,p= .val [.int .i64 (r:Int)]∧r≤left∧(0 < r→(Ex.mk k n s o a u).size+r=left):=by
   unfold g33
   by_cases h0:left=0
   ·subst h0
    refine⟨_,rfl,0,rfl,Nat.le_refl _,fun h=>by omega⟩
   ·have e0:sy.ile (left:Int) 0=false:=decide_eq_false (by omega)
    have w0:sy.wrap .i64 (sy.sub (left:Int) 1)=((left - 1:Nat):Int):=by
     show IntKind.i64.wrap ((left:Int) - 1)=_
     rw[wrap_id (by omega) (by omega)];omega
    rw[e0,w0]
    refine loopF_ex (fun x:Nat × Nat=>[.int .i64 (x.2:Int), .int .i64 (x.1:Int), .int .i64 k, .int .i64 n, .str s, .int .i64 o, .sl 1 (srows a), .sl 6 (Ex.rows u)]) (fun x=>x.1≤u.length∧x.2 < left∧(0 < x.2→1+Ex.sizes (u.take x.1)+x.2=left)) (fun x=>u.length - x.1) (fun x hx=> ?_) (0,left - 1) ⟨Nat.zero_le _,by simp only;omega,fun _=>by simp [Ex.sizes];omega⟩
    obtain⟨i,r⟩:=x
    obtain⟨h1,h2,h3⟩:=hx
    simp only at h1 h2 h3 ⊢
    by_cases hlt:i < u.length
    ·by_cases hr:0 < r
     ·left
      have hx:=List.getElem?_eq_getElem hlt
      have htk:u.take (i+1)=u.take i++[u[i]]:=by rw[List.take_add_one,hx];rfl
      generalize u[i]=e at hx htk
      have hrow:=xrow hx
      have hem:=sizes_mem hx
      obtain⟨k2,n2,s2,o2,a2,u2⟩:=e
      obtain⟨r2,q1,q2,q3⟩:=c_rcount m k2 n2 s2 o2 a2 u2 r (by omega) (by omega)
      have hi:=take_len_sizes u i h1
      have h3:=h3 hr
      have w1:IntKind.i64.wrap ((i:Int)+1)=((i+1:Nat):Int):=by rw[wrap_id (by omega) (by omega)];omega
      have l0:=ilt_at hlt
      have i0:=inr_at hlt
      have z0:decide ((0:Int) < (r:Int))=true:=decide_eq_true (by omega)
      refine⟨(i+1,r2),?_,⟨hlt,by simp only;omega,fun hp=> ?_⟩,by simp only;omega⟩
      ·simp only [go1,oE,rows_len,l0,i0,z0,hrow,Ex.row,q1,w1]
      ·simp only at hp ⊢
       have:=q3 hp
       rw[htk,sizes_snoc]
       omega
     ·right
      have hr0:r=0:=by omega
      subst hr0
      refine⟨_,?_,0,rfl,Nat.zero_le _,fun h=>by omega⟩
      have l0:=ilt_at hlt
      simp only [go1,oE,rows_len,l0,show decide ((0:Int) < ((0:Nat):Int))=false from rfl]
    ·right
     have:i=u.length:=by omega
     subst this
     rw[List.take_length]at h3
     refine⟨_,?_,r,rfl,by omega,fun hp=> ?_⟩
     ·simp only [go1,oE,rows_len,ilt_self]
     ·have:=h3 hp
      simp only [Ex.size];omega
  obtain⟨p,h1,r,rfl,h2⟩:=core
  exact⟨r,cOf (by kernel_rfl) rfl ((g33_eq _ _ _ _ _ _ _ _ _).trans h1),h2⟩
def okQ:Ex→Prop
 | .mk _ _ s _ a _=>s.size≤200∧a.length≤20∧ ∀x∈a,x.size≤100
theorem row_fields {l:List Ex}{i:Nat}{k n:Int}{s:ByteArray}{o:Int}{a:List ByteArray}{u:List Ex}(h:l[i]? =some (.mk k n s o a u)):
  sy.cell (sy.skip 2 (sy.row (Ex.rows l) (i:Int))) 0=some (.str s)∧sy.cell (sy.skip 4 (sy.row (Ex.rows l) (i:Int))) 0=some (.sl 1 (srows a)):=by
 rw[xrow h]
 exact⟨rfl,rfl⟩
theorem c_rfew (k n:Int)(s:ByteArray)(o:Int)(a:List ByteArray)(u:List Ex)(h:(Ex.mk k n s o a u).size≤1000):
  ∃b,cF 34 [kE k n s o (srows a) (Ex.rows u)]=some (.val [.bool b])∧(b=true→ ∀x∈(Ex.mk k n s o a u).parts,okQ x):=by
 have hp:=c_reParts 1000 k n s o a u h (by omega)
 have hpl:=parts_len (Ex.mk k n s o a u)
 generalize (Ex.mk k n s o a u).parts=P at hp hpl ⊢
 have core: ∃p,g34 sy eF k n s o (srows a) (Ex.rows u)=some p∧ ∃b,p= .val [.bool b]∧(b=true→ ∀x∈P,okQ x):=by
  simp only [g34,go1,hp]
  refine loopF_ex (fun i:Nat=>[.sl 6 (Ex.rows P), .int .i64 (i:Int)]) (fun i=>i≤P.length∧ ∀x∈P.take i,okQ x) (fun i=>P.length - i) (fun i hi=> ?_) 0 ⟨Nat.zero_le _,by simp⟩
  obtain⟨h1,h2⟩:=hi
  by_cases hlt:i < P.length
  ·have hx:=List.getElem?_eq_getElem hlt
   have htk:P.take (i+1)=P.take i++[P[i]]:=by rw[List.take_add_one,hx];rfl
   generalize P[i]=e at hx htk
   obtain⟨k2,n2,s2,o2,a2,u2⟩:=e
   obtain⟨f1,f2⟩:=row_fields hx
   have l0:=ilt_at hlt
   have i0:=inr_at hlt
   have w1:IntKind.i64.wrap ((i:Int)+1)=((i+1:Nat):Int):=by rw[wrap_id (by omega) (by omega)];omega
   by_cases g1:200 < s2.size
   ·right
    refine⟨_,?_,false,rfl,fun h=>by cases h⟩
    simp only [go1,rows_len,l0,i0,f1,decide_eq_true (show(200:Int) < (s2.size:Int) by omega)]
   ·by_cases g2:20 < a2.length
    ·right
     refine⟨_,?_,false,rfl,fun h=>by cases h⟩
     simp only [go1,rows_len,srows_len,l0,i0,f1,f2,decide_eq_false (show ¬(200:Int) < (s2.size:Int) by omega),decide_eq_true (show(20:Int) < (a2.length:Int) by omega)]
    ·simp only [go1,rows_len,srows_len,l0,i0,f1,f2,decide_eq_false (show ¬(200:Int) < (s2.size:Int) by omega),decide_eq_false (show ¬(20:Int) < (a2.length:Int) by omega)]
     have inner: ∃p,loopF (fun ds11=>
         (opL (sy.cell ds11 0) 6).bind fun l12=>
         (opI (sy.cell ds11 1) .i64).bind fun n13=>
         (opI (sy.cell ds11 2) .i64).bind fun n14=>
         bif (sy.inr n13 (sy.rlen l12))then
          (opL (sy.cell (sy.skip 4 (sy.row l12 n13)) 0) 1).bind fun l15=>
          bif (sy.ilt n14 (sy.rlen l15))then
           bif (sy.inr n13 (sy.rlen l12))then
            (opL (sy.cell (sy.skip 4 (sy.row l12 n13)) 0) 1).bind fun l16=>
            bif (sy.inr n14 (sy.rlen l16))then
             (opS (sy.cell (sy.row l16 n14) 0)).bind fun s17=>
             bif (sy.ilt 100 (sy.slen s17))then
              some (.inr ((.inr (PRes.val [(.bool false)])):List D ⊕ PRes))
             else
              some (.inl [(.sl 6 l12),(.int .i64 n13),(.int .i64 (sy.wrap .i64 (sy.add n14 1)))])
            else
             none
           else
            none
          else
           some (.inr (.inl [(.sl 6 l12),(.int .i64 (sy.wrap .i64 (sy.add n13 1)))]))
         else
          none
       ) [(.sl 6 (Ex.rows P)),(.int .i64 (i:Int)),(.int .i64 0)]=some p∧(p= .inr (.val [.bool false])∨p= .inl [.sl 6 (Ex.rows P), .int .i64 ((i+1:Nat):Int)]∧ ∀x∈a2,x.size≤100):=by
      refine loopF_ex (fun j:Nat=>[.sl 6 (Ex.rows P), .int .i64 (i:Int), .int .i64 (j:Int)]) (fun j=>j≤a2.length∧ ∀x∈a2.take j,x.size≤100) (fun j=>a2.length - j) (fun j hj=> ?_) 0 ⟨Nat.zero_le _,by simp⟩
      obtain⟨j1,j2⟩:=hj
      by_cases hj:j < a2.length
      ·have hy:=List.getElem?_eq_getElem hj
       have hyk:a2.take (j+1)=a2.take j++[a2[j]]:=by rw[List.take_add_one,hy];rfl
       generalize a2[j]=y at hy hyk
       have hc:=srows_at hy
       have l1:=ilt_at hj
       have i1:=inr_at hj
       have w2:IntKind.i64.wrap ((j:Int)+1)=((j+1:Nat):Int):=by rw[wrap_id (by omega) (by omega)];omega
       by_cases g3:100 < y.size
       ·right
        refine⟨_,?_, .inl rfl⟩
        simp only [go1,rows_len,srows_len,i0,f2,l1,i1,hc,decide_eq_true (show(100:Int) < (y.size:Int) by omega)]
       ·left
        refine⟨j+1,?_,⟨hj,fun x hx=> ?_⟩,by omega⟩
        ·simp only [go1,rows_len,srows_len,i0,f2,l1,i1,hc,decide_eq_false (show ¬(100:Int) < (y.size:Int) by omega),w2]
        ·rw[hyk]at hx
         rcases List.mem_append.1 hx with hx|hx
         ·exact j2 x hx
         ·rw[List.mem_singleton.1 hx];omega
      ·right
       have:j=a2.length:=by omega
       subst this
       rw[List.take_length]at j2
       refine⟨_,?_, .inr ⟨rfl,j2⟩⟩
       simp only [go1,rows_len,srows_len,i0,f2,ilt_self,w1]
     obtain⟨p,hp1,hp2⟩:=inner
     simp only [go1]at hp1
     rcases hp2 with rfl|⟨rfl,hq⟩
     ·right
      exact⟨_,hp1,false,rfl,fun h=>by cases h⟩
     ·left
      refine⟨i+1,hp1,⟨hlt,fun x hx=> ?_⟩,by omega⟩
      rw[htk]at hx
      rcases List.mem_append.1 hx with hx|hx
      ·exact h2 x hx
      ·rw[List.mem_singleton.1 hx]
       exact⟨by omega,by omega,hq⟩
  ·right
   have:i=P.length:=by omega
   subst this
   rw[List.take_length]at h2
   refine⟨_,?_,true,rfl,fun _=>h2⟩
   simp only [go1,rows_len,ilt_self]
 obtain⟨p,h1,b,rfl,h2⟩:=core
 exact⟨b,cOf (by kernel_rfl) rfl ((g34_eq _ _ _ _ _ _ _ _).trans h1),h2⟩
mutual
theorem fine_of: ∀e:Ex,(∀x∈e.parts,okQ x)→e.fine
 | .mk k n s o a u,h=>by
   have h0:okQ (.mk k n s o a u):=h _ (by simp [Ex.parts])
   refine⟨⟨by have:=h0.1;omega,fun x hx=>by have:=h0.2.2 x hx;omega,by have:=h0.2.1;omega⟩,fines_of u fun x hx=>h x (by simp [Ex.parts,hx])⟩
theorem fines_of: ∀u:List Ex,(∀x∈Ex.partsL u,okQ x)→Ex.fines u
 | [],_=>trivial
 |e::u,h=>⟨fine_of e fun x hx=>h x (by simp [Ex.partsL,hx]),fines_of u fun x hx=>h x (by simp [Ex.partsL,hx])⟩
end
theorem c_rSmall (k n:Int)(s:ByteArray)(o:Int)(a:List ByteArray)(u:List Ex): ∃b,cF 19 [kE k n s o (srows a) (Ex.rows u)]=some (.val [.bool b])∧(b=true→(Ex.mk k n s o a u).size≤200∧(Ex.mk k n s o a u).fine):=by
 obtain⟨r,h1,h2,h3⟩:=c_rcount _ k n s o a u 200 (Nat.le_refl _) (Nat.le_refl _)
 have h1:cF 33 [kE k n s o (srows a) (Ex.rows u), .d (.int .i64 200)]=_:=h1
 by_cases hr:0 < r
 ·have h3:=h3 hr
  obtain⟨b,h4,h5⟩:=c_rfew k n s o a u (by omega)
  refine⟨b,?_,fun hb=>⟨by omega,fine_of _ (h5 hb)⟩⟩
  refine cOf (by kernel_rfl) rfl ?_
  rw[g19_eq]
  simp only [g19,go1,Option.bind_some,eq_self,cond_true,cond_false,Nat.reduceAdd,Int.reduceEq,Int.reduceLT,Int.reduceLE,Int.reduceSub,Int.reduceAdd,h1,h4,decide_eq_true (show(0:Int) < (r:Int) by omega)]
 ·refine⟨false,?_,fun h=>by cases h⟩
  refine cOf (by kernel_rfl) rfl ?_
  rw[g19_eq]
  simp only [g19,go1,Option.bind_some,eq_self,cond_true,cond_false,Nat.reduceAdd,Int.reduceEq,Int.reduceLT,Int.reduceLE,Int.reduceSub,Int.reduceAdd,h1,decide_eq_false (show ¬(0:Int) < (r:Int) by omega)]
theorem c_PBack (k n:Int)(s:ByteArray)(o:Int)(a:List ByteArray)(u:List Ex)(hr:(Ex.mk k n s o a u).rng):cF 5 [kE k n s o (srows a) (Ex.rows u)]=some (.val [.bool true]):=by
 have h0:=c_Plive
 obtain⟨b,h1,h2⟩:=c_rSmall k n s o a u
 cases b with
 |false=>
  refine cOf (by kernel_rfl) rfl ?_
  rw[g5_eq]
  simp only [g5,go1,Option.bind_some,eq_self,cond_true,cond_false,Nat.reduceAdd,Int.reduceEq,Int.reduceLT,Int.reduceLE,Int.reduceSub,Int.reduceAdd,h0,h1]
 |true=>
  obtain⟨hz,hf⟩:=h2 rfl
  have h3:=c_reRight k n s o a u (by omega) hf
  cases hb:smallB (.mk k n s o a u)&&allB (.mk k n s o a u)with
  |false=>
   rw[hb]at h3
   refine cOf (by kernel_rfl) rfl ?_
   rw[g5_eq]
   simp only [g5,go1,Option.bind_some,eq_self,cond_true,cond_false,Nat.reduceAdd,Int.reduceEq,Int.reduceLT,Int.reduceLE,Int.reduceSub,Int.reduceAdd,h0,h1,h3]
  |true=>
   rw[hb]at h3
   simp only [Bool.and_eq_true]at hb
   obtain⟨t,q1,q2,q3⟩:=c_rtext 1000 k n s o a u (by omega) (Nat.le_refl _) hb.2 hf hr
   have h4:cF 21 [kE k n s o (srows a) (Ex.rows u)]=some (.val [.str t]):=by
    refine cOf (by kernel_rfl) rfl ?_
    rw[g21_eq]
    simp only [g21,go1,Option.bind_some,eq_self,cond_true,cond_false,Nat.reduceAdd,Int.reduceEq,Int.reduceLT,Int.reduceLE,Int.reduceSub,Int.reduceAdd,h3,q1]
   by_cases hl:t.size≤6000
   ·have h5:=c_pExprB (.mk k n s o a u) hb.2 hb.1 hr t q2 (by rw[tb_len];exact hl)
    have h6:=c_reSame 1000000 k n s o a u (by omega) (Nat.le_refl _) hf
    have h7:=c_Pnum 0
    have e1:decide ((6000:Int) < (t.size:Int))=false:=decide_eq_false (by omega)
    simp only [encP,tb_len]at h5
    refine cOf (by kernel_rfl) rfl ?_
    rw[g5_eq]
    simp only [g5,go1,Option.bind_some,eq_self,cond_true,cond_false,Nat.reduceAdd,Int.reduceEq,Int.reduceLT,Int.reduceLE,Int.reduceSub,Int.reduceAdd,h0,h1,h3,h4,h5,h6,h7,e1,oE]
   ·have e1:decide ((6000:Int) < (t.size:Int))=true:=decide_eq_true (by omega)
    refine cOf (by kernel_rfl) rfl ?_
    rw[g5_eq]
    simp only [g5,go1,Option.bind_some,eq_self,cond_true,cond_false,Nat.reduceAdd,Int.reduceEq,Int.reduceLT,Int.reduceLE,Int.reduceSub,Int.reduceAdd,h0,h1,h3,h4,e1]
end Go.Vm
end
