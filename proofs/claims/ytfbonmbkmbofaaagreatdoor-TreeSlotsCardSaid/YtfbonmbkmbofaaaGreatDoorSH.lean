/- Part SH of the proof. What is proved by the whole: the statement that the claim names, with no condition. -/
import Derived.Test.YtfbonmbkmbofaaaGreatDoorSG
import Derived.Laws.Strings
set_option linter.all false
section
namespace Go.Vm
def tb (s:BA):List Nat:=s.data.toList.map UInt8.toNat
def tb_len (s:BA):(tb s).length=s.size:=by
 unfold tb;rw[List.length_map,Array.length_toList];rfl
def map_u8_inj: ∀ {a b:List UInt8},a.map UInt8.toNat=b.map UInt8.toNat->a=b
 | [],[],_=>rfl
 | [],_::_,h=>by simp at h
 |_::_,[],h=>by simp at h
 |x::a,y::b,h=>by
  simp only[List.map_cons,List.cons.injEq]at h;rw[UInt8.toNat_inj.1 h.1,map_u8_inj h.2]
def tb_inj {s u:BA}(h:tb s=tb u):s=u:=by
 have h1:s.data.toList=u.data.toList:=by
  unfold tb at h;exact map_u8_inj h
 cases s;cases u;simp only[ByteArray.mk.injEq];exact Array.toList_inj.1 h1
def tb_iff {s u:BA}:tb s=tb u↔s=u:=⟨tb_inj,fun h=>by rw[h]⟩
def toList_inj' {s u:BA}(h:s.toList=u.toList):s=u:=by
 have e: ∀t:BA,t.toList=t.data.toList:=fun t=>ByteArray.toList_eq t
 rw[e,e]at h;cases s;cases u;simp only[ByteArray.mk.injEq];exact Array.toList_inj.1 h
def seq_tb (s u:BA):(s.toList == u.toList)=decide (tb s=tb u):=by
 rw[Bool.eq_iff_iff,beq_iff_eq,decide_eq_true_eq,tb_iff];exact⟨toList_inj',fun h=>by rw[h]⟩
def tb_getD (s:BA)(i:Nat):(tb s).getD i 0=(s.data.getD i 0).toNat:=by
 unfold tb;rw[List.getD_eq_getElem?_getD,List.getElem?_map,Array.getElem?_toList]
 by_cases h:i < s.data.size
 ·rw[Array.getElem?_eq_getElem h];simp[Array.getD,show i < s.size from h]
 ·rw[Array.getElem?_eq_none (by omega)];simp[Array.getD,show ¬i < s.size from h]
def tb_app (s u:BA):tb (s++u)=tb s++tb u:=by
 unfold tb;rw[ByteArray.data_append,Array.toList_append,List.map_append]
def tb_scut (s:BA)(a b:Int):tb (s.extract a.toNat b.toNat)=((tb s).take b.toNat).drop a.toNat:=by
 unfold tb;rw[ByteArray.data_extract,Array.toList_extract];simp[List.extract_eq_take_drop,List.map_take,List.map_drop,List.drop_take]
def get_tb (s:BA)(i:Nat):(s.get! i).toNat=(tb s).getD i 0:=by
 rw[tb_getD];show(s.data[i]!).toNat=_
 by_cases h:i < s.data.size
 ·simp[Array.getD,show i < s.size from h]
 ·simp only[Array.getD,h,dite_false];rw[getElem!_neg s.data i h];rfl
def dec_small {s:BA}{i:Nat}(hb:(tb s).getD i 0 < 128):decR s (i:Int)=(((tb s).getD i 0:Nat):Int)/\decW s (i:Int)=1:=by
 unfold decR decW Utf8.decode;rw[Int.toNat_natCast];simp only[Nat.add_zero,get_tb];rw[if_pos hb];exact⟨rfl,rfl⟩
def dec_big {s:BA}{i:Nat}(hb:128<=(tb s).getD i 0):128<=decR s (i:Int)/\1<=decW s (i:Int):=by
 unfold decR decW Utf8.decode;rw[Int.toNat_natCast];simp only[Nat.add_zero,get_tb];rw[if_neg (by omega)]
 have hr:128<=Utf8.runeError:=by decide
 repeat' split
 all_goals first|omega|(simp only[ge_iff_le,Bool.and_eq_true,decide_eq_true_eq]at*;omega)
def smallN (c:Nat):Bool:=decide (97<=c)&&decide (c<=122)
def greatN (c:Nat):Bool:=decide (65<=c)&&decide (c<=90)
def digitN (c:Nat):Bool:=decide (48<=c)&&decide (c<=57)
def innerN (c:Nat):Bool:=smallN c || greatN c || digitN c || decide (c=95)
def nameN (first:Nat->Bool)(l:List Nat):Bool:=decide (1<=l.length)&&decide (l.length<=12)&&first (l.getD 0 0)&&l.all innerN
def splitN (c:Nat):List Nat->List (List Nat)
 | []=>[[]]
 |x::xs=>if x=c then[]::splitN c xs else match splitN c xs with
  | []=>[[x]]
  |p::ps=>(x::p)::ps
def splitN_ne (c:Nat): ∀l,splitN c l≠[]
 | []=>by simp[splitN]
 |x::xs=>by
  unfold splitN;split
  ·simp
  ·split<;>simp
def splitN_app (c:Nat): ∀(p l:List Nat),(∀x∈p,x≠c)->splitN c (p++l)=match splitN c l with
  | []=>[p]
  |q::qs=>(p++q)::qs
 | [],l,_=>by
   simp only[List.nil_append];cases h:splitN c l with
   |nil=>exact absurd h (splitN_ne c l)
   |cons q qs=>rfl
 |x::p,l,hp=>by
  rw[List.cons_append,splitN,if_neg (hp x List.mem_cons_self),splitN_app c p l fun y hy=>hp y (List.mem_cons_of_mem _ hy)]
  cases h:splitN c l with
  |nil=>exact absurd h (splitN_ne c l)
  |cons q qs=>rfl
def splitN_none (c:Nat)(p:List Nat)(hp: ∀x∈p,x≠c):splitN c p= [p]:=by
 have:=splitN_app c p [] hp;rw[List.append_nil]at this;rw[this];simp[splitN]
def splitN_mark (c:Nat)(p l:List Nat)(hp: ∀x∈p,x≠c):splitN c (p++c::l)=p::splitN c l:=by
 rw[splitN_app c p _ hp];simp[splitN]
def wordsB:List (List Nat):=["node", "returns", "var", "let", "tel", "enum", "if", "then", "else", "fby", "pre", "when", "merge", "every", "not", "and", "or", "xor", "mod", "true", "false", "int", "bool", "with"].map fun s=>s.toUTF8.data.toList.map UInt8.toNat
def wordN (l:List Nat):Bool:=wordsB.contains l
def lowN (l:List Nat):Bool:=nameN smallN l&& !wordN l
def highN (l:List Nat):Bool:=nameN greatN l
def numN (l:List Nat):Bool:=decide (1<=l.length)&&decide (l.length<=3)&& !decide (l.getD 0 0=48)&&l.all digitN
def partN (l:List Nat):Bool:=match splitN 46 l with
 | [a]=>lowN a
 | [a,b]=>lowN a&&numN b
 |_=>false
def pathN (l:List Nat):Bool:=(splitN 47 l).all partN
def idxN (c:Nat):List Nat->Option Nat
 | []=>none
 |x::xs=>if x=c then some 0 else(idxN c xs).map (· +1)
def idxN_none {c:Nat}: ∀ {l:List Nat},idxN c l=none-> ∀x∈l,x≠c
 | [],_,x,hx=>by simp at hx
 |y::ys,h,x,hx=>by
  unfold idxN at h;split at h
  ·cases h
  ·rw[Option.map_eq_none_iff]at h;rcases List.mem_cons.1 hx with rfl|hx
   ·assumption
   ·exact idxN_none h x hx
def idxN_some {c:Nat}: ∀ {l:List Nat} {i:Nat},idxN c l=some i->i < l.length/\l=l.take i++c::l.drop (i+1)/\ ∀x∈l.take i,x≠c
 | [],i,h=>by cases h
 |y::ys,i,h=>by
  unfold idxN at h;split at h
  ·cases h;rename_i e;subst e;exact⟨by simp,by simp,by simp⟩
  ·rename_i hne;rw[Option.map_eq_some_iff]at h;obtain⟨j,hj,rfl⟩:=h;obtain⟨h1,h2,h3⟩:=idxN_some hj;refine⟨by simp;omega,?_,fun x hx=> ?_⟩
   ·simp only[List.take_succ_cons,List.drop_succ_cons,List.cons_append];rw[<-h2]
   ·rw[List.take_succ_cons]at hx;rcases List.mem_cons.1 hx with rfl|hx
    ·exact hne
    ·exact h3 x hx
def partN_cut (l:List Nat):partN l=match idxN 46 l with
  |none=>lowN l
  |some i=>lowN (l.take i)&&numN (l.drop (i+1)):=by
 cases h:idxN 46 l with
 |none=>
  unfold partN;rw[splitN_none 46 l (idxN_none h)]
 |some i=>
  obtain⟨h1,h2,h3⟩:=idxN_some h;simp only;generalize hb:l.take i=b at h2 h3 ⊢;generalize ha:l.drop (i+1)=a at h2 ⊢;subst h2;unfold partN;rw[splitN_mark 46 b a h3];cases hq:idxN 46 a with
  |none=>rw[splitN_none 46 a (idxN_none hq)]
  |some j=>
   obtain⟨q1,q2,q3⟩:=idxN_some hq;have e:numN a=false:=by
    unfold numN;have:a.all digitN=false:=by
     rw[q2,List.all_append,List.all_cons];have:digitN 46=false:=by decide
     rw[this];simp
    rw[this];simp
   have hs:splitN 46 a=a.take j::splitN 46 (a.drop (j+1)):=by
    conv=>lhs;rw[q2]
    exact splitN_mark 46 _ _ q3
   rw[hs,e,Bool.and_false];cases hz:splitN 46 (a.drop (j+1))with
   |nil=>exact absurd hz (splitN_ne _ _)
   |cons z zs=>rfl
def loopF_ex {σ α:Type}{b:List D->Option (List D ⊕ α)}{Q:α->Prop}(mk:σ->List D)(I:σ->Prop)(μ:σ->Nat)
  (h: ∀x,I x->(∃y,b (mk x)=some (.inl (mk y))/\I y/\μ y < μ x)\/ ∃r,b (mk x)=some (.inr r)/\Q r) (x:σ) (h0:I x): ∃r,loopF b (mk x)=some r/\Q r:=by
 suffices ∀n x,μ x < n->I x-> ∃r,loopF b (mk x)=some r/\Q r from this _ x (Nat.lt_succ_self _) h0
 intro n
 induction n with
 |zero=>intro x h;omega
 |succ n ih=>
  intro x hlt hi;rw[loopF_eq];rcases h x hi with⟨d,h1,h2,h3⟩|⟨r,h1,h2⟩
  ·rw[h1];exact ih d (by omega) h2
  ·rw[h1];exact⟨r,rfl,h2⟩
def viaL {α:Type}{X:Option (List D ⊕ α)}{L L':List D}(h:X=some (.inl L))(e:L=L'):X=some (.inl L'):=by rw[h,e]
def viaR {α:Type}{X:Option (List D ⊕ α)}{Q:α->Prop}{r:α}(h:X=some (.inr r))(e:Q r): ∃r,X=some (.inr r)/\Q r:=⟨r,h,e⟩
end Go.Vm
end
