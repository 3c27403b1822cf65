/- Part GG of the proof. What is proved by the whole: the statement that the claim names, with no condition. -/
import Derived.Test.YtnppfpelgmmanaaGF
import Derived.Test.YtnppfpelgmmanaaChecked
set_option linter.all false
section
namespace Go.Vm
open Go.Proofs
def kn (_:FuncId)(_:List V):Option PRes:=none
theorem kn_none {f:FuncId}{args:List V}{p:PRes}(h:kn f args=some p):False:=by
 unfold kn at h
 cases h
theorem kn_good:KGood Try.prog kn:=
 And.intro (fun h=>by
  have e:(sigP Try.prog gP).isSome=false:=by kernel_rfl
  rw[e]at h
  cases h) (And.intro (fun f args p _ _ h=>(kn_none h).elim) (fun f key pn us hs p _ _ h=>(kn_none h).elim))
noncomputable def cF (f:FuncId) (args:List V):Option PRes:=callF Try.prog cs kn f args
noncomputable def eF:Env:=envF (callF Try.prog cs kn)
theorem eF_call (f:FuncId)(args:List V):eF.call f args=cF f args:=rfl
theorem eF_lp {α:Type}(b:List D→Option (List D ⊕ α))(ds:List D):eF.lp b ds=loopF b ds:=rfl
theorem cOf {f:FuncId}{args:List V}{p:PRes}(hg:goodF Try.prog f=true)(hk:kn f args=none)(h:(funT sy Try.prog cs f args).run eF=some p):cF f args=some p:=callF_of hg hk h
theorem cOfP {f:FuncId}{args:List V}{Q:PRes→Prop}(hg:goodF Try.prog f=true)(hk:kn f args=none)(h: ∃p,(funT sy Try.prog cs f args).run eF=some p∧Q p): ∃p,cF f args=some p∧Q p:=h.imp fun _ h=>⟨callF_of hg hk h.1,h.2⟩
theorem decT {p:Prop} [Decidable p] (h:p):decide p=true:=decide_eq_true h
theorem decF {p:Prop} [Decidable p] (h: ¬p):decide p=false:=decide_eq_false h
theorem inr_at {i n:Nat}(h:i < n):decide (0≤(i:Int)∧(i:Int) < (n:Int))=true:=decide_eq_true ⟨by omega,by omega⟩
theorem ilt_at {i n:Nat}(h:i < n):decide ((i:Int) < (n:Int))=true:=decide_eq_true (by omega)
theorem ilt_self (n:Nat):decide ((n:Int) < (n:Int))=false:=decide_eq_false (by omega)
theorem wrap_succ {i n:Nat}(h:i < n)(hn:n≤1000000000000):IntKind.i64.wrap ((i:Int)+1)=(i:Int)+1:=wrap_id (by omega) (by omega)
theorem mixedOrders:Try.prog.follows .mixedOrders=true:=by kernel_rfl
end Go.Vm
end
section
set_option maxRecDepth 10000
namespace Go.Vm
theorem bs1 {α β:Type}(a:α)(f:α→Option β):(some a).bind f=f a:=rfl
theorem ct1 {α:Type}(a b:α):cond true a b=a:=rfl
theorem cf1 {α:Type}(a b:α):cond false a b=b:=rfl
theorem es1 {α:Type}(a:α):(a=a)=True:=eq_self a
theorem go1:type_of% (And.intro @bs1 (And.intro @ct1 (And.intro @cf1 (And.intro @es1 (And.intro @sy_wrap (And.intro @sy_add (And.intro @sy_sub (And.intro @sy_mul (And.intro @sy_ieq (And.intro @sy_ilt (And.intro @sy_ile (And.intro @sy_seq (And.intro @sy_beq (And.intro @sy_bor (And.intro @sy_bnot (And.intro @sy_imax (And.intro @sy_imin (And.intro @sy_rlen (And.intro @sy_slen (And.intro @sy_sapp (And.intro @sy_inr (And.intro @sy_nat (And.intro @sy_cell0 (And.intro @sy_cellS (And.intro @sy_skip0 (And.intro @sy_inrn (And.intro @sy_rapp (And.intro @sy_fits (And.intro @sy_cutok (And.intro @sy_cut (And.intro @sy_scut (And.intro @sy_sbyte (And.intro @sy_mkok (And.intro @sy_mkok0 (And.intro @sy_mkz (And.intro @sy_rep (And.intro @sy_head (And.intro @sy_deq (And.intro @eqDs_int (And.intro @eqDs_nil (And.intro @opI_int (And.intro @opB_bool (And.intro @opS_str (And.intro @opL_sl (And.intro @opM_own (And.intro @leaves_val (And.intro @leaves_own (And.intro @cutO_bool (And.intro @bif_bool (And.intro @cutO_inl (And.intro @cutO_inr (And.intro @eF_call (And.intro @eF_lp (And.intro @Nat.zero_add (And.intro @Bool.cond_false_right (And.intro @Bool.cond_true_left (And.intro @Bool.cond_false_left (And.intro @Bool.cond_true_right (And.intro @Bool.not_true (And.intro @Bool.not_false (And.intro @Bool.not_not (And.intro @decide_true (And.intro @decide_false (And.intro @Bool.true_and (And.intro @Bool.and_true (And.intro @Bool.false_and (And.intro @Bool.and_false (And.intro @Bool.or_false (And.intro @Bool.false_or (And.intro @Bool.true_or (And.intro @Bool.or_true (And.intro @true_and (@and_true))))))))))))))))))))))))))))))))))))))))))))))))))))))))))))))))))))))))):=And.intro @bs1 (And.intro @ct1 (And.intro @cf1 (And.intro @es1 (And.intro @sy_wrap (And.intro @sy_add (And.intro @sy_sub (And.intro @sy_mul (And.intro @sy_ieq (And.intro @sy_ilt (And.intro @sy_ile (And.intro @sy_seq (And.intro @sy_beq (And.intro @sy_bor (And.intro @sy_bnot (And.intro @sy_imax (And.intro @sy_imin (And.intro @sy_rlen (And.intro @sy_slen (And.intro @sy_sapp (And.intro @sy_inr (And.intro @sy_nat (And.intro @sy_cell0 (And.intro @sy_cellS (And.intro @sy_skip0 (And.intro @sy_inrn (And.intro @sy_rapp (And.intro @sy_fits (And.intro @sy_cutok (And.intro @sy_cut (And.intro @sy_scut (And.intro @sy_sbyte (And.intro @sy_mkok (And.intro @sy_mkok0 (And.intro @sy_mkz (And.intro @sy_rep (And.intro @sy_head (And.intro @sy_deq (And.intro @eqDs_int (And.intro @eqDs_nil (And.intro @opI_int (And.intro @opB_bool (And.intro @opS_str (And.intro @opL_sl (And.intro @opM_own (And.intro @leaves_val (And.intro @leaves_own (And.intro @cutO_bool (And.intro @bif_bool (And.intro @cutO_inl (And.intro @cutO_inr (And.intro @eF_call (And.intro @eF_lp (And.intro @Nat.zero_add (And.intro @Bool.cond_false_right (And.intro @Bool.cond_true_left (And.intro @Bool.cond_false_left (And.intro @Bool.cond_true_right (And.intro @Bool.not_true (And.intro @Bool.not_false (And.intro @Bool.not_not (And.intro @decide_true (And.intro @decide_false (And.intro @Bool.true_and (And.intro @Bool.and_true (And.intro @Bool.false_and (And.intro @Bool.and_false (And.intro @Bool.or_false (And.intro @Bool.false_or (And.intro @Bool.true_or (And.intro @Bool.or_true (And.intro @true_and (@and_true))))))))))))))))))))))))))))))))))))))))))))))))))))))))))))))))))))))))
end Go.Vm
end
section
namespace Go.Vm
section
variable {α β : Type}
end
end Go.Vm
end
section
set_option maxRecDepth 1000000
set_option maxHeartbeats 0
namespace Go.Vm
open Go.Proofs
def g3 (A:Sy)(E:Env)(x_0 x_1 x_2 x_3 x_4 x_5:List (List D)):Option PRes:=
 (E.call 4 [(.d (.sl 2 x_0))]).bind fun p1=>
 (opB (A.cell p1.leaves 0)).bind fun b3=>
 cutO (
  bif (A.bnot b3)then
   some (.inl [(.bool true)])
  else
   (E.call 5 [(.d (.sl 6 x_3))]).bind fun p4=>
   (opB (A.cell p4.leaves 0)).bind fun b6=>
   some (.inl [(.bool (A.bnot b6))])
 ) fun ds7=>
 (opB (A.cell ds7 0)).bind fun b8=>
 cutO (
  bif b8 then
   some (.inl [(.bool true)])
  else
   some (.inl [(.bool (A.ilt 50 (A.rlen x_1)))])
 ) fun ds9=>
 (opB (A.cell ds9 0)).bind fun b10=>
 cutO (
  bif b10 then
   some (.inl [(.bool true)])
  else
   some (.inl [(.bool (A.ilt 50 (A.rlen x_2)))])
 ) fun ds11=>
 (opB (A.cell ds11 0)).bind fun b12=>
 cutO (
  bif b12 then
   some (.inl [(.bool true)])
  else
   some (.inl [(.bool (A.ilt 1100 (A.rlen x_4)))])
 ) fun ds13=>
 (opB (A.cell ds13 0)).bind fun b14=>
 bif b14 then
  (E.call 6 []).bind fun p15=>
  (opB (A.cell p15.leaves 0)).bind fun b17=>
  some (PRes.val [(.bool b17)])
 else
  (E.call 8 [(.agg [(.d (.sl 2 x_0)),(.d (.sl 4 x_1)),(.d (.sl 4 x_2)),(.d (.sl 6 x_3)),(.d (.sl 1 x_4)),(.d (.sl 4 x_5))])]).bind fun p18=>
  (opL (A.cell p18.leaves 0) 1).bind fun l20=>
  (opL (A.cell p18.leaves 1) 1).bind fun l21=>
  (opI (A.cell p18.leaves 2) .i64).bind fun n22=>
  (opI (A.cell p18.leaves 3) .i64).bind fun n23=>
  (E.call 9 [(.agg [(.d (.sl 2 x_0)),(.d (.sl 4 x_1)),(.d (.sl 4 x_2)),(.d (.sl 6 x_3)),(.d (.sl 1 x_4)),(.d (.sl 4 x_5))])]).bind fun p24=>
  (opL (A.cell p24.leaves 0) 1).bind fun l26=>
  (opL (A.cell p24.leaves 1) 1).bind fun l27=>
  (opI (A.cell p24.leaves 2) .i64).bind fun n28=>
  (opI (A.cell p24.leaves 3) .i64).bind fun n29=>
  (E.call 7 [(.agg [(.d (.sl 1 l20)),(.d (.sl 1 l21)),(.d (.int .i64 n22)),(.d (.int .i64 n23))]),(.agg [(.d (.sl 1 l26)),(.d (.sl 1 l27)),(.d (.int .i64 n28)),(.d (.int .i64 n29))])]).bind fun p30=>
  (opB (A.cell p30.leaves 0)).bind fun b32=>
  bif b32 then
   (E.call 6 []).bind fun p33=>
   (opB (A.cell p33.leaves 0)).bind fun b35=>
   some (PRes.val [(.bool b35)])
  else
   some (PRes.val [(.bool false)])
theorem g3_eq (A:Sy)(E:Env)(x_0 x_1 x_2 x_3 x_4 x_5:List (List D)):(funT A Try.prog cs 3 [V.agg [V.d (.sl 2 x_0),V.d (.sl 4 x_1),V.d (.sl 4 x_2),V.d (.sl 6 x_3),V.d (.sl 1 x_4),V.d (.sl 4 x_5)]]).run E=g3 A E x_0 x_1 x_2 x_3 x_4 x_5:=by kernel_rfl
def g4 (A:Sy)(E:Env)(l_:List (List D)):Option PRes:=
 bif (A.ilt 8 (A.rlen l_))then
  some (PRes.val [(.bool false)])
 else
  E.lp (fun ds1=>
   (opL (A.cell ds1 0) 2).bind fun l2=>
   (opI (A.cell ds1 1) .i64).bind fun n3=>
   bif (A.ilt n3 (A.rlen l2))then
    bif (A.inr n3 (A.rlen l2))then
     (opL (A.cell (A.skip 1 (A.row l2 n3)) 0) 1).bind fun l4=>
     cutO (
      bif (A.ilt 12 (A.rlen l4))then
       some (.inl [(.bool true)])
      else
       bif (A.inr n3 (A.rlen l2))then
        (opS (A.cell (A.row l2 n3) 0)).bind fun s5=>
        some (.inl [(.bool (A.ilt 100 (A.slen s5)))])
       else
        none
     ) fun ds6=>
     (opB (A.cell ds6 0)).bind fun b7=>
     bif b7 then
      some (.inr (PRes.val [(.bool false)]))
     else
      E.lp (fun ds8=>
       (opL (A.cell ds8 0) 2).bind fun l9=>
       (opI (A.cell ds8 1) .i64).bind fun n10=>
       (opI (A.cell ds8 2) .i64).bind fun n11=>
       bif (A.inr n10 (A.rlen l9))then
        (opL (A.cell (A.skip 1 (A.row l9 n10)) 0) 1).bind fun l12=>
        bif (A.ilt n11 (A.rlen l12))then
         bif (A.inr n10 (A.rlen l9))then
          (opL (A.cell (A.skip 1 (A.row l9 n10)) 0) 1).bind fun l13=>
          bif (A.inr n11 (A.rlen l13))then
           (opS (A.cell (A.row l13 n11) 0)).bind fun s14=>
           bif (A.ilt 100 (A.slen s14))then
            some (.inr (.inr (PRes.val [(.bool false)])))
           else
            some (.inl [(.sl 2 l9),(.int .i64 n10),(.int .i64 (A.wrap .i64 (A.add n11 1)))])
          else
           none
         else
          none
        else
         some (.inr (.inl [(.sl 2 l9),(.int .i64 (A.wrap .i64 (A.add n10 1)))]))
       else
        none
      ) [(.sl 2 l2),(.int .i64 n3),(.int .i64 0)]
    else
     none
   else
    some (.inr (PRes.val [(.bool true)]))
  ) [(.sl 2 l_),(.int .i64 0)]
theorem g4_eq (A:Sy)(E:Env)(l_:List (List D)):(funT A Try.prog cs 4 [V.d (.sl 2 l_)]).run E=g4 A E l_:=by kernel_rfl
def g5 (A:Sy)(E:Env)(s_:List (List D)):Option PRes:=
 E.lp (fun ds1=>
  (opL (A.cell ds1 0) 6).bind fun l2=>
  (opI (A.cell ds1 1) .i64).bind fun n3=>
  cutO (
   bif (A.ilt n3 (A.rlen l2))then
    some (.inl [(.bool (A.ilt n3 200))])
   else
    some (.inl [(.bool false)])
  ) fun ds4=>
  (opB (A.cell ds4 0)).bind fun b5=>
  bif b5 then
   bif (A.inr n3 (A.rlen l2))then
    (opS (A.cell (A.row l2 n3) 0)).bind fun s6=>
    cutO (
     bif (A.ilt 200 (A.slen s6))then
      some (.inl [(.bool true)])
     else
      bif (A.inr n3 (A.rlen l2))then
       (opL (A.cell (A.skip 5 (A.row l2 n3)) 0) 1).bind fun l7=>
       some (.inl [(.bool (A.ilt 20 (A.rlen l7)))])
      else
       none
    ) fun ds8=>
    (opB (A.cell ds8 0)).bind fun b9=>
    bif b9 then
     some (.inr (PRes.val [(.bool false)]))
    else
     some (.inl [(.sl 6 l2),(.int .i64 (A.wrap .i64 (A.add n3 1)))])
   else
    none
  else
   some (.inr (PRes.val [(.bool (A.ile (A.rlen l2) 150))]))
 ) [(.sl 6 s_),(.int .i64 0)]
theorem g5_eq (A:Sy)(E:Env)(s_:List (List D)):(funT A Try.prog cs 5 [V.d (.sl 6 s_)]).run E=g5 A E s_:=by kernel_rfl
def g7 (A:Sy)(E:Env)(a_0 a_1:List (List D))(a_2 a_3:Int)(b_0 b_1:List (List D))(b_2 b_3:Int):Option PRes:=
 (E.call 12 [(.d (.sl 1 a_0)),(.d (.sl 1 b_0))]).bind fun p1=>
 (opB (A.cell p1.leaves 0)).bind fun b3=>
 cutO (
  bif b3 then
   (E.call 12 [(.d (.sl 1 a_1)),(.d (.sl 1 b_1))]).bind fun p4=>
   (opB (A.cell p4.leaves 0)).bind fun b6=>
   some (.inl [(.bool b6)])
  else
   some (.inl [(.bool false)])
 ) fun ds7=>
 (opB (A.cell ds7 0)).bind fun b8=>
 cutO (
  bif b8 then
   some (.inl [(.bool (A.ieq a_2 b_2))])
  else
   some (.inl [(.bool false)])
 ) fun ds9=>
 (opB (A.cell ds9 0)).bind fun b10=>
 cutO (
  bif b10 then
   some (.inl [(.bool (A.ieq a_3 b_3))])
  else
   some (.inl [(.bool false)])
 ) fun ds11=>
 (opB (A.cell ds11 0)).bind fun b12=>
 some (PRes.val [(.bool b12)])
theorem g7_eq (A:Sy)(E:Env)(a_0 a_1:List (List D))(a_2 a_3:Int)(b_0 b_1:List (List D))(b_2 b_3:Int):(funT A Try.prog cs 7 [V.agg [V.d (.sl 1 a_0),V.d (.sl 1 a_1),V.d (.int .i64 a_2),V.d (.int .i64 a_3)],V.agg [V.d (.sl 1 b_0),V.d (.sl 1 b_1),V.d (.int .i64 b_2),V.d (.int .i64 b_3)]]).run E=g7 A E a_0 a_1 a_2 a_3 b_0 b_1 b_2 b_3:=by kernel_rfl
def g8 (A:Sy)(E:Env)(x_0 x_1 x_2 x_3 x_4 x_5:List (List D)):Option PRes:=
 E.lp (fun ds1=>
  (opL (A.cell ds1 0) 2).bind fun l2=>
  (opI (A.cell ds1 1) .i64).bind fun n3=>
  (opI (A.cell ds1 2) .i64).bind fun n4=>
  (opL (A.cell ds1 3) 2).bind fun l5=>
  (opL (A.cell ds1 4) 4).bind fun l6=>
  (opL (A.cell ds1 5) 4).bind fun l7=>
  (opL (A.cell ds1 6) 6).bind fun l8=>
  (opL (A.cell ds1 7) 1).bind fun l9=>
  (opL (A.cell ds1 8) 4).bind fun l10=>
  (opI (A.cell ds1 9) .i64).bind fun n11=>
  (opI (A.cell ds1 10) .i64).bind fun n12=>
  (opI (A.cell ds1 11) .i64).bind fun n13=>
  (opI (A.cell ds1 12) .i64).bind fun n14=>
  (opL (A.cell ds1 13) 1).bind fun l15=>
  (opL (A.cell ds1 14) 1).bind fun l16=>
  bif (A.ilt n4 n3)then
   bif (A.inr n4 (A.rlen l2))then
    (opS (A.cell (A.row l2 n4) 0)).bind fun s17=>
    (opL (A.cell (A.row l2 n4) 1) 1).bind fun l18=>
    bif (A.fits l15 [[(.int .i64 (A.rlen l18))]] 8)then
     some (.inl [(.sl 2 l2),(.int .i64 n3),(.int .i64 (A.wrap .i64 (A.add n4 1))),(.sl 2 l5),(.sl 4 l6),(.sl 4 l7),(.sl 6 l8),(.sl 1 l9),(.sl 4 l10),(.int .i64 n11),(.int .i64 n12),(.int .i64 n13),(.int .i64 n14),(.sl 1 (A.rapp l15 [[(.int .i64 (A.rlen l18))]])),(.sl 1 l16)])
    else
     none
   else
    none
  else
   E.lp (fun ds19=>
    (opL (A.cell ds19 0) 6).bind fun l20=>
    (opI (A.cell ds19 1) .i64).bind fun n21=>
    (opI (A.cell ds19 2) .i64).bind fun n22=>
    (opL (A.cell ds19 3) 2).bind fun l23=>
    (opL (A.cell ds19 4) 4).bind fun l24=>
    (opL (A.cell ds19 5) 4).bind fun l25=>
    (opL (A.cell ds19 6) 6).bind fun l26=>
    (opL (A.cell ds19 7) 1).bind fun l27=>
    (opL (A.cell ds19 8) 4).bind fun l28=>
    (opI (A.cell ds19 9) .i64).bind fun n29=>
    (opI (A.cell ds19 10) .i64).bind fun n30=>
    (opI (A.cell ds19 11) .i64).bind fun n31=>
    (opI (A.cell ds19 12) .i64).bind fun n32=>
    (opL (A.cell ds19 13) 1).bind fun l33=>
    (opL (A.cell ds19 14) 1).bind fun l34=>
    bif (A.ilt n22 n21)then
     bif (A.inr n22 (A.rlen l20))then
      (opS (A.cell (A.row l20 n22) 0)).bind fun s35=>
      (opI (A.cell (A.row l20 n22) 1) .i64).bind fun n36=>
      (opI (A.cell (A.row l20 n22) 2) .i64).bind fun n37=>
      (opI (A.cell (A.row l20 n22) 3) .i64).bind fun n38=>
      (opI (A.cell (A.row l20 n22) 4) .i64).bind fun n39=>
      (opL (A.cell (A.row l20 n22) 5) 1).bind fun l40=>
      (E.call 14 [(.agg [(.d (.int .i64 n36)),(.d (.int .i64 n37)),(.d (.int .i64 n38))])]).bind fun p41=>
      (opI (A.cell p41.leaves 0) .i64).bind fun n43=>
      E.lp (fun ds44=>
       (opI (A.cell ds44 0) .i64).bind fun n45=>
       (opI (A.cell ds44 1) .i64).bind fun n46=>
       (opL (A.cell ds44 2) 2).bind fun l47=>
       (opL (A.cell ds44 3) 4).bind fun l48=>
       (opL (A.cell ds44 4) 4).bind fun l49=>
       (opL (A.cell ds44 5) 6).bind fun l50=>
       (opL (A.cell ds44 6) 1).bind fun l51=>
       (opL (A.cell ds44 7) 4).bind fun l52=>
       (opI (A.cell ds44 8) .i64).bind fun n53=>
       (opI (A.cell ds44 9) .i64).bind fun n54=>
       (opI (A.cell ds44 10) .i64).bind fun n55=>
       (opI (A.cell ds44 11) .i64).bind fun n56=>
       (opL (A.cell ds44 12) 1).bind fun l57=>
       (opL (A.cell ds44 13) 1).bind fun l58=>
       (opS (A.cell ds44 14)).bind fun s59=>
       (opI (A.cell ds44 15) .i64).bind fun n60=>
       (opI (A.cell ds44 16) .i64).bind fun n61=>
       (opI (A.cell ds44 17) .i64).bind fun n62=>
       (opI (A.cell ds44 18) .i64).bind fun n63=>
       (opL (A.cell ds44 19) 1).bind fun l64=>
       (opI (A.cell ds44 20) .i64).bind fun n65=>
       (opI (A.cell ds44 21) .i64).bind fun n66=>
       (opI (A.cell ds44 22) .i64).bind fun n67=>
       bif (A.ilt n46 n45)then
        (E.call 15 [(.agg [(.d (.int .i64 n65)),(.d (.int .i64 n66)),(.d (.int .i64 n67))])]).bind fun p68=>
        (opI (A.cell p68.leaves 0) .i64).bind fun n70=>
        bif (A.fits l58 [[(.int .i64 n70)]] 8)then
         some (.inl [(.int .i64 n45),(.int .i64 (A.wrap .i64 (A.add n46 1))),(.sl 2 l47),(.sl 4 l48),(.sl 4 l49),(.sl 6 l50),(.sl 1 l51),(.sl 4 l52),(.int .i64 n53),(.int .i64 n54),(.int .i64 n55),(.int .i64 n56),(.sl 1 l57),(.sl 1 (A.rapp l58 [[(.int .i64 n70)]])),(.str s59),(.int .i64 n60),(.int .i64 n61),(.int .i64 n62),(.int .i64 n63),(.sl 1 l64),(.int .i64 n65),(.int .i64 n66),(.int .i64 n67)])
        else
         none
       else
        some (.inr (.inl [(.sl 6 l20),(.int .i64 n21),(.int .i64 (A.wrap .i64 (A.add n22 1))),(.sl 2 l47),(.sl 4 l48),(.sl 4 l49),(.sl 6 l50),(.sl 1 l51),(.sl 4 l52),(.int .i64 n53),(.int .i64 n54),(.int .i64 n55),(.int .i64 n56),(.sl 1 l57),(.sl 1 l58)]))
      ) [(.int .i64 n43),(.int .i64 0),(.sl 2 l23),(.sl 4 l24),(.sl 4 l25),(.sl 6 l26),(.sl 1 l27),(.sl 4 l28),(.int .i64 n29),(.int .i64 n30),(.int .i64 n31),(.int .i64 n32),(.sl 1 l33),(.sl 1 l34),(.str s35),(.int .i64 n36),(.int .i64 n37),(.int .i64 n38),(.int .i64 n39),(.sl 1 l40),(.int .i64 n36),(.int .i64 n37),(.int .i64 n38)]
     else
      none
    else
     E.lp (fun ds71=>
      (opL (A.cell ds71 0) 4).bind fun l72=>
      (opI (A.cell ds71 1) .i64).bind fun n73=>
      (opI (A.cell ds71 2) .i64).bind fun n74=>
      (opL (A.cell ds71 3) 2).bind fun l75=>
      (opL (A.cell ds71 4) 4).bind fun l76=>
      (opL (A.cell ds71 5) 4).bind fun l77=>
      (opL (A.cell ds71 6) 6).bind fun l78=>
      (opL (A.cell ds71 7) 1).bind fun l79=>
      (opL (A.cell ds71 8) 4).bind fun l80=>
      (opI (A.cell ds71 9) .i64).bind fun n81=>
      (opI (A.cell ds71 10) .i64).bind fun n82=>
      (opI (A.cell ds71 11) .i64).bind fun n83=>
      (opI (A.cell ds71 12) .i64).bind fun n84=>
      (opL (A.cell ds71 13) 1).bind fun l85=>
      (opL (A.cell ds71 14) 1).bind fun l86=>
      bif (A.ilt n74 n73)then
       bif (A.inr n74 (A.rlen l72))then
        (opS (A.cell (A.row l72 n74) 0)).bind fun s87=>
        (opI (A.cell (A.row l72 n74) 1) .i64).bind fun n88=>
        (opI (A.cell (A.row l72 n74) 2) .i64).bind fun n89=>
        (opI (A.cell (A.row l72 n74) 3) .i64).bind fun n90=>
        (E.call 14 [(.agg [(.d (.int .i64 n88)),(.d (.int .i64 n89)),(.d (.int .i64 n90))])]).bind fun p91=>
        (opI (A.cell p91.leaves 0) .i64).bind fun n93=>
        E.lp (fun ds94=>
         (opI (A.cell ds94 0) .i64).bind fun n95=>
         (opI (A.cell ds94 1) .i64).bind fun n96=>
         (opL (A.cell ds94 2) 2).bind fun l97=>
         (opL (A.cell ds94 3) 4).bind fun l98=>
         (opL (A.cell ds94 4) 4).bind fun l99=>
         (opL (A.cell ds94 5) 6).bind fun l100=>
         (opL (A.cell ds94 6) 1).bind fun l101=>
         (opL (A.cell ds94 7) 4).bind fun l102=>
         (opI (A.cell ds94 8) .i64).bind fun n103=>
         (opI (A.cell ds94 9) .i64).bind fun n104=>
         (opI (A.cell ds94 10) .i64).bind fun n105=>
         (opI (A.cell ds94 11) .i64).bind fun n106=>
         (opL (A.cell ds94 12) 1).bind fun l107=>
         (opL (A.cell ds94 13) 1).bind fun l108=>
         (opS (A.cell ds94 14)).bind fun s109=>
         (opI (A.cell ds94 15) .i64).bind fun n110=>
         (opI (A.cell ds94 16) .i64).bind fun n111=>
         (opI (A.cell ds94 17) .i64).bind fun n112=>
         (opI (A.cell ds94 18) .i64).bind fun n113=>
         (opI (A.cell ds94 19) .i64).bind fun n114=>
         (opI (A.cell ds94 20) .i64).bind fun n115=>
         bif (A.ilt n96 n95)then
          (E.call 15 [(.agg [(.d (.int .i64 n113)),(.d (.int .i64 n114)),(.d (.int .i64 n115))])]).bind fun p116=>
          (opI (A.cell p116.leaves 0) .i64).bind fun n118=>
          bif (A.fits l108 [[(.int .i64 n118)]] 8)then
           some (.inl [(.int .i64 n95),(.int .i64 (A.wrap .i64 (A.add n96 1))),(.sl 2 l97),(.sl 4 l98),(.sl 4 l99),(.sl 6 l100),(.sl 1 l101),(.sl 4 l102),(.int .i64 n103),(.int .i64 n104),(.int .i64 n105),(.int .i64 n106),(.sl 1 l107),(.sl 1 (A.rapp l108 [[(.int .i64 n118)]])),(.str s109),(.int .i64 n110),(.int .i64 n111),(.int .i64 n112),(.int .i64 n113),(.int .i64 n114),(.int .i64 n115)])
          else
           none
         else
          some (.inr (.inl [(.sl 4 l72),(.int .i64 n73),(.int .i64 (A.wrap .i64 (A.add n74 1))),(.sl 2 l97),(.sl 4 l98),(.sl 4 l99),(.sl 6 l100),(.sl 1 l101),(.sl 4 l102),(.int .i64 n103),(.int .i64 n104),(.int .i64 n105),(.int .i64 n106),(.sl 1 l107),(.sl 1 l108)]))
        ) [(.int .i64 n93),(.int .i64 0),(.sl 2 l75),(.sl 4 l76),(.sl 4 l77),(.sl 6 l78),(.sl 1 l79),(.sl 4 l80),(.int .i64 n81),(.int .i64 n82),(.int .i64 n83),(.int .i64 n84),(.sl 1 l85),(.sl 1 l86),(.str s87),(.int .i64 n88),(.int .i64 n89),(.int .i64 n90),(.int .i64 n88),(.int .i64 n89),(.int .i64 n90)]
       else
        none
      else
       E.lp (fun ds119=>
        (opL (A.cell ds119 0) 4).bind fun l120=>
        (opI (A.cell ds119 1) .i64).bind fun n121=>
        (opI (A.cell ds119 2) .i64).bind fun n122=>
        (opL (A.cell ds119 3) 2).bind fun l123=>
        (opL (A.cell ds119 4) 4).bind fun l124=>
        (opL (A.cell ds119 5) 4).bind fun l125=>
        (opL (A.cell ds119 6) 6).bind fun l126=>
        (opL (A.cell ds119 7) 1).bind fun l127=>
        (opL (A.cell ds119 8) 4).bind fun l128=>
        (opI (A.cell ds119 9) .i64).bind fun n129=>
        (opI (A.cell ds119 10) .i64).bind fun n130=>
        (opI (A.cell ds119 11) .i64).bind fun n131=>
        (opI (A.cell ds119 12) .i64).bind fun n132=>
        (opL (A.cell ds119 13) 1).bind fun l133=>
        (opL (A.cell ds119 14) 1).bind fun l134=>
        bif (A.ilt n122 n121)then
         bif (A.inr n122 (A.rlen l120))then
          (opS (A.cell (A.row l120 n122) 0)).bind fun s135=>
          (opI (A.cell (A.row l120 n122) 1) .i64).bind fun n136=>
          (opI (A.cell (A.row l120 n122) 2) .i64).bind fun n137=>
          (opI (A.cell (A.row l120 n122) 3) .i64).bind fun n138=>
          (E.call 14 [(.agg [(.d (.int .i64 n136)),(.d (.int .i64 n137)),(.d (.int .i64 n138))])]).bind fun p139=>
          (opI (A.cell p139.leaves 0) .i64).bind fun n141=>
          E.lp (fun ds142=>
           (opI (A.cell ds142 0) .i64).bind fun n143=>
           (opI (A.cell ds142 1) .i64).bind fun n144=>
           (opL (A.cell ds142 2) 2).bind fun l145=>
           (opL (A.cell ds142 3) 4).bind fun l146=>
           (opL (A.cell ds142 4) 4).bind fun l147=>
           (opL (A.cell ds142 5) 6).bind fun l148=>
           (opL (A.cell ds142 6) 1).bind fun l149=>
           (opL (A.cell ds142 7) 4).bind fun l150=>
           (opI (A.cell ds142 8) .i64).bind fun n151=>
           (opI (A.cell ds142 9) .i64).bind fun n152=>
           (opI (A.cell ds142 10) .i64).bind fun n153=>
           (opI (A.cell ds142 11) .i64).bind fun n154=>
           (opL (A.cell ds142 12) 1).bind fun l155=>
           (opL (A.cell ds142 13) 1).bind fun l156=>
           (opS (A.cell ds142 14)).bind fun s157=>
           (opI (A.cell ds142 15) .i64).bind fun n158=>
           (opI (A.cell ds142 16) .i64).bind fun n159=>
           (opI (A.cell ds142 17) .i64).bind fun n160=>
           (opI (A.cell ds142 18) .i64).bind fun n161=>
           (opI (A.cell ds142 19) .i64).bind fun n162=>
           (opI (A.cell ds142 20) .i64).bind fun n163=>
           bif (A.ilt n144 n143)then
            (E.call 15 [(.agg [(.d (.int .i64 n161)),(.d (.int .i64 n162)),(.d (.int .i64 n163))])]).bind fun p164=>
            (opI (A.cell p164.leaves 0) .i64).bind fun n166=>
            bif (A.fits l156 [[(.int .i64 n166)]] 8)then
             some (.inl [(.int .i64 n143),(.int .i64 (A.wrap .i64 (A.add n144 1))),(.sl 2 l145),(.sl 4 l146),(.sl 4 l147),(.sl 6 l148),(.sl 1 l149),(.sl 4 l150),(.int .i64 n151),(.int .i64 n152),(.int .i64 n153),(.int .i64 n154),(.sl 1 l155),(.sl 1 (A.rapp l156 [[(.int .i64 n166)]])),(.str s157),(.int .i64 n158),(.int .i64 n159),(.int .i64 n160),(.int .i64 n161),(.int .i64 n162),(.int .i64 n163)])
            else
             none
           else
            some (.inr (.inl [(.sl 4 l120),(.int .i64 n121),(.int .i64 (A.wrap .i64 (A.add n122 1))),(.sl 2 l145),(.sl 4 l146),(.sl 4 l147),(.sl 6 l148),(.sl 1 l149),(.sl 4 l150),(.int .i64 n151),(.int .i64 n152),(.int .i64 n153),(.int .i64 n154),(.sl 1 l155),(.sl 1 l156)]))
          ) [(.int .i64 n141),(.int .i64 0),(.sl 2 l123),(.sl 4 l124),(.sl 4 l125),(.sl 6 l126),(.sl 1 l127),(.sl 4 l128),(.int .i64 n129),(.int .i64 n130),(.int .i64 n131),(.int .i64 n132),(.sl 1 l133),(.sl 1 l134),(.str s135),(.int .i64 n136),(.int .i64 n137),(.int .i64 n138),(.int .i64 n136),(.int .i64 n137),(.int .i64 n138)]
         else
          none
        else
         bif (A.fits l134 l127 8)then
          some (.inr (.inr (.inr (.inr (PRes.val [(.sl 1 l133),(.sl 1 (A.rapp l134 l127)),(.int .i64 n131),(.int .i64 n132)])))))
         else
          none
       ) [(.sl 4 l77),(.int .i64 (A.rlen l77)),(.int .i64 0),(.sl 2 l75),(.sl 4 l76),(.sl 4 l77),(.sl 6 l78),(.sl 1 l79),(.sl 4 l80),(.int .i64 n81),(.int .i64 n82),(.int .i64 n83),(.int .i64 (A.rlen l86)),(.sl 1 l85),(.sl 1 l86)]
     ) [(.sl 4 l24),(.int .i64 (A.rlen l24)),(.int .i64 0),(.sl 2 l23),(.sl 4 l24),(.sl 4 l25),(.sl 6 l26),(.sl 1 l27),(.sl 4 l28),(.int .i64 n29),(.int .i64 n30),(.int .i64 (A.rlen l34)),(.int .i64 n32),(.sl 1 l33),(.sl 1 l34)]
   ) [(.sl 6 l8),(.int .i64 (A.rlen l8)),(.int .i64 0),(.sl 2 l5),(.sl 4 l6),(.sl 4 l7),(.sl 6 l8),(.sl 1 l9),(.sl 4 l10),(.int .i64 n11),(.int .i64 n12),(.int .i64 n13),(.int .i64 n14),(.sl 1 l15),(.sl 1 l16)]
 ) [(.sl 2 x_0),(.int .i64 (A.rlen x_0)),(.int .i64 0),(.sl 2 x_0),(.sl 4 x_1),(.sl 4 x_2),(.sl 6 x_3),(.sl 1 x_4),(.sl 4 x_5),(.int .i64 0),(.int .i64 0),(.int .i64 0),(.int .i64 0),(.sl 1 []),(.sl 1 [])]
theorem g8_eq (A:Sy)(E:Env)(x_0 x_1 x_2 x_3 x_4 x_5:List (List D)):(funT A Try.prog cs 8 [V.agg [V.d (.sl 2 x_0),V.d (.sl 4 x_1),V.d (.sl 4 x_2),V.d (.sl 6 x_3),V.d (.sl 1 x_4),V.d (.sl 4 x_5)]]).run E=g8 A E x_0 x_1 x_2 x_3 x_4 x_5:=by kernel_rfl
def g9 (A:Sy)(E:Env)(x_0 x_1 x_2 x_3 x_4 x_5:List (List D)):Option PRes:=
 E.lp (fun ds1=>
  (opI (A.cell ds1 0) .i64).bind fun n2=>
  (opL (A.cell ds1 1) 2).bind fun l3=>
  (opL (A.cell ds1 2) 4).bind fun l4=>
  (opL (A.cell ds1 3) 4).bind fun l5=>
  (opL (A.cell ds1 4) 6).bind fun l6=>
  (opL (A.cell ds1 5) 1).bind fun l7=>
  (opL (A.cell ds1 6) 4).bind fun l8=>
  (opI (A.cell ds1 7) .i64).bind fun n9=>
  (opI (A.cell ds1 8) .i64).bind fun n10=>
  (opI (A.cell ds1 9) .i64).bind fun n11=>
  (opI (A.cell ds1 10) .i64).bind fun n12=>
  (opL (A.cell ds1 11) 1).bind fun l13=>
  (opL (A.cell ds1 12) 1).bind fun l14=>
  bif (A.ilt n2 (A.rlen l3))then
   bif (A.inr n2 (A.rlen l3))then
    (opL (A.cell (A.skip 1 (A.row l3 n2)) 0) 1).bind fun l15=>
    bif (A.fits l13 [[(.int .i64 (A.rlen l15))]] 8)then
     some (.inl [(.int .i64 (A.wrap .i64 (A.add n2 1))),(.sl 2 l3),(.sl 4 l4),(.sl 4 l5),(.sl 6 l6),(.sl 1 l7),(.sl 4 l8),(.int .i64 n9),(.int .i64 n10),(.int .i64 n11),(.int .i64 n12),(.sl 1 (A.rapp l13 [[(.int .i64 (A.rlen l15))]])),(.sl 1 l14)])
    else
     none
   else
    none
  else
   E.lp (fun ds16=>
    (opI (A.cell ds16 0) .i64).bind fun n17=>
    (opL (A.cell ds16 1) 2).bind fun l18=>
    (opL (A.cell ds16 2) 4).bind fun l19=>
    (opL (A.cell ds16 3) 4).bind fun l20=>
    (opL (A.cell ds16 4) 6).bind fun l21=>
    (opL (A.cell ds16 5) 1).bind fun l22=>
    (opL (A.cell ds16 6) 4).bind fun l23=>
    (opI (A.cell ds16 7) .i64).bind fun n24=>
    (opI (A.cell ds16 8) .i64).bind fun n25=>
    (opI (A.cell ds16 9) .i64).bind fun n26=>
    (opI (A.cell ds16 10) .i64).bind fun n27=>
    (opL (A.cell ds16 11) 1).bind fun l28=>
    (opL (A.cell ds16 12) 1).bind fun l29=>
    bif (A.ilt n17 (A.rlen l21))then
     bif (A.inr n17 (A.rlen l21))then
      (opI (A.cell (A.skip 1 (A.row l21 n17)) 0) .i64).bind fun n30=>
      (opI (A.cell (A.skip 1 (A.row l21 n17)) 1) .i64).bind fun n31=>
      (opI (A.cell (A.skip 1 (A.row l21 n17)) 2) .i64).bind fun n32=>
      E.lp (fun ds33=>
       (opI (A.cell ds33 0) .i64).bind fun n34=>
       (opL (A.cell ds33 1) 2).bind fun l35=>
       (opL (A.cell ds33 2) 4).bind fun l36=>
       (opL (A.cell ds33 3) 4).bind fun l37=>
       (opL (A.cell ds33 4) 6).bind fun l38=>
       (opL (A.cell ds33 5) 1).bind fun l39=>
       (opL (A.cell ds33 6) 4).bind fun l40=>
       (opI (A.cell ds33 7) .i64).bind fun n41=>
       (opI (A.cell ds33 8) .i64).bind fun n42=>
       (opI (A.cell ds33 9) .i64).bind fun n43=>
       (opI (A.cell ds33 10) .i64).bind fun n44=>
       (opL (A.cell ds33 11) 1).bind fun l45=>
       (opL (A.cell ds33 12) 1).bind fun l46=>
       (opI (A.cell ds33 13) .i64).bind fun n47=>
       (opI (A.cell ds33 14) .i64).bind fun n48=>
       (opI (A.cell ds33 15) .i64).bind fun n49=>
       (E.call 24 [(.agg [(.d (.int .i64 n47)),(.d (.int .i64 n48)),(.d (.int .i64 n49))])]).bind fun p50=>
       (opI (A.cell p50.leaves 0) .i64).bind fun n52=>
       bif (A.ilt n34 n52)then
        (E.call 25 [(.agg [(.d (.int .i64 n47)),(.d (.int .i64 n48)),(.d (.int .i64 n49))])]).bind fun p53=>
        (opI (A.cell p53.leaves 0) .i64).bind fun n55=>
        bif (A.fits l46 [[(.int .i64 n55)]] 8)then
         some (.inl [(.int .i64 (A.wrap .i64 (A.add n34 1))),(.sl 2 l35),(.sl 4 l36),(.sl 4 l37),(.sl 6 l38),(.sl 1 l39),(.sl 4 l40),(.int .i64 n41),(.int .i64 n42),(.int .i64 n43),(.int .i64 n44),(.sl 1 l45),(.sl 1 (A.rapp l46 [[(.int .i64 n55)]])),(.int .i64 n47),(.int .i64 n48),(.int .i64 n49)])
        else
         none
       else
        some (.inr (.inl [(.int .i64 (A.wrap .i64 (A.add n17 1))),(.sl 2 l35),(.sl 4 l36),(.sl 4 l37),(.sl 6 l38),(.sl 1 l39),(.sl 4 l40),(.int .i64 n41),(.int .i64 n42),(.int .i64 n43),(.int .i64 n44),(.sl 1 l45),(.sl 1 l46)]))
      ) [(.int .i64 0),(.sl 2 l18),(.sl 4 l19),(.sl 4 l20),(.sl 6 l21),(.sl 1 l22),(.sl 4 l23),(.int .i64 n24),(.int .i64 n25),(.int .i64 n26),(.int .i64 n27),(.sl 1 l28),(.sl 1 l29),(.int .i64 n30),(.int .i64 n31),(.int .i64 n32)]
     else
      none
    else
     E.lp (fun ds56=>
      (opI (A.cell ds56 0) .i64).bind fun n57=>
      (opL (A.cell ds56 1) 2).bind fun l58=>
      (opL (A.cell ds56 2) 4).bind fun l59=>
      (opL (A.cell ds56 3) 4).bind fun l60=>
      (opL (A.cell ds56 4) 6).bind fun l61=>
      (opL (A.cell ds56 5) 1).bind fun l62=>
      (opL (A.cell ds56 6) 4).bind fun l63=>
      (opI (A.cell ds56 7) .i64).bind fun n64=>
      (opI (A.cell ds56 8) .i64).bind fun n65=>
      (opI (A.cell ds56 9) .i64).bind fun n66=>
      (opI (A.cell ds56 10) .i64).bind fun n67=>
      (opL (A.cell ds56 11) 1).bind fun l68=>
      (opL (A.cell ds56 12) 1).bind fun l69=>
      bif (A.ilt n57 (A.rlen l59))then
       bif (A.inr n57 (A.rlen l59))then
        (opI (A.cell (A.skip 1 (A.row l59 n57)) 0) .i64).bind fun n70=>
        (opI (A.cell (A.skip 1 (A.row l59 n57)) 1) .i64).bind fun n71=>
        (opI (A.cell (A.skip 1 (A.row l59 n57)) 2) .i64).bind fun n72=>
        E.lp (fun ds73=>
         (opI (A.cell ds73 0) .i64).bind fun n74=>
         (opL (A.cell ds73 1) 2).bind fun l75=>
         (opL (A.cell ds73 2) 4).bind fun l76=>
         (opL (A.cell ds73 3) 4).bind fun l77=>
         (opL (A.cell ds73 4) 6).bind fun l78=>
         (opL (A.cell ds73 5) 1).bind fun l79=>
         (opL (A.cell ds73 6) 4).bind fun l80=>
         (opI (A.cell ds73 7) .i64).bind fun n81=>
         (opI (A.cell ds73 8) .i64).bind fun n82=>
         (opI (A.cell ds73 9) .i64).bind fun n83=>
         (opI (A.cell ds73 10) .i64).bind fun n84=>
         (opL (A.cell ds73 11) 1).bind fun l85=>
         (opL (A.cell ds73 12) 1).bind fun l86=>
         (opI (A.cell ds73 13) .i64).bind fun n87=>
         (opI (A.cell ds73 14) .i64).bind fun n88=>
         (opI (A.cell ds73 15) .i64).bind fun n89=>
         (E.call 24 [(.agg [(.d (.int .i64 n87)),(.d (.int .i64 n88)),(.d (.int .i64 n89))])]).bind fun p90=>
         (opI (A.cell p90.leaves 0) .i64).bind fun n92=>
         bif (A.ilt n74 n92)then
          (E.call 25 [(.agg [(.d (.int .i64 n87)),(.d (.int .i64 n88)),(.d (.int .i64 n89))])]).bind fun p93=>
          (opI (A.cell p93.leaves 0) .i64).bind fun n95=>
          bif (A.fits l86 [[(.int .i64 n95)]] 8)then
           some (.inl [(.int .i64 (A.wrap .i64 (A.add n74 1))),(.sl 2 l75),(.sl 4 l76),(.sl 4 l77),(.sl 6 l78),(.sl 1 l79),(.sl 4 l80),(.int .i64 n81),(.int .i64 n82),(.int .i64 n83),(.int .i64 n84),(.sl 1 l85),(.sl 1 (A.rapp l86 [[(.int .i64 n95)]])),(.int .i64 n87),(.int .i64 n88),(.int .i64 n89)])
          else
           none
         else
          some (.inr (.inl [(.int .i64 (A.wrap .i64 (A.add n57 1))),(.sl 2 l75),(.sl 4 l76),(.sl 4 l77),(.sl 6 l78),(.sl 1 l79),(.sl 4 l80),(.int .i64 n81),(.int .i64 n82),(.int .i64 n83),(.int .i64 n84),(.sl 1 l85),(.sl 1 l86)]))
        ) [(.int .i64 0),(.sl 2 l58),(.sl 4 l59),(.sl 4 l60),(.sl 6 l61),(.sl 1 l62),(.sl 4 l63),(.int .i64 n64),(.int .i64 n65),(.int .i64 n66),(.int .i64 n67),(.sl 1 l68),(.sl 1 l69),(.int .i64 n70),(.int .i64 n71),(.int .i64 n72)]
       else
        none
      else
       E.lp (fun ds96=>
        (opI (A.cell ds96 0) .i64).bind fun n97=>
        (opL (A.cell ds96 1) 2).bind fun l98=>
        (opL (A.cell ds96 2) 4).bind fun l99=>
        (opL (A.cell ds96 3) 4).bind fun l100=>
        (opL (A.cell ds96 4) 6).bind fun l101=>
        (opL (A.cell ds96 5) 1).bind fun l102=>
        (opL (A.cell ds96 6) 4).bind fun l103=>
        (opI (A.cell ds96 7) .i64).bind fun n104=>
        (opI (A.cell ds96 8) .i64).bind fun n105=>
        (opI (A.cell ds96 9) .i64).bind fun n106=>
        (opI (A.cell ds96 10) .i64).bind fun n107=>
        (opL (A.cell ds96 11) 1).bind fun l108=>
        (opL (A.cell ds96 12) 1).bind fun l109=>
        bif (A.ilt n97 (A.rlen l100))then
         bif (A.inr n97 (A.rlen l100))then
          (opI (A.cell (A.skip 1 (A.row l100 n97)) 0) .i64).bind fun n110=>
          (opI (A.cell (A.skip 1 (A.row l100 n97)) 1) .i64).bind fun n111=>
          (opI (A.cell (A.skip 1 (A.row l100 n97)) 2) .i64).bind fun n112=>
          E.lp (fun ds113=>
           (opI (A.cell ds113 0) .i64).bind fun n114=>
           (opL (A.cell ds113 1) 2).bind fun l115=>
           (opL (A.cell ds113 2) 4).bind fun l116=>
           (opL (A.cell ds113 3) 4).bind fun l117=>
           (opL (A.cell ds113 4) 6).bind fun l118=>
           (opL (A.cell ds113 5) 1).bind fun l119=>
           (opL (A.cell ds113 6) 4).bind fun l120=>
           (opI (A.cell ds113 7) .i64).bind fun n121=>
           (opI (A.cell ds113 8) .i64).bind fun n122=>
           (opI (A.cell ds113 9) .i64).bind fun n123=>
           (opI (A.cell ds113 10) .i64).bind fun n124=>
           (opL (A.cell ds113 11) 1).bind fun l125=>
           (opL (A.cell ds113 12) 1).bind fun l126=>
           (opI (A.cell ds113 13) .i64).bind fun n127=>
           (opI (A.cell ds113 14) .i64).bind fun n128=>
           (opI (A.cell ds113 15) .i64).bind fun n129=>
           (E.call 24 [(.agg [(.d (.int .i64 n127)),(.d (.int .i64 n128)),(.d (.int .i64 n129))])]).bind fun p130=>
           (opI (A.cell p130.leaves 0) .i64).bind fun n132=>
           bif (A.ilt n114 n132)then
            (E.call 25 [(.agg [(.d (.int .i64 n127)),(.d (.int .i64 n128)),(.d (.int .i64 n129))])]).bind fun p133=>
            (opI (A.cell p133.leaves 0) .i64).bind fun n135=>
            bif (A.fits l126 [[(.int .i64 n135)]] 8)then
             some (.inl [(.int .i64 (A.wrap .i64 (A.add n114 1))),(.sl 2 l115),(.sl 4 l116),(.sl 4 l117),(.sl 6 l118),(.sl 1 l119),(.sl 4 l120),(.int .i64 n121),(.int .i64 n122),(.int .i64 n123),(.int .i64 n124),(.sl 1 l125),(.sl 1 (A.rapp l126 [[(.int .i64 n135)]])),(.int .i64 n127),(.int .i64 n128),(.int .i64 n129)])
            else
             none
           else
            some (.inr (.inl [(.int .i64 (A.wrap .i64 (A.add n97 1))),(.sl 2 l115),(.sl 4 l116),(.sl 4 l117),(.sl 6 l118),(.sl 1 l119),(.sl 4 l120),(.int .i64 n121),(.int .i64 n122),(.int .i64 n123),(.int .i64 n124),(.sl 1 l125),(.sl 1 l126)]))
          ) [(.int .i64 0),(.sl 2 l98),(.sl 4 l99),(.sl 4 l100),(.sl 6 l101),(.sl 1 l102),(.sl 4 l103),(.int .i64 n104),(.int .i64 n105),(.int .i64 n106),(.int .i64 n107),(.sl 1 l108),(.sl 1 l109),(.int .i64 n110),(.int .i64 n111),(.int .i64 n112)]
         else
          none
        else
         bif (A.fits l109 l102 8)then
          some (.inr (.inr (.inr (.inr (PRes.val [(.sl 1 l108),(.sl 1 (A.rapp l109 l102)),(.int .i64 n106),(.int .i64 n107)])))))
         else
          none
       ) [(.int .i64 0),(.sl 2 l58),(.sl 4 l59),(.sl 4 l60),(.sl 6 l61),(.sl 1 l62),(.sl 4 l63),(.int .i64 n64),(.int .i64 n65),(.int .i64 n66),(.int .i64 (A.rlen l69)),(.sl 1 l68),(.sl 1 l69)]
     ) [(.int .i64 0),(.sl 2 l18),(.sl 4 l19),(.sl 4 l20),(.sl 6 l21),(.sl 1 l22),(.sl 4 l23),(.int .i64 n24),(.int .i64 n25),(.int .i64 (A.rlen l29)),(.int .i64 n27),(.sl 1 l28),(.sl 1 l29)]
   ) [(.int .i64 0),(.sl 2 l3),(.sl 4 l4),(.sl 4 l5),(.sl 6 l6),(.sl 1 l7),(.sl 4 l8),(.int .i64 n9),(.int .i64 n10),(.int .i64 n11),(.int .i64 n12),(.sl 1 l13),(.sl 1 l14)]
 ) [(.int .i64 0),(.sl 2 x_0),(.sl 4 x_1),(.sl 4 x_2),(.sl 6 x_3),(.sl 1 x_4),(.sl 4 x_5),(.int .i64 0),(.int .i64 0),(.int .i64 0),(.int .i64 0),(.sl 1 []),(.sl 1 [])]
theorem g9_eq (A:Sy)(E:Env)(x_0 x_1 x_2 x_3 x_4 x_5:List (List D)):(funT A Try.prog cs 9 [V.agg [V.d (.sl 2 x_0),V.d (.sl 4 x_1),V.d (.sl 4 x_2),V.d (.sl 6 x_3),V.d (.sl 1 x_4),V.d (.sl 4 x_5)]]).run E=g9 A E x_0 x_1 x_2 x_3 x_4 x_5:=by kernel_rfl
def g12 (A:Sy)(E:Env)(a_ b_:List (List D)):Option PRes:=
 bif (A.bnot (A.ieq (A.rlen a_) (A.rlen b_)))then
  some (PRes.val [(.bool false)])
 else
  E.lp (fun ds1=>
   (opL (A.cell ds1 0) 1).bind fun l2=>
   (opL (A.cell ds1 1) 1).bind fun l3=>
   (opI (A.cell ds1 2) .i64).bind fun n4=>
   bif (A.ilt n4 (A.rlen l2))then
    bif (A.inr n4 (A.rlen l2))then
     (opI (A.cell (A.row l2 n4) 0) .i64).bind fun n5=>
     bif (A.inr n4 (A.rlen l3))then
      (opI (A.cell (A.row l3 n4) 0) .i64).bind fun n6=>
      bif (A.bnot (A.ieq n5 n6))then
       some (.inr (PRes.val [(.bool false)]))
      else
       some (.inl [(.sl 1 l2),(.sl 1 l3),(.int .i64 (A.wrap .i64 (A.add n4 1)))])
     else
      none
    else
     none
   else
    some (.inr (PRes.val [(.bool true)]))
  ) [(.sl 1 a_),(.sl 1 b_),(.int .i64 0)]
theorem g12_eq (A:Sy)(E:Env)(a_ b_:List (List D)):(funT A Try.prog cs 12 [V.d (.sl 1 a_),V.d (.sl 1 b_)]).run E=g12 A E a_ b_:=by kernel_rfl
def g14 (A:Sy)(E:Env)(t_0 t_1 t_2:Int):Option PRes:=
 some (PRes.val [(.int .i64 (A.imin (A.imax t_2 1) 8))])
theorem g14_eq (A:Sy)(E:Env)(t_0 t_1 t_2:Int):(funT A Try.prog cs 14 [V.agg [V.d (.int .i64 t_0),V.d (.int .i64 t_1),V.d (.int .i64 t_2)]]).run E=g14 A E t_0 t_1 t_2:=by kernel_rfl
def g15 (A:Sy)(E:Env)(t_0 t_1 t_2:Int):Option PRes:=
 cutO (
  bif (A.ieq t_0 1)then
   some (.inl [(.bool true)])
  else
   some (.inl [(.bool (A.ieq t_0 2))])
 ) fun ds1=>
 (opB (A.cell ds1 0)).bind fun b2=>
 bif b2 then
  some (PRes.val [(.int .i64 t_0)])
 else
  cutO (
   bif (A.ieq t_0 3)then
    some (.inl [(.bool (A.ile 0 t_1))])
   else
    some (.inl [(.bool false)])
  ) fun ds3=>
  (opB (A.cell ds3 0)).bind fun b4=>
  cutO (
   bif b4 then
    some (.inl [(.bool (A.ile t_1 1000))])
   else
    some (.inl [(.bool false)])
  ) fun ds5=>
  (opB (A.cell ds5 0)).bind fun b6=>
  bif b6 then
   some (PRes.val [(.int .i64 (A.wrap .i64 (A.add 3 t_1)))])
  else
   some (PRes.val [(.int .i64 0)])
theorem g15_eq (A:Sy)(E:Env)(t_0 t_1 t_2:Int):(funT A Try.prog cs 15 [V.agg [V.d (.int .i64 t_0),V.d (.int .i64 t_1),V.d (.int .i64 t_2)]]).run E=g15 A E t_0 t_1 t_2:=by kernel_rfl
def g24 (A:Sy)(E:Env)(t_0 t_1 t_2:Int):Option PRes:=
 bif (A.ilt t_2 1)then
  some (PRes.val [(.int .i64 1)])
 else
  bif (A.ilt 8 t_2)then
   some (PRes.val [(.int .i64 8)])
  else
   some (PRes.val [(.int .i64 t_2)])
theorem g24_eq (A:Sy)(E:Env)(t_0 t_1 t_2:Int):(funT A Try.prog cs 24 [V.agg [V.d (.int .i64 t_0),V.d (.int .i64 t_1),V.d (.int .i64 t_2)]]).run E=g24 A E t_0 t_1 t_2:=by kernel_rfl
def g25 (A:Sy)(E:Env)(t_0 t_1 t_2:Int):Option PRes:=
 cutO (
  bif (A.ieq t_0 1)then
   some (.inl [(.bool true)])
  else
   some (.inl [(.bool (A.ieq t_0 2))])
 ) fun ds1=>
 (opB (A.cell ds1 0)).bind fun b2=>
 bif b2 then
  some (PRes.val [(.int .i64 t_0)])
 else
  cutO (
   bif (A.ieq t_0 3)then
    some (.inl [(.bool (A.ile 0 t_1))])
   else
    some (.inl [(.bool false)])
  ) fun ds3=>
  (opB (A.cell ds3 0)).bind fun b4=>
  cutO (
   bif b4 then
    some (.inl [(.bool (A.ile t_1 1000))])
   else
    some (.inl [(.bool false)])
  ) fun ds5=>
  (opB (A.cell ds5 0)).bind fun b6=>
  bif b6 then
   some (PRes.val [(.int .i64 (A.wrap .i64 (A.add 3 t_1)))])
  else
   some (PRes.val [(.int .i64 0)])
theorem g25_eq (A:Sy)(E:Env)(t_0 t_1 t_2:Int):(funT A Try.prog cs 25 [V.agg [V.d (.int .i64 t_0),V.d (.int .i64 t_1),V.d (.int .i64 t_2)]]).run E=g25 A E t_0 t_1 t_2:=by kernel_rfl
end Go.Vm
end
section
namespace Go.Vm
theorem loopF_ex {σ α:Type}{b:List D→Option (List D ⊕ α)}{Q:α→Prop}(mk:σ→List D)(I:σ→Prop)(μ:σ→Nat)
  (h: ∀x,I x→(∃y,b (mk x)=some (.inl (mk y))∧I y∧μ y < μ x)∨ ∃r,b (mk x)=some (.inr r)∧Q r) (x:σ) (h0:I x): ∃r,loopF b (mk x)=some r∧Q r:=by
 suffices ∀n x,μ x < n→I x→ ∃r,loopF b (mk x)=some r∧Q r from this _ x (Nat.lt_succ_self _) h0
 intro n
 induction n with
 |zero=>intro x h;omega
 |succ n ih=>
  intro x hlt hi
  rw[loopF_eq]
  rcases h x hi with⟨d,h1,h2,h3⟩|⟨r,h1,h2⟩
  ·rw[h1];exact ih d (by omega) h2
  ·rw[h1];exact⟨r,rfl,h2⟩
end Go.Vm
end
section
namespace Go.Vm
open Go.Proofs
mutual
def sameD:Nat→D→D→Bool
 |0,_,_=>false
 |_+1, .int k a, .int k' b=>decide (k=k')&&decide (a=b)
 |_+1, .bool a, .bool b=>a == b
 |_+1, .str a, .str b=>decide (a.data.toList=b.data.toList)
 |n+1, .sl z r, .sl z' r'=>decide (z=z')&&sameR n r r'
 |_+1,_,_=>false
def sameR:Nat→List (List D)→List (List D)→Bool
 |0,_,_=>false
 |_+1,[],[]=>true
 |n+1,a::r,b::r'=>sameL n a b&&sameR n r r'
 |_+1,_,_=>false
def sameL:Nat→List D→List D→Bool
 |0,_,_=>false
 |_+1,[],[]=>true
 |n+1,a::r,b::r'=>sameD n a b&&sameL n r r'
 |_+1,_,_=>false
end
theorem same_eq: ∀n,(∀a b,sameD n a b=true→a=b)∧(∀a b,sameR n a b=true→a=b)∧(∀a b,sameL n a b=true→a=b)
 |0=>⟨fun _ _ h=>by simp [sameD]at h,fun _ _ h=>by simp [sameR]at h,fun _ _ h=>by simp [sameL]at h⟩
 |n+1=>by
  obtain⟨h1,h2,h3⟩:=same_eq n
  refine⟨fun a b h=> ?_,fun a b h=> ?_,fun a b h=> ?_⟩
  ·unfold sameD at h
   split at h
   ·rename_i e;cases e
   ·simp only [Bool.and_eq_true,decide_eq_true_eq]at h;rw[h.1,h.2]
   ·rw[beq_iff_eq]at h;rw[h]
   ·rename_i x y _
    have h:=of_decide_eq_true h
    have:x=y:=by cases x;cases y;simp only [ByteArray.mk.injEq];exact Array.toList_inj.1 h
    rw[this]
   ·rename_i e;cases e
    simp only [Bool.and_eq_true,decide_eq_true_eq]at h;rw[h.1,h2 _ _ h.2]
   ·cases h
  ·unfold sameR at h
   split at h
   ·rename_i e;cases e
   ·rfl
   ·rename_i e;cases e
    simp only [Bool.and_eq_true]at h;rw[h3 _ _ h.1,h2 _ _ h.2]
   ·cases h
  ·unfold sameL at h
   split at h
   ·rename_i e;cases e
   ·rfl
   ·rename_i e;cases e
    simp only [Bool.and_eq_true]at h;rw[h1 _ _ h.1,h3 _ _ h.2]
   ·cases h
mutual
def sameV:Nat→V→V→Bool
 |0,_,_=>false
 |n+1, .d a, .d b=>sameD n a b
 |n+1, .agg a, .agg b=>sameVs n a b
 |n+1, .fn f a, .fn g b=>decide (f=g)&&sameVs n a b
 |_+1,_,_=>false
def sameVs:Nat→List V→List V→Bool
 |0,_,_=>false
 |_+1,[],[]=>true
 |n+1,a::r,b::r'=>sameV n a b&&sameVs n r r'
 |_+1,_,_=>false
end
theorem sameV_eq: ∀n,(∀a b,sameV n a b=true→a=b)∧(∀a b,sameVs n a b=true→a=b)
 |0=>⟨fun _ _ h=>by simp [sameV]at h,fun _ _ h=>by simp [sameVs]at h⟩
 |n+1=>by
  obtain⟨h1,h2⟩:=sameV_eq n
  refine⟨fun a b h=> ?_,fun a b h=> ?_⟩
  ·unfold sameV at h
   split at h
   ·rename_i e;cases e
   ·rename_i e;cases e;rw[(same_eq _).1 _ _ h]
   ·rename_i e;cases e;rw[h2 _ _ h]
   ·rename_i e;cases e;simp only [Bool.and_eq_true,decide_eq_true_eq]at h;rw[h.1,h2 _ _ h.2]
   ·cases h
  ·unfold sameVs at h
   split at h
   ·rename_i e;cases e
   ·rfl
   ·rename_i e;cases e
    simp only [Bool.and_eq_true]at h;rw[h1 _ _ h.1,h2 _ _ h.2]
   ·cases h
theorem run_up {c c':FuncId→List V→Option PRes}{n:Nat}(hc: ∀f a p,c f a=some p→c' f a=some p):
  ∀ {α:Type} (t:Tree α) (a:α),t.run (envN n c)=some a→t.run (envF c')=some a:=by
 intro α t
 induction t with
 |ret a=>intro b h;exact h
 |fail=>intro b h;cases h
 |ite x y z ihx ihy=>
  intro b h
  cases x with
  |true=>exact ihx b h
  |false=>exact ihy b h
 |cI v k K ih|cB v K ih|cS v K ih|cL v sz K ih=>
  intro b h
  simp only [Tree.run]at h ⊢
  obtain⟨m,h1,h2⟩:=Option.bind_eq_some_iff.1 h
  simp only [h1,Option.bind_some];exact ih m b h2
 |call g args K ih=>
  intro b h
  simp only [Tree.run]at h ⊢
  obtain⟨p,hp,h2⟩:=Option.bind_eq_some_iff.1 h
  rw[show(envF c').call g args=some p from hc _ _ _ hp]
  exact ih _ b h2
 |mint g args e sz K ih=>
  intro b h
  simp only [Tree.run]at h ⊢
  obtain⟨p,hp,h2⟩:=Option.bind_eq_some_iff.1 h
  have hq:=opM_some hp
  rw[show(envF c').call g args=some (.own e sz p)from hc _ _ _ hq]
  rw[show(envN n c).call g args=_ from hq]at hp
  rw[hp]
  exact ih _ b h2
 |loop body ds ih=>
  intro b h
  simp only [Tree.run]at h ⊢
  refine loopF_some.2 ⟨n,?_⟩
  have h:iterN n (fun ds=>(body ds).run (envN n c)) ds=some b:=h
  have key: ∀m ds,iterN m (fun ds=>(body ds).run (envN n c)) ds=some b→iterN m (fun ds=>(body ds).run (envF c')) ds=some b:=by
   intro m
   induction m with
   |zero=>intro ds h;cases h
   |succ m ihm=>
    intro ds h
    simp only [iterN]at h ⊢
    cases hb:(body ds).run (envN n c)with
    |none=>rw[hb]at h;cases h
    |some s=>
     rw[hb]at h
     rw[ih ds s hb]
     cases s with
     |inl d=>exact ihm d h
     |inr x=>exact h
  exact key n ds h
 |cut x K ihx ihK=>
  intro b h
  simp only [Tree.run]at h ⊢
  obtain⟨s,h1,h2⟩:=Option.bind_eq_some_iff.1 h
  rw[ihx s h1]
  cases s with
  |inl ds=>exact ihK ds b h2
  |inr x=>exact h2
def look3:List (FuncId × List V × PRes)→FuncId→List V→Option PRes
 | [],_,_=>none
 |(g,a,p)::r,f,args=>match Nat.beq g f&&sameVs 60 a args with
  |true=>some p
  |false=>look3 r f args
theorem look3_mem: ∀ {T:List (FuncId × List V × PRes)} {f:FuncId} {args:List V} {p:PRes},look3 T f args=some p→(f,args,p)∈T
 | [],_,_,_,h=>by cases h
 |(g,a,q)::r,f,args,p,h=>by
  unfold look3 at h
  split at h
  ·rename_i hd
   simp only [Bool.and_eq_true]at hd
   cases h
   rw[Nat.eq_of_beq_eq_true hd.1,(sameV_eq _).2 _ _ hd.2]
   exact List.mem_cons_self
  ·exact List.mem_cons_of_mem _ (look3_mem h)
def knT (T:List (FuncId × List V × PRes))(f:FuncId)(args:List V):Option PRes:=match look3 T f args with
 |some p=>some p
 |none=>kn f args
theorem key_back {f:FuncId}(h:isKey f=true):bkey (unkey f)=f:=Nat.sub_add_cancel (of_decide_eq_true h)
theorem cF_runT (T:List (FuncId × List V × PRes))(hT: ∀q∈T,cF q.1 q.2.1=some q.2.2)(N:Nat){f:FuncId}{args:List V}{p:PRes}(h:callN Try.prog cs (knT T) N f args=some p):cF f args=some p:=by
 suffices ∀n f args p,callN Try.prog cs (knT T) n f args=some p→cF f args=some p from this N f args p h
 intro n
 induction n with
 |zero=>intro f args p h;cases h
 |succ n ih=>
  intro f args p h
  unfold callN at h
  cases hk:knT T f args with
  |some q=>
   rw[hk]at h
   cases h
   unfold knT at hk
   cases hl:look3 T f args with
   |some r=>rw[hl]at hk;cases hk;exact hT _ (look3_mem hl)
   |none=>rw[hl]at hk;exact callF_known hk
  |none=>
   rw[hk]at h
   simp only at h
   have hkn:kn f args=none:=by
    unfold knT at hk
    cases hl:look3 T f args with
    |some r=>rw[hl]at hk;cases hk
    |none=>rw[hl]at hk;exact hk
   cases hg:goodF Try.prog f with
   |true=>
    rw[hg]at h
    exact callF_of hg hkn (run_up (fun f a p h=>ih f a p h) _ _ h)
   |false=>
    rw[hg]at h
    cases hd:decB args with
    |none=>rw[hd]at h;cases h
    |some q=>
     obtain⟨pn,ar,hs⟩:=q
     rw[hd]at h
     cases hi:isKey f with
     |false=>rw[hi]at h;cases h
     |true=>
      rw[hi]at h
      have hb:=key_back hi
      have:=callF_ofB (P:=Try.prog) (Cs:=cs) (K:=kn) (f:=unkey f) (pn:=pn) (key:=args) (hs:=hs) (by rw[hb];exact hg) (by rw[hb];exact hkn) hd (run_up (fun f a p h=>ih f a p h) _ _ h)
      rw[hb]at this
      exact this
end Go.Vm
end
section
set_option maxRecDepth 100000
namespace Go.Vm
open Go.Proofs
def lvL:List V:=[.agg [.d (.sl 2 []), .d (.sl 5 [[.str (bs [102]), .sl 5 [], .sl 5 [[.str (bs [110]), .int .i64 1, .int .i64 0, .int .i64 0, .sl 2 []]], .sl 5 [[.str (bs [110,46,49]), .int .i64 1, .int .i64 0, .int .i64 0, .sl 2 []]], .sl 10 [[.int .i64 5, .sl 1 [[.str (bs [110])]], .int .i64 0, .sl 2 [[.str (bs [110,46,49]), .int .i64 0]], .sl 1 [[.int .i64 0]], .int .i64 0, .bool false, .str (bs []), .int .i64 0, .sl 2 []],[.int .i64 3, .sl 1 [[.str (bs [110,46,49])]], .int .i64 3, .sl 2 [[.str (bs [110]), .int .i64 0],[.str (bs []), .int .i64 1]], .sl 1 [], .int .i64 0, .bool false, .str (bs []), .int .i64 0, .sl 2 []]]]])]]
def lvF:List V:=[.agg [.d (.str (bs [102])), .d (.sl 5 []), .d (.sl 5 [[.str (bs [110]), .int .i64 1, .int .i64 0, .int .i64 0, .sl 2 []]]), .d (.sl 5 [[.str (bs [110,46,49]), .int .i64 1, .int .i64 0, .int .i64 0, .sl 2 []]]), .d (.sl 10 [[.int .i64 5, .sl 1 [[.str (bs [110])]], .int .i64 0, .sl 2 [[.str (bs [110,46,49]), .int .i64 0]], .sl 1 [[.int .i64 0]], .int .i64 0, .bool false, .str (bs []), .int .i64 0, .sl 2 []],[.int .i64 3, .sl 1 [[.str (bs [110,46,49])]], .int .i64 3, .sl 2 [[.str (bs [110]), .int .i64 0],[.str (bs []), .int .i64 1]], .sl 1 [], .int .i64 0, .bool false, .str (bs []), .int .i64 0, .sl 2 []]])]]
def lvC:List V:=[.agg [.d (.str (bs [102])), .d (.sl 5 []), .d (.sl 5 [[.str (bs [110]), .int .i64 1, .int .i64 0, .int .i64 0, .sl 2 []]]), .d (.sl 5 [[.str (bs [110,46,49]), .int .i64 1, .int .i64 0, .int .i64 0, .sl 2 []]]), .d (.sl 11 [[.int .i64 2, .int .i64 5, .sl 1 [[.str (bs [110])]], .int .i64 0, .sl 2 [[.str (bs [110,46,49]), .int .i64 0]], .sl 1 [[.int .i64 0]], .int .i64 0, .bool false, .str (bs []), .int .i64 0, .sl 2 []],[.int .i64 1, .int .i64 3, .sl 1 [[.str (bs [110,46,49])]], .int .i64 3, .sl 2 [[.str (bs [110]), .int .i64 0],[.str (bs []), .int .i64 1]], .sl 1 [], .int .i64 0, .bool false, .str (bs []), .int .i64 0, .sl 2 []],[.int .i64 3, .int .i64 5, .sl 1 [[.str (bs [110])]], .int .i64 0, .sl 2 [[.str (bs [110,46,49]), .int .i64 0]], .sl 1 [[.int .i64 0]], .int .i64 0, .bool false, .str (bs []), .int .i64 0, .sl 2 []]])]]
def lr18:PRes:=(.val [.sl 6 [[(.str (bs [110])),(.int .i64 1),(.int .i64 0),(.int .i64 0),(.int .i64 0), .sl 1 [[(.int .i64 0)]]]],(.bool true)])
def lr17:PRes:=(.val [(.int .i64 3),(.bool true)])
def lr31:PRes:=(.val [(.str (bs [102])), .sl 5 [], .sl 5 [[(.str (bs [110])),(.int .i64 1),(.int .i64 0),(.int .i64 0), .sl 2 []]], .sl 5 [[(.str (bs [110,46,49])),(.int .i64 1),(.int .i64 0),(.int .i64 0), .sl 2 []]], .sl 11 [[(.int .i64 2),(.int .i64 5), .sl 1 [[(.str (bs [110]))]],(.int .i64 0), .sl 2 [[(.str (bs [110,46,49])),(.int .i64 0)]], .sl 1 [[(.int .i64 0)]],(.int .i64 0),(.bool false),(.str (bs [])),(.int .i64 0), .sl 2 []],[(.int .i64 1),(.int .i64 3), .sl 1 [[(.str (bs [110,46,49]))]],(.int .i64 3), .sl 2 [[(.str (bs [110])),(.int .i64 0)],[(.str (bs [])),(.int .i64 1)]], .sl 1 [],(.int .i64 0),(.bool false),(.str (bs [])),(.int .i64 0), .sl 2 []],[(.int .i64 3),(.int .i64 5), .sl 1 [[(.str (bs [110]))]],(.int .i64 0), .sl 2 [[(.str (bs [110,46,49])),(.int .i64 0)]], .sl 1 [[(.int .i64 0)]],(.int .i64 0),(.bool false),(.str (bs [])),(.int .i64 0), .sl 2 []]]])
def lr30:PRes:=(.own 105 2 [[.sl 2 [], .sl 11 [[(.int .i64 2),(.int .i64 5), .sl 1 [[(.str (bs [110]))]],(.int .i64 0), .sl 2 [[(.str (bs [110,46,49])),(.int .i64 0)]], .sl 1 [[(.int .i64 0)]],(.int .i64 0),(.bool false),(.str (bs [])),(.int .i64 0), .sl 2 []],[(.int .i64 1),(.int .i64 3), .sl 1 [[(.str (bs [110,46,49]))]],(.int .i64 3), .sl 2 [[(.str (bs [110])),(.int .i64 0)],[(.str (bs [])),(.int .i64 1)]], .sl 1 [],(.int .i64 0),(.bool false),(.str (bs [])),(.int .i64 0), .sl 2 []],[(.int .i64 3),(.int .i64 5), .sl 1 [[(.str (bs [110]))]],(.int .i64 0), .sl 2 [[(.str (bs [110,46,49])),(.int .i64 0)]], .sl 1 [[(.int .i64 0)]],(.int .i64 0),(.bool false),(.str (bs [])),(.int .i64 0), .sl 2 []]]]])
def lr10:PRes:=(.val [.sl 2 [], .sl 4 [], .sl 4 [[(.str (bs [110])),(.int .i64 1),(.int .i64 0),(.int .i64 0)]], .sl 6 [[(.str (bs [110])),(.int .i64 1),(.int .i64 0),(.int .i64 0),(.int .i64 0), .sl 1 [[(.int .i64 0)]]]], .sl 1 [[(.int .i64 1)]], .sl 4 [[(.int .i64 2),(.int .i64 0),(.int .i64 0),(.int .i64 0)],[(.int .i64 3),(.int .i64 1),(.int .i64 0),(.int .i64 0)],[(.int .i64 2),(.int .i64 1),(.int .i64 0),(.int .i64 0)],[(.int .i64 1),(.int .i64 1),(.int .i64 0),(.int .i64 1)],[(.int .i64 5),(.int .i64 3),(.int .i64 0),(.int .i64 0)],[(.int .i64 3),(.int .i64 2),(.int .i64 0),(.int .i64 0)],[(.int .i64 2),(.int .i64 2),(.int .i64 0),(.int .i64 0)],[(.int .i64 3),(.int .i64 0),(.int .i64 0),(.int .i64 0)],[(.int .i64 10),(.int .i64 0),(.int .i64 0),(.int .i64 0)]],(.int .i64 0)])
theorem lv18:cF 18 lvL=some lr18:=cF_runT [] (fun _ h=>by cases h) 60 (by kernel_rfl)
theorem lv17:cF 17 lvL=some lr17:=cF_runT [(18,lvL,lr18)] (fun q h=>by
 simp only [List.mem_cons,List.mem_nil_iff,or_false]at h
 rcases h with rfl
 ·exact lv18) 60 (by kernel_rfl)
theorem lv31:cF 31 lvF=some lr31:=cF_runT [] (fun _ h=>by cases h) 60 (by kernel_rfl)
theorem lv30:cF 30 lvC=some lr30:=cF_runT [] (fun _ h=>by cases h) 60 (by kernel_rfl)
theorem lv10:cF 10 lvL=some lr10:=cF_runT [(17,lvL,lr17),(18,lvL,lr18),(31,lvF,lr31),(30,lvC,lr30)] (fun q h=>by
 simp only [List.mem_cons,List.mem_nil_iff,or_false]at h
 rcases h with rfl|rfl|rfl|rfl
 ·exact lv17
 ·exact lv18
 ·exact lv31
 ·exact lv30) 60 (by kernel_rfl)
theorem c_live32:cF 6 []=some (.val [.bool true]):=cF_runT [(10,lvL,lr10)] (fun q h=>by rw[List.mem_singleton.1 h];exact lv10) 60 (by kernel_rfl)
end Go.Vm
end
