/-
  Part TK of the proof. What is proved by the whole: the statement that the claim names, with no condition. This part: lemmas.
-/
import Derived.Test.YtdckoceiokaelaaGreatDoorTJ
set_option linter.unusedSimpArgs false
set_option linter.unusedVariables false

section
set_option maxRecDepth 1000000
set_option maxHeartbeats 0
namespace Go.Vm
open Go.Proofs
def g27 (A:Sy)(E:Env)(e_0:Int)(e_1:Int)(e_2:ByteArray)(e_3:Int)(e_4:List (List D))(e_5:List (List D)):Option PRes:=
 (E.call 25 [(kE e_0 e_1 e_2 e_3 e_4 e_5)]).bind fun p1=>
 (opB (A.cell p1.leaves 0)).bind fun b3=>
 bif (A.bnot b3)then
  some (.val [(.str (bs []))])
 else
  (E.call 57 [(kE e_0 e_1 e_2 e_3 e_4 e_5)]).bind fun p4=>
  (opS (A.cell p4.leaves 0)).bind fun s6=>
  some (.val [(.str s6)])
theorem g27_eq (A:Sy)(E:Env)(e_0:Int)(e_1:Int)(e_2:ByteArray)(e_3:Int)(e_4:List (List D))(e_5:List (List D)):(funT A Tryz.prog cs 27 [.agg [.d (.int .i64 e_0),V.d (.int .i64 e_1),V.d (.str e_2),V.d (.int .i64 e_3),V.d (.sl 1 e_4),V.d (.sl 6 e_5)]]).run E=g27 A E e_0 e_1 e_2 e_3 e_4 e_5:=by kernel_rfl
def g57 (A:Sy)(E:Env)(e_0:Int)(e_1:Int)(e_2:ByteArray)(e_3:Int)(e_4:List (List D))(e_5:List (List D)):Option PRes:=
 (E.call 104 [(.d (.sl 6 e_5))]).bind fun p1=>
 (opL (A.cell p1.leaves 0) 1).bind fun l3=>
 bif (A.ieq e_0 5)then
  bif (A.ieq e_3 1)then
   bif (A.inr 0 (A.rlen l3))then
    (opS (A.cell (A.row l3 0) 0)).bind fun s4=>
    (E.call 105 [(.d (.sl 1 [[(.str (bs [45]))],[(.str s4)]]))]).bind fun p5=>
    (opS (A.cell p5.leaves 0)).bind fun s7=>
    some (.val [(.str s7)])
   else
    none
  else
   bif (A.inr 0 (A.rlen l3))then
    (opS (A.cell (A.row l3 0) 0)).bind fun s8=>
    (E.call 105 [(.d (.sl 1 [[(.str (bs [110,111,116,32]))],[(.str s8)]]))]).bind fun p9=>
    (opS (A.cell p9.leaves 0)).bind fun s11=>
    some (.val [(.str s11)])
   else
    none
 else
  bif (A.ieq e_0 6)then
   bif (A.inr 0 (A.rlen l3))then
    (opS (A.cell (A.row l3 0) 0)).bind fun s12=>
    (E.call 106 [(.d (.int .i64 e_3))]).bind fun p13=>
    (opS (A.cell p13.leaves 0)).bind fun s15=>
    bif (A.inr 1 (A.rlen l3))then
     (opS (A.cell (A.row l3 1) 0)).bind fun s16=>
     (E.call 105 [(.d (.sl 1 [[(.str s12)],[(.str (bs [32]))],[(.str s15)],[(.str (bs [32]))],[(.str s16)]]))]).bind fun p17=>
     (opS (A.cell p17.leaves 0)).bind fun s19=>
     some (.val [(.str s19)])
    else
     none
   else
    none
  else
   bif (A.ieq e_0 7)then
    bif (A.inr 0 (A.rlen l3))then
     (opS (A.cell (A.row l3 0) 0)).bind fun s20=>
     bif (A.inr 1 (A.rlen l3))then
      (opS (A.cell (A.row l3 1) 0)).bind fun s21=>
      bif (A.inr 2 (A.rlen l3))then
       (opS (A.cell (A.row l3 2) 0)).bind fun s22=>
       (E.call 105 [(.d (.sl 1 [[(.str (bs [105,102,32]))],[(.str s20)],[(.str (bs [32,116,104,101,110,32]))],[(.str s21)],[(.str (bs [32,101,108,115,101,32]))],[(.str s22)]]))]).bind fun p23=>
       (opS (A.cell p23.leaves 0)).bind fun s25=>
       some (.val [(.str s25)])
      else
       none
     else
      none
    else
     none
   else
    bif (A.ieq e_0 8)then
     (E.call 107 [(kE e_0 e_1 e_2 e_3 e_4 e_5),(.d (.sl 1 l3))]).bind fun p26=>
     (opS (A.cell p26.leaves 0)).bind fun s28=>
     some (.val [(.str s28)])
    else
     bif (A.ieq e_0 9)then
      (E.call 107 [(kE e_0 e_1 e_2 e_3 e_4 e_5),(.d (.sl 1 l3))]).bind fun p29=>
      (opS (A.cell p29.leaves 0)).bind fun s31=>
      some (.val [(.str s31)])
     else
      bif (A.ieq e_0 10)then
       (E.call 107 [(kE e_0 e_1 e_2 e_3 e_4 e_5),(.d (.sl 1 l3))]).bind fun p32=>
       (opS (A.cell p32.leaves 0)).bind fun s34=>
       some (.val [(.str s34)])
      else
       bif (A.ieq e_0 11)then
        (E.call 107 [(kE e_0 e_1 e_2 e_3 e_4 e_5),(.d (.sl 1 l3))]).bind fun p35=>
        (opS (A.cell p35.leaves 0)).bind fun s37=>
        some (.val [(.str s37)])
       else
        bif (A.ieq e_0 12)then
         (E.call 107 [(kE e_0 e_1 e_2 e_3 e_4 e_5),(.d (.sl 1 l3))]).bind fun p38=>
         (opS (A.cell p38.leaves 0)).bind fun s40=>
         some (.val [(.str s40)])
        else
         bif (A.ieq e_0 13)then
          (E.call 107 [(kE e_0 e_1 e_2 e_3 e_4 e_5),(.d (.sl 1 l3))]).bind fun p41=>
          (opS (A.cell p41.leaves 0)).bind fun s43=>
          some (.val [(.str s43)])
         else
          bif (A.ieq e_0 14)then
           (E.call 29 [(.d (.sl 1 l3)),(.d (.str (bs [44,32])))]).bind fun p44=>
           (opS (A.cell p44.leaves 0)).bind fun s46=>
           bif (A.sfit (bs [91]) s46)then
            bif (A.sfit (A.sapp (bs [91]) s46) (bs [93]))then
             some (.val [(.str (A.sapp (A.sapp (bs [91]) s46) (bs [93])))])
            else
             none
           else
            none
          else
           bif (A.ieq e_0 15)then
            bif (A.inr 0 (A.rlen l3))then
             (opS (A.cell (A.row l3 0) 0)).bind fun s47=>
             bif (A.sfit s47 (bs [91]))then
              bif (A.inr 1 (A.rlen l3))then
               (opS (A.cell (A.row l3 1) 0)).bind fun s48=>
               bif (A.sfit (A.sapp s47 (bs [91])) s48)then
                bif (A.sfit (A.sapp (A.sapp s47 (bs [91])) s48) (bs [93]))then
                 some (.val [(.str (A.sapp (A.sapp (A.sapp s47 (bs [91])) s48) (bs [93])))])
                else
                 none
               else
                none
              else
               none
             else
              none
            else
             none
           else
            bif (A.ieq e_0 16)then
             bif (A.inr 0 (A.rlen l3))then
              (opS (A.cell (A.row l3 0) 0)).bind fun s49=>
              bif (A.inr 1 (A.rlen l3))then
               (opS (A.cell (A.row l3 1) 0)).bind fun s50=>
               bif (A.inr 2 (A.rlen l3))then
                (opS (A.cell (A.row l3 2) 0)).bind fun s51=>
                (E.call 105 [(.d (.sl 1 [[(.str s49)],[(.str (bs [32,119,105,116,104,32,91]))],[(.str s50)],[(.str (bs [93,32,61,32]))],[(.str s51)]]))]).bind fun p52=>
                (opS (A.cell p52.leaves 0)).bind fun s54=>
                some (.val [(.str s54)])
               else
                none
              else
               none
             else
              none
            else
             (E.call 108 [(kE e_0 e_1 e_2 e_3 e_4 e_5)]).bind fun p55=>
             (opS (A.cell p55.leaves 0)).bind fun s57=>
             some (.val [(.str s57)])
theorem g57_eq (A:Sy)(E:Env)(e_0:Int)(e_1:Int)(e_2:ByteArray)(e_3:Int)(e_4:List (List D))(e_5:List (List D)):(funT A Tryz.prog cs 57 [.agg [.d (.int .i64 e_0),V.d (.int .i64 e_1),V.d (.str e_2),V.d (.int .i64 e_3),V.d (.sl 1 e_4),V.d (.sl 6 e_5)]]).run E=g57 A E e_0 e_1 e_2 e_3 e_4 e_5:=by kernel_rfl
def g104 (A:Sy)(E:Env)(l_:List (List D)):Option PRes:=
 E.lp (fun ds1=>
  (opL (A.cell ds1 0) 6).bind fun l2=>
  (opI (A.cell ds1 1) .i64).bind fun n3=>
  (opI (A.cell ds1 2) .i64).bind fun n4=>
  (opL (A.cell ds1 3) 1).bind fun l5=>
  bif (A.ilt n4 n3)then
   bif (A.inr n4 (A.rlen l2))then
    oE A (A.row l2 n4) 0 fun n6 n7 s8 n9 l10 l11=>
    (E.call 57 [(kE n6 n7 s8 n9 l10 l11)]).bind fun p12=>
    (opS (A.cell p12.leaves 0)).bind fun s14=>
    bif (A.fits l5 [[(.str s14)]] 16)then
     some (.inl [(.sl 6 l2),(.int .i64 n3),(.int .i64 (A.wrap .i64 (A.add n4 1))),(.sl 1 (A.rapp l5 [[(.str s14)]]))])
    else
     none
   else
    none
  else
   some (.inr (.own 9 1 l5))
 ) [(.sl 6 l_),(.int .i64 (A.rlen l_)),(.int .i64 0),(.sl 1 [])]
theorem g104_eq (A:Sy)(E:Env)(l_:List (List D)):(funT A Tryz.prog cs 104 [.d (.sl 6 l_)]).run E=g104 A E l_:=by kernel_rfl
def g105 (A:Sy)(E:Env)(l_:List (List D)):Option PRes:=
 (E.call 29 [(.d (.sl 1 l_)),(.d (.str (bs [])))]).bind fun p1=>
 (opS (A.cell p1.leaves 0)).bind fun s3=>
 bif (A.sfit (bs [40]) s3)then
  bif (A.sfit (A.sapp (bs [40]) s3) (bs [41]))then
   some (.val [(.str (A.sapp (A.sapp (bs [40]) s3) (bs [41])))])
  else
   none
 else
  none
theorem g105_eq (A:Sy)(E:Env)(l_:List (List D)):(funT A Tryz.prog cs 105 [.d (.sl 1 l_)]).run E=g105 A E l_:=by kernel_rfl
def g108 (A:Sy)(E:Env)(e_0:Int)(e_1:Int)(e_2:ByteArray)(e_3:Int)(e_4:List (List D))(e_5:List (List D)):Option PRes:=
 bif (A.ieq e_0 1)then
  (E.call 151 [(.d (.int .i64 e_1)),(.d (.int .i64 10))]).bind fun p1=>
  (opS (A.cell p1.leaves 0)).bind fun s3=>
  some (.val [(.str s3)])
 else
  bif (A.ieq e_0 2)then
   (E.call 152 [(.d (.bool (A.bnot (A.ieq e_1 0))))]).bind fun p4=>
   (opS (A.cell p4.leaves 0)).bind fun s6=>
   some (.val [(.str s6)])
  else
   bif (A.ieq e_0 17)then
    (E.call 26 [(.d (.str e_2))]).bind fun p7=>
    (opS (A.cell p7.leaves 0)).bind fun s9=>
    some (.val [(.str s9)])
   else
    some (.val [(.str e_2)])
theorem g108_eq (A:Sy)(E:Env)(e_0:Int)(e_1:Int)(e_2:ByteArray)(e_3:Int)(e_4:List (List D))(e_5:List (List D)):(funT A Tryz.prog cs 108 [.agg [.d (.int .i64 e_0),V.d (.int .i64 e_1),V.d (.str e_2),V.d (.int .i64 e_3),V.d (.sl 1 e_4),V.d (.sl 6 e_5)]]).run E=g108 A E e_0 e_1 e_2 e_3 e_4 e_5:=by kernel_rfl
def g149 (A:Sy)(E:Env)(e_0:Int)(e_1:Int)(e_2:ByteArray)(e_3:Int)(e_4:List (List D))(e_5:List (List D))(t_:List (List D)):Option PRes:=
 E.lp (fun ds1=>
  (opL (A.cell ds1 0) 1).bind fun l2=>
  (opI (A.cell ds1 1) .i64).bind fun n3=>
  (opI (A.cell ds1 2) .i64).bind fun n4=>
  oE A ds1 3 fun n5 n6 s7 n8 l9 l10=>
  (opL (A.cell ds1 9) 1).bind fun l11=>
  bif (A.ilt n4 n3)then
   bif (A.inr n4 (A.rlen l2))then
    (opS (A.cell (A.row l2 n4) 0)).bind fun s12=>
    bif (A.inr n4 (A.rlen l9))then
     (opS (A.cell (A.row l9 n4) 0)).bind fun s13=>
     (E.call 105 [(.d (.sl 1 [[(.str s13)],[(.str (bs [32,45,62,32]))],[(.str s12)]]))]).bind fun p14=>
     (opS (A.cell p14.leaves 0)).bind fun s16=>
     bif (A.fits l11 [[(.str (bs [32]))],[(.str s16)]] 16)then
      some (.inl [(.sl 1 l2),(.int .i64 n3),(.int .i64 (A.wrap .i64 (A.add n4 1))),(.int .i64 n5),(.int .i64 n6),(.str s7),(.int .i64 n8),(.sl 1 l9),(.sl 6 l10),(.sl 1 (A.rapp l11 [[(.str (bs [32]))],[(.str s16)]]))])
     else
      none
    else
     none
   else
    none
  else
   (E.call 105 [(.d (.sl 1 l11))]).bind fun p17=>
   (opS (A.cell p17.leaves 0)).bind fun s19=>
   some (.inr (.val [(.str s19)]))
 ) [(.sl 1 t_),(.int .i64 (A.rlen t_)),(.int .i64 0),(.int .i64 e_0),(.int .i64 e_1),(.str e_2),(.int .i64 e_3),(.sl 1 e_4),(.sl 6 e_5),(.sl 1 [[(.str (bs [109,101,114,103,101,32]))],[(.str e_2)]])]
theorem g149_eq (A:Sy)(E:Env)(e_0:Int)(e_1:Int)(e_2:ByteArray)(e_3:Int)(e_4:List (List D))(e_5:List (List D))(t_:List (List D)):(funT A Tryz.prog cs 149 [.agg [.d (.int .i64 e_0),V.d (.int .i64 e_1),V.d (.str e_2),V.d (.int .i64 e_3),V.d (.sl 1 e_4),V.d (.sl 6 e_5)],V.d (.sl 1 t_)]).run E=g149 A E e_0 e_1 e_2 e_3 e_4 e_5 t_:=by kernel_rfl
def g150 (A:Sy)(E:Env)(e_0:Int)(e_1:Int)(e_2:ByteArray)(e_3:Int)(e_4:List (List D))(e_5:List (List D))(t_:List (List D)):Option PRes:=
 bif (A.cutok 0 (A.wrap .i64 (A.sub (A.rlen t_) e_1)) (A.rlen t_))then
  (E.call 29 [(.d (.sl 1 (A.cut t_ 0 (A.wrap .i64 (A.sub (A.rlen t_) e_1))))),(.d (.str (bs [44,32])))]).bind fun p1=>
  (opS (A.cell p1.leaves 0)).bind fun s3=>
  (E.call 105 [(.d (.sl 1 [[(.str s3)]]))]).bind fun p4=>
  (opS (A.cell p4.leaves 0)).bind fun s6=>
  bif (A.sfit e_2 s6)then
   bif (A.ieq e_1 0)then
    some (.val [(.str (A.sapp e_2 s6))])
   else
    bif (A.inr (A.wrap .i64 (A.sub (A.rlen t_) e_1)) (A.rlen t_))then
     (opS (A.cell (A.row t_ (A.wrap .i64 (A.sub (A.rlen t_) e_1))) 0)).bind fun s7=>
     (E.call 105 [(.d (.sl 1 [[(.str (A.sapp e_2 s6))],[(.str (bs [32,101,118,101,114,121,32]))],[(.str s7)]]))]).bind fun p8=>
     (opS (A.cell p8.leaves 0)).bind fun s10=>
     some (.val [(.str s10)])
    else
     none
  else
   none
 else
  none
theorem g150_eq (A:Sy)(E:Env)(e_0:Int)(e_1:Int)(e_2:ByteArray)(e_3:Int)(e_4:List (List D))(e_5:List (List D))(t_:List (List D)):(funT A Tryz.prog cs 150 [.agg [.d (.int .i64 e_0),V.d (.int .i64 e_1),V.d (.str e_2),V.d (.int .i64 e_3),V.d (.sl 1 e_4),V.d (.sl 6 e_5)],V.d (.sl 1 t_)]).run E=g150 A E e_0 e_1 e_2 e_3 e_4 e_5 t_:=by kernel_rfl
def g107 (A:Sy)(E:Env)(e_0:Int)(e_1:Int)(e_2:ByteArray)(e_3:Int)(e_4:List (List D))(e_5:List (List D))(t_:List (List D)):Option PRes:=
 bif (A.ieq e_0 8)then
  bif (A.inr 0 (A.rlen t_))then
   (opS (A.cell (A.row t_ 0) 0)).bind fun s1=>
   bif (A.inr 1 (A.rlen t_))then
    (opS (A.cell (A.row t_ 1) 0)).bind fun s2=>
    (E.call 105 [(.d (.sl 1 [[(.str s1)],[(.str (bs [32,102,98,121,32]))],[(.str s2)]]))]).bind fun p3=>
    (opS (A.cell p3.leaves 0)).bind fun s5=>
    some (.val [(.str s5)])
   else
    none
  else
   none
 else
  bif (A.ieq e_0 9)then
   bif (A.inr 0 (A.rlen t_))then
    (opS (A.cell (A.row t_ 0) 0)).bind fun s6=>
    bif (A.inr 1 (A.rlen t_))then
     (opS (A.cell (A.row t_ 1) 0)).bind fun s7=>
     (E.call 105 [(.d (.sl 1 [[(.str s6)],[(.str (bs [32,45,62,32]))],[(.str s7)]]))]).bind fun p8=>
     (opS (A.cell p8.leaves 0)).bind fun s10=>
     some (.val [(.str s10)])
    else
     none
   else
    none
  else
   bif (A.ieq e_0 10)then
    bif (A.inr 0 (A.rlen t_))then
     (opS (A.cell (A.row t_ 0) 0)).bind fun s11=>
     (E.call 105 [(.d (.sl 1 [[(.str (bs [112,114,101,32]))],[(.str s11)]]))]).bind fun p12=>
     (opS (A.cell p12.leaves 0)).bind fun s14=>
     some (.val [(.str s14)])
    else
     none
   else
    bif (A.ieq e_0 11)then
     bif (A.inr 0 (A.rlen t_))then
      (opS (A.cell (A.row t_ 0) 0)).bind fun s15=>
      bif (A.inr 0 (A.rlen e_4))then
       (opS (A.cell (A.row e_4 0) 0)).bind fun s16=>
       (E.call 148 [(.d (.str e_2)),(.d (.str s16))]).bind fun p17=>
       (opS (A.cell p17.leaves 0)).bind fun s19=>
       (E.call 105 [(.d (.sl 1 [[(.str s15)],[(.str (bs [32,119,104,101,110,32]))],[(.str s19)]]))]).bind fun p20=>
       (opS (A.cell p20.leaves 0)).bind fun s22=>
       some (.val [(.str s22)])
      else
       none
     else
      none
    else
     bif (A.ieq e_0 12)then
      (E.call 149 [(kE e_0 e_1 e_2 e_3 e_4 e_5),(.d (.sl 1 t_))]).bind fun p23=>
      (opS (A.cell p23.leaves 0)).bind fun s25=>
      some (.val [(.str s25)])
     else
      (E.call 150 [(kE e_0 e_1 e_2 e_3 e_4 e_5),(.d (.sl 1 t_))]).bind fun p26=>
      (opS (A.cell p26.leaves 0)).bind fun s28=>
      some (.val [(.str s28)])
theorem g107_eq (A:Sy)(E:Env)(e_0:Int)(e_1:Int)(e_2:ByteArray)(e_3:Int)(e_4:List (List D))(e_5:List (List D))(t_:List (List D)):(funT A Tryz.prog cs 107 [.agg [.d (.int .i64 e_0),V.d (.int .i64 e_1),V.d (.str e_2),V.d (.int .i64 e_3),V.d (.sl 1 e_4),V.d (.sl 6 e_5)],V.d (.sl 1 t_)]).run E=g107 A E e_0 e_1 e_2 e_3 e_4 e_5 t_:=by kernel_rfl
def g148 (A:Sy)(E:Env)(name_:ByteArray)(arm_:ByteArray):Option PRes:=
 bif (A.seq arm_ (bs [116,114,117,101]))then
  some (.val [(.str name_)])
 else
  bif (A.seq arm_ (bs [102,97,108,115,101]))then
   bif (A.sfit (bs [110,111,116,32]) name_)then
    some (.val [(.str (A.sapp (bs [110,111,116,32]) name_))])
   else
    none
  else
   bif (A.sfit arm_ (bs [40]))then
    bif (A.sfit (A.sapp arm_ (bs [40])) name_)then
     bif (A.sfit (A.sapp (A.sapp arm_ (bs [40])) name_) (bs [41]))then
      some (.val [(.str (A.sapp (A.sapp (A.sapp arm_ (bs [40])) name_) (bs [41])))])
     else
      none
    else
     none
   else
    none
theorem g148_eq (A:Sy)(E:Env)(name_:ByteArray)(arm_:ByteArray):(funT A Tryz.prog cs 148 [.d (.str name_),V.d (.str arm_)]).run E=g148 A E name_ arm_:=by kernel_rfl
def g12 (A:Sy)(E:Env)(l_:List (List D)):Option PRes:=
 E.lp (fun ds1=>
  (opL (A.cell ds1 0) 7).bind fun l2=>
  (opL (A.cell ds1 1) 7).bind fun l3=>
  (opI (A.cell ds1 2) .i64).bind fun n4=>
  (opI (A.cell ds1 3) .i64).bind fun n5=>
  (opL (A.cell ds1 4) 1).bind fun l6=>
  (opL (A.cell ds1 5) 1).bind fun l7=>
  bif (A.ilt n5 n4)then
   bif (A.inr n5 (A.rlen l3))then
    (opS (A.cell (A.row l3 n5) 0)).bind fun s8=>
    oE A (A.row l3 n5) 1 fun n9 n10 s11 n12 l13 l14=>
    (E.call 24 [(.d (.str s8))]).bind fun p15=>
    (opB (A.cell p15.leaves 0)).bind fun b17=>
    cutO (
     bif (A.bnot b17)then
      some (.inl [(.bool true)])
     else
      (E.call 25 [(kE n9 n10 s11 n12 l13 l14)]).bind fun p18=>
      (opB (A.cell p18.leaves 0)).bind fun b20=>
      some (.inl [(.bool (A.bnot b20))])
    ) fun ds21=>
    (opB (A.cell ds21 0)).bind fun b22=>
    bif b22 then
     some (.inr (.val [(.str (bs []))]))
    else
     (E.call 26 [(.d (.str s8))]).bind fun p23=>
     (opS (A.cell p23.leaves 0)).bind fun s25=>
     (E.call 27 [(kE n9 n10 s11 n12 l13 l14)]).bind fun p26=>
     (opS (A.cell p26.leaves 0)).bind fun s28=>
     bif (A.fits l6 [[(.str s25)],[(.str (bs [32,58,61,32]))],[(.str s28)],[(.str (bs [59,10]))]] 16)then
      bif (A.fits l7 [[(.str s8)]] 16)then
       some (.inl [(.sl 7 l2),(.sl 7 l3),(.int .i64 n4),(.int .i64 (A.wrap .i64 (A.add n5 1))),(.sl 1 (A.rapp l6 [[(.str s25)],[(.str (bs [32,58,61,32]))],[(.str s28)],[(.str (bs [59,10]))]])),(.sl 1 (A.rapp l7 [[(.str s8)]]))])
      else
       none
     else
      none
   else
    none
  else
   cutO (
    bif (A.ilt 40 (A.rlen l2))then
     some (.inl [(.bool true)])
    else
     (E.call 28 [(.d (.sl 1 l7))]).bind fun p29=>
     (opB (A.cell p29.leaves 0)).bind fun b31=>
     some (.inl [(.bool (A.bnot b31))])
   ) fun ds32=>
   (opB (A.cell ds32 0)).bind fun b33=>
   bif b33 then
    some (.inr (.val [(.str (bs []))]))
   else
    (E.call 29 [(.d (.sl 1 l6)),(.d (.str (bs [])))]).bind fun p34=>
    (opS (A.cell p34.leaves 0)).bind fun s36=>
    some (.inr (.val [(.str s36)]))
 ) [(.sl 7 l_),(.sl 7 l_),(.int .i64 (A.rlen l_)),(.int .i64 0),(.sl 1 []),(.sl 1 [])]
theorem g12_eq (A:Sy)(E:Env)(l_:List (List D)):(funT A Tryz.prog cs 12 [.d (.sl 7 l_)]).run E=g12 A E l_:=by kernel_rfl
def g13 (A:Sy)(E:Env)(l_:List (List D)):Option PRes:=
 bif (A.ilt 40 (A.rlen l_))then
  some (.val [(.str (bs []))])
 else
  E.lp (fun ds1=>
   (opL (A.cell ds1 0) 7).bind fun l2=>
   (opS (A.cell ds1 1)).bind fun s3=>
   (opI (A.cell ds1 2) .i64).bind fun n4=>
   bif (A.ilt n4 (A.rlen l2))then
    bif (A.inr n4 (A.rlen l2))then
     (opS (A.cell (A.row l2 n4) 0)).bind fun s5=>
     (E.call 30 [(.d (.str s5))]).bind fun p6=>
     (opB (A.cell p6.leaves 0)).bind fun b8=>
     bif (A.bnot b8)then
      some (.inr (.val [(.str (bs []))]))
     else
      bif (A.cutok 0 n4 (A.rlen l2))then
       bif (A.inr n4 (A.rlen l2))then
        (opS (A.cell (A.row l2 n4) 0)).bind fun s9=>
        (E.call 19 [(.d (.sl 7 (A.cut l2 0 n4))),(.d (.str s9))]).bind fun p10=>
        (opB (A.cell p10.leaves 0)).bind fun b12=>
        bif b12 then
         some (.inr (.val [(.str (bs []))]))
        else
         bif (A.inr n4 (A.rlen l2))then
          oE A (A.skip 1 (A.row l2 n4)) 0 fun n13 n14 s15 n16 l17 l18=>
          (E.call 31 [(kE n13 n14 s15 n16 l17 l18)]).bind fun p19=>
          (opB (A.cell p19.leaves 0)).bind fun b21=>
          bif (A.bnot b21)then
           some (.inr (.val [(.str (bs []))]))
          else
           bif (A.inr n4 (A.rlen l2))then
            (opS (A.cell (A.row l2 n4) 0)).bind fun s22=>
            (E.call 32 [(.d (.str s22))]).bind fun p23=>
            (opS (A.cell p23.leaves 0)).bind fun s25=>
            bif (A.sfit s3 s25)then
             bif (A.sfit (A.sapp s3 s25) (bs [32,58,61,32]))then
              bif (A.inr n4 (A.rlen l2))then
               oE A (A.skip 1 (A.row l2 n4)) 0 fun n26 n27 s28 n29 l30 l31=>
               (E.call 33 [(kE n26 n27 s28 n29 l30 l31)]).bind fun p32=>
               (opS (A.cell p32.leaves 0)).bind fun s34=>
               bif (A.sfit (A.sapp (A.sapp s3 s25) (bs [32,58,61,32])) s34)then
                bif (A.sfit (A.sapp (A.sapp (A.sapp s3 s25) (bs [32,58,61,32])) s34) (bs [59,10]))then
                 some (.inl [(.sl 7 l2),(.str (A.sapp (A.sapp (A.sapp (A.sapp s3 s25) (bs [32,58,61,32])) s34) (bs [59,10]))),(.int .i64 (A.wrap .i64 (A.add n4 1)))])
                else
                 none
               else
                none
              else
               none
             else
              none
            else
             none
           else
            none
         else
          none
       else
        none
      else
       none
    else
     none
   else
    some (.inr (.val [(.str s3)]))
  ) [(.sl 7 l_),(.str (bs [])),(.int .i64 0)]
theorem g13_eq (A:Sy)(E:Env)(l_:List (List D)):(funT A Tryz.prog cs 13 [.d (.sl 7 l_)]).run E=g13 A E l_:=by kernel_rfl
def g11 (A:Sy)(E:Env)(l_:List (List D)):Option PRes:=
 E.lp (fun ds1=>
  (opL (A.cell ds1 0) 7).bind fun l2=>
  (opI (A.cell ds1 1) .i64).bind fun n3=>
  cutO (
   bif (A.ilt n3 (A.rlen l2))then
    some (.inl [(.bool (A.ilt n3 60))])
   else
    some (.inl [(.bool false)])
  ) fun ds4=>
  (opB (A.cell ds4 0)).bind fun b5=>
  bif b5 then
   bif (A.inr n3 (A.rlen l2))then
    (opS (A.cell (A.row l2 n3) 0)).bind fun s6=>
    cutO (
     bif (A.ilt 300 (A.slen s6))then
      some (.inl [(.bool true)])
     else
      bif (A.inr n3 (A.rlen l2))then
       oE A (A.skip 1 (A.row l2 n3)) 0 fun n7 n8 s9 n10 l11 l12=>
       (E.call 23 [(kE n7 n8 s9 n10 l11 l12)]).bind fun p13=>
       (opB (A.cell p13.leaves 0)).bind fun b15=>
       some (.inl [(.bool (A.bnot b15))])
      else
       none
    ) fun ds16=>
    (opB (A.cell ds16 0)).bind fun b17=>
    bif b17 then
     some (.inr (.val [(.bool false)]))
    else
     some (.inl [(.sl 7 l2),(.int .i64 (A.wrap .i64 (A.add n3 1)))])
   else
    none
  else
   some (.inr (.val [(.bool (A.ile (A.rlen l2) 50))]))
 ) [(.sl 7 l_),(.int .i64 0)]
theorem g11_eq (A:Sy)(E:Env)(l_:List (List D)):(funT A Tryz.prog cs 11 [.d (.sl 7 l_)]).run E=g11 A E l_:=by kernel_rfl
def g14 (A:Sy)(E:Env)(a_:List (List D))(b_:List (List D)):Option PRes:=
 (E.call 34 [(.d (.sl 7 a_)),(.d (.sl 7 b_)),(.fn 35 [])]).bind fun p1=>
 (opB (A.cell p1.leaves 0)).bind fun b3=>
 some (.val [(.bool b3)])
theorem g14_eq (A:Sy)(E:Env)(a_:List (List D))(b_:List (List D)):(funT A Tryz.prog cs 14 [.d (.sl 7 a_),V.d (.sl 7 b_)]).run E=g14 A E a_ b_:=by kernel_rfl
def g36 (A:Sy)(E:Env)(a_0:Int)(a_1:Int)(a_2:ByteArray)(a_3:Int)(a_4:List (List D))(a_5:List (List D))(b_0:Int)(b_1:Int)(b_2:ByteArray)(b_3:Int)(b_4:List (List D))(b_5:List (List D)):Option PRes:=
 cutO (
  bif (A.ieq a_0 b_0)then
   some (.inl [(.bool (A.ieq a_1 b_1))])
  else
   some (.inl [(.bool false)])
 ) fun ds1=>
 (opB (A.cell ds1 0)).bind fun b2=>
 cutO (
  bif b2 then
   some (.inl [(.bool (A.seq a_2 b_2))])
  else
   some (.inl [(.bool false)])
 ) fun ds3=>
 (opB (A.cell ds3 0)).bind fun b4=>
 cutO (
  bif b4 then
   some (.inl [(.bool (A.ieq a_3 b_3))])
  else
   some (.inl [(.bool false)])
 ) fun ds5=>
 (opB (A.cell ds5 0)).bind fun b6=>
 cutO (
  bif b6 then
   (E.call 67 [(.d (.sl 1 a_4)),(.d (.sl 1 b_4))]).bind fun p7=>
   (opB (A.cell p7.leaves 0)).bind fun b9=>
   some (.inl [(.bool b9)])
  else
   some (.inl [(.bool false)])
 ) fun ds10=>
 (opB (A.cell ds10 0)).bind fun b11=>
 cutO (
  bif b11 then
   (E.call 68 [(.d (.sl 6 a_5)),(.d (.sl 6 b_5)),(.fn 36 [])]).bind fun p12=>
   (opB (A.cell p12.leaves 0)).bind fun b14=>
   some (.inl [(.bool b14)])
  else
   some (.inl [(.bool false)])
 ) fun ds15=>
 (opB (A.cell ds15 0)).bind fun b16=>
 some (.val [(.bool b16)])
theorem g36_eq (A:Sy)(E:Env)(a_0:Int)(a_1:Int)(a_2:ByteArray)(a_3:Int)(a_4:List (List D))(a_5:List (List D))(b_0:Int)(b_1:Int)(b_2:ByteArray)(b_3:Int)(b_4:List (List D))(b_5:List (List D)):(funT A Tryz.prog cs 36 [.agg [.d (.int .i64 a_0),V.d (.int .i64 a_1),V.d (.str a_2),V.d (.int .i64 a_3),V.d (.sl 1 a_4),V.d (.sl 6 a_5)],V.agg [.d (.int .i64 b_0),V.d (.int .i64 b_1),V.d (.str b_2),V.d (.int .i64 b_3),V.d (.sl 1 b_4),V.d (.sl 6 b_5)]]).run E=g36 A E a_0 a_1 a_2 a_3 a_4 a_5 b_0 b_1 b_2 b_3 b_4 b_5:=by kernel_rfl
def g5 (A:Sy)(E:Env)(a_:List (List D))(b_:List (List D)):Option PRes:=
 (E.call 11 [(.d (.sl 7 a_))]).bind fun p1=>
 (opB (A.cell p1.leaves 0)).bind fun b3=>
 cutO (
  bif (A.bnot b3)then
   some (.inl [(.bool true)])
  else
   (E.call 11 [(.d (.sl 7 b_))]).bind fun p4=>
   (opB (A.cell p4.leaves 0)).bind fun b6=>
   some (.inl [(.bool (A.bnot b6))])
 ) fun ds7=>
 (opB (A.cell ds7 0)).bind fun b8=>
 bif b8 then
  (E.call 6 []).bind fun p9=>
  (opB (A.cell p9.leaves 0)).bind fun b11=>
  some (.val [(.bool b11)])
 else
  (E.call 12 [(.d (.sl 7 a_))]).bind fun p12=>
  (opS (A.cell p12.leaves 0)).bind fun s14=>
  (E.call 13 [(.d (.sl 7 a_))]).bind fun p15=>
  (opS (A.cell p15.leaves 0)).bind fun s17=>
  cutO (
   bif (A.seq s14 s17)then
    (E.call 14 [(.d (.sl 7 a_)),(.d (.sl 7 b_))]).bind fun p18=>
    (opB (A.cell p18.leaves 0)).bind fun b20=>
    (E.call 9 [(.d (.sl 7 a_)),(.d (.sl 7 b_))]).bind fun p21=>
    (opB (A.cell p21.leaves 0)).bind fun b23=>
    some (.inl [(.bool (A.beq b20 b23))])
   else
    some (.inl [(.bool false)])
  ) fun ds24=>
  (opB (A.cell ds24 0)).bind fun b25=>
  cutO (
   bif b25 then
    (E.call 6 []).bind fun p26=>
    (opB (A.cell p26.leaves 0)).bind fun b28=>
    some (.inl [(.bool b28)])
   else
    some (.inl [(.bool false)])
  ) fun ds29=>
  (opB (A.cell ds29 0)).bind fun b30=>
  some (.val [(.bool b30)])
theorem g5_eq (A:Sy)(E:Env)(a_:List (List D))(b_:List (List D)):(funT A Tryz.prog cs 5 [.d (.sl 7 a_),V.d (.sl 7 b_)]).run E=g5 A E a_ b_:=by kernel_rfl
def g4 (A:Sy)(E:Env)(l_:List (List D))(s_:ByteArray):Option PRes:=
 (E.call 11 [(.d (.sl 7 l_))]).bind fun p1=>
 (opB (A.cell p1.leaves 0)).bind fun b3=>
 cutO (
  bif (A.bnot b3)then
   some (.inl [(.bool true)])
  else
   some (.inl [(.bool (A.ilt 1500 (A.slen s_)))])
 ) fun ds4=>
 (opB (A.cell ds4 0)).bind fun b5=>
 bif b5 then
  (E.call 6 []).bind fun p6=>
  (opB (A.cell p6.leaves 0)).bind fun b8=>
  some (.val [(.bool b8)])
 else
  (E.call 12 [(.d (.sl 7 l_))]).bind fun p9=>
  (opS (A.cell p9.leaves 0)).bind fun s11=>
  cutO (
   bif (A.bnot (A.seq s11 (bs [])))then
    some (.inl [(.bool (A.ile (A.slen s11) 6000))])
   else
    some (.inl [(.bool false)])
  ) fun ds12=>
  (opB (A.cell ds12 0)).bind fun b13=>
  bif b13 then
   (E.call 7 [(.d (.str s11))]).bind fun p14=>
   (opL (A.cell p14.leaves 0) 7).bind fun l16=>
   (opI (A.cell p14.leaves 1) .i64).bind fun n17=>
   (opI (A.cell p14.leaves 2) .i64).bind fun n18=>
   (E.call 10 [(.d (.int .i64 n18))]).bind fun p19=>
   (opI (A.cell p19.leaves 0) .i64).bind fun n21=>
   cutO (
    bif (A.bnot (A.ieq n21 0))then
     some (.inl [(.bool true)])
    else
     some (.inl [(.bool (A.bnot (A.ieq n17 (A.slen s11))))])
   ) fun ds22=>
   (opB (A.cell ds22 0)).bind fun b23=>
   cutO (
    bif b23 then
     some (.inl [(.bool true)])
    else
     (E.call 9 [(.d (.sl 7 l_)),(.d (.sl 7 l16))]).bind fun p24=>
     (opB (A.cell p24.leaves 0)).bind fun b26=>
     some (.inl [(.bool (A.bnot b26))])
   ) fun ds27=>
   (opB (A.cell ds27 0)).bind fun b28=>
   bif b28 then
    some (.val [(.bool false)])
   else
    (E.call 7 [(.d (.str s_))]).bind fun p29=>
    (opL (A.cell p29.leaves 0) 7).bind fun l31=>
    (opI (A.cell p29.leaves 1) .i64).bind fun n32=>
    (opI (A.cell p29.leaves 2) .i64).bind fun n33=>
    (E.call 10 [(.d (.int .i64 n33))]).bind fun p34=>
    (opI (A.cell p34.leaves 0) .i64).bind fun n36=>
    bif (A.bnot (A.ieq n36 0))then
     cutO (
      bif (A.ieq (A.rlen l31) 0)then
       (E.call 6 []).bind fun p37=>
       (opB (A.cell p37.leaves 0)).bind fun b39=>
       some (.inl [(.bool b39)])
      else
       some (.inl [(.bool false)])
     ) fun ds40=>
     (opB (A.cell ds40 0)).bind fun b41=>
     some (.val [(.bool b41)])
    else
     (E.call 12 [(.d (.sl 7 l31))]).bind fun p42=>
     (opS (A.cell p42.leaves 0)).bind fun s44=>
     bif (A.ilt 6000 (A.slen s44))then
      (E.call 6 []).bind fun p45=>
      (opB (A.cell p45.leaves 0)).bind fun b47=>
      some (.val [(.bool b47)])
     else
      (E.call 7 [(.d (.str s44))]).bind fun p48=>
      (opL (A.cell p48.leaves 0) 7).bind fun l50=>
      (opI (A.cell p48.leaves 1) .i64).bind fun n51=>
      (opI (A.cell p48.leaves 2) .i64).bind fun n52=>
      (E.call 10 [(.d (.int .i64 n52))]).bind fun p53=>
      (opI (A.cell p53.leaves 0) .i64).bind fun n55=>
      cutO (
       bif (A.ieq n55 0)then
        some (.inl [(.bool (A.ieq n51 (A.slen s44)))])
       else
        some (.inl [(.bool false)])
      ) fun ds56=>
      (opB (A.cell ds56 0)).bind fun b57=>
      cutO (
       bif b57 then
        (E.call 9 [(.d (.sl 7 l50)),(.d (.sl 7 l31))]).bind fun p58=>
        (opB (A.cell p58.leaves 0)).bind fun b60=>
        some (.inl [(.bool b60)])
       else
        some (.inl [(.bool false)])
      ) fun ds61=>
      (opB (A.cell ds61 0)).bind fun b62=>
      cutO (
       bif b62 then
        (E.call 6 []).bind fun p63=>
        (opB (A.cell p63.leaves 0)).bind fun b65=>
        some (.inl [(.bool b65)])
       else
        some (.inl [(.bool false)])
      ) fun ds66=>
      (opB (A.cell ds66 0)).bind fun b67=>
      some (.val [(.bool b67)])
  else
   (E.call 7 [(.d (.str s_))]).bind fun p68=>
   (opL (A.cell p68.leaves 0) 7).bind fun l70=>
   (opI (A.cell p68.leaves 1) .i64).bind fun n71=>
   (opI (A.cell p68.leaves 2) .i64).bind fun n72=>
   (E.call 10 [(.d (.int .i64 n72))]).bind fun p73=>
   (opI (A.cell p73.leaves 0) .i64).bind fun n75=>
   bif (A.bnot (A.ieq n75 0))then
    cutO (
     bif (A.ieq (A.rlen l70) 0)then
      (E.call 6 []).bind fun p76=>
      (opB (A.cell p76.leaves 0)).bind fun b78=>
      some (.inl [(.bool b78)])
     else
      some (.inl [(.bool false)])
    ) fun ds79=>
    (opB (A.cell ds79 0)).bind fun b80=>
    some (.val [(.bool b80)])
   else
    (E.call 12 [(.d (.sl 7 l70))]).bind fun p81=>
    (opS (A.cell p81.leaves 0)).bind fun s83=>
    bif (A.ilt 6000 (A.slen s83))then
     (E.call 6 []).bind fun p84=>
     (opB (A.cell p84.leaves 0)).bind fun b86=>
     some (.val [(.bool b86)])
    else
     (E.call 7 [(.d (.str s83))]).bind fun p87=>
     (opL (A.cell p87.leaves 0) 7).bind fun l89=>
     (opI (A.cell p87.leaves 1) .i64).bind fun n90=>
     (opI (A.cell p87.leaves 2) .i64).bind fun n91=>
     (E.call 10 [(.d (.int .i64 n91))]).bind fun p92=>
     (opI (A.cell p92.leaves 0) .i64).bind fun n94=>
     cutO (
      bif (A.ieq n94 0)then
       some (.inl [(.bool (A.ieq n90 (A.slen s83)))])
      else
       some (.inl [(.bool false)])
     ) fun ds95=>
     (opB (A.cell ds95 0)).bind fun b96=>
     cutO (
      bif b96 then
       (E.call 9 [(.d (.sl 7 l89)),(.d (.sl 7 l70))]).bind fun p97=>
       (opB (A.cell p97.leaves 0)).bind fun b99=>
       some (.inl [(.bool b99)])
      else
       some (.inl [(.bool false)])
     ) fun ds100=>
     (opB (A.cell ds100 0)).bind fun b101=>
     cutO (
      bif b101 then
       (E.call 6 []).bind fun p102=>
       (opB (A.cell p102.leaves 0)).bind fun b104=>
       some (.inl [(.bool b104)])
      else
       some (.inl [(.bool false)])
     ) fun ds105=>
     (opB (A.cell ds105 0)).bind fun b106=>
     some (.val [(.bool b106)])
def g152 (A:Sy)(E:Env)(b_:Bool):Option PRes:=
 (E.call 176 [(.d (.bool b_))]).bind fun p1=>
 (opS (A.cell p1.leaves 0)).bind fun s3=>
 some (.val [(.str s3)])
theorem g152_eq (A:Sy)(E:Env)(b_:Bool):(funT A Tryz.prog cs 152 [.d (.bool b_)]).run E=g152 A E b_:=by kernel_rfl
def g151 (A:Sy)(E:Env)(i_:Int)(base_:Int):Option PRes:=
 (E.call 175 [(.d (.int .i64 i_)),(.d (.int .i64 base_))]).bind fun p1=>
 (opS (A.cell p1.leaves 0)).bind fun s3=>
 some (.val [(.str s3)])
theorem g151_eq (A:Sy)(E:Env)(i_:Int)(base_:Int):(funT A Tryz.prog cs 151 [.d (.int .i64 i_),V.d (.int .i64 base_)]).run E=g151 A E i_ base_:=by kernel_rfl
def g23 (A:Sy)(E:Env)(e_0:Int)(e_1:Int)(e_2:ByteArray)(e_3:Int)(e_4:List (List D))(e_5:List (List D)):Option PRes:=
 (E.call 49 [(kE e_0 e_1 e_2 e_3 e_4 e_5),(.d (.int .i64 200))]).bind fun p1=>
 (opI (A.cell p1.leaves 0) .i64).bind fun n3=>
 cutO (
  bif (A.ilt 0 n3)then
   (E.call 50 [(kE e_0 e_1 e_2 e_3 e_4 e_5)]).bind fun p4=>
   (opB (A.cell p4.leaves 0)).bind fun b6=>
   some (.inl [(.bool b6)])
  else
   some (.inl [(.bool false)])
 ) fun ds7=>
 (opB (A.cell ds7 0)).bind fun b8=>
 some (.val [(.bool b8)])
theorem g23_eq (A:Sy)(E:Env)(e_0:Int)(e_1:Int)(e_2:ByteArray)(e_3:Int)(e_4:List (List D))(e_5:List (List D)):(funT A Tryz.prog cs 23 [.agg [.d (.int .i64 e_0),V.d (.int .i64 e_1),V.d (.str e_2),V.d (.int .i64 e_3),V.d (.sl 1 e_4),V.d (.sl 6 e_5)]]).run E=g23 A E e_0 e_1 e_2 e_3 e_4 e_5:=by kernel_rfl
def g49 (A:Sy)(E:Env)(e_0:Int)(e_1:Int)(e_2:ByteArray)(e_3:Int)(e_4:List (List D))(e_5:List (List D))(left_:Int):Option PRes:=
 bif (A.ile left_ 0)then
  some (.val [(.int .i64 0)])
 else
  E.lp (fun ds1=>
   (opI (A.cell ds1 0) .i64).bind fun n2=>
   (opI (A.cell ds1 1) .i64).bind fun n3=>
   oE A ds1 2 fun n4 n5 s6 n7 l8 l9=>
   cutO (
    bif (A.ilt n3 (A.rlen l9))then
     some (.inl [(.bool (A.ilt 0 n2))])
    else
     some (.inl [(.bool false)])
   ) fun ds10=>
   (opB (A.cell ds10 0)).bind fun b11=>
   bif b11 then
    bif (A.inr n3 (A.rlen l9))then
     oE A (A.row l9 n3) 0 fun n12 n13 s14 n15 l16 l17=>
     (E.call 49 [(kE n12 n13 s14 n15 l16 l17),(.d (.int .i64 n2))]).bind fun p18=>
     (opI (A.cell p18.leaves 0) .i64).bind fun n20=>
     some (.inl [(.int .i64 n20),(.int .i64 (A.wrap .i64 (A.add n3 1))),(.int .i64 n4),(.int .i64 n5),(.str s6),(.int .i64 n7),(.sl 1 l8),(.sl 6 l9)])
    else
     none
   else
    some (.inr (.val [(.int .i64 n2)]))
  ) [(.int .i64 (A.wrap .i64 (A.sub left_ 1))),(.int .i64 0),(.int .i64 e_0),(.int .i64 e_1),(.str e_2),(.int .i64 e_3),(.sl 1 e_4),(.sl 6 e_5)]
theorem g49_eq (A:Sy)(E:Env)(e_0:Int)(e_1:Int)(e_2:ByteArray)(e_3:Int)(e_4:List (List D))(e_5:List (List D))(left_:Int):(funT A Tryz.prog cs 49 [.agg [.d (.int .i64 e_0),V.d (.int .i64 e_1),V.d (.str e_2),V.d (.int .i64 e_3),V.d (.sl 1 e_4),V.d (.sl 6 e_5)],V.d (.int .i64 left_)]).run E=g49 A E e_0 e_1 e_2 e_3 e_4 e_5 left_:=by kernel_rfl
def g50 (A:Sy)(E:Env)(e_0:Int)(e_1:Int)(e_2:ByteArray)(e_3:Int)(e_4:List (List D))(e_5:List (List D)):Option PRes:=
 (E.call 64 [(kE e_0 e_1 e_2 e_3 e_4 e_5)]).bind fun p1=>
 (opL (A.cell p1.leaves 0) 6).bind fun l3=>
 E.lp (fun ds4=>
  (opL (A.cell ds4 0) 6).bind fun l5=>
  (opI (A.cell ds4 1) .i64).bind fun n6=>
  bif (A.ilt n6 (A.rlen l5))then
   bif (A.inr n6 (A.rlen l5))then
    (opS (A.cell (A.skip 2 (A.row l5 n6)) 0)).bind fun s7=>
    cutO (
     bif (A.ilt 200 (A.slen s7))then
      some (.inl [(.bool true)])
     else
      bif (A.inr n6 (A.rlen l5))then
       (opL (A.cell (A.skip 4 (A.row l5 n6)) 0) 1).bind fun l8=>
       some (.inl [(.bool (A.ilt 20 (A.rlen l8)))])
      else
       none
    ) fun ds9=>
    (opB (A.cell ds9 0)).bind fun b10=>
    bif b10 then
     some (.inr (.val [(.bool false)]))
    else
     E.lp (fun ds11=>
      (opL (A.cell ds11 0) 6).bind fun l12=>
      (opI (A.cell ds11 1) .i64).bind fun n13=>
      (opI (A.cell ds11 2) .i64).bind fun n14=>
      bif (A.inr n13 (A.rlen l12))then
       (opL (A.cell (A.skip 4 (A.row l12 n13)) 0) 1).bind fun l15=>
       bif (A.ilt n14 (A.rlen l15))then
        bif (A.inr n13 (A.rlen l12))then
         (opL (A.cell (A.skip 4 (A.row l12 n13)) 0) 1).bind fun l16=>
         bif (A.inr n14 (A.rlen l16))then
          (opS (A.cell (A.row l16 n14) 0)).bind fun s17=>
          bif (A.ilt 100 (A.slen s17))then
           some (.inr (.inr (.val [(.bool false)])))
          else
           some (.inl [(.sl 6 l12),(.int .i64 n13),(.int .i64 (A.wrap .i64 (A.add n14 1)))])
         else
          none
        else
         none
       else
        some (.inr (.inl [(.sl 6 l12),(.int .i64 (A.wrap .i64 (A.add n13 1)))]))
      else
       none
     ) [(.sl 6 l5),(.int .i64 n6),(.int .i64 0)]
   else
    none
  else
   some (.inr (.val [(.bool true)]))
 ) [(.sl 6 l3),(.int .i64 0)]
theorem g50_eq (A:Sy)(E:Env)(e_0:Int)(e_1:Int)(e_2:ByteArray)(e_3:Int)(e_4:List (List D))(e_5:List (List D)):(funT A Tryz.prog cs 50 [.agg [.d (.int .i64 e_0),V.d (.int .i64 e_1),V.d (.str e_2),V.d (.int .i64 e_3),V.d (.sl 1 e_4),V.d (.sl 6 e_5)]]).run E=g50 A E e_0 e_1 e_2 e_3 e_4 e_5:=by kernel_rfl
def g35 (A:Sy)(E:Env)(x_0:ByteArray)(x_1:Int)(x_2:Int)(x_3:ByteArray)(x_4:Int)(x_5:List (List D))(x_6:List (List D))(y_0:ByteArray)(y_1:Int)(y_2:Int)(y_3:ByteArray)(y_4:Int)(y_5:List (List D))(y_6:List (List D)):Option PRes:=
 cutO (
  bif (A.seq x_0 y_0)then
   (E.call 36 [(kE x_1 x_2 x_3 x_4 x_5 x_6),(kE y_1 y_2 y_3 y_4 y_5 y_6)]).bind fun p1=>
   (opB (A.cell p1.leaves 0)).bind fun b3=>
   some (.inl [(.bool b3)])
  else
   some (.inl [(.bool false)])
 ) fun ds4=>
 (opB (A.cell ds4 0)).bind fun b5=>
 some (.val [(.bool b5)])
theorem g35_eq (A:Sy)(E:Env)(x_0:ByteArray)(x_1:Int)(x_2:Int)(x_3:ByteArray)(x_4:Int)(x_5:List (List D))(x_6:List (List D))(y_0:ByteArray)(y_1:Int)(y_2:Int)(y_3:ByteArray)(y_4:Int)(y_5:List (List D))(y_6:List (List D)):(funT A Tryz.prog cs 35 [.agg [.d (.str x_0),V.d (.int .i64 x_1),V.d (.int .i64 x_2),V.d (.str x_3),V.d (.int .i64 x_4),V.d (.sl 1 x_5),V.d (.sl 6 x_6)],V.agg [.d (.str y_0),V.d (.int .i64 y_1),V.d (.int .i64 y_2),V.d (.str y_3),V.d (.int .i64 y_4),V.d (.sl 1 y_5),V.d (.sl 6 y_6)]]).run E=g35 A E x_0 x_1 x_2 x_3 x_4 x_5 x_6 y_0 y_1 y_2 y_3 y_4 y_5 y_6:=by kernel_rfl
def g67 (A:Sy)(E:Env)(s1_:List (List D))(s2_:List (List D)):Option PRes:=
 bif (A.bnot (A.ieq (A.rlen s1_) (A.rlen s2_)))then
  some (.val [(.bool false)])
 else
  E.lp (fun ds1=>
   (opL (A.cell ds1 0) 1).bind fun l2=>
   (opL (A.cell ds1 1) 1).bind fun l3=>
   (opI (A.cell ds1 2) .i64).bind fun n4=>
   (opI (A.cell ds1 3) .i64).bind fun n5=>
   bif (A.ilt n5 n4)then
    bif (A.inr n5 (A.rlen l2))then
     (opS (A.cell (A.row l2 n5) 0)).bind fun s6=>
     bif (A.inr n5 (A.rlen l3))then
      (opS (A.cell (A.row l3 n5) 0)).bind fun s7=>
      bif (A.bnot (A.seq s6 s7))then
       some (.inr (.val [(.bool false)]))
      else
       some (.inl [(.sl 1 l2),(.sl 1 l3),(.int .i64 n4),(.int .i64 (A.wrap .i64 (A.add n5 1)))])
     else
      none
    else
     none
   else
    some (.inr (.val [(.bool true)]))
  ) [(.sl 1 s1_),(.sl 1 s2_),(.int .i64 (A.rlen s1_)),(.int .i64 0)]
theorem g67_eq (A:Sy)(E:Env)(s1_:List (List D))(s2_:List (List D)):(funT A Tryz.prog cs 67 [.d (.sl 1 s1_),V.d (.sl 1 s2_)]).run E=g67 A E s1_ s2_:=by kernel_rfl
def g34_35 (A:Sy)(E:Env)(l l2:List (List D)):Option PRes:=
 bif (A.bnot (A.ieq (A.rlen l) (A.rlen l2)))then
  some (.val [(.bool false)])
 else
  E.lp (fun ds1=>
   (opL (A.cell ds1 0) 7).bind fun l2=>
   (opL (A.cell ds1 1) 7).bind fun l3=>
   (opI (A.cell ds1 2) .i64).bind fun n4=>
   (opI (A.cell ds1 3) .i64).bind fun n5=>
   bif (A.ilt n5 n4)then
    bif (A.inr n5 (A.rlen l3))then
     (opS (A.cell (A.row l3 n5) 0)).bind fun s6=>
     oE A (A.row l3 n5) 1 fun n7 n8 s9 n10 l11 l12=>
     bif (A.inr n5 (A.rlen l2))then
      (opS (A.cell (A.row l2 n5) 0)).bind fun s13=>
      oE A (A.row l2 n5) 1 fun n14 n15 s16 n17 l18 l19=>
      (E.call 35 [(.agg [(.d (.str s6)),(.d (.int .i64 n7)),(.d (.int .i64 n8)),(.d (.str s9)),(.d (.int .i64 n10)),(.d (.sl 1 l11)),(.d (.sl 6 l12))]),(.agg [(.d (.str s13)),(.d (.int .i64 n14)),(.d (.int .i64 n15)),(.d (.str s16)),(.d (.int .i64 n17)),(.d (.sl 1 l18)),(.d (.sl 6 l19))])]).bind fun p20=>
      (opB (A.cell p20.leaves 0)).bind fun b22=>
      bif (A.bnot b22)then
       some (.inr (.val [(.bool false)]))
      else
       some (.inl [(.sl 7 l2),(.sl 7 l3),(.int .i64 n4),(.int .i64 (A.wrap .i64 (A.add n5 1)))])
     else
      none
    else
     none
   else
    some (.inr (.val [(.bool true)]))
  ) [(.sl 7 l2),(.sl 7 l),(.int .i64 (A.rlen l)),(.int .i64 0)]
theorem g34_35_eq (A:Sy)(E:Env)(l l2:List (List D)):(funT A Tryz.prog cs 34 [.d (.sl 7 l), .d (.sl 7 l2), .fn 35 []]).run E=g34_35 A E l l2:=by kernel_rfl
def g68_36 (A:Sy)(E:Env)(l l2:List (List D)):Option PRes:=
 bif (A.bnot (A.ieq (A.rlen l) (A.rlen l2)))then
  some (.val [(.bool false)])
 else
  E.lp (fun ds1=>
   (opL (A.cell ds1 0) 6).bind fun l2=>
   (opL (A.cell ds1 1) 6).bind fun l3=>
   (opI (A.cell ds1 2) .i64).bind fun n4=>
   (opI (A.cell ds1 3) .i64).bind fun n5=>
   bif (A.ilt n5 n4)then
    bif (A.inr n5 (A.rlen l3))then
     oE A (A.row l3 n5) 0 fun n6 n7 s8 n9 l10 l11=>
     bif (A.inr n5 (A.rlen l2))then
      oE A (A.row l2 n5) 0 fun n12 n13 s14 n15 l16 l17=>
      (E.call 36 [(kE n6 n7 s8 n9 l10 l11),(kE n12 n13 s14 n15 l16 l17)]).bind fun p18=>
      (opB (A.cell p18.leaves 0)).bind fun b20=>
      bif (A.bnot b20)then
       some (.inr (.val [(.bool false)]))
      else
       some (.inl [(.sl 6 l2),(.sl 6 l3),(.int .i64 n4),(.int .i64 (A.wrap .i64 (A.add n5 1)))])
     else
      none
    else
     none
   else
    some (.inr (.val [(.bool true)]))
  ) [(.sl 6 l2),(.sl 6 l),(.int .i64 (A.rlen l)),(.int .i64 0)]
theorem g68_36_eq (A:Sy)(E:Env)(l l2:List (List D)):(funT A Tryz.prog cs 68 [.d (.sl 6 l), .d (.sl 6 l2), .fn 36 []]).run E=g68_36 A E l l2:=by kernel_rfl
def g176 (A:Sy)(E:Env)(b_:Bool):Option PRes:=
 bif b_ then
  some (.val [(.str (bs [116,114,117,101]))])
 else
  some (.val [(.str (bs [102,97,108,115,101]))])
theorem g176_eq (A:Sy)(E:Env)(b_:Bool):(funT A Tryz.prog cs 176 [.d (.bool b_)]).run E=g176 A E b_:=by kernel_rfl
end Go.Vm
end

section
set_option linter.all false
set_option maxRecDepth 100000
set_option maxHeartbeats 4000000
namespace Go.Vm
open Go.Proofs
theorem tb_mk (l:List UInt8):tb ⟨l.toArray⟩=l.map UInt8.toNat:=by simp [tb]
theorem join_flat0: ∀l:List (List UInt8),Lib.join l []=l.flatten
 | []=>rfl
 |x::r=>by
  rw[Lib.join_cons]
  unfold Lib.joinTail
  simp
theorem tb_join0 (l:List ByteArray):tb (joinB l (bs []))=(l.map tb).flatten:=by
 unfold joinB
 rw[show(bs []).data.toList= []from rfl,join_flat0,tb_mk,List.map_flatten,List.map_map]
 rfl
theorem sz_join0 (l:List ByteArray):(joinB l (bs [])).size=(l.map ByteArray.size).sum:=by
 rw[←tb_len,tb_join0,List.length_flatten,List.map_map]
 congr 1
 refine List.map_congr_left fun x _=> ?_
 exact tb_len x
theorem tail_seps {r:List ByteArray}{v:List Ex}(h:r.map tb=v.map fun x=>render (pcs x)):(Lib.joinTail [44,32] (r.map (·.data.toList))).map UInt8.toNat=render (sepP (pcsL v)):=by
 induction r generalizing v with
 |nil=>
  match v,h with
  | [],_=>rfl
 |cons t r ih=>
  match v,h with
  |x::v,h=>
   simp only [List.map_cons,List.cons.injEq]at h
   have ih:=ih h.2
   have e:Lib.joinTail [44,32] ((t::r).map (·.data.toList))= [44,32]++t.data.toList++Lib.joinTail [44,32] (r.map (·.data.toList)):=by
    unfold Lib.joinTail
    simp
   rw[e,List.map_append,List.map_append,ih]
   have: ∀z:Pc,render (mk 44::none::z)= [44,32]++render z:=fun z=>rfl
   simp only [pcsL,sepP,List.cons_append,List.nil_append,this,render_app,←h.1]
   rfl
theorem tb_joinC {ts:List ByteArray}{u:List Ex}(h:ts.map tb=u.map fun x=>render (pcs x)):tb (joinB ts (bs [44,32]))=render (listP (pcsL u)):=by
 match ts,u,h with
 | [],[],_=>rfl
 |t::r,x::v,h=>
  simp only [List.map_cons,List.cons.injEq]at h
  unfold joinB
  rw[tb_mk,List.map_cons,show(bs [44,32]).data.toList= [44,32]from rfl,Lib.join_cons,List.map_append,tail_seps h.2]
  simp only [pcsL,listP,render_app,←h.1]
  rfl
 | [],_::_,h=>cases h
 |_::_,[],h=>cases h
theorem dec_digN: ∀(m u:Nat),u≤m→(Lib.decDigits u).map UInt8.toNat=digN u
 |m,u,h=>by
  rw[Lib.decDigits,digN]
  by_cases h1:u < 10
  ·rw[dif_pos h1,dif_pos h1]
   have:(UInt8.ofNat (48+u)).toNat=48+u:=by rw[UInt8.toNat_ofNat'];omega
   rw[List.map_cons,List.map_nil,this]
  ·rw[dif_neg h1,dif_neg h1]
   cases m with
   |zero=>omega
   |succ m=>
    have:(UInt8.ofNat (48+u % 10)).toNat=48+u % 10:=by rw[UInt8.toNat_ofNat'];omega
    rw[List.map_append,dec_digN m (u / 10) (by omega),List.map_cons,List.map_nil,this]
theorem tb_itoa (n:Nat):tb ⟨(Lib.itoa (n:Int)).toArray⟩=digN n:=by
 rw[tb_mk]
 unfold Lib.itoa
 rw[if_neg (by omega),Int.toNat_natCast]
 exact dec_digN _ _ (Nat.le_refl _)
theorem digN_small: ∀(k n:Nat),1≤k→n < 10 ^ k→(digN n).length≤k
 |0,n,h,_=>by omega
 |k+1,n,_,h=>by
  rw[digN.eq_def]
  split
  ·simp
  ·rename_i h1
   have hk:1≤k:=by
    rcases Nat.eq_zero_or_pos k with h0|h0
    ·subst h0;omega
    ·exact h0
   have:=digN_small k (n / 10) hk (by rw[Nat.pow_succ]at h;omega)
   simp only [List.length_append,List.length_singleton];omega
theorem c_itoa (n:Nat)(h:n < 9223372036854775808): ∃r,cF 175 [.d (.int .i64 (n:Int)), .d (.int .i64 10)]=some (.val [.str r])∧tb r=digN n∧r.size≤100:=by
 refine⟨⟨(Lib.itoa (n:Int)).toArray⟩,callF_known ?_,tb_itoa n,?_⟩
 ·rw[show kn 175 [.d (.int .i64 (n:Int)), .d (.int .i64 10)]=knI [.d (.int .i64 (n:Int)), .d (.int .i64 10)]from rfl]
  simp only [knI]
  rw[decide_eq_true ⟨trivial,by omega,by omega⟩]
 ·rw[←tb_len,tb_itoa]
  have:=digN_small 19 n (by omega) (by have:(10:Nat) ^ 19=10000000000000000000:=by decide
                                       omega)
  omega
theorem c_join (l:List ByteArray)(sep:ByteArray)(hN:l.length≤140737488355328)(hl:(joinB l sep).size≤140737488355328):cF 29 [.d (.sl 1 (srows l)), .d (.str sep)]=some (.val [.str (joinB l sep)]):=by
 have hl:(Lib.join (l.map (·.data.toList)) sep.data.toList).length≤140737488355328:=by
  have:(joinB l sep).size=(Lib.join (l.map (·.data.toList)) sep.data.toList).length:=by
   show(Lib.join (l.map (·.data.toList)) sep.data.toList).toArray.size=_
   simp
  omega
 refine callF_known ?_
 rw[show kn 29 [.d (.sl 1 (srows l)), .d (.str sep)]=knJ [.d (.sl 1 (srows l)), .d (.str sep)]from rfl]
 simp only [knJ,unSr_srows]
 rw[decide_eq_true ⟨hN,hl⟩]
def roundB (l:List ByteArray):ByteArray:=bs [40]++joinB l (bs [])++bs [41]
theorem tot_len {l:List ByteArray}:(l.map ByteArray.size).sum=tot l:=rfl
theorem round_sz (l:List ByteArray):(roundB l).size=tot l+2:=by
 unfold roundB
 rw[ByteArray.size_append,ByteArray.size_append,sz_join0,tot_len]
 simp only [bs_sz,List.length_cons,List.length_nil];omega
theorem tb_round (l:List ByteArray):tb (roundB l)=40::((l.map tb).flatten++[41]):=by
 unfold roundB
 rw[tb_app,tb_app,tb_join0];rfl
theorem c_round (l:List ByteArray)(hN:l.length≤1000000)(hl:tot l≤100000000000):cF 105 [.d (.sl 1 (srows l))]=some (.val [.str (roundB l)]):=by
 have hs:(joinB l (bs [])).size≤100000000000:=by rw[sz_join0];exact hl
 have h1:=c_join l (bs []) (by omega) (by omega)
 have f1:sy.sfit (bs [40]) (joinB l (bs []))=true:=sfT (by rw[bs_sz];simp only [List.length_cons,List.length_nil];omega)
 have f2:sy.sfit (bs [40]++joinB l (bs [])) (bs [41])=true:=sfT (by simp only [ByteArray.size_append,bs_sz,List.length_cons,List.length_nil];omega)
 refine cOf (by kernel_rfl) rfl ?_
 rw[g105_eq]
 simp only [g105,go1,h1,f1,f2]
 rfl
theorem tot_cons (a:ByteArray)(l:List ByteArray):tot (a::l)=a.size+tot l:=by simp [tot]
theorem tot_nil:tot []=0:=rfl
end Go.Vm
end

section
set_option linter.all false
set_option maxRecDepth 100000
set_option maxHeartbeats 4000000
namespace Go.Vm
open Go.Proofs
theorem c_sOn (s a:ByteArray)(hs:s.size≤100000)(ha:a.size≤100000): ∃r,cF 148 [.d (.str s), .d (.str a)]=some (.val [.str r])∧tb r=render (onP s a)∧r.size≤300000:=by
 have e1:(a.toList == (bs [116,114,117,101]).toList)=decide (tb a=kTrue):=seq_tb _ _
 have e2:(a.toList == (bs [102,97,108,115,101]).toList)=decide (tb a=kFalse):=seq_tb _ _
 have s1:sy.sfit (bs [110,111,116,32]) s=true:=sfT (by simp only [bs_sz,List.length_cons,List.length_nil];omega)
 have s2:sy.sfit a (bs [40])=true:=sfT (by simp only [bs_sz,List.length_cons,List.length_nil];omega)
 have s3:sy.sfit (a++bs [40]) s=true:=sfT (by simp only [ByteArray.size_append,bs_sz,List.length_cons,List.length_nil];omega)
 have s4:sy.sfit (a++bs [40]++s) (bs [41])=true:=sfT (by simp only [ByteArray.size_append,bs_sz,List.length_cons,List.length_nil];omega)
 have core: ∃r,g148 sy eF s a=some (.val [.str r])∧tb r=render (onP s a)∧r.size≤300000:=by
  simp only [g148,go1,e1,e2,s1,s2,s3,s4]
  unfold onP
  by_cases h1:tb a=kTrue
  ·rw[if_pos h1,decide_eq_true h1]
   exact⟨s,rfl,(List.append_nil _).symm,by omega⟩
  ·rw[if_neg h1,decide_eq_false h1]
   by_cases h2:tb a=kFalse
   ·rw[if_pos h2,decide_eq_true h2]
    refine⟨_,rfl,?_,?_⟩
    ·rw[tb_app]
     show[110,111,116,32]++tb s=kNot++32::(tb s++[])
     rw[List.append_nil];rfl
    ·simp only [ByteArray.size_append,bs_sz,List.length_cons,List.length_nil];omega
   ·rw[if_neg h2,decide_eq_false h2]
    refine⟨_,rfl,?_,?_⟩
    ·rw[tb_app,tb_app,tb_app]
     have:T.w ⟨if highN (tb a)then 2 else 1,tb a,0⟩=tb a:=by
      unfold T.w
      rw[if_neg (by simp only;split<;>decide)]
     show tb a++[40]++tb s++[41]=T.w ⟨if highN (tb a)then 2 else 1,tb a,0⟩++([40]++(tb s++([41]++[])))
     rw[this]
     simp
    ·simp only [ByteArray.size_append,bs_sz,List.length_cons,List.length_nil];omega
 obtain⟨r,h1,h2⟩:=core
 exact⟨r,cOf (by kernel_rfl) rfl ((g148_eq _ _ _ _).trans h1),h2⟩
theorem c_scmp (o:Nat)(h1:11≤o)(h2:o≤16):cF 147 [.d (.int .i64 (o:Int))]=some (.val [.str (signB o)]):=by
 refine cOf (by kernel_rfl) rfl ?_
 rw[g147_eq]
 match o,h1,h2 with
 |11,_,_|12,_,_|13,_,_|14,_,_|15,_,_|16,_,_=>rfl
 |o+17,_,h=>omega
theorem c_sSign (o:Nat)(h1:3≤o)(h2:o≤16):cF 106 [.d (.int .i64 (o:Int))]=some (.val [.str (signB o)]):=by
 refine cOf (by kernel_rfl) rfl ?_
 rw[g106_eq]
 by_cases h:o < 11
 ·match o,h1,h with
  |3,_,_|4,_,_|5,_,_|6,_,_|7,_,_|8,_,_|9,_,_|10,_,_=>rfl
  |o+11,_,h=>omega
 ·have hc:=c_scmp o (by omega) h2
  have d: ∀k:Int,k < 11→decide ((o:Int)=k)=false:=fun k hk=>decide_eq_false (by omega)
  simp only [g106,go1,d 1 (by decide),d 2 (by decide),d 3 (by decide),d 4 (by decide),d 5 (by decide),d 6 (by decide),d 7 (by decide),d 8 (by decide),d 9 (by decide),d 10 (by decide),hc]
theorem c_sbool (b:Bool):cF 152 [.d (.bool b)]=some (.val [.str (bif b then bs [116,114,117,101]else bs [102,97,108,115,101])]):=by
 have h1:cF 176 [.d (.bool b)]=some (.val [.str (bif b then bs [116,114,117,101]else bs [102,97,108,115,101])]):=by
  refine cOf (by kernel_rfl) rfl ?_
  rw[g176_eq]
  cases b<;>rfl
 refine cOf (by kernel_rfl) rfl ?_
 rw[g152_eq]
 simp only [g152,go1,h1]
theorem c_sint (n:Nat)(h:n < 9223372036854775808): ∃r,cF 151 [.d (.int .i64 (n:Int)), .d (.int .i64 10)]=some (.val [.str r])∧tb r=digN n∧r.size≤100:=by
 obtain⟨r,h1,h2⟩:=c_itoa n h
 refine⟨r,?_,h2⟩
 refine cOf (by kernel_rfl) rfl ?_
 rw[g151_eq]
 simp only [g151,go1,h1]
theorem c_sleaf (k n:Int)(s:ByteArray)(o:Int)(a u:List (List D))(h0:k=1→0≤n∧n < 9223372036854775808)(hb:k=2→n=0∨n=1)(hs:s.size≤100000)(hp:k=17→pathN (tb s)=true)(hk:k=1∨k=2∨k=3∨k=4∨k=17): ∃r,cF 108 [kE k n s o a u]=some (.val [.str r])∧tb r=render (leafP k n s)∧r.size≤300000:=by
 have core: ∃r,g108 sy eF k n s o a u=some (.val [.str r])∧tb r=render (leafP k n s)∧r.size≤300000:=by
  rcases hk with rfl|rfl|rfl|rfl|rfl
  ·obtain⟨q1,q2⟩:=h0 rfl
   obtain⟨n,rfl⟩: ∃q:Nat,n=(q:Int):=⟨n.toNat,by omega⟩
   obtain⟨r,h1,h2,h3⟩:=c_sint n (by omega)
   refine⟨r,?_,?_,by omega⟩
   ·simp only [g108,go1,h1]
   ·rw[h2]
    show digN n=digN (n:Int).toNat++[]
    rw[List.append_nil,Int.toNat_natCast]
  ·rcases hb rfl with rfl|rfl
   ·have h1:=c_sbool false
    refine⟨bs [102,97,108,115,101],?_,rfl,by decide⟩
    simp only [g108,go1,show decide ((2:Int)=1)=false from rfl,h1]
   ·have h1:=c_sbool true
    refine⟨bs [116,114,117,101],?_,rfl,by decide⟩
    simp only [g108,go1,show decide ((2:Int)=1)=false from rfl,show decide ((1:Int)=0)=false from rfl,h1]
  ·exact⟨s,rfl,(List.append_nil _).symm,by omega⟩
  ·exact⟨s,rfl,(List.append_nil _).symm,by omega⟩
  ·have h1:=c_xQuote s (by omega)
   rw[hp rfl]at h1
   refine⟨bs [39]++s++bs [39],?_,?_,?_⟩
   ·simp only [g108,go1,show decide ((17:Int)=1)=false from rfl,show decide ((17:Int)=2)=false from rfl,h1]
   ·rw[tb_app,tb_app]
    show[39]++tb s++[39]=(39::(tb s++[39]))++[]
    simp
   ·simp only [ByteArray.size_append,bs_sz,List.length_cons,List.length_nil];omega
 obtain⟨r,h1,h2⟩:=core
 exact⟨r,cOf (by kernel_rfl) rfl ((g108_eq _ _ _ _ _ _ _ _).trans h1),h2⟩
def TxtS (x:Ex):Prop:= ∀k n s o a u,x= .mk k n s o a u→ ∃r,cF 57 [kE k n s o (srows a) (Ex.rows u)]=some (.val [.str r])∧tb r=render (pcs x)∧r.size≤1000000*x.size
theorem c_sall (u:List Ex)(hz:Ex.sizes u≤1000)(hu: ∀x∈u,TxtS x): ∃ts,cF 104 [.d (.sl 6 (Ex.rows u))]=some (.own 9 1 (srows ts))∧TS' u ts:=by
 have hl:=sizes_len u
 have core: ∃p,g104 sy eF (Ex.rows u)=some p∧ ∃ts,p= .own 9 1 (srows ts)∧TS' u ts:=by
  unfold g104
  rw[sy_rlen,rows_len]
  refine loopF_ex (fun x:Nat × List ByteArray=>[.sl 6 (Ex.rows u), .int .i64 (u.length:Int), .int .i64 (x.1:Int), .sl 1 (srows x.2)]) (fun x=>x.1≤u.length∧x.2.length=x.1∧TS' (u.take x.1) x.2) (fun x=>u.length - x.1) (fun x hx=> ?_) (0,[]) ⟨Nat.zero_le _,rfl,⟨by simp,by simp [tot]⟩⟩
  obtain⟨i,ts⟩:=x
  obtain⟨h1,hti,hts⟩:=hx
  simp only at h1 hti hts ⊢
  by_cases hlt:i < u.length
  ·left
   have hx:=List.getElem?_eq_getElem hlt
   have ht:=hu u[i] (List.getElem_mem hlt)
   have htk:u.take (i+1)=u.take i++[u[i]]:=by rw[List.take_add_one,hx];rfl
   generalize u[i]=e at hx ht htk
   have hr:=xrow hx
   obtain⟨k2,n2,s2,o2,a2,u2⟩:=e
   obtain⟨t,h4,h5,h6⟩:=ht k2 n2 s2 o2 a2 u2 rfl
   have w1:IntKind.i64.wrap ((i:Int)+1)=((i+1:Nat):Int):=by rw[wrap_id (by omega) (by omega)];omega
   have l0:=ilt_at hlt
   have i0:=inr_at hlt
   have fit:decide (((srows ts).length+[[D.str t]].length)*(16+1)≤140737488355328)=true:=decide_eq_true (by rw[srows_len];simp only [List.length_cons,List.length_nil];omega)
   refine⟨(i+1,ts++[t]),?_,⟨hlt,by simp [hti],?_,?_⟩,by simp only;omega⟩
   ·have e1:srows ts++[[D.str t]]=srows (ts++[t]):=by rw[←srows_app];rfl
    simp only [go1,oE,rows_len,l0,i0,hr,Ex.row,h4,fit,e1,w1]
   ·simp only
    rw[htk,List.map_append,List.map_append,hts.m]
    simp [h5]
   ·simp only
    rw[htk,tot_snoc,sizes_snoc]
    have:=hts.z
    omega
  ·right
   have:i=u.length:=by omega
   subst this
   rw[List.take_length]at hts
   refine⟨_,?_,ts,rfl,hts⟩
   simp only [go1,ilt_self]
 obtain⟨p,h1,ts,rfl,h2⟩:=core
 exact⟨ts,cOf (by kernel_rfl) rfl ((g104_eq _ _ _).trans h1),h2⟩
end Go.Vm
end

section
set_option linter.all false
set_option maxRecDepth 100000
set_option maxHeartbeats 4000000
namespace Go.Vm
open Go.Proofs
theorem c_sfl8 (n:Int)(s:ByteArray)(o:Int)(a:List ByteArray)(u:List Ex)(ts:List ByteArray)(hz:Ex.sizes u≤1000)(hts:TS' u ts)(hlu:u.length=2): ∃r,cF 107 [kE 8 n s o (srows a) (Ex.rows u), .d (.sl 1 (srows ts))]=some (.val [.str r])∧tb r=render (pcK 8 n s o a (pcsL u))∧r.size≤1000000*(Ex.sizes u+1):=by
 match u,hlu,hts with
 | [x,y],_,hts=>
   obtain⟨t,v,rfl,q0,q1,hb⟩:=hts.l2
   simp only [Ex.sizes]at hz ⊢
   have c0:sy.cell (sy.row (srows [t,v]) 0) 0=some (.str t):=rfl
   have i0:decide ((0:Int)≤0∧(0:Int) < ((srows [t,v]).length:Int))=true:=rfl
   have c1:sy.cell (sy.row (srows [t,v]) 1) 0=some (.str v):=rfl
   have i1:decide ((0:Int)≤1∧(1:Int) < ((srows [t,v]).length:Int))=true:=rfl
   have h:=c_round [t,bs [32,102,98,121,32],v] (by simp only [List.length_cons,List.length_nil];omega) (by(simp only [tot_cons,tot_nil,bs_sz,List.length_cons,List.length_nil];omega))
   have h:cF 105 [V.d (D.sl 1 [[D.str (t)],[D.str (bs [32,102,98,121,32])],[D.str (v)]])]=some (.val [.str (roundB [t,bs [32,102,98,121,32],v])]):=h
   refine⟨roundB [t,bs [32,102,98,121,32],v],?_,?_,?_⟩
   ·refine cOf (by kernel_rfl) rfl ?_
    rw[g107_eq]
    simp only [g107,go1,Int.reduceEq,c0,i0,c1,i1,h]
   ·rw[tb_round]
    show _=render ([mk 40]++pcs x++[none,wd kFby,none]++pcs y++[mk 41])
    simp only [List.map_cons,List.map_nil,List.flatten_cons,List.flatten_nil,List.append_nil,render_app,List.append_assoc,q0,q1]
    rfl
   ·rw[round_sz]
    simp only [tot_cons,tot_nil,bs_sz,List.length_cons,List.length_nil]
    omega
theorem c_sfl9 (n:Int)(s:ByteArray)(o:Int)(a:List ByteArray)(u:List Ex)(ts:List ByteArray)(hz:Ex.sizes u≤1000)(hts:TS' u ts)(hlu:u.length=2): ∃r,cF 107 [kE 9 n s o (srows a) (Ex.rows u), .d (.sl 1 (srows ts))]=some (.val [.str r])∧tb r=render (pcK 9 n s o a (pcsL u))∧r.size≤1000000*(Ex.sizes u+1):=by
 match u,hlu,hts with
 | [x,y],_,hts=>
   obtain⟨t,v,rfl,q0,q1,hb⟩:=hts.l2
   simp only [Ex.sizes]at hz ⊢
   have c0:sy.cell (sy.row (srows [t,v]) 0) 0=some (.str t):=rfl
   have i0:decide ((0:Int)≤0∧(0:Int) < ((srows [t,v]).length:Int))=true:=rfl
   have c1:sy.cell (sy.row (srows [t,v]) 1) 0=some (.str v):=rfl
   have i1:decide ((0:Int)≤1∧(1:Int) < ((srows [t,v]).length:Int))=true:=rfl
   have h:=c_round [t,bs [32,45,62,32],v] (by simp only [List.length_cons,List.length_nil];omega) (by(simp only [tot_cons,tot_nil,bs_sz,List.length_cons,List.length_nil];omega))
   have h:cF 105 [V.d (D.sl 1 [[D.str (t)],[D.str (bs [32,45,62,32])],[D.str (v)]])]=some (.val [.str (roundB [t,bs [32,45,62,32],v])]):=h
   refine⟨roundB [t,bs [32,45,62,32],v],?_,?_,?_⟩
   ·refine cOf (by kernel_rfl) rfl ?_
    rw[g107_eq]
    simp only [g107,go1,Int.reduceEq,c0,i0,c1,i1,h]
   ·rw[tb_round]
    show _=render ([mk 40]++pcs x++[none,m2 45 62,none]++pcs y++[mk 41])
    simp only [List.map_cons,List.map_nil,List.flatten_cons,List.flatten_nil,List.append_nil,render_app,List.append_assoc,q0,q1]
    rfl
   ·rw[round_sz]
    simp only [tot_cons,tot_nil,bs_sz,List.length_cons,List.length_nil]
    omega
theorem c_sfl10 (n:Int)(s:ByteArray)(o:Int)(a:List ByteArray)(u:List Ex)(ts:List ByteArray)(hz:Ex.sizes u≤1000)(hts:TS' u ts)(hlu:u.length=1): ∃r,cF 107 [kE 10 n s o (srows a) (Ex.rows u), .d (.sl 1 (srows ts))]=some (.val [.str r])∧tb r=render (pcK 10 n s o a (pcsL u))∧r.size≤1000000*(Ex.sizes u+1):=by
 match u,hlu,hts with
 | [x],_,hts=>
   obtain⟨t,rfl,q0,hb⟩:=hts.l1
   simp only [Ex.sizes]at hz ⊢
   have c0:sy.cell (sy.row (srows [t]) 0) 0=some (.str t):=rfl
   have i0:decide ((0:Int)≤0∧(0:Int) < ((srows [t]).length:Int))=true:=rfl
   have h:=c_round [bs [112,114,101,32],t] (by simp only [List.length_cons,List.length_nil];omega) (by(simp only [tot_cons,tot_nil,bs_sz,List.length_cons,List.length_nil];omega))
   have h:cF 105 [V.d (D.sl 1 [[D.str (bs [112,114,101,32])],[D.str (t)]])]=some (.val [.str (roundB [bs [112,114,101,32],t])]):=h
   refine⟨roundB [bs [112,114,101,32],t],?_,?_,?_⟩
   ·refine cOf (by kernel_rfl) rfl ?_
    rw[g107_eq]
    simp only [g107,go1,Int.reduceEq,c0,i0,h]
   ·rw[tb_round]
    show _=render ([mk 40,wd kPre,none]++pcs x++[mk 41])
    simp only [List.map_cons,List.map_nil,List.flatten_cons,List.flatten_nil,List.append_nil,render_app,List.append_assoc,q0]
    rfl
   ·rw[round_sz]
    simp only [tot_cons,tot_nil,bs_sz,List.length_cons,List.length_nil]
    omega
theorem c_sfl11 (n:Int)(s:ByteArray)(o:Int)(a:List ByteArray)(u:List Ex)(ts:List ByteArray)(hz:Ex.sizes u≤1000)(hts:TS' u ts)(hlu:u.length=1)(hla:a.length=1)(fs:s.size≤100000)(fa: ∀x∈a,x.size≤100000): ∃r,cF 107 [kE 11 n s o (srows a) (Ex.rows u), .d (.sl 1 (srows ts))]=some (.val [.str r])∧tb r=render (pcK 11 n s o a (pcsL u))∧r.size≤1000000*(Ex.sizes u+1):=by
 match u,hlu,hts with
 | [x],_,hts=>
   obtain⟨t,rfl,q0,hb⟩:=hts.l1
   simp only [Ex.sizes]at hz ⊢
   obtain⟨ar,rfl⟩: ∃ar,a= [ar]:=List.length_eq_one_iff.1 hla
   obtain⟨g,g1,qx,g3⟩:=c_sOn s ar fs (fa ar (by simp))
   have ca:sy.cell (sy.row (srows [ar]) 0) 0=some (.str ar):=rfl
   have ia:decide ((0:Int)≤0∧(0:Int) < ((srows [ar]).length:Int))=true:=rfl
   have c0:sy.cell (sy.row (srows [t]) 0) 0=some (.str t):=rfl
   have i0:decide ((0:Int)≤0∧(0:Int) < ((srows [t]).length:Int))=true:=rfl
   have h:=c_round [t,bs [32,119,104,101,110,32],g] (by simp only [List.length_cons,List.length_nil];omega) (by(simp only [tot_cons,tot_nil,bs_sz,List.length_cons,List.length_nil];omega))
   have h:cF 105 [V.d (D.sl 1 [[D.str (t)],[D.str (bs [32,119,104,101,110,32])],[D.str (g)]])]=some (.val [.str (roundB [t,bs [32,119,104,101,110,32],g])]):=h
   refine⟨roundB [t,bs [32,119,104,101,110,32],g],?_,?_,?_⟩
   ·refine cOf (by kernel_rfl) rfl ?_
    rw[g107_eq]
    simp only [g107,go1,Int.reduceEq,c0,i0,ca,ia,g1,h]
   ·rw[tb_round]
    show _=render ([mk 40]++pcs x++[none,wd kWhen,none]++onP s ar++[mk 41])
    simp only [List.map_cons,List.map_nil,List.flatten_cons,List.flatten_nil,List.append_nil,render_app,List.append_assoc,q0,qx]
    rfl
   ·rw[round_sz]
    simp only [tot_cons,tot_nil,bs_sz,List.length_cons,List.length_nil]
    omega
theorem c_smerge (n:Int)(s:ByteArray)(o:Int)(a:List ByteArray)(u:List Ex)(ts:List ByteArray)(hz:Ex.sizes u≤1000)(hts:TS' u ts)(hla:a.length=u.length)(hu6:u.length≤6)(fs:s.size≤100000)(fa: ∀x∈a,x.size≤100000): ∃r,cF 149 [kE 12 n s o (srows a) (Ex.rows u), .d (.sl 1 (srows ts))]=some (.val [.str r])∧tb r=render (pcK 12 n s o a (pcsL u))∧r.size≤1000000*(Ex.sizes u+1):=by
 have tl:ts.length=u.length:=by simpa using congrArg List.length hts.m
 have core: ∃p,g149 sy eF 12 n s o (srows a) (Ex.rows u) (srows ts)=some p∧ ∃r,p= .val [.str r]∧tb r=render (pcK 12 n s o a (pcsL u))∧r.size≤1000000*(Ex.sizes u+1):=by
  unfold g149
  rw[sy_rlen,srows_len]
  refine loopF_ex (fun x:Nat × List ByteArray=>[.sl 1 (srows ts), .int .i64 (ts.length:Int), .int .i64 (x.1:Int), .int .i64 12, .int .i64 n, .str s, .int .i64 o, .sl 1 (srows a), .sl 6 (Ex.rows u), .sl 1 (srows x.2)]) (fun x=>x.1≤u.length∧x.2.length=2+2*x.1∧(x.2.map tb).flatten= [109,101,114,103,101,32]++tb s++render (mergeP (a.take x.1) (pcsL (u.take x.1)))∧tot x.2≤100006+tot (ts.take x.1)+100007*x.1) (fun x=>u.length - x.1) (fun x hx=> ?_) (0,[bs [109,101,114,103,101,32],s]) ⟨Nat.zero_le _,rfl,?_,?_⟩
  ·obtain⟨i,L⟩:=x
   obtain⟨g1,g0,g2,g3⟩:=hx
   simp only at g1 g0 g2 g3 ⊢
   by_cases hlt:i < u.length
   ·left
    have hla':i < a.length:=by omega
    have hlt':i < ts.length:=by omega
    have ha:=List.getElem?_eq_getElem hla'
    have ht:=List.getElem?_eq_getElem hlt'
    have hx:=List.getElem?_eq_getElem hlt
    have htx:tb ts[i]=render (pcs u[i]):=by
     have:=congrArg (fun l=>l[i]?) hts.m
     simp only [List.getElem?_map,ht,hx,Option.map_some,Option.some.injEq]at this
     exact this
    have az:a[i].size≤100000:=fa _ (List.getElem_mem hla')
    have tk1:ts.take (i+1)=ts.take i++[ts[i]]:=by rw[List.take_add_one,ht];rfl
    have tk2:a.take (i+1)=a.take i++[a[i]]:=by rw[List.take_add_one,ha];rfl
    have tk3:u.take (i+1)=u.take i++[u[i]]:=by rw[List.take_add_one,hx];rfl
    have tz:tot (ts.take i)+ts[i].size≤tot ts:=by
     have e:tot ts=tot (ts.take (i+1))+tot (ts.drop (i+1)):=by
      unfold tot
      rw[←List.sum_append,←List.map_append,List.take_append_drop]
     rw[e,tk1,tot_snoc];omega
    have tz2:=hts.z
    generalize a[i]=aa at ha az tk2
    generalize ts[i]=tt at ht htx tk1 tz
    generalize u[i]=e at hx htx tk3
    have ca:=srows_at ha
    have ct:=srows_at ht
    have w1:IntKind.i64.wrap ((i:Int)+1)=((i+1:Nat):Int):=by rw[wrap_id (by omega) (by omega)];omega
    have l1:decide ((i:Int) < (ts.length:Int))=true:=ilt_at hlt'
    have i1:decide ((0:Int)≤(i:Int)∧(i:Int) < (ts.length:Int))=true:=inr_at hlt'
    have i2:decide ((0:Int)≤(i:Int)∧(i:Int) < (a.length:Int))=true:=inr_at hla'
    have h:=c_round [aa,bs [32,45,62,32],tt] (by simp only [List.length_cons,List.length_nil];omega) (by simp only [tot_cons,tot_nil,bs_sz,List.length_cons,List.length_nil];omega)
    have h:cF 105 [V.d (D.sl 1 [[D.str aa],[D.str (bs [32,45,62,32])],[D.str tt]])]=some (.val [.str (roundB [aa,bs [32,45,62,32],tt])]):=h
    have fit:decide (((srows L).length+[[D.str (bs [32])],[D.str (roundB [aa,bs [32,45,62,32],tt])]].length)*(16+1)≤140737488355328)=true:=decide_eq_true (by rw[srows_len];simp only [List.length_cons,List.length_nil];omega)
    have e1:srows L++[[D.str (bs [32])],[D.str (roundB [aa,bs [32,45,62,32],tt])]]=srows (L++[bs [32],roundB [aa,bs [32,45,62,32],tt]]):=by rw[←srows_app];rfl
    refine⟨(i+1,L++[bs [32],roundB [aa,bs [32,45,62,32],tt]]),?_,⟨hlt,?_,?_,?_⟩,by simp only;omega⟩
    ·simp only [go1,oE,srows_len,l1,i1,i2,ca,ct,w1,h,e1]
     rw[srows_len]at fit
     simp only [go1,fit]
    ·simp only [List.length_append,List.length_cons,List.length_nil,g0];omega
    ·simp only
     rw[tk2,tk3,pcsL_snoc,merge_snoc _ _ _ _ (by rw[pcsL_len,List.length_take,List.length_take];omega)]
     simp only [List.map_append,List.flatten_append,g2,List.map_cons,List.map_nil,List.flatten_cons,List.flatten_nil,tb_round,htx,List.append_assoc,List.append_nil]
     rfl
    ·simp only
     rw[tk1,tot_snoc]
     unfold tot at g3 ⊢
     simp only [List.map_append,List.sum_append,List.map_cons,List.map_nil,List.sum_cons,List.sum_nil,round_sz,tot_cons,tot_nil,bs_sz,List.length_cons,List.length_nil]
     omega
   ·right
    have:i=u.length:=by omega
    subst this
    have l1:decide (((u.length:Nat):Int) < (ts.length:Int))=false:=by rw[tl];exact ilt_self _
    have ttz:=hts.z
    rw[←tl,List.take_length]at g3
    rw[←hla,List.take_length,hla,List.take_length]at g2
    have h:=c_round L (by omega) (by omega)
    refine⟨_,?_,roundB L,rfl,?_,?_⟩
    ·simp only [go1,oE,l1,h]
    ·show _=render ([mk 40,wd kMerge,none,wd (tb s)]++mergeP a (pcsL u)++[mk 41])
     rw[tb_round,g2]
     simp only [render_app,List.append_assoc]
     have:render [mk 40,wd kMerge,none,wd (tb s)]= [40,109,101,114,103,101,32]++(tb s++[]):=rfl
     rw[this]
     simp only [List.append_assoc,List.append_nil]
     rfl
    ·rw[round_sz];omega
  ·show[109,101,114,103,101,32]++(tb s++[])=_++_++render (mergeP (a.take 0) (pcsL (u.take 0)))
   have:mergeP (a.take 0) (pcsL (u.take 0))= []:=by unfold mergeP;rfl
   rw[this]
   simp only [render,List.append_nil]
  ·simp only [tot_cons,tot_nil,bs_sz,List.length_cons,List.length_nil];omega
 obtain⟨p,h1,r,rfl,h2⟩:=core
 exact⟨r,cOf (by kernel_rfl) rfl ((g149_eq _ _ _ _ _ _ _ _ _).trans h1),h2⟩
theorem c_sfl12 (n:Int)(s:ByteArray)(o:Int)(a:List ByteArray)(u:List Ex)(ts:List ByteArray)(hz:Ex.sizes u≤1000)(hts:TS' u ts)(hla:a.length=u.length)(hu6:u.length≤6)(fs:s.size≤100000)(fa: ∀x∈a,x.size≤100000): ∃r,cF 107 [kE 12 n s o (srows a) (Ex.rows u), .d (.sl 1 (srows ts))]=some (.val [.str r])∧tb r=render (pcK 12 n s o a (pcsL u))∧r.size≤1000000*(Ex.sizes u+1):=by
 obtain⟨r,h,h2⟩:=c_smerge n s o a u ts hz hts hla hu6 fs fa
 refine⟨r,?_,h2⟩
 refine cOf (by kernel_rfl) rfl ?_
 rw[g107_eq]
 simp only [g107,go1,Int.reduceEq,h]
theorem sz_joinC (ts:List ByteArray):(joinB ts (bs [44,32])).size≤tot ts+2*ts.length:=by
 rw[←tb_len]
 unfold joinB
 rw[tb_mk,List.length_map]
 match ts with
 | []=>exact Nat.le_refl _
 |t::r=>
  rw[List.map_cons,Lib.join_cons,List.length_append]
  have key: ∀r:List ByteArray,(Lib.joinTail (bs [44,32]).data.toList (r.map (·.data.toList))).length=tot r+2*r.length:=by
   intro r
   induction r with
   |nil=>rfl
   |cons x r ih=>
    have e:Lib.joinTail (bs [44,32]).data.toList ((x::r).map (·.data.toList))= [44,32]++x.data.toList++Lib.joinTail (bs [44,32]).data.toList (r.map (·.data.toList)):=by
     unfold Lib.joinTail
     simp
     rfl
    have hx:x.data.toList.length=x.size:=by rw[←tb_len];simp [tb]
    rw[e,List.length_append,List.length_append,ih,tot_cons,hx]
    simp only [List.length_cons,List.length_nil];omega
  have ht:t.data.toList.length=t.size:=by rw[←tb_len];simp [tb]
  rw[key,tot_cons,ht]
  simp only [List.length_cons];omega
theorem srows_cut (l:List ByteArray)(i:Nat):sy.cut (srows l) 0 (i:Int)=srows (l.take i):=by
 show((srows l).take (i:Int).toNat).drop (0:Int).toNat=_
 rw[Int.toNat_natCast]
 show(srows l).take i=_
 unfold srows
 rw[List.map_take]
theorem TS'.take {u:List Ex}{ts:List ByteArray}(h:TS' u ts){v:List Ex}{x:Ex}(e:u=v++[x]): ∃ts' t,ts=ts'++[t]∧ts'.map tb=v.map (fun x=>render (pcs x))∧tb t=render (pcs x)∧tot ts'+t.size≤1000000*Ex.sizes u∧ts'.length=v.length:=by
 subst e
 have hm:=h.m
 have hl:ts.length=v.length+1:=by simpa using congrArg List.length hm
 have hne:ts≠[]:=by rintro rfl;simp at hl
 obtain⟨ts',t,rfl⟩: ∃ts' t,ts=ts'++[t]:=⟨_,_,(List.dropLast_concat_getLast hne).symm⟩
 have hz:=h.z
 rw[tot_snoc]at hz
 simp only [List.map_append,List.map_cons,List.map_nil]at hm
 have h2:=List.append_inj' hm rfl
 exact⟨ts',t,rfl,h2.1,by simpa using h2.2,hz,by simpa using hl⟩
theorem c_scall (n:Int)(s:ByteArray)(o:Int)(a:List ByteArray)(u:List Ex)(ts:List ByteArray)(hz:Ex.sizes u≤1000)(hts:TS' u ts)(fs:s.size≤100000)(hn:n=0∨n=1∧u≠[]): ∃r,cF 150 [kE 13 n s o (srows a) (Ex.rows u), .d (.sl 1 (srows ts))]=some (.val [.str r])∧tb r=render (callP n s (pcsL u))∧r.size≤1000000*(Ex.sizes u+1):=by
 have hl:=sizes_len u
 have tl:ts.length=u.length:=by simpa using congrArg List.length hts.m
 have hzz:=hts.z
 rcases hn with rfl|⟨rfl,hne⟩
 ·have hj:=sz_joinC ts
  have h1:=c_join ts (bs [44,32]) (by omega) (by omega)
  have h2:=c_round [joinB ts (bs [44,32])] (by simp) (by simp only [tot_cons,tot_nil];omega)
  have h2:cF 105 [V.d (D.sl 1 [[D.str (joinB ts (bs [44,32]))]])]=some (.val [.str (roundB [joinB ts (bs [44,32])])]):=h2
  have hr:(roundB [joinB ts (bs [44,32])]).size≤tot ts+2*ts.length+2:=by rw[round_sz];simp only [tot_cons,tot_nil];omega
  have f:sy.sfit s (roundB [joinB ts (bs [44,32])])=true:=sfT (by omega)
  have w0:IntKind.i64.wrap ((ts.length:Int) - 0)=((ts.length:Nat):Int):=by rw[wrap_id (by omega) (by omega)];omega
  have c0:decide ((0:Int)≤0∧(0:Int)≤(ts.length:Int)∧(ts.length:Int)≤(ts.length:Int))=true:=decide_eq_true ⟨Int.le_refl _,by omega,Int.le_refl _⟩
  have c1:=srows_cut ts ts.length
  rw[List.take_length]at c1
  have c1:((srows ts).take (ts.length:Int).toNat).drop (0:Int).toNat=srows ts:=c1
  refine⟨s++roundB [joinB ts (bs [44,32])],?_,?_,?_⟩
  ·refine cOf (by kernel_rfl) rfl ?_
   rw[g150_eq]
   simp only [g150,go1,srows_len,w0,c0,c1,h1,h2,f]
  ·have e:callP 0 s (pcsL u)= [wd (tb s),mk 40]++listP (pcsL u)++[mk 41]:=rfl
   rw[e,tb_app,tb_round]
   simp only [List.map_cons,List.map_nil,List.flatten_cons,List.flatten_nil,List.append_nil,render_app,tb_joinC hts.m]
   show tb s++40::(render (listP (pcsL u))++[41])=(tb s++[40])++render (listP (pcsL u))++[41]
   simp
  ·rw[ByteArray.size_append];omega
 ·obtain⟨v,x,rfl⟩: ∃v x,u=v++[x]:=⟨_,_,(List.dropLast_concat_getLast hne).symm⟩
  obtain⟨ts,t,rfl,m1,m2,m3,m4⟩:=hts.take rfl
  have hsz:=sizes_snoc x v
  have hlv:=sizes_len v
  have hx1:=(show 1≤x.size by cases x;simp [Ex.size])
  have hj:=sz_joinC ts
  have h1:=c_join ts (bs [44,32]) (by omega) (by omega)
  have h2:=c_round [joinB ts (bs [44,32])] (by simp) (by simp only [tot_cons,tot_nil];omega)
  have h2:cF 105 [V.d (D.sl 1 [[D.str (joinB ts (bs [44,32]))]])]=some (.val [.str (roundB [joinB ts (bs [44,32])])]):=h2
  have hr:(roundB [joinB ts (bs [44,32])]).size≤tot ts+2*ts.length+2:=by rw[round_sz];simp only [tot_cons,tot_nil];omega
  have f:sy.sfit s (roundB [joinB ts (bs [44,32])])=true:=sfT (by omega)
  have hL:(ts++[t]).length=ts.length+1:=by simp
  have w0:IntKind.i64.wrap (((ts.length+1:Nat):Int) - 1)=((ts.length:Nat):Int):=by rw[wrap_id (by omega) (by omega)];omega
  have c0:decide ((0:Int)≤0∧(0:Int)≤(ts.length:Int)∧(ts.length:Int)≤((ts.length+1:Nat):Int))=true:=decide_eq_true ⟨Int.le_refl _,by omega,by omega⟩
  have c1:=srows_cut (ts++[t]) ts.length
  rw[List.take_left]at c1
  have c1:((srows (ts++[t])).take (ts.length:Int).toNat).drop (0:Int).toNat=srows ts:=c1
  have i0:decide ((0:Int)≤(ts.length:Int)∧(ts.length:Int) < ((ts.length+1:Nat):Int))=true:=decide_eq_true ⟨by omega,by omega⟩
  have ct:=srows_at (show(ts++[t])[ts.length]? =some t by simp)
  have h3:=c_round [s++roundB [joinB ts (bs [44,32])],bs [32,101,118,101,114,121,32],t] (by simp) (by simp only [tot_cons,tot_nil,bs_sz,ByteArray.size_append,List.length_cons,List.length_nil];omega)
  have h3:cF 105 [V.d (D.sl 1 [[D.str (s++roundB [joinB ts (bs [44,32])])],[D.str (bs [32,101,118,101,114,121,32])],[D.str t]])]=some (.val [.str (roundB [s++roundB [joinB ts (bs [44,32])],bs [32,101,118,101,114,121,32],t])]):=h3
  refine⟨roundB [s++roundB [joinB ts (bs [44,32])],bs [32,101,118,101,114,121,32],t],?_,?_,?_⟩
  ·refine cOf (by kernel_rfl) rfl ?_
   rw[g150_eq]
   simp only [g150,go1,srows_len,hL,w0,c0,c1,h1,h2,f,i0,ct,h3,show decide ((1:Int)=0)=false from rfl]
  ·have e:callP 1 s (pcsL (v++[x]))= [mk 40,wd (tb s),mk 40]++listP (pcsL v)++[mk 41,none,wd kEvery,none]++pcs x++[mk 41]:=by
    rw[pcsL_snoc]
    show[mk 40,wd (tb s),mk 40]++listP ((pcsL v++[pcs x]).take ((pcsL v++[pcs x]).length - 1))++[mk 41,none,wd kEvery,none]++(pcsL v++[pcs x]).getD ((pcsL v++[pcs x]).length - 1) []++[mk 41]=_
    have t1:(pcsL v++[pcs x]).length - 1=(pcsL v).length:=by simp
    rw[t1,List.take_left,List.getD_eq_getElem?_getD,List.getElem?_concat_length]
    rfl
   rw[e,tb_round]
   simp only [List.map_cons,List.map_nil,List.flatten_cons,List.flatten_nil,List.append_nil,tb_app,tb_round,tb_joinC m1,m2,render_app]
   have r1:render [mk 40,wd (tb s),mk 40]= [40]++(tb s++[40]):=rfl
   have r2:render [mk 41,none,wd kEvery,none]= [41]++[32,101,118,101,114,121,32]:=rfl
   have r3:render [mk 41]= [41]:=rfl
   have q3:tb (bs [32,101,118,101,114,121,32])= [32,101,118,101,114,121,32]:=rfl
   rw[r1,r2,r3,q3]
   simp
  ·rw[round_sz]
   simp only [tot_cons,tot_nil,bs_sz,ByteArray.size_append,List.length_cons,List.length_nil]
   omega
theorem c_sfl13 (n:Int)(s:ByteArray)(o:Int)(a:List ByteArray)(u:List Ex)(ts:List ByteArray)(hz:Ex.sizes u≤1000)(hts:TS' u ts)(fs:s.size≤100000)(hn:n=0∨n=1∧u≠[]): ∃r,cF 107 [kE 13 n s o (srows a) (Ex.rows u), .d (.sl 1 (srows ts))]=some (.val [.str r])∧tb r=render (pcK 13 n s o a (pcsL u))∧r.size≤1000000*(Ex.sizes u+1):=by
 obtain⟨r,h,h2⟩:=c_scall n s o a u ts hz hts fs hn
 refine⟨r,?_,h2⟩
 refine cOf (by kernel_rfl) rfl ?_
 rw[g107_eq]
 simp only [g107,go1,Int.reduceEq,h]
end Go.Vm
end

section
set_option linter.all false
set_option maxRecDepth 100000
set_option maxHeartbeats 4000000
namespace Go.Vm
open Go.Proofs
theorem c_stext1 (k n:Int)(s:ByteArray)(o:Int)(a:List ByteArray)(u:List Ex)(ts:List ByteArray)(hz:Ex.sizes u≤1000)(hts:TS' u ts)(hall:cF 104 [.d (.sl 6 (Ex.rows u))]=some (.own 9 1 (srows ts)))(hpart:partB (.mk k n s o a u)=true)(fs:s.size≤100000)(fa: ∀x∈a,x.size≤100000)(fn:n < 9223372036854775808):
  ∃r,cF 57 [kE k n s o (srows a) (Ex.rows u)]=some (.val [.str r])∧tb r=render (pcK k n s o a (pcsL u))∧r.size≤1000000*(Ex.sizes u+1):=by
 have hl:=sizes_len u
 have tl:ts.length=u.length:=by simpa using congrArg List.length hts.m
 unfold partB at hpart
 simp only [Bool.and_eq_true]at hpart
 obtain⟨hk,h1,h2,h3,h4,h5,h6,h7⟩:=hpart
 have h5:=of_decide_eq_true h5
 have h6:=of_decide_eq_true h6
 rcases kinds k hk with rfl|rfl|rfl|rfl|rfl|rfl|rfl|rfl|rfl|rfl|rfl|rfl|rfl|rfl|rfl|rfl|rfl
 · -- 1
   obtain⟨r,q1,q2,q3⟩:=c_sleaf 1 n s o (srows a) (Ex.rows u) (fun _=>⟨of_decide_eq_true h1,fn⟩) (fun h=>by cases h) fs (fun h=>by cases h) (by decide)
   refine⟨r,?_,q2,by omega⟩
   refine cOf (by kernel_rfl) rfl ?_
   rw[g57_eq]
   simp only [g57,go1,Int.reduceEq,hall,q1]
 · -- 2
   obtain⟨r,q1,q2,q3⟩:=c_sleaf 2 n s o (srows a) (Ex.rows u) (fun h=>by cases h) (fun _=>by simpa [numB]using h1) fs (fun h=>by cases h) (by decide)
   refine⟨r,?_,q2,by omega⟩
   refine cOf (by kernel_rfl) rfl ?_
   rw[g57_eq]
   simp only [g57,go1,Int.reduceEq,hall,q1]
 · -- 3
   obtain⟨r,q1,q2,q3⟩:=c_sleaf 3 n s o (srows a) (Ex.rows u) (fun h=>by cases h) (fun h=>by cases h) fs (fun h=>by cases h) (by decide)
   refine⟨r,?_,q2,by omega⟩
   refine cOf (by kernel_rfl) rfl ?_
   rw[g57_eq]
   simp only [g57,go1,Int.reduceEq,hall,q1]
 · -- 4
   obtain⟨r,q1,q2,q3⟩:=c_sleaf 4 n s o (srows a) (Ex.rows u) (fun h=>by cases h) (fun h=>by cases h) fs (fun h=>by cases h) (by decide)
   refine⟨r,?_,q2,by omega⟩
   refine cOf (by kernel_rfl) rfl ?_
   rw[g57_eq]
   simp only [g57,go1,Int.reduceEq,hall,q1]
 · -- 5
   have hlu:u.length=1:=by simp [hiB,loB]at h5 h6;omega
   by_cases ho:o=1
   ·subst ho
    match u,hlu,hts with
    | [x],_,hts=>
      obtain⟨t,rfl,q0,hb⟩:=hts.l1
      simp only [Ex.sizes]at hz ⊢
      have c0:sy.cell (sy.row (srows [t]) 0) 0=some (.str t):=rfl
      have i0:decide ((0:Int)≤0∧(0:Int) < ((srows [t]).length:Int))=true:=rfl
      have h:=c_round [bs [45],t] (by simp only [List.length_cons,List.length_nil];omega) (by(simp only [tot_cons,tot_nil,bs_sz,List.length_cons,List.length_nil];omega))
      have h:cF 105 [V.d (D.sl 1 [[D.str (bs [45])],[D.str (t)]])]=some (.val [.str (roundB [bs [45],t])]):=h
      refine⟨roundB [bs [45],t],?_,?_,?_⟩
      ·refine cOf (by kernel_rfl) rfl ?_
       rw[g57_eq]
       simp only [g57,go1,Int.reduceEq,c0,i0,hall,h,leaves_own]
      ·rw[tb_round]
       show _=render ([mk 40,mk 45]++pcs x++[mk 41])
       simp only [List.map_cons,List.map_nil,List.flatten_cons,List.flatten_nil,List.append_nil,render_app,List.append_assoc,q0]
       rfl
      ·rw[round_sz]
       simp only [tot_cons,tot_nil,bs_sz,List.length_cons,List.length_nil]
       omega
   ·have e: ∀t,pcK 5 n s o a t= [mk 40,wd kNot,none]++t.getD 0 []++[mk 41]:=fun t=>by unfold pcK;rw[if_pos rfl,if_neg ho]
    rw[e]
    have ho:=decide_eq_false ho
    match u,hlu,hts with
    | [x],_,hts=>
      obtain⟨t,rfl,q0,hb⟩:=hts.l1
      simp only [Ex.sizes]at hz ⊢
      have c0:sy.cell (sy.row (srows [t]) 0) 0=some (.str t):=rfl
      have i0:decide ((0:Int)≤0∧(0:Int) < ((srows [t]).length:Int))=true:=rfl
      have h:=c_round [bs [110,111,116,32],t] (by simp only [List.length_cons,List.length_nil];omega) (by(simp only [tot_cons,tot_nil,bs_sz,List.length_cons,List.length_nil];omega))
      have h:cF 105 [V.d (D.sl 1 [[D.str (bs [110,111,116,32])],[D.str (t)]])]=some (.val [.str (roundB [bs [110,111,116,32],t])]):=h
      refine⟨roundB [bs [110,111,116,32],t],?_,?_,?_⟩
      ·refine cOf (by kernel_rfl) rfl ?_
       rw[g57_eq]
       simp only [g57,go1,Int.reduceEq,c0,i0,hall,ho,h,leaves_own]
      ·rw[tb_round]
       show _=render ([mk 40,wd kNot,none]++pcs x++[mk 41])
       simp only [List.map_cons,List.map_nil,List.flatten_cons,List.flatten_nil,List.append_nil,render_app,List.append_assoc,q0]
       rfl
      ·rw[round_sz]
       simp only [tot_cons,tot_nil,bs_sz,List.length_cons,List.length_nil]
       omega
 · -- 6
   have hlu:u.length=2:=by simp [hiB,loB]at h5 h6;omega
   match u,hlu,hts with
   | [x,y],_,hts=>
     obtain⟨t,v,rfl,q0,q1,hb⟩:=hts.l2
     simp only [Ex.sizes]at hz ⊢
     have ho:3≤o∧o≤16:=by simpa [opB_]using h3
     obtain⟨o,rfl⟩: ∃q:Nat,o=(q:Int):=⟨o.toNat,by omega⟩
     have hsg:=c_sSign o (by omega) (by omega)
     have hss:(signB o).size≤3:=by
      have h1:3≤o:=by omega
      have h2:o≤16:=by omega
      match o,h1,h2 with
      |3,_,_|4,_,_|5,_,_|6,_,_|7,_,_|8,_,_|9,_,_|10,_,_|11,_,_|12,_,_|13,_,_|14,_,_|15,_,_|16,_,_=>decide
      |o+17,_,h=>omega
     have qx:render [none,opK o,none]= [32]++(tb (signB o)++[32]):=by
      show 32::(T.w ⟨if 7≤o∧o≤10 then 1 else 5,tb (signB o),0⟩++[32])=_
      unfold T.w
      rw[if_neg (by simp only;split<;>decide)]
      rfl
     have c0:sy.cell (sy.row (srows [t,v]) 0) 0=some (.str t):=rfl
     have i0:decide ((0:Int)≤0∧(0:Int) < ((srows [t,v]).length:Int))=true:=rfl
     have c1:sy.cell (sy.row (srows [t,v]) 1) 0=some (.str v):=rfl
     have i1:decide ((0:Int)≤1∧(1:Int) < ((srows [t,v]).length:Int))=true:=rfl
     have h:=c_round [t,bs [32],signB o,bs [32],v] (by simp only [List.length_cons,List.length_nil];omega) (by(simp only [tot_cons,tot_nil,bs_sz,List.length_cons,List.length_nil];omega))
     have h:cF 105 [V.d (D.sl 1 [[D.str (t)],[D.str (bs [32])],[D.str (signB o)],[D.str (bs [32])],[D.str (v)]])]=some (.val [.str (roundB [t,bs [32],signB o,bs [32],v])]):=h
     refine⟨roundB [t,bs [32],signB o,bs [32],v],?_,?_,?_⟩
     ·refine cOf (by kernel_rfl) rfl ?_
      rw[g57_eq]
      simp only [g57,go1,Int.reduceEq,c0,i0,c1,i1,hall,hsg,h,leaves_own]
     ·rw[tb_round]
      show _=render ([mk 40]++pcs x++[none,opK o,none]++pcs y++[mk 41])
      simp only [List.map_cons,List.map_nil,List.flatten_cons,List.flatten_nil,List.append_nil,render_app,List.append_assoc,q0,q1,qx]
      rfl
     ·rw[round_sz]
      simp only [tot_cons,tot_nil,bs_sz,List.length_cons,List.length_nil]
      omega
 · -- 7
   have hlu:u.length=3:=by simp [hiB,loB]at h5 h6;omega
   match u,hlu,hts with
   | [x,y,z],_,hts=>
     obtain⟨t,v,w,rfl,q0,q1,q2,hb⟩:=hts.l3
     simp only [Ex.sizes]at hz ⊢
     have c0:sy.cell (sy.row (srows [t,v,w]) 0) 0=some (.str t):=rfl
     have i0:decide ((0:Int)≤0∧(0:Int) < ((srows [t,v,w]).length:Int))=true:=rfl
     have c1:sy.cell (sy.row (srows [t,v,w]) 1) 0=some (.str v):=rfl
     have i1:decide ((0:Int)≤1∧(1:Int) < ((srows [t,v,w]).length:Int))=true:=rfl
     have c2:sy.cell (sy.row (srows [t,v,w]) 2) 0=some (.str w):=rfl
     have i2:decide ((0:Int)≤2∧(2:Int) < ((srows [t,v,w]).length:Int))=true:=rfl
     have h:=c_round [bs [105,102,32],t,bs [32,116,104,101,110,32],v,bs [32,101,108,115,101,32],w] (by simp only [List.length_cons,List.length_nil];omega) (by(simp only [tot_cons,tot_nil,bs_sz,List.length_cons,List.length_nil];omega))
     have h:cF 105 [V.d (D.sl 1 [[D.str (bs [105,102,32])],[D.str (t)],[D.str (bs [32,116,104,101,110,32])],[D.str (v)],[D.str (bs [32,101,108,115,101,32])],[D.str (w)]])]=some (.val [.str (roundB [bs [105,102,32],t,bs [32,116,104,101,110,32],v,bs [32,101,108,115,101,32],w])]):=h
     refine⟨roundB [bs [105,102,32],t,bs [32,116,104,101,110,32],v,bs [32,101,108,115,101,32],w],?_,?_,?_⟩
     ·refine cOf (by kernel_rfl) rfl ?_
      rw[g57_eq]
      simp only [g57,go1,Int.reduceEq,c0,i0,c1,i1,c2,i2,hall,h,leaves_own]
     ·rw[tb_round]
      show _=render ([mk 40,wd kIf,none]++pcs x++[none,wd kThen,none]++pcs y++[none,wd kElse,none]++pcs z++[mk 41])
      simp only [List.map_cons,List.map_nil,List.flatten_cons,List.flatten_nil,List.append_nil,render_app,List.append_assoc,q0,q1,q2]
      rfl
     ·rw[round_sz]
      simp only [tot_cons,tot_nil,bs_sz,List.length_cons,List.length_nil]
      omega
 · -- 8
   have hlu:u.length=2:=by simp [hiB,loB]at h5 h6;omega
   obtain⟨r,q1,q2⟩:=c_sfl8 n s o a u ts hz hts hlu
   refine⟨r,?_,q2⟩
   refine cOf (by kernel_rfl) rfl ?_
   rw[g57_eq]
   simp only [g57,go1,Int.reduceEq,hall,leaves_own,q1]
 · -- 9
   have hlu:u.length=2:=by simp [hiB,loB]at h5 h6;omega
   obtain⟨r,q1,q2⟩:=c_sfl9 n s o a u ts hz hts hlu
   refine⟨r,?_,q2⟩
   refine cOf (by kernel_rfl) rfl ?_
   rw[g57_eq]
   simp only [g57,go1,Int.reduceEq,hall,leaves_own,q1]
 · -- 10
   have hlu:u.length=1:=by simp [hiB,loB]at h5 h6;omega
   obtain⟨r,q1,q2⟩:=c_sfl10 n s o a u ts hz hts hlu
   refine⟨r,?_,q2⟩
   refine cOf (by kernel_rfl) rfl ?_
   rw[g57_eq]
   simp only [g57,go1,Int.reduceEq,hall,leaves_own,q1]
 · -- 11
   have hlu:u.length=1:=by simp [hiB,loB]at h5 h6;omega
   have hla:a.length=1:=by
    unfold armsB at h4
    simp only [Bool.and_eq_true]at h4
    exact of_decide_eq_true h4.2
   obtain⟨r,q1,q2⟩:=c_sfl11 n s o a u ts hz hts hlu hla fs fa
   refine⟨r,?_,q2⟩
   refine cOf (by kernel_rfl) rfl ?_
   rw[g57_eq]
   simp only [g57,go1,Int.reduceEq,hall,leaves_own,q1]
 · -- 12
   have hla:a.length=u.length:=by simp [hiB,loB]at h5 h6;omega
   have hu6:u.length≤6:=by
    unfold armsB at h4
    simp only [Bool.and_eq_true]at h4
    have:=h4.2
    simp only [show decide ((12:Int)=11)=false from rfl,cond_false,decide_true,cond_true,Bool.and_eq_true]at this
    have:=of_decide_eq_true this.2.1
    omega
   obtain⟨r,q1,q2⟩:=c_sfl12 n s o a u ts hz hts hla hu6 fs fa
   refine⟨r,?_,q2⟩
   refine cOf (by kernel_rfl) rfl ?_
   rw[g57_eq]
   simp only [g57,go1,Int.reduceEq,hall,leaves_own,q1]
 · -- 13
   have hn:n=0∨n=1∧u≠[]:=by
    have hn:n=0∨n=1:=by simpa [numB]using h1
    rcases hn with rfl|rfl
    ·exact .inl rfl
    ·refine .inr ⟨rfl,?_⟩
     rintro rfl
     simp [loB]at h5
   obtain⟨r,q1,q2⟩:=c_sfl13 n s o a u ts hz hts fs hn
   refine⟨r,?_,q2⟩
   refine cOf (by kernel_rfl) rfl ?_
   rw[g57_eq]
   simp only [g57,go1,Int.reduceEq,hall,leaves_own,q1]
 · -- 14
   have hzz:=hts.z
   have hj:=sz_joinC ts
   have q1:=c_join ts (bs [44,32]) (by omega) (by omega)
   have f1:sy.sfit (bs [91]) (joinB ts (bs [44,32]))=true:=sfT (by rw[bs_sz];simp only [List.length_cons,List.length_nil];omega)
   have f2:sy.sfit (bs [91]++joinB ts (bs [44,32])) (bs [93])=true:=sfT (by simp only [ByteArray.size_append,bs_sz,List.length_cons,List.length_nil];omega)
   refine⟨bs [91]++joinB ts (bs [44,32])++bs [93],?_,?_,?_⟩
   ·refine cOf (by kernel_rfl) rfl ?_
    rw[g57_eq]
    simp only [g57,go1,Int.reduceEq,hall,leaves_own,q1,f1,f2]
   ·show _=render ([mk 91]++listP (pcsL u)++[mk 93])
    simp only [tb_app,tb_joinC hts.m,render_app]
    rfl
   ·simp only [ByteArray.size_append,bs_sz,List.length_cons,List.length_nil];omega
 · -- 15
   have hlu:u.length=2:=by simp [hiB,loB]at h5 h6;omega
   match u,hlu,hts with
   | [x,y],_,hts=>
     obtain⟨t,v,rfl,q0,q1,hb⟩:=hts.l2
     simp only [Ex.sizes]at hz ⊢
     have c0:sy.cell (sy.row (srows [t,v]) 0) 0=some (.str t):=rfl
     have i0:decide ((0:Int)≤0∧(0:Int) < ((srows [t,v]).length:Int))=true:=rfl
     have c1:sy.cell (sy.row (srows [t,v]) 1) 0=some (.str v):=rfl
     have i1:decide ((0:Int)≤1∧(1:Int) < ((srows [t,v]).length:Int))=true:=rfl
     have f1:sy.sfit t (bs [91])=true:=sfT (by rw[bs_sz];simp only [List.length_cons,List.length_nil];omega)
     have f2:sy.sfit (t++bs [91]) v=true:=sfT (by simp only [ByteArray.size_append,bs_sz,List.length_cons,List.length_nil];omega)
     have f3:sy.sfit (t++bs [91]++v) (bs [93])=true:=sfT (by simp only [ByteArray.size_append,bs_sz,List.length_cons,List.length_nil];omega)
     refine⟨t++bs [91]++v++bs [93],?_,?_,?_⟩
     ·refine cOf (by kernel_rfl) rfl ?_
      rw[g57_eq]
      simp only [g57,go1,Int.reduceEq,hall,leaves_own,c0,i0,c1,i1,f1,f2,f3]
     ·show _=render (pcs x++[mk 91]++pcs y++[mk 93])
      simp only [tb_app,q0,q1,render_app]
      rfl
     ·simp only [ByteArray.size_append,bs_sz,List.length_cons,List.length_nil];omega
 · -- 16
   have hlu:u.length=3:=by simp [hiB,loB]at h5 h6;omega
   match u,hlu,hts with
   | [x,y,z],_,hts=>
     obtain⟨t,v,w,rfl,q0,q1,q2,hb⟩:=hts.l3
     simp only [Ex.sizes]at hz ⊢
     have c0:sy.cell (sy.row (srows [t,v,w]) 0) 0=some (.str t):=rfl
     have i0:decide ((0:Int)≤0∧(0:Int) < ((srows [t,v,w]).length:Int))=true:=rfl
     have c1:sy.cell (sy.row (srows [t,v,w]) 1) 0=some (.str v):=rfl
     have i1:decide ((0:Int)≤1∧(1:Int) < ((srows [t,v,w]).length:Int))=true:=rfl
     have c2:sy.cell (sy.row (srows [t,v,w]) 2) 0=some (.str w):=rfl
     have i2:decide ((0:Int)≤2∧(2:Int) < ((srows [t,v,w]).length:Int))=true:=rfl
     have h:=c_round [t,bs [32,119,105,116,104,32,91],v,bs [93,32,61,32],w] (by simp only [List.length_cons,List.length_nil];omega) (by(simp only [tot_cons,tot_nil,bs_sz,List.length_cons,List.length_nil];omega))
     have h:cF 105 [V.d (D.sl 1 [[D.str (t)],[D.str (bs [32,119,105,116,104,32,91])],[D.str (v)],[D.str (bs [93,32,61,32])],[D.str (w)]])]=some (.val [.str (roundB [t,bs [32,119,105,116,104,32,91],v,bs [93,32,61,32],w])]):=h
     refine⟨roundB [t,bs [32,119,105,116,104,32,91],v,bs [93,32,61,32],w],?_,?_,?_⟩
     ·refine cOf (by kernel_rfl) rfl ?_
      rw[g57_eq]
      simp only [g57,go1,Int.reduceEq,c0,i0,c1,i1,c2,i2,hall,h,leaves_own]
     ·rw[tb_round]
      show _=render ([mk 40]++pcs x++[none,wd kWith,none,mk 91]++pcs y++[mk 93,none,mk 61,none]++pcs z++[mk 41])
      simp only [List.map_cons,List.map_nil,List.flatten_cons,List.flatten_nil,List.append_nil,render_app,List.append_assoc,q0,q1,q2]
      rfl
     ·rw[round_sz]
      simp only [tot_cons,tot_nil,bs_sz,List.length_cons,List.length_nil]
      omega
 · -- 17
   obtain⟨r,q1,q2,q3⟩:=c_sleaf 17 n s o (srows a) (Ex.rows u) (fun h=>by cases h) (fun h=>by cases h) fs (fun _=>h2) (by decide)
   refine⟨r,?_,q2,by omega⟩
   refine cOf (by kernel_rfl) rfl ?_
   rw[g57_eq]
   simp only [g57,go1,Int.reduceEq,hall,q1]
theorem c_stext: ∀(m:Nat) (k n:Int) (s:ByteArray) (o:Int) (a:List ByteArray) (u:List Ex),(Ex.mk k n s o a u).size≤m→m≤1000→allB (.mk k n s o a u)=true→(Ex.mk k n s o a u).fine→(Ex.mk k n s o a u).rng→
  ∃r,cF 57 [kE k n s o (srows a) (Ex.rows u)]=some (.val [.str r])∧tb r=render (pcs (.mk k n s o a u))∧r.size≤1000000*(Ex.mk k n s o a u).size
 |0,k,n,s,o,a,u,h,_,_,_,_=>by simp only [Ex.size]at h;omega
 |m+1,k,n,s,o,a,u,h,hm,hall,hfine,hrng=>by
  have hz:Ex.sizes u≤m:=by simp only [Ex.size]at h;omega
  obtain⟨⟨fs,fa,fal⟩,fu⟩:=hfine
  obtain⟨rn,ru⟩:=hrng
  simp only [allB,Bool.and_eq_true]at hall
  obtain⟨hpart,hu⟩:=hall
  have hT: ∀x∈u,TxtS x:=fun x hx=>by
   rintro k2 n2 s2 o2 a2 u2 rfl
   obtain⟨i,hi⟩:=List.getElem?_of_mem hx
   have h1:=sizes_mem hi
   have h2:=fine_mem hi fu
   have h3:allB (.mk k2 n2 s2 o2 a2 u2)=true:=by
    have: ∀ {l:List Ex},allBs l=true→ ∀x∈l,allB x=true:=by
     intro l
     induction l with
     |nil=>intro _ x h;cases h
     |cons y l ih=>
      intro h x hx
      simp only [allBs,Bool.and_eq_true]at h
      rcases List.mem_cons.1 hx with rfl|hx
      ·exact h.1
      ·exact ih h.2 x hx
    exact this hu _ hx
   have h4:(Ex.mk k2 n2 s2 o2 a2 u2).rng:=by
    have: ∀ {l:List Ex},Ex.rngs l→ ∀x∈l,x.rng:=by
     intro l
     induction l with
     |nil=>intro _ x h;cases h
     |cons y l ih=>
      intro h x hx
      rcases List.mem_cons.1 hx with rfl|hx
      ·exact h.1
      ·exact ih h.2 x hx
    exact this ru _ hx
   exact c_stext m k2 n2 s2 o2 a2 u2 (by omega) (by omega) h3 h2 h4
  obtain⟨ts,t1,t2⟩:=c_sall u (by omega) hT
  exact c_stext1 k n s o a u ts (by omega) t2 t1 hpart fs fa rn
theorem c_sExpr (k n:Int)(s:ByteArray)(o:Int)(a:List ByteArray)(u:List Ex)(hr:smallB (.mk k n s o a u)=true∧allB (.mk k n s o a u)=true)(hf:(Ex.mk k n s o a u).fine)(hn:(Ex.mk k n s o a u).rng):
  ∃r,cF 27 [kE k n s o (srows a) (Ex.rows u)]=some (.val [.str r])∧tb r=render (pcs (.mk k n s o a u))∧r.size≤60000000:=by
 have hz:(Ex.mk k n s o a u).size≤60:=by
  have:=hr.1
  unfold smallB at this
  simp only [Bool.and_eq_true,decide_eq_true_eq]at this
  exact this.1
 obtain⟨r,h1,h2,h3⟩:=c_stext 60 k n s o a u hz (by omega) hr.2 hf hn
 have h0:=c_eRight k n s o a u (by omega) hf
 rw[hr.1,hr.2]at h0
 refine⟨r,?_,h2,by omega⟩
 refine cOf (by kernel_rfl) rfl ?_
 rw[g27_eq]
 simp only [g27,go1,Bool.and_true,h0,h1]
theorem c_rExpr10 (k n:Int)(s:ByteArray)(o:Int)(a:List ByteArray)(u:List Ex)(hr:smallB (.mk k n s o a u)=true∧allB (.mk k n s o a u)=true)(hf:(Ex.mk k n s o a u).fine)(hn:(Ex.mk k n s o a u).rng):
  ∃r,cF 33 [kE k n s o (srows a) (Ex.rows u)]=some (.val [.str r])∧tb r=render (pcs (.mk k n s o a u))∧r.size≤60000000:=by
 have hz:(Ex.mk k n s o a u).size≤60:=by
  have:=hr.1
  unfold smallB at this
  simp only [Bool.and_eq_true,decide_eq_true_eq]at this
  exact this.1
 obtain⟨r,h1,h2,h3⟩:=c_rtext 60 k n s o a u hz (by omega) hr.2 hf hn
 have h0:=c_reRight k n s o a u (by omega) hf
 rw[hr.1,hr.2]at h0
 refine⟨r,?_,h2,by omega⟩
 refine cOf (by kernel_rfl) rfl ?_
 rw[g33_eq]
 simp only [g33,go1,Bool.and_true,h0,h1]
end Go.Vm
end

section
set_option linter.all false
set_option maxRecDepth 100000
set_option maxHeartbeats 4000000
namespace Go.Vm
open Go.Proofs
def eqL {α β:Type}(f:α→β→Bool):List α→List β→Bool
 | [],[]=>true
 |x::a,y::b=>f x y&&eqL f a b
 |_,_=>false
theorem eqL_ne {α β:Type}{f:α→β→Bool}: ∀ {a:List α} {b:List β},a.length≠b.length→eqL f a b=false
 | [],[],h=>(h rfl).elim
 |x::a,y::b,h=>by
  rw[eqL,eqL_ne (fun e=>h (by simp [e])),Bool.and_false]
 | [],_::_,_=>rfl
 |_::_,[],_=>rfl
theorem eqL_step {α β:Type}(f:α→β→Bool){a:List α}{b:List β}{i:Nat}{x:α}{y:β}(hx:a[i]? =some x)(hy:b[i]? =some y):eqL f (a.drop i) (b.drop i)=(f x y&&eqL f (a.drop (i+1)) (b.drop (i+1))):=by
 obtain⟨h1,rfl⟩:=List.getElem?_eq_some_iff.1 hx
 obtain⟨h2,rfl⟩:=List.getElem?_eq_some_iff.1 hy
 rw[List.drop_eq_getElem_cons h1,List.drop_eq_getElem_cons h2,eqL]
theorem eqL_end {α β:Type}{f:α→β→Bool}{a:List α}{b:List β}(h:a.length=b.length):eqL f (a.drop a.length) (b.drop a.length)=true:=by
 have:b.drop a.length= []:=by rw[h,List.drop_length]
 rw[List.drop_length,this,eqL]
def eqS (x y:ByteArray):Bool:=decide (tb x=tb y)
mutual
def Ex.eqB:Ex→Ex→Bool
 | .mk k n s o a u, .mk k2 n2 s2 o2 a2 u2=>decide (k=k2)&&(decide (n=n2)&&(decide (tb s=tb s2)&&(decide (o=o2)&&(eqL eqS a a2&&Ex.eqBs u u2))))
def Ex.eqBs:List Ex→List Ex→Bool
 | [],[]=>true
 |e::u,f::v=>e.eqB f&&Ex.eqBs u v
 |_,_=>false
end
theorem eqBs_eq: ∀u v:List Ex,Ex.eqBs u v=eqL Ex.eqB u v
 | [],[]=>rfl
 |e::u,f::v=>by rw[Ex.eqBs,eqL,eqBs_eq u v]
 | [],_::_=>rfl
 |_::_,[]=>rfl
theorem c_eqS (a b:List ByteArray)(ha:a.length≤1000000):cF 67 [.d (.sl 1 (srows a)), .d (.sl 1 (srows b))]=some (.val [.bool (eqL eqS a b)]):=by
 refine cOf (by kernel_rfl) rfl ?_
 rw[g67_eq]
 simp only [g67,go1,Nat.reduceAdd,Int.reduceEq,Int.reduceLT,Int.reduceLE,Int.reduceSub,Int.reduceAdd,srows_len]
 cases hd:decide ((a.length:Int)=(b.length:Int))with
 |false=>
  have hd:=of_decide_eq_false hd
  rw[eqL_ne (f:=eqS) (show a.length≠b.length by omega)]
  rfl
 |true=>
  have hl:a.length=b.length:=by have:=of_decide_eq_true hd;omega
  simp only [go1,Nat.reduceAdd,Int.reduceEq,Int.reduceLT,Int.reduceLE,Int.reduceSub,Int.reduceAdd]
  refine loopF_at (fun i:Nat=>[.sl 1 (srows a), .sl 1 (srows b), .int .i64 (a.length:Int), .int .i64 (i:Int)]) (fun i=>i≤a.length∧eqL eqS a b=eqL eqS (a.drop i) (b.drop i)) (fun i=>a.length - i) (fun i hi=> ?_) 0 ⟨Nat.zero_le _,rfl⟩
  obtain⟨h1,h2⟩:=hi
  by_cases hlt:i < a.length
  ·have hlt2:i < b.length:=by omega
   have hx:=List.getElem?_eq_getElem hlt
   have hy:=List.getElem?_eq_getElem hlt2
   generalize a[i]=x at hx
   generalize b[i]=y at hy
   have hs:=eqL_step eqS hx hy
   simp only [go1,Nat.reduceAdd,Int.reduceEq,Int.reduceLT,Int.reduceLE,Int.reduceSub,Int.reduceAdd,srows_len,ilt_at hlt,inr_at hlt,inr_at hlt2,srows_at hx,srows_at hy,seq_tb,wrap_succ hlt (by omega)]
   cases hq:decide (tb x=tb y)with
   |false=>
    right
    rw[h2,hs]
    unfold eqS
    rw[hq];rfl
   |true=>
    left
    refine⟨i+1,rfl,⟨hlt,?_⟩,by omega⟩
    rw[h2,hs]
    show(decide (tb x=tb y)&&_)=_
    rw[hq,Bool.true_and]
  ·right
   have:i=a.length:=by omega
   subst this
   rw[h2,eqL_end hl]
   simp only [go1,Nat.reduceAdd,Int.reduceEq,Int.reduceLT,Int.reduceLE,Int.reduceSub,Int.reduceAdd,srows_len,ilt_self]
theorem c_rNames2 (a b:List ByteArray)(ha:a.length≤1000000):cF 48 [.d (.sl 1 (srows a)), .d (.sl 1 (srows b))]=some (.val [.bool (eqL eqS a b)]):=by
 refine cOf (by kernel_rfl) rfl ?_
 rw[g48_eq]
 simp only [g48,go1,Nat.reduceAdd,Int.reduceEq,Int.reduceLT,Int.reduceLE,Int.reduceSub,Int.reduceAdd,srows_len]
 cases hd:decide ((a.length:Int)=(b.length:Int))with
 |false=>
  have hd:=of_decide_eq_false hd
  rw[eqL_ne (f:=eqS) (show a.length≠b.length by omega)]
  rfl
 |true=>
  have hl:a.length=b.length:=by have:=of_decide_eq_true hd;omega
  simp only [go1,Nat.reduceAdd,Int.reduceEq,Int.reduceLT,Int.reduceLE,Int.reduceSub,Int.reduceAdd]
  refine loopF_at (fun i:Nat=>[.sl 1 (srows a), .sl 1 (srows b), .int .i64 (i:Int)]) (fun i=>i≤a.length∧eqL eqS a b=eqL eqS (a.drop i) (b.drop i)) (fun i=>a.length - i) (fun i hi=> ?_) 0 ⟨Nat.zero_le _,rfl⟩
  obtain⟨h1,h2⟩:=hi
  by_cases hlt:i < a.length
  ·have hlt2:i < b.length:=by omega
   have hx:=List.getElem?_eq_getElem hlt
   have hy:=List.getElem?_eq_getElem hlt2
   generalize a[i]=x at hx
   generalize b[i]=y at hy
   have hs:=eqL_step eqS hx hy
   simp only [go1,Nat.reduceAdd,Int.reduceEq,Int.reduceLT,Int.reduceLE,Int.reduceSub,Int.reduceAdd,srows_len,ilt_at hlt,inr_at hlt,inr_at hlt2,srows_at hx,srows_at hy,seq_tb,wrap_succ hlt (by omega)]
   cases hq:decide (tb x=tb y)with
   |false=>
    right
    rw[h2,hs]
    unfold eqS
    rw[hq];rfl
   |true=>
    left
    refine⟨i+1,rfl,⟨hlt,?_⟩,by omega⟩
    rw[h2,hs]
    show(decide (tb x=tb y)&&_)=_
    rw[hq,Bool.true_and]
  ·right
   have:i=a.length:=by omega
   subst this
   rw[h2,eqL_end hl]
   simp only [go1,Nat.reduceAdd,Int.reduceEq,Int.reduceLT,Int.reduceLE,Int.reduceSub,Int.reduceAdd,srows_len,ilt_self]
theorem c_eqF (u v:List Ex)(hu:u.length≤1000000)(h: ∀e∈u,∀f∈v,∀k n s o a w k2 n2 s2 o2 a2 w2,e= .mk k n s o a w→f= .mk k2 n2 s2 o2 a2 w2→cF 36 [kE k n s o (srows a) (Ex.rows w),kE k2 n2 s2 o2 (srows a2) (Ex.rows w2)]=some (.val [.bool (e.eqB f)])):
  cF 68 [.d (.sl 6 (Ex.rows u)), .d (.sl 6 (Ex.rows v)), .fn 36 []]=some (.val [.bool (Ex.eqBs u v)]):=by
 rw[eqBs_eq]
 refine cOf (by kernel_rfl) rfl ?_
 rw[g68_36_eq]
 simp only [g68_36,go1,Nat.reduceAdd,Int.reduceEq,Int.reduceLT,Int.reduceLE,Int.reduceSub,Int.reduceAdd,rows_len]
 cases hd:decide ((u.length:Int)=(v.length:Int))with
 |false=>
  have hd:=of_decide_eq_false hd
  rw[eqL_ne (f:=Ex.eqB) (show u.length≠v.length by omega)]
  rfl
 |true=>
  have hl:u.length=v.length:=by have:=of_decide_eq_true hd;omega
  simp only [go1,Nat.reduceAdd,Int.reduceEq,Int.reduceLT,Int.reduceLE,Int.reduceSub,Int.reduceAdd]
  refine loopF_at (fun i:Nat=>[.sl 6 (Ex.rows v), .sl 6 (Ex.rows u), .int .i64 (u.length:Int), .int .i64 (i:Int)]) (fun i=>i≤u.length∧eqL Ex.eqB u v=eqL Ex.eqB (u.drop i) (v.drop i)) (fun i=>u.length - i) (fun i hi=> ?_) 0 ⟨Nat.zero_le _,rfl⟩
  obtain⟨h1,h2⟩:=hi
  by_cases hlt:i < u.length
  ·have hlt2:i < v.length:=by omega
   have hx:=List.getElem?_eq_getElem hlt
   have hy:=List.getElem?_eq_getElem hlt2
   have hc:=h u[i] (List.getElem_mem hlt) v[i] (List.getElem_mem hlt2)
   generalize u[i]=x at hx hc
   generalize v[i]=y at hy hc
   have hs:=eqL_step Ex.eqB hx hy
   obtain⟨k,n,s,o,a,w⟩:=x
   obtain⟨k2,n2,s2,o2,a2,w2⟩:=y
   have hc:=hc _ _ _ _ _ _ _ _ _ _ _ _ rfl rfl
   simp only [go1,Nat.reduceAdd,Int.reduceEq,Int.reduceLT,Int.reduceLE,Int.reduceSub,Int.reduceAdd,rows_len,ilt_at hlt,inr_at hlt,inr_at hlt2,row_of hx,row_of hy,oE,hc,wrap_succ hlt (by omega)]
   cases hq:(Ex.mk k n s o a w).eqB (.mk k2 n2 s2 o2 a2 w2)with
   |false=>
    right
    rw[h2,hs,hq];rfl
   |true=>
    left
    refine⟨i+1,rfl,⟨hlt,?_⟩,by omega⟩
    rw[h2,hs,hq,Bool.true_and]
  ·right
   have:i=u.length:=by omega
   subst this
   rw[h2,eqL_end hl]
   simp only [go1,Nat.reduceAdd,Int.reduceEq,Int.reduceLT,Int.reduceLE,Int.reduceSub,Int.reduceAdd,rows_len,ilt_self]
theorem c_xSame: ∀(m:Nat) (k n:Int) (s:ByteArray) (o:Int) (a:List ByteArray) (u:List Ex) (k2 n2:Int) (s2:ByteArray) (o2:Int) (a2:List ByteArray) (u2:List Ex),(Ex.mk k n s o a u).size≤m→m≤1000000→(Ex.mk k n s o a u).fine→
  cF 36 [kE k n s o (srows a) (Ex.rows u),kE k2 n2 s2 o2 (srows a2) (Ex.rows u2)]=some (.val [.bool ((Ex.mk k n s o a u).eqB (.mk k2 n2 s2 o2 a2 u2))])
 |0,k,n,s,o,a,u,k2,n2,s2,o2,a2,u2,h,_,_=>by simp only [Ex.size]at h;omega
 |m+1,k,n,s,o,a,u,k2,n2,s2,o2,a2,u2,h,hm,hf=>by
  have hz:Ex.sizes u≤m:=by simp only [Ex.size]at h;omega
  have hl:=sizes_len u
  obtain⟨⟨f1,f2,f3⟩,f4⟩:=hf
  have h1:=c_eqS a a2 f3
  have h2:=c_eqF u u2 (by omega) fun e he f hff k n s o a w k2 n2 s2 o2 a2 w2 e1 e2=>by
   subst e1;subst e2
   obtain⟨i,hi⟩:=List.getElem?_of_mem he
   have he:=sizes_mem hi
   have hfe:=fine_mem hi f4
   exact c_xSame m k n s o a w k2 n2 s2 o2 a2 w2 (by omega) (by omega) hfe
  refine cOf (by kernel_rfl) rfl ?_
  rw[g36_eq]
  simp only [g36,go1,Nat.reduceAdd,Int.reduceEq,Int.reduceLT,Int.reduceLE,Int.reduceSub,Int.reduceAdd,seq_tb,h1,h2]
  rw[Ex.eqB]
  cases decide (k=k2)<;>cases decide (n=n2)<;>cases decide (tb s=tb s2)<;>cases decide (o=o2)<;>cases eqL eqS a a2<;>rfl
theorem c_reSame2: ∀(m:Nat) (k n:Int) (s:ByteArray) (o:Int) (a:List ByteArray) (u:List Ex) (k2 n2:Int) (s2:ByteArray) (o2:Int) (a2:List ByteArray) (u2:List Ex),(Ex.mk k n s o a u).size≤m→m≤1000000→(Ex.mk k n s o a u).fine→
  cF 22 [kE k n s o (srows a) (Ex.rows u),kE k2 n2 s2 o2 (srows a2) (Ex.rows u2)]=some (.val [.bool ((Ex.mk k n s o a u).eqB (.mk k2 n2 s2 o2 a2 u2))])
 |0,k,n,s,o,a,u,k2,n2,s2,o2,a2,u2,h,_,_=>by simp only [Ex.size]at h;omega
 |m+1,k,n,s,o,a,u,k2,n2,s2,o2,a2,u2,h,hm,hf=>by
  have hz:Ex.sizes u≤m:=by simp only [Ex.size]at h;omega
  have hl:=sizes_len u
  obtain⟨⟨f1,f2,f3⟩,f4⟩:=hf
  have h1:=c_rNames2 a a2 f3
  refine cOf (by kernel_rfl) rfl ?_
  rw[g22_eq]
  simp only [g22,go1,Nat.reduceAdd,Int.reduceEq,Int.reduceLT,Int.reduceLE,Int.reduceSub,Int.reduceAdd,rows_len,seq_tb,h1]
  rw[Ex.eqB,eqBs_eq]
  cases decide (k=k2)with
  |false=>rfl
  |true=>
   cases decide (n=n2)with
   |false=>rfl
   |true=>
    cases decide (tb s=tb s2)with
    |false=>rfl
    |true=>
     cases decide (o=o2)with
     |false=>rfl
     |true=>
      cases eqL eqS a a2 with
      |false=>rfl
      |true=>
       cases hd:decide ((u.length:Int)=(u2.length:Int))with
       |false=>
        have hd:=of_decide_eq_false hd
        rw[eqL_ne (f:=Ex.eqB) (show u.length≠u2.length by omega)]
        rfl
       |true=>
        have hl2:u.length=u2.length:=by have:=of_decide_eq_true hd;omega
        simp only [go1,Nat.reduceAdd,Int.reduceEq,Int.reduceLT,Int.reduceLE,Int.reduceSub,Int.reduceAdd]
        refine loopF_at (fun i:Nat=>[.int .i64 (i:Int), .int .i64 k, .int .i64 n, .str s, .int .i64 o, .sl 1 (srows a), .sl 6 (Ex.rows u), .int .i64 k2, .int .i64 n2, .str s2, .int .i64 o2, .sl 1 (srows a2), .sl 6 (Ex.rows u2)]) (fun i=>i≤u.length∧eqL Ex.eqB u u2=eqL Ex.eqB (u.drop i) (u2.drop i)) (fun i=>u.length - i) (fun i hi=> ?_) 0 ⟨Nat.zero_le _,rfl⟩
        obtain⟨g1,g2⟩:=hi
        by_cases hlt:i < u.length
        ·have hlt2:i < u2.length:=by omega
         have hx:=List.getElem?_eq_getElem hlt
         have hy:=List.getElem?_eq_getElem hlt2
         generalize u[i]=x at hx
         generalize u2[i]=y at hy
         have hs:=eqL_step Ex.eqB hx hy
         have he:=sizes_mem hx
         have hfe:=fine_mem hx f4
         obtain⟨k3,n3,s3,o3,a3,u3⟩:=x
         obtain⟨k4,n4,s4,o4,a4,u4⟩:=y
         have hc:=c_reSame2 m k3 n3 s3 o3 a3 u3 k4 n4 s4 o4 a4 u4 (by omega) (by omega) hfe
         simp only [go1,Nat.reduceAdd,Int.reduceEq,Int.reduceLT,Int.reduceLE,Int.reduceSub,Int.reduceAdd,rows_len,ilt_at hlt,inr_at hlt,inr_at hlt2,row_of hx,row_of hy,oE,hc,wrap_succ hlt (by omega)]
         cases hq:(Ex.mk k3 n3 s3 o3 a3 u3).eqB (.mk k4 n4 s4 o4 a4 u4)with
         |false=>
          right
          rw[g2,hs,hq];rfl
         |true=>
          left
          refine⟨i+1,rfl,⟨hlt,?_⟩,by omega⟩
          rw[g2,hs,hq,Bool.true_and]
        ·right
         have:i=u.length:=by omega
         subst this
         rw[g2,eqL_end hl2]
         simp only [go1,Nat.reduceAdd,Int.reduceEq,Int.reduceLT,Int.reduceLE,Int.reduceSub,Int.reduceAdd,oE,rows_len,ilt_self,Bool.and_self]
end Go.Vm
end

section
set_option linter.all false
set_option maxRecDepth 100000
set_option maxHeartbeats 4000000
namespace Go.Vm
open Go.Proofs
theorem take_len_sizes (u:List Ex)(i:Nat)(h:i≤u.length):i≤Ex.sizes (u.take i):=by
 have:=sizes_len (u.take i)
 rw[List.length_take]at this
 omega
theorem c_rcount: ∀(m:Nat) (k n:Int) (s:ByteArray) (o:Int) (a:List ByteArray) (u:List Ex) (left:Nat),(Ex.mk k n s o a u).size≤m→left≤200→
  ∃r:Nat,cF 49 [kE k n s o (srows a) (Ex.rows u), .d (.int .i64 (left:Int))]=some (.val [.int .i64 (r:Int)])∧r≤left∧(0 < r→(Ex.mk k n s o a u).size+r=left)
 |0,k,n,s,o,a,u,left,h,_=>by simp only [Ex.size]at h;omega
 |m+1,k,n,s,o,a,u,left,h,hleft=>by
  have hz:Ex.sizes u≤m:=by simp only [Ex.size]at h;omega
  have core: ∃p,g49 sy eF k n s o (srows a) (Ex.rows u) (left:Int)=some p∧ ∃r:Nat,p= .val [.int .i64 (r:Int)]∧r≤left∧(0 < r→(Ex.mk k n s o a u).size+r=left):=by
   unfold g49
   by_cases h0:left=0
   ·subst h0
    refine⟨_,rfl,0,rfl,Nat.le_refl _,fun h=>by omega⟩
   ·have e0:sy.ile (left:Int) 0=false:=decide_eq_false (by omega)
    have w0:sy.wrap .i64 (sy.sub (left:Int) 1)=((left - 1:Nat):Int):=by
     show IntKind.i64.wrap ((left:Int) - 1)=_
     rw[wrap_id (by omega) (by omega)];omega
    rw[e0,w0]
    refine loopF_ex (fun x:Nat × Nat=>[.int .i64 (x.2:Int), .int .i64 (x.1:Int), .int .i64 k, .int .i64 n, .str s, .int .i64 o, .sl 1 (srows a), .sl 6 (Ex.rows u)]) (fun x=>x.1≤u.length∧x.2 < left∧(0 < x.2→1+Ex.sizes (u.take x.1)+x.2=left)) (fun x=>u.length - x.1) (fun x hx=> ?_) (0,left - 1) ⟨Nat.zero_le _,by simp only;omega,fun _=>by simp [Ex.sizes];omega⟩
    obtain⟨i,r⟩:=x
    obtain⟨h1,h2,h3⟩:=hx
    simp only at h1 h2 h3 ⊢
    by_cases hlt:i < u.length
    ·by_cases hr:0 < r
     ·left
      have hx:=List.getElem?_eq_getElem hlt
      have htk:u.take (i+1)=u.take i++[u[i]]:=by rw[List.take_add_one,hx];rfl
      generalize u[i]=e at hx htk
      have hrow:=xrow hx
      have hem:=sizes_mem hx
      obtain⟨k2,n2,s2,o2,a2,u2⟩:=e
      obtain⟨r2,q1,q2,q3⟩:=c_rcount m k2 n2 s2 o2 a2 u2 r (by omega) (by omega)
      have hi:=take_len_sizes u i h1
      have h3:=h3 hr
      have w1:IntKind.i64.wrap ((i:Int)+1)=((i+1:Nat):Int):=by rw[wrap_id (by omega) (by omega)];omega
      have l0:=ilt_at hlt
      have i0:=inr_at hlt
      have z0:decide ((0:Int) < (r:Int))=true:=decide_eq_true (by omega)
      refine⟨(i+1,r2),?_,⟨hlt,by simp only;omega,fun hp=> ?_⟩,by simp only;omega⟩
      ·simp only [go1,oE,rows_len,l0,i0,z0,hrow,Ex.row,q1,w1]
      ·simp only at hp ⊢
       have:=q3 hp
       rw[htk,sizes_snoc]
       omega
     ·right
      have hr0:r=0:=by omega
      subst hr0
      refine⟨_,?_,0,rfl,Nat.zero_le _,fun h=>by omega⟩
      have l0:=ilt_at hlt
      simp only [go1,oE,rows_len,l0,show decide ((0:Int) < ((0:Nat):Int))=false from rfl]
    ·right
     have:i=u.length:=by omega
     subst this
     rw[List.take_length]at h3
     refine⟨_,?_,r,rfl,by omega,fun hp=> ?_⟩
     ·simp only [go1,oE,rows_len,ilt_self]
     ·have:=h3 hp
      simp only [Ex.size];omega
  obtain⟨p,h1,r,rfl,h2⟩:=core
  exact⟨r,cOf (by kernel_rfl) rfl ((g49_eq _ _ _ _ _ _ _ _ _).trans h1),h2⟩
def okQ:Ex→Prop
 | .mk _ _ s _ a _=>s.size≤200∧a.length≤20∧ ∀x∈a,x.size≤100
theorem row_fields {l:List Ex}{i:Nat}{k n:Int}{s:ByteArray}{o:Int}{a:List ByteArray}{u:List Ex}(h:l[i]? =some (.mk k n s o a u)):
  sy.cell (sy.skip 2 (sy.row (Ex.rows l) (i:Int))) 0=some (.str s)∧sy.cell (sy.skip 4 (sy.row (Ex.rows l) (i:Int))) 0=some (.sl 1 (srows a)):=by
 rw[xrow h]
 exact⟨rfl,rfl⟩
theorem c_rfew (k n:Int)(s:ByteArray)(o:Int)(a:List ByteArray)(u:List Ex)(h:(Ex.mk k n s o a u).size≤1000):
  ∃b,cF 50 [kE k n s o (srows a) (Ex.rows u)]=some (.val [.bool b])∧(b=true→ ∀x∈(Ex.mk k n s o a u).parts,okQ x):=by
 have hp:=c_reParts 1000 k n s o a u h (by omega)
 have hpl:=parts_len (Ex.mk k n s o a u)
 generalize (Ex.mk k n s o a u).parts=P at hp hpl ⊢
 have core: ∃p,g50 sy eF k n s o (srows a) (Ex.rows u)=some p∧ ∃b,p= .val [.bool b]∧(b=true→ ∀x∈P,okQ x):=by
  simp only [g50,go1,hp]
  refine loopF_ex (fun i:Nat=>[.sl 6 (Ex.rows P), .int .i64 (i:Int)]) (fun i=>i≤P.length∧ ∀x∈P.take i,okQ x) (fun i=>P.length - i) (fun i hi=> ?_) 0 ⟨Nat.zero_le _,by simp⟩
  obtain⟨h1,h2⟩:=hi
  by_cases hlt:i < P.length
  ·have hx:=List.getElem?_eq_getElem hlt
   have htk:P.take (i+1)=P.take i++[P[i]]:=by rw[List.take_add_one,hx];rfl
   generalize P[i]=e at hx htk
   obtain⟨k2,n2,s2,o2,a2,u2⟩:=e
   obtain⟨f1,f2⟩:=row_fields hx
   have l0:=ilt_at hlt
   have i0:=inr_at hlt
   have w1:IntKind.i64.wrap ((i:Int)+1)=((i+1:Nat):Int):=by rw[wrap_id (by omega) (by omega)];omega
   by_cases g1:200 < s2.size
   ·right
    refine⟨_,?_,false,rfl,fun h=>by cases h⟩
    simp only [go1,rows_len,l0,i0,f1,decide_eq_true (show(200:Int) < (s2.size:Int) by omega)]
   ·by_cases g2:20 < a2.length
    ·right
     refine⟨_,?_,false,rfl,fun h=>by cases h⟩
     simp only [go1,rows_len,srows_len,l0,i0,f1,f2,decide_eq_false (show ¬(200:Int) < (s2.size:Int) by omega),decide_eq_true (show(20:Int) < (a2.length:Int) by omega)]
    ·simp only [go1,rows_len,srows_len,l0,i0,f1,f2,decide_eq_false (show ¬(200:Int) < (s2.size:Int) by omega),decide_eq_false (show ¬(20:Int) < (a2.length:Int) by omega)]
     have inner: ∃p,loopF (fun ds11=>
         (opL (sy.cell ds11 0) 6).bind fun l12=>
         (opI (sy.cell ds11 1) .i64).bind fun n13=>
         (opI (sy.cell ds11 2) .i64).bind fun n14=>
         bif (sy.inr n13 (sy.rlen l12))then
          (opL (sy.cell (sy.skip 4 (sy.row l12 n13)) 0) 1).bind fun l15=>
          bif (sy.ilt n14 (sy.rlen l15))then
           bif (sy.inr n13 (sy.rlen l12))then
            (opL (sy.cell (sy.skip 4 (sy.row l12 n13)) 0) 1).bind fun l16=>
            bif (sy.inr n14 (sy.rlen l16))then
             (opS (sy.cell (sy.row l16 n14) 0)).bind fun s17=>
             bif (sy.ilt 100 (sy.slen s17))then
              some (.inr ((.inr (PRes.val [(.bool false)])):List D ⊕ PRes))
             else
              some (.inl [(.sl 6 l12),(.int .i64 n13),(.int .i64 (sy.wrap .i64 (sy.add n14 1)))])
            else
             none
           else
            none
          else
           some (.inr (.inl [(.sl 6 l12),(.int .i64 (sy.wrap .i64 (sy.add n13 1)))]))
         else
          none
       ) [(.sl 6 (Ex.rows P)),(.int .i64 (i:Int)),(.int .i64 0)]=some p∧(p= .inr (.val [.bool false])∨p= .inl [.sl 6 (Ex.rows P), .int .i64 ((i+1:Nat):Int)]∧ ∀x∈a2,x.size≤100):=by
      refine loopF_ex (fun j:Nat=>[.sl 6 (Ex.rows P), .int .i64 (i:Int), .int .i64 (j:Int)]) (fun j=>j≤a2.length∧ ∀x∈a2.take j,x.size≤100) (fun j=>a2.length - j) (fun j hj=> ?_) 0 ⟨Nat.zero_le _,by simp⟩
      obtain⟨j1,j2⟩:=hj
      by_cases hj:j < a2.length
      ·have hy:=List.getElem?_eq_getElem hj
       have hyk:a2.take (j+1)=a2.take j++[a2[j]]:=by rw[List.take_add_one,hy];rfl
       generalize a2[j]=y at hy hyk
       have hc:=srows_at hy
       have l1:=ilt_at hj
       have i1:=inr_at hj
       have w2:IntKind.i64.wrap ((j:Int)+1)=((j+1:Nat):Int):=by rw[wrap_id (by omega) (by omega)];omega
       by_cases g3:100 < y.size
       ·right
        refine⟨_,?_, .inl rfl⟩
        simp only [go1,rows_len,srows_len,i0,f2,l1,i1,hc,decide_eq_true (show(100:Int) < (y.size:Int) by omega)]
       ·left
        refine⟨j+1,?_,⟨hj,fun x hx=> ?_⟩,by omega⟩
        ·simp only [go1,rows_len,srows_len,i0,f2,l1,i1,hc,decide_eq_false (show ¬(100:Int) < (y.size:Int) by omega),w2]
        ·rw[hyk]at hx
         rcases List.mem_append.1 hx with hx|hx
         ·exact j2 x hx
         ·rw[List.mem_singleton.1 hx];omega
      ·right
       have:j=a2.length:=by omega
       subst this
       rw[List.take_length]at j2
       refine⟨_,?_, .inr ⟨rfl,j2⟩⟩
       simp only [go1,rows_len,srows_len,i0,f2,ilt_self,w1]
     obtain⟨p,hp1,hp2⟩:=inner
     simp only [go1,Option.bind_some,eq_self,cond_true,cond_false]at hp1
     rcases hp2 with rfl|⟨rfl,hq⟩
     ·right
      exact⟨_,hp1,false,rfl,fun h=>by cases h⟩
     ·left
      refine⟨i+1,hp1,⟨hlt,fun x hx=> ?_⟩,by omega⟩
      rw[htk]at hx
      rcases List.mem_append.1 hx with hx|hx
      ·exact h2 x hx
      ·rw[List.mem_singleton.1 hx]
       exact⟨by omega,by omega,hq⟩
  ·right
   have:i=P.length:=by omega
   subst this
   rw[List.take_length]at h2
   refine⟨_,?_,true,rfl,fun _=>h2⟩
   simp only [go1,rows_len,ilt_self]
 obtain⟨p,h1,b,rfl,h2⟩:=core
 exact⟨b,cOf (by kernel_rfl) rfl ((g50_eq _ _ _ _ _ _ _ _).trans h1),h2⟩
mutual
theorem fine_of: ∀e:Ex,(∀x∈e.parts,okQ x)→e.fine
 | .mk k n s o a u,h=>by
   have h0:okQ (.mk k n s o a u):=h _ (by simp [Ex.parts])
   refine⟨⟨by have:=h0.1;omega,fun x hx=>by have:=h0.2.2 x hx;omega,by have:=h0.2.1;omega⟩,fines_of u fun x hx=>h x (by simp [Ex.parts,hx])⟩
theorem fines_of: ∀u:List Ex,(∀x∈Ex.partsL u,okQ x)→Ex.fines u
 | [],_=>trivial
 |e::u,h=>⟨fine_of e fun x hx=>h x (by simp [Ex.partsL,hx]),fines_of u fun x hx=>h x (by simp [Ex.partsL,hx])⟩
end
theorem c_rSmall (k n:Int)(s:ByteArray)(o:Int)(a:List ByteArray)(u:List Ex): ∃b,cF 23 [kE k n s o (srows a) (Ex.rows u)]=some (.val [.bool b])∧(b=true→(Ex.mk k n s o a u).size≤200∧(Ex.mk k n s o a u).fine):=by
 obtain⟨r,h1,h2,h3⟩:=c_rcount _ k n s o a u 200 (Nat.le_refl _) (Nat.le_refl _)
 have h1:cF 49 [kE k n s o (srows a) (Ex.rows u), .d (.int .i64 200)]=_:=h1
 by_cases hr:0 < r
 ·have h3:=h3 hr
  obtain⟨b,h4,h5⟩:=c_rfew k n s o a u (by omega)
  refine⟨b,?_,fun hb=>⟨by omega,fine_of _ (h5 hb)⟩⟩
  refine cOf (by kernel_rfl) rfl ?_
  rw[g23_eq]
  simp only [g23,go1,Nat.reduceAdd,Int.reduceEq,Int.reduceLT,Int.reduceLE,Int.reduceSub,Int.reduceAdd,h1,h4,decide_eq_true (show(0:Int) < (r:Int) by omega)]
 ·refine⟨false,?_,fun h=>by cases h⟩
  refine cOf (by kernel_rfl) rfl ?_
  rw[g23_eq]
  simp only [g23,go1,Nat.reduceAdd,Int.reduceEq,Int.reduceLT,Int.reduceLE,Int.reduceSub,Int.reduceAdd,h1,decide_eq_false (show ¬(0:Int) < (r:Int) by omega)]
end Go.Vm
end

section
set_option linter.all false
set_option maxRecDepth 100000
set_option maxHeartbeats 4000000
namespace Go.Vm
open Go.Proofs
def Gd {α:Type}(l:List Tk):Rs α→Prop
 | .out=>True
 | .ok _ j=>j < l.length
 | .bad j=>j < l.length
section
variable {l : List Tk}
theorem gd_bind {α β:Type}{r:Rs α}{f:α→Nat→Rs β}(h:Gd l r)(h2: ∀a k,k < l.length→Gd l (f a k)):Gd l (r.bind f):=by
 cases r with
 |ok a k=>exact h2 a k h
 |bad k=>exact h
 |out=>trivial
theorem gd_iter {σ ρ:Type}{st:σ→σ ⊕ Rs ρ}(P:σ→Prop)(h: ∀x,P x→(∃y,st x= .inl y∧P y)∨ ∃r,st x= .inr r∧Gd l r): ∀(n:Nat) (x:σ),P x→Gd l (iterS st n x)
 |0,_,_=>trivial
 |n+1,x,hx=>by
  unfold iterS
  rcases h x hx with⟨y,h1,h2⟩|⟨r,h1,h2⟩
  ·rw[h1];exact gd_iter P h n y h2
  ·rw[h1];exact h2
variable (hl : LOK l)
include hl
theorem nx {i:Nat}{w:ByteArray}(hi:i < l.length)(h:isT l i w=true):i+1 < l.length:=hl.next hi (isT_k h)
theorem gd_name {i:Nat}(hi:i < l.length):Gd l (nameS l i):=by
 cases h:nameS l i with
 |ok n j=>exact nameS_lt hl hi h
 |out=>trivial
 |bad j=>
  unfold nameS at h
  split at h<;>cases h
  exact hi
theorem gd_arm {i:Nat}(hi:i < l.length):Gd l (armS l i):=by
 cases h:armS l i with
 |ok n j=>exact armS_lt hl hi h
 |out=>trivial
 |bad j=>
  unfold armS at h
  split at h<;>cases h
  exact hi
theorem gd_need: ∀(w:List ByteArray) {i:Nat},i < l.length→Gd l (needS l w i)
 | [],i,hi=>hi
 |x::w,i,hi=>by
  unfold needS
  split
  ·rename_i h;exact gd_need w (nx hl hi h)
  ·exact hi
theorem gd_when {i:Nat}(hi:i < l.length):Gd l (whenS l i):=by
 unfold whenS
 split
 ·rename_i h
  exact gd_bind (gd_name hl (nx hl hi h)) fun _ _ hk=>hk
 ·split
  ·exact gd_bind (gd_name hl hi) fun _ _ hk=>hk
  ·exact gd_bind (gd_arm hl hi) fun _ _ hk=>gd_bind (gd_need hl _ hk) fun _ _ hk=>gd_bind (gd_name hl hk) fun _ _ hk=>gd_bind (gd_need hl _ hk) fun _ _ hk=>hk
variable {n : Nat} {p : PR} (hp : ∀ nt i, i < l.length → Gd l (p nt i))
include hp
theorem gd_left (side:Nt)(a m:Nat){i:Nat}(hi:i < l.length):Gd l (leftS l n p side a m i):=by
 refine gd_bind (hp _ _ hi) fun e k hk=>gd_iter (fun x=>x.2 < l.length) (fun x hx=> ?_) n (e,k) hk
 obtain⟨e2,i2⟩:=x
 rw[leftT]
 split
 ·exact .inr ⟨_,rfl,hx⟩
 ·rename_i o ho
  have h3:=hp side (i2+1) (hl.next hx (opS_spec ho).1)
  split
  ·rename_i hq;rw[hq]at h3;exact .inl ⟨_,rfl,h3⟩
  ·rename_i hq;rw[hq]at h3;exact .inr ⟨_,rfl,h3⟩
  ·exact .inr ⟨_,rfl,trivial⟩
theorem gd_list (en:ByteArray){i:Nat}(hi:i < l.length):Gd l (listS l n p en i):=by
 refine gd_bind (hp _ _ hi) fun e k hk=>gd_iter (fun x=>x.2 < l.length) (fun x hx=> ?_) n ([e],k) hk
 obtain⟨e2,i2⟩:=x
 rw[listT]
 split
 ·rename_i ht
  have h3:=hp .arrow (i2+1) (nx hl hx ht)
  split
  ·rename_i hq;rw[hq]at h3;exact .inl ⟨_,rfl,h3⟩
  ·rename_i hq;rw[hq]at h3;exact .inr ⟨_,rfl,h3⟩
  ·exact .inr ⟨_,rfl,trivial⟩
 ·exact .inr ⟨_,rfl,gd_bind (gd_need hl _ hx) fun _ _ hk=>hk⟩
theorem gd_post {i:Nat}(hi:i < l.length):Gd l (postS l n p i):=by
 refine gd_bind (hp _ _ hi) fun e k hk=>gd_iter (fun x=>x.2 < l.length) (fun x hx=> ?_) n (e,k) hk
 obtain⟨e2,i2⟩:=x
 rw[postT]
 split
 ·rename_i ht
  have h3:Gd l (((p .arrow (i2+1)).bind fun a j=>(needS l [bs [93]] j).bind fun _ j=> .ok a j:Rs Ex)):=gd_bind (hp .arrow _ (nx hl hx ht)) fun _ _ hk=>gd_bind (gd_need hl _ hk) fun _ _ hk=>hk
  split
  ·rename_i hq;rw[hq]at h3;exact .inl ⟨_,rfl,h3⟩
  ·rename_i hq;rw[hq]at h3;exact .inr ⟨_,rfl,h3⟩
  ·exact .inr ⟨_,rfl,trivial⟩
 ·split
  ·rename_i ht
   have h3:=gd_when hl (nx hl hx ht)
   split
   ·rename_i hq;rw[hq]at h3;exact .inl ⟨_,rfl,h3⟩
   ·rename_i hq;rw[hq]at h3;exact .inr ⟨_,rfl,h3⟩
   ·exact .inr ⟨_,rfl,trivial⟩
  ·exact .inr ⟨_,rfl,hx⟩
theorem gd_callU (nm:ByteArray)(es:List Ex){i:Nat}(hi:i < l.length):Gd l (callU l p nm es i):=by
 unfold callU
 split
 ·rename_i ht;exact gd_bind (hp _ _ (nx hl hi ht)) fun _ _ hk=>hk
 ·exact hi
theorem gd_merge {i:Nat}(hi:i < l.length):Gd l (mergeS l n p i):=by
 refine gd_bind (gd_name hl hi) fun _ _ hk=>gd_bind (gd_need hl _ hk) fun _ _ hk=>gd_bind (gd_iter (fun x=>x.2.2.1 < l.length) (fun x hx=> ?_) n _ hk) fun _ _ hk=>hk
 obtain⟨ar,es,i2,b⟩:=x
 cases b with
 |false=>exact .inr ⟨_,rfl,hx⟩
 |true=>
  rw[mergeT]
  have h3:Gd l ((armS l i2).bind fun a j=>(needS l [bs [45,62]] j).bind fun _ j=>(p .arrow j).bind fun e j=>(needS l [bs [41]] j).bind fun _ j=> .ok (a,e) j:Rs (ByteArray × Ex)):=gd_bind (gd_arm hl hx) fun _ _ hk=>gd_bind (gd_need hl _ hk) fun _ _ hk=>gd_bind (hp _ _ hk) fun _ _ hk=>gd_bind (gd_need hl _ hk) fun _ _ hk=>hk
  split
  ·rename_i hq
   rw[hq]at h3
   split
   ·rename_i ht;exact .inl ⟨_,rfl,nx hl h3 ht⟩
   ·exact .inl ⟨_,rfl,h3⟩
  ·rename_i hq;rw[hq]at h3;exact .inr ⟨_,rfl,h3⟩
  ·exact .inr ⟨_,rfl,trivial⟩
theorem gd_word {i:Nat}(hi:i < l.length):Gd l (wordS l n p i):=by
 unfold wordS
 split
 ·rename_i ht;exact nx hl hi ht
 split
 ·rename_i ht;exact nx hl hi ht
 split
 ·rename_i ht;exact gd_bind (gd_list hl hp _ (nx hl hi ht)) fun _ _ hk=>hk
 split
 ·rename_i ht
  unfold roundS
  refine gd_bind (hp _ _ (nx hl hi ht)) fun _ j hk=> ?_
  split
  ·rename_i ht
   exact gd_bind (gd_need hl _ (nx hl hk ht)) fun _ _ hk=>gd_bind (hp _ _ hk) fun _ _ hk=>gd_bind (gd_need hl _ hk) fun _ _ hk=>gd_bind (hp _ _ hk) fun _ _ hk=>gd_bind (gd_need hl _ hk) fun _ _ hk=>hk
  ·exact gd_bind (gd_need hl _ hk) fun _ _ hk=>hk
 split
 ·rename_i ht;exact gd_merge hl hp (nx hl hi ht)
 split
 ·rename_i ht
  exact gd_bind (hp _ _ (nx hl hi ht)) fun _ _ hk=>gd_bind (gd_need hl _ hk) fun _ _ hk=>gd_bind (hp _ _ hk) fun _ _ hk=>gd_bind (gd_need hl _ hk) fun _ _ hk=>gd_bind (hp _ _ hk) fun _ _ hk=>hk
 ·refine gd_bind (gd_name hl hi) fun _ j hk=> ?_
  split
  ·rename_i ht
   have hj:=nx hl hk ht
   unfold callS
   split
   ·rename_i ht;exact gd_callU hl hp _ _ (nx hl hj ht)
   ·exact gd_bind (gd_list hl hp _ hj) fun _ _ hk=>gd_callU hl hp _ _ hk
  ·exact hk
theorem gd_step (nt:Nt){i:Nat}(hi:i < l.length):Gd l (ntS l n p nt i):=by
 cases nt with
 |or=>exact gd_left hl hp _ _ _ hi
 |and=>exact gd_left hl hp _ _ _ hi
 |sum=>exact gd_left hl hp _ _ _ hi
 |prod=>exact gd_left hl hp _ _ _ hi
 |post=>exact gd_post hl hp hi
 |arrow=>
  refine gd_bind (hp _ _ hi) fun _ j hk=> ?_
  split
  ·rename_i ht;exact gd_bind (hp _ _ (nx hl hk ht)) fun _ _ hk=>hk
  ·exact hk
 |fby=>
  refine gd_bind (hp _ _ hi) fun _ j hk=> ?_
  split
  ·rename_i ht;exact gd_bind (hp _ _ (nx hl hk ht)) fun _ _ hk=>hk
  ·exact hk
 |cmp=>
  refine gd_bind (hp _ _ hi) fun _ j hk=> ?_
  split
  ·exact hk
  ·rename_i o ho;exact gd_bind (hp _ _ (hl.next hk (opS_spec ho).1)) fun _ _ hk=>hk
 |un=>
  show Gd l (unS l p i)
  unfold unS
  split
  ·rename_i ht;exact gd_bind (hp _ _ (nx hl hi ht)) fun _ _ hk=>hk
  split
  ·rename_i ht;exact gd_bind (hp _ _ (nx hl hi ht)) fun _ _ hk=>hk
  split
  ·rename_i ht;exact gd_bind (hp _ _ (nx hl hi ht)) fun _ _ hk=>hk
  ·exact hp _ _ hi
 |atom=>
  show Gd l (atomS l n p i)
  have ne: ∀k:Int,decide ((tkA l i).k=k)=true→k≠6→i+1 < l.length:=fun k h hk=>hl.next hi (by rw[of_decide_eq_true h];exact hk)
  unfold atomS
  split
  ·rename_i ht;exact ne _ ht (by decide)
  split
  ·rename_i ht;exact ne _ ht (by decide)
  split
  ·rename_i ht;exact ne _ ht (by decide)
  ·exact gd_word hl hp hi
end
theorem gd_prs {l:List Tk}(hl:LOK l): ∀(n:Nat) (nt:Nt) (i:Nat),i < l.length→Gd l (prs l n nt i)
 |0,_,_,_=>trivial
 |n+1,nt,i,hi=>gd_step hl (gd_prs hl n) nt hi
theorem readS_bad {l:List Tk}(hl:LOK l){i:Nat}(hi:i < l.length){j:Nat}(h:readS l i= .bad j):j < l.length:=by
 have:=gd_prs hl (fuel l) .arrow i hi
 unfold readS at h
 rw[h]at this
 exact this
end Go.Vm
end

section
set_option linter.all false
set_option maxRecDepth 100000
set_option maxHeartbeats 4000000
namespace Go.Vm
open Go.Proofs
theorem partS_at {l:List Tk}(hl:LOK l)(i:Nat)(hi:i < l.length)(hj: ∀j,readS l i= .bad j→j < l.length): ∃p:Nat,(partS l i).2.1=(p:Int)∧p < l.length:=by
 unfold partS
 cases hR:readS l i with
 |out=>exact⟨i,rfl,hi⟩
 |bad j=>exact⟨j,rfl,hj j hR⟩
 |ok e j=>
  have hj:=((prs_HQ hl (fuel l)).pos .arrow i e j hi hR).2
  simp only
  cases smallB e with
  |false=>exact⟨i,rfl,hi⟩
  |true=>
   cases allB e with
   |false=>exact⟨i,rfl,hi⟩
   |true=>exact⟨j,rfl,hj⟩
theorem row_skip {l:List Tk}{i:Nat}(h:i < l.length):sy.cell (sy.skip 3 (sy.row (trows l) (i:Int))) 0=some (.int .i64 ((tkA l i).a:Int)):=by rw[row_tk h];rfl
theorem partS_ok {l:List Tk}(hl:LOK l)(hS:TS l){i:Nat}(hi:i < l.length){e:Ex}{p:Int}(h:partS l i=(e,p,0)): ∃j:Nat,p=(j:Int)∧i < j∧j < l.length∧e.fine∧e.size≤1000000:=by
 unfold partS at h
 cases hR:readS l i with
 |out=>rw[hR]at h;cases h
 |bad j=>rw[hR]at h;cases h
 |ok e2 j=>
  rw[hR]at h
  have hz:=readS_sz hS hR
  have hj:=(prs_HQ hl (fuel l)).pos .arrow i e2 j hi hR
  have hf:=hl.few
  simp only at h
  cases h1:smallB e2 with
  |false=>rw[h1]at h;cases h
  |true=>
   cases h2:allB e2 with
   |false=>rw[h1,h2]at h;cases h
   |true=>
    rw[h1,h2]at h
    cases h
    exact⟨j,rfl,hj.1,hj.2,okS_fine _ hz.2 (by omega),by omega⟩
structure Mv where
 p:ByteArray
 e:Ex
def Mv.row (m:Mv):List D:= .str m.p::m.e.row
def mrows (o:List Mv):List (List D):=o.map Mv.row
theorem mrows_len (o:List Mv):(mrows o).length=o.length:=by simp [mrows]
theorem mrow_at {o:List Mv}{i:Nat}{m:Mv}(h:o[i]? =some m):sy.row (mrows o) (i:Int)=m.row:=by
 show(mrows o).getD (i:Int).toNat []=_
 rw[Int.toNat_natCast,List.getD_eq_getElem?_getD]
 simp [mrows,h]
def isMt (t:Tk)(w:ByteArray):Bool:=decide (t.k=5)&&decide (tb t.s=tb w)
theorem c_mmark (t:Tk)(w:ByteArray):cF 41 [.agg [.d (.int .i64 t.k), .d (.str t.s), .d (.int .i64 t.n), .d (.int .i64 (t.a:Int))], .d (.str w)]=some (.val [.bool (isMt t w)]):=by
 unfold isMt
 refine cOf (by kernel_rfl) rfl ?_
 rw[g41_eq]
 simp only [g41,go1,Nat.reduceAdd,Int.reduceEq,Int.reduceLT,Int.reduceLE,Int.reduceSub,Int.reduceAdd,seq_tb]
 try (cases decide (t.k=5)<;>rfl)
def hasP (o:List Mv)(s:ByteArray):Bool:=o.any fun m=>decide (tb m.p=tb s)
theorem hasP_take {o:List Mv}{i:Nat}{m:Mv}{s:ByteArray}(h:o[i]? =some m)(h2:hasP (o.take i) s=false):hasP (o.take (i+1)) s=decide (tb m.p=tb s):=by
 have:o.take (i+1)=o.take i++[m]:=by rw[List.take_add_one,h];rfl
 unfold hasP at h2 ⊢
 rw[this,List.any_append,h2,Bool.false_or]
 simp
theorem hasP_at {o:List Mv}{i:Nat}{m:Mv}{s:ByteArray}(h:o[i]? =some m)(h2:decide (tb m.p=tb s)=true):hasP o s=true:=by
 unfold hasP
 exact List.any_eq_true.2 ⟨m,List.mem_of_getElem? h,h2⟩
def errS (t:Tk)(o:List Mv):Int:=match decide (t.k=4),hasP o t.s,decide ((o.length:Int)=40)with
 |false,_,_=>2
 |true,true,_=>6
 |true,false,true=>4
 |true,false,false=>0
theorem c_mhas (o:List Mv)(s:ByteArray)(ho:o.length≤1000000):cF 19 [.d (.sl 7 (mrows o)), .d (.str s)]=some (.val [.bool (hasP o s)]):=by
 refine cOf (by kernel_rfl) rfl ?_
 rw[g19_eq]
 simp only [g19,go1,Nat.reduceAdd,Int.reduceEq,Int.reduceLT,Int.reduceLE,Int.reduceSub,Int.reduceAdd]
 refine loopF_at (fun i:Nat=>[.sl 7 (mrows o), .str s, .int .i64 (i:Int)]) (fun i=>i≤o.length∧hasP (o.take i) s=false) (fun i=>o.length - i) (fun i hi=> ?_) 0 ⟨Nat.zero_le _,rfl⟩
 obtain⟨h1,h2⟩:=hi
 by_cases hlt:i < o.length
 ·have hx:=List.getElem?_eq_getElem hlt
  generalize o[i]=m at hx
  have hr:=mrow_at hx
  have h3:=hasP_take hx h2
  have w1:IntKind.i64.wrap ((i:Int)+1)=((i+1:Nat):Int):=by rw[wrap_id (by omega) (by omega)];omega
  simp only [go1,Nat.reduceAdd,Int.reduceEq,Int.reduceLT,Int.reduceLE,Int.reduceSub,Int.reduceAdd,mrows_len,ilt_at hlt,inr_at hlt,hr,Mv.row,seq_tb]
  cases hd:decide (tb m.p=tb s)with
  |true=>
   right
   rw[hasP_at hx hd]
   rfl
  |false=>
   left
   rw[hd]at h3
   exact⟨i+1,by simp only [go1,Nat.reduceAdd,Int.reduceEq,Int.reduceLT,Int.reduceLE,Int.reduceSub,Int.reduceAdd,w1],⟨hlt,h3⟩,by omega⟩
 ·right
  have:i=o.length:=by omega
  subst this
  rw[List.take_length]at h2
  simp only [go1,Nat.reduceAdd,Int.reduceEq,Int.reduceLT,Int.reduceLE,Int.reduceSub,Int.reduceAdd,mrows_len,ilt_self,h2]
theorem c_mpath (t:Tk)(o:List Mv)(ho:o.length≤1000000):cF 16 [.agg [.d (.int .i64 t.k), .d (.str t.s), .d (.int .i64 t.n), .d (.int .i64 (t.a:Int))], .d (.sl 7 (mrows o))]=some (.val [.int .i64 (errS t o)]):=by
 refine cOf (by kernel_rfl) rfl ?_
 rw[g16_eq]
 simp only [g16,go1,Nat.reduceAdd,Int.reduceEq,Int.reduceLT,Int.reduceLE,Int.reduceSub,Int.reduceAdd,mrows_len]
 unfold errS
 cases hk:decide (t.k=4)with
 |false=>rfl
 |true=>
  simp only [go1,Nat.reduceAdd,Int.reduceEq,Int.reduceLT,Int.reduceLE,Int.reduceSub,Int.reduceAdd]
  refine loopF_at (fun i:Nat=>[.sl 7 (mrows o), .int .i64 (o.length:Int), .int .i64 (i:Int), .int .i64 t.k, .str t.s, .int .i64 t.n, .int .i64 (t.a:Int), .str t.s]) (fun i=>i≤o.length∧hasP (o.take i) t.s=false) (fun i=>o.length - i) (fun i hi=> ?_) 0 ⟨Nat.zero_le _,rfl⟩
  obtain⟨h1,h2⟩:=hi
  by_cases hlt:i < o.length
  ·have hx:=List.getElem?_eq_getElem hlt
   generalize o[i]=m at hx
   have hr:=mrow_at hx
   have h3:=hasP_take hx h2
   have w1:IntKind.i64.wrap ((i:Int)+1)=((i+1:Nat):Int):=by rw[wrap_id (by omega) (by omega)];omega
   have z0:decide ((0:Int)≤(i:Int))=true:=decide_eq_true (by omega)
   obtain⟨mp,k2,n2,s2,o2,a2,u2⟩:=m
   have hr:sy.row (mrows o) (i:Int)= [.str mp, .int .i64 k2, .int .i64 n2, .str s2, .int .i64 o2, .sl 1 (srows a2), .sl 6 (Ex.rows u2)]:=hr
   simp only [go1,Nat.reduceAdd,Int.reduceEq,Int.reduceLT,Int.reduceLE,Int.reduceSub,Int.reduceAdd,oT,oE,mrows_len,ilt_at hlt,inr_at hlt,hr,seq_tb,z0]
   cases hd:decide (tb mp=tb t.s)with
   |true=>
    right
    rw[hasP_at hx hd]
    rfl
   |false=>
    left
    rw[hd]at h3
    exact⟨i+1,by simp only [go1,Nat.reduceAdd,Int.reduceEq,Int.reduceLT,Int.reduceLE,Int.reduceSub,Int.reduceAdd,w1],⟨hlt,h3⟩,by omega⟩
  ·right
   have:i=o.length:=by omega
   subst this
   rw[List.take_length]at h2
   simp only [go1,Nat.reduceAdd,Int.reduceEq,Int.reduceLT,Int.reduceLE,Int.reduceSub,Int.reduceAdd,oT,oE,mrows_len,ilt_self,h2,Int.reduceLE]
   cases decide ((o.length:Int)=40)<;>rfl
def moveS (l:List Tk)(i:Nat):Ex × Int × Int:=match isMt (tkA l i) (bs [58,61])with
 |false=>(e0,(i:Int),2)
 |true=>match partS l (i+1)with
  |(e,p,r)=>match decide (r=0),isMt (tkA l p.toNat) (bs [59])with
   |false,_=>(e0,p,r)
   |true,false=>(e0,p,2)
   |true,true=>(e,p+1,0)
theorem isMt_k {t:Tk}{w:ByteArray}(h:isMt t w=true):t.k≠6:=by
 unfold isMt at h
 simp only [Bool.and_eq_true,decide_eq_true_eq]at h
 omega
section
variable {l : List Tk} (hl : LOK l) (hS : TS l) (hT : TOK l)
include hl hS hT
theorem c_mmove (i:Nat)(hi:i < l.length):cF 17 [.d (.sl 4 (trows l)), .d (.int .i64 (i:Int))]=some (encP (moveS l i)):=by
 have hf:=hl.few
 have q1:=in_tk hi
 have q2:=row_tk hi
 have m1:=c_mmark (tkA l i) (bs [58,61])
 rw[trows_len]at q1
 unfold moveS
 refine cOf (by kernel_rfl) rfl ?_
 rw[g17_eq]
 cases h1:isMt (tkA l i) (bs [58,61])with
 |false=>
  rw[h1]at m1
  simp only [g17,go1,Nat.reduceAdd,Int.reduceEq,Int.reduceLT,Int.reduceLE,Int.reduceSub,Int.reduceAdd,oT,trows_len,q1,q2,tkrow,m1]
  rfl
 |true=>
  rw[h1]at m1
  have hi1:=hl.next hi (isMt_k h1)
  have h2:=c_pPart hl hS (i+1) hi1
  obtain⟨p,hp1,hp2⟩:=partS_at hl (i+1) hi1 fun j hj=>readS_bad hl hi1 hj
  have w1:IntKind.i64.wrap ((i:Int)+1)=((i+1:Nat):Int):=by rw[wrap_id (by omega) (by omega)];omega
  generalize partS l (i+1)=R at hp1 h2 ⊢
  obtain⟨⟨k,n,s1,o,a,u⟩,p1,r⟩:=R
  simp only [encP]at hp1 h2
  subst hp1
  have q3:=in_tk hp2
  have q4:=row_tk hp2
  have m2:=c_mmark (tkA l p) (bs [59])
  have w2:IntKind.i64.wrap ((p:Int)+1)=(p:Int)+1:=by rw[wrap_id (by omega) (by omega)]
  rw[trows_len]at q3
  simp only [g17,go1,Nat.reduceAdd,Int.reduceEq,Int.reduceLT,Int.reduceLE,Int.reduceSub,Int.reduceAdd,oT,oE,trows_len,q1,q2,tkrow,m1,w1,h2,Int.toNat_natCast]
  cases decide (r=0)with
  |false=>rfl
  |true=>
   simp only [go1,Nat.reduceAdd,Int.reduceEq,Int.reduceLT,Int.reduceLE,Int.reduceSub,Int.reduceAdd,q3,q4,tkrow,m2]
   cases isMt (tkA l p) (bs [59])with
   |false=>rfl
   |true=>simp only [go1,Nat.reduceAdd,Int.reduceEq,Int.reduceLT,Int.reduceLE,Int.reduceSub,Int.reduceAdd,w2];rfl
theorem moveS_at (i:Nat)(hi:i < l.length): ∃p:Nat,(moveS l i).2.1=(p:Int)∧p < l.length∧((moveS l i).2.2=0→i < p∧(moveS l i).1.fine∧(moveS l i).1.size≤1000000):=by
 unfold moveS
 cases h1:isMt (tkA l i) (bs [58,61])with
 |false=>exact⟨i,rfl,hi,fun h=>by cases h⟩
 |true=>
  have hi1:=hl.next hi (isMt_k h1)
  obtain⟨p,hp1,hp2⟩:=partS_at hl (i+1) hi1 fun j hj=>readS_bad hl hi1 hj
  have hok:=fun e q=>partS_ok hl hS hi1 (e:=e) (p:=q)
  generalize partS l (i+1)=R at hp1 hok ⊢
  obtain⟨e,p1,r⟩:=R
  simp only at hp1 ⊢
  subst hp1
  rw[Int.toNat_natCast]
  cases hr:decide (r=0)with
  |false=>exact⟨p,rfl,hp2,fun h=>by simp only at h;rw[h]at hr;cases hr⟩
  |true=>
   have hr:=of_decide_eq_true hr
   subst hr
   cases hm:isMt (tkA l p) (bs [59])with
   |false=>exact⟨p,rfl,hp2,fun h=>by cases h⟩
   |true=>
    obtain⟨j,hj,h2,h3,h4,h5⟩:=hok e _ rfl
    have:j=p:=by omega
    subst this
    exact⟨j+1,rfl,hl.next hp2 (isMt_k hm),fun _=>⟨by omega,h4,h5⟩⟩
end
inductive MR where
 |out
 |ok (o:List Mv)
 |er (i:Nat) (c:Int)
def mStep (l:List Tk)(o:List Mv)(i:Nat):(List Mv × Nat) ⊕ MR:=match decide ((tkA l i).k=6),decide (errS (tkA l i) o=0)with
 |true,_=> .inr (.ok o)
 |false,false=> .inr (.er i (errS (tkA l i) o))
 |false,true=>match moveS l (i+1)with
  |(e,p,r)=>match decide (r=0)with
   |false=> .inr (.er p.toNat r)
   |true=> .inl (o++[⟨(tkA l i).s,e⟩],p.toNat)
def mRun (l:List Tk):Nat→List Mv→Nat→MR
 |0,_,_=> .out
 |n+1,o,i=>match mStep l o i with
  | .inl x=>mRun l n x.1 x.2
  | .inr r=>r
def encM (l:List Tk)(n:Nat):MR→PRes
 | .out=> .val []
 | .ok o=> .val [.sl 7 (mrows o), .int .i64 (n:Int), .int .i64 0]
 | .er i c=> .val [.sl 7 [], .int .i64 ((tkA l i).a:Int), .int .i64 c]
end Go.Vm
end

section
set_option linter.all false
set_option maxRecDepth 100000
set_option maxHeartbeats 4000000
namespace Go.Vm
open Go.Proofs
def mvFine (o:List Mv):Prop:= ∀m∈o,m.e.fine∧m.e.size≤1000000
theorem mrows_snoc (o:List Mv)(m:Mv):mrows o++[m.row]=mrows (o++[m]):=by simp [mrows]
structure MI (l:List Tk) (N:Nat) (x:Nat × List Mv × Nat):Prop where
 r:mRun l x.1 x.2.1 x.2.2=mRun l N [] 0
 i:x.2.2 < l.length
 n:l.length - x.2.2≤x.1
 o:x.2.1.length≤x.2.2
 f:mvFine x.2.1
def mrFine:MR→Prop
 | .ok o=>mvFine o∧o.length≤1000000
 | .er _ _=>True
 | .out=>False
section
variable {l : List Tk} (hl : LOK l) (hS : TS l) (hT : TOK l)
include hl hS hT
theorem mround {N:Nat}{x:Nat × List Mv × Nat}(h:MI l N x):
  (∃r,mStep l x.2.1 x.2.2= .inr r∧mRun l N [] 0=r∧mrFine r)∨ ∃e p,mStep l x.2.1 x.2.2= .inl (x.2.1++[⟨(tkA l x.2.2).s,e⟩],p)∧moveS l (x.2.2+1)=(e,(p:Int),0)∧x.2.2 < p∧MI l N (x.1 - 1,x.2.1++[⟨(tkA l x.2.2).s,e⟩],p)∧x.1 - 1 < x.1:=by
 obtain⟨n,o,i⟩:=x
 obtain⟨h1,h2,h3,h4,h5⟩:=h
 simp only at h1 h2 h3 h4 h5 ⊢
 obtain⟨n,rfl⟩: ∃q,n=q+1:=⟨n - 1,by omega⟩
 have hf:=hl.few
 rw[mRun]at h1
 cases hs:mStep l o i with
 |inr r=>
  left
  rw[hs]at h1
  refine⟨r,rfl,h1.symm,?_⟩
  unfold mStep at hs
  split at hs
  ·cases hs;exact⟨h5,by omega⟩
  ·cases hs;trivial
  ·split at hs
   rename_i q _ _ _
   split at hs
   ·cases hs;trivial
   ·cases hs
 |inl y=>
  right
  rw[hs]at h1
  unfold mStep at hs
  split at hs
  ·cases hs
  ·cases hs
  ·rename_i hk he
   have hk6:(tkA l i).k≠6:=of_decide_eq_false hk
   have hi1:=hl.next h2 hk6
   obtain⟨p,q1,q2,q3⟩:=moveS_at hl hS hT (i+1) hi1
   split at hs
   rename_i e p1 r hm
   simp only [hm]at q3
   rw[hm]at q1
   have q1:p1=(p:Int):=q1
   subst q1
   split at hs
   ·cases hs
   ·rename_i hr
    have hr:=of_decide_eq_true hr
    subst hr
    obtain⟨q4,q5,q6⟩:=q3 rfl
    rw[Int.toNat_natCast]at hs
    cases hs
    refine⟨e,p,rfl,hm,by omega,⟨?_,q2,?_,?_,?_⟩,by omega⟩
    ·simpa using h1
    ·simp only;omega
    ·simp only [List.length_append,List.length_singleton];omega
    ·intro m hmm
     rcases List.mem_append.1 hmm with hmm|hmm
     ·exact h5 m hmm
     ·rw[List.mem_singleton.1 hmm];exact⟨q5,q6⟩
theorem mloop1 (s:ByteArray): ∃p,loopF (fun ds6=>
  (opS (sy.cell ds6 0)).bind fun s7=>
  oP sy ds6 1 fun l8 n9=>
  (opL (sy.cell ds6 3) 7).bind fun l10=>
  bif (sy.inr n9 (sy.rlen l8))then
   oT sy (sy.row l8 n9) 0 fun n11 s12 n13 n14=>
   bif (sy.ieq n11 6)then
    some (.inr (PRes.val [(.sl 7 l10),(.int .i64 (sy.slen s7)),(.int .i64 0)]))
   else
    (cF 16 [(.agg [(.d (.int .i64 n11)),(.d (.str s12)),(.d (.int .i64 n13)),(.d (.int .i64 n14))]),(.d (.sl 7 l10))]).bind fun p15=>
    (opI (sy.cell p15.leaves 0) .i64).bind fun n17=>
    bif (sy.bnot (sy.ieq n17 0))then
     some (.inr (PRes.val [(.sl 7 []),(.int .i64 n14),(.int .i64 n17)]))
    else
     (cF 17 [(.d (.sl 4 l8)),(.d (.int .i64 (sy.wrap .i64 (sy.add n9 1))))]).bind fun p18=>
     oE sy p18.leaves 0 fun n20 n21 s22 n23 l24 l25=>
     (opI (sy.cell p18.leaves 6) .i64).bind fun n26=>
     (opI (sy.cell p18.leaves 7) .i64).bind fun n27=>
     bif (sy.bnot (sy.ieq n27 0))then
      bif (sy.inr n26 (sy.rlen l8))then
       (opI (sy.cell (sy.skip 3 (sy.row l8 n26)) 0) .i64).bind fun n28=>
       some (.inr (PRes.val [(.sl 7 []),(.int .i64 n28),(.int .i64 n27)]))
      else
       none
     else
      bif (sy.fits l10 [[(.str s12),(.int .i64 n20),(.int .i64 n21),(.str s22),(.int .i64 n23),(.sl 1 l24),(.sl 6 l25)]] 104)then
       some (.inl [(.str s7),(.sl 4 l8),(.int .i64 n26),(.sl 7 (sy.rapp l10 [[(.str s12),(.int .i64 n20),(.int .i64 n21),(.str s22),(.int .i64 n23),(.sl 1 l24),(.sl 6 l25)]]))])
      else
       none
  else
   none
  ) [(.str s),(.sl 4 (trows l)),(.int .i64 0),(.sl 7 [])]=some p∧p=encM l s.size (mRun l l.length [] 0)∧mrFine (mRun l l.length [] 0):=by
 have hf:=hl.few
 refine loopF_ex (fun x:Nat × List Mv × Nat=>[.str s, .sl 4 (trows l), .int .i64 (x.2.2:Int), .sl 7 (mrows x.2.1)]) (MI l l.length) (fun x=>x.1) (fun x hx=> ?_) (l.length,[],0) ⟨rfl,hl.pos,Nat.le_refl _,Nat.le_refl _,by intro m h;cases h⟩
 have hi:=hx.i
 have ho:=hx.o
 have hstep:=mround hl hS hT hx
 obtain⟨n,o,i⟩:=x
 simp only at hi ho hstep ⊢
 have q1:=in_tk hi
 have q2:=row_tk hi
 rw[trows_len]at q1
 have p1:=c_mpath (tkA l i) o (by omega)
 have w1:IntKind.i64.wrap ((i:Int)+1)=((i+1:Nat):Int):=by rw[wrap_id (by omega) (by omega)];omega
 have fit:decide (((mrows o).length+1)*(104+1)≤140737488355328)=true:=decide_eq_true (by rw[mrows_len];omega)
 unfold mStep at hstep
 cases hk:decide ((tkA l i).k=6)with
 |true=>
  right
  rw[hk]at hstep
  rcases hstep with⟨r,h1,h2,h3⟩|⟨e,p,h1,_⟩
  ·cases h1
   refine⟨encM l s.size (mRun l l.length [] 0),?_,rfl,by rw[h2];exact h3⟩
   rw[h2]
   simp only [go1,Nat.reduceAdd,Int.reduceEq,Int.reduceLT,Int.reduceLE,Int.reduceSub,Int.reduceAdd,oP,oT,trows_len,q1,q2,tkrow,hk]
   rfl
  ·cases h1
 |false=>
  rw[hk]at hstep
  cases he:decide (errS (tkA l i) o=0)with
  |false=>
   right
   rw[he]at hstep
   rcases hstep with⟨r,h1,h2,h3⟩|⟨e,p,h1,_⟩
   ·cases h1
    refine⟨encM l s.size (mRun l l.length [] 0),?_,rfl,by rw[h2];exact h3⟩
    rw[h2]
    simp only [go1,Nat.reduceAdd,Int.reduceEq,Int.reduceLT,Int.reduceLE,Int.reduceSub,Int.reduceAdd,oP,oT,trows_len,q1,q2,tkrow,hk,p1,he]
    rfl
   ·cases h1
  |true=>
   rw[he]at hstep
   have hi1:=hl.next hi (of_decide_eq_false hk)
   have m1:=c_mmove hl hS hT (i+1) hi1
   obtain⟨p,r1,r2,_⟩:=moveS_at hl hS hT (i+1) hi1
   generalize moveS l (i+1)=R at hstep m1 r1
   obtain⟨⟨k2,n2,s2,o2,a2,u2⟩,p1',r⟩:=R
   simp only at r1 hstep
   subst r1
   simp only [encP]at m1
   have q3:=in_tk r2
   have q4:=row_skip r2
   rw[trows_len]at q3
   cases hr:decide (r=0)with
   |false=>
    right
    rw[hr]at hstep
    rcases hstep with⟨r',h1,h2,h3⟩|⟨e,p,h1,_⟩
    ·cases h1
     refine⟨encM l s.size (mRun l l.length [] 0),?_,rfl,by rw[h2];exact h3⟩
     rw[h2]
     simp only [go1,Nat.reduceAdd,Int.reduceEq,Int.reduceLT,Int.reduceLE,Int.reduceSub,Int.reduceAdd,oP,oT,oE,trows_len,q1,q2,tkrow,hk,p1,he,w1,m1,hr,q3,q4]
     simp only [encM,Int.toNat_natCast]
    ·cases h1
   |true=>
    left
    have hr':=of_decide_eq_true hr
    subst hr'
    rcases hstep with⟨r',h1,_⟩|⟨e,p2,h1,h2,h3,h4,h5⟩
    ·simp only [decide_true]at h1;cases h1
    ·cases h2
     refine⟨(n - 1,o++[⟨(tkA l i).s, .mk k2 n2 s2 o2 a2 u2⟩],p),?_,h4,h5⟩
     have e1:mrows o++[[.str (tkA l i).s, .int .i64 k2, .int .i64 n2, .str s2, .int .i64 o2, .sl 1 (srows a2), .sl 6 (Ex.rows u2)]]=mrows (o++[⟨(tkA l i).s, .mk k2 n2 s2 o2 a2 u2⟩]):=by rw[←mrows_snoc];rfl
     simp only [go1,Nat.reduceAdd,Int.reduceEq,Int.reduceLT,Int.reduceLE,Int.reduceSub,Int.reduceAdd,oP,oT,oE,trows_len,q1,q2,tkrow,hk,p1,he,w1,m1,List.length_cons,List.length_nil,Nat.zero_add,fit,e1]
end
end Go.Vm
end

section
set_option linter.all false
set_option maxRecDepth 100000
set_option maxHeartbeats 4000000
namespace Go.Vm
open Go.Proofs
section
variable {l : List Tk} (hl : LOK l) (hS : TS l) (hT : TOK l)
include hl hS hT
end
end Go.Vm
end

section
set_option linter.all false
set_option maxRecDepth 100000
set_option maxHeartbeats 4000000
namespace Go.Vm
open Go.Proofs
def ml0:List Tk:=[⟨4,bs [97,47,110],0,0⟩,⟨5,bs [58,61],0,6⟩,⟨4,bs [110],0,9⟩,⟨5,bs [43],0,13⟩,⟨3,bs [49],1,15⟩,⟨5,bs [59],0,16⟩,⟨6,bs [],0,17⟩]
def mx0:Ex:= .mk 6 0 (bs []) 3 [] [.mk 17 0 (bs [110]) 0 [] [], .mk 1 1 (bs []) 0 [] []]
theorem mlive1:cF 15 [.d (.str (bs [39,97,47,110,39,32,58,61,32,39,110,39,32,43,32,49,59])), .d (.int .i64 6000)]=some (.val [.sl 4 (trows ml0), .int .i64 17, .int .i64 0]):=callF_run 40 fun n=>by
 rw[Nat.add_comm]
 kernel_rfl
theorem mlive2:mRun ml0 ml0.length [] 0= .ok [⟨bs [97,47,110],mx0⟩]:=by kernel_rfl
theorem mlive3:cF 7 [.d (.str (bs [39,97,47,110,39,32,58,61,32,39,110,39,32,43,32,49,59]))]=some (.val [.sl 7 (mrows [⟨bs [97,47,110],mx0⟩]), .int .i64 17, .int .i64 0]):=by
 have hl:LOK ml0:=⟨by decide,rfl,by decide⟩
 have hS:TS ml0:=TS_of (by decide)
 have hT:TOK ml0:=TOK_of (by decide)
 obtain⟨p,h2,h3,_⟩:=mloop1 hl hS hT (bs [39,97,47,110,39,32,58,61,32,39,110,39,32,43,32,49,59])
 rw[mlive2]at h3
 subst h3
 refine cOf (by kernel_rfl) rfl ?_
 rw[g7_eq]
 unfold g7
 rw[eF_call,mlive1]
 exact h2
theorem c_mnum (x:Int):cF 10 [.d (.int .i64 x)]=some (.val [.int .i64 x]):=by
 refine cOf (by kernel_rfl) rfl ?_
 rw[g10_eq]
 simp only [g10,go1,Nat.reduceAdd,Int.reduceEq,Int.reduceLT,Int.reduceLE,Int.reduceSub,Int.reduceAdd]
theorem c_mlive:cF 6 []=some (.val [.bool true]):=by
 have h1:=mlive3
 have h2:=c_mnum 0
 have h3:sy.row (mrows [⟨bs [97,47,110],mx0⟩]) 0=(⟨bs [97,47,110],mx0⟩:Mv).row:=rfl
 have h4:(mrows [⟨bs [97,47,110],mx0⟩]).length=1:=rfl
 have h5:decide ((((mrows [⟨bs [97,47,110],mx0⟩]).length:Nat):Int)=1)=true:=rfl
 have h6:decide ((0:Int)≤0∧(0:Int) < (((mrows [⟨bs [97,47,110],mx0⟩]).length:Nat):Int))=true:=rfl
 have h7:decide ((0:Int) < (((mrows [⟨bs [97,47,110],mx0⟩]).length:Nat):Int))=true:=rfl
 refine cOf (by kernel_rfl) rfl ?_
 rw[g6_eq]
 simp only [g6,go1,Nat.reduceAdd,Int.reduceEq,Int.reduceLT,Int.reduceLE,Int.reduceSub,Int.reduceAdd,h7,h1,h2,h3,h5,h6,Mv.row,seq_tb,decide_true]
end Go.Vm
end

section
set_option linter.all false
set_option maxRecDepth 100000
set_option maxHeartbeats 4000000
namespace Go.Vm
open Go.Proofs
def fm:Pc→List T
 | []=>[]
 |none::r=>fm r
 |some t::r=>t::fm r
def Az (l:List Tk):Nat→List T→Prop
 |_,[]=>True
 |i,t::ts=>tkT (tkA l i)=t∧Az l (i+1) ts
def isTT (t:T)(w:List Nat):Bool:=decide (t.b=w)&&(decide (t.k=1) || decide (t.k=5))
def opQ (t:T):Nat→Nat→Option Nat
 |_,0=>none
 |a,n+1=>match isTT t (tb (signB a))with
  |true=>some a
  |false=>opQ t (a+1) n
def nT (t:T)(w:List Nat):Bool:= !isTT t w
def nO (t:T)(a n:Nat):Bool:=(opQ t a n).isNone
def f1 (t:T):Bool:=nT t [40]&&nT t kEvery
def f2 (t:T):Bool:=f1 t&&(nT t [91]&&nT t kWhen)
def f4 (t:T):Bool:=f2 t&&nO t 5 3
def f5 (t:T):Bool:=f4 t&&nO t 3 2
def f6 (t:T):Bool:=f5 t&&nO t 11 6
def f7 (t:T):Bool:=f6 t&&nO t 8 1
def staB (t:T):Bool:=nT t [45]&&(nT t kNot&&(nT t kPre&&nT t [41]))
section
variable (l : List Tk)
def Ev (nt:Nt)(i:Nat)(e:Ex)(j N:Nat):Prop:= ∀m,N≤m→prs l m nt i= .ok e j
end
section
variable {l : List Tk} {i j k N M : Nat} {e x y : Ex}
theorem Ev.mono {nt:Nt}(h:Ev l nt i e j N)(hN:N≤M):Ev l nt i e j M:=fun m hm=>h m (by omega)
end
end Go.Vm
end

section
set_option linter.all false
set_option maxRecDepth 100000
set_option maxHeartbeats 4000000
namespace Go.Vm
open Go.Proofs
def tL (x:Ex):Nat:=(fm (pcs x)).length
def St (x:Ex):Prop:= ∃t r,fm (pcs x)=t::r∧staB t=true
section
variable {l : List Tk} {i j k N M n : Nat} {e x y z : Ex} {p : PR}
theorem St.pos (h:St x):1≤tL x:=by
 obtain⟨t,r,h,_⟩:=h
 unfold tL;rw[h];simp
theorem St.at (h:St x)(ha:Az l i (fm (pcs x))):staB (tkT (tkA l i))=true:=by
 obtain⟨t,r,h,hs⟩:=h
 rw[h]at ha
 rw[ha.1];exact hs
end
end Go.Vm
end

section
set_option linter.all false
set_option maxRecDepth 100000
set_option maxHeartbeats 4000000
namespace Go.Vm
open Go.Proofs
section
variable {l : List Tk} {i j k N : Nat} {e x y : Ex}
end
end Go.Vm
end

section
set_option linter.all false
set_option maxRecDepth 100000
set_option maxHeartbeats 4000000
namespace Go.Vm
open Go.Proofs
end Go.Vm
end

section
set_option linter.all false
set_option maxRecDepth 100000
set_option maxHeartbeats 4000000
namespace Go.Vm
open Go.Proofs
def txtM:List Mv→List Nat
 | []=>[]
 |m::l=>(39::(tb m.p++[39]))++([32,58,61,32]++(render (pcs m.e)++([59,10]++txtM l)))
def okMv (m:Mv):Bool:=pathN (tb m.p)&&(smallB m.e&&allB m.e)
def oneM:List Mv→Bool
 | []=>true
 |m::l=> !hasP l m.p&&oneM l
theorem hasP_app (a b:List Mv)(s:ByteArray):hasP (a++b) s=(hasP a s || hasP b s):=by unfold hasP;rw[List.any_append]
section
variable {L : List Tk} (hN : L.length ≤ 1000000)
include hN
end
end Go.Vm
end
