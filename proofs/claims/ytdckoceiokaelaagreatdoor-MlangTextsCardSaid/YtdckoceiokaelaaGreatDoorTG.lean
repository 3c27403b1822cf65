/-
  Part TG of the proof. What is proved by the whole: the statement that the claim names, with no condition. This part: lemmas.
-/
import Derived.Test.YtdckoceiokaelaaGreatDoorTF
set_option linter.unusedSimpArgs false
set_option linter.unusedVariables false

section
set_option maxRecDepth 1000000
set_option maxHeartbeats 0
namespace Go.Vm
open Go.Proofs
noncomputable section
def b167 (A:Sy)(E:Env)(toks:List (List D))(at_:Int)(s_:ByteArray):Option PRes:=
 bif (A.inr at_ (A.rlen toks))then
  oT A (A.row toks at_) 0 fun n1 s2 n3 n4=>
  cutO (
   bif (A.seq s2 s_)then
    bif (A.ieq n1 1)then
     some (.inl [(.bool true)])
    else
     some (.inl [(.bool (A.ieq n1 5))])
   else
    some (.inl [(.bool false)])
  ) fun ds5=>
  (opB (A.cell ds5 0)).bind fun b6=>
  bif (A.bnot b6)then
   some (.val [(.bool false),(.sl 4 toks),(.int .i64 at_)])
  else
   some (.val [(.bool true),(.sl 4 toks),(.int .i64 (A.wrap .i64 (A.add at_ 1)))])
 else
  none
theorem b167_eq (A:Sy)(E:Env)(toks:List (List D))(at_:Int)(s_:ByteArray):(funB A Tryz.prog cs 167 0 [.ptr 0 0, .d (.str s_)] [.cells (.ty 135) [.d (.sl 4 toks), .d (.int .i64 at_)]]).run E=b167 A E toks at_ s_:=by kernel_rfl
def b241 (A:Sy)(E:Env)(toks:List (List D))(at_:Int):Option PRes:=
 bif (A.inr at_ (A.rlen toks))then
  oT A (A.row toks at_) 0 fun n1 s2 n3 n4=>
  bif (A.ieq n1 2)then
   some (.val [(.bool true),(.sl 4 toks),(.int .i64 at_)])
  else
   bif (A.inr at_ (A.rlen toks))then
    oT A (A.row toks at_) 0 fun n5 s6 n7 n8=>
    cutO (
     bif (A.seq s6 (bs [116,114,117,101]))then
      bif (A.ieq n5 1)then
       some (.inl [(.bool true)])
      else
       some (.inl [(.bool (A.ieq n5 5))])
     else
      some (.inl [(.bool false)])
    ) fun ds9=>
    (opB (A.cell ds9 0)).bind fun b10=>
    bif b10 then
     some (.val [(.bool true),(.sl 4 toks),(.int .i64 at_)])
    else
     bif (A.inr at_ (A.rlen toks))then
      oT A (A.row toks at_) 0 fun n11 s12 n13 n14=>
      cutO (
       bif (A.seq s12 (bs [102,97,108,115,101]))then
        bif (A.ieq n11 1)then
         some (.inl [(.bool true)])
        else
         some (.inl [(.bool (A.ieq n11 5))])
       else
        some (.inl [(.bool false)])
      ) fun ds15=>
      (opB (A.cell ds15 0)).bind fun b16=>
      some (.val [(.bool b16),(.sl 4 toks),(.int .i64 at_)])
     else
      none
   else
    none
 else
  none
theorem b241_eq (A:Sy)(E:Env)(toks:List (List D))(at_:Int):(funB A Tryz.prog cs 241 0 [.ptr 0 0] [.cells (.ty 135) [.d (.sl 4 toks), .d (.int .i64 at_)]]).run E=b241 A E toks at_:=by kernel_rfl
def b213 (A:Sy)(E:Env)(toks:List (List D))(at_:Int)(from_ to_:Int):Option PRes:=
 E.lp (fun ds1=>
  (opI (A.cell ds1 0) .i64).bind fun n2=>
  (opI (A.cell ds1 1) .i64).bind fun n3=>
  oP A ds1 2 fun l4 n5=>
  bif (A.ile n3 n2)then
   (E.call 106 [(.d (.int .i64 n3))]).bind fun p6=>
   (opS (A.cell p6.leaves 0)).bind fun s8=>
   (E.call 1000167 (kS 0 s8 l4 n5)).bind fun p9=>
   (opB (A.cell p9.leaves 0)).bind fun b11=>
   oP A p9.leaves 1 fun l12 n13=>
   bif b11 then
    some (.inr (.val [(.int .i64 n3),(.bool true),(.sl 4 l12),(.int .i64 n13)]))
   else
    some (.inl [(.int .i64 n2),(.int .i64 (A.wrap .i64 (A.add n3 1))),(.sl 4 l12),(.int .i64 n13)])
  else
   some (.inr (.val [(.int .i64 0),(.bool false),(.sl 4 l4),(.int .i64 n5)]))
 ) [(.int .i64 to_),(.int .i64 from_),(.sl 4 toks),(.int .i64 at_)]
theorem b213_eq (A:Sy)(E:Env)(toks:List (List D))(at_:Int)(from_ to_:Int):(funB A Tryz.prog cs 213 0 [.ptr 0 0, .d (.int .i64 from_), .d (.int .i64 to_)] [.cells (.ty 135) [.d (.sl 4 toks), .d (.int .i64 at_)]]).run E=b213 A E toks at_ from_ to_:=by kernel_rfl
def b131 (A:Sy)(E:Env)(toks:List (List D))(at_:Int):Option PRes:=
 (E.call 1000166 (kP 159 toks at_)).bind fun p1=>
 (opB (A.cell p1.leaves 0)).bind fun b3=>
 bif b3 then
  (opI (A.cell p1.leaves 1) .i64).bind fun n4=>
  oP A p1.leaves 2 fun l5 n6=>
  some (.val [(.bool true),(.int .i64 n4),(.sl 4 l5),(.int .i64 n6)])
 else
  oE A p1.leaves 1 fun n7 n8 s9 n10 l11 l12=>
  oP A p1.leaves 7 fun l13 n14=>
  (E.call 1000167 (kS 0 (bs [45,62]) l13 n14)).bind fun p15=>
  (opB (A.cell p15.leaves 0)).bind fun b17=>
  oP A p15.leaves 1 fun l18 n19=>
  bif b17 then
   (E.call 1000131 (kP 159 l18 n19)).bind fun p20=>
   (opB (A.cell p20.leaves 0)).bind fun b22=>
   bif b22 then
    (opI (A.cell p20.leaves 1) .i64).bind fun n23=>
    oP A p20.leaves 2 fun l24 n25=>
    some (.val [(.bool true),(.int .i64 n23),(.sl 4 l24),(.int .i64 n25)])
   else
    oE A p20.leaves 1 fun n26 n27 s28 n29 l30 l31=>
    oP A p20.leaves 7 fun l32 n33=>
    some (.val [(.bool false),(.int .i64 9),(.int .i64 0),(.str (bs [])),(.int .i64 0),(.sl 1 []),(.sl 6 [[(.int .i64 n7),(.int .i64 n8),(.str s9),(.int .i64 n10),(.sl 1 l11),(.sl 6 l12)],[(.int .i64 n26),(.int .i64 n27),(.str s28),(.int .i64 n29),(.sl 1 l30),(.sl 6 l31)]]),(.sl 4 l32),(.int .i64 n33)])
  else
   some (.val [(.bool false),(.int .i64 n7),(.int .i64 n8),(.str s9),(.int .i64 n10),(.sl 1 l11),(.sl 6 l12),(.sl 4 l18),(.int .i64 n19)])
theorem b131_eq (A:Sy)(E:Env)(toks:List (List D))(at_:Int):(funB A Tryz.prog cs 131 159 [.ptr 0 0] [.cells (.ty 135) [.d (.sl 4 toks), .d (.int .i64 at_)]]).run E=b131 A E toks at_:=by kernel_rfl
def b237 (A:Sy)(E:Env)(toks:List (List D))(at_:Int):Option PRes:=
 (E.call 1000167 (kS 0 (bs [110,111,116]) toks at_)).bind fun p1=>
 (opB (A.cell p1.leaves 0)).bind fun b3=>
 oP A p1.leaves 1 fun l4 n5=>
 bif b3 then
  (E.call 1000240 (kP 159 l4 n5)).bind fun p6=>
  (opB (A.cell p6.leaves 0)).bind fun b8=>
  bif b8 then
   (opI (A.cell p6.leaves 1) .i64).bind fun n9=>
   oP A p6.leaves 2 fun l10 n11=>
   some (.val [(.bool true),(.int .i64 n9),(.sl 4 l10),(.int .i64 n11)])
  else
   (opS (A.cell p6.leaves 1)).bind fun s12=>
   oP A p6.leaves 2 fun l13 n14=>
   some (.val [(.bool false),(.str s12),(.str (bs [102,97,108,115,101])),(.sl 4 l13),(.int .i64 n14)])
 else
  (E.call 1000241 (kP 0 l4 n5)).bind fun p15=>
  (opB (A.cell p15.leaves 0)).bind fun b17=>
  oP A p15.leaves 1 fun l18 n19=>
  bif (A.bnot b17)then
   (E.call 1000240 (kP 159 l18 n19)).bind fun p20=>
   (opB (A.cell p20.leaves 0)).bind fun b22=>
   bif b22 then
    (opI (A.cell p20.leaves 1) .i64).bind fun n23=>
    oP A p20.leaves 2 fun l24 n25=>
    some (.val [(.bool true),(.int .i64 n23),(.sl 4 l24),(.int .i64 n25)])
   else
    (opS (A.cell p20.leaves 1)).bind fun s26=>
    oP A p20.leaves 2 fun l27 n28=>
    some (.val [(.bool false),(.str s26),(.str (bs [116,114,117,101])),(.sl 4 l27),(.int .i64 n28)])
  else
   (E.call 1000242 (kP 159 l18 n19)).bind fun p29=>
   (opB (A.cell p29.leaves 0)).bind fun b31=>
   bif b31 then
    (opI (A.cell p29.leaves 1) .i64).bind fun n32=>
    oP A p29.leaves 2 fun l33 n34=>
    some (.val [(.bool true),(.int .i64 n32),(.sl 4 l33),(.int .i64 n34)])
   else
    (opS (A.cell p29.leaves 1)).bind fun s35=>
    oP A p29.leaves 2 fun l36 n37=>
    (E.call 1000236 (kN [[(.str (bs [40]))]] l36 n37)).bind fun p38=>
    (opB (A.cell p38.leaves 0)).bind fun b40=>
    bif b40 then
     (opI (A.cell p38.leaves 1) .i64).bind fun n41=>
     oP A p38.leaves 2 fun l42 n43=>
     (opL (A.cell p38.leaves 4) 1).bind fun l44=>
     some (.val [(.bool true),(.int .i64 n41),(.sl 4 l42),(.int .i64 n43)])
    else
     oP A p38.leaves 1 fun l45 n46=>
     (opL (A.cell p38.leaves 3) 1).bind fun l47=>
     (E.call 1000240 (kP 159 l45 n46)).bind fun p48=>
     (opB (A.cell p48.leaves 0)).bind fun b50=>
     bif b50 then
      (opI (A.cell p48.leaves 1) .i64).bind fun n51=>
      oP A p48.leaves 2 fun l52 n53=>
      some (.val [(.bool true),(.int .i64 n51),(.sl 4 l52),(.int .i64 n53)])
     else
      (opS (A.cell p48.leaves 1)).bind fun s54=>
      oP A p48.leaves 2 fun l55 n56=>
      (E.call 1000236 (kN [[(.str (bs [41]))]] l55 n56)).bind fun p57=>
      (opB (A.cell p57.leaves 0)).bind fun b59=>
      bif b59 then
       (opI (A.cell p57.leaves 1) .i64).bind fun n60=>
       oP A p57.leaves 2 fun l61 n62=>
       (opL (A.cell p57.leaves 4) 1).bind fun l63=>
       some (.val [(.bool true),(.int .i64 n60),(.sl 4 l61),(.int .i64 n62)])
      else
       oP A p57.leaves 1 fun l64 n65=>
       (opL (A.cell p57.leaves 3) 1).bind fun l66=>
       some (.val [(.bool false),(.str s54),(.str s35),(.sl 4 l64),(.int .i64 n65)])
theorem b237_eq (A:Sy)(E:Env)(toks:List (List D))(at_:Int):(funB A Tryz.prog cs 237 159 [.ptr 0 0] [.cells (.ty 135) [.d (.sl 4 toks), .d (.int .i64 at_)]]).run E=b237 A E toks at_:=by kernel_rfl
def b166 (A:Sy)(E:Env)(toks:List (List D))(at_:Int):Option PRes:=
 (E.call 1000187 (kP 159 toks at_)).bind fun p1=>
 (opB (A.cell p1.leaves 0)).bind fun b3=>
 bif b3 then
  (opI (A.cell p1.leaves 1) .i64).bind fun n4=>
  oP A p1.leaves 2 fun l5 n6=>
  some (.val [(.bool true),(.int .i64 n4),(.sl 4 l5),(.int .i64 n6)])
 else
  oE A p1.leaves 1 fun n7 n8 s9 n10 l11 l12=>
  oP A p1.leaves 7 fun l13 n14=>
  (E.call 1000167 (kS 0 (bs [102,98,121]) l13 n14)).bind fun p15=>
  (opB (A.cell p15.leaves 0)).bind fun b17=>
  oP A p15.leaves 1 fun l18 n19=>
  bif b17 then
   (E.call 1000166 (kP 159 l18 n19)).bind fun p20=>
   (opB (A.cell p20.leaves 0)).bind fun b22=>
   bif b22 then
    (opI (A.cell p20.leaves 1) .i64).bind fun n23=>
    oP A p20.leaves 2 fun l24 n25=>
    some (.val [(.bool true),(.int .i64 n23),(.sl 4 l24),(.int .i64 n25)])
   else
    oE A p20.leaves 1 fun n26 n27 s28 n29 l30 l31=>
    oP A p20.leaves 7 fun l32 n33=>
    some (.val [(.bool false),(.int .i64 8),(.int .i64 0),(.str (bs [])),(.int .i64 0),(.sl 1 []),(.sl 6 [[(.int .i64 n7),(.int .i64 n8),(.str s9),(.int .i64 n10),(.sl 1 l11),(.sl 6 l12)],[(.int .i64 n26),(.int .i64 n27),(.str s28),(.int .i64 n29),(.sl 1 l30),(.sl 6 l31)]]),(.sl 4 l32),(.int .i64 n33)])
  else
   some (.val [(.bool false),(.int .i64 n7),(.int .i64 n8),(.str s9),(.int .i64 n10),(.sl 1 l11),(.sl 6 l12),(.sl 4 l18),(.int .i64 n19)])
theorem b166_eq (A:Sy)(E:Env)(toks:List (List D))(at_:Int):(funB A Tryz.prog cs 166 159 [.ptr 0 0] [.cells (.ty 135) [.d (.sl 4 toks), .d (.int .i64 at_)]]).run E=b166 A E toks at_:=by kernel_rfl
def b240 (A:Sy)(E:Env)(toks:List (List D))(at_:Int):Option PRes:=
 bif (A.inr at_ (A.rlen toks))then
  oT A (A.row toks at_) 0 fun n1 s2 n3 n4=>
  cutO (
   bif (A.bnot (A.ieq n1 1))then
    some (.inl [(.bool true)])
   else
    (E.call 125 [(.d (.str s2))]).bind fun p5=>
    (opB (A.cell p5.leaves 0)).bind fun b7=>
    some (.inl [(.bool b7)])
  ) fun ds8=>
  (opB (A.cell ds8 0)).bind fun b9=>
  bif b9 then
   some (.val [(.bool true),(.int .i64 at_),(.sl 4 toks),(.int .i64 at_)])
  else
   some (.val [(.bool false),(.str s2),(.sl 4 toks),(.int .i64 (A.wrap .i64 (A.add at_ 1)))])
 else
  none
theorem b240_eq (A:Sy)(E:Env)(toks:List (List D))(at_:Int):(funB A Tryz.prog cs 240 159 [.ptr 0 0] [.cells (.ty 135) [.d (.sl 4 toks), .d (.int .i64 at_)]]).run E=b240 A E toks at_:=by kernel_rfl
def b242 (A:Sy)(E:Env)(toks:List (List D))(at_:Int):Option PRes:=
 (E.call 1000241 (kP 0 toks at_)).bind fun p1=>
 (opB (A.cell p1.leaves 0)).bind fun b3=>
 oP A p1.leaves 1 fun l4 n5=>
 bif (A.bnot b3)then
  some (.val [(.bool true),(.int .i64 n5),(.sl 4 l4),(.int .i64 n5)])
 else
  bif (A.inr n5 (A.rlen l4))then
   oT A (A.row l4 n5) 0 fun n6 s7 n8 n9=>
   some (.val [(.bool false),(.str s7),(.sl 4 l4),(.int .i64 (A.wrap .i64 (A.add n5 1)))])
  else
   none
theorem b242_eq (A:Sy)(E:Env)(toks:List (List D))(at_:Int):(funB A Tryz.prog cs 242 159 [.ptr 0 0] [.cells (.ty 135) [.d (.sl 4 toks), .d (.int .i64 at_)]]).run E=b242 A E toks at_:=by kernel_rfl
def b187 (A:Sy)(E:Env)(toks:List (List D))(at_:Int):Option PRes:=
 (E.call 1000204 (kP 159 toks at_)).bind fun p1=>
 (opB (A.cell p1.leaves 0)).bind fun b3=>
 bif b3 then
  (opI (A.cell p1.leaves 1) .i64).bind fun n4=>
  oP A p1.leaves 2 fun l5 n6=>
  some (.val [(.bool true),(.int .i64 n4),(.sl 4 l5),(.int .i64 n6)])
 else
  oE A p1.leaves 1 fun n7 n8 s9 n10 l11 l12=>
  oP A p1.leaves 7 fun l13 n14=>
  E.lp (fun ds15=>
   (opI (A.cell ds15 0) .i64).bind fun n16=>
   (opI (A.cell ds15 1) .i64).bind fun n17=>
   oP A ds15 2 fun l18 n19=>
   (opI (A.cell ds15 4) .i64).bind fun n20=>
   oT A ds15 5 fun n21 s22 n23 n24=>
   oT A ds15 9 fun n25 s26 n27 n28=>
   (opI (A.cell ds15 13) .i64).bind fun n29=>
   (opS (A.cell ds15 14)).bind fun s30=>
   (opI (A.cell ds15 15) .i64).bind fun n31=>
   (opL (A.cell ds15 16) 1).bind fun l32=>
   (opL (A.cell ds15 17) 6).bind fun l33=>
   (E.call 1000213 (kO n16 n17 l18 n19)).bind fun p34=>
   (opI (A.cell p34.leaves 0) .i64).bind fun n36=>
   (opB (A.cell p34.leaves 1)).bind fun b37=>
   oP A p34.leaves 2 fun l38 n39=>
   bif (A.bnot b37)then
    some (.inr (.val [(.bool false),(.int .i64 n28),(.int .i64 n29),(.str s30),(.int .i64 n31),(.sl 1 l32),(.sl 6 l33),(.sl 4 l38),(.int .i64 n39)]))
   else
    (E.call 1000204 (kP 159 l38 n39)).bind fun p40=>
    (opB (A.cell p40.leaves 0)).bind fun b42=>
    bif b42 then
     (opI (A.cell p40.leaves 1) .i64).bind fun n43=>
     oP A p40.leaves 2 fun l44 n45=>
     some (.inr (.val [(.bool true),(.int .i64 n43),(.sl 4 l44),(.int .i64 n45)]))
    else
     oE A p40.leaves 1 fun n46 n47 s48 n49 l50 l51=>
     oP A p40.leaves 7 fun l52 n53=>
     (E.call 214 [(.d (.int .i64 n36)),(kE n28 n29 s30 n31 l32 l33),(kE n46 n47 s48 n49 l50 l51)]).bind fun p54=>
     oE A p54.leaves 0 fun n56 n57 s58 n59 l60 l61=>
     some (.inl [(.int .i64 n16),(.int .i64 n17),(.sl 4 l52),(.int .i64 n53),(.int .i64 n20),(.int .i64 n21),(.str s22),(.int .i64 n23),(.int .i64 n24),(.int .i64 n25),(.str s26),(.int .i64 n27),(.int .i64 n56),(.int .i64 n57),(.str s58),(.int .i64 n59),(.sl 1 l60),(.sl 6 l61)])
  ) [(.int .i64 9),(.int .i64 10),(.sl 4 l13),(.int .i64 n14),(.int .i64 0),(.int .i64 0),(.str (bs [])),(.int .i64 0),(.int .i64 0),(.int .i64 0),(.str (bs [])),(.int .i64 0),(.int .i64 n7),(.int .i64 n8),(.str s9),(.int .i64 n10),(.sl 1 l11),(.sl 6 l12)]
theorem b187_eq (A:Sy)(E:Env)(toks:List (List D))(at_:Int):(funB A Tryz.prog cs 187 159 [.ptr 0 0] [.cells (.ty 135) [.d (.sl 4 toks), .d (.int .i64 at_)]]).run E=b187 A E toks at_:=by kernel_rfl
def b204 (A:Sy)(E:Env)(toks:List (List D))(at_:Int):Option PRes:=
 (E.call 1000215 (kP 159 toks at_)).bind fun p1=>
 (opB (A.cell p1.leaves 0)).bind fun b3=>
 bif b3 then
  (opI (A.cell p1.leaves 1) .i64).bind fun n4=>
  oP A p1.leaves 2 fun l5 n6=>
  some (.val [(.bool true),(.int .i64 n4),(.sl 4 l5),(.int .i64 n6)])
 else
  oE A p1.leaves 1 fun n7 n8 s9 n10 l11 l12=>
  oP A p1.leaves 7 fun l13 n14=>
  E.lp (fun ds15=>
   (opI (A.cell ds15 0) .i64).bind fun n16=>
   (opI (A.cell ds15 1) .i64).bind fun n17=>
   oP A ds15 2 fun l18 n19=>
   (opI (A.cell ds15 4) .i64).bind fun n20=>
   oT A ds15 5 fun n21 s22 n23 n24=>
   oT A ds15 9 fun n25 s26 n27 n28=>
   (opI (A.cell ds15 13) .i64).bind fun n29=>
   (opS (A.cell ds15 14)).bind fun s30=>
   (opI (A.cell ds15 15) .i64).bind fun n31=>
   (opL (A.cell ds15 16) 1).bind fun l32=>
   (opL (A.cell ds15 17) 6).bind fun l33=>
   (E.call 1000213 (kO n16 n17 l18 n19)).bind fun p34=>
   (opI (A.cell p34.leaves 0) .i64).bind fun n36=>
   (opB (A.cell p34.leaves 1)).bind fun b37=>
   oP A p34.leaves 2 fun l38 n39=>
   bif (A.bnot b37)then
    some (.inr (.val [(.bool false),(.int .i64 n28),(.int .i64 n29),(.str s30),(.int .i64 n31),(.sl 1 l32),(.sl 6 l33),(.sl 4 l38),(.int .i64 n39)]))
   else
    (E.call 1000215 (kP 159 l38 n39)).bind fun p40=>
    (opB (A.cell p40.leaves 0)).bind fun b42=>
    bif b42 then
     (opI (A.cell p40.leaves 1) .i64).bind fun n43=>
     oP A p40.leaves 2 fun l44 n45=>
     some (.inr (.val [(.bool true),(.int .i64 n43),(.sl 4 l44),(.int .i64 n45)]))
    else
     oE A p40.leaves 1 fun n46 n47 s48 n49 l50 l51=>
     oP A p40.leaves 7 fun l52 n53=>
     (E.call 214 [(.d (.int .i64 n36)),(kE n28 n29 s30 n31 l32 l33),(kE n46 n47 s48 n49 l50 l51)]).bind fun p54=>
     oE A p54.leaves 0 fun n56 n57 s58 n59 l60 l61=>
     some (.inl [(.int .i64 n16),(.int .i64 n17),(.sl 4 l52),(.int .i64 n53),(.int .i64 n20),(.int .i64 n21),(.str s22),(.int .i64 n23),(.int .i64 n24),(.int .i64 n25),(.str s26),(.int .i64 n27),(.int .i64 n56),(.int .i64 n57),(.str s58),(.int .i64 n59),(.sl 1 l60),(.sl 6 l61)])
  ) [(.int .i64 8),(.int .i64 8),(.sl 4 l13),(.int .i64 n14),(.int .i64 0),(.int .i64 0),(.str (bs [])),(.int .i64 0),(.int .i64 0),(.int .i64 0),(.str (bs [])),(.int .i64 0),(.int .i64 n7),(.int .i64 n8),(.str s9),(.int .i64 n10),(.sl 1 l11),(.sl 6 l12)]
theorem b204_eq (A:Sy)(E:Env)(toks:List (List D))(at_:Int):(funB A Tryz.prog cs 204 159 [.ptr 0 0] [.cells (.ty 135) [.d (.sl 4 toks), .d (.int .i64 at_)]]).run E=b204 A E toks at_:=by kernel_rfl
def b215 (A:Sy)(E:Env)(toks:List (List D))(at_:Int):Option PRes:=
 (E.call 1000219 (kP 159 toks at_)).bind fun p1=>
 (opB (A.cell p1.leaves 0)).bind fun b3=>
 bif b3 then
  (opI (A.cell p1.leaves 1) .i64).bind fun n4=>
  oP A p1.leaves 2 fun l5 n6=>
  some (.val [(.bool true),(.int .i64 n4),(.sl 4 l5),(.int .i64 n6)])
 else
  oE A p1.leaves 1 fun n7 n8 s9 n10 l11 l12=>
  oP A p1.leaves 7 fun l13 n14=>
  (E.call 1000213 (kO 11 16 l13 n14)).bind fun p15=>
  (opI (A.cell p15.leaves 0) .i64).bind fun n17=>
  (opB (A.cell p15.leaves 1)).bind fun b18=>
  oP A p15.leaves 2 fun l19 n20=>
  bif b18 then
   (E.call 1000219 (kP 159 l19 n20)).bind fun p21=>
   (opB (A.cell p21.leaves 0)).bind fun b23=>
   bif b23 then
    (opI (A.cell p21.leaves 1) .i64).bind fun n24=>
    oP A p21.leaves 2 fun l25 n26=>
    some (.val [(.bool true),(.int .i64 n24),(.sl 4 l25),(.int .i64 n26)])
   else
    oE A p21.leaves 1 fun n27 n28 s29 n30 l31 l32=>
    oP A p21.leaves 7 fun l33 n34=>
    (E.call 214 [(.d (.int .i64 n17)),(kE n7 n8 s9 n10 l11 l12),(kE n27 n28 s29 n30 l31 l32)]).bind fun p35=>
    oE A p35.leaves 0 fun n37 n38 s39 n40 l41 l42=>
    some (.val [(.bool false),(.int .i64 n37),(.int .i64 n38),(.str s39),(.int .i64 n40),(.sl 1 l41),(.sl 6 l42),(.sl 4 l33),(.int .i64 n34)])
  else
   some (.val [(.bool false),(.int .i64 n7),(.int .i64 n8),(.str s9),(.int .i64 n10),(.sl 1 l11),(.sl 6 l12),(.sl 4 l19),(.int .i64 n20)])
theorem b215_eq (A:Sy)(E:Env)(toks:List (List D))(at_:Int):(funB A Tryz.prog cs 215 159 [.ptr 0 0] [.cells (.ty 135) [.d (.sl 4 toks), .d (.int .i64 at_)]]).run E=b215 A E toks at_:=by kernel_rfl
def b219 (A:Sy)(E:Env)(toks:List (List D))(at_:Int):Option PRes:=
 (E.call 1000221 (kP 159 toks at_)).bind fun p1=>
 (opB (A.cell p1.leaves 0)).bind fun b3=>
 bif b3 then
  (opI (A.cell p1.leaves 1) .i64).bind fun n4=>
  oP A p1.leaves 2 fun l5 n6=>
  some (.val [(.bool true),(.int .i64 n4),(.sl 4 l5),(.int .i64 n6)])
 else
  oE A p1.leaves 1 fun n7 n8 s9 n10 l11 l12=>
  oP A p1.leaves 7 fun l13 n14=>
  E.lp (fun ds15=>
   (opI (A.cell ds15 0) .i64).bind fun n16=>
   (opI (A.cell ds15 1) .i64).bind fun n17=>
   oP A ds15 2 fun l18 n19=>
   (opI (A.cell ds15 4) .i64).bind fun n20=>
   oT A ds15 5 fun n21 s22 n23 n24=>
   oT A ds15 9 fun n25 s26 n27 n28=>
   (opI (A.cell ds15 13) .i64).bind fun n29=>
   (opS (A.cell ds15 14)).bind fun s30=>
   (opI (A.cell ds15 15) .i64).bind fun n31=>
   (opL (A.cell ds15 16) 1).bind fun l32=>
   (opL (A.cell ds15 17) 6).bind fun l33=>
   (E.call 1000213 (kO n16 n17 l18 n19)).bind fun p34=>
   (opI (A.cell p34.leaves 0) .i64).bind fun n36=>
   (opB (A.cell p34.leaves 1)).bind fun b37=>
   oP A p34.leaves 2 fun l38 n39=>
   bif (A.bnot b37)then
    some (.inr (.val [(.bool false),(.int .i64 n28),(.int .i64 n29),(.str s30),(.int .i64 n31),(.sl 1 l32),(.sl 6 l33),(.sl 4 l38),(.int .i64 n39)]))
   else
    (E.call 1000221 (kP 159 l38 n39)).bind fun p40=>
    (opB (A.cell p40.leaves 0)).bind fun b42=>
    bif b42 then
     (opI (A.cell p40.leaves 1) .i64).bind fun n43=>
     oP A p40.leaves 2 fun l44 n45=>
     some (.inr (.val [(.bool true),(.int .i64 n43),(.sl 4 l44),(.int .i64 n45)]))
    else
     oE A p40.leaves 1 fun n46 n47 s48 n49 l50 l51=>
     oP A p40.leaves 7 fun l52 n53=>
     (E.call 214 [(.d (.int .i64 n36)),(kE n28 n29 s30 n31 l32 l33),(kE n46 n47 s48 n49 l50 l51)]).bind fun p54=>
     oE A p54.leaves 0 fun n56 n57 s58 n59 l60 l61=>
     some (.inl [(.int .i64 n16),(.int .i64 n17),(.sl 4 l52),(.int .i64 n53),(.int .i64 n20),(.int .i64 n21),(.str s22),(.int .i64 n23),(.int .i64 n24),(.int .i64 n25),(.str s26),(.int .i64 n27),(.int .i64 n56),(.int .i64 n57),(.str s58),(.int .i64 n59),(.sl 1 l60),(.sl 6 l61)])
  ) [(.int .i64 3),(.int .i64 4),(.sl 4 l13),(.int .i64 n14),(.int .i64 0),(.int .i64 0),(.str (bs [])),(.int .i64 0),(.int .i64 0),(.int .i64 0),(.str (bs [])),(.int .i64 0),(.int .i64 n7),(.int .i64 n8),(.str s9),(.int .i64 n10),(.sl 1 l11),(.sl 6 l12)]
theorem b219_eq (A:Sy)(E:Env)(toks:List (List D))(at_:Int):(funB A Tryz.prog cs 219 159 [.ptr 0 0] [.cells (.ty 135) [.d (.sl 4 toks), .d (.int .i64 at_)]]).run E=b219 A E toks at_:=by kernel_rfl
def b221 (A:Sy)(E:Env)(toks:List (List D))(at_:Int):Option PRes:=
 (E.call 1000223 (kP 159 toks at_)).bind fun p1=>
 (opB (A.cell p1.leaves 0)).bind fun b3=>
 bif b3 then
  (opI (A.cell p1.leaves 1) .i64).bind fun n4=>
  oP A p1.leaves 2 fun l5 n6=>
  some (.val [(.bool true),(.int .i64 n4),(.sl 4 l5),(.int .i64 n6)])
 else
  oE A p1.leaves 1 fun n7 n8 s9 n10 l11 l12=>
  oP A p1.leaves 7 fun l13 n14=>
  E.lp (fun ds15=>
   (opI (A.cell ds15 0) .i64).bind fun n16=>
   (opI (A.cell ds15 1) .i64).bind fun n17=>
   oP A ds15 2 fun l18 n19=>
   (opI (A.cell ds15 4) .i64).bind fun n20=>
   oT A ds15 5 fun n21 s22 n23 n24=>
   oT A ds15 9 fun n25 s26 n27 n28=>
   (opI (A.cell ds15 13) .i64).bind fun n29=>
   (opS (A.cell ds15 14)).bind fun s30=>
   (opI (A.cell ds15 15) .i64).bind fun n31=>
   (opL (A.cell ds15 16) 1).bind fun l32=>
   (opL (A.cell ds15 17) 6).bind fun l33=>
   (E.call 1000213 (kO n16 n17 l18 n19)).bind fun p34=>
   (opI (A.cell p34.leaves 0) .i64).bind fun n36=>
   (opB (A.cell p34.leaves 1)).bind fun b37=>
   oP A p34.leaves 2 fun l38 n39=>
   bif (A.bnot b37)then
    some (.inr (.val [(.bool false),(.int .i64 n28),(.int .i64 n29),(.str s30),(.int .i64 n31),(.sl 1 l32),(.sl 6 l33),(.sl 4 l38),(.int .i64 n39)]))
   else
    (E.call 1000223 (kP 159 l38 n39)).bind fun p40=>
    (opB (A.cell p40.leaves 0)).bind fun b42=>
    bif b42 then
     (opI (A.cell p40.leaves 1) .i64).bind fun n43=>
     oP A p40.leaves 2 fun l44 n45=>
     some (.inr (.val [(.bool true),(.int .i64 n43),(.sl 4 l44),(.int .i64 n45)]))
    else
     oE A p40.leaves 1 fun n46 n47 s48 n49 l50 l51=>
     oP A p40.leaves 7 fun l52 n53=>
     (E.call 214 [(.d (.int .i64 n36)),(kE n28 n29 s30 n31 l32 l33),(kE n46 n47 s48 n49 l50 l51)]).bind fun p54=>
     oE A p54.leaves 0 fun n56 n57 s58 n59 l60 l61=>
     some (.inl [(.int .i64 n16),(.int .i64 n17),(.sl 4 l52),(.int .i64 n53),(.int .i64 n20),(.int .i64 n21),(.str s22),(.int .i64 n23),(.int .i64 n24),(.int .i64 n25),(.str s26),(.int .i64 n27),(.int .i64 n56),(.int .i64 n57),(.str s58),(.int .i64 n59),(.sl 1 l60),(.sl 6 l61)])
  ) [(.int .i64 5),(.int .i64 7),(.sl 4 l13),(.int .i64 n14),(.int .i64 0),(.int .i64 0),(.str (bs [])),(.int .i64 0),(.int .i64 0),(.int .i64 0),(.str (bs [])),(.int .i64 0),(.int .i64 n7),(.int .i64 n8),(.str s9),(.int .i64 n10),(.sl 1 l11),(.sl 6 l12)]
theorem b221_eq (A:Sy)(E:Env)(toks:List (List D))(at_:Int):(funB A Tryz.prog cs 221 159 [.ptr 0 0] [.cells (.ty 135) [.d (.sl 4 toks), .d (.int .i64 at_)]]).run E=b221 A E toks at_:=by kernel_rfl
def b223 (A:Sy)(E:Env)(toks:List (List D))(at_:Int):Option PRes:=
 (E.call 1000167 (kS 0 (bs [45]) toks at_)).bind fun p1=>
 (opB (A.cell p1.leaves 0)).bind fun b3=>
 oP A p1.leaves 1 fun l4 n5=>
 bif b3 then
  (E.call 1000223 (kP 159 l4 n5)).bind fun p6=>
  (opB (A.cell p6.leaves 0)).bind fun b8=>
  bif b8 then
   (opI (A.cell p6.leaves 1) .i64).bind fun n9=>
   oP A p6.leaves 2 fun l10 n11=>
   some (.val [(.bool true),(.int .i64 n9),(.sl 4 l10),(.int .i64 n11)])
  else
   oE A p6.leaves 1 fun n12 n13 s14 n15 l16 l17=>
   oP A p6.leaves 7 fun l18 n19=>
   some (.val [(.bool false),(.int .i64 5),(.int .i64 0),(.str (bs [])),(.int .i64 1),(.sl 1 []),(.sl 6 [[(.int .i64 n12),(.int .i64 n13),(.str s14),(.int .i64 n15),(.sl 1 l16),(.sl 6 l17)]]),(.sl 4 l18),(.int .i64 n19)])
 else
  (E.call 1000167 (kS 0 (bs [110,111,116]) l4 n5)).bind fun p20=>
  (opB (A.cell p20.leaves 0)).bind fun b22=>
  oP A p20.leaves 1 fun l23 n24=>
  bif b22 then
   (E.call 1000223 (kP 159 l23 n24)).bind fun p25=>
   (opB (A.cell p25.leaves 0)).bind fun b27=>
   bif b27 then
    (opI (A.cell p25.leaves 1) .i64).bind fun n28=>
    oP A p25.leaves 2 fun l29 n30=>
    some (.val [(.bool true),(.int .i64 n28),(.sl 4 l29),(.int .i64 n30)])
   else
    oE A p25.leaves 1 fun n31 n32 s33 n34 l35 l36=>
    oP A p25.leaves 7 fun l37 n38=>
    some (.val [(.bool false),(.int .i64 5),(.int .i64 0),(.str (bs [])),(.int .i64 2),(.sl 1 []),(.sl 6 [[(.int .i64 n31),(.int .i64 n32),(.str s33),(.int .i64 n34),(.sl 1 l35),(.sl 6 l36)]]),(.sl 4 l37),(.int .i64 n38)])
  else
   (E.call 1000167 (kS 0 (bs [112,114,101]) l23 n24)).bind fun p39=>
   (opB (A.cell p39.leaves 0)).bind fun b41=>
   oP A p39.leaves 1 fun l42 n43=>
   bif b41 then
    (E.call 1000223 (kP 159 l42 n43)).bind fun p44=>
    (opB (A.cell p44.leaves 0)).bind fun b46=>
    bif b46 then
     (opI (A.cell p44.leaves 1) .i64).bind fun n47=>
     oP A p44.leaves 2 fun l48 n49=>
     some (.val [(.bool true),(.int .i64 n47),(.sl 4 l48),(.int .i64 n49)])
    else
     oE A p44.leaves 1 fun n50 n51 s52 n53 l54 l55=>
     oP A p44.leaves 7 fun l56 n57=>
     some (.val [(.bool false),(.int .i64 10),(.int .i64 0),(.str (bs [])),(.int .i64 0),(.sl 1 []),(.sl 6 [[(.int .i64 n50),(.int .i64 n51),(.str s52),(.int .i64 n53),(.sl 1 l54),(.sl 6 l55)]]),(.sl 4 l56),(.int .i64 n57)])
   else
    (E.call 1000227 (kP 159 l42 n43)).bind fun p58=>
    (opB (A.cell p58.leaves 0)).bind fun b60=>
    bif b60 then
     (opI (A.cell p58.leaves 1) .i64).bind fun n61=>
     oP A p58.leaves 2 fun l62 n63=>
     some (.val [(.bool true),(.int .i64 n61),(.sl 4 l62),(.int .i64 n63)])
    else
     oE A p58.leaves 1 fun n64 n65 s66 n67 l68 l69=>
     oP A p58.leaves 7 fun l70 n71=>
     some (.val [(.bool false),(.int .i64 n64),(.int .i64 n65),(.str s66),(.int .i64 n67),(.sl 1 l68),(.sl 6 l69),(.sl 4 l70),(.int .i64 n71)])
theorem b223_eq (A:Sy)(E:Env)(toks:List (List D))(at_:Int):(funB A Tryz.prog cs 223 159 [.ptr 0 0] [.cells (.ty 135) [.d (.sl 4 toks), .d (.int .i64 at_)]]).run E=b223 A E toks at_:=by kernel_rfl
def b227 (A:Sy)(E:Env)(toks:List (List D))(at_:Int):Option PRes:=
 (E.call 1000235 (kP 159 toks at_)).bind fun p1=>
 (opB (A.cell p1.leaves 0)).bind fun b3=>
 bif b3 then
  (opI (A.cell p1.leaves 1) .i64).bind fun n4=>
  oP A p1.leaves 2 fun l5 n6=>
  some (.val [(.bool true),(.int .i64 n4),(.sl 4 l5),(.int .i64 n6)])
 else
  oE A p1.leaves 1 fun n7 n8 s9 n10 l11 l12=>
  oP A p1.leaves 7 fun l13 n14=>
  E.lp (fun ds15=>
   oP A ds15 0 fun l16 n17=>
   (opI (A.cell ds15 2) .i64).bind fun n18=>
   oT A ds15 3 fun n19 s20 n21 n22=>
   (opI (A.cell ds15 7) .i64).bind fun n23=>
   (opS (A.cell ds15 8)).bind fun s24=>
   (opI (A.cell ds15 9) .i64).bind fun n25=>
   (opL (A.cell ds15 10) 1).bind fun l26=>
   (opL (A.cell ds15 11) 6).bind fun l27=>
   (E.call 1000167 (kS 0 (bs [91]) l16 n17)).bind fun p28=>
   (opB (A.cell p28.leaves 0)).bind fun b30=>
   oP A p28.leaves 1 fun l31 n32=>
   bif b30 then
    (E.call 1000131 (kP 159 l31 n32)).bind fun p33=>
    (opB (A.cell p33.leaves 0)).bind fun b35=>
    bif b35 then
     (opI (A.cell p33.leaves 1) .i64).bind fun n36=>
     oP A p33.leaves 2 fun l37 n38=>
     some (.inr (.val [(.bool true),(.int .i64 n36),(.sl 4 l37),(.int .i64 n38)]))
    else
     oE A p33.leaves 1 fun n39 n40 s41 n42 l43 l44=>
     oP A p33.leaves 7 fun l45 n46=>
     (E.call 1000236 (kN [[(.str (bs [93]))]] l45 n46)).bind fun p47=>
     (opB (A.cell p47.leaves 0)).bind fun b49=>
     bif b49 then
      (opI (A.cell p47.leaves 1) .i64).bind fun n50=>
      oP A p47.leaves 2 fun l51 n52=>
      (opL (A.cell p47.leaves 4) 1).bind fun l53=>
      some (.inr (.val [(.bool true),(.int .i64 n50),(.sl 4 l51),(.int .i64 n52)]))
     else
      oP A p47.leaves 1 fun l54 n55=>
      (opL (A.cell p47.leaves 3) 1).bind fun l56=>
      some (.inl [(.sl 4 l54),(.int .i64 n55),(.int .i64 n18),(.int .i64 n19),(.str s20),(.int .i64 n21),(.int .i64 15),(.int .i64 0),(.str (bs [])),(.int .i64 0),(.sl 1 []),(.sl 6 [[(.int .i64 n22),(.int .i64 n23),(.str s24),(.int .i64 n25),(.sl 1 l26),(.sl 6 l27)],[(.int .i64 n39),(.int .i64 n40),(.str s41),(.int .i64 n42),(.sl 1 l43),(.sl 6 l44)]])])
   else
    (E.call 1000167 (kS 0 (bs [119,104,101,110]) l31 n32)).bind fun p57=>
    (opB (A.cell p57.leaves 0)).bind fun b59=>
    oP A p57.leaves 1 fun l60 n61=>
    bif b59 then
     (E.call 1000237 (kP 159 l60 n61)).bind fun p62=>
     (opB (A.cell p62.leaves 0)).bind fun b64=>
     bif b64 then
      (opI (A.cell p62.leaves 1) .i64).bind fun n65=>
      oP A p62.leaves 2 fun l66 n67=>
      some (.inr (.val [(.bool true),(.int .i64 n65),(.sl 4 l66),(.int .i64 n67)]))
     else
      (opS (A.cell p62.leaves 1)).bind fun s68=>
      (opS (A.cell p62.leaves 2)).bind fun s69=>
      oP A p62.leaves 3 fun l70 n71=>
      some (.inl [(.sl 4 l70),(.int .i64 n71),(.int .i64 n18),(.int .i64 n19),(.str s20),(.int .i64 n21),(.int .i64 11),(.int .i64 0),(.str s68),(.int .i64 0),(.sl 1 [[(.str s69)]]),(.sl 6 [[(.int .i64 n22),(.int .i64 n23),(.str s24),(.int .i64 n25),(.sl 1 l26),(.sl 6 l27)]])])
    else
     some (.inr (.val [(.bool false),(.int .i64 n22),(.int .i64 n23),(.str s24),(.int .i64 n25),(.sl 1 l26),(.sl 6 l27),(.sl 4 l60),(.int .i64 n61)]))
  ) [(.sl 4 l13),(.int .i64 n14),(.int .i64 0),(.int .i64 0),(.str (bs [])),(.int .i64 0),(.int .i64 n7),(.int .i64 n8),(.str s9),(.int .i64 n10),(.sl 1 l11),(.sl 6 l12)]
theorem b227_eq (A:Sy)(E:Env)(toks:List (List D))(at_:Int):(funB A Tryz.prog cs 227 159 [.ptr 0 0] [.cells (.ty 135) [.d (.sl 4 toks), .d (.int .i64 at_)]]).run E=b227 A E toks at_:=by kernel_rfl
def b235 (A:Sy)(E:Env)(toks:List (List D))(at_:Int):Option PRes:=
 bif (A.inr at_ (A.rlen toks))then
  oT A (A.row toks at_) 0 fun n1 s2 n3 n4=>
  bif (A.ieq n1 3)then
   some (.val [(.bool false),(.int .i64 1),(.int .i64 n3),(.str (bs [])),(.int .i64 0),(.sl 1 []),(.sl 6 []),(.sl 4 toks),(.int .i64 (A.wrap .i64 (A.add at_ 1)))])
  else
   bif (A.ieq n1 2)then
    some (.val [(.bool false),(.int .i64 4),(.int .i64 0),(.str s2),(.int .i64 0),(.sl 1 []),(.sl 6 []),(.sl 4 toks),(.int .i64 (A.wrap .i64 (A.add at_ 1)))])
   else
    bif (A.ieq n1 4)then
     some (.val [(.bool false),(.int .i64 17),(.int .i64 0),(.str s2),(.int .i64 0),(.sl 1 []),(.sl 6 []),(.sl 4 toks),(.int .i64 (A.wrap .i64 (A.add at_ 1)))])
    else
     (E.call 1000238 (kP 159 toks at_)).bind fun p5=>
     (opB (A.cell p5.leaves 0)).bind fun b7=>
     bif b7 then
      (opI (A.cell p5.leaves 1) .i64).bind fun n8=>
      oP A p5.leaves 2 fun l9 n10=>
      some (.val [(.bool true),(.int .i64 n8),(.sl 4 l9),(.int .i64 n10)])
     else
      oE A p5.leaves 1 fun n11 n12 s13 n14 l15 l16=>
      oP A p5.leaves 7 fun l17 n18=>
      some (.val [(.bool false),(.int .i64 n11),(.int .i64 n12),(.str s13),(.int .i64 n14),(.sl 1 l15),(.sl 6 l16),(.sl 4 l17),(.int .i64 n18)])
 else
  none
theorem b235_eq (A:Sy)(E:Env)(toks:List (List D))(at_:Int):(funB A Tryz.prog cs 235 159 [.ptr 0 0] [.cells (.ty 135) [.d (.sl 4 toks), .d (.int .i64 at_)]]).run E=b235 A E toks at_:=by kernel_rfl
def b238 (A:Sy)(E:Env)(toks:List (List D))(at_:Int):Option PRes:=
 (E.call 1000167 (kS 0 (bs [116,114,117,101]) toks at_)).bind fun p1=>
 (opB (A.cell p1.leaves 0)).bind fun b3=>
 oP A p1.leaves 1 fun l4 n5=>
 bif b3 then
  some (.val [(.bool false),(.int .i64 2),(.int .i64 1),(.str (bs [])),(.int .i64 0),(.sl 1 []),(.sl 6 []),(.sl 4 l4),(.int .i64 n5)])
 else
  (E.call 1000167 (kS 0 (bs [102,97,108,115,101]) l4 n5)).bind fun p6=>
  (opB (A.cell p6.leaves 0)).bind fun b8=>
  oP A p6.leaves 1 fun l9 n10=>
  bif b8 then
   some (.val [(.bool false),(.int .i64 2),(.int .i64 0),(.str (bs [])),(.int .i64 0),(.sl 1 []),(.sl 6 []),(.sl 4 l9),(.int .i64 n10)])
  else
   (E.call 1000167 (kS 0 (bs [91]) l9 n10)).bind fun p11=>
   (opB (A.cell p11.leaves 0)).bind fun b13=>
   oP A p11.leaves 1 fun l14 n15=>
   bif b13 then
    (E.call 1000131 (kP 159 l14 n15)).bind fun p16=>
    (opB (A.cell p16.leaves 0)).bind fun b18=>
    bif b18 then
     (opI (A.cell p16.leaves 1) .i64).bind fun n19=>
     oP A p16.leaves 2 fun l20 n21=>
     some (.val [(.bool true),(.int .i64 n19),(.sl 4 l20),(.int .i64 n21)])
    else
     oE A p16.leaves 1 fun n22 n23 s24 n25 l26 l27=>
     oP A p16.leaves 7 fun l28 n29=>
     E.lp (fun ds30=>
      (opS (A.cell ds30 0)).bind fun s31=>
      oP A ds30 1 fun l32 n33=>
      (opI (A.cell ds30 3) .i64).bind fun n34=>
      (opI (A.cell ds30 4) .i64).bind fun n35=>
      (opS (A.cell ds30 5)).bind fun s36=>
      (opI (A.cell ds30 6) .i64).bind fun n37=>
      (opL (A.cell ds30 7) 6).bind fun l38=>
      (E.call 1000167 (kS 0 (bs [44]) l32 n33)).bind fun p39=>
      (opB (A.cell p39.leaves 0)).bind fun b41=>
      oP A p39.leaves 1 fun l42 n43=>
      bif b41 then
       (E.call 1000131 (kP 159 l42 n43)).bind fun p44=>
       (opB (A.cell p44.leaves 0)).bind fun b46=>
       bif b46 then
        (opI (A.cell p44.leaves 1) .i64).bind fun n47=>
        oP A p44.leaves 2 fun l48 n49=>
        some (.inr (.val [(.bool true),(.int .i64 n47),(.sl 4 l48),(.int .i64 n49)]))
       else
        oE A p44.leaves 1 fun n50 n51 s52 n53 l54 l55=>
        oP A p44.leaves 7 fun l56 n57=>
        bif (A.fits l38 [[(.int .i64 n50),(.int .i64 n51),(.str s52),(.int .i64 n53),(.sl 1 l54),(.sl 6 l55)]] 88)then
         some (.inl [(.str s31),(.sl 4 l56),(.int .i64 n57),(.int .i64 n34),(.int .i64 n35),(.str s36),(.int .i64 n37),(.sl 6 (A.rapp l38 [[(.int .i64 n50),(.int .i64 n51),(.str s52),(.int .i64 n53),(.sl 1 l54),(.sl 6 l55)]]))])
        else
         none
      else
       (E.call 1000236 (kN [[(.str s31)]] l42 n43)).bind fun p58=>
       (opB (A.cell p58.leaves 0)).bind fun b60=>
       bif b60 then
        (opI (A.cell p58.leaves 1) .i64).bind fun n61=>
        oP A p58.leaves 2 fun l62 n63=>
        (opL (A.cell p58.leaves 4) 1).bind fun l64=>
        some (.inr (.val [(.bool true),(.int .i64 n61),(.sl 4 l62),(.int .i64 n63)]))
       else
        oP A p58.leaves 1 fun l65 n66=>
        (opL (A.cell p58.leaves 3) 1).bind fun l67=>
        some (.inr (.val [(.bool false),(.int .i64 14),(.int .i64 0),(.str (bs [])),(.int .i64 0),(.sl 1 []),(.sl 6 l38),(.sl 4 l65),(.int .i64 n66)]))
     ) [(.str (bs [93])),(.sl 4 l28),(.int .i64 n29),(.int .i64 0),(.int .i64 0),(.str (bs [])),(.int .i64 0),(.sl 6 [[(.int .i64 n22),(.int .i64 n23),(.str s24),(.int .i64 n25),(.sl 1 l26),(.sl 6 l27)]])]
   else
    (E.call 1000167 (kS 0 (bs [40]) l14 n15)).bind fun p68=>
    (opB (A.cell p68.leaves 0)).bind fun b70=>
    oP A p68.leaves 1 fun l71 n72=>
    bif b70 then
     (E.call 1000244 (kP 159 l71 n72)).bind fun p73=>
     (opB (A.cell p73.leaves 0)).bind fun b75=>
     bif b75 then
      (opI (A.cell p73.leaves 1) .i64).bind fun n76=>
      oP A p73.leaves 2 fun l77 n78=>
      some (.val [(.bool true),(.int .i64 n76),(.sl 4 l77),(.int .i64 n78)])
     else
      oE A p73.leaves 1 fun n79 n80 s81 n82 l83 l84=>
      oP A p73.leaves 7 fun l85 n86=>
      some (.val [(.bool false),(.int .i64 n79),(.int .i64 n80),(.str s81),(.int .i64 n82),(.sl 1 l83),(.sl 6 l84),(.sl 4 l85),(.int .i64 n86)])
    else
     (E.call 1000167 (kS 0 (bs [109,101,114,103,101]) l71 n72)).bind fun p87=>
     (opB (A.cell p87.leaves 0)).bind fun b89=>
     oP A p87.leaves 1 fun l90 n91=>
     bif b89 then
      (E.call 1000245 (kP 159 l90 n91)).bind fun p92=>
      (opB (A.cell p92.leaves 0)).bind fun b94=>
      bif b94 then
       (opI (A.cell p92.leaves 1) .i64).bind fun n95=>
       oP A p92.leaves 2 fun l96 n97=>
       some (.val [(.bool true),(.int .i64 n95),(.sl 4 l96),(.int .i64 n97)])
      else
       oE A p92.leaves 1 fun n98 n99 s100 n101 l102 l103=>
       oP A p92.leaves 7 fun l104 n105=>
       some (.val [(.bool false),(.int .i64 n98),(.int .i64 n99),(.str s100),(.int .i64 n101),(.sl 1 l102),(.sl 6 l103),(.sl 4 l104),(.int .i64 n105)])
     else
      (E.call 1000167 (kS 0 (bs [105,102]) l90 n91)).bind fun p106=>
      (opB (A.cell p106.leaves 0)).bind fun b108=>
      oP A p106.leaves 1 fun l109 n110=>
      bif b108 then
       (E.call 1000246 (kP 159 l109 n110)).bind fun p111=>
       (opB (A.cell p111.leaves 0)).bind fun b113=>
       bif b113 then
        (opI (A.cell p111.leaves 1) .i64).bind fun n114=>
        oP A p111.leaves 2 fun l115 n116=>
        some (.val [(.bool true),(.int .i64 n114),(.sl 4 l115),(.int .i64 n116)])
       else
        oE A p111.leaves 1 fun n117 n118 s119 n120 l121 l122=>
        oP A p111.leaves 7 fun l123 n124=>
        some (.val [(.bool false),(.int .i64 n117),(.int .i64 n118),(.str s119),(.int .i64 n120),(.sl 1 l121),(.sl 6 l122),(.sl 4 l123),(.int .i64 n124)])
      else
       (E.call 1000240 (kP 159 l109 n110)).bind fun p125=>
       (opB (A.cell p125.leaves 0)).bind fun b127=>
       bif b127 then
        (opI (A.cell p125.leaves 1) .i64).bind fun n128=>
        oP A p125.leaves 2 fun l129 n130=>
        some (.val [(.bool true),(.int .i64 n128),(.sl 4 l129),(.int .i64 n130)])
       else
        (opS (A.cell p125.leaves 1)).bind fun s131=>
        oP A p125.leaves 2 fun l132 n133=>
        (E.call 1000167 (kS 0 (bs [40]) l132 n133)).bind fun p134=>
        (opB (A.cell p134.leaves 0)).bind fun b136=>
        oP A p134.leaves 1 fun l137 n138=>
        bif b136 then
         (E.call 1000247 (kS 159 s131 l137 n138)).bind fun p139=>
         (opB (A.cell p139.leaves 0)).bind fun b141=>
         bif b141 then
          (opI (A.cell p139.leaves 1) .i64).bind fun n142=>
          oP A p139.leaves 2 fun l143 n144=>
          some (.val [(.bool true),(.int .i64 n142),(.sl 4 l143),(.int .i64 n144)])
         else
          oE A p139.leaves 1 fun n145 n146 s147 n148 l149 l150=>
          oP A p139.leaves 7 fun l151 n152=>
          some (.val [(.bool false),(.int .i64 n145),(.int .i64 n146),(.str s147),(.int .i64 n148),(.sl 1 l149),(.sl 6 l150),(.sl 4 l151),(.int .i64 n152)])
        else
         some (.val [(.bool false),(.int .i64 3),(.int .i64 0),(.str s131),(.int .i64 0),(.sl 1 []),(.sl 6 []),(.sl 4 l137),(.int .i64 n138)])
theorem b238_eq (A:Sy)(E:Env)(toks:List (List D))(at_:Int):(funB A Tryz.prog cs 238 159 [.ptr 0 0] [.cells (.ty 135) [.d (.sl 4 toks), .d (.int .i64 at_)]]).run E=b238 A E toks at_:=by kernel_rfl
def b244 (A:Sy)(E:Env)(toks:List (List D))(at_:Int):Option PRes:=
 (E.call 1000131 (kP 159 toks at_)).bind fun p1=>
 (opB (A.cell p1.leaves 0)).bind fun b3=>
 bif b3 then
  (opI (A.cell p1.leaves 1) .i64).bind fun n4=>
  oP A p1.leaves 2 fun l5 n6=>
  some (.val [(.bool true),(.int .i64 n4),(.sl 4 l5),(.int .i64 n6)])
 else
  oE A p1.leaves 1 fun n7 n8 s9 n10 l11 l12=>
  oP A p1.leaves 7 fun l13 n14=>
  (E.call 1000167 (kS 0 (bs [119,105,116,104]) l13 n14)).bind fun p15=>
  (opB (A.cell p15.leaves 0)).bind fun b17=>
  oP A p15.leaves 1 fun l18 n19=>
  bif b17 then
   (E.call 1000236 (kN [[(.str (bs [91]))]] l18 n19)).bind fun p20=>
   (opB (A.cell p20.leaves 0)).bind fun b22=>
   bif b22 then
    (opI (A.cell p20.leaves 1) .i64).bind fun n23=>
    oP A p20.leaves 2 fun l24 n25=>
    (opL (A.cell p20.leaves 4) 1).bind fun l26=>
    some (.val [(.bool true),(.int .i64 n23),(.sl 4 l24),(.int .i64 n25)])
   else
    oP A p20.leaves 1 fun l27 n28=>
    (opL (A.cell p20.leaves 3) 1).bind fun l29=>
    (E.call 1000131 (kP 159 l27 n28)).bind fun p30=>
    (opB (A.cell p30.leaves 0)).bind fun b32=>
    bif b32 then
     (opI (A.cell p30.leaves 1) .i64).bind fun n33=>
     oP A p30.leaves 2 fun l34 n35=>
     some (.val [(.bool true),(.int .i64 n33),(.sl 4 l34),(.int .i64 n35)])
    else
     oE A p30.leaves 1 fun n36 n37 s38 n39 l40 l41=>
     oP A p30.leaves 7 fun l42 n43=>
     (E.call 1000236 (kN [[(.str (bs [93]))],[(.str (bs [61]))]] l42 n43)).bind fun p44=>
     (opB (A.cell p44.leaves 0)).bind fun b46=>
     bif b46 then
      (opI (A.cell p44.leaves 1) .i64).bind fun n47=>
      oP A p44.leaves 2 fun l48 n49=>
      (opL (A.cell p44.leaves 4) 1).bind fun l50=>
      some (.val [(.bool true),(.int .i64 n47),(.sl 4 l48),(.int .i64 n49)])
     else
      oP A p44.leaves 1 fun l51 n52=>
      (opL (A.cell p44.leaves 3) 1).bind fun l53=>
      (E.call 1000131 (kP 159 l51 n52)).bind fun p54=>
      (opB (A.cell p54.leaves 0)).bind fun b56=>
      bif b56 then
       (opI (A.cell p54.leaves 1) .i64).bind fun n57=>
       oP A p54.leaves 2 fun l58 n59=>
       some (.val [(.bool true),(.int .i64 n57),(.sl 4 l58),(.int .i64 n59)])
      else
       oE A p54.leaves 1 fun n60 n61 s62 n63 l64 l65=>
       oP A p54.leaves 7 fun l66 n67=>
       (E.call 1000236 (kN [[(.str (bs [41]))]] l66 n67)).bind fun p68=>
       (opB (A.cell p68.leaves 0)).bind fun b70=>
       bif b70 then
        (opI (A.cell p68.leaves 1) .i64).bind fun n71=>
        oP A p68.leaves 2 fun l72 n73=>
        (opL (A.cell p68.leaves 4) 1).bind fun l74=>
        some (.val [(.bool true),(.int .i64 n71),(.sl 4 l72),(.int .i64 n73)])
       else
        oP A p68.leaves 1 fun l75 n76=>
        (opL (A.cell p68.leaves 3) 1).bind fun l77=>
        some (.val [(.bool false),(.int .i64 16),(.int .i64 0),(.str (bs [])),(.int .i64 0),(.sl 1 []),(.sl 6 [[(.int .i64 n7),(.int .i64 n8),(.str s9),(.int .i64 n10),(.sl 1 l11),(.sl 6 l12)],[(.int .i64 n36),(.int .i64 n37),(.str s38),(.int .i64 n39),(.sl 1 l40),(.sl 6 l41)],[(.int .i64 n60),(.int .i64 n61),(.str s62),(.int .i64 n63),(.sl 1 l64),(.sl 6 l65)]]),(.sl 4 l75),(.int .i64 n76)])
  else
   (E.call 1000236 (kN [[(.str (bs [41]))]] l18 n19)).bind fun p78=>
   (opB (A.cell p78.leaves 0)).bind fun b80=>
   bif b80 then
    (opI (A.cell p78.leaves 1) .i64).bind fun n81=>
    oP A p78.leaves 2 fun l82 n83=>
    (opL (A.cell p78.leaves 4) 1).bind fun l84=>
    some (.val [(.bool true),(.int .i64 n81),(.sl 4 l82),(.int .i64 n83)])
   else
    oP A p78.leaves 1 fun l85 n86=>
    (opL (A.cell p78.leaves 3) 1).bind fun l87=>
    some (.val [(.bool false),(.int .i64 n7),(.int .i64 n8),(.str s9),(.int .i64 n10),(.sl 1 l11),(.sl 6 l12),(.sl 4 l85),(.int .i64 n86)])
theorem b244_eq (A:Sy)(E:Env)(toks:List (List D))(at_:Int):(funB A Tryz.prog cs 244 159 [.ptr 0 0] [.cells (.ty 135) [.d (.sl 4 toks), .d (.int .i64 at_)]]).run E=b244 A E toks at_:=by kernel_rfl
def b245 (A:Sy)(E:Env)(toks:List (List D))(at_:Int):Option PRes:=
 (E.call 1000240 (kP 159 toks at_)).bind fun p1=>
 (opB (A.cell p1.leaves 0)).bind fun b3=>
 bif b3 then
  (opI (A.cell p1.leaves 1) .i64).bind fun n4=>
  oP A p1.leaves 2 fun l5 n6=>
  some (.val [(.bool true),(.int .i64 n4),(.sl 4 l5),(.int .i64 n6)])
 else
  (opS (A.cell p1.leaves 1)).bind fun s7=>
  oP A p1.leaves 2 fun l8 n9=>
  (E.call 1000236 (kN [[(.str (bs [40]))]] l8 n9)).bind fun p10=>
  (opB (A.cell p10.leaves 0)).bind fun b12=>
  bif b12 then
   (opI (A.cell p10.leaves 1) .i64).bind fun n13=>
   oP A p10.leaves 2 fun l14 n15=>
   (opL (A.cell p10.leaves 4) 1).bind fun l16=>
   some (.val [(.bool true),(.int .i64 n13),(.sl 4 l14),(.int .i64 n15)])
  else
   oP A p10.leaves 1 fun l17 n18=>
   (opL (A.cell p10.leaves 3) 1).bind fun l19=>
   E.lp (fun ds20=>
    (opB (A.cell ds20 0)).bind fun b21=>
    oP A ds20 1 fun l22 n23=>
    (opI (A.cell ds20 3) .i64).bind fun n24=>
    oT A ds20 4 fun n25 s26 n27 n28=>
    (opI (A.cell ds20 8) .i64).bind fun n29=>
    (opS (A.cell ds20 9)).bind fun s30=>
    (opI (A.cell ds20 10) .i64).bind fun n31=>
    (opL (A.cell ds20 11) 1).bind fun l32=>
    (opL (A.cell ds20 12) 6).bind fun l33=>
    bif b21 then
     (E.call 1000242 (kP 159 l22 n23)).bind fun p34=>
     (opB (A.cell p34.leaves 0)).bind fun b36=>
     bif b36 then
      (opI (A.cell p34.leaves 1) .i64).bind fun n37=>
      oP A p34.leaves 2 fun l38 n39=>
      some (.inr (.val [(.bool true),(.int .i64 n37),(.sl 4 l38),(.int .i64 n39)]))
     else
      (opS (A.cell p34.leaves 1)).bind fun s40=>
      oP A p34.leaves 2 fun l41 n42=>
      bif (A.fits l32 [[(.str s40)]] 16)then
       (E.call 1000236 (kN [[(.str (bs [45,62]))]] l41 n42)).bind fun p43=>
       (opB (A.cell p43.leaves 0)).bind fun b45=>
       bif b45 then
        (opI (A.cell p43.leaves 1) .i64).bind fun n46=>
        oP A p43.leaves 2 fun l47 n48=>
        (opL (A.cell p43.leaves 4) 1).bind fun l49=>
        some (.inr (.val [(.bool true),(.int .i64 n46),(.sl 4 l47),(.int .i64 n48)]))
       else
        oP A p43.leaves 1 fun l50 n51=>
        (opL (A.cell p43.leaves 3) 1).bind fun l52=>
        (E.call 1000131 (kP 159 l50 n51)).bind fun p53=>
        (opB (A.cell p53.leaves 0)).bind fun b55=>
        bif b55 then
         (opI (A.cell p53.leaves 1) .i64).bind fun n56=>
         oP A p53.leaves 2 fun l57 n58=>
         some (.inr (.val [(.bool true),(.int .i64 n56),(.sl 4 l57),(.int .i64 n58)]))
        else
         oE A p53.leaves 1 fun n59 n60 s61 n62 l63 l64=>
         oP A p53.leaves 7 fun l65 n66=>
         bif (A.fits l33 [[(.int .i64 n59),(.int .i64 n60),(.str s61),(.int .i64 n62),(.sl 1 l63),(.sl 6 l64)]] 88)then
          (E.call 1000236 (kN [[(.str (bs [41]))]] l65 n66)).bind fun p67=>
          (opB (A.cell p67.leaves 0)).bind fun b69=>
          bif b69 then
           (opI (A.cell p67.leaves 1) .i64).bind fun n70=>
           oP A p67.leaves 2 fun l71 n72=>
           (opL (A.cell p67.leaves 4) 1).bind fun l73=>
           some (.inr (.val [(.bool true),(.int .i64 n70),(.sl 4 l71),(.int .i64 n72)]))
          else
           oP A p67.leaves 1 fun l74 n75=>
           (opL (A.cell p67.leaves 3) 1).bind fun l76=>
           (E.call 1000167 (kS 0 (bs [40]) l74 n75)).bind fun p77=>
           (opB (A.cell p77.leaves 0)).bind fun b79=>
           oP A p77.leaves 1 fun l80 n81=>
           some (.inl [(.bool b79),(.sl 4 l80),(.int .i64 n81),(.int .i64 n24),(.int .i64 n25),(.str s26),(.int .i64 n27),(.int .i64 n28),(.int .i64 n29),(.str s30),(.int .i64 n31),(.sl 1 (A.rapp l32 [[(.str s40)]])),(.sl 6 (A.rapp l33 [[(.int .i64 n59),(.int .i64 n60),(.str s61),(.int .i64 n62),(.sl 1 l63),(.sl 6 l64)]]))])
         else
          none
      else
       none
    else
     some (.inr (.val [(.bool false),(.int .i64 n28),(.int .i64 n29),(.str s30),(.int .i64 n31),(.sl 1 l32),(.sl 6 l33),(.sl 4 l22),(.int .i64 n23)]))
   ) [(.bool true),(.sl 4 l17),(.int .i64 n18),(.int .i64 0),(.int .i64 0),(.str (bs [])),(.int .i64 0),(.int .i64 12),(.int .i64 0),(.str s7),(.int .i64 0),(.sl 1 []),(.sl 6 [])]
theorem b245_eq (A:Sy)(E:Env)(toks:List (List D))(at_:Int):(funB A Tryz.prog cs 245 159 [.ptr 0 0] [.cells (.ty 135) [.d (.sl 4 toks), .d (.int .i64 at_)]]).run E=b245 A E toks at_:=by kernel_rfl
def b246 (A:Sy)(E:Env)(toks:List (List D))(at_:Int):Option PRes:=
 (E.call 1000131 (kP 159 toks at_)).bind fun p1=>
 (opB (A.cell p1.leaves 0)).bind fun b3=>
 bif b3 then
  (opI (A.cell p1.leaves 1) .i64).bind fun n4=>
  oP A p1.leaves 2 fun l5 n6=>
  some (.val [(.bool true),(.int .i64 n4),(.sl 4 l5),(.int .i64 n6)])
 else
  oE A p1.leaves 1 fun n7 n8 s9 n10 l11 l12=>
  oP A p1.leaves 7 fun l13 n14=>
  (E.call 1000236 (kN [[(.str (bs [116,104,101,110]))]] l13 n14)).bind fun p15=>
  (opB (A.cell p15.leaves 0)).bind fun b17=>
  bif b17 then
   (opI (A.cell p15.leaves 1) .i64).bind fun n18=>
   oP A p15.leaves 2 fun l19 n20=>
   (opL (A.cell p15.leaves 4) 1).bind fun l21=>
   some (.val [(.bool true),(.int .i64 n18),(.sl 4 l19),(.int .i64 n20)])
  else
   oP A p15.leaves 1 fun l22 n23=>
   (opL (A.cell p15.leaves 3) 1).bind fun l24=>
   (E.call 1000131 (kP 159 l22 n23)).bind fun p25=>
   (opB (A.cell p25.leaves 0)).bind fun b27=>
   bif b27 then
    (opI (A.cell p25.leaves 1) .i64).bind fun n28=>
    oP A p25.leaves 2 fun l29 n30=>
    some (.val [(.bool true),(.int .i64 n28),(.sl 4 l29),(.int .i64 n30)])
   else
    oE A p25.leaves 1 fun n31 n32 s33 n34 l35 l36=>
    oP A p25.leaves 7 fun l37 n38=>
    (E.call 1000236 (kN [[(.str (bs [101,108,115,101]))]] l37 n38)).bind fun p39=>
    (opB (A.cell p39.leaves 0)).bind fun b41=>
    bif b41 then
     (opI (A.cell p39.leaves 1) .i64).bind fun n42=>
     oP A p39.leaves 2 fun l43 n44=>
     (opL (A.cell p39.leaves 4) 1).bind fun l45=>
     some (.val [(.bool true),(.int .i64 n42),(.sl 4 l43),(.int .i64 n44)])
    else
     oP A p39.leaves 1 fun l46 n47=>
     (opL (A.cell p39.leaves 3) 1).bind fun l48=>
     (E.call 1000131 (kP 159 l46 n47)).bind fun p49=>
     (opB (A.cell p49.leaves 0)).bind fun b51=>
     bif b51 then
      (opI (A.cell p49.leaves 1) .i64).bind fun n52=>
      oP A p49.leaves 2 fun l53 n54=>
      some (.val [(.bool true),(.int .i64 n52),(.sl 4 l53),(.int .i64 n54)])
     else
      oE A p49.leaves 1 fun n55 n56 s57 n58 l59 l60=>
      oP A p49.leaves 7 fun l61 n62=>
      some (.val [(.bool false),(.int .i64 7),(.int .i64 0),(.str (bs [])),(.int .i64 0),(.sl 1 []),(.sl 6 [[(.int .i64 n7),(.int .i64 n8),(.str s9),(.int .i64 n10),(.sl 1 l11),(.sl 6 l12)],[(.int .i64 n31),(.int .i64 n32),(.str s33),(.int .i64 n34),(.sl 1 l35),(.sl 6 l36)],[(.int .i64 n55),(.int .i64 n56),(.str s57),(.int .i64 n58),(.sl 1 l59),(.sl 6 l60)]]),(.sl 4 l61),(.int .i64 n62)])
theorem b246_eq (A:Sy)(E:Env)(toks:List (List D))(at_:Int):(funB A Tryz.prog cs 246 159 [.ptr 0 0] [.cells (.ty 135) [.d (.sl 4 toks), .d (.int .i64 at_)]]).run E=b246 A E toks at_:=by kernel_rfl
def b247 (A:Sy)(E:Env)(toks:List (List D))(at_:Int)(s_:ByteArray):Option PRes:=
 (E.call 1000167 (kS 0 (bs [41]) toks at_)).bind fun p1=>
 (opB (A.cell p1.leaves 0)).bind fun b3=>
 oP A p1.leaves 1 fun l4 n5=>
 bif (A.bnot b3)then
  (E.call 1000131 (kP 159 l4 n5)).bind fun p6=>
  (opB (A.cell p6.leaves 0)).bind fun b8=>
  bif b8 then
   (opI (A.cell p6.leaves 1) .i64).bind fun n9=>
   oP A p6.leaves 2 fun l10 n11=>
   some (.val [(.bool true),(.int .i64 n9),(.sl 4 l10),(.int .i64 n11)])
  else
   oE A p6.leaves 1 fun n12 n13 s14 n15 l16 l17=>
   oP A p6.leaves 7 fun l18 n19=>
   E.lp (fun ds20=>
    (opS (A.cell ds20 0)).bind fun s21=>
    oP A ds20 1 fun l22 n23=>
    (opI (A.cell ds20 3) .i64).bind fun n24=>
    oT A ds20 4 fun n25 s26 n27 n28=>
    (opI (A.cell ds20 8) .i64).bind fun n29=>
    (opS (A.cell ds20 9)).bind fun s30=>
    (opI (A.cell ds20 10) .i64).bind fun n31=>
    (opL (A.cell ds20 11) 6).bind fun l32=>
    (E.call 1000167 (kS 0 (bs [44]) l22 n23)).bind fun p33=>
    (opB (A.cell p33.leaves 0)).bind fun b35=>
    oP A p33.leaves 1 fun l36 n37=>
    bif b35 then
     (E.call 1000131 (kP 159 l36 n37)).bind fun p38=>
     (opB (A.cell p38.leaves 0)).bind fun b40=>
     bif b40 then
      (opI (A.cell p38.leaves 1) .i64).bind fun n41=>
      oP A p38.leaves 2 fun l42 n43=>
      some (.inr (.val [(.bool true),(.int .i64 n41),(.sl 4 l42),(.int .i64 n43)]))
     else
      oE A p38.leaves 1 fun n44 n45 s46 n47 l48 l49=>
      oP A p38.leaves 7 fun l50 n51=>
      bif (A.fits l32 [[(.int .i64 n44),(.int .i64 n45),(.str s46),(.int .i64 n47),(.sl 1 l48),(.sl 6 l49)]] 88)then
       some (.inl [(.str s21),(.sl 4 l50),(.int .i64 n51),(.int .i64 n24),(.int .i64 n25),(.str s26),(.int .i64 n27),(.int .i64 n28),(.int .i64 n29),(.str s30),(.int .i64 n31),(.sl 6 (A.rapp l32 [[(.int .i64 n44),(.int .i64 n45),(.str s46),(.int .i64 n47),(.sl 1 l48),(.sl 6 l49)]]))])
      else
       none
    else
     (E.call 1000236 (kN [[(.str s21)]] l36 n37)).bind fun p52=>
     (opB (A.cell p52.leaves 0)).bind fun b54=>
     bif b54 then
      (opI (A.cell p52.leaves 1) .i64).bind fun n55=>
      oP A p52.leaves 2 fun l56 n57=>
      (opL (A.cell p52.leaves 4) 1).bind fun l58=>
      some (.inr (.val [(.bool true),(.int .i64 n55),(.sl 4 l56),(.int .i64 n57)]))
     else
      oP A p52.leaves 1 fun l59 n60=>
      (opL (A.cell p52.leaves 3) 1).bind fun l61=>
      (E.call 1000167 (kS 0 (bs [101,118,101,114,121]) l59 n60)).bind fun p62=>
      (opB (A.cell p62.leaves 0)).bind fun b64=>
      oP A p62.leaves 1 fun l65 n66=>
      bif b64 then
       (E.call 1000227 (kP 159 l65 n66)).bind fun p67=>
       (opB (A.cell p67.leaves 0)).bind fun b69=>
       bif b69 then
        (opI (A.cell p67.leaves 1) .i64).bind fun n70=>
        oP A p67.leaves 2 fun l71 n72=>
        some (.inr (.val [(.bool true),(.int .i64 n70),(.sl 4 l71),(.int .i64 n72)]))
       else
        oE A p67.leaves 1 fun n73 n74 s75 n76 l77 l78=>
        oP A p67.leaves 7 fun l79 n80=>
        bif (A.fits l32 [[(.int .i64 n73),(.int .i64 n74),(.str s75),(.int .i64 n76),(.sl 1 l77),(.sl 6 l78)]] 88)then
         some (.inr (.val [(.bool false),(.int .i64 n28),(.int .i64 1),(.str s30),(.int .i64 n31),(.sl 1 []),(.sl 6 (A.rapp l32 [[(.int .i64 n73),(.int .i64 n74),(.str s75),(.int .i64 n76),(.sl 1 l77),(.sl 6 l78)]])),(.sl 4 l79),(.int .i64 n80)]))
        else
         none
      else
       some (.inr (.val [(.bool false),(.int .i64 n28),(.int .i64 n29),(.str s30),(.int .i64 n31),(.sl 1 []),(.sl 6 l32),(.sl 4 l65),(.int .i64 n66)]))
   ) [(.str (bs [41])),(.sl 4 l18),(.int .i64 n19),(.int .i64 0),(.int .i64 0),(.str (bs [])),(.int .i64 0),(.int .i64 13),(.int .i64 0),(.str s_),(.int .i64 0),(.sl 6 [[(.int .i64 n12),(.int .i64 n13),(.str s14),(.int .i64 n15),(.sl 1 l16),(.sl 6 l17)]])]
 else
  (E.call 1000167 (kS 0 (bs [101,118,101,114,121]) l4 n5)).bind fun p81=>
  (opB (A.cell p81.leaves 0)).bind fun b83=>
  oP A p81.leaves 1 fun l84 n85=>
  bif b83 then
   (E.call 1000227 (kP 159 l84 n85)).bind fun p86=>
   (opB (A.cell p86.leaves 0)).bind fun b88=>
   bif b88 then
    (opI (A.cell p86.leaves 1) .i64).bind fun n89=>
    oP A p86.leaves 2 fun l90 n91=>
    some (.val [(.bool true),(.int .i64 n89),(.sl 4 l90),(.int .i64 n91)])
   else
    oE A p86.leaves 1 fun n92 n93 s94 n95 l96 l97=>
    oP A p86.leaves 7 fun l98 n99=>
    bif (A.fits [] [[(.int .i64 n92),(.int .i64 n93),(.str s94),(.int .i64 n95),(.sl 1 l96),(.sl 6 l97)]] 88)then
     some (.val [(.bool false),(.int .i64 13),(.int .i64 1),(.str s_),(.int .i64 0),(.sl 1 []),(.sl 6 [[(.int .i64 n92),(.int .i64 n93),(.str s94),(.int .i64 n95),(.sl 1 l96),(.sl 6 l97)]]),(.sl 4 l98),(.int .i64 n99)])
    else
     none
  else
   some (.val [(.bool false),(.int .i64 13),(.int .i64 0),(.str s_),(.int .i64 0),(.sl 1 []),(.sl 6 []),(.sl 4 l84),(.int .i64 n85)])
theorem b247_eq (A:Sy)(E:Env)(toks:List (List D))(at_:Int)(s_:ByteArray):(funB A Tryz.prog cs 247 159 [.ptr 0 0, .d (.str s_)] [.cells (.ty 135) [.d (.sl 4 toks), .d (.int .i64 at_)]]).run E=b247 A E toks at_ s_:=by kernel_rfl
def b236 (A:Sy)(E:Env)(toks:List (List D))(at_:Int)(rows:List (List D)):Option PRes:=
 E.lp (fun ds1=>
  (opI (A.cell ds1 0) .i64).bind fun n2=>
  (opI (A.cell ds1 1) .i64).bind fun n3=>
  oP A ds1 2 fun l4 n5=>
  (opL (A.cell ds1 4) 1).bind fun l6=>
  bif (A.ilt n3 n2)then
   bif (A.inr n3 (A.rlen l6))then
    (opS (A.cell (A.rown l6 (A.nat n3)) 0)).bind fun s7=>
    (E.call 1000167 (kS 0 s7 l4 n5)).bind fun p8=>
    (opB (A.cell p8.leaves 0)).bind fun b10=>
    oP A p8.leaves 1 fun l11 n12=>
    bif (A.bnot b10)then
     some (.inr (.val [(.bool true),(.int .i64 n12),(.sl 4 l11),(.int .i64 n12),(.sl 1 l6)]))
    else
     some (.inl [(.int .i64 n2),(.int .i64 (A.wrap .i64 (A.add n3 1))),(.sl 4 l11),(.int .i64 n12),(.sl 1 l6)])
   else
    none
  else
   some (.inr (.val [(.bool false),(.sl 4 l4),(.int .i64 n5),(.sl 1 l6)]))
 ) [(.int .i64 (A.rlen rows)),(.int .i64 0),(.sl 4 toks),(.int .i64 at_),(.sl 1 rows)]
theorem b236_eq (A:Sy)(E:Env)(toks:List (List D))(at_:Int)(rows:List (List D)):(funB A Tryz.prog cs 236 159 [.ptr 0 0, .own 1] [.cells (.ty 135) [.d (.sl 4 toks), .d (.int .i64 at_)], .arr 9 1 rows]).run E=b236 A E toks at_ rows:=by kernel_rfl
end
end Go.Vm
end

section
set_option maxRecDepth 1000000
set_option maxHeartbeats 0
namespace Go.Vm
open Go.Proofs
def g15 (A:Sy)(E:Env)(s_:ByteArray)(most_:Int):Option PRes:=
 bif (A.ilt most_ (A.slen s_))then
  some (.val [(.sl 4 []),(.int .i64 most_),(.int .i64 3)])
 else
  E.lp (fun ds1=>
   (opS (A.cell ds1 0)).bind fun s2=>
   (opI (A.cell ds1 1) .i64).bind fun n3=>
   (opL (A.cell ds1 2) 4).bind fun l4=>
   bif (A.cutok n3 (A.slen s2) (A.slen s2))then
    (E.call 37 [(.d (.str (A.scut s2 n3 (A.slen s2))))]).bind fun p5=>
    (opI (A.cell p5.leaves 0) .i64).bind fun n7=>
    bif (A.ieq (A.wrap .i64 (A.add n3 n7)) (A.slen s2))then
     bif (A.fits l4 [[(.int .i64 6),(.str (bs [])),(.int .i64 0),(.int .i64 (A.slen s2))]] 40)then
      some (.inr (.val [(.sl 4 (A.rapp l4 [[(.int .i64 6),(.str (bs [])),(.int .i64 0),(.int .i64 (A.slen s2))]])),(.int .i64 (A.slen s2)),(.int .i64 0)]))
     else
      none
    else
     bif (A.cutok (A.wrap .i64 (A.add n3 n7)) (A.slen s2) (A.slen s2))then
      (E.call 38 [(.d (.str (A.scut s2 (A.wrap .i64 (A.add n3 n7)) (A.slen s2))))]).bind fun p8=>
      (opI (A.cell p8.leaves 0) .i64).bind fun n10=>
      (opS (A.cell p8.leaves 1)).bind fun s11=>
      (opI (A.cell p8.leaves 2) .i64).bind fun n12=>
      (opI (A.cell p8.leaves 3) .i64).bind fun n13=>
      (opI (A.cell p8.leaves 4) .i64).bind fun n14=>
      (opB (A.cell p8.leaves 5)).bind fun b15=>
      bif (A.bnot b15)then
       some (.inr (.val [(.sl 4 []),(.int .i64 (A.wrap .i64 (A.add n3 n7))),(.int .i64 2)]))
      else
       bif (A.fits l4 [[(.int .i64 n10),(.str s11),(.int .i64 n12),(.int .i64 (A.wrap .i64 (A.add n3 n7)))]] 40)then
        some (.inl [(.str s2),(.int .i64 (A.wrap .i64 (A.add (A.wrap .i64 (A.add n3 n7)) n14))),(.sl 4 (A.rapp l4 [[(.int .i64 n10),(.str s11),(.int .i64 n12),(.int .i64 (A.wrap .i64 (A.add n3 n7)))]]))])
       else
        none
     else
      none
   else
    none
  ) [(.str s_),(.int .i64 0),(.sl 4 [])]
end Go.Vm
end

section
set_option maxRecDepth 1000000
set_option maxHeartbeats 0
namespace Go.Vm
open Go.Proofs
def g139 (A:Sy)(E:Env)(c_:Int):Option PRes:=
 cutO (
  bif (A.ile 97 c_)then
   some (.inl [(.bool (A.ile c_ 122))])
  else
   some (.inl [(.bool false)])
 ) fun ds1=>
 (opB (A.cell ds1 0)).bind fun b2=>
 some (.val [(.bool b2)])
theorem g139_eq (A:Sy)(E:Env)(c_:Int):(funT A Tryz.prog cs 139 [.d (.int .i32 c_)]).run E=g139 A E c_:=by kernel_rfl
def g159 (A:Sy)(E:Env)(c_:Int):Option PRes:=
 cutO (
  bif (A.ile 65 c_)then
   some (.inl [(.bool (A.ile c_ 90))])
  else
   some (.inl [(.bool false)])
 ) fun ds1=>
 (opB (A.cell ds1 0)).bind fun b2=>
 some (.val [(.bool b2)])
theorem g159_eq (A:Sy)(E:Env)(c_:Int):(funT A Tryz.prog cs 159 [.d (.int .i32 c_)]).run E=g159 A E c_:=by kernel_rfl
def g140 (A:Sy)(E:Env)(c_:Int):Option PRes:=
 cutO (
  bif (A.ile 48 c_)then
   some (.inl [(.bool (A.ile c_ 57))])
  else
   some (.inl [(.bool false)])
 ) fun ds1=>
 (opB (A.cell ds1 0)).bind fun b2=>
 some (.val [(.bool b2)])
theorem g140_eq (A:Sy)(E:Env)(c_:Int):(funT A Tryz.prog cs 140 [.d (.int .i32 c_)]).run E=g140 A E c_:=by kernel_rfl
def g125 (A:Sy)(E:Env)(s_:ByteArray):Option PRes:=
 bif (A.seq s_ (bs [110,111,100,101]))then
  some (.val [(.bool true)])
 else
  bif (A.seq s_ (bs [114,101,116,117,114,110,115]))then
   some (.val [(.bool true)])
  else
   bif (A.seq s_ (bs [118,97,114]))then
    some (.val [(.bool true)])
   else
    bif (A.seq s_ (bs [108,101,116]))then
     some (.val [(.bool true)])
    else
     bif (A.seq s_ (bs [116,101,108]))then
      some (.val [(.bool true)])
     else
      bif (A.seq s_ (bs [101,110,117,109]))then
       some (.val [(.bool true)])
      else
       bif (A.seq s_ (bs [105,102]))then
        some (.val [(.bool true)])
       else
        bif (A.seq s_ (bs [116,104,101,110]))then
         some (.val [(.bool true)])
        else
         bif (A.seq s_ (bs [101,108,115,101]))then
          some (.val [(.bool true)])
         else
          bif (A.seq s_ (bs [102,98,121]))then
           some (.val [(.bool true)])
          else
           bif (A.seq s_ (bs [112,114,101]))then
            some (.val [(.bool true)])
           else
            bif (A.seq s_ (bs [119,104,101,110]))then
             some (.val [(.bool true)])
            else
             bif (A.seq s_ (bs [109,101,114,103,101]))then
              some (.val [(.bool true)])
             else
              bif (A.seq s_ (bs [101,118,101,114,121]))then
               some (.val [(.bool true)])
              else
               bif (A.seq s_ (bs [110,111,116]))then
                some (.val [(.bool true)])
               else
                bif (A.seq s_ (bs [97,110,100]))then
                 some (.val [(.bool true)])
                else
                 bif (A.seq s_ (bs [111,114]))then
                  some (.val [(.bool true)])
                 else
                  bif (A.seq s_ (bs [120,111,114]))then
                   some (.val [(.bool true)])
                  else
                   bif (A.seq s_ (bs [109,111,100]))then
                    some (.val [(.bool true)])
                   else
                    bif (A.seq s_ (bs [116,114,117,101]))then
                     some (.val [(.bool true)])
                    else
                     bif (A.seq s_ (bs [102,97,108,115,101]))then
                      some (.val [(.bool true)])
                     else
                      bif (A.seq s_ (bs [105,110,116]))then
                       some (.val [(.bool true)])
                      else
                       bif (A.seq s_ (bs [98,111,111,108]))then
                        some (.val [(.bool true)])
                       else
                        bif (A.seq s_ (bs [119,105,116,104]))then
                         some (.val [(.bool true)])
                        else
                         some (.val [(.bool false)])
theorem g125_eq (A:Sy)(E:Env)(s_:ByteArray):(funT A Tryz.prog cs 125 [.d (.str s_)]).run E=g125 A E s_:=by kernel_rfl
def g138_139 (A:Sy)(E:Env)(s_:ByteArray):Option PRes:=
 E.lp (fun ds1=>
  (opS (A.cell ds1 0)).bind fun s2=>
  (opS (A.cell ds1 1)).bind fun s3=>
  (opI (A.cell ds1 2) .i64).bind fun n4=>
  bif (A.ilt n4 (A.slen s3))then
   bif (A.ieq n4 0)then
    (E.call 139 [(.d (.int .i32 (A.rdec s3 n4)))]).bind fun p5=>
    (opB (A.cell p5.leaves 0)).bind fun b7=>
    cutO (
     bif (A.bnot b7)then
      some (.inl [(.bool true)])
     else
      (E.call 139 [(.d (.int .i32 (A.rdec s3 n4)))]).bind fun p8=>
      (opB (A.cell p8.leaves 0)).bind fun b10=>
      bif (A.bnot b10)then
       (E.call 159 [(.d (.int .i32 (A.rdec s3 n4)))]).bind fun p11=>
       (opB (A.cell p11.leaves 0)).bind fun b13=>
       bif (A.bnot b13)then
        (E.call 140 [(.d (.int .i32 (A.rdec s3 n4)))]).bind fun p14=>
        (opB (A.cell p14.leaves 0)).bind fun b16=>
        bif (A.bnot b16)then
         some (.inl [(.bool (A.bnot (A.ieq (A.rdec s3 n4) 95)))])
        else
         some (.inl [(.bool false)])
       else
        some (.inl [(.bool false)])
      else
       some (.inl [(.bool false)])
    ) fun ds17=>
    (opB (A.cell ds17 0)).bind fun b18=>
    bif b18 then
     some (.inr (.val [(.bool false)]))
    else
     some (.inl [(.str s2),(.str s3),(.int .i64 (A.add n4 (A.rwid s3 n4)))])
   else
    cutO (
     (E.call 139 [(.d (.int .i32 (A.rdec s3 n4)))]).bind fun p19=>
     (opB (A.cell p19.leaves 0)).bind fun b21=>
     bif (A.bnot b21)then
      (E.call 159 [(.d (.int .i32 (A.rdec s3 n4)))]).bind fun p22=>
      (opB (A.cell p22.leaves 0)).bind fun b24=>
      bif (A.bnot b24)then
       (E.call 140 [(.d (.int .i32 (A.rdec s3 n4)))]).bind fun p25=>
       (opB (A.cell p25.leaves 0)).bind fun b27=>
       bif (A.bnot b27)then
        some (.inl [(.bool (A.bnot (A.ieq (A.rdec s3 n4) 95)))])
       else
        some (.inl [(.bool false)])
      else
       some (.inl [(.bool false)])
     else
      some (.inl [(.bool false)])
    ) fun ds28=>
    (opB (A.cell ds28 0)).bind fun b29=>
    bif b29 then
     some (.inr (.val [(.bool false)]))
    else
     some (.inl [(.str s2),(.str s3),(.int .i64 (A.add n4 (A.rwid s3 n4)))])
  else
   cutO (
    bif (A.ile 1 (A.slen s2))then
     some (.inl [(.bool (A.ile (A.slen s2) 12))])
    else
     some (.inl [(.bool false)])
   ) fun ds30=>
   (opB (A.cell ds30 0)).bind fun b31=>
   some (.inr (.val [(.bool b31)]))
 ) [(.str s_),(.str s_),(.int .i64 0)]
theorem g138_139_eq (A:Sy)(E:Env)(s_:ByteArray):(funT A Tryz.prog cs 138 [.d (.str s_),V.fn 139 []]).run E=g138_139 A E s_:=by kernel_rfl
def g138_159 (A:Sy)(E:Env)(s_:ByteArray):Option PRes:=
 E.lp (fun ds1=>
  (opS (A.cell ds1 0)).bind fun s2=>
  (opS (A.cell ds1 1)).bind fun s3=>
  (opI (A.cell ds1 2) .i64).bind fun n4=>
  bif (A.ilt n4 (A.slen s3))then
   bif (A.ieq n4 0)then
    (E.call 159 [(.d (.int .i32 (A.rdec s3 n4)))]).bind fun p5=>
    (opB (A.cell p5.leaves 0)).bind fun b7=>
    cutO (
     bif (A.bnot b7)then
      some (.inl [(.bool true)])
     else
      (E.call 139 [(.d (.int .i32 (A.rdec s3 n4)))]).bind fun p8=>
      (opB (A.cell p8.leaves 0)).bind fun b10=>
      bif (A.bnot b10)then
       (E.call 159 [(.d (.int .i32 (A.rdec s3 n4)))]).bind fun p11=>
       (opB (A.cell p11.leaves 0)).bind fun b13=>
       bif (A.bnot b13)then
        (E.call 140 [(.d (.int .i32 (A.rdec s3 n4)))]).bind fun p14=>
        (opB (A.cell p14.leaves 0)).bind fun b16=>
        bif (A.bnot b16)then
         some (.inl [(.bool (A.bnot (A.ieq (A.rdec s3 n4) 95)))])
        else
         some (.inl [(.bool false)])
       else
        some (.inl [(.bool false)])
      else
       some (.inl [(.bool false)])
    ) fun ds17=>
    (opB (A.cell ds17 0)).bind fun b18=>
    bif b18 then
     some (.inr (.val [(.bool false)]))
    else
     some (.inl [(.str s2),(.str s3),(.int .i64 (A.add n4 (A.rwid s3 n4)))])
   else
    cutO (
     (E.call 139 [(.d (.int .i32 (A.rdec s3 n4)))]).bind fun p19=>
     (opB (A.cell p19.leaves 0)).bind fun b21=>
     bif (A.bnot b21)then
      (E.call 159 [(.d (.int .i32 (A.rdec s3 n4)))]).bind fun p22=>
      (opB (A.cell p22.leaves 0)).bind fun b24=>
      bif (A.bnot b24)then
       (E.call 140 [(.d (.int .i32 (A.rdec s3 n4)))]).bind fun p25=>
       (opB (A.cell p25.leaves 0)).bind fun b27=>
       bif (A.bnot b27)then
        some (.inl [(.bool (A.bnot (A.ieq (A.rdec s3 n4) 95)))])
       else
        some (.inl [(.bool false)])
      else
       some (.inl [(.bool false)])
     else
      some (.inl [(.bool false)])
    ) fun ds28=>
    (opB (A.cell ds28 0)).bind fun b29=>
    bif b29 then
     some (.inr (.val [(.bool false)]))
    else
     some (.inl [(.str s2),(.str s3),(.int .i64 (A.add n4 (A.rwid s3 n4)))])
  else
   cutO (
    bif (A.ile 1 (A.slen s2))then
     some (.inl [(.bool (A.ile (A.slen s2) 12))])
    else
     some (.inl [(.bool false)])
   ) fun ds30=>
   (opB (A.cell ds30 0)).bind fun b31=>
   some (.inr (.val [(.bool b31)]))
 ) [(.str s_),(.str s_),(.int .i64 0)]
theorem g138_159_eq (A:Sy)(E:Env)(s_:ByteArray):(funT A Tryz.prog cs 138 [.d (.str s_),V.fn 159 []]).run E=g138_159 A E s_:=by kernel_rfl
def g95 (A:Sy)(E:Env)(s_:ByteArray):Option PRes:=
 (E.call 138 [(.d (.str s_)),(.fn 139 [])]).bind fun p1=>
 (opB (A.cell p1.leaves 0)).bind fun b3=>
 cutO (
  bif b3 then
   (E.call 125 [(.d (.str s_))]).bind fun p4=>
   (opB (A.cell p4.leaves 0)).bind fun b6=>
   some (.inl [(.bool (A.bnot b6))])
  else
   some (.inl [(.bool false)])
 ) fun ds7=>
 (opB (A.cell ds7 0)).bind fun b8=>
 some (.val [(.bool b8)])
theorem g95_eq (A:Sy)(E:Env)(s_:ByteArray):(funT A Tryz.prog cs 95 [.d (.str s_)]).run E=g95 A E s_:=by kernel_rfl
def g124 (A:Sy)(E:Env)(s_:ByteArray):Option PRes:=
 (E.call 138 [(.d (.str s_)),(.fn 159 [])]).bind fun p1=>
 (opB (A.cell p1.leaves 0)).bind fun b3=>
 some (.val [(.bool b3)])
theorem g124_eq (A:Sy)(E:Env)(s_:ByteArray):(funT A Tryz.prog cs 124 [.d (.str s_)]).run E=g124 A E s_:=by kernel_rfl
def g96 (A:Sy)(E:Env)(s_:ByteArray):Option PRes:=
 E.lp (fun ds1=>
  (opS (A.cell ds1 0)).bind fun s2=>
  (opS (A.cell ds1 1)).bind fun s3=>
  (opI (A.cell ds1 2) .i64).bind fun n4=>
  bif (A.ilt n4 (A.slen s3))then
   (E.call 140 [(.d (.int .i32 (A.rdec s3 n4)))]).bind fun p5=>
   (opB (A.cell p5.leaves 0)).bind fun b7=>
   cutO (
    bif (A.bnot b7)then
     some (.inl [(.bool true)])
    else
     bif (A.ieq n4 0)then
      some (.inl [(.bool (A.ieq (A.rdec s3 n4) 48))])
     else
      some (.inl [(.bool false)])
   ) fun ds8=>
   (opB (A.cell ds8 0)).bind fun b9=>
   bif b9 then
    some (.inr (.val [(.bool false)]))
   else
    some (.inl [(.str s2),(.str s3),(.int .i64 (A.add n4 (A.rwid s3 n4)))])
  else
   cutO (
    bif (A.ile 1 (A.slen s2))then
     some (.inl [(.bool (A.ile (A.slen s2) 3))])
    else
     some (.inl [(.bool false)])
   ) fun ds10=>
   (opB (A.cell ds10 0)).bind fun b11=>
   some (.inr (.val [(.bool b11)]))
 ) [(.str s_),(.str s_),(.int .i64 0)]
theorem g96_eq (A:Sy)(E:Env)(s_:ByteArray):(funT A Tryz.prog cs 96 [.d (.str s_)]).run E=g96 A E s_:=by kernel_rfl
def g52 (A:Sy)(E:Env)(s_:ByteArray):Option PRes:=
 (E.call 94 [(.d (.str s_)),(.d (.str (bs [46])))]).bind fun p1=>
 (opS (A.cell p1.leaves 0)).bind fun s3=>
 (opS (A.cell p1.leaves 1)).bind fun s4=>
 (opB (A.cell p1.leaves 2)).bind fun b5=>
 (E.call 95 [(.d (.str s3))]).bind fun p6=>
 (opB (A.cell p6.leaves 0)).bind fun b8=>
 cutO (
  bif b8 then
   bif (A.bnot b5)then
    some (.inl [(.bool true)])
   else
    (E.call 96 [(.d (.str s4))]).bind fun p9=>
    (opB (A.cell p9.leaves 0)).bind fun b11=>
    some (.inl [(.bool b11)])
  else
   some (.inl [(.bool false)])
 ) fun ds12=>
 (opB (A.cell ds12 0)).bind fun b13=>
 some (.val [(.bool b13)])
theorem g52_eq (A:Sy)(E:Env)(s_:ByteArray):(funT A Tryz.prog cs 52 [.d (.str s_)]).run E=g52 A E s_:=by kernel_rfl
def g24 (A:Sy)(E:Env)(s_:ByteArray):Option PRes:=
 (E.call 51 [(.d (.str s_)),(.d (.str (bs [47])))]).bind fun p1=>
 (opL (A.cell p1.leaves 0) 1).bind fun l3=>
 E.lp (fun ds4=>
  (opL (A.cell ds4 0) 1).bind fun l5=>
  (opI (A.cell ds4 1) .i64).bind fun n6=>
  (opI (A.cell ds4 2) .i64).bind fun n7=>
  bif (A.ilt n7 n6)then
   bif (A.inr n7 (A.rlen l5))then
    (opS (A.cell (A.row l5 n7) 0)).bind fun s8=>
    (E.call 52 [(.d (.str s8))]).bind fun p9=>
    (opB (A.cell p9.leaves 0)).bind fun b11=>
    bif (A.bnot b11)then
     some (.inr (.val [(.bool false)]))
    else
     some (.inl [(.sl 1 l5),(.int .i64 n6),(.int .i64 (A.wrap .i64 (A.add n7 1)))])
   else
    none
  else
   some (.inr (.val [(.bool true)]))
 ) [(.sl 1 l3),(.int .i64 (A.rlen l3)),(.int .i64 0)]
theorem g24_eq (A:Sy)(E:Env)(s_:ByteArray):(funT A Tryz.prog cs 24 [.d (.str s_)]).run E=g24 A E s_:=by kernel_rfl
def g94 (A:Sy)(E:Env)(s_:ByteArray)(sep_:ByteArray):Option PRes:=
 (E.call 137 [(.d (.str s_)),(.d (.str sep_))]).bind fun p1=>
 (opS (A.cell p1.leaves 0)).bind fun s3=>
 (opS (A.cell p1.leaves 1)).bind fun s4=>
 (opB (A.cell p1.leaves 2)).bind fun b5=>
 some (.val [(.str s3),(.str s4),(.bool b5)])
theorem g94_eq (A:Sy)(E:Env)(s_:ByteArray)(sep_:ByteArray):(funT A Tryz.prog cs 94 [.d (.str s_),V.d (.str sep_)]).run E=g94 A E s_ sep_:=by kernel_rfl
def g137 (A:Sy)(E:Env)(s_:ByteArray)(sep_:ByteArray):Option PRes:=
 (E.call 162 [(.d (.str s_)),(.d (.str sep_))]).bind fun p1=>
 (opI (A.cell p1.leaves 0) .i64).bind fun n3=>
 bif (A.ile 0 n3)then
  bif (A.cutok 0 n3 (A.slen s_))then
   bif (A.cutok (A.wrap .i64 (A.add n3 (A.slen sep_))) (A.slen s_) (A.slen s_))then
    some (.val [(.str (A.scut s_ 0 n3)),(.str (A.scut s_ (A.wrap .i64 (A.add n3 (A.slen sep_))) (A.slen s_))),(.bool true)])
   else
    none
  else
   none
 else
  some (.val [(.str s_),(.str (bs [])),(.bool false)])
theorem g137_eq (A:Sy)(E:Env)(s_:ByteArray)(sep_:ByteArray):(funT A Tryz.prog cs 137 [.d (.str s_),V.d (.str sep_)]).run E=g137 A E s_ sep_:=by kernel_rfl
def g127 (A:Sy)(E:Env)(s_:ByteArray)(substr_:ByteArray):Option PRes:=
 (E.call 162 [(.d (.str s_)),(.d (.str substr_))]).bind fun p1=>
 (opI (A.cell p1.leaves 0) .i64).bind fun n3=>
 some (.val [(.int .i64 n3)])
theorem g127_eq (A:Sy)(E:Env)(s_:ByteArray)(substr_:ByteArray):(funT A Tryz.prog cs 127 [.d (.str s_),V.d (.str substr_)]).run E=g127 A E s_ substr_:=by kernel_rfl
def g162 (A:Sy)(E:Env)(s_:ByteArray)(substr_:ByteArray):Option PRes:=
 cutO (
  bif (A.ieq (A.slen substr_) 0)then
   some (.inl [(.bool true)])
  else
   some (.inl [(.bool (A.seq substr_ s_))])
 ) fun ds1=>
 (opB (A.cell ds1 0)).bind fun b2=>
 bif b2 then
  some (.val [(.int .i64 0)])
 else
  bif (A.ieq (A.slen substr_) 1)then
   bif (A.inr 0 (A.slen substr_))then
    (E.call 165 [(.d (.str s_)),(.d (.int .u8 (A.sbyte substr_ 0)))]).bind fun p3=>
    (opI (A.cell p3.leaves 0) .i64).bind fun n5=>
    some (.val [(.int .i64 n5)])
   else
    none
  else
   bif (A.ile (A.slen s_) (A.slen substr_))then
    some (.val [(.int .i64 (-1))])
   else
    none
theorem g162_eq (A:Sy)(E:Env)(s_:ByteArray)(substr_:ByteArray):(funT A Tryz.prog cs 162 [.d (.str s_),V.d (.str substr_)]).run E=g162 A E s_ substr_:=by kernel_rfl
def g165 (A:Sy)(E:Env)(s_:ByteArray)(c_:Int):Option PRes:=
 some (.val [(.int .i64 (A.sidx s_ c_))])
theorem g165_eq (A:Sy)(E:Env)(s_:ByteArray)(c_:Int):(funT A Tryz.prog cs 165 [.d (.str s_),V.d (.int .u8 c_)]).run E=g165 A E s_ c_:=by kernel_rfl
def g136 (A:Sy)(E:Env)(s_:ByteArray)(substr_:ByteArray):Option PRes:=
 bif (A.ieq (A.slen substr_) 0)then
  (E.call 171 [(.d (.str s_))]).bind fun p1=>
  (opI (A.cell p1.leaves 0) .i64).bind fun n3=>
  some (.val [(.int .i64 (A.wrap .i64 (A.add n3 1)))])
 else
  bif (A.ieq (A.slen substr_) 1)then
   bif (A.inr 0 (A.slen substr_))then
    some (.val [(.int .i64 (A.scnt s_ (A.sbyte substr_ 0)))])
   else
    none
  else
   E.lp (fun ds4=>
    (opS (A.cell ds4 0)).bind fun s5=>
    (opS (A.cell ds4 1)).bind fun s6=>
    (opI (A.cell ds4 2) .i64).bind fun n7=>
    (E.call 127 [(.d (.str s5)),(.d (.str s6))]).bind fun p8=>
    (opI (A.cell p8.leaves 0) .i64).bind fun n10=>
    bif (A.ieq n10 (-1))then
     some (.inr (.val [(.int .i64 n7)]))
    else
     bif (A.cutok (A.wrap .i64 (A.add n10 (A.slen s6))) (A.slen s5) (A.slen s5))then
      some (.inl [(.str (A.scut s5 (A.wrap .i64 (A.add n10 (A.slen s6))) (A.slen s5))),(.str s6),(.int .i64 (A.wrap .i64 (A.add n7 1)))])
     else
      none
   ) [(.str s_),(.str substr_),(.int .i64 0)]
theorem g136_eq (A:Sy)(E:Env)(s_:ByteArray)(substr_:ByteArray):(funT A Tryz.prog cs 136 [.d (.str s_),V.d (.str substr_)]).run E=g136 A E s_ substr_:=by kernel_rfl
def g51 (A:Sy)(E:Env)(s_:ByteArray)(sep_:ByteArray):Option PRes:=
 (E.call 93 [(.d (.str s_)),(.d (.str sep_)),(.d (.int .i64 0)),(.d (.int .i64 (-1)))]).bind fun p1=>
 (opL (A.cell p1.leaves 0) 1).bind fun l3=>
 some (.val [(.sl 1 l3)])
theorem g51_eq (A:Sy)(E:Env)(s_:ByteArray)(sep_:ByteArray):(funT A Tryz.prog cs 51 [.d (.str s_),V.d (.str sep_)]).run E=g51 A E s_ sep_:=by kernel_rfl
def g93 (A:Sy)(E:Env)(s_:ByteArray)(sep_:ByteArray)(sepSave_:Int)(n_:Int):Option PRes:=
 bif (A.ieq n_ 0)then
  some (.own 9 1 [])
 else
  bif (A.seq sep_ (bs []))then
   (E.call 135 [(.d (.str s_)),(.d (.int .i64 n_))]).bind fun p1=>
   (opL (A.cell p1.leaves 0) 1).bind fun l3=>
   some (.val [(.sl 1 l3)])
  else
   bif (A.ilt n_ 0)then
    (E.call 136 [(.d (.str s_)),(.d (.str sep_))]).bind fun p4=>
    (opI (A.cell p4.leaves 0) .i64).bind fun n6=>
    bif (A.mkok (A.imin (A.wrap .i64 (A.add n6 1)) (A.wrap .i64 (A.add (A.slen s_) 1))) (A.imin (A.wrap .i64 (A.add n6 1)) (A.wrap .i64 (A.add (A.slen s_) 1))) 16)then
     E.lp (fun ds7=>
      (opS (A.cell ds7 0)).bind fun s8=>
      (opS (A.cell ds7 1)).bind fun s9=>
      (opI (A.cell ds7 2) .i64).bind fun n10=>
      (opI (A.cell ds7 3) .i64).bind fun n11=>
      (opI (A.cell ds7 4) .i64).bind fun n12=>
      (opL (A.cell ds7 5) 1).bind fun l13=>
      bif (A.ilt n12 n11)then
       (E.call 127 [(.d (.str s8)),(.d (.str s9))]).bind fun p14=>
       (opI (A.cell p14.leaves 0) .i64).bind fun n16=>
       bif (A.ilt n16 0)then
        bif (A.inr n12 (A.rlen l13))then
         bif (A.inrn (A.nat n12) l13)then
          bif (A.cutok 0 (A.wrap .i64 (A.add n12 1)) (A.rlen (A.rput l13 (A.nat n12) 0 [(.str s8)])))then
           some (.inr (.own 9 1 (A.head (A.rput l13 (A.nat n12) 0 [(.str s8)]) (A.wrap .i64 (A.add n12 1)))))
          else
           none
         else
          none
        else
         none
       else
        bif (A.cutok 0 (A.wrap .i64 (A.add n16 n10)) (A.slen s8))then
         bif (A.inr n12 (A.rlen l13))then
          bif (A.inrn (A.nat n12) l13)then
           bif (A.cutok (A.wrap .i64 (A.add n16 (A.slen s9))) (A.slen s8) (A.slen s8))then
            some (.inl [(.str (A.scut s8 (A.wrap .i64 (A.add n16 (A.slen s9))) (A.slen s8))),(.str s9),(.int .i64 n10),(.int .i64 n11),(.int .i64 (A.wrap .i64 (A.add n12 1))),(.sl 1 (A.rput l13 (A.nat n12) 0 [(.str (A.scut s8 0 (A.wrap .i64 (A.add n16 n10))))]))])
           else
            none
          else
           none
         else
          none
        else
         none
      else
       bif (A.inr n12 (A.rlen l13))then
        bif (A.inrn (A.nat n12) l13)then
         bif (A.cutok 0 (A.wrap .i64 (A.add n12 1)) (A.rlen (A.rput l13 (A.nat n12) 0 [(.str s8)])))then
          some (.inr (.own 9 1 (A.head (A.rput l13 (A.nat n12) 0 [(.str s8)]) (A.wrap .i64 (A.add n12 1)))))
         else
          none
        else
         none
       else
        none
     ) [(.str s_),(.str sep_),(.int .i64 sepSave_),(.int .i64 (A.wrap .i64 (A.sub (A.imin (A.wrap .i64 (A.add n6 1)) (A.wrap .i64 (A.add (A.slen s_) 1))) 1))),(.int .i64 0),(.sl 1 (A.rep (A.imin (A.wrap .i64 (A.add n6 1)) (A.wrap .i64 (A.add (A.slen s_) 1))) [(.str (bs []))]))]
    else
     none
   else
    bif (A.mkok (A.imin n_ (A.wrap .i64 (A.add (A.slen s_) 1))) (A.imin n_ (A.wrap .i64 (A.add (A.slen s_) 1))) 16)then
     E.lp (fun ds17=>
      (opS (A.cell ds17 0)).bind fun s18=>
      (opS (A.cell ds17 1)).bind fun s19=>
      (opI (A.cell ds17 2) .i64).bind fun n20=>
      (opI (A.cell ds17 3) .i64).bind fun n21=>
      (opI (A.cell ds17 4) .i64).bind fun n22=>
      (opL (A.cell ds17 5) 1).bind fun l23=>
      bif (A.ilt n22 n21)then
       (E.call 127 [(.d (.str s18)),(.d (.str s19))]).bind fun p24=>
       (opI (A.cell p24.leaves 0) .i64).bind fun n26=>
       bif (A.ilt n26 0)then
        bif (A.inr n22 (A.rlen l23))then
         bif (A.inrn (A.nat n22) l23)then
          bif (A.cutok 0 (A.wrap .i64 (A.add n22 1)) (A.rlen (A.rput l23 (A.nat n22) 0 [(.str s18)])))then
           some (.inr (.own 9 1 (A.head (A.rput l23 (A.nat n22) 0 [(.str s18)]) (A.wrap .i64 (A.add n22 1)))))
          else
           none
         else
          none
        else
         none
       else
        bif (A.cutok 0 (A.wrap .i64 (A.add n26 n20)) (A.slen s18))then
         bif (A.inr n22 (A.rlen l23))then
          bif (A.inrn (A.nat n22) l23)then
           bif (A.cutok (A.wrap .i64 (A.add n26 (A.slen s19))) (A.slen s18) (A.slen s18))then
            some (.inl [(.str (A.scut s18 (A.wrap .i64 (A.add n26 (A.slen s19))) (A.slen s18))),(.str s19),(.int .i64 n20),(.int .i64 n21),(.int .i64 (A.wrap .i64 (A.add n22 1))),(.sl 1 (A.rput l23 (A.nat n22) 0 [(.str (A.scut s18 0 (A.wrap .i64 (A.add n26 n20))))]))])
           else
            none
          else
           none
         else
          none
        else
         none
      else
       bif (A.inr n22 (A.rlen l23))then
        bif (A.inrn (A.nat n22) l23)then
         bif (A.cutok 0 (A.wrap .i64 (A.add n22 1)) (A.rlen (A.rput l23 (A.nat n22) 0 [(.str s18)])))then
          some (.inr (.own 9 1 (A.head (A.rput l23 (A.nat n22) 0 [(.str s18)]) (A.wrap .i64 (A.add n22 1)))))
         else
          none
        else
         none
       else
        none
     ) [(.str s_),(.str sep_),(.int .i64 sepSave_),(.int .i64 (A.wrap .i64 (A.sub (A.imin n_ (A.wrap .i64 (A.add (A.slen s_) 1))) 1))),(.int .i64 0),(.sl 1 (A.rep (A.imin n_ (A.wrap .i64 (A.add (A.slen s_) 1))) [(.str (bs []))]))]
    else
     none
theorem g93_eq (A:Sy)(E:Env)(s_:ByteArray)(sep_:ByteArray)(sepSave_:Int)(n_:Int):(funT A Tryz.prog cs 93 [.d (.str s_),V.d (.str sep_),V.d (.int .i64 sepSave_),V.d (.int .i64 n_)]).run E=g93 A E s_ sep_ sepSave_ n_:=by kernel_rfl
end Go.Vm
end

section
set_option maxRecDepth 1000000
set_option maxHeartbeats 0
namespace Go.Vm
open Go.Proofs
def g26 (A:Sy)(E:Env)(p_:ByteArray):Option PRes:=
 (E.call 24 [(.d (.str p_))]).bind fun p1=>
 (opB (A.cell p1.leaves 0)).bind fun b3=>
 bif (A.bnot b3)then
  some (.val [(.str (bs []))])
 else
  bif (A.sfit (bs [39]) p_)then
   bif (A.sfit (A.sapp (bs [39]) p_) (bs [39]))then
    some (.val [(.str (A.sapp (A.sapp (bs [39]) p_) (bs [39])))])
   else
    none
  else
   none
theorem g26_eq (A:Sy)(E:Env)(p_:ByteArray):(funT A Tryz.prog cs 26 [.d (.str p_)]).run E=g26 A E p_:=by kernel_rfl
def g32 (A:Sy)(E:Env)(p_:ByteArray):Option PRes:=
 (E.call 30 [(.d (.str p_))]).bind fun p1=>
 (opB (A.cell p1.leaves 0)).bind fun b3=>
 bif (A.bnot b3)then
  some (.val [(.str (bs []))])
 else
  bif (A.sfit (bs [39]) p_)then
   bif (A.sfit (A.sapp (bs [39]) p_) (bs [39]))then
    some (.val [(.str (A.sapp (A.sapp (bs [39]) p_) (bs [39])))])
   else
    none
  else
   none
theorem g32_eq (A:Sy)(E:Env)(p_:ByteArray):(funT A Tryz.prog cs 32 [.d (.str p_)]).run E=g32 A E p_:=by kernel_rfl
def g18 (A:Sy)(E:Env)(s_:ByteArray)(most_:Int):Option PRes:=
 bif (A.ilt most_ (A.slen s_))then
  some (.val [(.sl 4 []),(.int .i64 most_),(.int .i64 3)])
 else
  (E.call 43 [(.d (.str s_)),(.d (.int .i64 0))]).bind fun p1=>
  (opI (A.cell p1.leaves 0) .i64).bind fun n3=>
  E.lp (fun ds4=>
   (opS (A.cell ds4 0)).bind fun s5=>
   (opI (A.cell ds4 1) .i64).bind fun n6=>
   (opL (A.cell ds4 2) 4).bind fun l7=>
   bif (A.ilt n6 (A.slen s5))then
    (E.call 44 [(.d (.str s5)),(.d (.int .i64 n6))]).bind fun p8=>
    (opI (A.cell p8.leaves 0) .i64).bind fun n10=>
    (opS (A.cell p8.leaves 1)).bind fun s11=>
    (opI (A.cell p8.leaves 2) .i64).bind fun n12=>
    (opI (A.cell p8.leaves 3) .i64).bind fun n13=>
    (opI (A.cell p8.leaves 4) .i64).bind fun n14=>
    (opB (A.cell p8.leaves 5)).bind fun b15=>
    bif (A.bnot b15)then
     some (.inr (.val [(.sl 4 []),(.int .i64 n6),(.int .i64 2)]))
    else
     bif (A.fits l7 [[(.int .i64 n10),(.str s11),(.int .i64 n12),(.int .i64 n13)]] 40)then
      (E.call 43 [(.d (.str s5)),(.d (.int .i64 n14))]).bind fun p16=>
      (opI (A.cell p16.leaves 0) .i64).bind fun n18=>
      some (.inl [(.str s5),(.int .i64 n18),(.sl 4 (A.rapp l7 [[(.int .i64 n10),(.str s11),(.int .i64 n12),(.int .i64 n13)]]))])
     else
      none
   else
    bif (A.fits l7 [[(.int .i64 6),(.str (bs [])),(.int .i64 0),(.int .i64 (A.slen s5))]] 40)then
     some (.inr (.val [(.sl 4 (A.rapp l7 [[(.int .i64 6),(.str (bs [])),(.int .i64 0),(.int .i64 (A.slen s5))]])),(.int .i64 (A.slen s5)),(.int .i64 0)]))
    else
     none
  ) [(.str s_),(.int .i64 n3),(.sl 4 [])]
def g30 (A:Sy)(E:Env)(s_:ByteArray):Option PRes:=
 (E.call 61 [(.d (.str s_)),(.d (.int .u8 47))]).bind fun p1=>
 (opL (A.cell p1.leaves 0) 1).bind fun l3=>
 E.lp (fun ds4=>
  (opL (A.cell ds4 0) 1).bind fun l5=>
  (opI (A.cell ds4 1) .i64).bind fun n6=>
  bif (A.ilt n6 (A.rlen l5))then
   bif (A.inr n6 (A.rlen l5))then
    (opS (A.cell (A.row l5 n6) 0)).bind fun s7=>
    (E.call 61 [(.d (.str s7)),(.d (.int .u8 46))]).bind fun p8=>
    (opL (A.cell p8.leaves 0) 1).bind fun l10=>
    cutO (
     bif (A.ilt 2 (A.rlen l10))then
      some (.inl [(.bool true)])
     else
      bif (A.inr 0 (A.rlen l10))then
       (opS (A.cell (A.row l10 0) 0)).bind fun s11=>
       (E.call 62 [(.d (.str s11))]).bind fun p12=>
       (opB (A.cell p12.leaves 0)).bind fun b14=>
       some (.inl [(.bool (A.bnot b14))])
      else
       none
    ) fun ds15=>
    (opB (A.cell ds15 0)).bind fun b16=>
    bif b16 then
     some (.inr (.val [(.bool false)]))
    else
     bif (A.ilt (A.rlen l10) 2)then
      some (.inl [(.sl 1 l5),(.int .i64 (A.wrap .i64 (A.add n6 1)))])
     else
      bif (A.inr 1 (A.rlen l10))then
       (opS (A.cell (A.row l10 1) 0)).bind fun s17=>
       cutO (
        bif (A.ilt (A.slen s17) 1)then
         some (.inl [(.bool true)])
        else
         some (.inl [(.bool (A.ilt 3 (A.slen s17)))])
       ) fun ds18=>
       (opB (A.cell ds18 0)).bind fun b19=>
       cutO (
        bif b19 then
         some (.inl [(.bool true)])
        else
         bif (A.inr 0 (A.slen s17))then
          some (.inl [(.bool (A.ieq (A.sbyte s17 0) 48))])
         else
          none
       ) fun ds20=>
       (opB (A.cell ds20 0)).bind fun b21=>
       bif b21 then
        some (.inr (.val [(.bool false)]))
       else
        E.lp (fun ds22=>
         (opL (A.cell ds22 0) 1).bind fun l23=>
         (opI (A.cell ds22 1) .i64).bind fun n24=>
         (opS (A.cell ds22 2)).bind fun s25=>
         (opI (A.cell ds22 3) .i64).bind fun n26=>
         bif (A.ilt n26 (A.slen s25))then
          bif (A.inr n26 (A.slen s25))then
           (E.call 63 [(.d (.int .u8 (A.sbyte s25 n26))),(.d (.int .u8 48)),(.d (.int .u8 57))]).bind fun p27=>
           (opB (A.cell p27.leaves 0)).bind fun b29=>
           bif (A.bnot b29)then
            some (.inr (.inr (.val [(.bool false)])))
           else
            some (.inl [(.sl 1 l23),(.int .i64 n24),(.str s25),(.int .i64 (A.wrap .i64 (A.add n26 1)))])
          else
           none
         else
          some (.inr (.inl [(.sl 1 l23),(.int .i64 (A.wrap .i64 (A.add n24 1)))]))
        ) [(.sl 1 l5),(.int .i64 n6),(.str s17),(.int .i64 0)]
      else
       none
   else
    none
  else
   some (.inr (.val [(.bool true)]))
 ) [(.sl 1 l3),(.int .i64 0)]
theorem g30_eq (A:Sy)(E:Env)(s_:ByteArray):(funT A Tryz.prog cs 30 [.d (.str s_)]).run E=g30 A E s_:=by kernel_rfl
def g88 (A:Sy)(E:Env)(s_:ByteArray):Option PRes:=
 (E.call 111 [(.d (.str s_)),(.d (.int .u8 65)),(.d (.int .u8 90))]).bind fun p1=>
 (opB (A.cell p1.leaves 0)).bind fun b3=>
 some (.val [(.bool b3)])
theorem g88_eq (A:Sy)(E:Env)(s_:ByteArray):(funT A Tryz.prog cs 88 [.d (.str s_)]).run E=g88 A E s_:=by kernel_rfl
def g62 (A:Sy)(E:Env)(s_:ByteArray):Option PRes:=
 (E.call 111 [(.d (.str s_)),(.d (.int .u8 97)),(.d (.int .u8 122))]).bind fun p1=>
 (opB (A.cell p1.leaves 0)).bind fun b3=>
 cutO (
  bif b3 then
   (E.call 89 [(.d (.str s_))]).bind fun p4=>
   (opB (A.cell p4.leaves 0)).bind fun b6=>
   some (.inl [(.bool (A.bnot b6))])
  else
   some (.inl [(.bool false)])
 ) fun ds7=>
 (opB (A.cell ds7 0)).bind fun b8=>
 some (.val [(.bool b8)])
theorem g62_eq (A:Sy)(E:Env)(s_:ByteArray):(funT A Tryz.prog cs 62 [.d (.str s_)]).run E=g62 A E s_:=by kernel_rfl
def g89 (A:Sy)(E:Env)(s_:ByteArray):Option PRes:=
 (E.call 132 []).bind fun p1=>
 (opL (A.cell p1.leaves 0) 1).bind fun l3=>
 E.lp (fun ds4=>
  (opS (A.cell ds4 0)).bind fun s5=>
  (opL (A.cell ds4 1) 1).bind fun l6=>
  (opI (A.cell ds4 2) .i64).bind fun n7=>
  bif (A.ilt n7 (A.rlen l6))then
   bif (A.inr n7 (A.rlen l6))then
    (opS (A.cell (A.row l6 n7) 0)).bind fun s8=>
    bif (A.seq s8 s5)then
     some (.inr (.val [(.bool true)]))
    else
     some (.inl [(.str s5),(.sl 1 l6),(.int .i64 (A.wrap .i64 (A.add n7 1)))])
   else
    none
  else
   some (.inr (.val [(.bool false)]))
 ) [(.str s_),(.sl 1 l3),(.int .i64 0)]
theorem g89_eq (A:Sy)(E:Env)(s_:ByteArray):(funT A Tryz.prog cs 89 [.d (.str s_)]).run E=g89 A E s_:=by kernel_rfl
def g132 (A:Sy)(E:Env):Option PRes:=
 some (.own 9 1 [[(.str (bs [110,111,100,101]))],[(.str (bs [114,101,116,117,114,110,115]))],[(.str (bs [118,97,114]))],[(.str (bs [108,101,116]))],[(.str (bs [116,101,108]))],[(.str (bs [101,110,117,109]))],[(.str (bs [105,102]))],[(.str (bs [116,104,101,110]))],[(.str (bs [101,108,115,101]))],[(.str (bs [102,98,121]))],[(.str (bs [112,114,101]))],[(.str (bs [119,104,101,110]))],[(.str (bs [109,101,114,103,101]))],[(.str (bs [101,118,101,114,121]))],[(.str (bs [110,111,116]))],[(.str (bs [97,110,100]))],[(.str (bs [111,114]))],[(.str (bs [120,111,114]))],[(.str (bs [109,111,100]))],[(.str (bs [116,114,117,101]))],[(.str (bs [102,97,108,115,101]))],[(.str (bs [105,110,116]))],[(.str (bs [98,111,111,108]))],[(.str (bs [119,105,116,104]))]])
theorem g132_eq (A:Sy)(E:Env):(funT A Tryz.prog cs 132 []).run E=g132 A E:=by kernel_rfl
def g61 (A:Sy)(E:Env)(s_:ByteArray)(c_:Int):Option PRes:=
 E.lp (fun ds1=>
  (opS (A.cell ds1 0)).bind fun s2=>
  (opI (A.cell ds1 1) .u8).bind fun n3=>
  (opI (A.cell ds1 2) .i64).bind fun n4=>
  (opI (A.cell ds1 3) .i64).bind fun n5=>
  (opL (A.cell ds1 4) 1).bind fun l6=>
  bif (A.ile n5 (A.slen s2))then
   cutO (
    bif (A.ieq n5 (A.slen s2))then
     some (.inl [(.bool true)])
    else
     bif (A.inr n5 (A.slen s2))then
      some (.inl [(.bool (A.ieq (A.sbyte s2 n5) n3))])
     else
      none
   ) fun ds7=>
   (opB (A.cell ds7 0)).bind fun b8=>
   bif b8 then
    bif (A.cutok n4 n5 (A.slen s2))then
     bif (A.fits l6 [[(.str (A.scut s2 n4 n5))]] 16)then
      some (.inl [(.str s2),(.int .u8 n3),(.int .i64 (A.wrap .i64 (A.add n5 1))),(.int .i64 (A.wrap .i64 (A.add n5 1))),(.sl 1 (A.rapp l6 [[(.str (A.scut s2 n4 n5))]]))])
     else
      none
    else
     none
   else
    some (.inl [(.str s2),(.int .u8 n3),(.int .i64 n4),(.int .i64 (A.wrap .i64 (A.add n5 1))),(.sl 1 l6)])
  else
   some (.inr (.own 9 1 l6))
 ) [(.str s_),(.int .u8 c_),(.int .i64 0),(.int .i64 0),(.sl 1 [])]
theorem g61_eq (A:Sy)(E:Env)(s_:ByteArray)(c_:Int):(funT A Tryz.prog cs 61 [.d (.str s_),V.d (.int .u8 c_)]).run E=g61 A E s_ c_:=by kernel_rfl
def g63 (A:Sy)(E:Env)(c_:Int)(a_:Int)(b_:Int):Option PRes:=
 cutO (
  bif (A.ile a_ c_)then
   some (.inl [(.bool (A.ile c_ b_))])
  else
   some (.inl [(.bool false)])
 ) fun ds1=>
 (opB (A.cell ds1 0)).bind fun b2=>
 some (.val [(.bool b2)])
theorem g63_eq (A:Sy)(E:Env)(c_:Int)(a_:Int)(b_:Int):(funT A Tryz.prog cs 63 [.d (.int .u8 c_),V.d (.int .u8 a_),V.d (.int .u8 b_)]).run E=g63 A E c_ a_ b_:=by kernel_rfl
def g111 (A:Sy)(E:Env)(s_:ByteArray)(a_:Int)(b_:Int):Option PRes:=
 cutO (
  bif (A.ilt (A.slen s_) 1)then
   some (.inl [(.bool true)])
  else
   some (.inl [(.bool (A.ilt 12 (A.slen s_)))])
 ) fun ds1=>
 (opB (A.cell ds1 0)).bind fun b2=>
 cutO (
  bif b2 then
   some (.inl [(.bool true)])
  else
   bif (A.inr 0 (A.slen s_))then
    (E.call 63 [(.d (.int .u8 (A.sbyte s_ 0))),(.d (.int .u8 a_)),(.d (.int .u8 b_))]).bind fun p3=>
    (opB (A.cell p3.leaves 0)).bind fun b5=>
    some (.inl [(.bool (A.bnot b5))])
   else
    none
 ) fun ds6=>
 (opB (A.cell ds6 0)).bind fun b7=>
 bif b7 then
  some (.val [(.bool false)])
 else
  E.lp (fun ds8=>
   (opS (A.cell ds8 0)).bind fun s9=>
   (opI (A.cell ds8 1) .i64).bind fun n10=>
   bif (A.ilt n10 (A.slen s9))then
    bif (A.inr n10 (A.slen s9))then
     (E.call 63 [(.d (.int .u8 (A.sbyte s9 n10))),(.d (.int .u8 97)),(.d (.int .u8 122))]).bind fun p11=>
     (opB (A.cell p11.leaves 0)).bind fun b13=>
     cutO (
      bif (A.bnot b13)then
       bif (A.inr n10 (A.slen s9))then
        (E.call 63 [(.d (.int .u8 (A.sbyte s9 n10))),(.d (.int .u8 65)),(.d (.int .u8 90))]).bind fun p14=>
        (opB (A.cell p14.leaves 0)).bind fun b16=>
        some (.inl [(.bool (A.bnot b16))])
       else
        none
      else
       some (.inl [(.bool false)])
     ) fun ds17=>
     (opB (A.cell ds17 0)).bind fun b18=>
     cutO (
      bif b18 then
       bif (A.inr n10 (A.slen s9))then
        (E.call 63 [(.d (.int .u8 (A.sbyte s9 n10))),(.d (.int .u8 48)),(.d (.int .u8 57))]).bind fun p19=>
        (opB (A.cell p19.leaves 0)).bind fun b21=>
        some (.inl [(.bool (A.bnot b21))])
       else
        none
      else
       some (.inl [(.bool false)])
     ) fun ds22=>
     (opB (A.cell ds22 0)).bind fun b23=>
     cutO (
      bif b23 then
       bif (A.inr n10 (A.slen s9))then
        some (.inl [(.bool (A.bnot (A.ieq (A.sbyte s9 n10) 95)))])
       else
        none
      else
       some (.inl [(.bool false)])
     ) fun ds24=>
     (opB (A.cell ds24 0)).bind fun b25=>
     bif b25 then
      some (.inr (.val [(.bool false)]))
     else
      some (.inl [(.str s9),(.int .i64 (A.wrap .i64 (A.add n10 1)))])
    else
     none
   else
    some (.inr (.val [(.bool true)]))
  ) [(.str s_),(.int .i64 0)]
theorem g111_eq (A:Sy)(E:Env)(s_:ByteArray)(a_:Int)(b_:Int):(funT A Tryz.prog cs 111 [.d (.str s_),V.d (.int .u8 a_),V.d (.int .u8 b_)]).run E=g111 A E s_ a_ b_:=by kernel_rfl
end Go.Vm
end
