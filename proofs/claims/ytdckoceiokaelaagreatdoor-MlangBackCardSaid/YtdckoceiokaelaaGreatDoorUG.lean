/-
  Part UG of the proof. What is proved by the whole: the statement that the claim names, with no condition. This part: lemmas.
-/
import Derived.Test.YtdckoceiokaelaaGreatDoorUF
set_option linter.unusedSimpArgs false
set_option linter.unusedVariables false

section
set_option maxRecDepth 1000000
set_option maxHeartbeats 0
namespace Go.Vm
open Go.Proofs
def g70 (A:Sy)(E:Env)(c_:Int):Option PRes:=
 cutO (
  bif (A.ieq c_ 32)then
   some (.inl [(.bool true)])
  else
   some (.inl [(.bool (A.ieq c_ 9))])
 ) fun ds1=>
 (opB (A.cell ds1 0)).bind fun b2=>
 cutO (
  bif b2 then
   some (.inl [(.bool true)])
  else
   some (.inl [(.bool (A.ieq c_ 10))])
 ) fun ds3=>
 (opB (A.cell ds3 0)).bind fun b4=>
 cutO (
  bif b4 then
   some (.inl [(.bool true)])
  else
   some (.inl [(.bool (A.ieq c_ 13))])
 ) fun ds5=>
 (opB (A.cell ds5 0)).bind fun b6=>
 some (.val [(.bool b6)])
theorem g70_eq (A:Sy)(E:Env)(c_:Int):(funT A Tryz.prog cs 70 [.d (.int .u8 c_)]).run E=g70 A E c_:=by kernel_rfl
def g72 (A:Sy)(E:Env)(c_:Int):Option PRes:=
 some (.val [(.bool (A.bnot (A.ieq c_ 10)))])
theorem g72_eq (A:Sy)(E:Env)(c_:Int):(funT A Tryz.prog cs 72 [.d (.int .u8 c_)]).run E=g72 A E c_:=by kernel_rfl
def g73 (A:Sy)(E:Env)(c_:Int):Option PRes:=
 cutO (
  bif (A.ile 97 c_)then
   some (.inl [(.bool (A.ile c_ 122))])
  else
   some (.inl [(.bool false)])
 ) fun ds1=>
 (opB (A.cell ds1 0)).bind fun b2=>
 some (.val [(.bool b2)])
theorem g73_eq (A:Sy)(E:Env)(c_:Int):(funT A Tryz.prog cs 73 [.d (.int .u8 c_)]).run E=g73 A E c_:=by kernel_rfl
def g74 (A:Sy)(E:Env)(c_:Int):Option PRes:=
 cutO (
  bif (A.ile 65 c_)then
   some (.inl [(.bool (A.ile c_ 90))])
  else
   some (.inl [(.bool false)])
 ) fun ds1=>
 (opB (A.cell ds1 0)).bind fun b2=>
 some (.val [(.bool b2)])
theorem g74_eq (A:Sy)(E:Env)(c_:Int):(funT A Tryz.prog cs 74 [.d (.int .u8 c_)]).run E=g74 A E c_:=by kernel_rfl
def g76 (A:Sy)(E:Env)(c_:Int):Option PRes:=
 cutO (
  bif (A.ile 48 c_)then
   some (.inl [(.bool (A.ile c_ 57))])
  else
   some (.inl [(.bool false)])
 ) fun ds1=>
 (opB (A.cell ds1 0)).bind fun b2=>
 some (.val [(.bool b2)])
theorem g76_eq (A:Sy)(E:Env)(c_:Int):(funT A Tryz.prog cs 76 [.d (.int .u8 c_)]).run E=g76 A E c_:=by kernel_rfl
def g123 (A:Sy)(E:Env)(c_:Int):Option PRes:=
 (E.call 73 [(.d (.int .u8 c_))]).bind fun p1=>
 (opB (A.cell p1.leaves 0)).bind fun b3=>
 cutO (
  bif b3 then
   some (.inl [(.bool true)])
  else
   (E.call 74 [(.d (.int .u8 c_))]).bind fun p4=>
   (opB (A.cell p4.leaves 0)).bind fun b6=>
   some (.inl [(.bool b6)])
 ) fun ds7=>
 (opB (A.cell ds7 0)).bind fun b8=>
 cutO (
  bif b8 then
   some (.inl [(.bool true)])
  else
   (E.call 76 [(.d (.int .u8 c_))]).bind fun p9=>
   (opB (A.cell p9.leaves 0)).bind fun b11=>
   some (.inl [(.bool b11)])
 ) fun ds12=>
 (opB (A.cell ds12 0)).bind fun b13=>
 cutO (
  bif b13 then
   some (.inl [(.bool true)])
  else
   some (.inl [(.bool (A.ieq c_ 95))])
 ) fun ds14=>
 (opB (A.cell ds14 0)).bind fun b15=>
 some (.val [(.bool b15)])
theorem g123_eq (A:Sy)(E:Env)(c_:Int):(funT A Tryz.prog cs 123 [.d (.int .u8 c_)]).run E=g123 A E c_:=by kernel_rfl
def g69_70 (A:Sy)(E:Env)(s_:ByteArray):Option PRes:=
 E.lp (fun ds1=>
  (opS (A.cell ds1 0)).bind fun s2=>
  (opI (A.cell ds1 1) .i64).bind fun n3=>
  bif (A.ilt n3 (A.slen s2))then
   bif (A.inr n3 (A.slen s2))then
    (E.call 70 [(.d (.int .u8 (A.sbyte s2 n3)))]).bind fun p4=>
    (opB (A.cell p4.leaves 0)).bind fun b6=>
    bif b6 then
     some (.inl [(.str s2),(.int .i64 (A.wrap .i64 (A.add n3 1)))])
    else
     some (.inr (.val [(.int .i64 n3)]))
   else
    none
  else
   some (.inr (.val [(.int .i64 n3)]))
 ) [(.str s_),(.int .i64 0)]
theorem g69_70_eq (A:Sy)(E:Env)(s_:ByteArray):(funT A Tryz.prog cs 69 [.d (.str s_),V.fn 70 []]).run E=g69_70 A E s_:=by kernel_rfl
def g69_72 (A:Sy)(E:Env)(s_:ByteArray):Option PRes:=
 E.lp (fun ds1=>
  (opS (A.cell ds1 0)).bind fun s2=>
  (opI (A.cell ds1 1) .i64).bind fun n3=>
  bif (A.ilt n3 (A.slen s2))then
   bif (A.inr n3 (A.slen s2))then
    (E.call 72 [(.d (.int .u8 (A.sbyte s2 n3)))]).bind fun p4=>
    (opB (A.cell p4.leaves 0)).bind fun b6=>
    bif b6 then
     some (.inl [(.str s2),(.int .i64 (A.wrap .i64 (A.add n3 1)))])
    else
     some (.inr (.val [(.int .i64 n3)]))
   else
    none
  else
   some (.inr (.val [(.int .i64 n3)]))
 ) [(.str s_),(.int .i64 0)]
theorem g69_72_eq (A:Sy)(E:Env)(s_:ByteArray):(funT A Tryz.prog cs 69 [.d (.str s_),V.fn 72 []]).run E=g69_72 A E s_:=by kernel_rfl
def g69_123 (A:Sy)(E:Env)(s_:ByteArray):Option PRes:=
 E.lp (fun ds1=>
  (opS (A.cell ds1 0)).bind fun s2=>
  (opI (A.cell ds1 1) .i64).bind fun n3=>
  bif (A.ilt n3 (A.slen s2))then
   bif (A.inr n3 (A.slen s2))then
    (E.call 123 [(.d (.int .u8 (A.sbyte s2 n3)))]).bind fun p4=>
    (opB (A.cell p4.leaves 0)).bind fun b6=>
    bif b6 then
     some (.inl [(.str s2),(.int .i64 (A.wrap .i64 (A.add n3 1)))])
    else
     some (.inr (.val [(.int .i64 n3)]))
   else
    none
  else
   some (.inr (.val [(.int .i64 n3)]))
 ) [(.str s_),(.int .i64 0)]
theorem g69_123_eq (A:Sy)(E:Env)(s_:ByteArray):(funT A Tryz.prog cs 69 [.d (.str s_),V.fn 123 []]).run E=g69_123 A E s_:=by kernel_rfl
def g69_76 (A:Sy)(E:Env)(s_:ByteArray):Option PRes:=
 E.lp (fun ds1=>
  (opS (A.cell ds1 0)).bind fun s2=>
  (opI (A.cell ds1 1) .i64).bind fun n3=>
  bif (A.ilt n3 (A.slen s2))then
   bif (A.inr n3 (A.slen s2))then
    (E.call 76 [(.d (.int .u8 (A.sbyte s2 n3)))]).bind fun p4=>
    (opB (A.cell p4.leaves 0)).bind fun b6=>
    bif b6 then
     some (.inl [(.str s2),(.int .i64 (A.wrap .i64 (A.add n3 1)))])
    else
     some (.inr (.val [(.int .i64 n3)]))
   else
    none
  else
   some (.inr (.val [(.int .i64 n3)]))
 ) [(.str s_),(.int .i64 0)]
theorem g69_76_eq (A:Sy)(E:Env)(s_:ByteArray):(funT A Tryz.prog cs 69 [.d (.str s_),V.fn 76 []]).run E=g69_76 A E s_:=by kernel_rfl
def g37 (A:Sy)(E:Env)(s_:ByteArray):Option PRes:=
 E.lp (fun ds1=>
  (opS (A.cell ds1 0)).bind fun s2=>
  (opI (A.cell ds1 1) .i64).bind fun n3=>
  bif (A.cutok n3 (A.slen s2) (A.slen s2))then
   (E.call 69 [(.d (.str (A.scut s2 n3 (A.slen s2)))),(.fn 70 [])]).bind fun p4=>
   (opI (A.cell p4.leaves 0) .i64).bind fun n6=>
   bif (A.cutok (A.wrap .i64 (A.add n3 n6)) (A.slen s2) (A.slen s2))then
    (E.call 71 [(.d (.str (A.scut s2 (A.wrap .i64 (A.add n3 n6)) (A.slen s2)))),(.d (.str (bs [45,45])))]).bind fun p7=>
    (opB (A.cell p7.leaves 0)).bind fun b9=>
    bif b9 then
     bif (A.cutok (A.wrap .i64 (A.add n3 n6)) (A.slen s2) (A.slen s2))then
      (E.call 69 [(.d (.str (A.scut s2 (A.wrap .i64 (A.add n3 n6)) (A.slen s2)))),(.fn 72 [])]).bind fun p10=>
      (opI (A.cell p10.leaves 0) .i64).bind fun n12=>
      some (.inl [(.str s2),(.int .i64 (A.wrap .i64 (A.add (A.wrap .i64 (A.add n3 n6)) n12)))])
     else
      none
    else
     some (.inr (.val [(.int .i64 (A.wrap .i64 (A.add n3 n6)))]))
   else
    none
  else
   none
 ) [(.str s_),(.int .i64 0)]
theorem g37_eq (A:Sy)(E:Env)(s_:ByteArray):(funT A Tryz.prog cs 37 [.d (.str s_)]).run E=g37 A E s_:=by kernel_rfl
def g75 (A:Sy)(E:Env)(s_:ByteArray):Option PRes:=
 (E.call 69 [(.d (.str s_)),(.fn 123 [])]).bind fun p1=>
 (opI (A.cell p1.leaves 0) .i64).bind fun n3=>
 bif (A.cutok 0 n3 (A.slen s_))then
  bif (A.inr 0 (A.slen (A.scut s_ 0 n3)))then
   (E.call 74 [(.d (.int .u8 (A.sbyte (A.scut s_ 0 n3) 0)))]).bind fun p4=>
   (opB (A.cell p4.leaves 0)).bind fun b6=>
   bif b6 then
    (E.call 124 [(.d (.str (A.scut s_ 0 n3)))]).bind fun p7=>
    (opB (A.cell p7.leaves 0)).bind fun b9=>
    some (.val [(.int .i64 2),(.str (A.scut s_ 0 n3)),(.int .i64 0),(.int .i64 0),(.int .i64 (A.slen (A.scut s_ 0 n3))),(.bool b9)])
   else
    (E.call 95 [(.d (.str (A.scut s_ 0 n3)))]).bind fun p10=>
    (opB (A.cell p10.leaves 0)).bind fun b12=>
    cutO (
     bif b12 then
      some (.inl [(.bool true)])
     else
      (E.call 125 [(.d (.str (A.scut s_ 0 n3)))]).bind fun p13=>
      (opB (A.cell p13.leaves 0)).bind fun b15=>
      some (.inl [(.bool b15)])
    ) fun ds16=>
    (opB (A.cell ds16 0)).bind fun b17=>
    some (.val [(.int .i64 1),(.str (A.scut s_ 0 n3)),(.int .i64 0),(.int .i64 0),(.int .i64 (A.slen (A.scut s_ 0 n3))),(.bool b17)])
  else
   none
 else
  none
theorem g75_eq (A:Sy)(E:Env)(s_:ByteArray):(funT A Tryz.prog cs 75 [.d (.str s_)]).run E=g75 A E s_:=by kernel_rfl
def g77 (A:Sy)(E:Env)(s_:ByteArray):Option PRes:=
 (E.call 69 [(.d (.str s_)),(.fn 76 [])]).bind fun p1=>
 (opI (A.cell p1.leaves 0) .i64).bind fun n3=>
 bif (A.cutok 0 n3 (A.slen s_))then
  bif (A.ile (A.slen (A.scut s_ 0 n3)) 1000000)then
   cutO (
    bif (A.pok (A.scut s_ 0 n3))then
     bif (A.inr 0 (A.slen (A.scut s_ 0 n3)))then
      bif (A.bnot (A.ieq (A.sbyte (A.scut s_ 0 n3) 0) 48))then
       some (.inl [(.bool true)])
      else
       some (.inl [(.bool (A.ieq (A.slen (A.scut s_ 0 n3)) 1))])
     else
      none
    else
     some (.inl [(.bool false)])
   ) fun ds4=>
   (opB (A.cell ds4 0)).bind fun b5=>
   some (.val [(.int .i64 3),(.str (A.scut s_ 0 n3)),(.int .i64 (A.pnum (A.scut s_ 0 n3))),(.int .i64 0),(.int .i64 (A.slen (A.scut s_ 0 n3))),(.bool b5)])
  else
   none
 else
  none
theorem g77_eq (A:Sy)(E:Env)(s_:ByteArray):(funT A Tryz.prog cs 77 [.d (.str s_)]).run E=g77 A E s_:=by kernel_rfl
def g78 (A:Sy)(E:Env)(s_:ByteArray):Option PRes:=
 bif (A.cutok 1 (A.slen s_) (A.slen s_))then
  (E.call 127 [(.d (.str (A.scut s_ 1 (A.slen s_)))),(.d (.str (bs [39])))]).bind fun p1=>
  (opI (A.cell p1.leaves 0) .i64).bind fun n3=>
  bif (A.ilt n3 0)then
   some (.val [(.int .i64 0),(.str (bs [])),(.int .i64 0),(.int .i64 0),(.int .i64 0),(.bool false)])
  else
   bif (A.cutok 1 (A.wrap .i64 (A.add n3 1)) (A.slen s_))then
    (E.call 24 [(.d (.str (A.scut s_ 1 (A.wrap .i64 (A.add n3 1)))))]).bind fun p4=>
    (opB (A.cell p4.leaves 0)).bind fun b6=>
    some (.val [(.int .i64 4),(.str (A.scut s_ 1 (A.wrap .i64 (A.add n3 1)))),(.int .i64 0),(.int .i64 0),(.int .i64 (A.wrap .i64 (A.add n3 2))),(.bool b6)])
   else
    none
 else
  none
theorem g78_eq (A:Sy)(E:Env)(s_:ByteArray):(funT A Tryz.prog cs 78 [.d (.str s_)]).run E=g78 A E s_:=by kernel_rfl
def g79 (A:Sy)(E:Env)(s_:ByteArray):Option PRes:=
 (E.call 128 [(.d (.str (bs [58,61,32,45,62,32,60,61,32,62,61,32,60,62])))]).bind fun p1=>
 (opL (A.cell p1.leaves 0) 1).bind fun l3=>
 E.lp (fun ds4=>
  (opS (A.cell ds4 0)).bind fun s5=>
  (opL (A.cell ds4 1) 1).bind fun l6=>
  (opI (A.cell ds4 2) .i64).bind fun n7=>
  (opI (A.cell ds4 3) .i64).bind fun n8=>
  (opI (A.cell ds4 4) .i64).bind fun n9=>
  (opS (A.cell ds4 5)).bind fun s10=>
  (opI (A.cell ds4 6) .i64).bind fun n11=>
  (opI (A.cell ds4 7) .i64).bind fun n12=>
  bif (A.ilt n8 n7)then
   bif (A.inr n8 (A.rlen l6))then
    (opS (A.cell (A.row l6 n8) 0)).bind fun s13=>
    (E.call 71 [(.d (.str s5)),(.d (.str s13))]).bind fun p14=>
    (opB (A.cell p14.leaves 0)).bind fun b16=>
    bif b16 then
     some (.inr (.val [(.int .i64 5),(.str s13),(.int .i64 0),(.int .i64 0),(.int .i64 (A.slen s13)),(.bool true)]))
    else
     some (.inl [(.str s5),(.sl 1 l6),(.int .i64 n7),(.int .i64 (A.wrap .i64 (A.add n8 1))),(.int .i64 n9),(.str s10),(.int .i64 n11),(.int .i64 n12)])
   else
    none
  else
   bif (A.inr 0 (A.slen s5))then
    (E.call 129 [(.d (.str (bs [40,41,123,125,91,93,44,59,58,61,60,62,43,45,42,47]))),(.d (.int .u8 (A.sbyte s5 0)))]).bind fun p17=>
    (opI (A.cell p17.leaves 0) .i64).bind fun n19=>
    bif (A.ilt n19 0)then
     some (.inr (.val [(.int .i64 0),(.str (bs [])),(.int .i64 0),(.int .i64 0),(.int .i64 0),(.bool false)]))
    else
     bif (A.cutok 0 1 (A.slen s5))then
      some (.inr (.val [(.int .i64 5),(.str (A.scut s5 0 1)),(.int .i64 0),(.int .i64 0),(.int .i64 1),(.bool true)]))
     else
      none
   else
    none
 ) [(.str s_),(.sl 1 l3),(.int .i64 (A.rlen l3)),(.int .i64 0),(.int .i64 0),(.str (bs [])),(.int .i64 0),(.int .i64 0)]
theorem g79_eq (A:Sy)(E:Env)(s_:ByteArray):(funT A Tryz.prog cs 79 [.d (.str s_)]).run E=g79 A E s_:=by kernel_rfl
def g38 (A:Sy)(E:Env)(s_:ByteArray):Option PRes:=
 bif (A.inr 0 (A.slen s_))then
  (E.call 73 [(.d (.int .u8 (A.sbyte s_ 0)))]).bind fun p1=>
  (opB (A.cell p1.leaves 0)).bind fun b3=>
  bif b3 then
   (E.call 75 [(.d (.str s_))]).bind fun p4=>
   (opI (A.cell p4.leaves 0) .i64).bind fun n6=>
   (opS (A.cell p4.leaves 1)).bind fun s7=>
   (opI (A.cell p4.leaves 2) .i64).bind fun n8=>
   (opI (A.cell p4.leaves 3) .i64).bind fun n9=>
   (opI (A.cell p4.leaves 4) .i64).bind fun n10=>
   (opB (A.cell p4.leaves 5)).bind fun b11=>
   some (.val [(.int .i64 n6),(.str s7),(.int .i64 n8),(.int .i64 n9),(.int .i64 n10),(.bool b11)])
  else
   (E.call 74 [(.d (.int .u8 (A.sbyte s_ 0)))]).bind fun p12=>
   (opB (A.cell p12.leaves 0)).bind fun b14=>
   bif b14 then
    (E.call 75 [(.d (.str s_))]).bind fun p15=>
    (opI (A.cell p15.leaves 0) .i64).bind fun n17=>
    (opS (A.cell p15.leaves 1)).bind fun s18=>
    (opI (A.cell p15.leaves 2) .i64).bind fun n19=>
    (opI (A.cell p15.leaves 3) .i64).bind fun n20=>
    (opI (A.cell p15.leaves 4) .i64).bind fun n21=>
    (opB (A.cell p15.leaves 5)).bind fun b22=>
    some (.val [(.int .i64 n17),(.str s18),(.int .i64 n19),(.int .i64 n20),(.int .i64 n21),(.bool b22)])
   else
    (E.call 76 [(.d (.int .u8 (A.sbyte s_ 0)))]).bind fun p23=>
    (opB (A.cell p23.leaves 0)).bind fun b25=>
    bif b25 then
     (E.call 77 [(.d (.str s_))]).bind fun p26=>
     (opI (A.cell p26.leaves 0) .i64).bind fun n28=>
     (opS (A.cell p26.leaves 1)).bind fun s29=>
     (opI (A.cell p26.leaves 2) .i64).bind fun n30=>
     (opI (A.cell p26.leaves 3) .i64).bind fun n31=>
     (opI (A.cell p26.leaves 4) .i64).bind fun n32=>
     (opB (A.cell p26.leaves 5)).bind fun b33=>
     some (.val [(.int .i64 n28),(.str s29),(.int .i64 n30),(.int .i64 n31),(.int .i64 n32),(.bool b33)])
    else
     bif (A.cutok 0 1 (A.slen s_))then
      bif (A.seq (A.scut s_ 0 1) (bs [39]))then
       (E.call 78 [(.d (.str s_))]).bind fun p34=>
       (opI (A.cell p34.leaves 0) .i64).bind fun n36=>
       (opS (A.cell p34.leaves 1)).bind fun s37=>
       (opI (A.cell p34.leaves 2) .i64).bind fun n38=>
       (opI (A.cell p34.leaves 3) .i64).bind fun n39=>
       (opI (A.cell p34.leaves 4) .i64).bind fun n40=>
       (opB (A.cell p34.leaves 5)).bind fun b41=>
       some (.val [(.int .i64 n36),(.str s37),(.int .i64 n38),(.int .i64 n39),(.int .i64 n40),(.bool b41)])
      else
       (E.call 79 [(.d (.str s_))]).bind fun p42=>
       (opI (A.cell p42.leaves 0) .i64).bind fun n44=>
       (opS (A.cell p42.leaves 1)).bind fun s45=>
       (opI (A.cell p42.leaves 2) .i64).bind fun n46=>
       (opI (A.cell p42.leaves 3) .i64).bind fun n47=>
       (opI (A.cell p42.leaves 4) .i64).bind fun n48=>
       (opB (A.cell p42.leaves 5)).bind fun b49=>
       some (.val [(.int .i64 n44),(.str s45),(.int .i64 n46),(.int .i64 n47),(.int .i64 n48),(.bool b49)])
     else
      none
 else
  none
theorem g38_eq (A:Sy)(E:Env)(s_:ByteArray):(funT A Tryz.prog cs 38 [.d (.str s_)]).run E=g38 A E s_:=by kernel_rfl
def g15 (A:Sy)(E:Env)(s_:ByteArray)(most_:Int):Option PRes:=
 bif (A.ilt most_ (A.slen s_))then
  some (.val [(.sl 4 []),(.int .i64 most_),(.int .i64 3)])
 else
  E.lp (fun ds1=>
   (opS (A.cell ds1 0)).bind fun s2=>
   (opI (A.cell ds1 1) .i64).bind fun n3=>
   (opL (A.cell ds1 2) 4).bind fun l4=>
   bif (A.cutok n3 (A.slen s2) (A.slen s2))then
    (E.call 37 [(.d (.str (A.scut s2 n3 (A.slen s2))))]).bind fun p5=>
    (opI (A.cell p5.leaves 0) .i64).bind fun n7=>
    bif (A.ieq (A.wrap .i64 (A.add n3 n7)) (A.slen s2))then
     bif (A.fits l4 [[(.int .i64 6),(.str (bs [])),(.int .i64 0),(.int .i64 (A.slen s2))]] 40)then
      some (.inr (.val [(.sl 4 (A.rapp l4 [[(.int .i64 6),(.str (bs [])),(.int .i64 0),(.int .i64 (A.slen s2))]])),(.int .i64 (A.slen s2)),(.int .i64 0)]))
     else
      none
    else
     bif (A.cutok (A.wrap .i64 (A.add n3 n7)) (A.slen s2) (A.slen s2))then
      (E.call 38 [(.d (.str (A.scut s2 (A.wrap .i64 (A.add n3 n7)) (A.slen s2))))]).bind fun p8=>
      (opI (A.cell p8.leaves 0) .i64).bind fun n10=>
      (opS (A.cell p8.leaves 1)).bind fun s11=>
      (opI (A.cell p8.leaves 2) .i64).bind fun n12=>
      (opI (A.cell p8.leaves 3) .i64).bind fun n13=>
      (opI (A.cell p8.leaves 4) .i64).bind fun n14=>
      (opB (A.cell p8.leaves 5)).bind fun b15=>
      bif (A.bnot b15)then
       some (.inr (.val [(.sl 4 []),(.int .i64 (A.wrap .i64 (A.add n3 n7))),(.int .i64 2)]))
      else
       bif (A.fits l4 [[(.int .i64 n10),(.str s11),(.int .i64 n12),(.int .i64 (A.wrap .i64 (A.add n3 n7)))]] 40)then
        some (.inl [(.str s2),(.int .i64 (A.wrap .i64 (A.add (A.wrap .i64 (A.add n3 n7)) n14))),(.sl 4 (A.rapp l4 [[(.int .i64 n10),(.str s11),(.int .i64 n12),(.int .i64 (A.wrap .i64 (A.add n3 n7)))]]))])
       else
        none
     else
      none
   else
    none
  ) [(.str s_),(.int .i64 0),(.sl 4 [])]
theorem g15_eq (A:Sy)(E:Env)(s_:ByteArray)(most_:Int):(funT A Tryz.prog cs 15 [.d (.str s_),V.d (.int .i64 most_)]).run E=g15 A E s_ most_:=by kernel_rfl
def g71 (A:Sy)(E:Env)(s_:ByteArray)(prefix_:ByteArray):Option PRes:=
 (E.call 122 [(.d (.str s_)),(.d (.str prefix_))]).bind fun p1=>
 (opB (A.cell p1.leaves 0)).bind fun b3=>
 some (.val [(.bool b3)])
theorem g71_eq (A:Sy)(E:Env)(s_:ByteArray)(prefix_:ByteArray):(funT A Tryz.prog cs 71 [.d (.str s_),V.d (.str prefix_)]).run E=g71 A E s_ prefix_:=by kernel_rfl
def g122 (A:Sy)(E:Env)(s_:ByteArray)(prefix_:ByteArray):Option PRes:=
 bif (A.ile (A.slen prefix_) (A.slen s_))then
  bif (A.cutok 0 (A.slen prefix_) (A.slen s_))then
   some (.val [(.bool (A.seq (A.scut s_ 0 (A.slen prefix_)) prefix_))])
  else
   none
 else
  some (.val [(.bool false)])
theorem g122_eq (A:Sy)(E:Env)(s_:ByteArray)(prefix_:ByteArray):(funT A Tryz.prog cs 122 [.d (.str s_),V.d (.str prefix_)]).run E=g122 A E s_ prefix_:=by kernel_rfl
def g129 (A:Sy)(E:Env)(s_:ByteArray)(c_:Int):Option PRes:=
 (E.call 165 [(.d (.str s_)),(.d (.int .u8 c_))]).bind fun p1=>
 (opI (A.cell p1.leaves 0) .i64).bind fun n3=>
 some (.val [(.int .i64 n3)])
theorem g129_eq (A:Sy)(E:Env)(s_:ByteArray)(c_:Int):(funT A Tryz.prog cs 129 [.d (.str s_),V.d (.int .u8 c_)]).run E=g129 A E s_ c_:=by kernel_rfl
end Go.Vm
end

section
set_option maxRecDepth 1000000
set_option maxHeartbeats 0
namespace Go.Vm
open Go.Proofs
def g139 (A:Sy)(E:Env)(c_:Int):Option PRes:=
 cutO (
  bif (A.ile 97 c_)then
   some (.inl [(.bool (A.ile c_ 122))])
  else
   some (.inl [(.bool false)])
 ) fun ds1=>
 (opB (A.cell ds1 0)).bind fun b2=>
 some (.val [(.bool b2)])
theorem g139_eq (A:Sy)(E:Env)(c_:Int):(funT A Tryz.prog cs 139 [.d (.int .i32 c_)]).run E=g139 A E c_:=by kernel_rfl
def g159 (A:Sy)(E:Env)(c_:Int):Option PRes:=
 cutO (
  bif (A.ile 65 c_)then
   some (.inl [(.bool (A.ile c_ 90))])
  else
   some (.inl [(.bool false)])
 ) fun ds1=>
 (opB (A.cell ds1 0)).bind fun b2=>
 some (.val [(.bool b2)])
theorem g159_eq (A:Sy)(E:Env)(c_:Int):(funT A Tryz.prog cs 159 [.d (.int .i32 c_)]).run E=g159 A E c_:=by kernel_rfl
def g140 (A:Sy)(E:Env)(c_:Int):Option PRes:=
 cutO (
  bif (A.ile 48 c_)then
   some (.inl [(.bool (A.ile c_ 57))])
  else
   some (.inl [(.bool false)])
 ) fun ds1=>
 (opB (A.cell ds1 0)).bind fun b2=>
 some (.val [(.bool b2)])
theorem g140_eq (A:Sy)(E:Env)(c_:Int):(funT A Tryz.prog cs 140 [.d (.int .i32 c_)]).run E=g140 A E c_:=by kernel_rfl
def g125 (A:Sy)(E:Env)(s_:ByteArray):Option PRes:=
 bif (A.seq s_ (bs [110,111,100,101]))then
  some (.val [(.bool true)])
 else
  bif (A.seq s_ (bs [114,101,116,117,114,110,115]))then
   some (.val [(.bool true)])
  else
   bif (A.seq s_ (bs [118,97,114]))then
    some (.val [(.bool true)])
   else
    bif (A.seq s_ (bs [108,101,116]))then
     some (.val [(.bool true)])
    else
     bif (A.seq s_ (bs [116,101,108]))then
      some (.val [(.bool true)])
     else
      bif (A.seq s_ (bs [101,110,117,109]))then
       some (.val [(.bool true)])
      else
       bif (A.seq s_ (bs [105,102]))then
        some (.val [(.bool true)])
       else
        bif (A.seq s_ (bs [116,104,101,110]))then
         some (.val [(.bool true)])
        else
         bif (A.seq s_ (bs [101,108,115,101]))then
          some (.val [(.bool true)])
         else
          bif (A.seq s_ (bs [102,98,121]))then
           some (.val [(.bool true)])
          else
           bif (A.seq s_ (bs [112,114,101]))then
            some (.val [(.bool true)])
           else
            bif (A.seq s_ (bs [119,104,101,110]))then
             some (.val [(.bool true)])
            else
             bif (A.seq s_ (bs [109,101,114,103,101]))then
              some (.val [(.bool true)])
             else
              bif (A.seq s_ (bs [101,118,101,114,121]))then
               some (.val [(.bool true)])
              else
               bif (A.seq s_ (bs [110,111,116]))then
                some (.val [(.bool true)])
               else
                bif (A.seq s_ (bs [97,110,100]))then
                 some (.val [(.bool true)])
                else
                 bif (A.seq s_ (bs [111,114]))then
                  some (.val [(.bool true)])
                 else
                  bif (A.seq s_ (bs [120,111,114]))then
                   some (.val [(.bool true)])
                  else
                   bif (A.seq s_ (bs [109,111,100]))then
                    some (.val [(.bool true)])
                   else
                    bif (A.seq s_ (bs [116,114,117,101]))then
                     some (.val [(.bool true)])
                    else
                     bif (A.seq s_ (bs [102,97,108,115,101]))then
                      some (.val [(.bool true)])
                     else
                      bif (A.seq s_ (bs [105,110,116]))then
                       some (.val [(.bool true)])
                      else
                       bif (A.seq s_ (bs [98,111,111,108]))then
                        some (.val [(.bool true)])
                       else
                        bif (A.seq s_ (bs [119,105,116,104]))then
                         some (.val [(.bool true)])
                        else
                         some (.val [(.bool false)])
theorem g125_eq (A:Sy)(E:Env)(s_:ByteArray):(funT A Tryz.prog cs 125 [.d (.str s_)]).run E=g125 A E s_:=by kernel_rfl
def g138_139 (A:Sy)(E:Env)(s_:ByteArray):Option PRes:=
 E.lp (fun ds1=>
  (opS (A.cell ds1 0)).bind fun s2=>
  (opS (A.cell ds1 1)).bind fun s3=>
  (opI (A.cell ds1 2) .i64).bind fun n4=>
  bif (A.ilt n4 (A.slen s3))then
   bif (A.ieq n4 0)then
    (E.call 139 [(.d (.int .i32 (A.rdec s3 n4)))]).bind fun p5=>
    (opB (A.cell p5.leaves 0)).bind fun b7=>
    cutO (
     bif (A.bnot b7)then
      some (.inl [(.bool true)])
     else
      (E.call 139 [(.d (.int .i32 (A.rdec s3 n4)))]).bind fun p8=>
      (opB (A.cell p8.leaves 0)).bind fun b10=>
      bif (A.bnot b10)then
       (E.call 159 [(.d (.int .i32 (A.rdec s3 n4)))]).bind fun p11=>
       (opB (A.cell p11.leaves 0)).bind fun b13=>
       bif (A.bnot b13)then
        (E.call 140 [(.d (.int .i32 (A.rdec s3 n4)))]).bind fun p14=>
        (opB (A.cell p14.leaves 0)).bind fun b16=>
        bif (A.bnot b16)then
         some (.inl [(.bool (A.bnot (A.ieq (A.rdec s3 n4) 95)))])
        else
         some (.inl [(.bool false)])
       else
        some (.inl [(.bool false)])
      else
       some (.inl [(.bool false)])
    ) fun ds17=>
    (opB (A.cell ds17 0)).bind fun b18=>
    bif b18 then
     some (.inr (.val [(.bool false)]))
    else
     some (.inl [(.str s2),(.str s3),(.int .i64 (A.add n4 (A.rwid s3 n4)))])
   else
    cutO (
     (E.call 139 [(.d (.int .i32 (A.rdec s3 n4)))]).bind fun p19=>
     (opB (A.cell p19.leaves 0)).bind fun b21=>
     bif (A.bnot b21)then
      (E.call 159 [(.d (.int .i32 (A.rdec s3 n4)))]).bind fun p22=>
      (opB (A.cell p22.leaves 0)).bind fun b24=>
      bif (A.bnot b24)then
       (E.call 140 [(.d (.int .i32 (A.rdec s3 n4)))]).bind fun p25=>
       (opB (A.cell p25.leaves 0)).bind fun b27=>
       bif (A.bnot b27)then
        some (.inl [(.bool (A.bnot (A.ieq (A.rdec s3 n4) 95)))])
       else
        some (.inl [(.bool false)])
      else
       some (.inl [(.bool false)])
     else
      some (.inl [(.bool false)])
    ) fun ds28=>
    (opB (A.cell ds28 0)).bind fun b29=>
    bif b29 then
     some (.inr (.val [(.bool false)]))
    else
     some (.inl [(.str s2),(.str s3),(.int .i64 (A.add n4 (A.rwid s3 n4)))])
  else
   cutO (
    bif (A.ile 1 (A.slen s2))then
     some (.inl [(.bool (A.ile (A.slen s2) 12))])
    else
     some (.inl [(.bool false)])
   ) fun ds30=>
   (opB (A.cell ds30 0)).bind fun b31=>
   some (.inr (.val [(.bool b31)]))
 ) [(.str s_),(.str s_),(.int .i64 0)]
theorem g138_139_eq (A:Sy)(E:Env)(s_:ByteArray):(funT A Tryz.prog cs 138 [.d (.str s_),V.fn 139 []]).run E=g138_139 A E s_:=by kernel_rfl
def g138_159 (A:Sy)(E:Env)(s_:ByteArray):Option PRes:=
 E.lp (fun ds1=>
  (opS (A.cell ds1 0)).bind fun s2=>
  (opS (A.cell ds1 1)).bind fun s3=>
  (opI (A.cell ds1 2) .i64).bind fun n4=>
  bif (A.ilt n4 (A.slen s3))then
   bif (A.ieq n4 0)then
    (E.call 159 [(.d (.int .i32 (A.rdec s3 n4)))]).bind fun p5=>
    (opB (A.cell p5.leaves 0)).bind fun b7=>
    cutO (
     bif (A.bnot b7)then
      some (.inl [(.bool true)])
     else
      (E.call 139 [(.d (.int .i32 (A.rdec s3 n4)))]).bind fun p8=>
      (opB (A.cell p8.leaves 0)).bind fun b10=>
      bif (A.bnot b10)then
       (E.call 159 [(.d (.int .i32 (A.rdec s3 n4)))]).bind fun p11=>
       (opB (A.cell p11.leaves 0)).bind fun b13=>
       bif (A.bnot b13)then
        (E.call 140 [(.d (.int .i32 (A.rdec s3 n4)))]).bind fun p14=>
        (opB (A.cell p14.leaves 0)).bind fun b16=>
        bif (A.bnot b16)then
         some (.inl [(.bool (A.bnot (A.ieq (A.rdec s3 n4) 95)))])
        else
         some (.inl [(.bool false)])
       else
        some (.inl [(.bool false)])
      else
       some (.inl [(.bool false)])
    ) fun ds17=>
    (opB (A.cell ds17 0)).bind fun b18=>
    bif b18 then
     some (.inr (.val [(.bool false)]))
    else
     some (.inl [(.str s2),(.str s3),(.int .i64 (A.add n4 (A.rwid s3 n4)))])
   else
    cutO (
     (E.call 139 [(.d (.int .i32 (A.rdec s3 n4)))]).bind fun p19=>
     (opB (A.cell p19.leaves 0)).bind fun b21=>
     bif (A.bnot b21)then
      (E.call 159 [(.d (.int .i32 (A.rdec s3 n4)))]).bind fun p22=>
      (opB (A.cell p22.leaves 0)).bind fun b24=>
      bif (A.bnot b24)then
       (E.call 140 [(.d (.int .i32 (A.rdec s3 n4)))]).bind fun p25=>
       (opB (A.cell p25.leaves 0)).bind fun b27=>
       bif (A.bnot b27)then
        some (.inl [(.bool (A.bnot (A.ieq (A.rdec s3 n4) 95)))])
       else
        some (.inl [(.bool false)])
      else
       some (.inl [(.bool false)])
     else
      some (.inl [(.bool false)])
    ) fun ds28=>
    (opB (A.cell ds28 0)).bind fun b29=>
    bif b29 then
     some (.inr (.val [(.bool false)]))
    else
     some (.inl [(.str s2),(.str s3),(.int .i64 (A.add n4 (A.rwid s3 n4)))])
  else
   cutO (
    bif (A.ile 1 (A.slen s2))then
     some (.inl [(.bool (A.ile (A.slen s2) 12))])
    else
     some (.inl [(.bool false)])
   ) fun ds30=>
   (opB (A.cell ds30 0)).bind fun b31=>
   some (.inr (.val [(.bool b31)]))
 ) [(.str s_),(.str s_),(.int .i64 0)]
theorem g138_159_eq (A:Sy)(E:Env)(s_:ByteArray):(funT A Tryz.prog cs 138 [.d (.str s_),V.fn 159 []]).run E=g138_159 A E s_:=by kernel_rfl
def g95 (A:Sy)(E:Env)(s_:ByteArray):Option PRes:=
 (E.call 138 [(.d (.str s_)),(.fn 139 [])]).bind fun p1=>
 (opB (A.cell p1.leaves 0)).bind fun b3=>
 cutO (
  bif b3 then
   (E.call 125 [(.d (.str s_))]).bind fun p4=>
   (opB (A.cell p4.leaves 0)).bind fun b6=>
   some (.inl [(.bool (A.bnot b6))])
  else
   some (.inl [(.bool false)])
 ) fun ds7=>
 (opB (A.cell ds7 0)).bind fun b8=>
 some (.val [(.bool b8)])
theorem g95_eq (A:Sy)(E:Env)(s_:ByteArray):(funT A Tryz.prog cs 95 [.d (.str s_)]).run E=g95 A E s_:=by kernel_rfl
def g124 (A:Sy)(E:Env)(s_:ByteArray):Option PRes:=
 (E.call 138 [(.d (.str s_)),(.fn 159 [])]).bind fun p1=>
 (opB (A.cell p1.leaves 0)).bind fun b3=>
 some (.val [(.bool b3)])
theorem g124_eq (A:Sy)(E:Env)(s_:ByteArray):(funT A Tryz.prog cs 124 [.d (.str s_)]).run E=g124 A E s_:=by kernel_rfl
def g96 (A:Sy)(E:Env)(s_:ByteArray):Option PRes:=
 E.lp (fun ds1=>
  (opS (A.cell ds1 0)).bind fun s2=>
  (opS (A.cell ds1 1)).bind fun s3=>
  (opI (A.cell ds1 2) .i64).bind fun n4=>
  bif (A.ilt n4 (A.slen s3))then
   (E.call 140 [(.d (.int .i32 (A.rdec s3 n4)))]).bind fun p5=>
   (opB (A.cell p5.leaves 0)).bind fun b7=>
   cutO (
    bif (A.bnot b7)then
     some (.inl [(.bool true)])
    else
     bif (A.ieq n4 0)then
      some (.inl [(.bool (A.ieq (A.rdec s3 n4) 48))])
     else
      some (.inl [(.bool false)])
   ) fun ds8=>
   (opB (A.cell ds8 0)).bind fun b9=>
   bif b9 then
    some (.inr (.val [(.bool false)]))
   else
    some (.inl [(.str s2),(.str s3),(.int .i64 (A.add n4 (A.rwid s3 n4)))])
  else
   cutO (
    bif (A.ile 1 (A.slen s2))then
     some (.inl [(.bool (A.ile (A.slen s2) 3))])
    else
     some (.inl [(.bool false)])
   ) fun ds10=>
   (opB (A.cell ds10 0)).bind fun b11=>
   some (.inr (.val [(.bool b11)]))
 ) [(.str s_),(.str s_),(.int .i64 0)]
theorem g96_eq (A:Sy)(E:Env)(s_:ByteArray):(funT A Tryz.prog cs 96 [.d (.str s_)]).run E=g96 A E s_:=by kernel_rfl
def g52 (A:Sy)(E:Env)(s_:ByteArray):Option PRes:=
 (E.call 94 [(.d (.str s_)),(.d (.str (bs [46])))]).bind fun p1=>
 (opS (A.cell p1.leaves 0)).bind fun s3=>
 (opS (A.cell p1.leaves 1)).bind fun s4=>
 (opB (A.cell p1.leaves 2)).bind fun b5=>
 (E.call 95 [(.d (.str s3))]).bind fun p6=>
 (opB (A.cell p6.leaves 0)).bind fun b8=>
 cutO (
  bif b8 then
   bif (A.bnot b5)then
    some (.inl [(.bool true)])
   else
    (E.call 96 [(.d (.str s4))]).bind fun p9=>
    (opB (A.cell p9.leaves 0)).bind fun b11=>
    some (.inl [(.bool b11)])
  else
   some (.inl [(.bool false)])
 ) fun ds12=>
 (opB (A.cell ds12 0)).bind fun b13=>
 some (.val [(.bool b13)])
theorem g52_eq (A:Sy)(E:Env)(s_:ByteArray):(funT A Tryz.prog cs 52 [.d (.str s_)]).run E=g52 A E s_:=by kernel_rfl
def g24 (A:Sy)(E:Env)(s_:ByteArray):Option PRes:=
 (E.call 51 [(.d (.str s_)),(.d (.str (bs [47])))]).bind fun p1=>
 (opL (A.cell p1.leaves 0) 1).bind fun l3=>
 E.lp (fun ds4=>
  (opL (A.cell ds4 0) 1).bind fun l5=>
  (opI (A.cell ds4 1) .i64).bind fun n6=>
  (opI (A.cell ds4 2) .i64).bind fun n7=>
  bif (A.ilt n7 n6)then
   bif (A.inr n7 (A.rlen l5))then
    (opS (A.cell (A.row l5 n7) 0)).bind fun s8=>
    (E.call 52 [(.d (.str s8))]).bind fun p9=>
    (opB (A.cell p9.leaves 0)).bind fun b11=>
    bif (A.bnot b11)then
     some (.inr (.val [(.bool false)]))
    else
     some (.inl [(.sl 1 l5),(.int .i64 n6),(.int .i64 (A.wrap .i64 (A.add n7 1)))])
   else
    none
  else
   some (.inr (.val [(.bool true)]))
 ) [(.sl 1 l3),(.int .i64 (A.rlen l3)),(.int .i64 0)]
theorem g24_eq (A:Sy)(E:Env)(s_:ByteArray):(funT A Tryz.prog cs 24 [.d (.str s_)]).run E=g24 A E s_:=by kernel_rfl
def g94 (A:Sy)(E:Env)(s_:ByteArray)(sep_:ByteArray):Option PRes:=
 (E.call 137 [(.d (.str s_)),(.d (.str sep_))]).bind fun p1=>
 (opS (A.cell p1.leaves 0)).bind fun s3=>
 (opS (A.cell p1.leaves 1)).bind fun s4=>
 (opB (A.cell p1.leaves 2)).bind fun b5=>
 some (.val [(.str s3),(.str s4),(.bool b5)])
theorem g94_eq (A:Sy)(E:Env)(s_:ByteArray)(sep_:ByteArray):(funT A Tryz.prog cs 94 [.d (.str s_),V.d (.str sep_)]).run E=g94 A E s_ sep_:=by kernel_rfl
def g137 (A:Sy)(E:Env)(s_:ByteArray)(sep_:ByteArray):Option PRes:=
 (E.call 162 [(.d (.str s_)),(.d (.str sep_))]).bind fun p1=>
 (opI (A.cell p1.leaves 0) .i64).bind fun n3=>
 bif (A.ile 0 n3)then
  bif (A.cutok 0 n3 (A.slen s_))then
   bif (A.cutok (A.wrap .i64 (A.add n3 (A.slen sep_))) (A.slen s_) (A.slen s_))then
    some (.val [(.str (A.scut s_ 0 n3)),(.str (A.scut s_ (A.wrap .i64 (A.add n3 (A.slen sep_))) (A.slen s_))),(.bool true)])
   else
    none
  else
   none
 else
  some (.val [(.str s_),(.str (bs [])),(.bool false)])
theorem g137_eq (A:Sy)(E:Env)(s_:ByteArray)(sep_:ByteArray):(funT A Tryz.prog cs 137 [.d (.str s_),V.d (.str sep_)]).run E=g137 A E s_ sep_:=by kernel_rfl
def g127 (A:Sy)(E:Env)(s_:ByteArray)(substr_:ByteArray):Option PRes:=
 (E.call 162 [(.d (.str s_)),(.d (.str substr_))]).bind fun p1=>
 (opI (A.cell p1.leaves 0) .i64).bind fun n3=>
 some (.val [(.int .i64 n3)])
theorem g127_eq (A:Sy)(E:Env)(s_:ByteArray)(substr_:ByteArray):(funT A Tryz.prog cs 127 [.d (.str s_),V.d (.str substr_)]).run E=g127 A E s_ substr_:=by kernel_rfl
def g162 (A:Sy)(E:Env)(s_:ByteArray)(substr_:ByteArray):Option PRes:=
 cutO (
  bif (A.ieq (A.slen substr_) 0)then
   some (.inl [(.bool true)])
  else
   some (.inl [(.bool (A.seq substr_ s_))])
 ) fun ds1=>
 (opB (A.cell ds1 0)).bind fun b2=>
 bif b2 then
  some (.val [(.int .i64 0)])
 else
  bif (A.ieq (A.slen substr_) 1)then
   bif (A.inr 0 (A.slen substr_))then
    (E.call 165 [(.d (.str s_)),(.d (.int .u8 (A.sbyte substr_ 0)))]).bind fun p3=>
    (opI (A.cell p3.leaves 0) .i64).bind fun n5=>
    some (.val [(.int .i64 n5)])
   else
    none
  else
   bif (A.ile (A.slen s_) (A.slen substr_))then
    some (.val [(.int .i64 (-1))])
   else
    none
theorem g162_eq (A:Sy)(E:Env)(s_:ByteArray)(substr_:ByteArray):(funT A Tryz.prog cs 162 [.d (.str s_),V.d (.str substr_)]).run E=g162 A E s_ substr_:=by kernel_rfl
def g165 (A:Sy)(E:Env)(s_:ByteArray)(c_:Int):Option PRes:=
 some (.val [(.int .i64 (A.sidx s_ c_))])
theorem g165_eq (A:Sy)(E:Env)(s_:ByteArray)(c_:Int):(funT A Tryz.prog cs 165 [.d (.str s_),V.d (.int .u8 c_)]).run E=g165 A E s_ c_:=by kernel_rfl
def g136 (A:Sy)(E:Env)(s_:ByteArray)(substr_:ByteArray):Option PRes:=
 bif (A.ieq (A.slen substr_) 0)then
  (E.call 171 [(.d (.str s_))]).bind fun p1=>
  (opI (A.cell p1.leaves 0) .i64).bind fun n3=>
  some (.val [(.int .i64 (A.wrap .i64 (A.add n3 1)))])
 else
  bif (A.ieq (A.slen substr_) 1)then
   bif (A.inr 0 (A.slen substr_))then
    some (.val [(.int .i64 (A.scnt s_ (A.sbyte substr_ 0)))])
   else
    none
  else
   E.lp (fun ds4=>
    (opS (A.cell ds4 0)).bind fun s5=>
    (opS (A.cell ds4 1)).bind fun s6=>
    (opI (A.cell ds4 2) .i64).bind fun n7=>
    (E.call 127 [(.d (.str s5)),(.d (.str s6))]).bind fun p8=>
    (opI (A.cell p8.leaves 0) .i64).bind fun n10=>
    bif (A.ieq n10 (-1))then
     some (.inr (.val [(.int .i64 n7)]))
    else
     bif (A.cutok (A.wrap .i64 (A.add n10 (A.slen s6))) (A.slen s5) (A.slen s5))then
      some (.inl [(.str (A.scut s5 (A.wrap .i64 (A.add n10 (A.slen s6))) (A.slen s5))),(.str s6),(.int .i64 (A.wrap .i64 (A.add n7 1)))])
     else
      none
   ) [(.str s_),(.str substr_),(.int .i64 0)]
theorem g136_eq (A:Sy)(E:Env)(s_:ByteArray)(substr_:ByteArray):(funT A Tryz.prog cs 136 [.d (.str s_),V.d (.str substr_)]).run E=g136 A E s_ substr_:=by kernel_rfl
def g51 (A:Sy)(E:Env)(s_:ByteArray)(sep_:ByteArray):Option PRes:=
 (E.call 93 [(.d (.str s_)),(.d (.str sep_)),(.d (.int .i64 0)),(.d (.int .i64 (-1)))]).bind fun p1=>
 (opL (A.cell p1.leaves 0) 1).bind fun l3=>
 some (.val [(.sl 1 l3)])
theorem g51_eq (A:Sy)(E:Env)(s_:ByteArray)(sep_:ByteArray):(funT A Tryz.prog cs 51 [.d (.str s_),V.d (.str sep_)]).run E=g51 A E s_ sep_:=by kernel_rfl
def g93 (A:Sy)(E:Env)(s_:ByteArray)(sep_:ByteArray)(sepSave_:Int)(n_:Int):Option PRes:=
 bif (A.ieq n_ 0)then
  some (.own 9 1 [])
 else
  bif (A.seq sep_ (bs []))then
   (E.call 135 [(.d (.str s_)),(.d (.int .i64 n_))]).bind fun p1=>
   (opL (A.cell p1.leaves 0) 1).bind fun l3=>
   some (.val [(.sl 1 l3)])
  else
   bif (A.ilt n_ 0)then
    (E.call 136 [(.d (.str s_)),(.d (.str sep_))]).bind fun p4=>
    (opI (A.cell p4.leaves 0) .i64).bind fun n6=>
    bif (A.mkok (A.imin (A.wrap .i64 (A.add n6 1)) (A.wrap .i64 (A.add (A.slen s_) 1))) (A.imin (A.wrap .i64 (A.add n6 1)) (A.wrap .i64 (A.add (A.slen s_) 1))) 16)then
     E.lp (fun ds7=>
      (opS (A.cell ds7 0)).bind fun s8=>
      (opS (A.cell ds7 1)).bind fun s9=>
      (opI (A.cell ds7 2) .i64).bind fun n10=>
      (opI (A.cell ds7 3) .i64).bind fun n11=>
      (opI (A.cell ds7 4) .i64).bind fun n12=>
      (opL (A.cell ds7 5) 1).bind fun l13=>
      bif (A.ilt n12 n11)then
       (E.call 127 [(.d (.str s8)),(.d (.str s9))]).bind fun p14=>
       (opI (A.cell p14.leaves 0) .i64).bind fun n16=>
       bif (A.ilt n16 0)then
        bif (A.inr n12 (A.rlen l13))then
         bif (A.inrn (A.nat n12) l13)then
          bif (A.cutok 0 (A.wrap .i64 (A.add n12 1)) (A.rlen (A.rput l13 (A.nat n12) 0 [(.str s8)])))then
           some (.inr (.own 9 1 (A.head (A.rput l13 (A.nat n12) 0 [(.str s8)]) (A.wrap .i64 (A.add n12 1)))))
          else
           none
         else
          none
        else
         none
       else
        bif (A.cutok 0 (A.wrap .i64 (A.add n16 n10)) (A.slen s8))then
         bif (A.inr n12 (A.rlen l13))then
          bif (A.inrn (A.nat n12) l13)then
           bif (A.cutok (A.wrap .i64 (A.add n16 (A.slen s9))) (A.slen s8) (A.slen s8))then
            some (.inl [(.str (A.scut s8 (A.wrap .i64 (A.add n16 (A.slen s9))) (A.slen s8))),(.str s9),(.int .i64 n10),(.int .i64 n11),(.int .i64 (A.wrap .i64 (A.add n12 1))),(.sl 1 (A.rput l13 (A.nat n12) 0 [(.str (A.scut s8 0 (A.wrap .i64 (A.add n16 n10))))]))])
           else
            none
          else
           none
         else
          none
        else
         none
      else
       bif (A.inr n12 (A.rlen l13))then
        bif (A.inrn (A.nat n12) l13)then
         bif (A.cutok 0 (A.wrap .i64 (A.add n12 1)) (A.rlen (A.rput l13 (A.nat n12) 0 [(.str s8)])))then
          some (.inr (.own 9 1 (A.head (A.rput l13 (A.nat n12) 0 [(.str s8)]) (A.wrap .i64 (A.add n12 1)))))
         else
          none
        else
         none
       else
        none
     ) [(.str s_),(.str sep_),(.int .i64 sepSave_),(.int .i64 (A.wrap .i64 (A.sub (A.imin (A.wrap .i64 (A.add n6 1)) (A.wrap .i64 (A.add (A.slen s_) 1))) 1))),(.int .i64 0),(.sl 1 (A.rep (A.imin (A.wrap .i64 (A.add n6 1)) (A.wrap .i64 (A.add (A.slen s_) 1))) [(.str (bs []))]))]
    else
     none
   else
    bif (A.mkok (A.imin n_ (A.wrap .i64 (A.add (A.slen s_) 1))) (A.imin n_ (A.wrap .i64 (A.add (A.slen s_) 1))) 16)then
     E.lp (fun ds17=>
      (opS (A.cell ds17 0)).bind fun s18=>
      (opS (A.cell ds17 1)).bind fun s19=>
      (opI (A.cell ds17 2) .i64).bind fun n20=>
      (opI (A.cell ds17 3) .i64).bind fun n21=>
      (opI (A.cell ds17 4) .i64).bind fun n22=>
      (opL (A.cell ds17 5) 1).bind fun l23=>
      bif (A.ilt n22 n21)then
       (E.call 127 [(.d (.str s18)),(.d (.str s19))]).bind fun p24=>
       (opI (A.cell p24.leaves 0) .i64).bind fun n26=>
       bif (A.ilt n26 0)then
        bif (A.inr n22 (A.rlen l23))then
         bif (A.inrn (A.nat n22) l23)then
          bif (A.cutok 0 (A.wrap .i64 (A.add n22 1)) (A.rlen (A.rput l23 (A.nat n22) 0 [(.str s18)])))then
           some (.inr (.own 9 1 (A.head (A.rput l23 (A.nat n22) 0 [(.str s18)]) (A.wrap .i64 (A.add n22 1)))))
          else
           none
         else
          none
        else
         none
       else
        bif (A.cutok 0 (A.wrap .i64 (A.add n26 n20)) (A.slen s18))then
         bif (A.inr n22 (A.rlen l23))then
          bif (A.inrn (A.nat n22) l23)then
           bif (A.cutok (A.wrap .i64 (A.add n26 (A.slen s19))) (A.slen s18) (A.slen s18))then
            some (.inl [(.str (A.scut s18 (A.wrap .i64 (A.add n26 (A.slen s19))) (A.slen s18))),(.str s19),(.int .i64 n20),(.int .i64 n21),(.int .i64 (A.wrap .i64 (A.add n22 1))),(.sl 1 (A.rput l23 (A.nat n22) 0 [(.str (A.scut s18 0 (A.wrap .i64 (A.add n26 n20))))]))])
           else
            none
          else
           none
         else
          none
        else
         none
      else
       bif (A.inr n22 (A.rlen l23))then
        bif (A.inrn (A.nat n22) l23)then
         bif (A.cutok 0 (A.wrap .i64 (A.add n22 1)) (A.rlen (A.rput l23 (A.nat n22) 0 [(.str s18)])))then
          some (.inr (.own 9 1 (A.head (A.rput l23 (A.nat n22) 0 [(.str s18)]) (A.wrap .i64 (A.add n22 1)))))
         else
          none
        else
         none
       else
        none
     ) [(.str s_),(.str sep_),(.int .i64 sepSave_),(.int .i64 (A.wrap .i64 (A.sub (A.imin n_ (A.wrap .i64 (A.add (A.slen s_) 1))) 1))),(.int .i64 0),(.sl 1 (A.rep (A.imin n_ (A.wrap .i64 (A.add (A.slen s_) 1))) [(.str (bs []))]))]
    else
     none
theorem g93_eq (A:Sy)(E:Env)(s_:ByteArray)(sep_:ByteArray)(sepSave_:Int)(n_:Int):(funT A Tryz.prog cs 93 [.d (.str s_),V.d (.str sep_),V.d (.int .i64 sepSave_),V.d (.int .i64 n_)]).run E=g93 A E s_ sep_ sepSave_ n_:=by kernel_rfl
end Go.Vm
end

section
set_option maxRecDepth 1000000
set_option maxHeartbeats 0
namespace Go.Vm
open Go.Proofs
def g26 (A:Sy)(E:Env)(p_:ByteArray):Option PRes:=
 (E.call 24 [(.d (.str p_))]).bind fun p1=>
 (opB (A.cell p1.leaves 0)).bind fun b3=>
 bif (A.bnot b3)then
  some (.val [(.str (bs []))])
 else
  bif (A.sfit (bs [39]) p_)then
   bif (A.sfit (A.sapp (bs [39]) p_) (bs [39]))then
    some (.val [(.str (A.sapp (A.sapp (bs [39]) p_) (bs [39])))])
   else
    none
  else
   none
theorem g26_eq (A:Sy)(E:Env)(p_:ByteArray):(funT A Tryz.prog cs 26 [.d (.str p_)]).run E=g26 A E p_:=by kernel_rfl
def g18 (A:Sy)(E:Env)(s_:ByteArray)(most_:Int):Option PRes:=
 bif (A.ilt most_ (A.slen s_))then
  some (.val [(.sl 4 []),(.int .i64 most_),(.int .i64 3)])
 else
  (E.call 43 [(.d (.str s_)),(.d (.int .i64 0))]).bind fun p1=>
  (opI (A.cell p1.leaves 0) .i64).bind fun n3=>
  E.lp (fun ds4=>
   (opS (A.cell ds4 0)).bind fun s5=>
   (opI (A.cell ds4 1) .i64).bind fun n6=>
   (opL (A.cell ds4 2) 4).bind fun l7=>
   bif (A.ilt n6 (A.slen s5))then
    (E.call 44 [(.d (.str s5)),(.d (.int .i64 n6))]).bind fun p8=>
    (opI (A.cell p8.leaves 0) .i64).bind fun n10=>
    (opS (A.cell p8.leaves 1)).bind fun s11=>
    (opI (A.cell p8.leaves 2) .i64).bind fun n12=>
    (opI (A.cell p8.leaves 3) .i64).bind fun n13=>
    (opI (A.cell p8.leaves 4) .i64).bind fun n14=>
    (opB (A.cell p8.leaves 5)).bind fun b15=>
    bif (A.bnot b15)then
     some (.inr (.val [(.sl 4 []),(.int .i64 n6),(.int .i64 2)]))
    else
     bif (A.fits l7 [[(.int .i64 n10),(.str s11),(.int .i64 n12),(.int .i64 n13)]] 40)then
      (E.call 43 [(.d (.str s5)),(.d (.int .i64 n14))]).bind fun p16=>
      (opI (A.cell p16.leaves 0) .i64).bind fun n18=>
      some (.inl [(.str s5),(.int .i64 n18),(.sl 4 (A.rapp l7 [[(.int .i64 n10),(.str s11),(.int .i64 n12),(.int .i64 n13)]]))])
     else
      none
   else
    bif (A.fits l7 [[(.int .i64 6),(.str (bs [])),(.int .i64 0),(.int .i64 (A.slen s5))]] 40)then
     some (.inr (.val [(.sl 4 (A.rapp l7 [[(.int .i64 6),(.str (bs [])),(.int .i64 0),(.int .i64 (A.slen s5))]])),(.int .i64 (A.slen s5)),(.int .i64 0)]))
    else
     none
  ) [(.str s_),(.int .i64 n3),(.sl 4 [])]
end Go.Vm
end
