/-
  Part H of the proof. What is proved by the whole: the statement that the claim names, with no condition. This part: lemmas.
-/
import Derived.Test.YtmmcmfcnpfbifaaGreatDoorSG
set_option linter.unusedSimpArgs false
set_option linter.unusedVariables false

section
set_option maxRecDepth 1000000
set_option maxHeartbeats 0
namespace Go.Vm
open Go.Proofs
def g86 (A : Sy) (E : Env) (x_0 : Int) (x_1 : Int) (x_2 : Int) (x_3 : Int) : Option PRes :=
 (E.call 142 [(.d (.int .i64 x_0))]).bind fun p1 =>
 (opS (A.cell p1.leaves 0)).bind fun s3 =>
 (opB (A.cell p1.leaves 1)).bind fun b4 =>
 (opB (A.cell p1.leaves 2)).bind fun b5 =>
 (opB (A.cell p1.leaves 3)).bind fun b6 =>
 (opB (A.cell p1.leaves 4)).bind fun b7 =>
 (opB (A.cell p1.leaves 5)).bind fun b8 =>
 cutO (
 bif (A.bnot b8) then
 some (.inl [(.bool true)])
 else
 (E.call 143 [(.agg [(.d (.int .i64 x_0)), (.d (.int .i64 x_1)), (.d (.int .i64 x_2)), (.d (.int .i64 x_3))])]).bind fun p9 =>
 (opB (A.cell p9.leaves 0)).bind fun b11 =>
 some (.inl [(.bool (A.bnot b11))])
 ) fun ds12 =>
 (opB (A.cell ds12 0)).bind fun b13 =>
 cutO (
 bif b13 then
 some (.inl [(.bool true)])
 else
 bif (A.bnot b7) then
 some (.inl [(.bool (A.bnot (A.ieq x_3 0)))])
 else
 some (.inl [(.bool false)])
 ) fun ds14 =>
 (opB (A.cell ds14 0)).bind fun b15 =>
 bif b15 then
 some (.val [(.bool false)])
 else
 bif b6 then
 (E.call 144 [(.d (.int .i64 x_2)), (.d (.int .i64 1)), (.d (.int .i64 8))]).bind fun p16 =>
 (opB (A.cell p16.leaves 0)).bind fun b18 =>
 some (.val [(.bool b18)])
 else
 some (.val [(.bool (A.ieq x_2 0))])
theorem g86_eq (A : Sy) (E : Env) (x_0 : Int) (x_1 : Int) (x_2 : Int) (x_3 : Int) : (funT A Tryz.prog cs 86 [V.agg [V.d (.int .i64 x_0), V.d (.int .i64 x_1), V.d (.int .i64 x_2), V.d (.int .i64 x_3)]]).run E = g86 A E x_0 x_1 x_2 x_3 := by kernel_rfl
def g142 (A : Sy) (E : Env) (op_ : Int) : Option PRes :=
 bif (A.ieq op_ 1) then
 some (.val [(.str (bs [112, 117, 115, 104])), (.bool true), (.bool false), (.bool false), (.bool true), (.bool true)])
 else
 bif (A.ieq op_ 2) then
 some (.val [(.str (bs [108, 111, 97, 100])), (.bool true), (.bool false), (.bool false), (.bool false), (.bool true)])
 else
 bif (A.ieq op_ 3) then
 some (.val [(.str (bs [115, 116, 111, 114, 101])), (.bool true), (.bool false), (.bool false), (.bool false), (.bool true)])
 else
 bif (A.ieq op_ 4) then
 some (.val [(.str (bs [117, 110])), (.bool false), (.bool true), (.bool false), (.bool false), (.bool true)])
 else
 bif (A.ieq op_ 5) then
 some (.val [(.str (bs [98, 105, 110])), (.bool false), (.bool true), (.bool false), (.bool false), (.bool true)])
 else
 bif (A.ieq op_ 6) then
 some (.val [(.str (bs [106, 117, 109, 112])), (.bool true), (.bool false), (.bool false), (.bool false), (.bool true)])
 else
 bif (A.ieq op_ 7) then
 some (.val [(.str (bs [122, 101, 114, 111])), (.bool true), (.bool false), (.bool false), (.bool false), (.bool true)])
 else
 bif (A.ieq op_ 8) then
 some (.val [(.str (bs [103, 101, 116])), (.bool true), (.bool false), (.bool true), (.bool false), (.bool true)])
 else
 bif (A.ieq op_ 9) then
 some (.val [(.str (bs [112, 117, 116])), (.bool true), (.bool false), (.bool true), (.bool false), (.bool true)])
 else
 bif (A.ieq op_ 10) then
 some (.val [(.str (bs [104, 97, 108, 116])), (.bool false), (.bool false), (.bool false), (.bool false), (.bool true)])
 else
 some (.val [(.str (bs [])), (.bool false), (.bool false), (.bool false), (.bool false), (.bool false)])
theorem g142_eq (A : Sy) (E : Env) (op_ : Int) : (funT A Tryz.prog cs 142 [V.d (.int .i64 op_)]).run E = g142 A E op_ := by kernel_rfl
def g143 (A : Sy) (E : Env) (x_0 : Int) (x_1 : Int) (x_2 : Int) (x_3 : Int) : Option PRes :=
 bif (A.ieq x_0 1) then
 (E.call 144 [(.d (.int .i64 x_1)), (.d (.int .i64 1)), (.d (.int .i64 1000))]).bind fun p1 =>
 (opB (A.cell p1.leaves 0)).bind fun b3 =>
 some (.val [(.bool b3)])
 else
 bif (A.ieq x_0 4) then
 cutO (
 bif (A.ieq x_1 1) then
 some (.inl [(.bool true)])
 else
 some (.inl [(.bool (A.ieq x_1 2))])
 ) fun ds4 =>
 (opB (A.cell ds4 0)).bind fun b5 =>
 some (.val [(.bool b5)])
 else
 bif (A.ieq x_0 5) then
 (E.call 144 [(.d (.int .i64 x_1)), (.d (.int .i64 3)), (.d (.int .i64 16))]).bind fun p6 =>
 (opB (A.cell p6.leaves 0)).bind fun b8 =>
 some (.val [(.bool b8)])
 else
 bif (A.ieq x_0 10) then
 some (.val [(.bool (A.ieq x_1 0))])
 else
 (E.call 144 [(.d (.int .i64 x_1)), (.d (.int .i64 0)), (.d (.int .i64 65535))]).bind fun p9 =>
 (opB (A.cell p9.leaves 0)).bind fun b11 =>
 some (.val [(.bool b11)])
theorem g143_eq (A : Sy) (E : Env) (x_0 : Int) (x_1 : Int) (x_2 : Int) (x_3 : Int) : (funT A Tryz.prog cs 143 [V.agg [V.d (.int .i64 x_0), V.d (.int .i64 x_1), V.d (.int .i64 x_2), V.d (.int .i64 x_3)]]).run E = g143 A E x_0 x_1 x_2 x_3 := by kernel_rfl
def g144 (A : Sy) (E : Env) (n_ : Int) (lo_ : Int) (hi_ : Int) : Option PRes :=
 cutO (
 bif (A.ile lo_ n_) then
 some (.inl [(.bool (A.ile n_ hi_))])
 else
 some (.inl [(.bool false)])
 ) fun ds1 =>
 (opB (A.cell ds1 0)).bind fun b2 =>
 some (.val [(.bool b2)])
theorem g144_eq (A : Sy) (E : Env) (n_ : Int) (lo_ : Int) (hi_ : Int) : (funT A Tryz.prog cs 144 [V.d (.int .i64 n_), V.d (.int .i64 lo_), V.d (.int .i64 hi_)]).run E = g144 A E n_ lo_ hi_ := by kernel_rfl
def g204 (A : Sy) (E : Env) (op_ : Int) (t_0 : Int) (t_1 : Int) (t_2 : Int) : Option PRes :=
 bif (A.ieq op_ 1) then
 cutO (
 bif (A.ieq 1 0) then
 some (.inl [(.bool true)])
 else
 some (.inl [(.bool (A.bnot (A.deq [(.int .i64 t_0), (.int .i64 t_1), (.int .i64 t_2)] [(.int .i64 1), (.int .i64 0), (.int .i64 0)])))])
 ) fun ds1 =>
 (opB (A.cell ds1 0)).bind fun b2 =>
 bif b2 then
 some (.val [(.int .i64 0), (.int .i64 0), (.int .i64 0), (.bool false)])
 else
 some (.val [(.int .i64 1), (.int .i64 0), (.int .i64 0), (.bool true)])
 else
 bif (A.ieq op_ 2) then
 cutO (
 bif (A.ieq 2 0) then
 some (.inl [(.bool true)])
 else
 some (.inl [(.bool (A.bnot (A.deq [(.int .i64 t_0), (.int .i64 t_1), (.int .i64 t_2)] [(.int .i64 2), (.int .i64 0), (.int .i64 0)])))])
 ) fun ds3 =>
 (opB (A.cell ds3 0)).bind fun b4 =>
 bif b4 then
 some (.val [(.int .i64 0), (.int .i64 0), (.int .i64 0), (.bool false)])
 else
 some (.val [(.int .i64 2), (.int .i64 0), (.int .i64 0), (.bool true)])
 else
 cutO (
 bif (A.ieq 0 0) then
 some (.inl [(.bool true)])
 else
 some (.inl [(.bool (A.bnot (A.deq [(.int .i64 t_0), (.int .i64 t_1), (.int .i64 t_2)] [(.int .i64 0), (.int .i64 0), (.int .i64 0)])))])
 ) fun ds5 =>
 (opB (A.cell ds5 0)).bind fun b6 =>
 bif b6 then
 some (.val [(.int .i64 0), (.int .i64 0), (.int .i64 0), (.bool false)])
 else
 some (.val [(.int .i64 0), (.int .i64 0), (.int .i64 0), (.bool true)])
theorem g204_eq (A : Sy) (E : Env) (op_ : Int) (t_0 : Int) (t_1 : Int) (t_2 : Int) : (funT A Tryz.prog cs 204 [V.d (.int .i64 op_), V.agg [V.d (.int .i64 t_0), V.d (.int .i64 t_1), V.d (.int .i64 t_2)]]).run E = g204 A E op_ t_0 t_1 t_2 := by kernel_rfl
def g206 (A : Sy) (E : Env) (op_ : Int) (t_0 : Int) (t_1 : Int) (t_2 : Int) (u_0 : Int) (u_1 : Int) (u_2 : Int) : Option PRes :=
 (E.call 244 [(.d (.int .i64 op_))]).bind fun p1 =>
 (opI (A.cell p1.leaves 0) .i64).bind fun n3 =>
 bif (A.ieq n3 1) then
 bif (A.deq [(.int .i64 t_0), (.int .i64 t_1), (.int .i64 t_2)] [(.int .i64 1), (.int .i64 0), (.int .i64 0)]) then
 bif (A.bnot (A.deq [(.int .i64 u_0), (.int .i64 u_1), (.int .i64 u_2)] [(.int .i64 1), (.int .i64 0), (.int .i64 0)])) then
 some (.val [(.int .i64 0), (.int .i64 0), (.int .i64 0), (.bool false)])
 else
 some (.val [(.int .i64 1), (.int .i64 0), (.int .i64 0), (.bool true)])
 else
 bif (A.bnot false) then
 some (.val [(.int .i64 0), (.int .i64 0), (.int .i64 0), (.bool false)])
 else
 some (.val [(.int .i64 1), (.int .i64 0), (.int .i64 0), (.bool true)])
 else
 bif (A.ieq n3 2) then
 bif (A.deq [(.int .i64 t_0), (.int .i64 t_1), (.int .i64 t_2)] [(.int .i64 2), (.int .i64 0), (.int .i64 0)]) then
 bif (A.bnot (A.deq [(.int .i64 u_0), (.int .i64 u_1), (.int .i64 u_2)] [(.int .i64 2), (.int .i64 0), (.int .i64 0)])) then
 some (.val [(.int .i64 0), (.int .i64 0), (.int .i64 0), (.bool false)])
 else
 some (.val [(.int .i64 2), (.int .i64 0), (.int .i64 0), (.bool true)])
 else
 bif (A.bnot false) then
 some (.val [(.int .i64 0), (.int .i64 0), (.int .i64 0), (.bool false)])
 else
 some (.val [(.int .i64 2), (.int .i64 0), (.int .i64 0), (.bool true)])
 else
 bif (A.ieq n3 3) then
 bif (A.deq [(.int .i64 t_0), (.int .i64 t_1), (.int .i64 t_2)] [(.int .i64 1), (.int .i64 0), (.int .i64 0)]) then
 bif (A.bnot (A.deq [(.int .i64 u_0), (.int .i64 u_1), (.int .i64 u_2)] [(.int .i64 1), (.int .i64 0), (.int .i64 0)])) then
 some (.val [(.int .i64 0), (.int .i64 0), (.int .i64 0), (.bool false)])
 else
 some (.val [(.int .i64 2), (.int .i64 0), (.int .i64 0), (.bool true)])
 else
 bif (A.bnot false) then
 some (.val [(.int .i64 0), (.int .i64 0), (.int .i64 0), (.bool false)])
 else
 some (.val [(.int .i64 2), (.int .i64 0), (.int .i64 0), (.bool true)])
 else
 bif (A.ieq n3 4) then
 bif (A.deq [(.int .i64 t_0), (.int .i64 t_1), (.int .i64 t_2)] [(.int .i64 u_0), (.int .i64 u_1), (.int .i64 u_2)]) then
 bif (A.bnot (A.ieq t_2 0)) then
 some (.val [(.int .i64 0), (.int .i64 0), (.int .i64 0), (.bool false)])
 else
 some (.val [(.int .i64 2), (.int .i64 0), (.int .i64 0), (.bool true)])
 else
 bif (A.bnot false) then
 some (.val [(.int .i64 0), (.int .i64 0), (.int .i64 0), (.bool false)])
 else
 some (.val [(.int .i64 2), (.int .i64 0), (.int .i64 0), (.bool true)])
 else
 bif (A.bnot false) then
 some (.val [(.int .i64 0), (.int .i64 0), (.int .i64 0), (.bool false)])
 else
 some (.val [(.int .i64 0), (.int .i64 0), (.int .i64 0), (.bool true)])
theorem g206_eq (A : Sy) (E : Env) (op_ : Int) (t_0 : Int) (t_1 : Int) (t_2 : Int) (u_0 : Int) (u_1 : Int) (u_2 : Int) : (funT A Tryz.prog cs 206 [V.d (.int .i64 op_), V.agg [V.d (.int .i64 t_0), V.d (.int .i64 t_1), V.d (.int .i64 t_2)], V.agg [V.d (.int .i64 u_0), V.d (.int .i64 u_1), V.d (.int .i64 u_2)]]).run E = g206 A E op_ t_0 t_1 t_2 u_0 u_1 u_2 := by kernel_rfl
def g244 (A : Sy) (E : Env) (op_ : Int) : Option PRes :=
 bif (A.ieq op_ 3) then
 some (.val [(.int .i64 1)])
 else
 bif (A.ieq op_ 4) then
 some (.val [(.int .i64 1)])
 else
 bif (A.ieq op_ 5) then
 some (.val [(.int .i64 1)])
 else
 bif (A.ieq op_ 6) then
 some (.val [(.int .i64 1)])
 else
 bif (A.ieq op_ 7) then
 some (.val [(.int .i64 1)])
 else
 bif (A.ieq op_ 8) then
 some (.val [(.int .i64 2)])
 else
 bif (A.ieq op_ 9) then
 some (.val [(.int .i64 2)])
 else
 bif (A.ieq op_ 10) then
 some (.val [(.int .i64 2)])
 else
 bif (A.ieq op_ 11) then
 some (.val [(.int .i64 4)])
 else
 bif (A.ieq op_ 12) then
 some (.val [(.int .i64 4)])
 else
 bif (A.ieq op_ 13) then
 some (.val [(.int .i64 3)])
 else
 bif (A.ieq op_ 14) then
 some (.val [(.int .i64 3)])
 else
 bif (A.ieq op_ 15) then
 some (.val [(.int .i64 3)])
 else
 bif (A.ieq op_ 16) then
 some (.val [(.int .i64 3)])
 else
 some (.val [(.int .i64 0)])
theorem g244_eq (A : Sy) (E : Env) (op_ : Int) : (funT A Tryz.prog cs 244 [V.d (.int .i64 op_)]).run E = g244 A E op_ := by kernel_rfl
def g205 (A : Sy) (E : Env) (k_ : Int) : Option PRes :=
 bif (A.ilt k_ 3) then
 some (.val [(.int .i64 k_), (.int .i64 0), (.int .i64 0)])
 else
 some (.val [(.int .i64 3), (.int .i64 (A.wrap .i64 (A.sub k_ 3))), (.int .i64 0)])
theorem g205_eq (A : Sy) (E : Env) (k_ : Int) : (funT A Tryz.prog cs 205 [V.d (.int .i64 k_)]).run E = g205 A E k_ := by kernel_rfl
def g207 (A : Sy) (E : Env) (t_0 : Int) (t_1 : Int) (t_2 : Int) : Option PRes :=
 some (.val [(.int .i64 (A.wrap .i64 (A.add t_0 t_1)))])
theorem g207_eq (A : Sy) (E : Env) (t_0 : Int) (t_1 : Int) (t_2 : Int) : (funT A Tryz.prog cs 207 [V.agg [V.d (.int .i64 t_0), V.d (.int .i64 t_1), V.d (.int .i64 t_2)]]).run E = g207 A E t_0 t_1 t_2 := by kernel_rfl
def g145 (A : Sy) (E : Env) (row_ : List (List D)) (n_ : Int) (kinds_ : List (List D)) : Option PRes :=
 bif (A.cutok 0 (A.wrap .i64 (A.sub (A.rlen row_) n_)) (A.rlen row_)) then
 (E.call 203 [(.d (.sl 1 [[(.sl 1 (A.cut row_ 0 (A.wrap .i64 (A.sub (A.rlen row_) n_))))], [(.sl 1 kinds_)]]))]).bind fun p1 =>
 (opL (A.cell p1.leaves 0) 1).bind fun l3 =>
 some (.val [(.sl 1 l3)])
 else
 none
theorem g145_eq (A : Sy) (E : Env) (row_ : List (List D)) (n_ : Int) (kinds_ : List (List D)) : (funT A Tryz.prog cs 145 [V.d (.sl 1 row_), V.d (.int .i64 n_), V.d (.sl 1 kinds_)]).run E = g145 A E row_ n_ kinds_ := by kernel_rfl
def g148 (A : Sy) (E : Env) (row_ : List (List D)) (kinds_ : List (List D)) : Option PRes :=
 bif (A.ile 0 (A.wrap .i64 (A.sub (A.rlen row_) (A.rlen kinds_)))) then
 bif (A.cutok (A.wrap .i64 (A.sub (A.rlen row_) (A.rlen kinds_))) (A.rlen row_) (A.rlen row_)) then
 (E.call 89 [(.d (.sl 1 (A.cut row_ (A.wrap .i64 (A.sub (A.rlen row_) (A.rlen kinds_))) (A.rlen row_)))), (.d (.sl 1 kinds_))]).bind fun p1 =>
 (opB (A.cell p1.leaves 0)).bind fun b3 =>
 some (.val [(.bool b3)])
 else
 none
 else
 some (.val [(.bool false)])
theorem g148_eq (A : Sy) (E : Env) (row_ : List (List D)) (kinds_ : List (List D)) : (funT A Tryz.prog cs 148 [V.d (.sl 1 row_), V.d (.sl 1 kinds_)]).run E = g148 A E row_ kinds_ := by kernel_rfl
def g147 (A : Sy) (E : Env) (x_0 : Int) (x_1 : Int) (x_2 : Int) (x_3 : Int) (row_ : List (List D)) : Option PRes :=
 bif (A.ieq x_0 4) then
 bif (A.ilt (A.rlen row_) 1) then
 some (.val [(.sl 1 []), (.bool false)])
 else
 bif (A.cutok (A.wrap .i64 (A.sub (A.rlen row_) 1)) (A.rlen row_) (A.rlen row_)) then
 bif (A.ieq 1 1) then
 bif (A.inr 0 (A.rlen (A.cut row_ (A.wrap .i64 (A.sub (A.rlen row_) 1)) (A.rlen row_)))) then
 (opI (A.cell (A.row (A.cut row_ (A.wrap .i64 (A.sub (A.rlen row_) 1)) (A.rlen row_)) 0) 0) .i64).bind fun n1 =>
 (E.call 205 [(.d (.int .i64 n1))]).bind fun p2 =>
 (opI (A.cell p2.leaves 0) .i64).bind fun n4 =>
 (opI (A.cell p2.leaves 1) .i64).bind fun n5 =>
 (opI (A.cell p2.leaves 2) .i64).bind fun n6 =>
 (E.call 204 [(.d (.int .i64 x_1)), (.agg [(.d (.int .i64 n4)), (.d (.int .i64 n5)), (.d (.int .i64 n6))])]).bind fun p7 =>
 (opI (A.cell p7.leaves 0) .i64).bind fun n9 =>
 (opI (A.cell p7.leaves 1) .i64).bind fun n10 =>
 (opI (A.cell p7.leaves 2) .i64).bind fun n11 =>
 (opB (A.cell p7.leaves 3)).bind fun b12 =>
 bif (A.bnot b12) then
 some (.val [(.sl 1 []), (.bool false)])
 else
 (E.call 207 [(.agg [(.d (.int .i64 n9)), (.d (.int .i64 n10)), (.d (.int .i64 n11))])]).bind fun p13 =>
 (opI (A.cell p13.leaves 0) .i64).bind fun n15 =>
 (E.call 145 [(.d (.sl 1 row_)), (.d (.int .i64 1)), (.d (.sl 1 [[(.int .i64 n15)]]))]).bind fun p16 =>
 (opL (A.cell p16.leaves 0) 1).bind fun l18 =>
 some (.val [(.sl 1 l18), (.bool true)])
 else
 none
 else
 bif (A.inr 0 (A.rlen (A.cut row_ (A.wrap .i64 (A.sub (A.rlen row_) 1)) (A.rlen row_)))) then
 (opI (A.cell (A.row (A.cut row_ (A.wrap .i64 (A.sub (A.rlen row_) 1)) (A.rlen row_)) 0) 0) .i64).bind fun n19 =>
 (E.call 205 [(.d (.int .i64 n19))]).bind fun p20 =>
 (opI (A.cell p20.leaves 0) .i64).bind fun n22 =>
 (opI (A.cell p20.leaves 1) .i64).bind fun n23 =>
 (opI (A.cell p20.leaves 2) .i64).bind fun n24 =>
 bif (A.inr 1 (A.rlen (A.cut row_ (A.wrap .i64 (A.sub (A.rlen row_) 1)) (A.rlen row_)))) then
 (opI (A.cell (A.row (A.cut row_ (A.wrap .i64 (A.sub (A.rlen row_) 1)) (A.rlen row_)) 1) 0) .i64).bind fun n25 =>
 (E.call 205 [(.d (.int .i64 n25))]).bind fun p26 =>
 (opI (A.cell p26.leaves 0) .i64).bind fun n28 =>
 (opI (A.cell p26.leaves 1) .i64).bind fun n29 =>
 (opI (A.cell p26.leaves 2) .i64).bind fun n30 =>
 (E.call 206 [(.d (.int .i64 x_1)), (.agg [(.d (.int .i64 n22)), (.d (.int .i64 n23)), (.d (.int .i64 n24))]), (.agg [(.d (.int .i64 n28)), (.d (.int .i64 n29)), (.d (.int .i64 n30))])]).bind fun p31 =>
 (opI (A.cell p31.leaves 0) .i64).bind fun n33 =>
 (opI (A.cell p31.leaves 1) .i64).bind fun n34 =>
 (opI (A.cell p31.leaves 2) .i64).bind fun n35 =>
 (opB (A.cell p31.leaves 3)).bind fun b36 =>
 bif (A.bnot b36) then
 some (.val [(.sl 1 []), (.bool false)])
 else
 (E.call 207 [(.agg [(.d (.int .i64 n33)), (.d (.int .i64 n34)), (.d (.int .i64 n35))])]).bind fun p37 =>
 (opI (A.cell p37.leaves 0) .i64).bind fun n39 =>
 (E.call 145 [(.d (.sl 1 row_)), (.d (.int .i64 1)), (.d (.sl 1 [[(.int .i64 n39)]]))]).bind fun p40 =>
 (opL (A.cell p40.leaves 0) 1).bind fun l42 =>
 some (.val [(.sl 1 l42), (.bool true)])
 else
 none
 else
 none
 else
 none
 else
 bif (A.ilt (A.rlen row_) 2) then
 some (.val [(.sl 1 []), (.bool false)])
 else
 bif (A.cutok (A.wrap .i64 (A.sub (A.rlen row_) 2)) (A.rlen row_) (A.rlen row_)) then
 bif (A.ieq 2 1) then
 bif (A.inr 0 (A.rlen (A.cut row_ (A.wrap .i64 (A.sub (A.rlen row_) 2)) (A.rlen row_)))) then
 (opI (A.cell (A.row (A.cut row_ (A.wrap .i64 (A.sub (A.rlen row_) 2)) (A.rlen row_)) 0) 0) .i64).bind fun n43 =>
 (E.call 205 [(.d (.int .i64 n43))]).bind fun p44 =>
 (opI (A.cell p44.leaves 0) .i64).bind fun n46 =>
 (opI (A.cell p44.leaves 1) .i64).bind fun n47 =>
 (opI (A.cell p44.leaves 2) .i64).bind fun n48 =>
 (E.call 204 [(.d (.int .i64 x_1)), (.agg [(.d (.int .i64 n46)), (.d (.int .i64 n47)), (.d (.int .i64 n48))])]).bind fun p49 =>
 (opI (A.cell p49.leaves 0) .i64).bind fun n51 =>
 (opI (A.cell p49.leaves 1) .i64).bind fun n52 =>
 (opI (A.cell p49.leaves 2) .i64).bind fun n53 =>
 (opB (A.cell p49.leaves 3)).bind fun b54 =>
 bif (A.bnot b54) then
 some (.val [(.sl 1 []), (.bool false)])
 else
 (E.call 207 [(.agg [(.d (.int .i64 n51)), (.d (.int .i64 n52)), (.d (.int .i64 n53))])]).bind fun p55 =>
 (opI (A.cell p55.leaves 0) .i64).bind fun n57 =>
 (E.call 145 [(.d (.sl 1 row_)), (.d (.int .i64 2)), (.d (.sl 1 [[(.int .i64 n57)]]))]).bind fun p58 =>
 (opL (A.cell p58.leaves 0) 1).bind fun l60 =>
 some (.val [(.sl 1 l60), (.bool true)])
 else
 none
 else
 bif (A.inr 0 (A.rlen (A.cut row_ (A.wrap .i64 (A.sub (A.rlen row_) 2)) (A.rlen row_)))) then
 (opI (A.cell (A.row (A.cut row_ (A.wrap .i64 (A.sub (A.rlen row_) 2)) (A.rlen row_)) 0) 0) .i64).bind fun n61 =>
 (E.call 205 [(.d (.int .i64 n61))]).bind fun p62 =>
 (opI (A.cell p62.leaves 0) .i64).bind fun n64 =>
 (opI (A.cell p62.leaves 1) .i64).bind fun n65 =>
 (opI (A.cell p62.leaves 2) .i64).bind fun n66 =>
 bif (A.inr 1 (A.rlen (A.cut row_ (A.wrap .i64 (A.sub (A.rlen row_) 2)) (A.rlen row_)))) then
 (opI (A.cell (A.row (A.cut row_ (A.wrap .i64 (A.sub (A.rlen row_) 2)) (A.rlen row_)) 1) 0) .i64).bind fun n67 =>
 (E.call 205 [(.d (.int .i64 n67))]).bind fun p68 =>
 (opI (A.cell p68.leaves 0) .i64).bind fun n70 =>
 (opI (A.cell p68.leaves 1) .i64).bind fun n71 =>
 (opI (A.cell p68.leaves 2) .i64).bind fun n72 =>
 (E.call 206 [(.d (.int .i64 x_1)), (.agg [(.d (.int .i64 n64)), (.d (.int .i64 n65)), (.d (.int .i64 n66))]), (.agg [(.d (.int .i64 n70)), (.d (.int .i64 n71)), (.d (.int .i64 n72))])]).bind fun p73 =>
 (opI (A.cell p73.leaves 0) .i64).bind fun n75 =>
 (opI (A.cell p73.leaves 1) .i64).bind fun n76 =>
 (opI (A.cell p73.leaves 2) .i64).bind fun n77 =>
 (opB (A.cell p73.leaves 3)).bind fun b78 =>
 bif (A.bnot b78) then
 some (.val [(.sl 1 []), (.bool false)])
 else
 (E.call 207 [(.agg [(.d (.int .i64 n75)), (.d (.int .i64 n76)), (.d (.int .i64 n77))])]).bind fun p79 =>
 (opI (A.cell p79.leaves 0) .i64).bind fun n81 =>
 (E.call 145 [(.d (.sl 1 row_)), (.d (.int .i64 2)), (.d (.sl 1 [[(.int .i64 n81)]]))]).bind fun p82 =>
 (opL (A.cell p82.leaves 0) 1).bind fun l84 =>
 some (.val [(.sl 1 l84), (.bool true)])
 else
 none
 else
 none
 else
 none
theorem g147_eq (A : Sy) (E : Env) (x_0 : Int) (x_1 : Int) (x_2 : Int) (x_3 : Int) (row_ : List (List D)) : (funT A Tryz.prog cs 147 [V.agg [V.d (.int .i64 x_0), V.d (.int .i64 x_1), V.d (.int .i64 x_2), V.d (.int .i64 x_3)], V.d (.sl 1 row_)]).run E = g147 A E x_0 x_1 x_2 x_3 row_ := by kernel_rfl
def g49 (A : Sy) (E : Env) (x_0 : List (List D)) (x_1 : List (List D)) (x_2 : Int) (x_3 : Int) : Option PRes :=
 cutO (
 bif (A.ilt 4 (A.rlen x_0)) then
 some (.inl [(.bool true)])
 else
 some (.inl [(.bool (A.ilt 1000 (A.rlen x_1)))])
 ) fun ds1 =>
 (opB (A.cell ds1 0)).bind fun b2 =>
 cutO (
 bif b2 then
 some (.inl [(.bool true)])
 else
 some (.inl [(.bool (A.ilt x_2 0))])
 ) fun ds3 =>
 (opB (A.cell ds3 0)).bind fun b4 =>
 cutO (
 bif b4 then
 some (.inl [(.bool true)])
 else
 some (.inl [(.bool (A.ilt x_3 x_2))])
 ) fun ds5 =>
 (opB (A.cell ds5 0)).bind fun b6 =>
 cutO (
 bif b6 then
 some (.inl [(.bool true)])
 else
 some (.inl [(.bool (A.ilt (A.rlen x_1) x_3))])
 ) fun ds7 =>
 (opB (A.cell ds7 0)).bind fun b8 =>
 bif b8 then
 some (.val [(.bool false)])
 else
 (E.call 100 [(.d (.sl 1 x_0)), (.fn 101 [])]).bind fun p9 =>
 (opB (A.cell p9.leaves 0)).bind fun b11 =>
 bif (A.bnot b11) then
 (E.call 100 [(.d (.sl 1 x_1)), (.fn 102 [(.pel [(.sl 1 x_0), (.sl 1 x_1), (.int .i64 x_2), (.int .i64 x_3)])])]).bind fun p12 =>
 (opB (A.cell p12.leaves 0)).bind fun b14 =>
 some (.val [(.bool (A.bnot b14))])
 else
 some (.val [(.bool false)])
theorem g49_eq (A : Sy) (E : Env) (x_0 : List (List D)) (x_1 : List (List D)) (x_2 : Int) (x_3 : Int) : (funT A Tryz.prog cs 49 [V.agg [V.d (.sl 1 x_0), V.d (.sl 1 x_1), V.d (.int .i64 x_2), V.d (.int .i64 x_3)]]).run E = g49 A E x_0 x_1 x_2 x_3 := by kernel_rfl
def g101 (A : Sy) (E : Env) (n_ : Int) : Option PRes :=
 some (.val [(.bool (A.ilt n_ 1))])
theorem g101_eq (A : Sy) (E : Env) (n_ : Int) : (funT A Tryz.prog cs 101 [V.d (.int .i64 n_)]).run E = g101 A E n_ := by kernel_rfl
def g88 (A : Sy) (E : Env) (code_ : List (List D)) (at_ : Int) : Option PRes :=
 bif (A.inr at_ (A.rlen code_)) then
 (opI (A.cell (A.row code_ at_) 0) .i64).bind fun n1 =>
 (opI (A.cell (A.row code_ at_) 1) .i64).bind fun n2 =>
 (opI (A.cell (A.row code_ at_) 2) .i64).bind fun n3 =>
 (opI (A.cell (A.row code_ at_) 3) .i64).bind fun n4 =>
 bif (A.ieq n1 10) then
 some (.val [(.sl 1 []), (.bool (A.ieq at_ (A.wrap .i64 (A.sub (A.rlen code_) 1))))])
 else
 bif (A.ieq n1 6) then
 (E.call 100 [(.d (.sl 1 [[(.int .i64 n2)]])), (.fn 150 [(.pel [(.int .i64 at_)]), (.pel [(.sl 4 code_)])])]).bind fun p5 =>
 (opB (A.cell p5.leaves 0)).bind fun b7 =>
 some (.val [(.sl 1 [[(.int .i64 n2)]]), (.bool (A.bnot b7))])
 else
 bif (A.ieq n1 7) then
 (E.call 100 [(.d (.sl 1 [[(.int .i64 (A.wrap .i64 (A.add at_ 1)))], [(.int .i64 n2)]])), (.fn 150 [(.pel [(.int .i64 at_)]), (.pel [(.sl 4 code_)])])]).bind fun p8 =>
 (opB (A.cell p8.leaves 0)).bind fun b10 =>
 some (.val [(.sl 1 [[(.int .i64 (A.wrap .i64 (A.add at_ 1)))], [(.int .i64 n2)]]), (.bool (A.bnot b10))])
 else
 (E.call 100 [(.d (.sl 1 [[(.int .i64 (A.wrap .i64 (A.add at_ 1)))]])), (.fn 150 [(.pel [(.int .i64 at_)]), (.pel [(.sl 4 code_)])])]).bind fun p11 =>
 (opB (A.cell p11.leaves 0)).bind fun b13 =>
 some (.val [(.sl 1 [[(.int .i64 (A.wrap .i64 (A.add at_ 1)))]]), (.bool (A.bnot b13))])
 else
 none
theorem g88_eq (A : Sy) (E : Env) (code_ : List (List D)) (at_ : Int) : (funT A Tryz.prog cs 88 [V.d (.sl 4 code_), V.d (.int .i64 at_)]).run E = g88 A E code_ at_ := by kernel_rfl
def g245 (A : Sy) (E : Env) (l_ : List (List D)) : Option PRes :=
 (E.call 100 [(.d (.sl 1 l_)), (.fn 270 [(.pel [(.sl 1 l_)])])]).bind fun p1 =>
 (opB (A.cell p1.leaves 0)).bind fun b3 =>
 some (.val [(.bool (A.bnot b3))])
theorem g245_eq (A : Sy) (E : Env) (l_ : List (List D)) : (funT A Tryz.prog cs 245 [V.d (.sl 1 l_)]).run E = g245 A E l_ := by kernel_rfl
def g103 (A : Sy) (E : Env) (s_0 : List (List D)) (s_1 : List (List D)) (s_2 : Int) (s_3 : Int) (k_ : Int) : Option PRes :=
 cutO (
 bif (A.ile 1 k_) then
 some (.inl [(.bool (A.ilt k_ (A.wrap .i64 (A.add 3 (A.rlen s_0)))))])
 else
 some (.inl [(.bool false)])
 ) fun ds1 =>
 (opB (A.cell ds1 0)).bind fun b2 =>
 some (.val [(.bool b2)])
theorem g103_eq (A : Sy) (E : Env) (s_0 : List (List D)) (s_1 : List (List D)) (s_2 : Int) (s_3 : Int) (k_ : Int) : (funT A Tryz.prog cs 103 [V.agg [V.d (.sl 1 s_0), V.d (.sl 1 s_1), V.d (.int .i64 s_2), V.d (.int .i64 s_3)], V.d (.int .i64 k_)]).run E = g103 A E s_0 s_1 s_2 s_3 k_ := by kernel_rfl
def g146 (A : Sy) (E : Env) (s_0 : List (List D)) (s_1 : List (List D)) (s_2 : Int) (s_3 : Int) (k_ : Int) (n_ : Int) : Option PRes :=
 bif (A.ieq k_ 1) then
 some (.val [(.bool true)])
 else
 bif (A.ieq k_ 2) then
 cutO (
 bif (A.ieq n_ 0) then
 some (.inl [(.bool true)])
 else
 some (.inl [(.bool (A.ieq n_ 1))])
 ) fun ds1 =>
 (opB (A.cell ds1 0)).bind fun b2 =>
 some (.val [(.bool b2)])
 else
 cutO (
 bif (A.ile 0 n_) then
 bif (A.inr (A.wrap .i64 (A.sub k_ 3)) (A.rlen s_0)) then
 (opI (A.cell (A.row s_0 (A.wrap .i64 (A.sub k_ 3))) 0) .i64).bind fun n3 =>
 some (.inl [(.bool (A.ilt n_ n3))])
 else
 none
 else
 some (.inl [(.bool false)])
 ) fun ds4 =>
 (opB (A.cell ds4 0)).bind fun b5 =>
 some (.val [(.bool b5)])
theorem g146_eq (A : Sy) (E : Env) (s_0 : List (List D)) (s_1 : List (List D)) (s_2 : Int) (s_3 : Int) (k_ : Int) (n_ : Int) : (funT A Tryz.prog cs 146 [V.agg [V.d (.sl 1 s_0), V.d (.sl 1 s_1), V.d (.int .i64 s_2), V.d (.int .i64 s_3)], V.d (.int .i64 k_), V.d (.int .i64 n_)]).run E = g146 A E s_0 s_1 s_2 s_3 k_ n_ := by kernel_rfl
def g208 (A : Sy) (E : Env) (s_0 : List (List D)) (s_1 : List (List D)) (s_2 : Int) (s_3 : Int) (at_ : Int) (n_ : Int) : Option PRes :=
 bif (A.ilt (A.wrap .i64 (A.sub (A.rlen s_1) n_)) at_) then
 some (.val [(.int .i64 0), (.bool false)])
 else
 bif (A.cutok at_ (A.wrap .i64 (A.add at_ n_)) (A.rlen s_1)) then
 bif (A.inr 0 (A.rlen (A.cut s_1 at_ (A.wrap .i64 (A.add at_ n_))))) then
 (opI (A.cell (A.row (A.cut s_1 at_ (A.wrap .i64 (A.add at_ n_))) 0) 0) .i64).bind fun n1 =>
 (E.call 245 [(.d (.sl 1 (A.cut s_1 at_ (A.wrap .i64 (A.add at_ n_)))))]).bind fun p2 =>
 (opB (A.cell p2.leaves 0)).bind fun b4 =>
 some (.val [(.int .i64 n1), (.bool b4)])
 else
 none
 else
 none
theorem g208_eq (A : Sy) (E : Env) (s_0 : List (List D)) (s_1 : List (List D)) (s_2 : Int) (s_3 : Int) (at_ : Int) (n_ : Int) : (funT A Tryz.prog cs 208 [V.agg [V.d (.sl 1 s_0), V.d (.sl 1 s_1), V.d (.int .i64 s_2), V.d (.int .i64 s_3)], V.d (.int .i64 at_), V.d (.int .i64 n_)]).run E = g208 A E s_0 s_1 s_2 s_3 at_ n_ := by kernel_rfl
def g209 (A : Sy) (E : Env) (s_0 : List (List D)) (s_1 : List (List D)) (s_2 : Int) (s_3 : Int) (at_ : Int) (n_ : Int) : Option PRes :=
 cutO (
 bif (A.ilt at_ s_3) then
 some (.inl [(.bool (A.ilt s_2 (A.wrap .i64 (A.add at_ n_))))])
 else
 some (.inl [(.bool false)])
 ) fun ds1 =>
 (opB (A.cell ds1 0)).bind fun b2 =>
 cutO (
 bif b2 then
 some (.inl [(.bool (A.ilt s_2 s_3))])
 else
 some (.inl [(.bool false)])
 ) fun ds3 =>
 (opB (A.cell ds3 0)).bind fun b4 =>
 some (.val [(.bool b4)])
theorem g209_eq (A : Sy) (E : Env) (s_0 : List (List D)) (s_1 : List (List D)) (s_2 : Int) (s_3 : Int) (at_ : Int) (n_ : Int) : (funT A Tryz.prog cs 209 [V.agg [V.d (.sl 1 s_0), V.d (.sl 1 s_1), V.d (.int .i64 s_2), V.d (.int .i64 s_3)], V.d (.int .i64 at_), V.d (.int .i64 n_)]).run E = g209 A E s_0 s_1 s_2 s_3 at_ n_ := by kernel_rfl
def g149 (A : Sy) (E : Env) (s_0 : List (List D)) (s_1 : List (List D)) (s_2 : Int) (s_3 : Int) (x_0 : Int) (x_1 : Int) (x_2 : Int) (x_3 : Int) (row_ : List (List D)) : Option PRes :=
 (E.call 208 [(.agg [(.d (.sl 1 s_0)), (.d (.sl 1 s_1)), (.d (.int .i64 s_2)), (.d (.int .i64 s_3))]), (.d (.int .i64 x_1)), (.d (.int .i64 (A.imax 1 x_2)))]).bind fun p1 =>
 (opI (A.cell p1.leaves 0) .i64).bind fun n3 =>
 (opB (A.cell p1.leaves 1)).bind fun b4 =>
 bif (A.bnot b4) then
 some (.val [(.sl 1 []), (.bool false)])
 else
 bif (A.ieq x_0 2) then
 (E.call 145 [(.d (.sl 1 row_)), (.d (.int .i64 0)), (.d (.sl 1 [[(.int .i64 n3)]]))]).bind fun p5 =>
 (opL (A.cell p5.leaves 0) 1).bind fun l7 =>
 some (.val [(.sl 1 l7), (.bool (A.ilt (A.rlen row_) 16))])
 else
 bif (A.ieq x_0 8) then
 (E.call 148 [(.d (.sl 1 row_)), (.d (.sl 1 [[(.int .i64 1)]]))]).bind fun p8 =>
 (opB (A.cell p8.leaves 0)).bind fun b10 =>
 bif (A.bnot b10) then
 some (.val [(.sl 1 []), (.bool false)])
 else
 (E.call 145 [(.d (.sl 1 row_)), (.d (.int .i64 1)), (.d (.sl 1 [[(.int .i64 n3)]]))]).bind fun p11 =>
 (opL (A.cell p11.leaves 0) 1).bind fun l13 =>
 some (.val [(.sl 1 l13), (.bool true)])
 else
 bif (A.ieq x_0 3) then
 (E.call 148 [(.d (.sl 1 row_)), (.d (.sl 1 [[(.int .i64 n3)]]))]).bind fun p14 =>
 (opB (A.cell p14.leaves 0)).bind fun b16 =>
 cutO (
 bif (A.bnot b16) then
 some (.inl [(.bool true)])
 else
 (E.call 209 [(.agg [(.d (.sl 1 s_0)), (.d (.sl 1 s_1)), (.d (.int .i64 s_2)), (.d (.int .i64 s_3))]), (.d (.int .i64 x_1)), (.d (.int .i64 (A.imax 1 x_2)))]).bind fun p17 =>
 (opB (A.cell p17.leaves 0)).bind fun b19 =>
 some (.inl [(.bool b19)])
 ) fun ds20 =>
 (opB (A.cell ds20 0)).bind fun b21 =>
 bif b21 then
 some (.val [(.sl 1 []), (.bool false)])
 else
 (E.call 145 [(.d (.sl 1 row_)), (.d (.int .i64 1)), (.d (.sl 1 []))]).bind fun p22 =>
 (opL (A.cell p22.leaves 0) 1).bind fun l24 =>
 some (.val [(.sl 1 l24), (.bool true)])
 else
 (E.call 148 [(.d (.sl 1 row_)), (.d (.sl 1 [[(.int .i64 n3)], [(.int .i64 1)]]))]).bind fun p25 =>
 (opB (A.cell p25.leaves 0)).bind fun b27 =>
 cutO (
 bif (A.bnot b27) then
 some (.inl [(.bool true)])
 else
 (E.call 209 [(.agg [(.d (.sl 1 s_0)), (.d (.sl 1 s_1)), (.d (.int .i64 s_2)), (.d (.int .i64 s_3))]), (.d (.int .i64 x_1)), (.d (.int .i64 (A.imax 1 x_2)))]).bind fun p28 =>
 (opB (A.cell p28.leaves 0)).bind fun b30 =>
 some (.inl [(.bool b30)])
 ) fun ds31 =>
 (opB (A.cell ds31 0)).bind fun b32 =>
 bif b32 then
 some (.val [(.sl 1 []), (.bool false)])
 else
 (E.call 145 [(.d (.sl 1 row_)), (.d (.int .i64 2)), (.d (.sl 1 []))]).bind fun p33 =>
 (opL (A.cell p33.leaves 0) 1).bind fun l35 =>
 some (.val [(.sl 1 l35), (.bool true)])
theorem g149_eq (A : Sy) (E : Env) (s_0 : List (List D)) (s_1 : List (List D)) (s_2 : Int) (s_3 : Int) (x_0 : Int) (x_1 : Int) (x_2 : Int) (x_3 : Int) (row_ : List (List D)) : (funT A Tryz.prog cs 149 [V.agg [V.d (.sl 1 s_0), V.d (.sl 1 s_1), V.d (.int .i64 s_2), V.d (.int .i64 s_3)], V.agg [V.d (.int .i64 x_0), V.d (.int .i64 x_1), V.d (.int .i64 x_2), V.d (.int .i64 x_3)], V.d (.sl 1 row_)]).run E = g149 A E s_0 s_1 s_2 s_3 x_0 x_1 x_2 x_3 row_ := by kernel_rfl
def g87 (A : Sy) (E : Env) (s_0 : List (List D)) (s_1 : List (List D)) (s_2 : Int) (s_3 : Int) (x_0 : Int) (x_1 : Int) (x_2 : Int) (x_3 : Int) (row_ : List (List D)) : Option PRes :=
 bif (A.ieq x_0 1) then
 (E.call 145 [(.d (.sl 1 row_)), (.d (.int .i64 0)), (.d (.sl 1 [[(.int .i64 x_1)]]))]).bind fun p1 =>
 (opL (A.cell p1.leaves 0) 1).bind fun l3 =>
 (E.call 103 [(.agg [(.d (.sl 1 s_0)), (.d (.sl 1 s_1)), (.d (.int .i64 s_2)), (.d (.int .i64 s_3))]), (.d (.int .i64 x_1))]).bind fun p4 =>
 (opB (A.cell p4.leaves 0)).bind fun b6 =>
 bif b6 then
 (E.call 146 [(.agg [(.d (.sl 1 s_0)), (.d (.sl 1 s_1)), (.d (.int .i64 s_2)), (.d (.int .i64 s_3))]), (.d (.int .i64 x_1)), (.d (.int .i64 x_3))]).bind fun p7 =>
 (opB (A.cell p7.leaves 0)).bind fun b9 =>
 bif b9 then
 some (.val [(.sl 1 l3), (.bool (A.ilt (A.rlen row_) 16))])
 else
 some (.val [(.sl 1 l3), (.bool false)])
 else
 some (.val [(.sl 1 l3), (.bool false)])
 else
 bif (A.ieq x_0 4) then
 (E.call 147 [(.agg [(.d (.int .i64 x_0)), (.d (.int .i64 x_1)), (.d (.int .i64 x_2)), (.d (.int .i64 x_3))]), (.d (.sl 1 row_))]).bind fun p10 =>
 (opL (A.cell p10.leaves 0) 1).bind fun l12 =>
 (opB (A.cell p10.leaves 1)).bind fun b13 =>
 some (.val [(.sl 1 l12), (.bool b13)])
 else
 bif (A.ieq x_0 5) then
 (E.call 147 [(.agg [(.d (.int .i64 x_0)), (.d (.int .i64 x_1)), (.d (.int .i64 x_2)), (.d (.int .i64 x_3))]), (.d (.sl 1 row_))]).bind fun p14 =>
 (opL (A.cell p14.leaves 0) 1).bind fun l16 =>
 (opB (A.cell p14.leaves 1)).bind fun b17 =>
 some (.val [(.sl 1 l16), (.bool b17)])
 else
 bif (A.ieq x_0 7) then
 (E.call 148 [(.d (.sl 1 row_)), (.d (.sl 1 [[(.int .i64 2)]]))]).bind fun p18 =>
 (opB (A.cell p18.leaves 0)).bind fun b20 =>
 bif (A.bnot b20) then
 some (.val [(.sl 1 []), (.bool false)])
 else
 (E.call 145 [(.d (.sl 1 row_)), (.d (.int .i64 1)), (.d (.sl 1 []))]).bind fun p21 =>
 (opL (A.cell p21.leaves 0) 1).bind fun l23 =>
 some (.val [(.sl 1 l23), (.bool true)])
 else
 bif (A.ieq x_0 6) then
 some (.val [(.sl 1 row_), (.bool true)])
 else
 bif (A.ieq x_0 10) then
 some (.val [(.sl 1 []), (.bool (A.ieq (A.rlen row_) 0))])
 else
 (E.call 149 [(.agg [(.d (.sl 1 s_0)), (.d (.sl 1 s_1)), (.d (.int .i64 s_2)), (.d (.int .i64 s_3))]), (.agg [(.d (.int .i64 x_0)), (.d (.int .i64 x_1)), (.d (.int .i64 x_2)), (.d (.int .i64 x_3))]), (.d (.sl 1 row_))]).bind fun p24 =>
 (opL (A.cell p24.leaves 0) 1).bind fun l26 =>
 (opB (A.cell p24.leaves 1)).bind fun b27 =>
 some (.val [(.sl 1 l26), (.bool b27)])
theorem g87_eq (A : Sy) (E : Env) (s_0 : List (List D)) (s_1 : List (List D)) (s_2 : Int) (s_3 : Int) (x_0 : Int) (x_1 : Int) (x_2 : Int) (x_3 : Int) (row_ : List (List D)) : (funT A Tryz.prog cs 87 [V.agg [V.d (.sl 1 s_0), V.d (.sl 1 s_1), V.d (.int .i64 s_2), V.d (.int .i64 s_3)], V.agg [V.d (.int .i64 x_0), V.d (.int .i64 x_1), V.d (.int .i64 x_2), V.d (.int .i64 x_3)], V.d (.sl 1 row_)]).run E = g87 A E s_0 s_1 s_2 s_3 x_0 x_1 x_2 x_3 row_ := by kernel_rfl
def g44 (A : Sy) (E : Env) (x_0 : List (List D)) (x_1 : List (List D)) (x_2 : Int) (x_3 : Int) (code_ : List (List D)) : Option PRes :=
 (E.call 49 [(.agg [(.d (.sl 1 x_0)), (.d (.sl 1 x_1)), (.d (.int .i64 x_2)), (.d (.int .i64 x_3))])]).bind fun p1 =>
 (opB (A.cell p1.leaves 0)).bind fun b3 =>
 cutO (
 bif (A.bnot b3) then
 some (.inl [(.bool true)])
 else
 some (.inl [(.bool (A.ilt (A.rlen code_) 1))])
 ) fun ds4 =>
 (opB (A.cell ds4 0)).bind fun b5 =>
 cutO (
 bif b5 then
 some (.inl [(.bool true)])
 else
 some (.inl [(.bool (A.ilt 6000 (A.rlen code_)))])
 ) fun ds6 =>
 (opB (A.cell ds6 0)).bind fun b7 =>
 bif b7 then
 some (.val [(.int .i64 0), (.bool false)])
 else
 E.lp (fun ds8 =>
 (opL (A.cell ds8 0) 4).bind fun l9 =>
 (opL (A.cell ds8 1) 4).bind fun l10 =>
 (opI (A.cell ds8 2) .i64).bind fun n11 =>
 (opI (A.cell ds8 3) .i64).bind fun n12 =>
 (opL (A.cell ds8 4) 1).bind fun l13 =>
 (opL (A.cell ds8 5) 1).bind fun l14 =>
 (opI (A.cell ds8 6) .i64).bind fun n15 =>
 (opI (A.cell ds8 7) .i64).bind fun n16 =>
 (opL (A.cell ds8 8) 2).bind fun l17 =>
 bif (A.ilt n12 n11) then
 bif (A.inr n12 (A.rlen l10)) then
 (opI (A.cell (A.row l10 n12) 0) .i64).bind fun n18 =>
 (opI (A.cell (A.row l10 n12) 1) .i64).bind fun n19 =>
 (opI (A.cell (A.row l10 n12) 2) .i64).bind fun n20 =>
 (opI (A.cell (A.row l10 n12) 3) .i64).bind fun n21 =>
 (opL (some (A.mval (.sl 1 []) (.int .i64 n12) l17)) 1).bind fun l22 =>
 cutO (
 bif (A.bnot (A.mhas (.int .i64 n12) l17)) then
 some (.inl [(.bool true)])
 else
 (E.call 86 [(.agg [(.d (.int .i64 n18)), (.d (.int .i64 n19)), (.d (.int .i64 n20)), (.d (.int .i64 n21))])]).bind fun p23 =>
 (opB (A.cell p23.leaves 0)).bind fun b25 =>
 some (.inl [(.bool (A.bnot b25))])
 ) fun ds26 =>
 (opB (A.cell ds26 0)).bind fun b27 =>
 bif b27 then
 some (.inr (.val [(.int .i64 n12), (.bool false)]))
 else
 (E.call 87 [(.agg [(.d (.sl 1 l13)), (.d (.sl 1 l14)), (.d (.int .i64 n15)), (.d (.int .i64 n16))]), (.agg [(.d (.int .i64 n18)), (.d (.int .i64 n19)), (.d (.int .i64 n20)), (.d (.int .i64 n21))]), (.d (.sl 1 l22))]).bind fun p28 =>
 (opL (A.cell p28.leaves 0) 1).bind fun l30 =>
 (opB (A.cell p28.leaves 1)).bind fun b31 =>
 (E.call 88 [(.d (.sl 4 l9)), (.d (.int .i64 n12))]).bind fun p32 =>
 (opL (A.cell p32.leaves 0) 1).bind fun l34 =>
 (opB (A.cell p32.leaves 1)).bind fun b35 =>
 cutO (
 bif (A.bnot b31) then
 some (.inl [(.bool true)])
 else
 some (.inl [(.bool (A.bnot b35))])
 ) fun ds36 =>
 (opB (A.cell ds36 0)).bind fun b37 =>
 bif b37 then
 some (.inr (.val [(.int .i64 n12), (.bool false)]))
 else
 E.lp (fun ds38 =>
 (opL (A.cell ds38 0) 4).bind fun l39 =>
 (opI (A.cell ds38 1) .i64).bind fun n40 =>
 (opL (A.cell ds38 2) 1).bind fun l41 =>
 (opL (A.cell ds38 3) 4).bind fun l42 =>
 (opI (A.cell ds38 4) .i64).bind fun n43 =>
 (opI (A.cell ds38 5) .i64).bind fun n44 =>
 (opL (A.cell ds38 6) 1).bind fun l45 =>
 (opI (A.cell ds38 7) .i64).bind fun n46 =>
 (opI (A.cell ds38 8) .i64).bind fun n47 =>
 (opL (A.cell ds38 9) 1).bind fun l48 =>
 (opL (A.cell ds38 10) 1).bind fun l49 =>
 (opI (A.cell ds38 11) .i64).bind fun n50 =>
 (opI (A.cell ds38 12) .i64).bind fun n51 =>
 (opL (A.cell ds38 13) 2).bind fun l52 =>
 bif (A.ilt n47 n46) then
 bif (A.inr n47 (A.rlen l45)) then
 (opI (A.cell (A.row l45 n47) 0) .i64).bind fun n53 =>
 (opL (some (A.mval (.sl 1 []) (.int .i64 n53) l52)) 1).bind fun l54 =>
 cutO (
 bif (A.mhas (.int .i64 n53) l52) then
 (E.call 89 [(.d (.sl 1 l54)), (.d (.sl 1 l41))]).bind fun p55 =>
 (opB (A.cell p55.leaves 0)).bind fun b57 =>
 some (.inl [(.bool (A.bnot b57))])
 else
 some (.inl [(.bool false)])
 ) fun ds58 =>
 (opB (A.cell ds58 0)).bind fun b59 =>
 bif b59 then
 some (.inr (.inr (.val [(.int .i64 n40), (.bool false)])))
 else
 some (.inl [(.sl 4 l39), (.int .i64 n40), (.sl 1 l41), (.sl 4 l42), (.int .i64 n43), (.int .i64 n44), (.sl 1 l45), (.int .i64 n46), (.int .i64 (A.wrap .i64 (A.add n47 1))), (.sl 1 l48), (.sl 1 l49), (.int .i64 n50), (.int .i64 n51), (.sl 2 (A.mput (.int .i64 n53) (.sl 1 l41) l52))])
 else
 none
 else
 some (.inr (.inl [(.sl 4 l39), (.sl 4 l42), (.int .i64 n43), (.int .i64 (A.wrap .i64 (A.add n44 1))), (.sl 1 l48), (.sl 1 l49), (.int .i64 n50), (.int .i64 n51), (.sl 2 l52)]))
 ) [(.sl 4 l9), (.int .i64 n12), (.sl 1 l30), (.sl 4 l10), (.int .i64 n11), (.int .i64 n12), (.sl 1 l34), (.int .i64 (A.rlen l34)), (.int .i64 0), (.sl 1 l13), (.sl 1 l14), (.int .i64 n15), (.int .i64 n16), (.sl 2 (A.mdel (.int .i64 n12) l17))]
 else
 none
 else
 some (.inr (.val [(.int .i64 (A.rlen l9)), (.bool true)]))
 ) [(.sl 4 code_), (.sl 4 code_), (.int .i64 (A.rlen code_)), (.int .i64 0), (.sl 1 x_0), (.sl 1 x_1), (.int .i64 x_2), (.int .i64 x_3), (.sl 2 (A.mput (.int .i64 0) (.sl 1 []) []))]
theorem g44_eq (A : Sy) (E : Env) (x_0 : List (List D)) (x_1 : List (List D)) (x_2 : Int) (x_3 : Int) (code_ : List (List D)) : (funT A Tryz.prog cs 44 [V.agg [V.d (.sl 1 x_0), V.d (.sl 1 x_1), V.d (.int .i64 x_2), V.d (.int .i64 x_3)], V.d (.sl 4 code_)]).run E = g44 A E x_0 x_1 x_2 x_3 code_ := by kernel_rfl
def g203 (A : Sy) (E : Env) (slices_ : List (List D)) : Option PRes :=
 E.lp (fun ds1 =>
 (opL (A.cell ds1 0) 1).bind fun l2 =>
 (opI (A.cell ds1 1) .i64).bind fun n3 =>
 (opL (A.cell ds1 2) 1).bind fun l4 =>
 (opI (A.cell ds1 3) .i64).bind fun n5 =>
 (opI (A.cell ds1 4) .i64).bind fun n6 =>
 bif (A.ilt n6 n5) then
 bif (A.inr n6 (A.rlen l4)) then
 (opL (A.cell (A.row l4 n6) 0) 1).bind fun l7 =>
 bif (A.ilt (A.wrap .i64 (A.add n3 (A.rlen l7))) 0) then
 none
 else
 some (.inl [(.sl 1 l2), (.int .i64 (A.wrap .i64 (A.add n3 (A.rlen l7)))), (.sl 1 l4), (.int .i64 n5), (.int .i64 (A.wrap .i64 (A.add n6 1)))])
 else
 none
 else
 bif (A.ilt n3 0) then
 none
 else
 bif (A.ilt 0 (A.wrap .i64 (A.sub n3 (A.wrap .i64 (A.sub 0 0))))) then
 bif (A.cutok 0 0 0) then
 bif (A.mkz (A.wrap .i64 (A.sub n3 (A.wrap .i64 (A.sub 0 0)))) 8) then
 bif (A.cutok 0 0 (A.rlen (A.rep (A.wrap .i64 (A.sub n3 (A.wrap .i64 (A.sub 0 0)))) [(.int .i64 0)]))) then
 E.lp (fun ds8 =>
 (opL (A.cell ds8 0) 1).bind fun l9 =>
 (opI (A.cell ds8 1) .i64).bind fun n10 =>
 (opI (A.cell ds8 2) .i64).bind fun n11 =>
 (opL (A.cell ds8 3) 1).bind fun l12 =>
 bif (A.ilt n11 n10) then
 bif (A.inr n11 (A.rlen l9)) then
 (opL (A.cell (A.row l9 n11) 0) 1).bind fun l13 =>
 bif (A.fits l12 l13 8) then
 some (.inl [(.sl 1 l9), (.int .i64 n10), (.int .i64 (A.wrap .i64 (A.add n11 1))), (.sl 1 (A.rapp l12 l13))])
 else
 none
 else
 none
 else
 some (.inr (.inr (.own 3 1 l12)))
 ) [(.sl 1 l2), (.int .i64 (A.rlen l2)), (.int .i64 0), (.sl 1 (A.head (A.rep (A.wrap .i64 (A.sub n3 (A.wrap .i64 (A.sub 0 0)))) [(.int .i64 0)]) 0))]
 else
 none
 else
 none
 else
 none
 else
 E.lp (fun ds14 =>
 (opL (A.cell ds14 0) 1).bind fun l15 =>
 (opI (A.cell ds14 1) .i64).bind fun n16 =>
 (opI (A.cell ds14 2) .i64).bind fun n17 =>
 (opL (A.cell ds14 3) 1).bind fun l18 =>
 bif (A.ilt n17 n16) then
 bif (A.inr n17 (A.rlen l15)) then
 (opL (A.cell (A.row l15 n17) 0) 1).bind fun l19 =>
 bif (A.fits l18 l19 8) then
 some (.inl [(.sl 1 l15), (.int .i64 n16), (.int .i64 (A.wrap .i64 (A.add n17 1))), (.sl 1 (A.rapp l18 l19))])
 else
 none
 else
 none
 else
 some (.inr (.inr (.own 3 1 l18)))
 ) [(.sl 1 l2), (.int .i64 (A.rlen l2)), (.int .i64 0), (.sl 1 [])]
 ) [(.sl 1 slices_), (.int .i64 0), (.sl 1 slices_), (.int .i64 (A.rlen slices_)), (.int .i64 0)]
theorem g203_eq (A : Sy) (E : Env) (slices_ : List (List D)) : (funT A Tryz.prog cs 203 [V.d (.sl 1 slices_)]).run E = g203 A E slices_ := by kernel_rfl
def g89 (A : Sy) (E : Env) (s1_ : List (List D)) (s2_ : List (List D)) : Option PRes :=
 bif (A.bnot (A.ieq (A.rlen s1_) (A.rlen s2_))) then
 some (.val [(.bool false)])
 else
 E.lp (fun ds1 =>
 (opL (A.cell ds1 0) 1).bind fun l2 =>
 (opL (A.cell ds1 1) 1).bind fun l3 =>
 (opI (A.cell ds1 2) .i64).bind fun n4 =>
 (opI (A.cell ds1 3) .i64).bind fun n5 =>
 bif (A.ilt n5 n4) then
 bif (A.inr n5 (A.rlen l2)) then
 (opI (A.cell (A.row l2 n5) 0) .i64).bind fun n6 =>
 bif (A.inr n5 (A.rlen l3)) then
 (opI (A.cell (A.row l3 n5) 0) .i64).bind fun n7 =>
 bif (A.bnot (A.ieq n6 n7)) then
 some (.inr (.val [(.bool false)]))
 else
 some (.inl [(.sl 1 l2), (.sl 1 l3), (.int .i64 n4), (.int .i64 (A.wrap .i64 (A.add n5 1)))])
 else
 none
 else
 none
 else
 some (.inr (.val [(.bool true)]))
 ) [(.sl 1 s1_), (.sl 1 s2_), (.int .i64 (A.rlen s1_)), (.int .i64 0)]
theorem g89_eq (A : Sy) (E : Env) (s1_ : List (List D)) (s2_ : List (List D)) : (funT A Tryz.prog cs 89 [V.d (.sl 1 s1_), V.d (.sl 1 s2_)]).run E = g89 A E s1_ s2_ := by kernel_rfl
def g102c (A : Sy) (E : Env)(n : Int) (a b : List (List D)) (lo hi : Int) : Option PRes :=
 (opL (A.cell [(.sl 1 a), (.sl 1 b), (.int .i64 lo), (.int .i64 hi)] 0) 1).bind fun l1 =>
 (opL (A.cell [(.sl 1 a), (.sl 1 b), (.int .i64 lo), (.int .i64 hi)] 1) 1).bind fun l2 =>
 (opI (A.cell [(.sl 1 a), (.sl 1 b), (.int .i64 lo), (.int .i64 hi)] 2) .i64).bind fun n3 =>
 (opI (A.cell [(.sl 1 a), (.sl 1 b), (.int .i64 lo), (.int .i64 hi)] 3) .i64).bind fun n4 =>
 (E.call 103 [(.agg [(.d (.sl 1 l1)), (.d (.sl 1 l2)), (.d (.int .i64 n3)), (.d (.int .i64 n4))]), (.d (.int .i64 n))]).bind fun p5 =>
 (opB (A.cell p5.leaves 0)).bind fun b7 =>
 some (.val [(.bool (A.bnot b7))])
theorem g102c_eq (A : Sy) (E : Env)(n : Int) (a b : List (List D)) (lo hi : Int) : (funT A Tryz.prog cs 102 [V.d (.int .i64 n), V.pel [D.sl 1 a, D.sl 1 b, D.int .i64 lo, D.int .i64 hi]]).run E = g102c A E n a b lo hi := by kernel_rfl
def g150c (A : Sy) (E : Env)(n : Int) (at_ : Int) (c : List (List D)) : Option PRes :=
 (opI (A.cell [(.int .i64 at_)] 0) .i64).bind fun n1 =>
 cutO (
 bif (A.ile n n1) then
 some (.inl [(.bool true)])
 else
 (opL (A.cell [(.sl 4 c)] 0) 4).bind fun l2 =>
 some (.inl [(.bool (A.ile (A.rlen l2) n))])
 ) fun ds3 =>
 (opB (A.cell ds3 0)).bind fun b4 =>
 some (.val [(.bool b4)])
theorem g150c_eq (A : Sy) (E : Env)(n : Int) (at_ : Int) (c : List (List D)) : (funT A Tryz.prog cs 150 [V.d (.int .i64 n), V.pel [D.int .i64 at_], V.pel [D.sl 4 c]]).run E = g150c A E n at_ c := by kernel_rfl
def g270c (A : Sy) (E : Env)(n : Int) (l : List (List D)) : Option PRes :=
 (opL (A.cell [(.sl 1 l)] 0) 1).bind fun l1 =>
 bif (A.inr 0 (A.rlen l1)) then
 (opI (A.cell (A.row l1 0) 0) .i64).bind fun n2 =>
 some (.val [(.bool (A.bnot (A.ieq n n2)))])
 else
 none
theorem g270c_eq (A : Sy) (E : Env)(n : Int) (l : List (List D)) : (funT A Tryz.prog cs 270 [V.d (.int .i64 n), V.pel [D.sl 1 l]]).run E = g270c A E n l := by kernel_rfl
def g100_101 (A : Sy) (E : Env)(rows : List (List D)) : Option PRes :=
 (E.call 167 [(.d (.sl 1 rows)), (.fn 101 [])]).bind fun p1 =>
 (opI (A.cell p1.leaves 0) .i64).bind fun n3 =>
 some (.val [(.bool (A.ile 0 n3))])
theorem g100_101_eq (A : Sy) (E : Env)(rows : List (List D)) : (funT A Tryz.prog cs 100 [V.d (.sl 1 rows), V.fn 101 []]).run E = g100_101 A E rows := by kernel_rfl
def g100_102 (A : Sy) (E : Env)(rows a b : List (List D)) (lo hi : Int) : Option PRes :=
 (E.call 167 [(.d (.sl 1 rows)), (.fn 102 [(.pel [(.sl 1 a), (.sl 1 b), (.int .i64 lo), (.int .i64 hi)])])]).bind fun p1 =>
 (opI (A.cell p1.leaves 0) .i64).bind fun n3 =>
 some (.val [(.bool (A.ile 0 n3))])
theorem g100_102_eq (A : Sy) (E : Env)(rows a b : List (List D)) (lo hi : Int) : (funT A Tryz.prog cs 100 [V.d (.sl 1 rows), V.fn 102 [V.pel [D.sl 1 a, D.sl 1 b, D.int .i64 lo, D.int .i64 hi]]]).run E = g100_102 A E rows a b lo hi := by kernel_rfl
def g100_150 (A : Sy) (E : Env)(rows : List (List D)) (at_ : Int) (c : List (List D)) : Option PRes :=
 (E.call 167 [(.d (.sl 1 rows)), (.fn 150 [(.pel [(.int .i64 at_)]), (.pel [(.sl 4 c)])])]).bind fun p1 =>
 (opI (A.cell p1.leaves 0) .i64).bind fun n3 =>
 some (.val [(.bool (A.ile 0 n3))])
theorem g100_150_eq (A : Sy) (E : Env)(rows : List (List D)) (at_ : Int) (c : List (List D)) : (funT A Tryz.prog cs 100 [V.d (.sl 1 rows), V.fn 150 [V.pel [D.int .i64 at_], V.pel [D.sl 4 c]]]).run E = g100_150 A E rows at_ c := by kernel_rfl
def g100_270 (A : Sy) (E : Env)(rows l : List (List D)) : Option PRes :=
 (E.call 167 [(.d (.sl 1 rows)), (.fn 270 [(.pel [(.sl 1 l)])])]).bind fun p1 =>
 (opI (A.cell p1.leaves 0) .i64).bind fun n3 =>
 some (.val [(.bool (A.ile 0 n3))])
theorem g100_270_eq (A : Sy) (E : Env)(rows l : List (List D)) : (funT A Tryz.prog cs 100 [V.d (.sl 1 rows), V.fn 270 [V.pel [D.sl 1 l]]]).run E = g100_270 A E rows l := by kernel_rfl
def g167_101 (A : Sy) (E : Env)(rows : List (List D)) : Option PRes :=
 E.lp (fun ds1 =>
 (opL (A.cell ds1 0) 1).bind fun l2 =>
 (opI (A.cell ds1 1) .i64).bind fun n3 =>
 (opI (A.cell ds1 2) .i64).bind fun n4 =>
 bif (A.ilt n4 n3) then
 bif (A.inr n4 (A.rlen l2)) then
 (opI (A.cell (A.row l2 n4) 0) .i64).bind fun n5 =>
 (E.call 101 [(.d (.int .i64 n5))]).bind fun p6 =>
 (opB (A.cell p6.leaves 0)).bind fun b8 =>
 bif b8 then
 some (.inr (.val [(.int .i64 n4)]))
 else
 some (.inl [(.sl 1 l2), (.int .i64 n3), (.int .i64 (A.wrap .i64 (A.add n4 1)))])
 else
 none
 else
 some (.inr (.val [(.int .i64 (-1))]))
 ) [(.sl 1 rows), (.int .i64 (A.rlen rows)), (.int .i64 0)]
theorem g167_101_eq (A : Sy) (E : Env)(rows : List (List D)) : (funT A Tryz.prog cs 167 [V.d (.sl 1 rows), V.fn 101 []]).run E = g167_101 A E rows := by kernel_rfl
def g167_102 (A : Sy) (E : Env)(rows a b : List (List D)) (lo hi : Int) : Option PRes :=
 E.lp (fun ds1 =>
 (opL (A.cell ds1 0) 1).bind fun l2 =>
 (opL (A.cell ds1 1) 1).bind fun l3 =>
 (opL (A.cell ds1 2) 1).bind fun l4 =>
 (opI (A.cell ds1 3) .i64).bind fun n5 =>
 (opI (A.cell ds1 4) .i64).bind fun n6 =>
 (opI (A.cell ds1 5) .i64).bind fun n7 =>
 (opI (A.cell ds1 6) .i64).bind fun n8 =>
 bif (A.ilt n8 n7) then
 bif (A.inr n8 (A.rlen l2)) then
 (opI (A.cell (A.row l2 n8) 0) .i64).bind fun n9 =>
 (E.call 102 [(.d (.int .i64 n9)), (.pel [(.sl 1 l3), (.sl 1 l4), (.int .i64 n5), (.int .i64 n6)])]).bind fun p10 =>
 (opB (A.cell p10.leaves 0)).bind fun b12 =>
 bif b12 then
 some (.inr (.val [(.int .i64 n8)]))
 else
 some (.inl [(.sl 1 l2), (.sl 1 l3), (.sl 1 l4), (.int .i64 n5), (.int .i64 n6), (.int .i64 n7), (.int .i64 (A.wrap .i64 (A.add n8 1)))])
 else
 none
 else
 some (.inr (.val [(.int .i64 (-1))]))
 ) [(.sl 1 rows), (.sl 1 a), (.sl 1 b), (.int .i64 lo), (.int .i64 hi), (.int .i64 (A.rlen rows)), (.int .i64 0)]
theorem g167_102_eq (A : Sy) (E : Env)(rows a b : List (List D)) (lo hi : Int) : (funT A Tryz.prog cs 167 [V.d (.sl 1 rows), V.fn 102 [V.pel [D.sl 1 a, D.sl 1 b, D.int .i64 lo, D.int .i64 hi]]]).run E = g167_102 A E rows a b lo hi := by kernel_rfl
def g167_150 (A : Sy) (E : Env)(rows : List (List D)) (at_ : Int) (c : List (List D)) : Option PRes :=
 E.lp (fun ds1 =>
 (opL (A.cell ds1 0) 1).bind fun l2 =>
 (opI (A.cell ds1 1) .i64).bind fun n3 =>
 (opL (A.cell ds1 2) 4).bind fun l4 =>
 (opI (A.cell ds1 3) .i64).bind fun n5 =>
 (opI (A.cell ds1 4) .i64).bind fun n6 =>
 bif (A.ilt n6 n5) then
 bif (A.inr n6 (A.rlen l2)) then
 (opI (A.cell (A.row l2 n6) 0) .i64).bind fun n7 =>
 (E.call 150 [(.d (.int .i64 n7)), (.pel [(.int .i64 n3)]), (.pel [(.sl 4 l4)])]).bind fun p8 =>
 (opB (A.cell p8.leaves 0)).bind fun b10 =>
 bif b10 then
 some (.inr (.val [(.int .i64 n6)]))
 else
 some (.inl [(.sl 1 l2), (.int .i64 n3), (.sl 4 l4), (.int .i64 n5), (.int .i64 (A.wrap .i64 (A.add n6 1)))])
 else
 none
 else
 some (.inr (.val [(.int .i64 (-1))]))
 ) [(.sl 1 rows), (.int .i64 at_), (.sl 4 c), (.int .i64 (A.rlen rows)), (.int .i64 0)]
theorem g167_150_eq (A : Sy) (E : Env)(rows : List (List D)) (at_ : Int) (c : List (List D)) : (funT A Tryz.prog cs 167 [V.d (.sl 1 rows), V.fn 150 [V.pel [D.int .i64 at_], V.pel [D.sl 4 c]]]).run E = g167_150 A E rows at_ c := by kernel_rfl
def g167_270 (A : Sy) (E : Env)(rows l : List (List D)) : Option PRes :=
 E.lp (fun ds1 =>
 (opL (A.cell ds1 0) 1).bind fun l2 =>
 (opL (A.cell ds1 1) 1).bind fun l3 =>
 (opI (A.cell ds1 2) .i64).bind fun n4 =>
 (opI (A.cell ds1 3) .i64).bind fun n5 =>
 bif (A.ilt n5 n4) then
 bif (A.inr n5 (A.rlen l2)) then
 (opI (A.cell (A.row l2 n5) 0) .i64).bind fun n6 =>
 (E.call 270 [(.d (.int .i64 n6)), (.pel [(.sl 1 l3)])]).bind fun p7 =>
 (opB (A.cell p7.leaves 0)).bind fun b9 =>
 bif b9 then
 some (.inr (.val [(.int .i64 n5)]))
 else
 some (.inl [(.sl 1 l2), (.sl 1 l3), (.int .i64 n4), (.int .i64 (A.wrap .i64 (A.add n5 1)))])
 else
 none
 else
 some (.inr (.val [(.int .i64 (-1))]))
 ) [(.sl 1 rows), (.sl 1 l), (.int .i64 (A.rlen rows)), (.int .i64 0)]
theorem g167_270_eq (A : Sy) (E : Env)(rows l : List (List D)) : (funT A Tryz.prog cs 167 [V.d (.sl 1 rows), V.fn 270 [V.pel [D.sl 1 l]]]).run E = g167_270 A E rows l := by kernel_rfl
end Go.Vm
end

section
set_option maxRecDepth 100000
set_option maxHeartbeats 1000000
namespace Go.Vm
open Go.Proofs
theorem c60 (n lo hi : Int) : cF 144 [.d (.int .i64 n), .d (.int .i64 lo), .d (.int .i64 hi)] = some (.val [.bool (withinB n lo hi)]) := by
  refine cOf (by kernel_rfl) rfl ?_
  rw [g144_eq]
  simp only [g144, go1, Option.bind_some, eq_self, cond_true, cond_false, Nat.reduceAdd, Int.reduceEq, Int.reduceLT, Int.reduceLE, Int.reduceSub, Int.reduceAdd]
  rfl
theorem c59 (x : Ins) : cF 143 [insV x] = some (.val [.bool (firstB x)]) := by
  unfold insV
  refine cOf (by kernel_rfl) rfl ?_
  rw [g143_eq]
  simp only [g143, go1, Option.bind_some, eq_self, cond_true, cond_false, Nat.reduceAdd, Int.reduceEq, Int.reduceLT, Int.reduceLE, Int.reduceSub, Int.reduceAdd, c60]
  unfold firstB; grind
theorem c39 (n : Int) : cF 101 [.d (.int .i64 n)] = some (.val [.bool (decide (n < 1))]) := by
  refine cOf (by kernel_rfl) rfl ?_
  rw [g101_eq]
  simp only [g101, go1, Option.bind_some, eq_self, cond_true, cond_false, Nat.reduceAdd, Int.reduceEq, Int.reduceLT, Int.reduceLE, Int.reduceSub, Int.reduceAdd]
theorem c41 (la lb : List Int) (lo hi k : Int) (h : la.length ≤ 1000) : cF 103 [shV (irows la) (irows lb) lo hi, .d (.int .i64 k)] = some (.val [.bool (withinB k 1 (2 + il la))]) := by
  unfold shV
  refine cOf (by kernel_rfl) rfl ?_
  rw [g103_eq]
  simp only [g103, go1, Option.bind_some, eq_self, cond_true, cond_false, Nat.reduceAdd, Int.reduceEq, Int.reduceLT, Int.reduceLE, Int.reduceSub, Int.reduceAdd, irows_len]
  rw [wrap_id (by omega) (by omega)]
  unfold withinB il
  grind
theorem c58 (x : Ins) : ∃ s, cF 142 [.d (.int .i64 x.op)] = some (.val [.str s, .bool (x.op == 1 || x.op == 2 || x.op == 3 || x.op == 6 || x.op == 7 || x.op == 8 || x.op == 9), .bool (x.op == 4 || x.op == 5), .bool (x.op == 8 || x.op == 9), .bool (x.op == 1), .bool (withinB x.op 1 10)]) := by
  obtain ⟨op, a, b, n⟩ := x
  simp only
  by_cases h : 1 ≤ op ∧ op ≤ 10
  · have : op = 1 ∨ op = 2 ∨ op = 3 ∨ op = 4 ∨ op = 5 ∨ op = 6 ∨ op = 7 ∨ op = 8 ∨ op = 9 ∨ op = 10 := by omega
    rcases this with rfl | rfl | rfl | rfl | rfl | rfl | rfl | rfl | rfl | rfl
    all_goals
      refine cOfE (by kernel_rfl) rfl ?_
      simp only [g142_eq, g142, go1, Option.bind_some, eq_self, cond_true, cond_false, Nat.reduceAdd, Int.reduceEq, Int.reduceLT, Int.reduceLE, Int.reduceSub, Int.reduceAdd]
      exact ⟨_, rfl⟩
  · refine cOfE (by kernel_rfl) rfl ?_
    simp only [g142_eq, g142, go1, Option.bind_some, eq_self, cond_true, cond_false, Nat.reduceAdd, Int.reduceEq, Int.reduceLT, Int.reduceLE, Int.reduceSub, Int.reduceAdd]
    refine ⟨bs [], ?_⟩
    rw [show withinB op 1 10 = false from by rw [withinB_false]; omega]
    have e : op ≠ 1 ∧ op ≠ 2 ∧ op ≠ 3 ∧ op ≠ 4 ∧ op ≠ 5 ∧ op ≠ 6 ∧ op ≠ 7 ∧ op ≠ 8 ∧ op ≠ 9 ∧ op ≠ 10 := by omega
    simp [e]
theorem c31 (x : Ins) : cF 86 [insV x] = some (.val [.bool (rightB x)]) := by
  obtain ⟨s, h58⟩ := c58 x
  have h59 := c59 x
  unfold insV at *
  refine cOf (by kernel_rfl) rfl ?_
  rw [g86_eq]
  simp only [g86, go1, Option.bind_some, eq_self, cond_true, cond_false, Nat.reduceAdd, Int.reduceEq, Int.reduceLT, Int.reduceLE, Int.reduceSub, Int.reduceAdd, h58, h59, c60]
  rw [right_eq]
  simp only [show ∀ a b : Int, (a == b) = decide (a = b) from fun a b => by rw [Bool.eq_iff_iff]; simp]
  generalize withinB x.op 1 10 = w
  generalize firstB x = f
  clear h58 h59
  generalize decide (x.op = 1) = a
  generalize decide (x.n = 0) = b
  generalize decide (x.op = 8) = c
  generalize decide (x.op = 9) = d
  generalize withinB x.b 1 8 = u
  generalize decide (x.b = 0) = v
  cases w <;> cases f <;> cases a <;> cases b <;> cases c <;> cases d <;> rfl
theorem c62 (la lb : List Int) (lo hi k n : Int) (hl : la.length ≤ 1000) (h1 : 1 ≤ k) (h2 : k < 3 + il la) : cF 146 [shV (irows la) (irows lb) lo hi, .d (.int .i64 k), .d (.int .i64 n)] = some (.val [.bool (valueB la k n)]) := by
  unfold shV
  unfold il at h2
  refine cOf (by kernel_rfl) rfl ?_
  rw [g146_eq]
  simp only [g146, go1, Option.bind_some, eq_self, cond_true, cond_false, Nat.reduceAdd, Int.reduceEq, Int.reduceLT, Int.reduceLE, Int.reduceSub, Int.reduceAdd, irows_len]
  unfold valueB
  by_cases k1 : k = 1
  · simp [k1]
  by_cases k2 : k = 2
  · subst k2; rfl
  simp (disch := omega) only [wrap_id, decT, decF, go1, Option.bind_some, eq_self, cond_true, cond_false, Nat.reduceAdd, Int.reduceEq, Int.reduceLT, Int.reduceLE, Int.reduceSub, Int.reduceAdd, irows_cell]
  rw [if_neg k1, if_neg k2]
end Go.Vm
end

section
set_option maxRecDepth 100000
set_option maxHeartbeats 1000000
namespace Go.Vm
open Go.Proofs
theorem c75_39 (l : List Int) (hl : l.length ≤ 100000) : cF 167 [.d (.sl 1 (irows l)), .fn 101 []] = some (.val [.int .i64 (idxI (fun n => decide (n < 1)) l 0)]) := by
  refine cOf (by kernel_rfl) rfl ?_
  rw [g167_101_eq]
  simp only [g167_101, go1, Option.bind_some, eq_self, cond_true, cond_false, Nat.reduceAdd, Int.reduceEq, Int.reduceLT, Int.reduceLE, Int.reduceSub, Int.reduceAdd]
  refine idx_loop (fun n => decide (n < 1)) l (fun i => [.sl 1 (irows l), .int .i64 ((irows l).length : Int), .int .i64 i]) (fun i x hx => ?_) ?_
  · have hlt := (List.getElem?_eq_some_iff.1 hx).1
    simp only [go1, Option.bind_some, eq_self, cond_true, cond_false, Nat.reduceAdd, Int.reduceEq, Int.reduceLT, Int.reduceLE, Int.reduceSub, Int.reduceAdd, irows_len, ilt_at hlt, inr_at hlt, irows_at hx, c39, wrap_succ hlt (by omega)]
  · simp only [go1, Option.bind_some, eq_self, cond_true, cond_false, Nat.reduceAdd, Int.reduceEq, Int.reduceLT, Int.reduceLE, Int.reduceSub, Int.reduceAdd, irows_len, ilt_self]
theorem c38_39 (l : List Int) (hl : l.length ≤ 100000) : cF 100 [.d (.sl 1 (irows l)), .fn 101 []] = some (.val [.bool (l.any fun n => decide (n < 1))]) := by
  refine cOf (by kernel_rfl) rfl ?_
  rw [g100_101_eq]
  simp only [g100_101, go1, Option.bind_some, eq_self, cond_true, cond_false, Nat.reduceAdd, Int.reduceEq, Int.reduceLT, Int.reduceLE, Int.reduceSub, Int.reduceAdd, c75_39 l hl]
  rw [idxI_any _ _ _ (by omega)]
end Go.Vm
end

section
set_option maxRecDepth 100000
set_option maxHeartbeats 1000000
namespace Go.Vm
open Go.Proofs
theorem c40 (la lb : List Int) (lo hi n : Int) (h : la.length ≤ 1000) : cF 102 [.d (.int .i64 n), .pel [.sl 1 (irows la), .sl 1 (irows lb), .int .i64 lo, .int .i64 hi]] = some (.val [.bool (!withinB n 1 (2 + il la))]) := by
  have h41 := c41 la lb lo hi n h
  unfold shV at h41
  refine cOf (by kernel_rfl) rfl ?_
  rw [g102c_eq]
  simp only [g102c, go1, Option.bind_some, eq_self, cond_true, cond_false, Nat.reduceAdd, Int.reduceEq, Int.reduceLT, Int.reduceLE, Int.reduceSub, Int.reduceAdd, h41]
theorem c75_40 (l la lb : List Int) (lo hi : Int) (hl : l.length ≤ 100000) (h : la.length ≤ 1000) : cF 167 [.d (.sl 1 (irows l)), .fn 102 [.pel [.sl 1 (irows la), .sl 1 (irows lb), .int .i64 lo, .int .i64 hi]]] = some (.val [.int .i64 (idxI (fun n => !withinB n 1 (2 + il la)) l 0)]) := by
  refine cOf (by kernel_rfl) rfl ?_
  rw [g167_102_eq]
  simp only [g167_102, go1, Option.bind_some, eq_self, cond_true, cond_false, Nat.reduceAdd, Int.reduceEq, Int.reduceLT, Int.reduceLE, Int.reduceSub, Int.reduceAdd]
  refine idx_loop (fun n => !withinB n 1 (2 + il la)) l (fun i => [.sl 1 (irows l), .sl 1 (irows la), .sl 1 (irows lb), .int .i64 lo, .int .i64 hi, .int .i64 ((irows l).length : Int), .int .i64 i]) (fun i x hx => ?_) ?_
  · have hlt := (List.getElem?_eq_some_iff.1 hx).1
    simp only [go1, Option.bind_some, eq_self, cond_true, cond_false, Nat.reduceAdd, Int.reduceEq, Int.reduceLT, Int.reduceLE, Int.reduceSub, Int.reduceAdd, irows_len, ilt_at hlt, inr_at hlt, irows_at hx, c40 la lb lo hi _ h, wrap_succ hlt (by omega)]
  · simp only [go1, Option.bind_some, eq_self, cond_true, cond_false, Nat.reduceAdd, Int.reduceEq, Int.reduceLT, Int.reduceLE, Int.reduceSub, Int.reduceAdd, irows_len, ilt_self]
theorem c38_40 (l la lb : List Int) (lo hi : Int) (hl : l.length ≤ 100000) (h : la.length ≤ 1000) : cF 100 [.d (.sl 1 (irows l)), .fn 102 [.pel [.sl 1 (irows la), .sl 1 (irows lb), .int .i64 lo, .int .i64 hi]]] = some (.val [.bool (l.any fun n => !withinB n 1 (2 + il la))]) := by
  refine cOf (by kernel_rfl) rfl ?_
  rw [g100_102_eq]
  simp only [g100_102, go1, Option.bind_some, eq_self, cond_true, cond_false, Nat.reduceAdd, Int.reduceEq, Int.reduceLT, Int.reduceLE, Int.reduceSub, Int.reduceAdd, c75_40 l la lb lo hi hl h]
  rw [idxI_any _ _ _ (by omega)]
theorem c66 (n at_ : Int) (c : List (List D)) : cF 150 [.d (.int .i64 n), .pel [.int .i64 at_], .pel [.sl 4 c]] = some (.val [.bool (decide (n ≤ at_) || decide ((c.length : Int) ≤ n))]) := by
  refine cOf (by kernel_rfl) rfl ?_
  rw [g150c_eq]
  simp only [g150c, go1, Option.bind_some, eq_self, cond_true, cond_false, Nat.reduceAdd, Int.reduceEq, Int.reduceLT, Int.reduceLE, Int.reduceSub, Int.reduceAdd]
theorem c75_66 (l : List Int) (at_ : Int) (c : List (List D)) (hl : l.length ≤ 100000) : cF 167 [.d (.sl 1 (irows l)), .fn 150 [.pel [.int .i64 at_], .pel [.sl 4 c]]] = some (.val [.int .i64 (idxI (fun n => decide (n ≤ at_) || decide ((c.length : Int) ≤ n)) l 0)]) := by
  refine cOf (by kernel_rfl) rfl ?_
  rw [g167_150_eq]
  simp only [g167_150, go1, Option.bind_some, eq_self, cond_true, cond_false, Nat.reduceAdd, Int.reduceEq, Int.reduceLT, Int.reduceLE, Int.reduceSub, Int.reduceAdd]
  refine idx_loop (fun n => decide (n ≤ at_) || decide ((c.length : Int) ≤ n)) l (fun i => [.sl 1 (irows l), .int .i64 at_, .sl 4 c, .int .i64 ((irows l).length : Int), .int .i64 i]) (fun i x hx => ?_) ?_
  · have hlt := (List.getElem?_eq_some_iff.1 hx).1
    simp only [go1, Option.bind_some, eq_self, cond_true, cond_false, Nat.reduceAdd, Int.reduceEq, Int.reduceLT, Int.reduceLE, Int.reduceSub, Int.reduceAdd, irows_len, ilt_at hlt, inr_at hlt, irows_at hx, c66, wrap_succ hlt (by omega)]
  · simp only [go1, Option.bind_some, eq_self, cond_true, cond_false, Nat.reduceAdd, Int.reduceEq, Int.reduceLT, Int.reduceLE, Int.reduceSub, Int.reduceAdd, irows_len, ilt_self]
theorem c38_66 (l : List Int) (at_ : Int) (c : List (List D)) (hl : l.length ≤ 100000) : cF 100 [.d (.sl 1 (irows l)), .fn 150 [.pel [.int .i64 at_], .pel [.sl 4 c]]] = some (.val [.bool (l.any fun n => decide (n ≤ at_) || decide ((c.length : Int) ≤ n))]) := by
  refine cOf (by kernel_rfl) rfl ?_
  rw [g100_150_eq]
  simp only [g100_150, go1, Option.bind_some, eq_self, cond_true, cond_false, Nat.reduceAdd, Int.reduceEq, Int.reduceLT, Int.reduceLE, Int.reduceSub, Int.reduceAdd, c75_66 l at_ c hl]
  rw [idxI_any _ _ _ (by omega)]
theorem c147 (n : Int) (l : List Int) (hl : 0 < l.length) : cF 270 [.d (.int .i64 n), .pel [.sl 1 (irows l)]] = some (.val [.bool (!decide (n = l.getD 0 0))]) := by
  refine cOf (by kernel_rfl) rfl ?_
  rw [g270c_eq]
  simp only [g270c, go1, Option.bind_some, eq_self, cond_true, cond_false, Nat.reduceAdd, Int.reduceEq, Int.reduceLT, Int.reduceLE, Int.reduceSub, Int.reduceAdd]
  have hq : sy.cell (sy.row (irows l) 0) 0 = some (.int .i64 (l.getD 0 0)) := irows_cell (i := 0) (by omega) (by omega)
  rw [irows_len, decT (p := (0 : Int) < (l.length : Int)) (by omega), hq]
  simp only [go1, Option.bind_some, eq_self, cond_true, cond_false, Nat.reduceAdd, Int.reduceEq, Int.reduceLT, Int.reduceLE, Int.reduceSub, Int.reduceAdd]
theorem c75_147 (l m : List Int) (hl : l.length ≤ 100000) (hm : 0 < m.length) : cF 167 [.d (.sl 1 (irows l)), .fn 270 [.pel [.sl 1 (irows m)]]] = some (.val [.int .i64 (idxI (fun n => !decide (n = m.getD 0 0)) l 0)]) := by
  refine cOf (by kernel_rfl) rfl ?_
  rw [g167_270_eq]
  simp only [g167_270, go1, Option.bind_some, eq_self, cond_true, cond_false, Nat.reduceAdd, Int.reduceEq, Int.reduceLT, Int.reduceLE, Int.reduceSub, Int.reduceAdd]
  refine idx_loop (fun n => !decide (n = m.getD 0 0)) l (fun i => [.sl 1 (irows l), .sl 1 (irows m), .int .i64 ((irows l).length : Int), .int .i64 i]) (fun i x hx => ?_) ?_
  · have hlt := (List.getElem?_eq_some_iff.1 hx).1
    simp only [go1, Option.bind_some, eq_self, cond_true, cond_false, Nat.reduceAdd, Int.reduceEq, Int.reduceLT, Int.reduceLE, Int.reduceSub, Int.reduceAdd, irows_len, ilt_at hlt, inr_at hlt, irows_at hx, c147 _ m hm, wrap_succ hlt (by omega)]
  · simp only [go1, Option.bind_some, eq_self, cond_true, cond_false, Nat.reduceAdd, Int.reduceEq, Int.reduceLT, Int.reduceLE, Int.reduceSub, Int.reduceAdd, irows_len, ilt_self]
theorem c38_147 (l m : List Int) (hl : l.length ≤ 100000) (hm : 0 < m.length) : cF 100 [.d (.sl 1 (irows l)), .fn 270 [.pel [.sl 1 (irows m)]]] = some (.val [.bool (l.any fun n => !decide (n = m.getD 0 0))]) := by
  refine cOf (by kernel_rfl) rfl ?_
  rw [g100_270_eq]
  simp only [g100_270, go1, Option.bind_some, eq_self, cond_true, cond_false, Nat.reduceAdd, Int.reduceEq, Int.reduceLT, Int.reduceLE, Int.reduceSub, Int.reduceAdd, c75_147 l m hl hm]
  rw [idxI_any _ _ _ (by omega)]
theorem c118 (l : List Int) (hl : l.length ≤ 100000) (h0 : 0 < l.length) : cF 245 [.d (.sl 1 (irows l))] = some (.val [.bool (l.all fun n => n == l.getD 0 0)]) := by
  refine cOf (by kernel_rfl) rfl ?_
  rw [g245_eq]
  simp only [g245, go1, Option.bind_some, eq_self, cond_true, cond_false, Nat.reduceAdd, Int.reduceEq, Int.reduceLT, Int.reduceLE, Int.reduceSub, Int.reduceAdd, c38_147 l l hl h0]
  have e : (fun n : Int => n == l.getD 0 0) = fun n => decide (n = l.getD 0 0) := by funext n; rw [Bool.eq_iff_iff]; simp
  rw [← List.not_all_eq_any_not, Bool.not_not, e]
theorem c34 (la lb : List Int) (hl : la.length ≤ 100000) : cF 89 [.d (.sl 1 (irows la)), .d (.sl 1 (irows lb))] = some (.val [.bool (la == lb)]) := by
  refine cOf (by kernel_rfl) rfl ?_
  rw [g89_eq]
  simp only [g89, go1, Option.bind_some, eq_self, cond_true, cond_false, Nat.reduceAdd, Int.reduceEq, Int.reduceLT, Int.reduceLE, Int.reduceSub, Int.reduceAdd, irows_len]
  by_cases hlen : la.length = lb.length
  · rw [decT (p := (la.length : Int) = (lb.length : Int)) (by omega)]
    simp only [go1, Option.bind_some, eq_self, cond_true, cond_false, Nat.reduceAdd, Int.reduceEq, Int.reduceLT, Int.reduceLE, Int.reduceSub, Int.reduceAdd]
    refine loopF_at (fun i : Nat => [.sl 1 (irows la), .sl 1 (irows lb), .int .i64 (la.length : Int), .int .i64 (i : Int)]) (fun i => i ≤ la.length ∧ (la == lb) = (la.drop i == lb.drop i)) (fun i => la.length - i) (fun i ⟨hi, he⟩ => ?_) 0 ⟨Nat.zero_le _, rfl⟩
    by_cases hlt : i < la.length
    · have hx : la[i]? = some la[i] := List.getElem?_eq_getElem hlt
      have hy : lb[i]? = some (lb[i]'(by omega)) := List.getElem?_eq_getElem (by omega)
      have hd : (la.drop i == lb.drop i) = (decide (la[i] = lb[i]'(by omega)) && (la.drop (i + 1) == lb.drop (i + 1))) := by
        rw [List.drop_eq_getElem_cons hlt, List.drop_eq_getElem_cons (show i < lb.length by omega), List.cons_beq_cons]
        congr 1
      simp only [go1, Option.bind_some, eq_self, cond_true, cond_false, Nat.reduceAdd, Int.reduceEq, Int.reduceLT, Int.reduceLE, Int.reduceSub, Int.reduceAdd, irows_len, ilt_at hlt, inr_at hlt, inr_at (show i < lb.length by omega), irows_at hx, irows_at hy, wrap_succ hlt (by omega)]
      by_cases hq : la[i] = lb[i]'(by omega)
      · left
        refine ⟨i + 1, by simp [hq], ⟨by omega, ?_⟩, by omega⟩
        rw [he, hd]; simp [hq]
      · right
        rw [he, hd]; simp [hq]
    · right
      have : i = la.length := by omega
      subst this
      simp only [go1, Option.bind_some, eq_self, cond_true, cond_false, Nat.reduceAdd, Int.reduceEq, Int.reduceLT, Int.reduceLE, Int.reduceSub, Int.reduceAdd, irows_len, ilt_self]
      rw [he, List.drop_length, hlen, List.drop_length]
      rfl
  · rw [decF (p := (la.length : Int) = (lb.length : Int)) (by omega)]
    simp only [go1, Option.bind_some, eq_self, cond_true, cond_false, Nat.reduceAdd, Int.reduceEq, Int.reduceLT, Int.reduceLE, Int.reduceSub, Int.reduceAdd]
    have : (la == lb) = false := by rw [beq_eq_false_iff_ne]; intro h; exact hlen (by rw [h])
    rw [this]
theorem c64 (row ks : List Int) (hl : row.length ≤ 1000) (hk : ks.length ≤ 1000) : cF 148 [.d (.sl 1 (irows row)), .d (.sl 1 (irows ks))] = some (.val [.bool (endsB row ks)]) := by
  refine cOf (by kernel_rfl) rfl ?_
  rw [g148_eq]
  simp only [g148, go1, Option.bind_some, eq_self, cond_true, cond_false, Nat.reduceAdd, Int.reduceEq, Int.reduceLT, Int.reduceLE, Int.reduceSub, Int.reduceAdd, irows_len]
  rw [wrap_id (by omega) (by omega)]
  unfold endsB
  by_cases h : ks.length ≤ row.length
  · rw [decT (p := 0 ≤ (row.length : Int) - (ks.length : Int)) (by omega)]
    have e : List.drop ((row.length : Int) - (ks.length : Int)).toNat (List.take (row.length : Int).toNat (irows row)) = irows (row.drop (row.length - ks.length)) := by
      rw [irows_take, irows_drop]
      congr 1
      rw [show ((row.length : Int) - (ks.length : Int)).toNat = row.length - ks.length by omega, show (row.length : Int).toNat = row.length by omega, List.take_length]
    simp (disch := omega) only [wrap_id, decT, decF, go1, Option.bind_some, eq_self, cond_true, cond_false, Nat.reduceAdd, Int.reduceEq, Int.reduceLT, Int.reduceLE, Int.reduceSub, Int.reduceAdd, e]
    rw [c34 _ _ (by simp; omega)]
    simp (disch := omega) only [wrap_id, decT, decF, go1, Option.bind_some, eq_self, cond_true, cond_false, Nat.reduceAdd, Int.reduceEq, Int.reduceLT, Int.reduceLE, Int.reduceSub, Int.reduceAdd]
  · rw [decF (p := 0 ≤ (row.length : Int) - (ks.length : Int)) (by omega), decF h]
    simp only [go1, Option.bind_some, eq_self, cond_true, cond_false, Nat.reduceAdd, Int.reduceEq, Int.reduceLT, Int.reduceLE, Int.reduceSub, Int.reduceAdd]
end Go.Vm
end

section
set_option maxRecDepth 100000
set_option maxHeartbeats 1000000
namespace Go.Vm
open Go.Proofs
theorem c94 (a b : List Int) (ha : a.length ≤ 100000) (hb : b.length ≤ 100000) : cF 203 [.d (.sl 1 [[.sl 1 (irows a)], [.sl 1 (irows b)]])] = some (.own 3 1 (irows (a ++ b))) := by
  refine cOf (by kernel_rfl) rfl ?_
  rw [g203_eq]
  simp only [g203, go1, Option.bind_some, eq_self, cond_true, cond_false, Nat.reduceAdd, Int.reduceEq, Int.reduceLT, Int.reduceLE, Int.reduceSub, Int.reduceAdd]
  have inner : ∀ s : List (List D), s = [] → loopF (fun ds8 => (opL (sy.cell ds8 0) 1).bind fun l9 => (opI (sy.cell ds8 1) IntKind.i64).bind fun n10 => (opI (sy.cell ds8 2) IntKind.i64).bind fun n11 => (opL (sy.cell ds8 3) 1).bind fun l12 =>
      bif decide (n11 < n10) then bif decide (0 ≤ n11 ∧ n11 < (l9.length : Int)) then (opL (sy.cell (sy.row l9 n11) 0) 1).bind fun l13 => bif decide ((l12.length + l13.length) * 9 ≤ 140737488355328) then
        some (Sum.inl [D.sl 1 l9, D.int IntKind.i64 n10, D.int IntKind.i64 (IntKind.i64.wrap (n11 + 1)), D.sl 1 (l12 ++ l13)]) else none else none
      else some (Sum.inr (Sum.inr (PRes.own 3 1 l12)) : List D ⊕ (List D ⊕ PRes))) [.sl 1 [[.sl 1 (irows a)], [.sl 1 (irows b)]], .int .i64 2, .int .i64 0, .sl 1 s] = some (.inr (.own 3 1 (irows (a ++ b)))) := by
    intro s hs
    subst hs
    have r0 : sy.cell (sy.row [[D.sl 1 (irows a)], [D.sl 1 (irows b)]] 0) 0 = some (.sl 1 (irows a)) := rfl
    have r1 : sy.cell (sy.row [[D.sl 1 (irows a)], [D.sl 1 (irows b)]] 1) 0 = some (.sl 1 (irows b)) := rfl
    have hl : (([[D.sl 1 (irows a)], [D.sl 1 (irows b)]] : List (List D)).length : Int) = 2 := rfl
    rw [loopF_eq]
    simp (disch := omega) only [wrap_id, decT, decF, go1, Option.bind_some, eq_self, cond_true, cond_false, Nat.reduceAdd, Int.reduceEq, Int.reduceLT, Int.reduceLE, Int.reduceSub, Int.reduceAdd, hl, r0, irows_len, List.nil_append, List.length_nil]
    rw [loopF_eq]
    simp (disch := omega) only [wrap_id, decT, decF, go1, Option.bind_some, eq_self, cond_true, cond_false, Nat.reduceAdd, Int.reduceEq, Int.reduceLT, Int.reduceLE, Int.reduceSub, Int.reduceAdd, hl, r1, irows_len, irows_app]
    rw [loopF_eq]
    simp (disch := omega) only [wrap_id, decT, decF, go1, Option.bind_some, eq_self, cond_true, cond_false, Nat.reduceAdd, Int.reduceEq, Int.reduceLT, Int.reduceLE, Int.reduceSub, Int.reduceAdd, hl]
  have r0 : sy.cell (sy.row [[D.sl 1 (irows a)], [D.sl 1 (irows b)]] 0) 0 = some (.sl 1 (irows a)) := rfl
  have r1 : sy.cell (sy.row [[D.sl 1 (irows a)], [D.sl 1 (irows b)]] 1) 0 = some (.sl 1 (irows b)) := rfl
  have hl : (([[D.sl 1 (irows a)], [D.sl 1 (irows b)]] : List (List D)).length : Int) = 2 := rfl
  rw [loopF_eq]
  simp (disch := omega) only [wrap_id, decT, decF, go1, Option.bind_some, eq_self, cond_true, cond_false, Nat.reduceAdd, Int.reduceEq, Int.reduceLT, Int.reduceLE, Int.reduceSub, Int.reduceAdd, hl, r0, irows_len]
  rw [loopF_eq]
  simp (disch := omega) only [wrap_id, decT, decF, go1, Option.bind_some, eq_self, cond_true, cond_false, Nat.reduceAdd, Int.reduceEq, Int.reduceLT, Int.reduceLE, Int.reduceSub, Int.reduceAdd, hl, r1, irows_len]
  rw [loopF_eq]
  simp (disch := omega) only [wrap_id, decT, decF, go1, Option.bind_some, eq_self, cond_true, cond_false, Nat.reduceAdd, Int.reduceEq, Int.reduceLT, Int.reduceLE, Int.reduceSub, Int.reduceAdd, hl, Int.toNat_zero, List.take_zero]
  by_cases hz : 0 < a.length + b.length
  · rw [decT (p := 0 < 0 + (a.length : Int) + (b.length : Int) - 0) (by omega), decT (p := 0 < 0 + (a.length : Int) + (b.length : Int) - 0 ∧ _) (by omega)]
    simp only [cond_true]
    rw [inner [] rfl]
  · rw [decF (p := 0 < 0 + (a.length : Int) + (b.length : Int) - 0) (by omega)]
    simp only [cond_false]
    rw [inner [] rfl]
end Go.Vm
end

section
set_option maxRecDepth 100000
set_option maxHeartbeats 1000000
namespace Go.Vm
open Go.Proofs
theorem c61 (row ks : List Int) (n : Int) (hr : row.length ≤ 1000) (hk : ks.length ≤ 1000) (h0 : 0 ≤ n) (h1 : n ≤ row.length) : cF 145 [.d (.sl 1 (irows row)), .d (.int .i64 n), .d (.sl 1 (irows ks))] = some (.val [.sl 1 (irows (dropTop row n.toNat ++ ks))]) := by
  refine cOf (by kernel_rfl) rfl ?_
  rw [g145_eq]
  simp only [g145, go1, Option.bind_some, eq_self, cond_true, cond_false, Nat.reduceAdd, Int.reduceEq, Int.reduceLT, Int.reduceLE, Int.reduceSub, Int.reduceAdd, irows_len]
  rw [wrap_id (by omega) (by omega), decT (p := 0 ≤ (row.length : Int) - n ∧ (row.length : Int) - n ≤ row.length) (by omega)]
  have e : List.drop (Int.toNat 0) (List.take ((row.length : Int) - n).toNat (irows row)) = irows (dropTop row n.toNat) := by
    rw [irows_take]
    unfold dropTop
    rw [show ((row.length : Int) - n).toNat = row.length - n.toNat by omega]
    rfl
  simp only [go1, Option.bind_some, eq_self, cond_true, cond_false, Nat.reduceAdd, Int.reduceEq, Int.reduceLT, Int.reduceLE, Int.reduceSub, Int.reduceAdd, e, c94 _ ks (show (dropTop row n.toNat).length ≤ 100000 by unfold dropTop; simp; omega) (by omega)]
theorem c61_1 (row : List Int) (k : Int) (n : Int) (hr : row.length ≤ 1000) (h0 : 0 ≤ n) (h1 : n ≤ row.length) : cF 145 [.d (.sl 1 (irows row)), .d (.int .i64 n), .d (.sl 1 [[.int .i64 k]])] = some (.val [.sl 1 (irows (dropTop row n.toNat ++ [k]))]) := c61 row [k] n hr (by simp) h0 h1
theorem c61_0 (row : List Int) (n : Int) (hr : row.length ≤ 1000) (h0 : 0 ≤ n) (h1 : n ≤ row.length) : cF 145 [.d (.sl 1 (irows row)), .d (.int .i64 n), .d (.sl 1 [])] = some (.val [.sl 1 (irows (dropTop row n.toNat))]) := by
  have := c61 row [] n hr (by simp) h0 h1
  rwa [List.append_nil] at this
theorem c64_1 (row : List Int) (k : Int) (hr : row.length ≤ 1000) : cF 148 [.d (.sl 1 (irows row)), .d (.sl 1 [[.int .i64 k]])] = some (.val [.bool (endsB row [k])]) := c64 row [k] hr (by simp)
theorem c64_2 (row : List Int) (k m : Int) (hr : row.length ≤ 1000) : cF 148 [.d (.sl 1 (irows row)), .d (.sl 1 [[.int .i64 k], [.int .i64 m]])] = some (.val [.bool (endsB row [k, m])]) := c64 row [k, m] hr (by simp)
theorem c96 (k : Int) (h : -1000 ≤ k) (h1 : k ≤ 1000000) : cF 205 [.d (.int .i64 k)] = some (.val [.int .i64 (tyOf k).k, .int .i64 (tyOf k).e, .int .i64 (tyOf k).l]) := by
  refine cOf (by kernel_rfl) rfl ?_
  rw [g205_eq]
  simp only [g205, go1, Option.bind_some, eq_self, cond_true, cond_false, Nat.reduceAdd, Int.reduceEq, Int.reduceLT, Int.reduceLE, Int.reduceSub, Int.reduceAdd]
  rw [wrap_id (by omega) (by omega)]
  unfold tyOf
  by_cases h : k < 3 <;> simp [h]
theorem c98 (t : Ty3) (h : -1000 ≤ t.k) (h1 : t.k ≤ 1000000) (h2 : -1000 ≤ t.e) (h3 : t.e ≤ 1000000) : cF 207 [t.v] = some (.val [.int .i64 (kindOf t)]) := by
  unfold Ty3.v tyV
  refine cOf (by kernel_rfl) rfl ?_
  rw [g207_eq]
  simp only [g207, go1, Option.bind_some, eq_self, cond_true, cond_false, Nat.reduceAdd, Int.reduceEq, Int.reduceLT, Int.reduceLE, Int.reduceSub, Int.reduceAdd]
  rw [wrap_id (by omega) (by omega)]
  rfl
theorem c117 (op : Int) : cF 244 [.d (.int .i64 op)] = some (.val [.int .i64 (group op)]) := by
  by_cases h : 3 ≤ op ∧ op ≤ 16
  · have : op = 3 ∨ op = 4 ∨ op = 5 ∨ op = 6 ∨ op = 7 ∨ op = 8 ∨ op = 9 ∨ op = 10 ∨ op = 11 ∨ op = 12 ∨ op = 13 ∨ op = 14 ∨ op = 15 ∨ op = 16 := by omega
    rcases this with rfl | rfl | rfl | rfl | rfl | rfl | rfl | rfl | rfl | rfl | rfl | rfl | rfl | rfl
    all_goals
      refine cOf (by kernel_rfl) rfl ?_
      rw [g244_eq]
      simp only [g244, go1, Option.bind_some, eq_self, cond_true, cond_false, Nat.reduceAdd, Int.reduceEq, Int.reduceLT, Int.reduceLE, Int.reduceSub, Int.reduceAdd]
      rfl
  · refine cOf (by kernel_rfl) rfl ?_
    rw [g244_eq]
    simp only [g244, go1, Option.bind_some, eq_self, cond_true, cond_false, Nat.reduceAdd, Int.reduceEq, Int.reduceLT, Int.reduceLE, Int.reduceSub, Int.reduceAdd]
    simp (disch := omega) only [wrap_id, decT, decF, go1, Option.bind_some, eq_self, cond_true, cond_false, Nat.reduceAdd, Int.reduceEq, Int.reduceLT, Int.reduceLE, Int.reduceSub, Int.reduceAdd]
    unfold group
    rw [if_neg (by omega), if_neg (by omega), if_neg (by omega), if_neg (by omega)]
theorem c95 (op : Int) (t : Ty3) : cF 204 [.d (.int .i64 op), t.v] = some (tyR (unTy op t)) := by
  unfold Ty3.v tyV
  refine cOf (by kernel_rfl) rfl ?_
  rw [g204_eq]
  simp only [g204, go1, Option.bind_some, eq_self, cond_true, cond_false, Nat.reduceAdd, Int.reduceEq, Int.reduceLT, Int.reduceLE, Int.reduceSub, Int.reduceAdd]
  unfold unTy
  simp only [ty_ext]
  by_cases h1 : op = 1 <;> by_cases h2 : op = 2 <;> by_cases h3 : t.k = 1 <;> by_cases h4 : t.k = 2 <;> by_cases h5 : t.e = 0 <;> by_cases h6 : t.l = 0 <;> simp [h1, h2, h3, h4, h5, h6, tyR] <;> omega
theorem c97 (op : Int) (t u : Ty3) : cF 206 [.d (.int .i64 op), t.v, u.v] = some (tyR (binTy op t u)) := by
  unfold Ty3.v tyV
  refine cOf (by kernel_rfl) rfl ?_
  rw [g206_eq]
  simp only [g206, go1, Option.bind_some, eq_self, cond_true, cond_false, Nat.reduceAdd, Int.reduceEq, Int.reduceLT, Int.reduceLE, Int.reduceSub, Int.reduceAdd, c117]
  unfold binTy
  simp only [ty_ext]
  by_cases g1 : group op = 1
  · by_cases h1 : t.k = 1 <;> by_cases h2 : t.e = 0 <;> by_cases h3 : t.l = 0 <;> by_cases h4 : u.k = 1 <;> by_cases h5 : u.e = 0 <;> by_cases h6 : u.l = 0 <;> simp [g1, h1, h2, h3, h4, h5, h6, tyR]
  by_cases g2 : group op = 2
  · by_cases h1 : t.k = 2 <;> by_cases h2 : t.e = 0 <;> by_cases h3 : t.l = 0 <;> by_cases h4 : u.k = 2 <;> by_cases h5 : u.e = 0 <;> by_cases h6 : u.l = 0 <;> simp [g2, h1, h2, h3, h4, h5, h6, tyR]
  by_cases g3 : group op = 3
  · by_cases h1 : t.k = 1 <;> by_cases h2 : t.e = 0 <;> by_cases h3 : t.l = 0 <;> by_cases h4 : u.k = 1 <;> by_cases h5 : u.e = 0 <;> by_cases h6 : u.l = 0 <;> simp [g3, h1, h2, h3, h4, h5, h6, tyR]
  by_cases g4 : group op = 4
  · by_cases h1 : t.k = u.k <;> by_cases h2 : t.e = u.e <;> by_cases h3 : t.l = u.l <;> by_cases h4 : t.l = 0 <;> first | (exfalso; omega) | (simp only [g4, h1, h2, h3, h4, tyR, and_self, true_and, and_true, false_and, and_false, decide_true, decide_false, cond_true, cond_false, if_true, if_false, Bool.true_and, Bool.and_true, Bool.false_and, Bool.and_false, Bool.not_true, Bool.not_false]; first | done | simp_all)
  · simp [g1, g2, g3, g4, tyR]
theorem cut_cell {row : List Int} (n j : Int) (hn : n ≤ (row.length : Int)) (h0 : 0 ≤ j) (hj : j < n) : sy.cell (sy.row (List.drop ((row.length : Int) - n).toNat (List.take (row.length : Int).toNat (irows row))) j) 0 = some (.int .i64 (row.getD (row.length - n.toNat + j.toNat) 0)) := by
  rw [irows_take, irows_drop, irows_cell h0 (by simp; omega)]
  congr 2
  simp only [Int.toNat_natCast, List.getD_eq_getElem?_getD, List.getElem?_drop, List.take_length]
  congr 2
  omega
theorem c63 (x : Ins) (row : List Int) (hr : ∀ k ∈ row, 1 ≤ k ∧ k ≤ 100) (hl : row.length ≤ 100) (hop : x.op = 4 ∨ x.op = 5) : ∃ p, cF 147 [insV x, .d (.sl 1 (irows row))] = some p ∧ rowR (operS x row) p := by
  unfold insV
  have hk : ∀ i, i < row.length → 1 ≤ row.getD i 0 ∧ row.getD i 0 ≤ 100 := fun i hi => by
    rw [List.getD_eq_getElem?_getD, List.getElem?_eq_getElem hi]; exact hr _ (List.getElem_mem hi)
  rcases hop with h4 | h5
  · by_cases hlen : row.length < 1
    · refine ⟨.val [.sl 1 [], .bool false], ?_, ?_⟩
      · refine cOf (by kernel_rfl) rfl ?_
        rw [g147_eq]
        simp only [g147, go1, Option.bind_some, eq_self, cond_true, cond_false, Nat.reduceAdd, Int.reduceEq, Int.reduceLT, Int.reduceLE, Int.reduceSub, Int.reduceAdd, irows_len, h4]
        simp (disch := omega) only [wrap_id, decT, decF, go1, Option.bind_some, eq_self, cond_true, cond_false, Nat.reduceAdd, Int.reduceEq, Int.reduceLT, Int.reduceLE, Int.reduceSub, Int.reduceAdd]
      · unfold operS rowR; rw [if_pos h4, if_pos hlen]; exact ⟨[], rfl⟩
    · have c0 : _ = some (D.int .i64 (topN row 0)) := cut_cell (row := row) 1 0 (by omega) (by omega) (by omega)
      have k0 := hk (row.length - 1 - 0) (by omega)
      have e96 := c96 (topN row 0) (by unfold topN; omega) (by unfold topN; omega)
      have e95 := c95 x.a (tyOf (topN row 0))
      cases hq : unTy x.a (tyOf (topN row 0)) with
      | none =>
        rw [hq] at e95
        unfold Ty3.v tyV at e95
        refine ⟨.val [.sl 1 [], .bool false], ?_, ?_⟩
        · refine cOf (by kernel_rfl) rfl ?_
          rw [g147_eq]
          simp only [g147, go1, Option.bind_some, eq_self, cond_true, cond_false, Nat.reduceAdd, Int.reduceEq, Int.reduceLT, Int.reduceLE, Int.reduceSub, Int.reduceAdd, irows_len, h4]
          simp (disch := omega) only [wrap_id, decT, decF, go1, Option.bind_some, eq_self, cond_true, cond_false, Nat.reduceAdd, Int.reduceEq, Int.reduceLT, Int.reduceLE, Int.reduceSub, Int.reduceAdd, c0, e96, e95, tyR, List.length_drop, List.length_take, irows_len]
        · unfold operS rowR; rw [if_pos h4, if_neg hlen, hq]; exact ⟨[], rfl⟩
      | some t =>
        rw [hq] at e95
        have hb := unTy_bd hq
        have e98 := c98 t (by rcases hb with rfl | rfl <;> simp) (by rcases hb with rfl | rfl <;> simp) (by rcases hb with rfl | rfl <;> simp) (by rcases hb with rfl | rfl <;> simp)
        unfold Ty3.v tyV at e95 e98
        refine ⟨.val [.sl 1 (irows (dropTop row 1 ++ [kindOf t])), .bool true], ?_, ?_⟩
        · refine cOf (by kernel_rfl) rfl ?_
          rw [g147_eq]
          simp only [g147, go1, Option.bind_some, eq_self, cond_true, cond_false, Nat.reduceAdd, Int.reduceEq, Int.reduceLT, Int.reduceLE, Int.reduceSub, Int.reduceAdd, irows_len, h4]
          simp (disch := omega) only [wrap_id, decT, decF, go1, Option.bind_some, eq_self, cond_true, cond_false, Nat.reduceAdd, Int.reduceEq, Int.reduceLT, Int.reduceLE, Int.reduceSub, Int.reduceAdd, c0, e96, e95, tyR, List.length_drop, List.length_take, irows_len, e98, c61_1 row (kindOf t) 1 (by omega) (by omega) (by omega)]
          rfl
        · unfold operS rowR; rw [if_pos h4, if_neg hlen, hq]; rfl
  · have h4 : ¬ x.op = 4 := by omega
    by_cases hlen : row.length < 2
    · refine ⟨.val [.sl 1 [], .bool false], ?_, ?_⟩
      · refine cOf (by kernel_rfl) rfl ?_
        rw [g147_eq]
        simp only [g147, go1, Option.bind_some, eq_self, cond_true, cond_false, Nat.reduceAdd, Int.reduceEq, Int.reduceLT, Int.reduceLE, Int.reduceSub, Int.reduceAdd, irows_len, h4]
        simp (disch := omega) only [wrap_id, decT, decF, go1, Option.bind_some, eq_self, cond_true, cond_false, Nat.reduceAdd, Int.reduceEq, Int.reduceLT, Int.reduceLE, Int.reduceSub, Int.reduceAdd]
      · unfold operS rowR; rw [if_neg h4, if_pos hlen]; exact ⟨[], rfl⟩
    · have c0 := cut_cell (row := row) 2 0 (by omega) (by omega) (by omega)
      have c1 := cut_cell (row := row) 2 1 (by omega) (by omega) (by omega)
      have et1 : row.getD (row.length - Int.toNat 2 + Int.toNat 0) 0 = topN row 1 := rfl
      have et0 : row.getD (row.length - Int.toNat 2 + Int.toNat 1) 0 = topN row 0 := by unfold topN; congr 1; show row.length - 2 + 1 = _; omega
      rw [et1] at c0
      rw [et0] at c1
      have k0 := hk (row.length - 1 - 0) (by omega)
      have k1 := hk (row.length - 1 - 1) (by omega)
      have e96 := c96 (topN row 0) (by unfold topN; omega) (by unfold topN; omega)
      have e96' := c96 (topN row 1) (by unfold topN; omega) (by unfold topN; omega)
      have e97 := c97 x.a (tyOf (topN row 1)) (tyOf (topN row 0))
      cases hq : binTy x.a (tyOf (topN row 1)) (tyOf (topN row 0)) with
      | none =>
        rw [hq] at e97
        unfold Ty3.v tyV at e97
        refine ⟨.val [.sl 1 [], .bool false], ?_, ?_⟩
        · refine cOf (by kernel_rfl) rfl ?_
          rw [g147_eq]
          simp only [g147, go1, Option.bind_some, eq_self, cond_true, cond_false, Nat.reduceAdd, Int.reduceEq, Int.reduceLT, Int.reduceLE, Int.reduceSub, Int.reduceAdd, irows_len, h4]
          simp (disch := omega) only [wrap_id, decT, decF, go1, Option.bind_some, eq_self, cond_true, cond_false, Nat.reduceAdd, Int.reduceEq, Int.reduceLT, Int.reduceLE, Int.reduceSub, Int.reduceAdd, c0, c1, e96, e96', e97, tyR, List.length_drop, List.length_take, irows_len]
        · unfold operS rowR; rw [if_neg h4, if_neg hlen, hq]; exact ⟨[], rfl⟩
      | some t =>
        rw [hq] at e97
        have hb := binTy_bd hq
        have e98 := c98 t (by rcases hb with rfl | rfl <;> simp) (by rcases hb with rfl | rfl <;> simp) (by rcases hb with rfl | rfl <;> simp) (by rcases hb with rfl | rfl <;> simp)
        unfold Ty3.v tyV at e97 e98
        refine ⟨.val [.sl 1 (irows (dropTop row 2 ++ [kindOf t])), .bool true], ?_, ?_⟩
        · refine cOf (by kernel_rfl) rfl ?_
          rw [g147_eq]
          simp only [g147, go1, Option.bind_some, eq_self, cond_true, cond_false, Nat.reduceAdd, Int.reduceEq, Int.reduceLT, Int.reduceLE, Int.reduceSub, Int.reduceAdd, irows_len, h4]
          simp (disch := omega) only [wrap_id, decT, decF, go1, Option.bind_some, eq_self, cond_true, cond_false, Nat.reduceAdd, Int.reduceEq, Int.reduceLT, Int.reduceLE, Int.reduceSub, Int.reduceAdd, c0, c1, e96, e96', e97, tyR, List.length_drop, List.length_take, irows_len, e98, c61_1 row (kindOf t) 2 (by omega) (by omega) (by omega)]
          rfl
        · unfold operS rowR; rw [if_neg h4, if_neg hlen, hq]; rfl
theorem c100 (a b : List (List D)) (lo hi at_ n : Int) (h0 : 0 ≤ at_) (h1 : at_ ≤ 100000) (h2 : 0 ≤ n) (h3 : n ≤ 1000) : cF 209 [shV a b lo hi, .d (.int .i64 at_), .d (.int .i64 n)] = some (.val [.bool (fixedB lo hi at_ n)]) := by
  unfold shV
  refine cOf (by kernel_rfl) rfl ?_
  rw [g209_eq]
  simp only [g209, go1, Option.bind_some, eq_self, cond_true, cond_false, Nat.reduceAdd, Int.reduceEq, Int.reduceLT, Int.reduceLE, Int.reduceSub, Int.reduceAdd]
  simp (disch := omega) only [wrap_id, decT, decF, go1, Option.bind_some, eq_self, cond_true, cond_false, Nat.reduceAdd, Int.reduceEq, Int.reduceLT, Int.reduceLE, Int.reduceSub, Int.reduceAdd]
  rfl
/-- The kind of some cells, as it is told. -/
def cellR (o : Option Int) : PRes → Prop := fun p => match o with
  | some k => p = .val [.int .i64 k, .bool true]
  | none => ∃ k : Int, p = .val [.int .i64 k, .bool false]
theorem c99 (a : List (List D)) (lb : List Int) (lo hi at_ n : Int) (h0 : 0 ≤ at_) (h1 : at_ ≤ 100000) (h2 : 1 ≤ n) (h3 : n ≤ 8) (hlb : lb.length ≤ 10000) : ∃ p, cF 208 [shV a (irows lb) lo hi, .d (.int .i64 at_), .d (.int .i64 n)] = some p ∧ cellR (cellsK lb at_ n) p := by
  unfold shV
  by_cases hle : (lb.length : Int) - n < at_
  · refine ⟨.val [.int .i64 0, .bool false], ?_, ?_⟩
    · refine cOf (by kernel_rfl) rfl ?_
      rw [g208_eq]
      simp only [g208, go1, Option.bind_some, eq_self, cond_true, cond_false, Nat.reduceAdd, Int.reduceEq, Int.reduceLT, Int.reduceLE, Int.reduceSub, Int.reduceAdd, irows_len]
      simp (disch := omega) only [wrap_id, decT, decF, go1, Option.bind_some, eq_self, cond_true, cond_false, Nat.reduceAdd, Int.reduceEq, Int.reduceLT, Int.reduceLE, Int.reduceSub, Int.reduceAdd]
    · unfold cellsK cellR il
      rw [if_neg (by omega)]; exact ⟨0, rfl⟩
  · have hcut : List.drop at_.toNat (List.take (at_ + n).toNat (irows lb)) = irows ((lb.drop at_.toNat).take n.toNat) := by
      rw [irows_take, irows_drop]
      congr 1
      rw [List.drop_take]
      congr 1
      omega
    have hlen : ((lb.drop at_.toNat).take n.toNat).length = n.toNat := by simp; omega
    have h118 := c118 ((lb.drop at_.toNat).take n.toNat) (by rw [hlen]; omega) (by rw [hlen]; omega)
    have hcell : sy.cell (sy.row (irows ((lb.drop at_.toNat).take n.toNat)) 0) 0 = some (.int .i64 (lb.getD at_.toNat 0)) := by
      rw [irows_cell (by omega) (by rw [hlen]; omega)]
      congr 2
      simp only [List.getD_eq_getElem?_getD, List.getElem?_take, List.getElem?_drop, Int.toNat_zero, Nat.add_zero]
      rw [if_pos (by omega)]
    have hget : ((lb.drop at_.toNat).take n.toNat).getD 0 0 = lb.getD at_.toNat 0 := by
      simp only [List.getD_eq_getElem?_getD, List.getElem?_take, List.getElem?_drop, Nat.add_zero]
      rw [if_pos (by omega)]
    rw [hget] at h118
    refine ⟨.val [.int .i64 (lb.getD at_.toNat 0), .bool (((lb.drop at_.toNat).take n.toNat).all fun k => k == lb.getD at_.toNat 0)], ?_, ?_⟩
    · refine cOf (by kernel_rfl) rfl ?_
      rw [g208_eq]
      simp only [g208, go1, Option.bind_some, eq_self, cond_true, cond_false, Nat.reduceAdd, Int.reduceEq, Int.reduceLT, Int.reduceLE, Int.reduceSub, Int.reduceAdd, irows_len]
      simp (disch := omega) only [wrap_id, decT, decF, go1, Option.bind_some, eq_self, cond_true, cond_false, Nat.reduceAdd, Int.reduceEq, Int.reduceLT, Int.reduceLE, Int.reduceSub, Int.reduceAdd, hcut, h118, hcell, irows_len, hlen]
    · unfold cellsK cellR il
      rw [if_pos (by omega)]
      cases hq : ((lb.drop at_.toNat).take n.toNat).all fun k => k == lb.getD at_.toNat 0 with
      | true => rfl
      | false => exact ⟨_, rfl⟩
end Go.Vm
end

section
set_option maxRecDepth 100000
set_option maxHeartbeats 1000000
namespace Go.Vm
open Go.Proofs
theorem imax_one (b : Int) : max 1 b = max 1 b := rfl
theorem c65 (la lb : List Int) (lo hi : Int) (x : Ins) (row : List Int) (hlb : lb.length ≤ 10000) (hr : row.length ≤ 1000) (ha : 0 ≤ x.a) (ha2 : x.a ≤ 65535) (hb0 : 0 ≤ x.b) (hb : x.b ≤ 8) (hop : x.op = 2 ∨ x.op = 3 ∨ x.op = 8 ∨ x.op = 9) :
    ∃ p, cF 149 [shV (irows la) (irows lb) lo hi, insV x, .d (.sl 1 (irows row))] = some p ∧ rowR (memS ⟨la, lb, lo, hi⟩ x row) p := by
  obtain ⟨q, h99, hq⟩ := c99 (irows la) lb lo hi x.a (max 1 x.b) ha (by omega) (by omega) (by omega) hlb
  have h100 := c100 (irows la) (irows lb) lo hi x.a (max 1 x.b) ha (by omega) (by omega) (by omega)
  unfold shV at h99 h100 ⊢
  unfold insV memS
  simp only
  cases hk : cellsK lb x.a (max 1 x.b) with
  | none =>
    rw [hk] at hq
    obtain ⟨k, rfl⟩ := hq
    refine cOfP (by kernel_rfl) rfl ?_
    simp only [g149_eq, g149, some_and, go1, Option.bind_some, eq_self, cond_true, cond_false, Nat.reduceAdd, Int.reduceEq, Int.reduceLT, Int.reduceLE, Int.reduceSub, Int.reduceAdd, h99]
    exact ⟨[], rfl⟩
  | some k =>
    rw [hk] at hq
    have hq : q = .val [.int .i64 k, .bool true] := hq
    subst hq
    simp only
    rcases hop with h | h | h | h
    · rw [if_pos h]
      refine cOfP (by kernel_rfl) rfl ?_
      simp only [g149_eq, g149, some_and, go1, Option.bind_some, eq_self, cond_true, cond_false, Nat.reduceAdd, Int.reduceEq, Int.reduceLT, Int.reduceLE, Int.reduceSub, Int.reduceAdd, h99, h, c61_1 row k 0 hr (Int.le_refl 0) (by omega), irows_len]
      by_cases hl : row.length < 16
      · rw [if_pos hl, decT (by omega)]; show _ = _; simp [dropTop]
      · rw [if_neg hl, decF (by omega)]; exact ⟨_, rfl⟩
    · rw [if_neg (by omega), if_neg (by omega), if_pos h]
      cases he : endsB row [k] with
      | false =>
        refine cOfP (by kernel_rfl) rfl ?_
        simp only [g149_eq, g149, some_and, go1, Option.bind_some, eq_self, cond_true, cond_false, Nat.reduceAdd, Int.reduceEq, Int.reduceLT, Int.reduceLE, Int.reduceSub, Int.reduceAdd, h99, h, c64_1 row k hr, h100, he]
        exact ⟨[], rfl⟩
      | true =>
        have hlen := ends_len he
        cases hf : fixedB lo hi x.a (max 1 x.b) with
        | true =>
          refine cOfP (by kernel_rfl) rfl ?_
          simp only [g149_eq, g149, some_and, go1, Option.bind_some, eq_self, cond_true, cond_false, Nat.reduceAdd, Int.reduceEq, Int.reduceLT, Int.reduceLE, Int.reduceSub, Int.reduceAdd, h99, h, c64_1 row k hr, h100, he, hf]
          exact ⟨[], rfl⟩
        | false =>
          refine cOfP (by kernel_rfl) rfl ?_
          simp only [g149_eq, g149, some_and, go1, Option.bind_some, eq_self, cond_true, cond_false, Nat.reduceAdd, Int.reduceEq, Int.reduceLT, Int.reduceLE, Int.reduceSub, Int.reduceAdd, h99, h, c64_1 row k hr, h100, he, hf, c61_0 row 1 hr (by omega) (by simpa [il] using hlen)]
          rfl
    · rw [if_neg (by omega), if_pos h]
      cases he : endsB row [1] with
      | false =>
        refine cOfP (by kernel_rfl) rfl ?_
        simp only [g149_eq, g149, some_and, go1, Option.bind_some, eq_self, cond_true, cond_false, Nat.reduceAdd, Int.reduceEq, Int.reduceLT, Int.reduceLE, Int.reduceSub, Int.reduceAdd, h99, h, c64_1 row 1 hr, he]
        exact ⟨[], rfl⟩
      | true =>
        have hlen := ends_len he
        refine cOfP (by kernel_rfl) rfl ?_
        simp only [g149_eq, g149, some_and, go1, Option.bind_some, eq_self, cond_true, cond_false, Nat.reduceAdd, Int.reduceEq, Int.reduceLT, Int.reduceLE, Int.reduceSub, Int.reduceAdd, h99, h, c64_1 row 1 hr, he, c61_1 row k 1 hr (by omega) (by simpa [il] using hlen)]
        rfl
    · rw [if_neg (by omega), if_neg (by omega), if_neg (by omega)]
      cases he : endsB row [k, 1] with
      | false =>
        refine cOfP (by kernel_rfl) rfl ?_
        simp only [g149_eq, g149, some_and, go1, Option.bind_some, eq_self, cond_true, cond_false, Nat.reduceAdd, Int.reduceEq, Int.reduceLT, Int.reduceLE, Int.reduceSub, Int.reduceAdd, h99, h, c64_2 row k 1 hr, h100, he]
        exact ⟨[], rfl⟩
      | true =>
        have hlen := ends_len he
        cases hf : fixedB lo hi x.a (max 1 x.b) with
        | true =>
          refine cOfP (by kernel_rfl) rfl ?_
          simp only [g149_eq, g149, some_and, go1, Option.bind_some, eq_self, cond_true, cond_false, Nat.reduceAdd, Int.reduceEq, Int.reduceLT, Int.reduceLE, Int.reduceSub, Int.reduceAdd, h99, h, c64_2 row k 1 hr, h100, he, hf]
          exact ⟨[], rfl⟩
        | false =>
          refine cOfP (by kernel_rfl) rfl ?_
          simp only [g149_eq, g149, some_and, go1, Option.bind_some, eq_self, cond_true, cond_false, Nat.reduceAdd, Int.reduceEq, Int.reduceLT, Int.reduceLE, Int.reduceSub, Int.reduceAdd, h99, h, c64_2 row k 1 hr, h100, he, hf, c61_0 row 2 hr (by omega) (by simpa [il] using hlen)]
          rfl
theorem c32 (la lb : List Int) (lo hi : Int) (x : Ins) (row : List Int) (hla : la.length ≤ 10) (hlb : lb.length ≤ 10000) (hl : row.length ≤ 100) (hrow : ∀ k ∈ row, 1 ≤ k ∧ k ≤ 100) (hx : rightB x = true) :
    ∃ p, cF 87 [shV (irows la) (irows lb) lo hi, insV x, .d (.sl 1 (irows row))] = some p ∧ rowR (nextS ⟨la, lb, lo, hi⟩ x row) p := by
  have hr : row.length ≤ 1000 := by omega
  have hops : x.op = 1 ∨ x.op = 4 ∨ x.op = 5 ∨ x.op = 7 ∨ x.op = 6 ∨ x.op = 10 ∨ x.op = 2 ∨ x.op = 3 ∨ x.op = 8 ∨ x.op = 9 := by
    rw [right_eq] at hx
    simp only [Bool.and_eq_true] at hx
    have := withinB_iff.1 hx.1.1.1
    omega
  have h41 := c41 la lb lo hi x.a (by omega)
  unfold nextS
  simp only
  by_cases h1 : x.op = 1
  · rw [if_pos h1]
    cases hk : kindB (il la) x.a with
    | false =>
      rw [kind_eq] at hk
      rw [hk] at h41
      unfold shV insV at *
      refine cOfP (by kernel_rfl) rfl ?_
      simp only [g87_eq, g87, some_and, go1, Option.bind_some, eq_self, cond_true, cond_false, Nat.reduceAdd, Int.reduceEq, Int.reduceLT, Int.reduceLE, Int.reduceSub, Int.reduceAdd, h1, c61_1 row x.a 0 hr (Int.le_refl 0) (by omega), h41]
      exact ⟨_, rfl⟩
    | true =>
      rw [kind_eq] at hk
      have hw := withinB_iff.1 hk
      have h62 := c62 la lb lo hi x.a x.n (by omega) (by omega) (by omega)
      rw [hk] at h41
      unfold shV insV at *
      cases hv : valueB la x.a x.n with
      | false =>
        rw [hv] at h62
        refine cOfP (by kernel_rfl) rfl ?_
        simp only [g87_eq, g87, some_and, go1, Option.bind_some, eq_self, cond_true, cond_false, Nat.reduceAdd, Int.reduceEq, Int.reduceLT, Int.reduceLE, Int.reduceSub, Int.reduceAdd, h1, c61_1 row x.a 0 hr (Int.le_refl 0) (by omega), h41, h62]
        exact ⟨_, rfl⟩
      | true =>
        rw [hv] at h62
        by_cases hl2 : row.length < 16
        · refine cOfP (by kernel_rfl) rfl ?_
          simp only [g87_eq, g87, some_and, go1, Option.bind_some, eq_self, cond_true, cond_false, Nat.reduceAdd, Int.reduceEq, Int.reduceLT, Int.reduceLE, Int.reduceSub, Int.reduceAdd, h1, c61_1 row x.a 0 hr (Int.le_refl 0) (by omega), h41, h62, irows_len]
          rw [decT hl2, decT (by omega)]
          show _ = _
          simp [dropTop]
        · refine cOfP (by kernel_rfl) rfl ?_
          simp only [g87_eq, g87, some_and, go1, Option.bind_some, eq_self, cond_true, cond_false, Nat.reduceAdd, Int.reduceEq, Int.reduceLT, Int.reduceLE, Int.reduceSub, Int.reduceAdd, h1, c61_1 row x.a 0 hr (Int.le_refl 0) (by omega), h41, h62, irows_len]
          rw [decF hl2, decF (by omega)]
          exact ⟨_, rfl⟩
  rw [if_neg h1]
  by_cases h45 : x.op = 4 ∨ x.op = 5
  · rw [if_pos h45]
    obtain ⟨p, h63, hp⟩ := c63 x row hrow hl h45
    have key : ∃ b l, p = .val [.sl 1 l, .bool b] := by
      unfold rowR at hp
      split at hp
      · exact ⟨_, _, hp⟩
      · obtain ⟨r, hp⟩ := hp; exact ⟨_, _, hp⟩
    obtain ⟨b, l, rfl⟩ := key
    unfold shV insV at *
    rcases h45 with h | h
    · rw [h] at h63
      refine cOfP (by kernel_rfl) rfl ?_
      simp only [g87_eq, g87, some_and, go1, Option.bind_some, eq_self, cond_true, cond_false, Nat.reduceAdd, Int.reduceEq, Int.reduceLT, Int.reduceLE, Int.reduceSub, Int.reduceAdd, h, h63]
      exact hp
    · rw [h] at h63
      refine cOfP (by kernel_rfl) rfl ?_
      simp only [g87_eq, g87, some_and, go1, Option.bind_some, eq_self, cond_true, cond_false, Nat.reduceAdd, Int.reduceEq, Int.reduceLT, Int.reduceLE, Int.reduceSub, Int.reduceAdd, h, h63]
      exact hp
  rw [if_neg h45]
  have h65 : x.op = 2 ∨ x.op = 3 ∨ x.op = 8 ∨ x.op = 9 → ∃ p, cF 149 [shV (irows la) (irows lb) lo hi, insV x, .d (.sl 1 (irows row))] = some p ∧ rowR (memS ⟨la, lb, lo, hi⟩ x row) p := fun h => by
    have hx2 := hx
    rw [right_eq] at hx2
    simp only [Bool.and_eq_true] at hx2
    obtain ⟨⟨⟨_, q2⟩, _⟩, q4⟩ := hx2
    unfold firstB at q2
    rw [if_neg h1, if_neg (by omega), if_neg (by omega), if_neg (by omega)] at q2
    have := withinB_iff.1 q2
    have hb : 0 ≤ x.b ∧ x.b ≤ 8 := by
      split at q4
      · have := withinB_iff.1 q4; omega
      · have := eq_of_beq q4; omega
    exact c65 la lb lo hi x row hlb hr (by omega) (by omega) hb.1 hb.2 h
  have h64 := c64_1 row 2 hr
  by_cases h7 : x.op = 7
  · rw [if_pos h7]
    unfold shV insV at *
    cases he : endsB row [2] with
    | false =>
      rw [he] at h64
      refine cOfP (by kernel_rfl) rfl ?_
      simp only [g87_eq, g87, some_and, go1, Option.bind_some, eq_self, cond_true, cond_false, Nat.reduceAdd, Int.reduceEq, Int.reduceLT, Int.reduceLE, Int.reduceSub, Int.reduceAdd, h7, h64]
      exact ⟨[], rfl⟩
    | true =>
      rw [he] at h64
      have hlen := ends_len he
      refine cOfP (by kernel_rfl) rfl ?_
      simp only [g87_eq, g87, some_and, go1, Option.bind_some, eq_self, cond_true, cond_false, Nat.reduceAdd, Int.reduceEq, Int.reduceLT, Int.reduceLE, Int.reduceSub, Int.reduceAdd, h7, h64, c61_0 row 1 hr (by omega) (by simpa [il] using hlen)]
      rfl
  rw [if_neg h7]
  by_cases h6 : x.op = 6
  · rw [if_pos h6]
    unfold shV insV at *
    refine cOfP (by kernel_rfl) rfl ?_
    simp only [g87_eq, g87, some_and, go1, Option.bind_some, eq_self, cond_true, cond_false, Nat.reduceAdd, Int.reduceEq, Int.reduceLT, Int.reduceLE, Int.reduceSub, Int.reduceAdd, h6]
    rfl
  rw [if_neg h6]
  by_cases h10 : x.op = 10
  · rw [if_pos h10]
    unfold shV insV at *
    refine cOfP (by kernel_rfl) rfl ?_
    simp only [g87_eq, g87, some_and, go1, Option.bind_some, eq_self, cond_true, cond_false, Nat.reduceAdd, Int.reduceEq, Int.reduceLT, Int.reduceLE, Int.reduceSub, Int.reduceAdd, h10, irows_len]
    by_cases hz : row.length = 0
    · rw [if_pos hz, decT (by omega)]; rfl
    · rw [if_neg hz, decF (by omega)]; exact ⟨[], rfl⟩
  rw [if_neg h10]
  obtain ⟨p, h65, hp⟩ := h65 (by omega)
  have key : ∃ b l, p = .val [.sl 1 l, .bool b] := by
    unfold rowR at hp
    split at hp
    · exact ⟨_, _, hp⟩
    · obtain ⟨r, hp⟩ := hp; exact ⟨_, _, hp⟩
  obtain ⟨b, l, rfl⟩ := key
  unfold shV insV at *
  refine cOfP (by kernel_rfl) rfl ?_
  simp (disch := omega) only [g87_eq, g87, some_and, decF, h65, go1, Option.bind_some, eq_self, cond_true, cond_false, Nat.reduceAdd, Int.reduceEq, Int.reduceLT, Int.reduceLE, Int.reduceSub, Int.reduceAdd]
  exact hp
end Go.Vm
end

section
set_option maxRecDepth 100000
set_option maxHeartbeats 1000000
namespace Go.Vm
open Go.Proofs
theorem all_any {τ : Type} {p q : τ → Bool} (h : ∀ x, p x = !q x) (l : List τ) : l.all p = !l.any q := by
  induction l with
  | nil => rfl
  | cons x l ih => simp only [List.all_cons, List.any_cons, ih, h, Bool.not_or]
theorem c14 (la lb : List Int) (lo hi : Int) (hla : la.length ≤ 1000) (hlb : lb.length ≤ 10000) : cF 49 [shV (irows la) (irows lb) lo hi] = some (.val [.bool (shapeB la lb lo hi)]) := by
  have h39 := c38_39 la (by omega)
  have h40 := c38_40 lb la lb lo hi (by omega) hla
  unfold shV at *
  refine cOf (by kernel_rfl) rfl ?_
  rw [g49_eq]
  simp only [g49, go1, Option.bind_some, eq_self, cond_true, cond_false, Nat.reduceAdd, Int.reduceEq, Int.reduceLT, Int.reduceLE, Int.reduceSub, Int.reduceAdd, irows_len, h39, h40]
  unfold shapeB
  rw [all_any (q := fun n => decide (n < 1)) (fun x => by rw [Bool.eq_iff_iff]; simp) la, all_any (q := fun n => !withinB n 1 (2 + il la)) (fun x => by rw [kind_eq, Bool.not_not]) lb]
  clear h39 h40
  generalize la.any _ = p
  generalize lb.any _ = q
  unfold il
  by_cases h : (la.length : Int) ≤ 4 ∧ (lb.length : Int) ≤ 1000 ∧ 0 ≤ lo ∧ lo ≤ hi ∧ hi ≤ lb.length
  · simp (disch := omega) only [wrap_id, decT, decF, go1, Option.bind_some, eq_self, cond_true, cond_false, Nat.reduceAdd, Int.reduceEq, Int.reduceLT, Int.reduceLE, Int.reduceSub, Int.reduceAdd]
    cases p <;> cases q <;> rfl
  · have e1 : (decide (4 < (la.length : Int)) || decide (1000 < (lb.length : Int)) || decide (lo < 0) || decide (hi < lo) || decide ((lb.length : Int) < hi)) = true := by
      simp only [Bool.or_eq_true, decide_eq_true_eq]; omega
    have e2 : (decide ((la.length : Int) ≤ 4) && decide ((lb.length : Int) ≤ 1000) && decide (0 ≤ lo) && decide (lo ≤ hi) && decide (hi ≤ (lb.length : Int))) = false := by
      rw [← Bool.not_eq_true]; simp only [Bool.and_eq_true, decide_eq_true_eq]; omega
    rw [e1, e2]
    rfl
theorem leads_any (l : List Int) (i n : Int) : (!(l.any fun m => decide (m ≤ i) || decide (n ≤ m))) = l.all fun m => decide (i < m) && decide (m < n) := by
  induction l with
  | nil => rfl
  | cons x l ih =>
    simp only [List.any_cons, List.all_cons, Bool.not_or, ih]
    congr 1
    by_cases h1 : x ≤ i <;> by_cases h2 : n ≤ x <;> simp [h1, h2] <;> omega
def leadsP (n i : Int) (x : Ins) : PRes := if x.op = 10 then .val [.sl 1 [], .bool (decide (i = n - 1))] else .val [.sl 1 (irows (leadsL i x)), .bool ((leadsL i x).all fun m => decide (i < m) && decide (m < n))]
theorem c33 (code : List Ins) (i : Int) (h0 : 0 ≤ i) (h1 : i < code.length) (hl : code.length ≤ 100000) : cF 88 [.d (.sl 4 (crows code)), .d (.int .i64 i)] = some (leadsP code.length i (code.getD i.toNat default)) := by
  refine cOf (by kernel_rfl) rfl ?_
  rw [g88_eq]
  simp only [g88, go1, Option.bind_some, eq_self, cond_true, cond_false, Nat.reduceAdd, Int.reduceEq, Int.reduceLT, Int.reduceLE, Int.reduceSub, Int.reduceAdd, crows_len]
  rw [crows_cell h0 h1]
  generalize code.getD i.toNat default = x
  unfold leadsP leadsL Ins.row
  have e1 := c38_66 [x.a] i (crows code) (by simp)
  have e2 := c38_66 [i + 1, x.a] i (crows code) (by simp)
  have e3 := c38_66 [i + 1] i (crows code) (by simp)
  simp only [crows_len, irows, irow, List.map_cons, List.map_nil] at e1 e2 e3
  by_cases h10 : x.op = 10
  · rw [if_pos h10]
    simp (disch := omega) only [wrap_id, decT, decF, go1, Option.bind_some, eq_self, cond_true, cond_false, Nat.reduceAdd, Int.reduceEq, Int.reduceLT, Int.reduceLE, Int.reduceSub, Int.reduceAdd, h10, if_true]
  rw [if_neg h10]
  by_cases h6 : x.op = 6
  · simp (disch := omega) only [wrap_id, decT, decF, go1, Option.bind_some, eq_self, cond_true, cond_false, Nat.reduceAdd, Int.reduceEq, Int.reduceLT, Int.reduceLE, Int.reduceSub, Int.reduceAdd, h6, e1]
    simp only [if_true, leads_any]; rfl
  by_cases h7 : x.op = 7
  · simp (disch := omega) only [wrap_id, decT, decF, go1, Option.bind_some, eq_self, cond_true, cond_false, Nat.reduceAdd, Int.reduceEq, Int.reduceLT, Int.reduceLE, Int.reduceSub, Int.reduceAdd, h7, e2]
    simp only [if_true, if_false, leads_any]; rfl
  · simp (disch := omega) only [wrap_id, decT, decF, go1, Option.bind_some, eq_self, cond_true, cond_false, Nat.reduceAdd, Int.reduceEq, Int.reduceLT, Int.reduceLE, Int.reduceSub, Int.reduceAdd, e3]
    rw [if_neg h6, if_neg h7, leads_any]; rfl
end Go.Vm
end

section
set_option maxRecDepth 100000
set_option maxHeartbeats 2000000
namespace Go.Vm
open Go.Proofs
theorem irows_at' {l : List Int} {i : Nat} {x : Int} (h : l[i]? = some x) : sy.cell (sy.row (irows l) (i : Int)) 0 = some (.int .i64 x) := irows_at h
theorem leads_eq (n i : Nat) (x : Ins) : ∃ T b, leadsP (n : Int) (i : Int) x = .val [.sl 1 (irows T), .bool b] ∧ T.length ≤ 2 ∧ tells (leadsS n i x) T b := by
  unfold leadsP leadsS tells
  by_cases h10 : x.op = 10
  · rw [if_pos h10, if_pos h10]
    by_cases h : i + 1 = n
    · rw [if_pos h]; exact ⟨[], _, rfl, by simp, rfl, decide_eq_true (by omega)⟩
    · rw [if_neg h]; exact ⟨[], _, rfl, by simp, decide_eq_false (by omega)⟩
  · rw [if_neg h10, if_neg h10]
    refine ⟨leadsL i x, _, rfl, by unfold leadsL; repeat' split
                                   all_goals simp, ?_⟩
    have e : (if x.op = 6 then [x.a] else if x.op = 7 then [(i : Int) + 1, x.a] else [(i : Int) + 1]) = leadsL i x := rfl
    simp only [e]
    by_cases hall : ((leadsL i x).all fun m => decide ((i : Int) < m) && decide (m < (n : Int))) = true
    · rw [if_pos hall]; exact ⟨rfl, hall⟩
    · rw [if_neg hall]; simpa using hall
theorem mval_at {L : List (Int × List Int)} {m : Int} : sy.mval (.sl 1 []) (.int .i64 m) (encM L) = .sl 1 (irows ((lk L m).getD [])) := by
  show mval _ _ _ = _
  rw [mval_enc]
  cases lk L m <;> rfl
theorem mhas_at {L : List (Int × List Int)} {m : Int} : sy.mhas (.int .i64 m) (encM L) = (lk L m).isSome := mhas_enc m L
theorem mput_at {L : List (Int × List Int)} {m : Int} {v : List Int} : sy.mput (.int .i64 m) (.sl 1 (irows v)) (encM L) = encM (putL L m v) := mput_enc m v L
theorem mdel_at {L : List (Int × List Int)} {m : Int} : sy.mdel (.int .i64 m) (encM L) = encM (delL L m) := mdel_enc m L
theorem c12 (la lb : List Int) (lo hi : Int) (code : List Ins) (hla : la.length ≤ 10) (hlb : lb.length ≤ 10000) (hcl : code.length ≤ 1000) :
    cF 44 [shV (irows la) (irows lb) lo hi, .d (.sl 4 (crows code))] = some (chR (checkS ⟨la, lb, lo, hi⟩ code)) := by
  have h14 := c14 la lb lo hi (by omega) (by omega)
  unfold checkS
  simp only
  cases hs : shapeB la lb lo hi with
  | false =>
    rw [hs] at h14
    unfold shV at *
    refine cOf (by kernel_rfl) rfl ?_
    rw [g44_eq]
    simp only [g44, go1, Option.bind_some, eq_self, cond_true, cond_false, Nat.reduceAdd, Int.reduceEq, Int.reduceLT, Int.reduceLE, Int.reduceSub, Int.reduceAdd, h14]
    rfl
  | true =>
  rw [hs] at h14
  by_cases h1 : code.length < 1
  · unfold shV at *
    refine cOf (by kernel_rfl) rfl ?_
    rw [g44_eq]
    simp only [g44, go1, Option.bind_some, eq_self, cond_true, cond_false, Nat.reduceAdd, Int.reduceEq, Int.reduceLT, Int.reduceLE, Int.reduceSub, Int.reduceAdd, h14, crows_len]
    simp (disch := omega) only [wrap_id, decT, decF, go1, Option.bind_some, eq_self, cond_true, cond_false, Nat.reduceAdd, Int.reduceEq, Int.reduceLT, Int.reduceLE, Int.reduceSub, Int.reduceAdd]
    rfl
  by_cases h2 : 6000 < code.length
  · omega
  rw [if_pos (by simp; omega)]
  have h32 := fun x row => c32 la lb lo hi x row hla (by omega)
  unfold shV at *
  refine cOf (by kernel_rfl) rfl ?_
  rw [g44_eq]
  simp (disch := omega) only [g44, decF, h14, crows_len, go1, Option.bind_some, eq_self, cond_true, cond_false, Nat.reduceAdd, Int.reduceEq, Int.reduceLT, Int.reduceLE, Int.reduceSub, Int.reduceAdd]
  have hM0 : sy.mput (.int .i64 0) (.sl 1 []) [] = encM [(0, [])] := rfl
  rw [hM0]
  refine check_loop ⟨la, lb, lo, hi⟩ code (fun i L => [.sl 4 (crows code), .sl 4 (crows code), .int .i64 (code.length : Int), .int .i64 (i : Int), .sl 1 (irows la), .sl 1 (irows lb), .int .i64 lo, .int .i64 hi, .sl 2 (encM L)]) (fun i L x hx hrow => ?_) (fun L => ?_) code 0 [(0, [])] _ rfl (Nat.zero_le _) ⟨fun m hm => ?_, fun m row hm => ?_⟩
  · have hlt := (List.getElem?_eq_some_iff.1 hx).1
    have h31 := c31 x
    have h33 := c33 code i (by omega) (by omega) (by omega)
    rw [Int.toNat_natCast, (getElem?_some_getD (d := default) hx).1] at h33
    obtain ⟨T, bT, eT, hT2, hTm⟩ := leads_eq code.length i x
    rw [eT] at h33
    unfold StepOK
    cases hk : lk L i with
    | none =>
      simp only [go1, Option.bind_some, eq_self, cond_true, cond_false, Nat.reduceAdd, Int.reduceEq, Int.reduceLT, Int.reduceLE, Int.reduceSub, Int.reduceAdd, crows_len, ilt_at hlt, inr_at hlt, crows_at hx, Ins.row, mval_at, mhas_at, hk, Option.isSome_none]
      rfl
    | some row =>
      have hro := hrow row hk
      simp only
      unfold insV at *
      cases hr : rightB x with
      | false =>
        rw [hr] at h31
        simp only [go1, Option.bind_some, eq_self, cond_true, cond_false, Nat.reduceAdd, Int.reduceEq, Int.reduceLT, Int.reduceLE, Int.reduceSub, Int.reduceAdd, crows_len, ilt_at hlt, inr_at hlt, crows_at hx, Ins.row, mval_at, mhas_at, hk, Option.isSome_some, Option.getD_some, h31]
        rfl
      | true =>
        rw [hr] at h31
        obtain ⟨p, h32, hp⟩ := h32 x row (by have := hro.2; omega) hro.1 hr
        obtain ⟨l, b, rfl, hlb2⟩ := rowR_val hp
        simp only [go1, Option.bind_some, eq_self, cond_true, cond_false, Nat.reduceAdd, Int.reduceEq, Int.reduceLT, Int.reduceLE, Int.reduceSub, Int.reduceAdd, crows_len, ilt_at hlt, inr_at hlt, crows_at hx, Ins.row, mval_at, mhas_at, mdel_at, hk, Option.isSome_some, Option.getD_some, h31, h32, h33, if_true]
        cases hn : nextS ⟨la, lb, lo, hi⟩ x row with
        | none => rw [hn] at hlb2; rw [show b = false from hlb2]; rfl
        | some row' =>
          rw [hn] at hlb2
          obtain ⟨rfl, rfl⟩ := hlb2
          cases hl : leadsS code.length i x with
          | none => rw [hl] at hTm; rw [show bT = false from hTm]; rfl
          | some T' =>
            rw [hl] at hTm
            obtain ⟨rfl, rfl⟩ := hTm
            have hRow' := nextS_ok hn hro hs hr
            have hbd := (leadsS_bd hl).1
            simp only [go1, Option.bind_some, eq_self, cond_true, cond_false, Nat.reduceAdd, Int.reduceEq, Int.reduceLT, Int.reduceLE, Int.reduceSub, Int.reduceAdd, irows_len]
            intro K hK
            refine put_loop T l (fun j L => [.sl 4 (crows code), .int .i64 (i : Int), .sl 1 (irows l), .sl 4 (crows code), .int .i64 (code.length : Int), .int .i64 (i : Int), .sl 1 (irows T), .int .i64 (T.length : Int), .int .i64 (j : Int), .sl 1 (irows la), .sl 1 (irows lb), .int .i64 lo, .int .i64 hi, .sl 2 (encM L)])
              (fun L => [.sl 4 (crows code), .sl 4 (crows code), .int .i64 (code.length : Int), .int .i64 ((i + 1 : Nat) : Int), .sl 1 (irows la), .sl 1 (irows lb), .int .i64 lo, .int .i64 hi, .sl 2 (encM L)]) (badR i) (i + 1) (fun j L2 t ht hwas => ?_) (fun L2 => ?_) (fun t ht => by have := hbd t ht; omega) hRow' T 0 (delL L i) K rfl (Nat.zero_le _) ⟨fun m hm => ?_, hK.2⟩
            · have hjlt := (List.getElem?_eq_some_iff.1 ht).1
              simp only [go1, Option.bind_some, eq_self, cond_true, cond_false, Nat.reduceAdd, Int.reduceEq, Int.reduceLT, Int.reduceLE, Int.reduceSub, Int.reduceAdd, irows_len, ilt_at hjlt, inr_at hjlt, irows_at ht, mval_at, mhas_at, mput_at, wrap_succ hjlt (by omega)]
              cases hq : lk L2 t with
              | none => simp only [go1, Option.bind_some, eq_self, cond_true, cond_false, Nat.reduceAdd, Int.reduceEq, Int.reduceLT, Int.reduceLE, Int.reduceSub, Int.reduceAdd, Option.isSome_none]; rfl
              | some was =>
                have := hwas was hq
                simp only [go1, Option.bind_some, eq_self, cond_true, cond_false, Nat.reduceAdd, Int.reduceEq, Int.reduceLT, Int.reduceLE, Int.reduceSub, Int.reduceAdd, Option.isSome_some, Option.getD_some, c34 was l (by omega)]
                by_cases he : was = l
                · rw [if_pos he, show (was == l) = true from by simp [he]]; rfl
                · rw [if_neg he, show (was == l) = false from by simp [he]]; rfl
            · simp only [go1, Option.bind_some, eq_self, cond_true, cond_false, Nat.reduceAdd, Int.reduceEq, Int.reduceLT, Int.reduceLE, Int.reduceSub, Int.reduceAdd, irows_len, ilt_self, wrap_succ hlt (by omega)]
              rfl
            · rw [lk_del _ _ (by omega)]
              exact hK.1 m hm
  · simp only [go1, Option.bind_some, eq_self, cond_true, cond_false, Nat.reduceAdd, Int.reduceEq, Int.reduceLT, Int.reduceLE, Int.reduceSub, Int.reduceAdd, ilt_self, crows_len]
  · simp only [lk]
    by_cases h0 : (0 : Int) = m
    · rw [if_pos h0, if_pos (by omega)]
    · rw [if_neg h0, if_neg (by omega)]
  · have hm : (if m = 0 then some [] else none) = some row := hm
    by_cases h0 : m = 0
    · rw [if_pos h0] at hm; cases hm; exact ⟨by simp, by simp⟩
    · rw [if_neg h0] at hm; cases hm
end Go.Vm
end

section
set_option maxRecDepth 1000000
set_option maxHeartbeats 0
namespace Go.Vm
open Go.Proofs
def g58 (A : Sy) (E : Env) (x_0 : Int) (x_1 : Int) (x_2 : Int) (x_3 : Int) : Option PRes :=
 cutO (
 bif (A.bnot (A.ieq x_0 1)) then
 some (.inl [(.bool (A.bnot (A.ieq x_3 0)))])
 else
 some (.inl [(.bool false)])
 ) fun ds1 =>
 (opB (A.cell ds1 0)).bind fun b2 =>
 cutO (
 bif b2 then
 some (.inl [(.bool true)])
 else
 bif (A.bnot (A.ieq x_0 8)) then
 bif (A.bnot (A.ieq x_0 9)) then
 some (.inl [(.bool (A.bnot (A.ieq x_2 0)))])
 else
 some (.inl [(.bool false)])
 else
 some (.inl [(.bool false)])
 ) fun ds3 =>
 (opB (A.cell ds3 0)).bind fun b4 =>
 bif b4 then
 some (.val [(.bool false)])
 else
 bif (A.ieq x_0 1) then
 cutO (
 bif (A.ile 1 x_1) then
 some (.inl [(.bool (A.ile x_1 1000))])
 else
 some (.inl [(.bool false)])
 ) fun ds5 =>
 (opB (A.cell ds5 0)).bind fun b6 =>
 some (.val [(.bool b6)])
 else
 bif (A.ieq x_0 2) then
 (E.call 112 [(.d (.int .i64 x_1))]).bind fun p7 =>
 (opB (A.cell p7.leaves 0)).bind fun b9 =>
 some (.val [(.bool b9)])
 else
 bif (A.ieq x_0 3) then
 (E.call 112 [(.d (.int .i64 x_1))]).bind fun p10 =>
 (opB (A.cell p10.leaves 0)).bind fun b12 =>
 some (.val [(.bool b12)])
 else
 bif (A.ieq x_0 6) then
 (E.call 112 [(.d (.int .i64 x_1))]).bind fun p13 =>
 (opB (A.cell p13.leaves 0)).bind fun b15 =>
 some (.val [(.bool b15)])
 else
 bif (A.ieq x_0 7) then
 (E.call 112 [(.d (.int .i64 x_1))]).bind fun p16 =>
 (opB (A.cell p16.leaves 0)).bind fun b18 =>
 some (.val [(.bool b18)])
 else
 bif (A.ieq x_0 4) then
 cutO (
 bif (A.ieq x_1 1) then
 some (.inl [(.bool true)])
 else
 some (.inl [(.bool (A.ieq x_1 2))])
 ) fun ds19 =>
 (opB (A.cell ds19 0)).bind fun b20 =>
 some (.val [(.bool b20)])
 else
 bif (A.ieq x_0 5) then
 cutO (
 bif (A.ile 3 x_1) then
 some (.inl [(.bool (A.ile x_1 16))])
 else
 some (.inl [(.bool false)])
 ) fun ds21 =>
 (opB (A.cell ds21 0)).bind fun b22 =>
 some (.val [(.bool b22)])
 else
 bif (A.ieq x_0 8) then
 (E.call 112 [(.d (.int .i64 x_1))]).bind fun p23 =>
 (opB (A.cell p23.leaves 0)).bind fun b25 =>
 cutO (
 bif b25 then
 some (.inl [(.bool (A.ile 1 x_2))])
 else
 some (.inl [(.bool false)])
 ) fun ds26 =>
 (opB (A.cell ds26 0)).bind fun b27 =>
 cutO (
 bif b27 then
 some (.inl [(.bool (A.ile x_2 8))])
 else
 some (.inl [(.bool false)])
 ) fun ds28 =>
 (opB (A.cell ds28 0)).bind fun b29 =>
 some (.val [(.bool b29)])
 else
 bif (A.ieq x_0 9) then
 (E.call 112 [(.d (.int .i64 x_1))]).bind fun p30 =>
 (opB (A.cell p30.leaves 0)).bind fun b32 =>
 cutO (
 bif b32 then
 some (.inl [(.bool (A.ile 1 x_2))])
 else
 some (.inl [(.bool false)])
 ) fun ds33 =>
 (opB (A.cell ds33 0)).bind fun b34 =>
 cutO (
 bif b34 then
 some (.inl [(.bool (A.ile x_2 8))])
 else
 some (.inl [(.bool false)])
 ) fun ds35 =>
 (opB (A.cell ds35 0)).bind fun b36 =>
 some (.val [(.bool b36)])
 else
 bif (A.ieq x_0 10) then
 some (.val [(.bool (A.ieq x_1 0))])
 else
 some (.val [(.bool false)])
theorem g58_eq (A : Sy) (E : Env) (x_0 : Int) (x_1 : Int) (x_2 : Int) (x_3 : Int) : (funT A Tryz.prog cs 58 [V.agg [V.d (.int .i64 x_0), V.d (.int .i64 x_1), V.d (.int .i64 x_2), V.d (.int .i64 x_3)]]).run E = g58 A E x_0 x_1 x_2 x_3 := by kernel_rfl
def g112 (A : Sy) (E : Env) (n_ : Int) : Option PRes :=
 cutO (
 bif (A.ile 0 n_) then
 some (.inl [(.bool (A.ile n_ 65535))])
 else
 some (.inl [(.bool false)])
 ) fun ds1 =>
 (opB (A.cell ds1 0)).bind fun b2 =>
 some (.val [(.bool b2)])
theorem g112_eq (A : Sy) (E : Env) (n_ : Int) : (funT A Tryz.prog cs 112 [V.d (.int .i64 n_)]).run E = g112 A E n_ := by kernel_rfl
def g55 (A : Sy) (E : Env) (s_0 : List (List D)) (s_1 : List (List D)) (s_2 : Int) (s_3 : Int) : Option PRes :=
 cutO (
 bif (A.ilt 4 (A.rlen s_0)) then
 some (.inl [(.bool true)])
 else
 some (.inl [(.bool (A.ilt 1000 (A.rlen s_1)))])
 ) fun ds1 =>
 (opB (A.cell ds1 0)).bind fun b2 =>
 cutO (
 bif b2 then
 some (.inl [(.bool true)])
 else
 some (.inl [(.bool (A.ilt s_2 0))])
 ) fun ds3 =>
 (opB (A.cell ds3 0)).bind fun b4 =>
 cutO (
 bif b4 then
 some (.inl [(.bool true)])
 else
 some (.inl [(.bool (A.ilt (A.rlen s_1) s_3))])
 ) fun ds5 =>
 (opB (A.cell ds5 0)).bind fun b6 =>
 cutO (
 bif b6 then
 some (.inl [(.bool true)])
 else
 some (.inl [(.bool (A.ilt s_3 s_2))])
 ) fun ds7 =>
 (opB (A.cell ds7 0)).bind fun b8 =>
 bif b8 then
 some (.val [(.bool false)])
 else
 E.lp (fun ds9 =>
 (opI (A.cell ds9 0) .i64).bind fun n10 =>
 (opL (A.cell ds9 1) 1).bind fun l11 =>
 (opL (A.cell ds9 2) 1).bind fun l12 =>
 (opI (A.cell ds9 3) .i64).bind fun n13 =>
 (opI (A.cell ds9 4) .i64).bind fun n14 =>
 bif (A.ilt n10 (A.rlen l11)) then
 bif (A.inr n10 (A.rlen l11)) then
 (opI (A.cell (A.row l11 n10) 0) .i64).bind fun n15 =>
 bif (A.ilt n15 1) then
 some (.inr (.val [(.bool false)]))
 else
 some (.inl [(.int .i64 (A.wrap .i64 (A.add n10 1))), (.sl 1 l11), (.sl 1 l12), (.int .i64 n13), (.int .i64 n14)])
 else
 none
 else
 E.lp (fun ds16 =>
 (opI (A.cell ds16 0) .i64).bind fun n17 =>
 (opL (A.cell ds16 1) 1).bind fun l18 =>
 (opL (A.cell ds16 2) 1).bind fun l19 =>
 (opI (A.cell ds16 3) .i64).bind fun n20 =>
 (opI (A.cell ds16 4) .i64).bind fun n21 =>
 bif (A.ilt n17 (A.rlen l19)) then
 bif (A.inr n17 (A.rlen l19)) then
 (opI (A.cell (A.row l19 n17) 0) .i64).bind fun n22 =>
 (E.call 110 [(.agg [(.d (.sl 1 l18)), (.d (.sl 1 l19)), (.d (.int .i64 n20)), (.d (.int .i64 n21))]), (.d (.int .i64 n22))]).bind fun p23 =>
 (opB (A.cell p23.leaves 0)).bind fun b25 =>
 bif (A.bnot b25) then
 some (.inr (.inr (.val [(.bool false)])))
 else
 some (.inl [(.int .i64 (A.wrap .i64 (A.add n17 1))), (.sl 1 l18), (.sl 1 l19), (.int .i64 n20), (.int .i64 n21)])
 else
 none
 else
 some (.inr (.inr (.val [(.bool true)])))
 ) [(.int .i64 0), (.sl 1 l11), (.sl 1 l12), (.int .i64 n13), (.int .i64 n14)]
 ) [(.int .i64 0), (.sl 1 s_0), (.sl 1 s_1), (.int .i64 s_2), (.int .i64 s_3)]
theorem g55_eq (A : Sy) (E : Env) (s_0 : List (List D)) (s_1 : List (List D)) (s_2 : Int) (s_3 : Int) : (funT A Tryz.prog cs 55 [V.agg [V.d (.sl 1 s_0), V.d (.sl 1 s_1), V.d (.int .i64 s_2), V.d (.int .i64 s_3)]]).run E = g55 A E s_0 s_1 s_2 s_3 := by kernel_rfl
def g110 (A : Sy) (E : Env) (s_0 : List (List D)) (s_1 : List (List D)) (s_2 : Int) (s_3 : Int) (k_ : Int) : Option PRes :=
 cutO (
 bif (A.ieq k_ 1) then
 some (.inl [(.bool true)])
 else
 some (.inl [(.bool (A.ieq k_ 2))])
 ) fun ds1 =>
 (opB (A.cell ds1 0)).bind fun b2 =>
 cutO (
 bif b2 then
 some (.inl [(.bool true)])
 else
 bif (A.ile 3 k_) then
 some (.inl [(.bool (A.ilt k_ (A.wrap .i64 (A.add 3 (A.rlen s_0)))))])
 else
 some (.inl [(.bool false)])
 ) fun ds3 =>
 (opB (A.cell ds3 0)).bind fun b4 =>
 some (.val [(.bool b4)])
theorem g110_eq (A : Sy) (E : Env) (s_0 : List (List D)) (s_1 : List (List D)) (s_2 : Int) (s_3 : Int) (k_ : Int) : (funT A Tryz.prog cs 110 [V.agg [V.d (.sl 1 s_0), V.d (.sl 1 s_1), V.d (.int .i64 s_2), V.d (.int .i64 s_3)], V.d (.int .i64 k_)]).run E = g110 A E s_0 s_1 s_2 s_3 k_ := by kernel_rfl
def g56 (A : Sy) (E : Env) (s_0 : List (List D)) (s_1 : List (List D)) (s_2 : Int) (s_3 : Int) (k_ : Int) (n_ : Int) : Option PRes :=
 bif (A.ieq k_ 2) then
 cutO (
 bif (A.ieq n_ 0) then
 some (.inl [(.bool true)])
 else
 some (.inl [(.bool (A.ieq n_ 1))])
 ) fun ds1 =>
 (opB (A.cell ds1 0)).bind fun b2 =>
 some (.val [(.bool b2)])
 else
 cutO (
 bif (A.ieq k_ 1) then
 some (.inl [(.bool true)])
 else
 bif (A.ile 0 n_) then
 bif (A.inr (A.wrap .i64 (A.sub k_ 3)) (A.rlen s_0)) then
 (opI (A.cell (A.row s_0 (A.wrap .i64 (A.sub k_ 3))) 0) .i64).bind fun n3 =>
 some (.inl [(.bool (A.ilt n_ n3))])
 else
 none
 else
 some (.inl [(.bool false)])
 ) fun ds4 =>
 (opB (A.cell ds4 0)).bind fun b5 =>
 some (.val [(.bool b5)])
theorem g56_eq (A : Sy) (E : Env) (s_0 : List (List D)) (s_1 : List (List D)) (s_2 : Int) (s_3 : Int) (k_ : Int) (n_ : Int) : (funT A Tryz.prog cs 56 [V.agg [V.d (.sl 1 s_0), V.d (.sl 1 s_1), V.d (.int .i64 s_2), V.d (.int .i64 s_3)], V.d (.int .i64 k_), V.d (.int .i64 n_)]).run E = g56 A E s_0 s_1 s_2 s_3 k_ n_ := by kernel_rfl
def g93 (A : Sy) (E : Env) (a_ : List (List D)) (b_ : List (List D)) : Option PRes :=
 bif (A.bnot (A.ieq (A.rlen a_) (A.rlen b_))) then
 some (.val [(.bool false)])
 else
 E.lp (fun ds1 =>
 (opL (A.cell ds1 0) 1).bind fun l2 =>
 (opL (A.cell ds1 1) 1).bind fun l3 =>
 (opI (A.cell ds1 2) .i64).bind fun n4 =>
 bif (A.ilt n4 (A.rlen l2)) then
 bif (A.inr n4 (A.rlen l2)) then
 (opI (A.cell (A.row l2 n4) 0) .i64).bind fun n5 =>
 bif (A.inr n4 (A.rlen l3)) then
 (opI (A.cell (A.row l3 n4) 0) .i64).bind fun n6 =>
 bif (A.bnot (A.ieq n5 n6)) then
 some (.inr (.val [(.bool false)]))
 else
 some (.inl [(.sl 1 l2), (.sl 1 l3), (.int .i64 (A.wrap .i64 (A.add n4 1)))])
 else
 none
 else
 none
 else
 some (.inr (.val [(.bool true)]))
 ) [(.sl 1 a_), (.sl 1 b_), (.int .i64 0)]
theorem g93_eq (A : Sy) (E : Env) (a_ : List (List D)) (b_ : List (List D)) : (funT A Tryz.prog cs 93 [V.d (.sl 1 a_), V.d (.sl 1 b_)]).run E = g93 A E a_ b_ := by kernel_rfl
def g153 (A : Sy) (E : Env) (k_ : Int) : Option PRes :=
 bif (A.ilt k_ 3) then
 some (.val [(.int .i64 k_), (.int .i64 0), (.int .i64 0)])
 else
 some (.val [(.int .i64 3), (.int .i64 (A.wrap .i64 (A.sub k_ 3))), (.int .i64 0)])
theorem g153_eq (A : Sy) (E : Env) (k_ : Int) : (funT A Tryz.prog cs 153 [V.d (.int .i64 k_)]).run E = g153 A E k_ := by kernel_rfl
def g155 (A : Sy) (E : Env) (t_0 : Int) (t_1 : Int) (t_2 : Int) : Option PRes :=
 bif (A.ilt t_0 3) then
 some (.val [(.int .i64 t_0)])
 else
 some (.val [(.int .i64 (A.wrap .i64 (A.add 3 t_1)))])
theorem g155_eq (A : Sy) (E : Env) (t_0 : Int) (t_1 : Int) (t_2 : Int) : (funT A Tryz.prog cs 155 [V.agg [V.d (.int .i64 t_0), V.d (.int .i64 t_1), V.d (.int .i64 t_2)]]).run E = g155 A E t_0 t_1 t_2 := by kernel_rfl
def g154 (A : Sy) (E : Env) (row_ : List (List D)) (back_ : Int) : Option PRes :=
 bif (A.ile (A.rlen row_) back_) then
 some (.val [(.int .i64 0)])
 else
 bif (A.inr (A.wrap .i64 (A.sub (A.wrap .i64 (A.sub (A.rlen row_) 1)) back_)) (A.rlen row_)) then
 (opI (A.cell (A.row row_ (A.wrap .i64 (A.sub (A.wrap .i64 (A.sub (A.rlen row_) 1)) back_))) 0) .i64).bind fun n1 =>
 some (.val [(.int .i64 n1)])
 else
 none
theorem g154_eq (A : Sy) (E : Env) (row_ : List (List D)) (back_ : Int) : (funT A Tryz.prog cs 154 [V.d (.sl 1 row_), V.d (.int .i64 back_)]).run E = g154 A E row_ back_ := by kernel_rfl
def g151 (A : Sy) (E : Env) (row_ : List (List D)) (n_ : Int) (k_ : Int) : Option PRes :=
 bif (A.cutok 0 (A.wrap .i64 (A.sub (A.rlen row_) n_)) (A.rlen row_)) then
 bif (A.fits [] (A.cut row_ 0 (A.wrap .i64 (A.sub (A.rlen row_) n_))) 8) then
 bif (A.bnot (A.ieq k_ 0)) then
 bif (A.fits (A.rapp [] (A.cut row_ 0 (A.wrap .i64 (A.sub (A.rlen row_) n_)))) [[(.int .i64 k_)]] 8) then
 some (.own 3 1 (A.rapp (A.rapp [] (A.cut row_ 0 (A.wrap .i64 (A.sub (A.rlen row_) n_)))) [[(.int .i64 k_)]]))
 else
 none
 else
 some (.own 3 1 (A.rapp [] (A.cut row_ 0 (A.wrap .i64 (A.sub (A.rlen row_) n_)))))
 else
 none
 else
 none
theorem g151_eq (A : Sy) (E : Env) (row_ : List (List D)) (n_ : Int) (k_ : Int) : (funT A Tryz.prog cs 151 [V.d (.sl 1 row_), V.d (.int .i64 n_), V.d (.int .i64 k_)]).run E = g151 A E row_ n_ k_ := by kernel_rfl
def g211 (A : Sy) (E : Env) (s_0 : List (List D)) (s_1 : List (List D)) (s_2 : Int) (s_3 : Int) (at_ : Int) (n_ : Int) : Option PRes :=
 bif (A.ilt (A.rlen s_1) (A.wrap .i64 (A.add at_ n_))) then
 some (.val [(.int .i64 0)])
 else
 E.lp (fun ds1 =>
 (opI (A.cell ds1 0) .i64).bind fun n2 =>
 (opI (A.cell ds1 1) .i64).bind fun n3 =>
 (opI (A.cell ds1 2) .i64).bind fun n4 =>
 (opL (A.cell ds1 3) 1).bind fun l5 =>
 (opL (A.cell ds1 4) 1).bind fun l6 =>
 (opI (A.cell ds1 5) .i64).bind fun n7 =>
 (opI (A.cell ds1 6) .i64).bind fun n8 =>
 bif (A.ilt n4 (A.wrap .i64 (A.add n2 n3))) then
 bif (A.inr n4 (A.rlen l6)) then
 (opI (A.cell (A.row l6 n4) 0) .i64).bind fun n9 =>
 bif (A.inr n2 (A.rlen l6)) then
 (opI (A.cell (A.row l6 n2) 0) .i64).bind fun n10 =>
 bif (A.bnot (A.ieq n9 n10)) then
 some (.inr (.val [(.int .i64 0)]))
 else
 some (.inl [(.int .i64 n2), (.int .i64 n3), (.int .i64 (A.wrap .i64 (A.add n4 1))), (.sl 1 l5), (.sl 1 l6), (.int .i64 n7), (.int .i64 n8)])
 else
 none
 else
 none
 else
 bif (A.inr n2 (A.rlen l6)) then
 (opI (A.cell (A.row l6 n2) 0) .i64).bind fun n11 =>
 some (.inr (.val [(.int .i64 n11)]))
 else
 none
 ) [(.int .i64 at_), (.int .i64 n_), (.int .i64 at_), (.sl 1 s_0), (.sl 1 s_1), (.int .i64 s_2), (.int .i64 s_3)]
theorem g211_eq (A : Sy) (E : Env) (s_0 : List (List D)) (s_1 : List (List D)) (s_2 : Int) (s_3 : Int) (at_ : Int) (n_ : Int) : (funT A Tryz.prog cs 211 [V.agg [V.d (.sl 1 s_0), V.d (.sl 1 s_1), V.d (.int .i64 s_2), V.d (.int .i64 s_3)], V.d (.int .i64 at_), V.d (.int .i64 n_)]).run E = g211 A E s_0 s_1 s_2 s_3 at_ n_ := by kernel_rfl
def g212 (A : Sy) (E : Env) (s_0 : List (List D)) (s_1 : List (List D)) (s_2 : Int) (s_3 : Int) (at_ : Int) (n_ : Int) : Option PRes :=
 E.lp (fun ds1 =>
 (opI (A.cell ds1 0) .i64).bind fun n2 =>
 (opI (A.cell ds1 1) .i64).bind fun n3 =>
 (opI (A.cell ds1 2) .i64).bind fun n4 =>
 (opL (A.cell ds1 3) 1).bind fun l5 =>
 (opL (A.cell ds1 4) 1).bind fun l6 =>
 (opI (A.cell ds1 5) .i64).bind fun n7 =>
 (opI (A.cell ds1 6) .i64).bind fun n8 =>
 bif (A.ilt n4 (A.wrap .i64 (A.add n2 n3))) then
 cutO (
 bif (A.ile n7 n4) then
 some (.inl [(.bool (A.ilt n4 n8))])
 else
 some (.inl [(.bool false)])
 ) fun ds9 =>
 (opB (A.cell ds9 0)).bind fun b10 =>
 bif b10 then
 some (.inr (.val [(.bool false)]))
 else
 some (.inl [(.int .i64 n2), (.int .i64 n3), (.int .i64 (A.wrap .i64 (A.add n4 1))), (.sl 1 l5), (.sl 1 l6), (.int .i64 n7), (.int .i64 n8)])
 else
 some (.inr (.val [(.bool true)]))
 ) [(.int .i64 at_), (.int .i64 n_), (.int .i64 at_), (.sl 1 s_0), (.sl 1 s_1), (.int .i64 s_2), (.int .i64 s_3)]
theorem g212_eq (A : Sy) (E : Env) (s_0 : List (List D)) (s_1 : List (List D)) (s_2 : Int) (s_3 : Int) (at_ : Int) (n_ : Int) : (funT A Tryz.prog cs 212 [V.agg [V.d (.sl 1 s_0), V.d (.sl 1 s_1), V.d (.int .i64 s_2), V.d (.int .i64 s_3)], V.d (.int .i64 at_), V.d (.int .i64 n_)]).run E = g212 A E s_0 s_1 s_2 s_3 at_ n_ := by kernel_rfl
def g157 (A : Sy) (E : Env) (s_0 : List (List D)) (s_1 : List (List D)) (s_2 : Int) (s_3 : Int) (x_0 : Int) (x_1 : Int) (x_2 : Int) (x_3 : Int) (row_ : List (List D)) : Option PRes :=
 (E.call 211 [(.agg [(.d (.sl 1 s_0)), (.d (.sl 1 s_1)), (.d (.int .i64 s_2)), (.d (.int .i64 s_3))]), (.d (.int .i64 x_1)), (.d (.int .i64 (A.imax 1 x_2)))]).bind fun p1 =>
 (opI (A.cell p1.leaves 0) .i64).bind fun n3 =>
 bif (A.ieq n3 0) then
 some (.val [(.sl 1 []), (.bool false)])
 else
 bif (A.ieq x_0 2) then
 (E.call 151 [(.d (.sl 1 row_)), (.d (.int .i64 0)), (.d (.int .i64 n3))]).bind fun p4 =>
 (opL (A.cell p4.leaves 0) 1).bind fun l6 =>
 some (.val [(.sl 1 l6), (.bool (A.ilt (A.rlen row_) 16))])
 else
 bif (A.ieq x_0 3) then
 (E.call 154 [(.d (.sl 1 row_)), (.d (.int .i64 0))]).bind fun p7 =>
 (opI (A.cell p7.leaves 0) .i64).bind fun n9 =>
 cutO (
 bif (A.bnot (A.ieq n9 n3)) then
 some (.inl [(.bool true)])
 else
 (E.call 212 [(.agg [(.d (.sl 1 s_0)), (.d (.sl 1 s_1)), (.d (.int .i64 s_2)), (.d (.int .i64 s_3))]), (.d (.int .i64 x_1)), (.d (.int .i64 (A.imax 1 x_2)))]).bind fun p10 =>
 (opB (A.cell p10.leaves 0)).bind fun b12 =>
 some (.inl [(.bool (A.bnot b12))])
 ) fun ds13 =>
 (opB (A.cell ds13 0)).bind fun b14 =>
 bif b14 then
 some (.val [(.sl 1 []), (.bool false)])
 else
 (E.call 151 [(.d (.sl 1 row_)), (.d (.int .i64 1)), (.d (.int .i64 0))]).bind fun p15 =>
 (opL (A.cell p15.leaves 0) 1).bind fun l17 =>
 some (.val [(.sl 1 l17), (.bool true)])
 else
 bif (A.ieq x_0 8) then
 (E.call 154 [(.d (.sl 1 row_)), (.d (.int .i64 0))]).bind fun p18 =>
 (opI (A.cell p18.leaves 0) .i64).bind fun n20 =>
 bif (A.bnot (A.ieq n20 1)) then
 some (.val [(.sl 1 []), (.bool false)])
 else
 (E.call 151 [(.d (.sl 1 row_)), (.d (.int .i64 1)), (.d (.int .i64 n3))]).bind fun p21 =>
 (opL (A.cell p21.leaves 0) 1).bind fun l23 =>
 some (.val [(.sl 1 l23), (.bool true)])
 else
 (E.call 154 [(.d (.sl 1 row_)), (.d (.int .i64 0))]).bind fun p24 =>
 (opI (A.cell p24.leaves 0) .i64).bind fun n26 =>
 cutO (
 bif (A.bnot (A.ieq n26 1)) then
 some (.inl [(.bool true)])
 else
 (E.call 154 [(.d (.sl 1 row_)), (.d (.int .i64 1))]).bind fun p27 =>
 (opI (A.cell p27.leaves 0) .i64).bind fun n29 =>
 some (.inl [(.bool (A.bnot (A.ieq n29 n3)))])
 ) fun ds30 =>
 (opB (A.cell ds30 0)).bind fun b31 =>
 cutO (
 bif b31 then
 some (.inl [(.bool true)])
 else
 (E.call 212 [(.agg [(.d (.sl 1 s_0)), (.d (.sl 1 s_1)), (.d (.int .i64 s_2)), (.d (.int .i64 s_3))]), (.d (.int .i64 x_1)), (.d (.int .i64 (A.imax 1 x_2)))]).bind fun p32 =>
 (opB (A.cell p32.leaves 0)).bind fun b34 =>
 some (.inl [(.bool (A.bnot b34))])
 ) fun ds35 =>
 (opB (A.cell ds35 0)).bind fun b36 =>
 bif b36 then
 some (.val [(.sl 1 []), (.bool false)])
 else
 (E.call 151 [(.d (.sl 1 row_)), (.d (.int .i64 2)), (.d (.int .i64 0))]).bind fun p37 =>
 (opL (A.cell p37.leaves 0) 1).bind fun l39 =>
 some (.val [(.sl 1 l39), (.bool true)])
theorem g157_eq (A : Sy) (E : Env) (s_0 : List (List D)) (s_1 : List (List D)) (s_2 : Int) (s_3 : Int) (x_0 : Int) (x_1 : Int) (x_2 : Int) (x_3 : Int) (row_ : List (List D)) : (funT A Tryz.prog cs 157 [V.agg [V.d (.sl 1 s_0), V.d (.sl 1 s_1), V.d (.int .i64 s_2), V.d (.int .i64 s_3)], V.agg [V.d (.int .i64 x_0), V.d (.int .i64 x_1), V.d (.int .i64 x_2), V.d (.int .i64 x_3)], V.d (.sl 1 row_)]).run E = g157 A E s_0 s_1 s_2 s_3 x_0 x_1 x_2 x_3 row_ := by kernel_rfl
def g92 (A : Sy) (E : Env) (s_0 : List (List D)) (s_1 : List (List D)) (s_2 : Int) (s_3 : Int) (x_0 : Int) (x_1 : Int) (x_2 : Int) (x_3 : Int) (row_ : List (List D)) : Option PRes :=
 bif (A.ieq x_0 1) then
 (E.call 151 [(.d (.sl 1 row_)), (.d (.int .i64 0)), (.d (.int .i64 x_1))]).bind fun p1 =>
 (opL (A.cell p1.leaves 0) 1).bind fun l3 =>
 (E.call 110 [(.agg [(.d (.sl 1 s_0)), (.d (.sl 1 s_1)), (.d (.int .i64 s_2)), (.d (.int .i64 s_3))]), (.d (.int .i64 x_1))]).bind fun p4 =>
 (opB (A.cell p4.leaves 0)).bind fun b6 =>
 bif b6 then
 (E.call 56 [(.agg [(.d (.sl 1 s_0)), (.d (.sl 1 s_1)), (.d (.int .i64 s_2)), (.d (.int .i64 s_3))]), (.d (.int .i64 x_1)), (.d (.int .i64 x_3))]).bind fun p7 =>
 (opB (A.cell p7.leaves 0)).bind fun b9 =>
 bif b9 then
 some (.val [(.sl 1 l3), (.bool (A.ilt (A.rlen row_) 16))])
 else
 some (.val [(.sl 1 l3), (.bool false)])
 else
 some (.val [(.sl 1 l3), (.bool false)])
 else
 bif (A.ieq x_0 4) then
 (E.call 154 [(.d (.sl 1 row_)), (.d (.int .i64 0))]).bind fun p10 =>
 (opI (A.cell p10.leaves 0) .i64).bind fun n12 =>
 (E.call 153 [(.d (.int .i64 n12))]).bind fun p13 =>
 (opI (A.cell p13.leaves 0) .i64).bind fun n15 =>
 (opI (A.cell p13.leaves 1) .i64).bind fun n16 =>
 (opI (A.cell p13.leaves 2) .i64).bind fun n17 =>
 (E.call 152 [(.d (.int .i64 x_1)), (.agg [(.d (.int .i64 n15)), (.d (.int .i64 n16)), (.d (.int .i64 n17))])]).bind fun p18 =>
 (opI (A.cell p18.leaves 0) .i64).bind fun n20 =>
 (opI (A.cell p18.leaves 1) .i64).bind fun n21 =>
 (opI (A.cell p18.leaves 2) .i64).bind fun n22 =>
 (opB (A.cell p18.leaves 3)).bind fun b23 =>
 bif (A.bnot b23) then
 some (.val [(.sl 1 []), (.bool false)])
 else
 (E.call 155 [(.agg [(.d (.int .i64 n20)), (.d (.int .i64 n21)), (.d (.int .i64 n22))])]).bind fun p24 =>
 (opI (A.cell p24.leaves 0) .i64).bind fun n26 =>
 (E.call 151 [(.d (.sl 1 row_)), (.d (.int .i64 1)), (.d (.int .i64 n26))]).bind fun p27 =>
 (opL (A.cell p27.leaves 0) 1).bind fun l29 =>
 some (.val [(.sl 1 l29), (.bool true)])
 else
 bif (A.ieq x_0 5) then
 bif (A.ilt (A.rlen row_) 2) then
 some (.val [(.sl 1 []), (.bool false)])
 else
 (E.call 154 [(.d (.sl 1 row_)), (.d (.int .i64 1))]).bind fun p30 =>
 (opI (A.cell p30.leaves 0) .i64).bind fun n32 =>
 (E.call 153 [(.d (.int .i64 n32))]).bind fun p33 =>
 (opI (A.cell p33.leaves 0) .i64).bind fun n35 =>
 (opI (A.cell p33.leaves 1) .i64).bind fun n36 =>
 (opI (A.cell p33.leaves 2) .i64).bind fun n37 =>
 (E.call 154 [(.d (.sl 1 row_)), (.d (.int .i64 0))]).bind fun p38 =>
 (opI (A.cell p38.leaves 0) .i64).bind fun n40 =>
 (E.call 153 [(.d (.int .i64 n40))]).bind fun p41 =>
 (opI (A.cell p41.leaves 0) .i64).bind fun n43 =>
 (opI (A.cell p41.leaves 1) .i64).bind fun n44 =>
 (opI (A.cell p41.leaves 2) .i64).bind fun n45 =>
 (E.call 156 [(.d (.int .i64 x_1)), (.agg [(.d (.int .i64 n35)), (.d (.int .i64 n36)), (.d (.int .i64 n37))]), (.agg [(.d (.int .i64 n43)), (.d (.int .i64 n44)), (.d (.int .i64 n45))])]).bind fun p46 =>
 (opI (A.cell p46.leaves 0) .i64).bind fun n48 =>
 (opI (A.cell p46.leaves 1) .i64).bind fun n49 =>
 (opI (A.cell p46.leaves 2) .i64).bind fun n50 =>
 (opB (A.cell p46.leaves 3)).bind fun b51 =>
 bif (A.bnot b51) then
 some (.val [(.sl 1 []), (.bool false)])
 else
 (E.call 155 [(.agg [(.d (.int .i64 n48)), (.d (.int .i64 n49)), (.d (.int .i64 n50))])]).bind fun p52 =>
 (opI (A.cell p52.leaves 0) .i64).bind fun n54 =>
 (E.call 151 [(.d (.sl 1 row_)), (.d (.int .i64 2)), (.d (.int .i64 n54))]).bind fun p55 =>
 (opL (A.cell p55.leaves 0) 1).bind fun l57 =>
 some (.val [(.sl 1 l57), (.bool true)])
 else
 bif (A.ieq x_0 7) then
 (E.call 154 [(.d (.sl 1 row_)), (.d (.int .i64 0))]).bind fun p58 =>
 (opI (A.cell p58.leaves 0) .i64).bind fun n60 =>
 bif (A.bnot (A.ieq n60 2)) then
 some (.val [(.sl 1 []), (.bool false)])
 else
 (E.call 151 [(.d (.sl 1 row_)), (.d (.int .i64 1)), (.d (.int .i64 0))]).bind fun p61 =>
 (opL (A.cell p61.leaves 0) 1).bind fun l63 =>
 some (.val [(.sl 1 l63), (.bool true)])
 else
 bif (A.ieq x_0 6) then
 some (.val [(.sl 1 row_), (.bool true)])
 else
 bif (A.ieq x_0 10) then
 some (.val [(.sl 1 []), (.bool (A.ieq (A.rlen row_) 0))])
 else
 (E.call 157 [(.agg [(.d (.sl 1 s_0)), (.d (.sl 1 s_1)), (.d (.int .i64 s_2)), (.d (.int .i64 s_3))]), (.agg [(.d (.int .i64 x_0)), (.d (.int .i64 x_1)), (.d (.int .i64 x_2)), (.d (.int .i64 x_3))]), (.d (.sl 1 row_))]).bind fun p64 =>
 (opL (A.cell p64.leaves 0) 1).bind fun l66 =>
 (opB (A.cell p64.leaves 1)).bind fun b67 =>
 some (.val [(.sl 1 l66), (.bool b67)])
theorem g92_eq (A : Sy) (E : Env) (s_0 : List (List D)) (s_1 : List (List D)) (s_2 : Int) (s_3 : Int) (x_0 : Int) (x_1 : Int) (x_2 : Int) (x_3 : Int) (row_ : List (List D)) : (funT A Tryz.prog cs 92 [V.agg [V.d (.sl 1 s_0), V.d (.sl 1 s_1), V.d (.int .i64 s_2), V.d (.int .i64 s_3)], V.agg [V.d (.int .i64 x_0), V.d (.int .i64 x_1), V.d (.int .i64 x_2), V.d (.int .i64 x_3)], V.d (.sl 1 row_)]).run E = g92 A E s_0 s_1 s_2 s_3 x_0 x_1 x_2 x_3 row_ := by kernel_rfl
def g46 (A : Sy) (E : Env) (s_0 : List (List D)) (s_1 : List (List D)) (s_2 : Int) (s_3 : Int) (code_ : List (List D)) : Option PRes :=
 (E.call 55 [(.agg [(.d (.sl 1 s_0)), (.d (.sl 1 s_1)), (.d (.int .i64 s_2)), (.d (.int .i64 s_3))])]).bind fun p1 =>
 (opB (A.cell p1.leaves 0)).bind fun b3 =>
 cutO (
 bif (A.bnot b3) then
 some (.inl [(.bool true)])
 else
 some (.inl [(.bool (A.ilt (A.rlen code_) 1))])
 ) fun ds4 =>
 (opB (A.cell ds4 0)).bind fun b5 =>
 cutO (
 bif b5 then
 some (.inl [(.bool true)])
 else
 some (.inl [(.bool (A.ilt 6000 (A.rlen code_)))])
 ) fun ds6 =>
 (opB (A.cell ds6 0)).bind fun b7 =>
 bif b7 then
 some (.val [(.int .i64 0), (.bool false)])
 else
 bif (A.mkok (A.rlen code_) (A.rlen code_) 1) then
 bif (A.mkok (A.rlen code_) (A.rlen code_) 24) then
 bif (A.inr 0 (A.rlen (A.rep (A.rlen code_) [(.bool false)]))) then
 bif (A.inrn (A.nat 0) (A.rep (A.rlen code_) [(.bool false)])) then
 E.lp (fun ds8 =>
 (opL (A.cell ds8 0) 4).bind fun l9 =>
 (opI (A.cell ds8 1) .i64).bind fun n10 =>
 (opL (A.cell ds8 2) 1).bind fun l11 =>
 (opL (A.cell ds8 3) 1).bind fun l12 =>
 (opI (A.cell ds8 4) .i64).bind fun n13 =>
 (opI (A.cell ds8 5) .i64).bind fun n14 =>
 (opL (A.cell ds8 6) 1).bind fun l15 =>
 (opL (A.cell ds8 7) 1).bind fun l16 =>
 bif (A.ilt n10 (A.rlen l9)) then
 bif (A.inr n10 (A.rlen l9)) then
 (opI (A.cell (A.row l9 n10) 0) .i64).bind fun n17 =>
 (opI (A.cell (A.row l9 n10) 1) .i64).bind fun n18 =>
 (opI (A.cell (A.row l9 n10) 2) .i64).bind fun n19 =>
 (opI (A.cell (A.row l9 n10) 3) .i64).bind fun n20 =>
 bif (A.inr n10 (A.rlen l15)) then
 (opB (A.cell (A.rown l15 (A.nat n10)) 0)).bind fun b21 =>
 cutO (
 bif (A.bnot b21) then
 some (.inl [(.bool true)])
 else
 (E.call 58 [(.agg [(.d (.int .i64 n17)), (.d (.int .i64 n18)), (.d (.int .i64 n19)), (.d (.int .i64 n20))])]).bind fun p22 =>
 (opB (A.cell p22.leaves 0)).bind fun b24 =>
 some (.inl [(.bool (A.bnot b24))])
 ) fun ds25 =>
 (opB (A.cell ds25 0)).bind fun b26 =>
 bif b26 then
 some (.inr (.val [(.int .i64 n10), (.bool false)]))
 else
 bif (A.inr n10 (A.rlen l16)) then
 (opL (A.cell (A.rown l16 (A.nat n10)) 0) 1).bind fun l27 =>
 (E.call 92 [(.agg [(.d (.sl 1 l11)), (.d (.sl 1 l12)), (.d (.int .i64 n13)), (.d (.int .i64 n14))]), (.agg [(.d (.int .i64 n17)), (.d (.int .i64 n18)), (.d (.int .i64 n19)), (.d (.int .i64 n20))]), (.d (.sl 1 l27))]).bind fun p28 =>
 (opL (A.cell p28.leaves 0) 1).bind fun l30 =>
 (opB (A.cell p28.leaves 1)).bind fun b31 =>
 bif (A.bnot b31) then
 some (.inr (.val [(.int .i64 n10), (.bool false)]))
 else
 cutO (
 bif (A.bnot (A.ieq n17 6)) then
 some (.inl [(.bool (A.bnot (A.ieq n17 10)))])
 else
 some (.inl [(.bool false)])
 ) fun ds32 =>
 (opB (A.cell ds32 0)).bind fun b33 =>
 bif b33 then
 bif (A.fits [] [[(.int .i64 (A.wrap .i64 (A.add n10 1)))]] 8) then
 cutO (
 bif (A.ieq n17 6) then
 some (.inl [(.bool true)])
 else
 some (.inl [(.bool (A.ieq n17 7))])
 ) fun ds34 =>
 (opB (A.cell ds34 0)).bind fun b35 =>
 bif b35 then
 bif (A.ile n18 n10) then
 some (.inr (.val [(.int .i64 n10), (.bool false)]))
 else
 bif (A.fits (A.rapp [] [[(.int .i64 (A.wrap .i64 (A.add n10 1)))]]) [[(.int .i64 n18)]] 8) then
 cutO (
 bif (A.ieq n17 10) then
 some (.inl [(.bool (A.bnot (A.ieq (A.wrap .i64 (A.add n10 1)) (A.rlen l9))))])
 else
 some (.inl [(.bool false)])
 ) fun ds36 =>
 (opB (A.cell ds36 0)).bind fun b37 =>
 bif b37 then
 some (.inr (.val [(.int .i64 n10), (.bool false)]))
 else
 E.lp (fun ds38 =>
 (opL (A.cell ds38 0) 4).bind fun l39 =>
 (opI (A.cell ds38 1) .i64).bind fun n40 =>
 (opL (A.cell ds38 2) 1).bind fun l41 =>
 (opI (A.cell ds38 3) .i64).bind fun n42 =>
 (opL (A.cell ds38 4) 1).bind fun l43 =>
 (opL (A.cell ds38 5) 1).bind fun l44 =>
 (opI (A.cell ds38 6) .i64).bind fun n45 =>
 (opI (A.cell ds38 7) .i64).bind fun n46 =>
 (opL (A.cell ds38 8) 1).bind fun l47 =>
 (opL (A.cell ds38 9) 1).bind fun l48 =>
 (opL (A.cell ds38 10) 1).bind fun l49 =>
 bif (A.ilt n42 (A.rlen l49)) then
 bif (A.inr n42 (A.rlen l49)) then
 (opI (A.cell (A.rown l49 (A.nat n42)) 0) .i64).bind fun n50 =>
 cutO (
 bif (A.ile (A.rlen l39) n50) then
 some (.inl [(.bool true)])
 else
 bif (A.inr n42 (A.rlen l49)) then
 (opI (A.cell (A.rown l49 (A.nat n42)) 0) .i64).bind fun n51 =>
 bif (A.inr n51 (A.rlen l47)) then
 (opB (A.cell (A.rown l47 (A.nat n51)) 0)).bind fun b52 =>
 bif b52 then
 bif (A.inr n42 (A.rlen l49)) then
 (opI (A.cell (A.rown l49 (A.nat n42)) 0) .i64).bind fun n53 =>
 bif (A.inr n53 (A.rlen l48)) then
 (opL (A.cell (A.rown l48 (A.nat n53)) 0) 1).bind fun l54 =>
 (E.call 93 [(.d (.sl 1 l54)), (.d (.sl 1 l41))]).bind fun p55 =>
 (opB (A.cell p55.leaves 0)).bind fun b57 =>
 some (.inl [(.bool (A.bnot b57))])
 else
 none
 else
 none
 else
 some (.inl [(.bool false)])
 else
 none
 else
 none
 ) fun ds58 =>
 (opB (A.cell ds58 0)).bind fun b59 =>
 bif b59 then
 some (.inr (.inr (.val [(.int .i64 n40), (.bool false)])))
 else
 bif (A.inr n42 (A.rlen l49)) then
 (opI (A.cell (A.rown l49 (A.nat n42)) 0) .i64).bind fun n60 =>
 bif (A.inr n42 (A.rlen l49)) then
 (opI (A.cell (A.rown l49 (A.nat n42)) 0) .i64).bind fun n61 =>
 bif (A.inr n60 (A.rlen l47)) then
 bif (A.inrn (A.nat n60) l47) then
 bif (A.inr n61 (A.rlen l48)) then
 bif (A.inrn (A.nat n61) l48) then
 some (.inl [(.sl 4 l39), (.int .i64 n40), (.sl 1 l41), (.int .i64 (A.wrap .i64 (A.add n42 1))), (.sl 1 l43), (.sl 1 l44), (.int .i64 n45), (.int .i64 n46), (.sl 1 (A.rput l47 (A.nat n60) 0 [(.bool true)])), (.sl 1 (A.rput l48 (A.nat n61) 0 [(.sl 1 l41)])), (.sl 1 l49)])
 else
 none
 else
 none
 else
 none
 else
 none
 else
 none
 else
 none
 else
 none
 else
 some (.inr (.inl [(.sl 4 l39), (.int .i64 (A.wrap .i64 (A.add n40 1))), (.sl 1 l43), (.sl 1 l44), (.int .i64 n45), (.int .i64 n46), (.sl 1 l47), (.sl 1 l48)]))
 ) [(.sl 4 l9), (.int .i64 n10), (.sl 1 l30), (.int .i64 0), (.sl 1 l11), (.sl 1 l12), (.int .i64 n13), (.int .i64 n14), (.sl 1 l15), (.sl 1 l16), (.sl 1 (A.rapp (A.rapp [] [[(.int .i64 (A.wrap .i64 (A.add n10 1)))]]) [[(.int .i64 n18)]]))]
 else
 none
 else
 cutO (
 bif (A.ieq n17 10) then
 some (.inl [(.bool (A.bnot (A.ieq (A.wrap .i64 (A.add n10 1)) (A.rlen l9))))])
 else
 some (.inl [(.bool false)])
 ) fun ds62 =>
 (opB (A.cell ds62 0)).bind fun b63 =>
 bif b63 then
 some (.inr (.val [(.int .i64 n10), (.bool false)]))
 else
 E.lp (fun ds64 =>
 (opL (A.cell ds64 0) 4).bind fun l65 =>
 (opI (A.cell ds64 1) .i64).bind fun n66 =>
 (opL (A.cell ds64 2) 1).bind fun l67 =>
 (opI (A.cell ds64 3) .i64).bind fun n68 =>
 (opL (A.cell ds64 4) 1).bind fun l69 =>
 (opL (A.cell ds64 5) 1).bind fun l70 =>
 (opI (A.cell ds64 6) .i64).bind fun n71 =>
 (opI (A.cell ds64 7) .i64).bind fun n72 =>
 (opL (A.cell ds64 8) 1).bind fun l73 =>
 (opL (A.cell ds64 9) 1).bind fun l74 =>
 (opL (A.cell ds64 10) 1).bind fun l75 =>
 bif (A.ilt n68 (A.rlen l75)) then
 bif (A.inr n68 (A.rlen l75)) then
 (opI (A.cell (A.rown l75 (A.nat n68)) 0) .i64).bind fun n76 =>
 cutO (
 bif (A.ile (A.rlen l65) n76) then
 some (.inl [(.bool true)])
 else
 bif (A.inr n68 (A.rlen l75)) then
 (opI (A.cell (A.rown l75 (A.nat n68)) 0) .i64).bind fun n77 =>
 bif (A.inr n77 (A.rlen l73)) then
 (opB (A.cell (A.rown l73 (A.nat n77)) 0)).bind fun b78 =>
 bif b78 then
 bif (A.inr n68 (A.rlen l75)) then
 (opI (A.cell (A.rown l75 (A.nat n68)) 0) .i64).bind fun n79 =>
 bif (A.inr n79 (A.rlen l74)) then
 (opL (A.cell (A.rown l74 (A.nat n79)) 0) 1).bind fun l80 =>
 (E.call 93 [(.d (.sl 1 l80)), (.d (.sl 1 l67))]).bind fun p81 =>
 (opB (A.cell p81.leaves 0)).bind fun b83 =>
 some (.inl [(.bool (A.bnot b83))])
 else
 none
 else
 none
 else
 some (.inl [(.bool false)])
 else
 none
 else
 none
 ) fun ds84 =>
 (opB (A.cell ds84 0)).bind fun b85 =>
 bif b85 then
 some (.inr (.inr (.val [(.int .i64 n66), (.bool false)])))
 else
 bif (A.inr n68 (A.rlen l75)) then
 (opI (A.cell (A.rown l75 (A.nat n68)) 0) .i64).bind fun n86 =>
 bif (A.inr n68 (A.rlen l75)) then
 (opI (A.cell (A.rown l75 (A.nat n68)) 0) .i64).bind fun n87 =>
 bif (A.inr n86 (A.rlen l73)) then
 bif (A.inrn (A.nat n86) l73) then
 bif (A.inr n87 (A.rlen l74)) then
 bif (A.inrn (A.nat n87) l74) then
 some (.inl [(.sl 4 l65), (.int .i64 n66), (.sl 1 l67), (.int .i64 (A.wrap .i64 (A.add n68 1))), (.sl 1 l69), (.sl 1 l70), (.int .i64 n71), (.int .i64 n72), (.sl 1 (A.rput l73 (A.nat n86) 0 [(.bool true)])), (.sl 1 (A.rput l74 (A.nat n87) 0 [(.sl 1 l67)])), (.sl 1 l75)])
 else
 none
 else
 none
 else
 none
 else
 none
 else
 none
 else
 none
 else
 none
 else
 some (.inr (.inl [(.sl 4 l65), (.int .i64 (A.wrap .i64 (A.add n66 1))), (.sl 1 l69), (.sl 1 l70), (.int .i64 n71), (.int .i64 n72), (.sl 1 l73), (.sl 1 l74)]))
 ) [(.sl 4 l9), (.int .i64 n10), (.sl 1 l30), (.int .i64 0), (.sl 1 l11), (.sl 1 l12), (.int .i64 n13), (.int .i64 n14), (.sl 1 l15), (.sl 1 l16), (.sl 1 (A.rapp [] [[(.int .i64 (A.wrap .i64 (A.add n10 1)))]]))]
 else
 none
 else
 cutO (
 bif (A.ieq n17 6) then
 some (.inl [(.bool true)])
 else
 some (.inl [(.bool (A.ieq n17 7))])
 ) fun ds88 =>
 (opB (A.cell ds88 0)).bind fun b89 =>
 bif b89 then
 bif (A.ile n18 n10) then
 some (.inr (.val [(.int .i64 n10), (.bool false)]))
 else
 bif (A.fits [] [[(.int .i64 n18)]] 8) then
 cutO (
 bif (A.ieq n17 10) then
 some (.inl [(.bool (A.bnot (A.ieq (A.wrap .i64 (A.add n10 1)) (A.rlen l9))))])
 else
 some (.inl [(.bool false)])
 ) fun ds90 =>
 (opB (A.cell ds90 0)).bind fun b91 =>
 bif b91 then
 some (.inr (.val [(.int .i64 n10), (.bool false)]))
 else
 E.lp (fun ds92 =>
 (opL (A.cell ds92 0) 4).bind fun l93 =>
 (opI (A.cell ds92 1) .i64).bind fun n94 =>
 (opL (A.cell ds92 2) 1).bind fun l95 =>
 (opI (A.cell ds92 3) .i64).bind fun n96 =>
 (opL (A.cell ds92 4) 1).bind fun l97 =>
 (opL (A.cell ds92 5) 1).bind fun l98 =>
 (opI (A.cell ds92 6) .i64).bind fun n99 =>
 (opI (A.cell ds92 7) .i64).bind fun n100 =>
 (opL (A.cell ds92 8) 1).bind fun l101 =>
 (opL (A.cell ds92 9) 1).bind fun l102 =>
 (opL (A.cell ds92 10) 1).bind fun l103 =>
 bif (A.ilt n96 (A.rlen l103)) then
 bif (A.inr n96 (A.rlen l103)) then
 (opI (A.cell (A.rown l103 (A.nat n96)) 0) .i64).bind fun n104 =>
 cutO (
 bif (A.ile (A.rlen l93) n104) then
 some (.inl [(.bool true)])
 else
 bif (A.inr n96 (A.rlen l103)) then
 (opI (A.cell (A.rown l103 (A.nat n96)) 0) .i64).bind fun n105 =>
 bif (A.inr n105 (A.rlen l101)) then
 (opB (A.cell (A.rown l101 (A.nat n105)) 0)).bind fun b106 =>
 bif b106 then
 bif (A.inr n96 (A.rlen l103)) then
 (opI (A.cell (A.rown l103 (A.nat n96)) 0) .i64).bind fun n107 =>
 bif (A.inr n107 (A.rlen l102)) then
 (opL (A.cell (A.rown l102 (A.nat n107)) 0) 1).bind fun l108 =>
 (E.call 93 [(.d (.sl 1 l108)), (.d (.sl 1 l95))]).bind fun p109 =>
 (opB (A.cell p109.leaves 0)).bind fun b111 =>
 some (.inl [(.bool (A.bnot b111))])
 else
 none
 else
 none
 else
 some (.inl [(.bool false)])
 else
 none
 else
 none
 ) fun ds112 =>
 (opB (A.cell ds112 0)).bind fun b113 =>
 bif b113 then
 some (.inr (.inr (.val [(.int .i64 n94), (.bool false)])))
 else
 bif (A.inr n96 (A.rlen l103)) then
 (opI (A.cell (A.rown l103 (A.nat n96)) 0) .i64).bind fun n114 =>
 bif (A.inr n96 (A.rlen l103)) then
 (opI (A.cell (A.rown l103 (A.nat n96)) 0) .i64).bind fun n115 =>
 bif (A.inr n114 (A.rlen l101)) then
 bif (A.inrn (A.nat n114) l101) then
 bif (A.inr n115 (A.rlen l102)) then
 bif (A.inrn (A.nat n115) l102) then
 some (.inl [(.sl 4 l93), (.int .i64 n94), (.sl 1 l95), (.int .i64 (A.wrap .i64 (A.add n96 1))), (.sl 1 l97), (.sl 1 l98), (.int .i64 n99), (.int .i64 n100), (.sl 1 (A.rput l101 (A.nat n114) 0 [(.bool true)])), (.sl 1 (A.rput l102 (A.nat n115) 0 [(.sl 1 l95)])), (.sl 1 l103)])
 else
 none
 else
 none
 else
 none
 else
 none
 else
 none
 else
 none
 else
 none
 else
 some (.inr (.inl [(.sl 4 l93), (.int .i64 (A.wrap .i64 (A.add n94 1))), (.sl 1 l97), (.sl 1 l98), (.int .i64 n99), (.int .i64 n100), (.sl 1 l101), (.sl 1 l102)]))
 ) [(.sl 4 l9), (.int .i64 n10), (.sl 1 l30), (.int .i64 0), (.sl 1 l11), (.sl 1 l12), (.int .i64 n13), (.int .i64 n14), (.sl 1 l15), (.sl 1 l16), (.sl 1 (A.rapp [] [[(.int .i64 n18)]]))]
 else
 none
 else
 cutO (
 bif (A.ieq n17 10) then
 some (.inl [(.bool (A.bnot (A.ieq (A.wrap .i64 (A.add n10 1)) (A.rlen l9))))])
 else
 some (.inl [(.bool false)])
 ) fun ds116 =>
 (opB (A.cell ds116 0)).bind fun b117 =>
 bif b117 then
 some (.inr (.val [(.int .i64 n10), (.bool false)]))
 else
 E.lp (fun ds118 =>
 (opL (A.cell ds118 0) 4).bind fun l119 =>
 (opI (A.cell ds118 1) .i64).bind fun n120 =>
 (opL (A.cell ds118 2) 1).bind fun l121 =>
 (opI (A.cell ds118 3) .i64).bind fun n122 =>
 (opL (A.cell ds118 4) 1).bind fun l123 =>
 (opL (A.cell ds118 5) 1).bind fun l124 =>
 (opI (A.cell ds118 6) .i64).bind fun n125 =>
 (opI (A.cell ds118 7) .i64).bind fun n126 =>
 (opL (A.cell ds118 8) 1).bind fun l127 =>
 (opL (A.cell ds118 9) 1).bind fun l128 =>
 (opL (A.cell ds118 10) 1).bind fun l129 =>
 bif (A.ilt n122 (A.rlen l129)) then
 bif (A.inr n122 (A.rlen l129)) then
 (opI (A.cell (A.rown l129 (A.nat n122)) 0) .i64).bind fun n130 =>
 cutO (
 bif (A.ile (A.rlen l119) n130) then
 some (.inl [(.bool true)])
 else
 bif (A.inr n122 (A.rlen l129)) then
 (opI (A.cell (A.rown l129 (A.nat n122)) 0) .i64).bind fun n131 =>
 bif (A.inr n131 (A.rlen l127)) then
 (opB (A.cell (A.rown l127 (A.nat n131)) 0)).bind fun b132 =>
 bif b132 then
 bif (A.inr n122 (A.rlen l129)) then
 (opI (A.cell (A.rown l129 (A.nat n122)) 0) .i64).bind fun n133 =>
 bif (A.inr n133 (A.rlen l128)) then
 (opL (A.cell (A.rown l128 (A.nat n133)) 0) 1).bind fun l134 =>
 (E.call 93 [(.d (.sl 1 l134)), (.d (.sl 1 l121))]).bind fun p135 =>
 (opB (A.cell p135.leaves 0)).bind fun b137 =>
 some (.inl [(.bool (A.bnot b137))])
 else
 none
 else
 none
 else
 some (.inl [(.bool false)])
 else
 none
 else
 none
 ) fun ds138 =>
 (opB (A.cell ds138 0)).bind fun b139 =>
 bif b139 then
 some (.inr (.inr (.val [(.int .i64 n120), (.bool false)])))
 else
 bif (A.inr n122 (A.rlen l129)) then
 (opI (A.cell (A.rown l129 (A.nat n122)) 0) .i64).bind fun n140 =>
 bif (A.inr n122 (A.rlen l129)) then
 (opI (A.cell (A.rown l129 (A.nat n122)) 0) .i64).bind fun n141 =>
 bif (A.inr n140 (A.rlen l127)) then
 bif (A.inrn (A.nat n140) l127) then
 bif (A.inr n141 (A.rlen l128)) then
 bif (A.inrn (A.nat n141) l128) then
 some (.inl [(.sl 4 l119), (.int .i64 n120), (.sl 1 l121), (.int .i64 (A.wrap .i64 (A.add n122 1))), (.sl 1 l123), (.sl 1 l124), (.int .i64 n125), (.int .i64 n126), (.sl 1 (A.rput l127 (A.nat n140) 0 [(.bool true)])), (.sl 1 (A.rput l128 (A.nat n141) 0 [(.sl 1 l121)])), (.sl 1 l129)])
 else
 none
 else
 none
 else
 none
 else
 none
 else
 none
 else
 none
 else
 none
 else
 some (.inr (.inl [(.sl 4 l119), (.int .i64 (A.wrap .i64 (A.add n120 1))), (.sl 1 l123), (.sl 1 l124), (.int .i64 n125), (.int .i64 n126), (.sl 1 l127), (.sl 1 l128)]))
 ) [(.sl 4 l9), (.int .i64 n10), (.sl 1 l30), (.int .i64 0), (.sl 1 l11), (.sl 1 l12), (.int .i64 n13), (.int .i64 n14), (.sl 1 l15), (.sl 1 l16), (.sl 1 [])]
 else
 none
 else
 none
 else
 none
 else
 some (.inr (.val [(.int .i64 (A.rlen l9)), (.bool true)]))
 ) [(.sl 4 code_), (.int .i64 0), (.sl 1 s_0), (.sl 1 s_1), (.int .i64 s_2), (.int .i64 s_3), (.sl 1 (A.rput (A.rep (A.rlen code_) [(.bool false)]) (A.nat 0) 0 [(.bool true)])), (.sl 1 (A.rep (A.rlen code_) [(.sl 1 [])]))]
 else
 none
 else
 none
 else
 none
 else
 none
theorem g46_eq (A : Sy) (E : Env) (s_0 : List (List D)) (s_1 : List (List D)) (s_2 : Int) (s_3 : Int) (code_ : List (List D)) : (funT A Tryz.prog cs 46 [V.agg [V.d (.sl 1 s_0), V.d (.sl 1 s_1), V.d (.int .i64 s_2), V.d (.int .i64 s_3)], V.d (.sl 4 code_)]).run E = g46 A E s_0 s_1 s_2 s_3 code_ := by kernel_rfl
def g152 (A : Sy) (E : Env) (op_ : Int) (t_0 : Int) (t_1 : Int) (t_2 : Int) : Option PRes :=
 bif (A.ieq op_ 1) then
 (E.call 210 [(.d (.int .i64 1))]).bind fun p1 =>
 (opI (A.cell p1.leaves 0) .i64).bind fun n3 =>
 (opI (A.cell p1.leaves 1) .i64).bind fun n4 =>
 (opI (A.cell p1.leaves 2) .i64).bind fun n5 =>
 bif (A.deq [(.int .i64 t_0), (.int .i64 t_1), (.int .i64 t_2)] [(.int .i64 n3), (.int .i64 n4), (.int .i64 n5)]) then
 some (.val [(.int .i64 t_0), (.int .i64 t_1), (.int .i64 t_2), (.bool true)])
 else
 bif (A.ieq op_ 2) then
 (E.call 210 [(.d (.int .i64 2))]).bind fun p6 =>
 (opI (A.cell p6.leaves 0) .i64).bind fun n8 =>
 (opI (A.cell p6.leaves 1) .i64).bind fun n9 =>
 (opI (A.cell p6.leaves 2) .i64).bind fun n10 =>
 bif (A.deq [(.int .i64 t_0), (.int .i64 t_1), (.int .i64 t_2)] [(.int .i64 n8), (.int .i64 n9), (.int .i64 n10)]) then
 some (.val [(.int .i64 t_0), (.int .i64 t_1), (.int .i64 t_2), (.bool true)])
 else
 some (.val [(.int .i64 0), (.int .i64 0), (.int .i64 0), (.bool false)])
 else
 some (.val [(.int .i64 0), (.int .i64 0), (.int .i64 0), (.bool false)])
 else
 bif (A.ieq op_ 2) then
 (E.call 210 [(.d (.int .i64 2))]).bind fun p11 =>
 (opI (A.cell p11.leaves 0) .i64).bind fun n13 =>
 (opI (A.cell p11.leaves 1) .i64).bind fun n14 =>
 (opI (A.cell p11.leaves 2) .i64).bind fun n15 =>
 bif (A.deq [(.int .i64 t_0), (.int .i64 t_1), (.int .i64 t_2)] [(.int .i64 n13), (.int .i64 n14), (.int .i64 n15)]) then
 some (.val [(.int .i64 t_0), (.int .i64 t_1), (.int .i64 t_2), (.bool true)])
 else
 some (.val [(.int .i64 0), (.int .i64 0), (.int .i64 0), (.bool false)])
 else
 some (.val [(.int .i64 0), (.int .i64 0), (.int .i64 0), (.bool false)])
theorem g152_eq (A : Sy) (E : Env) (op_ : Int) (t_0 : Int) (t_1 : Int) (t_2 : Int) : (funT A Tryz.prog cs 152 [V.d (.int .i64 op_), V.agg [V.d (.int .i64 t_0), V.d (.int .i64 t_1), V.d (.int .i64 t_2)]]).run E = g152 A E op_ t_0 t_1 t_2 := by kernel_rfl
def g156 (A : Sy) (E : Env) (op_ : Int) (t_0 : Int) (t_1 : Int) (t_2 : Int) (u_0 : Int) (u_1 : Int) (u_2 : Int) : Option PRes :=
 (E.call 210 [(.d (.int .i64 1))]).bind fun p1 =>
 (opI (A.cell p1.leaves 0) .i64).bind fun n3 =>
 (opI (A.cell p1.leaves 1) .i64).bind fun n4 =>
 (opI (A.cell p1.leaves 2) .i64).bind fun n5 =>
 bif (A.deq [(.int .i64 t_0), (.int .i64 t_1), (.int .i64 t_2)] [(.int .i64 n3), (.int .i64 n4), (.int .i64 n5)]) then
 (E.call 210 [(.d (.int .i64 1))]).bind fun p6 =>
 (opI (A.cell p6.leaves 0) .i64).bind fun n8 =>
 (opI (A.cell p6.leaves 1) .i64).bind fun n9 =>
 (opI (A.cell p6.leaves 2) .i64).bind fun n10 =>
 (E.call 210 [(.d (.int .i64 2))]).bind fun p11 =>
 (opI (A.cell p11.leaves 0) .i64).bind fun n13 =>
 (opI (A.cell p11.leaves 1) .i64).bind fun n14 =>
 (opI (A.cell p11.leaves 2) .i64).bind fun n15 =>
 bif (A.deq [(.int .i64 t_0), (.int .i64 t_1), (.int .i64 t_2)] [(.int .i64 n13), (.int .i64 n14), (.int .i64 n15)]) then
 (E.call 210 [(.d (.int .i64 2))]).bind fun p16 =>
 (opI (A.cell p16.leaves 0) .i64).bind fun n18 =>
 (opI (A.cell p16.leaves 1) .i64).bind fun n19 =>
 (opI (A.cell p16.leaves 2) .i64).bind fun n20 =>
 cutO (
 bif (A.ile 3 op_) then
 some (.inl [(.bool (A.ile op_ 7))])
 else
 some (.inl [(.bool false)])
 ) fun ds21 =>
 (opB (A.cell ds21 0)).bind fun b22 =>
 cutO (
 bif b22 then
 some (.inl [(.bool (A.deq [(.int .i64 u_0), (.int .i64 u_1), (.int .i64 u_2)] [(.int .i64 n8), (.int .i64 n9), (.int .i64 n10)]))])
 else
 some (.inl [(.bool false)])
 ) fun ds23 =>
 (opB (A.cell ds23 0)).bind fun b24 =>
 bif b24 then
 (E.call 210 [(.d (.int .i64 1))]).bind fun p25 =>
 (opI (A.cell p25.leaves 0) .i64).bind fun n27 =>
 (opI (A.cell p25.leaves 1) .i64).bind fun n28 =>
 (opI (A.cell p25.leaves 2) .i64).bind fun n29 =>
 some (.val [(.int .i64 n27), (.int .i64 n28), (.int .i64 n29), (.bool true)])
 else
 cutO (
 bif (A.ile 8 op_) then
 some (.inl [(.bool (A.ile op_ 10))])
 else
 some (.inl [(.bool false)])
 ) fun ds30 =>
 (opB (A.cell ds30 0)).bind fun b31 =>
 cutO (
 bif b31 then
 some (.inl [(.bool (A.deq [(.int .i64 u_0), (.int .i64 u_1), (.int .i64 u_2)] [(.int .i64 n18), (.int .i64 n19), (.int .i64 n20)]))])
 else
 some (.inl [(.bool false)])
 ) fun ds32 =>
 (opB (A.cell ds32 0)).bind fun b33 =>
 cutO (
 bif b33 then
 some (.inl [(.bool true)])
 else
 bif (A.ile 13 op_) then
 bif (A.ile op_ 16) then
 some (.inl [(.bool (A.deq [(.int .i64 u_0), (.int .i64 u_1), (.int .i64 u_2)] [(.int .i64 n8), (.int .i64 n9), (.int .i64 n10)]))])
 else
 some (.inl [(.bool false)])
 else
 some (.inl [(.bool false)])
 ) fun ds34 =>
 (opB (A.cell ds34 0)).bind fun b35 =>
 cutO (
 bif b35 then
 some (.inl [(.bool true)])
 else
 bif (A.ieq op_ 11) then
 bif (A.deq [(.int .i64 t_0), (.int .i64 t_1), (.int .i64 t_2)] [(.int .i64 u_0), (.int .i64 u_1), (.int .i64 u_2)]) then
 some (.inl [(.bool (A.ieq t_2 0))])
 else
 some (.inl [(.bool false)])
 else
 bif (A.ieq op_ 12) then
 bif (A.deq [(.int .i64 t_0), (.int .i64 t_1), (.int .i64 t_2)] [(.int .i64 u_0), (.int .i64 u_1), (.int .i64 u_2)]) then
 some (.inl [(.bool (A.ieq t_2 0))])
 else
 some (.inl [(.bool false)])
 else
 some (.inl [(.bool false)])
 ) fun ds36 =>
 (opB (A.cell ds36 0)).bind fun b37 =>
 bif b37 then
 (E.call 210 [(.d (.int .i64 2))]).bind fun p38 =>
 (opI (A.cell p38.leaves 0) .i64).bind fun n40 =>
 (opI (A.cell p38.leaves 1) .i64).bind fun n41 =>
 (opI (A.cell p38.leaves 2) .i64).bind fun n42 =>
 some (.val [(.int .i64 n40), (.int .i64 n41), (.int .i64 n42), (.bool true)])
 else
 some (.val [(.int .i64 0), (.int .i64 0), (.int .i64 0), (.bool false)])
 else
 cutO (
 bif (A.ile 3 op_) then
 some (.inl [(.bool (A.ile op_ 7))])
 else
 some (.inl [(.bool false)])
 ) fun ds43 =>
 (opB (A.cell ds43 0)).bind fun b44 =>
 cutO (
 bif b44 then
 some (.inl [(.bool (A.deq [(.int .i64 u_0), (.int .i64 u_1), (.int .i64 u_2)] [(.int .i64 n8), (.int .i64 n9), (.int .i64 n10)]))])
 else
 some (.inl [(.bool false)])
 ) fun ds45 =>
 (opB (A.cell ds45 0)).bind fun b46 =>
 bif b46 then
 (E.call 210 [(.d (.int .i64 1))]).bind fun p47 =>
 (opI (A.cell p47.leaves 0) .i64).bind fun n49 =>
 (opI (A.cell p47.leaves 1) .i64).bind fun n50 =>
 (opI (A.cell p47.leaves 2) .i64).bind fun n51 =>
 some (.val [(.int .i64 n49), (.int .i64 n50), (.int .i64 n51), (.bool true)])
 else
 cutO (
 bif (A.ile 8 op_) then
 some (.inl [(.bool (A.ile op_ 10))])
 else
 some (.inl [(.bool false)])
 ) fun ds52 =>
 (opB (A.cell ds52 0)).bind fun b53 =>
 cutO (
 bif b53 then
 some (.inl [(.bool false)])
 else
 some (.inl [(.bool false)])
 ) fun ds54 =>
 (opB (A.cell ds54 0)).bind fun b55 =>
 cutO (
 bif b55 then
 some (.inl [(.bool true)])
 else
 bif (A.ile 13 op_) then
 bif (A.ile op_ 16) then
 some (.inl [(.bool (A.deq [(.int .i64 u_0), (.int .i64 u_1), (.int .i64 u_2)] [(.int .i64 n8), (.int .i64 n9), (.int .i64 n10)]))])
 else
 some (.inl [(.bool false)])
 else
 some (.inl [(.bool false)])
 ) fun ds56 =>
 (opB (A.cell ds56 0)).bind fun b57 =>
 cutO (
 bif b57 then
 some (.inl [(.bool true)])
 else
 bif (A.ieq op_ 11) then
 bif (A.deq [(.int .i64 t_0), (.int .i64 t_1), (.int .i64 t_2)] [(.int .i64 u_0), (.int .i64 u_1), (.int .i64 u_2)]) then
 some (.inl [(.bool (A.ieq t_2 0))])
 else
 some (.inl [(.bool false)])
 else
 bif (A.ieq op_ 12) then
 bif (A.deq [(.int .i64 t_0), (.int .i64 t_1), (.int .i64 t_2)] [(.int .i64 u_0), (.int .i64 u_1), (.int .i64 u_2)]) then
 some (.inl [(.bool (A.ieq t_2 0))])
 else
 some (.inl [(.bool false)])
 else
 some (.inl [(.bool false)])
 ) fun ds58 =>
 (opB (A.cell ds58 0)).bind fun b59 =>
 bif b59 then
 (E.call 210 [(.d (.int .i64 2))]).bind fun p60 =>
 (opI (A.cell p60.leaves 0) .i64).bind fun n62 =>
 (opI (A.cell p60.leaves 1) .i64).bind fun n63 =>
 (opI (A.cell p60.leaves 2) .i64).bind fun n64 =>
 some (.val [(.int .i64 n62), (.int .i64 n63), (.int .i64 n64), (.bool true)])
 else
 some (.val [(.int .i64 0), (.int .i64 0), (.int .i64 0), (.bool false)])
 else
 (E.call 210 [(.d (.int .i64 2))]).bind fun p65 =>
 (opI (A.cell p65.leaves 0) .i64).bind fun n67 =>
 (opI (A.cell p65.leaves 1) .i64).bind fun n68 =>
 (opI (A.cell p65.leaves 2) .i64).bind fun n69 =>
 bif (A.deq [(.int .i64 t_0), (.int .i64 t_1), (.int .i64 t_2)] [(.int .i64 n67), (.int .i64 n68), (.int .i64 n69)]) then
 (E.call 210 [(.d (.int .i64 2))]).bind fun p70 =>
 (opI (A.cell p70.leaves 0) .i64).bind fun n72 =>
 (opI (A.cell p70.leaves 1) .i64).bind fun n73 =>
 (opI (A.cell p70.leaves 2) .i64).bind fun n74 =>
 cutO (
 bif (A.ile 3 op_) then
 some (.inl [(.bool (A.ile op_ 7))])
 else
 some (.inl [(.bool false)])
 ) fun ds75 =>
 (opB (A.cell ds75 0)).bind fun b76 =>
 cutO (
 bif b76 then
 some (.inl [(.bool false)])
 else
 some (.inl [(.bool false)])
 ) fun ds77 =>
 (opB (A.cell ds77 0)).bind fun b78 =>
 bif b78 then
 (E.call 210 [(.d (.int .i64 1))]).bind fun p79 =>
 (opI (A.cell p79.leaves 0) .i64).bind fun n81 =>
 (opI (A.cell p79.leaves 1) .i64).bind fun n82 =>
 (opI (A.cell p79.leaves 2) .i64).bind fun n83 =>
 some (.val [(.int .i64 n81), (.int .i64 n82), (.int .i64 n83), (.bool true)])
 else
 cutO (
 bif (A.ile 8 op_) then
 some (.inl [(.bool (A.ile op_ 10))])
 else
 some (.inl [(.bool false)])
 ) fun ds84 =>
 (opB (A.cell ds84 0)).bind fun b85 =>
 cutO (
 bif b85 then
 some (.inl [(.bool (A.deq [(.int .i64 u_0), (.int .i64 u_1), (.int .i64 u_2)] [(.int .i64 n72), (.int .i64 n73), (.int .i64 n74)]))])
 else
 some (.inl [(.bool false)])
 ) fun ds86 =>
 (opB (A.cell ds86 0)).bind fun b87 =>
 cutO (
 bif b87 then
 some (.inl [(.bool true)])
 else
 bif (A.ile 13 op_) then
 bif (A.ile op_ 16) then
 some (.inl [(.bool false)])
 else
 some (.inl [(.bool false)])
 else
 some (.inl [(.bool false)])
 ) fun ds88 =>
 (opB (A.cell ds88 0)).bind fun b89 =>
 cutO (
 bif b89 then
 some (.inl [(.bool true)])
 else
 bif (A.ieq op_ 11) then
 bif (A.deq [(.int .i64 t_0), (.int .i64 t_1), (.int .i64 t_2)] [(.int .i64 u_0), (.int .i64 u_1), (.int .i64 u_2)]) then
 some (.inl [(.bool (A.ieq t_2 0))])
 else
 some (.inl [(.bool false)])
 else
 bif (A.ieq op_ 12) then
 bif (A.deq [(.int .i64 t_0), (.int .i64 t_1), (.int .i64 t_2)] [(.int .i64 u_0), (.int .i64 u_1), (.int .i64 u_2)]) then
 some (.inl [(.bool (A.ieq t_2 0))])
 else
 some (.inl [(.bool false)])
 else
 some (.inl [(.bool false)])
 ) fun ds90 =>
 (opB (A.cell ds90 0)).bind fun b91 =>
 bif b91 then
 (E.call 210 [(.d (.int .i64 2))]).bind fun p92 =>
 (opI (A.cell p92.leaves 0) .i64).bind fun n94 =>
 (opI (A.cell p92.leaves 1) .i64).bind fun n95 =>
 (opI (A.cell p92.leaves 2) .i64).bind fun n96 =>
 some (.val [(.int .i64 n94), (.int .i64 n95), (.int .i64 n96), (.bool true)])
 else
 some (.val [(.int .i64 0), (.int .i64 0), (.int .i64 0), (.bool false)])
 else
 cutO (
 bif (A.ile 3 op_) then
 some (.inl [(.bool (A.ile op_ 7))])
 else
 some (.inl [(.bool false)])
 ) fun ds97 =>
 (opB (A.cell ds97 0)).bind fun b98 =>
 cutO (
 bif b98 then
 some (.inl [(.bool false)])
 else
 some (.inl [(.bool false)])
 ) fun ds99 =>
 (opB (A.cell ds99 0)).bind fun b100 =>
 bif b100 then
 (E.call 210 [(.d (.int .i64 1))]).bind fun p101 =>
 (opI (A.cell p101.leaves 0) .i64).bind fun n103 =>
 (opI (A.cell p101.leaves 1) .i64).bind fun n104 =>
 (opI (A.cell p101.leaves 2) .i64).bind fun n105 =>
 some (.val [(.int .i64 n103), (.int .i64 n104), (.int .i64 n105), (.bool true)])
 else
 cutO (
 bif (A.ile 8 op_) then
 some (.inl [(.bool (A.ile op_ 10))])
 else
 some (.inl [(.bool false)])
 ) fun ds106 =>
 (opB (A.cell ds106 0)).bind fun b107 =>
 cutO (
 bif b107 then
 some (.inl [(.bool false)])
 else
 some (.inl [(.bool false)])
 ) fun ds108 =>
 (opB (A.cell ds108 0)).bind fun b109 =>
 cutO (
 bif b109 then
 some (.inl [(.bool true)])
 else
 bif (A.ile 13 op_) then
 bif (A.ile op_ 16) then
 some (.inl [(.bool false)])
 else
 some (.inl [(.bool false)])
 else
 some (.inl [(.bool false)])
 ) fun ds110 =>
 (opB (A.cell ds110 0)).bind fun b111 =>
 cutO (
 bif b111 then
 some (.inl [(.bool true)])
 else
 bif (A.ieq op_ 11) then
 bif (A.deq [(.int .i64 t_0), (.int .i64 t_1), (.int .i64 t_2)] [(.int .i64 u_0), (.int .i64 u_1), (.int .i64 u_2)]) then
 some (.inl [(.bool (A.ieq t_2 0))])
 else
 some (.inl [(.bool false)])
 else
 bif (A.ieq op_ 12) then
 bif (A.deq [(.int .i64 t_0), (.int .i64 t_1), (.int .i64 t_2)] [(.int .i64 u_0), (.int .i64 u_1), (.int .i64 u_2)]) then
 some (.inl [(.bool (A.ieq t_2 0))])
 else
 some (.inl [(.bool false)])
 else
 some (.inl [(.bool false)])
 ) fun ds112 =>
 (opB (A.cell ds112 0)).bind fun b113 =>
 bif b113 then
 (E.call 210 [(.d (.int .i64 2))]).bind fun p114 =>
 (opI (A.cell p114.leaves 0) .i64).bind fun n116 =>
 (opI (A.cell p114.leaves 1) .i64).bind fun n117 =>
 (opI (A.cell p114.leaves 2) .i64).bind fun n118 =>
 some (.val [(.int .i64 n116), (.int .i64 n117), (.int .i64 n118), (.bool true)])
 else
 some (.val [(.int .i64 0), (.int .i64 0), (.int .i64 0), (.bool false)])
theorem g156_eq (A : Sy) (E : Env) (op_ : Int) (t_0 : Int) (t_1 : Int) (t_2 : Int) (u_0 : Int) (u_1 : Int) (u_2 : Int) : (funT A Tryz.prog cs 156 [V.d (.int .i64 op_), V.agg [V.d (.int .i64 t_0), V.d (.int .i64 t_1), V.d (.int .i64 t_2)], V.agg [V.d (.int .i64 u_0), V.d (.int .i64 u_1), V.d (.int .i64 u_2)]]).run E = g156 A E op_ t_0 t_1 t_2 u_0 u_1 u_2 := by kernel_rfl
def g210 (A : Sy) (E : Env) (kind_ : Int) : Option PRes :=
 some (.val [(.int .i64 kind_), (.int .i64 0), (.int .i64 0)])
theorem g210_eq (A : Sy) (E : Env) (kind_ : Int) : (funT A Tryz.prog cs 210 [V.d (.int .i64 kind_)]).run E = g210 A E kind_ := by kernel_rfl
end Go.Vm
end
