/-
  Part G of the proof. What is proved by the whole: the statement that the claim names, with no condition. This part: lemmas.
-/
import Derived.Test.YtmmcmfcnpfbifaaGreatDoorSF
set_option linter.unusedSimpArgs false
set_option linter.unusedVariables false

section
set_option maxRecDepth 1000000
set_option maxHeartbeats 0
namespace Go.Vm
open Go.Proofs
def g4 (A : Sy) (E : Env) (x_0 : List (List D)) (x_1 : List (List D)) (x_2 : List (List D)) (x_3 : List (List D)) (x_4 : List (List D)) (x_5 : List (List D)) : Option PRes :=
 (E.call 16 [(.agg [(.d (.sl 2 x_0)), (.d (.sl 4 x_1)), (.d (.sl 4 x_2)), (.d (.sl 6 x_3)), (.d (.sl 1 x_4)), (.d (.sl 4 x_5))])]).bind fun p1 =>
 (opB (A.cell p1.leaves 0)).bind fun b3 =>
 bif (A.bnot b3) then
 (E.call 17 []).bind fun p4 =>
 (opB (A.cell p4.leaves 0)).bind fun b6 =>
 some (.val [(.bool b6)])
 else
 (E.call 18 [(.agg [(.d (.sl 2 x_0)), (.d (.sl 4 x_1)), (.d (.sl 4 x_2)), (.d (.sl 6 x_3)), (.d (.sl 1 x_4)), (.d (.sl 4 x_5))])]).bind fun p7 =>
 (opI (A.cell p7.leaves 0) .i64).bind fun n9 =>
 (opI (A.cell p7.leaves 1) .i64).bind fun n10 =>
 (E.call 19 [(.agg [(.d (.sl 2 x_0)), (.d (.sl 4 x_1)), (.d (.sl 4 x_2)), (.d (.sl 6 x_3)), (.d (.sl 1 x_4)), (.d (.sl 4 x_5))])]).bind fun p11 =>
 (opI (A.cell p11.leaves 0) .i64).bind fun n13 =>
 (opI (A.cell p11.leaves 1) .i64).bind fun n14 =>
 bif (A.ieq n9 n13) then
 (E.call 20 [(.d (.int .i64 n10))]).bind fun p15 =>
 (opI (A.cell p15.leaves 0) .i64).bind fun n17 =>
 bif (A.ieq n17 n14) then
 (E.call 21 [(.agg [(.d (.sl 2 x_0)), (.d (.sl 4 x_1)), (.d (.sl 4 x_2)), (.d (.sl 6 x_3)), (.d (.sl 1 x_4)), (.d (.sl 4 x_5))])]).bind fun p18 =>
 (opB (A.cell p18.leaves 0)).bind fun b20 =>
 (E.call 22 [(.agg [(.d (.sl 2 x_0)), (.d (.sl 4 x_1)), (.d (.sl 4 x_2)), (.d (.sl 6 x_3)), (.d (.sl 1 x_4)), (.d (.sl 4 x_5))])]).bind fun p21 =>
 (opB (A.cell p21.leaves 0)).bind fun b23 =>
 bif (A.beq b20 b23) then
 (E.call 17 []).bind fun p24 =>
 (opB (A.cell p24.leaves 0)).bind fun b26 =>
 some (.val [(.bool b26)])
 else
 some (.val [(.bool false)])
 else
 some (.val [(.bool false)])
 else
 some (.val [(.bool false)])
theorem g4_eq (A : Sy) (E : Env) (x_0 : List (List D)) (x_1 : List (List D)) (x_2 : List (List D)) (x_3 : List (List D)) (x_4 : List (List D)) (x_5 : List (List D)) : (funT A Tryz.prog cs 4 [V.agg [V.d (.sl 2 x_0), V.d (.sl 4 x_1), V.d (.sl 4 x_2), V.d (.sl 6 x_3), V.d (.sl 1 x_4), V.d (.sl 4 x_5)]]).run E = g4 A E x_0 x_1 x_2 x_3 x_4 x_5 := by kernel_rfl
def g5 (A : Sy) (E : Env) (x_0 : List (List D)) (x_1 : List (List D)) (x_2 : List (List D)) (x_3 : List (List D)) (x_4 : List (List D)) (x_5 : List (List D)) (cells_ : List (List D)) : Option PRes :=
 (E.call 16 [(.agg [(.d (.sl 2 x_0)), (.d (.sl 4 x_1)), (.d (.sl 4 x_2)), (.d (.sl 6 x_3)), (.d (.sl 1 x_4)), (.d (.sl 4 x_5))])]).bind fun p1 =>
 (opB (A.cell p1.leaves 0)).bind fun b3 =>
 cutO (
 bif (A.bnot b3) then
 some (.inl [(.bool true)])
 else
 some (.inl [(.bool (A.ilt 1100 (A.rlen cells_)))])
 ) fun ds4 =>
 (opB (A.cell ds4 0)).bind fun b5 =>
 bif b5 then
 (E.call 17 []).bind fun p6 =>
 (opB (A.cell p6.leaves 0)).bind fun b8 =>
 some (.val [(.bool b8)])
 else
 (E.call 18 [(.agg [(.d (.sl 2 x_0)), (.d (.sl 4 x_1)), (.d (.sl 4 x_2)), (.d (.sl 6 x_3)), (.d (.sl 1 x_4)), (.d (.sl 4 x_5))])]).bind fun p9 =>
 (opI (A.cell p9.leaves 0) .i64).bind fun n11 =>
 (opI (A.cell p9.leaves 1) .i64).bind fun n12 =>
 (E.call 20 [(.d (.int .i64 n12))]).bind fun p13 =>
 (opI (A.cell p13.leaves 0) .i64).bind fun n15 =>
 bif (A.bnot (A.ieq n15 0)) then
 (E.call 17 []).bind fun p16 =>
 (opB (A.cell p16.leaves 0)).bind fun b18 =>
 some (.val [(.bool b18)])
 else
 (E.call 24 [(.agg [(.d (.sl 2 x_0)), (.d (.sl 4 x_1)), (.d (.sl 4 x_2)), (.d (.sl 6 x_3)), (.d (.sl 1 x_4)), (.d (.sl 4 x_5))])]).bind fun p19 =>
 (opL (A.cell p19.leaves 0) 1).bind fun l21 =>
 (opL (A.cell p19.leaves 1) 1).bind fun l22 =>
 (opI (A.cell p19.leaves 2) .i64).bind fun n23 =>
 (opI (A.cell p19.leaves 3) .i64).bind fun n24 =>
 (E.call 23 [(.agg [(.d (.sl 1 l21)), (.d (.sl 1 l22)), (.d (.int .i64 n23)), (.d (.int .i64 n24))]), (.d (.sl 1 cells_))]).bind fun p25 =>
 (opB (A.cell p25.leaves 0)).bind fun b27 =>
 bif (A.bnot b27) then
 (E.call 17 []).bind fun p28 =>
 (opB (A.cell p28.leaves 0)).bind fun b30 =>
 some (.val [(.bool b30)])
 else
 (E.call 25 [(.d (.sl 4 x_5)), (.d (.sl 1 cells_)), (.d (.int .i64 n11))]).bind fun p31 =>
 (opL (A.cell p31.leaves 0) 1).bind fun l33 =>
 (opI (A.cell p31.leaves 1) .i64).bind fun n34 =>
 (opI (A.cell p31.leaves 2) .i64).bind fun n35 =>
 cutO (
 bif (A.ile n34 n11) then
 some (.inl [(.bool (A.bnot (A.ieq n35 17)))])
 else
 some (.inl [(.bool false)])
 ) fun ds36 =>
 (opB (A.cell ds36 0)).bind fun b37 =>
 cutO (
 bif b37 then
 some (.inl [(.bool (A.bnot (A.ieq n35 13)))])
 else
 some (.inl [(.bool false)])
 ) fun ds38 =>
 (opB (A.cell ds38 0)).bind fun b39 =>
 cutO (
 bif b39 then
 (E.call 17 []).bind fun p40 =>
 (opB (A.cell p40.leaves 0)).bind fun b42 =>
 some (.inl [(.bool b42)])
 else
 some (.inl [(.bool false)])
 ) fun ds43 =>
 (opB (A.cell ds43 0)).bind fun b44 =>
 some (.val [(.bool b44)])
theorem g5_eq (A : Sy) (E : Env) (x_0 : List (List D)) (x_1 : List (List D)) (x_2 : List (List D)) (x_3 : List (List D)) (x_4 : List (List D)) (x_5 : List (List D)) (cells_ : List (List D)) : (funT A Tryz.prog cs 5 [V.agg [V.d (.sl 2 x_0), V.d (.sl 4 x_1), V.d (.sl 4 x_2), V.d (.sl 6 x_3), V.d (.sl 1 x_4), V.d (.sl 4 x_5)], V.d (.sl 1 cells_)]).run E = g5 A E x_0 x_1 x_2 x_3 x_4 x_5 cells_ := by kernel_rfl
def g17 (A : Sy) (E : Env) : Option PRes :=
 (E.call 18 [(.agg [(.d (.sl 2 [])), (.d (.sl 4 [])), (.d (.sl 4 [])), (.d (.sl 6 [])), (.d (.sl 1 [])), (.d (.sl 4 []))])]).bind fun p1 =>
 (opI (A.cell p1.leaves 0) .i64).bind fun n3 =>
 (opI (A.cell p1.leaves 1) .i64).bind fun n4 =>
 cutO (
 bif (A.ieq n3 0) then
 (E.call 20 [(.d (.int .i64 n4))]).bind fun p5 =>
 (opI (A.cell p5.leaves 0) .i64).bind fun n7 =>
 some (.inl [(.bool (A.ieq n7 11))])
 else
 some (.inl [(.bool false)])
 ) fun ds8 =>
 (opB (A.cell ds8 0)).bind fun b9 =>
 some (.val [(.bool b9)])
theorem g17_eq (A : Sy) (E : Env) : (funT A Tryz.prog cs 17 []).run E = g17 A E  := by kernel_rfl
def g20 (A : Sy) (E : Env) (e_ : Int) : Option PRes :=
 some (.val [(.int .i64 e_)])
theorem g20_eq (A : Sy) (E : Env) (e_ : Int) : (funT A Tryz.prog cs 20 [V.d (.int .i64 e_)]).run E = g20 A E e_ := by kernel_rfl
def g16 (A : Sy) (E : Env) (x_0 : List (List D)) (x_1 : List (List D)) (x_2 : List (List D)) (x_3 : List (List D)) (x_4 : List (List D)) (x_5 : List (List D)) : Option PRes :=
 (E.call 43 [(.d (.sl 2 x_0))]).bind fun p1 =>
 (opB (A.cell p1.leaves 0)).bind fun b3 =>
 cutO (
 bif (A.bnot b3) then
 some (.inl [(.bool true)])
 else
 some (.inl [(.bool (A.ilt 50 (A.wrap .i64 (A.add (A.rlen x_1) (A.rlen x_2)))))])
 ) fun ds4 =>
 (opB (A.cell ds4 0)).bind fun b5 =>
 cutO (
 bif b5 then
 some (.inl [(.bool true)])
 else
 some (.inl [(.bool (A.ilt 150 (A.rlen x_3)))])
 ) fun ds6 =>
 (opB (A.cell ds6 0)).bind fun b7 =>
 cutO (
 bif b7 then
 some (.inl [(.bool true)])
 else
 some (.inl [(.bool (A.ilt 1100 (A.rlen x_4)))])
 ) fun ds8 =>
 (opB (A.cell ds8 0)).bind fun b9 =>
 cutO (
 bif b9 then
 some (.inl [(.bool true)])
 else
 some (.inl [(.bool (A.ilt 800 (A.rlen x_5)))])
 ) fun ds10 =>
 (opB (A.cell ds10 0)).bind fun b11 =>
 bif b11 then
 some (.val [(.bool false)])
 else
 bif (A.fits [] x_1 40) then
 bif (A.fits (A.rapp [] x_1) x_2 40) then
 E.lp (fun ds12 =>
 (opI (A.cell ds12 0) .i64).bind fun n13 =>
 (opL (A.cell ds12 1) 2).bind fun l14 =>
 (opL (A.cell ds12 2) 4).bind fun l15 =>
 (opL (A.cell ds12 3) 4).bind fun l16 =>
 (opL (A.cell ds12 4) 6).bind fun l17 =>
 (opL (A.cell ds12 5) 1).bind fun l18 =>
 (opL (A.cell ds12 6) 4).bind fun l19 =>
 (opL (A.cell ds12 7) 4).bind fun l20 =>
 bif (A.ilt n13 (A.rlen l20)) then
 bif (A.inr n13 (A.rlen l20)) then
 (opS (A.cell (A.rown l20 (A.nat n13)) 0)).bind fun s21 =>
 bif (A.ilt 200 (A.slen s21)) then
 some (.inr (.val [(.bool false)]))
 else
 some (.inl [(.int .i64 (A.wrap .i64 (A.add n13 1))), (.sl 2 l14), (.sl 4 l15), (.sl 4 l16), (.sl 6 l17), (.sl 1 l18), (.sl 4 l19), (.sl 4 l20)])
 else
 none
 else
 E.lp (fun ds22 =>
 (opI (A.cell ds22 0) .i64).bind fun n23 =>
 (opL (A.cell ds22 1) 2).bind fun l24 =>
 (opL (A.cell ds22 2) 4).bind fun l25 =>
 (opL (A.cell ds22 3) 4).bind fun l26 =>
 (opL (A.cell ds22 4) 6).bind fun l27 =>
 (opL (A.cell ds22 5) 1).bind fun l28 =>
 (opL (A.cell ds22 6) 4).bind fun l29 =>
 bif (A.ilt n23 (A.rlen l27)) then
 bif (A.inr n23 (A.rlen l27)) then
 (opS (A.cell (A.row l27 n23) 0)).bind fun s30 =>
 cutO (
 bif (A.ilt 300 (A.slen s30)) then
 some (.inl [(.bool true)])
 else
 bif (A.inr n23 (A.rlen l27)) then
 (opL (A.cell (A.skip 5 (A.row l27 n23)) 0) 1).bind fun l31 =>
 some (.inl [(.bool (A.ilt 300 (A.rlen l31)))])
 else
 none
 ) fun ds32 =>
 (opB (A.cell ds32 0)).bind fun b33 =>
 bif b33 then
 some (.inr (.inr (.val [(.bool false)])))
 else
 some (.inl [(.int .i64 (A.wrap .i64 (A.add n23 1))), (.sl 2 l24), (.sl 4 l25), (.sl 4 l26), (.sl 6 l27), (.sl 1 l28), (.sl 4 l29)])
 else
 none
 else
 some (.inr (.inr (.val [(.bool true)])))
 ) [(.int .i64 0), (.sl 2 l14), (.sl 4 l15), (.sl 4 l16), (.sl 6 l17), (.sl 1 l18), (.sl 4 l19)]
 ) [(.int .i64 0), (.sl 2 x_0), (.sl 4 x_1), (.sl 4 x_2), (.sl 6 x_3), (.sl 1 x_4), (.sl 4 x_5), (.sl 4 (A.rapp (A.rapp [] x_1) x_2))]
 else
 none
 else
 none
theorem g16_eq (A : Sy) (E : Env) (x_0 : List (List D)) (x_1 : List (List D)) (x_2 : List (List D)) (x_3 : List (List D)) (x_4 : List (List D)) (x_5 : List (List D)) : (funT A Tryz.prog cs 16 [V.agg [V.d (.sl 2 x_0), V.d (.sl 4 x_1), V.d (.sl 4 x_2), V.d (.sl 6 x_3), V.d (.sl 1 x_4), V.d (.sl 4 x_5)]]).run E = g16 A E x_0 x_1 x_2 x_3 x_4 x_5 := by kernel_rfl
def g18 (A : Sy) (E : Env) (x_0 : List (List D)) (x_1 : List (List D)) (x_2 : List (List D)) (x_3 : List (List D)) (x_4 : List (List D)) (x_5 : List (List D)) : Option PRes :=
 (E.call 21 [(.agg [(.d (.sl 2 x_0)), (.d (.sl 4 x_1)), (.d (.sl 4 x_2)), (.d (.sl 6 x_3)), (.d (.sl 1 x_4)), (.d (.sl 4 x_5))])]).bind fun p1 =>
 (opB (A.cell p1.leaves 0)).bind fun b3 =>
 bif (A.bnot b3) then
 some (.val [(.int .i64 0), (.int .i64 11)])
 else
 (E.call 45 [(.agg [(.d (.sl 2 x_0)), (.d (.sl 4 x_1)), (.d (.sl 4 x_2)), (.d (.sl 6 x_3)), (.d (.sl 1 x_4)), (.d (.sl 4 x_5))])]).bind fun p4 =>
 (opL (A.cell p4.leaves 0) 1).bind fun l6 =>
 (opL (A.cell p4.leaves 1) 1).bind fun l7 =>
 (opI (A.cell p4.leaves 2) .i64).bind fun n8 =>
 (opI (A.cell p4.leaves 3) .i64).bind fun n9 =>
 (E.call 44 [(.agg [(.d (.sl 1 l6)), (.d (.sl 1 l7)), (.d (.int .i64 n8)), (.d (.int .i64 n9))]), (.d (.sl 4 x_5))]).bind fun p10 =>
 (opI (A.cell p10.leaves 0) .i64).bind fun n12 =>
 (opB (A.cell p10.leaves 1)).bind fun b13 =>
 bif (A.bnot b13) then
 some (.val [(.int .i64 n12), (.int .i64 13)])
 else
 some (.val [(.int .i64 n12), (.int .i64 0)])
theorem g18_eq (A : Sy) (E : Env) (x_0 : List (List D)) (x_1 : List (List D)) (x_2 : List (List D)) (x_3 : List (List D)) (x_4 : List (List D)) (x_5 : List (List D)) : (funT A Tryz.prog cs 18 [V.agg [V.d (.sl 2 x_0), V.d (.sl 4 x_1), V.d (.sl 4 x_2), V.d (.sl 6 x_3), V.d (.sl 1 x_4), V.d (.sl 4 x_5)]]).run E = g18 A E x_0 x_1 x_2 x_3 x_4 x_5 := by kernel_rfl
def g21 (A : Sy) (E : Env) (x_0 : List (List D)) (x_1 : List (List D)) (x_2 : List (List D)) (x_3 : List (List D)) (x_4 : List (List D)) (x_5 : List (List D)) : Option PRes :=
 (E.call 47 [(.d (.sl 2 x_0))]).bind fun p1 =>
 (opI (A.cell p1.leaves 0) .i64).bind fun n3 =>
 bif (A.bnot (A.ieq n3 0)) then
 some (.val [(.bool false)])
 else
 (E.call 48 [(.agg [(.d (.sl 2 x_0)), (.d (.sl 4 x_1)), (.d (.sl 4 x_2)), (.d (.sl 6 x_3)), (.d (.sl 1 x_4)), (.d (.sl 4 x_5))])]).bind fun p4 =>
 (opB (A.cell p4.leaves 0)).bind fun b6 =>
 cutO (
 bif b6 then
 (E.call 14 [(.d (.sl 2 x_0)), (.d (.sl 6 x_3))]).bind fun p7 =>
 (opB (A.cell p7.leaves 0)).bind fun b9 =>
 some (.inl [(.bool b9)])
 else
 some (.inl [(.bool false)])
 ) fun ds10 =>
 (opB (A.cell ds10 0)).bind fun b11 =>
 bif b11 then
 (E.call 45 [(.agg [(.d (.sl 2 x_0)), (.d (.sl 4 x_1)), (.d (.sl 4 x_2)), (.d (.sl 6 x_3)), (.d (.sl 1 x_4)), (.d (.sl 4 x_5))])]).bind fun p12 =>
 (opL (A.cell p12.leaves 0) 1).bind fun l14 =>
 (opL (A.cell p12.leaves 1) 1).bind fun l15 =>
 (opI (A.cell p12.leaves 2) .i64).bind fun n16 =>
 (opI (A.cell p12.leaves 3) .i64).bind fun n17 =>
 (E.call 49 [(.agg [(.d (.sl 1 l14)), (.d (.sl 1 l15)), (.d (.int .i64 n16)), (.d (.int .i64 n17))])]).bind fun p18 =>
 (opB (A.cell p18.leaves 0)).bind fun b20 =>
 some (.val [(.bool b20)])
 else
 some (.val [(.bool false)])
theorem g21_eq (A : Sy) (E : Env) (x_0 : List (List D)) (x_1 : List (List D)) (x_2 : List (List D)) (x_3 : List (List D)) (x_4 : List (List D)) (x_5 : List (List D)) : (funT A Tryz.prog cs 21 [V.agg [V.d (.sl 2 x_0), V.d (.sl 4 x_1), V.d (.sl 4 x_2), V.d (.sl 6 x_3), V.d (.sl 1 x_4), V.d (.sl 4 x_5)]]).run E = g21 A E x_0 x_1 x_2 x_3 x_4 x_5 := by kernel_rfl
def g48 (A : Sy) (E : Env) (x_0 : List (List D)) (x_1 : List (List D)) (x_2 : List (List D)) (x_3 : List (List D)) (x_4 : List (List D)) (x_5 : List (List D)) : Option PRes :=
 (E.call 98 [(.d (.sl 1 [[(.sl 4 x_1)], [(.sl 4 x_2)]]))]).bind fun p1 =>
 (opL (A.cell p1.leaves 0) 4).bind fun l3 =>
 E.lp (fun ds4 =>
 (opL (A.cell ds4 0) 4).bind fun l5 =>
 (opI (A.cell ds4 1) .i64).bind fun n6 =>
 (opI (A.cell ds4 2) .i64).bind fun n7 =>
 (opL (A.cell ds4 3) 2).bind fun l8 =>
 (opL (A.cell ds4 4) 4).bind fun l9 =>
 (opL (A.cell ds4 5) 4).bind fun l10 =>
 (opL (A.cell ds4 6) 6).bind fun l11 =>
 (opL (A.cell ds4 7) 1).bind fun l12 =>
 (opL (A.cell ds4 8) 4).bind fun l13 =>
 (opL (A.cell ds4 9) 1).bind fun l14 =>
 bif (A.ilt n7 n6) then
 bif (A.inr n7 (A.rlen l5)) then
 (opS (A.cell (A.row l5 n7) 0)).bind fun s15 =>
 (opI (A.cell (A.row l5 n7) 1) .i64).bind fun n16 =>
 (opI (A.cell (A.row l5 n7) 2) .i64).bind fun n17 =>
 (opI (A.cell (A.row l5 n7) 3) .i64).bind fun n18 =>
 (E.call 95 [(.d (.str s15))]).bind fun p19 =>
 (opB (A.cell p19.leaves 0)).bind fun b21 =>
 (E.call 83 [(.d (.sl 2 l8)), (.agg [(.d (.int .i64 n16)), (.d (.int .i64 n17)), (.d (.int .i64 n18))])]).bind fun p22 =>
 (opB (A.cell p22.leaves 0)).bind fun b24 =>
 (E.call 99 [(.d (.sl 1 [[(.bool b21)], [(.bool b24)]]))]).bind fun p25 =>
 (opB (A.cell p25.leaves 0)).bind fun b27 =>
 bif (A.bnot b27) then
 some (.inr (.val [(.bool false)]))
 else
 bif (A.fits l14 [[(.str s15)]] 16) then
 some (.inl [(.sl 4 l5), (.int .i64 n6), (.int .i64 (A.wrap .i64 (A.add n7 1))), (.sl 2 l8), (.sl 4 l9), (.sl 4 l10), (.sl 6 l11), (.sl 1 l12), (.sl 4 l13), (.sl 1 (A.rapp l14 [[(.str s15)]]))])
 else
 none
 else
 none
 else
 (E.call 99 [(.d (.sl 1 [[(.bool (A.ile (A.rlen l9) 6))], [(.bool (A.ile 1 (A.rlen l10)))], [(.bool (A.ile (A.rlen l10) 6))]]))]).bind fun p28 =>
 (opB (A.cell p28.leaves 0)).bind fun b30 =>
 cutO (
 bif b30 then
 (E.call 40 [(.d (.sl 1 l14))]).bind fun p31 =>
 (opB (A.cell p31.leaves 0)).bind fun b33 =>
 some (.inl [(.bool b33)])
 else
 some (.inl [(.bool false)])
 ) fun ds34 =>
 (opB (A.cell ds34 0)).bind fun b35 =>
 some (.inr (.val [(.bool b35)]))
 ) [(.sl 4 l3), (.int .i64 (A.rlen l3)), (.int .i64 0), (.sl 2 x_0), (.sl 4 x_1), (.sl 4 x_2), (.sl 6 x_3), (.sl 1 x_4), (.sl 4 x_5), (.sl 1 [])]
theorem g48_eq (A : Sy) (E : Env) (x_0 : List (List D)) (x_1 : List (List D)) (x_2 : List (List D)) (x_3 : List (List D)) (x_4 : List (List D)) (x_5 : List (List D)) : (funT A Tryz.prog cs 48 [V.agg [V.d (.sl 2 x_0), V.d (.sl 4 x_1), V.d (.sl 4 x_2), V.d (.sl 6 x_3), V.d (.sl 1 x_4), V.d (.sl 4 x_5)]]).run E = g48 A E x_0 x_1 x_2 x_3 x_4 x_5 := by kernel_rfl
def g99 (A : Sy) (E : Env) (l_ : List (List D)) : Option PRes :=
 (E.call 166 [(.d (.sl 1 l_)), (.d (.bool false))]).bind fun p1 =>
 (opB (A.cell p1.leaves 0)).bind fun b3 =>
 some (.val [(.bool (A.bnot b3))])
theorem g99_eq (A : Sy) (E : Env) (l_ : List (List D)) : (funT A Tryz.prog cs 99 [V.d (.sl 1 l_)]).run E = g99 A E l_ := by kernel_rfl
def g19 (A : Sy) (E : Env) (x_0 : List (List D)) (x_1 : List (List D)) (x_2 : List (List D)) (x_3 : List (List D)) (x_4 : List (List D)) (x_5 : List (List D)) : Option PRes :=
 (E.call 22 [(.agg [(.d (.sl 2 x_0)), (.d (.sl 4 x_1)), (.d (.sl 4 x_2)), (.d (.sl 6 x_3)), (.d (.sl 1 x_4)), (.d (.sl 4 x_5))])]).bind fun p1 =>
 (opB (A.cell p1.leaves 0)).bind fun b3 =>
 bif (A.bnot b3) then
 some (.val [(.int .i64 0), (.int .i64 11)])
 else
 (E.call 24 [(.agg [(.d (.sl 2 x_0)), (.d (.sl 4 x_1)), (.d (.sl 4 x_2)), (.d (.sl 6 x_3)), (.d (.sl 1 x_4)), (.d (.sl 4 x_5))])]).bind fun p4 =>
 (opL (A.cell p4.leaves 0) 1).bind fun l6 =>
 (opL (A.cell p4.leaves 1) 1).bind fun l7 =>
 (opI (A.cell p4.leaves 2) .i64).bind fun n8 =>
 (opI (A.cell p4.leaves 3) .i64).bind fun n9 =>
 (E.call 46 [(.agg [(.d (.sl 1 l6)), (.d (.sl 1 l7)), (.d (.int .i64 n8)), (.d (.int .i64 n9))]), (.d (.sl 4 x_5))]).bind fun p10 =>
 (opI (A.cell p10.leaves 0) .i64).bind fun n12 =>
 (opB (A.cell p10.leaves 1)).bind fun b13 =>
 bif (A.bnot b13) then
 some (.val [(.int .i64 n12), (.int .i64 13)])
 else
 some (.val [(.int .i64 n12), (.int .i64 0)])
theorem g19_eq (A : Sy) (E : Env) (x_0 : List (List D)) (x_1 : List (List D)) (x_2 : List (List D)) (x_3 : List (List D)) (x_4 : List (List D)) (x_5 : List (List D)) : (funT A Tryz.prog cs 19 [V.agg [V.d (.sl 2 x_0), V.d (.sl 4 x_1), V.d (.sl 4 x_2), V.d (.sl 6 x_3), V.d (.sl 1 x_4), V.d (.sl 4 x_5)]]).run E = g19 A E x_0 x_1 x_2 x_3 x_4 x_5 := by kernel_rfl
def g22 (A : Sy) (E : Env) (x_0 : List (List D)) (x_1 : List (List D)) (x_2 : List (List D)) (x_3 : List (List D)) (x_4 : List (List D)) (x_5 : List (List D)) : Option PRes :=
 (E.call 50 [(.d (.sl 2 x_0))]).bind fun p1 =>
 (opI (A.cell p1.leaves 0) .i64).bind fun n3 =>
 cutO (
 bif (A.bnot (A.ieq n3 0)) then
 some (.inl [(.bool true)])
 else
 some (.inl [(.bool (A.ilt 6 (A.rlen x_1)))])
 ) fun ds4 =>
 (opB (A.cell ds4 0)).bind fun b5 =>
 cutO (
 bif b5 then
 some (.inl [(.bool true)])
 else
 some (.inl [(.bool (A.ilt (A.rlen x_2) 1))])
 ) fun ds6 =>
 (opB (A.cell ds6 0)).bind fun b7 =>
 cutO (
 bif b7 then
 some (.inl [(.bool true)])
 else
 some (.inl [(.bool (A.ilt 6 (A.rlen x_2)))])
 ) fun ds8 =>
 (opB (A.cell ds8 0)).bind fun b9 =>
 cutO (
 bif b9 then
 some (.inl [(.bool true)])
 else
 (E.call 51 [(.d (.sl 2 x_0)), (.d (.sl 6 x_3))]).bind fun p10 =>
 (opB (A.cell p10.leaves 0)).bind fun b12 =>
 some (.inl [(.bool (A.bnot b12))])
 ) fun ds13 =>
 (opB (A.cell ds13 0)).bind fun b14 =>
 bif b14 then
 some (.val [(.bool false)])
 else
 bif (A.fits [] x_1 40) then
 bif (A.fits (A.rapp [] x_1) x_2 40) then
 E.lp (fun ds15 =>
 (opI (A.cell ds15 0) .i64).bind fun n16 =>
 (opL (A.cell ds15 1) 2).bind fun l17 =>
 (opL (A.cell ds15 2) 4).bind fun l18 =>
 (opL (A.cell ds15 3) 4).bind fun l19 =>
 (opL (A.cell ds15 4) 6).bind fun l20 =>
 (opL (A.cell ds15 5) 1).bind fun l21 =>
 (opL (A.cell ds15 6) 4).bind fun l22 =>
 (opL (A.cell ds15 7) 4).bind fun l23 =>
 (opL (A.cell ds15 8) 1).bind fun l24 =>
 bif (A.ilt n16 (A.rlen l23)) then
 bif (A.inr n16 (A.rlen l23)) then
 (opS (A.cell (A.rown l23 (A.nat n16)) 0)).bind fun s25 =>
 (E.call 52 [(.d (.str s25))]).bind fun p26 =>
 (opB (A.cell p26.leaves 0)).bind fun b28 =>
 bif (A.bnot b28) then
 some (.inr (.val [(.bool false)]))
 else
 bif (A.inr n16 (A.rlen l23)) then
 bif (A.inrn (A.nat n16) l23) then
 (opI (A.cell (A.rown l23 (A.nat n16)) 1) .i64).bind fun n29 =>
 (opI (A.cell (A.rown l23 (A.nat n16)) 2) .i64).bind fun n30 =>
 (opI (A.cell (A.rown l23 (A.nat n16)) 3) .i64).bind fun n31 =>
 (E.call 53 [(.d (.sl 2 l17)), (.agg [(.d (.int .i64 n29)), (.d (.int .i64 n30)), (.d (.int .i64 n31))])]).bind fun p32 =>
 (opB (A.cell p32.leaves 0)).bind fun b34 =>
 bif (A.bnot b34) then
 some (.inr (.val [(.bool false)]))
 else
 bif (A.inr n16 (A.rlen l23)) then
 (opS (A.cell (A.rown l23 (A.nat n16)) 0)).bind fun s35 =>
 bif (A.fits l24 [[(.str s35)]] 16) then
 some (.inl [(.int .i64 (A.wrap .i64 (A.add n16 1))), (.sl 2 l17), (.sl 4 l18), (.sl 4 l19), (.sl 6 l20), (.sl 1 l21), (.sl 4 l22), (.sl 4 l23), (.sl 1 (A.rapp l24 [[(.str s35)]]))])
 else
 none
 else
 none
 else
 none
 else
 none
 else
 none
 else
 (E.call 54 [(.d (.sl 1 l24))]).bind fun p36 =>
 (opB (A.cell p36.leaves 0)).bind fun b38 =>
 bif b38 then
 (E.call 24 [(.agg [(.d (.sl 2 l17)), (.d (.sl 4 l18)), (.d (.sl 4 l19)), (.d (.sl 6 l20)), (.d (.sl 1 l21)), (.d (.sl 4 l22))])]).bind fun p39 =>
 (opL (A.cell p39.leaves 0) 1).bind fun l41 =>
 (opL (A.cell p39.leaves 1) 1).bind fun l42 =>
 (opI (A.cell p39.leaves 2) .i64).bind fun n43 =>
 (opI (A.cell p39.leaves 3) .i64).bind fun n44 =>
 (E.call 55 [(.agg [(.d (.sl 1 l41)), (.d (.sl 1 l42)), (.d (.int .i64 n43)), (.d (.int .i64 n44))])]).bind fun p45 =>
 (opB (A.cell p45.leaves 0)).bind fun b47 =>
 some (.inr (.val [(.bool b47)]))
 else
 some (.inr (.val [(.bool false)]))
 ) [(.int .i64 0), (.sl 2 x_0), (.sl 4 x_1), (.sl 4 x_2), (.sl 6 x_3), (.sl 1 x_4), (.sl 4 x_5), (.sl 4 (A.rapp (A.rapp [] x_1) x_2)), (.sl 1 [])]
 else
 none
 else
 none
theorem g22_eq (A : Sy) (E : Env) (x_0 : List (List D)) (x_1 : List (List D)) (x_2 : List (List D)) (x_3 : List (List D)) (x_4 : List (List D)) (x_5 : List (List D)) : (funT A Tryz.prog cs 22 [V.agg [V.d (.sl 2 x_0), V.d (.sl 4 x_1), V.d (.sl 4 x_2), V.d (.sl 6 x_3), V.d (.sl 1 x_4), V.d (.sl 4 x_5)]]).run E = g22 A E x_0 x_1 x_2 x_3 x_4 x_5 := by kernel_rfl
def g45 (A : Sy) (E : Env) (x_0 : List (List D)) (x_1 : List (List D)) (x_2 : List (List D)) (x_3 : List (List D)) (x_4 : List (List D)) (x_5 : List (List D)) : Option PRes :=
 E.lp (fun ds1 =>
 (opL (A.cell ds1 0) 2).bind fun l2 =>
 (opI (A.cell ds1 1) .i64).bind fun n3 =>
 (opI (A.cell ds1 2) .i64).bind fun n4 =>
 (opL (A.cell ds1 3) 2).bind fun l5 =>
 (opL (A.cell ds1 4) 4).bind fun l6 =>
 (opL (A.cell ds1 5) 4).bind fun l7 =>
 (opL (A.cell ds1 6) 6).bind fun l8 =>
 (opL (A.cell ds1 7) 1).bind fun l9 =>
 (opL (A.cell ds1 8) 4).bind fun l10 =>
 (opI (A.cell ds1 9) .i64).bind fun n11 =>
 (opI (A.cell ds1 10) .i64).bind fun n12 =>
 (opI (A.cell ds1 11) .i64).bind fun n13 =>
 (opI (A.cell ds1 12) .i64).bind fun n14 =>
 (opL (A.cell ds1 13) 1).bind fun l15 =>
 (opL (A.cell ds1 14) 1).bind fun l16 =>
 bif (A.ilt n4 n3) then
 bif (A.inr n4 (A.rlen l2)) then
 (opS (A.cell (A.row l2 n4) 0)).bind fun s17 =>
 (opL (A.cell (A.row l2 n4) 1) 1).bind fun l18 =>
 bif (A.fits l15 [[(.int .i64 (A.rlen l18))]] 8) then
 some (.inl [(.sl 2 l2), (.int .i64 n3), (.int .i64 (A.wrap .i64 (A.add n4 1))), (.sl 2 l5), (.sl 4 l6), (.sl 4 l7), (.sl 6 l8), (.sl 1 l9), (.sl 4 l10), (.int .i64 n11), (.int .i64 n12), (.int .i64 n13), (.int .i64 n14), (.sl 1 (A.rapp l15 [[(.int .i64 (A.rlen l18))]])), (.sl 1 l16)])
 else
 none
 else
 none
 else
 E.lp (fun ds19 =>
 (opL (A.cell ds19 0) 6).bind fun l20 =>
 (opI (A.cell ds19 1) .i64).bind fun n21 =>
 (opI (A.cell ds19 2) .i64).bind fun n22 =>
 (opL (A.cell ds19 3) 2).bind fun l23 =>
 (opL (A.cell ds19 4) 4).bind fun l24 =>
 (opL (A.cell ds19 5) 4).bind fun l25 =>
 (opL (A.cell ds19 6) 6).bind fun l26 =>
 (opL (A.cell ds19 7) 1).bind fun l27 =>
 (opL (A.cell ds19 8) 4).bind fun l28 =>
 (opI (A.cell ds19 9) .i64).bind fun n29 =>
 (opI (A.cell ds19 10) .i64).bind fun n30 =>
 (opI (A.cell ds19 11) .i64).bind fun n31 =>
 (opI (A.cell ds19 12) .i64).bind fun n32 =>
 (opL (A.cell ds19 13) 1).bind fun l33 =>
 (opL (A.cell ds19 14) 1).bind fun l34 =>
 bif (A.ilt n22 n21) then
 bif (A.inr n22 (A.rlen l20)) then
 (opS (A.cell (A.row l20 n22) 0)).bind fun s35 =>
 (opI (A.cell (A.row l20 n22) 1) .i64).bind fun n36 =>
 (opI (A.cell (A.row l20 n22) 2) .i64).bind fun n37 =>
 (opI (A.cell (A.row l20 n22) 3) .i64).bind fun n38 =>
 (opI (A.cell (A.row l20 n22) 4) .i64).bind fun n39 =>
 (opL (A.cell (A.row l20 n22) 5) 1).bind fun l40 =>
 (E.call 37 [(.agg [(.d (.int .i64 n36)), (.d (.int .i64 n37)), (.d (.int .i64 n38))])]).bind fun p41 =>
 (opI (A.cell p41.leaves 0) .i64).bind fun n43 =>
 E.lp (fun ds44 =>
 (opI (A.cell ds44 0) .i64).bind fun n45 =>
 (opI (A.cell ds44 1) .i64).bind fun n46 =>
 (opL (A.cell ds44 2) 2).bind fun l47 =>
 (opL (A.cell ds44 3) 4).bind fun l48 =>
 (opL (A.cell ds44 4) 4).bind fun l49 =>
 (opL (A.cell ds44 5) 6).bind fun l50 =>
 (opL (A.cell ds44 6) 1).bind fun l51 =>
 (opL (A.cell ds44 7) 4).bind fun l52 =>
 (opI (A.cell ds44 8) .i64).bind fun n53 =>
 (opI (A.cell ds44 9) .i64).bind fun n54 =>
 (opI (A.cell ds44 10) .i64).bind fun n55 =>
 (opI (A.cell ds44 11) .i64).bind fun n56 =>
 (opL (A.cell ds44 12) 1).bind fun l57 =>
 (opL (A.cell ds44 13) 1).bind fun l58 =>
 (opS (A.cell ds44 14)).bind fun s59 =>
 (opI (A.cell ds44 15) .i64).bind fun n60 =>
 (opI (A.cell ds44 16) .i64).bind fun n61 =>
 (opI (A.cell ds44 17) .i64).bind fun n62 =>
 (opI (A.cell ds44 18) .i64).bind fun n63 =>
 (opL (A.cell ds44 19) 1).bind fun l64 =>
 (opI (A.cell ds44 20) .i64).bind fun n65 =>
 (opI (A.cell ds44 21) .i64).bind fun n66 =>
 (opI (A.cell ds44 22) .i64).bind fun n67 =>
 bif (A.ilt n46 n45) then
 (E.call 91 [(.agg [(.d (.int .i64 n65)), (.d (.int .i64 n66)), (.d (.int .i64 n67))])]).bind fun p68 =>
 (opI (A.cell p68.leaves 0) .i64).bind fun n70 =>
 bif (A.fits l58 [[(.int .i64 n70)]] 8) then
 some (.inl [(.int .i64 n45), (.int .i64 (A.wrap .i64 (A.add n46 1))), (.sl 2 l47), (.sl 4 l48), (.sl 4 l49), (.sl 6 l50), (.sl 1 l51), (.sl 4 l52), (.int .i64 n53), (.int .i64 n54), (.int .i64 n55), (.int .i64 n56), (.sl 1 l57), (.sl 1 (A.rapp l58 [[(.int .i64 n70)]])), (.str s59), (.int .i64 n60), (.int .i64 n61), (.int .i64 n62), (.int .i64 n63), (.sl 1 l64), (.int .i64 n65), (.int .i64 n66), (.int .i64 n67)])
 else
 none
 else
 some (.inr (.inl [(.sl 6 l20), (.int .i64 n21), (.int .i64 (A.wrap .i64 (A.add n22 1))), (.sl 2 l47), (.sl 4 l48), (.sl 4 l49), (.sl 6 l50), (.sl 1 l51), (.sl 4 l52), (.int .i64 n53), (.int .i64 n54), (.int .i64 n55), (.int .i64 n56), (.sl 1 l57), (.sl 1 l58)]))
 ) [(.int .i64 n43), (.int .i64 0), (.sl 2 l23), (.sl 4 l24), (.sl 4 l25), (.sl 6 l26), (.sl 1 l27), (.sl 4 l28), (.int .i64 n29), (.int .i64 n30), (.int .i64 n31), (.int .i64 n32), (.sl 1 l33), (.sl 1 l34), (.str s35), (.int .i64 n36), (.int .i64 n37), (.int .i64 n38), (.int .i64 n39), (.sl 1 l40), (.int .i64 n36), (.int .i64 n37), (.int .i64 n38)]
 else
 none
 else
 E.lp (fun ds71 =>
 (opL (A.cell ds71 0) 4).bind fun l72 =>
 (opI (A.cell ds71 1) .i64).bind fun n73 =>
 (opI (A.cell ds71 2) .i64).bind fun n74 =>
 (opL (A.cell ds71 3) 2).bind fun l75 =>
 (opL (A.cell ds71 4) 4).bind fun l76 =>
 (opL (A.cell ds71 5) 4).bind fun l77 =>
 (opL (A.cell ds71 6) 6).bind fun l78 =>
 (opL (A.cell ds71 7) 1).bind fun l79 =>
 (opL (A.cell ds71 8) 4).bind fun l80 =>
 (opI (A.cell ds71 9) .i64).bind fun n81 =>
 (opI (A.cell ds71 10) .i64).bind fun n82 =>
 (opI (A.cell ds71 11) .i64).bind fun n83 =>
 (opI (A.cell ds71 12) .i64).bind fun n84 =>
 (opL (A.cell ds71 13) 1).bind fun l85 =>
 (opL (A.cell ds71 14) 1).bind fun l86 =>
 bif (A.ilt n74 n73) then
 bif (A.inr n74 (A.rlen l72)) then
 (opS (A.cell (A.row l72 n74) 0)).bind fun s87 =>
 (opI (A.cell (A.row l72 n74) 1) .i64).bind fun n88 =>
 (opI (A.cell (A.row l72 n74) 2) .i64).bind fun n89 =>
 (opI (A.cell (A.row l72 n74) 3) .i64).bind fun n90 =>
 (E.call 37 [(.agg [(.d (.int .i64 n88)), (.d (.int .i64 n89)), (.d (.int .i64 n90))])]).bind fun p91 =>
 (opI (A.cell p91.leaves 0) .i64).bind fun n93 =>
 E.lp (fun ds94 =>
 (opI (A.cell ds94 0) .i64).bind fun n95 =>
 (opI (A.cell ds94 1) .i64).bind fun n96 =>
 (opL (A.cell ds94 2) 2).bind fun l97 =>
 (opL (A.cell ds94 3) 4).bind fun l98 =>
 (opL (A.cell ds94 4) 4).bind fun l99 =>
 (opL (A.cell ds94 5) 6).bind fun l100 =>
 (opL (A.cell ds94 6) 1).bind fun l101 =>
 (opL (A.cell ds94 7) 4).bind fun l102 =>
 (opI (A.cell ds94 8) .i64).bind fun n103 =>
 (opI (A.cell ds94 9) .i64).bind fun n104 =>
 (opI (A.cell ds94 10) .i64).bind fun n105 =>
 (opI (A.cell ds94 11) .i64).bind fun n106 =>
 (opL (A.cell ds94 12) 1).bind fun l107 =>
 (opL (A.cell ds94 13) 1).bind fun l108 =>
 (opS (A.cell ds94 14)).bind fun s109 =>
 (opI (A.cell ds94 15) .i64).bind fun n110 =>
 (opI (A.cell ds94 16) .i64).bind fun n111 =>
 (opI (A.cell ds94 17) .i64).bind fun n112 =>
 (opI (A.cell ds94 18) .i64).bind fun n113 =>
 (opI (A.cell ds94 19) .i64).bind fun n114 =>
 (opI (A.cell ds94 20) .i64).bind fun n115 =>
 bif (A.ilt n96 n95) then
 (E.call 91 [(.agg [(.d (.int .i64 n113)), (.d (.int .i64 n114)), (.d (.int .i64 n115))])]).bind fun p116 =>
 (opI (A.cell p116.leaves 0) .i64).bind fun n118 =>
 bif (A.fits l108 [[(.int .i64 n118)]] 8) then
 some (.inl [(.int .i64 n95), (.int .i64 (A.wrap .i64 (A.add n96 1))), (.sl 2 l97), (.sl 4 l98), (.sl 4 l99), (.sl 6 l100), (.sl 1 l101), (.sl 4 l102), (.int .i64 n103), (.int .i64 n104), (.int .i64 n105), (.int .i64 n106), (.sl 1 l107), (.sl 1 (A.rapp l108 [[(.int .i64 n118)]])), (.str s109), (.int .i64 n110), (.int .i64 n111), (.int .i64 n112), (.int .i64 n113), (.int .i64 n114), (.int .i64 n115)])
 else
 none
 else
 some (.inr (.inl [(.sl 4 l72), (.int .i64 n73), (.int .i64 (A.wrap .i64 (A.add n74 1))), (.sl 2 l97), (.sl 4 l98), (.sl 4 l99), (.sl 6 l100), (.sl 1 l101), (.sl 4 l102), (.int .i64 n103), (.int .i64 n104), (.int .i64 n105), (.int .i64 n106), (.sl 1 l107), (.sl 1 l108)]))
 ) [(.int .i64 n93), (.int .i64 0), (.sl 2 l75), (.sl 4 l76), (.sl 4 l77), (.sl 6 l78), (.sl 1 l79), (.sl 4 l80), (.int .i64 n81), (.int .i64 n82), (.int .i64 n83), (.int .i64 n84), (.sl 1 l85), (.sl 1 l86), (.str s87), (.int .i64 n88), (.int .i64 n89), (.int .i64 n90), (.int .i64 n88), (.int .i64 n89), (.int .i64 n90)]
 else
 none
 else
 E.lp (fun ds119 =>
 (opL (A.cell ds119 0) 4).bind fun l120 =>
 (opI (A.cell ds119 1) .i64).bind fun n121 =>
 (opI (A.cell ds119 2) .i64).bind fun n122 =>
 (opL (A.cell ds119 3) 2).bind fun l123 =>
 (opL (A.cell ds119 4) 4).bind fun l124 =>
 (opL (A.cell ds119 5) 4).bind fun l125 =>
 (opL (A.cell ds119 6) 6).bind fun l126 =>
 (opL (A.cell ds119 7) 1).bind fun l127 =>
 (opL (A.cell ds119 8) 4).bind fun l128 =>
 (opI (A.cell ds119 9) .i64).bind fun n129 =>
 (opI (A.cell ds119 10) .i64).bind fun n130 =>
 (opI (A.cell ds119 11) .i64).bind fun n131 =>
 (opI (A.cell ds119 12) .i64).bind fun n132 =>
 (opL (A.cell ds119 13) 1).bind fun l133 =>
 (opL (A.cell ds119 14) 1).bind fun l134 =>
 bif (A.ilt n122 n121) then
 bif (A.inr n122 (A.rlen l120)) then
 (opS (A.cell (A.row l120 n122) 0)).bind fun s135 =>
 (opI (A.cell (A.row l120 n122) 1) .i64).bind fun n136 =>
 (opI (A.cell (A.row l120 n122) 2) .i64).bind fun n137 =>
 (opI (A.cell (A.row l120 n122) 3) .i64).bind fun n138 =>
 (E.call 37 [(.agg [(.d (.int .i64 n136)), (.d (.int .i64 n137)), (.d (.int .i64 n138))])]).bind fun p139 =>
 (opI (A.cell p139.leaves 0) .i64).bind fun n141 =>
 E.lp (fun ds142 =>
 (opI (A.cell ds142 0) .i64).bind fun n143 =>
 (opI (A.cell ds142 1) .i64).bind fun n144 =>
 (opL (A.cell ds142 2) 2).bind fun l145 =>
 (opL (A.cell ds142 3) 4).bind fun l146 =>
 (opL (A.cell ds142 4) 4).bind fun l147 =>
 (opL (A.cell ds142 5) 6).bind fun l148 =>
 (opL (A.cell ds142 6) 1).bind fun l149 =>
 (opL (A.cell ds142 7) 4).bind fun l150 =>
 (opI (A.cell ds142 8) .i64).bind fun n151 =>
 (opI (A.cell ds142 9) .i64).bind fun n152 =>
 (opI (A.cell ds142 10) .i64).bind fun n153 =>
 (opI (A.cell ds142 11) .i64).bind fun n154 =>
 (opL (A.cell ds142 12) 1).bind fun l155 =>
 (opL (A.cell ds142 13) 1).bind fun l156 =>
 (opS (A.cell ds142 14)).bind fun s157 =>
 (opI (A.cell ds142 15) .i64).bind fun n158 =>
 (opI (A.cell ds142 16) .i64).bind fun n159 =>
 (opI (A.cell ds142 17) .i64).bind fun n160 =>
 (opI (A.cell ds142 18) .i64).bind fun n161 =>
 (opI (A.cell ds142 19) .i64).bind fun n162 =>
 (opI (A.cell ds142 20) .i64).bind fun n163 =>
 bif (A.ilt n144 n143) then
 (E.call 91 [(.agg [(.d (.int .i64 n161)), (.d (.int .i64 n162)), (.d (.int .i64 n163))])]).bind fun p164 =>
 (opI (A.cell p164.leaves 0) .i64).bind fun n166 =>
 bif (A.fits l156 [[(.int .i64 n166)]] 8) then
 some (.inl [(.int .i64 n143), (.int .i64 (A.wrap .i64 (A.add n144 1))), (.sl 2 l145), (.sl 4 l146), (.sl 4 l147), (.sl 6 l148), (.sl 1 l149), (.sl 4 l150), (.int .i64 n151), (.int .i64 n152), (.int .i64 n153), (.int .i64 n154), (.sl 1 l155), (.sl 1 (A.rapp l156 [[(.int .i64 n166)]])), (.str s157), (.int .i64 n158), (.int .i64 n159), (.int .i64 n160), (.int .i64 n161), (.int .i64 n162), (.int .i64 n163)])
 else
 none
 else
 some (.inr (.inl [(.sl 4 l120), (.int .i64 n121), (.int .i64 (A.wrap .i64 (A.add n122 1))), (.sl 2 l145), (.sl 4 l146), (.sl 4 l147), (.sl 6 l148), (.sl 1 l149), (.sl 4 l150), (.int .i64 n151), (.int .i64 n152), (.int .i64 n153), (.int .i64 n154), (.sl 1 l155), (.sl 1 l156)]))
 ) [(.int .i64 n141), (.int .i64 0), (.sl 2 l123), (.sl 4 l124), (.sl 4 l125), (.sl 6 l126), (.sl 1 l127), (.sl 4 l128), (.int .i64 n129), (.int .i64 n130), (.int .i64 n131), (.int .i64 n132), (.sl 1 l133), (.sl 1 l134), (.str s135), (.int .i64 n136), (.int .i64 n137), (.int .i64 n138), (.int .i64 n136), (.int .i64 n137), (.int .i64 n138)]
 else
 none
 else
 bif (A.fits l134 l127 8) then
 some (.inr (.inr (.inr (.inr (.val [(.sl 1 l133), (.sl 1 (A.rapp l134 l127)), (.int .i64 n131), (.int .i64 n132)])))))
 else
 none
 ) [(.sl 4 l77), (.int .i64 (A.rlen l77)), (.int .i64 0), (.sl 2 l75), (.sl 4 l76), (.sl 4 l77), (.sl 6 l78), (.sl 1 l79), (.sl 4 l80), (.int .i64 n81), (.int .i64 n82), (.int .i64 n83), (.int .i64 (A.rlen l86)), (.sl 1 l85), (.sl 1 l86)]
 ) [(.sl 4 l24), (.int .i64 (A.rlen l24)), (.int .i64 0), (.sl 2 l23), (.sl 4 l24), (.sl 4 l25), (.sl 6 l26), (.sl 1 l27), (.sl 4 l28), (.int .i64 n29), (.int .i64 n30), (.int .i64 (A.rlen l34)), (.int .i64 n32), (.sl 1 l33), (.sl 1 l34)]
 ) [(.sl 6 l8), (.int .i64 (A.rlen l8)), (.int .i64 0), (.sl 2 l5), (.sl 4 l6), (.sl 4 l7), (.sl 6 l8), (.sl 1 l9), (.sl 4 l10), (.int .i64 n11), (.int .i64 n12), (.int .i64 n13), (.int .i64 n14), (.sl 1 l15), (.sl 1 l16)]
 ) [(.sl 2 x_0), (.int .i64 (A.rlen x_0)), (.int .i64 0), (.sl 2 x_0), (.sl 4 x_1), (.sl 4 x_2), (.sl 6 x_3), (.sl 1 x_4), (.sl 4 x_5), (.int .i64 0), (.int .i64 0), (.int .i64 0), (.int .i64 0), (.sl 1 []), (.sl 1 [])]
theorem g45_eq (A : Sy) (E : Env) (x_0 : List (List D)) (x_1 : List (List D)) (x_2 : List (List D)) (x_3 : List (List D)) (x_4 : List (List D)) (x_5 : List (List D)) : (funT A Tryz.prog cs 45 [V.agg [V.d (.sl 2 x_0), V.d (.sl 4 x_1), V.d (.sl 4 x_2), V.d (.sl 6 x_3), V.d (.sl 1 x_4), V.d (.sl 4 x_5)]]).run E = g45 A E x_0 x_1 x_2 x_3 x_4 x_5 := by kernel_rfl
def g24 (A : Sy) (E : Env) (x_0 : List (List D)) (x_1 : List (List D)) (x_2 : List (List D)) (x_3 : List (List D)) (x_4 : List (List D)) (x_5 : List (List D)) : Option PRes :=
 E.lp (fun ds1 =>
 (opI (A.cell ds1 0) .i64).bind fun n2 =>
 (opL (A.cell ds1 1) 2).bind fun l3 =>
 (opL (A.cell ds1 2) 4).bind fun l4 =>
 (opL (A.cell ds1 3) 4).bind fun l5 =>
 (opL (A.cell ds1 4) 6).bind fun l6 =>
 (opL (A.cell ds1 5) 1).bind fun l7 =>
 (opL (A.cell ds1 6) 4).bind fun l8 =>
 (opI (A.cell ds1 7) .i64).bind fun n9 =>
 (opI (A.cell ds1 8) .i64).bind fun n10 =>
 (opI (A.cell ds1 9) .i64).bind fun n11 =>
 (opI (A.cell ds1 10) .i64).bind fun n12 =>
 (opL (A.cell ds1 11) 1).bind fun l13 =>
 (opL (A.cell ds1 12) 1).bind fun l14 =>
 bif (A.ilt n2 (A.rlen l3)) then
 bif (A.inr n2 (A.rlen l3)) then
 (opL (A.cell (A.skip 1 (A.row l3 n2)) 0) 1).bind fun l15 =>
 bif (A.fits l13 [[(.int .i64 (A.rlen l15))]] 8) then
 some (.inl [(.int .i64 (A.wrap .i64 (A.add n2 1))), (.sl 2 l3), (.sl 4 l4), (.sl 4 l5), (.sl 6 l6), (.sl 1 l7), (.sl 4 l8), (.int .i64 n9), (.int .i64 n10), (.int .i64 n11), (.int .i64 n12), (.sl 1 (A.rapp l13 [[(.int .i64 (A.rlen l15))]])), (.sl 1 l14)])
 else
 none
 else
 none
 else
 E.lp (fun ds16 =>
 (opI (A.cell ds16 0) .i64).bind fun n17 =>
 (opL (A.cell ds16 1) 2).bind fun l18 =>
 (opL (A.cell ds16 2) 4).bind fun l19 =>
 (opL (A.cell ds16 3) 4).bind fun l20 =>
 (opL (A.cell ds16 4) 6).bind fun l21 =>
 (opL (A.cell ds16 5) 1).bind fun l22 =>
 (opL (A.cell ds16 6) 4).bind fun l23 =>
 (opI (A.cell ds16 7) .i64).bind fun n24 =>
 (opI (A.cell ds16 8) .i64).bind fun n25 =>
 (opI (A.cell ds16 9) .i64).bind fun n26 =>
 (opI (A.cell ds16 10) .i64).bind fun n27 =>
 (opL (A.cell ds16 11) 1).bind fun l28 =>
 (opL (A.cell ds16 12) 1).bind fun l29 =>
 bif (A.ilt n17 (A.rlen l21)) then
 bif (A.inr n17 (A.rlen l21)) then
 (opI (A.cell (A.skip 1 (A.row l21 n17)) 0) .i64).bind fun n30 =>
 (opI (A.cell (A.skip 1 (A.row l21 n17)) 1) .i64).bind fun n31 =>
 (opI (A.cell (A.skip 1 (A.row l21 n17)) 2) .i64).bind fun n32 =>
 E.lp (fun ds33 =>
 (opI (A.cell ds33 0) .i64).bind fun n34 =>
 (opL (A.cell ds33 1) 2).bind fun l35 =>
 (opL (A.cell ds33 2) 4).bind fun l36 =>
 (opL (A.cell ds33 3) 4).bind fun l37 =>
 (opL (A.cell ds33 4) 6).bind fun l38 =>
 (opL (A.cell ds33 5) 1).bind fun l39 =>
 (opL (A.cell ds33 6) 4).bind fun l40 =>
 (opI (A.cell ds33 7) .i64).bind fun n41 =>
 (opI (A.cell ds33 8) .i64).bind fun n42 =>
 (opI (A.cell ds33 9) .i64).bind fun n43 =>
 (opI (A.cell ds33 10) .i64).bind fun n44 =>
 (opL (A.cell ds33 11) 1).bind fun l45 =>
 (opL (A.cell ds33 12) 1).bind fun l46 =>
 (opI (A.cell ds33 13) .i64).bind fun n47 =>
 (opI (A.cell ds33 14) .i64).bind fun n48 =>
 (opI (A.cell ds33 15) .i64).bind fun n49 =>
 (E.call 35 [(.agg [(.d (.int .i64 n47)), (.d (.int .i64 n48)), (.d (.int .i64 n49))])]).bind fun p50 =>
 (opI (A.cell p50.leaves 0) .i64).bind fun n52 =>
 bif (A.ilt n34 n52) then
 (E.call 111 [(.agg [(.d (.int .i64 n47)), (.d (.int .i64 n48)), (.d (.int .i64 n49))])]).bind fun p53 =>
 (opI (A.cell p53.leaves 0) .i64).bind fun n55 =>
 bif (A.fits l46 [[(.int .i64 n55)]] 8) then
 some (.inl [(.int .i64 (A.wrap .i64 (A.add n34 1))), (.sl 2 l35), (.sl 4 l36), (.sl 4 l37), (.sl 6 l38), (.sl 1 l39), (.sl 4 l40), (.int .i64 n41), (.int .i64 n42), (.int .i64 n43), (.int .i64 n44), (.sl 1 l45), (.sl 1 (A.rapp l46 [[(.int .i64 n55)]])), (.int .i64 n47), (.int .i64 n48), (.int .i64 n49)])
 else
 none
 else
 some (.inr (.inl [(.int .i64 (A.wrap .i64 (A.add n17 1))), (.sl 2 l35), (.sl 4 l36), (.sl 4 l37), (.sl 6 l38), (.sl 1 l39), (.sl 4 l40), (.int .i64 n41), (.int .i64 n42), (.int .i64 n43), (.int .i64 n44), (.sl 1 l45), (.sl 1 l46)]))
 ) [(.int .i64 0), (.sl 2 l18), (.sl 4 l19), (.sl 4 l20), (.sl 6 l21), (.sl 1 l22), (.sl 4 l23), (.int .i64 n24), (.int .i64 n25), (.int .i64 n26), (.int .i64 n27), (.sl 1 l28), (.sl 1 l29), (.int .i64 n30), (.int .i64 n31), (.int .i64 n32)]
 else
 none
 else
 E.lp (fun ds56 =>
 (opI (A.cell ds56 0) .i64).bind fun n57 =>
 (opL (A.cell ds56 1) 2).bind fun l58 =>
 (opL (A.cell ds56 2) 4).bind fun l59 =>
 (opL (A.cell ds56 3) 4).bind fun l60 =>
 (opL (A.cell ds56 4) 6).bind fun l61 =>
 (opL (A.cell ds56 5) 1).bind fun l62 =>
 (opL (A.cell ds56 6) 4).bind fun l63 =>
 (opI (A.cell ds56 7) .i64).bind fun n64 =>
 (opI (A.cell ds56 8) .i64).bind fun n65 =>
 (opI (A.cell ds56 9) .i64).bind fun n66 =>
 (opI (A.cell ds56 10) .i64).bind fun n67 =>
 (opL (A.cell ds56 11) 1).bind fun l68 =>
 (opL (A.cell ds56 12) 1).bind fun l69 =>
 bif (A.ilt n57 (A.rlen l59)) then
 bif (A.inr n57 (A.rlen l59)) then
 (opI (A.cell (A.skip 1 (A.row l59 n57)) 0) .i64).bind fun n70 =>
 (opI (A.cell (A.skip 1 (A.row l59 n57)) 1) .i64).bind fun n71 =>
 (opI (A.cell (A.skip 1 (A.row l59 n57)) 2) .i64).bind fun n72 =>
 E.lp (fun ds73 =>
 (opI (A.cell ds73 0) .i64).bind fun n74 =>
 (opL (A.cell ds73 1) 2).bind fun l75 =>
 (opL (A.cell ds73 2) 4).bind fun l76 =>
 (opL (A.cell ds73 3) 4).bind fun l77 =>
 (opL (A.cell ds73 4) 6).bind fun l78 =>
 (opL (A.cell ds73 5) 1).bind fun l79 =>
 (opL (A.cell ds73 6) 4).bind fun l80 =>
 (opI (A.cell ds73 7) .i64).bind fun n81 =>
 (opI (A.cell ds73 8) .i64).bind fun n82 =>
 (opI (A.cell ds73 9) .i64).bind fun n83 =>
 (opI (A.cell ds73 10) .i64).bind fun n84 =>
 (opL (A.cell ds73 11) 1).bind fun l85 =>
 (opL (A.cell ds73 12) 1).bind fun l86 =>
 (opI (A.cell ds73 13) .i64).bind fun n87 =>
 (opI (A.cell ds73 14) .i64).bind fun n88 =>
 (opI (A.cell ds73 15) .i64).bind fun n89 =>
 (E.call 35 [(.agg [(.d (.int .i64 n87)), (.d (.int .i64 n88)), (.d (.int .i64 n89))])]).bind fun p90 =>
 (opI (A.cell p90.leaves 0) .i64).bind fun n92 =>
 bif (A.ilt n74 n92) then
 (E.call 111 [(.agg [(.d (.int .i64 n87)), (.d (.int .i64 n88)), (.d (.int .i64 n89))])]).bind fun p93 =>
 (opI (A.cell p93.leaves 0) .i64).bind fun n95 =>
 bif (A.fits l86 [[(.int .i64 n95)]] 8) then
 some (.inl [(.int .i64 (A.wrap .i64 (A.add n74 1))), (.sl 2 l75), (.sl 4 l76), (.sl 4 l77), (.sl 6 l78), (.sl 1 l79), (.sl 4 l80), (.int .i64 n81), (.int .i64 n82), (.int .i64 n83), (.int .i64 n84), (.sl 1 l85), (.sl 1 (A.rapp l86 [[(.int .i64 n95)]])), (.int .i64 n87), (.int .i64 n88), (.int .i64 n89)])
 else
 none
 else
 some (.inr (.inl [(.int .i64 (A.wrap .i64 (A.add n57 1))), (.sl 2 l75), (.sl 4 l76), (.sl 4 l77), (.sl 6 l78), (.sl 1 l79), (.sl 4 l80), (.int .i64 n81), (.int .i64 n82), (.int .i64 n83), (.int .i64 n84), (.sl 1 l85), (.sl 1 l86)]))
 ) [(.int .i64 0), (.sl 2 l58), (.sl 4 l59), (.sl 4 l60), (.sl 6 l61), (.sl 1 l62), (.sl 4 l63), (.int .i64 n64), (.int .i64 n65), (.int .i64 n66), (.int .i64 n67), (.sl 1 l68), (.sl 1 l69), (.int .i64 n70), (.int .i64 n71), (.int .i64 n72)]
 else
 none
 else
 E.lp (fun ds96 =>
 (opI (A.cell ds96 0) .i64).bind fun n97 =>
 (opL (A.cell ds96 1) 2).bind fun l98 =>
 (opL (A.cell ds96 2) 4).bind fun l99 =>
 (opL (A.cell ds96 3) 4).bind fun l100 =>
 (opL (A.cell ds96 4) 6).bind fun l101 =>
 (opL (A.cell ds96 5) 1).bind fun l102 =>
 (opL (A.cell ds96 6) 4).bind fun l103 =>
 (opI (A.cell ds96 7) .i64).bind fun n104 =>
 (opI (A.cell ds96 8) .i64).bind fun n105 =>
 (opI (A.cell ds96 9) .i64).bind fun n106 =>
 (opI (A.cell ds96 10) .i64).bind fun n107 =>
 (opL (A.cell ds96 11) 1).bind fun l108 =>
 (opL (A.cell ds96 12) 1).bind fun l109 =>
 bif (A.ilt n97 (A.rlen l100)) then
 bif (A.inr n97 (A.rlen l100)) then
 (opI (A.cell (A.skip 1 (A.row l100 n97)) 0) .i64).bind fun n110 =>
 (opI (A.cell (A.skip 1 (A.row l100 n97)) 1) .i64).bind fun n111 =>
 (opI (A.cell (A.skip 1 (A.row l100 n97)) 2) .i64).bind fun n112 =>
 E.lp (fun ds113 =>
 (opI (A.cell ds113 0) .i64).bind fun n114 =>
 (opL (A.cell ds113 1) 2).bind fun l115 =>
 (opL (A.cell ds113 2) 4).bind fun l116 =>
 (opL (A.cell ds113 3) 4).bind fun l117 =>
 (opL (A.cell ds113 4) 6).bind fun l118 =>
 (opL (A.cell ds113 5) 1).bind fun l119 =>
 (opL (A.cell ds113 6) 4).bind fun l120 =>
 (opI (A.cell ds113 7) .i64).bind fun n121 =>
 (opI (A.cell ds113 8) .i64).bind fun n122 =>
 (opI (A.cell ds113 9) .i64).bind fun n123 =>
 (opI (A.cell ds113 10) .i64).bind fun n124 =>
 (opL (A.cell ds113 11) 1).bind fun l125 =>
 (opL (A.cell ds113 12) 1).bind fun l126 =>
 (opI (A.cell ds113 13) .i64).bind fun n127 =>
 (opI (A.cell ds113 14) .i64).bind fun n128 =>
 (opI (A.cell ds113 15) .i64).bind fun n129 =>
 (E.call 35 [(.agg [(.d (.int .i64 n127)), (.d (.int .i64 n128)), (.d (.int .i64 n129))])]).bind fun p130 =>
 (opI (A.cell p130.leaves 0) .i64).bind fun n132 =>
 bif (A.ilt n114 n132) then
 (E.call 111 [(.agg [(.d (.int .i64 n127)), (.d (.int .i64 n128)), (.d (.int .i64 n129))])]).bind fun p133 =>
 (opI (A.cell p133.leaves 0) .i64).bind fun n135 =>
 bif (A.fits l126 [[(.int .i64 n135)]] 8) then
 some (.inl [(.int .i64 (A.wrap .i64 (A.add n114 1))), (.sl 2 l115), (.sl 4 l116), (.sl 4 l117), (.sl 6 l118), (.sl 1 l119), (.sl 4 l120), (.int .i64 n121), (.int .i64 n122), (.int .i64 n123), (.int .i64 n124), (.sl 1 l125), (.sl 1 (A.rapp l126 [[(.int .i64 n135)]])), (.int .i64 n127), (.int .i64 n128), (.int .i64 n129)])
 else
 none
 else
 some (.inr (.inl [(.int .i64 (A.wrap .i64 (A.add n97 1))), (.sl 2 l115), (.sl 4 l116), (.sl 4 l117), (.sl 6 l118), (.sl 1 l119), (.sl 4 l120), (.int .i64 n121), (.int .i64 n122), (.int .i64 n123), (.int .i64 n124), (.sl 1 l125), (.sl 1 l126)]))
 ) [(.int .i64 0), (.sl 2 l98), (.sl 4 l99), (.sl 4 l100), (.sl 6 l101), (.sl 1 l102), (.sl 4 l103), (.int .i64 n104), (.int .i64 n105), (.int .i64 n106), (.int .i64 n107), (.sl 1 l108), (.sl 1 l109), (.int .i64 n110), (.int .i64 n111), (.int .i64 n112)]
 else
 none
 else
 bif (A.fits l109 l102 8) then
 some (.inr (.inr (.inr (.inr (.val [(.sl 1 l108), (.sl 1 (A.rapp l109 l102)), (.int .i64 n106), (.int .i64 n107)])))))
 else
 none
 ) [(.int .i64 0), (.sl 2 l58), (.sl 4 l59), (.sl 4 l60), (.sl 6 l61), (.sl 1 l62), (.sl 4 l63), (.int .i64 n64), (.int .i64 n65), (.int .i64 n66), (.int .i64 (A.rlen l69)), (.sl 1 l68), (.sl 1 l69)]
 ) [(.int .i64 0), (.sl 2 l18), (.sl 4 l19), (.sl 4 l20), (.sl 6 l21), (.sl 1 l22), (.sl 4 l23), (.int .i64 n24), (.int .i64 n25), (.int .i64 (A.rlen l29)), (.int .i64 n27), (.sl 1 l28), (.sl 1 l29)]
 ) [(.int .i64 0), (.sl 2 l3), (.sl 4 l4), (.sl 4 l5), (.sl 6 l6), (.sl 1 l7), (.sl 4 l8), (.int .i64 n9), (.int .i64 n10), (.int .i64 n11), (.int .i64 n12), (.sl 1 l13), (.sl 1 l14)]
 ) [(.int .i64 0), (.sl 2 x_0), (.sl 4 x_1), (.sl 4 x_2), (.sl 6 x_3), (.sl 1 x_4), (.sl 4 x_5), (.int .i64 0), (.int .i64 0), (.int .i64 0), (.int .i64 0), (.sl 1 []), (.sl 1 [])]
theorem g24_eq (A : Sy) (E : Env) (x_0 : List (List D)) (x_1 : List (List D)) (x_2 : List (List D)) (x_3 : List (List D)) (x_4 : List (List D)) (x_5 : List (List D)) : (funT A Tryz.prog cs 24 [V.agg [V.d (.sl 2 x_0), V.d (.sl 4 x_1), V.d (.sl 4 x_2), V.d (.sl 6 x_3), V.d (.sl 1 x_4), V.d (.sl 4 x_5)]]).run E = g24 A E x_0 x_1 x_2 x_3 x_4 x_5 := by kernel_rfl
def g91 (A : Sy) (E : Env) (t_0 : Int) (t_1 : Int) (t_2 : Int) : Option PRes :=
 cutO (
 bif (A.ieq t_0 1) then
 some (.inl [(.bool true)])
 else
 some (.inl [(.bool (A.ieq t_0 2))])
 ) fun ds1 =>
 (opB (A.cell ds1 0)).bind fun b2 =>
 bif b2 then
 some (.val [(.int .i64 t_0)])
 else
 cutO (
 bif (A.ieq t_0 3) then
 some (.inl [(.bool (A.ile 0 t_1))])
 else
 some (.inl [(.bool false)])
 ) fun ds3 =>
 (opB (A.cell ds3 0)).bind fun b4 =>
 cutO (
 bif b4 then
 some (.inl [(.bool (A.ile t_1 1000))])
 else
 some (.inl [(.bool false)])
 ) fun ds5 =>
 (opB (A.cell ds5 0)).bind fun b6 =>
 bif b6 then
 some (.val [(.int .i64 (A.wrap .i64 (A.add 3 t_1)))])
 else
 some (.val [(.int .i64 0)])
theorem g91_eq (A : Sy) (E : Env) (t_0 : Int) (t_1 : Int) (t_2 : Int) : (funT A Tryz.prog cs 91 [V.agg [V.d (.int .i64 t_0), V.d (.int .i64 t_1), V.d (.int .i64 t_2)]]).run E = g91 A E t_0 t_1 t_2 := by kernel_rfl
def g111 (A : Sy) (E : Env) (t_0 : Int) (t_1 : Int) (t_2 : Int) : Option PRes :=
 cutO (
 bif (A.ieq t_0 1) then
 some (.inl [(.bool true)])
 else
 some (.inl [(.bool (A.ieq t_0 2))])
 ) fun ds1 =>
 (opB (A.cell ds1 0)).bind fun b2 =>
 bif b2 then
 some (.val [(.int .i64 t_0)])
 else
 cutO (
 bif (A.ieq t_0 3) then
 some (.inl [(.bool (A.ile 0 t_1))])
 else
 some (.inl [(.bool false)])
 ) fun ds3 =>
 (opB (A.cell ds3 0)).bind fun b4 =>
 cutO (
 bif b4 then
 some (.inl [(.bool (A.ile t_1 1000))])
 else
 some (.inl [(.bool false)])
 ) fun ds5 =>
 (opB (A.cell ds5 0)).bind fun b6 =>
 bif b6 then
 some (.val [(.int .i64 (A.wrap .i64 (A.add 3 t_1)))])
 else
 some (.val [(.int .i64 0)])
theorem g111_eq (A : Sy) (E : Env) (t_0 : Int) (t_1 : Int) (t_2 : Int) : (funT A Tryz.prog cs 111 [V.agg [V.d (.int .i64 t_0), V.d (.int .i64 t_1), V.d (.int .i64 t_2)]]).run E = g111 A E t_0 t_1 t_2 := by kernel_rfl
def g47 (A : Sy) (E : Env) (l_ : List (List D)) : Option PRes :=
 (E.call 94 [(.d (.sl 2 l_))]).bind fun p1 =>
 (opB (A.cell p1.leaves 0)).bind fun b3 =>
 bif b3 then
 some (.val [(.int .i64 4)])
 else
 E.lp (fun ds4 =>
 (opL (A.cell ds4 0) 2).bind fun l5 =>
 (opL (A.cell ds4 1) 2).bind fun l6 =>
 (opI (A.cell ds4 2) .i64).bind fun n7 =>
 (opI (A.cell ds4 3) .i64).bind fun n8 =>
 (opL (A.cell ds4 4) 1).bind fun l9 =>
 (opL (A.cell ds4 5) 1).bind fun l10 =>
 (opB (A.cell ds4 6)).bind fun b11 =>
 bif (A.ilt n8 n7) then
 bif (A.inr n8 (A.rlen l6)) then
 (opS (A.cell (A.row l6 n8) 0)).bind fun s12 =>
 (opL (A.cell (A.row l6 n8) 1) 1).bind fun l13 =>
 bif (A.fits l9 [[(.str s12)]] 16) then
 cutO (
 bif b11 then
 (E.call 95 [(.d (.str s12))]).bind fun p14 =>
 (opB (A.cell p14.leaves 0)).bind fun b16 =>
 some (.inl [(.bool b16)])
 else
 some (.inl [(.bool false)])
 ) fun ds17 =>
 (opB (A.cell ds17 0)).bind fun b18 =>
 cutO (
 bif b18 then
 some (.inl [(.bool (A.ilt 0 (A.rlen l13)))])
 else
 some (.inl [(.bool false)])
 ) fun ds19 =>
 (opB (A.cell ds19 0)).bind fun b20 =>
 some (.inl [(.sl 2 l5), (.sl 2 l6), (.int .i64 n7), (.int .i64 (A.wrap .i64 (A.add n8 1))), (.sl 1 (A.rapp l9 [[(.str s12)]])), (.sl 1 l10), (.bool b20)])
 else
 none
 else
 none
 else
 E.lp (fun ds21 =>
 (opL (A.cell ds21 0) 2).bind fun l22 =>
 (opI (A.cell ds21 1) .i64).bind fun n23 =>
 (opI (A.cell ds21 2) .i64).bind fun n24 =>
 (opL (A.cell ds21 3) 1).bind fun l25 =>
 (opL (A.cell ds21 4) 1).bind fun l26 =>
 (opB (A.cell ds21 5)).bind fun b27 =>
 (opL (A.cell ds21 6) 2).bind fun l28 =>
 (opL (A.cell ds21 7) 2).bind fun l29 =>
 (opL (A.cell ds21 8) 2).bind fun l30 =>
 (opI (A.cell ds21 9) .i64).bind fun n31 =>
 (opI (A.cell ds21 10) .i64).bind fun n32 =>
 (opB (A.cell ds21 11)).bind fun b33 =>
 (opL (A.cell ds21 12) 2).bind fun l34 =>
 bif (A.ilt n24 n23) then
 bif (A.inr n24 (A.rlen l22)) then
 (opS (A.cell (A.row l22 n24) 0)).bind fun s35 =>
 (opL (A.cell (A.row l22 n24) 1) 1).bind fun l36 =>
 E.lp (fun ds37 =>
 (opI (A.cell ds37 0) .i64).bind fun n38 =>
 (opL (A.cell ds37 1) 2).bind fun l39 =>
 (opI (A.cell ds37 2) .i64).bind fun n40 =>
 (opI (A.cell ds37 3) .i64).bind fun n41 =>
 (opL (A.cell ds37 4) 1).bind fun l42 =>
 (opI (A.cell ds37 5) .i64).bind fun n43 =>
 (opI (A.cell ds37 6) .i64).bind fun n44 =>
 (opL (A.cell ds37 7) 1).bind fun l45 =>
 (opL (A.cell ds37 8) 1).bind fun l46 =>
 (opB (A.cell ds37 9)).bind fun b47 =>
 (opL (A.cell ds37 10) 2).bind fun l48 =>
 (opL (A.cell ds37 11) 2).bind fun l49 =>
 (opL (A.cell ds37 12) 2).bind fun l50 =>
 (opI (A.cell ds37 13) .i64).bind fun n51 =>
 (opI (A.cell ds37 14) .i64).bind fun n52 =>
 (opB (A.cell ds37 15)).bind fun b53 =>
 (opL (A.cell ds37 16) 2).bind fun l54 =>
 bif (A.ilt n44 n43) then
 bif (A.inr n44 (A.rlen l42)) then
 (opS (A.cell (A.row l42 n44) 0)).bind fun s55 =>
 bif (A.fits l46 [[(.str s55)]] 16) then
 cutO (
 bif b47 then
 (E.call 97 [(.d (.str s55))]).bind fun p56 =>
 (opB (A.cell p56.leaves 0)).bind fun b58 =>
 some (.inl [(.bool b58)])
 else
 some (.inl [(.bool false)])
 ) fun ds59 =>
 (opB (A.cell ds59 0)).bind fun b60 =>
 bif (A.bnot true) then
 bif (A.bnot b60) then
 some (.inr (.inr (.inr (.val [(.int .i64 1)]))))
 else
 (E.call 40 [(.d (.sl 1 l45))]).bind fun p61 =>
 (opB (A.cell p61.leaves 0)).bind fun b63 =>
 cutO (
 bif (A.bnot b63) then
 some (.inl [(.bool true)])
 else
 (E.call 40 [(.d (.sl 1 (A.rapp l46 [[(.str s55)]])))]).bind fun p64 =>
 (opB (A.cell p64.leaves 0)).bind fun b66 =>
 some (.inl [(.bool (A.bnot b66))])
 ) fun ds67 =>
 (opB (A.cell ds67 0)).bind fun b68 =>
 bif b68 then
 some (.inr (.inr (.inr (.val [(.int .i64 6)]))))
 else
 some (.inr (.inr (.inr (.val [(.int .i64 0)]))))
 else
 some (.inl [(.int .i64 n38), (.sl 2 l39), (.int .i64 n40), (.int .i64 n41), (.sl 1 l42), (.int .i64 n43), (.int .i64 (A.wrap .i64 (A.add n44 1))), (.sl 1 l45), (.sl 1 (A.rapp l46 [[(.str s55)]])), (.bool b60), (.sl 2 l48), (.sl 2 l49), (.sl 2 l50), (.int .i64 n51), (.int .i64 n52), (.bool b53), (.sl 2 l54)])
 else
 none
 else
 none
 else
 some (.inr (.inl [(.sl 2 l39), (.int .i64 n40), (.int .i64 (A.wrap .i64 (A.add n41 1))), (.sl 1 l45), (.sl 1 l46), (.bool b47), (.sl 2 l48), (.sl 2 l49), (.sl 2 l50), (.int .i64 n51), (.int .i64 n52), (.bool b53), (.sl 2 l54)]))
 ) [(.int .i64 n24), (.sl 2 l22), (.int .i64 n23), (.int .i64 n24), (.sl 1 l36), (.int .i64 (A.rlen l36)), (.int .i64 0), (.sl 1 l25), (.sl 1 l26), (.bool b27), (.sl 2 l28), (.sl 2 l29), (.sl 2 l30), (.int .i64 n31), (.int .i64 n32), (.bool b33), (.sl 2 l34)]
 else
 none
 else
 bif (A.bnot b27) then
 some (.inr (.inr (.val [(.int .i64 1)])))
 else
 (E.call 40 [(.d (.sl 1 l25))]).bind fun p69 =>
 (opB (A.cell p69.leaves 0)).bind fun b71 =>
 cutO (
 bif (A.bnot b71) then
 some (.inl [(.bool true)])
 else
 (E.call 40 [(.d (.sl 1 l26))]).bind fun p72 =>
 (opB (A.cell p72.leaves 0)).bind fun b74 =>
 some (.inl [(.bool (A.bnot b74))])
 ) fun ds75 =>
 (opB (A.cell ds75 0)).bind fun b76 =>
 bif b76 then
 some (.inr (.inr (.val [(.int .i64 6)])))
 else
 some (.inr (.inr (.val [(.int .i64 0)])))
 ) [(.sl 2 l5), (.int .i64 (A.rlen l5)), (.int .i64 0), (.sl 1 l9), (.sl 1 l10), (.bool b11), (.sl 2 l5), (.sl 2 l5), (.sl 2 l6), (.int .i64 n7), (.int .i64 n8), (.bool false), (.sl 2 l5)]
 ) [(.sl 2 l_), (.sl 2 l_), (.int .i64 (A.rlen l_)), (.int .i64 0), (.sl 1 []), (.sl 1 []), (.bool true)]
theorem g47_eq (A : Sy) (E : Env) (l_ : List (List D)) : (funT A Tryz.prog cs 47 [V.d (.sl 2 l_)]).run E = g47 A E l_ := by kernel_rfl
def g50 (A : Sy) (E : Env) (l_ : List (List D)) : Option PRes :=
 bif (A.ilt 4 (A.rlen l_)) then
 some (.val [(.int .i64 4)])
 else
 E.lp (fun ds1 =>
 (opL (A.cell ds1 0) 2).bind fun l2 =>
 (opI (A.cell ds1 1) .i64).bind fun n3 =>
 (opL (A.cell ds1 2) 1).bind fun l4 =>
 (opL (A.cell ds1 3) 1).bind fun l5 =>
 bif (A.ilt n3 (A.rlen l2)) then
 bif (A.inr n3 (A.rlen l2)) then
 (opL (A.cell (A.skip 1 (A.row l2 n3)) 0) 1).bind fun l6 =>
 bif (A.ilt 6 (A.rlen l6)) then
 some (.inr (.val [(.int .i64 4)]))
 else
 bif (A.inr n3 (A.rlen l2)) then
 (opS (A.cell (A.row l2 n3) 0)).bind fun s7 =>
 bif (A.fits l4 [[(.str s7)]] 16) then
 bif (A.inr n3 (A.rlen l2)) then
 (opL (A.cell (A.skip 1 (A.row l2 n3)) 0) 1).bind fun l8 =>
 bif (A.fits l5 l8 16) then
 some (.inl [(.sl 2 l2), (.int .i64 (A.wrap .i64 (A.add n3 1))), (.sl 1 (A.rapp l4 [[(.str s7)]])), (.sl 1 (A.rapp l5 l8))])
 else
 none
 else
 none
 else
 none
 else
 none
 else
 none
 else
 E.lp (fun ds9 =>
 (opL (A.cell ds9 0) 2).bind fun l10 =>
 (opI (A.cell ds9 1) .i64).bind fun n11 =>
 (opL (A.cell ds9 2) 1).bind fun l12 =>
 (opL (A.cell ds9 3) 1).bind fun l13 =>
 bif (A.ilt n11 (A.rlen l10)) then
 bif (A.inr n11 (A.rlen l10)) then
 (opS (A.cell (A.row l10 n11) 0)).bind fun s14 =>
 (E.call 52 [(.d (.str s14))]).bind fun p15 =>
 (opB (A.cell p15.leaves 0)).bind fun b17 =>
 cutO (
 bif (A.bnot b17) then
 some (.inl [(.bool true)])
 else
 bif (A.inr n11 (A.rlen l10)) then
 (opL (A.cell (A.skip 1 (A.row l10 n11)) 0) 1).bind fun l18 =>
 some (.inl [(.bool (A.ieq (A.rlen l18) 0))])
 else
 none
 ) fun ds19 =>
 (opB (A.cell ds19 0)).bind fun b20 =>
 bif b20 then
 some (.inr (.inr (.val [(.int .i64 1)])))
 else
 some (.inl [(.sl 2 l10), (.int .i64 (A.wrap .i64 (A.add n11 1))), (.sl 1 l12), (.sl 1 l13)])
 else
 none
 else
 E.lp (fun ds21 =>
 (opI (A.cell ds21 0) .i64).bind fun n22 =>
 (opL (A.cell ds21 1) 1).bind fun l23 =>
 (opL (A.cell ds21 2) 1).bind fun l24 =>
 bif (A.ilt n22 (A.rlen l24)) then
 bif (A.inr n22 (A.rlen l24)) then
 (opS (A.cell (A.rown l24 (A.nat n22)) 0)).bind fun s25 =>
 (E.call 104 [(.d (.str s25))]).bind fun p26 =>
 (opB (A.cell p26.leaves 0)).bind fun b28 =>
 bif (A.bnot b28) then
 some (.inr (.inr (.inr (.val [(.int .i64 1)]))))
 else
 some (.inl [(.int .i64 (A.wrap .i64 (A.add n22 1))), (.sl 1 l23), (.sl 1 l24)])
 else
 none
 else
 (E.call 54 [(.d (.sl 1 l23))]).bind fun p29 =>
 (opB (A.cell p29.leaves 0)).bind fun b31 =>
 cutO (
 bif (A.bnot b31) then
 some (.inl [(.bool true)])
 else
 (E.call 54 [(.d (.sl 1 l24))]).bind fun p32 =>
 (opB (A.cell p32.leaves 0)).bind fun b34 =>
 some (.inl [(.bool (A.bnot b34))])
 ) fun ds35 =>
 (opB (A.cell ds35 0)).bind fun b36 =>
 bif b36 then
 some (.inr (.inr (.inr (.val [(.int .i64 6)]))))
 else
 some (.inr (.inr (.inr (.val [(.int .i64 0)]))))
 ) [(.int .i64 0), (.sl 1 l12), (.sl 1 l13)]
 ) [(.sl 2 l2), (.int .i64 0), (.sl 1 l4), (.sl 1 l5)]
 ) [(.sl 2 l_), (.int .i64 0), (.sl 1 []), (.sl 1 [])]
theorem g50_eq (A : Sy) (E : Env) (l_ : List (List D)) : (funT A Tryz.prog cs 50 [V.d (.sl 2 l_)]).run E = g50 A E l_ := by kernel_rfl
def g94 (A : Sy) (E : Env) (l_ : List (List D)) : Option PRes :=
 cutO (
 bif (A.ilt 4 (A.rlen l_)) then
 some (.inl [(.bool true)])
 else
 (E.call 158 [(.d (.sl 2 l_)), (.fn 159 [])]).bind fun p1 =>
 (opB (A.cell p1.leaves 0)).bind fun b3 =>
 some (.inl [(.bool b3)])
 ) fun ds4 =>
 (opB (A.cell ds4 0)).bind fun b5 =>
 some (.val [(.bool b5)])
theorem g94_eq (A : Sy) (E : Env) (l_ : List (List D)) : (funT A Tryz.prog cs 94 [V.d (.sl 2 l_)]).run E = g94 A E l_ := by kernel_rfl
def g159 (A : Sy) (E : Env) (e_0 : ByteArray) (e_1 : List (List D)) : Option PRes :=
 some (.val [(.bool (A.ilt 6 (A.rlen e_1)))])
theorem g159_eq (A : Sy) (E : Env) (e_0 : ByteArray) (e_1 : List (List D)) : (funT A Tryz.prog cs 159 [V.agg [V.d (.str e_0), V.d (.sl 1 e_1)]]).run E = g159 A E e_0 e_1 := by kernel_rfl
def g166 (A : Sy) (E : Env) (s_ : List (List D)) (v_ : Bool) : Option PRes :=
 (E.call 214 [(.d (.sl 1 s_)), (.d (.bool v_))]).bind fun p1 =>
 (opI (A.cell p1.leaves 0) .i64).bind fun n3 =>
 some (.val [(.bool (A.ile 0 n3))])
theorem g166_eq (A : Sy) (E : Env) (s_ : List (List D)) (v_ : Bool) : (funT A Tryz.prog cs 166 [V.d (.sl 1 s_), V.d (.bool v_)]).run E = g166 A E s_ v_ := by kernel_rfl
def g214 (A : Sy) (E : Env) (s_ : List (List D)) (v_ : Bool) : Option PRes :=
 E.lp (fun ds1 =>
 (opL (A.cell ds1 0) 1).bind fun l2 =>
 (opB (A.cell ds1 1)).bind fun b3 =>
 (opI (A.cell ds1 2) .i64).bind fun n4 =>
 (opI (A.cell ds1 3) .i64).bind fun n5 =>
 bif (A.ilt n5 n4) then
 bif (A.inr n5 (A.rlen l2)) then
 (opB (A.cell (A.row l2 n5) 0)).bind fun b6 =>
 bif (A.beq b3 b6) then
 some (.inr (.val [(.int .i64 n5)]))
 else
 some (.inl [(.sl 1 l2), (.bool b3), (.int .i64 n4), (.int .i64 (A.wrap .i64 (A.add n5 1)))])
 else
 none
 else
 some (.inr (.val [(.int .i64 (-1))]))
 ) [(.sl 1 s_), (.bool v_), (.int .i64 (A.rlen s_)), (.int .i64 0)]
theorem g214_eq (A : Sy) (E : Env) (s_ : List (List D)) (v_ : Bool) : (funT A Tryz.prog cs 214 [V.d (.sl 1 s_), V.d (.bool v_)]).run E = g214 A E s_ v_ := by kernel_rfl
def g98 (A : Sy) (E : Env) (slices_ : List (List D)) : Option PRes :=
 E.lp (fun ds1 =>
 (opL (A.cell ds1 0) 1).bind fun l2 =>
 (opI (A.cell ds1 1) .i64).bind fun n3 =>
 (opL (A.cell ds1 2) 1).bind fun l4 =>
 (opI (A.cell ds1 3) .i64).bind fun n5 =>
 (opI (A.cell ds1 4) .i64).bind fun n6 =>
 bif (A.ilt n6 n5) then
 bif (A.inr n6 (A.rlen l4)) then
 (opL (A.cell (A.row l4 n6) 0) 4).bind fun l7 =>
 bif (A.ilt (A.wrap .i64 (A.add n3 (A.rlen l7))) 0) then
 none
 else
 some (.inl [(.sl 1 l2), (.int .i64 (A.wrap .i64 (A.add n3 (A.rlen l7)))), (.sl 1 l4), (.int .i64 n5), (.int .i64 (A.wrap .i64 (A.add n6 1)))])
 else
 none
 else
 bif (A.ilt n3 0) then
 none
 else
 bif (A.ilt 0 (A.wrap .i64 (A.sub n3 (A.wrap .i64 (A.sub 0 0))))) then
 bif (A.cutok 0 0 0) then
 bif (A.mkz (A.wrap .i64 (A.sub n3 (A.wrap .i64 (A.sub 0 0)))) 40) then
 bif (A.cutok 0 0 (A.rlen (A.rep (A.wrap .i64 (A.sub n3 (A.wrap .i64 (A.sub 0 0)))) [(.str (bs [])), (.int .i64 0), (.int .i64 0), (.int .i64 0)]))) then
 E.lp (fun ds8 =>
 (opL (A.cell ds8 0) 1).bind fun l9 =>
 (opI (A.cell ds8 1) .i64).bind fun n10 =>
 (opI (A.cell ds8 2) .i64).bind fun n11 =>
 (opL (A.cell ds8 3) 4).bind fun l12 =>
 bif (A.ilt n11 n10) then
 bif (A.inr n11 (A.rlen l9)) then
 (opL (A.cell (A.row l9 n11) 0) 4).bind fun l13 =>
 bif (A.fits l12 l13 40) then
 some (.inl [(.sl 1 l9), (.int .i64 n10), (.int .i64 (A.wrap .i64 (A.add n11 1))), (.sl 4 (A.rapp l12 l13))])
 else
 none
 else
 none
 else
 some (.inr (.inr (.own 89 4 l12)))
 ) [(.sl 1 l2), (.int .i64 (A.rlen l2)), (.int .i64 0), (.sl 4 (A.head (A.rep (A.wrap .i64 (A.sub n3 (A.wrap .i64 (A.sub 0 0)))) [(.str (bs [])), (.int .i64 0), (.int .i64 0), (.int .i64 0)]) 0))]
 else
 none
 else
 none
 else
 none
 else
 E.lp (fun ds14 =>
 (opL (A.cell ds14 0) 1).bind fun l15 =>
 (opI (A.cell ds14 1) .i64).bind fun n16 =>
 (opI (A.cell ds14 2) .i64).bind fun n17 =>
 (opL (A.cell ds14 3) 4).bind fun l18 =>
 bif (A.ilt n17 n16) then
 bif (A.inr n17 (A.rlen l15)) then
 (opL (A.cell (A.row l15 n17) 0) 4).bind fun l19 =>
 bif (A.fits l18 l19 40) then
 some (.inl [(.sl 1 l15), (.int .i64 n16), (.int .i64 (A.wrap .i64 (A.add n17 1))), (.sl 4 (A.rapp l18 l19))])
 else
 none
 else
 none
 else
 some (.inr (.inr (.own 89 4 l18)))
 ) [(.sl 1 l2), (.int .i64 (A.rlen l2)), (.int .i64 0), (.sl 4 [])]
 ) [(.sl 1 slices_), (.int .i64 0), (.sl 1 slices_), (.int .i64 (A.rlen slices_)), (.int .i64 0)]
theorem g98_eq (A : Sy) (E : Env) (slices_ : List (List D)) : (funT A Tryz.prog cs 98 [V.d (.sl 1 slices_)]).run E = g98 A E slices_ := by kernel_rfl
def g158_159 (A : Sy) (E : Env)(l : List (List D)) : Option PRes :=
 (E.call 213 [(.d (.sl 2 l)), (.fn 159 [])]).bind fun p1 =>
 (opI (A.cell p1.leaves 0) .i64).bind fun n3 =>
 some (.val [(.bool (A.ile 0 n3))])
theorem g158_159_eq (A : Sy) (E : Env)(l : List (List D)) : (funT A Tryz.prog cs 158 [V.d (.sl 2 l), V.fn 159 []]).run E = g158_159 A E l := by kernel_rfl
def g213_159 (A : Sy) (E : Env)(l : List (List D)) : Option PRes :=
 E.lp (fun ds1 =>
 (opL (A.cell ds1 0) 2).bind fun l2 =>
 (opI (A.cell ds1 1) .i64).bind fun n3 =>
 (opI (A.cell ds1 2) .i64).bind fun n4 =>
 bif (A.ilt n4 n3) then
 bif (A.inr n4 (A.rlen l2)) then
 (opS (A.cell (A.row l2 n4) 0)).bind fun s5 =>
 (opL (A.cell (A.row l2 n4) 1) 1).bind fun l6 =>
 (E.call 159 [(.agg [(.d (.str s5)), (.d (.sl 1 l6))])]).bind fun p7 =>
 (opB (A.cell p7.leaves 0)).bind fun b9 =>
 bif b9 then
 some (.inr (.val [(.int .i64 n4)]))
 else
 some (.inl [(.sl 2 l2), (.int .i64 n3), (.int .i64 (A.wrap .i64 (A.add n4 1)))])
 else
 none
 else
 some (.inr (.val [(.int .i64 (-1))]))
 ) [(.sl 2 l), (.int .i64 (A.rlen l)), (.int .i64 0)]
theorem g213_159_eq (A : Sy) (E : Env)(l : List (List D)) : (funT A Tryz.prog cs 213 [V.d (.sl 2 l), V.fn 159 []]).run E = g213_159 A E l := by kernel_rfl
end Go.Vm
end

section
set_option linter.all false
set_option maxRecDepth 100000
set_option maxHeartbeats 4000000
namespace Go.Vm
open Go.Proofs
theorem enm_at {l : List Enm} {i : Nat} {x : Enm} (h : l[i]? = some x) : sy.row (erows l) (i : Int) = [.str x.name, .sl 1 (srows x.ctors)] := erows_at h
theorem inner_lp {X : Option (List D ⊕ PRes)} {P E : Prop} {R : PRes → Prop} {L : List D} (key : ∃ r, X = some r ∧ ((r = .inl L ∧ E) ∨ ∃ q, r = .inr q ∧ R q)) (k : X = some (.inl L) → E → P) : P ∨ ∃ q, X = some (.inr q) ∧ R q := by
  obtain ⟨r, h, h2⟩ := key
  rcases h2 with ⟨rfl, e⟩ | ⟨q, rfl, h3⟩
  · exact .inl (k h e)
  · exact .inr ⟨q, h, h3⟩
/-- How long a name and its values' names may be. -/
def EB (x : Enm) : Prop := x.name.size ≤ 100 ∧ x.ctors.length ≤ 12 ∧ ∀ c ∈ x.ctors, c.size ≤ 100
theorem c_rSmall (l : List Enm) : ∃ p, cF 43 [.d (.sl 2 (erows l))] = some p ∧ ∃ b, p = .val [.bool b] ∧ (b = true → l.length ≤ 8 ∧ ∀ x ∈ l, EB x) := by
  refine cOfP (by kernel_rfl) rfl ?_
  rw [g43_eq]
  unfold g43
  by_cases h8 : 8 < (l.length : Int)
  · refine ⟨_, ?_, false, rfl, fun h => by cases h⟩
    rw [show sy.ilt 8 (sy.rlen (erows l)) = true from decT (by rw [sy_rlen, erows_len]; exact h8)]; rfl
  · rw [show sy.ilt 8 (sy.rlen (erows l)) = false from decF (by rw [sy_rlen, erows_len]; exact h8), cond_false, eF_lp]
    refine loopF_ex (fun i : Nat => [.sl 2 (erows l), .int .i64 (i : Int)]) (fun i => i ≤ l.length ∧ ∀ j (h : j < l.length), j < i → EB l[j]) (fun i => l.length - i) (fun i hi => ?_) 0 ⟨Nat.zero_le _, by omega⟩
    obtain ⟨hi, hE⟩ := hi
    by_cases hlt : i < l.length
    · have hx := List.getElem?_eq_getElem hlt
      by_cases h12 : l[i].ctors.length ≤ 12
      · by_cases h100 : l[i].name.size ≤ 100
        · simp only [go1, Option.bind_some, eq_self, cond_true, cond_false, Nat.reduceAdd, Int.reduceEq, Int.reduceLT, Int.reduceLE, Int.reduceSub, Int.reduceAdd, erows_len, srows_len, ilt_at hlt, inr_at hlt, enm_at hx, skip1, decF (p := 12 < (l[i].ctors.length : Int)) (by omega), decF (p := 100 < (l[i].name.size : Int)) (by omega)]
          refine inner_lp (L := [D.sl 2 (erows l), D.int IntKind.i64 ((i : Int) + 1)]) (E := ∀ c ∈ l[i].ctors, c.size ≤ 100) ?_ (fun hr he => ⟨i + 1, hr, ⟨hlt, fun j hj hji => ?_⟩, by omega⟩)
          · refine loopF_ex (fun j : Nat => [.sl 2 (erows l), .int .i64 (i : Int), .int .i64 (j : Int)]) (fun j => j ≤ l[i].ctors.length ∧ ∀ k (h : k < l[i].ctors.length), k < j → l[i].ctors[k].size ≤ 100) (fun j => l[i].ctors.length - j) (fun j hj => ?_) 0 ⟨Nat.zero_le _, by omega⟩
            obtain ⟨hj, hC⟩ := hj
            by_cases hjl : j < l[i].ctors.length
            · have hy := List.getElem?_eq_getElem hjl
              by_cases hc : l[i].ctors[j].size ≤ 100
              · left
                refine ⟨j + 1, ?_, ⟨hjl, fun k hk hkj => ?_⟩, by omega⟩
                · simp only [go1, Option.bind_some, eq_self, cond_true, cond_false, Nat.reduceAdd, Int.reduceEq, Int.reduceLT, Int.reduceLE, Int.reduceSub, Int.reduceAdd, erows_len, srows_len, inr_at hlt, ilt_at hjl, inr_at hjl, enm_at hx, skip1, srows_at hy, decF (p := 100 < (l[i].ctors[j].size : Int)) (by omega), wrap_succ hjl (by omega)]
                  rfl
                · by_cases e : k = j
                  · subst e; exact hc
                  · exact hC k hk (by omega)
              · right
                refine ⟨.inr (.val [.bool false]), ?_, .inr ⟨_, rfl, false, rfl, fun h => by cases h⟩⟩
                simp only [go1, Option.bind_some, eq_self, cond_true, cond_false, Nat.reduceAdd, Int.reduceEq, Int.reduceLT, Int.reduceLE, Int.reduceSub, Int.reduceAdd, erows_len, srows_len, inr_at hlt, ilt_at hjl, inr_at hjl, enm_at hx, skip1, srows_at hy, decT (p := 100 < (l[i].ctors[j].size : Int)) (by omega)]
            · have : j = l[i].ctors.length := by omega
              subst this
              right
              refine ⟨_, ?_, .inl ⟨rfl, fun c hc => ?_⟩⟩
              · simp only [go1, Option.bind_some, eq_self, cond_true, cond_false, Nat.reduceAdd, Int.reduceEq, Int.reduceLT, Int.reduceLE, Int.reduceSub, Int.reduceAdd, erows_len, srows_len, inr_at hlt, ilt_self, enm_at hx, skip1, wrap_succ hlt (by omega)]
              · obtain ⟨k, hk, rfl⟩ := List.getElem_of_mem hc
                exact hC k hk hk
          · by_cases e : j = i
            · subst e; exact ⟨h100, h12, he⟩
            · exact hE j hj (by omega)
        · right
          refine ⟨.val [.bool false], ?_, false, rfl, fun h => by cases h⟩
          simp only [go1, Option.bind_some, eq_self, cond_true, cond_false, Nat.reduceAdd, Int.reduceEq, Int.reduceLT, Int.reduceLE, Int.reduceSub, Int.reduceAdd, erows_len, srows_len, ilt_at hlt, inr_at hlt, enm_at hx, skip1, decF (p := 12 < (l[i].ctors.length : Int)) (by omega), decT (p := 100 < (l[i].name.size : Int)) (by omega)]
      · right
        refine ⟨.val [.bool false], ?_, false, rfl, fun h => by cases h⟩
        simp only [go1, Option.bind_some, eq_self, cond_true, cond_false, Nat.reduceAdd, Int.reduceEq, Int.reduceLT, Int.reduceLE, Int.reduceSub, Int.reduceAdd, erows_len, srows_len, ilt_at hlt, inr_at hlt, enm_at hx, skip1, decT (p := 12 < (l[i].ctors.length : Int)) (by omega)]
    · right
      have : i = l.length := by omega
      subst this
      refine ⟨.val [.bool true], ?_, true, rfl, fun _ => ⟨by omega, fun x hx => ?_⟩⟩
      · simp only [go1, Option.bind_some, eq_self, cond_true, cond_false, Nat.reduceAdd, Int.reduceEq, Int.reduceLT, Int.reduceLE, Int.reduceSub, Int.reduceAdd, erows_len, ilt_self]
      · obtain ⟨k, hk, rfl⟩ := List.getElem_of_mem hx
        exact hE k hk hk
end Go.Vm
end

section
set_option linter.all false
set_option maxRecDepth 100000
set_option maxHeartbeats 4000000
namespace Go.Vm
open Go.Proofs
/-! ### high names, and each one once -/
theorem c_nameG (s : ByteArray) : cF 160 [.d (.str s), .fn 164 []] = some (.val [.bool (nameN greatN (tb s))]) := by
  refine cOf (by kernel_rfl) rfl ?_
  rw [g160_164_eq]
  simp only [g160_164, go1, Option.bind_some, eq_self, cond_true, cond_false, Nat.reduceAdd, Int.reduceEq, Int.reduceLT, Int.reduceLE, Int.reduceSub, Int.reduceAdd]
  refine loopF_at (fun p : Nat => [.str s, .str s, .int .i64 (p : Int)]) (fun p => p ≤ (tb s).length ∧ ((tb s).take p).all innerN = true ∧ (0 < p → greatN ((tb s).getD 0 0) = true)) (fun p => (tb s).length - p) (fun p hp => ?_) 0 ⟨Nat.zero_le _, by simp, by omega⟩
  obtain ⟨hle, hall, hfst⟩ := hp
  by_cases hlt : p < (tb s).length
  · by_cases hc : (tb s).getD p 0 < 128
    · obtain ⟨e1, e2⟩ := dec_small hc
      simp only [go1, Option.bind_some, eq_self, cond_true, cond_false, Nat.reduceAdd, Int.reduceEq, Int.reduceLT, Int.reduceLE, Int.reduceSub, Int.reduceAdd, size_tb, ilt_at hlt, sy_rdec, sy_rwid, e1, e2, c_small, c_great, c_digit, inI_small, inI_great, inI_digit]
      have hi := inner_def ((tb s).getD p 0)
      by_cases h0 : p = 0
      · subst h0
        cases hs : greatN ((tb s).getD 0 0) with
        | false =>
          right
          rw [nameN_first hs]
          simp only [go1, Option.bind_some, eq_self, cond_true, cond_false, Nat.reduceAdd, Int.reduceEq, Int.reduceLT, Int.reduceLE, Int.reduceSub, Int.reduceAdd]; rfl
        | true =>
          left
          rw [hs] at hi
          refine ⟨0 + 1, ?_, ⟨hlt, all_snoc hlt hall (by rw [hi]; simp), fun _ => (by first | rfl | exact hs)⟩, by omega⟩
          cases smallN ((tb s).getD 0 0) <;> simp only [go1, Option.bind_some, eq_self, cond_true, cond_false, Nat.reduceAdd, Int.reduceEq, Int.reduceLT, Int.reduceLE, Int.reduceSub, Int.reduceAdd] <;> rfl
      · rw [decF (p := (p : Int) = 0) (by omega)]
        cases hin : innerN ((tb s).getD p 0) with
        | false =>
          right
          rw [nameN_bad hlt hin]
          rw [hin] at hi
          have hi := hi.symm
          simp only [Bool.or_eq_false_iff] at hi
          obtain ⟨⟨⟨i1, i2⟩, i3⟩, i4⟩ := hi
          have i4' : ¬ (((tb s).getD p 0 : Nat) : Int) = 95 := by
            have := of_decide_eq_false i4; omega
          rw [decF i4']
          simp only [i1, i2, i3, go1, Option.bind_some, eq_self, cond_true, cond_false, Nat.reduceAdd, Int.reduceEq, Int.reduceLT, Int.reduceLE, Int.reduceSub, Int.reduceAdd]
        | true =>
          left
          refine ⟨p + 1, ?_, ⟨hlt, all_snoc hlt hall hin, fun _ => hfst (by omega)⟩, by omega⟩
          rw [hin] at hi
          cases i1 : smallN ((tb s).getD p 0) <;> cases i2 : greatN ((tb s).getD p 0) <;> cases i3 : digitN ((tb s).getD p 0) <;> rw [i1, i2, i3] at hi <;> simp only [go1, Option.bind_some, eq_self, cond_true, cond_false, Nat.reduceAdd, Int.reduceEq, Int.reduceLT, Int.reduceLE, Int.reduceSub, Int.reduceAdd] <;> (try rfl)
          all_goals
            simp only [Bool.or_self, Bool.false_or] at hi
            have i4 := of_decide_eq_true hi.symm
            rw [decT (p := (((tb s).getD p 0 : Nat) : Int) = 95) (by omega)]
            rfl
    · have hb := dec_big (s := s) (i := p) (by omega)
      right
      have hin : innerN ((tb s).getD p 0) = false := by
        exact inner_big (by omega)
      rw [nameN_bad hlt hin]
      have hz : ¬ decR s (p : Int) = 95 := by omega
      simp only [go1, Option.bind_some, eq_self, cond_true, cond_false, Nat.reduceAdd, Int.reduceEq, Int.reduceLT, Int.reduceLE, Int.reduceSub, Int.reduceAdd, size_tb, ilt_at hlt, sy_rdec, sy_rwid, c_small, c_great, c_digit, inI_big (a := 97) (b := 122) (n := decR s (p : Int)) (by omega), inI_big (a := 65) (b := 90) (n := decR s (p : Int)) (by omega), inI_big (a := 48) (b := 57) (n := decR s (p : Int)) (by omega), decF hz]
      cases decide ((p : Int) = 0) 
      · simp only [cond_true, cond_false, Bool.not_false, go1, Option.bind_some, eq_self, cond_true, cond_false, Nat.reduceAdd, Int.reduceEq, Int.reduceLT, Int.reduceLE, Int.reduceSub, Int.reduceAdd]; simp [hz]
      · rfl
  · right
    have : p = (tb s).length := by omega
    subst this
    simp only [go1, Option.bind_some, eq_self, cond_true, cond_false, Nat.reduceAdd, Int.reduceEq, Int.reduceLT, Int.reduceLE, Int.reduceSub, Int.reduceAdd, size_tb, ilt_self]
    rw [List.take_length] at hall
    unfold nameN
    rw [hall, Bool.and_true]
    by_cases h0 : 0 < (tb s).length
    · rw [hfst h0, Bool.and_true]
      by_cases h12 : (tb s).length ≤ 12
      · rw [decT (p := 1 ≤ ((tb s).length : Int)) (by omega), decT (p := ((tb s).length : Int) ≤ 12) (by omega), decT (p := 1 ≤ (tb s).length) (by omega), decT h12]
        first | done | rfl
      · rw [decT (p := 1 ≤ ((tb s).length : Int)) (by omega), decF (p := ((tb s).length : Int) ≤ 12) (by omega), decF h12]
        first | done | rfl | simp
    · rw [decF (p := 1 ≤ ((tb s).length : Int)) (by omega), decF (p := 1 ≤ (tb s).length) (by omega)]
      first | done | rfl | simp
theorem c_rnameG (s : ByteArray) (hs : s.size ≤ 100000) : cF 108 [.d (.str s), .d (.int .u8 65), .d (.int .u8 90)] = some (.val [.bool (nameN greatN (tb s))]) := by
  have hl := tb_len s
  by_cases h1 : 1 ≤ (tb s).length ∧ (tb s).length ≤ 12
  · have hc := c_in (((tb s).getD 0 0 : Nat) : Int) 65 90
    rw [inI_great] at hc
    refine cOf (by kernel_rfl) rfl ?_
    rw [g108_eq]
    simp only [g108, go1, Option.bind_some, eq_self, cond_true, cond_false, Nat.reduceAdd, Int.reduceEq, Int.reduceLT, Int.reduceLE, Int.reduceSub, Int.reduceAdd, size_tb, byte_tb0, hc]
    rw [decF (p := ((tb s).length : Int) < 1) (by omega), decF (p := 12 < ((tb s).length : Int)) (by omega), decT (p := 0 < ((tb s).length : Int)) (by omega)]
    cases hs0 : greatN ((tb s).getD 0 0) with
    | false => rw [nameN_first hs0]; rfl
    | true =>
      simp only [go1, Option.bind_some, eq_self, cond_true, cond_false, Nat.reduceAdd, Int.reduceEq, Int.reduceLT, Int.reduceLE, Int.reduceSub, Int.reduceAdd]
      refine loopF_at (fun p : Nat => [.str s, .int .i64 (p : Int)]) (fun p => p ≤ (tb s).length ∧ ((tb s).take p).all innerN = true) (fun p => (tb s).length - p) (fun p hp => ?_) 0 ⟨Nat.zero_le _, by simp⟩
      by_cases hlt : p < (tb s).length
      · have hi := inner_def ((tb s).getD p 0)
        simp only [go1, Option.bind_some, eq_self, cond_true, cond_false, Nat.reduceAdd, Int.reduceEq, Int.reduceLT, Int.reduceLE, Int.reduceSub, Int.reduceAdd, size_tb, ilt_at hlt, inr_at hlt, byte_tb, c_in, inI_small, inI_great, inI_digit, wrap_succ hlt (by omega)]
        cases hin : innerN ((tb s).getD p 0) with
        | false =>
          right
          rw [nameN_bad hlt hin]
          rw [hin] at hi
          have hi := hi.symm
          simp only [Bool.or_eq_false_iff] at hi
          obtain ⟨⟨⟨i1, i2⟩, i3⟩, i4⟩ := hi
          have i4' : ¬ (((tb s).getD p 0 : Nat) : Int) = 95 := by
            have := of_decide_eq_false i4; omega
          rw [decF i4']
          simp only [i1, i2, i3, go1, Option.bind_some, eq_self, cond_true, cond_false, Nat.reduceAdd, Int.reduceEq, Int.reduceLT, Int.reduceLE, Int.reduceSub, Int.reduceAdd]
          try rfl
        | true =>
          left
          refine ⟨p + 1, ?_, ⟨hlt, all_snoc hlt hp.2 hin⟩, by omega⟩
          rw [hin] at hi
          cases i1 : smallN ((tb s).getD p 0) <;> cases i2 : greatN ((tb s).getD p 0) <;> cases i3 : digitN ((tb s).getD p 0) <;> rw [i1, i2, i3] at hi <;> simp only [go1, Option.bind_some, eq_self, cond_true, cond_false, Nat.reduceAdd, Int.reduceEq, Int.reduceLT, Int.reduceLE, Int.reduceSub, Int.reduceAdd] <;> (try rfl)
          all_goals
            simp only [Bool.or_self, Bool.false_or] at hi
            have i4 := of_decide_eq_true hi.symm
            rw [decT (p := (((tb s).getD p 0 : Nat) : Int) = 95) (by omega)]
            rfl
      · right
        have : p = (tb s).length := by omega
        subst this
        simp only [go1, Option.bind_some, eq_self, cond_true, cond_false, Nat.reduceAdd, Int.reduceEq, Int.reduceLT, Int.reduceLE, Int.reduceSub, Int.reduceAdd, size_tb, ilt_self]
        rw [List.take_length] at hp
        unfold nameN
        rw [hp.2, hs0, decT h1.1, decT h1.2]
        rfl
  · have hn : nameN greatN (tb s) = false := by
      unfold nameN
      by_cases h : 1 ≤ (tb s).length
      · rw [decF (p := (tb s).length ≤ 12) (by omega)]; simp
      · rw [decF h]; simp
    rw [hn]
    refine cOf (by kernel_rfl) rfl ?_
    rw [g108_eq]
    simp only [g108, go1, Option.bind_some, eq_self, cond_true, cond_false, Nat.reduceAdd, Int.reduceEq, Int.reduceLT, Int.reduceLE, Int.reduceSub, Int.reduceAdd, size_tb]
    by_cases h : 1 ≤ (tb s).length
    · rw [decT (p := 12 < ((tb s).length : Int)) (by omega)]; simp only [go1, Option.bind_some, eq_self, cond_true, cond_false, Nat.reduceAdd, Int.reduceEq, Int.reduceLT, Int.reduceLE, Int.reduceSub, Int.reduceAdd]; try rfl
    · rw [decT (p := ((tb s).length : Int) < 1) (by omega)]; simp only [go1, Option.bind_some, eq_self, cond_true, cond_false, Nat.reduceAdd, Int.reduceEq, Int.reduceLT, Int.reduceLE, Int.reduceSub, Int.reduceAdd]; try rfl
end Go.Vm
end

section
set_option linter.all false
set_option maxRecDepth 100000
set_option maxHeartbeats 4000000
namespace Go.Vm
open Go.Proofs
theorem c_High (s : ByteArray) : cF 97 [.d (.str s)] = some (.val [.bool (nameN greatN (tb s))]) := by
  have h := c_nameG s
  refine cOf (by kernel_rfl) rfl ?_
  rw [g97_eq]
  simp only [g97, go1, Option.bind_some, eq_self, cond_true, cond_false, Nat.reduceAdd, Int.reduceEq, Int.reduceLT, Int.reduceLE, Int.reduceSub, Int.reduceAdd, h]
theorem c_rHigh (s : ByteArray) (hs : s.size ≤ 100000) : cF 104 [.d (.str s)] = some (.val [.bool (nameN greatN (tb s))]) := by
  have h := c_rnameG s hs
  refine cOf (by kernel_rfl) rfl ?_
  rw [g104_eq]
  simp only [g104, go1, Option.bind_some, eq_self, cond_true, cond_false, Nat.reduceAdd, Int.reduceEq, Int.reduceLT, Int.reduceLE, Int.reduceSub, Int.reduceAdd, h]
/-- So many rounds. -/
theorem rep_loop {α : Type} {b : List D → Option (List D ⊕ α)} {r : α} (n : Nat) (mk : Nat → List D) (hb : ∀ i, i < n → b (mk i) = some (.inl (mk (i + 1)))) (hend : b (mk n) = some (.inr r)) : loopF b (mk 0) = some r := by
  refine loopF_at mk (fun i => i ≤ n) (fun i => n - i) (fun i hi => ?_) 0 (Nat.zero_le _)
  by_cases h : i < n
  · exact .inl ⟨i + 1, hb i h, h, by omega⟩
  · have : i = n := by omega
    subst this
    exact .inr hend
theorem rep_loop2 {α : Type} {b : List D → Option (List D ⊕ α)} {r : α} {ds : List D} (n : Nat) (mk : Nat → List D) (h0 : ds = mk 0) (hb : ∀ i, i < n → b (mk i) = some (.inl (mk (i + 1)))) (hend : b (mk n) = some (.inr r)) : loopF b ds = some r := by
  rw [h0]; exact rep_loop n mk hb hend
theorem mem_take_at {l : List ByteArray} {i j : Nat} {y : ByteArray} (hj : j < i) (h : l[j]? = some y) : y ∈ l.take i := by
  refine List.mem_of_getElem? (i := j) ?_
  rw [List.getElem?_take, if_pos hj, h]
theorem c_rOnce (l : List ByteArray) (hl : l.length ≤ 1000000) : cF 54 [.d (.sl 1 (srows l))] = some (.val [.bool (decide l.Nodup)]) := by
  refine cOf (by kernel_rfl) rfl ?_
  rw [g54_eq]
  simp only [g54, go1, Option.bind_some, eq_self, cond_true, cond_false, Nat.reduceAdd, Int.reduceEq, Int.reduceLT, Int.reduceLE, Int.reduceSub, Int.reduceAdd]
  refine loopF_at (fun i : Nat => [.sl 1 (srows l), .int .i64 (i : Int)]) (fun i => i ≤ l.length ∧ (l.take i).Nodup) (fun i => l.length - i) (fun i hi => ?_) 0 ⟨Nat.zero_le _, by simp⟩
  by_cases hlt : i < l.length
  · have hx := List.getElem?_eq_getElem hlt
    simp only [go1, Option.bind_some, eq_self, cond_true, cond_false, Nat.reduceAdd, Int.reduceEq, Int.reduceLT, Int.reduceLE, Int.reduceSub, Int.reduceAdd, srows_len, ilt_at hlt]
    by_cases hm : l[i] ∈ l.take i
    · right
      rw [decF (nodup_not hx hm)]
      refine loopF_at (fun j : Nat => [.sl 1 (srows l), .int .i64 (i : Int), .int .i64 (j : Int)]) (fun j => j ≤ i ∧ ∃ k, j ≤ k ∧ k < i ∧ l[k]? = some l[i]) (fun j => i - j) (fun j hj => ?_) 0 ⟨Nat.zero_le _, ?_⟩
      · obtain ⟨hj, k, hk1, hk2, hk3⟩ := hj
        have hjl : j < i := by omega
        have hjl2 : j < l.length := by omega
        have hy := List.getElem?_eq_getElem hjl2
        by_cases he : tb l[j] = tb l[i]
        · right
          simp only [go1, Option.bind_some, eq_self, cond_true, cond_false, Nat.reduceAdd, Int.reduceEq, Int.reduceLT, Int.reduceLE, Int.reduceSub, Int.reduceAdd, srows_len, ilt_at hjl, inr_at hlt, inr_at hjl2, srows_at hx, srows_at hy, seq_tb, decT he]
        · left
          refine ⟨j + 1, ?_, ⟨hjl, k, ?_, hk2, hk3⟩, by omega⟩
          · simp only [go1, Option.bind_some, eq_self, cond_true, cond_false, Nat.reduceAdd, Int.reduceEq, Int.reduceLT, Int.reduceLE, Int.reduceSub, Int.reduceAdd, srows_len, ilt_at hjl, inr_at hlt, inr_at hjl2, srows_at hx, srows_at hy, seq_tb, decF he, wrap_succ hjl (by omega)]
            rfl
          · rcases Nat.lt_or_ge j k with h | h
            · exact h
            · have : j = k := by omega
              subst this
              rw [hy] at hk3
              exact absurd (by rw [Option.some.inj hk3]) he
      · obtain ⟨k, hk⟩ := List.getElem?_of_mem hm
        rw [List.getElem?_take] at hk
        split at hk
        · rename_i hki
          exact ⟨k, Nat.zero_le _, hki, hk⟩
        · cases hk
    · left
      refine ⟨i + 1, ?_, ⟨hlt, nodup_snoc hx hi.2 hm⟩, by omega⟩
      refine rep_loop i (fun j => [.sl 1 (srows l), .int .i64 (i : Int), .int .i64 (j : Int)]) (fun j hjl => ?_) ?_
      · have hjl2 : j < l.length := by omega
        have hy := List.getElem?_eq_getElem hjl2
        have he : ¬ tb l[j] = tb l[i] := fun e => hm (by rw [← tb_inj e]; exact mem_take_at hjl hy)
        simp only [go1, Option.bind_some, eq_self, cond_true, cond_false, Nat.reduceAdd, Int.reduceEq, Int.reduceLT, Int.reduceLE, Int.reduceSub, Int.reduceAdd, srows_len, ilt_at hjl, inr_at hlt, inr_at hjl2, srows_at hx, srows_at hy, seq_tb, decF he, wrap_succ hjl (by omega)]
        rfl
      · simp only [go1, Option.bind_some, eq_self, cond_true, cond_false, Nat.reduceAdd, Int.reduceEq, Int.reduceLT, Int.reduceLE, Int.reduceSub, Int.reduceAdd, ilt_self, wrap_succ hlt (by omega)]
        rfl
  · right
    have : i = l.length := by omega
    subst this
    simp only [go1, Option.bind_some, eq_self, cond_true, cond_false, Nat.reduceAdd, Int.reduceEq, Int.reduceLT, Int.reduceLE, Int.reduceSub, Int.reduceAdd, srows_len, ilt_self]
    rw [List.take_length] at hi
    rw [decT hi.2]
/-! ### enums -/
def greatE (l : List Enm) : Bool := decide (4 < (l.length : Int)) || l.any fun e => decide (6 < (e.ctors.length : Int))
def ctorsE (l : List Enm) : List ByteArray := l.flatMap (·.ctors)
def lowE (l : List Enm) : Bool := l.all fun e => lowN (tb e.name) && decide (0 < (e.ctors.length : Int))
def highE (l : List ByteArray) : Bool := l.all fun c => nameN greatN (tb c)
def enumsN (l : List Enm) : Int := bif greatE l then 4 else bif !(lowE l && highE (ctorsE l)) then 1 else bif !(decide (l.map (·.name)).Nodup) || !(decide (ctorsE l).Nodup) then 6 else 0
theorem great_bd {l : List Enm} (h : greatE l = false) : l.length ≤ 4 ∧ ∀ e ∈ l, e.ctors.length ≤ 6 := by
  unfold greatE at h
  rw [Bool.or_eq_false_iff] at h
  refine ⟨by have := of_decide_eq_false h.1; omega, fun e he => ?_⟩
  have := List.any_eq_false.1 h.2 e he
  simp at this
  omega
theorem ctorsE_take {l : List Enm} {i : Nat} {x : Enm} (h : l[i]? = some x) : ctorsE (l.take (i + 1)) = ctorsE (l.take i) ++ x.ctors := by
  rw [List.take_add_one, h]; simp [ctorsE]
theorem lowE_take {l : List Enm} {i : Nat} {x : Enm} (h : l[i]? = some x) : lowE (l.take (i + 1)) = (lowE (l.take i) && (lowN (tb x.name) && decide (0 < (x.ctors.length : Int)))) := by
  rw [List.take_add_one, h]; simp [lowE]
theorem highE_app (a b : List ByteArray) : highE (a ++ b) = (highE a && highE b) := by simp [highE]
theorem highE_take {l : List ByteArray} {i : Nat} {x : ByteArray} (h : l[i]? = some x) : highE (l.take (i + 1)) = (highE (l.take i) && nameN greatN (tb x)) := by
  rw [List.take_add_one, h]; simp [highE]
theorem names_take {l : List Enm} {i : Nat} {x : Enm} (h : l[i]? = some x) : (l.take (i + 1)).map (·.name) = (l.take i).map (·.name) ++ [x.name] := by
  rw [List.take_add_one, h, List.map_append]; rfl
theorem ctorsE_bd : ∀ {l : List Enm}, (∀ e ∈ l, e.ctors.length ≤ 6) → (ctorsE l).length ≤ 6 * l.length
  | [], _ => by simp [ctorsE]
  | x :: l, h => by
    have h1 := h x List.mem_cons_self
    have h2 := ctorsE_bd (l := l) fun e he => h e (List.mem_cons_of_mem _ he)
    unfold ctorsE at *
    simp only [List.flatMap_cons, List.length_append, List.length_cons]
    omega
theorem ctorsE_tbd {l : List Enm} (i : Nat) : (ctorsE (l.take i)).length ≤ (ctorsE l).length := by
  have h : ctorsE l = ctorsE (l.take i) ++ ctorsE (l.drop i) := by
    unfold ctorsE
    rw [← List.flatMap_append, List.take_append_drop]
  rw [h, List.length_append]; omega
theorem srows_snoc (a : List ByteArray) (x : ByteArray) : srows (a ++ [x]) = srows a ++ [[.str x]] := by rw [← srows_app]; rfl
theorem c_great1 (a : ByteArray) (b : List (List D)) : cF 159 [V.agg [.d (.str a), .d (.sl 1 b)]] = some (.val [.bool (decide (6 < (b.length : Int)))]) := by
  refine cOf (by kernel_rfl) rfl ?_
  rw [g159_eq]
  simp only [g159, go1, Option.bind_some, eq_self, cond_true, cond_false, Nat.reduceAdd, Int.reduceEq, Int.reduceLT, Int.reduceLE, Int.reduceSub, Int.reduceAdd]
theorem c_tyGreat (l : List Enm) (hl : l.length ≤ 1000000) : cF 94 [.d (.sl 2 (erows l))] = some (.val [.bool (greatE l)]) := by
  have h1 : cF 213 [.d (.sl 2 (erows l)), .fn 159 []] = some (.val [.int .i64 (idxI (fun e : Enm => decide (6 < (e.ctors.length : Int))) l 0)]) := by
    refine cOf (by kernel_rfl) rfl ?_
    rw [g213_159_eq]
    simp only [g213_159, go1, Option.bind_some, eq_self, cond_true, cond_false, Nat.reduceAdd, Int.reduceEq, Int.reduceLT, Int.reduceLE, Int.reduceSub, Int.reduceAdd, erows_len]
    refine idx_loop (fun e : Enm => decide (6 < (e.ctors.length : Int))) l (fun i => [.sl 2 (erows l), .int .i64 (l.length : Int), .int .i64 i]) (fun i x hx => ?_) ?_
    · have hlt := (List.getElem?_eq_some_iff.1 hx).1
      simp only [go1, Option.bind_some, eq_self, cond_true, cond_false, Nat.reduceAdd, Int.reduceEq, Int.reduceLT, Int.reduceLE, Int.reduceSub, Int.reduceAdd, erows_len, srows_len, ilt_at hlt, inr_at hlt, enm_at hx, c_great1, wrap_succ hlt (by omega)]
    · simp only [go1, Option.bind_some, eq_self, cond_true, cond_false, Nat.reduceAdd, Int.reduceEq, Int.reduceLT, Int.reduceLE, Int.reduceSub, Int.reduceAdd, ilt_self]
  have h2 : cF 158 [.d (.sl 2 (erows l)), .fn 159 []] = some (.val [.bool (l.any fun e : Enm => decide (6 < (e.ctors.length : Int)))]) := by
    refine cOf (by kernel_rfl) rfl ?_
    rw [g158_159_eq]
    simp only [g158_159, go1, Option.bind_some, eq_self, cond_true, cond_false, Nat.reduceAdd, Int.reduceEq, Int.reduceLT, Int.reduceLE, Int.reduceSub, Int.reduceAdd, h1]
    rw [idxI_any _ _ _ (by omega)]
  unfold greatE
  refine cOf (by kernel_rfl) rfl ?_
  rw [g94_eq]
  simp only [g94, go1, Option.bind_some, eq_self, cond_true, cond_false, Nat.reduceAdd, Int.reduceEq, Int.reduceLT, Int.reduceLE, Int.reduceSub, Int.reduceAdd, erows_len, h2]
end Go.Vm
end

section
set_option linter.all false
set_option maxRecDepth 100000
set_option maxHeartbeats 4000000
namespace Go.Vm
open Go.Proofs
theorem c_tyEnums (l : List Enm) (hl : l.length ≤ 1000000) : cF 47 [.d (.sl 2 (erows l))] = some (.val [.int .i64 (enumsN l)]) := by
  have hg := c_tyGreat l hl
  unfold enumsN
  cases hG : greatE l with
  | true =>
    rw [hG] at hg
    refine cOf (by kernel_rfl) rfl ?_
    rw [g47_eq]
    simp only [g47, go1, Option.bind_some, eq_self, cond_true, cond_false, Nat.reduceAdd, Int.reduceEq, Int.reduceLT, Int.reduceLE, Int.reduceSub, Int.reduceAdd, hg]
  | false =>
    rw [hG] at hg
    obtain ⟨h4, h6⟩ := great_bd hG
    have hcb := ctorsE_bd h6
    have hO1 := c_iOnce (l.map (·.name)) (by simp; omega)
    have hO2 := c_iOnce (ctorsE l) (by omega)
    refine cOf (by kernel_rfl) rfl ?_
    rw [g47_eq]
    simp only [g47, go1, Option.bind_some, eq_self, cond_true, cond_false, Nat.reduceAdd, Int.reduceEq, Int.reduceLT, Int.reduceLE, Int.reduceSub, Int.reduceAdd, hg, erows_len]
    refine rep_loop l.length (fun i => [.sl 2 (erows l), .sl 2 (erows l), .int .i64 (l.length : Int), .int .i64 (i : Int), .sl 1 (srows ((l.take i).map (·.name))), .sl 1 [], .bool (lowE (l.take i))]) (fun i hlt => ?_) ?_
    · have hx := List.getElem?_eq_getElem hlt
      have hL := c_Low l[i].name
      have hf : decide (((srows ((l.take i).map (·.name))).length + 1) * 17 ≤ 140737488355328) = true := decT (by rw [srows_len, List.length_map, List.length_take]; omega)
      rw [names_take hx, srows_snoc, lowE_take hx]
      simp only [go1, Option.bind_some, eq_self, cond_true, cond_false, Nat.reduceAdd, Int.reduceEq, Int.reduceLT, Int.reduceLE, Int.reduceSub, Int.reduceAdd, erows_len, srows_len, ilt_at hlt, inr_at hlt, enm_at hx, hL, List.length_cons, List.length_nil, wrap_succ hlt (by omega)] at hf ⊢
      rw [hf, Bool.and_assoc]
      rfl
    · simp only [go1, Option.bind_some, eq_self, cond_true, cond_false, Nat.reduceAdd, Int.reduceEq, Int.reduceLT, Int.reduceLE, Int.reduceSub, Int.reduceAdd, erows_len, ilt_self, List.take_length]
      refine rep_loop2 l.length (fun i => [.sl 2 (erows l), .int .i64 (l.length : Int), .int .i64 (i : Int), .sl 1 (srows (l.map (·.name))), .sl 1 (srows (ctorsE (l.take i))), .bool (highE (ctorsE (l.take i)) && lowE l), .sl 2 (erows l), .sl 2 (erows l), .sl 2 (erows l), .int .i64 (l.length : Int), .int .i64 (l.length : Int), .bool false, .sl 2 (erows l)]) rfl (fun i hlt => ?_) ?_
      · have hx := List.getElem?_eq_getElem hlt
        have hci := h6 _ (List.getElem_mem hlt)
        have hb1 := ctorsE_tbd (l := l) i
        rw [ctorsE_take hx]
        simp only [go1, Option.bind_some, eq_self, cond_true, cond_false, Nat.reduceAdd, Int.reduceEq, Int.reduceLT, Int.reduceLE, Int.reduceSub, Int.reduceAdd, erows_len, srows_len, ilt_at hlt, inr_at hlt, enm_at hx]
        refine rep_loop2 l[i].ctors.length (fun j => [.int .i64 (i : Int), .sl 2 (erows l), .int .i64 (l.length : Int), .int .i64 (i : Int), .sl 1 (srows l[i].ctors), .int .i64 (l[i].ctors.length : Int), .int .i64 (j : Int), .sl 1 (srows (l.map (·.name))), .sl 1 (srows (ctorsE (l.take i) ++ l[i].ctors.take j)), .bool (highE (ctorsE (l.take i) ++ l[i].ctors.take j) && lowE l), .sl 2 (erows l), .sl 2 (erows l), .sl 2 (erows l), .int .i64 (l.length : Int), .int .i64 (l.length : Int), .bool false, .sl 2 (erows l)]) (by rw [List.take_zero, List.append_nil]; rfl) (fun j hj => ?_) ?_
        · have hy := List.getElem?_eq_getElem hj
          have hH := c_High l[i].ctors[j]
          have hf : decide (((ctorsE (l.take i) ++ l[i].ctors.take j).length + 1) * 17 ≤ 140737488355328) = true := decT (by rw [List.length_append, List.length_take]; omega)
          rw [highE_app _ (l[i].ctors.take (j + 1)), highE_take hy, ← Bool.and_assoc, ← highE_app, List.take_add_one, hy, Option.toList_some, ← List.append_assoc, srows_snoc]
          simp only [go1, Option.bind_some, eq_self, cond_true, cond_false, Nat.reduceAdd, Int.reduceEq, Int.reduceLT, Int.reduceLE, Int.reduceSub, Int.reduceAdd, srows_len, ilt_at hj, inr_at hj, srows_at hy, hH, hf, List.length_cons, List.length_nil, wrap_succ hj (by omega)]
          rw [Bool.and_right_comm]
          rfl
        · simp only [go1, Option.bind_some, eq_self, cond_true, cond_false, Nat.reduceAdd, Int.reduceEq, Int.reduceLT, Int.reduceLE, Int.reduceSub, Int.reduceAdd, ilt_self, List.take_length, wrap_succ hlt (by omega)]
          rfl
      · simp only [go1, Option.bind_some, eq_self, cond_true, cond_false, Nat.reduceAdd, Int.reduceEq, Int.reduceLT, Int.reduceLE, Int.reduceSub, Int.reduceAdd, ilt_self, List.take_length, hO1, hO2]
        rw [Bool.and_comm (lowE l)]
        cases highE (ctorsE l) && lowE l
        · rfl
        · cases decide (l.map (·.name)).Nodup <;> cases decide (ctorsE l).Nodup <;> rfl
end Go.Vm
end

section
set_option linter.all false
set_option maxRecDepth 100000
set_option maxHeartbeats 4000000
namespace Go.Vm
open Go.Proofs
theorem enumsN_great {l : List Enm} (h : greatE l = true) : enumsN l = 4 := by unfold enumsN; rw [h]; rfl
theorem enumsN_low {l : List Enm} (h : greatE l = false) (h1 : lowE l = false) : enumsN l = 1 := by unfold enumsN; rw [h, h1]; rfl
theorem enumsN_high {l : List Enm} (h : greatE l = false) (h1 : highE (ctorsE l) = false) : enumsN l = 1 := by unfold enumsN; rw [h, h1, Bool.and_false]; rfl
theorem low_bad {l : List Enm} {i : Nat} (hi : i < l.length) (h : (lowN (tb l[i].name) && decide (0 < (l[i].ctors.length : Int))) = false) : lowE l = false := by
  unfold lowE
  rw [List.all_eq_false]
  exact ⟨l[i], List.getElem_mem hi, by rw [h]; simp⟩
theorem high_bad {l : List ByteArray} {i : Nat} (hi : i < l.length) (h : nameN greatN (tb l[i]) = false) : highE l = false := by
  unfold highE
  rw [List.all_eq_false]
  exact ⟨l[i], List.getElem_mem hi, by rw [h]; simp⟩
theorem c_rtyEnums (l : List Enm) (hl : l.length ≤ 1000000) (hE : ∀ x ∈ l, EB x) : cF 50 [.d (.sl 2 (erows l))] = some (.val [.int .i64 (enumsN l)]) := by
  by_cases h4 : 4 < (l.length : Int)
  · have hG : greatE l = true := by unfold greatE; rw [decT h4]; rfl
    rw [enumsN_great hG]
    refine cOf (by kernel_rfl) rfl ?_
    rw [g50_eq]
    simp only [g50, go1, Option.bind_some, eq_self, cond_true, cond_false, Nat.reduceAdd, Int.reduceEq, Int.reduceLT, Int.reduceLE, Int.reduceSub, Int.reduceAdd, erows_len, decT h4]
  · refine cOf (by kernel_rfl) rfl ?_
    rw [g50_eq]
    simp only [g50, go1, Option.bind_some, eq_self, cond_true, cond_false, Nat.reduceAdd, Int.reduceEq, Int.reduceLT, Int.reduceLE, Int.reduceSub, Int.reduceAdd, erows_len, decF h4]
    refine loopF_at (fun i : Nat => [.sl 2 (erows l), .int .i64 (i : Int), .sl 1 (srows ((l.take i).map (·.name))), .sl 1 (srows (ctorsE (l.take i)))]) (fun i => i ≤ l.length ∧ ∀ e ∈ l.take i, e.ctors.length ≤ 6) (fun i => l.length - i) (fun i hi => ?_) 0 ⟨Nat.zero_le _, by simp⟩
    obtain ⟨hi, h6⟩ := hi
    have hcb := ctorsE_bd h6
    rw [List.length_take] at hcb
    by_cases hlt : i < l.length
    · have hx := List.getElem?_eq_getElem hlt
      by_cases hc : 6 < (l[i].ctors.length : Int)
      · right
        have hG : greatE l = true := by
          unfold greatE
          rw [Bool.or_eq_true]
          exact .inr (List.any_eq_true.2 ⟨l[i], List.getElem_mem hlt, decT hc⟩)
        rw [enumsN_great hG]
        simp only [go1, Option.bind_some, eq_self, cond_true, cond_false, Nat.reduceAdd, Int.reduceEq, Int.reduceLT, Int.reduceLE, Int.reduceSub, Int.reduceAdd, erows_len, srows_len, ilt_at hlt, inr_at hlt, enm_at hx, skip1, decT hc]
      · left
        refine ⟨i + 1, ?_, ⟨hlt, fun e he => ?_⟩, by omega⟩
        · have hf : decide (((l.take i).length + 1) * 17 ≤ 140737488355328) = true := decT (by rw [List.length_take]; omega)
          have hf2 : decide (((ctorsE (l.take i)).length + l[i].ctors.length) * 17 ≤ 140737488355328) = true := decT (by omega)
          rw [names_take hx, srows_snoc, ctorsE_take hx, ← srows_app]
          simp only [go1, Option.bind_some, eq_self, cond_true, cond_false, Nat.reduceAdd, Int.reduceEq, Int.reduceLT, Int.reduceLE, Int.reduceSub, Int.reduceAdd, erows_len, srows_len, List.length_map, ilt_at hlt, inr_at hlt, enm_at hx, skip1, decF hc, List.length_cons, List.length_nil, hf, hf2, wrap_succ hlt (by omega)]
          rfl
        · rw [List.take_add_one, hx] at he
          rcases List.mem_append.1 he with he | he
          · exact h6 e he
          · simp at he; subst he; omega
    · have : i = l.length := by omega
      subst this
      right
      rw [List.take_length] at h6 hcb
      have hG : greatE l = false := by
        unfold greatE
        rw [Bool.or_eq_false_iff]
        refine ⟨decF h4, List.any_eq_false.2 fun e he => ?_⟩
        have := h6 e he
        simp; omega
      simp only [go1, Option.bind_some, eq_self, cond_true, cond_false, Nat.reduceAdd, Int.reduceEq, Int.reduceLT, Int.reduceLE, Int.reduceSub, Int.reduceAdd, erows_len, ilt_self, List.take_length]
      refine loopF_at (fun i : Nat => [.sl 2 (erows l), .int .i64 (i : Int), .sl 1 (srows (l.map (·.name))), .sl 1 (srows (ctorsE l))]) (fun i => i ≤ l.length ∧ lowE (l.take i) = true) (fun i => l.length - i) (fun i hi => ?_) 0 ⟨Nat.zero_le _, rfl⟩
      obtain ⟨hi, hw⟩ := hi
      by_cases hlt : i < l.length
      · have hx := List.getElem?_eq_getElem hlt
        have hL := c_rLow l[i].name (by have := (hE _ (List.getElem_mem hlt)).1; omega)
        cases hb : lowN (tb l[i].name) && decide (0 < (l[i].ctors.length : Int)) with
        | false =>
          right
          rw [enumsN_low hG (low_bad hlt hb)]
          simp only [go1, Option.bind_some, eq_self, cond_true, cond_false, Nat.reduceAdd, Int.reduceEq, Int.reduceLT, Int.reduceLE, Int.reduceSub, Int.reduceAdd, erows_len, srows_len, ilt_at hlt, inr_at hlt, enm_at hx, skip1, hL]
          cases h1 : lowN (tb l[i].name) with
          | false => simp only [go1, Option.bind_some, eq_self, cond_true, cond_false, Nat.reduceAdd, Int.reduceEq, Int.reduceLT, Int.reduceLE, Int.reduceSub, Int.reduceAdd]
          | true =>
            rw [h1, Bool.true_and] at hb
            have hb := of_decide_eq_false hb
            rw [decT (p := (l[i].ctors.length : Int) = 0) (by omega)]
            simp only [go1, Option.bind_some, eq_self, cond_true, cond_false, Nat.reduceAdd, Int.reduceEq, Int.reduceLT, Int.reduceLE, Int.reduceSub, Int.reduceAdd]
        | true =>
          left
          refine ⟨i + 1, ?_, ⟨hlt, by rw [lowE_take hx, hw, hb]; rfl⟩, by omega⟩
          rw [Bool.and_eq_true] at hb
          have hz := of_decide_eq_true hb.2
          simp only [go1, Option.bind_some, eq_self, cond_true, cond_false, Nat.reduceAdd, Int.reduceEq, Int.reduceLT, Int.reduceLE, Int.reduceSub, Int.reduceAdd, erows_len, srows_len, ilt_at hlt, inr_at hlt, enm_at hx, skip1, hL, hb.1, decF (p := (l[i].ctors.length : Int) = 0) (by omega), wrap_succ hlt (by omega)]
          rfl
      · have : i = l.length := by omega
        subst this
        right
        rw [List.take_length] at hw
        have hO1 := c_rOnce (l.map (·.name)) (by simp; omega)
        have hO2 := c_rOnce (ctorsE l) (by omega)
        simp only [go1, Option.bind_some, eq_self, cond_true, cond_false, Nat.reduceAdd, Int.reduceEq, Int.reduceLT, Int.reduceLE, Int.reduceSub, Int.reduceAdd, erows_len, ilt_self]
        refine loopF_at (fun i : Nat => [.int .i64 (i : Int), .sl 1 (srows (l.map (·.name))), .sl 1 (srows (ctorsE l))]) (fun i => i ≤ (ctorsE l).length ∧ highE ((ctorsE l).take i) = true) (fun i => (ctorsE l).length - i) (fun i hi => ?_) 0 ⟨Nat.zero_le _, rfl⟩
        obtain ⟨hi, hh⟩ := hi
        by_cases hlt : i < (ctorsE l).length
        · have hx := List.getElem?_eq_getElem hlt
          have hsz : (ctorsE l)[i].size ≤ 100000 := by
            have hm := List.getElem_mem hlt
            unfold ctorsE at hm
            obtain ⟨e, he, hc⟩ := List.mem_flatMap.1 hm
            have := (hE e he).2.2 _ hc
            exact Nat.le_trans this (by omega)
          have hH := c_rHigh (ctorsE l)[i] hsz
          have hrn : sy.rown (srows (ctorsE l)) i = sy.row (srows (ctorsE l)) (i : Int) := by rw [sy_row, sy_rown, Int.toNat_natCast]
          cases hb : nameN greatN (tb (ctorsE l)[i]) with
          | false =>
            right
            rw [enumsN_high hG (high_bad hlt hb)]
            rw [hb] at hH
            simp only [go1, Option.bind_some, eq_self, cond_true, cond_false, Nat.reduceAdd, Int.reduceEq, Int.reduceLT, Int.reduceLE, Int.reduceSub, Int.reduceAdd, srows_len, ilt_at hlt, inr_at hlt, Int.toNat_natCast, hrn, srows_at hx, hH]
          | true =>
            left
            rw [hb] at hH
            refine ⟨i + 1, ?_, ⟨hlt, by rw [highE_take hx, hh, hb]; rfl⟩, by omega⟩
            simp only [go1, Option.bind_some, eq_self, cond_true, cond_false, Nat.reduceAdd, Int.reduceEq, Int.reduceLT, Int.reduceLE, Int.reduceSub, Int.reduceAdd, srows_len, ilt_at hlt, inr_at hlt, Int.toNat_natCast, hrn, srows_at hx, hH, wrap_succ hlt (by omega)]
            rfl
        · have : i = (ctorsE l).length := by omega
          subst this
          right
          rw [List.take_length] at hh
          unfold enumsN
          simp only [go1, Option.bind_some, eq_self, cond_true, cond_false, Nat.reduceAdd, Int.reduceEq, Int.reduceLT, Int.reduceLE, Int.reduceSub, Int.reduceAdd, srows_len, ilt_self, hO1, hO2, hG, hw, hh]
          cases decide (l.map (·.name)).Nodup <;> cases decide (ctorsE l).Nodup <;> rfl
end Go.Vm
end

section
set_option linter.all false
set_option maxRecDepth 100000
set_option maxHeartbeats 4000000
namespace Go.Vm
open Go.Proofs
/-! ### ports -/
structure Prt where
  name : ByteArray
  ty : Tyy
instance : Inhabited Prt := ⟨⟨ByteArray.empty, default⟩⟩
def Prt.row (x : Prt) : List D := [.str x.name, .int .i64 x.ty.k, .int .i64 x.ty.e, .int .i64 x.ty.n]
def prows (l : List Prt) : List (List D) := l.map Prt.row
theorem prows_len (l : List Prt) : (prows l).length = l.length := by simp [prows]
theorem prows_app (a b : List Prt) : prows a ++ prows b = prows (a ++ b) := by simp [prows]
theorem prt_at {l : List Prt} {i : Nat} {x : Prt} (h : l[i]? = some x) : sy.row (prows l) (i : Int) = [.str x.name, .int .i64 x.ty.k, .int .i64 x.ty.e, .int .i64 x.ty.n] := by
  rw [sy_row, Int.toNat_natCast, List.getD_eq_getElem?_getD]
  unfold prows
  rw [List.getElem?_map, h]; rfl
/-! ### truths -/
def brows (l : List Bool) : List (List D) := l.map fun b => [.bool b]
theorem brows_len (l : List Bool) : (brows l).length = l.length := by simp [brows]
theorem brow_at {l : List Bool} {i : Nat} {x : Bool} (h : l[i]? = some x) : sy.row (brows l) (i : Int) = [.bool x] := by
  rw [sy_row, Int.toNat_natCast, List.getD_eq_getElem?_getD]
  unfold brows
  rw [List.getElem?_map, h]; rfl
theorem c_sAll (l : List Bool) (hl : l.length ≤ 1000000) : cF 99 [.d (.sl 1 (brows l))] = some (.val [.bool (!(l.any fun b => false == b))]) := by
  have h1 : cF 214 [.d (.sl 1 (brows l)), .d (.bool false)] = some (.val [.int .i64 (idxI (fun b : Bool => false == b) l 0)]) := by
    refine cOf (by kernel_rfl) rfl ?_
    rw [g214_eq]
    simp only [g214, go1, Option.bind_some, eq_self, cond_true, cond_false, Nat.reduceAdd, Int.reduceEq, Int.reduceLT, Int.reduceLE, Int.reduceSub, Int.reduceAdd, brows_len]
    refine idx_loop (fun b : Bool => false == b) l (fun i => [.sl 1 (brows l), .bool false, .int .i64 (l.length : Int), .int .i64 i]) (fun i x hx => ?_) ?_
    · have hlt := (List.getElem?_eq_some_iff.1 hx).1
      simp only [go1, Option.bind_some, eq_self, cond_true, cond_false, Nat.reduceAdd, Int.reduceEq, Int.reduceLT, Int.reduceLE, Int.reduceSub, Int.reduceAdd, brows_len, ilt_at hlt, inr_at hlt, brow_at hx, wrap_succ hlt (by omega)]
    · simp only [go1, Option.bind_some, eq_self, cond_true, cond_false, Nat.reduceAdd, Int.reduceEq, Int.reduceLT, Int.reduceLE, Int.reduceSub, Int.reduceAdd, ilt_self]
  have h2 : cF 166 [.d (.sl 1 (brows l)), .d (.bool false)] = some (.val [.bool (l.any fun b : Bool => false == b)]) := by
    refine cOf (by kernel_rfl) rfl ?_
    rw [g166_eq]
    simp only [g166, go1, Option.bind_some, eq_self, cond_true, cond_false, Nat.reduceAdd, Int.reduceEq, Int.reduceLT, Int.reduceLE, Int.reduceSub, Int.reduceAdd, h1]
    rw [idxI_any _ _ _ (by omega)]
  refine cOf (by kernel_rfl) rfl ?_
  rw [g99_eq]
  simp only [g99, go1, Option.bind_some, eq_self, cond_true, cond_false, Nat.reduceAdd, Int.reduceEq, Int.reduceLT, Int.reduceLE, Int.reduceSub, Int.reduceAdd, h2]
theorem c_sAll2 (a b : Bool) : cF 99 [.d (.sl 1 [[.bool a], [.bool b]])] = some (.val [.bool (a && b)]) := by
  have h := c_sAll [a, b] (by simp)
  have e : (!([a, b].any fun b => false == b)) = (a && b) := by cases a <;> cases b <;> rfl
  rw [e] at h
  exact h
theorem c_sAll3 (a b c : Bool) : cF 99 [.d (.sl 1 [[.bool a], [.bool b], [.bool c]])] = some (.val [.bool (a && (b && c))]) := by
  have h := c_sAll [a, b, c] (by simp)
  have e : (!([a, b, c].any fun b => false == b)) = (a && (b && c)) := by cases a <;> cases b <;> cases c <;> rfl
  rw [e] at h
  exact h
/-! ### one list behind the other -/
theorem c_concP (a b : List (List D)) (ha : a.length ≤ 100000) (hb : b.length ≤ 100000) : cF 98 [.d (.sl 1 [[.sl 4 a], [.sl 4 b]])] = some (.own 89 4 (a ++ b)) := by
  refine cOf (by kernel_rfl) rfl ?_
  rw [g98_eq]
  simp only [g98, go1, Option.bind_some, eq_self, cond_true, cond_false, Nat.reduceAdd, Int.reduceEq, Int.reduceLT, Int.reduceLE, Int.reduceSub, Int.reduceAdd]
  have inner : ∀ s : List (List D), s = [] → loopF (fun ds8 => (opL (sy.cell ds8 0) 1).bind fun l9 => (opI (sy.cell ds8 1) IntKind.i64).bind fun n10 => (opI (sy.cell ds8 2) IntKind.i64).bind fun n11 => (opL (sy.cell ds8 3) 4).bind fun l12 =>
      bif decide (n11 < n10) then bif decide (0 ≤ n11 ∧ n11 < (l9.length : Int)) then (opL (sy.cell (sy.row l9 n11) 0) 4).bind fun l13 => bif decide ((l12.length + l13.length) * 41 ≤ 140737488355328) then
        some (Sum.inl [D.sl 1 l9, D.int IntKind.i64 n10, D.int IntKind.i64 (IntKind.i64.wrap (n11 + 1)), D.sl 4 (l12 ++ l13)]) else none else none
      else some (Sum.inr (Sum.inr (PRes.own 89 4 l12)) : List D ⊕ (List D ⊕ PRes))) [.sl 1 [[.sl 4 a], [.sl 4 b]], .int .i64 2, .int .i64 0, .sl 4 s] = some (.inr (.own 89 4 (a ++ b))) := by
    intro s hs
    subst hs
    have r0 : sy.cell (sy.row [[D.sl 4 a], [D.sl 4 b]] 0) 0 = some (.sl 4 a) := rfl
    have r1 : sy.cell (sy.row [[D.sl 4 a], [D.sl 4 b]] 1) 0 = some (.sl 4 b) := rfl
    have hl : (([[D.sl 4 a], [D.sl 4 b]] : List (List D)).length : Int) = 2 := rfl
    rw [loopF_eq]
    simp (disch := omega) only [wrap_id, decT, decF, go1, Option.bind_some, eq_self, cond_true, cond_false, Nat.reduceAdd, Int.reduceEq, Int.reduceLT, Int.reduceLE, Int.reduceSub, Int.reduceAdd, hl, r0, List.nil_append, List.length_nil]
    rw [loopF_eq]
    simp (disch := omega) only [wrap_id, decT, decF, go1, Option.bind_some, eq_self, cond_true, cond_false, Nat.reduceAdd, Int.reduceEq, Int.reduceLT, Int.reduceLE, Int.reduceSub, Int.reduceAdd, hl, r1]
    rw [loopF_eq]
    simp (disch := omega) only [wrap_id, decT, decF, go1, Option.bind_some, eq_self, cond_true, cond_false, Nat.reduceAdd, Int.reduceEq, Int.reduceLT, Int.reduceLE, Int.reduceSub, Int.reduceAdd, hl]
  have r0 : sy.cell (sy.row [[D.sl 4 a], [D.sl 4 b]] 0) 0 = some (.sl 4 a) := rfl
  have r1 : sy.cell (sy.row [[D.sl 4 a], [D.sl 4 b]] 1) 0 = some (.sl 4 b) := rfl
  have hl : (([[D.sl 4 a], [D.sl 4 b]] : List (List D)).length : Int) = 2 := rfl
  rw [loopF_eq]
  simp (disch := omega) only [wrap_id, decT, decF, go1, Option.bind_some, eq_self, cond_true, cond_false, Nat.reduceAdd, Int.reduceEq, Int.reduceLT, Int.reduceLE, Int.reduceSub, Int.reduceAdd, hl, r0]
  rw [loopF_eq]
  simp (disch := omega) only [wrap_id, decT, decF, go1, Option.bind_some, eq_self, cond_true, cond_false, Nat.reduceAdd, Int.reduceEq, Int.reduceLT, Int.reduceLE, Int.reduceSub, Int.reduceAdd, hl, r1]
  rw [loopF_eq]
  simp (disch := omega) only [wrap_id, decT, decF, go1, Option.bind_some, eq_self, cond_true, cond_false, Nat.reduceAdd, Int.reduceEq, Int.reduceLT, Int.reduceLE, Int.reduceSub, Int.reduceAdd, hl, Int.toNat_zero, List.take_zero]
  by_cases hz : 0 < a.length + b.length
  · rw [decT (p := 0 < 0 + (a.length : Int) + (b.length : Int) - 0) (by omega), decT (p := 0 < 0 + (a.length : Int) + (b.length : Int) - 0 ∧ _) (by omega)]
    simp only [cond_true]
    rw [inner [] rfl]
  · rw [decF (p := 0 < 0 + (a.length : Int) + (b.length : Int) - 0) (by omega)]
    simp only [cond_false]
    rw [inner [] rfl]
end Go.Vm
end

section
set_option linter.all false
set_option maxRecDepth 100000
set_option maxHeartbeats 4000000
namespace Go.Vm
open Go.Proofs
/-! ### images -/
structure Img where
  enums : List Enm
  ins : List Prt
  outs : List Prt
  slots : List Slt
  locals : List Int
  code : List Ins
def Img.v (x : Img) : V := .agg [.d (.sl 2 (erows x.enums)), .d (.sl 4 (prows x.ins)), .d (.sl 4 (prows x.outs)), .d (.sl 6 (slrows x.slots)), .d (.sl 1 (irows x.locals)), .d (.sl 4 (crows x.code))]
/-- Not too great. -/
structure IB (x : Img) : Prop where
  en : x.enums.length ≤ 8
  eb : ∀ e ∈ x.enums, EB e
  pn : x.ins.length + x.outs.length ≤ 50
  pb : ∀ p ∈ x.ins ++ x.outs, p.name.size ≤ 200
  sn : x.slots.length ≤ 150
  sb : ∀ s ∈ x.slots, s.path.size ≤ 300 ∧ s.init.length ≤ 300
  ln : x.locals.length ≤ 1100
  cn : x.code.length ≤ 800
theorem IB.slots {x : Img} (h : IB x) : SB x.slots := ⟨by have := h.sn; omega, fun s hs => by have := (h.sb s hs).1; omega, fun s hs => by have := (h.sb s hs).2; omega⟩
theorem rown_at {l : List (List D)} (i : Nat) : sy.rown l i = sy.row l (i : Int) := by rw [sy_row, sy_rown, Int.toNat_natCast]
theorem prown_at {l : List Prt} {i : Nat} {x : Prt} (h : l[i]? = some x) : sy.rown (prows l) i = [.str x.name, .int .i64 x.ty.k, .int .i64 x.ty.e, .int .i64 x.ty.n] := by rw [rown_at, prt_at h]
theorem c_iFew (x : Img) (hp : x.ins.length + x.outs.length ≤ 1000000000000000) : ∃ p, cF 16 [x.v] = some p ∧ ∃ b, p = .val [.bool b] ∧ (b = true → IB x) := by
  obtain ⟨_, hS, bS, rfl, hb⟩ := c_rSmall x.enums
  obtain ⟨enums, ins, outs, slots, locals, code⟩ := x
  unfold Img.v
  simp only at hp hS hb ⊢
  have hw : IntKind.i64.wrap ((ins.length : Int) + (outs.length : Int)) = (ins.length : Int) + (outs.length : Int) := wrap_id (by omega) (by omega)
  have no : ∃ b, PRes.val [.bool false] = .val [.bool b] ∧ (b = true → IB ⟨enums, ins, outs, slots, locals, code⟩) := ⟨false, rfl, fun h => by cases h⟩
  cases bS with
  | false =>
    refine ⟨.val [.bool false], ?_, no⟩
    refine cOf (by kernel_rfl) rfl ?_
    rw [g16_eq]
    simp only [g16, go1, Option.bind_some, eq_self, cond_true, cond_false, Nat.reduceAdd, Int.reduceEq, Int.reduceLT, Int.reduceLE, Int.reduceSub, Int.reduceAdd, hS]
  | true =>
    obtain ⟨e1, e2⟩ := hb rfl
    by_cases h1 : 50 < (ins.length : Int) + (outs.length : Int)
    · refine ⟨.val [.bool false], ?_, no⟩
      refine cOf (by kernel_rfl) rfl ?_
      rw [g16_eq]
      simp only [g16, go1, Option.bind_some, eq_self, cond_true, cond_false, Nat.reduceAdd, Int.reduceEq, Int.reduceLT, Int.reduceLE, Int.reduceSub, Int.reduceAdd, hS, prows_len, hw, decT h1]
    by_cases h2 : 150 < (slots.length : Int)
    · refine ⟨.val [.bool false], ?_, no⟩
      refine cOf (by kernel_rfl) rfl ?_
      rw [g16_eq]
      simp only [g16, go1, Option.bind_some, eq_self, cond_true, cond_false, Nat.reduceAdd, Int.reduceEq, Int.reduceLT, Int.reduceLE, Int.reduceSub, Int.reduceAdd, hS, prows_len, slrows_len, hw, decF h1, decT h2]
    by_cases h3 : 1100 < (locals.length : Int)
    · refine ⟨.val [.bool false], ?_, no⟩
      refine cOf (by kernel_rfl) rfl ?_
      rw [g16_eq]
      simp only [g16, go1, Option.bind_some, eq_self, cond_true, cond_false, Nat.reduceAdd, Int.reduceEq, Int.reduceLT, Int.reduceLE, Int.reduceSub, Int.reduceAdd, hS, prows_len, slrows_len, irows_len, hw, decF h1, decF h2, decT h3]
    by_cases h4 : 800 < (code.length : Int)
    · refine ⟨.val [.bool false], ?_, no⟩
      refine cOf (by kernel_rfl) rfl ?_
      rw [g16_eq]
      simp only [g16, go1, Option.bind_some, eq_self, cond_true, cond_false, Nat.reduceAdd, Int.reduceEq, Int.reduceLT, Int.reduceLE, Int.reduceSub, Int.reduceAdd, hS, prows_len, slrows_len, irows_len, crows_len, hw, decF h1, decF h2, decF h3, decT h4]
    have hf1 : decide ((0 + ins.length) * 41 ≤ 140737488355328) = true := decT (by omega)
    have hf1' : decide (ins.length * 41 ≤ 140737488355328) = true := decT (by omega)
    have hf2 : decide ((ins.length + outs.length) * 41 ≤ 140737488355328) = true := decT (by omega)
    refine cOfP (by kernel_rfl) rfl ?_
    rw [g16_eq]
    simp only [g16, go1, Option.bind_some, eq_self, cond_true, cond_false, Nat.reduceAdd, Int.reduceEq, Int.reduceLT, Int.reduceLE, Int.reduceSub, Int.reduceAdd, hS, prows_len, slrows_len, irows_len, crows_len, hw, decF h1, decF h2, decF h3, decF h4, List.length_nil, hf1, hf1', hf2, List.nil_append, prows_app]
    refine loopF_ex (fun i : Nat => [.int .i64 (i : Int), .sl 2 (erows enums), .sl 4 (prows ins), .sl 4 (prows outs), .sl 6 (slrows slots), .sl 1 (irows locals), .sl 4 (crows code), .sl 4 (prows (ins ++ outs))]) (fun i => i ≤ (ins ++ outs).length ∧ ∀ j (h : j < (ins ++ outs).length), j < i → (ins ++ outs)[j].name.size ≤ 200) (fun i => (ins ++ outs).length - i) (fun i hi => ?_) 0 ⟨Nat.zero_le _, by omega⟩
    obtain ⟨hi, hN⟩ := hi
    have hpl : (ins ++ outs).length ≤ 50 := by rw [List.length_append]; omega
    by_cases hlt : i < (ins ++ outs).length
    · have hx := List.getElem?_eq_getElem hlt
      by_cases hn : 200 < ((ins ++ outs)[i].name.size : Int)
      · right
        refine ⟨.val [.bool false], ?_, no⟩
        simp only [go1, Option.bind_some, eq_self, cond_true, cond_false, Nat.reduceAdd, Int.reduceEq, Int.reduceLT, Int.reduceLE, Int.reduceSub, Int.reduceAdd, prows_len, ilt_at hlt, inr_at hlt, Int.toNat_natCast, prown_at hx, decT hn]
      · left
        refine ⟨i + 1, ?_, ⟨hlt, fun j hj hji => ?_⟩, by omega⟩
        · simp only [go1, Option.bind_some, eq_self, cond_true, cond_false, Nat.reduceAdd, Int.reduceEq, Int.reduceLT, Int.reduceLE, Int.reduceSub, Int.reduceAdd, prows_len, ilt_at hlt, inr_at hlt, Int.toNat_natCast, prown_at hx, decF hn, wrap_succ hlt (by omega)]
          rfl
        · by_cases e : j = i
          · subst e; omega
          · exact hN j hj (by omega)
    · have : i = (ins ++ outs).length := by omega
      subst this
      right
      simp only [go1, Option.bind_some, eq_self, cond_true, cond_false, Nat.reduceAdd, Int.reduceEq, Int.reduceLT, Int.reduceLE, Int.reduceSub, Int.reduceAdd, prows_len, ilt_self]
      have hN' : ∀ p ∈ ins ++ outs, p.name.size ≤ 200 := fun p hp => by
        obtain ⟨j, hj, rfl⟩ := List.getElem_of_mem hp
        exact hN j hj hj
      have key : ∀ (b : List D → Option (List D ⊕ (List D ⊕ PRes))) (ds : List D), (∃ r, loopF b ds = some r ∧ ∃ q, r = .inr q ∧ ∃ b, q = .val [.bool b] ∧ (b = true → IB ⟨enums, ins, outs, slots, locals, code⟩)) → ∃ q, loopF b ds = some (.inr q) ∧ ∃ b, q = .val [.bool b] ∧ (b = true → IB ⟨enums, ins, outs, slots, locals, code⟩) := by
        rintro b ds ⟨r, h1, q, rfl, h2⟩
        exact ⟨q, h1, h2⟩
      refine key _ _ ?_
      refine loopF_ex (fun i : Nat => [.int .i64 (i : Int), .sl 2 (erows enums), .sl 4 (prows ins), .sl 4 (prows outs), .sl 6 (slrows slots), .sl 1 (irows locals), .sl 4 (crows code)]) (fun i => i ≤ slots.length ∧ ∀ j (h : j < slots.length), j < i → slots[j].path.size ≤ 300 ∧ slots[j].init.length ≤ 300) (fun i => slots.length - i) (fun i hi => ?_) 0 ⟨Nat.zero_le _, by omega⟩
      obtain ⟨hi, hM⟩ := hi
      by_cases hlt : i < slots.length
      · have hx := List.getElem?_eq_getElem hlt
        by_cases hn : 300 < (slots[i].path.size : Int)
        · right
          refine ⟨.inr (.val [.bool false]), ?_, _, rfl, no⟩
          simp only [go1, Option.bind_some, eq_self, cond_true, cond_false, Nat.reduceAdd, Int.reduceEq, Int.reduceLT, Int.reduceLE, Int.reduceSub, Int.reduceAdd, slrows_len, ilt_at hlt, inr_at hlt, slt_at hx, skip5, decT hn]
        by_cases hm : 300 < (slots[i].init.length : Int)
        · right
          refine ⟨.inr (.val [.bool false]), ?_, _, rfl, no⟩
          simp only [go1, Option.bind_some, eq_self, cond_true, cond_false, Nat.reduceAdd, Int.reduceEq, Int.reduceLT, Int.reduceLE, Int.reduceSub, Int.reduceAdd, slrows_len, irows_len, ilt_at hlt, inr_at hlt, slt_at hx, skip5, decF hn, decT hm]
        · left
          refine ⟨i + 1, ?_, ⟨hlt, fun j hj hji => ?_⟩, by omega⟩
          · simp only [go1, Option.bind_some, eq_self, cond_true, cond_false, Nat.reduceAdd, Int.reduceEq, Int.reduceLT, Int.reduceLE, Int.reduceSub, Int.reduceAdd, slrows_len, irows_len, ilt_at hlt, inr_at hlt, slt_at hx, skip5, decF hn, decF hm, wrap_succ hlt (by omega)]
            rfl
          · by_cases e : j = i
            · subst e; omega
            · exact hM j hj (by omega)
      · have : i = slots.length := by omega
        subst this
        right
        refine ⟨.inr (.val [.bool true]), ?_, _, rfl, true, rfl, fun _ => ⟨e1, e2, (by show ins.length + outs.length ≤ 50; omega), hN', (by show slots.length ≤ 150; omega), fun s hs => ?_, (by show locals.length ≤ 1100; omega), (by show code.length ≤ 800; omega)⟩⟩
        · simp only [go1, Option.bind_some, eq_self, cond_true, cond_false, Nat.reduceAdd, Int.reduceEq, Int.reduceLT, Int.reduceLE, Int.reduceSub, Int.reduceAdd, slrows_len, ilt_self]
        · obtain ⟨j, hj, rfl⟩ := List.getElem_of_mem hs
          exact hM j hj hj
end Go.Vm
end

section
set_option linter.all false
set_option maxRecDepth 100000
set_option maxHeartbeats 4000000
namespace Go.Vm
open Go.Proofs
/-! ### ports that may be -/
def portOK (ne : Int) (p : Prt) : Bool := lowN (tb p.name) && tyOK ne p.ty
def portsA (x : Img) : Bool := (x.ins ++ x.outs).all (portOK x.enums.length)
def portsF (x : Img) : Bool := decide ((x.ins.length : Int) ≤ 6) && (decide (1 ≤ (x.outs.length : Int)) && decide ((x.outs.length : Int) ≤ 6))
def portsO (x : Img) : Bool := decide ((x.ins ++ x.outs).map (·.name)).Nodup
theorem tyRight_u (l : List Enm) (t : Tyy) : cF 83 [.d (.sl 2 (erows l)), V.agg [.d (.int .i64 t.k), .d (.int .i64 t.e), .d (.int .i64 t.n)]] = some (.val [.bool (tyOK l.length t)]) := c_tyRight l t
theorem rtyRight_u (l : List Enm) (t : Tyy) : cF 53 [.d (.sl 2 (erows l)), V.agg [.d (.int .i64 t.k), .d (.int .i64 t.e), .d (.int .i64 t.n)]] = some (.val [.bool (tyOK l.length t)]) := c_rtyRight l t
theorem pnames_take {l : List Prt} {i : Nat} {x : Prt} (h : l[i]? = some x) : (l.take (i + 1)).map (·.name) = (l.take i).map (·.name) ++ [x.name] := by
  rw [List.take_add_one, h, List.map_append]; rfl
theorem c_sPorts (x : Img) (hx : x.ins.length + x.outs.length ≤ 50) : cF 48 [x.v] = some (.val [.bool (portsA x && (portsF x && portsO x))]) := by
  unfold portsA portsF portsO
  obtain ⟨enums, ins, outs, slots, locals, code⟩ := x
  unfold Img.v
  simp only at hx ⊢
  have hC := c_concP (prows ins) (prows outs) (by rw [prows_len]; omega) (by rw [prows_len]; omega)
  rw [prows_app] at hC
  have hpl : (ins ++ outs).length ≤ 50 := by rw [List.length_append]; omega
  refine cOf (by kernel_rfl) rfl ?_
  rw [g48_eq]
  simp only [g48, go1, Option.bind_some, eq_self, cond_true, cond_false, Nat.reduceAdd, Int.reduceEq, Int.reduceLT, Int.reduceLE, Int.reduceSub, Int.reduceAdd, hC, prows_len]
  generalize hps : ins ++ outs = ps at hpl
  refine loopF_at (fun i : Nat => [.sl 4 (prows ps), .int .i64 (ps.length : Int), .int .i64 (i : Int), .sl 2 (erows enums), .sl 4 (prows ins), .sl 4 (prows outs), .sl 6 (slrows slots), .sl 1 (irows locals), .sl 4 (crows code), .sl 1 (srows ((ps.take i).map (·.name)))]) (fun i => i ≤ ps.length ∧ (ps.take i).all (portOK enums.length) = true) (fun i => ps.length - i) (fun i hi => ?_) 0 ⟨Nat.zero_le _, by simp⟩
  obtain ⟨hi, hA⟩ := hi
  by_cases hlt : i < ps.length
  · have hx := List.getElem?_eq_getElem hlt
    have hL := c_Low ps[i].name
    have hT := tyRight_u enums ps[i].ty
    have hgd : ps.getD i default = ps[i] := by simp [hlt]
    cases hb : portOK enums.length ps[i] with
    | false =>
      right
      rw [all_false (d := default) hlt (by rw [hgd]; exact hb)]
      unfold portOK at hb
      simp only [go1, Option.bind_some, eq_self, cond_true, cond_false, Nat.reduceAdd, Int.reduceEq, Int.reduceLT, Int.reduceLE, Int.reduceSub, Int.reduceAdd, prows_len, ilt_at hlt, inr_at hlt, prt_at hx, hL, hT, c_sAll2, hb]
    | true =>
      left
      refine ⟨i + 1, ?_, ⟨hlt, all_snoc (d := default) hlt hA (by rw [hgd]; exact hb)⟩, by omega⟩
      unfold portOK at hb
      have hf : decide (((ps.take i).length + 1) * 17 ≤ 140737488355328) = true := decT (by rw [List.length_take]; omega)
      rw [pnames_take hx, srows_snoc]
      simp only [go1, Option.bind_some, eq_self, cond_true, cond_false, Nat.reduceAdd, Int.reduceEq, Int.reduceLT, Int.reduceLE, Int.reduceSub, Int.reduceAdd, prows_len, srows_len, List.length_map, ilt_at hlt, inr_at hlt, prt_at hx, hL, hT, c_sAll2, hb, List.length_cons, List.length_nil, hf, wrap_succ hlt (by omega)]
      rfl
  · have : i = ps.length := by omega
    subst this
    right
    rw [List.take_length] at hA
    have hO := c_iOnce (ps.map (·.name)) (by rw [List.length_map]; omega)
    simp only [go1, Option.bind_some, eq_self, cond_true, cond_false, Nat.reduceAdd, Int.reduceEq, Int.reduceLT, Int.reduceLE, Int.reduceSub, Int.reduceAdd, prows_len, ilt_self, List.take_length, c_sAll3, hO, hA]
/-! ### kinds -/
def kindN (t : Tyy) : Int := bif decide (t.k = 1) || decide (t.k = 2) then t.k else bif (decide (t.k = 3) && decide (0 ≤ t.e)) && decide (t.e ≤ 1000) then 3 + t.e else 0
theorem c_vKind (t : Tyy) : cF 91 [V.agg [.d (.int .i64 t.k), .d (.int .i64 t.e), .d (.int .i64 t.n)]] = some (.val [.int .i64 (kindN t)]) := by
  unfold kindN
  refine cOf (by kernel_rfl) rfl ?_
  rw [g91_eq]
  simp only [g91, go1, Option.bind_some, eq_self, cond_true, cond_false, Nat.reduceAdd, Int.reduceEq, Int.reduceLT, Int.reduceLE, Int.reduceSub, Int.reduceAdd]
  cases h1 : decide (t.k = 1) || decide (t.k = 2) with
  | true => simp only [go1, Option.bind_some, eq_self, cond_true, cond_false, Nat.reduceAdd, Int.reduceEq, Int.reduceLT, Int.reduceLE, Int.reduceSub, Int.reduceAdd]
  | false =>
    cases h2 : (decide (t.k = 3) && decide (0 ≤ t.e)) && decide (t.e ≤ 1000) with
    | false => simp only [go1, Option.bind_some, eq_self, cond_true, cond_false, Nat.reduceAdd, Int.reduceEq, Int.reduceLT, Int.reduceLE, Int.reduceSub, Int.reduceAdd]
    | true =>
      simp only [Bool.and_eq_true, decide_eq_true_eq] at h2
      simp only [go1, Option.bind_some, eq_self, cond_true, cond_false, Nat.reduceAdd, Int.reduceEq, Int.reduceLT, Int.reduceLE, Int.reduceSub, Int.reduceAdd]
      rw [wrap_id (by omega) (by omega)]
theorem c_rvKind (t : Tyy) : cF 111 [V.agg [.d (.int .i64 t.k), .d (.int .i64 t.e), .d (.int .i64 t.n)]] = some (.val [.int .i64 (kindN t)]) := by
  unfold kindN
  refine cOf (by kernel_rfl) rfl ?_
  rw [g111_eq]
  simp only [g111, go1, Option.bind_some, eq_self, cond_true, cond_false, Nat.reduceAdd, Int.reduceEq, Int.reduceLT, Int.reduceLE, Int.reduceSub, Int.reduceAdd]
  cases h1 : decide (t.k = 1) || decide (t.k = 2) with
  | true => simp only [go1, Option.bind_some, eq_self, cond_true, cond_false, Nat.reduceAdd, Int.reduceEq, Int.reduceLT, Int.reduceLE, Int.reduceSub, Int.reduceAdd]
  | false =>
    cases h2 : (decide (t.k = 3) && decide (0 ≤ t.e)) && decide (t.e ≤ 1000) with
    | false => simp only [go1, Option.bind_some, eq_self, cond_true, cond_false, Nat.reduceAdd, Int.reduceEq, Int.reduceLT, Int.reduceLE, Int.reduceSub, Int.reduceAdd]
    | true =>
      simp only [Bool.and_eq_true, decide_eq_true_eq] at h2
      simp only [go1, Option.bind_some, eq_self, cond_true, cond_false, Nat.reduceAdd, Int.reduceEq, Int.reduceLT, Int.reduceLE, Int.reduceSub, Int.reduceAdd]
      rw [wrap_id (by omega) (by omega)]
end Go.Vm
end

section
set_option linter.all false
set_option maxRecDepth 100000
set_option maxHeartbeats 8000000
namespace Go.Vm
open Go.Proofs
/-! ### the memory of an image -/
def kindsT (ts : List Tyy) : List Int := ts.flatMap fun t => List.replicate t.c.toNat (kindN t)
theorem kindsT_take {ts : List Tyy} {i : Nat} {t : Tyy} (h : ts[i]? = some t) : kindsT (ts.take (i + 1)) = kindsT (ts.take i) ++ List.replicate t.c.toNat (kindN t) := by
  rw [List.take_add_one, h]; simp [kindsT]
theorem kindsT_len : ∀ ts : List Tyy, (kindsT ts).length ≤ 8 * ts.length
  | [] => by simp [kindsT]
  | t :: ts => by
    have h1 := c_pos t
    have h2 := kindsT_len ts
    unfold kindsT at *
    simp only [List.flatMap_cons, List.length_append, List.length_replicate, List.length_cons]
    omega
theorem kindsT_tlen (ts : List Tyy) (i : Nat) : (kindsT (ts.take i)).length ≤ 8 * ts.length := by
  have h1 := kindsT_len (ts.take i)
  have h2 : (ts.take i).length ≤ ts.length := by simp; omega
  omega
def ctorsN (l : List Enm) : List Int := l.map fun e => (e.ctors.length : Int)
theorem ctorsN_take {l : List Enm} {i : Nat} {x : Enm} (h : l[i]? = some x) : ctorsN (l.take (i + 1)) = ctorsN (l.take i) ++ [(x.ctors.length : Int)] := by
  rw [List.take_add_one, h]; simp [ctorsN]
theorem ctorsN_len (l : List Enm) : (ctorsN l).length = l.length := by simp [ctorsN]
def kS (x : Img) : List Int := kindsT (x.slots.map (·.ty))
def kI (x : Img) : List Int := kS x ++ kindsT (x.ins.map (·.ty))
def kO (x : Img) : List Int := kI x ++ kindsT (x.outs.map (·.ty))
def shpOf (x : Img) : Shp := ⟨ctorsN x.enums, kO x ++ x.locals, (kS x).length, (kI x).length⟩
def shpR (s : Shp) : PRes := .val [.sl 1 (irows s.ctors), .sl 1 (irows s.kinds), .int .i64 s.lo, .int .i64 s.hi]
theorem irows_snoc (a : List Int) (x : Int) : irows (a ++ [x]) = irows a ++ [[.int .i64 x]] := by rw [← irows_app]; rfl
theorem rep_snoc (n : Nat) (x : Int) : List.replicate (n + 1) x = List.replicate n x ++ [x] := List.replicate_succ'
theorem ty_at {α : Type} {l : List α} {f : α → Tyy} {i : Nat} {x : α} (h : l[i]? = some x) : (l.map f)[i]? = some (f x) := by rw [List.getElem?_map, h]; rfl
theorem c_rgShape (x : Img) (hx : IB x) : cF 24 [x.v] = some (shpR (shpOf x)) := by
  have b1 := hx.en
  have b2 := hx.pn
  have b3 := hx.sn
  have b4 := hx.ln
  unfold shpR shpOf kO kI kS
  obtain ⟨enums, ins, outs, slots, locals, code⟩ := x
  clear hx
  unfold Img.v
  simp only at b1 b2 b3 b4 ⊢
  have s1 := kindsT_len (slots.map (·.ty))
  have s2 := kindsT_len (ins.map (·.ty))
  have s3 := kindsT_len (outs.map (·.ty))
  simp only [List.length_map] at s1 s2 s3
  refine cOf (by kernel_rfl) rfl ?_
  rw [g24_eq]
  simp only [g24, go1, Option.bind_some, eq_self, cond_true, cond_false, Nat.reduceAdd, Int.reduceEq, Int.reduceLT, Int.reduceLE, Int.reduceSub, Int.reduceAdd]
  refine rep_loop2 enums.length (fun i => [.int .i64 (i : Int), .sl 2 (erows enums), .sl 4 (prows ins), .sl 4 (prows outs), .sl 6 (slrows slots), .sl 1 (irows locals), .sl 4 (crows code), .int .i64 0, .int .i64 0, .int .i64 0, .int .i64 0, .sl 1 (irows (ctorsN (enums.take i))), .sl 1 (irows [])]) rfl (fun i hlt => ?_) ?_
  · have hx := List.getElem?_eq_getElem hlt
    have hf : decide (((enums.take i).length + 1) * 9 ≤ 140737488355328) = true := decT (by rw [List.length_take]; omega)
    rw [ctorsN_take hx, irows_snoc]
    simp only [go1, Option.bind_some, eq_self, cond_true, cond_false, Nat.reduceAdd, Int.reduceEq, Int.reduceLT, Int.reduceLE, Int.reduceSub, Int.reduceAdd, erows_len, srows_len, irows_len, ctorsN_len, ilt_at hlt, inr_at hlt, enm_at hx, skip1, List.length_cons, List.length_nil, hf, wrap_succ hlt (by omega)]
    rfl
  simp only [go1, Option.bind_some, eq_self, cond_true, cond_false, Nat.reduceAdd, Int.reduceEq, Int.reduceLT, Int.reduceLE, Int.reduceSub, Int.reduceAdd, erows_len, ilt_self, List.take_length]
  refine rep_loop2 slots.length (fun i => [.int .i64 (i : Int), .sl 2 (erows enums), .sl 4 (prows ins), .sl 4 (prows outs), .sl 6 (slrows slots), .sl 1 (irows locals), .sl 4 (crows code), .int .i64 0, .int .i64 0, .int .i64 0, .int .i64 0, .sl 1 (irows (ctorsN enums)), .sl 1 (irows (kindsT ((slots.map (·.ty)).take i)))]) (by simp [kindsT, irows]) (fun i hlt => ?_) ?_
  · have hx := List.getElem?_eq_getElem hlt
    have hc := c_pos slots[i].ty
    have hL := kindsT_tlen (slots.map (·.ty)) i
    rw [List.length_map] at hL
    rw [kindsT_take (ty_at (f := fun q => q.ty) hx)]
    simp only [go1, Option.bind_some, eq_self, cond_true, cond_false, Nat.reduceAdd, Int.reduceEq, Int.reduceLT, Int.reduceLE, Int.reduceSub, Int.reduceAdd, slrows_len, ilt_at hlt, inr_at hlt, slt_at hx, skip1]
    refine rep_loop2 slots[i].ty.c.toNat (fun k => [.int .i64 (k : Int), .sl 2 (erows enums), .sl 4 (prows ins), .sl 4 (prows outs), .sl 6 (slrows slots), .sl 1 (irows locals), .sl 4 (crows code), .int .i64 0, .int .i64 0, .int .i64 0, .int .i64 0, .sl 1 (irows (ctorsN enums)), .sl 1 (irows ((kindsT ((slots.map (·.ty)).take i)) ++ List.replicate k (kindN slots[i].ty))), .int .i64 slots[i].ty.k, .int .i64 slots[i].ty.e, .int .i64 slots[i].ty.n]) (by rw [List.replicate_zero, List.append_nil]; rfl) (fun k hk => ?_) ?_
    · have hf : decide (((kindsT ((slots.map (·.ty)).take i)).length + k + 1) * 9 ≤ 140737488355328) = true := decT (by first | omega | (rw [List.length_append]; omega) | (rw [List.length_append, List.length_append]; omega))
      rw [rep_snoc, ← List.append_assoc, irows_snoc]
      simp only [go1, Option.bind_some, eq_self, cond_true, cond_false, Nat.reduceAdd, Int.reduceEq, Int.reduceLT, Int.reduceLE, Int.reduceSub, Int.reduceAdd, rcells_u, c_rvKind, decT (p := (k : Int) < slots[i].ty.c) (by omega), irows_len, List.length_append, List.length_replicate, List.length_cons, List.length_nil, wrap_succ (n := 100) (i := k) (by omega) (by omega)] at hf ⊢
      rw [hf]
      rfl
    · simp only [go1, Option.bind_some, eq_self, cond_true, cond_false, Nat.reduceAdd, Int.reduceEq, Int.reduceLT, Int.reduceLE, Int.reduceSub, Int.reduceAdd, rcells_u, decF (p := ((slots[i].ty.c.toNat : Nat) : Int) < slots[i].ty.c) (by omega), wrap_succ hlt (by omega)]
      rfl
  simp only [go1, Option.bind_some, eq_self, cond_true, cond_false, Nat.reduceAdd, Int.reduceEq, Int.reduceLT, Int.reduceLE, Int.reduceSub, Int.reduceAdd, slrows_len, ilt_self, show ∀ l : List Tyy, l.take slots.length = l.take slots.length from fun _ => rfl, show (slots.map fun q => q.ty).take slots.length = slots.map fun q => q.ty from List.take_of_length_le (by simp)]
  refine rep_loop2 ins.length (fun i => [.int .i64 (i : Int), .sl 2 (erows enums), .sl 4 (prows ins), .sl 4 (prows outs), .sl 6 (slrows slots), .sl 1 (irows locals), .sl 4 (crows code), .int .i64 0, .int .i64 0, .int .i64 ((kindsT (slots.map (·.ty))).length : Int), .int .i64 0, .sl 1 (irows (ctorsN enums)), .sl 1 (irows (kindsT (slots.map (·.ty)) ++ kindsT ((ins.map (·.ty)).take i)))]) (by simp [kindsT, irows]) (fun i hlt => ?_) ?_
  · have hx := List.getElem?_eq_getElem hlt
    have hc := c_pos ins[i].ty
    have hL := kindsT_tlen (ins.map (·.ty)) i
    rw [List.length_map] at hL
    rw [kindsT_take (ty_at (f := fun q => q.ty) hx)]
    simp only [go1, Option.bind_some, eq_self, cond_true, cond_false, Nat.reduceAdd, Int.reduceEq, Int.reduceLT, Int.reduceLE, Int.reduceSub, Int.reduceAdd, prows_len, ilt_at hlt, inr_at hlt, prt_at hx, skip1]
    refine rep_loop2 ins[i].ty.c.toNat (fun k => [.int .i64 (k : Int), .sl 2 (erows enums), .sl 4 (prows ins), .sl 4 (prows outs), .sl 6 (slrows slots), .sl 1 (irows locals), .sl 4 (crows code), .int .i64 0, .int .i64 0, .int .i64 ((kindsT (slots.map (·.ty))).length : Int), .int .i64 0, .sl 1 (irows (ctorsN enums)), .sl 1 (irows ((kindsT (slots.map (·.ty)) ++ kindsT ((ins.map (·.ty)).take i)) ++ List.replicate k (kindN ins[i].ty))), .int .i64 ins[i].ty.k, .int .i64 ins[i].ty.e, .int .i64 ins[i].ty.n]) (by rw [List.replicate_zero, List.append_nil]; rfl) (fun k hk => ?_) ?_
    · have hf : decide (((kindsT (slots.map (·.ty)) ++ kindsT ((ins.map (·.ty)).take i)).length + k + 1) * 9 ≤ 140737488355328) = true := decT (by first | omega | (rw [List.length_append]; omega) | (rw [List.length_append, List.length_append]; omega))
      rw [rep_snoc, ← List.append_assoc, irows_snoc]
      simp only [go1, Option.bind_some, eq_self, cond_true, cond_false, Nat.reduceAdd, Int.reduceEq, Int.reduceLT, Int.reduceLE, Int.reduceSub, Int.reduceAdd, rcells_u, c_rvKind, decT (p := (k : Int) < ins[i].ty.c) (by omega), irows_len, List.length_append, List.length_replicate, List.length_cons, List.length_nil, wrap_succ (n := 100) (i := k) (by omega) (by omega)] at hf ⊢
      rw [hf]
      rfl
    · simp only [go1, Option.bind_some, eq_self, cond_true, cond_false, Nat.reduceAdd, Int.reduceEq, Int.reduceLT, Int.reduceLE, Int.reduceSub, Int.reduceAdd, rcells_u, decF (p := ((ins[i].ty.c.toNat : Nat) : Int) < ins[i].ty.c) (by omega), wrap_succ hlt (by omega), List.append_assoc]
      rfl
  simp only [go1, Option.bind_some, eq_self, cond_true, cond_false, Nat.reduceAdd, Int.reduceEq, Int.reduceLT, Int.reduceLE, Int.reduceSub, Int.reduceAdd, prows_len, ilt_self, show ∀ l : List Tyy, l.take ins.length = l.take ins.length from fun _ => rfl, show (ins.map fun q => q.ty).take ins.length = ins.map fun q => q.ty from List.take_of_length_le (by simp)]
  refine rep_loop2 outs.length (fun i => [.int .i64 (i : Int), .sl 2 (erows enums), .sl 4 (prows ins), .sl 4 (prows outs), .sl 6 (slrows slots), .sl 1 (irows locals), .sl 4 (crows code), .int .i64 0, .int .i64 0, .int .i64 ((kindsT (slots.map (·.ty))).length : Int), .int .i64 ((kindsT (slots.map (·.ty)) ++ kindsT (ins.map (·.ty))).length : Int), .sl 1 (irows (ctorsN enums)), .sl 1 (irows (kindsT (slots.map (·.ty)) ++ kindsT (ins.map (·.ty)) ++ kindsT ((outs.map (·.ty)).take i)))]) (by simp [kindsT, irows]) (fun i hlt => ?_) ?_
  · have hx := List.getElem?_eq_getElem hlt
    have hc := c_pos outs[i].ty
    have hL := kindsT_tlen (outs.map (·.ty)) i
    rw [List.length_map] at hL
    rw [kindsT_take (ty_at (f := fun q => q.ty) hx)]
    simp only [go1, Option.bind_some, eq_self, cond_true, cond_false, Nat.reduceAdd, Int.reduceEq, Int.reduceLT, Int.reduceLE, Int.reduceSub, Int.reduceAdd, prows_len, ilt_at hlt, inr_at hlt, prt_at hx, skip1]
    refine rep_loop2 outs[i].ty.c.toNat (fun k => [.int .i64 (k : Int), .sl 2 (erows enums), .sl 4 (prows ins), .sl 4 (prows outs), .sl 6 (slrows slots), .sl 1 (irows locals), .sl 4 (crows code), .int .i64 0, .int .i64 0, .int .i64 ((kindsT (slots.map (·.ty))).length : Int), .int .i64 ((kindsT (slots.map (·.ty)) ++ kindsT (ins.map (·.ty))).length : Int), .sl 1 (irows (ctorsN enums)), .sl 1 (irows ((kindsT (slots.map (·.ty)) ++ kindsT (ins.map (·.ty)) ++ kindsT ((outs.map (·.ty)).take i)) ++ List.replicate k (kindN outs[i].ty))), .int .i64 outs[i].ty.k, .int .i64 outs[i].ty.e, .int .i64 outs[i].ty.n]) (by rw [List.replicate_zero, List.append_nil]; rfl) (fun k hk => ?_) ?_
    · have hf : decide (((kindsT (slots.map (·.ty)) ++ kindsT (ins.map (·.ty)) ++ kindsT ((outs.map (·.ty)).take i)).length + k + 1) * 9 ≤ 140737488355328) = true := decT (by first | omega | (rw [List.length_append]; omega) | (rw [List.length_append, List.length_append]; omega))
      rw [rep_snoc, ← List.append_assoc, irows_snoc]
      simp only [go1, Option.bind_some, eq_self, cond_true, cond_false, Nat.reduceAdd, Int.reduceEq, Int.reduceLT, Int.reduceLE, Int.reduceSub, Int.reduceAdd, rcells_u, c_rvKind, decT (p := (k : Int) < outs[i].ty.c) (by omega), irows_len, List.length_append, List.length_replicate, List.length_cons, List.length_nil, wrap_succ (n := 100) (i := k) (by omega) (by omega)] at hf ⊢
      rw [hf]
      rfl
    · simp only [go1, Option.bind_some, eq_self, cond_true, cond_false, Nat.reduceAdd, Int.reduceEq, Int.reduceLT, Int.reduceLE, Int.reduceSub, Int.reduceAdd, rcells_u, decF (p := ((outs[i].ty.c.toNat : Nat) : Int) < outs[i].ty.c) (by omega), wrap_succ hlt (by omega), List.append_assoc]
      rfl
  simp only [go1, Option.bind_some, eq_self, cond_true, cond_false, Nat.reduceAdd, Int.reduceEq, Int.reduceLT, Int.reduceLE, Int.reduceSub, Int.reduceAdd, prows_len, ilt_self, show ∀ l : List Tyy, l.take outs.length = l.take outs.length from fun _ => rfl, show (outs.map fun q => q.ty).take outs.length = outs.map fun q => q.ty from List.take_of_length_le (by simp)]
  have hf : decide ((((kindsT (slots.map (·.ty)) ++ kindsT (ins.map (·.ty))) ++ kindsT (outs.map (·.ty))).length + locals.length) * 9 ≤ 140737488355328) = true := decT (by simp only [List.length_append]; omega)
  simp only [go1, Option.bind_some, eq_self, cond_true, cond_false, Nat.reduceAdd, Int.reduceEq, Int.reduceLT, Int.reduceLE, Int.reduceSub, Int.reduceAdd, irows_len, irows_app, List.append_assoc] at hf ⊢
  rw [hf]
  rfl
end Go.Vm
end

section
set_option linter.all false
set_option maxRecDepth 100000
set_option maxHeartbeats 8000000
namespace Go.Vm
open Go.Proofs
theorem c_gShape (x : Img) (hx : IB x) : cF 45 [x.v] = some (shpR (shpOf x)) := by
  have b1 := hx.en
  have b2 := hx.pn
  have b3 := hx.sn
  have b4 := hx.ln
  unfold shpR shpOf kO kI kS
  obtain ⟨enums, ins, outs, slots, locals, code⟩ := x
  clear hx
  unfold Img.v
  simp only at b1 b2 b3 b4 ⊢
  have s1 := kindsT_len (slots.map (·.ty))
  have s2 := kindsT_len (ins.map (·.ty))
  have s3 := kindsT_len (outs.map (·.ty))
  simp only [List.length_map] at s1 s2 s3
  refine cOf (by kernel_rfl) rfl ?_
  rw [g45_eq]
  simp only [g45, go1, Option.bind_some, eq_self, cond_true, cond_false, Nat.reduceAdd, Int.reduceEq, Int.reduceLT, Int.reduceLE, Int.reduceSub, Int.reduceAdd, erows_len]
  refine rep_loop2 enums.length (fun i => [.sl 2 (erows enums), .int .i64 (enums.length : Int), .int .i64 (i : Int), .sl 2 (erows enums), .sl 4 (prows ins), .sl 4 (prows outs), .sl 6 (slrows slots), .sl 1 (irows locals), .sl 4 (crows code), .int .i64 0, .int .i64 0, .int .i64 0, .int .i64 0, .sl 1 (irows (ctorsN (enums.take i))), .sl 1 (irows [])]) rfl (fun i hlt => ?_) ?_
  · have hx := List.getElem?_eq_getElem hlt
    have hf : decide (((enums.take i).length + 1) * 9 ≤ 140737488355328) = true := decT (by rw [List.length_take]; omega)
    rw [ctorsN_take hx, irows_snoc]
    simp only [go1, Option.bind_some, eq_self, cond_true, cond_false, Nat.reduceAdd, Int.reduceEq, Int.reduceLT, Int.reduceLE, Int.reduceSub, Int.reduceAdd, erows_len, srows_len, irows_len, ctorsN_len, ilt_at hlt, inr_at hlt, enm_at hx, skip1, List.length_cons, List.length_nil, hf, wrap_succ hlt (by omega)]
    rfl
  simp only [go1, Option.bind_some, eq_self, cond_true, cond_false, Nat.reduceAdd, Int.reduceEq, Int.reduceLT, Int.reduceLE, Int.reduceSub, Int.reduceAdd, erows_len, slrows_len, ilt_self, List.take_length]
  refine rep_loop2 slots.length (fun i => [.sl 6 (slrows slots), .int .i64 (slots.length : Int), .int .i64 (i : Int), .sl 2 (erows enums), .sl 4 (prows ins), .sl 4 (prows outs), .sl 6 (slrows slots), .sl 1 (irows locals), .sl 4 (crows code), .int .i64 0, .int .i64 0, .int .i64 0, .int .i64 0, .sl 1 (irows (ctorsN enums)), .sl 1 (irows (kindsT ((slots.map (·.ty)).take i)))]) (by simp [kindsT, irows]) (fun i hlt => ?_) ?_
  · have hx := List.getElem?_eq_getElem hlt
    have hc := c_pos slots[i].ty
    have hL := kindsT_tlen (slots.map (·.ty)) i
    rw [List.length_map] at hL
    rw [kindsT_take (ty_at (f := fun q => q.ty) hx)]
    simp only [go1, Option.bind_some, eq_self, cond_true, cond_false, Nat.reduceAdd, Int.reduceEq, Int.reduceLT, Int.reduceLE, Int.reduceSub, Int.reduceAdd, slrows_len, ilt_at hlt, inr_at hlt, slt_at hx, cells_u]
    refine rep_loop2 slots[i].ty.c.toNat (fun k => [.int .i64 slots[i].ty.c, .int .i64 (k : Int), .sl 2 (erows enums), .sl 4 (prows ins), .sl 4 (prows outs), .sl 6 (slrows slots), .sl 1 (irows locals), .sl 4 (crows code), .int .i64 0, .int .i64 0, .int .i64 0, .int .i64 0, .sl 1 (irows (ctorsN enums)), .sl 1 (irows ((kindsT ((slots.map (·.ty)).take i)) ++ List.replicate k (kindN slots[i].ty))), .str slots[i].path, .int .i64 slots[i].ty.k, .int .i64 slots[i].ty.e, .int .i64 slots[i].ty.n, .int .i64 slots[i].at_, .sl 1 (irows slots[i].init), .int .i64 slots[i].ty.k, .int .i64 slots[i].ty.e, .int .i64 slots[i].ty.n]) (by rw [List.replicate_zero, List.append_nil]; rfl) (fun k hk => ?_) ?_
    · have hf : decide (((kindsT ((slots.map (·.ty)).take i)).length + k + 1) * 9 ≤ 140737488355328) = true := decT (by first | omega | (rw [List.length_append]; omega) | (rw [List.length_append, List.length_append]; omega))
      rw [rep_snoc, ← List.append_assoc, irows_snoc]
      simp only [go1, Option.bind_some, eq_self, cond_true, cond_false, Nat.reduceAdd, Int.reduceEq, Int.reduceLT, Int.reduceLE, Int.reduceSub, Int.reduceAdd, c_vKind, decT (p := (k : Int) < slots[i].ty.c) (by omega), irows_len, List.length_append, List.length_replicate, List.length_cons, List.length_nil, wrap_succ (n := 100) (i := k) (by omega) (by omega)] at hf ⊢
      rw [hf]
      rfl
    · simp only [go1, Option.bind_some, eq_self, cond_true, cond_false, Nat.reduceAdd, Int.reduceEq, Int.reduceLT, Int.reduceLE, Int.reduceSub, Int.reduceAdd, decF (p := ((slots[i].ty.c.toNat : Nat) : Int) < slots[i].ty.c) (by omega), wrap_succ hlt (by omega)]
      rfl
  simp only [go1, Option.bind_some, eq_self, cond_true, cond_false, Nat.reduceAdd, Int.reduceEq, Int.reduceLT, Int.reduceLE, Int.reduceSub, Int.reduceAdd, slrows_len, prows_len, ilt_self, show (slots.map fun q => q.ty).take slots.length = slots.map fun q => q.ty from List.take_of_length_le (by simp)]
  refine rep_loop2 ins.length (fun i => [.sl 4 (prows ins), .int .i64 (ins.length : Int), .int .i64 (i : Int), .sl 2 (erows enums), .sl 4 (prows ins), .sl 4 (prows outs), .sl 6 (slrows slots), .sl 1 (irows locals), .sl 4 (crows code), .int .i64 0, .int .i64 0, .int .i64 ((kindsT (slots.map (·.ty))).length : Int), .int .i64 0, .sl 1 (irows (ctorsN enums)), .sl 1 (irows (kindsT (slots.map (·.ty)) ++ kindsT ((ins.map (·.ty)).take i)))]) (by simp [kindsT, irows]) (fun i hlt => ?_) ?_
  · have hx := List.getElem?_eq_getElem hlt
    have hc := c_pos ins[i].ty
    have hL := kindsT_tlen (ins.map (·.ty)) i
    rw [List.length_map] at hL
    rw [kindsT_take (ty_at (f := fun q => q.ty) hx)]
    simp only [go1, Option.bind_some, eq_self, cond_true, cond_false, Nat.reduceAdd, Int.reduceEq, Int.reduceLT, Int.reduceLE, Int.reduceSub, Int.reduceAdd, prows_len, ilt_at hlt, inr_at hlt, prt_at hx, cells_u]
    refine rep_loop2 ins[i].ty.c.toNat (fun k => [.int .i64 ins[i].ty.c, .int .i64 (k : Int), .sl 2 (erows enums), .sl 4 (prows ins), .sl 4 (prows outs), .sl 6 (slrows slots), .sl 1 (irows locals), .sl 4 (crows code), .int .i64 0, .int .i64 0, .int .i64 ((kindsT (slots.map (·.ty))).length : Int), .int .i64 0, .sl 1 (irows (ctorsN enums)), .sl 1 (irows ((kindsT (slots.map (·.ty)) ++ kindsT ((ins.map (·.ty)).take i)) ++ List.replicate k (kindN ins[i].ty))), .str ins[i].name, .int .i64 ins[i].ty.k, .int .i64 ins[i].ty.e, .int .i64 ins[i].ty.n, .int .i64 ins[i].ty.k, .int .i64 ins[i].ty.e, .int .i64 ins[i].ty.n]) (by rw [List.replicate_zero, List.append_nil]; rfl) (fun k hk => ?_) ?_
    · have hf : decide (((kindsT (slots.map (·.ty)) ++ kindsT ((ins.map (·.ty)).take i)).length + k + 1) * 9 ≤ 140737488355328) = true := decT (by first | omega | (rw [List.length_append]; omega) | (rw [List.length_append, List.length_append]; omega))
      rw [rep_snoc, ← List.append_assoc, irows_snoc]
      simp only [go1, Option.bind_some, eq_self, cond_true, cond_false, Nat.reduceAdd, Int.reduceEq, Int.reduceLT, Int.reduceLE, Int.reduceSub, Int.reduceAdd, c_vKind, decT (p := (k : Int) < ins[i].ty.c) (by omega), irows_len, List.length_append, List.length_replicate, List.length_cons, List.length_nil, wrap_succ (n := 100) (i := k) (by omega) (by omega)] at hf ⊢
      rw [hf]
      rfl
    · simp only [go1, Option.bind_some, eq_self, cond_true, cond_false, Nat.reduceAdd, Int.reduceEq, Int.reduceLT, Int.reduceLE, Int.reduceSub, Int.reduceAdd, decF (p := ((ins[i].ty.c.toNat : Nat) : Int) < ins[i].ty.c) (by omega), wrap_succ hlt (by omega), List.append_assoc]
      rfl
  simp only [go1, Option.bind_some, eq_self, cond_true, cond_false, Nat.reduceAdd, Int.reduceEq, Int.reduceLT, Int.reduceLE, Int.reduceSub, Int.reduceAdd, slrows_len, prows_len, ilt_self, show (ins.map fun q => q.ty).take ins.length = ins.map fun q => q.ty from List.take_of_length_le (by simp)]
  refine rep_loop2 outs.length (fun i => [.sl 4 (prows outs), .int .i64 (outs.length : Int), .int .i64 (i : Int), .sl 2 (erows enums), .sl 4 (prows ins), .sl 4 (prows outs), .sl 6 (slrows slots), .sl 1 (irows locals), .sl 4 (crows code), .int .i64 0, .int .i64 0, .int .i64 ((kindsT (slots.map (·.ty))).length : Int), .int .i64 ((kindsT (slots.map (·.ty)) ++ kindsT (ins.map (·.ty))).length : Int), .sl 1 (irows (ctorsN enums)), .sl 1 (irows (kindsT (slots.map (·.ty)) ++ kindsT (ins.map (·.ty)) ++ kindsT ((outs.map (·.ty)).take i)))]) (by simp [kindsT, irows]) (fun i hlt => ?_) ?_
  · have hx := List.getElem?_eq_getElem hlt
    have hc := c_pos outs[i].ty
    have hL := kindsT_tlen (outs.map (·.ty)) i
    rw [List.length_map] at hL
    rw [kindsT_take (ty_at (f := fun q => q.ty) hx)]
    simp only [go1, Option.bind_some, eq_self, cond_true, cond_false, Nat.reduceAdd, Int.reduceEq, Int.reduceLT, Int.reduceLE, Int.reduceSub, Int.reduceAdd, prows_len, ilt_at hlt, inr_at hlt, prt_at hx, cells_u]
    refine rep_loop2 outs[i].ty.c.toNat (fun k => [.int .i64 outs[i].ty.c, .int .i64 (k : Int), .sl 2 (erows enums), .sl 4 (prows ins), .sl 4 (prows outs), .sl 6 (slrows slots), .sl 1 (irows locals), .sl 4 (crows code), .int .i64 0, .int .i64 0, .int .i64 ((kindsT (slots.map (·.ty))).length : Int), .int .i64 ((kindsT (slots.map (·.ty)) ++ kindsT (ins.map (·.ty))).length : Int), .sl 1 (irows (ctorsN enums)), .sl 1 (irows ((kindsT (slots.map (·.ty)) ++ kindsT (ins.map (·.ty)) ++ kindsT ((outs.map (·.ty)).take i)) ++ List.replicate k (kindN outs[i].ty))), .str outs[i].name, .int .i64 outs[i].ty.k, .int .i64 outs[i].ty.e, .int .i64 outs[i].ty.n, .int .i64 outs[i].ty.k, .int .i64 outs[i].ty.e, .int .i64 outs[i].ty.n]) (by rw [List.replicate_zero, List.append_nil]; rfl) (fun k hk => ?_) ?_
    · have hf : decide (((kindsT (slots.map (·.ty)) ++ kindsT (ins.map (·.ty)) ++ kindsT ((outs.map (·.ty)).take i)).length + k + 1) * 9 ≤ 140737488355328) = true := decT (by first | omega | (rw [List.length_append]; omega) | (rw [List.length_append, List.length_append]; omega))
      rw [rep_snoc, ← List.append_assoc, irows_snoc]
      simp only [go1, Option.bind_some, eq_self, cond_true, cond_false, Nat.reduceAdd, Int.reduceEq, Int.reduceLT, Int.reduceLE, Int.reduceSub, Int.reduceAdd, c_vKind, decT (p := (k : Int) < outs[i].ty.c) (by omega), irows_len, List.length_append, List.length_replicate, List.length_cons, List.length_nil, wrap_succ (n := 100) (i := k) (by omega) (by omega)] at hf ⊢
      rw [hf]
      rfl
    · simp only [go1, Option.bind_some, eq_self, cond_true, cond_false, Nat.reduceAdd, Int.reduceEq, Int.reduceLT, Int.reduceLE, Int.reduceSub, Int.reduceAdd, decF (p := ((outs[i].ty.c.toNat : Nat) : Int) < outs[i].ty.c) (by omega), wrap_succ hlt (by omega), List.append_assoc]
      rfl
  simp only [go1, Option.bind_some, eq_self, cond_true, cond_false, Nat.reduceAdd, Int.reduceEq, Int.reduceLT, Int.reduceLE, Int.reduceSub, Int.reduceAdd, slrows_len, prows_len, ilt_self, show (outs.map fun q => q.ty).take outs.length = outs.map fun q => q.ty from List.take_of_length_le (by simp)]
  have hf : decide ((((kindsT (slots.map (·.ty)) ++ kindsT (ins.map (·.ty))) ++ kindsT (outs.map (·.ty))).length + locals.length) * 9 ≤ 140737488355328) = true := decT (by simp only [List.length_append]; omega)
  simp only [go1, Option.bind_some, eq_self, cond_true, cond_false, Nat.reduceAdd, Int.reduceEq, Int.reduceLT, Int.reduceLE, Int.reduceSub, Int.reduceAdd, irows_len, irows_app, List.append_assoc] at hf ⊢
  rw [hf]
  rfl
end Go.Vm
end

section
set_option linter.all false
set_option maxRecDepth 100000
namespace Go.Vm
open Go.Proofs
def shV (a b : List (List D)) (lo hi : Int) : V := .agg [.d (.sl 1 a), .d (.sl 1 b), .d (.int .i64 lo), .d (.int .i64 hi)]
def tyR (o : Option Ty3) : PRes := match o with
  | some t => .val [.int .i64 t.k, .int .i64 t.e, .int .i64 t.l, .bool true]
  | none => .val [.int .i64 0, .int .i64 0, .int .i64 0, .bool false]
theorem ty_ext {t u : Ty3} : t = u ↔ (t.k = u.k ∧ t.e = u.e ∧ t.l = u.l) := by
  obtain ⟨a, b, c⟩ := t; obtain ⟨d, e, f⟩ := u; simp
def rowR (o : Option (List Int)) : PRes → Prop := fun p => match o with
  | some r => p = .val [.sl 1 (irows r), .bool true]
  | none => ∃ r : List Int, p = .val [.sl 1 (irows r), .bool false]
def leadsL (i : Int) (x : Ins) : List Int := if x.op = 6 then [x.a] else if x.op = 7 then [i + 1, x.a] else [i + 1]
theorem crows_cell {l : List Ins} {i : Int} (h0 : 0 ≤ i) (h1 : i < (l.length : Int)) : sy.row (crows l) i = (l.getD i.toNat default).row := by
  rw [sy_row, crows_get _ _ (by omega)]
theorem crows_at {l : List Ins} {i : Nat} {x : Ins} (h : l[i]? = some x) : sy.row (crows l) (i : Int) = x.row := by
  obtain ⟨h1, h2⟩ := getElem?_some_getD (d := default) h
  rw [crows_cell (by omega) (by omega), Int.toNat_natCast, h1]
def tells {τ : Type} (o : Option τ) (l : τ) (b : Bool) : Prop := match o with
  | some r => l = r ∧ b = true
  | none => b = false
theorem rowR_val {o : Option (List Int)} {p : PRes} (h : rowR o p) : ∃ l b, p = .val [.sl 1 (irows l), .bool b] ∧ tells o l b := by
  unfold rowR at h
  cases o with
  | some r => exact ⟨r, true, h, rfl, rfl⟩
  | none => obtain ⟨r, h⟩ := h; exact ⟨r, false, h, rfl⟩
end Go.Vm
end
