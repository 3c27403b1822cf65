/-
  Part E of the proof. What is proved by the whole: the statement that the claim names, with no condition. This part: lemmas.
-/
import Derived.Test.YtmmcmfcnpfbifaaDoorD
set_option linter.unusedSimpArgs false
set_option linter.unusedVariables false

section
set_option maxRecDepth 1000000
set_option maxHeartbeats 0
namespace Go.Vm
open Go.Proofs
def g3 (A : Sy) (E : Env) (l_ : List (List D)) (s_ : List (List D)) (path_ : ByteArray) : Option PRes :=
  (E.call 6 [(V.d (D.sl 2 l_))]).bind fun p1 =>
  (opB (A.cell p1.leaves 0)).bind fun b3 =>
  cutO (
    bif (A.bnot b3) then
      some (.inl [(D.bool true)])
    else
      (E.call 7 [(V.d (D.sl 6 s_))]).bind fun p4 =>
      (opB (A.cell p4.leaves 0)).bind fun b6 =>
      some (.inl [(D.bool (A.bnot b6))])
  ) fun ds7 =>
  (opB (A.cell ds7 0)).bind fun b8 =>
  cutO (
    bif b8 then
      some (.inl [(D.bool true)])
    else
      some (.inl [(D.bool (A.ilt 300 (A.slen path_)))])
  ) fun ds9 =>
  (opB (A.cell ds9 0)).bind fun b10 =>
  bif b10 then
    (E.call 8 []).bind fun p11 =>
    (opB (A.cell p11.leaves 0)).bind fun b13 =>
    some (PRes.val [(D.bool b13)])
  else
    (E.call 9 [(V.d (D.sl 2 l_)), (V.d (D.sl 6 s_))]).bind fun p14 =>
    (opB (A.cell p14.leaves 0)).bind fun b16 =>
    (E.call 10 [(V.d (D.sl 2 l_)), (V.d (D.sl 6 s_))]).bind fun p17 =>
    (opB (A.cell p17.leaves 0)).bind fun b19 =>
    cutO (
      bif (A.beq b16 b19) then
        (E.call 11 [(V.d (D.sl 6 s_)), (V.d (D.str path_))]).bind fun p20 =>
        (opI (A.cell p20.leaves 0) IntKind.i64).bind fun n22 =>
        (E.call 12 [(V.d (D.sl 6 s_)), (V.d (D.str path_))]).bind fun p23 =>
        (opI (A.cell p23.leaves 0) IntKind.i64).bind fun n25 =>
        some (.inl [(D.bool (A.ieq n22 n25))])
      else
        some (.inl [(D.bool false)])
    ) fun ds26 =>
    (opB (A.cell ds26 0)).bind fun b27 =>
    cutO (
      bif b27 then
        (E.call 13 [(V.d (D.sl 6 s_)), (V.d (D.sl 6 s_))]).bind fun p28 =>
        (opB (A.cell p28.leaves 0)).bind fun b30 =>
        some (.inl [(D.bool b30)])
      else
        some (.inl [(D.bool false)])
    ) fun ds31 =>
    (opB (A.cell ds31 0)).bind fun b32 =>
    cutO (
      bif b32 then
        (E.call 8 []).bind fun p33 =>
        (opB (A.cell p33.leaves 0)).bind fun b35 =>
        some (.inl [(D.bool b35)])
      else
        some (.inl [(D.bool false)])
    ) fun ds36 =>
    (opB (A.cell ds36 0)).bind fun b37 =>
    some (PRes.val [(D.bool b37)])
theorem g3_eq (A : Sy) (E : Env) (l_ : List (List D)) (s_ : List (List D)) (path_ : ByteArray) : (funT A Tryd.prog cs 3 [V.d (D.sl 2 l_), V.d (D.sl 6 s_), V.d (D.str path_)]).run E = g3 A E l_ s_ path_ := by kernel_rfl
def g4 (A : Sy) (E : Env) (s_ : List (List D)) (m_ : List (List D)) (c_ : List (List D)) : Option PRes :=
  (E.call 7 [(V.d (D.sl 6 s_))]).bind fun p1 =>
  (opB (A.cell p1.leaves 0)).bind fun b3 =>
  cutO (
    bif (A.bnot b3) then
      some (.inl [(D.bool true)])
    else
      some (.inl [(D.bool (A.ilt 1500 (A.rlen m_)))])
  ) fun ds4 =>
  (opB (A.cell ds4 0)).bind fun b5 =>
  cutO (
    bif b5 then
      some (.inl [(D.bool true)])
    else
      (E.call 14 [(V.d (D.sl 2 c_))]).bind fun p6 =>
      (opB (A.cell p6.leaves 0)).bind fun b8 =>
      some (.inl [(D.bool (A.bnot b8))])
  ) fun ds9 =>
  (opB (A.cell ds9 0)).bind fun b10 =>
  bif b10 then
    (E.call 8 []).bind fun p11 =>
    (opB (A.cell p11.leaves 0)).bind fun b13 =>
    some (PRes.val [(D.bool b13)])
  else
    (E.call 15 [(V.d (D.sl 6 s_)), (V.d (D.sl 2 c_))]).bind fun p14 =>
    (opL (A.cell p14.leaves 0) 1).bind fun l16 =>
    (opB (A.cell p14.leaves 1)).bind fun b17 =>
    (E.call 16 [(V.d (D.sl 6 s_)), (V.d (D.sl 2 c_))]).bind fun p18 =>
    (opL (A.cell p18.leaves 0) 1).bind fun l20 =>
    (opB (A.cell p18.leaves 1)).bind fun b21 =>
    (E.call 18 [(V.d (D.sl 6 s_)), (V.d (D.sl 1 m_))]).bind fun p22 =>
    (opL (A.cell p22.leaves 0) 2).bind fun l24 =>
    (E.call 19 [(V.d (D.sl 6 s_)), (V.d (D.sl 1 m_))]).bind fun p25 =>
    (opL (A.cell p25.leaves 0) 2).bind fun l27 =>
    (E.call 17 [(V.d (D.sl 2 l24)), (V.d (D.sl 2 l27))]).bind fun p28 =>
    (opB (A.cell p28.leaves 0)).bind fun b30 =>
    cutO (
      bif b30 then
        (E.call 20 [(V.d (D.sl 1 l16)), (V.d (D.sl 1 l20))]).bind fun p31 =>
        (opB (A.cell p31.leaves 0)).bind fun b33 =>
        some (.inl [(D.bool b33)])
      else
        some (.inl [(D.bool false)])
    ) fun ds34 =>
    (opB (A.cell ds34 0)).bind fun b35 =>
    cutO (
      bif b35 then
        some (.inl [(D.bool (A.beq b17 b21))])
      else
        some (.inl [(D.bool false)])
    ) fun ds36 =>
    (opB (A.cell ds36 0)).bind fun b37 =>
    cutO (
      bif b37 then
        (E.call 8 []).bind fun p38 =>
        (opB (A.cell p38.leaves 0)).bind fun b40 =>
        some (.inl [(D.bool b40)])
      else
        some (.inl [(D.bool false)])
    ) fun ds41 =>
    (opB (A.cell ds41 0)).bind fun b42 =>
    some (PRes.val [(D.bool b42)])
theorem g4_eq (A : Sy) (E : Env) (s_ : List (List D)) (m_ : List (List D)) (c_ : List (List D)) : (funT A Tryd.prog cs 4 [V.d (D.sl 6 s_), V.d (D.sl 1 m_), V.d (D.sl 2 c_)]).run E = g4 A E s_ m_ c_ := by kernel_rfl
def g5 (A : Sy) (E : Env) (l_ : List (List D)) (s_ : List (List D)) (c_ : List (List D)) : Option PRes :=
  (E.call 6 [(V.d (D.sl 2 l_))]).bind fun p1 =>
  (opB (A.cell p1.leaves 0)).bind fun b3 =>
  cutO (
    bif (A.bnot b3) then
      some (.inl [(D.bool true)])
    else
      (E.call 7 [(V.d (D.sl 6 s_))]).bind fun p4 =>
      (opB (A.cell p4.leaves 0)).bind fun b6 =>
      some (.inl [(D.bool (A.bnot b6))])
  ) fun ds7 =>
  (opB (A.cell ds7 0)).bind fun b8 =>
  cutO (
    bif b8 then
      some (.inl [(D.bool true)])
    else
      (E.call 14 [(V.d (D.sl 2 c_))]).bind fun p9 =>
      (opB (A.cell p9.leaves 0)).bind fun b11 =>
      some (.inl [(D.bool (A.bnot b11))])
  ) fun ds12 =>
  (opB (A.cell ds12 0)).bind fun b13 =>
  cutO (
    bif b13 then
      some (.inl [(D.bool true)])
    else
      (E.call 9 [(V.d (D.sl 2 l_)), (V.d (D.sl 6 s_))]).bind fun p14 =>
      (opB (A.cell p14.leaves 0)).bind fun b16 =>
      some (.inl [(D.bool (A.bnot b16))])
  ) fun ds17 =>
  (opB (A.cell ds17 0)).bind fun b18 =>
  bif b18 then
    (E.call 8 []).bind fun p19 =>
    (opB (A.cell p19.leaves 0)).bind fun b21 =>
    some (PRes.val [(D.bool b21)])
  else
    (E.call 15 [(V.d (D.sl 6 s_)), (V.d (D.sl 2 c_))]).bind fun p22 =>
    (opL (A.cell p22.leaves 0) 1).bind fun l24 =>
    (opB (A.cell p22.leaves 1)).bind fun b25 =>
    bif (A.bnot b25) then
      cutO (
        bif (A.ieq (A.rlen l24) 0) then
          (E.call 8 []).bind fun p26 =>
          (opB (A.cell p26.leaves 0)).bind fun b28 =>
          some (.inl [(D.bool b28)])
        else
          some (.inl [(D.bool false)])
      ) fun ds29 =>
      (opB (A.cell ds29 0)).bind fun b30 =>
      some (PRes.val [(D.bool b30)])
    else
      (E.call 21 [(V.d (D.sl 6 s_))]).bind fun p31 =>
      (opI (A.cell p31.leaves 0) IntKind.i64).bind fun n33 =>
      bif (A.bnot (A.ieq (A.rlen l24) n33)) then
        some (PRes.val [(D.bool false)])
      else
        (E.call 18 [(V.d (D.sl 6 s_)), (V.d (D.sl 1 l24))]).bind fun p34 =>
        (opL (A.cell p34.leaves 0) 2).bind fun l36 =>
        (E.call 17 [(V.d (D.sl 2 l36)), (V.d (D.sl 2 c_))]).bind fun p37 =>
        (opB (A.cell p37.leaves 0)).bind fun b39 =>
        bif (A.bnot b39) then
          some (PRes.val [(D.bool false)])
        else
          (E.call 18 [(V.d (D.sl 6 s_)), (V.d (D.sl 1 l24))]).bind fun p40 =>
          (opL (A.cell p40.leaves 0) 2).bind fun l42 =>
          (E.call 15 [(V.d (D.sl 6 s_)), (V.d (D.sl 2 l42))]).bind fun p43 =>
          (opL (A.cell p43.leaves 0) 1).bind fun l45 =>
          (opB (A.cell p43.leaves 1)).bind fun b46 =>
          cutO (
            bif b46 then
              (E.call 20 [(V.d (D.sl 1 l24)), (V.d (D.sl 1 l45))]).bind fun p47 =>
              (opB (A.cell p47.leaves 0)).bind fun b49 =>
              some (.inl [(D.bool b49)])
            else
              some (.inl [(D.bool false)])
          ) fun ds50 =>
          (opB (A.cell ds50 0)).bind fun b51 =>
          cutO (
            bif b51 then
              (E.call 8 []).bind fun p52 =>
              (opB (A.cell p52.leaves 0)).bind fun b54 =>
              some (.inl [(D.bool b54)])
            else
              some (.inl [(D.bool false)])
          ) fun ds55 =>
          (opB (A.cell ds55 0)).bind fun b56 =>
          some (PRes.val [(D.bool b56)])
theorem g5_eq (A : Sy) (E : Env) (l_ : List (List D)) (s_ : List (List D)) (c_ : List (List D)) : (funT A Tryd.prog cs 5 [V.d (D.sl 2 l_), V.d (D.sl 6 s_), V.d (D.sl 2 c_)]).run E = g5 A E l_ s_ c_ := by kernel_rfl
def g6 (A : Sy) (E : Env) (l_ : List (List D)) : Option PRes :=
  bif (A.ilt 8 (A.rlen l_)) then
    some (PRes.val [(D.bool false)])
  else
    E.lp (fun ds1 =>
      (opL (A.cell ds1 0) 2).bind fun l2 =>
      (opI (A.cell ds1 1) IntKind.i64).bind fun n3 =>
      bif (A.ilt n3 (A.rlen l2)) then
        bif (A.inr n3 (A.rlen l2)) then
          (opL (A.cell (A.skip 1 (A.row l2 n3)) 0) 1).bind fun l4 =>
          cutO (
            bif (A.ilt 12 (A.rlen l4)) then
              some (.inl [(D.bool true)])
            else
              bif (A.inr n3 (A.rlen l2)) then
                (opS (A.cell (A.row l2 n3) 0)).bind fun s5 =>
                some (.inl [(D.bool (A.ilt 100 (A.slen s5)))])
              else
                none
          ) fun ds6 =>
          (opB (A.cell ds6 0)).bind fun b7 =>
          bif b7 then
            some (.inr (PRes.val [(D.bool false)]))
          else
            E.lp (fun ds8 =>
              (opL (A.cell ds8 0) 2).bind fun l9 =>
              (opI (A.cell ds8 1) IntKind.i64).bind fun n10 =>
              (opI (A.cell ds8 2) IntKind.i64).bind fun n11 =>
              bif (A.inr n10 (A.rlen l9)) then
                (opL (A.cell (A.skip 1 (A.row l9 n10)) 0) 1).bind fun l12 =>
                bif (A.ilt n11 (A.rlen l12)) then
                  bif (A.inr n10 (A.rlen l9)) then
                    (opL (A.cell (A.skip 1 (A.row l9 n10)) 0) 1).bind fun l13 =>
                    bif (A.inr n11 (A.rlen l13)) then
                      (opS (A.cell (A.row l13 n11) 0)).bind fun s14 =>
                      bif (A.ilt 100 (A.slen s14)) then
                        some (.inr (.inr (PRes.val [(D.bool false)])))
                      else
                        some (.inl [(D.sl 2 l9), (D.int IntKind.i64 n10), (D.int IntKind.i64 (A.wrap IntKind.i64 (A.add n11 1)))])
                    else
                      none
                  else
                    none
                else
                  some (.inr (.inl [(D.sl 2 l9), (D.int IntKind.i64 (A.wrap IntKind.i64 (A.add n10 1)))]))
              else
                none
            ) [(D.sl 2 l2), (D.int IntKind.i64 n3), (D.int IntKind.i64 0)]
        else
          none
      else
        some (.inr (PRes.val [(D.bool true)]))
    ) [(D.sl 2 l_), (D.int IntKind.i64 0)]
theorem g6_eq (A : Sy) (E : Env) (l_ : List (List D)) : (funT A Tryd.prog cs 6 [V.d (D.sl 2 l_)]).run E = g6 A E l_ := by kernel_rfl
def g7 (A : Sy) (E : Env) (s_ : List (List D)) : Option PRes :=
  E.lp (fun ds1 =>
    (opL (A.cell ds1 0) 6).bind fun l2 =>
    (opI (A.cell ds1 1) IntKind.i64).bind fun n3 =>
    cutO (
      bif (A.ilt n3 (A.rlen l2)) then
        some (.inl [(D.bool (A.ilt n3 200))])
      else
        some (.inl [(D.bool false)])
    ) fun ds4 =>
    (opB (A.cell ds4 0)).bind fun b5 =>
    bif b5 then
      bif (A.inr n3 (A.rlen l2)) then
        (opS (A.cell (A.row l2 n3) 0)).bind fun s6 =>
        cutO (
          bif (A.ilt 200 (A.slen s6)) then
            some (.inl [(D.bool true)])
          else
            bif (A.inr n3 (A.rlen l2)) then
              (opL (A.cell (A.skip 5 (A.row l2 n3)) 0) 1).bind fun l7 =>
              some (.inl [(D.bool (A.ilt 20 (A.rlen l7)))])
            else
              none
        ) fun ds8 =>
        (opB (A.cell ds8 0)).bind fun b9 =>
        bif b9 then
          some (.inr (PRes.val [(D.bool false)]))
        else
          some (.inl [(D.sl 6 l2), (D.int IntKind.i64 (A.wrap IntKind.i64 (A.add n3 1)))])
      else
        none
    else
      some (.inr (PRes.val [(D.bool (A.ile (A.rlen l2) 150))]))
  ) [(D.sl 6 s_), (D.int IntKind.i64 0)]
theorem g7_eq (A : Sy) (E : Env) (s_ : List (List D)) : (funT A Tryd.prog cs 7 [V.d (D.sl 6 s_)]).run E = g7 A E s_ := by kernel_rfl
def g8 (A : Sy) (E : Env) : Option PRes :=
  (E.call 21 [(V.d (D.sl 6 [[(D.str (bs [97])), (D.int IntKind.i64 2), (D.int IntKind.i64 0), (D.int IntKind.i64 2), (D.int IntKind.i64 0), (D.sl 1 [[(D.int IntKind.i64 0)], [(D.int IntKind.i64 1)]])], [(D.str (bs [98])), (D.int IntKind.i64 1), (D.int IntKind.i64 0), (D.int IntKind.i64 0), (D.int IntKind.i64 2), (D.sl 1 [[(D.int IntKind.i64 5)]])]]))]).bind fun p1 =>
  (opI (A.cell p1.leaves 0) IntKind.i64).bind fun n3 =>
  cutO (
    bif (A.ieq n3 3) then
      (E.call 9 [(V.d (D.sl 2 [])), (V.d (D.sl 6 [[(D.str (bs [97])), (D.int IntKind.i64 2), (D.int IntKind.i64 0), (D.int IntKind.i64 2), (D.int IntKind.i64 0), (D.sl 1 [[(D.int IntKind.i64 0)], [(D.int IntKind.i64 1)]])], [(D.str (bs [98])), (D.int IntKind.i64 1), (D.int IntKind.i64 0), (D.int IntKind.i64 0), (D.int IntKind.i64 2), (D.sl 1 [[(D.int IntKind.i64 5)]])]]))]).bind fun p4 =>
      (opB (A.cell p4.leaves 0)).bind fun b6 =>
      some (.inl [(D.bool b6)])
    else
      some (.inl [(D.bool false)])
  ) fun ds7 =>
  (opB (A.cell ds7 0)).bind fun b8 =>
  cutO (
    bif b8 then
      (E.call 11 [(V.d (D.sl 6 [[(D.str (bs [97])), (D.int IntKind.i64 2), (D.int IntKind.i64 0), (D.int IntKind.i64 2), (D.int IntKind.i64 0), (D.sl 1 [[(D.int IntKind.i64 0)], [(D.int IntKind.i64 1)]])], [(D.str (bs [98])), (D.int IntKind.i64 1), (D.int IntKind.i64 0), (D.int IntKind.i64 0), (D.int IntKind.i64 2), (D.sl 1 [[(D.int IntKind.i64 5)]])]])), (V.d (D.str (bs [98])))]).bind fun p9 =>
      (opI (A.cell p9.leaves 0) IntKind.i64).bind fun n11 =>
      some (.inl [(D.bool (A.ieq n11 1))])
    else
      some (.inl [(D.bool false)])
  ) fun ds12 =>
  (opB (A.cell ds12 0)).bind fun b13 =>
  some (PRes.val [(D.bool b13)])
theorem g8_eq (A : Sy) (E : Env) : (funT A Tryd.prog cs 8 []).run E = g8 A E  := by kernel_rfl
def g9 (A : Sy) (E : Env) (l_ : List (List D)) (s_ : List (List D)) : Option PRes :=
  cutO (
    bif (A.ilt 120 (A.rlen s_)) then
      some (.inl [(D.bool true)])
    else
      (E.call 21 [(V.d (D.sl 6 s_))]).bind fun p1 =>
      (opI (A.cell p1.leaves 0) IntKind.i64).bind fun n3 =>
      some (.inl [(D.bool (A.ilt 1000 n3))])
  ) fun ds4 =>
  (opB (A.cell ds4 0)).bind fun b5 =>
  bif b5 then
    some (PRes.val [(D.bool false)])
  else
    E.lp (fun ds6 =>
      (opL (A.cell ds6 0) 2).bind fun l7 =>
      (opL (A.cell ds6 1) 6).bind fun l8 =>
      (opI (A.cell ds6 2) IntKind.i64).bind fun n9 =>
      (opI (A.cell ds6 3) IntKind.i64).bind fun n10 =>
      (opI (A.cell ds6 4) IntKind.i64).bind fun n11 =>
      (opL (A.cell ds6 5) 1).bind fun l12 =>
      bif (A.ilt n10 n9) then
        bif (A.inr n10 (A.rlen l8)) then
          (opS (A.cell (A.row l8 n10) 0)).bind fun s13 =>
          (opI (A.cell (A.row l8 n10) 1) IntKind.i64).bind fun n14 =>
          (opI (A.cell (A.row l8 n10) 2) IntKind.i64).bind fun n15 =>
          (opI (A.cell (A.row l8 n10) 3) IntKind.i64).bind fun n16 =>
          (opI (A.cell (A.row l8 n10) 4) IntKind.i64).bind fun n17 =>
          (opL (A.cell (A.row l8 n10) 5) 1).bind fun l18 =>
          (E.call 34 [(V.agg [(V.d (D.int IntKind.i64 n14)), (V.d (D.int IntKind.i64 n15)), (V.d (D.int IntKind.i64 n16))])]).bind fun p19 =>
          (opI (A.cell p19.leaves 0) IntKind.i64).bind fun n21 =>
          bif (A.bnot (A.ieq n11 n17)) then
            some (.inr (PRes.val [(D.bool false)]))
          else
            (E.call 23 [(V.d (D.str s13))]).bind fun p22 =>
            (opB (A.cell p22.leaves 0)).bind fun b24 =>
            bif (A.bnot b24) then
              some (.inr (PRes.val [(D.bool false)]))
            else
              (E.call 24 [(V.d (D.sl 2 l7)), (V.agg [(V.d (D.int IntKind.i64 n14)), (V.d (D.int IntKind.i64 n15)), (V.d (D.int IntKind.i64 n16))]), (V.d (D.sl 1 l18))]).bind fun p25 =>
              (opB (A.cell p25.leaves 0)).bind fun b27 =>
              bif (A.bnot b27) then
                some (.inr (PRes.val [(D.bool false)]))
              else
                bif (A.fits l12 [[(D.str s13)]] 16) then
                  some (.inl [(D.sl 2 l7), (D.sl 6 l8), (D.int IntKind.i64 n9), (D.int IntKind.i64 (A.wrap IntKind.i64 (A.add n10 1))), (D.int IntKind.i64 (A.wrap IntKind.i64 (A.add n11 n21))), (D.sl 1 (A.rapp l12 [[(D.str s13)]]))])
                else
                  none
        else
          none
      else
        (E.call 25 [(V.d (D.sl 1 l12))]).bind fun p28 =>
        (opB (A.cell p28.leaves 0)).bind fun b30 =>
        some (.inr (PRes.val [(D.bool b30)]))
    ) [(D.sl 2 l_), (D.sl 6 s_), (D.int IntKind.i64 (A.rlen s_)), (D.int IntKind.i64 0), (D.int IntKind.i64 0), (D.sl 1 [])]
theorem g9_eq (A : Sy) (E : Env) (l_ : List (List D)) (s_ : List (List D)) : (funT A Tryd.prog cs 9 [V.d (D.sl 2 l_), V.d (D.sl 6 s_)]).run E = g9 A E l_ s_ := by kernel_rfl
def g10 (A : Sy) (E : Env) (l_ : List (List D)) (s_ : List (List D)) : Option PRes :=
  cutO (
    bif (A.ilt 120 (A.rlen s_)) then
      some (.inl [(D.bool true)])
    else
      (E.call 26 [(V.d (D.sl 6 s_))]).bind fun p1 =>
      (opI (A.cell p1.leaves 0) IntKind.i64).bind fun n3 =>
      some (.inl [(D.bool (A.ilt 1000 n3))])
  ) fun ds4 =>
  (opB (A.cell ds4 0)).bind fun b5 =>
  bif b5 then
    some (PRes.val [(D.bool false)])
  else
    E.lp (fun ds6 =>
      (opL (A.cell ds6 0) 2).bind fun l7 =>
      (opL (A.cell ds6 1) 6).bind fun l8 =>
      (opI (A.cell ds6 2) IntKind.i64).bind fun n9 =>
      bif (A.ilt n9 (A.rlen l8)) then
        bif (A.inr n9 (A.rlen l8)) then
          (opS (A.cell (A.row l8 n9) 0)).bind fun s10 =>
          (E.call 27 [(V.d (D.str s10))]).bind fun p11 =>
          (opB (A.cell p11.leaves 0)).bind fun b13 =>
          bif (A.bnot b13) then
            some (.inr (PRes.val [(D.bool false)]))
          else
            bif (A.inr n9 (A.rlen l8)) then
              (opI (A.cell (A.skip 1 (A.row l8 n9)) 0) IntKind.i64).bind fun n14 =>
              (opI (A.cell (A.skip 1 (A.row l8 n9)) 1) IntKind.i64).bind fun n15 =>
              (opI (A.cell (A.skip 1 (A.row l8 n9)) 2) IntKind.i64).bind fun n16 =>
              bif (A.inr n9 (A.rlen l8)) then
                (opL (A.cell (A.skip 5 (A.row l8 n9)) 0) 1).bind fun l17 =>
                (E.call 28 [(V.d (D.sl 2 l7)), (V.agg [(V.d (D.int IntKind.i64 n14)), (V.d (D.int IntKind.i64 n15)), (V.d (D.int IntKind.i64 n16))]), (V.d (D.sl 1 l17))]).bind fun p18 =>
                (opB (A.cell p18.leaves 0)).bind fun b20 =>
                bif (A.bnot b20) then
                  some (.inr (PRes.val [(D.bool false)]))
                else
                  bif (A.inr n9 (A.rlen l8)) then
                    (opI (A.cell (A.skip 4 (A.row l8 n9)) 0) IntKind.i64).bind fun n21 =>
                    bif (A.cutok 0 n9 (A.rlen l8)) then
                      (E.call 26 [(V.d (D.sl 6 (A.cut l8 0 n9)))]).bind fun p22 =>
                      (opI (A.cell p22.leaves 0) IntKind.i64).bind fun n24 =>
                      bif (A.bnot (A.ieq n21 n24)) then
                        some (.inr (PRes.val [(D.bool false)]))
                      else
                        bif (A.inr n9 (A.rlen l8)) then
                          (opS (A.cell (A.row l8 n9) 0)).bind fun s25 =>
                          (E.call 12 [(V.d (D.sl 6 l8)), (V.d (D.str s25))]).bind fun p26 =>
                          (opI (A.cell p26.leaves 0) IntKind.i64).bind fun n28 =>
                          bif (A.bnot (A.ieq n28 n9)) then
                            some (.inr (PRes.val [(D.bool false)]))
                          else
                            some (.inl [(D.sl 2 l7), (D.sl 6 l8), (D.int IntKind.i64 (A.wrap IntKind.i64 (A.add n9 1)))])
                        else
                          none
                    else
                      none
                  else
                    none
              else
                none
            else
              none
        else
          none
      else
        some (.inr (PRes.val [(D.bool true)]))
    ) [(D.sl 2 l_), (D.sl 6 s_), (D.int IntKind.i64 0)]
theorem g10_eq (A : Sy) (E : Env) (l_ : List (List D)) (s_ : List (List D)) : (funT A Tryd.prog cs 10 [V.d (D.sl 2 l_), V.d (D.sl 6 s_)]).run E = g10 A E l_ s_ := by kernel_rfl
def g11 (A : Sy) (E : Env) (s_ : List (List D)) (path_ : ByteArray) : Option PRes :=
  (E.call 29 [(V.d (D.sl 6 s_)), (V.fn 30 [(V.pel [(D.str path_)])])]).bind fun p1 =>
  (opI (A.cell p1.leaves 0) IntKind.i64).bind fun n3 =>
  some (PRes.val [(D.int IntKind.i64 n3)])
theorem g11_eq (A : Sy) (E : Env) (s_ : List (List D)) (path_ : ByteArray) : (funT A Tryd.prog cs 11 [V.d (D.sl 6 s_), V.d (D.str path_)]).run E = g11 A E s_ path_ := by kernel_rfl
def g12 (A : Sy) (E : Env) (s_ : List (List D)) (path_ : ByteArray) : Option PRes :=
  E.lp (fun ds1 =>
    (opL (A.cell ds1 0) 6).bind fun l2 =>
    (opS (A.cell ds1 1)).bind fun s3 =>
    (opI (A.cell ds1 2) IntKind.i64).bind fun n4 =>
    bif (A.ilt n4 (A.rlen l2)) then
      bif (A.inr n4 (A.rlen l2)) then
        (opS (A.cell (A.row l2 n4) 0)).bind fun s5 =>
        bif (A.seq s5 s3) then
          some (.inr (PRes.val [(D.int IntKind.i64 n4)]))
        else
          some (.inl [(D.sl 6 l2), (D.str s3), (D.int IntKind.i64 (A.wrap IntKind.i64 (A.add n4 1)))])
      else
        none
    else
      some (.inr (PRes.val [(D.int IntKind.i64 (-1))]))
  ) [(D.sl 6 s_), (D.str path_), (D.int IntKind.i64 0)]
theorem g12_eq (A : Sy) (E : Env) (s_ : List (List D)) (path_ : ByteArray) : (funT A Tryd.prog cs 12 [V.d (D.sl 6 s_), V.d (D.str path_)]).run E = g12 A E s_ path_ := by kernel_rfl
def g13 (A : Sy) (E : Env) (a_ : List (List D)) (b_ : List (List D)) : Option PRes :=
  (E.call 31 [(V.d (D.sl 6 a_)), (V.d (D.sl 6 b_)), (V.fn 32 [])]).bind fun p1 =>
  (opB (A.cell p1.leaves 0)).bind fun b3 =>
  some (PRes.val [(D.bool b3)])
theorem g13_eq (A : Sy) (E : Env) (a_ : List (List D)) (b_ : List (List D)) : (funT A Tryd.prog cs 13 [V.d (D.sl 6 a_), V.d (D.sl 6 b_)]).run E = g13 A E a_ b_ := by kernel_rfl
def g14 (A : Sy) (E : Env) (m_ : List (List D)) : Option PRes :=
  E.lp (fun ds1 =>
    (opL (A.cell ds1 0) 2).bind fun l2 =>
    (opI (A.cell ds1 1) IntKind.i64).bind fun n3 =>
    cutO (
      bif (A.ilt n3 (A.rlen l2)) then
        some (.inl [(D.bool (A.ilt n3 200))])
      else
        some (.inl [(D.bool false)])
    ) fun ds4 =>
    (opB (A.cell ds4 0)).bind fun b5 =>
    bif b5 then
      bif (A.inr n3 (A.rlen l2)) then
        (opS (A.cell (A.row l2 n3) 0)).bind fun s6 =>
        cutO (
          bif (A.ilt 200 (A.slen s6)) then
            some (.inl [(D.bool true)])
          else
            bif (A.inr n3 (A.rlen l2)) then
              (opL (A.cell (A.skip 1 (A.row l2 n3)) 0) 1).bind fun l7 =>
              some (.inl [(D.bool (A.ilt 20 (A.rlen l7)))])
            else
              none
        ) fun ds8 =>
        (opB (A.cell ds8 0)).bind fun b9 =>
        bif b9 then
          some (.inr (PRes.val [(D.bool false)]))
        else
          some (.inl [(D.sl 2 l2), (D.int IntKind.i64 (A.wrap IntKind.i64 (A.add n3 1)))])
      else
        none
    else
      some (.inr (PRes.val [(D.bool (A.ile (A.rlen l2) 150))]))
  ) [(D.sl 2 m_), (D.int IntKind.i64 0)]
theorem g14_eq (A : Sy) (E : Env) (m_ : List (List D)) : (funT A Tryd.prog cs 14 [V.d (D.sl 2 m_)]).run E = g14 A E m_ := by kernel_rfl
def g15 (A : Sy) (E : Env) (s_ : List (List D)) (c_ : List (List D)) : Option PRes :=
  (E.call 35 [(V.d (D.sl 6 s_)), (V.d (D.sl 2 c_)), (V.fn 33 [])]).bind fun p1 =>
  (opB (A.cell p1.leaves 0)).bind fun b3 =>
  bif (A.bnot b3) then
    some (PRes.val [(D.sl 1 []), (D.bool false)])
  else
    (E.call 21 [(V.d (D.sl 6 s_))]).bind fun p4 =>
    (opI (A.cell p4.leaves 0) IntKind.i64).bind fun n6 =>
    bif (A.mkok n6 n6 8) then
      E.lp (fun ds7 =>
        (opI (A.cell ds7 0) IntKind.i64).bind fun n8 =>
        (opL (A.cell ds7 1) 2).bind fun l9 =>
        (opI (A.cell ds7 2) IntKind.i64).bind fun n10 =>
        (opI (A.cell ds7 3) IntKind.i64).bind fun n11 =>
        (opL (A.cell ds7 4) 1).bind fun l12 =>
        bif (A.ilt n11 n10) then
          bif (A.inr n11 (A.rlen l9)) then
            (opS (A.cell (A.row l9 n11) 0)).bind fun s13 =>
            (opL (A.cell (A.row l9 n11) 1) 1).bind fun l14 =>
            bif (A.cutok n8 (A.rlen l12) (A.rlen l12)) then
              bif (A.cutok n8 (A.add n8 (A.sub (A.rlen l12) n8)) (A.rlen l12)) then
                some (.inl [(D.int IntKind.i64 (A.wrap IntKind.i64 (A.add n8 (A.imin (A.sub (A.rlen l12) n8) (A.rlen l14))))), (D.sl 2 l9), (D.int IntKind.i64 n10), (D.int IntKind.i64 (A.wrap IntKind.i64 (A.add n11 1))), (D.sl 1 (A.rcopy l12 n8 (A.sub (A.rlen l12) n8) l14))])
              else
                none
            else
              none
          else
            none
        else
          some (.inr (PRes.val [(D.sl 1 l12), (D.bool true)]))
      ) [(D.int IntKind.i64 0), (D.sl 2 c_), (D.int IntKind.i64 (A.rlen c_)), (D.int IntKind.i64 0), (D.sl 1 (A.rep n6 [(D.int IntKind.i64 0)]))]
    else
      none
theorem g15_eq (A : Sy) (E : Env) (s_ : List (List D)) (c_ : List (List D)) : (funT A Tryd.prog cs 15 [V.d (D.sl 6 s_), V.d (D.sl 2 c_)]).run E = g15 A E s_ c_ := by kernel_rfl
def g16 (A : Sy) (E : Env) (s_ : List (List D)) (c_ : List (List D)) : Option PRes :=
  bif (A.bnot (A.ieq (A.rlen s_) (A.rlen c_))) then
    some (PRes.val [(D.sl 1 []), (D.bool false)])
  else
    E.lp (fun ds1 =>
      (opL (A.cell ds1 0) 6).bind fun l2 =>
      (opL (A.cell ds1 1) 2).bind fun l3 =>
      (opI (A.cell ds1 2) IntKind.i64).bind fun n4 =>
      (opL (A.cell ds1 3) 1).bind fun l5 =>
      bif (A.ilt n4 (A.rlen l2)) then
        bif (A.inr n4 (A.rlen l3)) then
          (opS (A.cell (A.row l3 n4) 0)).bind fun s6 =>
          bif (A.inr n4 (A.rlen l2)) then
            (opS (A.cell (A.row l2 n4) 0)).bind fun s7 =>
            bif (A.bnot (A.seq s6 s7)) then
              some (.inr (PRes.val [(D.sl 1 []), (D.bool false)]))
            else
              bif (A.inr n4 (A.rlen l3)) then
                (opL (A.cell (A.skip 1 (A.row l3 n4)) 0) 1).bind fun l8 =>
                bif (A.inr n4 (A.rlen l2)) then
                  (opI (A.cell (A.skip 1 (A.row l2 n4)) 0) IntKind.i64).bind fun n9 =>
                  (opI (A.cell (A.skip 1 (A.row l2 n4)) 1) IntKind.i64).bind fun n10 =>
                  (opI (A.cell (A.skip 1 (A.row l2 n4)) 2) IntKind.i64).bind fun n11 =>
                  (E.call 36 [(V.agg [(V.d (D.int IntKind.i64 n9)), (V.d (D.int IntKind.i64 n10)), (V.d (D.int IntKind.i64 n11))])]).bind fun p12 =>
                  (opI (A.cell p12.leaves 0) IntKind.i64).bind fun n14 =>
                  bif (A.bnot (A.ieq (A.rlen l8) n14)) then
                    some (.inr (PRes.val [(D.sl 1 []), (D.bool false)]))
                  else
                    bif (A.inr n4 (A.rlen l3)) then
                      (opL (A.cell (A.skip 1 (A.row l3 n4)) 0) 1).bind fun l15 =>
                      bif (A.fits l5 l15 8) then
                        some (.inl [(D.sl 6 l2), (D.sl 2 l3), (D.int IntKind.i64 (A.wrap IntKind.i64 (A.add n4 1))), (D.sl 1 (A.rapp l5 l15))])
                      else
                        none
                    else
                      none
                else
                  none
              else
                none
          else
            none
        else
          none
      else
        some (.inr (PRes.val [(D.sl 1 l5), (D.bool true)]))
    ) [(D.sl 6 s_), (D.sl 2 c_), (D.int IntKind.i64 0), (D.sl 1 [])]
theorem g16_eq (A : Sy) (E : Env) (s_ : List (List D)) (c_ : List (List D)) : (funT A Tryd.prog cs 16 [V.d (D.sl 6 s_), V.d (D.sl 2 c_)]).run E = g16 A E s_ c_ := by kernel_rfl
def g17 (A : Sy) (E : Env) (a_ : List (List D)) (b_ : List (List D)) : Option PRes :=
  bif (A.bnot (A.ieq (A.rlen a_) (A.rlen b_))) then
    some (PRes.val [(D.bool false)])
  else
    E.lp (fun ds1 =>
      (opL (A.cell ds1 0) 2).bind fun l2 =>
      (opL (A.cell ds1 1) 2).bind fun l3 =>
      (opI (A.cell ds1 2) IntKind.i64).bind fun n4 =>
      bif (A.ilt n4 (A.rlen l2)) then
        bif (A.inr n4 (A.rlen l2)) then
          (opS (A.cell (A.row l2 n4) 0)).bind fun s5 =>
          bif (A.inr n4 (A.rlen l3)) then
            (opS (A.cell (A.row l3 n4) 0)).bind fun s6 =>
            bif (A.bnot (A.seq s5 s6)) then
              some (.inr (PRes.val [(D.bool false)]))
            else
              bif (A.inr n4 (A.rlen l2)) then
                (opL (A.cell (A.skip 1 (A.row l2 n4)) 0) 1).bind fun l7 =>
                bif (A.inr n4 (A.rlen l3)) then
                  (opL (A.cell (A.skip 1 (A.row l3 n4)) 0) 1).bind fun l8 =>
                  (E.call 20 [(V.d (D.sl 1 l7)), (V.d (D.sl 1 l8))]).bind fun p9 =>
                  (opB (A.cell p9.leaves 0)).bind fun b11 =>
                  bif (A.bnot b11) then
                    some (.inr (PRes.val [(D.bool false)]))
                  else
                    some (.inl [(D.sl 2 l2), (D.sl 2 l3), (D.int IntKind.i64 (A.wrap IntKind.i64 (A.add n4 1)))])
                else
                  none
              else
                none
          else
            none
        else
          none
      else
        some (.inr (PRes.val [(D.bool true)]))
    ) [(D.sl 2 a_), (D.sl 2 b_), (D.int IntKind.i64 0)]
theorem g17_eq (A : Sy) (E : Env) (a_ : List (List D)) (b_ : List (List D)) : (funT A Tryd.prog cs 17 [V.d (D.sl 2 a_), V.d (D.sl 2 b_)]).run E = g17 A E a_ b_ := by kernel_rfl
def g18 (A : Sy) (E : Env) (s_ : List (List D)) (m_ : List (List D)) : Option PRes :=
  E.lp (fun ds1 =>
    (opL (A.cell ds1 0) 1).bind fun l2 =>
    (opL (A.cell ds1 1) 6).bind fun l3 =>
    (opI (A.cell ds1 2) IntKind.i64).bind fun n4 =>
    (opI (A.cell ds1 3) IntKind.i64).bind fun n5 =>
    (opL (A.cell ds1 4) 2).bind fun l6 =>
    bif (A.ilt n5 n4) then
      bif (A.inr n5 (A.rlen l3)) then
        (opS (A.cell (A.row l3 n5) 0)).bind fun s7 =>
        (opI (A.cell (A.row l3 n5) 1) IntKind.i64).bind fun n8 =>
        (opI (A.cell (A.row l3 n5) 2) IntKind.i64).bind fun n9 =>
        (opI (A.cell (A.row l3 n5) 3) IntKind.i64).bind fun n10 =>
        (opI (A.cell (A.row l3 n5) 4) IntKind.i64).bind fun n11 =>
        (opL (A.cell (A.row l3 n5) 5) 1).bind fun l12 =>
        (E.call 34 [(V.agg [(V.d (D.int IntKind.i64 n8)), (V.d (D.int IntKind.i64 n9)), (V.d (D.int IntKind.i64 n10))])]).bind fun p13 =>
        (opI (A.cell p13.leaves 0) IntKind.i64).bind fun n15 =>
        bif (A.mkok n15 n15 8) then
          cutO (
            bif (A.ilt n11 0) then
              some (.inl [(D.bool true)])
            else
              some (.inl [(D.bool (A.ilt (A.wrap IntKind.i64 (A.sub (A.rlen l2) (A.rlen (A.rep n15 [(D.int IntKind.i64 0)])))) n11))])
          ) fun ds16 =>
          (opB (A.cell ds16 0)).bind fun b17 =>
          bif b17 then
            some (.inr (PRes.own 59 2 []))
          else
            bif (A.cutok n11 (A.rlen l2) (A.rlen l2)) then
              bif (A.cutok 0 (A.add 0 (A.rlen (A.rep n15 [(D.int IntKind.i64 0)]))) (A.rlen (A.rep n15 [(D.int IntKind.i64 0)]))) then
                bif (A.fits l6 [[(D.str s7), (D.sl 1 (A.rcopy (A.rep n15 [(D.int IntKind.i64 0)]) 0 (A.rlen (A.rep n15 [(D.int IntKind.i64 0)])) (A.cut l2 n11 (A.rlen l2))))]] 40) then
                  some (.inl [(D.sl 1 l2), (D.sl 6 l3), (D.int IntKind.i64 n4), (D.int IntKind.i64 (A.wrap IntKind.i64 (A.add n5 1))), (D.sl 2 (A.rapp l6 [[(D.str s7), (D.sl 1 (A.rcopy (A.rep n15 [(D.int IntKind.i64 0)]) 0 (A.rlen (A.rep n15 [(D.int IntKind.i64 0)])) (A.cut l2 n11 (A.rlen l2))))]]))])
                else
                  none
              else
                none
            else
              none
        else
          none
      else
        none
    else
      some (.inr (PRes.own 59 2 l6))
  ) [(D.sl 1 m_), (D.sl 6 s_), (D.int IntKind.i64 (A.rlen s_)), (D.int IntKind.i64 0), (D.sl 2 [])]
theorem g18_eq (A : Sy) (E : Env) (s_ : List (List D)) (m_ : List (List D)) : (funT A Tryd.prog cs 18 [V.d (D.sl 6 s_), V.d (D.sl 1 m_)]).run E = g18 A E s_ m_ := by kernel_rfl
def g19 (A : Sy) (E : Env) (s_ : List (List D)) (m_ : List (List D)) : Option PRes :=
  E.lp (fun ds1 =>
    (opL (A.cell ds1 0) 6).bind fun l2 =>
    (opL (A.cell ds1 1) 1).bind fun l3 =>
    (opI (A.cell ds1 2) IntKind.i64).bind fun n4 =>
    (opL (A.cell ds1 3) 2).bind fun l5 =>
    bif (A.ilt n4 (A.rlen l2)) then
      bif (A.inr n4 (A.rlen l2)) then
        (opI (A.cell (A.skip 1 (A.row l2 n4)) 0) IntKind.i64).bind fun n6 =>
        (opI (A.cell (A.skip 1 (A.row l2 n4)) 1) IntKind.i64).bind fun n7 =>
        (opI (A.cell (A.skip 1 (A.row l2 n4)) 2) IntKind.i64).bind fun n8 =>
        (E.call 36 [(V.agg [(V.d (D.int IntKind.i64 n6)), (V.d (D.int IntKind.i64 n7)), (V.d (D.int IntKind.i64 n8))])]).bind fun p9 =>
        (opI (A.cell p9.leaves 0) IntKind.i64).bind fun n11 =>
        bif (A.inr n4 (A.rlen l2)) then
          (opI (A.cell (A.skip 4 (A.row l2 n4)) 0) IntKind.i64).bind fun n12 =>
          cutO (
            bif (A.ilt n12 0) then
              some (.inl [(D.bool true)])
            else
              bif (A.inr n4 (A.rlen l2)) then
                (opI (A.cell (A.skip 4 (A.row l2 n4)) 0) IntKind.i64).bind fun n13 =>
                some (.inl [(D.bool (A.ilt (A.wrap IntKind.i64 (A.sub (A.rlen l3) n11)) n13))])
              else
                none
          ) fun ds14 =>
          (opB (A.cell ds14 0)).bind fun b15 =>
          bif b15 then
            some (.inr (PRes.own 59 2 []))
          else
            bif (A.inr n4 (A.rlen l2)) then
              (opS (A.cell (A.row l2 n4) 0)).bind fun s16 =>
              bif (A.inr n4 (A.rlen l2)) then
                (opI (A.cell (A.skip 4 (A.row l2 n4)) 0) IntKind.i64).bind fun n17 =>
                bif (A.inr n4 (A.rlen l2)) then
                  (opI (A.cell (A.skip 4 (A.row l2 n4)) 0) IntKind.i64).bind fun n18 =>
                  bif (A.cutok n17 (A.wrap IntKind.i64 (A.add n18 n11)) (A.rlen l3)) then
                    bif (A.fits l5 [[(D.str s16), (D.sl 1 (A.cut l3 n17 (A.wrap IntKind.i64 (A.add n18 n11))))]] 40) then
                      some (.inl [(D.sl 6 l2), (D.sl 1 l3), (D.int IntKind.i64 (A.wrap IntKind.i64 (A.add n4 1))), (D.sl 2 (A.rapp l5 [[(D.str s16), (D.sl 1 (A.cut l3 n17 (A.wrap IntKind.i64 (A.add n18 n11))))]]))])
                    else
                      none
                  else
                    none
                else
                  none
              else
                none
            else
              none
        else
          none
      else
        none
    else
      some (.inr (PRes.own 59 2 l5))
  ) [(D.sl 6 s_), (D.sl 1 m_), (D.int IntKind.i64 0), (D.sl 2 [])]
theorem g19_eq (A : Sy) (E : Env) (s_ : List (List D)) (m_ : List (List D)) : (funT A Tryd.prog cs 19 [V.d (D.sl 6 s_), V.d (D.sl 1 m_)]).run E = g19 A E s_ m_ := by kernel_rfl
def g20 (A : Sy) (E : Env) (a_ : List (List D)) (b_ : List (List D)) : Option PRes :=
  bif (A.bnot (A.ieq (A.rlen a_) (A.rlen b_))) then
    some (PRes.val [(D.bool false)])
  else
    E.lp (fun ds1 =>
      (opL (A.cell ds1 0) 1).bind fun l2 =>
      (opL (A.cell ds1 1) 1).bind fun l3 =>
      (opI (A.cell ds1 2) IntKind.i64).bind fun n4 =>
      bif (A.ilt n4 (A.rlen l2)) then
        bif (A.inr n4 (A.rlen l2)) then
          (opI (A.cell (A.row l2 n4) 0) IntKind.i64).bind fun n5 =>
          bif (A.inr n4 (A.rlen l3)) then
            (opI (A.cell (A.row l3 n4) 0) IntKind.i64).bind fun n6 =>
            bif (A.bnot (A.ieq n5 n6)) then
              some (.inr (PRes.val [(D.bool false)]))
            else
              some (.inl [(D.sl 1 l2), (D.sl 1 l3), (D.int IntKind.i64 (A.wrap IntKind.i64 (A.add n4 1)))])
          else
            none
        else
          none
      else
        some (.inr (PRes.val [(D.bool true)]))
    ) [(D.sl 1 a_), (D.sl 1 b_), (D.int IntKind.i64 0)]
theorem g20_eq (A : Sy) (E : Env) (a_ : List (List D)) (b_ : List (List D)) : (funT A Tryd.prog cs 20 [V.d (D.sl 1 a_), V.d (D.sl 1 b_)]).run E = g20 A E a_ b_ := by kernel_rfl
def g21 (A : Sy) (E : Env) (s_ : List (List D)) : Option PRes :=
  E.lp (fun ds1 =>
    (opI (A.cell ds1 0) IntKind.i64).bind fun n2 =>
    (opL (A.cell ds1 1) 6).bind fun l3 =>
    (opI (A.cell ds1 2) IntKind.i64).bind fun n4 =>
    (opI (A.cell ds1 3) IntKind.i64).bind fun n5 =>
    bif (A.ilt n5 n4) then
      bif (A.inr n5 (A.rlen l3)) then
        (opS (A.cell (A.row l3 n5) 0)).bind fun s6 =>
        (opI (A.cell (A.row l3 n5) 1) IntKind.i64).bind fun n7 =>
        (opI (A.cell (A.row l3 n5) 2) IntKind.i64).bind fun n8 =>
        (opI (A.cell (A.row l3 n5) 3) IntKind.i64).bind fun n9 =>
        (opI (A.cell (A.row l3 n5) 4) IntKind.i64).bind fun n10 =>
        (opL (A.cell (A.row l3 n5) 5) 1).bind fun l11 =>
        (E.call 34 [(V.agg [(V.d (D.int IntKind.i64 n7)), (V.d (D.int IntKind.i64 n8)), (V.d (D.int IntKind.i64 n9))])]).bind fun p12 =>
        (opI (A.cell p12.leaves 0) IntKind.i64).bind fun n14 =>
        some (.inl [(D.int IntKind.i64 (A.wrap IntKind.i64 (A.add n2 n14))), (D.sl 6 l3), (D.int IntKind.i64 n4), (D.int IntKind.i64 (A.wrap IntKind.i64 (A.add n5 1)))])
      else
        none
    else
      some (.inr (PRes.val [(D.int IntKind.i64 n2)]))
  ) [(D.int IntKind.i64 0), (D.sl 6 s_), (D.int IntKind.i64 (A.rlen s_)), (D.int IntKind.i64 0)]
theorem g21_eq (A : Sy) (E : Env) (s_ : List (List D)) : (funT A Tryd.prog cs 21 [V.d (D.sl 6 s_)]).run E = g21 A E s_ := by kernel_rfl
def g23 (A : Sy) (E : Env) (s_ : ByteArray) : Option PRes :=
  (E.call 38 [(V.d (D.str s_)), (V.d (D.str (bs [47])))]).bind fun p1 =>
  (opL (A.cell p1.leaves 0) 1).bind fun l3 =>
  E.lp (fun ds4 =>
    (opL (A.cell ds4 0) 1).bind fun l5 =>
    (opI (A.cell ds4 1) IntKind.i64).bind fun n6 =>
    (opI (A.cell ds4 2) IntKind.i64).bind fun n7 =>
    bif (A.ilt n7 n6) then
      bif (A.inr n7 (A.rlen l5)) then
        (opS (A.cell (A.row l5 n7) 0)).bind fun s8 =>
        (E.call 39 [(V.d (D.str s8))]).bind fun p9 =>
        (opB (A.cell p9.leaves 0)).bind fun b11 =>
        bif (A.bnot b11) then
          some (.inr (PRes.val [(D.bool false)]))
        else
          some (.inl [(D.sl 1 l5), (D.int IntKind.i64 n6), (D.int IntKind.i64 (A.wrap IntKind.i64 (A.add n7 1)))])
      else
        none
    else
      some (.inr (PRes.val [(D.bool true)]))
  ) [(D.sl 1 l3), (D.int IntKind.i64 (A.rlen l3)), (D.int IntKind.i64 0)]
theorem g23_eq (A : Sy) (E : Env) (s_ : ByteArray) : (funT A Tryd.prog cs 23 [V.d (D.str s_)]).run E = g23 A E s_ := by kernel_rfl
def g24 (A : Sy) (E : Env) (l_ : List (List D)) (t_0 : Int) (t_1 : Int) (t_2 : Int) (v_ : List (List D)) : Option PRes :=
  (E.call 42 [(V.d (D.sl 2 l_)), (V.agg [(V.d (D.int IntKind.i64 t_0)), (V.d (D.int IntKind.i64 t_1)), (V.d (D.int IntKind.i64 t_2))])]).bind fun p1 =>
  (opB (A.cell p1.leaves 0)).bind fun b3 =>
  cutO (
    bif b3 then
      (E.call 34 [(V.agg [(V.d (D.int IntKind.i64 t_0)), (V.d (D.int IntKind.i64 t_1)), (V.d (D.int IntKind.i64 t_2))])]).bind fun p4 =>
      (opI (A.cell p4.leaves 0) IntKind.i64).bind fun n6 =>
      some (.inl [(D.bool (A.ieq (A.rlen v_) n6))])
    else
      some (.inl [(D.bool false)])
  ) fun ds7 =>
  (opB (A.cell ds7 0)).bind fun b8 =>
  cutO (
    bif b8 then
      (E.call 43 [(V.d (D.sl 1 v_)), (V.fn 40 [(V.pel [(D.sl 2 l_)]), (V.pel [(D.int IntKind.i64 t_0), (D.int IntKind.i64 t_1), (D.int IntKind.i64 t_2)])])]).bind fun p9 =>
      (opB (A.cell p9.leaves 0)).bind fun b11 =>
      some (.inl [(D.bool (A.bnot b11))])
    else
      some (.inl [(D.bool false)])
  ) fun ds12 =>
  (opB (A.cell ds12 0)).bind fun b13 =>
  some (PRes.val [(D.bool b13)])
theorem g24_eq (A : Sy) (E : Env) (l_ : List (List D)) (t_0 : Int) (t_1 : Int) (t_2 : Int) (v_ : List (List D)) : (funT A Tryd.prog cs 24 [V.d (D.sl 2 l_), V.agg [V.d (D.int IntKind.i64 t_0), V.d (D.int IntKind.i64 t_1), V.d (D.int IntKind.i64 t_2)], V.d (D.sl 1 v_)]).run E = g24 A E l_ t_0 t_1 t_2 v_ := by kernel_rfl
end Go.Vm
end

section
set_option maxRecDepth 1000000
set_option maxHeartbeats 0
namespace Go.Vm
open Go.Proofs
def g25 (A : Sy) (E : Env) (l_ : List (List D)) : Option PRes :=
  E.lp (fun ds1 =>
    (opL (A.cell ds1 0) 1).bind fun l2 =>
    (opI (A.cell ds1 1) IntKind.i64).bind fun n3 =>
    (opI (A.cell ds1 2) IntKind.i64).bind fun n4 =>
    (opL (A.cell ds1 3) 2).bind fun l5 =>
    bif (A.ilt n4 n3) then
      bif (A.inr n4 (A.rlen l2)) then
        (opS (A.cell (A.row l2 n4) 0)).bind fun s6 =>
        (opI (some (A.mval (D.int IntKind.i64 0) (D.str s6) l5)) IntKind.i64).bind fun n7 =>
        bif (A.ilt 0 n7) then
          some (.inr (PRes.val [(D.bool false)]))
        else
          (opI (some (A.mval (D.int IntKind.i64 0) (D.str s6) l5)) IntKind.i64).bind fun n8 =>
          some (.inl [(D.sl 1 l2), (D.int IntKind.i64 n3), (D.int IntKind.i64 (A.wrap IntKind.i64 (A.add n4 1))), (D.sl 2 (A.mput (D.str s6) (D.int IntKind.i64 (A.wrap IntKind.i64 (A.add n8 1))) l5))])
      else
        none
    else
      some (.inr (PRes.val [(D.bool true)]))
  ) [(D.sl 1 l_), (D.int IntKind.i64 (A.rlen l_)), (D.int IntKind.i64 0), (D.sl 2 [])]
theorem g25_eq (A : Sy) (E : Env) (l_ : List (List D)) : (funT A Tryd.prog cs 25 [V.d (D.sl 1 l_)]).run E = g25 A E l_ := by kernel_rfl
def g26 (A : Sy) (E : Env) (s_ : List (List D)) : Option PRes :=
  E.lp (fun ds1 =>
    (opL (A.cell ds1 0) 6).bind fun l2 =>
    (opI (A.cell ds1 1) IntKind.i64).bind fun n3 =>
    (opI (A.cell ds1 2) IntKind.i64).bind fun n4 =>
    bif (A.ilt n4 (A.rlen l2)) then
      bif (A.inr n4 (A.rlen l2)) then
        (opI (A.cell (A.skip 1 (A.row l2 n4)) 0) IntKind.i64).bind fun n5 =>
        (opI (A.cell (A.skip 1 (A.row l2 n4)) 1) IntKind.i64).bind fun n6 =>
        (opI (A.cell (A.skip 1 (A.row l2 n4)) 2) IntKind.i64).bind fun n7 =>
        (E.call 36 [(V.agg [(V.d (D.int IntKind.i64 n5)), (V.d (D.int IntKind.i64 n6)), (V.d (D.int IntKind.i64 n7))])]).bind fun p8 =>
        (opI (A.cell p8.leaves 0) IntKind.i64).bind fun n10 =>
        some (.inl [(D.sl 6 l2), (D.int IntKind.i64 (A.wrap IntKind.i64 (A.add n3 n10))), (D.int IntKind.i64 (A.wrap IntKind.i64 (A.add n4 1)))])
      else
        none
    else
      some (.inr (PRes.val [(D.int IntKind.i64 n3)]))
  ) [(D.sl 6 s_), (D.int IntKind.i64 0), (D.int IntKind.i64 0)]
theorem g26_eq (A : Sy) (E : Env) (s_ : List (List D)) : (funT A Tryd.prog cs 26 [V.d (D.sl 6 s_)]).run E = g26 A E s_ := by kernel_rfl
def g27 (A : Sy) (E : Env) (s_ : ByteArray) : Option PRes :=
  (E.call 44 [(V.d (D.str s_)), (V.d (D.int IntKind.u8 47))]).bind fun p1 =>
  (opL (A.cell p1.leaves 0) 1).bind fun l3 =>
  E.lp (fun ds4 =>
    (opL (A.cell ds4 0) 1).bind fun l5 =>
    (opI (A.cell ds4 1) IntKind.i64).bind fun n6 =>
    bif (A.ilt n6 (A.rlen l5)) then
      bif (A.inr n6 (A.rlen l5)) then
        (opS (A.cell (A.row l5 n6) 0)).bind fun s7 =>
        (E.call 44 [(V.d (D.str s7)), (V.d (D.int IntKind.u8 46))]).bind fun p8 =>
        (opL (A.cell p8.leaves 0) 1).bind fun l10 =>
        cutO (
          bif (A.ilt 2 (A.rlen l10)) then
            some (.inl [(D.bool true)])
          else
            bif (A.inr 0 (A.rlen l10)) then
              (opS (A.cell (A.row l10 0) 0)).bind fun s11 =>
              (E.call 45 [(V.d (D.str s11))]).bind fun p12 =>
              (opB (A.cell p12.leaves 0)).bind fun b14 =>
              some (.inl [(D.bool (A.bnot b14))])
            else
              none
        ) fun ds15 =>
        (opB (A.cell ds15 0)).bind fun b16 =>
        bif b16 then
          some (.inr (PRes.val [(D.bool false)]))
        else
          bif (A.ilt (A.rlen l10) 2) then
            some (.inl [(D.sl 1 l5), (D.int IntKind.i64 (A.wrap IntKind.i64 (A.add n6 1)))])
          else
            bif (A.inr 1 (A.rlen l10)) then
              (opS (A.cell (A.row l10 1) 0)).bind fun s17 =>
              cutO (
                bif (A.ilt (A.slen s17) 1) then
                  some (.inl [(D.bool true)])
                else
                  some (.inl [(D.bool (A.ilt 3 (A.slen s17)))])
              ) fun ds18 =>
              (opB (A.cell ds18 0)).bind fun b19 =>
              cutO (
                bif b19 then
                  some (.inl [(D.bool true)])
                else
                  bif (A.inr 0 (A.slen s17)) then
                    some (.inl [(D.bool (A.ieq (A.sbyte s17 0) 48))])
                  else
                    none
              ) fun ds20 =>
              (opB (A.cell ds20 0)).bind fun b21 =>
              bif b21 then
                some (.inr (PRes.val [(D.bool false)]))
              else
                E.lp (fun ds22 =>
                  (opL (A.cell ds22 0) 1).bind fun l23 =>
                  (opI (A.cell ds22 1) IntKind.i64).bind fun n24 =>
                  (opS (A.cell ds22 2)).bind fun s25 =>
                  (opI (A.cell ds22 3) IntKind.i64).bind fun n26 =>
                  bif (A.ilt n26 (A.slen s25)) then
                    bif (A.inr n26 (A.slen s25)) then
                      (E.call 46 [(V.d (D.int IntKind.u8 (A.sbyte s25 n26))), (V.d (D.int IntKind.u8 48)), (V.d (D.int IntKind.u8 57))]).bind fun p27 =>
                      (opB (A.cell p27.leaves 0)).bind fun b29 =>
                      bif (A.bnot b29) then
                        some (.inr (.inr (PRes.val [(D.bool false)])))
                      else
                        some (.inl [(D.sl 1 l23), (D.int IntKind.i64 n24), (D.str s25), (D.int IntKind.i64 (A.wrap IntKind.i64 (A.add n26 1)))])
                    else
                      none
                  else
                    some (.inr (.inl [(D.sl 1 l23), (D.int IntKind.i64 (A.wrap IntKind.i64 (A.add n24 1)))]))
                ) [(D.sl 1 l5), (D.int IntKind.i64 n6), (D.str s17), (D.int IntKind.i64 0)]
            else
              none
      else
        none
    else
      some (.inr (PRes.val [(D.bool true)]))
  ) [(D.sl 1 l3), (D.int IntKind.i64 0)]
theorem g27_eq (A : Sy) (E : Env) (s_ : ByteArray) : (funT A Tryd.prog cs 27 [V.d (D.str s_)]).run E = g27 A E s_ := by kernel_rfl
def g28 (A : Sy) (E : Env) (l_ : List (List D)) (t_0 : Int) (t_1 : Int) (t_2 : Int) (v_ : List (List D)) : Option PRes :=
  (E.call 47 [(V.d (D.sl 2 l_)), (V.agg [(V.d (D.int IntKind.i64 t_0)), (V.d (D.int IntKind.i64 t_1)), (V.d (D.int IntKind.i64 t_2))])]).bind fun p1 =>
  (opB (A.cell p1.leaves 0)).bind fun b3 =>
  cutO (
    bif (A.bnot b3) then
      some (.inl [(D.bool true)])
    else
      (E.call 36 [(V.agg [(V.d (D.int IntKind.i64 t_0)), (V.d (D.int IntKind.i64 t_1)), (V.d (D.int IntKind.i64 t_2))])]).bind fun p4 =>
      (opI (A.cell p4.leaves 0) IntKind.i64).bind fun n6 =>
      some (.inl [(D.bool (A.bnot (A.ieq (A.rlen v_) n6)))])
  ) fun ds7 =>
  (opB (A.cell ds7 0)).bind fun b8 =>
  bif b8 then
    some (PRes.val [(D.bool false)])
  else
    E.lp (fun ds9 =>
      (opL (A.cell ds9 0) 2).bind fun l10 =>
      (opL (A.cell ds9 1) 1).bind fun l11 =>
      (opI (A.cell ds9 2) IntKind.i64).bind fun n12 =>
      (opI (A.cell ds9 3) IntKind.i64).bind fun n13 =>
      (opI (A.cell ds9 4) IntKind.i64).bind fun n14 =>
      (opI (A.cell ds9 5) IntKind.i64).bind fun n15 =>
      bif (A.ilt n12 (A.rlen l11)) then
        bif (A.inr n12 (A.rlen l11)) then
          (opI (A.cell (A.row l11 n12) 0) IntKind.i64).bind fun n16 =>
          (E.call 48 [(V.d (D.sl 2 l10)), (V.agg [(V.d (D.int IntKind.i64 n13)), (V.d (D.int IntKind.i64 n14)), (V.d (D.int IntKind.i64 n15))]), (V.d (D.int IntKind.i64 n16))]).bind fun p17 =>
          (opB (A.cell p17.leaves 0)).bind fun b19 =>
          bif (A.bnot b19) then
            some (.inr (PRes.val [(D.bool false)]))
          else
            some (.inl [(D.sl 2 l10), (D.sl 1 l11), (D.int IntKind.i64 (A.wrap IntKind.i64 (A.add n12 1))), (D.int IntKind.i64 n13), (D.int IntKind.i64 n14), (D.int IntKind.i64 n15)])
        else
          none
      else
        some (.inr (PRes.val [(D.bool true)]))
    ) [(D.sl 2 l_), (D.sl 1 v_), (D.int IntKind.i64 0), (D.int IntKind.i64 t_0), (D.int IntKind.i64 t_1), (D.int IntKind.i64 t_2)]
theorem g28_eq (A : Sy) (E : Env) (l_ : List (List D)) (t_0 : Int) (t_1 : Int) (t_2 : Int) (v_ : List (List D)) : (funT A Tryd.prog cs 28 [V.d (D.sl 2 l_), V.agg [V.d (D.int IntKind.i64 t_0), V.d (D.int IntKind.i64 t_1), V.d (D.int IntKind.i64 t_2)], V.d (D.sl 1 v_)]).run E = g28 A E l_ t_0 t_1 t_2 v_ := by kernel_rfl
def g29_30 (A : Sy) (E : Env)(s_ : List (List D)) (p_ : ByteArray) : Option PRes :=
  E.lp (fun ds1 =>
    (opL (A.cell ds1 0) 6).bind fun l2 =>
    (opS (A.cell ds1 1)).bind fun s3 =>
    (opI (A.cell ds1 2) IntKind.i64).bind fun n4 =>
    (opI (A.cell ds1 3) IntKind.i64).bind fun n5 =>
    bif (A.ilt n5 n4) then
      bif (A.inr n5 (A.rlen l2)) then
        (opS (A.cell (A.row l2 n5) 0)).bind fun s6 =>
        (opI (A.cell (A.row l2 n5) 1) IntKind.i64).bind fun n7 =>
        (opI (A.cell (A.row l2 n5) 2) IntKind.i64).bind fun n8 =>
        (opI (A.cell (A.row l2 n5) 3) IntKind.i64).bind fun n9 =>
        (opI (A.cell (A.row l2 n5) 4) IntKind.i64).bind fun n10 =>
        (opL (A.cell (A.row l2 n5) 5) 1).bind fun l11 =>
        (E.call 30 [(V.agg [(V.d (D.str s6)), (V.d (D.int IntKind.i64 n7)), (V.d (D.int IntKind.i64 n8)), (V.d (D.int IntKind.i64 n9)), (V.d (D.int IntKind.i64 n10)), (V.d (D.sl 1 l11))]), (V.pel [(D.str s3)])]).bind fun p12 =>
        (opB (A.cell p12.leaves 0)).bind fun b14 =>
        bif b14 then
          some (.inr (PRes.val [(D.int IntKind.i64 n5)]))
        else
          some (.inl [(D.sl 6 l2), (D.str s3), (D.int IntKind.i64 n4), (D.int IntKind.i64 (A.wrap IntKind.i64 (A.add n5 1)))])
      else
        none
    else
      some (.inr (PRes.val [(D.int IntKind.i64 (-1))]))
  ) [(D.sl 6 s_), (D.str p_), (D.int IntKind.i64 (A.rlen s_)), (D.int IntKind.i64 0)]
theorem g29_30_eq (A : Sy) (E : Env)(s_ : List (List D)) (p_ : ByteArray) : (funT A Tryd.prog cs 29 [V.d (D.sl 6 s_), V.fn 30 [V.pel [D.str p_]]]).run E = g29_30 A E s_ p_ := by kernel_rfl
def g30c (A : Sy) (E : Env)(x_0 : ByteArray) (x_1 x_2 x_3 x_4 : Int) (x_5 : List (List D)) (p_ : ByteArray) : Option PRes :=
  (opS (A.cell [(D.str p_)] 0)).bind fun s1 =>
  some (PRes.val [(D.bool (A.seq x_0 s1))])
theorem g30c_eq (A : Sy) (E : Env)(x_0 : ByteArray) (x_1 x_2 x_3 x_4 : Int) (x_5 : List (List D)) (p_ : ByteArray) : (funT A Tryd.prog cs 30 [V.agg [V.d (D.str x_0), V.d (D.int .i64 x_1), V.d (D.int .i64 x_2), V.d (D.int .i64 x_3), V.d (D.int .i64 x_4), V.d (D.sl 1 x_5)], V.pel [D.str p_]]).run E = g30c A E x_0 x_1 x_2 x_3 x_4 x_5 p_ := by kernel_rfl
def g31_32 (A : Sy) (E : Env)(a_ b_ : List (List D)) : Option PRes :=
  bif (A.bnot (A.ieq (A.rlen a_) (A.rlen b_))) then
    some (PRes.val [(D.bool false)])
  else
    E.lp (fun ds1 =>
      (opL (A.cell ds1 0) 6).bind fun l2 =>
      (opL (A.cell ds1 1) 6).bind fun l3 =>
      (opI (A.cell ds1 2) IntKind.i64).bind fun n4 =>
      (opI (A.cell ds1 3) IntKind.i64).bind fun n5 =>
      bif (A.ilt n5 n4) then
        bif (A.inr n5 (A.rlen l3)) then
          (opS (A.cell (A.row l3 n5) 0)).bind fun s6 =>
          (opI (A.cell (A.row l3 n5) 1) IntKind.i64).bind fun n7 =>
          (opI (A.cell (A.row l3 n5) 2) IntKind.i64).bind fun n8 =>
          (opI (A.cell (A.row l3 n5) 3) IntKind.i64).bind fun n9 =>
          (opI (A.cell (A.row l3 n5) 4) IntKind.i64).bind fun n10 =>
          (opL (A.cell (A.row l3 n5) 5) 1).bind fun l11 =>
          bif (A.inr n5 (A.rlen l2)) then
            (opS (A.cell (A.row l2 n5) 0)).bind fun s12 =>
            (opI (A.cell (A.row l2 n5) 1) IntKind.i64).bind fun n13 =>
            (opI (A.cell (A.row l2 n5) 2) IntKind.i64).bind fun n14 =>
            (opI (A.cell (A.row l2 n5) 3) IntKind.i64).bind fun n15 =>
            (opI (A.cell (A.row l2 n5) 4) IntKind.i64).bind fun n16 =>
            (opL (A.cell (A.row l2 n5) 5) 1).bind fun l17 =>
            (E.call 32 [(V.agg [(V.d (D.str s6)), (V.d (D.int IntKind.i64 n7)), (V.d (D.int IntKind.i64 n8)), (V.d (D.int IntKind.i64 n9)), (V.d (D.int IntKind.i64 n10)), (V.d (D.sl 1 l11))]), (V.agg [(V.d (D.str s12)), (V.d (D.int IntKind.i64 n13)), (V.d (D.int IntKind.i64 n14)), (V.d (D.int IntKind.i64 n15)), (V.d (D.int IntKind.i64 n16)), (V.d (D.sl 1 l17))])]).bind fun p18 =>
            (opB (A.cell p18.leaves 0)).bind fun b20 =>
            bif (A.bnot b20) then
              some (.inr (PRes.val [(D.bool false)]))
            else
              some (.inl [(D.sl 6 l2), (D.sl 6 l3), (D.int IntKind.i64 n4), (D.int IntKind.i64 (A.wrap IntKind.i64 (A.add n5 1)))])
          else
            none
        else
          none
      else
        some (.inr (PRes.val [(D.bool true)]))
    ) [(D.sl 6 b_), (D.sl 6 a_), (D.int IntKind.i64 (A.rlen a_)), (D.int IntKind.i64 0)]
theorem g31_32_eq (A : Sy) (E : Env)(a_ b_ : List (List D)) : (funT A Tryd.prog cs 31 [V.d (D.sl 6 a_), V.d (D.sl 6 b_), V.fn 32 []]).run E = g31_32 A E a_ b_ := by kernel_rfl
def g32 (A : Sy) (E : Env) (a_0 : ByteArray) (a_1 : Int) (a_2 : Int) (a_3 : Int) (a_4 : Int) (a_5 : List (List D)) (b_0 : ByteArray) (b_1 : Int) (b_2 : Int) (b_3 : Int) (b_4 : Int) (b_5 : List (List D)) : Option PRes :=
  cutO (
    bif (A.seq a_0 b_0) then
      some (.inl [(D.bool (A.deq [(D.int IntKind.i64 a_1), (D.int IntKind.i64 a_2), (D.int IntKind.i64 a_3)] [(D.int IntKind.i64 b_1), (D.int IntKind.i64 b_2), (D.int IntKind.i64 b_3)]))])
    else
      some (.inl [(D.bool false)])
  ) fun ds1 =>
  (opB (A.cell ds1 0)).bind fun b2 =>
  cutO (
    bif b2 then
      some (.inl [(D.bool (A.ieq a_4 b_4))])
    else
      some (.inl [(D.bool false)])
  ) fun ds3 =>
  (opB (A.cell ds3 0)).bind fun b4 =>
  cutO (
    bif b4 then
      (E.call 49 [(V.d (D.sl 1 a_5)), (V.d (D.sl 1 b_5))]).bind fun p5 =>
      (opB (A.cell p5.leaves 0)).bind fun b7 =>
      some (.inl [(D.bool b7)])
    else
      some (.inl [(D.bool false)])
  ) fun ds8 =>
  (opB (A.cell ds8 0)).bind fun b9 =>
  some (PRes.val [(D.bool b9)])
theorem g32_eq (A : Sy) (E : Env) (a_0 : ByteArray) (a_1 : Int) (a_2 : Int) (a_3 : Int) (a_4 : Int) (a_5 : List (List D)) (b_0 : ByteArray) (b_1 : Int) (b_2 : Int) (b_3 : Int) (b_4 : Int) (b_5 : List (List D)) : (funT A Tryd.prog cs 32 [V.agg [V.d (D.str a_0), V.d (D.int IntKind.i64 a_1), V.d (D.int IntKind.i64 a_2), V.d (D.int IntKind.i64 a_3), V.d (D.int IntKind.i64 a_4), V.d (D.sl 1 a_5)], V.agg [V.d (D.str b_0), V.d (D.int IntKind.i64 b_1), V.d (D.int IntKind.i64 b_2), V.d (D.int IntKind.i64 b_3), V.d (D.int IntKind.i64 b_4), V.d (D.sl 1 b_5)]]).run E = g32 A E a_0 a_1 a_2 a_3 a_4 a_5 b_0 b_1 b_2 b_3 b_4 b_5 := by kernel_rfl
def g33 (A : Sy) (E : Env) (x_0 : ByteArray) (x_1 : Int) (x_2 : Int) (x_3 : Int) (x_4 : Int) (x_5 : List (List D)) (c_0 : ByteArray) (c_1 : List (List D)) : Option PRes :=
  bif (A.seq x_0 c_0) then
    (E.call 34 [(V.agg [(V.d (D.int IntKind.i64 x_1)), (V.d (D.int IntKind.i64 x_2)), (V.d (D.int IntKind.i64 x_3))])]).bind fun p1 =>
    (opI (A.cell p1.leaves 0) IntKind.i64).bind fun n3 =>
    some (PRes.val [(D.bool (A.ieq (A.rlen c_1) n3))])
  else
    some (PRes.val [(D.bool false)])
theorem g33_eq (A : Sy) (E : Env) (x_0 : ByteArray) (x_1 : Int) (x_2 : Int) (x_3 : Int) (x_4 : Int) (x_5 : List (List D)) (c_0 : ByteArray) (c_1 : List (List D)) : (funT A Tryd.prog cs 33 [V.agg [V.d (D.str x_0), V.d (D.int IntKind.i64 x_1), V.d (D.int IntKind.i64 x_2), V.d (D.int IntKind.i64 x_3), V.d (D.int IntKind.i64 x_4), V.d (D.sl 1 x_5)], V.agg [V.d (D.str c_0), V.d (D.sl 1 c_1)]]).run E = g33 A E x_0 x_1 x_2 x_3 x_4 x_5 c_0 c_1 := by kernel_rfl
def g34 (A : Sy) (E : Env) (t_0 : Int) (t_1 : Int) (t_2 : Int) : Option PRes :=
  some (PRes.val [(D.int IntKind.i64 (A.imin (A.imax t_2 1) 8))])
theorem g34_eq (A : Sy) (E : Env) (t_0 : Int) (t_1 : Int) (t_2 : Int) : (funT A Tryd.prog cs 34 [V.agg [V.d (D.int IntKind.i64 t_0), V.d (D.int IntKind.i64 t_1), V.d (D.int IntKind.i64 t_2)]]).run E = g34 A E t_0 t_1 t_2 := by kernel_rfl
def g35_33 (A : Sy) (E : Env)(a_ b_ : List (List D)) : Option PRes :=
  bif (A.bnot (A.ieq (A.rlen a_) (A.rlen b_))) then
    some (PRes.val [(D.bool false)])
  else
    E.lp (fun ds1 =>
      (opL (A.cell ds1 0) 2).bind fun l2 =>
      (opL (A.cell ds1 1) 6).bind fun l3 =>
      (opI (A.cell ds1 2) IntKind.i64).bind fun n4 =>
      (opI (A.cell ds1 3) IntKind.i64).bind fun n5 =>
      bif (A.ilt n5 n4) then
        bif (A.inr n5 (A.rlen l3)) then
          (opS (A.cell (A.row l3 n5) 0)).bind fun s6 =>
          (opI (A.cell (A.row l3 n5) 1) IntKind.i64).bind fun n7 =>
          (opI (A.cell (A.row l3 n5) 2) IntKind.i64).bind fun n8 =>
          (opI (A.cell (A.row l3 n5) 3) IntKind.i64).bind fun n9 =>
          (opI (A.cell (A.row l3 n5) 4) IntKind.i64).bind fun n10 =>
          (opL (A.cell (A.row l3 n5) 5) 1).bind fun l11 =>
          bif (A.inr n5 (A.rlen l2)) then
            (opS (A.cell (A.row l2 n5) 0)).bind fun s12 =>
            (opL (A.cell (A.row l2 n5) 1) 1).bind fun l13 =>
            (E.call 33 [(V.agg [(V.d (D.str s6)), (V.d (D.int IntKind.i64 n7)), (V.d (D.int IntKind.i64 n8)), (V.d (D.int IntKind.i64 n9)), (V.d (D.int IntKind.i64 n10)), (V.d (D.sl 1 l11))]), (V.agg [(V.d (D.str s12)), (V.d (D.sl 1 l13))])]).bind fun p14 =>
            (opB (A.cell p14.leaves 0)).bind fun b16 =>
            bif (A.bnot b16) then
              some (.inr (PRes.val [(D.bool false)]))
            else
              some (.inl [(D.sl 2 l2), (D.sl 6 l3), (D.int IntKind.i64 n4), (D.int IntKind.i64 (A.wrap IntKind.i64 (A.add n5 1)))])
          else
            none
        else
          none
      else
        some (.inr (PRes.val [(D.bool true)]))
    ) [(D.sl 2 b_), (D.sl 6 a_), (D.int IntKind.i64 (A.rlen a_)), (D.int IntKind.i64 0)]
theorem g35_33_eq (A : Sy) (E : Env)(a_ b_ : List (List D)) : (funT A Tryd.prog cs 35 [V.d (D.sl 6 a_), V.d (D.sl 2 b_), V.fn 33 []]).run E = g35_33 A E a_ b_ := by kernel_rfl
def g36 (A : Sy) (E : Env) (t_0 : Int) (t_1 : Int) (t_2 : Int) : Option PRes :=
  bif (A.ilt t_2 1) then
    some (PRes.val [(D.int IntKind.i64 1)])
  else
    bif (A.ilt 8 t_2) then
      some (PRes.val [(D.int IntKind.i64 8)])
    else
      some (PRes.val [(D.int IntKind.i64 t_2)])
theorem g36_eq (A : Sy) (E : Env) (t_0 : Int) (t_1 : Int) (t_2 : Int) : (funT A Tryd.prog cs 36 [V.agg [V.d (D.int IntKind.i64 t_0), V.d (D.int IntKind.i64 t_1), V.d (D.int IntKind.i64 t_2)]]).run E = g36 A E t_0 t_1 t_2 := by kernel_rfl
def g38 (A : Sy) (E : Env) (s_ : ByteArray) (sep_ : ByteArray) : Option PRes :=
  (E.call 50 [(V.d (D.str s_)), (V.d (D.str sep_)), (V.d (D.int IntKind.i64 0)), (V.d (D.int IntKind.i64 (-1)))]).bind fun p1 =>
  (opL (A.cell p1.leaves 0) 1).bind fun l3 =>
  some (PRes.val [(D.sl 1 l3)])
theorem g38_eq (A : Sy) (E : Env) (s_ : ByteArray) (sep_ : ByteArray) : (funT A Tryd.prog cs 38 [V.d (D.str s_), V.d (D.str sep_)]).run E = g38 A E s_ sep_ := by kernel_rfl
def g39 (A : Sy) (E : Env) (s_ : ByteArray) : Option PRes :=
  (E.call 51 [(V.d (D.str s_)), (V.d (D.str (bs [46])))]).bind fun p1 =>
  (opS (A.cell p1.leaves 0)).bind fun s3 =>
  (opS (A.cell p1.leaves 1)).bind fun s4 =>
  (opB (A.cell p1.leaves 2)).bind fun b5 =>
  (E.call 52 [(V.d (D.str s3))]).bind fun p6 =>
  (opB (A.cell p6.leaves 0)).bind fun b8 =>
  cutO (
    bif b8 then
      bif (A.bnot b5) then
        some (.inl [(D.bool true)])
      else
        (E.call 53 [(V.d (D.str s4))]).bind fun p9 =>
        (opB (A.cell p9.leaves 0)).bind fun b11 =>
        some (.inl [(D.bool b11)])
    else
      some (.inl [(D.bool false)])
  ) fun ds12 =>
  (opB (A.cell ds12 0)).bind fun b13 =>
  some (PRes.val [(D.bool b13)])
theorem g39_eq (A : Sy) (E : Env) (s_ : ByteArray) : (funT A Tryd.prog cs 39 [V.d (D.str s_)]).run E = g39 A E s_ := by kernel_rfl
def g40c (A : Sy) (E : Env)(n : Int) (l : List (List D)) (t0 t1 t2 : Int) : Option PRes :=
  (opL (A.cell [(D.sl 2 l)] 0) 2).bind fun l1 =>
  (opI (A.cell [(D.int IntKind.i64 t0), (D.int IntKind.i64 t1), (D.int IntKind.i64 t2)] 0) IntKind.i64).bind fun n2 =>
  (opI (A.cell [(D.int IntKind.i64 t0), (D.int IntKind.i64 t1), (D.int IntKind.i64 t2)] 1) IntKind.i64).bind fun n3 =>
  (opI (A.cell [(D.int IntKind.i64 t0), (D.int IntKind.i64 t1), (D.int IntKind.i64 t2)] 2) IntKind.i64).bind fun n4 =>
  (E.call 41 [(V.d (D.sl 2 l1)), (V.agg [(V.d (D.int IntKind.i64 n2)), (V.d (D.int IntKind.i64 n3)), (V.d (D.int IntKind.i64 n4))]), (V.d (D.int IntKind.i64 n))]).bind fun p5 =>
  (opB (A.cell p5.leaves 0)).bind fun b7 =>
  some (PRes.val [(D.bool (A.bnot b7))])
theorem g40c_eq (A : Sy) (E : Env)(n : Int) (l : List (List D)) (t0 t1 t2 : Int) : (funT A Tryd.prog cs 40 [V.d (D.int .i64 n), V.pel [D.sl 2 l], V.pel [D.int .i64 t0, D.int .i64 t1, D.int .i64 t2]]).run E = g40c A E n l t0 t1 t2 := by kernel_rfl
def g41 (A : Sy) (E : Env) (l_ : List (List D)) (t_0 : Int) (t_1 : Int) (t_2 : Int) (n_ : Int) : Option PRes :=
  (E.call 42 [(V.d (D.sl 2 l_)), (V.agg [(V.d (D.int IntKind.i64 t_0)), (V.d (D.int IntKind.i64 t_1)), (V.d (D.int IntKind.i64 t_2))])]).bind fun p1 =>
  (opB (A.cell p1.leaves 0)).bind fun b3 =>
  bif (A.bnot b3) then
    some (PRes.val [(D.bool false)])
  else
    bif (A.ieq t_0 2) then
      cutO (
        bif (A.ieq n_ 0) then
          some (.inl [(D.bool true)])
        else
          some (.inl [(D.bool (A.ieq n_ 1))])
      ) fun ds4 =>
      (opB (A.cell ds4 0)).bind fun b5 =>
      some (PRes.val [(D.bool b5)])
    else
      bif (A.ieq t_0 3) then
        cutO (
          bif (A.ile 0 n_) then
            bif (A.inr t_1 (A.rlen l_)) then
              (opL (A.cell (A.skip 1 (A.row l_ t_1)) 0) 1).bind fun l6 =>
              some (.inl [(D.bool (A.ilt n_ (A.rlen l6)))])
            else
              none
          else
            some (.inl [(D.bool false)])
        ) fun ds7 =>
        (opB (A.cell ds7 0)).bind fun b8 =>
        some (PRes.val [(D.bool b8)])
      else
        some (PRes.val [(D.bool true)])
theorem g41_eq (A : Sy) (E : Env) (l_ : List (List D)) (t_0 : Int) (t_1 : Int) (t_2 : Int) (n_ : Int) : (funT A Tryd.prog cs 41 [V.d (D.sl 2 l_), V.agg [V.d (D.int IntKind.i64 t_0), V.d (D.int IntKind.i64 t_1), V.d (D.int IntKind.i64 t_2)], V.d (D.int IntKind.i64 n_)]).run E = g41 A E l_ t_0 t_1 t_2 n_ := by kernel_rfl
def g42 (A : Sy) (E : Env) (l_ : List (List D)) (t_0 : Int) (t_1 : Int) (t_2 : Int) : Option PRes :=
  cutO (
    bif (A.ilt t_2 0) then
      some (.inl [(D.bool true)])
    else
      some (.inl [(D.bool (A.ilt 8 t_2))])
  ) fun ds1 =>
  (opB (A.cell ds1 0)).bind fun b2 =>
  bif b2 then
    some (PRes.val [(D.bool false)])
  else
    bif (A.ieq t_0 1) then
      some (PRes.val [(D.bool (A.ieq t_1 0))])
    else
      bif (A.ieq t_0 2) then
        some (PRes.val [(D.bool (A.ieq t_1 0))])
      else
        bif (A.ieq t_0 3) then
          cutO (
            bif (A.ile 0 t_1) then
              some (.inl [(D.bool (A.ilt t_1 (A.rlen l_)))])
            else
              some (.inl [(D.bool false)])
          ) fun ds3 =>
          (opB (A.cell ds3 0)).bind fun b4 =>
          some (PRes.val [(D.bool b4)])
        else
          some (PRes.val [(D.bool false)])
theorem g42_eq (A : Sy) (E : Env) (l_ : List (List D)) (t_0 : Int) (t_1 : Int) (t_2 : Int) : (funT A Tryd.prog cs 42 [V.d (D.sl 2 l_), V.agg [V.d (D.int IntKind.i64 t_0), V.d (D.int IntKind.i64 t_1), V.d (D.int IntKind.i64 t_2)]]).run E = g42 A E l_ t_0 t_1 t_2 := by kernel_rfl
def g43_40 (A : Sy) (E : Env)(v : List (List D)) (l : List (List D)) (t0 t1 t2 : Int) : Option PRes :=
  (E.call 54 [(V.d (D.sl 1 v)), (V.fn 40 [(V.pel [(D.sl 2 l)]), (V.pel [(D.int IntKind.i64 t0), (D.int IntKind.i64 t1), (D.int IntKind.i64 t2)])])]).bind fun p1 =>
  (opI (A.cell p1.leaves 0) IntKind.i64).bind fun n3 =>
  some (PRes.val [(D.bool (A.ile 0 n3))])
theorem g43_40_eq (A : Sy) (E : Env)(v : List (List D)) (l : List (List D)) (t0 t1 t2 : Int) : (funT A Tryd.prog cs 43 [V.d (D.sl 1 v), V.fn 40 [V.pel [D.sl 2 l], V.pel [D.int .i64 t0, D.int .i64 t1, D.int .i64 t2]]]).run E = g43_40 A E v l t0 t1 t2 := by kernel_rfl
def g44 (A : Sy) (E : Env) (s_ : ByteArray) (c_ : Int) : Option PRes :=
  E.lp (fun ds1 =>
    (opS (A.cell ds1 0)).bind fun s2 =>
    (opI (A.cell ds1 1) IntKind.u8).bind fun n3 =>
    (opI (A.cell ds1 2) IntKind.i64).bind fun n4 =>
    (opI (A.cell ds1 3) IntKind.i64).bind fun n5 =>
    (opL (A.cell ds1 4) 1).bind fun l6 =>
    bif (A.ile n5 (A.slen s2)) then
      cutO (
        bif (A.ieq n5 (A.slen s2)) then
          some (.inl [(D.bool true)])
        else
          bif (A.inr n5 (A.slen s2)) then
            some (.inl [(D.bool (A.ieq (A.sbyte s2 n5) n3))])
          else
            none
      ) fun ds7 =>
      (opB (A.cell ds7 0)).bind fun b8 =>
      bif b8 then
        bif (A.cutok n4 n5 (A.slen s2)) then
          bif (A.fits l6 [[(D.str (A.scut s2 n4 n5))]] 16) then
            some (.inl [(D.str s2), (D.int IntKind.u8 n3), (D.int IntKind.i64 (A.wrap IntKind.i64 (A.add n5 1))), (D.int IntKind.i64 (A.wrap IntKind.i64 (A.add n5 1))), (D.sl 1 (A.rapp l6 [[(D.str (A.scut s2 n4 n5))]]))])
          else
            none
        else
          none
      else
        some (.inl [(D.str s2), (D.int IntKind.u8 n3), (D.int IntKind.i64 n4), (D.int IntKind.i64 (A.wrap IntKind.i64 (A.add n5 1))), (D.sl 1 l6)])
    else
      some (.inr (PRes.own 9 1 l6))
  ) [(D.str s_), (D.int IntKind.u8 c_), (D.int IntKind.i64 0), (D.int IntKind.i64 0), (D.sl 1 [])]
theorem g44_eq (A : Sy) (E : Env) (s_ : ByteArray) (c_ : Int) : (funT A Tryd.prog cs 44 [V.d (D.str s_), V.d (D.int IntKind.u8 c_)]).run E = g44 A E s_ c_ := by kernel_rfl
def g45 (A : Sy) (E : Env) (s_ : ByteArray) : Option PRes :=
  (E.call 55 [(V.d (D.str s_)), (V.d (D.int IntKind.u8 97)), (V.d (D.int IntKind.u8 122))]).bind fun p1 =>
  (opB (A.cell p1.leaves 0)).bind fun b3 =>
  cutO (
    bif b3 then
      (E.call 56 [(V.d (D.str s_))]).bind fun p4 =>
      (opB (A.cell p4.leaves 0)).bind fun b6 =>
      some (.inl [(D.bool (A.bnot b6))])
    else
      some (.inl [(D.bool false)])
  ) fun ds7 =>
  (opB (A.cell ds7 0)).bind fun b8 =>
  some (PRes.val [(D.bool b8)])
theorem g45_eq (A : Sy) (E : Env) (s_ : ByteArray) : (funT A Tryd.prog cs 45 [V.d (D.str s_)]).run E = g45 A E s_ := by kernel_rfl
def g46 (A : Sy) (E : Env) (c_ : Int) (a_ : Int) (b_ : Int) : Option PRes :=
  cutO (
    bif (A.ile a_ c_) then
      some (.inl [(D.bool (A.ile c_ b_))])
    else
      some (.inl [(D.bool false)])
  ) fun ds1 =>
  (opB (A.cell ds1 0)).bind fun b2 =>
  some (PRes.val [(D.bool b2)])
theorem g46_eq (A : Sy) (E : Env) (c_ : Int) (a_ : Int) (b_ : Int) : (funT A Tryd.prog cs 46 [V.d (D.int IntKind.u8 c_), V.d (D.int IntKind.u8 a_), V.d (D.int IntKind.u8 b_)]).run E = g46 A E c_ a_ b_ := by kernel_rfl
end Go.Vm
end

section
set_option maxRecDepth 1000000
set_option maxHeartbeats 0
namespace Go.Vm
open Go.Proofs
def g47 (A : Sy) (E : Env) (l_ : List (List D)) (t_0 : Int) (t_1 : Int) (t_2 : Int) : Option PRes :=
  cutO (
    bif (A.ilt t_0 1) then
      some (.inl [(D.bool true)])
    else
      some (.inl [(D.bool (A.ilt 3 t_0))])
  ) fun ds1 =>
  (opB (A.cell ds1 0)).bind fun b2 =>
  cutO (
    bif b2 then
      some (.inl [(D.bool true)])
    else
      some (.inl [(D.bool (A.ilt t_2 0))])
  ) fun ds3 =>
  (opB (A.cell ds3 0)).bind fun b4 =>
  cutO (
    bif b4 then
      some (.inl [(D.bool true)])
    else
      some (.inl [(D.bool (A.ilt 8 t_2))])
  ) fun ds5 =>
  (opB (A.cell ds5 0)).bind fun b6 =>
  bif b6 then
    some (PRes.val [(D.bool false)])
  else
    bif (A.ieq t_0 3) then
      cutO (
        bif (A.ile 0 t_1) then
          some (.inl [(D.bool (A.ilt t_1 (A.rlen l_)))])
        else
          some (.inl [(D.bool false)])
      ) fun ds7 =>
      (opB (A.cell ds7 0)).bind fun b8 =>
      some (PRes.val [(D.bool b8)])
    else
      some (PRes.val [(D.bool (A.ieq t_1 0))])
theorem g47_eq (A : Sy) (E : Env) (l_ : List (List D)) (t_0 : Int) (t_1 : Int) (t_2 : Int) : (funT A Tryd.prog cs 47 [V.d (D.sl 2 l_), V.agg [V.d (D.int IntKind.i64 t_0), V.d (D.int IntKind.i64 t_1), V.d (D.int IntKind.i64 t_2)]]).run E = g47 A E l_ t_0 t_1 t_2 := by kernel_rfl
def g48 (A : Sy) (E : Env) (l_ : List (List D)) (t_0 : Int) (t_1 : Int) (t_2 : Int) (n_ : Int) : Option PRes :=
  (E.call 47 [(V.d (D.sl 2 l_)), (V.agg [(V.d (D.int IntKind.i64 t_0)), (V.d (D.int IntKind.i64 t_1)), (V.d (D.int IntKind.i64 t_2))])]).bind fun p1 =>
  (opB (A.cell p1.leaves 0)).bind fun b3 =>
  bif (A.bnot b3) then
    some (PRes.val [(D.bool false)])
  else
    bif (A.ieq t_0 2) then
      cutO (
        bif (A.ieq n_ 0) then
          some (.inl [(D.bool true)])
        else
          some (.inl [(D.bool (A.ieq n_ 1))])
      ) fun ds4 =>
      (opB (A.cell ds4 0)).bind fun b5 =>
      some (PRes.val [(D.bool b5)])
    else
      cutO (
        bif (A.ieq t_0 1) then
          some (.inl [(D.bool true)])
        else
          bif (A.ile 0 n_) then
            bif (A.inr t_1 (A.rlen l_)) then
              (opL (A.cell (A.skip 1 (A.row l_ t_1)) 0) 1).bind fun l6 =>
              some (.inl [(D.bool (A.ilt n_ (A.rlen l6)))])
            else
              none
          else
            some (.inl [(D.bool false)])
      ) fun ds7 =>
      (opB (A.cell ds7 0)).bind fun b8 =>
      some (PRes.val [(D.bool b8)])
theorem g48_eq (A : Sy) (E : Env) (l_ : List (List D)) (t_0 : Int) (t_1 : Int) (t_2 : Int) (n_ : Int) : (funT A Tryd.prog cs 48 [V.d (D.sl 2 l_), V.agg [V.d (D.int IntKind.i64 t_0), V.d (D.int IntKind.i64 t_1), V.d (D.int IntKind.i64 t_2)], V.d (D.int IntKind.i64 n_)]).run E = g48 A E l_ t_0 t_1 t_2 n_ := by kernel_rfl
def g49 (A : Sy) (E : Env) (s1_ : List (List D)) (s2_ : List (List D)) : Option PRes :=
  bif (A.bnot (A.ieq (A.rlen s1_) (A.rlen s2_))) then
    some (PRes.val [(D.bool false)])
  else
    E.lp (fun ds1 =>
      (opL (A.cell ds1 0) 1).bind fun l2 =>
      (opL (A.cell ds1 1) 1).bind fun l3 =>
      (opI (A.cell ds1 2) IntKind.i64).bind fun n4 =>
      (opI (A.cell ds1 3) IntKind.i64).bind fun n5 =>
      bif (A.ilt n5 n4) then
        bif (A.inr n5 (A.rlen l2)) then
          (opI (A.cell (A.row l2 n5) 0) IntKind.i64).bind fun n6 =>
          bif (A.inr n5 (A.rlen l3)) then
            (opI (A.cell (A.row l3 n5) 0) IntKind.i64).bind fun n7 =>
            bif (A.bnot (A.ieq n6 n7)) then
              some (.inr (PRes.val [(D.bool false)]))
            else
              some (.inl [(D.sl 1 l2), (D.sl 1 l3), (D.int IntKind.i64 n4), (D.int IntKind.i64 (A.wrap IntKind.i64 (A.add n5 1)))])
          else
            none
        else
          none
      else
        some (.inr (PRes.val [(D.bool true)]))
    ) [(D.sl 1 s1_), (D.sl 1 s2_), (D.int IntKind.i64 (A.rlen s1_)), (D.int IntKind.i64 0)]
theorem g49_eq (A : Sy) (E : Env) (s1_ : List (List D)) (s2_ : List (List D)) : (funT A Tryd.prog cs 49 [V.d (D.sl 1 s1_), V.d (D.sl 1 s2_)]).run E = g49 A E s1_ s2_ := by kernel_rfl
def g50 (A : Sy) (E : Env) (s_ : ByteArray) (sep_ : ByteArray) (sepSave_ : Int) (n_ : Int) : Option PRes :=
  bif (A.ieq n_ 0) then
    some (PRes.own 9 1 [])
  else
    bif (A.seq sep_ (bs [])) then
      (E.call 57 [(V.d (D.str s_)), (V.d (D.int IntKind.i64 n_))]).bind fun p1 =>
      (opL (A.cell p1.leaves 0) 1).bind fun l3 =>
      some (PRes.val [(D.sl 1 l3)])
    else
      bif (A.ilt n_ 0) then
        (E.call 58 [(V.d (D.str s_)), (V.d (D.str sep_))]).bind fun p4 =>
        (opI (A.cell p4.leaves 0) IntKind.i64).bind fun n6 =>
        bif (A.mkok (A.imin (A.wrap IntKind.i64 (A.add n6 1)) (A.wrap IntKind.i64 (A.add (A.slen s_) 1))) (A.imin (A.wrap IntKind.i64 (A.add n6 1)) (A.wrap IntKind.i64 (A.add (A.slen s_) 1))) 16) then
          E.lp (fun ds7 =>
            (opS (A.cell ds7 0)).bind fun s8 =>
            (opS (A.cell ds7 1)).bind fun s9 =>
            (opI (A.cell ds7 2) IntKind.i64).bind fun n10 =>
            (opI (A.cell ds7 3) IntKind.i64).bind fun n11 =>
            (opI (A.cell ds7 4) IntKind.i64).bind fun n12 =>
            (opL (A.cell ds7 5) 1).bind fun l13 =>
            bif (A.ilt n12 n11) then
              (E.call 59 [(V.d (D.str s8)), (V.d (D.str s9))]).bind fun p14 =>
              (opI (A.cell p14.leaves 0) IntKind.i64).bind fun n16 =>
              bif (A.ilt n16 0) then
                bif (A.inr n12 (A.rlen l13)) then
                  bif (A.inrn (A.nat n12) l13) then
                    bif (A.cutok 0 (A.wrap IntKind.i64 (A.add n12 1)) (A.rlen (A.rput l13 (A.nat n12) 0 [(D.str s8)]))) then
                      some (.inr (PRes.own 9 1 (A.head (A.rput l13 (A.nat n12) 0 [(D.str s8)]) (A.wrap IntKind.i64 (A.add n12 1)))))
                    else
                      none
                  else
                    none
                else
                  none
              else
                bif (A.cutok 0 (A.wrap IntKind.i64 (A.add n16 n10)) (A.slen s8)) then
                  bif (A.inr n12 (A.rlen l13)) then
                    bif (A.inrn (A.nat n12) l13) then
                      bif (A.cutok (A.wrap IntKind.i64 (A.add n16 (A.slen s9))) (A.slen s8) (A.slen s8)) then
                        some (.inl [(D.str (A.scut s8 (A.wrap IntKind.i64 (A.add n16 (A.slen s9))) (A.slen s8))), (D.str s9), (D.int IntKind.i64 n10), (D.int IntKind.i64 n11), (D.int IntKind.i64 (A.wrap IntKind.i64 (A.add n12 1))), (D.sl 1 (A.rput l13 (A.nat n12) 0 [(D.str (A.scut s8 0 (A.wrap IntKind.i64 (A.add n16 n10))))]))])
                      else
                        none
                    else
                      none
                  else
                    none
                else
                  none
            else
              bif (A.inr n12 (A.rlen l13)) then
                bif (A.inrn (A.nat n12) l13) then
                  bif (A.cutok 0 (A.wrap IntKind.i64 (A.add n12 1)) (A.rlen (A.rput l13 (A.nat n12) 0 [(D.str s8)]))) then
                    some (.inr (PRes.own 9 1 (A.head (A.rput l13 (A.nat n12) 0 [(D.str s8)]) (A.wrap IntKind.i64 (A.add n12 1)))))
                  else
                    none
                else
                  none
              else
                none
          ) [(D.str s_), (D.str sep_), (D.int IntKind.i64 sepSave_), (D.int IntKind.i64 (A.wrap IntKind.i64 (A.sub (A.imin (A.wrap IntKind.i64 (A.add n6 1)) (A.wrap IntKind.i64 (A.add (A.slen s_) 1))) 1))), (D.int IntKind.i64 0), (D.sl 1 (A.rep (A.imin (A.wrap IntKind.i64 (A.add n6 1)) (A.wrap IntKind.i64 (A.add (A.slen s_) 1))) [(D.str (bs []))]))]
        else
          none
      else
        bif (A.mkok (A.imin n_ (A.wrap IntKind.i64 (A.add (A.slen s_) 1))) (A.imin n_ (A.wrap IntKind.i64 (A.add (A.slen s_) 1))) 16) then
          E.lp (fun ds17 =>
            (opS (A.cell ds17 0)).bind fun s18 =>
            (opS (A.cell ds17 1)).bind fun s19 =>
            (opI (A.cell ds17 2) IntKind.i64).bind fun n20 =>
            (opI (A.cell ds17 3) IntKind.i64).bind fun n21 =>
            (opI (A.cell ds17 4) IntKind.i64).bind fun n22 =>
            (opL (A.cell ds17 5) 1).bind fun l23 =>
            bif (A.ilt n22 n21) then
              (E.call 59 [(V.d (D.str s18)), (V.d (D.str s19))]).bind fun p24 =>
              (opI (A.cell p24.leaves 0) IntKind.i64).bind fun n26 =>
              bif (A.ilt n26 0) then
                bif (A.inr n22 (A.rlen l23)) then
                  bif (A.inrn (A.nat n22) l23) then
                    bif (A.cutok 0 (A.wrap IntKind.i64 (A.add n22 1)) (A.rlen (A.rput l23 (A.nat n22) 0 [(D.str s18)]))) then
                      some (.inr (PRes.own 9 1 (A.head (A.rput l23 (A.nat n22) 0 [(D.str s18)]) (A.wrap IntKind.i64 (A.add n22 1)))))
                    else
                      none
                  else
                    none
                else
                  none
              else
                bif (A.cutok 0 (A.wrap IntKind.i64 (A.add n26 n20)) (A.slen s18)) then
                  bif (A.inr n22 (A.rlen l23)) then
                    bif (A.inrn (A.nat n22) l23) then
                      bif (A.cutok (A.wrap IntKind.i64 (A.add n26 (A.slen s19))) (A.slen s18) (A.slen s18)) then
                        some (.inl [(D.str (A.scut s18 (A.wrap IntKind.i64 (A.add n26 (A.slen s19))) (A.slen s18))), (D.str s19), (D.int IntKind.i64 n20), (D.int IntKind.i64 n21), (D.int IntKind.i64 (A.wrap IntKind.i64 (A.add n22 1))), (D.sl 1 (A.rput l23 (A.nat n22) 0 [(D.str (A.scut s18 0 (A.wrap IntKind.i64 (A.add n26 n20))))]))])
                      else
                        none
                    else
                      none
                  else
                    none
                else
                  none
            else
              bif (A.inr n22 (A.rlen l23)) then
                bif (A.inrn (A.nat n22) l23) then
                  bif (A.cutok 0 (A.wrap IntKind.i64 (A.add n22 1)) (A.rlen (A.rput l23 (A.nat n22) 0 [(D.str s18)]))) then
                    some (.inr (PRes.own 9 1 (A.head (A.rput l23 (A.nat n22) 0 [(D.str s18)]) (A.wrap IntKind.i64 (A.add n22 1)))))
                  else
                    none
                else
                  none
              else
                none
          ) [(D.str s_), (D.str sep_), (D.int IntKind.i64 sepSave_), (D.int IntKind.i64 (A.wrap IntKind.i64 (A.sub (A.imin n_ (A.wrap IntKind.i64 (A.add (A.slen s_) 1))) 1))), (D.int IntKind.i64 0), (D.sl 1 (A.rep (A.imin n_ (A.wrap IntKind.i64 (A.add (A.slen s_) 1))) [(D.str (bs []))]))]
        else
          none
theorem g50_eq (A : Sy) (E : Env) (s_ : ByteArray) (sep_ : ByteArray) (sepSave_ : Int) (n_ : Int) : (funT A Tryd.prog cs 50 [V.d (D.str s_), V.d (D.str sep_), V.d (D.int IntKind.i64 sepSave_), V.d (D.int IntKind.i64 n_)]).run E = g50 A E s_ sep_ sepSave_ n_ := by kernel_rfl
def g51 (A : Sy) (E : Env) (s_ : ByteArray) (sep_ : ByteArray) : Option PRes :=
  (E.call 60 [(V.d (D.str s_)), (V.d (D.str sep_))]).bind fun p1 =>
  (opS (A.cell p1.leaves 0)).bind fun s3 =>
  (opS (A.cell p1.leaves 1)).bind fun s4 =>
  (opB (A.cell p1.leaves 2)).bind fun b5 =>
  some (PRes.val [(D.str s3), (D.str s4), (D.bool b5)])
theorem g51_eq (A : Sy) (E : Env) (s_ : ByteArray) (sep_ : ByteArray) : (funT A Tryd.prog cs 51 [V.d (D.str s_), V.d (D.str sep_)]).run E = g51 A E s_ sep_ := by kernel_rfl
def g52 (A : Sy) (E : Env) (s_ : ByteArray) : Option PRes :=
  (E.call 61 [(V.d (D.str s_)), (V.fn 62 [])]).bind fun p1 =>
  (opB (A.cell p1.leaves 0)).bind fun b3 =>
  cutO (
    bif b3 then
      (E.call 63 [(V.d (D.str s_))]).bind fun p4 =>
      (opB (A.cell p4.leaves 0)).bind fun b6 =>
      some (.inl [(D.bool (A.bnot b6))])
    else
      some (.inl [(D.bool false)])
  ) fun ds7 =>
  (opB (A.cell ds7 0)).bind fun b8 =>
  some (PRes.val [(D.bool b8)])
theorem g52_eq (A : Sy) (E : Env) (s_ : ByteArray) : (funT A Tryd.prog cs 52 [V.d (D.str s_)]).run E = g52 A E s_ := by kernel_rfl
def g53 (A : Sy) (E : Env) (s_ : ByteArray) : Option PRes :=
  E.lp (fun ds1 =>
    (opS (A.cell ds1 0)).bind fun s2 =>
    (opS (A.cell ds1 1)).bind fun s3 =>
    (opI (A.cell ds1 2) IntKind.i64).bind fun n4 =>
    bif (A.ilt n4 (A.slen s3)) then
      (E.call 64 [(V.d (D.int IntKind.i32 (A.rdec s3 n4)))]).bind fun p5 =>
      (opB (A.cell p5.leaves 0)).bind fun b7 =>
      cutO (
        bif (A.bnot b7) then
          some (.inl [(D.bool true)])
        else
          bif (A.ieq n4 0) then
            some (.inl [(D.bool (A.ieq (A.rdec s3 n4) 48))])
          else
            some (.inl [(D.bool false)])
      ) fun ds8 =>
      (opB (A.cell ds8 0)).bind fun b9 =>
      bif b9 then
        some (.inr (PRes.val [(D.bool false)]))
      else
        some (.inl [(D.str s2), (D.str s3), (D.int IntKind.i64 (A.add n4 (A.rwid s3 n4)))])
    else
      cutO (
        bif (A.ile 1 (A.slen s2)) then
          some (.inl [(D.bool (A.ile (A.slen s2) 3))])
        else
          some (.inl [(D.bool false)])
      ) fun ds10 =>
      (opB (A.cell ds10 0)).bind fun b11 =>
      some (.inr (PRes.val [(D.bool b11)]))
  ) [(D.str s_), (D.str s_), (D.int IntKind.i64 0)]
theorem g53_eq (A : Sy) (E : Env) (s_ : ByteArray) : (funT A Tryd.prog cs 53 [V.d (D.str s_)]).run E = g53 A E s_ := by kernel_rfl
def g54_40 (A : Sy) (E : Env)(v : List (List D)) (l : List (List D)) (t0 t1 t2 : Int) : Option PRes :=
  E.lp (fun ds1 =>
    (opL (A.cell ds1 0) 1).bind fun l2 =>
    (opL (A.cell ds1 1) 2).bind fun l3 =>
    (opI (A.cell ds1 2) IntKind.i64).bind fun n4 =>
    (opI (A.cell ds1 3) IntKind.i64).bind fun n5 =>
    (opI (A.cell ds1 4) IntKind.i64).bind fun n6 =>
    (opI (A.cell ds1 5) IntKind.i64).bind fun n7 =>
    (opI (A.cell ds1 6) IntKind.i64).bind fun n8 =>
    bif (A.ilt n8 n7) then
      bif (A.inr n8 (A.rlen l2)) then
        (opI (A.cell (A.row l2 n8) 0) IntKind.i64).bind fun n9 =>
        (E.call 40 [(V.d (D.int IntKind.i64 n9)), (V.pel [(D.sl 2 l3)]), (V.pel [(D.int IntKind.i64 n4), (D.int IntKind.i64 n5), (D.int IntKind.i64 n6)])]).bind fun p10 =>
        (opB (A.cell p10.leaves 0)).bind fun b12 =>
        bif b12 then
          some (.inr (PRes.val [(D.int IntKind.i64 n8)]))
        else
          some (.inl [(D.sl 1 l2), (D.sl 2 l3), (D.int IntKind.i64 n4), (D.int IntKind.i64 n5), (D.int IntKind.i64 n6), (D.int IntKind.i64 n7), (D.int IntKind.i64 (A.wrap IntKind.i64 (A.add n8 1)))])
      else
        none
    else
      some (.inr (PRes.val [(D.int IntKind.i64 (-1))]))
  ) [(D.sl 1 v), (D.sl 2 l), (D.int IntKind.i64 t0), (D.int IntKind.i64 t1), (D.int IntKind.i64 t2), (D.int IntKind.i64 (A.rlen v)), (D.int IntKind.i64 0)]
theorem g54_40_eq (A : Sy) (E : Env)(v : List (List D)) (l : List (List D)) (t0 t1 t2 : Int) : (funT A Tryd.prog cs 54 [V.d (D.sl 1 v), V.fn 40 [V.pel [D.sl 2 l], V.pel [D.int .i64 t0, D.int .i64 t1, D.int .i64 t2]]]).run E = g54_40 A E v l t0 t1 t2 := by kernel_rfl
def g55 (A : Sy) (E : Env) (s_ : ByteArray) (a_ : Int) (b_ : Int) : Option PRes :=
  cutO (
    bif (A.ilt (A.slen s_) 1) then
      some (.inl [(D.bool true)])
    else
      some (.inl [(D.bool (A.ilt 12 (A.slen s_)))])
  ) fun ds1 =>
  (opB (A.cell ds1 0)).bind fun b2 =>
  cutO (
    bif b2 then
      some (.inl [(D.bool true)])
    else
      bif (A.inr 0 (A.slen s_)) then
        (E.call 46 [(V.d (D.int IntKind.u8 (A.sbyte s_ 0))), (V.d (D.int IntKind.u8 a_)), (V.d (D.int IntKind.u8 b_))]).bind fun p3 =>
        (opB (A.cell p3.leaves 0)).bind fun b5 =>
        some (.inl [(D.bool (A.bnot b5))])
      else
        none
  ) fun ds6 =>
  (opB (A.cell ds6 0)).bind fun b7 =>
  bif b7 then
    some (PRes.val [(D.bool false)])
  else
    E.lp (fun ds8 =>
      (opS (A.cell ds8 0)).bind fun s9 =>
      (opI (A.cell ds8 1) IntKind.i64).bind fun n10 =>
      bif (A.ilt n10 (A.slen s9)) then
        bif (A.inr n10 (A.slen s9)) then
          (E.call 46 [(V.d (D.int IntKind.u8 (A.sbyte s9 n10))), (V.d (D.int IntKind.u8 97)), (V.d (D.int IntKind.u8 122))]).bind fun p11 =>
          (opB (A.cell p11.leaves 0)).bind fun b13 =>
          cutO (
            bif (A.bnot b13) then
              bif (A.inr n10 (A.slen s9)) then
                (E.call 46 [(V.d (D.int IntKind.u8 (A.sbyte s9 n10))), (V.d (D.int IntKind.u8 65)), (V.d (D.int IntKind.u8 90))]).bind fun p14 =>
                (opB (A.cell p14.leaves 0)).bind fun b16 =>
                some (.inl [(D.bool (A.bnot b16))])
              else
                none
            else
              some (.inl [(D.bool false)])
          ) fun ds17 =>
          (opB (A.cell ds17 0)).bind fun b18 =>
          cutO (
            bif b18 then
              bif (A.inr n10 (A.slen s9)) then
                (E.call 46 [(V.d (D.int IntKind.u8 (A.sbyte s9 n10))), (V.d (D.int IntKind.u8 48)), (V.d (D.int IntKind.u8 57))]).bind fun p19 =>
                (opB (A.cell p19.leaves 0)).bind fun b21 =>
                some (.inl [(D.bool (A.bnot b21))])
              else
                none
            else
              some (.inl [(D.bool false)])
          ) fun ds22 =>
          (opB (A.cell ds22 0)).bind fun b23 =>
          cutO (
            bif b23 then
              bif (A.inr n10 (A.slen s9)) then
                some (.inl [(D.bool (A.bnot (A.ieq (A.sbyte s9 n10) 95)))])
              else
                none
            else
              some (.inl [(D.bool false)])
          ) fun ds24 =>
          (opB (A.cell ds24 0)).bind fun b25 =>
          bif b25 then
            some (.inr (PRes.val [(D.bool false)]))
          else
            some (.inl [(D.str s9), (D.int IntKind.i64 (A.wrap IntKind.i64 (A.add n10 1)))])
        else
          none
      else
        some (.inr (PRes.val [(D.bool true)]))
    ) [(D.str s_), (D.int IntKind.i64 0)]
theorem g55_eq (A : Sy) (E : Env) (s_ : ByteArray) (a_ : Int) (b_ : Int) : (funT A Tryd.prog cs 55 [V.d (D.str s_), V.d (D.int IntKind.u8 a_), V.d (D.int IntKind.u8 b_)]).run E = g55 A E s_ a_ b_ := by kernel_rfl
def g56 (A : Sy) (E : Env) (s_ : ByteArray) : Option PRes :=
  (E.call 65 []).bind fun p1 =>
  (opL (A.cell p1.leaves 0) 1).bind fun l3 =>
  E.lp (fun ds4 =>
    (opS (A.cell ds4 0)).bind fun s5 =>
    (opL (A.cell ds4 1) 1).bind fun l6 =>
    (opI (A.cell ds4 2) IntKind.i64).bind fun n7 =>
    bif (A.ilt n7 (A.rlen l6)) then
      bif (A.inr n7 (A.rlen l6)) then
        (opS (A.cell (A.row l6 n7) 0)).bind fun s8 =>
        bif (A.seq s8 s5) then
          some (.inr (PRes.val [(D.bool true)]))
        else
          some (.inl [(D.str s5), (D.sl 1 l6), (D.int IntKind.i64 (A.wrap IntKind.i64 (A.add n7 1)))])
      else
        none
    else
      some (.inr (PRes.val [(D.bool false)]))
  ) [(D.str s_), (D.sl 1 l3), (D.int IntKind.i64 0)]
theorem g56_eq (A : Sy) (E : Env) (s_ : ByteArray) : (funT A Tryd.prog cs 56 [V.d (D.str s_)]).run E = g56 A E s_ := by kernel_rfl
def g58 (A : Sy) (E : Env) (s_ : ByteArray) (substr_ : ByteArray) : Option PRes :=
  bif (A.ieq (A.slen substr_) 0) then
    (E.call 66 [(V.d (D.str s_))]).bind fun p1 =>
    (opI (A.cell p1.leaves 0) IntKind.i64).bind fun n3 =>
    some (PRes.val [(D.int IntKind.i64 (A.wrap IntKind.i64 (A.add n3 1)))])
  else
    bif (A.ieq (A.slen substr_) 1) then
      bif (A.inr 0 (A.slen substr_)) then
        some (PRes.val [(D.int IntKind.i64 (A.scnt s_ (A.sbyte substr_ 0)))])
      else
        none
    else
      E.lp (fun ds4 =>
        (opS (A.cell ds4 0)).bind fun s5 =>
        (opS (A.cell ds4 1)).bind fun s6 =>
        (opI (A.cell ds4 2) IntKind.i64).bind fun n7 =>
        (E.call 59 [(V.d (D.str s5)), (V.d (D.str s6))]).bind fun p8 =>
        (opI (A.cell p8.leaves 0) IntKind.i64).bind fun n10 =>
        bif (A.ieq n10 (-1)) then
          some (.inr (PRes.val [(D.int IntKind.i64 n7)]))
        else
          bif (A.cutok (A.wrap IntKind.i64 (A.add n10 (A.slen s6))) (A.slen s5) (A.slen s5)) then
            some (.inl [(D.str (A.scut s5 (A.wrap IntKind.i64 (A.add n10 (A.slen s6))) (A.slen s5))), (D.str s6), (D.int IntKind.i64 (A.wrap IntKind.i64 (A.add n7 1)))])
          else
            none
      ) [(D.str s_), (D.str substr_), (D.int IntKind.i64 0)]
theorem g58_eq (A : Sy) (E : Env) (s_ : ByteArray) (substr_ : ByteArray) : (funT A Tryd.prog cs 58 [V.d (D.str s_), V.d (D.str substr_)]).run E = g58 A E s_ substr_ := by kernel_rfl
def g59 (A : Sy) (E : Env) (s_ : ByteArray) (substr_ : ByteArray) : Option PRes :=
  (E.call 69 [(V.d (D.str s_)), (V.d (D.str substr_))]).bind fun p1 =>
  (opI (A.cell p1.leaves 0) IntKind.i64).bind fun n3 =>
  some (PRes.val [(D.int IntKind.i64 n3)])
theorem g59_eq (A : Sy) (E : Env) (s_ : ByteArray) (substr_ : ByteArray) : (funT A Tryd.prog cs 59 [V.d (D.str s_), V.d (D.str substr_)]).run E = g59 A E s_ substr_ := by kernel_rfl
def g60 (A : Sy) (E : Env) (s_ : ByteArray) (sep_ : ByteArray) : Option PRes :=
  (E.call 69 [(V.d (D.str s_)), (V.d (D.str sep_))]).bind fun p1 =>
  (opI (A.cell p1.leaves 0) IntKind.i64).bind fun n3 =>
  bif (A.ile 0 n3) then
    bif (A.cutok 0 n3 (A.slen s_)) then
      bif (A.cutok (A.wrap IntKind.i64 (A.add n3 (A.slen sep_))) (A.slen s_) (A.slen s_)) then
        some (PRes.val [(D.str (A.scut s_ 0 n3)), (D.str (A.scut s_ (A.wrap IntKind.i64 (A.add n3 (A.slen sep_))) (A.slen s_))), (D.bool true)])
      else
        none
    else
      none
  else
    some (PRes.val [(D.str s_), (D.str (bs [])), (D.bool false)])
theorem g60_eq (A : Sy) (E : Env) (s_ : ByteArray) (sep_ : ByteArray) : (funT A Tryd.prog cs 60 [V.d (D.str s_), V.d (D.str sep_)]).run E = g60 A E s_ sep_ := by kernel_rfl
def g61_62 (A : Sy) (E : Env)(s_ : ByteArray) : Option PRes :=
  E.lp (fun ds1 =>
    (opS (A.cell ds1 0)).bind fun s2 =>
    (opS (A.cell ds1 1)).bind fun s3 =>
    (opI (A.cell ds1 2) IntKind.i64).bind fun n4 =>
    bif (A.ilt n4 (A.slen s3)) then
      bif (A.ieq n4 0) then
        (E.call 62 [(V.d (D.int IntKind.i32 (A.rdec s3 n4)))]).bind fun p5 =>
        (opB (A.cell p5.leaves 0)).bind fun b7 =>
        cutO (
          bif (A.bnot b7) then
            some (.inl [(D.bool true)])
          else
            (E.call 62 [(V.d (D.int IntKind.i32 (A.rdec s3 n4)))]).bind fun p8 =>
            (opB (A.cell p8.leaves 0)).bind fun b10 =>
            bif (A.bnot b10) then
              (E.call 70 [(V.d (D.int IntKind.i32 (A.rdec s3 n4)))]).bind fun p11 =>
              (opB (A.cell p11.leaves 0)).bind fun b13 =>
              bif (A.bnot b13) then
                (E.call 64 [(V.d (D.int IntKind.i32 (A.rdec s3 n4)))]).bind fun p14 =>
                (opB (A.cell p14.leaves 0)).bind fun b16 =>
                bif (A.bnot b16) then
                  some (.inl [(D.bool (A.bnot (A.ieq (A.rdec s3 n4) 95)))])
                else
                  some (.inl [(D.bool false)])
              else
                some (.inl [(D.bool false)])
            else
              some (.inl [(D.bool false)])
        ) fun ds17 =>
        (opB (A.cell ds17 0)).bind fun b18 =>
        bif b18 then
          some (.inr (PRes.val [(D.bool false)]))
        else
          some (.inl [(D.str s2), (D.str s3), (D.int IntKind.i64 (A.add n4 (A.rwid s3 n4)))])
      else
        cutO (
          (E.call 62 [(V.d (D.int IntKind.i32 (A.rdec s3 n4)))]).bind fun p19 =>
          (opB (A.cell p19.leaves 0)).bind fun b21 =>
          bif (A.bnot b21) then
            (E.call 70 [(V.d (D.int IntKind.i32 (A.rdec s3 n4)))]).bind fun p22 =>
            (opB (A.cell p22.leaves 0)).bind fun b24 =>
            bif (A.bnot b24) then
              (E.call 64 [(V.d (D.int IntKind.i32 (A.rdec s3 n4)))]).bind fun p25 =>
              (opB (A.cell p25.leaves 0)).bind fun b27 =>
              bif (A.bnot b27) then
                some (.inl [(D.bool (A.bnot (A.ieq (A.rdec s3 n4) 95)))])
              else
                some (.inl [(D.bool false)])
            else
              some (.inl [(D.bool false)])
          else
            some (.inl [(D.bool false)])
        ) fun ds28 =>
        (opB (A.cell ds28 0)).bind fun b29 =>
        bif b29 then
          some (.inr (PRes.val [(D.bool false)]))
        else
          some (.inl [(D.str s2), (D.str s3), (D.int IntKind.i64 (A.add n4 (A.rwid s3 n4)))])
    else
      cutO (
        bif (A.ile 1 (A.slen s2)) then
          some (.inl [(D.bool (A.ile (A.slen s2) 12))])
        else
          some (.inl [(D.bool false)])
      ) fun ds30 =>
      (opB (A.cell ds30 0)).bind fun b31 =>
      some (.inr (PRes.val [(D.bool b31)]))
  ) [(D.str s_), (D.str s_), (D.int IntKind.i64 0)]
theorem g61_62_eq (A : Sy) (E : Env)(s_ : ByteArray) : (funT A Tryd.prog cs 61 [V.d (D.str s_), V.fn 62 []]).run E = g61_62 A E s_ := by kernel_rfl
def g62 (A : Sy) (E : Env) (c_ : Int) : Option PRes :=
  cutO (
    bif (A.ile 97 c_) then
      some (.inl [(D.bool (A.ile c_ 122))])
    else
      some (.inl [(D.bool false)])
  ) fun ds1 =>
  (opB (A.cell ds1 0)).bind fun b2 =>
  some (PRes.val [(D.bool b2)])
theorem g62_eq (A : Sy) (E : Env) (c_ : Int) : (funT A Tryd.prog cs 62 [V.d (D.int IntKind.i32 c_)]).run E = g62 A E c_ := by kernel_rfl
def g63 (A : Sy) (E : Env) (s_ : ByteArray) : Option PRes :=
  bif (A.seq s_ (bs [110, 111, 100, 101])) then
    some (PRes.val [(D.bool true)])
  else
    bif (A.seq s_ (bs [114, 101, 116, 117, 114, 110, 115])) then
      some (PRes.val [(D.bool true)])
    else
      bif (A.seq s_ (bs [118, 97, 114])) then
        some (PRes.val [(D.bool true)])
      else
        bif (A.seq s_ (bs [108, 101, 116])) then
          some (PRes.val [(D.bool true)])
        else
          bif (A.seq s_ (bs [116, 101, 108])) then
            some (PRes.val [(D.bool true)])
          else
            bif (A.seq s_ (bs [101, 110, 117, 109])) then
              some (PRes.val [(D.bool true)])
            else
              bif (A.seq s_ (bs [105, 102])) then
                some (PRes.val [(D.bool true)])
              else
                bif (A.seq s_ (bs [116, 104, 101, 110])) then
                  some (PRes.val [(D.bool true)])
                else
                  bif (A.seq s_ (bs [101, 108, 115, 101])) then
                    some (PRes.val [(D.bool true)])
                  else
                    bif (A.seq s_ (bs [102, 98, 121])) then
                      some (PRes.val [(D.bool true)])
                    else
                      bif (A.seq s_ (bs [112, 114, 101])) then
                        some (PRes.val [(D.bool true)])
                      else
                        bif (A.seq s_ (bs [119, 104, 101, 110])) then
                          some (PRes.val [(D.bool true)])
                        else
                          bif (A.seq s_ (bs [109, 101, 114, 103, 101])) then
                            some (PRes.val [(D.bool true)])
                          else
                            bif (A.seq s_ (bs [101, 118, 101, 114, 121])) then
                              some (PRes.val [(D.bool true)])
                            else
                              bif (A.seq s_ (bs [110, 111, 116])) then
                                some (PRes.val [(D.bool true)])
                              else
                                bif (A.seq s_ (bs [97, 110, 100])) then
                                  some (PRes.val [(D.bool true)])
                                else
                                  bif (A.seq s_ (bs [111, 114])) then
                                    some (PRes.val [(D.bool true)])
                                  else
                                    bif (A.seq s_ (bs [120, 111, 114])) then
                                      some (PRes.val [(D.bool true)])
                                    else
                                      bif (A.seq s_ (bs [109, 111, 100])) then
                                        some (PRes.val [(D.bool true)])
                                      else
                                        bif (A.seq s_ (bs [116, 114, 117, 101])) then
                                          some (PRes.val [(D.bool true)])
                                        else
                                          bif (A.seq s_ (bs [102, 97, 108, 115, 101])) then
                                            some (PRes.val [(D.bool true)])
                                          else
                                            bif (A.seq s_ (bs [105, 110, 116])) then
                                              some (PRes.val [(D.bool true)])
                                            else
                                              bif (A.seq s_ (bs [98, 111, 111, 108])) then
                                                some (PRes.val [(D.bool true)])
                                              else
                                                bif (A.seq s_ (bs [119, 105, 116, 104])) then
                                                  some (PRes.val [(D.bool true)])
                                                else
                                                  some (PRes.val [(D.bool false)])
theorem g63_eq (A : Sy) (E : Env) (s_ : ByteArray) : (funT A Tryd.prog cs 63 [V.d (D.str s_)]).run E = g63 A E s_ := by kernel_rfl
def g64 (A : Sy) (E : Env) (c_ : Int) : Option PRes :=
  cutO (
    bif (A.ile 48 c_) then
      some (.inl [(D.bool (A.ile c_ 57))])
    else
      some (.inl [(D.bool false)])
  ) fun ds1 =>
  (opB (A.cell ds1 0)).bind fun b2 =>
  some (PRes.val [(D.bool b2)])
theorem g64_eq (A : Sy) (E : Env) (c_ : Int) : (funT A Tryd.prog cs 64 [V.d (D.int IntKind.i32 c_)]).run E = g64 A E c_ := by kernel_rfl
def g65 (A : Sy) (E : Env) : Option PRes :=
  some (PRes.own 9 1 [[(D.str (bs [110, 111, 100, 101]))], [(D.str (bs [114, 101, 116, 117, 114, 110, 115]))], [(D.str (bs [118, 97, 114]))], [(D.str (bs [108, 101, 116]))], [(D.str (bs [116, 101, 108]))], [(D.str (bs [101, 110, 117, 109]))], [(D.str (bs [105, 102]))], [(D.str (bs [116, 104, 101, 110]))], [(D.str (bs [101, 108, 115, 101]))], [(D.str (bs [102, 98, 121]))], [(D.str (bs [112, 114, 101]))], [(D.str (bs [119, 104, 101, 110]))], [(D.str (bs [109, 101, 114, 103, 101]))], [(D.str (bs [101, 118, 101, 114, 121]))], [(D.str (bs [110, 111, 116]))], [(D.str (bs [97, 110, 100]))], [(D.str (bs [111, 114]))], [(D.str (bs [120, 111, 114]))], [(D.str (bs [109, 111, 100]))], [(D.str (bs [116, 114, 117, 101]))], [(D.str (bs [102, 97, 108, 115, 101]))], [(D.str (bs [105, 110, 116]))], [(D.str (bs [98, 111, 111, 108]))], [(D.str (bs [119, 105, 116, 104]))]])
theorem g65_eq (A : Sy) (E : Env) : (funT A Tryd.prog cs 65 []).run E = g65 A E  := by kernel_rfl
def g69 (A : Sy) (E : Env) (s_ : ByteArray) (substr_ : ByteArray) : Option PRes :=
  cutO (
    bif (A.ieq (A.slen substr_) 0) then
      some (.inl [(D.bool true)])
    else
      some (.inl [(D.bool (A.seq substr_ s_))])
  ) fun ds1 =>
  (opB (A.cell ds1 0)).bind fun b2 =>
  bif b2 then
    some (PRes.val [(D.int IntKind.i64 0)])
  else
    bif (A.ieq (A.slen substr_) 1) then
      bif (A.inr 0 (A.slen substr_)) then
        (E.call 72 [(V.d (D.str s_)), (V.d (D.int IntKind.u8 (A.sbyte substr_ 0)))]).bind fun p3 =>
        (opI (A.cell p3.leaves 0) IntKind.i64).bind fun n5 =>
        some (PRes.val [(D.int IntKind.i64 n5)])
      else
        none
    else
      bif (A.ile (A.slen s_) (A.slen substr_)) then
        some (PRes.val [(D.int IntKind.i64 (-1))])
      else
        none
theorem g69_eq (A : Sy) (E : Env) (s_ : ByteArray) (substr_ : ByteArray) : (funT A Tryd.prog cs 69 [V.d (D.str s_), V.d (D.str substr_)]).run E = g69 A E s_ substr_ := by kernel_rfl
def g70 (A : Sy) (E : Env) (c_ : Int) : Option PRes :=
  cutO (
    bif (A.ile 65 c_) then
      some (.inl [(D.bool (A.ile c_ 90))])
    else
      some (.inl [(D.bool false)])
  ) fun ds1 =>
  (opB (A.cell ds1 0)).bind fun b2 =>
  some (PRes.val [(D.bool b2)])
theorem g70_eq (A : Sy) (E : Env) (c_ : Int) : (funT A Tryd.prog cs 70 [V.d (D.int IntKind.i32 c_)]).run E = g70 A E c_ := by kernel_rfl
def g72 (A : Sy) (E : Env) (s_ : ByteArray) (c_ : Int) : Option PRes :=
  some (PRes.val [(D.int IntKind.i64 (A.sidx s_ c_))])
theorem g72_eq (A : Sy) (E : Env) (s_ : ByteArray) (c_ : Int) : (funT A Tryd.prog cs 72 [V.d (D.str s_), V.d (D.int IntKind.u8 c_)]).run E = g72 A E s_ c_ := by kernel_rfl
end Go.Vm
end
