/-
  Part G of the proof. What is proved by the whole: the statement that the claim names, with no condition. This part: lemmas.
-/
import Derived.Test.YtmmcmfcnpfbifaaF
set_option linter.unusedSimpArgs false
set_option linter.unusedVariables false

section
set_option maxRecDepth 1000000
set_option maxHeartbeats 0
namespace Go.Vm
open Go.Proofs
def g22 (A : Sy) (E : Env) (s_0 : List (List D)) (s_1 : List (List D)) (s_2 : Int) (s_3 : Int) (cells_ : List (List D)) : Option PRes :=
  (E.call 15 [(V.agg [(V.d (D.sl 1 s_0)), (V.d (D.sl 1 s_1)), (V.d (D.int IntKind.i64 s_2)), (V.d (D.int IntKind.i64 s_3))])]).bind fun p1 =>
  (opB (A.cell p1.leaves 0)).bind fun b3 =>
  cutO (
    bif (A.bnot b3) then
      some (.inl [(D.bool true)])
    else
      some (.inl [(D.bool (A.bnot (A.ieq (A.rlen cells_) (A.rlen s_1))))])
  ) fun ds4 =>
  (opB (A.cell ds4 0)).bind fun b5 =>
  bif b5 then
    some (PRes.val [(D.bool false)])
  else
    E.lp (fun ds6 =>
      (opL (A.cell ds6 0) 1).bind fun l7 =>
      (opI (A.cell ds6 1) IntKind.i64).bind fun n8 =>
      (opL (A.cell ds6 2) 1).bind fun l9 =>
      (opL (A.cell ds6 3) 1).bind fun l10 =>
      (opI (A.cell ds6 4) IntKind.i64).bind fun n11 =>
      (opI (A.cell ds6 5) IntKind.i64).bind fun n12 =>
      bif (A.ilt n8 (A.rlen l7)) then
        bif (A.inr n8 (A.rlen l10)) then
          (opI (A.cell (A.row l10 n8) 0) IntKind.i64).bind fun n13 =>
          bif (A.inr n8 (A.rlen l7)) then
            (opI (A.cell (A.row l7 n8) 0) IntKind.i64).bind fun n14 =>
            (E.call 49 [(V.agg [(V.d (D.sl 1 l9)), (V.d (D.sl 1 l10)), (V.d (D.int IntKind.i64 n11)), (V.d (D.int IntKind.i64 n12))]), (V.d (D.int IntKind.i64 n13)), (V.d (D.int IntKind.i64 n14))]).bind fun p15 =>
            (opB (A.cell p15.leaves 0)).bind fun b17 =>
            bif (A.bnot b17) then
              some (.inr (PRes.val [(D.bool false)]))
            else
              some (.inl [(D.sl 1 l7), (D.int IntKind.i64 (A.wrap IntKind.i64 (A.add n8 1))), (D.sl 1 l9), (D.sl 1 l10), (D.int IntKind.i64 n11), (D.int IntKind.i64 n12)])
          else
            none
        else
          none
      else
        some (.inr (PRes.val [(D.bool true)]))
    ) [(D.sl 1 cells_), (D.int IntKind.i64 0), (D.sl 1 s_0), (D.sl 1 s_1), (D.int IntKind.i64 s_2), (D.int IntKind.i64 s_3)]
theorem g22_eq (A : Sy) (E : Env) (s_0 : List (List D)) (s_1 : List (List D)) (s_2 : Int) (s_3 : Int) (cells_ : List (List D)) : (funT A Try.prog cs 22 [V.agg [V.d (D.sl 1 s_0), V.d (D.sl 1 s_1), V.d (D.int IntKind.i64 s_2), V.d (D.int IntKind.i64 s_3)], V.d (D.sl 1 cells_)]).run E = g22 A E s_0 s_1 s_2 s_3 cells_ := by kernel_rfl
def g13 (A : Sy) (E : Env) (s_0 : List (List D)) (s_1 : List (List D)) (s_2 : Int) (s_3 : Int) (code_ : List (List D)) : Option PRes :=
  (E.call 15 [(V.agg [(V.d (D.sl 1 s_0)), (V.d (D.sl 1 s_1)), (V.d (D.int IntKind.i64 s_2)), (V.d (D.int IntKind.i64 s_3))])]).bind fun p1 =>
  (opB (A.cell p1.leaves 0)).bind fun b3 =>
  cutO (
    bif (A.bnot b3) then
      some (.inl [(D.bool true)])
    else
      some (.inl [(D.bool (A.ilt (A.rlen code_) 1))])
  ) fun ds4 =>
  (opB (A.cell ds4 0)).bind fun b5 =>
  cutO (
    bif b5 then
      some (.inl [(D.bool true)])
    else
      some (.inl [(D.bool (A.ilt 6000 (A.rlen code_)))])
  ) fun ds6 =>
  (opB (A.cell ds6 0)).bind fun b7 =>
  bif b7 then
    some (PRes.val [(D.int IntKind.i64 0), (D.bool false)])
  else
    bif (A.mkok (A.rlen code_) (A.rlen code_) 1) then
      bif (A.mkok (A.rlen code_) (A.rlen code_) 24) then
        bif (A.inr 0 (A.rlen (A.rep (A.rlen code_) [(D.bool false)]))) then
          bif (A.inrn (A.nat 0) (A.rep (A.rlen code_) [(D.bool false)])) then
            E.lp (fun ds8 =>
              (opL (A.cell ds8 0) 4).bind fun l9 =>
              (opI (A.cell ds8 1) IntKind.i64).bind fun n10 =>
              (opL (A.cell ds8 2) 1).bind fun l11 =>
              (opL (A.cell ds8 3) 1).bind fun l12 =>
              (opI (A.cell ds8 4) IntKind.i64).bind fun n13 =>
              (opI (A.cell ds8 5) IntKind.i64).bind fun n14 =>
              (opL (A.cell ds8 6) 1).bind fun l15 =>
              (opL (A.cell ds8 7) 1).bind fun l16 =>
              bif (A.ilt n10 (A.rlen l9)) then
                bif (A.inr n10 (A.rlen l9)) then
                  (opI (A.cell (A.row l9 n10) 0) IntKind.i64).bind fun n17 =>
                  (opI (A.cell (A.row l9 n10) 1) IntKind.i64).bind fun n18 =>
                  (opI (A.cell (A.row l9 n10) 2) IntKind.i64).bind fun n19 =>
                  (opI (A.cell (A.row l9 n10) 3) IntKind.i64).bind fun n20 =>
                  bif (A.inr n10 (A.rlen l15)) then
                    (opB (A.cell (A.rown l15 (A.nat n10)) 0)).bind fun b21 =>
                    cutO (
                      bif (A.bnot b21) then
                        some (.inl [(D.bool true)])
                      else
                        (E.call 35 [(V.agg [(V.d (D.int IntKind.i64 n17)), (V.d (D.int IntKind.i64 n18)), (V.d (D.int IntKind.i64 n19)), (V.d (D.int IntKind.i64 n20))])]).bind fun p22 =>
                        (opB (A.cell p22.leaves 0)).bind fun b24 =>
                        some (.inl [(D.bool (A.bnot b24))])
                    ) fun ds25 =>
                    (opB (A.cell ds25 0)).bind fun b26 =>
                    bif b26 then
                      some (.inr (PRes.val [(D.int IntKind.i64 n10), (D.bool false)]))
                    else
                      bif (A.inr n10 (A.rlen l16)) then
                        (opL (A.cell (A.rown l16 (A.nat n10)) 0) 1).bind fun l27 =>
                        (E.call 36 [(V.agg [(V.d (D.sl 1 l11)), (V.d (D.sl 1 l12)), (V.d (D.int IntKind.i64 n13)), (V.d (D.int IntKind.i64 n14))]), (V.agg [(V.d (D.int IntKind.i64 n17)), (V.d (D.int IntKind.i64 n18)), (V.d (D.int IntKind.i64 n19)), (V.d (D.int IntKind.i64 n20))]), (V.d (D.sl 1 l27))]).bind fun p28 =>
                        (opL (A.cell p28.leaves 0) 1).bind fun l30 =>
                        (opB (A.cell p28.leaves 1)).bind fun b31 =>
                        bif (A.bnot b31) then
                          some (.inr (PRes.val [(D.int IntKind.i64 n10), (D.bool false)]))
                        else
                          cutO (
                            bif (A.bnot (A.ieq n17 6)) then
                              some (.inl [(D.bool (A.bnot (A.ieq n17 10)))])
                            else
                              some (.inl [(D.bool false)])
                          ) fun ds32 =>
                          (opB (A.cell ds32 0)).bind fun b33 =>
                          bif b33 then
                            bif (A.fits [] [[(D.int IntKind.i64 (A.wrap IntKind.i64 (A.add n10 1)))]] 8) then
                              cutO (
                                bif (A.ieq n17 6) then
                                  some (.inl [(D.bool true)])
                                else
                                  some (.inl [(D.bool (A.ieq n17 7))])
                              ) fun ds34 =>
                              (opB (A.cell ds34 0)).bind fun b35 =>
                              bif b35 then
                                bif (A.ile n18 n10) then
                                  some (.inr (PRes.val [(D.int IntKind.i64 n10), (D.bool false)]))
                                else
                                  bif (A.fits (A.rapp [] [[(D.int IntKind.i64 (A.wrap IntKind.i64 (A.add n10 1)))]]) [[(D.int IntKind.i64 n18)]] 8) then
                                    cutO (
                                      bif (A.ieq n17 10) then
                                        some (.inl [(D.bool (A.bnot (A.ieq (A.wrap IntKind.i64 (A.add n10 1)) (A.rlen l9))))])
                                      else
                                        some (.inl [(D.bool false)])
                                    ) fun ds36 =>
                                    (opB (A.cell ds36 0)).bind fun b37 =>
                                    bif b37 then
                                      some (.inr (PRes.val [(D.int IntKind.i64 n10), (D.bool false)]))
                                    else
                                      E.lp (fun ds38 =>
                                        (opL (A.cell ds38 0) 4).bind fun l39 =>
                                        (opI (A.cell ds38 1) IntKind.i64).bind fun n40 =>
                                        (opL (A.cell ds38 2) 1).bind fun l41 =>
                                        (opI (A.cell ds38 3) IntKind.i64).bind fun n42 =>
                                        (opL (A.cell ds38 4) 1).bind fun l43 =>
                                        (opL (A.cell ds38 5) 1).bind fun l44 =>
                                        (opI (A.cell ds38 6) IntKind.i64).bind fun n45 =>
                                        (opI (A.cell ds38 7) IntKind.i64).bind fun n46 =>
                                        (opL (A.cell ds38 8) 1).bind fun l47 =>
                                        (opL (A.cell ds38 9) 1).bind fun l48 =>
                                        (opL (A.cell ds38 10) 1).bind fun l49 =>
                                        bif (A.ilt n42 (A.rlen l49)) then
                                          bif (A.inr n42 (A.rlen l49)) then
                                            (opI (A.cell (A.rown l49 (A.nat n42)) 0) IntKind.i64).bind fun n50 =>
                                            cutO (
                                              bif (A.ile (A.rlen l39) n50) then
                                                some (.inl [(D.bool true)])
                                              else
                                                bif (A.inr n42 (A.rlen l49)) then
                                                  (opI (A.cell (A.rown l49 (A.nat n42)) 0) IntKind.i64).bind fun n51 =>
                                                  bif (A.inr n51 (A.rlen l47)) then
                                                    (opB (A.cell (A.rown l47 (A.nat n51)) 0)).bind fun b52 =>
                                                    bif b52 then
                                                      bif (A.inr n42 (A.rlen l49)) then
                                                        (opI (A.cell (A.rown l49 (A.nat n42)) 0) IntKind.i64).bind fun n53 =>
                                                        bif (A.inr n53 (A.rlen l48)) then
                                                          (opL (A.cell (A.rown l48 (A.nat n53)) 0) 1).bind fun l54 =>
                                                          (E.call 37 [(V.d (D.sl 1 l54)), (V.d (D.sl 1 l41))]).bind fun p55 =>
                                                          (opB (A.cell p55.leaves 0)).bind fun b57 =>
                                                          some (.inl [(D.bool (A.bnot b57))])
                                                        else
                                                          none
                                                      else
                                                        none
                                                    else
                                                      some (.inl [(D.bool false)])
                                                  else
                                                    none
                                                else
                                                  none
                                            ) fun ds58 =>
                                            (opB (A.cell ds58 0)).bind fun b59 =>
                                            bif b59 then
                                              some (.inr (.inr (PRes.val [(D.int IntKind.i64 n40), (D.bool false)])))
                                            else
                                              bif (A.inr n42 (A.rlen l49)) then
                                                (opI (A.cell (A.rown l49 (A.nat n42)) 0) IntKind.i64).bind fun n60 =>
                                                bif (A.inr n42 (A.rlen l49)) then
                                                  (opI (A.cell (A.rown l49 (A.nat n42)) 0) IntKind.i64).bind fun n61 =>
                                                  bif (A.inr n60 (A.rlen l47)) then
                                                    bif (A.inrn (A.nat n60) l47) then
                                                      bif (A.inr n61 (A.rlen l48)) then
                                                        bif (A.inrn (A.nat n61) l48) then
                                                          some (.inl [(D.sl 4 l39), (D.int IntKind.i64 n40), (D.sl 1 l41), (D.int IntKind.i64 (A.wrap IntKind.i64 (A.add n42 1))), (D.sl 1 l43), (D.sl 1 l44), (D.int IntKind.i64 n45), (D.int IntKind.i64 n46), (D.sl 1 (A.rput l47 (A.nat n60) 0 [(D.bool true)])), (D.sl 1 (A.rput l48 (A.nat n61) 0 [(D.sl 1 l41)])), (D.sl 1 l49)])
                                                        else
                                                          none
                                                      else
                                                        none
                                                    else
                                                      none
                                                  else
                                                    none
                                                else
                                                  none
                                              else
                                                none
                                          else
                                            none
                                        else
                                          some (.inr (.inl [(D.sl 4 l39), (D.int IntKind.i64 (A.wrap IntKind.i64 (A.add n40 1))), (D.sl 1 l43), (D.sl 1 l44), (D.int IntKind.i64 n45), (D.int IntKind.i64 n46), (D.sl 1 l47), (D.sl 1 l48)]))
                                      ) [(D.sl 4 l9), (D.int IntKind.i64 n10), (D.sl 1 l30), (D.int IntKind.i64 0), (D.sl 1 l11), (D.sl 1 l12), (D.int IntKind.i64 n13), (D.int IntKind.i64 n14), (D.sl 1 l15), (D.sl 1 l16), (D.sl 1 (A.rapp (A.rapp [] [[(D.int IntKind.i64 (A.wrap IntKind.i64 (A.add n10 1)))]]) [[(D.int IntKind.i64 n18)]]))]
                                  else
                                    none
                              else
                                cutO (
                                  bif (A.ieq n17 10) then
                                    some (.inl [(D.bool (A.bnot (A.ieq (A.wrap IntKind.i64 (A.add n10 1)) (A.rlen l9))))])
                                  else
                                    some (.inl [(D.bool false)])
                                ) fun ds62 =>
                                (opB (A.cell ds62 0)).bind fun b63 =>
                                bif b63 then
                                  some (.inr (PRes.val [(D.int IntKind.i64 n10), (D.bool false)]))
                                else
                                  E.lp (fun ds64 =>
                                    (opL (A.cell ds64 0) 4).bind fun l65 =>
                                    (opI (A.cell ds64 1) IntKind.i64).bind fun n66 =>
                                    (opL (A.cell ds64 2) 1).bind fun l67 =>
                                    (opI (A.cell ds64 3) IntKind.i64).bind fun n68 =>
                                    (opL (A.cell ds64 4) 1).bind fun l69 =>
                                    (opL (A.cell ds64 5) 1).bind fun l70 =>
                                    (opI (A.cell ds64 6) IntKind.i64).bind fun n71 =>
                                    (opI (A.cell ds64 7) IntKind.i64).bind fun n72 =>
                                    (opL (A.cell ds64 8) 1).bind fun l73 =>
                                    (opL (A.cell ds64 9) 1).bind fun l74 =>
                                    (opL (A.cell ds64 10) 1).bind fun l75 =>
                                    bif (A.ilt n68 (A.rlen l75)) then
                                      bif (A.inr n68 (A.rlen l75)) then
                                        (opI (A.cell (A.rown l75 (A.nat n68)) 0) IntKind.i64).bind fun n76 =>
                                        cutO (
                                          bif (A.ile (A.rlen l65) n76) then
                                            some (.inl [(D.bool true)])
                                          else
                                            bif (A.inr n68 (A.rlen l75)) then
                                              (opI (A.cell (A.rown l75 (A.nat n68)) 0) IntKind.i64).bind fun n77 =>
                                              bif (A.inr n77 (A.rlen l73)) then
                                                (opB (A.cell (A.rown l73 (A.nat n77)) 0)).bind fun b78 =>
                                                bif b78 then
                                                  bif (A.inr n68 (A.rlen l75)) then
                                                    (opI (A.cell (A.rown l75 (A.nat n68)) 0) IntKind.i64).bind fun n79 =>
                                                    bif (A.inr n79 (A.rlen l74)) then
                                                      (opL (A.cell (A.rown l74 (A.nat n79)) 0) 1).bind fun l80 =>
                                                      (E.call 37 [(V.d (D.sl 1 l80)), (V.d (D.sl 1 l67))]).bind fun p81 =>
                                                      (opB (A.cell p81.leaves 0)).bind fun b83 =>
                                                      some (.inl [(D.bool (A.bnot b83))])
                                                    else
                                                      none
                                                  else
                                                    none
                                                else
                                                  some (.inl [(D.bool false)])
                                              else
                                                none
                                            else
                                              none
                                        ) fun ds84 =>
                                        (opB (A.cell ds84 0)).bind fun b85 =>
                                        bif b85 then
                                          some (.inr (.inr (PRes.val [(D.int IntKind.i64 n66), (D.bool false)])))
                                        else
                                          bif (A.inr n68 (A.rlen l75)) then
                                            (opI (A.cell (A.rown l75 (A.nat n68)) 0) IntKind.i64).bind fun n86 =>
                                            bif (A.inr n68 (A.rlen l75)) then
                                              (opI (A.cell (A.rown l75 (A.nat n68)) 0) IntKind.i64).bind fun n87 =>
                                              bif (A.inr n86 (A.rlen l73)) then
                                                bif (A.inrn (A.nat n86) l73) then
                                                  bif (A.inr n87 (A.rlen l74)) then
                                                    bif (A.inrn (A.nat n87) l74) then
                                                      some (.inl [(D.sl 4 l65), (D.int IntKind.i64 n66), (D.sl 1 l67), (D.int IntKind.i64 (A.wrap IntKind.i64 (A.add n68 1))), (D.sl 1 l69), (D.sl 1 l70), (D.int IntKind.i64 n71), (D.int IntKind.i64 n72), (D.sl 1 (A.rput l73 (A.nat n86) 0 [(D.bool true)])), (D.sl 1 (A.rput l74 (A.nat n87) 0 [(D.sl 1 l67)])), (D.sl 1 l75)])
                                                    else
                                                      none
                                                  else
                                                    none
                                                else
                                                  none
                                              else
                                                none
                                            else
                                              none
                                          else
                                            none
                                      else
                                        none
                                    else
                                      some (.inr (.inl [(D.sl 4 l65), (D.int IntKind.i64 (A.wrap IntKind.i64 (A.add n66 1))), (D.sl 1 l69), (D.sl 1 l70), (D.int IntKind.i64 n71), (D.int IntKind.i64 n72), (D.sl 1 l73), (D.sl 1 l74)]))
                                  ) [(D.sl 4 l9), (D.int IntKind.i64 n10), (D.sl 1 l30), (D.int IntKind.i64 0), (D.sl 1 l11), (D.sl 1 l12), (D.int IntKind.i64 n13), (D.int IntKind.i64 n14), (D.sl 1 l15), (D.sl 1 l16), (D.sl 1 (A.rapp [] [[(D.int IntKind.i64 (A.wrap IntKind.i64 (A.add n10 1)))]]))]
                            else
                              none
                          else
                            cutO (
                              bif (A.ieq n17 6) then
                                some (.inl [(D.bool true)])
                              else
                                some (.inl [(D.bool (A.ieq n17 7))])
                            ) fun ds88 =>
                            (opB (A.cell ds88 0)).bind fun b89 =>
                            bif b89 then
                              bif (A.ile n18 n10) then
                                some (.inr (PRes.val [(D.int IntKind.i64 n10), (D.bool false)]))
                              else
                                bif (A.fits [] [[(D.int IntKind.i64 n18)]] 8) then
                                  cutO (
                                    bif (A.ieq n17 10) then
                                      some (.inl [(D.bool (A.bnot (A.ieq (A.wrap IntKind.i64 (A.add n10 1)) (A.rlen l9))))])
                                    else
                                      some (.inl [(D.bool false)])
                                  ) fun ds90 =>
                                  (opB (A.cell ds90 0)).bind fun b91 =>
                                  bif b91 then
                                    some (.inr (PRes.val [(D.int IntKind.i64 n10), (D.bool false)]))
                                  else
                                    E.lp (fun ds92 =>
                                      (opL (A.cell ds92 0) 4).bind fun l93 =>
                                      (opI (A.cell ds92 1) IntKind.i64).bind fun n94 =>
                                      (opL (A.cell ds92 2) 1).bind fun l95 =>
                                      (opI (A.cell ds92 3) IntKind.i64).bind fun n96 =>
                                      (opL (A.cell ds92 4) 1).bind fun l97 =>
                                      (opL (A.cell ds92 5) 1).bind fun l98 =>
                                      (opI (A.cell ds92 6) IntKind.i64).bind fun n99 =>
                                      (opI (A.cell ds92 7) IntKind.i64).bind fun n100 =>
                                      (opL (A.cell ds92 8) 1).bind fun l101 =>
                                      (opL (A.cell ds92 9) 1).bind fun l102 =>
                                      (opL (A.cell ds92 10) 1).bind fun l103 =>
                                      bif (A.ilt n96 (A.rlen l103)) then
                                        bif (A.inr n96 (A.rlen l103)) then
                                          (opI (A.cell (A.rown l103 (A.nat n96)) 0) IntKind.i64).bind fun n104 =>
                                          cutO (
                                            bif (A.ile (A.rlen l93) n104) then
                                              some (.inl [(D.bool true)])
                                            else
                                              bif (A.inr n96 (A.rlen l103)) then
                                                (opI (A.cell (A.rown l103 (A.nat n96)) 0) IntKind.i64).bind fun n105 =>
                                                bif (A.inr n105 (A.rlen l101)) then
                                                  (opB (A.cell (A.rown l101 (A.nat n105)) 0)).bind fun b106 =>
                                                  bif b106 then
                                                    bif (A.inr n96 (A.rlen l103)) then
                                                      (opI (A.cell (A.rown l103 (A.nat n96)) 0) IntKind.i64).bind fun n107 =>
                                                      bif (A.inr n107 (A.rlen l102)) then
                                                        (opL (A.cell (A.rown l102 (A.nat n107)) 0) 1).bind fun l108 =>
                                                        (E.call 37 [(V.d (D.sl 1 l108)), (V.d (D.sl 1 l95))]).bind fun p109 =>
                                                        (opB (A.cell p109.leaves 0)).bind fun b111 =>
                                                        some (.inl [(D.bool (A.bnot b111))])
                                                      else
                                                        none
                                                    else
                                                      none
                                                  else
                                                    some (.inl [(D.bool false)])
                                                else
                                                  none
                                              else
                                                none
                                          ) fun ds112 =>
                                          (opB (A.cell ds112 0)).bind fun b113 =>
                                          bif b113 then
                                            some (.inr (.inr (PRes.val [(D.int IntKind.i64 n94), (D.bool false)])))
                                          else
                                            bif (A.inr n96 (A.rlen l103)) then
                                              (opI (A.cell (A.rown l103 (A.nat n96)) 0) IntKind.i64).bind fun n114 =>
                                              bif (A.inr n96 (A.rlen l103)) then
                                                (opI (A.cell (A.rown l103 (A.nat n96)) 0) IntKind.i64).bind fun n115 =>
                                                bif (A.inr n114 (A.rlen l101)) then
                                                  bif (A.inrn (A.nat n114) l101) then
                                                    bif (A.inr n115 (A.rlen l102)) then
                                                      bif (A.inrn (A.nat n115) l102) then
                                                        some (.inl [(D.sl 4 l93), (D.int IntKind.i64 n94), (D.sl 1 l95), (D.int IntKind.i64 (A.wrap IntKind.i64 (A.add n96 1))), (D.sl 1 l97), (D.sl 1 l98), (D.int IntKind.i64 n99), (D.int IntKind.i64 n100), (D.sl 1 (A.rput l101 (A.nat n114) 0 [(D.bool true)])), (D.sl 1 (A.rput l102 (A.nat n115) 0 [(D.sl 1 l95)])), (D.sl 1 l103)])
                                                      else
                                                        none
                                                    else
                                                      none
                                                  else
                                                    none
                                                else
                                                  none
                                              else
                                                none
                                            else
                                              none
                                        else
                                          none
                                      else
                                        some (.inr (.inl [(D.sl 4 l93), (D.int IntKind.i64 (A.wrap IntKind.i64 (A.add n94 1))), (D.sl 1 l97), (D.sl 1 l98), (D.int IntKind.i64 n99), (D.int IntKind.i64 n100), (D.sl 1 l101), (D.sl 1 l102)]))
                                    ) [(D.sl 4 l9), (D.int IntKind.i64 n10), (D.sl 1 l30), (D.int IntKind.i64 0), (D.sl 1 l11), (D.sl 1 l12), (D.int IntKind.i64 n13), (D.int IntKind.i64 n14), (D.sl 1 l15), (D.sl 1 l16), (D.sl 1 (A.rapp [] [[(D.int IntKind.i64 n18)]]))]
                                else
                                  none
                            else
                              cutO (
                                bif (A.ieq n17 10) then
                                  some (.inl [(D.bool (A.bnot (A.ieq (A.wrap IntKind.i64 (A.add n10 1)) (A.rlen l9))))])
                                else
                                  some (.inl [(D.bool false)])
                              ) fun ds116 =>
                              (opB (A.cell ds116 0)).bind fun b117 =>
                              bif b117 then
                                some (.inr (PRes.val [(D.int IntKind.i64 n10), (D.bool false)]))
                              else
                                E.lp (fun ds118 =>
                                  (opL (A.cell ds118 0) 4).bind fun l119 =>
                                  (opI (A.cell ds118 1) IntKind.i64).bind fun n120 =>
                                  (opL (A.cell ds118 2) 1).bind fun l121 =>
                                  (opI (A.cell ds118 3) IntKind.i64).bind fun n122 =>
                                  (opL (A.cell ds118 4) 1).bind fun l123 =>
                                  (opL (A.cell ds118 5) 1).bind fun l124 =>
                                  (opI (A.cell ds118 6) IntKind.i64).bind fun n125 =>
                                  (opI (A.cell ds118 7) IntKind.i64).bind fun n126 =>
                                  (opL (A.cell ds118 8) 1).bind fun l127 =>
                                  (opL (A.cell ds118 9) 1).bind fun l128 =>
                                  (opL (A.cell ds118 10) 1).bind fun l129 =>
                                  bif (A.ilt n122 (A.rlen l129)) then
                                    bif (A.inr n122 (A.rlen l129)) then
                                      (opI (A.cell (A.rown l129 (A.nat n122)) 0) IntKind.i64).bind fun n130 =>
                                      cutO (
                                        bif (A.ile (A.rlen l119) n130) then
                                          some (.inl [(D.bool true)])
                                        else
                                          bif (A.inr n122 (A.rlen l129)) then
                                            (opI (A.cell (A.rown l129 (A.nat n122)) 0) IntKind.i64).bind fun n131 =>
                                            bif (A.inr n131 (A.rlen l127)) then
                                              (opB (A.cell (A.rown l127 (A.nat n131)) 0)).bind fun b132 =>
                                              bif b132 then
                                                bif (A.inr n122 (A.rlen l129)) then
                                                  (opI (A.cell (A.rown l129 (A.nat n122)) 0) IntKind.i64).bind fun n133 =>
                                                  bif (A.inr n133 (A.rlen l128)) then
                                                    (opL (A.cell (A.rown l128 (A.nat n133)) 0) 1).bind fun l134 =>
                                                    (E.call 37 [(V.d (D.sl 1 l134)), (V.d (D.sl 1 l121))]).bind fun p135 =>
                                                    (opB (A.cell p135.leaves 0)).bind fun b137 =>
                                                    some (.inl [(D.bool (A.bnot b137))])
                                                  else
                                                    none
                                                else
                                                  none
                                              else
                                                some (.inl [(D.bool false)])
                                            else
                                              none
                                          else
                                            none
                                      ) fun ds138 =>
                                      (opB (A.cell ds138 0)).bind fun b139 =>
                                      bif b139 then
                                        some (.inr (.inr (PRes.val [(D.int IntKind.i64 n120), (D.bool false)])))
                                      else
                                        bif (A.inr n122 (A.rlen l129)) then
                                          (opI (A.cell (A.rown l129 (A.nat n122)) 0) IntKind.i64).bind fun n140 =>
                                          bif (A.inr n122 (A.rlen l129)) then
                                            (opI (A.cell (A.rown l129 (A.nat n122)) 0) IntKind.i64).bind fun n141 =>
                                            bif (A.inr n140 (A.rlen l127)) then
                                              bif (A.inrn (A.nat n140) l127) then
                                                bif (A.inr n141 (A.rlen l128)) then
                                                  bif (A.inrn (A.nat n141) l128) then
                                                    some (.inl [(D.sl 4 l119), (D.int IntKind.i64 n120), (D.sl 1 l121), (D.int IntKind.i64 (A.wrap IntKind.i64 (A.add n122 1))), (D.sl 1 l123), (D.sl 1 l124), (D.int IntKind.i64 n125), (D.int IntKind.i64 n126), (D.sl 1 (A.rput l127 (A.nat n140) 0 [(D.bool true)])), (D.sl 1 (A.rput l128 (A.nat n141) 0 [(D.sl 1 l121)])), (D.sl 1 l129)])
                                                  else
                                                    none
                                                else
                                                  none
                                              else
                                                none
                                            else
                                              none
                                          else
                                            none
                                        else
                                          none
                                    else
                                      none
                                  else
                                    some (.inr (.inl [(D.sl 4 l119), (D.int IntKind.i64 (A.wrap IntKind.i64 (A.add n120 1))), (D.sl 1 l123), (D.sl 1 l124), (D.int IntKind.i64 n125), (D.int IntKind.i64 n126), (D.sl 1 l127), (D.sl 1 l128)]))
                                ) [(D.sl 4 l9), (D.int IntKind.i64 n10), (D.sl 1 l30), (D.int IntKind.i64 0), (D.sl 1 l11), (D.sl 1 l12), (D.int IntKind.i64 n13), (D.int IntKind.i64 n14), (D.sl 1 l15), (D.sl 1 l16), (D.sl 1 [])]
                      else
                        none
                  else
                    none
                else
                  none
              else
                some (.inr (PRes.val [(D.int IntKind.i64 (A.rlen l9)), (D.bool true)]))
            ) [(D.sl 4 code_), (D.int IntKind.i64 0), (D.sl 1 s_0), (D.sl 1 s_1), (D.int IntKind.i64 s_2), (D.int IntKind.i64 s_3), (D.sl 1 (A.rput (A.rep (A.rlen code_) [(D.bool false)]) (A.nat 0) 0 [(D.bool true)])), (D.sl 1 (A.rep (A.rlen code_) [(D.sl 1 [])]))]
          else
            none
        else
          none
      else
        none
    else
      none
theorem g13_eq (A : Sy) (E : Env) (s_0 : List (List D)) (s_1 : List (List D)) (s_2 : Int) (s_3 : Int) (code_ : List (List D)) : (funT A Try.prog cs 13 [V.agg [V.d (D.sl 1 s_0), V.d (D.sl 1 s_1), V.d (D.int IntKind.i64 s_2), V.d (D.int IntKind.i64 s_3)], V.d (D.sl 4 code_)]).run E = g13 A E s_0 s_1 s_2 s_3 code_ := by kernel_rfl
def g35 (A : Sy) (E : Env) (x_0 : Int) (x_1 : Int) (x_2 : Int) (x_3 : Int) : Option PRes :=
  cutO (
    bif (A.bnot (A.ieq x_0 1)) then
      some (.inl [(D.bool (A.bnot (A.ieq x_3 0)))])
    else
      some (.inl [(D.bool false)])
  ) fun ds1 =>
  (opB (A.cell ds1 0)).bind fun b2 =>
  cutO (
    bif b2 then
      some (.inl [(D.bool true)])
    else
      bif (A.bnot (A.ieq x_0 8)) then
        bif (A.bnot (A.ieq x_0 9)) then
          some (.inl [(D.bool (A.bnot (A.ieq x_2 0)))])
        else
          some (.inl [(D.bool false)])
      else
        some (.inl [(D.bool false)])
  ) fun ds3 =>
  (opB (A.cell ds3 0)).bind fun b4 =>
  bif b4 then
    some (PRes.val [(D.bool false)])
  else
    bif (A.ieq x_0 1) then
      cutO (
        bif (A.ile 1 x_1) then
          some (.inl [(D.bool (A.ile x_1 1000))])
        else
          some (.inl [(D.bool false)])
      ) fun ds5 =>
      (opB (A.cell ds5 0)).bind fun b6 =>
      some (PRes.val [(D.bool b6)])
    else
      bif (A.ieq x_0 2) then
        (E.call 67 [(V.d (D.int IntKind.i64 x_1))]).bind fun p7 =>
        (opB (A.cell p7.leaves 0)).bind fun b9 =>
        some (PRes.val [(D.bool b9)])
      else
        bif (A.ieq x_0 3) then
          (E.call 67 [(V.d (D.int IntKind.i64 x_1))]).bind fun p10 =>
          (opB (A.cell p10.leaves 0)).bind fun b12 =>
          some (PRes.val [(D.bool b12)])
        else
          bif (A.ieq x_0 6) then
            (E.call 67 [(V.d (D.int IntKind.i64 x_1))]).bind fun p13 =>
            (opB (A.cell p13.leaves 0)).bind fun b15 =>
            some (PRes.val [(D.bool b15)])
          else
            bif (A.ieq x_0 7) then
              (E.call 67 [(V.d (D.int IntKind.i64 x_1))]).bind fun p16 =>
              (opB (A.cell p16.leaves 0)).bind fun b18 =>
              some (PRes.val [(D.bool b18)])
            else
              bif (A.ieq x_0 4) then
                cutO (
                  bif (A.ieq x_1 1) then
                    some (.inl [(D.bool true)])
                  else
                    some (.inl [(D.bool (A.ieq x_1 2))])
                ) fun ds19 =>
                (opB (A.cell ds19 0)).bind fun b20 =>
                some (PRes.val [(D.bool b20)])
              else
                bif (A.ieq x_0 5) then
                  cutO (
                    bif (A.ile 3 x_1) then
                      some (.inl [(D.bool (A.ile x_1 16))])
                    else
                      some (.inl [(D.bool false)])
                  ) fun ds21 =>
                  (opB (A.cell ds21 0)).bind fun b22 =>
                  some (PRes.val [(D.bool b22)])
                else
                  bif (A.ieq x_0 8) then
                    (E.call 67 [(V.d (D.int IntKind.i64 x_1))]).bind fun p23 =>
                    (opB (A.cell p23.leaves 0)).bind fun b25 =>
                    cutO (
                      bif b25 then
                        some (.inl [(D.bool (A.ile 1 x_2))])
                      else
                        some (.inl [(D.bool false)])
                    ) fun ds26 =>
                    (opB (A.cell ds26 0)).bind fun b27 =>
                    cutO (
                      bif b27 then
                        some (.inl [(D.bool (A.ile x_2 8))])
                      else
                        some (.inl [(D.bool false)])
                    ) fun ds28 =>
                    (opB (A.cell ds28 0)).bind fun b29 =>
                    some (PRes.val [(D.bool b29)])
                  else
                    bif (A.ieq x_0 9) then
                      (E.call 67 [(V.d (D.int IntKind.i64 x_1))]).bind fun p30 =>
                      (opB (A.cell p30.leaves 0)).bind fun b32 =>
                      cutO (
                        bif b32 then
                          some (.inl [(D.bool (A.ile 1 x_2))])
                        else
                          some (.inl [(D.bool false)])
                      ) fun ds33 =>
                      (opB (A.cell ds33 0)).bind fun b34 =>
                      cutO (
                        bif b34 then
                          some (.inl [(D.bool (A.ile x_2 8))])
                        else
                          some (.inl [(D.bool false)])
                      ) fun ds35 =>
                      (opB (A.cell ds35 0)).bind fun b36 =>
                      some (PRes.val [(D.bool b36)])
                    else
                      bif (A.ieq x_0 10) then
                        some (PRes.val [(D.bool (A.ieq x_1 0))])
                      else
                        some (PRes.val [(D.bool false)])
theorem g35_eq (A : Sy) (E : Env) (x_0 : Int) (x_1 : Int) (x_2 : Int) (x_3 : Int) : (funT A Try.prog cs 35 [V.agg [V.d (D.int IntKind.i64 x_0), V.d (D.int IntKind.i64 x_1), V.d (D.int IntKind.i64 x_2), V.d (D.int IntKind.i64 x_3)]]).run E = g35 A E x_0 x_1 x_2 x_3 := by kernel_rfl
def g67 (A : Sy) (E : Env) (n_ : Int) : Option PRes :=
  cutO (
    bif (A.ile 0 n_) then
      some (.inl [(D.bool (A.ile n_ 65535))])
    else
      some (.inl [(D.bool false)])
  ) fun ds1 =>
  (opB (A.cell ds1 0)).bind fun b2 =>
  some (PRes.val [(D.bool b2)])
theorem g67_eq (A : Sy) (E : Env) (n_ : Int) : (funT A Try.prog cs 67 [V.d (D.int IntKind.i64 n_)]).run E = g67 A E n_ := by kernel_rfl
def g36 (A : Sy) (E : Env) (s_0 : List (List D)) (s_1 : List (List D)) (s_2 : Int) (s_3 : Int) (x_0 : Int) (x_1 : Int) (x_2 : Int) (x_3 : Int) (row_ : List (List D)) : Option PRes :=
  bif (A.ieq x_0 1) then
    (E.call 68 [(V.d (D.sl 1 row_)), (V.d (D.int IntKind.i64 0)), (V.d (D.int IntKind.i64 x_1))]).bind fun p1 =>
    (opL (A.cell p1.leaves 0) 1).bind fun l3 =>
    (E.call 42 [(V.agg [(V.d (D.sl 1 s_0)), (V.d (D.sl 1 s_1)), (V.d (D.int IntKind.i64 s_2)), (V.d (D.int IntKind.i64 s_3))]), (V.d (D.int IntKind.i64 x_1))]).bind fun p4 =>
    (opB (A.cell p4.leaves 0)).bind fun b6 =>
    bif b6 then
      (E.call 49 [(V.agg [(V.d (D.sl 1 s_0)), (V.d (D.sl 1 s_1)), (V.d (D.int IntKind.i64 s_2)), (V.d (D.int IntKind.i64 s_3))]), (V.d (D.int IntKind.i64 x_1)), (V.d (D.int IntKind.i64 x_3))]).bind fun p7 =>
      (opB (A.cell p7.leaves 0)).bind fun b9 =>
      bif b9 then
        some (PRes.val [(D.sl 1 l3), (D.bool (A.ilt (A.rlen row_) 16))])
      else
        some (PRes.val [(D.sl 1 l3), (D.bool false)])
    else
      some (PRes.val [(D.sl 1 l3), (D.bool false)])
  else
    bif (A.ieq x_0 4) then
      (E.call 71 [(V.d (D.sl 1 row_)), (V.d (D.int IntKind.i64 0))]).bind fun p10 =>
      (opI (A.cell p10.leaves 0) IntKind.i64).bind fun n12 =>
      (E.call 70 [(V.d (D.int IntKind.i64 n12))]).bind fun p13 =>
      (opI (A.cell p13.leaves 0) IntKind.i64).bind fun n15 =>
      (opI (A.cell p13.leaves 1) IntKind.i64).bind fun n16 =>
      (opI (A.cell p13.leaves 2) IntKind.i64).bind fun n17 =>
      (E.call 69 [(V.d (D.int IntKind.i64 x_1)), (V.agg [(V.d (D.int IntKind.i64 n15)), (V.d (D.int IntKind.i64 n16)), (V.d (D.int IntKind.i64 n17))])]).bind fun p18 =>
      (opI (A.cell p18.leaves 0) IntKind.i64).bind fun n20 =>
      (opI (A.cell p18.leaves 1) IntKind.i64).bind fun n21 =>
      (opI (A.cell p18.leaves 2) IntKind.i64).bind fun n22 =>
      (opB (A.cell p18.leaves 3)).bind fun b23 =>
      bif (A.bnot b23) then
        some (PRes.val [(D.sl 1 []), (D.bool false)])
      else
        (E.call 72 [(V.agg [(V.d (D.int IntKind.i64 n20)), (V.d (D.int IntKind.i64 n21)), (V.d (D.int IntKind.i64 n22))])]).bind fun p24 =>
        (opI (A.cell p24.leaves 0) IntKind.i64).bind fun n26 =>
        (E.call 68 [(V.d (D.sl 1 row_)), (V.d (D.int IntKind.i64 1)), (V.d (D.int IntKind.i64 n26))]).bind fun p27 =>
        (opL (A.cell p27.leaves 0) 1).bind fun l29 =>
        some (PRes.val [(D.sl 1 l29), (D.bool true)])
    else
      bif (A.ieq x_0 5) then
        bif (A.ilt (A.rlen row_) 2) then
          some (PRes.val [(D.sl 1 []), (D.bool false)])
        else
          (E.call 71 [(V.d (D.sl 1 row_)), (V.d (D.int IntKind.i64 1))]).bind fun p30 =>
          (opI (A.cell p30.leaves 0) IntKind.i64).bind fun n32 =>
          (E.call 70 [(V.d (D.int IntKind.i64 n32))]).bind fun p33 =>
          (opI (A.cell p33.leaves 0) IntKind.i64).bind fun n35 =>
          (opI (A.cell p33.leaves 1) IntKind.i64).bind fun n36 =>
          (opI (A.cell p33.leaves 2) IntKind.i64).bind fun n37 =>
          (E.call 71 [(V.d (D.sl 1 row_)), (V.d (D.int IntKind.i64 0))]).bind fun p38 =>
          (opI (A.cell p38.leaves 0) IntKind.i64).bind fun n40 =>
          (E.call 70 [(V.d (D.int IntKind.i64 n40))]).bind fun p41 =>
          (opI (A.cell p41.leaves 0) IntKind.i64).bind fun n43 =>
          (opI (A.cell p41.leaves 1) IntKind.i64).bind fun n44 =>
          (opI (A.cell p41.leaves 2) IntKind.i64).bind fun n45 =>
          (E.call 73 [(V.d (D.int IntKind.i64 x_1)), (V.agg [(V.d (D.int IntKind.i64 n35)), (V.d (D.int IntKind.i64 n36)), (V.d (D.int IntKind.i64 n37))]), (V.agg [(V.d (D.int IntKind.i64 n43)), (V.d (D.int IntKind.i64 n44)), (V.d (D.int IntKind.i64 n45))])]).bind fun p46 =>
          (opI (A.cell p46.leaves 0) IntKind.i64).bind fun n48 =>
          (opI (A.cell p46.leaves 1) IntKind.i64).bind fun n49 =>
          (opI (A.cell p46.leaves 2) IntKind.i64).bind fun n50 =>
          (opB (A.cell p46.leaves 3)).bind fun b51 =>
          bif (A.bnot b51) then
            some (PRes.val [(D.sl 1 []), (D.bool false)])
          else
            (E.call 72 [(V.agg [(V.d (D.int IntKind.i64 n48)), (V.d (D.int IntKind.i64 n49)), (V.d (D.int IntKind.i64 n50))])]).bind fun p52 =>
            (opI (A.cell p52.leaves 0) IntKind.i64).bind fun n54 =>
            (E.call 68 [(V.d (D.sl 1 row_)), (V.d (D.int IntKind.i64 2)), (V.d (D.int IntKind.i64 n54))]).bind fun p55 =>
            (opL (A.cell p55.leaves 0) 1).bind fun l57 =>
            some (PRes.val [(D.sl 1 l57), (D.bool true)])
      else
        bif (A.ieq x_0 7) then
          (E.call 71 [(V.d (D.sl 1 row_)), (V.d (D.int IntKind.i64 0))]).bind fun p58 =>
          (opI (A.cell p58.leaves 0) IntKind.i64).bind fun n60 =>
          bif (A.bnot (A.ieq n60 2)) then
            some (PRes.val [(D.sl 1 []), (D.bool false)])
          else
            (E.call 68 [(V.d (D.sl 1 row_)), (V.d (D.int IntKind.i64 1)), (V.d (D.int IntKind.i64 0))]).bind fun p61 =>
            (opL (A.cell p61.leaves 0) 1).bind fun l63 =>
            some (PRes.val [(D.sl 1 l63), (D.bool true)])
        else
          bif (A.ieq x_0 6) then
            some (PRes.val [(D.sl 1 row_), (D.bool true)])
          else
            bif (A.ieq x_0 10) then
              some (PRes.val [(D.sl 1 []), (D.bool (A.ieq (A.rlen row_) 0))])
            else
              (E.call 74 [(V.agg [(V.d (D.sl 1 s_0)), (V.d (D.sl 1 s_1)), (V.d (D.int IntKind.i64 s_2)), (V.d (D.int IntKind.i64 s_3))]), (V.agg [(V.d (D.int IntKind.i64 x_0)), (V.d (D.int IntKind.i64 x_1)), (V.d (D.int IntKind.i64 x_2)), (V.d (D.int IntKind.i64 x_3))]), (V.d (D.sl 1 row_))]).bind fun p64 =>
              (opL (A.cell p64.leaves 0) 1).bind fun l66 =>
              (opB (A.cell p64.leaves 1)).bind fun b67 =>
              some (PRes.val [(D.sl 1 l66), (D.bool b67)])
theorem g36_eq (A : Sy) (E : Env) (s_0 : List (List D)) (s_1 : List (List D)) (s_2 : Int) (s_3 : Int) (x_0 : Int) (x_1 : Int) (x_2 : Int) (x_3 : Int) (row_ : List (List D)) : (funT A Try.prog cs 36 [V.agg [V.d (D.sl 1 s_0), V.d (D.sl 1 s_1), V.d (D.int IntKind.i64 s_2), V.d (D.int IntKind.i64 s_3)], V.agg [V.d (D.int IntKind.i64 x_0), V.d (D.int IntKind.i64 x_1), V.d (D.int IntKind.i64 x_2), V.d (D.int IntKind.i64 x_3)], V.d (D.sl 1 row_)]).run E = g36 A E s_0 s_1 s_2 s_3 x_0 x_1 x_2 x_3 row_ := by kernel_rfl
def g68 (A : Sy) (E : Env) (row_ : List (List D)) (n_ : Int) (k_ : Int) : Option PRes :=
  bif (A.cutok 0 (A.wrap IntKind.i64 (A.sub (A.rlen row_) n_)) (A.rlen row_)) then
    bif (A.fits [] (A.cut row_ 0 (A.wrap IntKind.i64 (A.sub (A.rlen row_) n_))) 8) then
      bif (A.bnot (A.ieq k_ 0)) then
        bif (A.fits (A.rapp [] (A.cut row_ 0 (A.wrap IntKind.i64 (A.sub (A.rlen row_) n_)))) [[(D.int IntKind.i64 k_)]] 8) then
          some (PRes.own 3 1 (A.rapp (A.rapp [] (A.cut row_ 0 (A.wrap IntKind.i64 (A.sub (A.rlen row_) n_)))) [[(D.int IntKind.i64 k_)]]))
        else
          none
      else
        some (PRes.own 3 1 (A.rapp [] (A.cut row_ 0 (A.wrap IntKind.i64 (A.sub (A.rlen row_) n_)))))
    else
      none
  else
    none
theorem g68_eq (A : Sy) (E : Env) (row_ : List (List D)) (n_ : Int) (k_ : Int) : (funT A Try.prog cs 68 [V.d (D.sl 1 row_), V.d (D.int IntKind.i64 n_), V.d (D.int IntKind.i64 k_)]).run E = g68 A E row_ n_ k_ := by kernel_rfl
def g71 (A : Sy) (E : Env) (row_ : List (List D)) (back_ : Int) : Option PRes :=
  bif (A.ile (A.rlen row_) back_) then
    some (PRes.val [(D.int IntKind.i64 0)])
  else
    bif (A.inr (A.wrap IntKind.i64 (A.sub (A.wrap IntKind.i64 (A.sub (A.rlen row_) 1)) back_)) (A.rlen row_)) then
      (opI (A.cell (A.row row_ (A.wrap IntKind.i64 (A.sub (A.wrap IntKind.i64 (A.sub (A.rlen row_) 1)) back_))) 0) IntKind.i64).bind fun n1 =>
      some (PRes.val [(D.int IntKind.i64 n1)])
    else
      none
theorem g71_eq (A : Sy) (E : Env) (row_ : List (List D)) (back_ : Int) : (funT A Try.prog cs 71 [V.d (D.sl 1 row_), V.d (D.int IntKind.i64 back_)]).run E = g71 A E row_ back_ := by kernel_rfl
def g70 (A : Sy) (E : Env) (k_ : Int) : Option PRes :=
  bif (A.ilt k_ 3) then
    some (PRes.val [(D.int IntKind.i64 k_), (D.int IntKind.i64 0), (D.int IntKind.i64 0)])
  else
    some (PRes.val [(D.int IntKind.i64 3), (D.int IntKind.i64 (A.wrap IntKind.i64 (A.sub k_ 3))), (D.int IntKind.i64 0)])
theorem g70_eq (A : Sy) (E : Env) (k_ : Int) : (funT A Try.prog cs 70 [V.d (D.int IntKind.i64 k_)]).run E = g70 A E k_ := by kernel_rfl
def g69 (A : Sy) (E : Env) (op_ : Int) (t_0 : Int) (t_1 : Int) (t_2 : Int) : Option PRes :=
  bif (A.ieq op_ 1) then
    (E.call 101 [(V.d (D.int IntKind.i64 1))]).bind fun p1 =>
    (opI (A.cell p1.leaves 0) IntKind.i64).bind fun n3 =>
    (opI (A.cell p1.leaves 1) IntKind.i64).bind fun n4 =>
    (opI (A.cell p1.leaves 2) IntKind.i64).bind fun n5 =>
    bif (A.deq [(D.int IntKind.i64 t_0), (D.int IntKind.i64 t_1), (D.int IntKind.i64 t_2)] [(D.int IntKind.i64 n3), (D.int IntKind.i64 n4), (D.int IntKind.i64 n5)]) then
      some (PRes.val [(D.int IntKind.i64 t_0), (D.int IntKind.i64 t_1), (D.int IntKind.i64 t_2), (D.bool true)])
    else
      bif (A.ieq op_ 2) then
        (E.call 101 [(V.d (D.int IntKind.i64 2))]).bind fun p6 =>
        (opI (A.cell p6.leaves 0) IntKind.i64).bind fun n8 =>
        (opI (A.cell p6.leaves 1) IntKind.i64).bind fun n9 =>
        (opI (A.cell p6.leaves 2) IntKind.i64).bind fun n10 =>
        bif (A.deq [(D.int IntKind.i64 t_0), (D.int IntKind.i64 t_1), (D.int IntKind.i64 t_2)] [(D.int IntKind.i64 n8), (D.int IntKind.i64 n9), (D.int IntKind.i64 n10)]) then
          some (PRes.val [(D.int IntKind.i64 t_0), (D.int IntKind.i64 t_1), (D.int IntKind.i64 t_2), (D.bool true)])
        else
          some (PRes.val [(D.int IntKind.i64 0), (D.int IntKind.i64 0), (D.int IntKind.i64 0), (D.bool false)])
      else
        some (PRes.val [(D.int IntKind.i64 0), (D.int IntKind.i64 0), (D.int IntKind.i64 0), (D.bool false)])
  else
    bif (A.ieq op_ 2) then
      (E.call 101 [(V.d (D.int IntKind.i64 2))]).bind fun p11 =>
      (opI (A.cell p11.leaves 0) IntKind.i64).bind fun n13 =>
      (opI (A.cell p11.leaves 1) IntKind.i64).bind fun n14 =>
      (opI (A.cell p11.leaves 2) IntKind.i64).bind fun n15 =>
      bif (A.deq [(D.int IntKind.i64 t_0), (D.int IntKind.i64 t_1), (D.int IntKind.i64 t_2)] [(D.int IntKind.i64 n13), (D.int IntKind.i64 n14), (D.int IntKind.i64 n15)]) then
        some (PRes.val [(D.int IntKind.i64 t_0), (D.int IntKind.i64 t_1), (D.int IntKind.i64 t_2), (D.bool true)])
      else
        some (PRes.val [(D.int IntKind.i64 0), (D.int IntKind.i64 0), (D.int IntKind.i64 0), (D.bool false)])
    else
      some (PRes.val [(D.int IntKind.i64 0), (D.int IntKind.i64 0), (D.int IntKind.i64 0), (D.bool false)])
theorem g69_eq (A : Sy) (E : Env) (op_ : Int) (t_0 : Int) (t_1 : Int) (t_2 : Int) : (funT A Try.prog cs 69 [V.d (D.int IntKind.i64 op_), V.agg [V.d (D.int IntKind.i64 t_0), V.d (D.int IntKind.i64 t_1), V.d (D.int IntKind.i64 t_2)]]).run E = g69 A E op_ t_0 t_1 t_2 := by kernel_rfl
def g101 (A : Sy) (E : Env) (kind_ : Int) : Option PRes :=
  some (PRes.val [(D.int IntKind.i64 kind_), (D.int IntKind.i64 0), (D.int IntKind.i64 0)])
theorem g101_eq (A : Sy) (E : Env) (kind_ : Int) : (funT A Try.prog cs 101 [V.d (D.int IntKind.i64 kind_)]).run E = g101 A E kind_ := by kernel_rfl
def g72 (A : Sy) (E : Env) (t_0 : Int) (t_1 : Int) (t_2 : Int) : Option PRes :=
  bif (A.ilt t_0 3) then
    some (PRes.val [(D.int IntKind.i64 t_0)])
  else
    some (PRes.val [(D.int IntKind.i64 (A.wrap IntKind.i64 (A.add 3 t_1)))])
theorem g72_eq (A : Sy) (E : Env) (t_0 : Int) (t_1 : Int) (t_2 : Int) : (funT A Try.prog cs 72 [V.agg [V.d (D.int IntKind.i64 t_0), V.d (D.int IntKind.i64 t_1), V.d (D.int IntKind.i64 t_2)]]).run E = g72 A E t_0 t_1 t_2 := by kernel_rfl
def g73 (A : Sy) (E : Env) (op_ : Int) (t_0 : Int) (t_1 : Int) (t_2 : Int) (u_0 : Int) (u_1 : Int) (u_2 : Int) : Option PRes :=
  (E.call 101 [(V.d (D.int IntKind.i64 1))]).bind fun p1 =>
  (opI (A.cell p1.leaves 0) IntKind.i64).bind fun n3 =>
  (opI (A.cell p1.leaves 1) IntKind.i64).bind fun n4 =>
  (opI (A.cell p1.leaves 2) IntKind.i64).bind fun n5 =>
  bif (A.deq [(D.int IntKind.i64 t_0), (D.int IntKind.i64 t_1), (D.int IntKind.i64 t_2)] [(D.int IntKind.i64 n3), (D.int IntKind.i64 n4), (D.int IntKind.i64 n5)]) then
    (E.call 101 [(V.d (D.int IntKind.i64 1))]).bind fun p6 =>
    (opI (A.cell p6.leaves 0) IntKind.i64).bind fun n8 =>
    (opI (A.cell p6.leaves 1) IntKind.i64).bind fun n9 =>
    (opI (A.cell p6.leaves 2) IntKind.i64).bind fun n10 =>
    (E.call 101 [(V.d (D.int IntKind.i64 2))]).bind fun p11 =>
    (opI (A.cell p11.leaves 0) IntKind.i64).bind fun n13 =>
    (opI (A.cell p11.leaves 1) IntKind.i64).bind fun n14 =>
    (opI (A.cell p11.leaves 2) IntKind.i64).bind fun n15 =>
    bif (A.deq [(D.int IntKind.i64 t_0), (D.int IntKind.i64 t_1), (D.int IntKind.i64 t_2)] [(D.int IntKind.i64 n13), (D.int IntKind.i64 n14), (D.int IntKind.i64 n15)]) then
      (E.call 101 [(V.d (D.int IntKind.i64 2))]).bind fun p16 =>
      (opI (A.cell p16.leaves 0) IntKind.i64).bind fun n18 =>
      (opI (A.cell p16.leaves 1) IntKind.i64).bind fun n19 =>
      (opI (A.cell p16.leaves 2) IntKind.i64).bind fun n20 =>
      cutO (
        bif (A.ile 3 op_) then
          some (.inl [(D.bool (A.ile op_ 7))])
        else
          some (.inl [(D.bool false)])
      ) fun ds21 =>
      (opB (A.cell ds21 0)).bind fun b22 =>
      cutO (
        bif b22 then
          some (.inl [(D.bool (A.deq [(D.int IntKind.i64 u_0), (D.int IntKind.i64 u_1), (D.int IntKind.i64 u_2)] [(D.int IntKind.i64 n8), (D.int IntKind.i64 n9), (D.int IntKind.i64 n10)]))])
        else
          some (.inl [(D.bool false)])
      ) fun ds23 =>
      (opB (A.cell ds23 0)).bind fun b24 =>
      bif b24 then
        (E.call 101 [(V.d (D.int IntKind.i64 1))]).bind fun p25 =>
        (opI (A.cell p25.leaves 0) IntKind.i64).bind fun n27 =>
        (opI (A.cell p25.leaves 1) IntKind.i64).bind fun n28 =>
        (opI (A.cell p25.leaves 2) IntKind.i64).bind fun n29 =>
        some (PRes.val [(D.int IntKind.i64 n27), (D.int IntKind.i64 n28), (D.int IntKind.i64 n29), (D.bool true)])
      else
        cutO (
          bif (A.ile 8 op_) then
            some (.inl [(D.bool (A.ile op_ 10))])
          else
            some (.inl [(D.bool false)])
        ) fun ds30 =>
        (opB (A.cell ds30 0)).bind fun b31 =>
        cutO (
          bif b31 then
            some (.inl [(D.bool (A.deq [(D.int IntKind.i64 u_0), (D.int IntKind.i64 u_1), (D.int IntKind.i64 u_2)] [(D.int IntKind.i64 n18), (D.int IntKind.i64 n19), (D.int IntKind.i64 n20)]))])
          else
            some (.inl [(D.bool false)])
        ) fun ds32 =>
        (opB (A.cell ds32 0)).bind fun b33 =>
        cutO (
          bif b33 then
            some (.inl [(D.bool true)])
          else
            bif (A.ile 13 op_) then
              bif (A.ile op_ 16) then
                some (.inl [(D.bool (A.deq [(D.int IntKind.i64 u_0), (D.int IntKind.i64 u_1), (D.int IntKind.i64 u_2)] [(D.int IntKind.i64 n8), (D.int IntKind.i64 n9), (D.int IntKind.i64 n10)]))])
              else
                some (.inl [(D.bool false)])
            else
              some (.inl [(D.bool false)])
        ) fun ds34 =>
        (opB (A.cell ds34 0)).bind fun b35 =>
        cutO (
          bif b35 then
            some (.inl [(D.bool true)])
          else
            bif (A.ieq op_ 11) then
              bif (A.deq [(D.int IntKind.i64 t_0), (D.int IntKind.i64 t_1), (D.int IntKind.i64 t_2)] [(D.int IntKind.i64 u_0), (D.int IntKind.i64 u_1), (D.int IntKind.i64 u_2)]) then
                some (.inl [(D.bool (A.ieq t_2 0))])
              else
                some (.inl [(D.bool false)])
            else
              bif (A.ieq op_ 12) then
                bif (A.deq [(D.int IntKind.i64 t_0), (D.int IntKind.i64 t_1), (D.int IntKind.i64 t_2)] [(D.int IntKind.i64 u_0), (D.int IntKind.i64 u_1), (D.int IntKind.i64 u_2)]) then
                  some (.inl [(D.bool (A.ieq t_2 0))])
                else
                  some (.inl [(D.bool false)])
              else
                some (.inl [(D.bool false)])
        ) fun ds36 =>
        (opB (A.cell ds36 0)).bind fun b37 =>
        bif b37 then
          (E.call 101 [(V.d (D.int IntKind.i64 2))]).bind fun p38 =>
          (opI (A.cell p38.leaves 0) IntKind.i64).bind fun n40 =>
          (opI (A.cell p38.leaves 1) IntKind.i64).bind fun n41 =>
          (opI (A.cell p38.leaves 2) IntKind.i64).bind fun n42 =>
          some (PRes.val [(D.int IntKind.i64 n40), (D.int IntKind.i64 n41), (D.int IntKind.i64 n42), (D.bool true)])
        else
          some (PRes.val [(D.int IntKind.i64 0), (D.int IntKind.i64 0), (D.int IntKind.i64 0), (D.bool false)])
    else
      cutO (
        bif (A.ile 3 op_) then
          some (.inl [(D.bool (A.ile op_ 7))])
        else
          some (.inl [(D.bool false)])
      ) fun ds43 =>
      (opB (A.cell ds43 0)).bind fun b44 =>
      cutO (
        bif b44 then
          some (.inl [(D.bool (A.deq [(D.int IntKind.i64 u_0), (D.int IntKind.i64 u_1), (D.int IntKind.i64 u_2)] [(D.int IntKind.i64 n8), (D.int IntKind.i64 n9), (D.int IntKind.i64 n10)]))])
        else
          some (.inl [(D.bool false)])
      ) fun ds45 =>
      (opB (A.cell ds45 0)).bind fun b46 =>
      bif b46 then
        (E.call 101 [(V.d (D.int IntKind.i64 1))]).bind fun p47 =>
        (opI (A.cell p47.leaves 0) IntKind.i64).bind fun n49 =>
        (opI (A.cell p47.leaves 1) IntKind.i64).bind fun n50 =>
        (opI (A.cell p47.leaves 2) IntKind.i64).bind fun n51 =>
        some (PRes.val [(D.int IntKind.i64 n49), (D.int IntKind.i64 n50), (D.int IntKind.i64 n51), (D.bool true)])
      else
        cutO (
          bif (A.ile 8 op_) then
            some (.inl [(D.bool (A.ile op_ 10))])
          else
            some (.inl [(D.bool false)])
        ) fun ds52 =>
        (opB (A.cell ds52 0)).bind fun b53 =>
        cutO (
          bif b53 then
            some (.inl [(D.bool false)])
          else
            some (.inl [(D.bool false)])
        ) fun ds54 =>
        (opB (A.cell ds54 0)).bind fun b55 =>
        cutO (
          bif b55 then
            some (.inl [(D.bool true)])
          else
            bif (A.ile 13 op_) then
              bif (A.ile op_ 16) then
                some (.inl [(D.bool (A.deq [(D.int IntKind.i64 u_0), (D.int IntKind.i64 u_1), (D.int IntKind.i64 u_2)] [(D.int IntKind.i64 n8), (D.int IntKind.i64 n9), (D.int IntKind.i64 n10)]))])
              else
                some (.inl [(D.bool false)])
            else
              some (.inl [(D.bool false)])
        ) fun ds56 =>
        (opB (A.cell ds56 0)).bind fun b57 =>
        cutO (
          bif b57 then
            some (.inl [(D.bool true)])
          else
            bif (A.ieq op_ 11) then
              bif (A.deq [(D.int IntKind.i64 t_0), (D.int IntKind.i64 t_1), (D.int IntKind.i64 t_2)] [(D.int IntKind.i64 u_0), (D.int IntKind.i64 u_1), (D.int IntKind.i64 u_2)]) then
                some (.inl [(D.bool (A.ieq t_2 0))])
              else
                some (.inl [(D.bool false)])
            else
              bif (A.ieq op_ 12) then
                bif (A.deq [(D.int IntKind.i64 t_0), (D.int IntKind.i64 t_1), (D.int IntKind.i64 t_2)] [(D.int IntKind.i64 u_0), (D.int IntKind.i64 u_1), (D.int IntKind.i64 u_2)]) then
                  some (.inl [(D.bool (A.ieq t_2 0))])
                else
                  some (.inl [(D.bool false)])
              else
                some (.inl [(D.bool false)])
        ) fun ds58 =>
        (opB (A.cell ds58 0)).bind fun b59 =>
        bif b59 then
          (E.call 101 [(V.d (D.int IntKind.i64 2))]).bind fun p60 =>
          (opI (A.cell p60.leaves 0) IntKind.i64).bind fun n62 =>
          (opI (A.cell p60.leaves 1) IntKind.i64).bind fun n63 =>
          (opI (A.cell p60.leaves 2) IntKind.i64).bind fun n64 =>
          some (PRes.val [(D.int IntKind.i64 n62), (D.int IntKind.i64 n63), (D.int IntKind.i64 n64), (D.bool true)])
        else
          some (PRes.val [(D.int IntKind.i64 0), (D.int IntKind.i64 0), (D.int IntKind.i64 0), (D.bool false)])
  else
    (E.call 101 [(V.d (D.int IntKind.i64 2))]).bind fun p65 =>
    (opI (A.cell p65.leaves 0) IntKind.i64).bind fun n67 =>
    (opI (A.cell p65.leaves 1) IntKind.i64).bind fun n68 =>
    (opI (A.cell p65.leaves 2) IntKind.i64).bind fun n69 =>
    bif (A.deq [(D.int IntKind.i64 t_0), (D.int IntKind.i64 t_1), (D.int IntKind.i64 t_2)] [(D.int IntKind.i64 n67), (D.int IntKind.i64 n68), (D.int IntKind.i64 n69)]) then
      (E.call 101 [(V.d (D.int IntKind.i64 2))]).bind fun p70 =>
      (opI (A.cell p70.leaves 0) IntKind.i64).bind fun n72 =>
      (opI (A.cell p70.leaves 1) IntKind.i64).bind fun n73 =>
      (opI (A.cell p70.leaves 2) IntKind.i64).bind fun n74 =>
      cutO (
        bif (A.ile 3 op_) then
          some (.inl [(D.bool (A.ile op_ 7))])
        else
          some (.inl [(D.bool false)])
      ) fun ds75 =>
      (opB (A.cell ds75 0)).bind fun b76 =>
      cutO (
        bif b76 then
          some (.inl [(D.bool false)])
        else
          some (.inl [(D.bool false)])
      ) fun ds77 =>
      (opB (A.cell ds77 0)).bind fun b78 =>
      bif b78 then
        (E.call 101 [(V.d (D.int IntKind.i64 1))]).bind fun p79 =>
        (opI (A.cell p79.leaves 0) IntKind.i64).bind fun n81 =>
        (opI (A.cell p79.leaves 1) IntKind.i64).bind fun n82 =>
        (opI (A.cell p79.leaves 2) IntKind.i64).bind fun n83 =>
        some (PRes.val [(D.int IntKind.i64 n81), (D.int IntKind.i64 n82), (D.int IntKind.i64 n83), (D.bool true)])
      else
        cutO (
          bif (A.ile 8 op_) then
            some (.inl [(D.bool (A.ile op_ 10))])
          else
            some (.inl [(D.bool false)])
        ) fun ds84 =>
        (opB (A.cell ds84 0)).bind fun b85 =>
        cutO (
          bif b85 then
            some (.inl [(D.bool (A.deq [(D.int IntKind.i64 u_0), (D.int IntKind.i64 u_1), (D.int IntKind.i64 u_2)] [(D.int IntKind.i64 n72), (D.int IntKind.i64 n73), (D.int IntKind.i64 n74)]))])
          else
            some (.inl [(D.bool false)])
        ) fun ds86 =>
        (opB (A.cell ds86 0)).bind fun b87 =>
        cutO (
          bif b87 then
            some (.inl [(D.bool true)])
          else
            bif (A.ile 13 op_) then
              bif (A.ile op_ 16) then
                some (.inl [(D.bool false)])
              else
                some (.inl [(D.bool false)])
            else
              some (.inl [(D.bool false)])
        ) fun ds88 =>
        (opB (A.cell ds88 0)).bind fun b89 =>
        cutO (
          bif b89 then
            some (.inl [(D.bool true)])
          else
            bif (A.ieq op_ 11) then
              bif (A.deq [(D.int IntKind.i64 t_0), (D.int IntKind.i64 t_1), (D.int IntKind.i64 t_2)] [(D.int IntKind.i64 u_0), (D.int IntKind.i64 u_1), (D.int IntKind.i64 u_2)]) then
                some (.inl [(D.bool (A.ieq t_2 0))])
              else
                some (.inl [(D.bool false)])
            else
              bif (A.ieq op_ 12) then
                bif (A.deq [(D.int IntKind.i64 t_0), (D.int IntKind.i64 t_1), (D.int IntKind.i64 t_2)] [(D.int IntKind.i64 u_0), (D.int IntKind.i64 u_1), (D.int IntKind.i64 u_2)]) then
                  some (.inl [(D.bool (A.ieq t_2 0))])
                else
                  some (.inl [(D.bool false)])
              else
                some (.inl [(D.bool false)])
        ) fun ds90 =>
        (opB (A.cell ds90 0)).bind fun b91 =>
        bif b91 then
          (E.call 101 [(V.d (D.int IntKind.i64 2))]).bind fun p92 =>
          (opI (A.cell p92.leaves 0) IntKind.i64).bind fun n94 =>
          (opI (A.cell p92.leaves 1) IntKind.i64).bind fun n95 =>
          (opI (A.cell p92.leaves 2) IntKind.i64).bind fun n96 =>
          some (PRes.val [(D.int IntKind.i64 n94), (D.int IntKind.i64 n95), (D.int IntKind.i64 n96), (D.bool true)])
        else
          some (PRes.val [(D.int IntKind.i64 0), (D.int IntKind.i64 0), (D.int IntKind.i64 0), (D.bool false)])
    else
      cutO (
        bif (A.ile 3 op_) then
          some (.inl [(D.bool (A.ile op_ 7))])
        else
          some (.inl [(D.bool false)])
      ) fun ds97 =>
      (opB (A.cell ds97 0)).bind fun b98 =>
      cutO (
        bif b98 then
          some (.inl [(D.bool false)])
        else
          some (.inl [(D.bool false)])
      ) fun ds99 =>
      (opB (A.cell ds99 0)).bind fun b100 =>
      bif b100 then
        (E.call 101 [(V.d (D.int IntKind.i64 1))]).bind fun p101 =>
        (opI (A.cell p101.leaves 0) IntKind.i64).bind fun n103 =>
        (opI (A.cell p101.leaves 1) IntKind.i64).bind fun n104 =>
        (opI (A.cell p101.leaves 2) IntKind.i64).bind fun n105 =>
        some (PRes.val [(D.int IntKind.i64 n103), (D.int IntKind.i64 n104), (D.int IntKind.i64 n105), (D.bool true)])
      else
        cutO (
          bif (A.ile 8 op_) then
            some (.inl [(D.bool (A.ile op_ 10))])
          else
            some (.inl [(D.bool false)])
        ) fun ds106 =>
        (opB (A.cell ds106 0)).bind fun b107 =>
        cutO (
          bif b107 then
            some (.inl [(D.bool false)])
          else
            some (.inl [(D.bool false)])
        ) fun ds108 =>
        (opB (A.cell ds108 0)).bind fun b109 =>
        cutO (
          bif b109 then
            some (.inl [(D.bool true)])
          else
            bif (A.ile 13 op_) then
              bif (A.ile op_ 16) then
                some (.inl [(D.bool false)])
              else
                some (.inl [(D.bool false)])
            else
              some (.inl [(D.bool false)])
        ) fun ds110 =>
        (opB (A.cell ds110 0)).bind fun b111 =>
        cutO (
          bif b111 then
            some (.inl [(D.bool true)])
          else
            bif (A.ieq op_ 11) then
              bif (A.deq [(D.int IntKind.i64 t_0), (D.int IntKind.i64 t_1), (D.int IntKind.i64 t_2)] [(D.int IntKind.i64 u_0), (D.int IntKind.i64 u_1), (D.int IntKind.i64 u_2)]) then
                some (.inl [(D.bool (A.ieq t_2 0))])
              else
                some (.inl [(D.bool false)])
            else
              bif (A.ieq op_ 12) then
                bif (A.deq [(D.int IntKind.i64 t_0), (D.int IntKind.i64 t_1), (D.int IntKind.i64 t_2)] [(D.int IntKind.i64 u_0), (D.int IntKind.i64 u_1), (D.int IntKind.i64 u_2)]) then
                  some (.inl [(D.bool (A.ieq t_2 0))])
                else
                  some (.inl [(D.bool false)])
              else
                some (.inl [(D.bool false)])
        ) fun ds112 =>
        (opB (A.cell ds112 0)).bind fun b113 =>
        bif b113 then
          (E.call 101 [(V.d (D.int IntKind.i64 2))]).bind fun p114 =>
          (opI (A.cell p114.leaves 0) IntKind.i64).bind fun n116 =>
          (opI (A.cell p114.leaves 1) IntKind.i64).bind fun n117 =>
          (opI (A.cell p114.leaves 2) IntKind.i64).bind fun n118 =>
          some (PRes.val [(D.int IntKind.i64 n116), (D.int IntKind.i64 n117), (D.int IntKind.i64 n118), (D.bool true)])
        else
          some (PRes.val [(D.int IntKind.i64 0), (D.int IntKind.i64 0), (D.int IntKind.i64 0), (D.bool false)])
theorem g73_eq (A : Sy) (E : Env) (op_ : Int) (t_0 : Int) (t_1 : Int) (t_2 : Int) (u_0 : Int) (u_1 : Int) (u_2 : Int) : (funT A Try.prog cs 73 [V.d (D.int IntKind.i64 op_), V.agg [V.d (D.int IntKind.i64 t_0), V.d (D.int IntKind.i64 t_1), V.d (D.int IntKind.i64 t_2)], V.agg [V.d (D.int IntKind.i64 u_0), V.d (D.int IntKind.i64 u_1), V.d (D.int IntKind.i64 u_2)]]).run E = g73 A E op_ t_0 t_1 t_2 u_0 u_1 u_2 := by kernel_rfl
def g74 (A : Sy) (E : Env) (s_0 : List (List D)) (s_1 : List (List D)) (s_2 : Int) (s_3 : Int) (x_0 : Int) (x_1 : Int) (x_2 : Int) (x_3 : Int) (row_ : List (List D)) : Option PRes :=
  (E.call 102 [(V.agg [(V.d (D.sl 1 s_0)), (V.d (D.sl 1 s_1)), (V.d (D.int IntKind.i64 s_2)), (V.d (D.int IntKind.i64 s_3))]), (V.d (D.int IntKind.i64 x_1)), (V.d (D.int IntKind.i64 (A.imax 1 x_2)))]).bind fun p1 =>
  (opI (A.cell p1.leaves 0) IntKind.i64).bind fun n3 =>
  bif (A.ieq n3 0) then
    some (PRes.val [(D.sl 1 []), (D.bool false)])
  else
    bif (A.ieq x_0 2) then
      (E.call 68 [(V.d (D.sl 1 row_)), (V.d (D.int IntKind.i64 0)), (V.d (D.int IntKind.i64 n3))]).bind fun p4 =>
      (opL (A.cell p4.leaves 0) 1).bind fun l6 =>
      some (PRes.val [(D.sl 1 l6), (D.bool (A.ilt (A.rlen row_) 16))])
    else
      bif (A.ieq x_0 3) then
        (E.call 71 [(V.d (D.sl 1 row_)), (V.d (D.int IntKind.i64 0))]).bind fun p7 =>
        (opI (A.cell p7.leaves 0) IntKind.i64).bind fun n9 =>
        cutO (
          bif (A.bnot (A.ieq n9 n3)) then
            some (.inl [(D.bool true)])
          else
            (E.call 103 [(V.agg [(V.d (D.sl 1 s_0)), (V.d (D.sl 1 s_1)), (V.d (D.int IntKind.i64 s_2)), (V.d (D.int IntKind.i64 s_3))]), (V.d (D.int IntKind.i64 x_1)), (V.d (D.int IntKind.i64 (A.imax 1 x_2)))]).bind fun p10 =>
            (opB (A.cell p10.leaves 0)).bind fun b12 =>
            some (.inl [(D.bool (A.bnot b12))])
        ) fun ds13 =>
        (opB (A.cell ds13 0)).bind fun b14 =>
        bif b14 then
          some (PRes.val [(D.sl 1 []), (D.bool false)])
        else
          (E.call 68 [(V.d (D.sl 1 row_)), (V.d (D.int IntKind.i64 1)), (V.d (D.int IntKind.i64 0))]).bind fun p15 =>
          (opL (A.cell p15.leaves 0) 1).bind fun l17 =>
          some (PRes.val [(D.sl 1 l17), (D.bool true)])
      else
        bif (A.ieq x_0 8) then
          (E.call 71 [(V.d (D.sl 1 row_)), (V.d (D.int IntKind.i64 0))]).bind fun p18 =>
          (opI (A.cell p18.leaves 0) IntKind.i64).bind fun n20 =>
          bif (A.bnot (A.ieq n20 1)) then
            some (PRes.val [(D.sl 1 []), (D.bool false)])
          else
            (E.call 68 [(V.d (D.sl 1 row_)), (V.d (D.int IntKind.i64 1)), (V.d (D.int IntKind.i64 n3))]).bind fun p21 =>
            (opL (A.cell p21.leaves 0) 1).bind fun l23 =>
            some (PRes.val [(D.sl 1 l23), (D.bool true)])
        else
          (E.call 71 [(V.d (D.sl 1 row_)), (V.d (D.int IntKind.i64 0))]).bind fun p24 =>
          (opI (A.cell p24.leaves 0) IntKind.i64).bind fun n26 =>
          cutO (
            bif (A.bnot (A.ieq n26 1)) then
              some (.inl [(D.bool true)])
            else
              (E.call 71 [(V.d (D.sl 1 row_)), (V.d (D.int IntKind.i64 1))]).bind fun p27 =>
              (opI (A.cell p27.leaves 0) IntKind.i64).bind fun n29 =>
              some (.inl [(D.bool (A.bnot (A.ieq n29 n3)))])
          ) fun ds30 =>
          (opB (A.cell ds30 0)).bind fun b31 =>
          cutO (
            bif b31 then
              some (.inl [(D.bool true)])
            else
              (E.call 103 [(V.agg [(V.d (D.sl 1 s_0)), (V.d (D.sl 1 s_1)), (V.d (D.int IntKind.i64 s_2)), (V.d (D.int IntKind.i64 s_3))]), (V.d (D.int IntKind.i64 x_1)), (V.d (D.int IntKind.i64 (A.imax 1 x_2)))]).bind fun p32 =>
              (opB (A.cell p32.leaves 0)).bind fun b34 =>
              some (.inl [(D.bool (A.bnot b34))])
          ) fun ds35 =>
          (opB (A.cell ds35 0)).bind fun b36 =>
          bif b36 then
            some (PRes.val [(D.sl 1 []), (D.bool false)])
          else
            (E.call 68 [(V.d (D.sl 1 row_)), (V.d (D.int IntKind.i64 2)), (V.d (D.int IntKind.i64 0))]).bind fun p37 =>
            (opL (A.cell p37.leaves 0) 1).bind fun l39 =>
            some (PRes.val [(D.sl 1 l39), (D.bool true)])
theorem g74_eq (A : Sy) (E : Env) (s_0 : List (List D)) (s_1 : List (List D)) (s_2 : Int) (s_3 : Int) (x_0 : Int) (x_1 : Int) (x_2 : Int) (x_3 : Int) (row_ : List (List D)) : (funT A Try.prog cs 74 [V.agg [V.d (D.sl 1 s_0), V.d (D.sl 1 s_1), V.d (D.int IntKind.i64 s_2), V.d (D.int IntKind.i64 s_3)], V.agg [V.d (D.int IntKind.i64 x_0), V.d (D.int IntKind.i64 x_1), V.d (D.int IntKind.i64 x_2), V.d (D.int IntKind.i64 x_3)], V.d (D.sl 1 row_)]).run E = g74 A E s_0 s_1 s_2 s_3 x_0 x_1 x_2 x_3 row_ := by kernel_rfl
def g102 (A : Sy) (E : Env) (s_0 : List (List D)) (s_1 : List (List D)) (s_2 : Int) (s_3 : Int) (at_ : Int) (n_ : Int) : Option PRes :=
  bif (A.ilt (A.rlen s_1) (A.wrap IntKind.i64 (A.add at_ n_))) then
    some (PRes.val [(D.int IntKind.i64 0)])
  else
    E.lp (fun ds1 =>
      (opI (A.cell ds1 0) IntKind.i64).bind fun n2 =>
      (opI (A.cell ds1 1) IntKind.i64).bind fun n3 =>
      (opI (A.cell ds1 2) IntKind.i64).bind fun n4 =>
      (opL (A.cell ds1 3) 1).bind fun l5 =>
      (opL (A.cell ds1 4) 1).bind fun l6 =>
      (opI (A.cell ds1 5) IntKind.i64).bind fun n7 =>
      (opI (A.cell ds1 6) IntKind.i64).bind fun n8 =>
      bif (A.ilt n4 (A.wrap IntKind.i64 (A.add n2 n3))) then
        bif (A.inr n4 (A.rlen l6)) then
          (opI (A.cell (A.row l6 n4) 0) IntKind.i64).bind fun n9 =>
          bif (A.inr n2 (A.rlen l6)) then
            (opI (A.cell (A.row l6 n2) 0) IntKind.i64).bind fun n10 =>
            bif (A.bnot (A.ieq n9 n10)) then
              some (.inr (PRes.val [(D.int IntKind.i64 0)]))
            else
              some (.inl [(D.int IntKind.i64 n2), (D.int IntKind.i64 n3), (D.int IntKind.i64 (A.wrap IntKind.i64 (A.add n4 1))), (D.sl 1 l5), (D.sl 1 l6), (D.int IntKind.i64 n7), (D.int IntKind.i64 n8)])
          else
            none
        else
          none
      else
        bif (A.inr n2 (A.rlen l6)) then
          (opI (A.cell (A.row l6 n2) 0) IntKind.i64).bind fun n11 =>
          some (.inr (PRes.val [(D.int IntKind.i64 n11)]))
        else
          none
    ) [(D.int IntKind.i64 at_), (D.int IntKind.i64 n_), (D.int IntKind.i64 at_), (D.sl 1 s_0), (D.sl 1 s_1), (D.int IntKind.i64 s_2), (D.int IntKind.i64 s_3)]
theorem g102_eq (A : Sy) (E : Env) (s_0 : List (List D)) (s_1 : List (List D)) (s_2 : Int) (s_3 : Int) (at_ : Int) (n_ : Int) : (funT A Try.prog cs 102 [V.agg [V.d (D.sl 1 s_0), V.d (D.sl 1 s_1), V.d (D.int IntKind.i64 s_2), V.d (D.int IntKind.i64 s_3)], V.d (D.int IntKind.i64 at_), V.d (D.int IntKind.i64 n_)]).run E = g102 A E s_0 s_1 s_2 s_3 at_ n_ := by kernel_rfl
def g103 (A : Sy) (E : Env) (s_0 : List (List D)) (s_1 : List (List D)) (s_2 : Int) (s_3 : Int) (at_ : Int) (n_ : Int) : Option PRes :=
  E.lp (fun ds1 =>
    (opI (A.cell ds1 0) IntKind.i64).bind fun n2 =>
    (opI (A.cell ds1 1) IntKind.i64).bind fun n3 =>
    (opI (A.cell ds1 2) IntKind.i64).bind fun n4 =>
    (opL (A.cell ds1 3) 1).bind fun l5 =>
    (opL (A.cell ds1 4) 1).bind fun l6 =>
    (opI (A.cell ds1 5) IntKind.i64).bind fun n7 =>
    (opI (A.cell ds1 6) IntKind.i64).bind fun n8 =>
    bif (A.ilt n4 (A.wrap IntKind.i64 (A.add n2 n3))) then
      cutO (
        bif (A.ile n7 n4) then
          some (.inl [(D.bool (A.ilt n4 n8))])
        else
          some (.inl [(D.bool false)])
      ) fun ds9 =>
      (opB (A.cell ds9 0)).bind fun b10 =>
      bif b10 then
        some (.inr (PRes.val [(D.bool false)]))
      else
        some (.inl [(D.int IntKind.i64 n2), (D.int IntKind.i64 n3), (D.int IntKind.i64 (A.wrap IntKind.i64 (A.add n4 1))), (D.sl 1 l5), (D.sl 1 l6), (D.int IntKind.i64 n7), (D.int IntKind.i64 n8)])
    else
      some (.inr (PRes.val [(D.bool true)]))
  ) [(D.int IntKind.i64 at_), (D.int IntKind.i64 n_), (D.int IntKind.i64 at_), (D.sl 1 s_0), (D.sl 1 s_1), (D.int IntKind.i64 s_2), (D.int IntKind.i64 s_3)]
theorem g103_eq (A : Sy) (E : Env) (s_0 : List (List D)) (s_1 : List (List D)) (s_2 : Int) (s_3 : Int) (at_ : Int) (n_ : Int) : (funT A Try.prog cs 103 [V.agg [V.d (D.sl 1 s_0), V.d (D.sl 1 s_1), V.d (D.int IntKind.i64 s_2), V.d (D.int IntKind.i64 s_3)], V.d (D.int IntKind.i64 at_), V.d (D.int IntKind.i64 n_)]).run E = g103 A E s_0 s_1 s_2 s_3 at_ n_ := by kernel_rfl
def g37 (A : Sy) (E : Env) (a_ : List (List D)) (b_ : List (List D)) : Option PRes :=
  bif (A.bnot (A.ieq (A.rlen a_) (A.rlen b_))) then
    some (PRes.val [(D.bool false)])
  else
    E.lp (fun ds1 =>
      (opL (A.cell ds1 0) 1).bind fun l2 =>
      (opL (A.cell ds1 1) 1).bind fun l3 =>
      (opI (A.cell ds1 2) IntKind.i64).bind fun n4 =>
      bif (A.ilt n4 (A.rlen l2)) then
        bif (A.inr n4 (A.rlen l2)) then
          (opI (A.cell (A.row l2 n4) 0) IntKind.i64).bind fun n5 =>
          bif (A.inr n4 (A.rlen l3)) then
            (opI (A.cell (A.row l3 n4) 0) IntKind.i64).bind fun n6 =>
            bif (A.bnot (A.ieq n5 n6)) then
              some (.inr (PRes.val [(D.bool false)]))
            else
              some (.inl [(D.sl 1 l2), (D.sl 1 l3), (D.int IntKind.i64 (A.wrap IntKind.i64 (A.add n4 1)))])
          else
            none
        else
          none
      else
        some (.inr (PRes.val [(D.bool true)]))
    ) [(D.sl 1 a_), (D.sl 1 b_), (D.int IntKind.i64 0)]
theorem g37_eq (A : Sy) (E : Env) (a_ : List (List D)) (b_ : List (List D)) : (funT A Try.prog cs 37 [V.d (D.sl 1 a_), V.d (D.sl 1 b_)]).run E = g37 A E a_ b_ := by kernel_rfl
def g15 (A : Sy) (E : Env) (s_0 : List (List D)) (s_1 : List (List D)) (s_2 : Int) (s_3 : Int) : Option PRes :=
  cutO (
    bif (A.ilt 4 (A.rlen s_0)) then
      some (.inl [(D.bool true)])
    else
      some (.inl [(D.bool (A.ilt 1000 (A.rlen s_1)))])
  ) fun ds1 =>
  (opB (A.cell ds1 0)).bind fun b2 =>
  cutO (
    bif b2 then
      some (.inl [(D.bool true)])
    else
      some (.inl [(D.bool (A.ilt s_2 0))])
  ) fun ds3 =>
  (opB (A.cell ds3 0)).bind fun b4 =>
  cutO (
    bif b4 then
      some (.inl [(D.bool true)])
    else
      some (.inl [(D.bool (A.ilt (A.rlen s_1) s_3))])
  ) fun ds5 =>
  (opB (A.cell ds5 0)).bind fun b6 =>
  cutO (
    bif b6 then
      some (.inl [(D.bool true)])
    else
      some (.inl [(D.bool (A.ilt s_3 s_2))])
  ) fun ds7 =>
  (opB (A.cell ds7 0)).bind fun b8 =>
  bif b8 then
    some (PRes.val [(D.bool false)])
  else
    E.lp (fun ds9 =>
      (opI (A.cell ds9 0) IntKind.i64).bind fun n10 =>
      (opL (A.cell ds9 1) 1).bind fun l11 =>
      (opL (A.cell ds9 2) 1).bind fun l12 =>
      (opI (A.cell ds9 3) IntKind.i64).bind fun n13 =>
      (opI (A.cell ds9 4) IntKind.i64).bind fun n14 =>
      bif (A.ilt n10 (A.rlen l11)) then
        bif (A.inr n10 (A.rlen l11)) then
          (opI (A.cell (A.row l11 n10) 0) IntKind.i64).bind fun n15 =>
          bif (A.ilt n15 1) then
            some (.inr (PRes.val [(D.bool false)]))
          else
            some (.inl [(D.int IntKind.i64 (A.wrap IntKind.i64 (A.add n10 1))), (D.sl 1 l11), (D.sl 1 l12), (D.int IntKind.i64 n13), (D.int IntKind.i64 n14)])
        else
          none
      else
        E.lp (fun ds16 =>
          (opI (A.cell ds16 0) IntKind.i64).bind fun n17 =>
          (opL (A.cell ds16 1) 1).bind fun l18 =>
          (opL (A.cell ds16 2) 1).bind fun l19 =>
          (opI (A.cell ds16 3) IntKind.i64).bind fun n20 =>
          (opI (A.cell ds16 4) IntKind.i64).bind fun n21 =>
          bif (A.ilt n17 (A.rlen l19)) then
            bif (A.inr n17 (A.rlen l19)) then
              (opI (A.cell (A.row l19 n17) 0) IntKind.i64).bind fun n22 =>
              (E.call 42 [(V.agg [(V.d (D.sl 1 l18)), (V.d (D.sl 1 l19)), (V.d (D.int IntKind.i64 n20)), (V.d (D.int IntKind.i64 n21))]), (V.d (D.int IntKind.i64 n22))]).bind fun p23 =>
              (opB (A.cell p23.leaves 0)).bind fun b25 =>
              bif (A.bnot b25) then
                some (.inr (.inr (PRes.val [(D.bool false)])))
              else
                some (.inl [(D.int IntKind.i64 (A.wrap IntKind.i64 (A.add n17 1))), (D.sl 1 l18), (D.sl 1 l19), (D.int IntKind.i64 n20), (D.int IntKind.i64 n21)])
            else
              none
          else
            some (.inr (.inr (PRes.val [(D.bool true)])))
        ) [(D.int IntKind.i64 0), (D.sl 1 l11), (D.sl 1 l12), (D.int IntKind.i64 n13), (D.int IntKind.i64 n14)]
    ) [(D.int IntKind.i64 0), (D.sl 1 s_0), (D.sl 1 s_1), (D.int IntKind.i64 s_2), (D.int IntKind.i64 s_3)]
theorem g15_eq (A : Sy) (E : Env) (s_0 : List (List D)) (s_1 : List (List D)) (s_2 : Int) (s_3 : Int) : (funT A Try.prog cs 15 [V.agg [V.d (D.sl 1 s_0), V.d (D.sl 1 s_1), V.d (D.int IntKind.i64 s_2), V.d (D.int IntKind.i64 s_3)]]).run E = g15 A E s_0 s_1 s_2 s_3 := by kernel_rfl
def g42 (A : Sy) (E : Env) (s_0 : List (List D)) (s_1 : List (List D)) (s_2 : Int) (s_3 : Int) (k_ : Int) : Option PRes :=
  cutO (
    bif (A.ieq k_ 1) then
      some (.inl [(D.bool true)])
    else
      some (.inl [(D.bool (A.ieq k_ 2))])
  ) fun ds1 =>
  (opB (A.cell ds1 0)).bind fun b2 =>
  cutO (
    bif b2 then
      some (.inl [(D.bool true)])
    else
      bif (A.ile 3 k_) then
        some (.inl [(D.bool (A.ilt k_ (A.wrap IntKind.i64 (A.add 3 (A.rlen s_0)))))])
      else
        some (.inl [(D.bool false)])
  ) fun ds3 =>
  (opB (A.cell ds3 0)).bind fun b4 =>
  some (PRes.val [(D.bool b4)])
theorem g42_eq (A : Sy) (E : Env) (s_0 : List (List D)) (s_1 : List (List D)) (s_2 : Int) (s_3 : Int) (k_ : Int) : (funT A Try.prog cs 42 [V.agg [V.d (D.sl 1 s_0), V.d (D.sl 1 s_1), V.d (D.int IntKind.i64 s_2), V.d (D.int IntKind.i64 s_3)], V.d (D.int IntKind.i64 k_)]).run E = g42 A E s_0 s_1 s_2 s_3 k_ := by kernel_rfl
def g49 (A : Sy) (E : Env) (s_0 : List (List D)) (s_1 : List (List D)) (s_2 : Int) (s_3 : Int) (k_ : Int) (n_ : Int) : Option PRes :=
  bif (A.ieq k_ 2) then
    cutO (
      bif (A.ieq n_ 0) then
        some (.inl [(D.bool true)])
      else
        some (.inl [(D.bool (A.ieq n_ 1))])
    ) fun ds1 =>
    (opB (A.cell ds1 0)).bind fun b2 =>
    some (PRes.val [(D.bool b2)])
  else
    cutO (
      bif (A.ieq k_ 1) then
        some (.inl [(D.bool true)])
      else
        bif (A.ile 0 n_) then
          bif (A.inr (A.wrap IntKind.i64 (A.sub k_ 3)) (A.rlen s_0)) then
            (opI (A.cell (A.row s_0 (A.wrap IntKind.i64 (A.sub k_ 3))) 0) IntKind.i64).bind fun n3 =>
            some (.inl [(D.bool (A.ilt n_ n3))])
          else
            none
        else
          some (.inl [(D.bool false)])
    ) fun ds4 =>
    (opB (A.cell ds4 0)).bind fun b5 =>
    some (PRes.val [(D.bool b5)])
theorem g49_eq (A : Sy) (E : Env) (s_0 : List (List D)) (s_1 : List (List D)) (s_2 : Int) (s_3 : Int) (k_ : Int) (n_ : Int) : (funT A Try.prog cs 49 [V.agg [V.d (D.sl 1 s_0), V.d (D.sl 1 s_1), V.d (D.int IntKind.i64 s_2), V.d (D.int IntKind.i64 s_3)], V.d (D.int IntKind.i64 k_), V.d (D.int IntKind.i64 n_)]).run E = g49 A E s_0 s_1 s_2 s_3 k_ n_ := by kernel_rfl
end Go.Vm
end

section
set_option maxRecDepth 100000
set_option maxHeartbeats 2000000
namespace Go.Vm
open Go.Proofs
theorem c67 (n : Int) : cF 67 [.d (.int .i64 n)] = some (.val [.bool (withinB n 0 65535)]) := by
  refine cOf (by kernel_rfl) rfl ?_
  rw [g67_eq]
  simp only [g67, sy_wrap, sy_add, sy_sub, sy_mul, sy_ieq, sy_ilt, sy_ile, sy_seq, sy_beq, sy_bor, sy_bnot, sy_imax, sy_imin, sy_rlen, sy_slen, sy_sapp, sy_inr, sy_nat, sy_cell0, sy_cellS, sy_skip0, sy_inrn, sy_rapp, sy_fits, sy_cutok, sy_cut, sy_scut, sy_sbyte, sy_mkok, sy_mkok0, sy_mkz, sy_rep, sy_head, sy_deq, eqDs_int, eqDs_nil, opI_int, opB_bool, opS_str, opL_sl, opM_own, leaves_val, leaves_own, Option.bind_some, cutO_bool, bif_bool, cutO_inl, cutO_inr, eF_call, eF_lp, Nat.zero_add, Nat.reduceAdd, Bool.cond_false_right, Bool.cond_true_left, Bool.cond_false_left, Bool.cond_true_right, Bool.not_true, Bool.not_false, Bool.not_not, eq_self, decide_true, decide_false, cond_true, cond_false, Int.reduceEq, Int.reduceLT, Int.reduceLE, Int.reduceSub, Int.reduceAdd, Bool.true_and, Bool.and_true, Bool.false_and, Bool.and_false, Bool.or_false, Bool.false_or, Bool.true_or, Bool.or_true, true_and, and_true]
  rfl
theorem c101 (k : Int) : cF 101 [.d (.int .i64 k)] = some (.val [.int .i64 k, .int .i64 0, .int .i64 0]) := by
  refine cOf (by kernel_rfl) rfl ?_
  rw [g101_eq]
  simp only [g101, sy_wrap, sy_add, sy_sub, sy_mul, sy_ieq, sy_ilt, sy_ile, sy_seq, sy_beq, sy_bor, sy_bnot, sy_imax, sy_imin, sy_rlen, sy_slen, sy_sapp, sy_inr, sy_nat, sy_cell0, sy_cellS, sy_skip0, sy_inrn, sy_rapp, sy_fits, sy_cutok, sy_cut, sy_scut, sy_sbyte, sy_mkok, sy_mkok0, sy_mkz, sy_rep, sy_head, sy_deq, eqDs_int, eqDs_nil, opI_int, opB_bool, opS_str, opL_sl, opM_own, leaves_val, leaves_own, Option.bind_some, cutO_bool, bif_bool, cutO_inl, cutO_inr, eF_call, eF_lp, Nat.zero_add, Nat.reduceAdd, Bool.cond_false_right, Bool.cond_true_left, Bool.cond_false_left, Bool.cond_true_right, Bool.not_true, Bool.not_false, Bool.not_not, eq_self, decide_true, decide_false, cond_true, cond_false, Int.reduceEq, Int.reduceLT, Int.reduceLE, Int.reduceSub, Int.reduceAdd, Bool.true_and, Bool.and_true, Bool.false_and, Bool.and_false, Bool.or_false, Bool.false_or, Bool.true_or, Bool.or_true, true_and, and_true]
theorem c42 (la lb : List Int) (lo hi k : Int) (hl : la.length ≤ 100000) : cF 42 [shV (irows la) (irows lb) lo hi, .d (.int .i64 k)] = some (.val [.bool (kindB (il la) k)]) := by
  unfold shV
  refine cOf (by kernel_rfl) rfl ?_
  rw [g42_eq]
  simp only [g42, sy_wrap, sy_add, sy_sub, sy_mul, sy_ieq, sy_ilt, sy_ile, sy_seq, sy_beq, sy_bor, sy_bnot, sy_imax, sy_imin, sy_rlen, sy_slen, sy_sapp, sy_inr, sy_nat, sy_cell0, sy_cellS, sy_skip0, sy_inrn, sy_rapp, sy_fits, sy_cutok, sy_cut, sy_scut, sy_sbyte, sy_mkok, sy_mkok0, sy_mkz, sy_rep, sy_head, sy_deq, eqDs_int, eqDs_nil, opI_int, opB_bool, opS_str, opL_sl, opM_own, leaves_val, leaves_own, Option.bind_some, cutO_bool, bif_bool, cutO_inl, cutO_inr, eF_call, eF_lp, Nat.zero_add, Nat.reduceAdd, Bool.cond_false_right, Bool.cond_true_left, Bool.cond_false_left, Bool.cond_true_right, Bool.not_true, Bool.not_false, Bool.not_not, eq_self, decide_true, decide_false, cond_true, cond_false, Int.reduceEq, Int.reduceLT, Int.reduceLE, Int.reduceSub, Int.reduceAdd, Bool.true_and, Bool.and_true, Bool.false_and, Bool.and_false, Bool.or_false, Bool.false_or, Bool.true_or, Bool.or_true, true_and, and_true, irows_len]
  rw [wrap_id (by omega) (by omega)]
  unfold kindB il
  by_cases h1 : k = 1
  · subst h1; rfl
  · by_cases h2 : k = 2
    · subst h2; rfl
    · rw [decF h1, decF h2]
      simp [h1, h2]
theorem c49 (la lb : List Int) (lo hi k n : Int) (hl : la.length ≤ 100000) (hk : kindB (il la) k = true) : cF 49 [shV (irows la) (irows lb) lo hi, .d (.int .i64 k), .d (.int .i64 n)] = some (.val [.bool (valueB la k n)]) := by
  unfold shV
  unfold kindB il at hk
  simp only [Bool.or_eq_true, Bool.and_eq_true, decide_eq_true_eq, beq_iff_eq] at hk
  refine cOf (by kernel_rfl) rfl ?_
  rw [g49_eq]
  simp only [g49, sy_wrap, sy_add, sy_sub, sy_mul, sy_ieq, sy_ilt, sy_ile, sy_seq, sy_beq, sy_bor, sy_bnot, sy_imax, sy_imin, sy_rlen, sy_slen, sy_sapp, sy_inr, sy_nat, sy_cell0, sy_cellS, sy_skip0, sy_inrn, sy_rapp, sy_fits, sy_cutok, sy_cut, sy_scut, sy_sbyte, sy_mkok, sy_mkok0, sy_mkz, sy_rep, sy_head, sy_deq, eqDs_int, eqDs_nil, opI_int, opB_bool, opS_str, opL_sl, opM_own, leaves_val, leaves_own, Option.bind_some, cutO_bool, bif_bool, cutO_inl, cutO_inr, eF_call, eF_lp, Nat.zero_add, Nat.reduceAdd, Bool.cond_false_right, Bool.cond_true_left, Bool.cond_false_left, Bool.cond_true_right, Bool.not_true, Bool.not_false, Bool.not_not, eq_self, decide_true, decide_false, cond_true, cond_false, Int.reduceEq, Int.reduceLT, Int.reduceLE, Int.reduceSub, Int.reduceAdd, Bool.true_and, Bool.and_true, Bool.false_and, Bool.and_false, Bool.or_false, Bool.false_or, Bool.true_or, Bool.or_true, true_and, and_true, irows_len]
  unfold valueB
  by_cases h1 : k = 1
  · subst h1; rfl
  · by_cases h2 : k = 2
    · subst h2
      simp only [sy_wrap, sy_add, sy_sub, sy_mul, sy_ieq, sy_ilt, sy_ile, sy_seq, sy_beq, sy_bor, sy_bnot, sy_imax, sy_imin, sy_rlen, sy_slen, sy_sapp, sy_inr, sy_nat, sy_cell0, sy_cellS, sy_skip0, sy_inrn, sy_rapp, sy_fits, sy_cutok, sy_cut, sy_scut, sy_sbyte, sy_mkok, sy_mkok0, sy_mkz, sy_rep, sy_head, sy_deq, eqDs_int, eqDs_nil, opI_int, opB_bool, opS_str, opL_sl, opM_own, leaves_val, leaves_own, Option.bind_some, cutO_bool, bif_bool, cutO_inl, cutO_inr, eF_call, eF_lp, Nat.zero_add, Nat.reduceAdd, Bool.cond_false_right, Bool.cond_true_left, Bool.cond_false_left, Bool.cond_true_right, Bool.not_true, Bool.not_false, Bool.not_not, eq_self, decide_true, decide_false, cond_true, cond_false, Int.reduceEq, Int.reduceLT, Int.reduceLE, Int.reduceSub, Int.reduceAdd, Bool.true_and, Bool.and_true, Bool.false_and, Bool.and_false, Bool.or_false, Bool.false_or, Bool.true_or, Bool.or_true, true_and, and_true]
      have e : ∀ (p q : Int), (p == q) = decide (p = q) := fun p q => by rw [Bool.eq_iff_iff]; simp
      rw [e, e]; simp
    · rw [decF h1, decF h2, if_neg h1, if_neg h2]
      simp only [sy_wrap, sy_add, sy_sub, sy_mul, sy_ieq, sy_ilt, sy_ile, sy_seq, sy_beq, sy_bor, sy_bnot, sy_imax, sy_imin, sy_rlen, sy_slen, sy_sapp, sy_inr, sy_nat, sy_cell0, sy_cellS, sy_skip0, sy_inrn, sy_rapp, sy_fits, sy_cutok, sy_cut, sy_scut, sy_sbyte, sy_mkok, sy_mkok0, sy_mkz, sy_rep, sy_head, sy_deq, eqDs_int, eqDs_nil, opI_int, opB_bool, opS_str, opL_sl, opM_own, leaves_val, leaves_own, Option.bind_some, cutO_bool, bif_bool, cutO_inl, cutO_inr, eF_call, eF_lp, Nat.zero_add, Nat.reduceAdd, Bool.cond_false_right, Bool.cond_true_left, Bool.cond_false_left, Bool.cond_true_right, Bool.not_true, Bool.not_false, Bool.not_not, eq_self, decide_true, decide_false, cond_true, cond_false, Int.reduceEq, Int.reduceLT, Int.reduceLE, Int.reduceSub, Int.reduceAdd, Bool.true_and, Bool.and_true, Bool.false_and, Bool.and_false, Bool.or_false, Bool.false_or, Bool.true_or, Bool.or_true, true_and, and_true]
      have hk2 : 3 ≤ k ∧ k < 3 + (la.length : Int) := by omega
      by_cases h0 : 0 ≤ n
      · rw [decT h0]
        simp only [sy_wrap, sy_add, sy_sub, sy_mul, sy_ieq, sy_ilt, sy_ile, sy_seq, sy_beq, sy_bor, sy_bnot, sy_imax, sy_imin, sy_rlen, sy_slen, sy_sapp, sy_inr, sy_nat, sy_cell0, sy_cellS, sy_skip0, sy_inrn, sy_rapp, sy_fits, sy_cutok, sy_cut, sy_scut, sy_sbyte, sy_mkok, sy_mkok0, sy_mkz, sy_rep, sy_head, sy_deq, eqDs_int, eqDs_nil, opI_int, opB_bool, opS_str, opL_sl, opM_own, leaves_val, leaves_own, Option.bind_some, cutO_bool, bif_bool, cutO_inl, cutO_inr, eF_call, eF_lp, Nat.zero_add, Nat.reduceAdd, Bool.cond_false_right, Bool.cond_true_left, Bool.cond_false_left, Bool.cond_true_right, Bool.not_true, Bool.not_false, Bool.not_not, eq_self, decide_true, decide_false, cond_true, cond_false, Int.reduceEq, Int.reduceLT, Int.reduceLE, Int.reduceSub, Int.reduceAdd, Bool.true_and, Bool.and_true, Bool.false_and, Bool.and_false, Bool.or_false, Bool.false_or, Bool.true_or, Bool.or_true, true_and, and_true]
        rw [wrap_id (by omega) (by omega), decT (p := 0 ≤ k - 3 ∧ k - 3 < (la.length : Int)) (by omega), irows_cell (by omega) (by omega)]
        simp only [sy_wrap, sy_add, sy_sub, sy_mul, sy_ieq, sy_ilt, sy_ile, sy_seq, sy_beq, sy_bor, sy_bnot, sy_imax, sy_imin, sy_rlen, sy_slen, sy_sapp, sy_inr, sy_nat, sy_cell0, sy_cellS, sy_skip0, sy_inrn, sy_rapp, sy_fits, sy_cutok, sy_cut, sy_scut, sy_sbyte, sy_mkok, sy_mkok0, sy_mkz, sy_rep, sy_head, sy_deq, eqDs_int, eqDs_nil, opI_int, opB_bool, opS_str, opL_sl, opM_own, leaves_val, leaves_own, Option.bind_some, cutO_bool, bif_bool, cutO_inl, cutO_inr, eF_call, eF_lp, Nat.zero_add, Nat.reduceAdd, Bool.cond_false_right, Bool.cond_true_left, Bool.cond_false_left, Bool.cond_true_right, Bool.not_true, Bool.not_false, Bool.not_not, eq_self, decide_true, decide_false, cond_true, cond_false, Int.reduceEq, Int.reduceLT, Int.reduceLE, Int.reduceSub, Int.reduceAdd, Bool.true_and, Bool.and_true, Bool.false_and, Bool.and_false, Bool.or_false, Bool.false_or, Bool.true_or, Bool.or_true, true_and, and_true]
      · rw [decF h0]
        simp only [sy_wrap, sy_add, sy_sub, sy_mul, sy_ieq, sy_ilt, sy_ile, sy_seq, sy_beq, sy_bor, sy_bnot, sy_imax, sy_imin, sy_rlen, sy_slen, sy_sapp, sy_inr, sy_nat, sy_cell0, sy_cellS, sy_skip0, sy_inrn, sy_rapp, sy_fits, sy_cutok, sy_cut, sy_scut, sy_sbyte, sy_mkok, sy_mkok0, sy_mkz, sy_rep, sy_head, sy_deq, eqDs_int, eqDs_nil, opI_int, opB_bool, opS_str, opL_sl, opM_own, leaves_val, leaves_own, Option.bind_some, cutO_bool, bif_bool, cutO_inl, cutO_inr, eF_call, eF_lp, Nat.zero_add, Nat.reduceAdd, Bool.cond_false_right, Bool.cond_true_left, Bool.cond_false_left, Bool.cond_true_right, Bool.not_true, Bool.not_false, Bool.not_not, eq_self, decide_true, decide_false, cond_true, cond_false, Int.reduceEq, Int.reduceLT, Int.reduceLE, Int.reduceSub, Int.reduceAdd, Bool.true_and, Bool.and_true, Bool.false_and, Bool.and_false, Bool.or_false, Bool.false_or, Bool.true_or, Bool.or_true, true_and, and_true]
theorem c35 (x : Ins) : cF 35 [insV x] = some (.val [.bool (rightB x)]) := by
  obtain ⟨op, a, b, n⟩ := x
  unfold insV
  refine cOf (by kernel_rfl) rfl ?_
  rw [g35_eq]
  simp only [g35, sy_wrap, sy_add, sy_sub, sy_mul, sy_ieq, sy_ilt, sy_ile, sy_seq, sy_beq, sy_bor, sy_bnot, sy_imax, sy_imin, sy_rlen, sy_slen, sy_sapp, sy_inr, sy_nat, sy_cell0, sy_cellS, sy_skip0, sy_inrn, sy_rapp, sy_fits, sy_cutok, sy_cut, sy_scut, sy_sbyte, sy_mkok, sy_mkok0, sy_mkz, sy_rep, sy_head, sy_deq, eqDs_int, eqDs_nil, opI_int, opB_bool, opS_str, opL_sl, opM_own, leaves_val, leaves_own, Option.bind_some, cutO_bool, bif_bool, cutO_inl, cutO_inr, eF_call, eF_lp, Nat.zero_add, Nat.reduceAdd, Bool.cond_false_right, Bool.cond_true_left, Bool.cond_false_left, Bool.cond_true_right, Bool.not_true, Bool.not_false, Bool.not_not, eq_self, decide_true, decide_false, cond_true, cond_false, Int.reduceEq, Int.reduceLT, Int.reduceLE, Int.reduceSub, Int.reduceAdd, Bool.true_and, Bool.and_true, Bool.false_and, Bool.and_false, Bool.or_false, Bool.false_or, Bool.true_or, Bool.or_true, true_and, and_true, c67]
  unfold rightB
  simp only
  have e : ∀ (p q : Int), (p == q) = decide (p = q) := fun p q => by rw [Bool.eq_iff_iff]; simp
  simp only [e]
  by_cases hop : 1 ≤ op ∧ op ≤ 10
  · have : op = 1 ∨ op = 2 ∨ op = 3 ∨ op = 4 ∨ op = 5 ∨ op = 6 ∨ op = 7 ∨ op = 8 ∨ op = 9 ∨ op = 10 := by omega
    rcases this with rfl | rfl | rfl | rfl | rfl | rfl | rfl | rfl | rfl | rfl <;>
      simp only [sy_wrap, sy_add, sy_sub, sy_mul, sy_ieq, sy_ilt, sy_ile, sy_seq, sy_beq, sy_bor, sy_bnot, sy_imax, sy_imin, sy_rlen, sy_slen, sy_sapp, sy_inr, sy_nat, sy_cell0, sy_cellS, sy_skip0, sy_inrn, sy_rapp, sy_fits, sy_cutok, sy_cut, sy_scut, sy_sbyte, sy_mkok, sy_mkok0, sy_mkz, sy_rep, sy_head, sy_deq, eqDs_int, eqDs_nil, opI_int, opB_bool, opS_str, opL_sl, opM_own, leaves_val, leaves_own, Option.bind_some, cutO_bool, bif_bool, cutO_inl, cutO_inr, eF_call, eF_lp, Nat.zero_add, Nat.reduceAdd, Bool.cond_false_right, Bool.cond_true_left, Bool.cond_false_left, Bool.cond_true_right, Bool.not_true, Bool.not_false, Bool.not_not, eq_self, decide_true, decide_false, cond_true, cond_false, Int.reduceEq, Int.reduceLT, Int.reduceLE, Int.reduceSub, Int.reduceAdd, Bool.true_and, Bool.and_true, Bool.false_and, Bool.and_false, Bool.or_false, Bool.false_or, Bool.true_or, Bool.or_true, true_and, and_true] <;> (try simp) <;> (by_cases hn : n = 0 <;> by_cases hb : b = 0 <;> simp [hn, hb, withinB, Bool.and_assoc])
  · rw [if_neg (by omega), if_neg (by omega), if_neg (by omega), if_neg (by omega), if_neg (by omega), if_neg (by omega), Bool.and_false]
    rw [decF (p := op = 1) (by omega), decF (p := op = 2) (by omega), decF (p := op = 3) (by omega), decF (p := op = 6) (by omega), decF (p := op = 7) (by omega), decF (p := op = 4) (by omega), decF (p := op = 5) (by omega), decF (p := op = 8) (by omega), decF (p := op = 9) (by omega), decF (p := op = 10) (by omega)]
    simp only [sy_wrap, sy_add, sy_sub, sy_mul, sy_ieq, sy_ilt, sy_ile, sy_seq, sy_beq, sy_bor, sy_bnot, sy_imax, sy_imin, sy_rlen, sy_slen, sy_sapp, sy_inr, sy_nat, sy_cell0, sy_cellS, sy_skip0, sy_inrn, sy_rapp, sy_fits, sy_cutok, sy_cut, sy_scut, sy_sbyte, sy_mkok, sy_mkok0, sy_mkz, sy_rep, sy_head, sy_deq, eqDs_int, eqDs_nil, opI_int, opB_bool, opS_str, opL_sl, opM_own, leaves_val, leaves_own, Option.bind_some, cutO_bool, bif_bool, cutO_inl, cutO_inr, eF_call, eF_lp, Nat.zero_add, Nat.reduceAdd, Bool.cond_false_right, Bool.cond_true_left, Bool.cond_false_left, Bool.cond_true_right, Bool.not_true, Bool.not_false, Bool.not_not, eq_self, decide_true, decide_false, cond_true, cond_false, Int.reduceEq, Int.reduceLT, Int.reduceLE, Int.reduceSub, Int.reduceAdd, Bool.true_and, Bool.and_true, Bool.false_and, Bool.and_false, Bool.or_false, Bool.false_or, Bool.true_or, Bool.or_true, true_and, and_true]
    cases (!decide (n = 0) || !decide (b = 0)) <;> rfl
/-- A loop that looks at all of a list and may end early. -/
theorem all_loop {τ α : Type} {b : List D → Option (List D ⊕ α)} {r0 r1 : α} (p : τ → Bool) (l : List τ) (mk : Nat → List D)
    (hb : ∀ i x, l[i]? = some x → b (mk i) = bif p x then some (.inl (mk (i + 1))) else some (.inr r0))
    (hend : l.all p = true → b (mk l.length) = some (.inr r1)) : loopF b (mk 0) = some (bif l.all p then r1 else r0) := by
  suffices ∀ (rest : List τ) (i : Nat), l.drop i = rest → i ≤ l.length → (l.take i).all p = true → loopF b (mk i) = some (bif rest.all p then r1 else r0) from this l 0 rfl (Nat.zero_le _) rfl
  intro rest
  induction rest with
  | nil =>
    intro i hd hi ht
    have : i = l.length := by have := congrArg List.length hd; simp at this; omega
    subst this
    rw [List.take_length] at ht
    rw [loopF_eq, hend ht]
    rfl
  | cons x xs ih =>
    intro i hd hi ht
    have hx : l[i]? = some x := by
      have := congrArg (fun r => r[0]?) hd
      simpa using this
    have hlt : i < l.length := (List.getElem?_eq_some_iff.1 hx).1
    have hxs : l.drop (i + 1) = xs := by
      have := congrArg List.tail hd
      simpa using this
    rw [loopF_eq, hb i x hx]
    cases hp : p x with
    | false => simp [List.all_cons, hp]
    | true =>
      simp only [cond_true, List.all_cons, hp, Bool.true_and]
      refine ih (i + 1) hxs hlt ?_
      rw [List.take_add_one, hx, List.all_append, ht]
      simp [hp]
theorem all_loop' {τ α : Type} {b : List D → Option (List D ⊕ α)} {r0 r1 r : α} (p : τ → Bool) (l : List τ) (mk : Nat → List D)
    (hb : ∀ i x, l[i]? = some x → b (mk i) = bif p x then some (.inl (mk (i + 1))) else some (.inr r0))
    (hend : l.all p = true → b (mk l.length) = some (.inr r1)) (hr : (bif l.all p then r1 else r0) = r) : loopF b (mk 0) = some r := by
  rw [all_loop p l mk hb hend, hr]
theorem c15 (la lb : List Int) (lo hi : Int) (hla : la.length ≤ 1000) (hlb : lb.length ≤ 10000) : cF 15 [shV (irows la) (irows lb) lo hi] = some (.val [.bool (shapeB la lb lo hi)]) := by
  have h42 := fun k => c42 la lb lo hi k (by omega)
  unfold shapeB il
  by_cases hc : (la.length : Int) ≤ 4 ∧ (lb.length : Int) ≤ 1000 ∧ 0 ≤ lo ∧ lo ≤ hi ∧ hi ≤ (lb.length : Int)
  · obtain ⟨h1, h2, h3, h4, h5⟩ := hc
    rw [decT h1, decT h2, decT h3, decT h4, decT h5]
    unfold shV at *
    refine cOf (by kernel_rfl) rfl ?_
    rw [g15_eq]
    simp only [g15, sy_wrap, sy_add, sy_sub, sy_mul, sy_ieq, sy_ilt, sy_ile, sy_seq, sy_beq, sy_bor, sy_bnot, sy_imax, sy_imin, sy_rlen, sy_slen, sy_sapp, sy_inr, sy_nat, sy_cell0, sy_cellS, sy_skip0, sy_inrn, sy_rapp, sy_fits, sy_cutok, sy_cut, sy_scut, sy_sbyte, sy_mkok, sy_mkok0, sy_mkz, sy_rep, sy_head, sy_deq, eqDs_int, eqDs_nil, opI_int, opB_bool, opS_str, opL_sl, opM_own, leaves_val, leaves_own, Option.bind_some, cutO_bool, bif_bool, cutO_inl, cutO_inr, eF_call, eF_lp, Nat.zero_add, Nat.reduceAdd, Bool.cond_false_right, Bool.cond_true_left, Bool.cond_false_left, Bool.cond_true_right, Bool.not_true, Bool.not_false, Bool.not_not, eq_self, decide_true, decide_false, cond_true, cond_false, Int.reduceEq, Int.reduceLT, Int.reduceLE, Int.reduceSub, Int.reduceAdd, Bool.true_and, Bool.and_true, Bool.false_and, Bool.and_false, Bool.or_false, Bool.false_or, Bool.true_or, Bool.or_true, true_and, and_true, irows_len]
    simp (disch := omega) only [wrap_id, decT, decF, sy_wrap, sy_add, sy_sub, sy_mul, sy_ieq, sy_ilt, sy_ile, sy_seq, sy_beq, sy_bor, sy_bnot, sy_imax, sy_imin, sy_rlen, sy_slen, sy_sapp, sy_inr, sy_nat, sy_cell0, sy_cellS, sy_skip0, sy_inrn, sy_rapp, sy_fits, sy_cutok, sy_cut, sy_scut, sy_sbyte, sy_mkok, sy_mkok0, sy_mkz, sy_rep, sy_head, sy_deq, eqDs_int, eqDs_nil, opI_int, opB_bool, opS_str, opL_sl, opM_own, leaves_val, leaves_own, Option.bind_some, cutO_bool, bif_bool, cutO_inl, cutO_inr, eF_call, eF_lp, Nat.zero_add, Nat.reduceAdd, Bool.cond_false_right, Bool.cond_true_left, Bool.cond_false_left, Bool.cond_true_right, Bool.not_true, Bool.not_false, Bool.not_not, eq_self, decide_true, decide_false, cond_true, cond_false, Int.reduceEq, Int.reduceLT, Int.reduceLE, Int.reduceSub, Int.reduceAdd, Bool.true_and, Bool.and_true, Bool.false_and, Bool.and_false, Bool.or_false, Bool.false_or, Bool.true_or, Bool.or_true, true_and, and_true]
    refine all_loop' (r0 := PRes.val [.bool false]) (r1 := PRes.val [.bool (lb.all (kindB (il la)))]) (fun n => decide (1 ≤ n)) la (fun i => [.int .i64 (i : Int), .sl 1 (irows la), .sl 1 (irows lb), .int .i64 lo, .int .i64 hi]) (fun i x hx => ?_) (fun hall => ?_) ?_
    · have hlt := (List.getElem?_eq_some_iff.1 hx).1
      simp only [sy_wrap, sy_add, sy_sub, sy_mul, sy_ieq, sy_ilt, sy_ile, sy_seq, sy_beq, sy_bor, sy_bnot, sy_imax, sy_imin, sy_rlen, sy_slen, sy_sapp, sy_inr, sy_nat, sy_cell0, sy_cellS, sy_skip0, sy_inrn, sy_rapp, sy_fits, sy_cutok, sy_cut, sy_scut, sy_sbyte, sy_mkok, sy_mkok0, sy_mkz, sy_rep, sy_head, sy_deq, eqDs_int, eqDs_nil, opI_int, opB_bool, opS_str, opL_sl, opM_own, leaves_val, leaves_own, Option.bind_some, cutO_bool, bif_bool, cutO_inl, cutO_inr, eF_call, eF_lp, Nat.zero_add, Nat.reduceAdd, Bool.cond_false_right, Bool.cond_true_left, Bool.cond_false_left, Bool.cond_true_right, Bool.not_true, Bool.not_false, Bool.not_not, eq_self, decide_true, decide_false, cond_true, cond_false, Int.reduceEq, Int.reduceLT, Int.reduceLE, Int.reduceSub, Int.reduceAdd, Bool.true_and, Bool.and_true, Bool.false_and, Bool.and_false, Bool.or_false, Bool.false_or, Bool.true_or, Bool.or_true, true_and, and_true, irows_len, ilt_at hlt, inr_at hlt, irows_at hx, wrap_succ hlt (by omega)]
      by_cases h : 1 ≤ x
      · rw [decT h, decF (by omega)]; rfl
      · rw [decF h, decT (by omega)]; rfl
    · simp only [sy_wrap, sy_add, sy_sub, sy_mul, sy_ieq, sy_ilt, sy_ile, sy_seq, sy_beq, sy_bor, sy_bnot, sy_imax, sy_imin, sy_rlen, sy_slen, sy_sapp, sy_inr, sy_nat, sy_cell0, sy_cellS, sy_skip0, sy_inrn, sy_rapp, sy_fits, sy_cutok, sy_cut, sy_scut, sy_sbyte, sy_mkok, sy_mkok0, sy_mkz, sy_rep, sy_head, sy_deq, eqDs_int, eqDs_nil, opI_int, opB_bool, opS_str, opL_sl, opM_own, leaves_val, leaves_own, Option.bind_some, cutO_bool, bif_bool, cutO_inl, cutO_inr, eF_call, eF_lp, Nat.zero_add, Nat.reduceAdd, Bool.cond_false_right, Bool.cond_true_left, Bool.cond_false_left, Bool.cond_true_right, Bool.not_true, Bool.not_false, Bool.not_not, eq_self, decide_true, decide_false, cond_true, cond_false, Int.reduceEq, Int.reduceLT, Int.reduceLE, Int.reduceSub, Int.reduceAdd, Bool.true_and, Bool.and_true, Bool.false_and, Bool.and_false, Bool.or_false, Bool.false_or, Bool.true_or, Bool.or_true, true_and, and_true, ilt_self, irows_len]
      refine all_loop' (α := List D ⊕ PRes) (r0 := .inr (PRes.val [.bool false])) (r1 := .inr (PRes.val [.bool true])) (kindB (il la)) lb (fun i => [.int .i64 (i : Int), .sl 1 (irows la), .sl 1 (irows lb), .int .i64 lo, .int .i64 hi]) (fun i x hx => ?_) (fun _ => ?_) ?_
      · have hlt := (List.getElem?_eq_some_iff.1 hx).1
        simp only [sy_wrap, sy_add, sy_sub, sy_mul, sy_ieq, sy_ilt, sy_ile, sy_seq, sy_beq, sy_bor, sy_bnot, sy_imax, sy_imin, sy_rlen, sy_slen, sy_sapp, sy_inr, sy_nat, sy_cell0, sy_cellS, sy_skip0, sy_inrn, sy_rapp, sy_fits, sy_cutok, sy_cut, sy_scut, sy_sbyte, sy_mkok, sy_mkok0, sy_mkz, sy_rep, sy_head, sy_deq, eqDs_int, eqDs_nil, opI_int, opB_bool, opS_str, opL_sl, opM_own, leaves_val, leaves_own, Option.bind_some, cutO_bool, bif_bool, cutO_inl, cutO_inr, eF_call, eF_lp, Nat.zero_add, Nat.reduceAdd, Bool.cond_false_right, Bool.cond_true_left, Bool.cond_false_left, Bool.cond_true_right, Bool.not_true, Bool.not_false, Bool.not_not, eq_self, decide_true, decide_false, cond_true, cond_false, Int.reduceEq, Int.reduceLT, Int.reduceLE, Int.reduceSub, Int.reduceAdd, Bool.true_and, Bool.and_true, Bool.false_and, Bool.and_false, Bool.or_false, Bool.false_or, Bool.true_or, Bool.or_true, true_and, and_true, irows_len, ilt_at hlt, inr_at hlt, irows_at hx, wrap_succ hlt (by omega), h42]
        cases kindB (il la) x <;> rfl
      · simp only [sy_wrap, sy_add, sy_sub, sy_mul, sy_ieq, sy_ilt, sy_ile, sy_seq, sy_beq, sy_bor, sy_bnot, sy_imax, sy_imin, sy_rlen, sy_slen, sy_sapp, sy_inr, sy_nat, sy_cell0, sy_cellS, sy_skip0, sy_inrn, sy_rapp, sy_fits, sy_cutok, sy_cut, sy_scut, sy_sbyte, sy_mkok, sy_mkok0, sy_mkz, sy_rep, sy_head, sy_deq, eqDs_int, eqDs_nil, opI_int, opB_bool, opS_str, opL_sl, opM_own, leaves_val, leaves_own, Option.bind_some, cutO_bool, bif_bool, cutO_inl, cutO_inr, eF_call, eF_lp, Nat.zero_add, Nat.reduceAdd, Bool.cond_false_right, Bool.cond_true_left, Bool.cond_false_left, Bool.cond_true_right, Bool.not_true, Bool.not_false, Bool.not_not, eq_self, decide_true, decide_false, cond_true, cond_false, Int.reduceEq, Int.reduceLT, Int.reduceLE, Int.reduceSub, Int.reduceAdd, Bool.true_and, Bool.and_true, Bool.false_and, Bool.and_false, Bool.or_false, Bool.false_or, Bool.true_or, Bool.or_true, true_and, and_true, ilt_self, irows_len]
      · cases lb.all (kindB (il la)) <;> rfl
    · show (bif (la.all fun n => decide (1 ≤ n)) then _ else _) = PRes.val [.bool ((la.all fun n => decide (1 ≤ n)) && lb.all (kindB (il la)))]
      cases (la.all fun n => decide (1 ≤ n)) <;> rfl
  · have hz : (decide ((la.length : Int) ≤ 4) && decide ((lb.length : Int) ≤ 1000) && decide (0 ≤ lo) && decide (lo ≤ hi) && decide (hi ≤ (lb.length : Int))) = false := by
      rw [Bool.eq_false_iff]; intro h; simp only [Bool.and_eq_true, decide_eq_true_eq] at h; omega
    rw [hz]
    unfold shV at *
    refine cOf (by kernel_rfl) rfl ?_
    rw [g15_eq]
    simp only [g15, sy_wrap, sy_add, sy_sub, sy_mul, sy_ieq, sy_ilt, sy_ile, sy_seq, sy_beq, sy_bor, sy_bnot, sy_imax, sy_imin, sy_rlen, sy_slen, sy_sapp, sy_inr, sy_nat, sy_cell0, sy_cellS, sy_skip0, sy_inrn, sy_rapp, sy_fits, sy_cutok, sy_cut, sy_scut, sy_sbyte, sy_mkok, sy_mkok0, sy_mkz, sy_rep, sy_head, sy_deq, eqDs_int, eqDs_nil, opI_int, opB_bool, opS_str, opL_sl, opM_own, leaves_val, leaves_own, Option.bind_some, cutO_bool, bif_bool, cutO_inl, cutO_inr, eF_call, eF_lp, Nat.zero_add, Nat.reduceAdd, Bool.cond_false_right, Bool.cond_true_left, Bool.cond_false_left, Bool.cond_true_right, Bool.not_true, Bool.not_false, Bool.not_not, eq_self, decide_true, decide_false, cond_true, cond_false, Int.reduceEq, Int.reduceLT, Int.reduceLE, Int.reduceSub, Int.reduceAdd, Bool.true_and, Bool.and_true, Bool.false_and, Bool.and_false, Bool.or_false, Bool.false_or, Bool.true_or, Bool.or_true, true_and, and_true, irows_len]
    have hq : (decide (4 < (la.length : Int)) || decide (1000 < (lb.length : Int)) || decide (lo < 0) || decide ((lb.length : Int) < hi) || decide (hi < lo)) = true := by
      simp only [Bool.or_eq_true, decide_eq_true_eq]; omega
    rw [hq]
    rfl
end Go.Vm
end

section
set_option maxRecDepth 100000
set_option maxHeartbeats 2000000
namespace Go.Vm
open Go.Proofs
theorem c70 (k : Int) (h : -1000 ≤ k) (h1 : k ≤ 1000000) : cF 70 [.d (.int .i64 k)] = some (.val [.int .i64 (tyOf k).k, .int .i64 (tyOf k).e, .int .i64 (tyOf k).l]) := by
  refine cOf (by kernel_rfl) rfl ?_
  rw [g70_eq]
  simp only [g70, sy_wrap, sy_add, sy_sub, sy_mul, sy_ieq, sy_ilt, sy_ile, sy_seq, sy_beq, sy_bor, sy_bnot, sy_imax, sy_imin, sy_rlen, sy_slen, sy_sapp, sy_inr, sy_nat, sy_cell0, sy_cellS, sy_skip0, sy_inrn, sy_rapp, sy_fits, sy_cutok, sy_cut, sy_scut, sy_sbyte, sy_mkok, sy_mkok0, sy_mkz, sy_rep, sy_head, sy_deq, eqDs_int, eqDs_nil, opI_int, opB_bool, opS_str, opL_sl, opM_own, leaves_val, leaves_own, Option.bind_some, cutO_bool, bif_bool, cutO_inl, cutO_inr, eF_call, eF_lp, Nat.zero_add, Nat.reduceAdd, Bool.cond_false_right, Bool.cond_true_left, Bool.cond_false_left, Bool.cond_true_right, Bool.not_true, Bool.not_false, Bool.not_not, eq_self, decide_true, decide_false, cond_true, cond_false, Int.reduceEq, Int.reduceLT, Int.reduceLE, Int.reduceSub, Int.reduceAdd, Bool.true_and, Bool.and_true, Bool.false_and, Bool.and_false, Bool.or_false, Bool.false_or, Bool.true_or, Bool.or_true, true_and, and_true]
  rw [wrap_id (by omega) (by omega)]
  unfold tyOf
  by_cases h : k < 3
  · rw [decT h, if_pos h]; rfl
  · rw [decF h, if_neg h]; rfl
def topB (row : List Int) (j : Nat) : Int := if row.length ≤ j then 0 else topN row j
theorem c71 (row : List Int) (j : Nat) (hr : row.length ≤ 1000) (hj : j ≤ 10) : cF 71 [.d (.sl 1 (irows row)), .d (.int .i64 (j : Int))] = some (.val [.int .i64 (topB row j)]) := by
  refine cOf (by kernel_rfl) rfl ?_
  rw [g71_eq]
  simp only [g71, sy_wrap, sy_add, sy_sub, sy_mul, sy_ieq, sy_ilt, sy_ile, sy_seq, sy_beq, sy_bor, sy_bnot, sy_imax, sy_imin, sy_rlen, sy_slen, sy_sapp, sy_inr, sy_nat, sy_cell0, sy_cellS, sy_skip0, sy_inrn, sy_rapp, sy_fits, sy_cutok, sy_cut, sy_scut, sy_sbyte, sy_mkok, sy_mkok0, sy_mkz, sy_rep, sy_head, sy_deq, eqDs_int, eqDs_nil, opI_int, opB_bool, opS_str, opL_sl, opM_own, leaves_val, leaves_own, Option.bind_some, cutO_bool, bif_bool, cutO_inl, cutO_inr, eF_call, eF_lp, Nat.zero_add, Nat.reduceAdd, Bool.cond_false_right, Bool.cond_true_left, Bool.cond_false_left, Bool.cond_true_right, Bool.not_true, Bool.not_false, Bool.not_not, eq_self, decide_true, decide_false, cond_true, cond_false, Int.reduceEq, Int.reduceLT, Int.reduceLE, Int.reduceSub, Int.reduceAdd, Bool.true_and, Bool.and_true, Bool.false_and, Bool.and_false, Bool.or_false, Bool.false_or, Bool.true_or, Bool.or_true, true_and, and_true, irows_len]
  unfold topB topN
  by_cases h : row.length ≤ j
  · rw [decT (by omega), if_pos h]; rfl
  · rw [decF (by omega), if_neg h]
    simp only [sy_wrap, sy_add, sy_sub, sy_mul, sy_ieq, sy_ilt, sy_ile, sy_seq, sy_beq, sy_bor, sy_bnot, sy_imax, sy_imin, sy_rlen, sy_slen, sy_sapp, sy_inr, sy_nat, sy_cell0, sy_cellS, sy_skip0, sy_inrn, sy_rapp, sy_fits, sy_cutok, sy_cut, sy_scut, sy_sbyte, sy_mkok, sy_mkok0, sy_mkz, sy_rep, sy_head, sy_deq, eqDs_int, eqDs_nil, opI_int, opB_bool, opS_str, opL_sl, opM_own, leaves_val, leaves_own, Option.bind_some, cutO_bool, bif_bool, cutO_inl, cutO_inr, eF_call, eF_lp, Nat.zero_add, Nat.reduceAdd, Bool.cond_false_right, Bool.cond_true_left, Bool.cond_false_left, Bool.cond_true_right, Bool.not_true, Bool.not_false, Bool.not_not, eq_self, decide_true, decide_false, cond_true, cond_false, Int.reduceEq, Int.reduceLT, Int.reduceLE, Int.reduceSub, Int.reduceAdd, Bool.true_and, Bool.and_true, Bool.false_and, Bool.and_false, Bool.or_false, Bool.false_or, Bool.true_or, Bool.or_true, true_and, and_true]
    rw [wrap_id (n := (row.length : Int) - 1) (by omega) (by omega), wrap_id (by omega) (by omega), decT (p := 0 ≤ (row.length : Int) - 1 - j ∧ (row.length : Int) - 1 - j < (row.length : Int)) (by omega), irows_cell (by omega) (by omega)]
    simp only [sy_wrap, sy_add, sy_sub, sy_mul, sy_ieq, sy_ilt, sy_ile, sy_seq, sy_beq, sy_bor, sy_bnot, sy_imax, sy_imin, sy_rlen, sy_slen, sy_sapp, sy_inr, sy_nat, sy_cell0, sy_cellS, sy_skip0, sy_inrn, sy_rapp, sy_fits, sy_cutok, sy_cut, sy_scut, sy_sbyte, sy_mkok, sy_mkok0, sy_mkz, sy_rep, sy_head, sy_deq, eqDs_int, eqDs_nil, opI_int, opB_bool, opS_str, opL_sl, opM_own, leaves_val, leaves_own, Option.bind_some, cutO_bool, bif_bool, cutO_inl, cutO_inr, eF_call, eF_lp, Nat.zero_add, Nat.reduceAdd, Bool.cond_false_right, Bool.cond_true_left, Bool.cond_false_left, Bool.cond_true_right, Bool.not_true, Bool.not_false, Bool.not_not, eq_self, decide_true, decide_false, cond_true, cond_false, Int.reduceEq, Int.reduceLT, Int.reduceLE, Int.reduceSub, Int.reduceAdd, Bool.true_and, Bool.and_true, Bool.false_and, Bool.and_false, Bool.or_false, Bool.false_or, Bool.true_or, Bool.or_true, true_and, and_true]
    rw [show ((row.length : Int) - 1 - j).toNat = row.length - 1 - j by omega]
theorem c71_0 (row : List Int) (hr : row.length ≤ 1000) : cF 71 [.d (.sl 1 (irows row)), .d (.int .i64 0)] = some (.val [.int .i64 (topB row 0)]) := c71 row 0 hr (by omega)
theorem c71_1 (row : List Int) (hr : row.length ≤ 1000) : cF 71 [.d (.sl 1 (irows row)), .d (.int .i64 1)] = some (.val [.int .i64 (topB row 1)]) := c71 row 1 hr (by omega)
theorem c68_k (row : List Int) (j : Nat) (k : Int) (hr : row.length ≤ 1000) (hj : j ≤ row.length) (hk : k ≠ 0) : cF 68 [.d (.sl 1 (irows row)), .d (.int .i64 (j : Int)), .d (.int .i64 k)] = some (.own 3 1 (irows (dropTop row j ++ [k]))) := by
  refine cOf (by kernel_rfl) rfl ?_
  rw [g68_eq]
  simp only [g68, sy_wrap, sy_add, sy_sub, sy_mul, sy_ieq, sy_ilt, sy_ile, sy_seq, sy_beq, sy_bor, sy_bnot, sy_imax, sy_imin, sy_rlen, sy_slen, sy_sapp, sy_inr, sy_nat, sy_cell0, sy_cellS, sy_skip0, sy_inrn, sy_rapp, sy_fits, sy_cutok, sy_cut, sy_scut, sy_sbyte, sy_mkok, sy_mkok0, sy_mkz, sy_rep, sy_head, sy_deq, eqDs_int, eqDs_nil, opI_int, opB_bool, opS_str, opL_sl, opM_own, leaves_val, leaves_own, Option.bind_some, cutO_bool, bif_bool, cutO_inl, cutO_inr, eF_call, eF_lp, Nat.zero_add, Nat.reduceAdd, Bool.cond_false_right, Bool.cond_true_left, Bool.cond_false_left, Bool.cond_true_right, Bool.not_true, Bool.not_false, Bool.not_not, eq_self, decide_true, decide_false, cond_true, cond_false, Int.reduceEq, Int.reduceLT, Int.reduceLE, Int.reduceSub, Int.reduceAdd, Bool.true_and, Bool.and_true, Bool.false_and, Bool.and_false, Bool.or_false, Bool.false_or, Bool.true_or, Bool.or_true, true_and, and_true, irows_len]
  rw [wrap_id (by omega) (by omega), decT (p := 0 ≤ (row.length : Int) - j ∧ (row.length : Int) - j ≤ (row.length : Int)) (by omega), decF hk]
  have e : List.drop (Int.toNat 0) (List.take ((row.length : Int) - j).toNat (irows row)) = irows (dropTop row j) := by
    show List.drop 0 _ = _
    rw [List.drop_zero, irows_take, show ((row.length : Int) - j).toNat = row.length - j by omega]; rfl
  have hl : (dropTop row j).length ≤ 1000 := by unfold dropTop; rw [List.length_take]; omega
  simp only [sy_wrap, sy_add, sy_sub, sy_mul, sy_ieq, sy_ilt, sy_ile, sy_seq, sy_beq, sy_bor, sy_bnot, sy_imax, sy_imin, sy_rlen, sy_slen, sy_sapp, sy_inr, sy_nat, sy_cell0, sy_cellS, sy_skip0, sy_inrn, sy_rapp, sy_fits, sy_cutok, sy_cut, sy_scut, sy_sbyte, sy_mkok, sy_mkok0, sy_mkz, sy_rep, sy_head, sy_deq, eqDs_int, eqDs_nil, opI_int, opB_bool, opS_str, opL_sl, opM_own, leaves_val, leaves_own, Option.bind_some, cutO_bool, bif_bool, cutO_inl, cutO_inr, eF_call, eF_lp, Nat.zero_add, Nat.reduceAdd, Bool.cond_false_right, Bool.cond_true_left, Bool.cond_false_left, Bool.cond_true_right, Bool.not_true, Bool.not_false, Bool.not_not, eq_self, decide_true, decide_false, cond_true, cond_false, Int.reduceEq, Int.reduceLT, Int.reduceLE, Int.reduceSub, Int.reduceAdd, Bool.true_and, Bool.and_true, Bool.false_and, Bool.and_false, Bool.or_false, Bool.false_or, Bool.true_or, Bool.or_true, true_and, and_true, e, List.nil_append, irows_len, List.length_nil, List.length_cons]
  rw [decT (by omega), decT (by omega)]
  simp only [sy_wrap, sy_add, sy_sub, sy_mul, sy_ieq, sy_ilt, sy_ile, sy_seq, sy_beq, sy_bor, sy_bnot, sy_imax, sy_imin, sy_rlen, sy_slen, sy_sapp, sy_inr, sy_nat, sy_cell0, sy_cellS, sy_skip0, sy_inrn, sy_rapp, sy_fits, sy_cutok, sy_cut, sy_scut, sy_sbyte, sy_mkok, sy_mkok0, sy_mkz, sy_rep, sy_head, sy_deq, eqDs_int, eqDs_nil, opI_int, opB_bool, opS_str, opL_sl, opM_own, leaves_val, leaves_own, Option.bind_some, cutO_bool, bif_bool, cutO_inl, cutO_inr, eF_call, eF_lp, Nat.zero_add, Nat.reduceAdd, Bool.cond_false_right, Bool.cond_true_left, Bool.cond_false_left, Bool.cond_true_right, Bool.not_true, Bool.not_false, Bool.not_not, eq_self, decide_true, decide_false, cond_true, cond_false, Int.reduceEq, Int.reduceLT, Int.reduceLE, Int.reduceSub, Int.reduceAdd, Bool.true_and, Bool.and_true, Bool.false_and, Bool.and_false, Bool.or_false, Bool.false_or, Bool.true_or, Bool.or_true, true_and, and_true]
  rw [show ([[D.int .i64 k]] : List (List D)) = irows [k] from rfl, irows_app]
theorem c68_0 (row : List Int) (j : Nat) (hr : row.length ≤ 1000) (hj : j ≤ row.length) : cF 68 [.d (.sl 1 (irows row)), .d (.int .i64 (j : Int)), .d (.int .i64 0)] = some (.own 3 1 (irows (dropTop row j))) := by
  refine cOf (by kernel_rfl) rfl ?_
  rw [g68_eq]
  simp only [g68, sy_wrap, sy_add, sy_sub, sy_mul, sy_ieq, sy_ilt, sy_ile, sy_seq, sy_beq, sy_bor, sy_bnot, sy_imax, sy_imin, sy_rlen, sy_slen, sy_sapp, sy_inr, sy_nat, sy_cell0, sy_cellS, sy_skip0, sy_inrn, sy_rapp, sy_fits, sy_cutok, sy_cut, sy_scut, sy_sbyte, sy_mkok, sy_mkok0, sy_mkz, sy_rep, sy_head, sy_deq, eqDs_int, eqDs_nil, opI_int, opB_bool, opS_str, opL_sl, opM_own, leaves_val, leaves_own, Option.bind_some, cutO_bool, bif_bool, cutO_inl, cutO_inr, eF_call, eF_lp, Nat.zero_add, Nat.reduceAdd, Bool.cond_false_right, Bool.cond_true_left, Bool.cond_false_left, Bool.cond_true_right, Bool.not_true, Bool.not_false, Bool.not_not, eq_self, decide_true, decide_false, cond_true, cond_false, Int.reduceEq, Int.reduceLT, Int.reduceLE, Int.reduceSub, Int.reduceAdd, Bool.true_and, Bool.and_true, Bool.false_and, Bool.and_false, Bool.or_false, Bool.false_or, Bool.true_or, Bool.or_true, true_and, and_true, irows_len]
  rw [wrap_id (by omega) (by omega), decT (p := 0 ≤ (row.length : Int) - j ∧ (row.length : Int) - j ≤ (row.length : Int)) (by omega)]
  have e : List.drop (Int.toNat 0) (List.take ((row.length : Int) - j).toNat (irows row)) = irows (dropTop row j) := by
    show List.drop 0 _ = _
    rw [List.drop_zero, irows_take, show ((row.length : Int) - j).toNat = row.length - j by omega]; rfl
  have hl : (dropTop row j).length ≤ 1000 := by unfold dropTop; rw [List.length_take]; omega
  simp only [sy_wrap, sy_add, sy_sub, sy_mul, sy_ieq, sy_ilt, sy_ile, sy_seq, sy_beq, sy_bor, sy_bnot, sy_imax, sy_imin, sy_rlen, sy_slen, sy_sapp, sy_inr, sy_nat, sy_cell0, sy_cellS, sy_skip0, sy_inrn, sy_rapp, sy_fits, sy_cutok, sy_cut, sy_scut, sy_sbyte, sy_mkok, sy_mkok0, sy_mkz, sy_rep, sy_head, sy_deq, eqDs_int, eqDs_nil, opI_int, opB_bool, opS_str, opL_sl, opM_own, leaves_val, leaves_own, Option.bind_some, cutO_bool, bif_bool, cutO_inl, cutO_inr, eF_call, eF_lp, Nat.zero_add, Nat.reduceAdd, Bool.cond_false_right, Bool.cond_true_left, Bool.cond_false_left, Bool.cond_true_right, Bool.not_true, Bool.not_false, Bool.not_not, eq_self, decide_true, decide_false, cond_true, cond_false, Int.reduceEq, Int.reduceLT, Int.reduceLE, Int.reduceSub, Int.reduceAdd, Bool.true_and, Bool.and_true, Bool.false_and, Bool.and_false, Bool.or_false, Bool.false_or, Bool.true_or, Bool.or_true, true_and, and_true, e, List.nil_append, irows_len, List.length_nil]
  rw [decT (by omega)]
  simp only [sy_wrap, sy_add, sy_sub, sy_mul, sy_ieq, sy_ilt, sy_ile, sy_seq, sy_beq, sy_bor, sy_bnot, sy_imax, sy_imin, sy_rlen, sy_slen, sy_sapp, sy_inr, sy_nat, sy_cell0, sy_cellS, sy_skip0, sy_inrn, sy_rapp, sy_fits, sy_cutok, sy_cut, sy_scut, sy_sbyte, sy_mkok, sy_mkok0, sy_mkz, sy_rep, sy_head, sy_deq, eqDs_int, eqDs_nil, opI_int, opB_bool, opS_str, opL_sl, opM_own, leaves_val, leaves_own, Option.bind_some, cutO_bool, bif_bool, cutO_inl, cutO_inr, eF_call, eF_lp, Nat.zero_add, Nat.reduceAdd, Bool.cond_false_right, Bool.cond_true_left, Bool.cond_false_left, Bool.cond_true_right, Bool.not_true, Bool.not_false, Bool.not_not, eq_self, decide_true, decide_false, cond_true, cond_false, Int.reduceEq, Int.reduceLT, Int.reduceLE, Int.reduceSub, Int.reduceAdd, Bool.true_and, Bool.and_true, Bool.false_and, Bool.and_false, Bool.or_false, Bool.false_or, Bool.true_or, Bool.or_true, true_and, and_true]
theorem c69 (op : Int) (t : Ty3) : cF 69 [.d (.int .i64 op), t.v] = some (tyR (unTy op t)) := by
  unfold Ty3.v tyV
  refine cOf (by kernel_rfl) rfl ?_
  rw [g69_eq]
  simp only [g69, sy_wrap, sy_add, sy_sub, sy_mul, sy_ieq, sy_ilt, sy_ile, sy_seq, sy_beq, sy_bor, sy_bnot, sy_imax, sy_imin, sy_rlen, sy_slen, sy_sapp, sy_inr, sy_nat, sy_cell0, sy_cellS, sy_skip0, sy_inrn, sy_rapp, sy_fits, sy_cutok, sy_cut, sy_scut, sy_sbyte, sy_mkok, sy_mkok0, sy_mkz, sy_rep, sy_head, sy_deq, eqDs_int, eqDs_nil, opI_int, opB_bool, opS_str, opL_sl, opM_own, leaves_val, leaves_own, Option.bind_some, cutO_bool, bif_bool, cutO_inl, cutO_inr, eF_call, eF_lp, Nat.zero_add, Nat.reduceAdd, Bool.cond_false_right, Bool.cond_true_left, Bool.cond_false_left, Bool.cond_true_right, Bool.not_true, Bool.not_false, Bool.not_not, eq_self, decide_true, decide_false, cond_true, cond_false, Int.reduceEq, Int.reduceLT, Int.reduceLE, Int.reduceSub, Int.reduceAdd, Bool.true_and, Bool.and_true, Bool.false_and, Bool.and_false, Bool.or_false, Bool.false_or, Bool.true_or, Bool.or_true, true_and, and_true, c101]
  unfold unTy
  simp only [ty_ext]
  by_cases h1 : op = 1 <;> by_cases h2 : op = 2 <;> by_cases h3 : t.k = 1 <;> by_cases h4 : t.k = 2 <;> by_cases h5 : t.e = 0 <;> by_cases h6 : t.l = 0 <;> simp [h1, h2, h3, h4, h5, h6, tyR] <;> omega
theorem deq3 (t : Ty3) (a b c : Int) : (decide (t.k = a) && (decide (t.e = b) && decide (t.l = c))) = decide (t = ⟨a, b, c⟩) := by
  rw [Bool.eq_iff_iff]; simp [ty_ext]
theorem deq3' (t u : Ty3) : (decide (t.k = u.k) && (decide (t.e = u.e) && decide (t.l = u.l))) = decide (t = u) := by
  rw [Bool.eq_iff_iff]; simp [ty_ext]
theorem c73 (op : Int) (t u : Ty3) : cF 73 [.d (.int .i64 op), t.v, u.v] = some (tyR (binTy op t u)) := by
  unfold Ty3.v tyV
  refine cOf (by kernel_rfl) rfl ?_
  rw [g73_eq]
  simp only [g73, sy_wrap, sy_add, sy_sub, sy_mul, sy_ieq, sy_ilt, sy_ile, sy_seq, sy_beq, sy_bor, sy_bnot, sy_imax, sy_imin, sy_rlen, sy_slen, sy_sapp, sy_inr, sy_nat, sy_cell0, sy_cellS, sy_skip0, sy_inrn, sy_rapp, sy_fits, sy_cutok, sy_cut, sy_scut, sy_sbyte, sy_mkok, sy_mkok0, sy_mkz, sy_rep, sy_head, sy_deq, eqDs_int, eqDs_nil, opI_int, opB_bool, opS_str, opL_sl, opM_own, leaves_val, leaves_own, Option.bind_some, cutO_bool, bif_bool, cutO_inl, cutO_inr, eF_call, eF_lp, Nat.zero_add, Nat.reduceAdd, Bool.cond_false_right, Bool.cond_true_left, Bool.cond_false_left, Bool.cond_true_right, Bool.not_true, Bool.not_false, Bool.not_not, eq_self, decide_true, decide_false, cond_true, cond_false, Int.reduceEq, Int.reduceLT, Int.reduceLE, Int.reduceSub, Int.reduceAdd, Bool.true_and, Bool.and_true, Bool.false_and, Bool.and_false, Bool.or_false, Bool.false_or, Bool.true_or, Bool.or_true, true_and, and_true, c101]
  simp only [deq3']
  simp only [deq3]
  unfold binTy
  by_cases g1 : 3 ≤ op ∧ op ≤ 7
  · have hg : group op = 1 := if_pos g1
    rw [hg]
    simp (disch := omega) only [wrap_id, decT, decF, sy_wrap, sy_add, sy_sub, sy_mul, sy_ieq, sy_ilt, sy_ile, sy_seq, sy_beq, sy_bor, sy_bnot, sy_imax, sy_imin, sy_rlen, sy_slen, sy_sapp, sy_inr, sy_nat, sy_cell0, sy_cellS, sy_skip0, sy_inrn, sy_rapp, sy_fits, sy_cutok, sy_cut, sy_scut, sy_sbyte, sy_mkok, sy_mkok0, sy_mkz, sy_rep, sy_head, sy_deq, eqDs_int, eqDs_nil, opI_int, opB_bool, opS_str, opL_sl, opM_own, leaves_val, leaves_own, Option.bind_some, cutO_bool, bif_bool, cutO_inl, cutO_inr, eF_call, eF_lp, Nat.zero_add, Nat.reduceAdd, Bool.cond_false_right, Bool.cond_true_left, Bool.cond_false_left, Bool.cond_true_right, Bool.not_true, Bool.not_false, Bool.not_not, eq_self, decide_true, decide_false, cond_true, cond_false, Int.reduceEq, Int.reduceLT, Int.reduceLE, Int.reduceSub, Int.reduceAdd, Bool.true_and, Bool.and_true, Bool.false_and, Bool.and_false, Bool.or_false, Bool.false_or, Bool.true_or, Bool.or_true, true_and, and_true]
    by_cases a1 : t = ⟨1, 0, 0⟩ <;> by_cases a2 : t = ⟨2, 0, 0⟩ <;> by_cases b1 : u = ⟨1, 0, 0⟩ <;> simp_all [tyR]
  by_cases g2 : 8 ≤ op ∧ op ≤ 10
  · have hg : group op = 2 := by unfold group; rw [if_neg g1, if_pos g2]
    rw [hg]
    simp (disch := omega) only [wrap_id, decT, decF, sy_wrap, sy_add, sy_sub, sy_mul, sy_ieq, sy_ilt, sy_ile, sy_seq, sy_beq, sy_bor, sy_bnot, sy_imax, sy_imin, sy_rlen, sy_slen, sy_sapp, sy_inr, sy_nat, sy_cell0, sy_cellS, sy_skip0, sy_inrn, sy_rapp, sy_fits, sy_cutok, sy_cut, sy_scut, sy_sbyte, sy_mkok, sy_mkok0, sy_mkz, sy_rep, sy_head, sy_deq, eqDs_int, eqDs_nil, opI_int, opB_bool, opS_str, opL_sl, opM_own, leaves_val, leaves_own, Option.bind_some, cutO_bool, bif_bool, cutO_inl, cutO_inr, eF_call, eF_lp, Nat.zero_add, Nat.reduceAdd, Bool.cond_false_right, Bool.cond_true_left, Bool.cond_false_left, Bool.cond_true_right, Bool.not_true, Bool.not_false, Bool.not_not, eq_self, decide_true, decide_false, cond_true, cond_false, Int.reduceEq, Int.reduceLT, Int.reduceLE, Int.reduceSub, Int.reduceAdd, Bool.true_and, Bool.and_true, Bool.false_and, Bool.and_false, Bool.or_false, Bool.false_or, Bool.true_or, Bool.or_true, true_and, and_true]
    by_cases a1 : t = ⟨1, 0, 0⟩ <;> by_cases a2 : t = ⟨2, 0, 0⟩ <;> by_cases b1 : u = ⟨2, 0, 0⟩ <;> simp_all [tyR]
  by_cases g4 : op = 11 ∨ op = 12
  · have hg : group op = 4 := by unfold group; rw [if_neg g1, if_neg g2, if_pos g4]
    rw [hg]
    rcases g4 with rfl | rfl
    · simp (disch := omega) only [wrap_id, decT, decF, sy_wrap, sy_add, sy_sub, sy_mul, sy_ieq, sy_ilt, sy_ile, sy_seq, sy_beq, sy_bor, sy_bnot, sy_imax, sy_imin, sy_rlen, sy_slen, sy_sapp, sy_inr, sy_nat, sy_cell0, sy_cellS, sy_skip0, sy_inrn, sy_rapp, sy_fits, sy_cutok, sy_cut, sy_scut, sy_sbyte, sy_mkok, sy_mkok0, sy_mkz, sy_rep, sy_head, sy_deq, eqDs_int, eqDs_nil, opI_int, opB_bool, opS_str, opL_sl, opM_own, leaves_val, leaves_own, Option.bind_some, cutO_bool, bif_bool, cutO_inl, cutO_inr, eF_call, eF_lp, Nat.zero_add, Nat.reduceAdd, Bool.cond_false_right, Bool.cond_true_left, Bool.cond_false_left, Bool.cond_true_right, Bool.not_true, Bool.not_false, Bool.not_not, eq_self, decide_true, decide_false, cond_true, cond_false, Int.reduceEq, Int.reduceLT, Int.reduceLE, Int.reduceSub, Int.reduceAdd, Bool.true_and, Bool.and_true, Bool.false_and, Bool.and_false, Bool.or_false, Bool.false_or, Bool.true_or, Bool.or_true, true_and, and_true]
      by_cases a1 : t = ⟨1, 0, 0⟩ <;> by_cases a2 : t = ⟨2, 0, 0⟩ <;> by_cases b1 : t = u <;> by_cases c1 : t.l = 0 <;> simp_all [tyR]
    · simp (disch := omega) only [wrap_id, decT, decF, sy_wrap, sy_add, sy_sub, sy_mul, sy_ieq, sy_ilt, sy_ile, sy_seq, sy_beq, sy_bor, sy_bnot, sy_imax, sy_imin, sy_rlen, sy_slen, sy_sapp, sy_inr, sy_nat, sy_cell0, sy_cellS, sy_skip0, sy_inrn, sy_rapp, sy_fits, sy_cutok, sy_cut, sy_scut, sy_sbyte, sy_mkok, sy_mkok0, sy_mkz, sy_rep, sy_head, sy_deq, eqDs_int, eqDs_nil, opI_int, opB_bool, opS_str, opL_sl, opM_own, leaves_val, leaves_own, Option.bind_some, cutO_bool, bif_bool, cutO_inl, cutO_inr, eF_call, eF_lp, Nat.zero_add, Nat.reduceAdd, Bool.cond_false_right, Bool.cond_true_left, Bool.cond_false_left, Bool.cond_true_right, Bool.not_true, Bool.not_false, Bool.not_not, eq_self, decide_true, decide_false, cond_true, cond_false, Int.reduceEq, Int.reduceLT, Int.reduceLE, Int.reduceSub, Int.reduceAdd, Bool.true_and, Bool.and_true, Bool.false_and, Bool.and_false, Bool.or_false, Bool.false_or, Bool.true_or, Bool.or_true, true_and, and_true]
      by_cases a1 : t = ⟨1, 0, 0⟩ <;> by_cases a2 : t = ⟨2, 0, 0⟩ <;> by_cases b1 : t = u <;> by_cases c1 : t.l = 0 <;> simp_all [tyR]
  by_cases g3 : 13 ≤ op ∧ op ≤ 16
  · have hg : group op = 3 := by unfold group; rw [if_neg g1, if_neg g2, if_neg g4, if_pos g3]
    rw [hg]
    simp (disch := omega) only [wrap_id, decT, decF, sy_wrap, sy_add, sy_sub, sy_mul, sy_ieq, sy_ilt, sy_ile, sy_seq, sy_beq, sy_bor, sy_bnot, sy_imax, sy_imin, sy_rlen, sy_slen, sy_sapp, sy_inr, sy_nat, sy_cell0, sy_cellS, sy_skip0, sy_inrn, sy_rapp, sy_fits, sy_cutok, sy_cut, sy_scut, sy_sbyte, sy_mkok, sy_mkok0, sy_mkz, sy_rep, sy_head, sy_deq, eqDs_int, eqDs_nil, opI_int, opB_bool, opS_str, opL_sl, opM_own, leaves_val, leaves_own, Option.bind_some, cutO_bool, bif_bool, cutO_inl, cutO_inr, eF_call, eF_lp, Nat.zero_add, Nat.reduceAdd, Bool.cond_false_right, Bool.cond_true_left, Bool.cond_false_left, Bool.cond_true_right, Bool.not_true, Bool.not_false, Bool.not_not, eq_self, decide_true, decide_false, cond_true, cond_false, Int.reduceEq, Int.reduceLT, Int.reduceLE, Int.reduceSub, Int.reduceAdd, Bool.true_and, Bool.and_true, Bool.false_and, Bool.and_false, Bool.or_false, Bool.false_or, Bool.true_or, Bool.or_true, true_and, and_true]
    by_cases a1 : t = ⟨1, 0, 0⟩ <;> by_cases a2 : t = ⟨2, 0, 0⟩ <;> by_cases b1 : u = ⟨1, 0, 0⟩ <;> simp_all [tyR]
  · have hg : group op = 0 := by unfold group; rw [if_neg g1, if_neg g2, if_neg g4, if_neg g3]
    rw [hg]
    have e1 : (decide (3 ≤ op) && decide (op ≤ 7)) = false := by rw [Bool.eq_false_iff]; intro h; simp only [Bool.and_eq_true, decide_eq_true_eq] at h; omega
    have e2 : (decide (8 ≤ op) && decide (op ≤ 10)) = false := by rw [Bool.eq_false_iff]; intro h; simp only [Bool.and_eq_true, decide_eq_true_eq] at h; omega
    have e3 : ∀ p : Bool, (decide (13 ≤ op) && (decide (op ≤ 16) && p)) = false := fun p => by rw [Bool.eq_false_iff]; intro h; simp only [Bool.and_eq_true, decide_eq_true_eq] at h; omega
    simp (disch := omega) only [wrap_id, decT, decF, sy_wrap, sy_add, sy_sub, sy_mul, sy_ieq, sy_ilt, sy_ile, sy_seq, sy_beq, sy_bor, sy_bnot, sy_imax, sy_imin, sy_rlen, sy_slen, sy_sapp, sy_inr, sy_nat, sy_cell0, sy_cellS, sy_skip0, sy_inrn, sy_rapp, sy_fits, sy_cutok, sy_cut, sy_scut, sy_sbyte, sy_mkok, sy_mkok0, sy_mkz, sy_rep, sy_head, sy_deq, eqDs_int, eqDs_nil, opI_int, opB_bool, opS_str, opL_sl, opM_own, leaves_val, leaves_own, Option.bind_some, cutO_bool, bif_bool, cutO_inl, cutO_inr, eF_call, eF_lp, Nat.zero_add, Nat.reduceAdd, Bool.cond_false_right, Bool.cond_true_left, Bool.cond_false_left, Bool.cond_true_right, Bool.not_true, Bool.not_false, Bool.not_not, eq_self, decide_true, decide_false, cond_true, cond_false, Int.reduceEq, Int.reduceLT, Int.reduceLE, Int.reduceSub, Int.reduceAdd, Bool.true_and, Bool.and_true, Bool.false_and, Bool.and_false, Bool.or_false, Bool.false_or, Bool.true_or, Bool.or_true, true_and, and_true, e1, e2, e3]
    by_cases a1 : t = ⟨1, 0, 0⟩ <;> by_cases a2 : t = ⟨2, 0, 0⟩ <;> simp_all [tyR]
theorem c72 (t : Ty3) (h : -1000 ≤ t.e) (h1 : t.e ≤ 1000000) : cF 72 [t.v] = some (.val [.int .i64 (if t.k < 3 then t.k else 3 + t.e)]) := by
  unfold Ty3.v tyV
  refine cOf (by kernel_rfl) rfl ?_
  rw [g72_eq]
  simp only [g72, sy_wrap, sy_add, sy_sub, sy_mul, sy_ieq, sy_ilt, sy_ile, sy_seq, sy_beq, sy_bor, sy_bnot, sy_imax, sy_imin, sy_rlen, sy_slen, sy_sapp, sy_inr, sy_nat, sy_cell0, sy_cellS, sy_skip0, sy_inrn, sy_rapp, sy_fits, sy_cutok, sy_cut, sy_scut, sy_sbyte, sy_mkok, sy_mkok0, sy_mkz, sy_rep, sy_head, sy_deq, eqDs_int, eqDs_nil, opI_int, opB_bool, opS_str, opL_sl, opM_own, leaves_val, leaves_own, Option.bind_some, cutO_bool, bif_bool, cutO_inl, cutO_inr, eF_call, eF_lp, Nat.zero_add, Nat.reduceAdd, Bool.cond_false_right, Bool.cond_true_left, Bool.cond_false_left, Bool.cond_true_right, Bool.not_true, Bool.not_false, Bool.not_not, eq_self, decide_true, decide_false, cond_true, cond_false, Int.reduceEq, Int.reduceLT, Int.reduceLE, Int.reduceSub, Int.reduceAdd, Bool.true_and, Bool.and_true, Bool.false_and, Bool.and_false, Bool.or_false, Bool.false_or, Bool.true_or, Bool.or_true, true_and, and_true]
  rw [wrap_id (by omega) (by omega)]
  by_cases h : t.k < 3
  · rw [decT h, if_pos h]; rfl
  · rw [decF h, if_neg h]; rfl
theorem c37 (la lb : List Int) (hl : la.length ≤ 100000) : cF 37 [.d (.sl 1 (irows la)), .d (.sl 1 (irows lb))] = some (.val [.bool (la == lb)]) := by
  refine cOf (by kernel_rfl) rfl ?_
  rw [g37_eq]
  simp only [g37, sy_wrap, sy_add, sy_sub, sy_mul, sy_ieq, sy_ilt, sy_ile, sy_seq, sy_beq, sy_bor, sy_bnot, sy_imax, sy_imin, sy_rlen, sy_slen, sy_sapp, sy_inr, sy_nat, sy_cell0, sy_cellS, sy_skip0, sy_inrn, sy_rapp, sy_fits, sy_cutok, sy_cut, sy_scut, sy_sbyte, sy_mkok, sy_mkok0, sy_mkz, sy_rep, sy_head, sy_deq, eqDs_int, eqDs_nil, opI_int, opB_bool, opS_str, opL_sl, opM_own, leaves_val, leaves_own, Option.bind_some, cutO_bool, bif_bool, cutO_inl, cutO_inr, eF_call, eF_lp, Nat.zero_add, Nat.reduceAdd, Bool.cond_false_right, Bool.cond_true_left, Bool.cond_false_left, Bool.cond_true_right, Bool.not_true, Bool.not_false, Bool.not_not, eq_self, decide_true, decide_false, cond_true, cond_false, Int.reduceEq, Int.reduceLT, Int.reduceLE, Int.reduceSub, Int.reduceAdd, Bool.true_and, Bool.and_true, Bool.false_and, Bool.and_false, Bool.or_false, Bool.false_or, Bool.true_or, Bool.or_true, true_and, and_true, irows_len]
  by_cases hlen : la.length = lb.length
  · rw [decT (p := (la.length : Int) = (lb.length : Int)) (by omega)]
    simp only [sy_wrap, sy_add, sy_sub, sy_mul, sy_ieq, sy_ilt, sy_ile, sy_seq, sy_beq, sy_bor, sy_bnot, sy_imax, sy_imin, sy_rlen, sy_slen, sy_sapp, sy_inr, sy_nat, sy_cell0, sy_cellS, sy_skip0, sy_inrn, sy_rapp, sy_fits, sy_cutok, sy_cut, sy_scut, sy_sbyte, sy_mkok, sy_mkok0, sy_mkz, sy_rep, sy_head, sy_deq, eqDs_int, eqDs_nil, opI_int, opB_bool, opS_str, opL_sl, opM_own, leaves_val, leaves_own, Option.bind_some, cutO_bool, bif_bool, cutO_inl, cutO_inr, eF_call, eF_lp, Nat.zero_add, Nat.reduceAdd, Bool.cond_false_right, Bool.cond_true_left, Bool.cond_false_left, Bool.cond_true_right, Bool.not_true, Bool.not_false, Bool.not_not, eq_self, decide_true, decide_false, cond_true, cond_false, Int.reduceEq, Int.reduceLT, Int.reduceLE, Int.reduceSub, Int.reduceAdd, Bool.true_and, Bool.and_true, Bool.false_and, Bool.and_false, Bool.or_false, Bool.false_or, Bool.true_or, Bool.or_true, true_and, and_true]
    refine loopF_at (fun i : Nat => [.sl 1 (irows la), .sl 1 (irows lb), .int .i64 (i : Int)]) (fun i => i ≤ la.length ∧ (la == lb) = (la.drop i == lb.drop i)) (fun i => la.length - i) (fun i ⟨hi, he⟩ => ?_) 0 ⟨Nat.zero_le _, rfl⟩
    by_cases hlt : i < la.length
    · have hx : la[i]? = some la[i] := List.getElem?_eq_getElem hlt
      have hy : lb[i]? = some (lb[i]'(by omega)) := List.getElem?_eq_getElem (by omega)
      have hd : (la.drop i == lb.drop i) = (decide (la[i] = lb[i]'(by omega)) && (la.drop (i + 1) == lb.drop (i + 1))) := by
        rw [List.drop_eq_getElem_cons hlt, List.drop_eq_getElem_cons (show i < lb.length by omega), List.cons_beq_cons]
        congr 1
      simp only [sy_wrap, sy_add, sy_sub, sy_mul, sy_ieq, sy_ilt, sy_ile, sy_seq, sy_beq, sy_bor, sy_bnot, sy_imax, sy_imin, sy_rlen, sy_slen, sy_sapp, sy_inr, sy_nat, sy_cell0, sy_cellS, sy_skip0, sy_inrn, sy_rapp, sy_fits, sy_cutok, sy_cut, sy_scut, sy_sbyte, sy_mkok, sy_mkok0, sy_mkz, sy_rep, sy_head, sy_deq, eqDs_int, eqDs_nil, opI_int, opB_bool, opS_str, opL_sl, opM_own, leaves_val, leaves_own, Option.bind_some, cutO_bool, bif_bool, cutO_inl, cutO_inr, eF_call, eF_lp, Nat.zero_add, Nat.reduceAdd, Bool.cond_false_right, Bool.cond_true_left, Bool.cond_false_left, Bool.cond_true_right, Bool.not_true, Bool.not_false, Bool.not_not, eq_self, decide_true, decide_false, cond_true, cond_false, Int.reduceEq, Int.reduceLT, Int.reduceLE, Int.reduceSub, Int.reduceAdd, Bool.true_and, Bool.and_true, Bool.false_and, Bool.and_false, Bool.or_false, Bool.false_or, Bool.true_or, Bool.or_true, true_and, and_true, irows_len, ilt_at hlt, inr_at hlt, inr_at (show i < lb.length by omega), irows_at hx, irows_at hy, wrap_succ hlt (by omega)]
      by_cases hq : la[i] = lb[i]'(by omega)
      · left
        refine ⟨i + 1, by simp [hq], ⟨by omega, ?_⟩, by omega⟩
        rw [he, hd]; simp [hq]
      · right
        rw [he, hd]; simp [hq]
    · right
      have : i = la.length := by omega
      subst this
      simp only [sy_wrap, sy_add, sy_sub, sy_mul, sy_ieq, sy_ilt, sy_ile, sy_seq, sy_beq, sy_bor, sy_bnot, sy_imax, sy_imin, sy_rlen, sy_slen, sy_sapp, sy_inr, sy_nat, sy_cell0, sy_cellS, sy_skip0, sy_inrn, sy_rapp, sy_fits, sy_cutok, sy_cut, sy_scut, sy_sbyte, sy_mkok, sy_mkok0, sy_mkz, sy_rep, sy_head, sy_deq, eqDs_int, eqDs_nil, opI_int, opB_bool, opS_str, opL_sl, opM_own, leaves_val, leaves_own, Option.bind_some, cutO_bool, bif_bool, cutO_inl, cutO_inr, eF_call, eF_lp, Nat.zero_add, Nat.reduceAdd, Bool.cond_false_right, Bool.cond_true_left, Bool.cond_false_left, Bool.cond_true_right, Bool.not_true, Bool.not_false, Bool.not_not, eq_self, decide_true, decide_false, cond_true, cond_false, Int.reduceEq, Int.reduceLT, Int.reduceLE, Int.reduceSub, Int.reduceAdd, Bool.true_and, Bool.and_true, Bool.false_and, Bool.and_false, Bool.or_false, Bool.false_or, Bool.true_or, Bool.or_true, true_and, and_true, irows_len, ilt_self]
      rw [he, List.drop_length, hlen, List.drop_length]
      rfl
  · rw [decF (p := (la.length : Int) = (lb.length : Int)) (by omega)]
    have : (la == lb) = false := by rw [Bool.eq_false_iff]; intro h; exact hlen (by rw [eq_of_beq h])
    rw [this]
    rfl
end Go.Vm
end

section
set_option maxRecDepth 100000
set_option maxHeartbeats 2000000
namespace Go.Vm
open Go.Proofs
theorem all_loop2 {τ α : Type} {b : List D → Option (List D ⊕ α)} {r0 r1 r : α} {ds : List D} (p : τ → Bool) (l : List τ) (mk : Nat → List D) (h0 : mk 0 = ds)
    (hb : ∀ i x, l[i]? = some x → b (mk i) = bif p x then some (.inl (mk (i + 1))) else some (.inr r0))
    (hend : l.all p = true → b (mk l.length) = some (.inr r1)) (hr : (bif l.all p then r1 else r0) = r) : loopF b ds = some r := by
  rw [← h0, all_loop p l mk hb hend, hr]
theorem c102 (a : List (List D)) (lb : List Int) (lo hi at_ n : Int) (h0 : 0 ≤ at_) (h1 : at_ ≤ 100000) (h2 : 1 ≤ n) (h3 : n ≤ 8) (hlb : lb.length ≤ 10000) : cF 102 [shV a (irows lb) lo hi, .d (.int .i64 at_), .d (.int .i64 n)] = some (.val [.int .i64 ((cellsK lb at_ n).getD 0)]) := by
  unfold shV
  by_cases hle : (lb.length : Int) < at_ + n
  · unfold cellsK il
    rw [if_neg (by omega)]
    refine cOf (by kernel_rfl) rfl ?_
    rw [g102_eq]
    simp only [g102, sy_wrap, sy_add, sy_sub, sy_mul, sy_ieq, sy_ilt, sy_ile, sy_seq, sy_beq, sy_bor, sy_bnot, sy_imax, sy_imin, sy_rlen, sy_slen, sy_sapp, sy_inr, sy_nat, sy_cell0, sy_cellS, sy_skip0, sy_inrn, sy_rapp, sy_fits, sy_cutok, sy_cut, sy_scut, sy_sbyte, sy_mkok, sy_mkok0, sy_mkz, sy_rep, sy_head, sy_deq, eqDs_int, eqDs_nil, opI_int, opB_bool, opS_str, opL_sl, opM_own, leaves_val, leaves_own, Option.bind_some, cutO_bool, bif_bool, cutO_inl, cutO_inr, eF_call, eF_lp, Nat.zero_add, Nat.reduceAdd, Bool.cond_false_right, Bool.cond_true_left, Bool.cond_false_left, Bool.cond_true_right, Bool.not_true, Bool.not_false, Bool.not_not, eq_self, decide_true, decide_false, cond_true, cond_false, Int.reduceEq, Int.reduceLT, Int.reduceLE, Int.reduceSub, Int.reduceAdd, Bool.true_and, Bool.and_true, Bool.false_and, Bool.and_false, Bool.or_false, Bool.false_or, Bool.true_or, Bool.or_true, true_and, and_true, irows_len]
    simp (disch := omega) only [wrap_id, decT, decF, sy_wrap, sy_add, sy_sub, sy_mul, sy_ieq, sy_ilt, sy_ile, sy_seq, sy_beq, sy_bor, sy_bnot, sy_imax, sy_imin, sy_rlen, sy_slen, sy_sapp, sy_inr, sy_nat, sy_cell0, sy_cellS, sy_skip0, sy_inrn, sy_rapp, sy_fits, sy_cutok, sy_cut, sy_scut, sy_sbyte, sy_mkok, sy_mkok0, sy_mkz, sy_rep, sy_head, sy_deq, eqDs_int, eqDs_nil, opI_int, opB_bool, opS_str, opL_sl, opM_own, leaves_val, leaves_own, Option.bind_some, cutO_bool, bif_bool, cutO_inl, cutO_inr, eF_call, eF_lp, Nat.zero_add, Nat.reduceAdd, Bool.cond_false_right, Bool.cond_true_left, Bool.cond_false_left, Bool.cond_true_right, Bool.not_true, Bool.not_false, Bool.not_not, eq_self, decide_true, decide_false, cond_true, cond_false, Int.reduceEq, Int.reduceLT, Int.reduceLE, Int.reduceSub, Int.reduceAdd, Bool.true_and, Bool.and_true, Bool.false_and, Bool.and_false, Bool.or_false, Bool.false_or, Bool.true_or, Bool.or_true, true_and, and_true]
    rfl
  · have hc : cellsK lb at_ n = if ((lb.drop at_.toNat).take n.toNat).all (fun k => k == lb.getD at_.toNat 0) then some (lb.getD at_.toNat 0) else none := by
      unfold cellsK il; rw [if_pos (by omega)]
    rw [hc]
    refine cOf (by kernel_rfl) rfl ?_
    rw [g102_eq]
    simp only [g102, sy_wrap, sy_add, sy_sub, sy_mul, sy_ieq, sy_ilt, sy_ile, sy_seq, sy_beq, sy_bor, sy_bnot, sy_imax, sy_imin, sy_rlen, sy_slen, sy_sapp, sy_inr, sy_nat, sy_cell0, sy_cellS, sy_skip0, sy_inrn, sy_rapp, sy_fits, sy_cutok, sy_cut, sy_scut, sy_sbyte, sy_mkok, sy_mkok0, sy_mkz, sy_rep, sy_head, sy_deq, eqDs_int, eqDs_nil, opI_int, opB_bool, opS_str, opL_sl, opM_own, leaves_val, leaves_own, Option.bind_some, cutO_bool, bif_bool, cutO_inl, cutO_inr, eF_call, eF_lp, Nat.zero_add, Nat.reduceAdd, Bool.cond_false_right, Bool.cond_true_left, Bool.cond_false_left, Bool.cond_true_right, Bool.not_true, Bool.not_false, Bool.not_not, eq_self, decide_true, decide_false, cond_true, cond_false, Int.reduceEq, Int.reduceLT, Int.reduceLE, Int.reduceSub, Int.reduceAdd, Bool.true_and, Bool.and_true, Bool.false_and, Bool.and_false, Bool.or_false, Bool.false_or, Bool.true_or, Bool.or_true, true_and, and_true, irows_len]
    simp (disch := omega) only [wrap_id, decT, decF, sy_wrap, sy_add, sy_sub, sy_mul, sy_ieq, sy_ilt, sy_ile, sy_seq, sy_beq, sy_bor, sy_bnot, sy_imax, sy_imin, sy_rlen, sy_slen, sy_sapp, sy_inr, sy_nat, sy_cell0, sy_cellS, sy_skip0, sy_inrn, sy_rapp, sy_fits, sy_cutok, sy_cut, sy_scut, sy_sbyte, sy_mkok, sy_mkok0, sy_mkz, sy_rep, sy_head, sy_deq, eqDs_int, eqDs_nil, opI_int, opB_bool, opS_str, opL_sl, opM_own, leaves_val, leaves_own, Option.bind_some, cutO_bool, bif_bool, cutO_inl, cutO_inr, eF_call, eF_lp, Nat.zero_add, Nat.reduceAdd, Bool.cond_false_right, Bool.cond_true_left, Bool.cond_false_left, Bool.cond_true_right, Bool.not_true, Bool.not_false, Bool.not_not, eq_self, decide_true, decide_false, cond_true, cond_false, Int.reduceEq, Int.reduceLT, Int.reduceLE, Int.reduceSub, Int.reduceAdd, Bool.true_and, Bool.and_true, Bool.false_and, Bool.and_false, Bool.or_false, Bool.false_or, Bool.true_or, Bool.or_true, true_and, and_true]
    refine all_loop2 (r0 := PRes.val [.int .i64 0]) (r1 := PRes.val [.int .i64 (lb.getD at_.toNat 0)]) (fun k => k == lb.getD at_.toNat 0) ((lb.drop at_.toNat).take n.toNat) (fun j => [.int .i64 at_, .int .i64 n, .int .i64 (at_ + (j : Int)), .sl 1 a, .sl 1 (irows lb), .int .i64 lo, .int .i64 hi]) (by simp) (fun i x hx => ?_) (fun _ => ?_) ?_
    · have hlt := (List.getElem?_eq_some_iff.1 hx).1
      rw [List.length_take, List.length_drop] at hlt
      rw [List.getElem?_take, if_pos (by omega), List.getElem?_drop] at hx
      have hcell : sy.cell (sy.row (irows lb) (at_ + (i : Int))) 0 = some (.int .i64 x) := by
        have := irows_at hx
        rwa [show ((at_.toNat + i : Nat) : Int) = at_ + i by omega] at this
      simp (disch := omega) only [wrap_id, decT, decF, sy_wrap, sy_add, sy_sub, sy_mul, sy_ieq, sy_ilt, sy_ile, sy_seq, sy_beq, sy_bor, sy_bnot, sy_imax, sy_imin, sy_rlen, sy_slen, sy_sapp, sy_inr, sy_nat, sy_cell0, sy_cellS, sy_skip0, sy_inrn, sy_rapp, sy_fits, sy_cutok, sy_cut, sy_scut, sy_sbyte, sy_mkok, sy_mkok0, sy_mkz, sy_rep, sy_head, sy_deq, eqDs_int, eqDs_nil, opI_int, opB_bool, opS_str, opL_sl, opM_own, leaves_val, leaves_own, Option.bind_some, cutO_bool, bif_bool, cutO_inl, cutO_inr, eF_call, eF_lp, Nat.zero_add, Nat.reduceAdd, Bool.cond_false_right, Bool.cond_true_left, Bool.cond_false_left, Bool.cond_true_right, Bool.not_true, Bool.not_false, Bool.not_not, eq_self, decide_true, decide_false, cond_true, cond_false, Int.reduceEq, Int.reduceLT, Int.reduceLE, Int.reduceSub, Int.reduceAdd, Bool.true_and, Bool.and_true, Bool.false_and, Bool.and_false, Bool.or_false, Bool.false_or, Bool.true_or, Bool.or_true, true_and, and_true, irows_len, hcell, irows_cell (la := lb) h0 (by omega)]
      by_cases hq : x = lb.getD at_.toNat 0
      · rw [decT hq, show (x == lb.getD at_.toNat 0) = true from by simp [hq], show at_ + (i : Int) + 1 = at_ + ((i + 1 : Nat) : Int) by omega]; rfl
      · rw [decF hq, show (x == lb.getD at_.toNat 0) = false from by rw [beq_eq_false_iff_ne]; exact hq]; rfl
    · have hl : (((lb.drop at_.toNat).take n.toNat).length : Int) = n := by rw [List.length_take, List.length_drop]; omega
      rw [hl]
      simp (disch := omega) only [wrap_id, decT, decF, sy_wrap, sy_add, sy_sub, sy_mul, sy_ieq, sy_ilt, sy_ile, sy_seq, sy_beq, sy_bor, sy_bnot, sy_imax, sy_imin, sy_rlen, sy_slen, sy_sapp, sy_inr, sy_nat, sy_cell0, sy_cellS, sy_skip0, sy_inrn, sy_rapp, sy_fits, sy_cutok, sy_cut, sy_scut, sy_sbyte, sy_mkok, sy_mkok0, sy_mkz, sy_rep, sy_head, sy_deq, eqDs_int, eqDs_nil, opI_int, opB_bool, opS_str, opL_sl, opM_own, leaves_val, leaves_own, Option.bind_some, cutO_bool, bif_bool, cutO_inl, cutO_inr, eF_call, eF_lp, Nat.zero_add, Nat.reduceAdd, Bool.cond_false_right, Bool.cond_true_left, Bool.cond_false_left, Bool.cond_true_right, Bool.not_true, Bool.not_false, Bool.not_not, eq_self, decide_true, decide_false, cond_true, cond_false, Int.reduceEq, Int.reduceLT, Int.reduceLE, Int.reduceSub, Int.reduceAdd, Bool.true_and, Bool.and_true, Bool.false_and, Bool.and_false, Bool.or_false, Bool.false_or, Bool.true_or, Bool.or_true, true_and, and_true, irows_len, irows_cell (la := lb) h0 (by omega)]
    · cases (List.all (List.take n.toNat (List.drop at_.toNat lb)) fun k => k == lb.getD at_.toNat 0) <;> rfl
theorem free_range (lo hi at_ n : Int) (h2 : 1 ≤ n) : ((List.range n.toNat).all fun (j : Nat) => !(decide (lo ≤ at_ + (j : Int)) && decide (at_ + (j : Int) < hi))) = !fixedB lo hi at_ n := by
  unfold fixedB
  rw [Bool.eq_iff_iff, List.all_eq_true]
  simp only [List.mem_range, Bool.not_eq_true', Bool.and_eq_false_iff, decide_eq_false_iff_not]
  constructor
  · intro h
    by_cases h1 : at_ < hi ∧ lo < at_ + n ∧ lo < hi
    · exfalso
      by_cases h4 : at_ ≤ lo
      · have := h (lo - at_).toNat (by omega)
        omega
      · have := h 0 (by omega)
        omega
    · omega
  · intro h j hj
    omega
theorem c103 (a b : List (List D)) (lo hi at_ n : Int) (h0 : 0 ≤ at_) (h1 : at_ ≤ 100000) (h2 : 1 ≤ n) (h3 : n ≤ 1000) : cF 103 [shV a b lo hi, .d (.int .i64 at_), .d (.int .i64 n)] = some (.val [.bool (!fixedB lo hi at_ n)]) := by
  unfold shV
  refine cOf (by kernel_rfl) rfl ?_
  rw [g103_eq]
  simp only [g103, sy_wrap, sy_add, sy_sub, sy_mul, sy_ieq, sy_ilt, sy_ile, sy_seq, sy_beq, sy_bor, sy_bnot, sy_imax, sy_imin, sy_rlen, sy_slen, sy_sapp, sy_inr, sy_nat, sy_cell0, sy_cellS, sy_skip0, sy_inrn, sy_rapp, sy_fits, sy_cutok, sy_cut, sy_scut, sy_sbyte, sy_mkok, sy_mkok0, sy_mkz, sy_rep, sy_head, sy_deq, eqDs_int, eqDs_nil, opI_int, opB_bool, opS_str, opL_sl, opM_own, leaves_val, leaves_own, Option.bind_some, cutO_bool, bif_bool, cutO_inl, cutO_inr, eF_call, eF_lp, Nat.zero_add, Nat.reduceAdd, Bool.cond_false_right, Bool.cond_true_left, Bool.cond_false_left, Bool.cond_true_right, Bool.not_true, Bool.not_false, Bool.not_not, eq_self, decide_true, decide_false, cond_true, cond_false, Int.reduceEq, Int.reduceLT, Int.reduceLE, Int.reduceSub, Int.reduceAdd, Bool.true_and, Bool.and_true, Bool.false_and, Bool.and_false, Bool.or_false, Bool.false_or, Bool.true_or, Bool.or_true, true_and, and_true]
  rw [← free_range lo hi at_ n h2]
  refine all_loop2 (r0 := PRes.val [.bool false]) (r1 := PRes.val [.bool true]) (fun (j : Nat) => !(decide (lo ≤ at_ + (j : Int)) && decide (at_ + (j : Int) < hi))) (List.range n.toNat) (fun j => [.int .i64 at_, .int .i64 n, .int .i64 (at_ + (j : Int)), .sl 1 a, .sl 1 b, .int .i64 lo, .int .i64 hi]) (by simp) (fun i x hx => ?_) (fun _ => ?_) ?_
  · have hlt := (List.getElem?_eq_some_iff.1 hx).1
    rw [List.length_range] at hlt
    rw [List.getElem?_range hlt] at hx
    cases hx
    simp (disch := omega) only [wrap_id, decT, decF, sy_wrap, sy_add, sy_sub, sy_mul, sy_ieq, sy_ilt, sy_ile, sy_seq, sy_beq, sy_bor, sy_bnot, sy_imax, sy_imin, sy_rlen, sy_slen, sy_sapp, sy_inr, sy_nat, sy_cell0, sy_cellS, sy_skip0, sy_inrn, sy_rapp, sy_fits, sy_cutok, sy_cut, sy_scut, sy_sbyte, sy_mkok, sy_mkok0, sy_mkz, sy_rep, sy_head, sy_deq, eqDs_int, eqDs_nil, opI_int, opB_bool, opS_str, opL_sl, opM_own, leaves_val, leaves_own, Option.bind_some, cutO_bool, bif_bool, cutO_inl, cutO_inr, eF_call, eF_lp, Nat.zero_add, Nat.reduceAdd, Bool.cond_false_right, Bool.cond_true_left, Bool.cond_false_left, Bool.cond_true_right, Bool.not_true, Bool.not_false, Bool.not_not, eq_self, decide_true, decide_false, cond_true, cond_false, Int.reduceEq, Int.reduceLT, Int.reduceLE, Int.reduceSub, Int.reduceAdd, Bool.true_and, Bool.and_true, Bool.false_and, Bool.and_false, Bool.or_false, Bool.false_or, Bool.true_or, Bool.or_true, true_and, and_true]
    rw [show at_ + (i : Int) + 1 = at_ + ((i + 1 : Nat) : Int) by omega]
    cases (decide (lo ≤ at_ + (i : Int)) && decide (at_ + (i : Int) < hi)) <;> rfl
  · rw [List.length_range]
    simp (disch := omega) only [wrap_id, decT, decF, sy_wrap, sy_add, sy_sub, sy_mul, sy_ieq, sy_ilt, sy_ile, sy_seq, sy_beq, sy_bor, sy_bnot, sy_imax, sy_imin, sy_rlen, sy_slen, sy_sapp, sy_inr, sy_nat, sy_cell0, sy_cellS, sy_skip0, sy_inrn, sy_rapp, sy_fits, sy_cutok, sy_cut, sy_scut, sy_sbyte, sy_mkok, sy_mkok0, sy_mkz, sy_rep, sy_head, sy_deq, eqDs_int, eqDs_nil, opI_int, opB_bool, opS_str, opL_sl, opM_own, leaves_val, leaves_own, Option.bind_some, cutO_bool, bif_bool, cutO_inl, cutO_inr, eF_call, eF_lp, Nat.zero_add, Nat.reduceAdd, Bool.cond_false_right, Bool.cond_true_left, Bool.cond_false_left, Bool.cond_true_right, Bool.not_true, Bool.not_false, Bool.not_not, eq_self, decide_true, decide_false, cond_true, cond_false, Int.reduceEq, Int.reduceLT, Int.reduceLE, Int.reduceSub, Int.reduceAdd, Bool.true_and, Bool.and_true, Bool.false_and, Bool.and_false, Bool.or_false, Bool.false_or, Bool.true_or, Bool.or_true, true_and, and_true]
  · cases (List.all (List.range n.toNat) _) <;> rfl
end Go.Vm
end

section
set_option maxRecDepth 100000
set_option maxHeartbeats 2000000
namespace Go.Vm
open Go.Proofs
theorem drop_last {row : List Int} (h : 1 ≤ row.length) : row.drop (row.length - 1) = [topN row 0] := by
  rw [List.drop_eq_getElem_cons (by omega), List.drop_eq_nil_of_le (by omega)]
  unfold topN
  rw [List.getD_eq_getElem?_getD, List.getElem?_eq_getElem (by omega)]
  rfl
theorem drop_last2 {row : List Int} (h : 2 ≤ row.length) : row.drop (row.length - 2) = [topN row 1, topN row 0] := by
  rw [List.drop_eq_getElem_cons (by omega), show row.length - 2 + 1 = row.length - 1 by omega, drop_last (by omega)]
  congr 1
  unfold topN
  rw [List.getD_eq_getElem?_getD, List.getElem?_eq_getElem (show row.length - 1 - 1 < row.length by omega)]
  rfl
theorem ends1 (row : List Int) (k : Int) (hk : 1 ≤ k) : endsB row [k] = decide (topB row 0 = k) := by
  unfold endsB topB
  by_cases h : row.length ≤ 0
  · rw [if_pos h, decF (p := (0 : Int) = k) (by omega), decF (p := List.length [k] ≤ row.length) (by simp only [List.length_cons, List.length_nil]; omega), Bool.and_false]
  · rw [if_neg h, decT (p := List.length [k] ≤ row.length) (by simp only [List.length_cons, List.length_nil]; omega), Bool.and_true]
    show (row.drop (row.length - 1) == [k]) = _
    rw [drop_last (by omega), Bool.eq_iff_iff]; simp
theorem ends2 (row : List Int) (k : Int) (hk : 1 ≤ k) : endsB row [k, 1] = (decide (topB row 0 = 1) && decide (topB row 1 = k)) := by
  unfold endsB topB
  by_cases h : row.length ≤ 1
  · rw [if_pos h, decF (p := (0 : Int) = k) (by omega), decF (p := List.length [k, 1] ≤ row.length) (by simp only [List.length_cons, List.length_nil]; omega), Bool.and_false, Bool.and_false]
  · rw [if_neg h, if_neg (by omega), decT (p := List.length [k, 1] ≤ row.length) (by simp only [List.length_cons, List.length_nil]; omega), Bool.and_true]
    show (row.drop (row.length - 2) == [k, 1]) = _
    rw [drop_last2 (by omega), Bool.eq_iff_iff]; simp [and_comm]
theorem c68_k0 (row : List Int) (k : Int) (hr : row.length ≤ 1000) (hk : k ≠ 0) : cF 68 [.d (.sl 1 (irows row)), .d (.int .i64 0), .d (.int .i64 k)] = some (.own 3 1 (irows (row ++ [k]))) := by
  have := c68_k row 0 k hr (by omega) hk
  rwa [show dropTop row 0 = row by unfold dropTop; simp] at this
theorem c68_k1 (row : List Int) (k : Int) (hr : row.length ≤ 1000) (hj : 1 ≤ row.length) (hk : k ≠ 0) : cF 68 [.d (.sl 1 (irows row)), .d (.int .i64 1), .d (.int .i64 k)] = some (.own 3 1 (irows (dropTop row 1 ++ [k]))) := c68_k row 1 k hr hj hk
theorem c68_k2 (row : List Int) (k : Int) (hr : row.length ≤ 1000) (hj : 2 ≤ row.length) (hk : k ≠ 0) : cF 68 [.d (.sl 1 (irows row)), .d (.int .i64 2), .d (.int .i64 k)] = some (.own 3 1 (irows (dropTop row 2 ++ [k]))) := c68_k row 2 k hr hj hk
theorem c68_01 (row : List Int) (hr : row.length ≤ 1000) (hj : 1 ≤ row.length) : cF 68 [.d (.sl 1 (irows row)), .d (.int .i64 1), .d (.int .i64 0)] = some (.own 3 1 (irows (dropTop row 1))) := c68_0 row 1 hr hj
theorem c68_02 (row : List Int) (hr : row.length ≤ 1000) (hj : 2 ≤ row.length) : cF 68 [.d (.sl 1 (irows row)), .d (.int .i64 2), .d (.int .i64 0)] = some (.own 3 1 (irows (dropTop row 2))) := c68_0 row 2 hr hj
theorem topB_len {row : List Int} {j : Nat} {k : Int} (hk : k ≠ 0) (h : topB row j = k) : j + 1 ≤ row.length := by
  unfold topB at h
  by_cases hl : row.length ≤ j
  · rw [if_pos hl] at h; omega
  · omega
theorem c74 (la lb : List Int) (lo hi : Int) (x : Ins) (row : List Int) (hlb : lb.length ≤ 10000) (hk1 : ∀ k ∈ lb, 1 ≤ k) (hr : row.length ≤ 1000) (ha : 0 ≤ x.a) (ha2 : x.a ≤ 65535) (hb0 : 0 ≤ x.b) (hb : x.b ≤ 8) (hop : x.op = 2 ∨ x.op = 3 ∨ x.op = 8 ∨ x.op = 9) :
    ∃ p, cF 74 [shV (irows la) (irows lb) lo hi, insV x, .d (.sl 1 (irows row))] = some p ∧ rowR (memS ⟨la, lb, lo, hi⟩ x row) p := by
  have h102 := c102 (irows la) lb lo hi x.a (max 1 x.b) ha (by omega) (by omega) (by omega) hlb
  have h103 := c103 (irows la) (irows lb) lo hi x.a (max 1 x.b) ha (by omega) (by omega) (by omega)
  have t0 := c71_0 row hr
  have t1 := c71_1 row hr
  unfold shV at h102 h103 ⊢
  unfold insV memS
  simp only
  cases hk : cellsK lb x.a (max 1 x.b) with
  | none =>
    rw [hk] at h102
    simp only [Option.getD_none] at h102
    refine cOfP (by kernel_rfl) rfl ?_
    simp only [g74_eq, g74, some_and, sy_wrap, sy_add, sy_sub, sy_mul, sy_ieq, sy_ilt, sy_ile, sy_seq, sy_beq, sy_bor, sy_bnot, sy_imax, sy_imin, sy_rlen, sy_slen, sy_sapp, sy_inr, sy_nat, sy_cell0, sy_cellS, sy_skip0, sy_inrn, sy_rapp, sy_fits, sy_cutok, sy_cut, sy_scut, sy_sbyte, sy_mkok, sy_mkok0, sy_mkz, sy_rep, sy_head, sy_deq, eqDs_int, eqDs_nil, opI_int, opB_bool, opS_str, opL_sl, opM_own, leaves_val, leaves_own, Option.bind_some, cutO_bool, bif_bool, cutO_inl, cutO_inr, eF_call, eF_lp, Nat.zero_add, Nat.reduceAdd, Bool.cond_false_right, Bool.cond_true_left, Bool.cond_false_left, Bool.cond_true_right, Bool.not_true, Bool.not_false, Bool.not_not, eq_self, decide_true, decide_false, cond_true, cond_false, Int.reduceEq, Int.reduceLT, Int.reduceLE, Int.reduceSub, Int.reduceAdd, Bool.true_and, Bool.and_true, Bool.false_and, Bool.and_false, Bool.or_false, Bool.false_or, Bool.true_or, Bool.or_true, true_and, and_true, h102]
    exact ⟨[], rfl⟩
  | some k =>
    have hkk : 1 ≤ k := hk1 k (cellsK_mem hk ha (by omega))
    have hk0 : k ≠ 0 := by omega
    rw [hk] at h102
    simp only [Option.getD_some] at h102
    have kz := decF hk0
    simp only
    rcases hop with h | h | h | h
    · rw [if_pos h]
      refine cOfP (by kernel_rfl) rfl ?_
      simp only [g74_eq, g74, some_and, sy_wrap, sy_add, sy_sub, sy_mul, sy_ieq, sy_ilt, sy_ile, sy_seq, sy_beq, sy_bor, sy_bnot, sy_imax, sy_imin, sy_rlen, sy_slen, sy_sapp, sy_inr, sy_nat, sy_cell0, sy_cellS, sy_skip0, sy_inrn, sy_rapp, sy_fits, sy_cutok, sy_cut, sy_scut, sy_sbyte, sy_mkok, sy_mkok0, sy_mkz, sy_rep, sy_head, sy_deq, eqDs_int, eqDs_nil, opI_int, opB_bool, opS_str, opL_sl, opM_own, leaves_val, leaves_own, Option.bind_some, cutO_bool, bif_bool, cutO_inl, cutO_inr, eF_call, eF_lp, Nat.zero_add, Nat.reduceAdd, Bool.cond_false_right, Bool.cond_true_left, Bool.cond_false_left, Bool.cond_true_right, Bool.not_true, Bool.not_false, Bool.not_not, eq_self, decide_true, decide_false, cond_true, cond_false, Int.reduceEq, Int.reduceLT, Int.reduceLE, Int.reduceSub, Int.reduceAdd, Bool.true_and, Bool.and_true, Bool.false_and, Bool.and_false, Bool.or_false, Bool.false_or, Bool.true_or, Bool.or_true, true_and, and_true, h102, h, kz, c68_k0 row k hr hk0, irows_len]
      by_cases hl : row.length < 16
      · rw [if_pos hl, decT (by omega)]; rfl
      · rw [if_neg hl, decF (by omega)]; exact ⟨_, rfl⟩
    · rw [if_neg (by omega), if_neg (by omega), if_pos h, ends1 row k hkk]
      by_cases he : topB row 0 = k
      · have hlen := topB_len hk0 he
        cases hf : fixedB lo hi x.a (max 1 x.b) with
        | true =>
          refine cOfP (by kernel_rfl) rfl ?_
          simp only [g74_eq, g74, some_and, sy_wrap, sy_add, sy_sub, sy_mul, sy_ieq, sy_ilt, sy_ile, sy_seq, sy_beq, sy_bor, sy_bnot, sy_imax, sy_imin, sy_rlen, sy_slen, sy_sapp, sy_inr, sy_nat, sy_cell0, sy_cellS, sy_skip0, sy_inrn, sy_rapp, sy_fits, sy_cutok, sy_cut, sy_scut, sy_sbyte, sy_mkok, sy_mkok0, sy_mkz, sy_rep, sy_head, sy_deq, eqDs_int, eqDs_nil, opI_int, opB_bool, opS_str, opL_sl, opM_own, leaves_val, leaves_own, Option.bind_some, cutO_bool, bif_bool, cutO_inl, cutO_inr, eF_call, eF_lp, Nat.zero_add, Nat.reduceAdd, Bool.cond_false_right, Bool.cond_true_left, Bool.cond_false_left, Bool.cond_true_right, Bool.not_true, Bool.not_false, Bool.not_not, eq_self, decide_true, decide_false, cond_true, cond_false, Int.reduceEq, Int.reduceLT, Int.reduceLE, Int.reduceSub, Int.reduceAdd, Bool.true_and, Bool.and_true, Bool.false_and, Bool.and_false, Bool.or_false, Bool.false_or, Bool.true_or, Bool.or_true, true_and, and_true, h102, h, kz, t0, h103, decT he, hf]
          exact ⟨[], rfl⟩
        | false =>
          refine cOfP (by kernel_rfl) rfl ?_
          simp only [g74_eq, g74, some_and, sy_wrap, sy_add, sy_sub, sy_mul, sy_ieq, sy_ilt, sy_ile, sy_seq, sy_beq, sy_bor, sy_bnot, sy_imax, sy_imin, sy_rlen, sy_slen, sy_sapp, sy_inr, sy_nat, sy_cell0, sy_cellS, sy_skip0, sy_inrn, sy_rapp, sy_fits, sy_cutok, sy_cut, sy_scut, sy_sbyte, sy_mkok, sy_mkok0, sy_mkz, sy_rep, sy_head, sy_deq, eqDs_int, eqDs_nil, opI_int, opB_bool, opS_str, opL_sl, opM_own, leaves_val, leaves_own, Option.bind_some, cutO_bool, bif_bool, cutO_inl, cutO_inr, eF_call, eF_lp, Nat.zero_add, Nat.reduceAdd, Bool.cond_false_right, Bool.cond_true_left, Bool.cond_false_left, Bool.cond_true_right, Bool.not_true, Bool.not_false, Bool.not_not, eq_self, decide_true, decide_false, cond_true, cond_false, Int.reduceEq, Int.reduceLT, Int.reduceLE, Int.reduceSub, Int.reduceAdd, Bool.true_and, Bool.and_true, Bool.false_and, Bool.and_false, Bool.or_false, Bool.false_or, Bool.true_or, Bool.or_true, true_and, and_true, h102, h, kz, t0, h103, decT he, hf, c68_01 row hr hlen]
          rfl
      · refine cOfP (by kernel_rfl) rfl ?_
        simp only [g74_eq, g74, some_and, sy_wrap, sy_add, sy_sub, sy_mul, sy_ieq, sy_ilt, sy_ile, sy_seq, sy_beq, sy_bor, sy_bnot, sy_imax, sy_imin, sy_rlen, sy_slen, sy_sapp, sy_inr, sy_nat, sy_cell0, sy_cellS, sy_skip0, sy_inrn, sy_rapp, sy_fits, sy_cutok, sy_cut, sy_scut, sy_sbyte, sy_mkok, sy_mkok0, sy_mkz, sy_rep, sy_head, sy_deq, eqDs_int, eqDs_nil, opI_int, opB_bool, opS_str, opL_sl, opM_own, leaves_val, leaves_own, Option.bind_some, cutO_bool, bif_bool, cutO_inl, cutO_inr, eF_call, eF_lp, Nat.zero_add, Nat.reduceAdd, Bool.cond_false_right, Bool.cond_true_left, Bool.cond_false_left, Bool.cond_true_right, Bool.not_true, Bool.not_false, Bool.not_not, eq_self, decide_true, decide_false, cond_true, cond_false, Int.reduceEq, Int.reduceLT, Int.reduceLE, Int.reduceSub, Int.reduceAdd, Bool.true_and, Bool.and_true, Bool.false_and, Bool.and_false, Bool.or_false, Bool.false_or, Bool.true_or, Bool.or_true, true_and, and_true, h102, h, kz, t0, h103, decF he]
        exact ⟨[], rfl⟩
    · rw [if_neg (by omega), if_pos h, ends1 row 1 (by omega)]
      by_cases he : topB row 0 = 1
      · have hlen := topB_len (by omega) he
        refine cOfP (by kernel_rfl) rfl ?_
        simp only [g74_eq, g74, some_and, sy_wrap, sy_add, sy_sub, sy_mul, sy_ieq, sy_ilt, sy_ile, sy_seq, sy_beq, sy_bor, sy_bnot, sy_imax, sy_imin, sy_rlen, sy_slen, sy_sapp, sy_inr, sy_nat, sy_cell0, sy_cellS, sy_skip0, sy_inrn, sy_rapp, sy_fits, sy_cutok, sy_cut, sy_scut, sy_sbyte, sy_mkok, sy_mkok0, sy_mkz, sy_rep, sy_head, sy_deq, eqDs_int, eqDs_nil, opI_int, opB_bool, opS_str, opL_sl, opM_own, leaves_val, leaves_own, Option.bind_some, cutO_bool, bif_bool, cutO_inl, cutO_inr, eF_call, eF_lp, Nat.zero_add, Nat.reduceAdd, Bool.cond_false_right, Bool.cond_true_left, Bool.cond_false_left, Bool.cond_true_right, Bool.not_true, Bool.not_false, Bool.not_not, eq_self, decide_true, decide_false, cond_true, cond_false, Int.reduceEq, Int.reduceLT, Int.reduceLE, Int.reduceSub, Int.reduceAdd, Bool.true_and, Bool.and_true, Bool.false_and, Bool.and_false, Bool.or_false, Bool.false_or, Bool.true_or, Bool.or_true, true_and, and_true, h102, h, kz, t0, decT he, c68_k1 row k hr hlen hk0]
        rfl
      · refine cOfP (by kernel_rfl) rfl ?_
        simp only [g74_eq, g74, some_and, sy_wrap, sy_add, sy_sub, sy_mul, sy_ieq, sy_ilt, sy_ile, sy_seq, sy_beq, sy_bor, sy_bnot, sy_imax, sy_imin, sy_rlen, sy_slen, sy_sapp, sy_inr, sy_nat, sy_cell0, sy_cellS, sy_skip0, sy_inrn, sy_rapp, sy_fits, sy_cutok, sy_cut, sy_scut, sy_sbyte, sy_mkok, sy_mkok0, sy_mkz, sy_rep, sy_head, sy_deq, eqDs_int, eqDs_nil, opI_int, opB_bool, opS_str, opL_sl, opM_own, leaves_val, leaves_own, Option.bind_some, cutO_bool, bif_bool, cutO_inl, cutO_inr, eF_call, eF_lp, Nat.zero_add, Nat.reduceAdd, Bool.cond_false_right, Bool.cond_true_left, Bool.cond_false_left, Bool.cond_true_right, Bool.not_true, Bool.not_false, Bool.not_not, eq_self, decide_true, decide_false, cond_true, cond_false, Int.reduceEq, Int.reduceLT, Int.reduceLE, Int.reduceSub, Int.reduceAdd, Bool.true_and, Bool.and_true, Bool.false_and, Bool.and_false, Bool.or_false, Bool.false_or, Bool.true_or, Bool.or_true, true_and, and_true, h102, h, kz, t0, decF he]
        exact ⟨[], rfl⟩
    · rw [if_neg (by omega), if_neg (by omega), if_neg (by omega), ends2 row k hkk]
      by_cases he : topB row 0 = 1
      · by_cases he2 : topB row 1 = k
        · have hlen := topB_len hk0 he2
          cases hf : fixedB lo hi x.a (max 1 x.b) with
          | true =>
            refine cOfP (by kernel_rfl) rfl ?_
            simp only [g74_eq, g74, some_and, sy_wrap, sy_add, sy_sub, sy_mul, sy_ieq, sy_ilt, sy_ile, sy_seq, sy_beq, sy_bor, sy_bnot, sy_imax, sy_imin, sy_rlen, sy_slen, sy_sapp, sy_inr, sy_nat, sy_cell0, sy_cellS, sy_skip0, sy_inrn, sy_rapp, sy_fits, sy_cutok, sy_cut, sy_scut, sy_sbyte, sy_mkok, sy_mkok0, sy_mkz, sy_rep, sy_head, sy_deq, eqDs_int, eqDs_nil, opI_int, opB_bool, opS_str, opL_sl, opM_own, leaves_val, leaves_own, Option.bind_some, cutO_bool, bif_bool, cutO_inl, cutO_inr, eF_call, eF_lp, Nat.zero_add, Nat.reduceAdd, Bool.cond_false_right, Bool.cond_true_left, Bool.cond_false_left, Bool.cond_true_right, Bool.not_true, Bool.not_false, Bool.not_not, eq_self, decide_true, decide_false, cond_true, cond_false, Int.reduceEq, Int.reduceLT, Int.reduceLE, Int.reduceSub, Int.reduceAdd, Bool.true_and, Bool.and_true, Bool.false_and, Bool.and_false, Bool.or_false, Bool.false_or, Bool.true_or, Bool.or_true, true_and, and_true, h102, h, kz, t0, t1, h103, decT he, decT he2, hf]
            exact ⟨[], rfl⟩
          | false =>
            refine cOfP (by kernel_rfl) rfl ?_
            simp only [g74_eq, g74, some_and, sy_wrap, sy_add, sy_sub, sy_mul, sy_ieq, sy_ilt, sy_ile, sy_seq, sy_beq, sy_bor, sy_bnot, sy_imax, sy_imin, sy_rlen, sy_slen, sy_sapp, sy_inr, sy_nat, sy_cell0, sy_cellS, sy_skip0, sy_inrn, sy_rapp, sy_fits, sy_cutok, sy_cut, sy_scut, sy_sbyte, sy_mkok, sy_mkok0, sy_mkz, sy_rep, sy_head, sy_deq, eqDs_int, eqDs_nil, opI_int, opB_bool, opS_str, opL_sl, opM_own, leaves_val, leaves_own, Option.bind_some, cutO_bool, bif_bool, cutO_inl, cutO_inr, eF_call, eF_lp, Nat.zero_add, Nat.reduceAdd, Bool.cond_false_right, Bool.cond_true_left, Bool.cond_false_left, Bool.cond_true_right, Bool.not_true, Bool.not_false, Bool.not_not, eq_self, decide_true, decide_false, cond_true, cond_false, Int.reduceEq, Int.reduceLT, Int.reduceLE, Int.reduceSub, Int.reduceAdd, Bool.true_and, Bool.and_true, Bool.false_and, Bool.and_false, Bool.or_false, Bool.false_or, Bool.true_or, Bool.or_true, true_and, and_true, h102, h, kz, t0, t1, h103, decT he, decT he2, hf, c68_02 row hr hlen]
            rfl
        · refine cOfP (by kernel_rfl) rfl ?_
          simp only [g74_eq, g74, some_and, sy_wrap, sy_add, sy_sub, sy_mul, sy_ieq, sy_ilt, sy_ile, sy_seq, sy_beq, sy_bor, sy_bnot, sy_imax, sy_imin, sy_rlen, sy_slen, sy_sapp, sy_inr, sy_nat, sy_cell0, sy_cellS, sy_skip0, sy_inrn, sy_rapp, sy_fits, sy_cutok, sy_cut, sy_scut, sy_sbyte, sy_mkok, sy_mkok0, sy_mkz, sy_rep, sy_head, sy_deq, eqDs_int, eqDs_nil, opI_int, opB_bool, opS_str, opL_sl, opM_own, leaves_val, leaves_own, Option.bind_some, cutO_bool, bif_bool, cutO_inl, cutO_inr, eF_call, eF_lp, Nat.zero_add, Nat.reduceAdd, Bool.cond_false_right, Bool.cond_true_left, Bool.cond_false_left, Bool.cond_true_right, Bool.not_true, Bool.not_false, Bool.not_not, eq_self, decide_true, decide_false, cond_true, cond_false, Int.reduceEq, Int.reduceLT, Int.reduceLE, Int.reduceSub, Int.reduceAdd, Bool.true_and, Bool.and_true, Bool.false_and, Bool.and_false, Bool.or_false, Bool.false_or, Bool.true_or, Bool.or_true, true_and, and_true, h102, h, kz, t0, t1, h103, decT he, decF he2]
          exact ⟨[], rfl⟩
      · refine cOfP (by kernel_rfl) rfl ?_
        simp only [g74_eq, g74, some_and, sy_wrap, sy_add, sy_sub, sy_mul, sy_ieq, sy_ilt, sy_ile, sy_seq, sy_beq, sy_bor, sy_bnot, sy_imax, sy_imin, sy_rlen, sy_slen, sy_sapp, sy_inr, sy_nat, sy_cell0, sy_cellS, sy_skip0, sy_inrn, sy_rapp, sy_fits, sy_cutok, sy_cut, sy_scut, sy_sbyte, sy_mkok, sy_mkok0, sy_mkz, sy_rep, sy_head, sy_deq, eqDs_int, eqDs_nil, opI_int, opB_bool, opS_str, opL_sl, opM_own, leaves_val, leaves_own, Option.bind_some, cutO_bool, bif_bool, cutO_inl, cutO_inr, eF_call, eF_lp, Nat.zero_add, Nat.reduceAdd, Bool.cond_false_right, Bool.cond_true_left, Bool.cond_false_left, Bool.cond_true_right, Bool.not_true, Bool.not_false, Bool.not_not, eq_self, decide_true, decide_false, cond_true, cond_false, Int.reduceEq, Int.reduceLT, Int.reduceLE, Int.reduceSub, Int.reduceAdd, Bool.true_and, Bool.and_true, Bool.false_and, Bool.and_false, Bool.or_false, Bool.false_or, Bool.true_or, Bool.or_true, true_and, and_true, h102, h, kz, t0, t1, h103, decF he]
        exact ⟨[], rfl⟩
end Go.Vm
end
