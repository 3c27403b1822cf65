/-
  Part F of the proof. What is proved by the whole: the statement that the claim names, with no condition. This part: lemmas.
-/
import Derived.Test.YtmmcmfcnpfbifaaE
set_option linter.unusedSimpArgs false
set_option linter.unusedVariables false

section
set_option maxRecDepth 1000000
set_option maxHeartbeats 0
namespace Go.Vm
open Go.Proofs
def g20 (A : Sy) (E : Env) (code_ : List (List D)) (at_ : Int) : Option PRes :=
  cutO (
    bif (A.ilt at_ 0) then
      some (.inl [(D.bool true)])
    else
      some (.inl [(D.bool (A.ile (A.rlen code_) at_))])
  ) fun ds1 =>
  (opB (A.cell ds1 0)).bind fun b2 =>
  bif b2 then
    some (PRes.own 3 1 [])
  else
    bif (A.inr at_ (A.rlen code_)) then
      (opI (A.cell (A.row code_ at_) 0) IntKind.i64).bind fun n3 =>
      (opI (A.cell (A.row code_ at_) 1) IntKind.i64).bind fun n4 =>
      (opI (A.cell (A.row code_ at_) 2) IntKind.i64).bind fun n5 =>
      (opI (A.cell (A.row code_ at_) 3) IntKind.i64).bind fun n6 =>
      cutO (
        cutO (
          bif (A.bnot (A.ieq n3 10)) then
            some (.inl [(D.bool (A.bnot (A.ieq n3 6)))])
          else
            some (.inl [(D.bool false)])
        ) fun ds7 =>
        (opB (A.cell ds7 0)).bind fun b8 =>
        bif b8 then
          bif (A.fits [] [[(D.int IntKind.i64 (A.wrap IntKind.i64 (A.add at_ 1)))]] 8) then
            some (.inl [(D.sl 4 code_), (D.int IntKind.i64 at_), (D.int IntKind.i64 n3), (D.int IntKind.i64 n4), (D.int IntKind.i64 n5), (D.int IntKind.i64 n6), (D.sl 1 (A.rapp [] [[(D.int IntKind.i64 (A.wrap IntKind.i64 (A.add at_ 1)))]]))])
          else
            none
        else
          some (.inl [(D.sl 4 code_), (D.int IntKind.i64 at_), (D.int IntKind.i64 n3), (D.int IntKind.i64 n4), (D.int IntKind.i64 n5), (D.int IntKind.i64 n6), (D.sl 1 [])])
      ) fun ds9 =>
      (opL (A.cell ds9 0) 4).bind fun l10 =>
      (opI (A.cell ds9 1) IntKind.i64).bind fun n11 =>
      (opI (A.cell ds9 2) IntKind.i64).bind fun n12 =>
      (opI (A.cell ds9 3) IntKind.i64).bind fun n13 =>
      (opI (A.cell ds9 4) IntKind.i64).bind fun n14 =>
      (opI (A.cell ds9 5) IntKind.i64).bind fun n15 =>
      (opL (A.cell ds9 6) 1).bind fun l16 =>
      cutO (
        cutO (
          bif (A.ieq n12 6) then
            some (.inl [(D.bool true)])
          else
            some (.inl [(D.bool (A.ieq n12 7))])
        ) fun ds17 =>
        (opB (A.cell ds17 0)).bind fun b18 =>
        bif b18 then
          bif (A.fits l16 [[(D.int IntKind.i64 n13)]] 8) then
            some (.inl [(D.sl 4 l10), (D.int IntKind.i64 n11), (D.int IntKind.i64 n12), (D.int IntKind.i64 n13), (D.int IntKind.i64 n14), (D.int IntKind.i64 n15), (D.sl 1 (A.rapp l16 [[(D.int IntKind.i64 n13)]]))])
          else
            none
        else
          some (.inl [(D.sl 4 l10), (D.int IntKind.i64 n11), (D.int IntKind.i64 n12), (D.int IntKind.i64 n13), (D.int IntKind.i64 n14), (D.int IntKind.i64 n15), (D.sl 1 l16)])
      ) fun ds19 =>
      (opL (A.cell ds19 0) 4).bind fun l20 =>
      (opI (A.cell ds19 1) IntKind.i64).bind fun n21 =>
      (opI (A.cell ds19 2) IntKind.i64).bind fun n22 =>
      (opI (A.cell ds19 3) IntKind.i64).bind fun n23 =>
      (opI (A.cell ds19 4) IntKind.i64).bind fun n24 =>
      (opI (A.cell ds19 5) IntKind.i64).bind fun n25 =>
      (opL (A.cell ds19 6) 1).bind fun l26 =>
      (E.call 75 [(V.d (D.sl 1 l26)), (V.fn 44 [(V.pel [(D.int IntKind.i64 n21)]), (V.pel [(D.sl 4 l20)])])]).bind fun p27 =>
      (opI (A.cell p27.leaves 0) IntKind.i64).bind fun n29 =>
      bif (A.ieq n29 (-1)) then
        E.lp (fun ds30 =>
          (opI (A.cell ds30 0) IntKind.i64).bind fun n31 =>
          (opI (A.cell ds30 1) IntKind.i64).bind fun n32 =>
          (opL (A.cell ds30 2) 4).bind fun l33 =>
          (opI (A.cell ds30 3) IntKind.i64).bind fun n34 =>
          (opI (A.cell ds30 4) IntKind.i64).bind fun n35 =>
          (opI (A.cell ds30 5) IntKind.i64).bind fun n36 =>
          (opI (A.cell ds30 6) IntKind.i64).bind fun n37 =>
          (opI (A.cell ds30 7) IntKind.i64).bind fun n38 =>
          (opL (A.cell ds30 8) 1).bind fun l39 =>
          (opL (A.cell ds30 9) 1).bind fun l40 =>
          (opL (A.cell ds30 10) 1).bind fun l41 =>
          (opL (A.cell ds30 11) 1).bind fun l42 =>
          (opL (A.cell ds30 12) 1).bind fun l43 =>
          bif (A.ilt n32 n31) then
            bif (A.inr n32 (A.rlen l39)) then
              (opI (A.cell (A.rown l39 (A.nat n32)) 0) IntKind.i64).bind fun n44 =>
              bif (A.fits l42 [[(D.int IntKind.i64 n44)]] 8) then
                bif (A.bnot true) then
                  (E.call 106 [(V.d (D.int IntKind.u64 (A.wrap IntKind.u64 (A.rlen (A.rapp l42 [[(D.int IntKind.i64 n44)]])))))]).bind fun p45 =>
                  (opI (A.cell p45.leaves 0) IntKind.i64).bind fun n47 =>
                  E.lp (fun ds48 =>
                    (opI (A.cell ds48 0) IntKind.i64).bind fun n49 =>
                    (opI (A.cell ds48 1) IntKind.i64).bind fun n50 =>
                    (opI (A.cell ds48 2) IntKind.i64).bind fun n51 =>
                    (opB (A.cell ds48 3)).bind fun b52 =>
                    (opB (A.cell ds48 4)).bind fun b53 =>
                    (opL (A.cell ds48 5) 4).bind fun l54 =>
                    (opI (A.cell ds48 6) IntKind.i64).bind fun n55 =>
                    (opI (A.cell ds48 7) IntKind.i64).bind fun n56 =>
                    (opI (A.cell ds48 8) IntKind.i64).bind fun n57 =>
                    (opI (A.cell ds48 9) IntKind.i64).bind fun n58 =>
                    (opI (A.cell ds48 10) IntKind.i64).bind fun n59 =>
                    (opL (A.cell ds48 11) 1).bind fun l60 =>
                    (opL (A.cell ds48 12) 1).bind fun l61 =>
                    (opL (A.cell ds48 13) 1).bind fun l62 =>
                    (opL (A.cell ds48 14) 1).bind fun l63 =>
                    (opL (A.cell ds48 15) 1).bind fun l64 =>
                    bif (A.ile (A.wrap IntKind.i64 (A.sub n50 n49)) 12) then
                      E.lp (fun ds65 =>
                        (opI (A.cell ds65 0) IntKind.i64).bind fun n66 =>
                        (opI (A.cell ds65 1) IntKind.i64).bind fun n67 =>
                        (opI (A.cell ds65 2) IntKind.i64).bind fun n68 =>
                        (opL (A.cell ds65 3) 4).bind fun l69 =>
                        (opI (A.cell ds65 4) IntKind.i64).bind fun n70 =>
                        (opI (A.cell ds65 5) IntKind.i64).bind fun n71 =>
                        (opI (A.cell ds65 6) IntKind.i64).bind fun n72 =>
                        (opI (A.cell ds65 7) IntKind.i64).bind fun n73 =>
                        (opI (A.cell ds65 8) IntKind.i64).bind fun n74 =>
                        (opL (A.cell ds65 9) 1).bind fun l75 =>
                        (opL (A.cell ds65 10) 1).bind fun l76 =>
                        (opL (A.cell ds65 11) 1).bind fun l77 =>
                        (opL (A.cell ds65 12) 1).bind fun l78 =>
                        (opL (A.cell ds65 13) 1).bind fun l79 =>
                        bif (A.ilt n68 n67) then
                          E.lp (fun ds80 =>
                            (opI (A.cell ds80 0) IntKind.i64).bind fun n81 =>
                            (opI (A.cell ds80 1) IntKind.i64).bind fun n82 =>
                            (opI (A.cell ds80 2) IntKind.i64).bind fun n83 =>
                            (opI (A.cell ds80 3) IntKind.i64).bind fun n84 =>
                            (opL (A.cell ds80 4) 4).bind fun l85 =>
                            (opI (A.cell ds80 5) IntKind.i64).bind fun n86 =>
                            (opI (A.cell ds80 6) IntKind.i64).bind fun n87 =>
                            (opI (A.cell ds80 7) IntKind.i64).bind fun n88 =>
                            (opI (A.cell ds80 8) IntKind.i64).bind fun n89 =>
                            (opI (A.cell ds80 9) IntKind.i64).bind fun n90 =>
                            (opL (A.cell ds80 10) 1).bind fun l91 =>
                            (opL (A.cell ds80 11) 1).bind fun l92 =>
                            (opL (A.cell ds80 12) 1).bind fun l93 =>
                            (opL (A.cell ds80 13) 1).bind fun l94 =>
                            (opL (A.cell ds80 14) 1).bind fun l95 =>
                            bif (A.ilt n81 n84) then
                              bif (A.inr n84 (A.rlen l94)) then
                                (opI (A.cell (A.rown l94 (A.nat n84)) 0) IntKind.i64).bind fun n96 =>
                                bif (A.inr (A.wrap IntKind.i64 (A.sub n84 1)) (A.rlen l94)) then
                                  (opI (A.cell (A.rown l94 (A.nat (A.wrap IntKind.i64 (A.sub n84 1)))) 0) IntKind.i64).bind fun n97 =>
                                  (E.call 125 [(V.d (D.int IntKind.i64 n96)), (V.d (D.int IntKind.i64 n97))]).bind fun p98 =>
                                  (opB (A.cell p98.leaves 0)).bind fun b100 =>
                                  bif b100 then
                                    bif (A.inr (A.wrap IntKind.i64 (A.sub n84 1)) (A.rlen l94)) then
                                      (opI (A.cell (A.rown l94 (A.nat (A.wrap IntKind.i64 (A.sub n84 1)))) 0) IntKind.i64).bind fun n101 =>
                                      bif (A.inr n84 (A.rlen l94)) then
                                        (opI (A.cell (A.rown l94 (A.nat n84)) 0) IntKind.i64).bind fun n102 =>
                                        bif (A.inr n84 (A.rlen l94)) then
                                          bif (A.inrn (A.nat n84) l94) then
                                            bif (A.inr (A.wrap IntKind.i64 (A.sub n84 1)) (A.rlen (A.rput l94 (A.nat n84) 0 [(D.int IntKind.i64 n101)]))) then
                                              bif (A.inrn (A.nat (A.wrap IntKind.i64 (A.sub n84 1))) (A.rput l94 (A.nat n84) 0 [(D.int IntKind.i64 n101)])) then
                                                some (.inl [(D.int IntKind.i64 n81), (D.int IntKind.i64 n82), (D.int IntKind.i64 n83), (D.int IntKind.i64 (A.wrap IntKind.i64 (A.sub n84 1))), (D.sl 4 l85), (D.int IntKind.i64 n86), (D.int IntKind.i64 n87), (D.int IntKind.i64 n88), (D.int IntKind.i64 n89), (D.int IntKind.i64 n90), (D.sl 1 l91), (D.sl 1 l92), (D.sl 1 l93), (D.sl 1 (A.rput (A.rput l94 (A.nat n84) 0 [(D.int IntKind.i64 n101)]) (A.nat (A.wrap IntKind.i64 (A.sub n84 1))) 0 [(D.int IntKind.i64 n102)])), (D.sl 1 l95)])
                                              else
                                                none
                                            else
                                              none
                                          else
                                            none
                                        else
                                          none
                                      else
                                        none
                                    else
                                      none
                                  else
                                    some (.inr (.inl [(D.int IntKind.i64 n81), (D.int IntKind.i64 n82), (D.int IntKind.i64 (A.wrap IntKind.i64 (A.add n83 1))), (D.sl 4 l85), (D.int IntKind.i64 n86), (D.int IntKind.i64 n87), (D.int IntKind.i64 n88), (D.int IntKind.i64 n89), (D.int IntKind.i64 n90), (D.sl 1 l91), (D.sl 1 l92), (D.sl 1 l93), (D.sl 1 l94), (D.sl 1 l95)]))
                                else
                                  none
                              else
                                none
                            else
                              some (.inr (.inl [(D.int IntKind.i64 n81), (D.int IntKind.i64 n82), (D.int IntKind.i64 (A.wrap IntKind.i64 (A.add n83 1))), (D.sl 4 l85), (D.int IntKind.i64 n86), (D.int IntKind.i64 n87), (D.int IntKind.i64 n88), (D.int IntKind.i64 n89), (D.int IntKind.i64 n90), (D.sl 1 l91), (D.sl 1 l92), (D.sl 1 l93), (D.sl 1 l94), (D.sl 1 l95)]))
                          ) [(D.int IntKind.i64 n66), (D.int IntKind.i64 n67), (D.int IntKind.i64 n68), (D.int IntKind.i64 n68), (D.sl 4 l69), (D.int IntKind.i64 n70), (D.int IntKind.i64 n71), (D.int IntKind.i64 n72), (D.int IntKind.i64 n73), (D.int IntKind.i64 n74), (D.sl 1 l75), (D.sl 1 l76), (D.sl 1 l77), (D.sl 1 l78), (D.sl 1 l79)]
                        else
                          bif (A.ilt (A.rlen l78) 2) then
                            some (.inr (.inr (.inr (PRes.own 3 1 l78))))
                          else
                            E.lp (fun ds103 =>
                              (opI (A.cell ds103 0) IntKind.i64).bind fun n104 =>
                              (opL (A.cell ds103 1) 4).bind fun l105 =>
                              (opI (A.cell ds103 2) IntKind.i64).bind fun n106 =>
                              (opI (A.cell ds103 3) IntKind.i64).bind fun n107 =>
                              (opI (A.cell ds103 4) IntKind.i64).bind fun n108 =>
                              (opI (A.cell ds103 5) IntKind.i64).bind fun n109 =>
                              (opI (A.cell ds103 6) IntKind.i64).bind fun n110 =>
                              (opL (A.cell ds103 7) 1).bind fun l111 =>
                              (opL (A.cell ds103 8) 1).bind fun l112 =>
                              (opL (A.cell ds103 9) 1).bind fun l113 =>
                              (opL (A.cell ds103 10) 1).bind fun l114 =>
                              (opL (A.cell ds103 11) 1).bind fun l115 =>
                              bif (A.ilt n104 (A.rlen l114)) then
                                bif (A.inr n104 (A.rlen l114)) then
                                  (opI (A.cell (A.rown l114 (A.nat n104)) 0) IntKind.i64).bind fun n116 =>
                                  bif (A.inr (A.wrap IntKind.i64 (A.sub n104 1)) (A.rlen l114)) then
                                    (opI (A.cell (A.rown l114 (A.nat (A.wrap IntKind.i64 (A.sub n104 1)))) 0) IntKind.i64).bind fun n117 =>
                                    bif (A.ieq n116 n117) then
                                      bif (A.cutok n104 (A.rlen l114) (A.rlen l114)) then
                                        E.lp (fun ds118 =>
                                          (opI (A.cell ds118 0) IntKind.i64).bind fun n119 =>
                                          (opI (A.cell ds118 1) IntKind.i64).bind fun n120 =>
                                          (opI (A.cell ds118 2) IntKind.i64).bind fun n121 =>
                                          (opI (A.cell ds118 3) IntKind.i64).bind fun n122 =>
                                          (opL (A.cell ds118 4) 4).bind fun l123 =>
                                          (opI (A.cell ds118 5) IntKind.i64).bind fun n124 =>
                                          (opI (A.cell ds118 6) IntKind.i64).bind fun n125 =>
                                          (opI (A.cell ds118 7) IntKind.i64).bind fun n126 =>
                                          (opI (A.cell ds118 8) IntKind.i64).bind fun n127 =>
                                          (opI (A.cell ds118 9) IntKind.i64).bind fun n128 =>
                                          (opL (A.cell ds118 10) 1).bind fun l129 =>
                                          (opL (A.cell ds118 11) 1).bind fun l130 =>
                                          (opL (A.cell ds118 12) 1).bind fun l131 =>
                                          (opL (A.cell ds118 13) 1).bind fun l132 =>
                                          (opL (A.cell ds118 14) 1).bind fun l133 =>
                                          bif (A.ilt n122 n121) then
                                            bif (A.inr n122 n121) then
                                              (opI (A.cell (A.rown l132 (A.nat (A.add n120 n122))) 0) IntKind.i64).bind fun n134 =>
                                              bif (A.inr (A.wrap IntKind.i64 (A.sub n122 1)) n121) then
                                                (opI (A.cell (A.rown l132 (A.nat (A.add n120 (A.wrap IntKind.i64 (A.sub n122 1))))) 0) IntKind.i64).bind fun n135 =>
                                                bif (A.bnot (A.ieq n134 n135)) then
                                                  bif (A.inr n122 n121) then
                                                    (opI (A.cell (A.rown l132 (A.nat (A.add n120 n122))) 0) IntKind.i64).bind fun n136 =>
                                                    bif (A.inr n119 (A.rlen l132)) then
                                                      bif (A.inrn (A.nat n119) l132) then
                                                        some (.inl [(D.int IntKind.i64 (A.wrap IntKind.i64 (A.add n119 1))), (D.int IntKind.i64 n120), (D.int IntKind.i64 n121), (D.int IntKind.i64 (A.wrap IntKind.i64 (A.add n122 1))), (D.sl 4 l123), (D.int IntKind.i64 n124), (D.int IntKind.i64 n125), (D.int IntKind.i64 n126), (D.int IntKind.i64 n127), (D.int IntKind.i64 n128), (D.sl 1 l129), (D.sl 1 l130), (D.sl 1 l131), (D.sl 1 (A.rput l132 (A.nat n119) 0 [(D.int IntKind.i64 n136)])), (D.sl 1 l133)])
                                                      else
                                                        none
                                                    else
                                                      none
                                                  else
                                                    none
                                                else
                                                  some (.inl [(D.int IntKind.i64 n119), (D.int IntKind.i64 n120), (D.int IntKind.i64 n121), (D.int IntKind.i64 (A.wrap IntKind.i64 (A.add n122 1))), (D.sl 4 l123), (D.int IntKind.i64 n124), (D.int IntKind.i64 n125), (D.int IntKind.i64 n126), (D.int IntKind.i64 n127), (D.int IntKind.i64 n128), (D.sl 1 l129), (D.sl 1 l130), (D.sl 1 l131), (D.sl 1 l132), (D.sl 1 l133)])
                                              else
                                                none
                                            else
                                              none
                                          else
                                            bif (A.cutok n119 (A.rlen l132) (A.rlen l132)) then
                                              bif (A.cutok n119 (A.add n119 (A.sub (A.rlen l132) n119)) (A.rlen l132)) then
                                                bif (A.cutok 0 n119 (A.rlen (A.rcopy l132 n119 (A.sub (A.rlen l132) n119) (A.rep (A.sub (A.rlen l132) n119) [(D.int IntKind.i64 0)])))) then
                                                  some (.inr (.inr (.inr (.inr (.inr (PRes.own 3 1 (A.head (A.rcopy l132 n119 (A.sub (A.rlen l132) n119) (A.rep (A.sub (A.rlen l132) n119) [(D.int IntKind.i64 0)])) n119)))))))
                                                else
                                                  none
                                              else
                                                none
                                            else
                                              none
                                        ) [(D.int IntKind.i64 n104), (D.int IntKind.i64 n104), (D.int IntKind.i64 (A.sub (A.rlen l114) n104)), (D.int IntKind.i64 1), (D.sl 4 l105), (D.int IntKind.i64 n106), (D.int IntKind.i64 n107), (D.int IntKind.i64 n108), (D.int IntKind.i64 n109), (D.int IntKind.i64 n110), (D.sl 1 l111), (D.sl 1 l112), (D.sl 1 l113), (D.sl 1 l114), (D.sl 1 l115)]
                                      else
                                        none
                                    else
                                      some (.inl [(D.int IntKind.i64 (A.wrap IntKind.i64 (A.add n104 1))), (D.sl 4 l105), (D.int IntKind.i64 n106), (D.int IntKind.i64 n107), (D.int IntKind.i64 n108), (D.int IntKind.i64 n109), (D.int IntKind.i64 n110), (D.sl 1 l111), (D.sl 1 l112), (D.sl 1 l113), (D.sl 1 l114), (D.sl 1 l115)])
                                  else
                                    none
                                else
                                  none
                              else
                                some (.inr (.inr (.inr (.inr (PRes.own 3 1 l114)))))
                            ) [(D.int IntKind.i64 1), (D.sl 4 l69), (D.int IntKind.i64 n70), (D.int IntKind.i64 n71), (D.int IntKind.i64 n72), (D.int IntKind.i64 n73), (D.int IntKind.i64 n74), (D.sl 1 l75), (D.sl 1 l76), (D.sl 1 l77), (D.sl 1 l78), (D.sl 1 l79)]
                      ) [(D.int IntKind.i64 n49), (D.int IntKind.i64 n50), (D.int IntKind.i64 (A.wrap IntKind.i64 (A.add n49 1))), (D.sl 4 l54), (D.int IntKind.i64 n55), (D.int IntKind.i64 n56), (D.int IntKind.i64 n57), (D.int IntKind.i64 n58), (D.int IntKind.i64 n59), (D.sl 1 l60), (D.sl 1 l61), (D.sl 1 l62), (D.sl 1 l63), (D.sl 1 l64)]
                    else
                      bif (A.ieq n51 0) then
                        none
                      else
                        bif (A.bnot b52) then
                          none
                        else
                          none
                  ) [(D.int IntKind.i64 0), (D.int IntKind.i64 (A.rlen (A.rapp l42 [[(D.int IntKind.i64 n44)]]))), (D.int IntKind.i64 n47), (D.bool true), (D.bool true), (D.sl 4 l33), (D.int IntKind.i64 n34), (D.int IntKind.i64 n35), (D.int IntKind.i64 n36), (D.int IntKind.i64 n37), (D.int IntKind.i64 n38), (D.sl 1 l39), (D.sl 1 l40), (D.sl 1 l41), (D.sl 1 (A.rapp l42 [[(D.int IntKind.i64 n44)]])), (D.sl 1 l43)]
                else
                  some (.inl [(D.int IntKind.i64 n31), (D.int IntKind.i64 (A.wrap IntKind.i64 (A.add n32 1))), (D.sl 4 l33), (D.int IntKind.i64 n34), (D.int IntKind.i64 n35), (D.int IntKind.i64 n36), (D.int IntKind.i64 n37), (D.int IntKind.i64 n38), (D.sl 1 l39), (D.sl 1 l40), (D.sl 1 l41), (D.sl 1 (A.rapp l42 [[(D.int IntKind.i64 n44)]])), (D.sl 1 l43)])
              else
                none
            else
              none
          else
            (E.call 106 [(V.d (D.int IntKind.u64 (A.wrap IntKind.u64 (A.rlen l42))))]).bind fun p137 =>
            (opI (A.cell p137.leaves 0) IntKind.i64).bind fun n139 =>
            E.lp (fun ds140 =>
              (opI (A.cell ds140 0) IntKind.i64).bind fun n141 =>
              (opI (A.cell ds140 1) IntKind.i64).bind fun n142 =>
              (opI (A.cell ds140 2) IntKind.i64).bind fun n143 =>
              (opB (A.cell ds140 3)).bind fun b144 =>
              (opB (A.cell ds140 4)).bind fun b145 =>
              (opL (A.cell ds140 5) 4).bind fun l146 =>
              (opI (A.cell ds140 6) IntKind.i64).bind fun n147 =>
              (opI (A.cell ds140 7) IntKind.i64).bind fun n148 =>
              (opI (A.cell ds140 8) IntKind.i64).bind fun n149 =>
              (opI (A.cell ds140 9) IntKind.i64).bind fun n150 =>
              (opI (A.cell ds140 10) IntKind.i64).bind fun n151 =>
              (opL (A.cell ds140 11) 1).bind fun l152 =>
              (opL (A.cell ds140 12) 1).bind fun l153 =>
              (opL (A.cell ds140 13) 1).bind fun l154 =>
              (opL (A.cell ds140 14) 1).bind fun l155 =>
              (opL (A.cell ds140 15) 1).bind fun l156 =>
              bif (A.ile (A.wrap IntKind.i64 (A.sub n142 n141)) 12) then
                E.lp (fun ds157 =>
                  (opI (A.cell ds157 0) IntKind.i64).bind fun n158 =>
                  (opI (A.cell ds157 1) IntKind.i64).bind fun n159 =>
                  (opI (A.cell ds157 2) IntKind.i64).bind fun n160 =>
                  (opL (A.cell ds157 3) 4).bind fun l161 =>
                  (opI (A.cell ds157 4) IntKind.i64).bind fun n162 =>
                  (opI (A.cell ds157 5) IntKind.i64).bind fun n163 =>
                  (opI (A.cell ds157 6) IntKind.i64).bind fun n164 =>
                  (opI (A.cell ds157 7) IntKind.i64).bind fun n165 =>
                  (opI (A.cell ds157 8) IntKind.i64).bind fun n166 =>
                  (opL (A.cell ds157 9) 1).bind fun l167 =>
                  (opL (A.cell ds157 10) 1).bind fun l168 =>
                  (opL (A.cell ds157 11) 1).bind fun l169 =>
                  (opL (A.cell ds157 12) 1).bind fun l170 =>
                  (opL (A.cell ds157 13) 1).bind fun l171 =>
                  bif (A.ilt n160 n159) then
                    E.lp (fun ds172 =>
                      (opI (A.cell ds172 0) IntKind.i64).bind fun n173 =>
                      (opI (A.cell ds172 1) IntKind.i64).bind fun n174 =>
                      (opI (A.cell ds172 2) IntKind.i64).bind fun n175 =>
                      (opI (A.cell ds172 3) IntKind.i64).bind fun n176 =>
                      (opL (A.cell ds172 4) 4).bind fun l177 =>
                      (opI (A.cell ds172 5) IntKind.i64).bind fun n178 =>
                      (opI (A.cell ds172 6) IntKind.i64).bind fun n179 =>
                      (opI (A.cell ds172 7) IntKind.i64).bind fun n180 =>
                      (opI (A.cell ds172 8) IntKind.i64).bind fun n181 =>
                      (opI (A.cell ds172 9) IntKind.i64).bind fun n182 =>
                      (opL (A.cell ds172 10) 1).bind fun l183 =>
                      (opL (A.cell ds172 11) 1).bind fun l184 =>
                      (opL (A.cell ds172 12) 1).bind fun l185 =>
                      (opL (A.cell ds172 13) 1).bind fun l186 =>
                      (opL (A.cell ds172 14) 1).bind fun l187 =>
                      bif (A.ilt n173 n176) then
                        bif (A.inr n176 (A.rlen l186)) then
                          (opI (A.cell (A.rown l186 (A.nat n176)) 0) IntKind.i64).bind fun n188 =>
                          bif (A.inr (A.wrap IntKind.i64 (A.sub n176 1)) (A.rlen l186)) then
                            (opI (A.cell (A.rown l186 (A.nat (A.wrap IntKind.i64 (A.sub n176 1)))) 0) IntKind.i64).bind fun n189 =>
                            (E.call 125 [(V.d (D.int IntKind.i64 n188)), (V.d (D.int IntKind.i64 n189))]).bind fun p190 =>
                            (opB (A.cell p190.leaves 0)).bind fun b192 =>
                            bif b192 then
                              bif (A.inr (A.wrap IntKind.i64 (A.sub n176 1)) (A.rlen l186)) then
                                (opI (A.cell (A.rown l186 (A.nat (A.wrap IntKind.i64 (A.sub n176 1)))) 0) IntKind.i64).bind fun n193 =>
                                bif (A.inr n176 (A.rlen l186)) then
                                  (opI (A.cell (A.rown l186 (A.nat n176)) 0) IntKind.i64).bind fun n194 =>
                                  bif (A.inr n176 (A.rlen l186)) then
                                    bif (A.inrn (A.nat n176) l186) then
                                      bif (A.inr (A.wrap IntKind.i64 (A.sub n176 1)) (A.rlen (A.rput l186 (A.nat n176) 0 [(D.int IntKind.i64 n193)]))) then
                                        bif (A.inrn (A.nat (A.wrap IntKind.i64 (A.sub n176 1))) (A.rput l186 (A.nat n176) 0 [(D.int IntKind.i64 n193)])) then
                                          some (.inl [(D.int IntKind.i64 n173), (D.int IntKind.i64 n174), (D.int IntKind.i64 n175), (D.int IntKind.i64 (A.wrap IntKind.i64 (A.sub n176 1))), (D.sl 4 l177), (D.int IntKind.i64 n178), (D.int IntKind.i64 n179), (D.int IntKind.i64 n180), (D.int IntKind.i64 n181), (D.int IntKind.i64 n182), (D.sl 1 l183), (D.sl 1 l184), (D.sl 1 l185), (D.sl 1 (A.rput (A.rput l186 (A.nat n176) 0 [(D.int IntKind.i64 n193)]) (A.nat (A.wrap IntKind.i64 (A.sub n176 1))) 0 [(D.int IntKind.i64 n194)])), (D.sl 1 l187)])
                                        else
                                          none
                                      else
                                        none
                                    else
                                      none
                                  else
                                    none
                                else
                                  none
                              else
                                none
                            else
                              some (.inr (.inl [(D.int IntKind.i64 n173), (D.int IntKind.i64 n174), (D.int IntKind.i64 (A.wrap IntKind.i64 (A.add n175 1))), (D.sl 4 l177), (D.int IntKind.i64 n178), (D.int IntKind.i64 n179), (D.int IntKind.i64 n180), (D.int IntKind.i64 n181), (D.int IntKind.i64 n182), (D.sl 1 l183), (D.sl 1 l184), (D.sl 1 l185), (D.sl 1 l186), (D.sl 1 l187)]))
                          else
                            none
                        else
                          none
                      else
                        some (.inr (.inl [(D.int IntKind.i64 n173), (D.int IntKind.i64 n174), (D.int IntKind.i64 (A.wrap IntKind.i64 (A.add n175 1))), (D.sl 4 l177), (D.int IntKind.i64 n178), (D.int IntKind.i64 n179), (D.int IntKind.i64 n180), (D.int IntKind.i64 n181), (D.int IntKind.i64 n182), (D.sl 1 l183), (D.sl 1 l184), (D.sl 1 l185), (D.sl 1 l186), (D.sl 1 l187)]))
                    ) [(D.int IntKind.i64 n158), (D.int IntKind.i64 n159), (D.int IntKind.i64 n160), (D.int IntKind.i64 n160), (D.sl 4 l161), (D.int IntKind.i64 n162), (D.int IntKind.i64 n163), (D.int IntKind.i64 n164), (D.int IntKind.i64 n165), (D.int IntKind.i64 n166), (D.sl 1 l167), (D.sl 1 l168), (D.sl 1 l169), (D.sl 1 l170), (D.sl 1 l171)]
                  else
                    bif (A.ilt (A.rlen l170) 2) then
                      some (.inr (.inr (.inr (PRes.own 3 1 l170))))
                    else
                      E.lp (fun ds195 =>
                        (opI (A.cell ds195 0) IntKind.i64).bind fun n196 =>
                        (opL (A.cell ds195 1) 4).bind fun l197 =>
                        (opI (A.cell ds195 2) IntKind.i64).bind fun n198 =>
                        (opI (A.cell ds195 3) IntKind.i64).bind fun n199 =>
                        (opI (A.cell ds195 4) IntKind.i64).bind fun n200 =>
                        (opI (A.cell ds195 5) IntKind.i64).bind fun n201 =>
                        (opI (A.cell ds195 6) IntKind.i64).bind fun n202 =>
                        (opL (A.cell ds195 7) 1).bind fun l203 =>
                        (opL (A.cell ds195 8) 1).bind fun l204 =>
                        (opL (A.cell ds195 9) 1).bind fun l205 =>
                        (opL (A.cell ds195 10) 1).bind fun l206 =>
                        (opL (A.cell ds195 11) 1).bind fun l207 =>
                        bif (A.ilt n196 (A.rlen l206)) then
                          bif (A.inr n196 (A.rlen l206)) then
                            (opI (A.cell (A.rown l206 (A.nat n196)) 0) IntKind.i64).bind fun n208 =>
                            bif (A.inr (A.wrap IntKind.i64 (A.sub n196 1)) (A.rlen l206)) then
                              (opI (A.cell (A.rown l206 (A.nat (A.wrap IntKind.i64 (A.sub n196 1)))) 0) IntKind.i64).bind fun n209 =>
                              bif (A.ieq n208 n209) then
                                bif (A.cutok n196 (A.rlen l206) (A.rlen l206)) then
                                  E.lp (fun ds210 =>
                                    (opI (A.cell ds210 0) IntKind.i64).bind fun n211 =>
                                    (opI (A.cell ds210 1) IntKind.i64).bind fun n212 =>
                                    (opI (A.cell ds210 2) IntKind.i64).bind fun n213 =>
                                    (opI (A.cell ds210 3) IntKind.i64).bind fun n214 =>
                                    (opL (A.cell ds210 4) 4).bind fun l215 =>
                                    (opI (A.cell ds210 5) IntKind.i64).bind fun n216 =>
                                    (opI (A.cell ds210 6) IntKind.i64).bind fun n217 =>
                                    (opI (A.cell ds210 7) IntKind.i64).bind fun n218 =>
                                    (opI (A.cell ds210 8) IntKind.i64).bind fun n219 =>
                                    (opI (A.cell ds210 9) IntKind.i64).bind fun n220 =>
                                    (opL (A.cell ds210 10) 1).bind fun l221 =>
                                    (opL (A.cell ds210 11) 1).bind fun l222 =>
                                    (opL (A.cell ds210 12) 1).bind fun l223 =>
                                    (opL (A.cell ds210 13) 1).bind fun l224 =>
                                    (opL (A.cell ds210 14) 1).bind fun l225 =>
                                    bif (A.ilt n214 n213) then
                                      bif (A.inr n214 n213) then
                                        (opI (A.cell (A.rown l224 (A.nat (A.add n212 n214))) 0) IntKind.i64).bind fun n226 =>
                                        bif (A.inr (A.wrap IntKind.i64 (A.sub n214 1)) n213) then
                                          (opI (A.cell (A.rown l224 (A.nat (A.add n212 (A.wrap IntKind.i64 (A.sub n214 1))))) 0) IntKind.i64).bind fun n227 =>
                                          bif (A.bnot (A.ieq n226 n227)) then
                                            bif (A.inr n214 n213) then
                                              (opI (A.cell (A.rown l224 (A.nat (A.add n212 n214))) 0) IntKind.i64).bind fun n228 =>
                                              bif (A.inr n211 (A.rlen l224)) then
                                                bif (A.inrn (A.nat n211) l224) then
                                                  some (.inl [(D.int IntKind.i64 (A.wrap IntKind.i64 (A.add n211 1))), (D.int IntKind.i64 n212), (D.int IntKind.i64 n213), (D.int IntKind.i64 (A.wrap IntKind.i64 (A.add n214 1))), (D.sl 4 l215), (D.int IntKind.i64 n216), (D.int IntKind.i64 n217), (D.int IntKind.i64 n218), (D.int IntKind.i64 n219), (D.int IntKind.i64 n220), (D.sl 1 l221), (D.sl 1 l222), (D.sl 1 l223), (D.sl 1 (A.rput l224 (A.nat n211) 0 [(D.int IntKind.i64 n228)])), (D.sl 1 l225)])
                                                else
                                                  none
                                              else
                                                none
                                            else
                                              none
                                          else
                                            some (.inl [(D.int IntKind.i64 n211), (D.int IntKind.i64 n212), (D.int IntKind.i64 n213), (D.int IntKind.i64 (A.wrap IntKind.i64 (A.add n214 1))), (D.sl 4 l215), (D.int IntKind.i64 n216), (D.int IntKind.i64 n217), (D.int IntKind.i64 n218), (D.int IntKind.i64 n219), (D.int IntKind.i64 n220), (D.sl 1 l221), (D.sl 1 l222), (D.sl 1 l223), (D.sl 1 l224), (D.sl 1 l225)])
                                        else
                                          none
                                      else
                                        none
                                    else
                                      bif (A.cutok n211 (A.rlen l224) (A.rlen l224)) then
                                        bif (A.cutok n211 (A.add n211 (A.sub (A.rlen l224) n211)) (A.rlen l224)) then
                                          bif (A.cutok 0 n211 (A.rlen (A.rcopy l224 n211 (A.sub (A.rlen l224) n211) (A.rep (A.sub (A.rlen l224) n211) [(D.int IntKind.i64 0)])))) then
                                            some (.inr (.inr (.inr (.inr (.inr (PRes.own 3 1 (A.head (A.rcopy l224 n211 (A.sub (A.rlen l224) n211) (A.rep (A.sub (A.rlen l224) n211) [(D.int IntKind.i64 0)])) n211)))))))
                                          else
                                            none
                                        else
                                          none
                                      else
                                        none
                                  ) [(D.int IntKind.i64 n196), (D.int IntKind.i64 n196), (D.int IntKind.i64 (A.sub (A.rlen l206) n196)), (D.int IntKind.i64 1), (D.sl 4 l197), (D.int IntKind.i64 n198), (D.int IntKind.i64 n199), (D.int IntKind.i64 n200), (D.int IntKind.i64 n201), (D.int IntKind.i64 n202), (D.sl 1 l203), (D.sl 1 l204), (D.sl 1 l205), (D.sl 1 l206), (D.sl 1 l207)]
                                else
                                  none
                              else
                                some (.inl [(D.int IntKind.i64 (A.wrap IntKind.i64 (A.add n196 1))), (D.sl 4 l197), (D.int IntKind.i64 n198), (D.int IntKind.i64 n199), (D.int IntKind.i64 n200), (D.int IntKind.i64 n201), (D.int IntKind.i64 n202), (D.sl 1 l203), (D.sl 1 l204), (D.sl 1 l205), (D.sl 1 l206), (D.sl 1 l207)])
                            else
                              none
                          else
                            none
                        else
                          some (.inr (.inr (.inr (.inr (PRes.own 3 1 l206)))))
                      ) [(D.int IntKind.i64 1), (D.sl 4 l161), (D.int IntKind.i64 n162), (D.int IntKind.i64 n163), (D.int IntKind.i64 n164), (D.int IntKind.i64 n165), (D.int IntKind.i64 n166), (D.sl 1 l167), (D.sl 1 l168), (D.sl 1 l169), (D.sl 1 l170), (D.sl 1 l171)]
                ) [(D.int IntKind.i64 n141), (D.int IntKind.i64 n142), (D.int IntKind.i64 (A.wrap IntKind.i64 (A.add n141 1))), (D.sl 4 l146), (D.int IntKind.i64 n147), (D.int IntKind.i64 n148), (D.int IntKind.i64 n149), (D.int IntKind.i64 n150), (D.int IntKind.i64 n151), (D.sl 1 l152), (D.sl 1 l153), (D.sl 1 l154), (D.sl 1 l155), (D.sl 1 l156)]
              else
                bif (A.ieq n143 0) then
                  none
                else
                  bif (A.bnot b144) then
                    none
                  else
                    none
            ) [(D.int IntKind.i64 0), (D.int IntKind.i64 (A.rlen l42)), (D.int IntKind.i64 n139), (D.bool true), (D.bool true), (D.sl 4 l33), (D.int IntKind.i64 n34), (D.int IntKind.i64 n35), (D.int IntKind.i64 n36), (D.int IntKind.i64 n37), (D.int IntKind.i64 n38), (D.sl 1 l39), (D.sl 1 l40), (D.sl 1 l41), (D.sl 1 l42), (D.sl 1 l43)]
        ) [(D.int IntKind.i64 (A.rlen l26)), (D.int IntKind.i64 0), (D.sl 4 l20), (D.int IntKind.i64 n21), (D.int IntKind.i64 n22), (D.int IntKind.i64 n23), (D.int IntKind.i64 n24), (D.int IntKind.i64 n25), (D.sl 1 l26), (D.sl 1 []), (D.sl 1 []), (D.sl 1 []), (D.sl 1 [])]
      else
        E.lp (fun ds229 =>
          (opI (A.cell ds229 0) IntKind.i64).bind fun n230 =>
          (opI (A.cell ds229 1) IntKind.i64).bind fun n231 =>
          (opL (A.cell ds229 2) 4).bind fun l232 =>
          (opI (A.cell ds229 3) IntKind.i64).bind fun n233 =>
          (opI (A.cell ds229 4) IntKind.i64).bind fun n234 =>
          (opI (A.cell ds229 5) IntKind.i64).bind fun n235 =>
          (opI (A.cell ds229 6) IntKind.i64).bind fun n236 =>
          (opI (A.cell ds229 7) IntKind.i64).bind fun n237 =>
          (opL (A.cell ds229 8) 1).bind fun l238 =>
          bif (A.ilt n231 (A.rlen l238)) then
            bif (A.inr n231 (A.rlen l238)) then
              (opI (A.cell (A.rown l238 (A.nat n231)) 0) IntKind.i64).bind fun n239 =>
              (E.call 44 [(V.d (D.int IntKind.i64 n239)), (V.pel [(D.int IntKind.i64 n233)]), (V.pel [(D.sl 4 l232)])]).bind fun p240 =>
              (opB (A.cell p240.leaves 0)).bind fun b242 =>
              bif (A.bnot b242) then
                bif (A.inr n230 (A.rlen l238)) then
                  bif (A.inrn (A.nat n230) l238) then
                    some (.inl [(D.int IntKind.i64 (A.wrap IntKind.i64 (A.add n230 1))), (D.int IntKind.i64 (A.wrap IntKind.i64 (A.add n231 1))), (D.sl 4 l232), (D.int IntKind.i64 n233), (D.int IntKind.i64 n234), (D.int IntKind.i64 n235), (D.int IntKind.i64 n236), (D.int IntKind.i64 n237), (D.sl 1 (A.rput l238 (A.nat n230) 0 [(D.int IntKind.i64 n239)]))])
                  else
                    none
                else
                  none
              else
                some (.inl [(D.int IntKind.i64 n230), (D.int IntKind.i64 (A.wrap IntKind.i64 (A.add n231 1))), (D.sl 4 l232), (D.int IntKind.i64 n233), (D.int IntKind.i64 n234), (D.int IntKind.i64 n235), (D.int IntKind.i64 n236), (D.int IntKind.i64 n237), (D.sl 1 l238)])
            else
              none
          else
            bif (A.cutok n230 (A.rlen l238) (A.rlen l238)) then
              bif (A.cutok n230 (A.add n230 (A.sub (A.rlen l238) n230)) (A.rlen l238)) then
                bif (A.cutok 0 n230 (A.rlen (A.rcopy l238 n230 (A.sub (A.rlen l238) n230) (A.rep (A.sub (A.rlen l238) n230) [(D.int IntKind.i64 0)])))) then
                  E.lp (fun ds243 =>
                    (opI (A.cell ds243 0) IntKind.i64).bind fun n244 =>
                    (opI (A.cell ds243 1) IntKind.i64).bind fun n245 =>
                    (opL (A.cell ds243 2) 4).bind fun l246 =>
                    (opI (A.cell ds243 3) IntKind.i64).bind fun n247 =>
                    (opI (A.cell ds243 4) IntKind.i64).bind fun n248 =>
                    (opI (A.cell ds243 5) IntKind.i64).bind fun n249 =>
                    (opI (A.cell ds243 6) IntKind.i64).bind fun n250 =>
                    (opI (A.cell ds243 7) IntKind.i64).bind fun n251 =>
                    (opL (A.cell ds243 8) 1).bind fun l252 =>
                    (opL (A.cell ds243 9) 1).bind fun l253 =>
                    (opL (A.cell ds243 10) 1).bind fun l254 =>
                    (opL (A.cell ds243 11) 1).bind fun l255 =>
                    (opL (A.cell ds243 12) 1).bind fun l256 =>
                    bif (A.ilt n245 n244) then
                      bif (A.inr n245 (A.rlen l252)) then
                        (opI (A.cell (A.rown l252 (A.nat n245)) 0) IntKind.i64).bind fun n257 =>
                        bif (A.fits l255 [[(D.int IntKind.i64 n257)]] 8) then
                          bif (A.bnot true) then
                            (E.call 106 [(V.d (D.int IntKind.u64 (A.wrap IntKind.u64 (A.rlen (A.rapp l255 [[(D.int IntKind.i64 n257)]])))))]).bind fun p258 =>
                            (opI (A.cell p258.leaves 0) IntKind.i64).bind fun n260 =>
                            E.lp (fun ds261 =>
                              (opI (A.cell ds261 0) IntKind.i64).bind fun n262 =>
                              (opI (A.cell ds261 1) IntKind.i64).bind fun n263 =>
                              (opI (A.cell ds261 2) IntKind.i64).bind fun n264 =>
                              (opB (A.cell ds261 3)).bind fun b265 =>
                              (opB (A.cell ds261 4)).bind fun b266 =>
                              (opL (A.cell ds261 5) 4).bind fun l267 =>
                              (opI (A.cell ds261 6) IntKind.i64).bind fun n268 =>
                              (opI (A.cell ds261 7) IntKind.i64).bind fun n269 =>
                              (opI (A.cell ds261 8) IntKind.i64).bind fun n270 =>
                              (opI (A.cell ds261 9) IntKind.i64).bind fun n271 =>
                              (opI (A.cell ds261 10) IntKind.i64).bind fun n272 =>
                              (opL (A.cell ds261 11) 1).bind fun l273 =>
                              (opL (A.cell ds261 12) 1).bind fun l274 =>
                              (opL (A.cell ds261 13) 1).bind fun l275 =>
                              (opL (A.cell ds261 14) 1).bind fun l276 =>
                              (opL (A.cell ds261 15) 1).bind fun l277 =>
                              bif (A.ile (A.wrap IntKind.i64 (A.sub n263 n262)) 12) then
                                E.lp (fun ds278 =>
                                  (opI (A.cell ds278 0) IntKind.i64).bind fun n279 =>
                                  (opI (A.cell ds278 1) IntKind.i64).bind fun n280 =>
                                  (opI (A.cell ds278 2) IntKind.i64).bind fun n281 =>
                                  (opL (A.cell ds278 3) 4).bind fun l282 =>
                                  (opI (A.cell ds278 4) IntKind.i64).bind fun n283 =>
                                  (opI (A.cell ds278 5) IntKind.i64).bind fun n284 =>
                                  (opI (A.cell ds278 6) IntKind.i64).bind fun n285 =>
                                  (opI (A.cell ds278 7) IntKind.i64).bind fun n286 =>
                                  (opI (A.cell ds278 8) IntKind.i64).bind fun n287 =>
                                  (opL (A.cell ds278 9) 1).bind fun l288 =>
                                  (opL (A.cell ds278 10) 1).bind fun l289 =>
                                  (opL (A.cell ds278 11) 1).bind fun l290 =>
                                  (opL (A.cell ds278 12) 1).bind fun l291 =>
                                  (opL (A.cell ds278 13) 1).bind fun l292 =>
                                  bif (A.ilt n281 n280) then
                                    E.lp (fun ds293 =>
                                      (opI (A.cell ds293 0) IntKind.i64).bind fun n294 =>
                                      (opI (A.cell ds293 1) IntKind.i64).bind fun n295 =>
                                      (opI (A.cell ds293 2) IntKind.i64).bind fun n296 =>
                                      (opI (A.cell ds293 3) IntKind.i64).bind fun n297 =>
                                      (opL (A.cell ds293 4) 4).bind fun l298 =>
                                      (opI (A.cell ds293 5) IntKind.i64).bind fun n299 =>
                                      (opI (A.cell ds293 6) IntKind.i64).bind fun n300 =>
                                      (opI (A.cell ds293 7) IntKind.i64).bind fun n301 =>
                                      (opI (A.cell ds293 8) IntKind.i64).bind fun n302 =>
                                      (opI (A.cell ds293 9) IntKind.i64).bind fun n303 =>
                                      (opL (A.cell ds293 10) 1).bind fun l304 =>
                                      (opL (A.cell ds293 11) 1).bind fun l305 =>
                                      (opL (A.cell ds293 12) 1).bind fun l306 =>
                                      (opL (A.cell ds293 13) 1).bind fun l307 =>
                                      (opL (A.cell ds293 14) 1).bind fun l308 =>
                                      bif (A.ilt n294 n297) then
                                        bif (A.inr n297 (A.rlen l307)) then
                                          (opI (A.cell (A.rown l307 (A.nat n297)) 0) IntKind.i64).bind fun n309 =>
                                          bif (A.inr (A.wrap IntKind.i64 (A.sub n297 1)) (A.rlen l307)) then
                                            (opI (A.cell (A.rown l307 (A.nat (A.wrap IntKind.i64 (A.sub n297 1)))) 0) IntKind.i64).bind fun n310 =>
                                            (E.call 125 [(V.d (D.int IntKind.i64 n309)), (V.d (D.int IntKind.i64 n310))]).bind fun p311 =>
                                            (opB (A.cell p311.leaves 0)).bind fun b313 =>
                                            bif b313 then
                                              bif (A.inr (A.wrap IntKind.i64 (A.sub n297 1)) (A.rlen l307)) then
                                                (opI (A.cell (A.rown l307 (A.nat (A.wrap IntKind.i64 (A.sub n297 1)))) 0) IntKind.i64).bind fun n314 =>
                                                bif (A.inr n297 (A.rlen l307)) then
                                                  (opI (A.cell (A.rown l307 (A.nat n297)) 0) IntKind.i64).bind fun n315 =>
                                                  bif (A.inr n297 (A.rlen l307)) then
                                                    bif (A.inrn (A.nat n297) l307) then
                                                      bif (A.inr (A.wrap IntKind.i64 (A.sub n297 1)) (A.rlen (A.rput l307 (A.nat n297) 0 [(D.int IntKind.i64 n314)]))) then
                                                        bif (A.inrn (A.nat (A.wrap IntKind.i64 (A.sub n297 1))) (A.rput l307 (A.nat n297) 0 [(D.int IntKind.i64 n314)])) then
                                                          some (.inl [(D.int IntKind.i64 n294), (D.int IntKind.i64 n295), (D.int IntKind.i64 n296), (D.int IntKind.i64 (A.wrap IntKind.i64 (A.sub n297 1))), (D.sl 4 l298), (D.int IntKind.i64 n299), (D.int IntKind.i64 n300), (D.int IntKind.i64 n301), (D.int IntKind.i64 n302), (D.int IntKind.i64 n303), (D.sl 1 l304), (D.sl 1 l305), (D.sl 1 l306), (D.sl 1 (A.rput (A.rput l307 (A.nat n297) 0 [(D.int IntKind.i64 n314)]) (A.nat (A.wrap IntKind.i64 (A.sub n297 1))) 0 [(D.int IntKind.i64 n315)])), (D.sl 1 l308)])
                                                        else
                                                          none
                                                      else
                                                        none
                                                    else
                                                      none
                                                  else
                                                    none
                                                else
                                                  none
                                              else
                                                none
                                            else
                                              some (.inr (.inl [(D.int IntKind.i64 n294), (D.int IntKind.i64 n295), (D.int IntKind.i64 (A.wrap IntKind.i64 (A.add n296 1))), (D.sl 4 l298), (D.int IntKind.i64 n299), (D.int IntKind.i64 n300), (D.int IntKind.i64 n301), (D.int IntKind.i64 n302), (D.int IntKind.i64 n303), (D.sl 1 l304), (D.sl 1 l305), (D.sl 1 l306), (D.sl 1 l307), (D.sl 1 l308)]))
                                          else
                                            none
                                        else
                                          none
                                      else
                                        some (.inr (.inl [(D.int IntKind.i64 n294), (D.int IntKind.i64 n295), (D.int IntKind.i64 (A.wrap IntKind.i64 (A.add n296 1))), (D.sl 4 l298), (D.int IntKind.i64 n299), (D.int IntKind.i64 n300), (D.int IntKind.i64 n301), (D.int IntKind.i64 n302), (D.int IntKind.i64 n303), (D.sl 1 l304), (D.sl 1 l305), (D.sl 1 l306), (D.sl 1 l307), (D.sl 1 l308)]))
                                    ) [(D.int IntKind.i64 n279), (D.int IntKind.i64 n280), (D.int IntKind.i64 n281), (D.int IntKind.i64 n281), (D.sl 4 l282), (D.int IntKind.i64 n283), (D.int IntKind.i64 n284), (D.int IntKind.i64 n285), (D.int IntKind.i64 n286), (D.int IntKind.i64 n287), (D.sl 1 l288), (D.sl 1 l289), (D.sl 1 l290), (D.sl 1 l291), (D.sl 1 l292)]
                                  else
                                    bif (A.ilt (A.rlen l291) 2) then
                                      some (.inr (.inr (.inr (.inr (PRes.own 3 1 l291)))))
                                    else
                                      E.lp (fun ds316 =>
                                        (opI (A.cell ds316 0) IntKind.i64).bind fun n317 =>
                                        (opL (A.cell ds316 1) 4).bind fun l318 =>
                                        (opI (A.cell ds316 2) IntKind.i64).bind fun n319 =>
                                        (opI (A.cell ds316 3) IntKind.i64).bind fun n320 =>
                                        (opI (A.cell ds316 4) IntKind.i64).bind fun n321 =>
                                        (opI (A.cell ds316 5) IntKind.i64).bind fun n322 =>
                                        (opI (A.cell ds316 6) IntKind.i64).bind fun n323 =>
                                        (opL (A.cell ds316 7) 1).bind fun l324 =>
                                        (opL (A.cell ds316 8) 1).bind fun l325 =>
                                        (opL (A.cell ds316 9) 1).bind fun l326 =>
                                        (opL (A.cell ds316 10) 1).bind fun l327 =>
                                        (opL (A.cell ds316 11) 1).bind fun l328 =>
                                        bif (A.ilt n317 (A.rlen l327)) then
                                          bif (A.inr n317 (A.rlen l327)) then
                                            (opI (A.cell (A.rown l327 (A.nat n317)) 0) IntKind.i64).bind fun n329 =>
                                            bif (A.inr (A.wrap IntKind.i64 (A.sub n317 1)) (A.rlen l327)) then
                                              (opI (A.cell (A.rown l327 (A.nat (A.wrap IntKind.i64 (A.sub n317 1)))) 0) IntKind.i64).bind fun n330 =>
                                              bif (A.ieq n329 n330) then
                                                bif (A.cutok n317 (A.rlen l327) (A.rlen l327)) then
                                                  E.lp (fun ds331 =>
                                                    (opI (A.cell ds331 0) IntKind.i64).bind fun n332 =>
                                                    (opI (A.cell ds331 1) IntKind.i64).bind fun n333 =>
                                                    (opI (A.cell ds331 2) IntKind.i64).bind fun n334 =>
                                                    (opI (A.cell ds331 3) IntKind.i64).bind fun n335 =>
                                                    (opL (A.cell ds331 4) 4).bind fun l336 =>
                                                    (opI (A.cell ds331 5) IntKind.i64).bind fun n337 =>
                                                    (opI (A.cell ds331 6) IntKind.i64).bind fun n338 =>
                                                    (opI (A.cell ds331 7) IntKind.i64).bind fun n339 =>
                                                    (opI (A.cell ds331 8) IntKind.i64).bind fun n340 =>
                                                    (opI (A.cell ds331 9) IntKind.i64).bind fun n341 =>
                                                    (opL (A.cell ds331 10) 1).bind fun l342 =>
                                                    (opL (A.cell ds331 11) 1).bind fun l343 =>
                                                    (opL (A.cell ds331 12) 1).bind fun l344 =>
                                                    (opL (A.cell ds331 13) 1).bind fun l345 =>
                                                    (opL (A.cell ds331 14) 1).bind fun l346 =>
                                                    bif (A.ilt n335 n334) then
                                                      bif (A.inr n335 n334) then
                                                        (opI (A.cell (A.rown l345 (A.nat (A.add n333 n335))) 0) IntKind.i64).bind fun n347 =>
                                                        bif (A.inr (A.wrap IntKind.i64 (A.sub n335 1)) n334) then
                                                          (opI (A.cell (A.rown l345 (A.nat (A.add n333 (A.wrap IntKind.i64 (A.sub n335 1))))) 0) IntKind.i64).bind fun n348 =>
                                                          bif (A.bnot (A.ieq n347 n348)) then
                                                            bif (A.inr n335 n334) then
                                                              (opI (A.cell (A.rown l345 (A.nat (A.add n333 n335))) 0) IntKind.i64).bind fun n349 =>
                                                              bif (A.inr n332 (A.rlen l345)) then
                                                                bif (A.inrn (A.nat n332) l345) then
                                                                  some (.inl [(D.int IntKind.i64 (A.wrap IntKind.i64 (A.add n332 1))), (D.int IntKind.i64 n333), (D.int IntKind.i64 n334), (D.int IntKind.i64 (A.wrap IntKind.i64 (A.add n335 1))), (D.sl 4 l336), (D.int IntKind.i64 n337), (D.int IntKind.i64 n338), (D.int IntKind.i64 n339), (D.int IntKind.i64 n340), (D.int IntKind.i64 n341), (D.sl 1 l342), (D.sl 1 l343), (D.sl 1 l344), (D.sl 1 (A.rput l345 (A.nat n332) 0 [(D.int IntKind.i64 n349)])), (D.sl 1 l346)])
                                                                else
                                                                  none
                                                              else
                                                                none
                                                            else
                                                              none
                                                          else
                                                            some (.inl [(D.int IntKind.i64 n332), (D.int IntKind.i64 n333), (D.int IntKind.i64 n334), (D.int IntKind.i64 (A.wrap IntKind.i64 (A.add n335 1))), (D.sl 4 l336), (D.int IntKind.i64 n337), (D.int IntKind.i64 n338), (D.int IntKind.i64 n339), (D.int IntKind.i64 n340), (D.int IntKind.i64 n341), (D.sl 1 l342), (D.sl 1 l343), (D.sl 1 l344), (D.sl 1 l345), (D.sl 1 l346)])
                                                        else
                                                          none
                                                      else
                                                        none
                                                    else
                                                      bif (A.cutok n332 (A.rlen l345) (A.rlen l345)) then
                                                        bif (A.cutok n332 (A.add n332 (A.sub (A.rlen l345) n332)) (A.rlen l345)) then
                                                          bif (A.cutok 0 n332 (A.rlen (A.rcopy l345 n332 (A.sub (A.rlen l345) n332) (A.rep (A.sub (A.rlen l345) n332) [(D.int IntKind.i64 0)])))) then
                                                            some (.inr (.inr (.inr (.inr (.inr (.inr (PRes.own 3 1 (A.head (A.rcopy l345 n332 (A.sub (A.rlen l345) n332) (A.rep (A.sub (A.rlen l345) n332) [(D.int IntKind.i64 0)])) n332))))))))
                                                          else
                                                            none
                                                        else
                                                          none
                                                      else
                                                        none
                                                  ) [(D.int IntKind.i64 n317), (D.int IntKind.i64 n317), (D.int IntKind.i64 (A.sub (A.rlen l327) n317)), (D.int IntKind.i64 1), (D.sl 4 l318), (D.int IntKind.i64 n319), (D.int IntKind.i64 n320), (D.int IntKind.i64 n321), (D.int IntKind.i64 n322), (D.int IntKind.i64 n323), (D.sl 1 l324), (D.sl 1 l325), (D.sl 1 l326), (D.sl 1 l327), (D.sl 1 l328)]
                                                else
                                                  none
                                              else
                                                some (.inl [(D.int IntKind.i64 (A.wrap IntKind.i64 (A.add n317 1))), (D.sl 4 l318), (D.int IntKind.i64 n319), (D.int IntKind.i64 n320), (D.int IntKind.i64 n321), (D.int IntKind.i64 n322), (D.int IntKind.i64 n323), (D.sl 1 l324), (D.sl 1 l325), (D.sl 1 l326), (D.sl 1 l327), (D.sl 1 l328)])
                                            else
                                              none
                                          else
                                            none
                                        else
                                          some (.inr (.inr (.inr (.inr (.inr (PRes.own 3 1 l327))))))
                                      ) [(D.int IntKind.i64 1), (D.sl 4 l282), (D.int IntKind.i64 n283), (D.int IntKind.i64 n284), (D.int IntKind.i64 n285), (D.int IntKind.i64 n286), (D.int IntKind.i64 n287), (D.sl 1 l288), (D.sl 1 l289), (D.sl 1 l290), (D.sl 1 l291), (D.sl 1 l292)]
                                ) [(D.int IntKind.i64 n262), (D.int IntKind.i64 n263), (D.int IntKind.i64 (A.wrap IntKind.i64 (A.add n262 1))), (D.sl 4 l267), (D.int IntKind.i64 n268), (D.int IntKind.i64 n269), (D.int IntKind.i64 n270), (D.int IntKind.i64 n271), (D.int IntKind.i64 n272), (D.sl 1 l273), (D.sl 1 l274), (D.sl 1 l275), (D.sl 1 l276), (D.sl 1 l277)]
                              else
                                bif (A.ieq n264 0) then
                                  none
                                else
                                  bif (A.bnot b265) then
                                    none
                                  else
                                    none
                            ) [(D.int IntKind.i64 0), (D.int IntKind.i64 (A.rlen (A.rapp l255 [[(D.int IntKind.i64 n257)]]))), (D.int IntKind.i64 n260), (D.bool true), (D.bool true), (D.sl 4 l246), (D.int IntKind.i64 n247), (D.int IntKind.i64 n248), (D.int IntKind.i64 n249), (D.int IntKind.i64 n250), (D.int IntKind.i64 n251), (D.sl 1 l252), (D.sl 1 l253), (D.sl 1 l254), (D.sl 1 (A.rapp l255 [[(D.int IntKind.i64 n257)]])), (D.sl 1 l256)]
                          else
                            some (.inl [(D.int IntKind.i64 n244), (D.int IntKind.i64 (A.wrap IntKind.i64 (A.add n245 1))), (D.sl 4 l246), (D.int IntKind.i64 n247), (D.int IntKind.i64 n248), (D.int IntKind.i64 n249), (D.int IntKind.i64 n250), (D.int IntKind.i64 n251), (D.sl 1 l252), (D.sl 1 l253), (D.sl 1 l254), (D.sl 1 (A.rapp l255 [[(D.int IntKind.i64 n257)]])), (D.sl 1 l256)])
                        else
                          none
                      else
                        none
                    else
                      (E.call 106 [(V.d (D.int IntKind.u64 (A.wrap IntKind.u64 (A.rlen l255))))]).bind fun p350 =>
                      (opI (A.cell p350.leaves 0) IntKind.i64).bind fun n352 =>
                      E.lp (fun ds353 =>
                        (opI (A.cell ds353 0) IntKind.i64).bind fun n354 =>
                        (opI (A.cell ds353 1) IntKind.i64).bind fun n355 =>
                        (opI (A.cell ds353 2) IntKind.i64).bind fun n356 =>
                        (opB (A.cell ds353 3)).bind fun b357 =>
                        (opB (A.cell ds353 4)).bind fun b358 =>
                        (opL (A.cell ds353 5) 4).bind fun l359 =>
                        (opI (A.cell ds353 6) IntKind.i64).bind fun n360 =>
                        (opI (A.cell ds353 7) IntKind.i64).bind fun n361 =>
                        (opI (A.cell ds353 8) IntKind.i64).bind fun n362 =>
                        (opI (A.cell ds353 9) IntKind.i64).bind fun n363 =>
                        (opI (A.cell ds353 10) IntKind.i64).bind fun n364 =>
                        (opL (A.cell ds353 11) 1).bind fun l365 =>
                        (opL (A.cell ds353 12) 1).bind fun l366 =>
                        (opL (A.cell ds353 13) 1).bind fun l367 =>
                        (opL (A.cell ds353 14) 1).bind fun l368 =>
                        (opL (A.cell ds353 15) 1).bind fun l369 =>
                        bif (A.ile (A.wrap IntKind.i64 (A.sub n355 n354)) 12) then
                          E.lp (fun ds370 =>
                            (opI (A.cell ds370 0) IntKind.i64).bind fun n371 =>
                            (opI (A.cell ds370 1) IntKind.i64).bind fun n372 =>
                            (opI (A.cell ds370 2) IntKind.i64).bind fun n373 =>
                            (opL (A.cell ds370 3) 4).bind fun l374 =>
                            (opI (A.cell ds370 4) IntKind.i64).bind fun n375 =>
                            (opI (A.cell ds370 5) IntKind.i64).bind fun n376 =>
                            (opI (A.cell ds370 6) IntKind.i64).bind fun n377 =>
                            (opI (A.cell ds370 7) IntKind.i64).bind fun n378 =>
                            (opI (A.cell ds370 8) IntKind.i64).bind fun n379 =>
                            (opL (A.cell ds370 9) 1).bind fun l380 =>
                            (opL (A.cell ds370 10) 1).bind fun l381 =>
                            (opL (A.cell ds370 11) 1).bind fun l382 =>
                            (opL (A.cell ds370 12) 1).bind fun l383 =>
                            (opL (A.cell ds370 13) 1).bind fun l384 =>
                            bif (A.ilt n373 n372) then
                              E.lp (fun ds385 =>
                                (opI (A.cell ds385 0) IntKind.i64).bind fun n386 =>
                                (opI (A.cell ds385 1) IntKind.i64).bind fun n387 =>
                                (opI (A.cell ds385 2) IntKind.i64).bind fun n388 =>
                                (opI (A.cell ds385 3) IntKind.i64).bind fun n389 =>
                                (opL (A.cell ds385 4) 4).bind fun l390 =>
                                (opI (A.cell ds385 5) IntKind.i64).bind fun n391 =>
                                (opI (A.cell ds385 6) IntKind.i64).bind fun n392 =>
                                (opI (A.cell ds385 7) IntKind.i64).bind fun n393 =>
                                (opI (A.cell ds385 8) IntKind.i64).bind fun n394 =>
                                (opI (A.cell ds385 9) IntKind.i64).bind fun n395 =>
                                (opL (A.cell ds385 10) 1).bind fun l396 =>
                                (opL (A.cell ds385 11) 1).bind fun l397 =>
                                (opL (A.cell ds385 12) 1).bind fun l398 =>
                                (opL (A.cell ds385 13) 1).bind fun l399 =>
                                (opL (A.cell ds385 14) 1).bind fun l400 =>
                                bif (A.ilt n386 n389) then
                                  bif (A.inr n389 (A.rlen l399)) then
                                    (opI (A.cell (A.rown l399 (A.nat n389)) 0) IntKind.i64).bind fun n401 =>
                                    bif (A.inr (A.wrap IntKind.i64 (A.sub n389 1)) (A.rlen l399)) then
                                      (opI (A.cell (A.rown l399 (A.nat (A.wrap IntKind.i64 (A.sub n389 1)))) 0) IntKind.i64).bind fun n402 =>
                                      (E.call 125 [(V.d (D.int IntKind.i64 n401)), (V.d (D.int IntKind.i64 n402))]).bind fun p403 =>
                                      (opB (A.cell p403.leaves 0)).bind fun b405 =>
                                      bif b405 then
                                        bif (A.inr (A.wrap IntKind.i64 (A.sub n389 1)) (A.rlen l399)) then
                                          (opI (A.cell (A.rown l399 (A.nat (A.wrap IntKind.i64 (A.sub n389 1)))) 0) IntKind.i64).bind fun n406 =>
                                          bif (A.inr n389 (A.rlen l399)) then
                                            (opI (A.cell (A.rown l399 (A.nat n389)) 0) IntKind.i64).bind fun n407 =>
                                            bif (A.inr n389 (A.rlen l399)) then
                                              bif (A.inrn (A.nat n389) l399) then
                                                bif (A.inr (A.wrap IntKind.i64 (A.sub n389 1)) (A.rlen (A.rput l399 (A.nat n389) 0 [(D.int IntKind.i64 n406)]))) then
                                                  bif (A.inrn (A.nat (A.wrap IntKind.i64 (A.sub n389 1))) (A.rput l399 (A.nat n389) 0 [(D.int IntKind.i64 n406)])) then
                                                    some (.inl [(D.int IntKind.i64 n386), (D.int IntKind.i64 n387), (D.int IntKind.i64 n388), (D.int IntKind.i64 (A.wrap IntKind.i64 (A.sub n389 1))), (D.sl 4 l390), (D.int IntKind.i64 n391), (D.int IntKind.i64 n392), (D.int IntKind.i64 n393), (D.int IntKind.i64 n394), (D.int IntKind.i64 n395), (D.sl 1 l396), (D.sl 1 l397), (D.sl 1 l398), (D.sl 1 (A.rput (A.rput l399 (A.nat n389) 0 [(D.int IntKind.i64 n406)]) (A.nat (A.wrap IntKind.i64 (A.sub n389 1))) 0 [(D.int IntKind.i64 n407)])), (D.sl 1 l400)])
                                                  else
                                                    none
                                                else
                                                  none
                                              else
                                                none
                                            else
                                              none
                                          else
                                            none
                                        else
                                          none
                                      else
                                        some (.inr (.inl [(D.int IntKind.i64 n386), (D.int IntKind.i64 n387), (D.int IntKind.i64 (A.wrap IntKind.i64 (A.add n388 1))), (D.sl 4 l390), (D.int IntKind.i64 n391), (D.int IntKind.i64 n392), (D.int IntKind.i64 n393), (D.int IntKind.i64 n394), (D.int IntKind.i64 n395), (D.sl 1 l396), (D.sl 1 l397), (D.sl 1 l398), (D.sl 1 l399), (D.sl 1 l400)]))
                                    else
                                      none
                                  else
                                    none
                                else
                                  some (.inr (.inl [(D.int IntKind.i64 n386), (D.int IntKind.i64 n387), (D.int IntKind.i64 (A.wrap IntKind.i64 (A.add n388 1))), (D.sl 4 l390), (D.int IntKind.i64 n391), (D.int IntKind.i64 n392), (D.int IntKind.i64 n393), (D.int IntKind.i64 n394), (D.int IntKind.i64 n395), (D.sl 1 l396), (D.sl 1 l397), (D.sl 1 l398), (D.sl 1 l399), (D.sl 1 l400)]))
                              ) [(D.int IntKind.i64 n371), (D.int IntKind.i64 n372), (D.int IntKind.i64 n373), (D.int IntKind.i64 n373), (D.sl 4 l374), (D.int IntKind.i64 n375), (D.int IntKind.i64 n376), (D.int IntKind.i64 n377), (D.int IntKind.i64 n378), (D.int IntKind.i64 n379), (D.sl 1 l380), (D.sl 1 l381), (D.sl 1 l382), (D.sl 1 l383), (D.sl 1 l384)]
                            else
                              bif (A.ilt (A.rlen l383) 2) then
                                some (.inr (.inr (.inr (.inr (PRes.own 3 1 l383)))))
                              else
                                E.lp (fun ds408 =>
                                  (opI (A.cell ds408 0) IntKind.i64).bind fun n409 =>
                                  (opL (A.cell ds408 1) 4).bind fun l410 =>
                                  (opI (A.cell ds408 2) IntKind.i64).bind fun n411 =>
                                  (opI (A.cell ds408 3) IntKind.i64).bind fun n412 =>
                                  (opI (A.cell ds408 4) IntKind.i64).bind fun n413 =>
                                  (opI (A.cell ds408 5) IntKind.i64).bind fun n414 =>
                                  (opI (A.cell ds408 6) IntKind.i64).bind fun n415 =>
                                  (opL (A.cell ds408 7) 1).bind fun l416 =>
                                  (opL (A.cell ds408 8) 1).bind fun l417 =>
                                  (opL (A.cell ds408 9) 1).bind fun l418 =>
                                  (opL (A.cell ds408 10) 1).bind fun l419 =>
                                  (opL (A.cell ds408 11) 1).bind fun l420 =>
                                  bif (A.ilt n409 (A.rlen l419)) then
                                    bif (A.inr n409 (A.rlen l419)) then
                                      (opI (A.cell (A.rown l419 (A.nat n409)) 0) IntKind.i64).bind fun n421 =>
                                      bif (A.inr (A.wrap IntKind.i64 (A.sub n409 1)) (A.rlen l419)) then
                                        (opI (A.cell (A.rown l419 (A.nat (A.wrap IntKind.i64 (A.sub n409 1)))) 0) IntKind.i64).bind fun n422 =>
                                        bif (A.ieq n421 n422) then
                                          bif (A.cutok n409 (A.rlen l419) (A.rlen l419)) then
                                            E.lp (fun ds423 =>
                                              (opI (A.cell ds423 0) IntKind.i64).bind fun n424 =>
                                              (opI (A.cell ds423 1) IntKind.i64).bind fun n425 =>
                                              (opI (A.cell ds423 2) IntKind.i64).bind fun n426 =>
                                              (opI (A.cell ds423 3) IntKind.i64).bind fun n427 =>
                                              (opL (A.cell ds423 4) 4).bind fun l428 =>
                                              (opI (A.cell ds423 5) IntKind.i64).bind fun n429 =>
                                              (opI (A.cell ds423 6) IntKind.i64).bind fun n430 =>
                                              (opI (A.cell ds423 7) IntKind.i64).bind fun n431 =>
                                              (opI (A.cell ds423 8) IntKind.i64).bind fun n432 =>
                                              (opI (A.cell ds423 9) IntKind.i64).bind fun n433 =>
                                              (opL (A.cell ds423 10) 1).bind fun l434 =>
                                              (opL (A.cell ds423 11) 1).bind fun l435 =>
                                              (opL (A.cell ds423 12) 1).bind fun l436 =>
                                              (opL (A.cell ds423 13) 1).bind fun l437 =>
                                              (opL (A.cell ds423 14) 1).bind fun l438 =>
                                              bif (A.ilt n427 n426) then
                                                bif (A.inr n427 n426) then
                                                  (opI (A.cell (A.rown l437 (A.nat (A.add n425 n427))) 0) IntKind.i64).bind fun n439 =>
                                                  bif (A.inr (A.wrap IntKind.i64 (A.sub n427 1)) n426) then
                                                    (opI (A.cell (A.rown l437 (A.nat (A.add n425 (A.wrap IntKind.i64 (A.sub n427 1))))) 0) IntKind.i64).bind fun n440 =>
                                                    bif (A.bnot (A.ieq n439 n440)) then
                                                      bif (A.inr n427 n426) then
                                                        (opI (A.cell (A.rown l437 (A.nat (A.add n425 n427))) 0) IntKind.i64).bind fun n441 =>
                                                        bif (A.inr n424 (A.rlen l437)) then
                                                          bif (A.inrn (A.nat n424) l437) then
                                                            some (.inl [(D.int IntKind.i64 (A.wrap IntKind.i64 (A.add n424 1))), (D.int IntKind.i64 n425), (D.int IntKind.i64 n426), (D.int IntKind.i64 (A.wrap IntKind.i64 (A.add n427 1))), (D.sl 4 l428), (D.int IntKind.i64 n429), (D.int IntKind.i64 n430), (D.int IntKind.i64 n431), (D.int IntKind.i64 n432), (D.int IntKind.i64 n433), (D.sl 1 l434), (D.sl 1 l435), (D.sl 1 l436), (D.sl 1 (A.rput l437 (A.nat n424) 0 [(D.int IntKind.i64 n441)])), (D.sl 1 l438)])
                                                          else
                                                            none
                                                        else
                                                          none
                                                      else
                                                        none
                                                    else
                                                      some (.inl [(D.int IntKind.i64 n424), (D.int IntKind.i64 n425), (D.int IntKind.i64 n426), (D.int IntKind.i64 (A.wrap IntKind.i64 (A.add n427 1))), (D.sl 4 l428), (D.int IntKind.i64 n429), (D.int IntKind.i64 n430), (D.int IntKind.i64 n431), (D.int IntKind.i64 n432), (D.int IntKind.i64 n433), (D.sl 1 l434), (D.sl 1 l435), (D.sl 1 l436), (D.sl 1 l437), (D.sl 1 l438)])
                                                  else
                                                    none
                                                else
                                                  none
                                              else
                                                bif (A.cutok n424 (A.rlen l437) (A.rlen l437)) then
                                                  bif (A.cutok n424 (A.add n424 (A.sub (A.rlen l437) n424)) (A.rlen l437)) then
                                                    bif (A.cutok 0 n424 (A.rlen (A.rcopy l437 n424 (A.sub (A.rlen l437) n424) (A.rep (A.sub (A.rlen l437) n424) [(D.int IntKind.i64 0)])))) then
                                                      some (.inr (.inr (.inr (.inr (.inr (.inr (PRes.own 3 1 (A.head (A.rcopy l437 n424 (A.sub (A.rlen l437) n424) (A.rep (A.sub (A.rlen l437) n424) [(D.int IntKind.i64 0)])) n424))))))))
                                                    else
                                                      none
                                                  else
                                                    none
                                                else
                                                  none
                                            ) [(D.int IntKind.i64 n409), (D.int IntKind.i64 n409), (D.int IntKind.i64 (A.sub (A.rlen l419) n409)), (D.int IntKind.i64 1), (D.sl 4 l410), (D.int IntKind.i64 n411), (D.int IntKind.i64 n412), (D.int IntKind.i64 n413), (D.int IntKind.i64 n414), (D.int IntKind.i64 n415), (D.sl 1 l416), (D.sl 1 l417), (D.sl 1 l418), (D.sl 1 l419), (D.sl 1 l420)]
                                          else
                                            none
                                        else
                                          some (.inl [(D.int IntKind.i64 (A.wrap IntKind.i64 (A.add n409 1))), (D.sl 4 l410), (D.int IntKind.i64 n411), (D.int IntKind.i64 n412), (D.int IntKind.i64 n413), (D.int IntKind.i64 n414), (D.int IntKind.i64 n415), (D.sl 1 l416), (D.sl 1 l417), (D.sl 1 l418), (D.sl 1 l419), (D.sl 1 l420)])
                                      else
                                        none
                                    else
                                      none
                                  else
                                    some (.inr (.inr (.inr (.inr (.inr (PRes.own 3 1 l419))))))
                                ) [(D.int IntKind.i64 1), (D.sl 4 l374), (D.int IntKind.i64 n375), (D.int IntKind.i64 n376), (D.int IntKind.i64 n377), (D.int IntKind.i64 n378), (D.int IntKind.i64 n379), (D.sl 1 l380), (D.sl 1 l381), (D.sl 1 l382), (D.sl 1 l383), (D.sl 1 l384)]
                          ) [(D.int IntKind.i64 n354), (D.int IntKind.i64 n355), (D.int IntKind.i64 (A.wrap IntKind.i64 (A.add n354 1))), (D.sl 4 l359), (D.int IntKind.i64 n360), (D.int IntKind.i64 n361), (D.int IntKind.i64 n362), (D.int IntKind.i64 n363), (D.int IntKind.i64 n364), (D.sl 1 l365), (D.sl 1 l366), (D.sl 1 l367), (D.sl 1 l368), (D.sl 1 l369)]
                        else
                          bif (A.ieq n356 0) then
                            none
                          else
                            bif (A.bnot b357) then
                              none
                            else
                              none
                      ) [(D.int IntKind.i64 0), (D.int IntKind.i64 (A.rlen l255)), (D.int IntKind.i64 n352), (D.bool true), (D.bool true), (D.sl 4 l246), (D.int IntKind.i64 n247), (D.int IntKind.i64 n248), (D.int IntKind.i64 n249), (D.int IntKind.i64 n250), (D.int IntKind.i64 n251), (D.sl 1 l252), (D.sl 1 l253), (D.sl 1 l254), (D.sl 1 l255), (D.sl 1 l256)]
                  ) [(D.int IntKind.i64 (A.rlen (A.head (A.rcopy l238 n230 (A.sub (A.rlen l238) n230) (A.rep (A.sub (A.rlen l238) n230) [(D.int IntKind.i64 0)])) n230))), (D.int IntKind.i64 0), (D.sl 4 l232), (D.int IntKind.i64 n233), (D.int IntKind.i64 n234), (D.int IntKind.i64 n235), (D.int IntKind.i64 n236), (D.int IntKind.i64 n237), (D.sl 1 (A.head (A.rcopy l238 n230 (A.sub (A.rlen l238) n230) (A.rep (A.sub (A.rlen l238) n230) [(D.int IntKind.i64 0)])) n230)), (D.sl 1 []), (D.sl 1 []), (D.sl 1 []), (D.sl 1 [])]
                else
                  none
              else
                none
            else
              none
        ) [(D.int IntKind.i64 n29), (D.int IntKind.i64 (A.wrap IntKind.i64 (A.add n29 1))), (D.sl 4 l20), (D.int IntKind.i64 n21), (D.int IntKind.i64 n22), (D.int IntKind.i64 n23), (D.int IntKind.i64 n24), (D.int IntKind.i64 n25), (D.sl 1 l26)]
    else
      none
theorem g20_eq (A : Sy) (E : Env) (code_ : List (List D)) (at_ : Int) : (funT A Try.prog cs 20 [V.d (D.sl 4 code_), V.d (D.int IntKind.i64 at_)]).run E = g20 A E code_ at_ := by kernel_rfl
end Go.Vm
end

section
set_option linter.all false
set_option maxRecDepth 100000
namespace Go.Vm
open Go.Proofs
structure At20 (code : List (List D)) (at_ op to_ x y : Int) : Prop where
  i0 : sy.ilt at_ 0 = false
  i1 : sy.ile (sy.rlen code) at_ = false
  i2 : sy.inr at_ (sy.rlen code) = true
  r0 : sy.cell (sy.row code at_) 0 = some (.int .i64 op)
  r1 : sy.cell (sy.row code at_) 1 = some (.int .i64 to_)
  r2 : sy.cell (sy.row code at_) 2 = some (.int .i64 x)
  r3 : sy.cell (sy.row code at_) 3 = some (.int .i64 y)
  w : sy.wrap .i64 (sy.add at_ 1) = at_ + 1
variable {code : List (List D)} {at_ op to_ x y : Int}
theorem idx_0 : cF 75 [.d (.sl 1 []), .fn 44 [.pel [.int .i64 at_], .pel [.sl 4 code]]] = some (.val [.int .i64 (-1)]) := c75_44 [] at_ code (by simp)
theorem idx_1k {p : Int} (h : deadI at_ code.length p = false) : cF 75 [.d (.sl 1 (irows [p])), .fn 44 [.pel [.int .i64 at_], .pel [.sl 4 code]]] = some (.val [.int .i64 (-1)]) := by
  rw [c75_44 _ _ _ (by simp)]; simp [idxI, h]
theorem idx_1d {p : Int} (h : deadI at_ code.length p = true) : cF 75 [.d (.sl 1 (irows [p])), .fn 44 [.pel [.int .i64 at_], .pel [.sl 4 code]]] = some (.val [.int .i64 0]) := by
  rw [c75_44 _ _ _ (by simp)]; simp [idxI, h]
theorem idx_kk {p q : Int} (h : deadI at_ code.length p = false) (k : deadI at_ code.length q = false) : cF 75 [.d (.sl 1 (irows [p, q])), .fn 44 [.pel [.int .i64 at_], .pel [.sl 4 code]]] = some (.val [.int .i64 (-1)]) := by
  rw [c75_44 _ _ _ (by simp)]; simp [idxI, h, k]
theorem idx_kd {p q : Int} (h : deadI at_ code.length p = false) (k : deadI at_ code.length q = true) : cF 75 [.d (.sl 1 (irows [p, q])), .fn 44 [.pel [.int .i64 at_], .pel [.sl 4 code]]] = some (.val [.int .i64 1]) := by
  rw [c75_44 _ _ _ (by simp)]; simp [idxI, h, k]
theorem idx_d {p q : Int} (h : deadI at_ code.length p = true) : cF 75 [.d (.sl 1 (irows [p, q])), .fn 44 [.pel [.int .i64 at_], .pel [.sl 4 code]]] = some (.val [.int .i64 0]) := by
  rw [c75_44 _ _ _ (by simp)]; simp [idxI, h]
theorem cF44 {n : Int} {b : Bool} (h : deadI at_ code.length n = b) : cF 44 [.d (.int .i64 n), .pel [.int .i64 at_], .pel [.sl 4 code]] = some (.val [.bool b]) := by rw [c44, h]
theorem cF125 {p q : Int} (h : p ≤ q) : cF 125 [.d (.int .i64 q), .d (.int .i64 p)] = some (.val [.bool false]) := by
  rw [c125, decide_eq_false (by omega)]
theorem c20_other_k (h : At20 code at_ op to_ x y) (n6 : sy.ieq op 6 = false) (n7 : sy.ieq op 7 = false) (n10 : sy.ieq op 10 = false) (d : deadI at_ code.length (at_ + 1) = false) :
    cF 20 [.d (.sl 4 code), .d (.int .i64 at_)] = some (.own 3 1 (irows [at_ + 1])) := by
  refine cOf (by kernel_rfl) rfl ?_
  rw [g20_eq]
  unfold g20
  rw [h.w]
  have m6 : sy.bnot (sy.ieq op 6) = true := by rw [n6]; rfl
  have m10 : sy.bnot (sy.ieq op 10) = true := by rw [n10]; rfl
  have e := idx_1k d
  repeat' (first | with_reducible exact st_some | with_reducible apply st_cut | with_reducible apply st_bind | ((with_reducible apply st_t); (first | with_reducible exact h.i0 | with_reducible exact h.i1 | with_reducible exact h.i2 | with_reducible exact n6 | with_reducible exact n7 | with_reducible exact m6 | with_reducible exact m10 | rfl)) | ((with_reducible apply st_f); (first | with_reducible exact h.i0 | with_reducible exact h.i1 | with_reducible exact h.i2 | with_reducible exact n6 | with_reducible exact n7 | with_reducible exact m6 | with_reducible exact m10 | rfl)) | with_reducible apply st_lp | with_reducible apply st_inl | with_reducible exact st_inr | with_reducible apply st_opI | with_reducible apply st_opB | with_reducible apply st_opL | with_reducible exact h.r0 | with_reducible exact h.r1 | with_reducible exact h.r2 | with_reducible exact h.r3 | exact e | exact c106_1 | rfl)
theorem c20_other_d (h : At20 code at_ op to_ x y) (n6 : sy.ieq op 6 = false) (n7 : sy.ieq op 7 = false) (n10 : sy.ieq op 10 = false) (d : deadI at_ code.length (at_ + 1) = true) :
    cF 20 [.d (.sl 4 code), .d (.int .i64 at_)] = some (.own 3 1 (irows [])) := by
  refine cOf (by kernel_rfl) rfl ?_
  rw [g20_eq]
  unfold g20
  rw [h.w]
  have m6 : sy.bnot (sy.ieq op 6) = true := by rw [n6]; rfl
  have m10 : sy.bnot (sy.ieq op 10) = true := by rw [n10]; rfl
  have e := idx_1d d
  repeat' (first | with_reducible exact st_some | with_reducible apply st_cut | with_reducible apply st_bind | ((with_reducible apply st_t); (first | with_reducible exact h.i0 | with_reducible exact h.i1 | with_reducible exact h.i2 | with_reducible exact n6 | with_reducible exact n7 | with_reducible exact m6 | with_reducible exact m10 | rfl)) | ((with_reducible apply st_f); (first | with_reducible exact h.i0 | with_reducible exact h.i1 | with_reducible exact h.i2 | with_reducible exact n6 | with_reducible exact n7 | with_reducible exact m6 | with_reducible exact m10 | rfl)) | with_reducible apply st_lp | with_reducible apply st_inl | with_reducible exact st_inr | with_reducible apply st_opI | with_reducible apply st_opB | with_reducible apply st_opL | with_reducible exact h.r0 | with_reducible exact h.r1 | with_reducible exact h.r2 | with_reducible exact h.r3 | exact e | exact c106_0 | rfl)
theorem c20_ten (h : At20 code at_ op to_ x y) (e10 : sy.ieq op 10 = true) (n6 : sy.ieq op 6 = false) (n7 : sy.ieq op 7 = false) :
    cF 20 [.d (.sl 4 code), .d (.int .i64 at_)] = some (.own 3 1 (irows [])) := by
  refine cOf (by kernel_rfl) rfl ?_
  rw [g20_eq]
  unfold g20
  rw [h.w]
  have m10 : sy.bnot (sy.ieq op 10) = false := by rw [e10]; rfl
  have e := idx_0 (code := code) (at_ := at_)
  repeat' (first | with_reducible exact st_some | with_reducible apply st_cut | with_reducible apply st_bind | ((with_reducible apply st_t); (first | with_reducible exact h.i0 | with_reducible exact h.i1 | with_reducible exact h.i2 | with_reducible exact n6 | with_reducible exact n7 | with_reducible exact m10 | rfl)) | ((with_reducible apply st_f); (first | with_reducible exact h.i0 | with_reducible exact h.i1 | with_reducible exact h.i2 | with_reducible exact n6 | with_reducible exact n7 | with_reducible exact m10 | rfl)) | with_reducible apply st_lp | with_reducible apply st_inl | with_reducible exact st_inr | with_reducible apply st_opI | with_reducible apply st_opB | with_reducible apply st_opL | with_reducible exact h.r0 | with_reducible exact h.r1 | with_reducible exact h.r2 | with_reducible exact h.r3 | exact e | exact c106_0 | rfl)
theorem c20_six_k (h : At20 code at_ op to_ x y) (e6 : sy.ieq op 6 = true) (n10 : sy.ieq op 10 = false) (d : deadI at_ code.length (to_) = false) :
    cF 20 [.d (.sl 4 code), .d (.int .i64 at_)] = some (.own 3 1 (irows [to_])) := by
  refine cOf (by kernel_rfl) rfl ?_
  rw [g20_eq]
  unfold g20
  rw [h.w]
  have m6 : sy.bnot (sy.ieq op 6) = false := by rw [e6]; rfl
  have m10 : sy.bnot (sy.ieq op 10) = true := by rw [n10]; rfl
  have e := idx_1k d
  repeat' (first | with_reducible exact st_some | with_reducible apply st_cut | with_reducible apply st_bind | ((with_reducible apply st_t); (first | with_reducible exact h.i0 | with_reducible exact h.i1 | with_reducible exact h.i2 | with_reducible exact e6 | with_reducible exact m6 | with_reducible exact m10 | rfl)) | ((with_reducible apply st_f); (first | with_reducible exact h.i0 | with_reducible exact h.i1 | with_reducible exact h.i2 | with_reducible exact e6 | with_reducible exact m6 | with_reducible exact m10 | rfl)) | with_reducible apply st_lp | with_reducible apply st_inl | with_reducible exact st_inr | with_reducible apply st_opI | with_reducible apply st_opB | with_reducible apply st_opL | with_reducible exact h.r0 | with_reducible exact h.r1 | with_reducible exact h.r2 | with_reducible exact h.r3 | exact e | exact c106_1 | rfl)
theorem c20_six_d (h : At20 code at_ op to_ x y) (e6 : sy.ieq op 6 = true) (n10 : sy.ieq op 10 = false) (d : deadI at_ code.length (to_) = true) :
    cF 20 [.d (.sl 4 code), .d (.int .i64 at_)] = some (.own 3 1 (irows [])) := by
  refine cOf (by kernel_rfl) rfl ?_
  rw [g20_eq]
  unfold g20
  rw [h.w]
  have m6 : sy.bnot (sy.ieq op 6) = false := by rw [e6]; rfl
  have m10 : sy.bnot (sy.ieq op 10) = true := by rw [n10]; rfl
  have e := idx_1d d
  repeat' (first | with_reducible exact st_some | with_reducible apply st_cut | with_reducible apply st_bind | ((with_reducible apply st_t); (first | with_reducible exact h.i0 | with_reducible exact h.i1 | with_reducible exact h.i2 | with_reducible exact e6 | with_reducible exact m6 | with_reducible exact m10 | rfl)) | ((with_reducible apply st_f); (first | with_reducible exact h.i0 | with_reducible exact h.i1 | with_reducible exact h.i2 | with_reducible exact e6 | with_reducible exact m6 | with_reducible exact m10 | rfl)) | with_reducible apply st_lp | with_reducible apply st_inl | with_reducible exact st_inr | with_reducible apply st_opI | with_reducible apply st_opB | with_reducible apply st_opL | with_reducible exact h.r0 | with_reducible exact h.r1 | with_reducible exact h.r2 | with_reducible exact h.r3 | exact e | exact c106_0 | rfl)
theorem c20_sev_kk (h : At20 code at_ op to_ x y) (e7 : sy.ieq op 7 = true) (n6 : sy.ieq op 6 = false) (n10 : sy.ieq op 10 = false) (d : deadI at_ code.length (at_ + 1) = false) (d2 : deadI at_ code.length (to_) = false) (l : at_ + 1 < to_) :
    cF 20 [.d (.sl 4 code), .d (.int .i64 at_)] = some (.own 3 1 (irows [at_ + 1, to_])) := by
  refine cOf (by kernel_rfl) rfl ?_
  rw [g20_eq]
  unfold g20
  rw [h.w]
  have m6 : sy.bnot (sy.ieq op 6) = true := by rw [n6]; rfl
  have m10 : sy.bnot (sy.ieq op 10) = true := by rw [n10]; rfl
  have e := idx_kk d d2
  have f := cF125 (p := at_ + 1) (q := to_) (by omega)
  have q : sy.ieq to_ (at_ + 1) = false := decide_eq_false (by omega)
  repeat' (first | with_reducible exact st_some | with_reducible apply st_cut | with_reducible apply st_bind | ((with_reducible apply st_t); (first | with_reducible exact h.i0 | with_reducible exact h.i1 | with_reducible exact h.i2 | with_reducible exact e7 | with_reducible exact n6 | with_reducible exact m6 | with_reducible exact m10 | with_reducible exact q | rfl)) | ((with_reducible apply st_f); (first | with_reducible exact h.i0 | with_reducible exact h.i1 | with_reducible exact h.i2 | with_reducible exact e7 | with_reducible exact n6 | with_reducible exact m6 | with_reducible exact m10 | with_reducible exact q | rfl)) | with_reducible apply st_lp | with_reducible apply st_inl | with_reducible exact st_inr | with_reducible apply st_opI | with_reducible apply st_opB | with_reducible apply st_opL | with_reducible exact h.r0 | with_reducible exact h.r1 | with_reducible exact h.r2 | with_reducible exact h.r3 | exact e | exact f | exact c106_2 | rfl)
theorem c20_sev_eq (h : At20 code at_ op to_ x y) (e7 : sy.ieq op 7 = true) (n6 : sy.ieq op 6 = false) (n10 : sy.ieq op 10 = false) (d : deadI at_ code.length (at_ + 1) = false) (l : to_ = at_ + 1) :
    cF 20 [.d (.sl 4 code), .d (.int .i64 at_)] = some (.own 3 1 (irows [at_ + 1])) := by
  refine cOf (by kernel_rfl) rfl ?_
  rw [g20_eq]
  unfold g20
  rw [h.w]
  have m6 : sy.bnot (sy.ieq op 6) = true := by rw [n6]; rfl
  have m10 : sy.bnot (sy.ieq op 10) = true := by rw [n10]; rfl
  have e := idx_kk d d
  have f := cF125 (p := at_ + 1) (q := at_ + 1) (by omega)
  have q : sy.ieq (at_ + 1) (at_ + 1) = true := decide_eq_true rfl
  have r1 := h.r1
  rw [l] at r1
  repeat' (first | with_reducible exact st_some | with_reducible apply st_cut | with_reducible apply st_bind | ((with_reducible apply st_t); (first | with_reducible exact h.i0 | with_reducible exact h.i1 | with_reducible exact h.i2 | with_reducible exact e7 | with_reducible exact n6 | with_reducible exact m6 | with_reducible exact m10 | with_reducible exact q | rfl)) | ((with_reducible apply st_f); (first | with_reducible exact h.i0 | with_reducible exact h.i1 | with_reducible exact h.i2 | with_reducible exact e7 | with_reducible exact n6 | with_reducible exact m6 | with_reducible exact m10 | with_reducible exact q | rfl)) | with_reducible apply st_lp | with_reducible apply st_inl | with_reducible exact st_inr | with_reducible apply st_opI | with_reducible apply st_opB | with_reducible apply st_opL | with_reducible exact h.r0 | with_reducible exact r1 | with_reducible exact h.r2 | with_reducible exact h.r3 | exact e | exact f | exact c106_2 | rfl)
theorem c20_sev_kd (h : At20 code at_ op to_ x y) (e7 : sy.ieq op 7 = true) (n6 : sy.ieq op 6 = false) (n10 : sy.ieq op 10 = false) (d : deadI at_ code.length (at_ + 1) = false) (d2 : deadI at_ code.length (to_) = true) :
    cF 20 [.d (.sl 4 code), .d (.int .i64 at_)] = some (.own 3 1 (irows [at_ + 1])) := by
  refine cOf (by kernel_rfl) rfl ?_
  rw [g20_eq]
  unfold g20
  rw [h.w]
  have m6 : sy.bnot (sy.ieq op 6) = true := by rw [n6]; rfl
  have m10 : sy.bnot (sy.ieq op 10) = true := by rw [n10]; rfl
  have e := idx_kd d d2
  repeat' (first | with_reducible exact st_some | with_reducible apply st_cut | with_reducible apply st_bind | ((with_reducible apply st_t); (first | with_reducible exact h.i0 | with_reducible exact h.i1 | with_reducible exact h.i2 | with_reducible exact e7 | with_reducible exact n6 | with_reducible exact m6 | with_reducible exact m10 | rfl)) | ((with_reducible apply st_f); (first | with_reducible exact h.i0 | with_reducible exact h.i1 | with_reducible exact h.i2 | with_reducible exact e7 | with_reducible exact n6 | with_reducible exact m6 | with_reducible exact m10 | rfl)) | with_reducible apply st_lp | with_reducible apply st_inl | with_reducible exact st_inr | with_reducible apply st_opI | with_reducible apply st_opB | with_reducible apply st_opL | with_reducible exact h.r0 | with_reducible exact h.r1 | with_reducible exact h.r2 | with_reducible exact h.r3 | exact e | exact c106_1 | rfl)
theorem c20_sev_dd (h : At20 code at_ op to_ x y) (e7 : sy.ieq op 7 = true) (n6 : sy.ieq op 6 = false) (n10 : sy.ieq op 10 = false) (d : deadI at_ code.length (at_ + 1) = true) (d2 : deadI at_ code.length (to_) = true) :
    cF 20 [.d (.sl 4 code), .d (.int .i64 at_)] = some (.own 3 1 (irows [])) := by
  refine cOf (by kernel_rfl) rfl ?_
  rw [g20_eq]
  unfold g20
  rw [h.w]
  have m6 : sy.bnot (sy.ieq op 6) = true := by rw [n6]; rfl
  have m10 : sy.bnot (sy.ieq op 10) = true := by rw [n10]; rfl
  have e := idx_d (q := to_) d
  have f := cF44 d2
  repeat' (first | with_reducible exact st_some | with_reducible apply st_cut | with_reducible apply st_bind | ((with_reducible apply st_t); (first | with_reducible exact h.i0 | with_reducible exact h.i1 | with_reducible exact h.i2 | with_reducible exact e7 | with_reducible exact n6 | with_reducible exact m6 | with_reducible exact m10 | rfl)) | ((with_reducible apply st_f); (first | with_reducible exact h.i0 | with_reducible exact h.i1 | with_reducible exact h.i2 | with_reducible exact e7 | with_reducible exact n6 | with_reducible exact m6 | with_reducible exact m10 | rfl)) | with_reducible apply st_lp | with_reducible apply st_inl | with_reducible exact st_inr | with_reducible apply st_opI | with_reducible apply st_opB | with_reducible apply st_opL | with_reducible exact h.r0 | with_reducible exact h.r1 | with_reducible exact h.r2 | with_reducible exact h.r3 | exact e | exact f | exact c106_0 | rfl)
end Go.Vm
end

section
set_option linter.all false
set_option maxRecDepth 100000
namespace Go.Vm
open Go.Proofs
/-- Where a place leads, by what is asked of it. -/
def leadsB (b10 b6 b7 ba b1 b2 be : Bool) (at_ to_ : Int) : List Int :=
  bif b10 then [] else (bif !b6 && ba then [at_ + 1] else []) ++ (bif (b6 || b7) && b1 && b2 && !(!b6 && ba && be) then [to_] else [])
def leads (code : List Ins) (at_ : Int) : List Int :=
  let x := code.getD at_.toNat default
  let n : Int := code.length
  bif decide (0 ≤ at_ ∧ at_ < n) then leadsB (decide (x.op = 10)) (decide (x.op = 6)) (decide (x.op = 7)) (decide (at_ + 1 < n)) (decide (at_ < x.a)) (decide (x.a < n)) (decide (at_ + 1 = x.a)) at_ x.a else []
variable {code : List Ins} {at_ : Int}
theorem at20 (h0 : 0 ≤ at_) (h1 : at_ < (code.length : Int)) (hl : code.length ≤ 100000) :
    At20 (crows code) at_ (code.getD at_.toNat default).op (code.getD at_.toNat default).a (code.getD at_.toNat default).b (code.getD at_.toNat default).n := by
  have e : sy.row (crows code) at_ = (code.getD at_.toNat default).row := by rw [sy_row, crows_get _ _ (by omega)]
  have hlen : ((crows code).length : Int) = code.length := by rw [crows_len]
  refine ⟨decide_eq_false (by omega), decide_eq_false ?_, decide_eq_true ?_, by rw [e]; rfl, by rw [e]; rfl, by rw [e]; rfl, by rw [e]; rfl, ?_⟩
  · show ¬ ((crows code).length : Int) ≤ at_; omega
  · show 0 ≤ at_ ∧ at_ < ((crows code).length : Int); omega
  · show IntKind.i64.wrap (at_ + 1) = at_ + 1; exact wrap_id (by omega) (by omega)
theorem c20_neg (h : sy.ilt at_ 0 = true) (code : List (List D)) : cF 20 [.d (.sl 4 code), .d (.int .i64 at_)] = some (.own 3 1 []) := by
  refine cOf (by kernel_rfl) rfl ?_
  rw [g20_eq]
  unfold g20
  repeat' (first | with_reducible exact st_some | with_reducible apply st_cut | with_reducible apply st_bind | ((with_reducible apply st_t); (first | with_reducible exact h | rfl)) | ((with_reducible apply st_f); (first | with_reducible exact h | rfl)) | with_reducible apply st_lp | with_reducible apply st_inl | with_reducible exact st_inr | with_reducible apply st_opI | with_reducible apply st_opB | with_reducible apply st_opL | rfl)
theorem c20_far (h : sy.ilt at_ 0 = false) (code : List (List D)) (h2 : sy.ile (sy.rlen code) at_ = true) : cF 20 [.d (.sl 4 code), .d (.int .i64 at_)] = some (.own 3 1 []) := by
  refine cOf (by kernel_rfl) rfl ?_
  rw [g20_eq]
  unfold g20
  repeat' (first | with_reducible exact st_some | with_reducible apply st_cut | with_reducible apply st_bind | ((with_reducible apply st_t); (first | with_reducible exact h | with_reducible exact h2 | rfl)) | ((with_reducible apply st_f); (first | with_reducible exact h | with_reducible exact h2 | rfl)) | with_reducible apply st_lp | with_reducible apply st_inl | with_reducible exact st_inr | with_reducible apply st_opI | with_reducible apply st_opB | with_reducible apply st_opL | rfl)
theorem c20 (hl : code.length ≤ 100000) : cF 20 [.d (.sl 4 (crows code)), .d (.int .i64 at_)] = some (.own 3 1 (irows (leads code at_))) := by
  have hlen : ((crows code).length : Int) = code.length := by rw [crows_len]
  unfold leads
  by_cases h0 : 0 ≤ at_
  · by_cases h1 : at_ < (code.length : Int)
    · simp only [decide_eq_true (show 0 ≤ at_ ∧ at_ < (code.length : Int) from ⟨h0, h1⟩), cond_true]
      have h := at20 h0 h1 hl
      generalize code.getD at_.toNat default = x at h
      obtain ⟨op, a, b, n⟩ := x
      simp only at h
      have dd : ∀ m : Int, deadI at_ ((crows code).length : Int) m = (decide (m ≤ at_) || decide ((code.length : Int) ≤ m)) := fun m => by rw [hlen]; rfl
      by_cases e10 : op = 10
      · rw [c20_ten h (decide_eq_true e10) (decide_eq_false (by omega)) (decide_eq_false (by omega))]
        simp [leadsB, e10]
      have n10 : sy.ieq op 10 = false := decide_eq_false e10
      by_cases e6 : op = 6
      · by_cases b1 : at_ < a
        · by_cases b2 : a < (code.length : Int)
          · rw [c20_six_k h (decide_eq_true e6) n10 (by rw [dd, decide_eq_false (by omega), decide_eq_false (by omega)]; rfl)]
            simp [leadsB, e10, e6, b1, b2]
          · rw [c20_six_d h (decide_eq_true e6) n10 (by rw [dd, decide_eq_true (show (code.length : Int) ≤ a by omega), Bool.or_true])]
            simp [leadsB, e10, e6, b1, b2, irows]
        · rw [c20_six_d h (decide_eq_true e6) n10 (by rw [dd, decide_eq_true (show a ≤ at_ by omega), Bool.true_or])]
          simp [leadsB, e10, e6, b1, irows]
      have n6 : sy.ieq op 6 = false := decide_eq_false e6
      by_cases ba : at_ + 1 < (code.length : Int)
      · have d1 : deadI at_ ((crows code).length : Int) (at_ + 1) = false := by rw [dd, decide_eq_false (by omega), decide_eq_false (by omega)]; rfl
        by_cases e7 : op = 7
        · have e7' : sy.ieq op 7 = true := decide_eq_true e7
          by_cases b1 : at_ < a
          · by_cases b2 : a < (code.length : Int)
            · by_cases be : at_ + 1 = a
              · rw [c20_sev_eq h e7' n6 n10 d1 be.symm]
                simp [leadsB, e10, e6, e7, b1, b2, ba, be]
              · rw [c20_sev_kk h e7' n6 n10 d1 (by rw [dd, decide_eq_false (by omega), decide_eq_false (by omega)]; rfl) (by omega)]
                simp [leadsB, e10, e6, e7, b1, b2, ba, be]
            · rw [c20_sev_kd h e7' n6 n10 d1 (by rw [dd, decide_eq_true (show (code.length : Int) ≤ a by omega), Bool.or_true])]
              simp [leadsB, e10, e6, e7, b1, b2, ba]
          · rw [c20_sev_kd h e7' n6 n10 d1 (by rw [dd, decide_eq_true (show a ≤ at_ by omega), Bool.true_or])]
            simp [leadsB, e10, e6, e7, b1, ba]
        · rw [c20_other_k h n6 (decide_eq_false e7) n10 d1]
          simp [leadsB, e10, e6, e7, ba]
      · have d1 : deadI at_ ((crows code).length : Int) (at_ + 1) = true := by rw [dd, decide_eq_true (show (code.length : Int) ≤ at_ + 1 by omega), Bool.or_true]
        by_cases e7 : op = 7
        · have d2 : deadI at_ ((crows code).length : Int) a = true := by
            rw [dd]
            by_cases b1 : at_ < a
            · rw [decide_eq_true (show (code.length : Int) ≤ a by omega), Bool.or_true]
            · rw [decide_eq_true (show a ≤ at_ by omega), Bool.true_or]
          rw [c20_sev_dd h (decide_eq_true e7) n6 n10 d1 d2]
          by_cases b1 : at_ < a
          · have b2 : ¬ a < (code.length : Int) := by omega
            simp [leadsB, e10, e6, e7, ba, b1, b2, irows]
          · simp [leadsB, e10, e6, e7, ba, b1, irows]
        · rw [c20_other_d h n6 (decide_eq_false e7) n10 d1]
          simp [leadsB, e10, e6, e7, ba, irows]
    · simp only [decide_eq_false (show ¬ (0 ≤ at_ ∧ at_ < (code.length : Int)) by omega), cond_false]
      exact c20_far (decide_eq_false (by omega)) _ (decide_eq_true (by show ((crows code).length : Int) ≤ at_; omega))
  · simp only [decide_eq_false (show ¬ (0 ≤ at_ ∧ at_ < (code.length : Int)) by omega), cond_false]
    exact c20_neg (decide_eq_true (by omega)) _
end Go.Vm
end

section
set_option linter.all false
set_option maxRecDepth 100000
namespace Go.Vm
open Go.Proofs
variable {code : List Ins} {at_ : Int}
theorem c21_neg (h : sy.ilt at_ 0 = true) (code : List (List D)) : cF 21 [.d (.sl 4 code), .d (.int .i64 at_)] = some (.own 3 1 []) := by
  refine cOf (by kernel_rfl) rfl ?_
  rw [g21_eq]
  unfold g21
  repeat' (first | with_reducible exact st_some | with_reducible apply st_cut | with_reducible apply st_bind | ((with_reducible apply st_t); (first | with_reducible exact h | rfl)) | ((with_reducible apply st_f); (first | with_reducible exact h | rfl)) | with_reducible apply st_lp | with_reducible apply st_inl | with_reducible exact st_inr | with_reducible apply st_opI | with_reducible apply st_opB | with_reducible apply st_opL | rfl)
theorem c21_far (h : sy.ilt at_ 0 = false) (code : List (List D)) (h2 : sy.ile (sy.rlen code) at_ = true) : cF 21 [.d (.sl 4 code), .d (.int .i64 at_)] = some (.own 3 1 []) := by
  refine cOf (by kernel_rfl) rfl ?_
  rw [g21_eq]
  unfold g21
  repeat' (first | with_reducible exact st_some | with_reducible apply st_cut | with_reducible apply st_bind | ((with_reducible apply st_t); (first | with_reducible exact h | with_reducible exact h2 | rfl)) | ((with_reducible apply st_f); (first | with_reducible exact h | with_reducible exact h2 | rfl)) | with_reducible apply st_lp | with_reducible apply st_inl | with_reducible exact st_inr | with_reducible apply st_opI | with_reducible apply st_opB | with_reducible apply st_opL | rfl)
theorem c21_in {code : List (List D)} {op to_ x y : Int} (h : At20 code at_ op to_ x y) (s0 : sy.cell (sy.skip 1 (sy.row code at_)) 0 = some (.int .i64 to_)) {b10 b6 b7 ba b1 b2 be : Bool} (e10 : sy.ieq op 10 = b10) (e6 : sy.ieq op 6 = b6) (e7 : sy.ieq op 7 = b7) (ea : sy.ilt (at_ + 1) (sy.rlen code) = ba) (e1 : sy.ilt at_ to_ = b1) (e2 : sy.ilt to_ (sy.rlen code) = b2) (ee : sy.ieq (at_ + 1) to_ = be) :
    cF 21 [.d (.sl 4 code), .d (.int .i64 at_)] = some (.own 3 1 (irows (leadsB b10 b6 b7 ba b1 b2 be at_ to_))) := by
  have f6 : sy.bnot (sy.ieq op 6) = !b6 := by rw [e6]; rfl
  have fe : sy.bnot (sy.ieq (at_ + 1) to_) = !be := by rw [ee]; rfl
  refine cOf (by kernel_rfl) rfl ?_
  rw [g21_eq]
  unfold g21
  rw [h.w]
  cases b10
  · cases b6 <;> cases b7 <;> cases ba <;> cases b1 <;> cases b2 <;> cases be
    all_goals
      simp only [Bool.not_false, Bool.not_true] at f6 fe
      repeat' (first | with_reducible exact st_some | with_reducible apply st_cut | with_reducible apply st_bind | ((with_reducible apply st_t); (first | with_reducible exact h.i0 | with_reducible exact h.i1 | with_reducible exact h.i2 | with_reducible exact e10 | with_reducible exact e6 | with_reducible exact e7 | with_reducible exact ea | with_reducible exact e1 | with_reducible exact e2 | with_reducible exact ee | with_reducible exact f6 | with_reducible exact fe | rfl)) | ((with_reducible apply st_f); (first | with_reducible exact h.i0 | with_reducible exact h.i1 | with_reducible exact h.i2 | with_reducible exact e10 | with_reducible exact e6 | with_reducible exact e7 | with_reducible exact ea | with_reducible exact e1 | with_reducible exact e2 | with_reducible exact ee | with_reducible exact f6 | with_reducible exact fe | rfl)) | with_reducible apply st_lp | with_reducible apply st_inl | with_reducible exact st_inr | with_reducible apply st_opI | with_reducible apply st_opB | with_reducible apply st_opL | with_reducible exact h.r0 | with_reducible exact s0 | rfl)
  · repeat' (first | with_reducible exact st_some | with_reducible apply st_cut | with_reducible apply st_bind | ((with_reducible apply st_t); (first | with_reducible exact h.i0 | with_reducible exact h.i1 | with_reducible exact h.i2 | with_reducible exact e10 | rfl)) | ((with_reducible apply st_f); (first | with_reducible exact h.i0 | with_reducible exact h.i1 | with_reducible exact h.i2 | with_reducible exact e10 | rfl)) | with_reducible apply st_lp | with_reducible apply st_inl | with_reducible exact st_inr | with_reducible apply st_opI | with_reducible apply st_opB | with_reducible apply st_opL | with_reducible exact h.r0 | with_reducible exact s0 | rfl)
theorem c21 (hl : code.length ≤ 100000) : cF 21 [.d (.sl 4 (crows code)), .d (.int .i64 at_)] = some (.own 3 1 (irows (leads code at_))) := by
  have hlen : ((crows code).length : Int) = code.length := by rw [crows_len]
  have hl2 : sy.rlen (crows code) = (code.length : Int) := hlen
  unfold leads
  by_cases h0 : 0 ≤ at_
  · by_cases h1 : at_ < (code.length : Int)
    · simp only [decide_eq_true (show 0 ≤ at_ ∧ at_ < (code.length : Int) from ⟨h0, h1⟩), cond_true]
      have h := at20 h0 h1 hl
      have s0 : sy.cell (sy.skip 1 (sy.row (crows code) at_)) 0 = some (.int .i64 (code.getD at_.toNat default).a) := by
        rw [sy_row, crows_get _ _ (by omega)]; rfl
      exact c21_in h s0 rfl rfl rfl (by rw [hl2]; rfl) rfl (by rw [hl2]; rfl) rfl
    · simp only [decide_eq_false (show ¬ (0 ≤ at_ ∧ at_ < (code.length : Int)) by omega), cond_false]
      exact c21_far (decide_eq_false (by omega)) _ (decide_eq_true (by show ((crows code).length : Int) ≤ at_; omega))
  · simp only [decide_eq_false (show ¬ (0 ≤ at_ ∧ at_ < (code.length : Int)) by omega), cond_false]
    exact c21_neg (decide_eq_true (by omega)) _
end Go.Vm
end

section
set_option linter.all false
set_option maxRecDepth 100000
namespace Go.Vm
open Go.Proofs
/-! ### how much fuel a code needs at most -/
def mxL (l : List Int) (ls : List Int) (m : Int) : Int := ls.foldl (fun m j => max m (l.getD j.toNat 0)) m
def bStep (code : List Ins) (l : List Int) (i : Nat) : List Int := l.set i (mxL l (leads code i) 0 + 1)
def bL (code : List Ins) : Nat → List Int
  | 0 => List.replicate code.length 0
  | k + 1 => bStep code (bL code k) (code.length - 1 - k)
def bound (code : List Ins) : Int := (bL code code.length).getD 0 0
variable {code : List Ins}
theorem bL_len : ∀ k, (bL code k).length = code.length
  | 0 => by simp [bL]
  | k + 1 => by simp [bL, bStep, bL_len k]
theorem leads_bd {i : Nat} {j : Int} (h : j ∈ leads code i) : (i : Int) < j ∧ j < code.length := by
  unfold leads at h
  simp only at h
  by_cases h1 : (0 : Int) ≤ i ∧ (i : Int) < code.length
  · rw [decide_eq_true h1] at h
    simp only [cond_true] at h
    generalize code.getD (i : Int).toNat default = x at h
    unfold leadsB at h
    by_cases h10 : x.op = 10
    · simp [h10] at h
    · simp only [h10, decide_false, cond_false, List.mem_append] at h
      rcases h with h | h
      · by_cases c : (!decide (x.op = 6) && decide ((i : Int) + 1 < code.length)) = true
        · rw [c] at h
          simp only [Bool.and_eq_true, decide_eq_true_eq] at c
          simp only [cond_true, List.mem_singleton] at h
          omega
        · simp only [Bool.not_eq_true] at c
          rw [c] at h; simp at h
      · by_cases c : ((decide (x.op = 6) || decide (x.op = 7)) && decide ((i : Int) < x.a) && decide (x.a < (code.length : Int)) && !(!decide (x.op = 6) && decide ((i : Int) + 1 < code.length) && decide ((i : Int) + 1 = x.a))) = true
        · rw [c] at h
          simp only [Bool.and_eq_true, decide_eq_true_eq] at c
          simp only [cond_true, List.mem_singleton] at h
          omega
        · simp only [Bool.not_eq_true] at c
          rw [c] at h; simp at h
  · rw [decide_eq_false h1] at h; simp at h
theorem leads_short (i : Nat) : (leads code i).length ≤ 2 := by
  unfold leads
  simp only
  cases decide ((0 : Int) ≤ i ∧ (i : Int) < code.length)
  · simp
  · simp only [cond_true]
    unfold leadsB
    cases decide ((code.getD (i : Int).toNat default).op = 10)
    · simp only [cond_false, List.length_append]
      have a : ∀ (b : Bool) (x : Int), (bif b then [x] else []).length ≤ 1 := fun b x => by cases b <;> simp
      have := a (!decide ((code.getD (i : Int).toNat default).op = 6) && decide ((i : Int) + 1 < code.length)) ((i : Int) + 1)
      exact Nat.add_le_add this (a _ _)
    · simp
theorem mxL_bd {l : List Int} {k : Int} (hl : ∀ x ∈ l, 0 ≤ x ∧ x ≤ k) (hk : 0 ≤ k) : ∀ (ls : List Int) (m : Int), 0 ≤ m → m ≤ k → 0 ≤ mxL l ls m ∧ mxL l ls m ≤ k
  | [], m, h0, h1 => ⟨h0, h1⟩
  | j :: ls, m, h0, h1 => by
    have : 0 ≤ l.getD j.toNat 0 ∧ l.getD j.toNat 0 ≤ k := by
      rw [List.getD_eq_getElem?_getD]
      cases h : l[j.toNat]? with
      | none => simp; omega
      | some x => simp; exact hl x (List.mem_of_getElem? h)
    exact mxL_bd hl hk ls (max m (l.getD j.toNat 0)) (by omega) (by omega)
theorem bL_bd : ∀ k x, x ∈ bL code k → 0 ≤ x ∧ x ≤ k
  | 0, x, h => by
    have := (List.mem_replicate.1 h).2; omega
  | k + 1, x, h => by
    unfold bL bStep at h
    rcases List.mem_or_eq_of_mem_set h with h | h
    · have := bL_bd k x h; omega
    · have := mxL_bd (bL_bd k) (by omega) (leads code (code.length - 1 - k : Nat)) 0 (by omega) (by omega)
      omega
/-- Places not come to yet. -/
theorem bL_zero : ∀ (k i : Nat), i + k < code.length → (bL code k).getD i 0 = 0
  | 0, i, h => by
    unfold bL
    rw [List.getD_eq_getElem?_getD, List.getElem?_replicate, if_pos (by omega)]; rfl
  | k + 1, i, h => by
    unfold bL bStep
    rw [List.getD_eq_getElem?_getD, List.getElem?_set, if_neg (by omega), ← List.getD_eq_getElem?_getD]
    exact bL_zero k i (by omega)
theorem foldE_inl {σ τ α : Type} (f : τ → σ → σ) (fin : σ → α) : ∀ (l : List τ) (s : σ), foldE (fun x s => .inl (f x s)) fin l s = fin (l.foldl (fun s x => f x s) s)
  | [], s => rfl
  | x :: l, s => by
    show foldE _ _ l (f x s) = _
    rw [foldE_inl]; rfl
theorem irows_put (l : List Int) (n : Nat) (v : Int) (h : n < l.length) : sy.rput (irows l) n 0 [.int .i64 v] = irows (l.set n v) := by
  show (irows l).set n _ = _
  rw [irows_get _ _ h]
  unfold irows
  rw [List.map_set]
  rfl
theorem irows_n {l : List Int} {n : Nat} (h : n < l.length) : sy.cell (sy.rown (irows l) n) 0 = some (.int .i64 (l.getD n 0)) := by
  rw [sy_rown, irows_get _ _ h]; rfl
theorem c18 (hl : code.length ≤ 1000) : cF 18 [.d (.sl 4 (crows code))] = some (.val [.int .i64 (bound code)]) := by
  refine cOf (by kernel_rfl) rfl ?_
  rw [g18_eq]
  simp only [g18, sy_wrap, sy_add, sy_sub, sy_mul, sy_ieq, sy_ilt, sy_ile, sy_seq, sy_beq, sy_bor, sy_bnot, sy_imax, sy_imin, sy_rlen, sy_slen, sy_sapp, sy_inr, sy_nat, sy_cell0, sy_cellS, sy_skip0, sy_inrn, sy_rapp, sy_fits, sy_cutok, sy_cut, sy_scut, sy_sbyte, sy_mkok, sy_mkok0, sy_mkz, sy_rep, sy_head, sy_deq, eqDs_int, eqDs_nil, opI_int, opB_bool, opS_str, opL_sl, opM_own, leaves_val, leaves_own, Option.bind_some, cutO_bool, bif_bool, cutO_inl, cutO_inr, eF_call, eF_lp, Nat.zero_add, Nat.reduceAdd, Bool.cond_false_right, Bool.cond_true_left, Bool.cond_false_left, Bool.cond_true_right, Bool.not_true, Bool.not_false, Bool.not_not, eq_self, decide_true, decide_false, cond_true, cond_false, Int.reduceEq, Int.reduceLT, Int.reduceLE, Int.reduceSub, Int.reduceAdd, Bool.true_and, Bool.and_true, Bool.false_and, Bool.and_false, Bool.or_false, Bool.false_or, Bool.true_or, Bool.or_true, true_and, and_true, crows_len]
  rw [decide_eq_true (by omega)]
  simp only [cond_true]
  have hrep : List.replicate (code.length : Int).toNat [D.int .i64 0] = irows (bL code 0) := by
    simp only [Int.toNat_natCast, bL, irows, List.map_replicate]; rfl
  rw [hrep]
  refine loopF_at (fun k : Nat => [.sl 4 (crows code), .int .i64 (k : Int), .sl 1 (irows (bL code k))]) (fun k => k ≤ code.length) (fun k => code.length - k) (fun k hk => ?_) 0 (Nat.zero_le _)
  by_cases hlt : k < code.length
  · left
    refine ⟨k + 1, ?_, by omega, by omega⟩
    have hi : (code.length : Int) - 1 - (k : Int) = ((code.length - 1 - k : Nat) : Int) := by omega
    simp only [sy_wrap, sy_add, sy_sub, sy_mul, sy_ieq, sy_ilt, sy_ile, sy_seq, sy_beq, sy_bor, sy_bnot, sy_imax, sy_imin, sy_rlen, sy_slen, sy_sapp, sy_inr, sy_nat, sy_cell0, sy_cellS, sy_skip0, sy_inrn, sy_rapp, sy_fits, sy_cutok, sy_cut, sy_scut, sy_sbyte, sy_mkok, sy_mkok0, sy_mkz, sy_rep, sy_head, sy_deq, eqDs_int, eqDs_nil, opI_int, opB_bool, opS_str, opL_sl, opM_own, leaves_val, leaves_own, Option.bind_some, cutO_bool, bif_bool, cutO_inl, cutO_inr, eF_call, eF_lp, Nat.zero_add, Nat.reduceAdd, Bool.cond_false_right, Bool.cond_true_left, Bool.cond_false_left, Bool.cond_true_right, Bool.not_true, Bool.not_false, Bool.not_not, eq_self, decide_true, decide_false, cond_true, cond_false, Int.reduceEq, Int.reduceLT, Int.reduceLE, Int.reduceSub, Int.reduceAdd, Bool.true_and, Bool.and_true, Bool.false_and, Bool.and_false, Bool.or_false, Bool.false_or, Bool.true_or, Bool.or_true, true_and, and_true, crows_len, ilt_at hlt]
    rw [wrap_id (n := (code.length : Int) - 1) (by omega) (by omega), wrap_id (n := (code.length : Int) - 1 - (k : Int)) (by omega) (by omega), hi]
    simp only [sy_wrap, sy_add, sy_sub, sy_mul, sy_ieq, sy_ilt, sy_ile, sy_seq, sy_beq, sy_bor, sy_bnot, sy_imax, sy_imin, sy_rlen, sy_slen, sy_sapp, sy_inr, sy_nat, sy_cell0, sy_cellS, sy_skip0, sy_inrn, sy_rapp, sy_fits, sy_cutok, sy_cut, sy_scut, sy_sbyte, sy_mkok, sy_mkok0, sy_mkz, sy_rep, sy_head, sy_deq, eqDs_int, eqDs_nil, opI_int, opB_bool, opS_str, opL_sl, opM_own, leaves_val, leaves_own, Option.bind_some, cutO_bool, bif_bool, cutO_inl, cutO_inr, eF_call, eF_lp, Nat.zero_add, Nat.reduceAdd, Bool.cond_false_right, Bool.cond_true_left, Bool.cond_false_left, Bool.cond_true_right, Bool.not_true, Bool.not_false, Bool.not_not, eq_self, decide_true, decide_false, cond_true, cond_false, Int.reduceEq, Int.reduceLT, Int.reduceLE, Int.reduceSub, Int.reduceAdd, Bool.true_and, Bool.and_true, Bool.false_and, Bool.and_false, Bool.or_false, Bool.false_or, Bool.true_or, Bool.or_true, true_and, and_true, c21 (code := code) (at_ := ((code.length - 1 - k : Nat) : Int)) (by omega)]
    generalize hi' : code.length - 1 - k = i
    have hin : i < code.length := by omega
    have hbd : ∀ j ∈ leads code i, (i : Int) < j ∧ j < code.length := fun j hj => leads_bd hj
    have hsh := leads_short (code := code) i
    generalize hls : leads code i = ls at hbd hsh
    refine (loop_list ls (fun j (m : Int) => [.sl 4 (crows code), .int .i64 (k : Int), .int .i64 (i : Int), .sl 1 (irows ls), .int .i64 m, .int .i64 (j : Int), .sl 1 (irows (bL code k))]) (fun _ m => 0 ≤ m ∧ m ≤ k)
      (fun j m => .inl (max m ((bL code k).getD j.toNat 0))) (fun m => .inl [.sl 4 (crows code), .int .i64 ((k + 1 : Nat) : Int), .sl 1 (irows ((bL code k).set i (m + 1)))]) (fun j m x hx hm => ?_) (fun m hm => ?_) 0 ⟨by omega, by omega⟩).trans ?_
    · have hjl := (List.getElem?_eq_some_iff.1 hx).1
      have hxb := hbd x (List.mem_of_getElem? hx)
      have hxn : x.toNat < (bL code k).length := by rw [bL_len]; omega
      have hx0 := bL_bd (code := code) k ((bL code k).getD x.toNat 0) (by rw [List.getD_eq_getElem?_getD, List.getElem?_eq_getElem hxn]; exact List.getElem_mem hxn)
      refine ⟨?_, fun s' hs' => by cases hs'; omega⟩
      simp only [sy_wrap, sy_add, sy_sub, sy_mul, sy_ieq, sy_ilt, sy_ile, sy_seq, sy_beq, sy_bor, sy_bnot, sy_imax, sy_imin, sy_rlen, sy_slen, sy_sapp, sy_inr, sy_nat, sy_cell0, sy_cellS, sy_skip0, sy_inrn, sy_rapp, sy_fits, sy_cutok, sy_cut, sy_scut, sy_sbyte, sy_mkok, sy_mkok0, sy_mkz, sy_rep, sy_head, sy_deq, eqDs_int, eqDs_nil, opI_int, opB_bool, opS_str, opL_sl, opM_own, leaves_val, leaves_own, Option.bind_some, cutO_bool, bif_bool, cutO_inl, cutO_inr, eF_call, eF_lp, Nat.zero_add, Nat.reduceAdd, Bool.cond_false_right, Bool.cond_true_left, Bool.cond_false_left, Bool.cond_true_right, Bool.not_true, Bool.not_false, Bool.not_not, eq_self, decide_true, decide_false, cond_true, cond_false, Int.reduceEq, Int.reduceLT, Int.reduceLE, Int.reduceSub, Int.reduceAdd, Bool.true_and, Bool.and_true, Bool.false_and, Bool.and_false, Bool.or_false, Bool.false_or, Bool.true_or, Bool.or_true, true_and, and_true, irows_len, ilt_at hjl, inr_at hjl, irows_at hx, bL_len, decide_eq_true (show 0 ≤ x ∧ x < (code.length : Int) by omega), irows_n hxn, wrap_succ hjl (by omega)]
      rfl
    · simp only [sy_wrap, sy_add, sy_sub, sy_mul, sy_ieq, sy_ilt, sy_ile, sy_seq, sy_beq, sy_bor, sy_bnot, sy_imax, sy_imin, sy_rlen, sy_slen, sy_sapp, sy_inr, sy_nat, sy_cell0, sy_cellS, sy_skip0, sy_inrn, sy_rapp, sy_fits, sy_cutok, sy_cut, sy_scut, sy_sbyte, sy_mkok, sy_mkok0, sy_mkz, sy_rep, sy_head, sy_deq, eqDs_int, eqDs_nil, opI_int, opB_bool, opS_str, opL_sl, opM_own, leaves_val, leaves_own, Option.bind_some, cutO_bool, bif_bool, cutO_inl, cutO_inr, eF_call, eF_lp, Nat.zero_add, Nat.reduceAdd, Bool.cond_false_right, Bool.cond_true_left, Bool.cond_false_left, Bool.cond_true_right, Bool.not_true, Bool.not_false, Bool.not_not, eq_self, decide_true, decide_false, cond_true, cond_false, Int.reduceEq, Int.reduceLT, Int.reduceLE, Int.reduceSub, Int.reduceAdd, Bool.true_and, Bool.and_true, Bool.false_and, Bool.and_false, Bool.or_false, Bool.false_or, Bool.true_or, Bool.or_true, true_and, and_true, irows_len, ilt_self, bL_len, inr_at hin, decide_eq_true hin, Int.toNat_natCast, wrap_id (n := m + 1) (by omega) (by omega), wrap_succ hlt (by omega)]
      rw [irows_put (bL code k) i (m + 1) (by rw [bL_len]; exact hin)]
      rfl
    · rw [foldE_inl (fun (j m : Int) => max m ((bL code k).getD j.toNat 0))]
      show some (Sum.inl [_, _, D.sl 1 (irows ((bL code k).set i (mxL (bL code k) ls 0 + 1)))]) = some (Sum.inl [_, _, D.sl 1 (irows (bStep code (bL code k) (code.length - 1 - k)))])
      rw [hi', bStep, hls]
  · right
    have : k = code.length := by omega
    subst this
    simp only [sy_wrap, sy_add, sy_sub, sy_mul, sy_ieq, sy_ilt, sy_ile, sy_seq, sy_beq, sy_bor, sy_bnot, sy_imax, sy_imin, sy_rlen, sy_slen, sy_sapp, sy_inr, sy_nat, sy_cell0, sy_cellS, sy_skip0, sy_inrn, sy_rapp, sy_fits, sy_cutok, sy_cut, sy_scut, sy_sbyte, sy_mkok, sy_mkok0, sy_mkz, sy_rep, sy_head, sy_deq, eqDs_int, eqDs_nil, opI_int, opB_bool, opS_str, opL_sl, opM_own, leaves_val, leaves_own, Option.bind_some, cutO_bool, bif_bool, cutO_inl, cutO_inr, eF_call, eF_lp, Nat.zero_add, Nat.reduceAdd, Bool.cond_false_right, Bool.cond_true_left, Bool.cond_false_left, Bool.cond_true_right, Bool.not_true, Bool.not_false, Bool.not_not, eq_self, decide_true, decide_false, cond_true, cond_false, Int.reduceEq, Int.reduceLT, Int.reduceLE, Int.reduceSub, Int.reduceAdd, Bool.true_and, Bool.and_true, Bool.false_and, Bool.and_false, Bool.or_false, Bool.false_or, Bool.true_or, Bool.or_true, true_and, and_true, crows_len, ilt_self]
    by_cases h0 : code.length = 0
    · rw [decide_eq_true (by omega)]
      have : bound code = 0 := by unfold bound; rw [h0]; simp [bL, h0]
      rw [this]; rfl
    · rw [decide_eq_false (by omega)]
      simp only [cond_false, irows_len, bL_len]
      rw [decide_eq_true (by omega)]
      simp only [cond_true]
      rw [show (0 : Int).toNat = 0 from rfl, irows_n (by rw [bL_len]; omega)]
      rfl
end Go.Vm
end

section
set_option linter.all false
set_option maxRecDepth 100000
namespace Go.Vm
open Go.Proofs
variable {code : List Ins}
theorem set_getD {l : List Int} {i : Nat} {v : Int} (h : i < l.length) : (l.set i v).getD i 0 = v := by
  rw [List.getD_eq_getElem?_getD, List.getElem?_set, if_pos rfl, if_pos h]; rfl
theorem set_getD_ne {l : List Int} {i j : Nat} {v : Int} (h : i ≠ j) : (l.set i v).getD j 0 = l.getD j 0 := by
  rw [List.getD_eq_getElem?_getD, List.getElem?_set, if_neg h, ← List.getD_eq_getElem?_getD]
theorem set_same {l : List Int} {i : Nat} {v : Int} (h : l.getD i 0 = v) : l.set i v = l := by
  apply List.ext_getElem?
  intro j
  rw [List.getElem?_set]
  by_cases hij : i = j
  · subst hij
    rw [if_pos rfl]
    split
    · rename_i hlt
      rw [List.getD_eq_getElem?_getD, List.getElem?_eq_getElem hlt] at h
      rw [List.getElem?_eq_getElem hlt, ← h]; rfl
    · rename_i hlt
      rw [List.getElem?_eq_none (by omega)]
  · rw [if_neg hij]
theorem c17 (hl : code.length ≤ 1000) : cF 17 [.d (.sl 4 (crows code))] = some (.val [.int .i64 (bound code)]) := by
  refine cOf (by kernel_rfl) rfl ?_
  rw [g17_eq]
  simp only [g17, sy_wrap, sy_add, sy_sub, sy_mul, sy_ieq, sy_ilt, sy_ile, sy_seq, sy_beq, sy_bor, sy_bnot, sy_imax, sy_imin, sy_rlen, sy_slen, sy_sapp, sy_inr, sy_nat, sy_cell0, sy_cellS, sy_skip0, sy_inrn, sy_rapp, sy_fits, sy_cutok, sy_cut, sy_scut, sy_sbyte, sy_mkok, sy_mkok0, sy_mkz, sy_rep, sy_head, sy_deq, eqDs_int, eqDs_nil, opI_int, opB_bool, opS_str, opL_sl, opM_own, leaves_val, leaves_own, Option.bind_some, cutO_bool, bif_bool, cutO_inl, cutO_inr, eF_call, eF_lp, Nat.zero_add, Nat.reduceAdd, Bool.cond_false_right, Bool.cond_true_left, Bool.cond_false_left, Bool.cond_true_right, Bool.not_true, Bool.not_false, Bool.not_not, eq_self, decide_true, decide_false, cond_true, cond_false, Int.reduceEq, Int.reduceLT, Int.reduceLE, Int.reduceSub, Int.reduceAdd, Bool.true_and, Bool.and_true, Bool.false_and, Bool.and_false, Bool.or_false, Bool.false_or, Bool.true_or, Bool.or_true, true_and, and_true, crows_len]
  by_cases h0 : code.length = 0
  · rw [decide_eq_true (by omega)]
    have : bound code = 0 := by unfold bound; rw [h0]; simp [bL, h0]
    rw [this]; rfl
  rw [decide_eq_false (by omega), decide_eq_true (by omega)]
  simp only [cond_true, cond_false]
  have hrep : List.replicate (code.length : Int).toNat [D.int .i64 0] = irows (bL code 0) := by
    simp only [Int.toNat_natCast, bL, irows, List.map_replicate]; rfl
  rw [hrep]
  refine loopF_at (fun k : Nat => [.int .i64 (code.length : Int), .int .i64 (k : Int), .sl 4 (crows code), .sl 1 (irows (bL code k)), .int .i64 (code.length : Int), .sl 4 (crows code), .int .i64 0, .sl 4 (crows code), .int .i64 (code.length : Int), .bool false, .sl 4 (crows code), .int .i64 (code.length : Int), .sl 4 (crows code), .int .i64 (code.length : Int)]) (fun k => k ≤ code.length) (fun k => code.length - k) (fun k hk => ?_) 0 (Nat.zero_le _)
  by_cases hlt : k < code.length
  · left
    refine ⟨k + 1, ?_, by omega, by omega⟩
    have hi : (code.length : Int) - 1 - (k : Int) = ((code.length - 1 - k : Nat) : Int) := by omega
    simp only [sy_wrap, sy_add, sy_sub, sy_mul, sy_ieq, sy_ilt, sy_ile, sy_seq, sy_beq, sy_bor, sy_bnot, sy_imax, sy_imin, sy_rlen, sy_slen, sy_sapp, sy_inr, sy_nat, sy_cell0, sy_cellS, sy_skip0, sy_inrn, sy_rapp, sy_fits, sy_cutok, sy_cut, sy_scut, sy_sbyte, sy_mkok, sy_mkok0, sy_mkz, sy_rep, sy_head, sy_deq, eqDs_int, eqDs_nil, opI_int, opB_bool, opS_str, opL_sl, opM_own, leaves_val, leaves_own, Option.bind_some, cutO_bool, bif_bool, cutO_inl, cutO_inr, eF_call, eF_lp, Nat.zero_add, Nat.reduceAdd, Bool.cond_false_right, Bool.cond_true_left, Bool.cond_false_left, Bool.cond_true_right, Bool.not_true, Bool.not_false, Bool.not_not, eq_self, decide_true, decide_false, cond_true, cond_false, Int.reduceEq, Int.reduceLT, Int.reduceLE, Int.reduceSub, Int.reduceAdd, Bool.true_and, Bool.and_true, Bool.false_and, Bool.and_false, Bool.or_false, Bool.false_or, Bool.true_or, Bool.or_true, true_and, and_true, ilt_at hlt]
    rw [wrap_id (n := (code.length : Int) - 1) (by omega) (by omega), wrap_id (n := (code.length : Int) - 1 - (k : Int)) (by omega) (by omega), hi]
    simp only [sy_wrap, sy_add, sy_sub, sy_mul, sy_ieq, sy_ilt, sy_ile, sy_seq, sy_beq, sy_bor, sy_bnot, sy_imax, sy_imin, sy_rlen, sy_slen, sy_sapp, sy_inr, sy_nat, sy_cell0, sy_cellS, sy_skip0, sy_inrn, sy_rapp, sy_fits, sy_cutok, sy_cut, sy_scut, sy_sbyte, sy_mkok, sy_mkok0, sy_mkz, sy_rep, sy_head, sy_deq, eqDs_int, eqDs_nil, opI_int, opB_bool, opS_str, opL_sl, opM_own, leaves_val, leaves_own, Option.bind_some, cutO_bool, bif_bool, cutO_inl, cutO_inr, eF_call, eF_lp, Nat.zero_add, Nat.reduceAdd, Bool.cond_false_right, Bool.cond_true_left, Bool.cond_false_left, Bool.cond_true_right, Bool.not_true, Bool.not_false, Bool.not_not, eq_self, decide_true, decide_false, cond_true, cond_false, Int.reduceEq, Int.reduceLT, Int.reduceLE, Int.reduceSub, Int.reduceAdd, Bool.true_and, Bool.and_true, Bool.false_and, Bool.and_false, Bool.or_false, Bool.false_or, Bool.true_or, Bool.or_true, true_and, and_true, c20 (code := code) (at_ := ((code.length - 1 - k : Nat) : Int)) (by omega)]
    generalize hi' : code.length - 1 - k = i
    have hin : i < code.length := by omega
    have hbd : ∀ j ∈ leads code i, (i : Int) < j ∧ j < code.length := fun j hj => leads_bd hj
    have hsh := leads_short (code := code) i
    have hz := bL_zero (code := code) k i (by omega)
    generalize hls : leads code i = ls at hbd hsh
    have hlen : ∀ m : Int, ((bL code k).set i m).length = code.length := fun m => by rw [List.length_set, bL_len]
    refine Eq.trans (congrArg _ ?_) ((loop_list ls (fun j (m : Int) => [.int .i64 (i : Int), .sl 1 (irows ls), .int .i64 (ls.length : Int), .int .i64 (j : Int), .sl 4 (crows code), .sl 1 (irows ((bL code k).set i m)), .int .i64 (code.length : Int), .sl 4 (crows code), .int .i64 0, .sl 4 (crows code), .int .i64 (code.length : Int), .bool false, .sl 4 (crows code), .int .i64 (code.length : Int), .sl 4 (crows code), .int .i64 (code.length : Int)]) (fun _ m => 0 ≤ m ∧ m ≤ k)
      (fun j m => .inl (max m ((bL code k).getD j.toNat 0))) (fun m => .inl [.int .i64 (code.length : Int), .int .i64 ((k + 1 : Nat) : Int), .sl 4 (crows code), .sl 1 (irows ((bL code k).set i (m + 1))), .int .i64 (code.length : Int), .sl 4 (crows code), .int .i64 0, .sl 4 (crows code), .int .i64 (code.length : Int), .bool false, .sl 4 (crows code), .int .i64 (code.length : Int), .sl 4 (crows code), .int .i64 (code.length : Int)]) (fun j m x hx hm => ?_) (fun m hm => ?_) 0 ⟨by omega, by omega⟩).trans ?_)
    · rw [set_same hz]
      simp only [irows_len]
      rfl
    · have hjl := (List.getElem?_eq_some_iff.1 hx).1
      have hxb := hbd x (List.mem_of_getElem? hx)
      have hxn : x.toNat < ((bL code k).set i m).length := by rw [hlen]; omega
      have hxn0 : x.toNat < (bL code k).length := by rw [bL_len]; omega
      have hin0 : i < ((bL code k).set i m).length := by rw [hlen]; omega
      have hx0 := bL_bd (code := code) k ((bL code k).getD x.toNat 0) (by rw [List.getD_eq_getElem?_getD, List.getElem?_eq_getElem hxn0]; exact List.getElem_mem hxn0)
      refine ⟨?_, fun s' hs' => by cases hs'; omega⟩
      simp only [sy_wrap, sy_add, sy_sub, sy_mul, sy_ieq, sy_ilt, sy_ile, sy_seq, sy_beq, sy_bor, sy_bnot, sy_imax, sy_imin, sy_rlen, sy_slen, sy_sapp, sy_inr, sy_nat, sy_cell0, sy_cellS, sy_skip0, sy_inrn, sy_rapp, sy_fits, sy_cutok, sy_cut, sy_scut, sy_sbyte, sy_mkok, sy_mkok0, sy_mkz, sy_rep, sy_head, sy_deq, eqDs_int, eqDs_nil, opI_int, opB_bool, opS_str, opL_sl, opM_own, leaves_val, leaves_own, Option.bind_some, cutO_bool, bif_bool, cutO_inl, cutO_inr, eF_call, eF_lp, Nat.zero_add, Nat.reduceAdd, Bool.cond_false_right, Bool.cond_true_left, Bool.cond_false_left, Bool.cond_true_right, Bool.not_true, Bool.not_false, Bool.not_not, eq_self, decide_true, decide_false, cond_true, cond_false, Int.reduceEq, Int.reduceLT, Int.reduceLE, Int.reduceSub, Int.reduceAdd, Bool.true_and, Bool.and_true, Bool.false_and, Bool.and_false, Bool.or_false, Bool.false_or, Bool.true_or, Bool.or_true, true_and, and_true, irows_len, ilt_at hjl, inr_at hjl, irows_at hx, hlen, decide_eq_true (show 0 ≤ x ∧ x < (code.length : Int) by omega), inr_at hin, decide_eq_true hin, Int.toNat_natCast, irows_n hxn, irows_n hin0, set_getD (l := bL code k) (i := i) (by rw [bL_len]; exact hin), set_getD_ne (l := bL code k) (i := i) (j := x.toNat) (by omega), wrap_succ hjl (by omega)]
      rw [irows_put ((bL code k).set i m) i _ hin0, List.set_set]
      rfl
    · have hin0 : i < ((bL code k).set i m).length := by rw [hlen]; omega
      simp only [sy_wrap, sy_add, sy_sub, sy_mul, sy_ieq, sy_ilt, sy_ile, sy_seq, sy_beq, sy_bor, sy_bnot, sy_imax, sy_imin, sy_rlen, sy_slen, sy_sapp, sy_inr, sy_nat, sy_cell0, sy_cellS, sy_skip0, sy_inrn, sy_rapp, sy_fits, sy_cutok, sy_cut, sy_scut, sy_sbyte, sy_mkok, sy_mkok0, sy_mkz, sy_rep, sy_head, sy_deq, eqDs_int, eqDs_nil, opI_int, opB_bool, opS_str, opL_sl, opM_own, leaves_val, leaves_own, Option.bind_some, cutO_bool, bif_bool, cutO_inl, cutO_inr, eF_call, eF_lp, Nat.zero_add, Nat.reduceAdd, Bool.cond_false_right, Bool.cond_true_left, Bool.cond_false_left, Bool.cond_true_right, Bool.not_true, Bool.not_false, Bool.not_not, eq_self, decide_true, decide_false, cond_true, cond_false, Int.reduceEq, Int.reduceLT, Int.reduceLE, Int.reduceSub, Int.reduceAdd, Bool.true_and, Bool.and_true, Bool.false_and, Bool.and_false, Bool.or_false, Bool.false_or, Bool.true_or, Bool.or_true, true_and, and_true, irows_len, ilt_self, hlen, inr_at hin, decide_eq_true hin, Int.toNat_natCast, irows_n hin0, set_getD (l := bL code k) (i := i) (by rw [bL_len]; exact hin), wrap_id (n := m + 1) (by omega) (by omega), wrap_succ hlt (by omega)]
      rw [irows_put ((bL code k).set i m) i _ hin0, List.set_set]
      rfl
    · rw [foldE_inl (fun (j m : Int) => max m ((bL code k).getD j.toNat 0))]
      show some (Sum.inl [_, _, _, D.sl 1 (irows ((bL code k).set i (mxL (bL code k) ls 0 + 1))), _, _, _, _, _, _, _, _, _, _]) = some (Sum.inl [_, _, _, D.sl 1 (irows (bStep code (bL code k) (code.length - 1 - k))), _, _, _, _, _, _, _, _, _, _])
      rw [hi', bStep, hls]
  · right
    have : k = code.length := by omega
    subst this
    simp only [sy_wrap, sy_add, sy_sub, sy_mul, sy_ieq, sy_ilt, sy_ile, sy_seq, sy_beq, sy_bor, sy_bnot, sy_imax, sy_imin, sy_rlen, sy_slen, sy_sapp, sy_inr, sy_nat, sy_cell0, sy_cellS, sy_skip0, sy_inrn, sy_rapp, sy_fits, sy_cutok, sy_cut, sy_scut, sy_sbyte, sy_mkok, sy_mkok0, sy_mkz, sy_rep, sy_head, sy_deq, eqDs_int, eqDs_nil, opI_int, opB_bool, opS_str, opL_sl, opM_own, leaves_val, leaves_own, Option.bind_some, cutO_bool, bif_bool, cutO_inl, cutO_inr, eF_call, eF_lp, Nat.zero_add, Nat.reduceAdd, Bool.cond_false_right, Bool.cond_true_left, Bool.cond_false_left, Bool.cond_true_right, Bool.not_true, Bool.not_false, Bool.not_not, eq_self, decide_true, decide_false, cond_true, cond_false, Int.reduceEq, Int.reduceLT, Int.reduceLE, Int.reduceSub, Int.reduceAdd, Bool.true_and, Bool.and_true, Bool.false_and, Bool.and_false, Bool.or_false, Bool.false_or, Bool.true_or, Bool.or_true, true_and, and_true, ilt_self, irows_len, bL_len]
    rw [decide_eq_true (by omega)]
    simp only [cond_true]
    rw [show (0 : Int).toNat = 0 from rfl, irows_n (by rw [bL_len]; omega)]
    rfl
end Go.Vm
end

section
set_option linter.all false
set_option maxRecDepth 100000
namespace Go.Vm
open Go.Proofs
variable {code : List Ins}
def code16 : List Ins := [⟨1, 2, 0, 0⟩, ⟨7, 3, 0, 0⟩, ⟨6, 3, 0, 0⟩, ⟨10, 0, 0, 0⟩]
theorem c16 : cF 16 [] = some (.val [.bool true]) := by
  have h := c17 (code := code16) (by decide)
  rw [show bound code16 = 4 from by decide] at h
  refine cOf (by kernel_rfl) rfl ?_
  rw [g16_eq]
  simp only [g16, sy_wrap, sy_add, sy_sub, sy_mul, sy_ieq, sy_ilt, sy_ile, sy_seq, sy_beq, sy_bor, sy_bnot, sy_imax, sy_imin, sy_rlen, sy_slen, sy_sapp, sy_inr, sy_nat, sy_cell0, sy_cellS, sy_skip0, sy_inrn, sy_rapp, sy_fits, sy_cutok, sy_cut, sy_scut, sy_sbyte, sy_mkok, sy_mkok0, sy_mkz, sy_rep, sy_head, sy_deq, eqDs_int, eqDs_nil, opI_int, opB_bool, opS_str, opL_sl, opM_own, leaves_val, leaves_own, Option.bind_some, cutO_bool, bif_bool, cutO_inl, cutO_inr, eF_call, eF_lp, Nat.zero_add, Nat.reduceAdd, Bool.cond_false_right, Bool.cond_true_left, Bool.cond_false_left, Bool.cond_true_right, Bool.not_true, Bool.not_false, Bool.not_not, eq_self, decide_true, decide_false, cond_true, cond_false, Int.reduceEq, Int.reduceLT, Int.reduceLE, Int.reduceSub, Int.reduceAdd, Bool.true_and, Bool.and_true, Bool.false_and, Bool.and_false, Bool.or_false, Bool.false_or, Bool.true_or, Bool.or_true, true_and, and_true]
  show ((cF 17 [.d (.sl 4 (crows code16))]).bind _) = _
  rw [h]
  rfl
theorem c19 (l : List Int) (hl : l.length ≤ 1000) : cF 19 [.d (.sl 1 (irows l)), .d (.sl 1 (irows l))] = some (.val [.bool true]) := by
  refine cOf (by kernel_rfl) rfl ?_
  rw [g19_eq]
  simp only [g19, sy_wrap, sy_add, sy_sub, sy_mul, sy_ieq, sy_ilt, sy_ile, sy_seq, sy_beq, sy_bor, sy_bnot, sy_imax, sy_imin, sy_rlen, sy_slen, sy_sapp, sy_inr, sy_nat, sy_cell0, sy_cellS, sy_skip0, sy_inrn, sy_rapp, sy_fits, sy_cutok, sy_cut, sy_scut, sy_sbyte, sy_mkok, sy_mkok0, sy_mkz, sy_rep, sy_head, sy_deq, eqDs_int, eqDs_nil, opI_int, opB_bool, opS_str, opL_sl, opM_own, leaves_val, leaves_own, Option.bind_some, cutO_bool, bif_bool, cutO_inl, cutO_inr, eF_call, eF_lp, Nat.zero_add, Nat.reduceAdd, Bool.cond_false_right, Bool.cond_true_left, Bool.cond_false_left, Bool.cond_true_right, Bool.not_true, Bool.not_false, Bool.not_not, eq_self, decide_true, decide_false, cond_true, cond_false, Int.reduceEq, Int.reduceLT, Int.reduceLE, Int.reduceSub, Int.reduceAdd, Bool.true_and, Bool.and_true, Bool.false_and, Bool.and_false, Bool.or_false, Bool.false_or, Bool.true_or, Bool.or_true, true_and, and_true, irows_len]
  refine loopF_at (fun i : Nat => [.sl 1 (irows l), .sl 1 (irows l), .int .i64 (i : Int)]) (fun i => i ≤ l.length) (fun i => l.length - i) (fun i hi => ?_) 0 (Nat.zero_le _)
  by_cases hlt : i < l.length
  · left
    refine ⟨i + 1, ?_, by omega, by omega⟩
    simp only [sy_wrap, sy_add, sy_sub, sy_mul, sy_ieq, sy_ilt, sy_ile, sy_seq, sy_beq, sy_bor, sy_bnot, sy_imax, sy_imin, sy_rlen, sy_slen, sy_sapp, sy_inr, sy_nat, sy_cell0, sy_cellS, sy_skip0, sy_inrn, sy_rapp, sy_fits, sy_cutok, sy_cut, sy_scut, sy_sbyte, sy_mkok, sy_mkok0, sy_mkz, sy_rep, sy_head, sy_deq, eqDs_int, eqDs_nil, opI_int, opB_bool, opS_str, opL_sl, opM_own, leaves_val, leaves_own, Option.bind_some, cutO_bool, bif_bool, cutO_inl, cutO_inr, eF_call, eF_lp, Nat.zero_add, Nat.reduceAdd, Bool.cond_false_right, Bool.cond_true_left, Bool.cond_false_left, Bool.cond_true_right, Bool.not_true, Bool.not_false, Bool.not_not, eq_self, decide_true, decide_false, cond_true, cond_false, Int.reduceEq, Int.reduceLT, Int.reduceLE, Int.reduceSub, Int.reduceAdd, Bool.true_and, Bool.and_true, Bool.false_and, Bool.and_false, Bool.or_false, Bool.false_or, Bool.true_or, Bool.or_true, true_and, and_true, irows_len, ilt_at hlt, inr_at hlt, irows_at (List.getElem?_eq_getElem hlt), wrap_succ hlt (by omega)]
    rfl
  · right
    have : i = l.length := by omega
    subst this
    simp only [sy_wrap, sy_add, sy_sub, sy_mul, sy_ieq, sy_ilt, sy_ile, sy_seq, sy_beq, sy_bor, sy_bnot, sy_imax, sy_imin, sy_rlen, sy_slen, sy_sapp, sy_inr, sy_nat, sy_cell0, sy_cellS, sy_skip0, sy_inrn, sy_rapp, sy_fits, sy_cutok, sy_cut, sy_scut, sy_sbyte, sy_mkok, sy_mkok0, sy_mkz, sy_rep, sy_head, sy_deq, eqDs_int, eqDs_nil, opI_int, opB_bool, opS_str, opL_sl, opM_own, leaves_val, leaves_own, Option.bind_some, cutO_bool, bif_bool, cutO_inl, cutO_inr, eF_call, eF_lp, Nat.zero_add, Nat.reduceAdd, Bool.cond_false_right, Bool.cond_true_left, Bool.cond_false_left, Bool.cond_true_right, Bool.not_true, Bool.not_false, Bool.not_not, eq_self, decide_true, decide_false, cond_true, cond_false, Int.reduceEq, Int.reduceLT, Int.reduceLE, Int.reduceSub, Int.reduceAdd, Bool.true_and, Bool.and_true, Bool.false_and, Bool.and_false, Bool.or_false, Bool.false_or, Bool.true_or, Bool.or_true, true_and, and_true, irows_len, ilt_self]
theorem c6 (code : List Ins) (at_ : Int) : cF 6 [.d (.sl 4 (crows code)), .d (.int .i64 at_)] = some (.val [.bool true]) := by
  refine cOf (by kernel_rfl) rfl ?_
  rw [g6_eq]
  simp only [g6, sy_wrap, sy_add, sy_sub, sy_mul, sy_ieq, sy_ilt, sy_ile, sy_seq, sy_beq, sy_bor, sy_bnot, sy_imax, sy_imin, sy_rlen, sy_slen, sy_sapp, sy_inr, sy_nat, sy_cell0, sy_cellS, sy_skip0, sy_inrn, sy_rapp, sy_fits, sy_cutok, sy_cut, sy_scut, sy_sbyte, sy_mkok, sy_mkok0, sy_mkz, sy_rep, sy_head, sy_deq, eqDs_int, eqDs_nil, opI_int, opB_bool, opS_str, opL_sl, opM_own, leaves_val, leaves_own, Option.bind_some, cutO_bool, bif_bool, cutO_inl, cutO_inr, eF_call, eF_lp, Nat.zero_add, Nat.reduceAdd, Bool.cond_false_right, Bool.cond_true_left, Bool.cond_false_left, Bool.cond_true_right, Bool.not_true, Bool.not_false, Bool.not_not, eq_self, decide_true, decide_false, cond_true, cond_false, Int.reduceEq, Int.reduceLT, Int.reduceLE, Int.reduceSub, Int.reduceAdd, Bool.true_and, Bool.and_true, Bool.false_and, Bool.and_false, Bool.or_false, Bool.false_or, Bool.true_or, Bool.or_true, true_and, and_true, crows_len, c16]
  by_cases h : code.length ≤ 1000
  · rw [decide_eq_false (by omega)]
    have hs : (leads code at_).length ≤ 1000 := by
      unfold leads leadsB
      simp only
      cases decide (0 ≤ at_ ∧ at_ < (code.length : Int)) <;> simp only [cond_true, cond_false, List.length_nil, Nat.zero_le]
      cases decide ((code.getD at_.toNat default).op = 10) <;> simp only [cond_true, cond_false, List.length_nil, Nat.zero_le, List.length_append]
      have a : ∀ (b : Bool) (x : Int), (bif b then [x] else []).length ≤ 1 := fun b x => by cases b <;> simp
      have q := a (!decide ((code.getD at_.toNat default).op = 6) && decide (at_ + 1 < code.length)) (at_ + 1)
      exact Nat.le_trans (Nat.add_le_add q (a _ _)) (by decide)
    simp only [sy_wrap, sy_add, sy_sub, sy_mul, sy_ieq, sy_ilt, sy_ile, sy_seq, sy_beq, sy_bor, sy_bnot, sy_imax, sy_imin, sy_rlen, sy_slen, sy_sapp, sy_inr, sy_nat, sy_cell0, sy_cellS, sy_skip0, sy_inrn, sy_rapp, sy_fits, sy_cutok, sy_cut, sy_scut, sy_sbyte, sy_mkok, sy_mkok0, sy_mkz, sy_rep, sy_head, sy_deq, eqDs_int, eqDs_nil, opI_int, opB_bool, opS_str, opL_sl, opM_own, leaves_val, leaves_own, Option.bind_some, cutO_bool, bif_bool, cutO_inl, cutO_inr, eF_call, eF_lp, Nat.zero_add, Nat.reduceAdd, Bool.cond_false_right, Bool.cond_true_left, Bool.cond_false_left, Bool.cond_true_right, Bool.not_true, Bool.not_false, Bool.not_not, eq_self, decide_true, decide_false, cond_true, cond_false, Int.reduceEq, Int.reduceLT, Int.reduceLE, Int.reduceSub, Int.reduceAdd, Bool.true_and, Bool.and_true, Bool.false_and, Bool.and_false, Bool.or_false, Bool.false_or, Bool.true_or, Bool.or_true, true_and, and_true, c17 h, c18 h, c20 (code := code) (at_ := at_) (by omega), c21 (code := code) (at_ := at_) (by omega), c19 _ hs, c16]
  · rw [decide_eq_true (by omega)]
    simp only [sy_wrap, sy_add, sy_sub, sy_mul, sy_ieq, sy_ilt, sy_ile, sy_seq, sy_beq, sy_bor, sy_bnot, sy_imax, sy_imin, sy_rlen, sy_slen, sy_sapp, sy_inr, sy_nat, sy_cell0, sy_cellS, sy_skip0, sy_inrn, sy_rapp, sy_fits, sy_cutok, sy_cut, sy_scut, sy_sbyte, sy_mkok, sy_mkok0, sy_mkz, sy_rep, sy_head, sy_deq, eqDs_int, eqDs_nil, opI_int, opB_bool, opS_str, opL_sl, opM_own, leaves_val, leaves_own, Option.bind_some, cutO_bool, bif_bool, cutO_inl, cutO_inr, eF_call, eF_lp, Nat.zero_add, Nat.reduceAdd, Bool.cond_false_right, Bool.cond_true_left, Bool.cond_false_left, Bool.cond_true_right, Bool.not_true, Bool.not_false, Bool.not_not, eq_self, decide_true, decide_false, cond_true, cond_false, Int.reduceEq, Int.reduceLT, Int.reduceLE, Int.reduceSub, Int.reduceAdd, Bool.true_and, Bool.and_true, Bool.false_and, Bool.and_false, Bool.or_false, Bool.false_or, Bool.true_or, Bool.or_true, true_and, and_true, c16]
end Go.Vm
end

section
set_option linter.all false
set_option maxRecDepth 100000
namespace Go.Vm
open Go.Proofs
/-- As many as up to the first that halts. -/
def strt : List Ins → Int
  | [] => 0
  | x :: l => if x.op = 10 then 1 else 1 + strt l
theorem strt_cons (x : Ins) (l : List Ins) : strt (x :: l) = if x.op = 10 then 1 else 1 + strt l := rfl
theorem strt_bd : ∀ l, 0 ≤ strt l ∧ strt l ≤ l.length
  | [] => by simp [strt]
  | x :: l => by
    have := strt_bd l
    unfold strt
    split <;> simp <;> omega
variable {code : List Ins}
/-- A place's bound, at last. -/
def bAt (code : List Ins) (i : Nat) : Int := (bL code code.length).getD i 0
theorem bL_keep {i k : Nat} (h : code.length ≤ i + k) (hk : k < code.length) : (bL code (k + 1)).getD i 0 = (bL code k).getD i 0 := by
  show (bStep code (bL code k) (code.length - 1 - k)).getD i 0 = _
  unfold bStep
  rw [set_getD_ne (by omega)]
theorem bL_last {i : Nat} : ∀ (d k : Nat), k + d = code.length → code.length ≤ i + k → (bL code code.length).getD i 0 = (bL code k).getD i 0
  | 0, k, h, _ => by rw [show k = code.length by omega]
  | d + 1, k, h, hi => by rw [bL_last d (k + 1) (by omega) (by omega), bL_keep hi (by omega)]
theorem mxL_congr {l l' : List Int} : ∀ (ls : List Int) (m : Int), (∀ j ∈ ls, l.getD j.toNat 0 = l'.getD j.toNat 0) → mxL l ls m = mxL l' ls m
  | [], m, _ => rfl
  | j :: ls, m, h => by
    show mxL l ls (max m (l.getD j.toNat 0)) = mxL l' ls (max m (l'.getD j.toNat 0))
    rw [h j List.mem_cons_self]
    exact mxL_congr ls _ fun q hq => h q (List.mem_cons_of_mem _ hq)
theorem bAt_eq {i : Nat} (hi : i < code.length) : bAt code i = mxL (bL code code.length) (leads code i) 0 + 1 := by
  unfold bAt
  rw [bL_last (i := i) i (code.length - i) (by omega) (by omega)]
  obtain ⟨k, hk⟩ : ∃ k, code.length - i = k + 1 := ⟨code.length - i - 1, by omega⟩
  rw [hk]
  show (bStep code (bL code k) (code.length - 1 - k)).getD i 0 = _
  rw [show code.length - 1 - k = i by omega]
  unfold bStep
  rw [set_getD (by rw [bL_len]; exact hi)]
  congr 1
  refine mxL_congr _ _ fun j hj => ?_
  have := leads_bd hj
  rw [bL_last (i := j.toNat) (code.length - k) k (by omega) (by omega)]
theorem bAt_nonneg (i : Nat) : 0 ≤ bAt code i := by
  unfold bAt
  rw [List.getD_eq_getElem?_getD]
  cases h : (bL code code.length)[i]? with
  | none => simp
  | some x => exact (bL_bd code.length x (List.mem_of_getElem? h)).1
theorem leads_at {i : Nat} (hi : i < code.length) : leads code i = leadsB (decide ((code.getD i default).op = 10)) (decide ((code.getD i default).op = 6)) (decide ((code.getD i default).op = 7)) (decide ((i : Int) + 1 < code.length)) (decide ((i : Int) < (code.getD i default).a)) (decide ((code.getD i default).a < (code.length : Int))) (decide ((i : Int) + 1 = (code.getD i default).a)) i (code.getD i default).a := by
  unfold leads
  simp only [Int.toNat_natCast]
  rw [decide_eq_true (show (0 : Int) ≤ i ∧ (i : Int) < code.length by omega)]
  rfl
theorem bAt_straight (m : Nat) (hno : ∀ i, m ≤ i → i < code.length → (code.getD i default).op ≠ 6 ∧ (code.getD i default).op ≠ 7) : ∀ (d i : Nat), i + d = code.length → m ≤ i → bAt code i = strt (code.drop i)
  | 0, i, h, _ => by
    rw [List.drop_eq_nil_of_le (by omega)]
    unfold bAt
    rw [List.getD_eq_getElem?_getD, List.getElem?_eq_none (by rw [bL_len]; omega)]; rfl
  | d + 1, i, h, hm => by
    have hi : i < code.length := by omega
    have ih := bAt_straight m hno d (i + 1) (by omega) (by omega)
    rw [bAt_eq hi, leads_at hi, List.drop_eq_getElem_cons hi]
    have hx : code.getD i default = code[i] := by rw [List.getD_eq_getElem?_getD, List.getElem?_eq_getElem hi]; rfl
    obtain ⟨n6, n7⟩ := hno i hm hi
    rw [hx] at n6 n7 ⊢
    unfold strt leadsB
    by_cases h10 : code[i].op = 10
    · simp [h10, mxL]
    · rw [if_neg h10]
      simp only [h10, n6, n7, decide_false, cond_false, Bool.not_false, Bool.true_and, Bool.or_self, Bool.false_and, List.append_nil]
      by_cases hl : (i : Int) + 1 < code.length
      · rw [decide_eq_true hl]
        simp only [cond_true]
        have hb := bAt_nonneg (code := code) (i + 1)
        show max 0 ((bL code code.length).getD ((i : Int) + 1).toNat 0) + 1 = _
        rw [show ((i : Int) + 1).toNat = i + 1 by omega, show (bL code code.length).getD (i + 1) 0 = bAt code (i + 1) from rfl, ← ih]
        omega
      · rw [decide_eq_false hl, List.drop_eq_nil_of_le (by omega)]
        rfl
theorem bound_straight (hno : ∀ i, i < code.length → (code.getD i default).op ≠ 6 ∧ (code.getD i default).op ≠ 7) : bound code = strt code := by
  have := bAt_straight (code := code) 0 (fun i _ h => hno i h) code.length 0 (by omega) (by omega)
  rw [List.drop_zero] at this
  exact this
theorem bound_jump {skip : Nat} (hs : skip < code.length) (hno : ∀ i, i < code.length → (code.getD i default).op ≠ 6 ∧ (code.getD i default).op ≠ 7) {b n : Int} : bound (⟨6, (skip : Int) + 1, b, n⟩ :: code) = 1 + strt (code.drop skip) := by
  generalize hc : (⟨6, (skip : Int) + 1, b, n⟩ :: code : List Ins) = c2
  have hl : c2.length = code.length + 1 := by rw [← hc]; rfl
  have h0 : c2.getD 0 default = ⟨6, (skip : Int) + 1, b, n⟩ := by rw [← hc]; rfl
  have hS : ∀ i, c2.getD (i + 1) default = code.getD i default := fun i => by rw [← hc]; rfl
  have hk := bAt_straight (code := c2) 1 (fun i h1 h2 => by
    obtain ⟨j, rfl⟩ : ∃ j, i = j + 1 := ⟨i - 1, by omega⟩
    rw [hS]; exact hno j (by omega)) (code.length - skip) (skip + 1) (by omega) (by omega)
  have hd : c2.drop (skip + 1) = code.drop skip := by rw [← hc]; rfl
  have hb := bAt_nonneg (code := c2) (skip + 1)
  show bAt c2 0 = _
  rw [bAt_eq (by omega)]
  have e := leads_at (code := c2) (i := 0) (by omega)
  rw [h0] at e
  have e2 : leads c2 ((0 : Nat) : Int) = [(skip : Int) + 1] := by
    rw [e]
    unfold leadsB
    simp only [hl]
    rw [decide_eq_true (show ((0 : Nat) : Int) < (skip : Int) + 1 by omega), decide_eq_true (show (skip : Int) + 1 < ((code.length + 1 : Nat) : Int) by omega)]
    rfl
  rw [e2]
  show max 0 ((bL c2 c2.length).getD ((skip : Int) + 1).toNat 0) + 1 = _
  rw [show ((skip : Int) + 1).toNat = skip + 1 by omega, show (bL c2 c2.length).getD (skip + 1) 0 = bAt c2 (skip + 1) from rfl, ← hd, ← hk]
  omega
theorem c24 (hl : code.length ≤ 1000) : cF 24 [.d (.sl 4 (crows code))] = some (.val [.int .i64 (strt code)]) := by
  refine cOf (by kernel_rfl) rfl ?_
  rw [g24_eq]
  simp only [g24, sy_wrap, sy_add, sy_sub, sy_mul, sy_ieq, sy_ilt, sy_ile, sy_seq, sy_beq, sy_bor, sy_bnot, sy_imax, sy_imin, sy_rlen, sy_slen, sy_sapp, sy_inr, sy_nat, sy_cell0, sy_cellS, sy_skip0, sy_inrn, sy_rapp, sy_fits, sy_cutok, sy_cut, sy_scut, sy_sbyte, sy_mkok, sy_mkok0, sy_mkz, sy_rep, sy_head, sy_deq, eqDs_int, eqDs_nil, opI_int, opB_bool, opS_str, opL_sl, opM_own, leaves_val, leaves_own, Option.bind_some, cutO_bool, bif_bool, cutO_inl, cutO_inr, eF_call, eF_lp, Nat.zero_add, Nat.reduceAdd, Bool.cond_false_right, Bool.cond_true_left, Bool.cond_false_left, Bool.cond_true_right, Bool.not_true, Bool.not_false, Bool.not_not, eq_self, decide_true, decide_false, cond_true, cond_false, Int.reduceEq, Int.reduceLT, Int.reduceLE, Int.reduceSub, Int.reduceAdd, Bool.true_and, Bool.and_true, Bool.false_and, Bool.and_false, Bool.or_false, Bool.false_or, Bool.true_or, Bool.or_true, true_and, and_true]
  refine loopF_at (fun i : Nat => [.sl 4 (crows code), .int .i64 (i : Int)]) (fun i => i ≤ code.length ∧ (i : Int) + strt (code.drop i) = strt code) (fun i => code.length - i) (fun i hi => ?_) 0 ⟨Nat.zero_le _, by simp⟩
  by_cases hlt : i < code.length
  · have hx : sy.row (crows code) (i : Int) = (code[i]).row := by
      rw [sy_row, Int.toNat_natCast, crows_get _ _ hlt, List.getD_eq_getElem?_getD, List.getElem?_eq_getElem hlt]; rfl
    have hdr := List.drop_eq_getElem_cons hlt
    rw [hdr, strt_cons] at hi
    simp only [sy_wrap, sy_add, sy_sub, sy_mul, sy_ieq, sy_ilt, sy_ile, sy_seq, sy_beq, sy_bor, sy_bnot, sy_imax, sy_imin, sy_rlen, sy_slen, sy_sapp, sy_inr, sy_nat, sy_cell0, sy_cellS, sy_skip0, sy_inrn, sy_rapp, sy_fits, sy_cutok, sy_cut, sy_scut, sy_sbyte, sy_mkok, sy_mkok0, sy_mkz, sy_rep, sy_head, sy_deq, eqDs_int, eqDs_nil, opI_int, opB_bool, opS_str, opL_sl, opM_own, leaves_val, leaves_own, Option.bind_some, cutO_bool, bif_bool, cutO_inl, cutO_inr, eF_call, eF_lp, Nat.zero_add, Nat.reduceAdd, Bool.cond_false_right, Bool.cond_true_left, Bool.cond_false_left, Bool.cond_true_right, Bool.not_true, Bool.not_false, Bool.not_not, eq_self, decide_true, decide_false, cond_true, cond_false, Int.reduceEq, Int.reduceLT, Int.reduceLE, Int.reduceSub, Int.reduceAdd, Bool.true_and, Bool.and_true, Bool.false_and, Bool.and_false, Bool.or_false, Bool.false_or, Bool.true_or, Bool.or_true, true_and, and_true, crows_len, ilt_at hlt, inr_at hlt, hx, Ins.row, wrap_succ hlt (by omega)]
    by_cases h10 : code[i].op = 10
    · right
      rw [if_pos h10] at hi
      rw [decide_eq_true h10, ← hi.2]; rfl
    · left
      rw [if_neg h10] at hi
      refine ⟨i + 1, ?_, ⟨by omega, by push_cast; omega⟩, by omega⟩
      rw [decide_eq_false h10]; rfl
  · right
    have : i = code.length := by omega
    subst this
    simp only [sy_wrap, sy_add, sy_sub, sy_mul, sy_ieq, sy_ilt, sy_ile, sy_seq, sy_beq, sy_bor, sy_bnot, sy_imax, sy_imin, sy_rlen, sy_slen, sy_sapp, sy_inr, sy_nat, sy_cell0, sy_cellS, sy_skip0, sy_inrn, sy_rapp, sy_fits, sy_cutok, sy_cut, sy_scut, sy_sbyte, sy_mkok, sy_mkok0, sy_mkz, sy_rep, sy_head, sy_deq, eqDs_int, eqDs_nil, opI_int, opB_bool, opS_str, opL_sl, opM_own, leaves_val, leaves_own, Option.bind_some, cutO_bool, bif_bool, cutO_inl, cutO_inr, eF_call, eF_lp, Nat.zero_add, Nat.reduceAdd, Bool.cond_false_right, Bool.cond_true_left, Bool.cond_false_left, Bool.cond_true_right, Bool.not_true, Bool.not_false, Bool.not_not, eq_self, decide_true, decide_false, cond_true, cond_false, Int.reduceEq, Int.reduceLT, Int.reduceLE, Int.reduceSub, Int.reduceAdd, Bool.true_and, Bool.and_true, Bool.false_and, Bool.and_false, Bool.or_false, Bool.false_or, Bool.true_or, Bool.or_true, true_and, and_true, crows_len, ilt_self]
    rw [List.drop_eq_nil_of_le (Nat.le_refl _)] at hi
    rw [← hi.2]; simp [strt]
end Go.Vm
end

section
set_option linter.all false
set_option maxRecDepth 100000
namespace Go.Vm
/-! ### what a code that may be run keeps on its stack -/
theorem putAll_keep {row : List Int} : ∀ {to : List Int} {K K' : Known}, putAll row to K = some K' → (∀ m r, K m = some r → K' m = some r) ∧ ∀ t ∈ to, K' t.toNat = some row
  | [], K, K', h => by cases h; exact ⟨fun m r h => h, by simp⟩
  | t :: ts, K, K', h => by
    unfold putAll at h
    have go : (∀ w, K t.toNat = some w → w = row) → putAll row ts (fun m => if m = t.toNat then some row else K m) = some K' → (∀ m r, K m = some r → K' m = some r) ∧ ∀ q ∈ t :: ts, K' q.toNat = some row := fun hw h => by
      obtain ⟨h1, h2⟩ := putAll_keep h
      refine ⟨fun m r hm => h1 m r ?_, fun q hq => ?_⟩
      · by_cases e : m = t.toNat
        · subst e; simp only [if_true]; rw [hw r hm]
        · simp only [if_neg e]; exact hm
      · rcases List.mem_cons.1 hq with rfl | hq
        · exact h1 _ _ (by simp)
        · exact h2 q hq
    cases hk : K t.toNat with
    | none => rw [hk] at h; exact go (fun w hw => by rw [hk] at hw; cases hw) h
    | some was =>
      rw [hk] at h
      simp only at h
      by_cases e : was = row
      · rw [if_pos e] at h
        exact go (fun w hw => by rw [hk] at hw; cases hw; exact e) h
      · rw [if_neg e] at h; cases h
/-- What is known of a place in a code that may be run. -/
def PlaceOK (s : Shp) (n : Nat) (R : Nat → List Int) (i : Nat) (x : Ins) : Prop :=
  rightB x = true ∧ ∃ row' to, nextS s x (R i) = some row' ∧ leadsS n i x = some to ∧ ∀ t ∈ to, R t.toNat = row'
theorem checkGo_rows {s : Shp} {n : Nat} : ∀ (rest : List Ins) (i : Nat) (K : Known), (checkGo s n i rest K).2 = true → ∃ R : Nat → List Int, (∀ m row, i ≤ m → K m = some row → R m = row) ∧ ∀ j x, rest[j]? = some x → PlaceOK s n R (i + j) x
  | [], i, K, h => ⟨fun m => (K m).getD [], fun m row _ h => by simp [h], fun j x h => by simp at h⟩
  | x :: xs, i, K, h => by
    unfold checkGo at h
    cases hk : K i with
    | none => rw [hk] at h; cases h
    | some row =>
      rw [hk] at h; simp only at h
      by_cases hr : rightB x = true
      · rw [if_pos hr] at h
        cases hn : nextS s x row with
        | none => rw [hn] at h; cases h
        | some row' =>
          rw [hn] at h; simp only at h
          cases hl : leadsS n i x with
          | none => rw [hl] at h; cases h
          | some to =>
            rw [hl] at h; simp only at h
            cases hp : putAll row' to K with
            | none => rw [hp] at h; cases h
            | some K' =>
              rw [hp] at h; simp only at h
              obtain ⟨R, h1, h2⟩ := checkGo_rows xs (i + 1) K' h
              obtain ⟨k1, k2⟩ := putAll_keep hp
              have hbd := (leadsS_bd hl).1
              refine ⟨fun m => if m = i then row else R m, fun m r hm hKm => ?_, fun j y hy => ?_⟩
              · by_cases e : m = i
                · subst e; simp only [if_true]; rw [hk] at hKm; cases hKm; rfl
                · simp only [if_neg e]; exact h1 m r (by omega) (k1 m r hKm)
              · cases j with
                | zero =>
                  simp only [List.getElem?_cons_zero, Option.some.injEq] at hy; subst hy
                  refine ⟨hr, row', to, by simpa using hn, by simpa using hl, fun t ht => ?_⟩
                  have := hbd t ht
                  simp only
                  rw [if_neg (by omega)]
                  exact h1 _ _ (by omega) (k2 t ht)
                | succ j =>
                  simp only [List.getElem?_cons_succ] at hy
                  obtain ⟨a, r2, t2, b, c, d⟩ := h2 j y hy
                  rw [show i + 1 + j = i + (j + 1) by omega] at b c
                  refine ⟨a, r2, t2, ?_, c, fun t ht => ?_⟩
                  · simp only; rw [if_neg (by omega)]; exact b
                  · have := (leadsS_bd c).1 t ht
                    simp only
                    rw [if_neg (by omega)]; exact d t ht
      · rw [if_neg hr] at h; cases h
theorem checkS_rows {s : Shp} {code : List Ins} (h : (checkS s code).2 = true) : shapeB s.ctors s.kinds s.lo s.hi = true ∧ 1 ≤ code.length ∧ ∃ R : Nat → List Int, R 0 = [] ∧ ∀ i x, code[i]? = some x → PlaceOK s code.length R i x := by
  unfold checkS at h
  split at h
  · rename_i hc
    simp only [Bool.and_eq_true, decide_eq_true_eq] at hc
    obtain ⟨R, h1, h2⟩ := checkGo_rows code 0 _ h
    refine ⟨hc.1.1, hc.1.2, R, h1 0 [] (Nat.le_refl _) (by simp), fun i x hx => ?_⟩
    have := h2 i x hx
    rwa [Nat.zero_add] at this
  · cases h
/-- How many are taken off the stack; how many are laid on it. -/
def popsN (op : Int) : Nat := if op = 3 ∨ op = 4 ∨ op = 7 ∨ op = 8 then 1 else if op = 5 ∨ op = 9 then 2 else 0
def putsN (op : Int) : Nat := if op = 1 ∨ op = 2 ∨ op = 4 ∨ op = 5 ∨ op = 8 then 1 else 0
theorem dropTop_length (row : List Int) (n : Nat) : (dropTop row n).length = row.length - n := by
  unfold dropTop; rw [List.length_take]; omega
theorem next_len {s : Shp} {x : Ins} {row row' : List Int} (h : nextS s x row = some row') (hr : rightB x = true) (h10 : x.op ≠ 10) (hl : row.length ≤ 16) :
    popsN x.op ≤ row.length ∧ row'.length = row.length - popsN x.op + putsN x.op ∧ row'.length ≤ 16 := by
  obtain ⟨op, a, b, n⟩ := x
  simp only at h10 ⊢
  have hop : 1 ≤ op ∧ op ≤ 10 := by
    rw [right_eq] at hr
    simp only [Bool.and_eq_true] at hr
    exact withinB_iff.1 hr.1.1.1
  have : op = 1 ∨ op = 2 ∨ op = 3 ∨ op = 4 ∨ op = 5 ∨ op = 6 ∨ op = 7 ∨ op = 8 ∨ op = 9 := by omega
  unfold nextS at h
  rcases this with rfl | rfl | rfl | rfl | rfl | rfl | rfl | rfl | rfl
  · rw [if_pos rfl] at h
    split at h
    · rename_i hc
      simp only [Bool.and_eq_true, decide_eq_true_eq] at hc
      cases h
      have := hc.2
      simp [popsN, putsN]; omega
    · cases h
  · simp only [memS] at h
    simp at h
    split at h
    · cases h
    · split at h
      · cases h; simp [popsN, putsN]; omega
      · cases h
  · simp only [memS] at h
    simp at h
    split at h
    · cases h
    · split at h
      · rename_i he
        cases h
        have := ends_len he.1
        simp only [il, List.length_singleton] at this
        rw [dropTop_length]; simp [popsN, putsN]; omega
      · cases h
  · simp only [operS] at h
    simp at h
    obtain ⟨hne, t, ht, rfl⟩ := h
    have : row.length ≠ 0 := by
      intro e; exact hne (List.length_eq_zero_iff.1 e)
    rw [List.length_append, dropTop_length]; simp [popsN, putsN]; omega
  · simp only [operS] at h
    simp at h
    obtain ⟨hne, t, ht, rfl⟩ := h
    rw [List.length_append, dropTop_length]; simp [popsN, putsN]; omega
  · simp at h
    subst h
    simp [popsN, putsN]; omega
  · simp at h
    obtain ⟨he, rfl⟩ := h
    have := ends_len he
    simp only [il, List.length_singleton] at this
    rw [dropTop_length]; simp [popsN, putsN]; omega
  · simp only [memS] at h
    simp at h
    split at h
    · cases h
    · split at h
      · rename_i he
        cases h
        have := ends_len he
        simp only [il, List.length_singleton] at this
        rw [List.length_append, dropTop_length]; simp [popsN, putsN]; omega
      · cases h
  · simp only [memS] at h
    simp at h
    split at h
    · cases h
    · split at h
      · rename_i he
        cases h
        have := ends_len he.1
        simp only [il, List.length_cons, List.length_nil] at this
        rw [dropTop_length]; simp [popsN, putsN]; omega
      · cases h
/-- Cells that an instruction has to do with are there. -/
theorem next_there {s : Shp} {x : Ins} {row row' : List Int} (h : nextS s x row = some row') (hm : x.op = 2 ∨ x.op = 3 ∨ x.op = 8 ∨ x.op = 9) : x.a + max 1 x.b ≤ s.kinds.length := by
  unfold nextS at h
  rw [if_neg (by omega), if_neg (by omega), if_neg (by omega), if_neg (by omega), if_neg (by omega)] at h
  unfold memS at h
  have : cellsK s.kinds x.a (max 1 x.b) ≠ none := by
    intro e; rw [e] at h; cases h
  unfold cellsK at this
  split at this
  · rename_i hle
    unfold il at hle
    omega
  · exact absurd rfl this
/-- Where a code that may be run leads, by its check and by its fuel. -/
theorem mxL_ge {l : List Int} : ∀ (ls : List Int) (m : Int), m ≤ mxL l ls m ∧ ∀ j ∈ ls, l.getD j.toNat 0 ≤ mxL l ls m
  | [], m => ⟨by show m ≤ m; omega, by simp⟩
  | j :: ls, m => by
    have h := mxL_ge (l := l) ls (max m (l.getD j.toNat 0))
    have e : mxL l (j :: ls) m = mxL l ls (max m (l.getD j.toNat 0)) := rfl
    rw [e]
    refine ⟨by omega, fun q hq => ?_⟩
    rcases List.mem_cons.1 hq with rfl | hq
    · omega
    · exact h.2 q hq
theorem bAt_lead {code : List Ins} {i : Nat} {j : Int} (hi : i < code.length) (hj : j ∈ leads code i) : bAt code j.toNat + 1 ≤ bAt code i := by
  rw [bAt_eq hi]
  have := (mxL_ge (l := bL code code.length) (leads code i) 0).2 j hj
  unfold bAt
  omega
theorem bAt_pos {code : List Ins} {i : Nat} (hi : i < code.length) : 1 ≤ bAt code i := by
  rw [bAt_eq hi]
  have := (mxL_ge (l := bL code code.length) (leads code i) 0).1
  omega
theorem bAt_le {code : List Ins} (i : Nat) : bAt code i ≤ code.length := by
  unfold bAt
  rw [List.getD_eq_getElem?_getD]
  cases h : (bL code code.length)[i]? with
  | none => simp
  | some x => exact (bL_bd code.length x (List.mem_of_getElem? h)).2
theorem leads_next {code : List Ins} {i : Nat} (hi : i + 1 < code.length) (h6 : (code.getD i default).op ≠ 6) (h10 : (code.getD i default).op ≠ 10) : (i : Int) + 1 ∈ leads code i := by
  rw [leads_at (by omega)]
  unfold leadsB
  rw [decide_eq_false h10, decide_eq_false h6, decide_eq_true (show (i : Int) + 1 < code.length by omega)]
  simp
theorem leads_jump {code : List Ins} {i : Nat} (hi : i < code.length) (h : (code.getD i default).op = 6 ∨ (code.getD i default).op = 7) (h1 : (i : Int) < (code.getD i default).a) (h2 : (code.getD i default).a < code.length) : (code.getD i default).a ∈ leads code i := by
  rw [leads_at hi]
  unfold leadsB
  rw [decide_eq_false (show (code.getD i default).op ≠ 10 by omega), decide_eq_true h1, decide_eq_true h2]
  rcases h with h | h
  · rw [h]; simp
  · rw [h]
    simp only [cond_false, List.mem_append]
    by_cases e : (i : Int) + 1 = (code.getD i default).a
    · left
      rw [decide_eq_true (show (i : Int) + 1 < code.length by omega), e]; simp
    · right
      rw [decide_eq_false e]; simp
end Go.Vm
end

section
set_option linter.all false
set_option maxRecDepth 100000
namespace Go.Vm
open Go.Proofs
def shV (a b : List (List D)) (lo hi : Int) : V := .agg [.d (.sl 1 a), .d (.sl 1 b), .d (.int .i64 lo), .d (.int .i64 hi)]
def tyR (o : Option Ty3) : PRes := match o with
  | some t => .val [.int .i64 t.k, .int .i64 t.e, .int .i64 t.l, .bool true]
  | none => .val [.int .i64 0, .int .i64 0, .int .i64 0, .bool false]
theorem ty_ext {t u : Ty3} : t = u ↔ (t.k = u.k ∧ t.e = u.e ∧ t.l = u.l) := by
  obtain ⟨a, b, c⟩ := t; obtain ⟨d, e, f⟩ := u; simp
def rowR (o : Option (List Int)) : PRes → Prop := fun p => match o with
  | some r => p = .val [.sl 1 (irows r), .bool true]
  | none => ∃ r : List Int, p = .val [.sl 1 (irows r), .bool false]
def leadsL (i : Int) (x : Ins) : List Int := if x.op = 6 then [x.a] else if x.op = 7 then [i + 1, x.a] else [i + 1]
theorem crows_cell {l : List Ins} {i : Int} (h0 : 0 ≤ i) (h1 : i < (l.length : Int)) : sy.row (crows l) i = (l.getD i.toNat default).row := by
  rw [sy_row, crows_get _ _ (by omega)]
theorem crows_at {l : List Ins} {i : Nat} {x : Ins} (h : l[i]? = some x) : sy.row (crows l) (i : Int) = x.row := by
  obtain ⟨h1, h2⟩ := getElem?_some_getD (d := default) h
  rw [crows_cell (by omega) (by omega), Int.toNat_natCast, h1]
def tells {τ : Type} (o : Option τ) (l : τ) (b : Bool) : Prop := match o with
  | some r => l = r ∧ b = true
  | none => b = false
theorem rowR_val {o : Option (List Int)} {p : PRes} (h : rowR o p) : ∃ l b, p = .val [.sl 1 (irows l), .bool b] ∧ tells o l b := by
  unfold rowR at h
  cases o with
  | some r => exact ⟨r, true, h, rfl, rfl⟩
  | none => obtain ⟨r, h⟩ := h; exact ⟨r, false, h, rfl⟩
end Go.Vm
end
