/-
  Part K of the proof. What is proved by the whole: the statement that the claim names, with no condition. This part: lemmas.
-/
import Derived.Test.YtdilhaphlahfjaaGreatDoorJ
import Derived.Stop.Asserts
import Derived.RowKitTokens
import Derived.Shelf.Spec.SlicesGrow
set_option linter.all false

section
set_option maxRecDepth 1000000
set_option maxHeartbeats 0
namespace Go.Vm
open Go.Proofs
noncomputable section
variable (A : Sy) (E : Env)
def k2h (A:Sy)(E:Env)(l_:LL)(t_0 t_1 t_2:Int):Option PRes:=x0q (bif (A.ilt t_0 1)then vB true else vB (A.ilt 3 t_0)) fun ds1=>zB A ds1 0 fun b2=>x0q (bif b2 then vB true else vB (A.ilt t_2 0)) fun ds3=>zB A ds3 0 fun b4=>x0q (bif b4 then vB true else vB (A.ilt 8 t_2)) fun ds5=>zB A ds5 0 fun b6=>bif b6 then vL [.bool false] else bif (A.ieq t_0 3)then x0q (bif (A.ile 0 t_1)then vB (A.ilt t_1 (A.rlen l_)) else vB false) fun ds7=>zB A ds7 0 fun b8=>vL [.bool b8] else vL [.bool (A.ieq t_1 0)]
theorem w4j (l_:LL)(t_0 t_1 t_2:Int):(x1o A Tryz.prog cs 116 [.d (.sl 2 l_), .agg [.d (.int .i64 t_0), .d (.int .i64 t_1), .d (.int .i64 t_2)]]).run E=k2h A E l_ t_0 t_1 t_2:=by kernel_rfl
def k2g (s_:ByteArray):Option PRes:=zC E 69 [.d (.str s_)] fun p1=>yB A p1 0 fun b3=>x0q (bif b3 then vB true else vB (A.seq s_ (bs [116,114,117,101]))) fun ds4=>zB A ds4 0 fun b5=>x0q (bif b5 then vB true else vB (A.seq s_ (bs [102,97,108,115,101]))) fun ds6=>zB A ds6 0 fun b7=>vL [.bool b7]
theorem w4i (s_:ByteArray):(x1o A Tryz.prog cs 117 [.d (.str s_)]).run E=k2g A E s_:=by kernel_rfl
def g23 (a_ b_:LL):Option PRes:=bif (A.bnot (A.ieq (A.rlen a_) (A.rlen b_)))then vL [.bool false] else E.lp (fun ds1=>zL A ds1 0 2 fun l2=>zL A ds1 1 2 fun l3=>zI A ds1 2 fun n4=>bif (A.ilt n4 (A.rlen l2))then iT (A.inr n4 (A.rlen l2)) <| zS A (A.row l2 n4) 0 fun s5=>iT (A.inr n4 (A.rlen l3)) <| zS A (A.row l3 n4) 0 fun s6=>bif (A.bnot (A.seq s5 s6))then some (.inr (.val [.bool false])) else iT (A.inr n4 (A.rlen l2)) <| zL A (A.skip 1 (A.row l2 n4)) 0 1 fun l7=>iT (A.inr n4 (A.rlen l3)) <| zL A (A.skip 1 (A.row l3 n4)) 0 1 fun l8=>zC E 63 [.d (.sl 1 l7), .d (.sl 1 l8)] fun p9=>yB A p9 0 fun b11=>bif (A.bnot b11)then some (.inr (.val [.bool false])) else iL [.sl 2 l2, .sl 2 l3,nI (zW A (A.add n4 1))] else some (.inr (.val [.bool true]))) [.sl 2 a_, .sl 2 b_,nI 0]
theorem q3b (a_ b_:LL):(x1o A Tryz.prog cs 23 [.d (.sl 2 a_), .d (.sl 2 b_)]).run E=g23 A E a_ b_:=by kernel_rfl
def g28 (l_:LL):Option PRes:=bif (A.ilt 4 (A.rlen l_))then vL [nI 4] else E.lp (fun ds1=>zL A ds1 0 2 fun l2=>zI A ds1 1 fun n3=>zL A ds1 2 1 fun l4=>zL A ds1 3 1 fun l5=>bif (A.ilt n3 (A.rlen l2))then iT (A.inr n3 (A.rlen l2)) <| zL A (A.skip 1 (A.row l2 n3)) 0 1 fun l6=>bif (A.ilt 6 (A.rlen l6))then some (.inr (.val [nI 4])) else iT (A.inr n3 (A.rlen l2)) <| zS A (A.row l2 n3) 0 fun s7=>iT (A.fits l4 [[.str s7]] 16) <| iT (A.inr n3 (A.rlen l2)) <| zL A (A.skip 1 (A.row l2 n3)) 0 1 fun l8=>iT (A.fits l5 l8 16) <| iL [.sl 2 l2,nI (zW A (A.add n3 1)), .sl 1 (A.rapp l4 [[.str s7]]), .sl 1 (A.rapp l5 l8)] else E.lp (fun ds9=>zL A ds9 0 2 fun l10=>zI A ds9 1 fun n11=>zL A ds9 2 1 fun l12=>zL A ds9 3 1 fun l13=>bif (A.ilt n11 (A.rlen l10))then iT (A.inr n11 (A.rlen l10)) <| zS A (A.row l10 n11) 0 fun s14=>zC E 68 [.d (.str s14)] fun p15=>yB A p15 0 fun b17=>x0q (bif (A.bnot b17)then vB true else iT (A.inr n11 (A.rlen l10)) <| zL A (A.skip 1 (A.row l10 n11)) 0 1 fun l18=>vB (A.ieq (A.rlen l18) 0)) fun ds19=>zB A ds19 0 fun b20=>bif b20 then some (.inr (.inr (.val [nI 1]))) else iL [.sl 2 l10,nI (zW A (A.add n11 1)), .sl 1 l12, .sl 1 l13] else E.lp (fun ds21=>zI A ds21 0 fun n22=>zL A ds21 1 1 fun l23=>zL A ds21 2 1 fun l24=>bif (A.ilt n22 (A.rlen l24))then iT (A.inr n22 (A.rlen l24)) <| zS A (A.rown l24 (A.nat n22)) 0 fun s25=>zC E 69 [.d (.str s25)] fun p26=>yB A p26 0 fun b28=>bif (A.bnot b28)then some (.inr (.inr (.inr (.val [nI 1])))) else iL [nI (zW A (A.add n22 1)), .sl 1 l23, .sl 1 l24] else zC E 30 [.d (.sl 1 l23)] fun p29=>yB A p29 0 fun b31=>x0q (bif (A.bnot b31)then vB true else zC E 30 [.d (.sl 1 l24)] fun p32=>yB A p32 0 fun b34=>vB (A.bnot b34)) fun ds35=>zB A ds35 0 fun b36=>bif b36 then some (.inr (.inr (.inr (.val [nI 6])))) else some (.inr (.inr (.inr (.val [nI 0]))))) [nI 0, .sl 1 l12, .sl 1 l13]) [.sl 2 l2,nI 0, .sl 1 l4, .sl 1 l5]) [.sl 2 l_,nI 0, .sl 1 [], .sl 1 []]
theorem v8y (l_:LL):(x1o A Tryz.prog cs 28 [.d (.sl 2 l_)]).run E=g28 A E l_:=by kernel_rfl
def g32 (A:Sy)(E:Env)(n_0:ByteArray)(n_1 n_2 n_3 n_4:LL):Option PRes:=iT (A.fits [] n_1 72) <| iT (A.fits (A.rapp [] n_1) n_2 72) <| iT (A.fits (A.rapp (A.rapp [] n_1) n_2) n_3 72) <| some (.own 127 6 (A.rapp (A.rapp (A.rapp [] n_1) n_2) n_3))
theorem q2w (n_0:ByteArray)(n_1 n_2 n_3 n_4:LL):(x1o A Tryz.prog cs 32 [.agg [.d (.str n_0), .d (.sl 6 n_1), .d (.sl 6 n_2), .d (.sl 6 n_3), .d (.sl 7 n_4)]]).run E=g32 A E n_0 n_1 n_2 n_3 n_4:=by kernel_rfl
def g31 (l_:LL):Option PRes:=E.lp (fun ds1=>zL A ds1 0 6 fun l2=>zI A ds1 1 fun n3=>zL A ds1 2 1 fun l4=>bif (A.ilt n3 (A.rlen l2))then iT (A.inr n3 (A.rlen l2)) <| zS A (A.row l2 n3) 0 fun s5=>iT (A.fits l4 [[.str s5]] 16) <| iL [.sl 6 l2,nI (zW A (A.add n3 1)), .sl 1 (A.rapp l4 [[.str s5]])] else some (.inr (.own 9 1 l4))) [.sl 6 l_,nI 0, .sl 1 []]
theorem q2x (l_:LL):(x1o A Tryz.prog cs 31 [.d (.sl 6 l_)]).run E=g31 A E l_:=by kernel_rfl
def g70 (l_:LL)(d_0:ByteArray)(d_1 d_2 d_3:Int)(d_4 d_5:ByteArray):Option PRes:=zC E 68 [.d (.str d_0)] fun p1=>yB A p1 0 fun b3=>x0q (bif (A.bnot b3)then vB true else zC E 116 [.d (.sl 2 l_), .agg [.d (nI d_1), .d (nI d_2), .d (nI d_3)]] fun p4=>yB A p4 0 fun b6=>vB (A.bnot b6)) fun ds7=>zB A ds7 0 fun b8=>bif b8 then vL [.bool false] else x0q (bif (A.seq d_4 (bs []))then vB (A.seq d_5 (bs [])) else vB false) fun ds9=>zB A ds9 0 fun b10=>x0q (bif b10 then vB true else zC E 68 [.d (.str d_4)] fun p11=>yB A p11 0 fun b13=>bif b13 then zC E 117 [.d (.str d_5)] fun p14=>yB A p14 0 fun b16=>vB b16 else vB false) fun ds17=>zB A ds17 0 fun b18=>vL [.bool b18]
theorem q2j (l_:LL)(d_0:ByteArray)(d_1 d_2 d_3:Int)(d_4 d_5:ByteArray):(x1o A Tryz.prog cs 70 [.d (.sl 2 l_), .agg [.d (.str d_0), .d (.int .i64 d_1), .d (.int .i64 d_2), .d (.int .i64 d_3), .d (.str d_4), .d (.str d_5)]]).run E=g70 A E l_ d_0 d_1 d_2 d_3 d_4 d_5:=by kernel_rfl
def g71 (x_0:LL)(x_1 x_2:Int)(x_3:ByteArray)(x_4:Int)(x_5 x_6:LL):Option PRes:=E.lp (fun ds1=>zI A ds1 0 fun n2=>zL A ds1 1 1 fun l3=>oE A ds1 2 fun n4 n5 s6 n7 l8 l9=>bif (A.ilt n2 (A.rlen l3))then iT (A.inr n2 (A.rlen l3)) <| zS A (A.row l3 n2) 0 fun s10=>zC E 68 [.d (.str s10)] fun p11=>yB A p11 0 fun b13=>bif (A.bnot b13)then some (.inr (.val [.bool false])) else iL [nI (zW A (A.add n2 1)), .sl 1 l3,nI n4,nI n5, .str s6,nI n7, .sl 1 l8, .sl 6 l9] else x0q (bif (A.ilt 0 (A.rlen l3))then zC E 118 [kE n4 n5 s6 n7 l8 l9] fun p14=>yB A p14 0 fun b16=>vB b16 else vB false) fun ds17=>zB A ds17 0 fun b18=>x0q (bif b18 then bif (A.ieq (A.rlen l3) 1)then vB true else vB (A.ieq n4 13) else vB false) fun ds19=>zB A ds19 0 fun b20=>some (.inr (.val [.bool b20]))) [nI 0, .sl 1 x_0,nI x_1,nI x_2, .str x_3,nI x_4, .sl 1 x_5, .sl 6 x_6]
theorem q2i (x_0:LL)(x_1 x_2:Int)(x_3:ByteArray)(x_4:Int)(x_5 x_6:LL):(x1o A Tryz.prog cs 71 [.agg [.d (.sl 1 x_0), .d (.int .i64 x_1), .d (.int .i64 x_2), .d (.str x_3), .d (.int .i64 x_4), .d (.sl 1 x_5), .d (.sl 6 x_6)]]).run E=g71 A E x_0 x_1 x_2 x_3 x_4 x_5 x_6:=by kernel_rfl
def g29 (l_:LL)(n_0:ByteArray)(n_1 n_2 n_3 n_4:LL):Option PRes:=zC E 32 [.agg [.d (.str n_0), .d (.sl 6 n_1), .d (.sl 6 n_2), .d (.sl 6 n_3), .d (.sl 7 n_4)]] fun p1=>yL A p1 0 6 fun l3=>E.lp (fun ds4=>zL A ds4 0 2 fun l5=>zL A ds4 1 6 fun l6=>zI A ds4 2 fun n7=>zS A ds4 3 fun s8=>zL A ds4 4 6 fun l9=>zL A ds4 5 6 fun l10=>zL A ds4 6 6 fun l11=>zL A ds4 7 7 fun l12=>bif (A.ilt n7 (A.rlen l6))then iT (A.inr n7 (A.rlen l6)) <| oD A (A.row l6 n7) 0 fun s13 n14 n15 n16 s17 s18=>zC E 70 [.d (.sl 2 l5), .agg [.d (.str s13), .d (nI n14), .d (nI n15), .d (nI n16), .d (.str s17), .d (.str s18)]] fun p19=>yB A p19 0 fun b21=>x0q (bif (A.bnot b21)then vB true else bif (A.ilt n7 (zW A (A.add (A.rlen l9) (A.rlen l10))))then iT (A.inr n7 (A.rlen l6)) <| zS A (A.skip 4 (A.row l6 n7)) 0 fun s22=>vB (A.bnot (A.seq s22 (bs []))) else vB false) fun ds23=>zB A ds23 0 fun b24=>bif b24 then some (.inr (.val [.bool false])) else iL [.sl 2 l5, .sl 6 l6,nI (zW A (A.add n7 1)), .str s8, .sl 6 l9, .sl 6 l10, .sl 6 l11, .sl 7 l12] else E.lp (fun ds25=>zI A ds25 0 fun n26=>zS A ds25 1 fun s27=>zL A ds25 2 6 fun l28=>zL A ds25 3 6 fun l29=>zL A ds25 4 6 fun l30=>zL A ds25 5 7 fun l31=>bif (A.ilt n26 (A.rlen l31))then iT (A.inr n26 (A.rlen l31)) <| zL A (A.row l31 n26) 0 1 fun l32=>oE A (A.row l31 n26) 1 fun n33 n34 s35 n36 l37 l38=>zC E 71 [.agg [.d (.sl 1 l32), .d (nI n33), .d (nI n34), .d (.str s35), .d (nI n36), .d (.sl 1 l37), .d (.sl 6 l38)]] fun p39=>yB A p39 0 fun b41=>bif (A.bnot b41)then some (.inr (.inr (.val [.bool false]))) else iL [nI (zW A (A.add n26 1)), .str s27, .sl 6 l28, .sl 6 l29, .sl 6 l30, .sl 7 l31] else zC E 68 [.d (.str s27)] fun p42=>yB A p42 0 fun b44=>x0q (bif b44 then vB (A.ilt 0 (A.rlen l29)) else vB false) fun ds45=>zB A ds45 0 fun b46=>some (.inr (.inr (.val [.bool b46])))) [nI 0, .str s8, .sl 6 l9, .sl 6 l10, .sl 6 l11, .sl 7 l12]) [.sl 2 l_, .sl 6 l3,nI 0, .str n_0, .sl 6 n_1, .sl 6 n_2, .sl 6 n_3, .sl 7 n_4]
theorem q2z (l_:LL)(n_0:ByteArray)(n_1 n_2 n_3 n_4:LL):(x1o A Tryz.prog cs 29 [.d (.sl 2 l_), .agg [.d (.str n_0), .d (.sl 6 n_1), .d (.sl 6 n_2), .d (.sl 6 n_3), .d (.sl 7 n_4)]]).run E=g29 A E l_ n_0 n_1 n_2 n_3 n_4:=by kernel_rfl
def g12 (p_0 p_1:LL):Option PRes:=zC E 28 [.d (.sl 2 p_0)] fun p1=>yI A p1 0 fun n3=>bif (A.bnot (A.ieq n3 0))then vL [nI n3] else bif (A.ieq (A.rlen p_1) 0)then vL [nI 5] else bif (A.ilt 6 (A.rlen p_1))then vL [nI 4] else E.lp (fun ds4=>zB A ds4 0 fun b5=>zB A ds4 1 fun b6=>zI A ds4 2 fun n7=>zL A ds4 3 2 fun l8=>zL A ds4 4 5 fun l9=>zL A ds4 5 1 fun l10=>bif (A.ilt n7 (A.rlen l9))then iT (A.inr n7 (A.rlen l9)) <| zS A (A.row l9 n7) 0 fun s11=>zL A (A.row l9 n7) 1 6 fun l12=>zL A (A.row l9 n7) 2 6 fun l13=>zL A (A.row l9 n7) 3 6 fun l14=>zL A (A.row l9 n7) 4 7 fun l15=>x0q (bif (A.ilt 6 (A.rlen l12))then vB true else vB (A.ilt 6 (A.rlen l13))) fun ds16=>zB A ds16 0 fun b17=>x0q (bif b17 then vB true else vB (A.ilt 12 (A.rlen l14))) fun ds18=>zB A ds18 0 fun b19=>x0q (bif b19 then vB true else vB (A.ilt 18 (A.rlen l15))) fun ds20=>zB A ds20 0 fun b21=>bif b21 then some (.inr (.val [nI 4])) else iT (A.fits l10 [[.str s11]] 16) <| x0q (bif b5 then zC E 29 [.d (.sl 2 l8), .agg [.d (.str s11), .d (.sl 6 l12), .d (.sl 6 l13), .d (.sl 6 l14), .d (.sl 7 l15)]] fun p22=>yB A p22 0 fun b24=>vB b24 else vB false) fun ds25=>zB A ds25 0 fun b26=>bif b6 then zC E 32 [.agg [.d (.str s11), .d (.sl 6 l12), .d (.sl 6 l13), .d (.sl 6 l14), .d (.sl 7 l15)]] fun p27=>yL A p27 0 6 fun l29=>zC E 31 [.d (.sl 6 l29)] fun p30=>yL A p30 0 1 fun l32=>zC E 30 [.d (.sl 1 l32)] fun p33=>yB A p33 0 fun b35=>iL [.bool b26, .bool b35,nI (zW A (A.add n7 1)), .sl 2 l8, .sl 5 l9, .sl 1 (A.rapp l10 [[.str s11]])] else iL [.bool b26, .bool false,nI (zW A (A.add n7 1)), .sl 2 l8, .sl 5 l9, .sl 1 (A.rapp l10 [[.str s11]])] else bif (A.bnot b5)then some (.inr (.val [nI 1])) else x0q (bif (A.bnot b6)then vB true else zC E 30 [.d (.sl 1 l10)] fun p36=>yB A p36 0 fun b38=>vB (A.bnot b38)) fun ds39=>zB A ds39 0 fun b40=>bif b40 then some (.inr (.val [nI 6])) else some (.inr (.val [nI 0]))) [.bool true, .bool true,nI 0, .sl 2 p_0, .sl 5 p_1, .sl 1 []]
theorem q3g (p_0 p_1:LL):(x1o A Tryz.prog cs 12 [.agg [.d (.sl 2 p_0), .d (.sl 5 p_1)]]).run E=g12 A E p_0 p_1:=by kernel_rfl
def g64 (a_ b_:LL):Option PRes:=bif (A.bnot (A.ieq (A.rlen a_) (A.rlen b_)))then vL [.bool false] else E.lp (fun ds1=>zL A ds1 0 6 fun l2=>zL A ds1 1 6 fun l3=>zI A ds1 2 fun n4=>bif (A.ilt n4 (A.rlen l2))then iT (A.inr n4 (A.rlen l2)) <| oD A (A.row l2 n4) 0 fun s5 n6 n7 n8 s9 s10=>iT (A.inr n4 (A.rlen l3)) <| oD A (A.row l3 n4) 0 fun s11 n12 n13 n14 s15 s16=>bif (A.bnot (A.deq [.str s5,nI n6,nI n7,nI n8, .str s9, .str s10] [.str s11,nI n12,nI n13,nI n14, .str s15, .str s16]))then some (.inr (.val [.bool false])) else iL [.sl 6 l2, .sl 6 l3,nI (zW A (A.add n4 1))] else some (.inr (.val [.bool true]))) [.sl 6 a_, .sl 6 b_,nI 0]
theorem q2n (a_ b_:LL):(x1o A Tryz.prog cs 64 [.d (.sl 6 a_), .d (.sl 6 b_)]).run E=g64 A E a_ b_:=by kernel_rfl
def g24 (a_0:ByteArray)(a_1 a_2 a_3 a_4:LL)(b_0:ByteArray)(b_1 b_2 b_3 b_4:LL):Option PRes:=x0q (bif (A.bnot (A.seq a_0 b_0))then vB true else zC E 64 [.d (.sl 6 a_1), .d (.sl 6 b_1)] fun p1=>yB A p1 0 fun b3=>vB (A.bnot b3)) fun ds4=>zB A ds4 0 fun b5=>x0q (bif b5 then vB true else zC E 64 [.d (.sl 6 a_2), .d (.sl 6 b_2)] fun p6=>yB A p6 0 fun b8=>vB (A.bnot b8)) fun ds9=>zB A ds9 0 fun b10=>x0q (bif b10 then vB true else zC E 64 [.d (.sl 6 a_3), .d (.sl 6 b_3)] fun p11=>yB A p11 0 fun b13=>vB (A.bnot b13)) fun ds14=>zB A ds14 0 fun b15=>x0q (bif b15 then vB true else vB (A.bnot (A.ieq (A.rlen a_4) (A.rlen b_4)))) fun ds16=>zB A ds16 0 fun b17=>bif b17 then vL [.bool false] else E.lp (fun ds18=>zI A ds18 0 fun n19=>zS A ds18 1 fun s20=>zL A ds18 2 6 fun l21=>zL A ds18 3 6 fun l22=>zL A ds18 4 6 fun l23=>zL A ds18 5 7 fun l24=>zS A ds18 6 fun s25=>zL A ds18 7 6 fun l26=>zL A ds18 8 6 fun l27=>zL A ds18 9 6 fun l28=>zL A ds18 10 7 fun l29=>bif (A.ilt n19 (A.rlen l24))then iT (A.inr n19 (A.rlen l24)) <| zL A (A.row l24 n19) 0 1 fun l30=>iT (A.inr n19 (A.rlen l29)) <| zL A (A.row l29 n19) 0 1 fun l31=>zC E 63 [.d (.sl 1 l30), .d (.sl 1 l31)] fun p32=>yB A p32 0 fun b34=>bif (A.bnot b34)then some (.inr (.val [.bool false])) else iT (A.inr n19 (A.rlen l24)) <| oE A (A.skip 1 (A.row l24 n19)) 0 fun n35 n36 s37 n38 l39 l40=>iT (A.inr n19 (A.rlen l29)) <| oE A (A.skip 1 (A.row l29 n19)) 0 fun n41 n42 s43 n44 l45 l46=>zC E 65 [kE n35 n36 s37 n38 l39 l40,kE n41 n42 s43 n44 l45 l46] fun p47=>yB A p47 0 fun b49=>bif (A.bnot b49)then some (.inr (.val [.bool false])) else iL [nI (zW A (A.add n19 1)), .str s20, .sl 6 l21, .sl 6 l22, .sl 6 l23, .sl 7 l24, .str s25, .sl 6 l26, .sl 6 l27, .sl 6 l28, .sl 7 l29] else some (.inr (.val [.bool true]))) [nI 0, .str a_0, .sl 6 a_1, .sl 6 a_2, .sl 6 a_3, .sl 7 a_4, .str b_0, .sl 6 b_1, .sl 6 b_2, .sl 6 b_3, .sl 7 b_4]
theorem q3a (a_0:ByteArray)(a_1 a_2 a_3 a_4:LL)(b_0:ByteArray)(b_1 b_2 b_3 b_4:LL):(x1o A Tryz.prog cs 24 [.agg [.d (.str a_0), .d (.sl 6 a_1), .d (.sl 6 a_2), .d (.sl 6 a_3), .d (.sl 7 a_4)], .agg [.d (.str b_0), .d (.sl 6 b_1), .d (.sl 6 b_2), .d (.sl 6 b_3), .d (.sl 7 b_4)]]).run E=g24 A E a_0 a_1 a_2 a_3 a_4 b_0 b_1 b_2 b_3 b_4:=by kernel_rfl
def g9 (a_0 a_1 b_0 b_1:LL):Option PRes:=zC E 23 [.d (.sl 2 a_0), .d (.sl 2 b_0)] fun p1=>yB A p1 0 fun b3=>x0q (bif (A.bnot b3)then vB true else vB (A.bnot (A.ieq (A.rlen a_1) (A.rlen b_1)))) fun ds4=>zB A ds4 0 fun b5=>bif b5 then vL [.bool false] else E.lp (fun ds6=>zI A ds6 0 fun n7=>zL A ds6 1 2 fun l8=>zL A ds6 2 5 fun l9=>zL A ds6 3 2 fun l10=>zL A ds6 4 5 fun l11=>bif (A.ilt n7 (A.rlen l9))then iT (A.inr n7 (A.rlen l9)) <| zS A (A.row l9 n7) 0 fun s12=>zL A (A.row l9 n7) 1 6 fun l13=>zL A (A.row l9 n7) 2 6 fun l14=>zL A (A.row l9 n7) 3 6 fun l15=>zL A (A.row l9 n7) 4 7 fun l16=>iT (A.inr n7 (A.rlen l11)) <| zS A (A.row l11 n7) 0 fun s17=>zL A (A.row l11 n7) 1 6 fun l18=>zL A (A.row l11 n7) 2 6 fun l19=>zL A (A.row l11 n7) 3 6 fun l20=>zL A (A.row l11 n7) 4 7 fun l21=>zC E 24 [.agg [.d (.str s12), .d (.sl 6 l13), .d (.sl 6 l14), .d (.sl 6 l15), .d (.sl 7 l16)], .agg [.d (.str s17), .d (.sl 6 l18), .d (.sl 6 l19), .d (.sl 6 l20), .d (.sl 7 l21)]] fun p22=>yB A p22 0 fun b24=>bif (A.bnot b24)then some (.inr (.val [.bool false])) else iL [nI (zW A (A.add n7 1)), .sl 2 l8, .sl 5 l9, .sl 2 l10, .sl 5 l11] else some (.inr (.val [.bool true]))) [nI 0, .sl 2 a_0, .sl 5 a_1, .sl 2 b_0, .sl 5 b_1]
theorem q7k (a_0 a_1 b_0 b_1:LL):(x1o A Tryz.prog cs 9 [.agg [.d (.sl 2 a_0), .d (.sl 5 a_1)], .agg [.d (.sl 2 b_0), .d (.sl 5 b_1)]]).run E=g9 A E a_0 a_1 b_0 b_1:=by kernel_rfl
def g10 (A:Sy)(E:Env)(e_:Int):Option PRes:=some (.val [(.int .i64 e_)])
theorem q3i (e_:Int):(x1o A Tryz.prog cs 10 [.d (.int .i64 e_)]).run E=g10 A E e_:=by kernel_rfl
def g3 (A:Sy)(E:Env)(s_:ByteArray):Option PRes:=bif (A.ilt 2500 (A.slen s_))then (E.call 6 []).bind fun p1=>(opB (A.cell p1.leaves 0)).bind fun b3=>some (.val [(.bool b3)]) else (E.call 7 [(.d (.str s_))]).bind fun p4=>(opL (A.cell p4.leaves 0) 2).bind fun l6=>(opL (A.cell p4.leaves 1) 5).bind fun l7=>(opI (A.cell p4.leaves 2) .i64).bind fun n8=>(opI (A.cell p4.leaves 3) .i64).bind fun n9=>(E.call 8 [(.d (.str s_))]).bind fun p10=>(opL (A.cell p10.leaves 0) 2).bind fun l12=>(opL (A.cell p10.leaves 1) 5).bind fun l13=>(opI (A.cell p10.leaves 2) .i64).bind fun n14=>(opI (A.cell p10.leaves 3) .i64).bind fun n15=>(E.call 9 [(.agg [(.d (.sl 2 l6)),(.d (.sl 5 l7))]),(.agg [(.d (.sl 2 l12)),(.d (.sl 5 l13))])]).bind fun p16=>(opB (A.cell p16.leaves 0)).bind fun b18=>x0q (bif b18 then some (.inl [(.bool (A.ieq n8 n14))]) else some (.inl [(.bool false)])) fun ds19=>(opB (A.cell ds19 0)).bind fun b20=>x0q (bif b20 then (E.call 10 [(.d (.int .i64 n9))]).bind fun p21=>(opI (A.cell p21.leaves 0) .i64).bind fun n23=>some (.inl [(.bool (A.ieq n23 n15))]) else some (.inl [(.bool false)])) fun ds24=>(opB (A.cell ds24 0)).bind fun b25=>x0q (bif b25 then (E.call 6 []).bind fun p26=>(opB (A.cell p26.leaves 0)).bind fun b28=>some (.inl [(.bool b28)]) else some (.inl [(.bool false)])) fun ds29=>(opB (A.cell ds29 0)).bind fun b30=>some (.val [(.bool b30)])
theorem q7o (s_:ByteArray):(x1o A Tryz.prog cs 3 [.d (.str s_)]).run E=g3 A E s_:=by kernel_rfl
def g4 (A:Sy)(E:Env)(p_0 p_1:LL):Option PRes:=(E.call 11 [(.agg [(.d (.sl 2 p_0)),(.d (.sl 5 p_1))])]).bind fun p1=>(opB (A.cell p1.leaves 0)).bind fun b3=>x0q (bif (A.bnot b3)then some (.inl [(.bool true)]) else (E.call 12 [(.agg [(.d (.sl 2 p_0)),(.d (.sl 5 p_1))])]).bind fun p4=>(opI (A.cell p4.leaves 0) .i64).bind fun n6=>some (.inl [(.bool (A.bnot (A.ieq n6 0)))])) fun ds7=>(opB (A.cell ds7 0)).bind fun b8=>bif b8 then (E.call 6 []).bind fun p9=>(opB (A.cell p9.leaves 0)).bind fun b11=>some (.val [(.bool b11)]) else (E.call 13 [(.agg [(.d (.sl 2 p_0)),(.d (.sl 5 p_1))])]).bind fun p12=>(opS (A.cell p12.leaves 0)).bind fun s14=>bif (A.ilt 6000 (A.slen s14))then (E.call 6 []).bind fun p15=>(opB (A.cell p15.leaves 0)).bind fun b17=>some (.val [(.bool b17)]) else (E.call 7 [(.d (.str s14))]).bind fun p18=>(opL (A.cell p18.leaves 0) 2).bind fun l20=>(opL (A.cell p18.leaves 1) 5).bind fun l21=>(opI (A.cell p18.leaves 2) .i64).bind fun n22=>(opI (A.cell p18.leaves 3) .i64).bind fun n23=>(E.call 10 [(.d (.int .i64 n23))]).bind fun p24=>(opI (A.cell p24.leaves 0) .i64).bind fun n26=>x0q (bif (A.ieq n26 0)then some (.inl [(.bool (A.ieq n22 (A.slen s14)))]) else some (.inl [(.bool false)])) fun ds27=>(opB (A.cell ds27 0)).bind fun b28=>x0q (bif b28 then (E.call 9 [(.agg [(.d (.sl 2 l20)),(.d (.sl 5 l21))]),(.agg [(.d (.sl 2 p_0)),(.d (.sl 5 p_1))])]).bind fun p29=>(opB (A.cell p29.leaves 0)).bind fun b31=>some (.inl [(.bool b31)]) else some (.inl [(.bool false)])) fun ds32=>(opB (A.cell ds32 0)).bind fun b33=>x0q (bif b33 then (E.call 6 []).bind fun p34=>(opB (A.cell p34.leaves 0)).bind fun b36=>some (.inl [(.bool b36)]) else some (.inl [(.bool false)])) fun ds37=>(opB (A.cell ds37 0)).bind fun b38=>some (.val [(.bool b38)])
def g5 (s_:ByteArray):Option PRes:=bif (A.ilt 2500 (A.slen s_))then zC E 6 [] fun p1=>yB A p1 0 fun b3=>vL [.bool b3] else zC E 7 [.d (.str s_)] fun p4=>yL A p4 0 2 fun l6=>yL A p4 1 5 fun l7=>yI A p4 2 fun n8=>yI A p4 3 fun n9=>zC E 10 [.d (nI n9)] fun p10=>yI A p10 0 fun n12=>bif (A.bnot (A.ieq n12 0))then x0q (bif (A.ile 0 n8)then vB (A.ile n8 (A.imax (A.slen s_) 6000)) else vB false) fun ds13=>zB A ds13 0 fun b14=>x0q (bif b14 then vB (A.ieq (A.rlen l7) 0) else vB false) fun ds15=>zB A ds15 0 fun b16=>x0q (bif b16 then zC E 6 [] fun p17=>yB A p17 0 fun b19=>vB b19 else vB false) fun ds20=>zB A ds20 0 fun b21=>vL [.bool b21] else zC E 13 [.agg [.d (.sl 2 l6), .d (.sl 5 l7)]] fun p22=>yS A p22 0 fun s24=>x0q (bif (A.ilt 6000 (A.slen s24))then vB true else vB (A.seq s24 (bs []))) fun ds25=>zB A ds25 0 fun b26=>bif b26 then x0q (bif (A.bnot (A.seq s24 (bs [])))then zC E 6 [] fun p27=>yB A p27 0 fun b29=>vB b29 else vB false) fun ds30=>zB A ds30 0 fun b31=>vL [.bool b31] else zC E 7 [.d (.str s24)] fun p32=>yL A p32 0 2 fun l34=>yL A p32 1 5 fun l35=>yI A p32 2 fun n36=>yI A p32 3 fun n37=>zC E 10 [.d (nI n37)] fun p38=>yI A p38 0 fun n40=>x0q (bif (A.ieq n40 0)then vB (A.ieq n36 (A.slen s24)) else vB false) fun ds41=>zB A ds41 0 fun b42=>x0q (bif b42 then zC E 9 [.agg [.d (.sl 2 l6), .d (.sl 5 l7)], .agg [.d (.sl 2 l34), .d (.sl 5 l35)]] fun p43=>yB A p43 0 fun b45=>vB b45 else vB false) fun ds46=>zB A ds46 0 fun b47=>x0q (bif b47 then vB (A.ieq n8 (A.slen s_)) else vB false) fun ds48=>zB A ds48 0 fun b49=>x0q (bif b49 then zC E 6 [] fun p50=>yB A p50 0 fun b52=>vB b52 else vB false) fun ds53=>zB A ds53 0 fun b54=>vL [.bool b54]
end
end Go.Vm
end

section
set_option maxRecDepth 100000
set_option maxHeartbeats 4000000
namespace Go.Vm
open Go.Proofs
structure EnOK (e:En):Prop where
 n:e.1.size≤100000
 c: ∀x∈e.2,x.size≤100000
theorem y5d {l:List En}(h:x8c l=true):y0y l=4:=by unfold y0y;rw[h];rfl
theorem q5e {α:Type}(a:D)(k:Nat)(x:LL)(K:LL→Option α):(opL (sy.cell (sy.skip 1 [a, .sl k x]) 0) k).bind K=K x:=x3y k x K
theorem v6p (l:List En)(hl:l.length≤1000000)(hE: ∀x∈l,EnOK x):cF 28 [.d (.sl 2 (x0g l))]=some (.val [.int .i64 (y0y l)]):=by
 by_cases h4:4 < (l.length:Int)
 ·have hG:x8c l=true:=by unfold x8c;rw[x1m h4];rfl
  rw[y5d hG]
  refine cOf (by kernel_rfl) rfl ?_
  rw[v8y]
  simp only [g28,go1,Nat.reduceAdd,x1b,x1m h4]
 ·refine cOf (by kernel_rfl) rfl ?_
  rw[v8y]
  simp only [g28,go1,Nat.reduceAdd,x1b,x1c h4]
  have h4':l.length≤4:=by omega
  have hbd: ∀i,(∀e∈l.take i,e.2.length≤6)→(x1s (l.take i)).length≤24:=fun i h=>by
   have:=y9h h
   rw[a1k]at this;omega
  refine x0m (fun i:Nat=>[.sl 2 (x0g l), .int .i64 (i:Int), .sl 1 (x0e ((l.take i).map (·.1))), .sl 1 (x0e (x1s (l.take i)))]) (fun i=>i≤l.length∧ ∀e∈l.take i,e.2.length≤6) (fun i=>l.length - i) (fun i hi=> ?_) 0 ⟨a0r _,by simp⟩
  obtain⟨hi,h6⟩:=hi
  have hcb:=hbd i h6
  by_cases hlt:i < l.length
  ·have hx:=a0b hlt
   by_cases hc:6 < (l[i].2.length:Int)
   ·right
    have hG:x8c l=true:=by
     unfold x8c
     rw[Bool.or_eq_true]
     exact .inr (List.any_eq_true.2 ⟨l[i],a1p hlt,x1m hc⟩)
    rw[y5d hG]
    simp only [go1,x1b,x0f,x0n hlt,x0p hlt,y9b hx,q5e,x1m hc]
   ·left
    refine⟨i+1,?_,⟨hlt,fun e he=> ?_⟩,by omega⟩
    ·have hf:=x6p (x0e ((l.take i).map (·.1))) [[.str l[i].1]] 16 (by rw[x0f,a1c,a1k];simp only [a0f,a0i];omega)
     have hf2:=x6p (x0e (x1s (l.take i))) (x0e l[i].2) 16 (by rw[x0f,x0f];omega)
     rw[z1n hx,x3a,y9g hx,←y2h]
     simp only [go1,Nat.reduceAdd,a0f,a0i]at hf hf2
     simp only [go1,x1b,x0n hlt,x0p hlt,y9b hx,q5e,x0f,x1c hc,a0f,a0i]at hf hf2 ⊢
     simp only [go1,hf,hf2,x0c hlt (by omega)]
     rfl
    ·rw[a1f,hx]at he
     rcases a1h.1 he with he|he
     ·exact h6 e he
     ·simp at he;subst he;omega
  ·have:i=l.length:=by omega
   subst this
   right
   rw[a0x]at h6 hcb
   have hG:x8c l=false:=by
    unfold x8c
    rw[Bool.or_eq_false_iff]
    refine⟨x1c h4,List.any_eq_false.2 fun e he=> ?_⟩
    have:=h6 e he
    simp;omega
   have hO1:=y9m (l.map (·.1)) (by simp;omega)
   have hO2:=y9m (x1s l) (by omega)
   simp only [go1,x1b,x0h,a0x]
   refine x1u (r0:=Sum.inr (PRes.val [.int .i64 1])) (r1:=Sum.inr (PRes.val [.int .i64 (bif !y1m (x1s l)then 1 else bif !decide (l.map (·.1)).Nodup || !decide (x1s l).Nodup then 6 else 0)])) (fun e:En=>x7m (tb e.1)&&decide (0 < (e.2.length:Int))) l (fun i:Nat=>[.sl 2 (x0g l), .int .i64 (i:Int), .sl 1 (x0e (l.map (·.1))), .sl 1 (x0e (x1s l))]) rfl (fun i x hx=> ?_) (fun _=> ?_) ?_
   ·have hlt:=(a0a.1 hx).1
    have hL:=y3h x.1 (hE _ (a0n hx)).n
    have e1:decide ((x.2.length:Int)=0)= !decide (0 < (x.2.length:Int)):=by rw[a1b];simp
    simp only [go1,x1b,x0n hlt,x0p hlt,y9b hx,q5e,x0f,hL,x0c hlt (by omega),e1]
    cases x7m (tb x.1)<;>cases decide (0 < (x.2.length:Int))<;>rfl
   ·simp only [go1,x1b,x0h]
    refine x1u (r0:=Sum.inr (Sum.inr (PRes.val [.int .i64 1]))) (r1:=Sum.inr (Sum.inr (PRes.val [.int .i64 (bif !decide (l.map (·.1)).Nodup || !decide (x1s l).Nodup then 6 else 0)]))) (fun s:ByteArray=>y1l (tb s)) (x1s l) (fun i:Nat=>[.int .i64 (i:Int), .sl 1 (x0e (l.map (·.1))), .sl 1 (x0e (x1s l))]) rfl (fun i x hx=> ?_) (fun _=> ?_) ?_
    ·have hlt:=(a0a.1 hx).1
     have hsz:x.size≤100000:=by
      have hm:=a0n hx
      unfold x1s at hm
      obtain⟨e,he,hc⟩:=List.mem_flatMap.1 hm
      exact(hE e he).c _ hc
     have hH:=y9n x hsz
     have hrn:sy.rown (x0e (x1s l)) i=sy.row (x0e (x1s l)) (i:Int):=by rw[y4r,u7n,a0h]
     simp only [go1,x0f,x0n hlt,x0p hlt,a0h,hrn,x1v hx,hH,x0c hlt (by omega)]
     cases y1l (tb x)<;>rfl
    ·simp only [go1,x0f,x0h,hO1,hO2]
     cases decide (l.map (·.1)).Nodup<;>cases decide (x1s l).Nodup<;>rfl
    ·unfold y1m;cases List.all (x1s l) _<;>rfl
   ·unfold y0y u6x
    rw[hG]
    cases List.all l _<;>cases y1m (x1s l)<;>rfl
end Go.Vm
end

section
set_option maxRecDepth 100000
set_option maxHeartbeats 4000000
namespace Go.Vm
open Go.Proofs
theorem u8p (ens:List En)(k e c:Int):cF 116 [.d (.sl 2 (x0g ens)), .agg [.d (.int .i64 k), .d (.int .i64 e), .d (.int .i64 c)]]=some (.val [.bool (tyB ens k e c)]):=by
 have hA:(decide (k < 1) || decide (3 < k))= !(decide (k=1) || (decide (k=2) || decide (k=3))):=by
  rw[a1b];simp;omega
 have h13:decide (k=3)=true→decide (k=1)=false∧decide (k=2)=false:=fun h=>by
  have:=a0c h
  exact⟨x1c (by omega),x1c (by omega)⟩
 unfold tyB
 refine cOf (by kernel_rfl) rfl ?_
 rw[w4j]
 simp only [k2h,go1,x1b]
 revert hA h13
 cases decide (c < 0)<;>cases decide (8 < c)<;>cases decide (k < 1)<;>cases decide (3 < k)<;>cases decide (k=1)<;>cases decide (k=2)<;>cases decide (k=3)<;>intro hA h13<;>first|(cases hA;done)|(cases(h13 rfl).1;done)|(cases(h13 rfl).2;done)|(cases decide (0≤e)<;>rfl)|rfl
theorem q6q (s:ByteArray)(hs:s.size≤100000):cF 117 [.d (.str s)]=some (.val [.bool (y5f s)]):=by
 have h:=y9n s hs
 unfold y5f
 refine cOf (by kernel_rfl) rfl ?_
 rw[w4i]
 simp only [k2g,go1,h,x1l]
 rw[show tb x5w=tb (bs [116,114,117,101])from rfl,show tb x2r=tb (bs [102,97,108,115,101])from rfl]
 cases y1l (tb s)<;>cases decide (tb s=tb (bs [116,114,117,101]))<;>rfl
abbrev dV (d:Dc):V:= .agg [.d (.str d.n), .d (.int .i64 d.k), .d (.int .i64 d.e), .d (.int .i64 d.c), .d (.str d.o), .d (.str d.q)]
theorem q0l (ens:List En)(x:Dc)(h:DcOK x):cF 70 [.d (.sl 2 (x0g ens)),dV x]=some (.val [.bool (z3u ens x)]):=by
 have c1:=y3h x.n h.n
 have c2:=u8p ens x.k x.e x.c
 have c3:=y3h x.o h.o
 have c4:=q6q x.q h.q
 unfold z3u w6w
 obtain⟨n,k,e,c,o,q⟩:=x
 refine cOf (by kernel_rfl) rfl ?_
 rw[q2j]
 simp only [g70,go1,c1,c2,c3,c4,x1l]
 cases x7m (tb n)<;>cases tyB ens k e c<;>cases decide (tb o=tb (bs []))<;>cases decide (tb q=tb (bs []))<;>cases x7m (tb o)<;>cases y5f q<;>first|rfl|(simp only [go1,Nat.reduceAdd,Int.reduceEq,Int.reduceLT,Int.reduceLE,Int.reduceSub,Int.reduceAdd,c2,c3,c4];rfl)
theorem u5f (ns:List ByteArray)(k m:Int)(s:ByteArray)(o:Int)(a:List ByteArray)(u:List Ex)(h:EqOK ⟨ns, .mk k m s o a u⟩):cF 71 [.agg [.d (.sl 1 (x0e ns)), .d (.int .i64 k), .d (.int .i64 m), .d (.str s), .d (.int .i64 o), .d (.sl 1 (x0e a)), .d (.sl 6 (Ex.rows u))]]=some (.val [.bool (eqB ⟨ns, .mk k m s o a u⟩)]):=by
 have h1:=z8l k m s o a u h.sz h.fn
 have hl:ns.length≤1000000:=h.ns
 have hst:=h.st
 have eE:eqB ⟨ns, .mk k m s o a u⟩=(!(decide ((ns.length:Int)=0))&&(x3i (.mk k m s o a u)&&y9u (.mk k m s o a u))&& !(decide (1 < (ns.length:Int))&& !decide (k=13))&&ns.all fun s=>x7m (tb s)):=rfl
 rw[eE]
 have e1:decide ((ns.length:Int)=0)= !decide (0 < (ns.length:Int)):=by rw[a1b];simp
 have e2:decide (0 < (ns.length:Int))=true→decide (1 < (ns.length:Int))= !decide ((ns.length:Int)=1):=fun h=>by
  have:=a0c h
  rw[a1b];simp;omega
 rw[e1]
 refine cOf (by kernel_rfl) rfl ?_
 rw[q2i]
 simp only [g71,go1]
 refine x1u (r0:=PRes.val [.bool false]) (r1:=PRes.val [.bool (decide (0 < (ns.length:Int))&&(x3i (.mk k m s o a u)&&y9u (.mk k m s o a u))&&(decide ((ns.length:Int)=1) || decide (k=13)))]) (fun s:ByteArray=>x7m (tb s)) ns (fun i=>[.int .i64 (i:Int), .sl 1 (x0e ns), .int .i64 k, .int .i64 m, .str s, .int .i64 o, .sl 1 (x0e a), .sl 6 (Ex.rows u)]) rfl (fun i x hx=> ?_) (fun _=> ?_) ?_
 ·have hlt:=(a0a.1 hx).1
  have hL:=y3h x (hst x (a0n hx))
  simp only [go1,Nat.reduceAdd,oE,x0f,x0n hlt,x0p hlt,x1v hx,hL,x0c hlt (by omega)]
  cases x7m (tb x)<;>rfl
 ·simp only [go1,Nat.reduceAdd,oE,x0f,x0h,h1]
  try (cases decide (0 < (ns.length:Int))<;>cases x3i (.mk k m s o a u)&&y9u (.mk k m s o a u)<;>cases decide ((ns.length:Int)=1)<;>rfl)
 ·revert e2
  cases decide (0 < (ns.length:Int))with
  |false=>intro _;cases List.all ns _<;>rfl
  |true=>
   intro e2
   rw[e2 rfl]
   cases List.all ns _<;>cases x3i (.mk k m s o a u)&&y9u (.mk k m s o a u)<;>cases decide ((ns.length:Int)=1)<;>cases decide (k=13)<;>rfl
def onB (d:Dc):Bool:=decide (tb d.o=tb (bs []))
theorem u6y (p:Dc→Bool)(N:Nat): ∀(l:List Dc) (k:Nat),k+l.length≤N→((l.zipIdx k).all fun x=>p x.1&&(!decide (x.2 < N) || onB x.1))=(l.all p&&y4a l)
 | [],k,_=>rfl
 |x::l,k,h=>by
  rw[List.zipIdx_cons,a1s,u6y p N l (k+1) (by simp only [a0f]at h;omega),a1s]
  have:y4a (x::l)=(onB x&&y4a l):=rfl
  rw[this,x1m (by simp only [a0f]at h;omega)]
  cases p x<;>cases onB x<;>cases l.all p<;>cases y4a l<;>rfl
theorem v7p (p:Dc→Bool)(N:Nat): ∀(l:List Dc) (k:Nat),N≤k→((l.zipIdx k).all fun x=>p x.1&&(!decide (x.2 < N) || onB x.1))=l.all p
 | [],k,_=>rfl
 |x::l,k,h=>by
  rw[List.zipIdx_cons,a1s,v7p p N l (k+1) (by omega),a1s,x1c (by omega)]
  cases p x<;>rfl
theorem v9o (p:Dc→Bool)(a b c:List Dc):((a++b++c).zipIdx.all fun x=>p x.1&&(!decide (x.2 < a.length+b.length) || onB x.1))=((a++b++c).all p&&(y4a a&&y4a b)):=by
 rw[List.zipIdx_append,List.zipIdx_append,List.all_append,List.all_append,u6y _ _ a 0 (by omega),u6y _ _ b (0+a.length) (by omega),v7p _ _ c _ (by simp),List.all_append,List.all_append]
 cases a.all p<;>cases b.all p<;>cases c.all p<;>cases y4a a<;>cases y4a b<;>rfl
theorem q0n (n:Nd)(h:(y5h n).length≤1000000):cF 32 [nV n]=some (.own 127 6 (x0k (y5h n))):=by
 obtain⟨nm,ins,outs,vars,eqs⟩:=n
 simp only [y5h,a0j]at h
 have f1:=x6p [] (x0k ins) 72 (by rw[x0v];simp only [a0i];omega)
 have f2:=x6p (x0k ins) (x0k outs) 72 (by rw[x0v,x0v];omega)
 have f3:=x6p (x0k (ins++outs)) (x0k vars) 72 (by rw[x0v,x0v,a0j];omega)
 rw[←y3d]at f3
 simp only [go1,Nat.reduceAdd]at f1 f2 f3
 refine cOf (by kernel_rfl) rfl ?_
 rw[q2w]
 simp only [g32,go1,Nat.reduceAdd]
 simp only [a0g,f1,f2,f3,cond_true]
 rw[y3d,y3d]
 rfl
theorem w0v (l:List Dc)(h:l.length≤1000000):cF 31 [.d (.sl 6 (x0k l))]=some (.own 9 1 (x0e (l.map (·.n)))):=by
 refine cOf (by kernel_rfl) rfl ?_
 rw[q2x]
 simp only [g31,go1,Nat.reduceAdd]
 refine x2y l.length (fun i=>[.sl 6 (x0k l), .int .i64 (i:Int), .sl 1 (x0e ((l.take i).map (·.n)))]) rfl (fun i hlt=> ?_) ?_
 ·have hx:=a0b hlt
  have hf:=x6p (x0e ((l.take i).map (·.n))) [[.str l[i].n]] 16 (by rw[x0f,a1c,a1k];simp only [a0f,a0i];omega)
  rw[a1f,hx,a2i,List.map_append,a1r,a2d,x3a]
  simp only [go1,Nat.reduceAdd,a0f,a0i]at hf
  simp only [go1,z0p,x0v,x0n hlt,x0p hlt,y1n hx,hf,a0f,a0i,x0c hlt (by omega)]
  rfl
 ·simp only [go1,x0v,x0h,a0x]
theorem k4h {α:Type}(a b c d:D)(x:ByteArray)(r:List D)(K:ByteArray→Option α):(opS (sy.cell (sy.skip 4 (a::b::c::d:: .str x::r)) 0)).bind K=K x:=rfl
theorem q0k (ens:List En)(n:Nd)(h:NdOK n):cF 29 [.d (.sl 2 (x0g ens)),nV n]=some (.val [.bool (y3z ens n)]):=by
 have h1:=q0n n h.al
 have hal:=h.al
 have hdl:n.ins.length+n.outs.length≤1000000:=by
  unfold y5h at hal;simp only [a0j]at hal;omega
 have heo:=h.eo
 have heq:=h.eq
 have hdc:=h.dc
 have hnm:=y3h n.n h.nm
 have hz:=v9o (z3u ens) n.ins n.outs n.vars
 have e:n.ins++n.outs++n.vars=y5h n:=rfl
 rw[e]at hz
 obtain⟨nm,ins,outs,vars,eqs⟩:=n
 unfold y3z
 generalize y5h ⟨nm,ins,outs,vars,eqs⟩=l at hal h1 hdc hz ⊢
 simp only at h1 hdl heo heq hnm hz ⊢
 have hw:IntKind.i64.wrap ((ins.length:Int)+(outs.length:Int))=((ins.length+outs.length:Nat):Int):=by rw[x0j (by omega) (by omega)];omega
 refine cOf (by kernel_rfl) rfl ?_
 rw[q2z]
 simp only [g29,go1,h1]
 refine x1u (r0:=PRes.val [.bool false]) (r1:=PRes.val [.bool (eqs.all eqB&&(x7m (tb nm)&&decide (0 < (outs.length:Int))))]) (fun x:Dc × Nat=>z3u ens x.1&&(!decide (x.2 < ins.length+outs.length) || onB x.1)) l.zipIdx (fun i=>[.sl 2 (x0g ens), .sl 6 (x0k l), .int .i64 (i:Int), .str nm, .sl 6 (x0k ins), .sl 6 (x0k outs), .sl 6 (x0k vars), .sl 7 (x2q eqs)]) rfl (fun i x hx=> ?_) (fun _=> ?_) ?_
 ·rw[List.getElem?_zipIdx]at hx
  cases hy:l[i]? with
  |none=>rw[hy]at hx;cases hx
  |some d=>
   rw[hy]at hx
   simp only [Option.map_some,Option.some.injEq,a1z]at hx
   subst hx
   have hlt:=(a0a.1 hy).1
   have c1:=q0l ens d (hdc d (a0n hy))
   have e5:decide ((i:Int) < ((ins.length+outs.length:Nat):Int))=decide (i < ins.length+outs.length):=by rw[a1b];simp;omega
   unfold onB
   simp only [go1,oD,z0p,x0v,x0n hlt,x0p hlt,y1n hy,c1,hw,e5,k4h,x1l,x0c hlt (by omega)]
   cases z3u ens d<;>cases decide (i < ins.length+outs.length)<;>cases decide (tb d.o=tb (bs []))<;>rfl
 ·rw[List.length_zipIdx]
  simp only [go1,x0h,x0v]
  refine x1u (r0:=Sum.inr (PRes.val [.bool false])) (r1:=Sum.inr (PRes.val [.bool (x7m (tb nm)&&decide (0 < (outs.length:Int)))])) eqB eqs (fun i=>[.int .i64 (i:Int), .str nm, .sl 6 (x0k ins), .sl 6 (x0k outs), .sl 6 (x0k vars), .sl 7 (x2q eqs)]) rfl (fun i x hx=> ?_) (fun _=> ?_) ?_
  ·have hlt:=(a0a.1 hx).1
   have hok:=heo x (a0n hx)
   have hr:=z9s hx
   obtain⟨ns,e⟩:=x
   obtain⟨k,m,y,o,a,u⟩:=e
   have c1:=u5f ns k m y o a u hok
   have hr':sy.row (x2q eqs) (i:Int)= [.sl 1 (x0e ns), .int .i64 k, .int .i64 m, .str y, .int .i64 o, .sl 1 (x0e a), .sl 6 (Ex.rows u)]:=hr
   simp only [go1,Nat.reduceAdd,oE,x2z,x0n hlt,x0p hlt,hr',c1,x0c hlt (by omega)]
   cases eqB ⟨ns, .mk k m y o a u⟩<;>rfl
  ·simp only [go1,x2z,x0h,hnm,x0v]
   try (cases x7m (tb nm)<;>rfl)
  ·cases List.all eqs _<;>rfl
 ·rw[hz]
  cases l.all (z3u ens)<;>cases y4a ins<;>cases y4a outs<;>rfl
theorem w0w (ens:List En)(nds:List Nd)(hE:ens.length≤1000000)(hN:nds.length≤1000000)(hEo: ∀x∈ens,EnOK x)(h: ∀n∈nds,NdOK n):cF 12 [.agg [.d (.sl 2 (x0g ens)), .d (.sl 5 (x2b nds))]]=some (.val [.int .i64 (y5w ens nds)]):=by
 have h1:=v6p ens hE hEo
 have hO:=y9m (nds.map (·.n)) (by rw[a1c];exact hN)
 unfold y5w
 refine cOf (by kernel_rfl) rfl ?_
 rw[q3g]
 simp only [g12,go1,Nat.reduceAdd,h1]
 cases he:decide (y0y ens=0)with
 |false=>simp only [go1]
 |true=>
  simp only [go1,x1x]
  cases hz:decide ((nds.length:Int)=0)with
  |true=>rfl
  |false=>
   cases h6:decide (6 < (nds.length:Int))with
   |true=>rfl
   |false=>
    simp only [go1]
    have take1: ∀(p:Nd→Bool) {i:Nat} {x:Nd},nds[i]? =some x→(nds.take (i+1)).all p=((nds.take i).all p&&p x):=fun p i x hx=>by
     rw[a1f,hx,a2i,List.all_append,a1s,List.all_nil,a1v]
    refine x1u (r0:=PRes.val [.int .i64 4]) (r1:=PRes.val [.int .i64 (bif !nds.all (y3z ens)then 1 else bif !nds.all y5q || !decide (nds.map (·.n)).Nodup then 6 else 0)]) (fun n=> !y7z n) nds (fun i=>[.bool ((nds.take i).all (y3z ens)), .bool ((nds.take i).all y5q), .int .i64 (i:Int), .sl 2 (x0g ens), .sl 5 (x2b nds), .sl 1 (x0e ((nds.take i).map (·.n)))]) rfl (fun i x hx=> ?_) (fun _=> ?_) ?_
    ·have hlt:=(a0a.1 hx).1
     have hk:=h x (a0n hx)
     have c1:=q0k ens x hk
     have c2:=q0n x hk.al
     have c3:=w0v (y5h x) hk.al
     have c4:=y9m ((y5h x).map (·.n)) (by rw[a1c];exact hk.al)
     have hf:=x6p (x0e ((nds.take i).map (·.n))) [[.str x.n]] 16 (by rw[x0f,a1c,a1k];simp only [a0f,a0i];omega)
     simp only [go1,Nat.reduceAdd,a0f,a0i]at hf
     rw[take1 _ hx,take1 _ hx,a1f,hx,a2i,List.map_append,a1r,a2d,x3a]
     have c4:cF 30 [.d (.sl 1 (x0e ((y5h x).map (·.n))))]=some (.val [.bool (y5q x)]):=c4
     unfold y7z
     simp only [go1,y5r,x1x,x0v,x2z,x0n hlt,x0p hlt,y1i hx,c1,c2,c3,c4,hf,a0f,a0i,x0c hlt (by omega)]
     cases decide (6 < (x.ins.length:Int))<;>cases decide (6 < (x.outs.length:Int))<;>cases decide (12 < (x.vars.length:Int))<;>cases decide (18 < (x.eqs.length:Int))<;>first|rfl|skip
     cases(nds.take i).all (y3z ens)<;>cases(nds.take i).all y5q<;>first|rfl|(simp only [go1,Nat.reduceAdd,Int.reduceEq,Int.reduceLT,Int.reduceLE,Int.reduceSub,Int.reduceAdd,y5r,x1x,x0v,x2z,x0n hlt,x0p hlt,y1i hx,c1,c2,c3,c4,hf,a0f,a0i,x0c hlt (by omega)];rfl)
    ·simp only [go1,x1x,x0h,a0x,hO]
     cases nds.all (y3z ens)<;>cases nds.all y5q<;>cases decide (nds.map (·.n)).Nodup<;>rfl
    ·rw[List.any_eq_not_all_not];cases List.all nds _<;>rfl
end Go.Vm
end

section
set_option maxRecDepth 100000
set_option maxHeartbeats 4000000
namespace Go.Vm
open Go.Proofs
def FQ:Int→St→Nat→Int→Prop:=fun a s p c=>s.i=p∧(s.a=c∧c≠0∨s.a=a∧c=2)
abbrev x3g {α:Type}(l:List Tk)(m:RM α)(s:St)(v:α)(s':St):Prop:=Post FQ l m s v s'
def qD (l:List Tk)(en:LL)(s:St):List D:=[.int .i64 s.a, .sl 4 (x0a l), .int .i64 (s.i:Int), .bool !s.b, .sl 2 en]
def w8t (l:List Tk):Prop:= ∀j,((tkA l j).k=1→(tkA l j).s≠bs [59])∧((tkA l j).k=5→(tkA l j).s≠u1i)
section
variable {α : Type}
theorem hN1 (d:D)(a:LL)(i:Int)(q:Bool)(r:List D)(K:LL→Int→Bool→Option α):oR sy (PRes.val (d:: .sl 4 a:: .int .i64 i:: .bool q::r)).leaves 1 K=K a i q:=rfl
theorem hN2 (d e:D)(a:LL)(i:Int)(q:Bool)(r:List D)(K:LL→Int→Bool→Option α):oR sy (PRes.val (d::e:: .sl 4 a:: .int .i64 i:: .bool q::r)).leaves 2 K=K a i q:=rfl
variable (l : List Tk) (en : LL) (s : St) (r : List D) (K : Int → LL → Int → Bool → LL → Option α)
theorem hW0:oW sy (PRes.val (qD l en s)).leaves 0 K=K s.a (x0a l) (s.i:Int) (!s.b) en:=(rfl)
theorem hW1 (d:D):oW sy (PRes.val (d::qD l en s)).leaves 1 K=K s.a (x0a l) (s.i:Int) (!s.b) en:=(rfl)
theorem hW3 (d e f:D):oW sy (PRes.val (d::e::f::qD l en s)).leaves 3 K=K s.a (x0a l) (s.i:Int) (!s.b) en:=(rfl)
theorem lW0:oW sy (qD l en s++r) 0 K=K s.a (x0a l) (s.i:Int) (!s.b) en:=(rfl)
theorem lW1 (d:D):oW sy (d::(qD l en s++r)) 1 K=K s.a (x0a l) (s.i:Int) (!s.b) en:=(rfl)
end
section
variable {l : List Tk} (hl : LOK l) (en : LL) (s : St) (hs : s.i < l.length)
include hl hs
theorem x6m (x:ByteArray): ∃v s',cF 1000019 (rS x (x0a l) (s.i:Int) (!s.b))=some (.val [.bool v, .sl 4 (x0a l), .int .i64 (s'.i:Int), .bool (!s'.b)])∧x3g l (tkR l x) s v s'∧(v=true→s.b=true∧s'.b=true∧s'.i=s.i+1)∧s'.a=s.a:=by
 have h:=u2n l hl s.i hs (!s.b) x
 obtain⟨i,b,a,w⟩:=s
 cases b with
 |false=>exact⟨false,⟨i,false,a,w⟩,h,x2i hs rfl,fun h=>(by cases h),rfl⟩
 |true=>
  simp only [Bool.not_true,a2m,a1y]at h
  cases hT:isT l i x with
  |true=>
   rw[hT]at h
   refine⟨true,⟨i+1,true,a,w⟩,h,⟨Nat.le_succ _,hl.next hs (x0t hT),fun h=>(by cases h),fun _=> ?_⟩,fun _=>⟨rfl,rfl,rfl⟩,rfl⟩
   simp only [tkR,hT];exact⟨trivial,trivial⟩
  |false=>
   rw[hT]at h
   refine⟨false,⟨i,true,a,w⟩,h,⟨a0m _,hs,fun h=>(by cases h),fun _=> ?_⟩,fun h=>(by cases h),rfl⟩
   simp only [tkR,hT];exact⟨trivial,trivial⟩
theorem x4p (x:ByteArray): ∃s',cF 1000059 (rS x (x0a l) (s.i:Int) (!s.b))=some (.val [.sl 4 (x0a l), .int .i64 (s'.i:Int), .bool (!s'.b)])∧x3g l (x3m l [x]) s () s'∧s'.a=s.a:=by
 obtain⟨i,b,a,w⟩:=s
 cases b with
 |false=>exact⟨⟨i,false,a,w⟩,x4i l hl i hs x,x2i hs rfl,rfl⟩
 |true=>
  have h:=y0p l hl i hs x
  cases hT:isT l i x with
  |true=>
   rw[hT]at h
   refine⟨⟨i+1,true,a,w⟩,h,⟨Nat.le_succ _,hl.next hs (x0t hT),fun h=>(by cases h),fun _=> ?_⟩,rfl⟩
   simp only [x3m,x1f,hT];exact⟨trivial,trivial⟩
  |false=>
   rw[hT]at h
   refine⟨⟨i,false,a,w⟩,h,⟨a0m _,hs,fun h=>(by cases h),fun _=> ?_⟩,rfl⟩
   simp only [x3m,x1f,hT];exact⟨trivial,rfl, .inr ⟨rfl,rfl⟩⟩
theorem y3r: ∃v s',cF 1000058 (rP (x0a l) (s.i:Int) (!s.b))=some (.val [.str v.s, .sl 4 (x0a l), .int .i64 (s'.i:Int), .bool (!s'.b)])∧x3g l (y1c l 1) s v s'∧s'.a=s.a:=by
 obtain⟨i,b,a,w⟩:=s
 cases b with
 |false=>exact⟨⟨0,bs [],0,0⟩,⟨i,false,a,w⟩,u8r l hl i hs,x2i hs rfl,rfl⟩
 |true=>
  have h:=u5e l hl i hs
  unfold x2l at h
  cases hT:decide ((tkA l i).k=1)&& !y0o (tb (tkA l i).s)with
  |true=>
   rw[hT]at h
   have hk6:(tkA l i).k≠6:=by
    simp only [a0p,a0t]at hT
    omega
   refine⟨tkA l i,⟨i+1,true,a,w⟩,h,⟨Nat.le_succ _,hl.next hs hk6,fun h=>(by cases h),fun _=> ?_⟩,rfl⟩
   unfold y1c
   simp only [decide_true,a1y,hT];exact⟨trivial,trivial⟩
  |false=>
   rw[hT]at h
   refine⟨⟨0,bs [],0,0⟩,⟨i,false,a,w⟩,h,⟨a0m _,hs,fun h=>(by cases h),fun _=> ?_⟩,rfl⟩
   unfold y1c
   simp only [decide_true,a1y,hT];exact⟨trivial,rfl, .inr ⟨rfl,rfl⟩⟩
theorem u8q: ∃v s',cF 1000060 (qR (x0a l) (s.i:Int) (!s.b) en s.a)=some (.val (.str v.s::qD l en s'))∧x3g l (y1c l 2) s v s'∧s'.a=s.a:=by
 have hf:=hl.few
 have h1:=x5t hs
 have h2:=x3d hs
 have e1:IntKind.i64.wrap ((s.i:Int)+1)=((s.i+1:Nat):Int):=by rw[x0c (n:=l.length) hs (by omega)];rfl
 obtain⟨i,b,a,w⟩:=s
 simp only at hs h1 h2 e1
 cases b with
 |false=>
  refine⟨⟨0,bs [],0,0⟩,⟨i,false,a,w⟩,?_,x2i hs rfl,rfl⟩
  refine x4c (f:=60) (by kernel_rfl) (by with_reducible first|exact dcR .. |exact y0i .. |exact y0k .. |exact x9r .. |exact y0l .. |exact y0j .. |exact dcQ .. |exact x9s ..) (by kernel_rfl) rfl ?_
  rw[v2v]
  simp only [b60,oT,go1,h1,h2,x3b]
  rfl
 |true=>
  cases hT:decide ((tkA l i).k=2)with
  |true=>
   have hk6:(tkA l i).k≠6:=by
    simp only [a0t]at hT
    omega
   refine⟨tkA l i,⟨i+1,true,a,w⟩,?_,⟨Nat.le_succ _,hl.next hs hk6,fun h=>(by cases h),fun _=> ?_⟩,rfl⟩
   ·refine x4c (f:=60) (by kernel_rfl) (by with_reducible first|exact dcR .. |exact y0i .. |exact y0k .. |exact x9r .. |exact y0l .. |exact y0j .. |exact dcQ .. |exact x9s ..) (by kernel_rfl) rfl ?_
    rw[v2v]
    simp only [b60,oT,go1,h1,h2,x3b,hT,e1]
    rfl
   ·unfold y1c
    simp only [hT,Int.reduceEq,decide_false,a2n,a2m,a1y];exact⟨trivial,trivial⟩
  |false=>
   refine⟨⟨0,bs [],0,0⟩,⟨i,false,a,w⟩,?_,⟨a0m _,hs,fun h=>(by cases h),fun _=> ?_⟩,rfl⟩
   ·refine x4c (f:=60) (by kernel_rfl) (by with_reducible first|exact dcR .. |exact y0i .. |exact y0k .. |exact x9r .. |exact y0l .. |exact y0j .. |exact dcQ .. |exact x9s ..) (by kernel_rfl) rfl ?_
    rw[v2v]
    simp only [b60,oT,go1,h1,h2,x3b,hT]
    rfl
   ·unfold y1c
    simp only [hT,a2n];exact⟨trivial,rfl, .inr ⟨rfl,rfl⟩⟩
theorem w0q (hb:s.b=true): ∃x:(ByteArray × ByteArray) × St,cF 1000111 (rP (x0a l) (s.i:Int) (!s.b))=some (.val [.str x.1.1, .str x.1.2, .sl 4 (x0a l), .int .i64 (x.2.i:Int), .bool (!x.2.b)])∧x3g l (z4p l) s x.1 x.2∧x.2.a=s.a:=by
 obtain⟨i,b,a,w⟩:=s
 simp only at hb hs
 subst hb
 rcases x1d (v8g hl hs)with⟨v,j,hR,hx⟩|⟨v,j,hR,hj,hx⟩
 ·refine⟨(v,⟨j,true,a,w⟩),hx,⟨y6a hl (x6y hl 0) hR,x9w hl hs hR,fun h=>(by cases h),fun h=> ?_⟩,rfl⟩
  unfold z4p
  rw[hR]
  exact⟨rfl,rfl⟩
 ·refine⟨(v,⟨j,false,a,w⟩),hx,⟨?_,hj,fun h=>(by cases h),fun h=> ?_⟩,rfl⟩
  ·have hg:=u0p (b:=i) hl ⟨a0m _,hs⟩
   rw[hR]at hg
   exact hg.1
  ·unfold z4p
   rw[hR]
   exact⟨rfl,rfl, .inr ⟨rfl,rfl⟩⟩
end
end Go.Vm
end

section
set_option maxRecDepth 100000
set_option maxHeartbeats 4000000
namespace Go.Vm
open Go.Proofs
theorem q1i {l:List Tk}(x:ByteArray)(ws:List ByteArray):x3m l (x::ws)=(x3m l [x]).bind fun _=>x3m l ws:=by
 funext i
 unfold x3m RM.bind
 simp only [x1f]
 cases isT l i x<;>rfl
theorem RM.assoc {α β γ:Type}(m:RM α)(f:α→RM β)(g:β→RM γ):(m.bind f).bind g=m.bind fun x=>(f x).bind g:=by
 funext i
 unfold RM.bind
 cases m i<;>rfl
theorem Post.assoc {α β γ:Type}{F:Int→St→Nat→Int→Prop}{l:List Tk}{m:RM α}{f:α→RM β}{g:β→RM γ}{s s':St}{v:γ}(h:Post F l (m.bind fun x=>(f x).bind g) s v s'):Post F l ((m.bind f).bind g) s v s':=by
 rw[RM.assoc];exact h
theorem Post.need2 {α:Type}{F:Int→St→Nat→Int→Prop}{l:List Tk}{x y:ByteArray}{g:Unit→RM α}{s s':St}{v:α}(h:Post F l ((x3m l [x]).bind fun _=>(x3m l [y]).bind g) s v s'):Post F l ((x3m l [x,y]).bind g) s v s':=by
 rw[q1i];exact h.assoc
theorem lS5 {α:Type}(l:List Tk)(en:LL)(s:St)(r:List D)(x:ByteArray)(K:ByteArray→Option α):(opS (sy.cell (qD l en s++ .str x::r) 5)).bind K=K x:=(rfl)
theorem w1r {α:Type}(l:List Tk)(en:LL)(s:St)(d:D)(r:List D)(x:ByteArray)(K:ByteArray→Option α):(opS (sy.cell (qD l en s++d:: .str x::r) 6)).bind K=K x:=(rfl)
section
variable {α : Type} (l : List Tk) (en : LL) (s : St) (r : List D) (d e f g : D) (k : Nat) (x : LL) (K : LL → Option α)
theorem qL7:(opL (sy.cell (qD l en s++d::e:: .sl k x::r) 7) k).bind K=K x:=x3y k x K
theorem qL8:(opL (sy.cell (qD l en s++d::e::f:: .sl k x::r) 8) k).bind K=K x:=x3y k x K
theorem qL9:(opL (sy.cell (qD l en s++d::e::f::g:: .sl k x::r) 9) k).bind K=K x:=x3y k x K
theorem q6r (h:D):(opL (sy.cell (qD l en s++d::e::f::g::h:: .sl k x::r) 10) k).bind K=K x:=x3y k x K
end
section
variable {l : List Tk} (hl : LOK l) (en : LL) (s : St) (hs : s.i < l.length)
include hl hs
theorem w0s: ∃x:En × St,cF 1000020 (qR (x0a l) (s.i:Int) (!s.b) en s.a)=some (.val (z4l x.1++qD l en x.2))∧x3g l (v1e l) s x.1 x.2:=by
 have hf:=hl.few
 obtain⟨t,s1,h1,r1,e1⟩:=y3r hl s hs
 obtain⟨s2,h2,r2,e2⟩:=x4p hl s1 r1.lt (bs [123])
 obtain⟨u,s3,h3,r3,e3⟩:=u8q hl en s2 r2.lt
 rw[e2,e1]at h3
 refine z0r (f:=20) (by kernel_rfl) (by with_reducible first|exact dcQ ..) (by kernel_rfl) rfl ?_
 rw[q4q]
 unfold b20
 simp only [↓hC h1, ↓hS0, ↓hN1, ↓hC h2, ↓hN0, ↓hC h3, ↓hW1]
 rw[y0r]
 refine(x4t (σ:=Nat × List ByteArray × St) (ρ:=En × St) (c:=fun x=>PRes.val (z4l x.1++qD l en x.2)) (fun x=>qD l en x.2.2++[.str (bs []), .str t.s, .sl 1 (x0e x.2.1)])
  (fun x=>l.length - x.2.2.i≤x.1∧x.2.1.length≤x.2.2.i+1∧x.2.2.i < l.length∧x.2.2.a=s.a) (fun x=>x.1) (fun x y=>x3g l ((y2p l 2 x.1 x.2.1).bind fun cs=>(x3m l [bs [125],bs [59]]).bind fun _=>RM.ret (t.s,cs)) x.2.2 y.1 y.2) ?_ (l.length,[u.s],s3) ⟨by simp only;omega,by simp,r3.lt,by rw[e3,e2,e1]⟩).elim fun x h=>⟨x,h.1,r1.bind (r2.bind (Post.assoc (r3.bind h.2)))⟩
 clear h1 h2 h3 r1 r2 r3
 rintro⟨n,acc,s⟩ ⟨hn,ha,hs,he⟩
 simp only at hn ha hs he ⊢
 obtain⟨v,s1,h1,r1,hv,e1⟩:=x6m hl s hs (bs [44])
 obtain⟨n,rfl⟩: ∃m,n=m+1:=⟨n - 1,by omega⟩
 cases v with
 |true=>
  left
  obtain⟨t2,s2,h2,r2,e2⟩:=u8q hl en s1 r1.lt
  rw[e1]at h2
  have hfit:sy.fits (x0e acc) [[.str t2.s]] 16=true:=x6p (x0e acc) [[.str t2.s]] 16 (by rw[x0f];simp only [a0f,a0i];omega)
  have fin:sy.rapp (x0e acc) [[.str t2.s]]=x0e (acc++[t2.s]):=by rw[x3a];rfl
  refine⟨(n,acc++[t2.s],s2),?_,⟨?_,?_,r2.lt,by simp only;rw[e2,e1,he]⟩,a1a _,fun y hy=>Post.assoc (r1.bind (Post.assoc (r2.bind hy)))⟩
  ·simp only [↓lW0, ↓lS5, ↓w1r, ↓qL7, ↓hC h1, ↓hB0, ↓hN1, ↓hCt, ↓hC h2, ↓hS0, ↓hW1]
   rw[←fin]
   exact hXt hfit _ _
  ·have:=r2.le;have:=(hv rfl).2.2;simp only;omega
  ·have:=r2.le;have:=(hv rfl).2.2;simp only [a0j,a0f,a0i];omega
 |false=>
  right
  obtain⟨s2,h2,r2,e2⟩:=x4p hl s1 r1.lt (bs [125])
  obtain⟨s3,h3,r3,e3⟩:=x4p hl s2 r2.lt (bs [59])
  refine⟨((t.s,acc),s3),?_,Post.assoc (r1.bind (Post.need2 (r2.bind (r3.bind (Post.ret r3.lt)))))⟩
  simp only [↓lW0, ↓lS5, ↓w1r, ↓qL7, ↓hC h1, ↓hB0, ↓hN1, ↓hCf, ↓hC h2, ↓hN0, ↓hC h3]
  simp only [qD,e3,e2,e1]
  rfl
end
end Go.Vm
end

section
set_option maxRecDepth 100000
set_option maxHeartbeats 4000000
namespace Go.Vm
open Go.Proofs
section
variable {l : List Tk} (hl : LOK l) (ens : List En) (hE : ens.length ≤ 1000000) (s : St) (hs : s.i < l.length)
include hl hs
theorem v9w {k:Int}{v:Tk}{s1:St}(r:x3g l (y1c l k) s v s1)(hb:s1.b=true):v=tkA l s.i∧s1.i=s.i+1:=by
 have hb0:s.b=true:=by
  cases h:s.b with
  |true=>rfl
  |false=>have e:=r.bad h;rw[e,h]at hb;cases hb
 have g:=r.good hb0
 cases hm:y1c l k s.i with
 |ok a j=>
  rw[hm]at g
  have:=y1b hm
  exact⟨by rw[g.1];exact this.1,by rw[g.2];exact this.2⟩
 |bad p c=>rw[hm]at g;rw[g.1]at hb;cases hb
theorem w6v (h:decide ((tkA l s.i).k=1)=true→w2c ens (tkA l s.i).s=none):x3g l ((y1c l 1).bind (z0u ens)) s (0,0) ⟨s.i,false,s.a,s.w⟩:=by
 refine⟨a0m _,hs,fun hb=>(by obtain⟨i,b,a,w⟩:=s;cases hb;rfl),fun hb=> ?_⟩
 unfold RM.bind y1c
 cases hk:decide ((tkA l s.i).k=1)with
 |false=>exact⟨rfl,rfl, .inr ⟨rfl,rfl⟩⟩
 |true=>
  cases hw:y0o (tb (tkA l s.i).s)with
  |true=>exact⟨rfl,rfl, .inr ⟨rfl,rfl⟩⟩
  |false=>
   simp only [decide_true,a1y,a2m]
   unfold z0u
   rw[h hk]
   exact⟨trivial,rfl, .inr ⟨rfl,rfl⟩⟩
include hE
theorem w0t: ∃x:(Int × Int) × St,cF 1000148 (qR (x0a l) (s.i:Int) (!s.b) (x0g ens) s.a)=some (.val (.int .i64 x.1.1:: .int .i64 x.1.2:: .int .i64 0::qD l (x0g ens) x.2))∧x3g l (v7g l ens) s x.1 x.2:=by
 have hf:=hl.few
 obtain⟨v,s1,h1,r1,_,e1⟩:=x6m hl s hs (bs [105,110,116])
 cases v with
 |true=>
  refine⟨((1,0),s1),?_,r1.bind (Post.ret r1.lt)⟩
  refine x4c (f:=148) (by kernel_rfl) (by with_reducible first|exact dcR .. |exact y0i .. |exact y0k .. |exact x9r .. |exact y0l .. |exact y0j .. |exact dcQ .. |exact x9s ..) (by kernel_rfl) rfl ?_
  rw[u1o]
  unfold q5x
  simp only [↓hB0, ↓hCt, ↓hC h1, ↓hN1]
  rw[←e1];rfl
 |false=>
  obtain⟨v,s2,h2,r2,_,e2⟩:=x6m hl s1 r1.lt (bs [98,111,111,108])
  cases v with
  |true=>
   refine⟨((2,0),s2),?_,r1.bind (r2.bind (Post.ret r2.lt))⟩
   refine x4c (f:=148) (by kernel_rfl) (by with_reducible first|exact dcR .. |exact y0i .. |exact y0k .. |exact x9r .. |exact y0l .. |exact y0j .. |exact dcQ .. |exact x9s ..) (by kernel_rfl) rfl ?_
   rw[u1o]
   unfold q5x
   simp only [↓hB0, ↓hCt, ↓hCf, ↓hC h1, ↓hC h2, ↓hN1]
   rw[←e1,←e2];rfl
  |false=>
   have q1:=x5t r2.lt
   have q2:=x3d r2.lt
   obtain⟨t,s3,h3,r3,e3⟩:=y3r hl s2 r2.lt
   refine z0r (f:=148) (by kernel_rfl) (by with_reducible first|exact dcR .. |exact y0i .. |exact y0k .. |exact x9r .. |exact y0l .. |exact y0j .. |exact dcQ .. |exact x9s ..) (by kernel_rfl) rfl ?_
   rw[u1o]
   simp only [q5x,oW,oR,oT,go1,Nat.reduceAdd,h1,h2,q1,q2,x3b]
   refine(x4t (σ:=Nat) (ρ:=(Int × Int) × St) (c:=fun x=>PRes.val (.int .i64 x.1.1:: .int .i64 x.1.2:: .int .i64 0::qD l (x0g ens) x.2)) (fun k=>[.int .i64 (k:Int), .int .i64 s.a, .sl 4 (x0a l), .int .i64 (s2.i:Int), .bool (!s2.b), .sl 2 (x0g ens), .int .i64 0, .int .i64 0, .int .i64 0, .int .i64 (tkA l s2.i).k, .str (tkA l s2.i).s, .int .i64 (tkA l s2.i).n, .int .i64 (tkA l s2.i).a])
    (fun k=>k≤ens.length∧ ∀(j:Nat) (h:j < ens.length),j < k→decide (tb ens[j].1=tb (tkA l s2.i).s)=false) (fun k=>ens.length - k) (fun _ y=>x3g l ((y1c l 1).bind (z0u ens)) s2 y.1 y.2) ?_ 0 ⟨a0r _,fun j _ h=>(by omega)⟩).imp fun x h=>⟨h.1,r1.bind (r2.bind h.2)⟩
   rintro k ⟨hk,hi⟩
   have fin:(∀h:decide ((tkA l s2.i).k=1)=true,w2c ens (tkA l s2.i).s=none)→x3g l ((y1c l 1).bind (z0u ens)) s2 (0,0) ⟨s2.i,false,s2.a,s2.w⟩:=w6v hl ens s2 r2.lt
   have vno:(PRes.val [.int .i64 0, .int .i64 0, .int .i64 0, .int .i64 s.a, .sl 4 (x0a l), .int .i64 (s2.i:Int), .bool true, .sl 2 (x0g ens)])=PRes.val (.int .i64 0:: .int .i64 0:: .int .i64 0::qD l (x0g ens) ⟨s2.i,false,s2.a,s2.w⟩):=by rw[←e1,←e2];rfl
   cases hk1:decide ((tkA l s2.i).k=1)with
   |false=>
    right
    refine⟨((0,0),⟨s2.i,false,s2.a,s2.w⟩),?_,fin fun h=>by rw[hk1]at h;cases h⟩
    by_cases hlt:k < ens.length
    ·simp only [go1,hk1]
     rw[vno]
    ·simp only [go1,x1c (show ¬((k:Int) < (ens.length:Int)) by omega),hk1]
     rw[vno]
   |true=>
    by_cases hlt:k < ens.length
    ·have e3':sy.rown (x0g ens) k= [.str ens[k].1, .sl 1 (x0e ens[k].2)]:=by
      show(x0g ens).getD k []=_
      rw[a0d];simp [x0g,z4l,hlt]
     cases hp:decide (tb ens[k].1=tb (tkA l s2.i).s)with
     |true=>
      right
      refine⟨((3,(k:Int)),s3),?_,r3.bind ?_⟩
      ·simp only [go1,x1b,x0n hlt,x0p hlt,a0h,e3',x1l,hp,hk1,h3]
       rw[←e1,←e2,←e3];rfl
      ·cases hb:s3.b with
       |false=>exact x2i r3.lt hb
       |true=>
        have e:w2c ens t.s=some k:=by
         rw[(v9w hl s2 r2.lt r3 hb).1]
         exact List.findIdx?_eq_some_iff_getElem.2 ⟨hlt,hp,fun j hj=>by rw[hi j (by omega) hj];simp⟩
        unfold z0u
        rw[e]
        exact Post.ret r3.lt
     |false=>
      left
      refine⟨k+1,?_,⟨hlt,fun j h hj=> ?_⟩,by omega,fun _ h=>h⟩
      ·simp only [go1,x1b,x0n hlt,x0p hlt,a0h,e3',x1l,hp,hk1]
       rw[x0c hlt (by omega)];rfl
      ·by_cases e:j=k
       ·subst e;exact hp
       ·exact hi j h (by omega)
    ·right
     refine⟨((0,0),⟨s2.i,false,s2.a,s2.w⟩),?_,fin fun _=>List.findIdx?_eq_none_iff.2 fun x hx=>by
      obtain⟨j,hj,rfl⟩:=List.getElem_of_mem hx
      exact hi j hj (by omega)⟩
     simp only [go1,x1b,x1c (show ¬((k:Int) < (ens.length:Int)) by omega),hk1]
     rw[vno]
theorem q6o: ∃x:(Int × Int × Int) × St,cF 1000110 (qR (x0a l) (s.i:Int) (!s.b) (x0g ens) s.a)=some (.val (.int .i64 x.1.1:: .int .i64 x.1.2.1:: .int .i64 x.1.2.2::qD l (x0g ens) x.2))∧x3g l (tyR l ens) s x.1 x.2:=by
 have hf:=hl.few
 obtain⟨⟨b,s1⟩,h1,r1⟩:=w0t hl ens hE s hs
 simp only at h1 r1
 obtain⟨v,s2,h2,r2,hv,e2⟩:=x6m hl s1 r1.lt (bs [91])
 cases v with
 |false=>
  refine⟨((b.1,b.2,0),s2),?_,r1.bind (r2.bind (Post.ret r2.lt))⟩
  refine x4c (f:=110) (by kernel_rfl) (by with_reducible first|exact dcR .. |exact y0i .. |exact y0k .. |exact x9r .. |exact y0l .. |exact y0j .. |exact dcQ .. |exact x9s ..) (by kernel_rfl) rfl ?_
  rw[u1q]
  unfold q5y
  simp only [↓hB0, ↓hI0, ↓hI1, ↓hI2, ↓hCf, ↓hC h1, ↓hC h2, ↓hW3, ↓hN1]
  rw[←e2];rfl
 |true=>
  obtain⟨_,hb2,_⟩:=hv rfl
  have q1:sy.inr (s2.i:Int) (sy.rlen (x0a l))=true:=x5t r2.lt
  have q2:=x3d r2.lt
  have w:sy.wrap .i64 (sy.add (s2.i:Int) 1)=((s2.i+1:Nat):Int):=by
   show IntKind.i64.wrap ((s2.i:Int)+1)=_
   rw[x0c (n:=l.length) r2.lt (by omega)];rfl
  have hT: ∀(K:Int→ByteArray→Int→Int→Option PRes),oT sy (sy.row (x0a l) (s2.i:Int)) 0 K=K (tkA l s2.i).k (tkA l s2.i).s (tkA l s2.i).n (tkA l s2.i).a:=fun K=>by rw[q2];rfl
  have hno:(decide ((tkA l s2.i).k=3)=false∨(decide ((tkA l s2.i).n < 1) || decide (8 < (tkA l s2.i).n))=true)→x3g l ((y1c l 3).bind fun t=>match decide (t.n < 1) || decide (8 < t.n)with
      |true=>fun j=> .bad (j - 1) 2
      |false=>(x3m l [bs [93]]).bind fun _=>RM.ret (b.1,b.2,t.n)) s2 (b.1,b.2,0) ⟨s2.i,false,s2.a,s2.w⟩:=by
   intro h
   refine⟨a0m _,r2.lt,fun hb=>(by rw[hb2]at hb;cases hb),fun _=> ?_⟩
   unfold RM.bind y1c
   cases hk:decide ((tkA l s2.i).k=3)with
   |false=>exact⟨rfl,rfl, .inr ⟨rfl,rfl⟩⟩
   |true=>
    rw[hk]at h
    rcases h with h|h
    ·cases h
    ·simp only [a1y,Int.reduceEq,decide_false,a2n,a2m,h]
     exact⟨trivial,rfl, .inr ⟨rfl,rfl⟩⟩
  have hX:cond (cond (cond (!s2.b) true (sy.bnot (sy.ieq (tkA l s2.i).k 3))) true (sy.ilt (tkA l s2.i).n 1)) true (sy.ilt 8 (tkA l s2.i).n)=(!decide ((tkA l s2.i).k=3) || (decide ((tkA l s2.i).n < 1) || decide (8 < (tkA l s2.i).n))):=by
   show cond (cond (cond (!s2.b) true (!decide ((tkA l s2.i).k=3))) true (decide ((tkA l s2.i).n < 1))) true (decide (8 < (tkA l s2.i).n))=_
   rw[hb2]
   cases decide ((tkA l s2.i).k=3)<;>cases decide ((tkA l s2.i).n < 1)<;>cases decide (8 < (tkA l s2.i).n)<;>rfl
  cases hk:(!decide ((tkA l s2.i).k=3) || (decide ((tkA l s2.i).n < 1) || decide (8 < (tkA l s2.i).n)))with
  |true=>
   rw[hk]at hX
   refine⟨((b.1,b.2,0),⟨s2.i,false,s2.a,s2.w⟩),?_,r1.bind (r2.bind (hno ?_))⟩
   ·refine x4c (f:=110) (by kernel_rfl) (by with_reducible first|exact dcR .. |exact y0i .. |exact y0k .. |exact x9r .. |exact y0l .. |exact y0j .. |exact dcQ .. |exact x9s ..) (by kernel_rfl) rfl ?_
    rw[u1q]
    unfold q5y
    simp only [↓hB0, ↓hI0, ↓hI1, ↓hI2, ↓hCt, ↓hKt, ↓hB, ↓hC h1, ↓hC h2, ↓hW3, ↓hN1, ↓hXt q1, ↓hT, ↓hXt hX]
    rw[←e2];rfl
   ·revert hk
    cases decide ((tkA l s2.i).k=3)with
    |false=>exact fun _=> .inl rfl
    |true=>exact fun h=> .inr h
  |false=>
   rw[hk]at hX
   have hk3:decide ((tkA l s2.i).k=3)=true:=by
    revert hk;cases decide ((tkA l s2.i).k=3)<;>simp
   have hn:(decide ((tkA l s2.i).n < 1) || decide (8 < (tkA l s2.i).n))=false:=by
    rw[hk3]at hk;exact hk
   have hk6:(tkA l s2.i).k≠6:=by
    simp only [a0t]at hk3
    omega
   obtain⟨s3,h3,r3,e3⟩:=x4p hl ⟨s2.i+1,true,s2.a,s2.w⟩ (hl.next r2.lt hk6) (bs [93])
   simp only [Bool.not_true,rS]at h3 e3
   have rt:x3g l (y1c l 3) s2 (tkA l s2.i) ⟨s2.i+1,true,s2.a,s2.w⟩:=by
    refine⟨Nat.le_succ _,hl.next r2.lt hk6,fun hb=>(by rw[hb2]at hb;cases hb),fun _=> ?_⟩
    unfold y1c
    rw[hk3]
    exact⟨rfl,rfl⟩
   refine⟨((b.1,b.2,(tkA l s2.i).n),s3),?_,r1.bind (r2.bind (rt.bind ?_))⟩
   ·rw[hb2]at h2
    have h2:cF 1000019 (rS (bs [91]) (x0a l) (s1.i:Int) (!s1.b))=some (.val [.bool true, .sl 4 (x0a l), .int .i64 (s2.i:Int), .bool false]):=h2
    rw[hb2]at hX
    have hX:cond (cond (sy.bnot (sy.ieq (tkA l s2.i).k 3)) true (sy.ilt (tkA l s2.i).n 1)) true (sy.ilt 8 (tkA l s2.i).n)=false:=hX
    refine x4c (f:=110) (by kernel_rfl) (by with_reducible first|exact dcR .. |exact y0i .. |exact y0k .. |exact x9r .. |exact y0l .. |exact y0j .. |exact dcQ .. |exact x9s ..) (by kernel_rfl) rfl ?_
    rw[u1q]
    unfold q5y
    simp only [↓hB0, ↓hI0, ↓hI1, ↓hI2, ↓hN0, ↓hCt, ↓hCf, ↓hKt, ↓hB, ↓hC h1, ↓hC h2, ↓hW3, ↓hN1, ↓hXt q1, ↓hT, ↓hXf hX, ↓w, ↓hC h3, ↓hN0]
    rw[←e2,←e3];rfl
   ·simp only [hn]
    exact r3.bind (Post.ret r3.lt)
end
end Go.Vm
end

section
set_option maxRecDepth 100000
set_option maxHeartbeats 4000000
namespace Go.Vm
open Go.Proofs
theorem v5d {l:List Tk}(h2:w8t l)(i:Nat):isT l i (bs [59])=(decide ((tkA l i).k=5)&&decide (tb (tkA l i).s=tb (bs [59]))):=by
 unfold isT
 cases h:decide (tb (tkA l i).s=tb (bs [59]))with
 |false=>rw[Bool.and_false,a2n]
 |true=>
  have h1:(tkA l i).k≠1:=fun hk=>(h2 i).1 hk (x8x (a0c h))
  rw[x1c h1,a1v,a1y,a0v]
theorem w1w {l:List Tk}(h2:w8t l)(i:Nat):isT l i u1i=(decide ((tkA l i).k=1)&&decide (tb (tkA l i).s=tb u1i)):=by
 unfold isT
 cases h:decide (tb (tkA l i).s=tb u1i)with
 |false=>rw[Bool.and_false,a2n]
 |true=>
  have h1:(tkA l i).k≠5:=fun hk=>(h2 i).2 hk (x8x (a0c h))
  rw[x1c h1,a1v,a1y,Bool.or_false]
theorem qL6 {α:Type}(l:List Tk)(en:LL)(s:St)(r:List D)(v:D)(k:Nat)(x:LL)(K:LL→Option α):(opL (sy.cell (v::(qD l en s++ .sl k x::r)) 6) k).bind K=K x:=x3y k x K
theorem sk1 (a b:D)(r:List D):sy.cell (sy.skip 1 (a::b::r)) 0=some b:=rfl
def w5e (f:Bool)(acc:LL)(r:List D)(e:Int)(l:LL)(i:Int)(b:Bool)(en:LL):Option (List D ⊕ PRes):=
 bif (sy.fits acc [r] 72)then
  bif b then
   some (.inr (PRes.val [(.sl 6 (sy.rapp acc [r])),(.int .i64 e),(.sl 4 l),(.int .i64 i),(.bool b),(.sl 2 en)]))
  else
   bif (sy.inr i (sy.rlen l))then
    (opI (sy.cell (sy.row l i) 0) .i64).bind fun n43=>
    x0q (
     bif (sy.ieq n43 5)then
      bif (sy.inr i (sy.rlen l))then
       (opS (sy.cell (sy.skip 1 (sy.row l i)) 0)).bind fun s44=>
       some (.inl [(.bool (sy.seq s44 (bs [59])))])
      else
       none
     else
      some (.inl [(.bool false)])
    ) fun ds45=>
    (opB (sy.cell ds45 0)).bind fun b46=>
    x0q (
     bif b46 then
      bif f then
       bif (sy.inr (sy.wrap .i64 (sy.add i 1)) (sy.rlen l))then
        (opI (sy.cell (sy.row l (sy.wrap .i64 (sy.add i 1))) 0) .i64).bind fun n47=>
        bif (sy.ieq n47 1)then
         bif (sy.inr (sy.wrap .i64 (sy.add i 1)) (sy.rlen l))then
          (opS (sy.cell (sy.skip 1 (sy.row l (sy.wrap .i64 (sy.add i 1)))) 0)).bind fun s48=>
          some (.inl [(.bool (sy.bnot (sy.seq s48 (bs [108,101,116]))))])
         else
          none
        else
         some (.inl [(.bool (sy.bnot false))])
       else
        none
      else
       some (.inl [(.bool (sy.bnot false))])
     else
      some (.inl [(.bool false)])
    ) fun ds49=>
    (opB (sy.cell ds49 0)).bind fun b50=>
    bif b50 then
     bif (sy.bnot true)then
      some (.inr (PRes.val [(.sl 6 (sy.rapp acc [r])),(.int .i64 e),(.sl 4 l),(.int .i64 (sy.wrap .i64 (sy.add i 1))),(.bool b),(.sl 2 en)]))
     else
      some (.inl [(.bool f),(.int .i64 e),(.sl 4 l),(.int .i64 (sy.wrap .i64 (sy.add i 1))),(.bool b),(.sl 2 en),(.sl 6 (sy.rapp acc [r]))])
    else
     bif (sy.bnot false)then
      some (.inr (PRes.val [(.sl 6 (sy.rapp acc [r])),(.int .i64 e),(.sl 4 l),(.int .i64 i),(.bool b),(.sl 2 en)]))
     else
      some (.inl [(.bool f),(.int .i64 e),(.sl 4 l),(.int .i64 i),(.bool b),(.sl 2 en),(.sl 6 (sy.rapp acc [r]))])
   else
    none
 else
  none
section
variable {l : List Tk} (hl : LOK l) (h2 : w8t l) (ens : List En) (hE : ens.length ≤ 1000000) (s : St) (hs : s.i < l.length)
include hl h2 hs
theorem w6m (f:Bool)(acc:List Dc)(ha:acc.length≤1000000)(d:Dc)(en:LL):w5e f (x0k acc) (z0p d) s.a (x0a l) (s.i:Int) (!s.b) en=match s.b&&(isT l s.i (bs [59])&& !(f&&isT l (s.i+1) u1i))with
  |false=>some (.inr (PRes.val (.sl 6 (x0k (acc++[d]))::qD l en s)))
  |true=>some (.inl (.bool f::(qD l en ⟨s.i+1,true,s.a,s.w⟩++[.sl 6 (x0k (acc++[d]))]))):=by
 have hf:=hl.few
 have hfit:sy.fits (x0k acc) [z0p d] 72=true:=x6p (x0k acc) [z0p d] 72 (by rw[x0v];simp only [a0f,a0i];omega)
 have fin:sy.rapp (x0k acc) [z0p d]=x0k (acc++[d]):=by rw[z1z];rfl
 have q1:sy.inr (s.i:Int) (sy.rlen (x0a l))=true:=x5t hs
 have q2:=x3d hs
 have w:sy.wrap .i64 (sy.add (s.i:Int) 1)=((s.i+1:Nat):Int):=by
  show IntKind.i64.wrap ((s.i:Int)+1)=_
  rw[x0c (n:=l.length) hs (by omega)];rfl
 unfold w5e
 rw[hfit,fin,w,q1,q2]
 obtain⟨i,b,a,ww⟩:=s
 simp only at hs q1 q2 w ⊢
 cases b with
 |false=>rfl
 |true=>
  rw[v5d h2]
  cases hk:decide ((tkA l i).k=5)with
  |false=>
   have hk':sy.ieq (tkA l i).k 5=false:=hk
   simp only [x3b,sk1,go1,hk]
   rfl
  |true=>
   have hn:i+1 < l.length:=hl.next hs (by have:=a0c hk;omega)
   have q3:sy.inr ((i+1:Nat):Int) (sy.rlen (x0a l))=true:=x5t hn
   have q4:=x3d hn
   rw[q3,q4,w1w h2]
   cases hT:decide (tb (tkA l i).s=tb (bs [59]))with
   |false=>
    simp only [x3b,sk1,go1,x1l,hT]
    rfl
   |true=>
    cases f with
    |false=>
     simp only [x3b,sk1,go1,hk,x1l,hT]
     rfl
    |true=>
     cases hk1:decide ((tkA l (i+1)).k=1)with
     |false=>
      simp only [x3b,sk1,go1,hk,x1l,hT,hk1]
      rfl
     |true=>
      have e:tb u1i=tb (bs [108,101,116]):=rfl
      rw[e]
      cases hL:decide (tb (tkA l (i+1)).s=tb (bs [108,101,116]))<;>simp only [x3b,sk1,go1,hk,x1l,hT,hk1,hL]<;>rfl
include hE
theorem z2t (f:Bool): ∃x:List Dc × St,cF 1000061 (qRB f (x0a l) (s.i:Int) (!s.b) (x0g ens) s.a)=some (.val (.sl 6 (x0k x.1)::qD l (x0g ens) x.2))∧x3g l (z2a l ens f) s x.1 x.2:=by
 have hf:=hl.few
 refine z0r (f:=61) (by kernel_rfl) (by with_reducible first|exact x9s ..) (by kernel_rfl) rfl ?_
 rw[q4m]
 unfold b61
 rw[y0r]
 refine(x4t (σ:=Nat × List Dc × St) (ρ:=List Dc × St) (c:=fun x=>PRes.val (.sl 6 (x0k x.1)::qD l (x0g ens) x.2)) (fun x=> .bool f::(qD l (x0g ens) x.2.2++[.sl 6 (x0k x.2.1)]))
  (fun x=>l.length - x.2.2.i≤x.1∧x.2.1.length≤x.2.2.i∧x.2.2.i < l.length) (fun x=>x.1) (fun x y=>x3g l ((z3t l ens).bind fun d=>x9a l ens f x.1 (x.2.1++[d])) x.2.2 y.1 y.2) ?_ (l.length,[],s) ⟨by simp only;omega,by simp,hs⟩)
 rintro⟨n,acc,s⟩ ⟨hn,ha,hs⟩
 simp only at hn ha hs ⊢
 obtain⟨n,rfl⟩: ∃m,n=m+1:=⟨n - 1,by omega⟩
 cases hb:s.b with
 |false=>
  right
  refine⟨(acc,s),?_,x2i hs hb⟩
  have hx:sy.bnot (!s.b)=false:=by rw[hb];rfl
  simp only [↓lB, ↓lW1, ↓qL6, ↓hXf hx]
  rfl
 |true=>
  have hx:sy.bnot (!s.b)=true:=by rw[hb];rfl
  have fin: ∀(d:Dc) (s5:St),x3g l (z3t l ens) s d s5→ ∀X,X=w5e f (x0k acc) (z0p d) s5.a (x0a l) (s5.i:Int) (!s5.b) (x0g ens)→
      ((∃y:Nat × List Dc × St,X=some (.inl (.bool f::(qD l (x0g ens) y.2.2++[.sl 6 (x0k y.2.1)])))∧(l.length - y.2.2.i≤y.1∧y.2.1.length≤y.2.2.i∧y.2.2.i < l.length)∧y.1 < n+1∧ ∀r:List Dc × St,x3g l ((z3t l ens).bind fun d=>x9a l ens f y.1 (y.2.1++[d])) y.2.2 r.1 r.2→x3g l ((z3t l ens).bind fun d=>x9a l ens f (n+1) (acc++[d])) s r.1 r.2)
       ∨ ∃r:List Dc × St,X=some (.inr (PRes.val (.sl 6 (x0k r.1)::qD l (x0g ens) r.2)))∧x3g l ((z3t l ens).bind fun d=>x9a l ens f (n+1) (acc++[d])) s r.1 r.2):=by
   rintro d s5 rd X rfl
   rw[w6m hl h2 s5 rd.lt f acc (by omega) d (x0g ens)]
   cases hc:s5.b&&(isT l s5.i (bs [59])&& !(f&&isT l (s5.i+1) u1i))with
   |false=>
    right
    refine⟨(acc++[d],s5),rfl,rd.bind ?_⟩
    cases hb5:s5.b with
    |false=>exact x2i rd.lt hb5
    |true=>
     rw[hb5,a1y]at hc
     refine⟨a0m _,rd.lt,fun _=>rfl,fun _=> ?_⟩
     unfold x9a RM.bind y5s
     rw[hc]
     obtain⟨i,b,a,w⟩:=s5
     cases hb5
     exact⟨rfl,rfl⟩
   |true=>
    left
    have hc1:s5.b=true:=by revert hc;cases s5.b<;>simp
    have hc2:(isT l s5.i (bs [59])&& !(f&&isT l (s5.i+1) u1i))=true:=by rw[hc1]at hc;exact hc
    have hT:isT l s5.i (bs [59])=true:=by revert hc2;cases isT l s5.i (bs [59])<;>simp
    have hn5:=hl.next rd.lt (x0t hT)
    have hle:=rd.le
    have rm:x3g l (y5s l f) s5 true ⟨s5.i+1,true,s5.a,s5.w⟩:=⟨Nat.le_succ _,hn5,fun h=>(by rw[hc1]at h;cases h),fun _=>by unfold y5s;rw[hc2];exact⟨rfl,rfl⟩⟩
    refine⟨(n,acc++[d],⟨s5.i+1,true,s5.a,s5.w⟩),rfl,⟨by simp only;omega,by simp only [a0j,a0f,a0i];omega,hn5⟩,a1a _,fun y hy=>rd.bind (rm.bind hy)⟩
  have hx:sy.bnot (!s.b)=true:=by rw[hb];rfl
  obtain⟨t,s1,h1,r1,e1⟩:=y3r hl s hs
  obtain⟨s2,h2',r2,e2⟩:=x4p hl s1 r1.lt (bs [58])
  obtain⟨⟨y,s3⟩,h3,r3⟩:=q6o hl ens hE s2 r2.lt
  simp only at h3 r3
  rw[e2,e1]at h3
  obtain⟨v,s4,h4,r4,hv,e4⟩:=x6m hl s3 r3.lt (bs [119,104,101,110])
  cases v with
  |true=>
   obtain⟨⟨w,s5⟩,h5,r5,e5⟩:=w0q hl s4 r4.lt (hv rfl).2.1
   simp only at h5 r5 e5
   refine fin ⟨t.s,y.1,y.2.1,y.2.2,w.1,w.2⟩ s5 (r1.bind (r2.bind (r3.bind (r4.bind (r5.bind (Post.ret r5.lt)))))) _ ?_
   simp only [↓lB, ↓lW1, ↓qL6, ↓hXt hx, ↓hC h1, ↓hS0, ↓hN1, ↓hC h2', ↓hN0, ↓hC h3, ↓hI0, ↓hI1, ↓hI2, ↓hW3, ↓hC h4, ↓hB0, ↓hCt, ↓hC h5, ↓hS1, ↓hN2]
   rw[e5,e4]
   rfl
  |false=>
   refine fin ⟨t.s,y.1,y.2.1,y.2.2,bs [],bs []⟩ s4 (r1.bind (r2.bind (r3.bind (r4.bind (Post.ret r4.lt))))) _ ?_
   simp only [↓lB, ↓lW1, ↓qL6, ↓hXt hx, ↓hC h1, ↓hS0, ↓hN1, ↓hC h2', ↓hN0, ↓hC h3, ↓hI0, ↓hI1, ↓hI2, ↓hW3, ↓hC h4, ↓hB0, ↓hCf]
   rw[e4]
   rfl
end
end Go.Vm
end

section
set_option maxRecDepth 100000
set_option maxHeartbeats 4000000
namespace Go.Vm
open Go.Proofs
section
variable {α : Type} (l : List Tk) (en : LL) (s : St) (r : List D) (d e f g h i j : D) (x : LL) (v : Int) (w : ByteArray)
theorem qI5 (K:Int→Option α):(opI (sy.cell (qD l en s++ .int .i64 v::r) 5) .i64).bind K=K v:=(rfl)
theorem qI6 (K:Int→Option α):(opI (sy.cell (qD l en s++d:: .int .i64 v::r) 6) .i64).bind K=K v:=(rfl)
theorem qS7 (K:ByteArray→Option α):(opS (sy.cell (qD l en s++d::e:: .str w::r) 7)).bind K=K w:=(rfl)
theorem qI8 (K:Int→Option α):(opI (sy.cell (qD l en s++d::e::f:: .int .i64 v::r) 8) .i64).bind K=K v:=(rfl)
theorem q5i (K:Int→Option α):(opI (sy.cell (qD l en s++d::e::f::g::h:: .int .i64 v::r) 10) .i64).bind K=K v:=(rfl)
theorem q5h (K:Int→Option α):(opI (sy.cell (qD l en s++d::e::f::g::h::i:: .int .i64 v::r) 11) .i64).bind K=K v:=(rfl)
theorem q5f (K:ByteArray→Option α):(opS (sy.cell (qD l en s++d::e::f::g::h::i::j:: .str w::r) 12)).bind K=K w:=(rfl)
theorem q5g (c:D)(K:Int→Option α):(opI (sy.cell (qD l en s++d::e::f::g::h::i::j::c:: .int .i64 v::r) 13) .i64).bind K=K v:=(rfl)
end
section
variable {l : List Tk} (hl : LOK l) (ht : TS l) (hT : TOK l) (en : LL) (s : St) (hs : s.i < l.length)
include hl ht hT hs
theorem q6p: ∃x:Eqn × St,cF 1000062 (qR (x0a l) (s.i:Int) (!s.b) en s.a)=some (.val (z9a x.1++qD l en x.2))∧x3g l (eqR l) s x.1 x.2:=by
 have hf:=hl.few
 obtain⟨t,s0,h0,r0,e0'⟩:=y3r hl s hs
 refine z0r (f:=62) (by kernel_rfl) (by with_reducible first|exact dcQ ..) (by kernel_rfl) rfl ?_
 rw[q4l]
 unfold b62
 simp only [↓hC h0, ↓hS0, ↓hN1]
 rw[y0r,←e0']
 refine(x4t (σ:=Nat × List ByteArray × St) (ρ:=Eqn × St) (c:=fun x=>PRes.val (z9a x.1++qD l en x.2)) (fun x=>qD l en x.2.2++[.int .i64 0, .int .i64 0, .str (bs []), .int .i64 0, .sl 1 (x0e x.2.1), .int .i64 0, .int .i64 0, .str (bs []), .int .i64 0])
  (fun x=>l.length - x.2.2.i≤x.1∧x.2.1.length≤x.2.2.i+1∧x.2.2.i < l.length) (fun x=>x.1) (fun x y=>x3g l ((y2p l 1 x.1 x.2.1).bind fun ns=>(x3m l [bs [61]]).bind fun _=>(z0o l).bind fun e=>(x3m l [bs [59]]).bind fun _=>RM.ret ⟨ns,e⟩) x.2.2 y.1 y.2) ?_ (l.length,[t.s],s0) ⟨by simp only;omega,by simp,r0.lt⟩).imp fun x h=>⟨h.1,Post.assoc (r0.bind h.2)⟩
 rintro⟨n,acc,s⟩ ⟨hn,ha,hs⟩
 simp only at hn ha hs ⊢
 obtain⟨v,s1,h1,r1,hv,e1⟩:=x6m hl s hs (bs [44])
 obtain⟨n,rfl⟩: ∃m,n=m+1:=⟨n - 1,by omega⟩
 cases v with
 |true=>
  left
  obtain⟨t2,s2,h2,r2,e2⟩:=y3r hl s1 r1.lt
  have hfit:sy.fits (x0e acc) [[.str t2.s]] 16=true:=x6p (x0e acc) [[.str t2.s]] 16 (by rw[x0f];simp only [a0f,a0i];omega)
  have fin:sy.rapp (x0e acc) [[.str t2.s]]=x0e (acc++[t2.s]):=by rw[x3a];rfl
  refine⟨(n,acc++[t2.s],s2),?_,⟨?_,?_,r2.lt⟩,a1a _,fun y hy=>Post.assoc (r1.bind (Post.assoc (r2.bind hy)))⟩
  ·simp only [↓lW0, ↓qI5, ↓qI6, ↓qS7, ↓qI8, ↓qL9, ↓q5i, ↓q5h, ↓q5f, ↓q5g, ↓hC h1, ↓hB0, ↓hN1, ↓hCt, ↓hC h2, ↓hS0]
   rw[←fin,←e1,←e2]
   exact hXt hfit _ _
  ·have:=r2.le;have:=(hv rfl).2.2;simp only;omega
  ·have:=r2.le;have:=(hv rfl).2.2;simp only [a0j,a0f,a0i];omega
 |false=>
  right
  obtain⟨s2,h2,r2,e2⟩:=x4p hl s1 r1.lt (bs [61])
  cases hb:s2.b with
  |false=>
   refine⟨(⟨acc,e0⟩,s2),?_,Post.assoc (r1.bind (r2.bind (x2i r2.lt hb)))⟩
   have hx:(!s2.b)=true:=by rw[hb];rfl
   simp only [↓lW0, ↓qI5, ↓qI6, ↓qS7, ↓qI8, ↓qL9, ↓q5i, ↓q5h, ↓q5f, ↓q5g, ↓hC h1, ↓hB0, ↓hN1, ↓hCf, ↓hC h2, ↓hN0, ↓hXt hx]
   rw[←e1,←e2]
   rfl
  |true=>
   have hx:(!s2.b)=false:=by rw[hb];rfl
   have h3:=w6a hl ht hT s2.i r2.lt
   rcases z1w hl r2.lt with⟨e,j,hR,hP,hij,hj⟩|⟨p,c,hR,hP,hip,hp,hc⟩
   ·rw[hP]at h3
    obtain⟨k,m,q,o,a,u⟩:=e
    have re:x3g l (z0o l) s2 (.mk k m q o a u) ⟨j,true,s2.a,s2.w⟩:=⟨hij,hj,fun h=>(by rw[hb]at h;cases h),fun _=>by rw[hR];exact⟨rfl,rfl⟩⟩
    obtain⟨s4,h4,r4,e4⟩:=x4p hl ⟨j,true,s2.a,s2.w⟩ hj (bs [59])
    simp only at h4 e4
    have h3:cF 113 [.d (.sl 4 (x0a l)), .d (.int .i64 (s2.i:Int))]=some (.val ((Ex.mk k m q o a u).row++[.int .i64 (j:Int), .int .i64 0])):=h3
    have hz:sy.bnot (sy.ieq (0:Int) 0)=false:=rfl
    refine⟨(⟨acc, .mk k m q o a u⟩,s4),?_,Post.assoc (r1.bind (r2.bind (re.bind (r4.bind (Post.ret r4.lt)))))⟩
    rw[hb]at h2
    simp only [↓lW0, ↓qI5, ↓qI6, ↓qS7, ↓qI8, ↓qL9, ↓q5i, ↓q5h, ↓q5f, ↓q5g, ↓hC h1, ↓hB0, ↓hN1, ↓hCf, ↓hC h2, ↓hN0, ↓hXf (show(!true)=false from rfl), ↓hC h3, ↓hEm, ↓hE6, ↓hE7, ↓hXf hz, ↓hC h4]
    rw[←e1,←e2,←e4]
    rfl
   ·rw[hP]at h3
    have h3:cF 113 [.d (.sl 4 (x0a l)), .d (.int .i64 (s2.i:Int))]=some (.val ((Ex.mk 0 0 (bs []) 0 [] []).row++[.int .i64 (p:Int), .int .i64 c])):=h3
    have hz:sy.bnot (sy.ieq c 0)=true:=by
     show(!decide (c=0))=true
     rw[x1c hc];rfl
    have re:x3g l (z0o l) s2 e0 ⟨p,false,c,s2.w⟩:=⟨hip,hp,fun h=>(by rw[hb]at h;cases h),fun _=>by rw[hR];exact⟨rfl,rfl, .inl ⟨rfl,hc⟩⟩⟩
    refine⟨(⟨acc,e0⟩,⟨p,false,c,s2.w⟩),?_,Post.assoc (r1.bind (r2.bind (re.bind (x2i hp rfl))))⟩
    simp only [↓lW0, ↓qI5, ↓qI6, ↓qS7, ↓qI8, ↓qL9, ↓q5i, ↓q5h, ↓q5f, ↓q5g, ↓hC h1, ↓hB0, ↓hN1, ↓hCf, ↓hC h2, ↓hN0, ↓hXf hx, ↓hC h3, ↓hEm, ↓hE6, ↓hE7, ↓hXt hz]
    rfl
end
end Go.Vm
end

section
set_option maxRecDepth 100000
set_option maxHeartbeats 4000000
namespace Go.Vm
open Go.Proofs
theorem hQW {α:Type}(l:List Tk)(en:LL)(s:St)(q:Eqn)(K:Int→LL→Int→Bool→LL→Option α):oW sy (PRes.val (z9a q++qD l en s)).leaves 7 K=K s.a (x0a l) (s.i:Int) (!s.b) en:=by
 obtain⟨ns,e⟩:=q
 obtain⟨k,m,y,o,a,u⟩:=e
 rfl
section
variable {l : List Tk} (hl : LOK l) (ht : TS l) (hT : TOK l) (h2T : w8t l) (ens : List En) (hE : ens.length ≤ 1000000) (s : St) (hs : s.i < l.length)
include hl ht hT h2T hE hs
theorem w0r: ∃x:Nd × St,cF 1000021 (qR (x0a l) (s.i:Int) (!s.b) (x0g ens) s.a)=some (.val (y5r x.1++qD l (x0g ens) x.2))∧x3g l (v4u l ens) s x.1 x.2:=by
 have hf:=hl.few
 obtain⟨t,s1,h1,r1,e1⟩:=y3r hl s hs
 obtain⟨s2,h2,r2,e2⟩:=x4p hl s1 r1.lt (bs [40])
 refine z0r (f:=21) (by kernel_rfl) (by with_reducible first|exact dcQ ..) (by kernel_rfl) rfl ?_
 rw[q4p]
 unfold b21
 simp only [↓hC h1, ↓hS0, ↓hN1, ↓hC h2, ↓hN0]
 refine y6s (ρ:=List Dc × St) (fun y=>qD l (x0g ens) y.2++[.str (bs []), .str t.s, .sl 6 (x0k y.1)]) (fun y=>x3g l (q5m l ens) s2 y.1 y.2) ?_ ?_
 ·obtain⟨v,s3,h3,r3,_,e3⟩:=x6m hl s2 r2.lt (bs [41])
  cases v with
  |true=>
   refine⟨([],s3),?_,r3.bind (Post.ret r3.lt)⟩
   simp only [↓hC h3, ↓hB0, ↓hN1, ↓hNt]
   rw[←e1,←e2,←e3]
   rfl
  |false=>
   obtain⟨⟨ds,s4⟩,h4,r4⟩:=z2t hl h2T ens hE s3 r3.lt false
   simp only at h4 r4
   rw[e3,e2,e1]at h4
   obtain⟨s5,h5,r5,e5⟩:=x4p hl s4 r4.lt (bs [41])
   refine⟨(ds,s5),?_,r3.bind (r4.bind (r5.bind (Post.ret r5.lt)))⟩
   simp only [↓hC h3, ↓hB0, ↓hN1, ↓hNf, ↓hC h4, ↓hL0, ↓hW1, ↓hC h5, ↓hN0]
   rw[←e5]
   rfl
 ·rintro⟨ins,s3⟩ r3
  simp only at r3 ⊢
  obtain⟨s4,h4,r4,e4⟩:=x4p hl s3 r3.lt (bs [114,101,116,117,114,110,115])
  obtain⟨s5,h5,r5,e5⟩:=x4p hl s4 r4.lt (bs [40])
  obtain⟨⟨os,s6⟩,h6,r6⟩:=z2t hl h2T ens hE s5 r5.lt false
  simp only at h6 r6
  rw[e5,e4]at h6
  obtain⟨s7,h7,r7,e7⟩:=x4p hl s6 r6.lt (bs [41])
  simp only [↓lW0, ↓lS5, ↓w1r, ↓qL7, ↓hC h4, ↓hN0, ↓hC h5, ↓hC h6, ↓hL0, ↓hW1, ↓hC h7]
  refine y6s (ρ:=List Dc × St) (fun y=>qD l (x0g ens) y.2++[.str (bs []), .str t.s, .sl 6 (x0k ins), .sl 6 (x0k os), .sl 6 (x0k y.1)]) (fun y=>x3g l (v3o l ens) s7 y.1 y.2) ?_ ?_
  ·obtain⟨v,s8,h8,r8,_,e8⟩:=x6m hl s7 r7.lt (bs [118,97,114])
   cases v with
   |false=>
    refine⟨([],s8),?_,r8.bind (Post.ret r8.lt)⟩
    simp only [↓hC h8, ↓hB0, ↓hN1, ↓hCf]
    rw[←e7,←e8]
    rfl
   |true=>
    obtain⟨⟨ds,s9⟩,h9,r9⟩:=z2t hl h2T ens hE s8 r8.lt true
    simp only at h9 r9
    rw[e8,e7]at h9
    obtain⟨s10,h10,r10,e10⟩:=x4p hl s9 r9.lt (bs [59])
    refine⟨(ds,s10),?_,r8.bind (r9.bind (r10.bind (Post.ret r10.lt)))⟩
    simp only [↓hC h8, ↓hB0, ↓hN1, ↓hCt, ↓hC h9, ↓hL0, ↓hW1, ↓hC h10, ↓hN0]
    rw[←e10]
    rfl
  ·rintro⟨vs,s8⟩ r8
   simp only at r8 ⊢
   obtain⟨s9,h9,r9,e9⟩:=x4p hl s8 r8.lt (bs [108,101,116])
   simp only [↓lW0, ↓lS5, ↓w1r, ↓qL7, ↓qL8, ↓qL9, ↓hC h9, ↓hN0]
   rw[y0r,←e9]
   refine(x4t (σ:=Nat × List Eqn × St) (ρ:=List Eqn × St) (c:=fun x=>PRes.val (.str t.s:: .sl 6 (x0k ins):: .sl 6 (x0k os):: .sl 6 (x0k vs):: .sl 7 (x2q x.1)::qD l (x0g ens) x.2))
    (fun x=>qD l (x0g ens) x.2.2++[.str (bs []), .str t.s, .sl 6 (x0k ins), .sl 6 (x0k os), .sl 6 (x0k vs), .sl 7 (x2q x.2.1)])
    (fun x=>(x.2.2.b=true→l.length - x.2.2.i≤x.1∧x.2.1.length≤x.2.2.i)∧x.2.1.length≤x.2.2.i+1∧x.2.2.i < l.length) (fun x=>x.1) (fun x y=>x3g l (w9k l x.1 x.2.1) x.2.2 y.1 y.2) ?_ (l.length,[],s9) ⟨fun _=>⟨by simp only;omega,by simp⟩,by simp,r9.lt⟩).elim fun x h=>⟨(⟨t.s,ins,os,vs,x.1⟩,x.2),h.1,r1.bind (r2.bind (r3.bind (Post.need2 (r4.bind (r5.bind (r6.bind (r7.bind (r8.bind (r9.bind (h.2.bind (Post.ret h.2.lt)))))))))))⟩
   rintro⟨n,acc,s⟩ ⟨hn,ha,hs⟩
   simp only at hn ha hs ⊢
   cases hb:s.b with
   |false=>
    right
    refine⟨(acc,s),?_,x2i hs hb⟩
    have hx:sy.bnot (!s.b)=false:=by rw[hb];rfl
    simp only [↓lW0, ↓lS5, ↓w1r, ↓qL7, ↓qL8, ↓qL9, ↓q6r, ↓hXf hx]
    rfl
   |true=>
    have hx:sy.bnot (!s.b)=true:=by rw[hb];rfl
    obtain⟨hn1,hn2⟩:=hn hb
    obtain⟨n,rfl⟩: ∃m,n=m+1:=⟨n - 1,by omega⟩
    obtain⟨v,s1,h1,r1,_,e1⟩:=x6m hl s hs (bs [116,101,108])
    cases v with
    |true=>
     right
     refine⟨(acc,s1),?_,r1.bind (Post.ret r1.lt)⟩
     simp only [↓lW0, ↓lS5, ↓w1r, ↓qL7, ↓qL8, ↓qL9, ↓q6r, ↓hXt hx, ↓hC h1, ↓hB0, ↓hN1, ↓hNt]
     rw[←e1]
     rfl
    |false=>
     left
     obtain⟨⟨q,s2⟩,h2,r2⟩:=q6p hl ht hT (x0g ens) s1 r1.lt
     simp only at h2 r2
     rw[e1]at h2
     have hfit:sy.fits (x2q acc) [z9a q] 112=true:=x6p (x2q acc) [z9a q] 112 (by rw[x2z];simp only [a0f,a0i];omega)
     have fin:sy.rapp (x2q acc) [z9a q]=x2q (acc++[q]):=by rw[z1e];rfl
     have hb1:s1.b=true:=by
      have g:=r1.good hb
      cases hm:tkR l (bs [116,101,108]) s.i with
      |ok a j=>rw[hm]at g;rw[g.2]
      |bad p c=>unfold tkR at hm;split at hm<;>cases hm
     refine⟨(n,acc++[q],s2),?_,⟨fun hb2=> ?_,?_,r2.lt⟩,a1a _,fun y hy=>r1.bind (r2.bind hy)⟩
     ·obtain⟨ns,e⟩:=q
      obtain⟨k,m,y,o,a,u⟩:=e
      simp only [↓lW0, ↓lS5, ↓w1r, ↓qL7, ↓qL8, ↓qL9, ↓q6r, ↓hXt hx, ↓hC h1, ↓hB0, ↓hN1, ↓hNf, ↓hC h2, ↓hQ0, ↓hQ1, ↓hQW]
      rw[←fin]
      exact hXt hfit _ _
     ·have g:=r2.good hb1
      cases hm:eqR l s1.i with
      |ok w j=>
       rw[hm]at g
       have hp:=v1b ht hm
       have e:=r1.le
       have:s2.i=j:=by rw[g.2]
       simp only [a0j,a0f,a0i]
       omega
      |bad p c=>rw[hm]at g;rw[g.1]at hb2;cases hb2
     ·have e1:=r1.le
      have e2:=r2.le
      simp only [a0j,a0f,a0i]
      omega
end
end Go.Vm
end

section
set_option maxRecDepth 100000
set_option maxHeartbeats 4000000
namespace Go.Vm
open Go.Proofs
section
variable {l : List Tk} (ht : TS l)
include ht
theorem y6x {k:Int}{i j:Nat}{t:Tk}(h:y1c l k i= .ok t j):t.s.size≤100000∧j=i+1:=by
 obtain⟨h1,h2⟩:=y1b h
 exact⟨by rw[h1];exact ht i,h2⟩
theorem z6i {k:Int}: ∀(n:Nat) (acc:List ByteArray) {i j:Nat} {r:List ByteArray},y2p l k n acc i= .ok r j→(∀s∈acc,s.size≤100000)→(∀s∈r,s.size≤100000)∧i≤j∧r.length+i≤acc.length+j
 |0,acc,i,j,r,h,ha=>by cases h;exact⟨ha,a0m _,a0m _⟩
 |n+1,acc,i,j,r,h,ha=>by
  unfold y2p at h
  obtain⟨v,x,h1,h2⟩:=bind_ok h
  have e1:=x8w h1
  cases v with
  |true=>
   obtain⟨t,y,h3,h4⟩:=bind_ok h2
   have e2:=y6x ht h3
   have e3:=z6i n _ h4 (fun s hs=>by
    rcases a1h.1 hs with hs|hs
    ·exact ha s hs
    ·rw[a1l.1 hs];exact e2.1)
   refine⟨e3.1,by omega,?_⟩
   have:=e3.2.2
   simp only [a0j,a0f,a0i]at this
   omega
  |false=>cases h2;exact⟨ha,e1,by omega⟩
theorem y7t {k:Int}{i j:Nat}{r:List ByteArray}(h:z6h l k i= .ok r j):(∀s∈r,s.size≤100000)∧i < j∧r.length+i≤j:=by
 obtain⟨t,x,h1,h2⟩:=bind_ok h
 have e1:=y6x ht h1
 have e2:=z6i ht _ _ h2 (fun s hs=>by rw[a1l.1 hs];exact e1.1)
 have:=e2.2.2
 simp only [a0f,a0i]at this
 exact⟨e2.1,by omega,by omega⟩
theorem y6r {i j:Nat}{r:En}(h:v1e l i= .ok r j):EnOK r∧i≤j:=by
 obtain⟨t,x,h1,h⟩:=bind_ok h
 obtain⟨_,y,h2,h⟩:=bind_ok h
 obtain⟨cs,z,h3,h⟩:=bind_ok h
 obtain⟨_,w,h4,h⟩:=bind_ok h
 cases h
 have e1:=y6x ht h1
 have e3:=y7t ht h3
 have:=x2s h2
 have:=x2s h4
 exact⟨⟨e1.1,e3.1⟩,by omega⟩
theorem v5p {i j:Nat}{r:En}(h:v1e l i= .ok r j):r.2.length≤j:=by
 obtain⟨t,x,h1,h⟩:=bind_ok h
 obtain⟨_,y,h2,h⟩:=bind_ok h
 obtain⟨cs,z,h3,h⟩:=bind_ok h
 obtain⟨_,w,h4,h⟩:=bind_ok h
 cases h
 have e3:=y7t ht h3
 have:=x2s h4
 simp only
 omega
theorem v7f {ens:List En}{i j:Nat}{r:Int × Int}(h:v7g l ens i= .ok r j):i≤j:=by
 obtain⟨v,x,h1,h⟩:=bind_ok h
 have:=x8w h1
 cases v with
 |true=>cases h;omega
 |false=>
  obtain⟨v,y,h2,h⟩:=bind_ok h
  have:=x8w h2
  cases v with
  |true=>cases h;omega
  |false=>
   obtain⟨t,z,h3,h⟩:=bind_ok h
   have:=(y1b h3).2
   unfold z0u at h
   cases hx:w2c ens t.s with
   |some k=>rw[hx]at h;cases h;omega
   |none=>rw[hx]at h;cases h
theorem w9s {ens:List En}{i j:Nat}{r:Int × Int × Int}(h:tyR l ens i= .ok r j):i≤j:=by
 obtain⟨b,x,h1,h⟩:=bind_ok h
 have:=v7f ht h1
 obtain⟨v,y,h2,h⟩:=bind_ok h
 have:=x8w h2
 cases v with
 |false=>cases h;omega
 |true=>
  obtain⟨t,z,h3,h⟩:=bind_ok h
  have:=(y1b h3).2
  cases hc:decide (t.n < 1) || decide (8 < t.n)with
  |true=>rw[hc]at h;cases h
  |false=>
   rw[hc]at h
   obtain⟨_,u,h4,h⟩:=bind_ok h
   have:=x2s h4
   cases h;omega
theorem u3r {ens:List En}{i j:Nat}{r:Dc}(h:z3t l ens i= .ok r j):DcOK r∧i < j:=by
 have h0:(bs []).size≤100000:=by decide
 obtain⟨t,x,h1,h⟩:=bind_ok h
 obtain⟨_,y,h2,h⟩:=bind_ok h
 obtain⟨k,z,h3,h⟩:=bind_ok h
 obtain⟨v,w,h4,h⟩:=bind_ok h
 have e1:=y6x ht h1
 have:=x2s h2
 have:=w9s ht h3
 have:=x8w h4
 cases v with
 |false=>cases h;exact⟨⟨e1.1,h0,h0⟩,by omega⟩
 |true=>
  obtain⟨c,u,h5,h⟩:=bind_ok h
  cases h
  unfold z4p at h5
  split at h5
  ·rename_i hw
   cases h5
   have e5:=u1t ht (u8u ht 0) hw
   exact⟨⟨e1.1,e5.2.1,e5.2.2⟩,by omega⟩
  ·cases h5
  ·cases h5
theorem z7x {ens:List En}{f:Bool}: ∀(n:Nat) (acc:List Dc) {i j:Nat} {r:List Dc},x9a l ens f n acc i= .ok r j→(∀s∈acc,DcOK s)→(∀s∈r,DcOK s)∧i≤j∧r.length+i≤acc.length+j
 |0,acc,i,j,r,h,ha=>by cases h;exact⟨ha,a0m _,a0m _⟩
 |n+1,acc,i,j,r,h,ha=>by
  unfold x9a at h
  obtain⟨v,x,h1,h2⟩:=bind_ok h
  have e1:i≤x:=by unfold y5s at h1;split at h1<;>cases h1<;>omega
  cases v with
  |true=>
   obtain⟨d,y,h3,h4⟩:=bind_ok h2
   have e2:=u3r ht h3
   have e3:=z7x n _ h4 (fun s hs=>by
    rcases a1h.1 hs with hs|hs
    ·exact ha s hs
    ·rw[a1l.1 hs];exact e2.1)
   refine⟨e3.1,by omega,?_⟩
   have:=e3.2.2
   simp only [a0j,a0f,a0i]at this
   omega
  |false=>cases h2;exact⟨ha,e1,by omega⟩
theorem y9e {ens:List En}{f:Bool}{i j:Nat}{r:List Dc}(h:z2a l ens f i= .ok r j):(∀s∈r,DcOK s)∧r.length+i≤j:=by
 obtain⟨d,x,h1,h2⟩:=bind_ok h
 have e1:=u3r ht h1
 have e2:=z7x ht _ _ h2 (fun s hs=>by rw[a1l.1 hs];exact e1.1)
 have:=e2.2.2
 simp only [a0f,a0i]at this
 exact⟨e2.1,by omega⟩
theorem w2b {ens:List En}{i j:Nat}{r:List Dc}(h:q5m l ens i= .ok r j):(∀s∈r,DcOK s)∧r.length+i≤j:=by
 obtain⟨v,x,h1,h⟩:=bind_ok h
 have:=x8w h1
 cases v with
 |true=>cases h;exact⟨by simp,by simpa using this⟩
 |false=>
  obtain⟨d,y,h2,h⟩:=bind_ok h
  obtain⟨_,z,h3,h⟩:=bind_ok h
  cases h
  have e2:=y9e ht h2
  have:=x2s h3
  exact⟨e2.1,by omega⟩
theorem v3n {ens:List En}{i j:Nat}{r:List Dc}(h:v3o l ens i= .ok r j):(∀s∈r,DcOK s)∧r.length+i≤j:=by
 obtain⟨v,x,h1,h⟩:=bind_ok h
 have:=x8w h1
 cases v with
 |false=>cases h;exact⟨by simp,by simpa using this⟩
 |true=>
  obtain⟨d,y,h2,h⟩:=bind_ok h
  obtain⟨_,z,h3,h⟩:=bind_ok h
  cases h
  have e2:=y9e ht h2
  have:=x2s h3
  exact⟨e2.1,by omega⟩
structure EqJ (J:Nat) (x:Eqn):Prop where
 ns:x.ns.length≤J
 sz:x.e.size≤60
 fn:x.e.fine
 st: ∀s∈x.ns,s.size≤100000
theorem q3l {i j:Nat}{r:Eqn}(h:eqR l i= .ok r j):EqJ j r∧i < j:=by
 obtain⟨ns,x,h1,h⟩:=bind_ok h
 obtain⟨_,y,h2,h⟩:=bind_ok h
 obtain⟨e,z,h3,h⟩:=bind_ok h
 obtain⟨_,w,h4,h⟩:=bind_ok h
 cases h
 have e1:=y7t ht h1
 have:=x2s h2
 have:=x2s h4
 unfold z0o at h3
 split at h3
 ·cases h3
 ·cases h3
 ·rename_i e2 j2 hR
  have hz:=y6g ht hR
  cases hs:x3i e2 with
  |false=>rw[hs]at h3;cases h3
  |true=>
   cases ha:y9u e2 with
   |false=>rw[hs,ha]at h3;cases h3
   |true=>
    rw[hs,ha]at h3
    cases h3
    have h60:e.size≤60:=by
     unfold x3i at hs
     simp only [a0p,a0t]at hs
     exact hs.1
    exact⟨⟨by simp only;omega,h60,y6j e hz.2 (by omega),e1.1⟩,by omega⟩
omit ht in
theorem EqJ.mono {J K:Nat}{x:Eqn}(h:EqJ J x)(hk:J≤K):EqJ K x:=⟨a1o h.ns hk,h.sz,h.fn,h.st⟩
theorem v1a: ∀(n:Nat) (acc:List Eqn) {i j:Nat} {r:List Eqn},w9k l n acc i= .ok r j→(∀s∈acc,EqJ i s)→(∀s∈r,EqJ j s)∧i≤j∧r.length+i≤acc.length+j
 |0,acc,i,j,r,h,ha=>by cases h;exact⟨ha,a0m _,a0m _⟩
 |n+1,acc,i,j,r,h,ha=>by
  unfold w9k at h
  obtain⟨v,x,h1,h2⟩:=bind_ok h
  have e1:=x8w h1
  cases v with
  |false=>
   obtain⟨d,y,h3,h4⟩:=bind_ok h2
   have e2:=q3l ht h3
   have e3:=v1a n _ h4 (fun s hs=>by
    rcases a1h.1 hs with hs|hs
    ·exact(ha s hs).mono (by omega)
    ·rw[a1l.1 hs];exact e2.1)
   refine⟨e3.1,by omega,?_⟩
   have:=e3.2.2
   simp only [a0j,a0f,a0i]at this
   omega
  |true=>cases h2;exact⟨fun s hs=>(ha s hs).mono e1,e1,by omega⟩
structure NdJ (J:Nat) (n:Nd):Prop where
 ins:n.ins.length≤J
 outs:n.outs.length≤J
 vars:n.vars.length≤J
 eqs:n.eqs.length≤J
 eo: ∀x∈n.eqs,EqJ J x
 dc: ∀d∈y5h n,DcOK d
 nm:n.n.size≤100000
theorem z3b {ens:List En}{i j:Nat}{r:Nd}(h:v4u l ens i= .ok r j):NdJ j r∧i≤j:=by
 obtain⟨t,x1,h1,h⟩:=bind_ok h
 obtain⟨_,x2,h2,h⟩:=bind_ok h
 obtain⟨ins,x3,h3,h⟩:=bind_ok h
 obtain⟨_,x4,h4,h⟩:=bind_ok h
 obtain⟨outs,x5,h5,h⟩:=bind_ok h
 obtain⟨_,x6,h6,h⟩:=bind_ok h
 obtain⟨vars,x7,h7,h⟩:=bind_ok h
 obtain⟨_,x8,h8,h⟩:=bind_ok h
 obtain⟨eqs,x9,h9,h⟩:=bind_ok h
 cases h
 have e1:=y6x ht h1
 have e2:=x2s h2
 have e3:=w2b ht h3
 have e4:=x2s h4
 have e5:=y9e ht h5
 have e6:=x2s h6
 have e7:=v3n ht h7
 have e8:=x2s h8
 have e9:=v1a ht _ _ h9 (by simp)
 have:=e9.2.2
 simp only [a0i]at this
 refine⟨⟨by simp only;omega,by simp only;omega,by simp only;omega,by simp only;omega,e9.1,fun d hd=> ?_,e1.1⟩,by omega⟩
 unfold y5h at hd
 rcases a1h.1 hd with hd|hd
 ·rcases a1h.1 hd with hd|hd
  ·exact e3.1 d hd
  ·exact e5.1 d hd
 ·exact e7.1 d hd
omit ht in
theorem NdJ.mono {J K:Nat}{x:Nd}(h:NdJ J x)(hk:J≤K):NdJ K x:=⟨a1o h.ins hk,a1o h.outs hk,a1o h.vars hk,a1o h.eqs hk,fun y hy=>(h.eo y hy).mono hk,h.dc,h.nm⟩
omit ht in
theorem NdJ.ok {J:Nat}{n:Nd}(h:NdJ J n)(hJ:J≤300000):NdOK n:=by
 have h1:=h.ins;have h2:=h.outs;have h3:=h.vars;have h4:=h.eqs
 refine⟨?_,by omega,fun x hx=> ?_,h.dc,h.nm⟩
 ·unfold y5h;simp only [a0j];omega
 ·have:=h.eo x hx
  exact⟨a1o this.ns (by omega),a1o this.sz (by omega),this.fn,this.st⟩
end
def y5e (l:List Tk):Nat→List En→RM (List En)
 |0,acc=>RM.ret acc
 |n+1,acc=>(tkR l (bs [101,110,117,109])).bind fun v=>match v with
  |true=>(v1e l).bind fun d=>y5e l n (acc++[d])
  |false=>RM.ret acc
def y7s (l:List Tk)(ens:List En):Nat→List Nd→RM (List Nd)
 |0,acc=>RM.ret acc
 |n+1,acc=>(tkR l (bs [110,111,100,101])).bind fun v=>match v with
  |true=>(v4u l ens).bind fun d=>y7s l ens n (acc++[d])
  |false=>RM.ret acc
def v0w (l:List Tk):RM Unit:=fun i=>match decide ((tkA l i).k=6)with
 |true=> .ok () i
 |false=> .bad i 2
def y3s (l:List Tk):RM (List En × List Nd):=(y5e l l.length []).bind fun ens=>(y7s l ens l.length []).bind fun nds=>(v0w l).bind fun _=>RM.ret (ens,nds)
theorem u7j {l:List Tk}{w:ByteArray}{i j:Nat}(h:tkR l w i= .ok true j):j=i+1:=by
 unfold tkR at h;split at h<;>cases h;rfl
section
variable {l : List Tk} (ht : TS l)
include ht
theorem z7s: ∀(n:Nat) (acc:List En) {i j:Nat} {r:List En},y5e l n acc i= .ok r j→(∀s∈acc,EnOK s)→(∀s∈r,EnOK s)∧i≤j∧r.length+i≤acc.length+j
 |0,acc,i,j,r,h,ha=>by cases h;exact⟨ha,a0m _,a0m _⟩
 |n+1,acc,i,j,r,h,ha=>by
  unfold y5e at h
  obtain⟨v,x,h1,h2⟩:=bind_ok h
  have e1:=x8w h1
  cases v with
  |true=>
   obtain⟨d,y,h3,h4⟩:=bind_ok h2
   have e0:=u7j h1
   have e2:=y6r ht h3
   have e3:=z7s n _ h4 (fun s hs=>by
    rcases a1h.1 hs with hs|hs
    ·exact ha s hs
    ·rw[a1l.1 hs];exact e2.1)
   refine⟨e3.1,by omega,?_⟩
   have:=e3.2.2
   simp only [a0j,a0f,a0i]at this
   omega
  |false=>cases h2;exact⟨ha,e1,by omega⟩
theorem z7t: ∀(n:Nat) (acc:List En) {i j:Nat} {r:List En},y5e l n acc i= .ok r j→(∀s∈acc,s.2.length≤i)→ ∀s∈r,s.2.length≤j
 |0,acc,i,j,r,h,ha=>by cases h;exact ha
 |n+1,acc,i,j,r,h,ha=>by
  unfold y5e at h
  obtain⟨v,x,h1,h2⟩:=bind_ok h
  have e1:=x8w h1
  cases v with
  |true=>
   obtain⟨d,y,h3,h4⟩:=bind_ok h2
   have e2:=(y6r ht h3).2
   exact z7t n _ h4 (fun s hs=>by
    rcases a1h.1 hs with hs|hs
    ·have:=ha s hs;omega
    ·rw[a1l.1 hs];exact v5p ht h3)
  |false=>cases h2;exact fun s hs=>a1o (ha s hs) e1
theorem z6d {ens:List En}: ∀(n:Nat) (acc:List Nd) {i j:Nat} {r:List Nd},y7s l ens n acc i= .ok r j→(∀s∈acc,NdJ i s)→(∀s∈r,NdJ j s)∧i≤j∧r.length+i≤acc.length+j
 |0,acc,i,j,r,h,ha=>by cases h;exact⟨ha,a0m _,a0m _⟩
 |n+1,acc,i,j,r,h,ha=>by
  unfold y7s at h
  obtain⟨v,x,h1,h2⟩:=bind_ok h
  have e1:=x8w h1
  cases v with
  |true=>
   obtain⟨d,y,h3,h4⟩:=bind_ok h2
   have e0:=u7j h1
   have e2:=z3b ht h3
   have e3:=z6d n _ h4 (fun s hs=>by
    rcases a1h.1 hs with hs|hs
    ·exact(ha s hs).mono (by omega)
    ·rw[a1l.1 hs];exact e2.1)
   refine⟨e3.1,by omega,?_⟩
   have:=e3.2.2
   simp only [a0j,a0f,a0i]at this
   omega
  |false=>cases h2;exact⟨fun s hs=>(ha s hs).mono e1,e1,by omega⟩
structure PgOK (p:List En × List Nd):Prop where
 e:p.1.length≤1000000
 n:p.2.length≤1000000
 eo: ∀x∈p.1,EnOK x
 no: ∀x∈p.2,NdOK x
 c: ∀e∈p.1,e.2.length≤1000000
theorem v4f {j:Nat}{r:List En × List Nd}(h:y3s l 0= .ok r j)(hj:j≤300000):PgOK r:=by
 obtain⟨ens,x,h1,h⟩:=bind_ok h
 obtain⟨nds,y,h2,h⟩:=bind_ok h
 obtain⟨_,z,h3,h⟩:=bind_ok h
 cases h
 have e1:=z7s ht _ _ h1 (by simp)
 have e2:=z6d ht _ _ h2 (by simp)
 have e3:y=j:=by unfold v0w at h3;split at h3<;>cases h3;rfl
 have l1:=e1.2.2
 have l2:=e2.2.2
 simp only [a0i]at l1 l2
 exact⟨by simp only;omega,by simp only;omega,e1.1,fun x hx=>(e2.1 x hx).ok (by omega),fun e he=>by have:=z7t ht _ _ h1 (by simp) e he;omega⟩
end
end Go.Vm
end

section
set_option maxRecDepth 100000
set_option maxHeartbeats 4000000
namespace Go.Vm
open Go.Proofs
theorem Post.yes {α:Type}{F:Int→St→Nat→Int→Prop}{l:List Tk}{m:RM α}{s s':St}{v:α}(h:Post F l m s v s')(hb:s'.b=true):s.b=true∧m s.i= .ok v s'.i:=by
 have h0:s.b=true:=by
  cases hs:s.b with
  |true=>rfl
  |false=>have e:=h.bad hs;rw[e,hs]at hb;cases hb
 have g:=h.good h0
 cases hm:m s.i with
 |ok a j=>rw[hm]at g;rw[g.1,g.2];exact⟨h0,rfl⟩
 |bad p c=>rw[hm]at g;rw[g.1]at hb;cases hb
theorem q8l (b:Bool)(a w:Int):cF 1000016 (kAs b a w)=some (match b with
  |true=> .val [.bool false, .int .i64 0, .int .i64 0]
  |false=> .val [.bool true, .int .i64 a, .int .i64 w]):=y1w rfl
def w4x (sz:Int)(x:(List En × List Nd) × St):PRes:=match x.2.b with
 |false=> .val [.sl 2 [], .sl 5 [], .int .i64 x.2.a, .int .i64 x.2.w]
 |true=>bif !decide (y5w x.1.1 x.1.2=0)then .val [.sl 2 [], .sl 5 [], .int .i64 sz, .int .i64 (y5w x.1.1 x.1.2)]else .val [.sl 2 (x0g x.1.1), .sl 5 (x2b x.1.2), .int .i64 sz, .int .i64 0]
theorem z1x (acc:List En)(x:En):x0g (acc++[x])=x0g acc++[z4l x]:=by simp [x0g]
section
variable {α : Type} (l : List Tk) (en : LL) (s : St) (r : List D) (k : Nat) (x : LL) (e : En) (n : Nd)
theorem lL6 (K:LL→Option α):(opL (sy.cell (stD l en s++ .sl k x::r) 6) k).bind K=K x:=x3y k x K
theorem k0g (K:ByteArray→Option α):(opS (sy.cell (PRes.val (z4l e++r)).leaves 0)).bind K=K e.1:=(rfl)
theorem k0f (K:LL→Option α):(opL (sy.cell (PRes.val (z4l e++r)).leaves 1) 1).bind K=K (x0e e.2):=x3y 1 _ K
theorem k4v (K:LL→Int→Bool→Int→Int→LL→Option α):oV sy (PRes.val (z4l e++stD l en s)).leaves 2 K=K (x0a l) (s.i:Int) s.b s.a s.w en:=(rfl)
theorem k0e (K:ByteArray→Option α):(opS (sy.cell (PRes.val (y5r n++r)).leaves 0)).bind K=K n.n:=(rfl)
theorem k0d (K:LL→Option α):(opL (sy.cell (PRes.val (y5r n++r)).leaves 1) 6).bind K=K (x0k n.ins):=x3y 6 _ K
theorem k0c (K:LL→Option α):(opL (sy.cell (PRes.val (y5r n++r)).leaves 2) 6).bind K=K (x0k n.outs):=x3y 6 _ K
theorem k0b (K:LL→Option α):(opL (sy.cell (PRes.val (y5r n++r)).leaves 3) 6).bind K=K (x0k n.vars):=x3y 6 _ K
theorem k0a (K:LL→Option α):(opL (sy.cell (PRes.val (y5r n++r)).leaves 4) 7).bind K=K (x2q n.eqs):=x3y 7 _ K
theorem k4t (K:LL→Int→Bool→Int→Int→LL→Option α):oV sy (PRes.val (y5r n++stD l en s)).leaves 5 K=K (x0a l) (s.i:Int) s.b s.a s.w en:=(rfl)
end
def v3t (l:List Tk)(ens:List En)(k:Nat)(acc:List Nd):RM (List En × List Nd):=(y7s l ens k acc).bind fun nds=>(v0w l).bind fun _=>RM.ret (ens,nds)
def y5n (s:ByteArray):(List En × List Nd) × Int × Int:=match decide ((6000:Int) < ((tb s).length:Int)),(y4z s 0).2.2 with
 |true,_=>(([],[]),6000,3)
 |false,false=>(([],[]),((y4z s 0).2.1:Int),2)
 |false,true=>match y3s (x8h s) 0 with
  | .bad p c=>(([],[]),((tkA (x8h s) p).a:Int),c)
  | .ok r _=>bif !decide (y5w r.1 r.2=0)then(([],[]),((tb s).length:Int),y5w r.1 r.2)else(r,((tb s).length:Int),0)
def pgV (x:(List En × List Nd) × Int × Int):PRes:= .val [.sl 2 (x0g x.1.1), .sl 5 (x2b x.1.2), .int .i64 x.2.1, .int .i64 x.2.2]
theorem q3k {l:List Tk}{n:Nat}{x:(List En × List Nd) × St}(h:x4d l (y3s l) ⟨0,true,0,0⟩ x.1 x.2):pgV (match y3s l 0 with
  | .bad p c=>(([],[]),((tkA l p).a:Int),c)
  | .ok r _=>bif !decide (y5w r.1 r.2=0)then(([],[]),(n:Int),y5w r.1 r.2)else(r,(n:Int),0))=w4x (n:Int) x:=by
 have g:=h.good rfl
 obtain⟨⟨ens,nds⟩,s⟩:=x
 simp only at g
 unfold w4x
 cases hm:y3s l 0 with
 |ok r j=>
  rw[hm]at g
  obtain⟨rfl,e⟩:=g
  rw[e]
  simp only
  cases decide (y5w ens nds=0)<;>rfl
 |bad p c=>
  rw[hm]at g
  obtain⟨hb,h1,h2⟩:=g
  simp only [hb]
  rw[h1,h2]
  rfl
theorem q6s {l:List Tk}(ht:TS l)(hl3:l.length≤300000){n:Nat}{x:(List En × List Nd) × St}(h:x4d l (y3s l) ⟨0,true,0,0⟩ x.1 x.2):PgOK ((match y3s l 0 with
  | .bad p c=>(([],[]),((tkA l p).a:Int),c)
  | .ok r _=>bif !decide (y5w r.1 r.2=0)then(([],[]),(n:Int),y5w r.1 r.2)else(r,(n:Int),0)):(List En × List Nd) × Int × Int).1:=by
 have h0:PgOK (([],[]):List En × List Nd):=⟨a0r _,a0r _,by simp,by simp,by simp⟩
 have g:=h.good rfl
 cases hm:y3s l 0 with
 |ok r j=>
  have hm':y3s l (St.i ⟨0,true,0,0⟩)= .ok r j:=hm
  rw[hm']at g
  have hj:x.2.i=j:=by rw[g.2]
  have hlt:=h.lt
  have:=v4f ht hm (by omega)
  show PgOK ((bif !decide (y5w r.1 r.2=0)then(([],[]),(n:Int),y5w r.1 r.2)else(r,(n:Int),0)):(List En × List Nd) × Int × Int).1
  cases decide (y5w r.1 r.2=0)with
  |true=>exact this
  |false=>exact h0
 |bad p c=>exact h0
theorem y9p (str:ByteArray)(hs:str.size≤100000):cF 7 [.d (.str str)]=some (pgV (y5n str))∧PgOK (y5n str).1:=by
 have h0:PgOK (([],[]):List En × List Nd):=⟨a0r _,a0r _,by simp,by simp,by simp⟩
 have hl:=u4r str hs
 have ht:=q5b fun t ht=>(y6b hs ht).1
 have hlen:(x8h str).length≤100001:=by
  have h2:=(y2u str _ 0 (a0m _)).2
  have h1:(tb str).length≤100000:=by rw[x1k];exact hs
  simp only [x8h,a0j,a0f,a0i]
  omega
 have h1:=q8m str 6000 hs
 unfold y5n
 unfold w9p at h1
 have hc: ∀X,g7 sy eF str=some X→cF 7 [.d (.str str)]=some X:=fun X h=>cOf (by kernel_rfl) rfl (by rw[q7m];exact h)
 unfold g7 at hc
 cases hd:decide ((6000:Int) < ((tb str).length:Int))with
 |true=>
  rw[hd]at h1
  refine⟨hc _ ?_,h0⟩
  simp only [go1,Nat.reduceAdd,Int.reduceEq,oP,h1]
  rfl
 |false=>
  rw[hd]at h1
  cases hx:(y4z str 0).2.2 with
  |false=>
   rw[hx]at h1
   refine⟨hc _ ?_,h0⟩
   simp only [go1,Nat.reduceAdd,Int.reduceEq,oP,h1]
   rfl
  |true=>
   rw[hx]at h1
   have h1:cF 14 [.d (.str str), .d (.int .i64 6000)]=some (.val [.sl 4 (x0a (x8h str)), .int .i64 ((tb str).length:Int), .int .i64 0]):=h1
   generalize x8h str=l at hl ht hlen h1 ⊢
   have hz:sy.bnot (sy.ieq (0:Int) 0)=false:=rfl
   have hP0: ∀(K:LL→Int→Option PRes),oP sy (PRes.val [.sl 4 (x0a l), .int .i64 ((tb str).length:Int), .int .i64 0]).leaves 0 K=K (x0a l) ((tb str).length:Int):=fun K=>by
    unfold oP;exact x3y 4 _ _
   have hI2': ∀(K:Int→Option PRes),(opI (sy.cell (PRes.val [.sl 4 (x0a l), .int .i64 ((tb str).length:Int), .int .i64 0]).leaves 2) .i64).bind K=K 0:=fun K=>rfl
   simp only [↓hC h1, ↓hP0, ↓hI2', ↓hXf hz]at hc
   rw[y0r]at hc
   ·refine(x4t (c:=w4x ((tb str).length:Int)) (σ:=Nat × List En × St) (fun x=>stD l (x0g x.2.1) x.2.2++[.sl 5 []]) (fun x=>l.length - x.2.2.i≤x.1∧x.2.1.length≤x.2.2.i+1∧x.2.2.i < l.length∧(x.2.2.b=true→ ∀e∈x.2.1,EnOK e)) (fun x=>x.1)
     (fun x y=>x4d l ((y5e l x.1 x.2.1).bind fun ens=>v3t l ens l.length []) x.2.2 y.1 y.2) ?_ (l.length,[],⟨0,true,0,0⟩) ⟨by simp only;omega,by simp,hl.pos,by simp⟩).elim fun x h=>⟨hc _ (h.1.trans (congrArg some (q3k h.2).symm)),q6s ht (by omega) h.2⟩
    rintro⟨n,acc,s⟩ ⟨hn,ha,hsl,hen⟩
    simp only at hn ha hsl hen ⊢
    obtain⟨v,s1,h2,r2,hv⟩:=x6r hl (x0g acc) s hsl (bs [101,110,117,109])
    obtain⟨n,rfl⟩: ∃m,n=m+1:=⟨n - 1,by omega⟩
    cases v with
    |true=>
     left
     obtain⟨⟨d,s2⟩,h3,r3⟩:=w5x hl (x0g acc) s1 r2.lt
     simp only at h3 r3
     have hi:=(hv rfl).2
     have hle:=r3.le
     have hfit:sy.fits (x0g acc) [z4l d] 40=true:=x6p (x0g acc) [z4l d] 40 (by rw[x1b];simp only [a0f,a0i];omega)
     have fin:sy.rapp (x0g acc) [z4l d]=x0g (acc++[d]):=by rw[z1x];rfl
     refine⟨(n,acc++[d],s2),?_,⟨by simp only;omega,by simp only [a0j,a0f,a0i];omega,r3.lt,fun hb e he=> ?_⟩,a1a _,fun y hy=>Post.assoc (r2.bind (Post.assoc (r3.bind hy)))⟩
     ·simp only [↓lV0, ↓lL6, ↓hC h2, ↓hB0, ↓hV1, ↓hCt, ↓hC h3, ↓k0g, ↓k0f, ↓k4v]
      rw[←fin]
      exact hXt hfit _ _
     ·obtain⟨hb1,hm⟩:=r3.yes hb
      obtain⟨hb0,_⟩:=r2.yes hb1
      rcases a1h.1 he with he|he
      ·exact hen hb0 e he
      ·rw[a1l.1 he];exact(y6r ht hm).1
    |false=>
     right
     have hen1:s1.b=true→ ∀e∈acc,EnOK e:=fun hb=>hen (r2.yes hb).1
     have hEl:acc.length≤1000000:=by omega
     simp only [↓lV0, ↓lL6, ↓hC h2, ↓hB0, ↓hV1, ↓hCf]
     rw[y0r]
     refine(x4t (c:=fun x=>Sum.inr (w4x ((tb str).length:Int) x)) (σ:=Nat × List Nd × St) (fun x=>stD l (x0g acc) x.2.2++[.sl 5 (x2b x.2.1)]) (fun x=>l.length - x.2.2.i≤x.1∧x.2.1.length≤x.2.2.i+1∧x.2.2.i < l.length∧(x.2.2.b=true→(∀e∈acc,EnOK e)∧ ∀e∈x.2.1,NdJ x.2.2.i e)) (fun x=>x.1)
      (fun x y=>x4d l (v3t l acc x.1 x.2.1) x.2.2 y.1 y.2) ?_ (l.length,[],s1) ⟨by simp only;omega,by simp,r2.lt,fun hb=>⟨hen1 hb,by simp⟩⟩).imp fun x h=>⟨h.1,Post.assoc (r2.bind h.2)⟩
     clear h2 r2 hv hn ha hsl hen hen1
     rintro⟨n,nds,s⟩ ⟨hn,ha,hsl,hen⟩
     simp only at hn ha hsl hen ⊢
     obtain⟨v,s1,h2,r2,hv⟩:=x6r hl (x0g acc) s hsl (bs [110,111,100,101])
     obtain⟨n,rfl⟩: ∃m,n=m+1:=⟨n - 1,by omega⟩
     cases v with
     |true=>
      left
      obtain⟨⟨d,s2⟩,h3,r3⟩:=w5s hl ht acc hEl s1 r2.lt
      simp only at h3 r3
      have hi:=(hv rfl).2
      have hle:=r3.le
      have hfit:sy.fits (x2b nds) [y5r d] 112=true:=x6p (x2b nds) [y5r d] 112 (by rw[x1x];simp only [a0f,a0i];omega)
      have fin:sy.rapp (x2b nds) [y5r d]=x2b (nds++[d]):=by rw[z1k];rfl
      refine⟨(n,nds++[d],s2),?_,⟨by simp only;omega,by simp only [a0j,a0f,a0i];omega,r3.lt,fun hb=> ?_⟩,a1a _,fun y hy=>Post.assoc (r2.bind (Post.assoc (r3.bind hy)))⟩
      ·simp only [↓lV0, ↓lL6, ↓hC h2, ↓hB0, ↓hV1, ↓hCt, ↓hC h3, ↓k0e, ↓k0d, ↓k0c, ↓k0b, ↓k0a, ↓k4t]
       rw[←fin]
       exact hXt hfit _ _
      ·obtain⟨hb1,hm⟩:=r3.yes hb
       obtain⟨hb0,_⟩:=r2.yes hb1
       refine⟨(hen hb0).1,fun e he=> ?_⟩
       rcases a1h.1 he with he|he
       ·exact((hen hb0).2 e he).mono (by simp only;omega)
       ·rw[a1l.1 he];exact(z3b ht hm).1
     |false=>
      right
      have hr:x4d l (y7s l acc (n+1) nds) s nds s1:=r2.bind (Post.ret r2.lt)
      cases hb:s1.b with
      |false=>
       refine⟨((acc,nds),s1),?_,hr.bind (x2i r2.lt hb)⟩
       have k1:=q8l s1.b s1.a s1.w
       rw[hb]at k1
       simp only [↓lV0, ↓lL6, ↓hC h2, ↓hB0, ↓hV1, ↓hCf, ↓hXf hb]
       rw[hb]
       simp only [↓hC k1, ↓hB0, ↓hI1, ↓hI2, ↓hCt]
       unfold w4x
       simp only [hb]
      |true=>
       have q1:sy.inr (s1.i:Int) (sy.rlen (x0a l))=true:=x5t r2.lt
       have q2:=x3d r2.lt
       have hT: ∀(K:Int→ByteArray→Int→Int→Option (List D ⊕ List D ⊕ PRes)),oT sy (sy.row (x0a l) (s1.i:Int)) 0 K=K (tkA l s1.i).k (tkA l s1.i).s (tkA l s1.i).n (tkA l s1.i).a:=fun K=>by rw[q2];rfl
       cases hk:decide ((tkA l s1.i).k=6)with
       |false=>
        obtain⟨s2,h4,r4,hb4,_⟩:=y1x hl (x0g acc) s1 r2.lt s1.i r2.lt 2
        have rf:x4d l (v0w l) s1 () s2:=r4.of fun _=>by unfold v0w w4y;rw[hk]
        refine⟨((acc,nds),s2),?_,hr.bind (rf.bind (Post.ret rf.lt))⟩
        have k1:=q8l s2.b s2.a s2.w
        have hk':sy.bnot (sy.ieq (tkA l s1.i).k 6)=true:=by show(!decide _)=true;rw[hk];rfl
        simp only [↓lV0, ↓lL6, ↓hC h2, ↓hB0, ↓hV1, ↓hCf, ↓hXt hb, ↓hXt q1, ↓hT, ↓hXt hk', ↓hC h4, ↓hV0, ↓hC k1]
        rw[hb4]
        simp only [↓hB0, ↓hI1, ↓hI2, ↓hCt]
        unfold w4x
        simp only [hb4]
       |true=>
        have rf:x4d l (v0w l) s1 () s1:=by
         refine⟨a0m _,r2.lt,fun _=>rfl,fun _=> ?_⟩
         unfold v0w
         rw[hk]
         obtain⟨i,b,a,w⟩:=s1
         cases hb
         exact⟨rfl,rfl⟩
        refine⟨((acc,nds),s1),?_,hr.bind (rf.bind (Post.ret rf.lt))⟩
        obtain⟨hb0,_⟩:=r2.yes hb
        have hck:=w6n acc nds hEl (by omega) fun e he=>((hen hb0).2 e he).ok (by omega)
        have k1:=q8l s1.b s1.a s1.w
        have hk':sy.bnot (sy.ieq (tkA l s1.i).k 6)=false:=by show(!decide _)=false;rw[hk];rfl
        have hsz:sy.slen str=((tb str).length:Int):=by show(str.size:Int)=_;rw[x0u]
        rw[hb]at k1
        simp only [↓lV0, ↓lL6, ↓hC h2, ↓hB0, ↓hV1, ↓hCf, ↓hXt hb, ↓hXt q1, ↓hT, ↓hXf hk']
        rw[hb]
        simp only [↓hC k1, ↓hB0, ↓hI1, ↓hI2, ↓hCf, ↓hC hck, ↓hI0,hsz]
        unfold w4x
        simp only [hb]
        show cond (!decide (y5w acc nds=0)) _ _=_
        cases decide (y5w acc nds=0)<;>rfl
theorem z2g (str:ByteArray)(hs:str.size≤100000):cF 7 [.d (.str str)]=some (pgV (y5n str)):=(y9p str hs).1
theorem v4e (str:ByteArray)(hs:str.size≤100000):PgOK (y5n str).1:=(y9p str hs).2
end Go.Vm
end

section
set_option maxRecDepth 100000
set_option maxHeartbeats 4000000
namespace Go.Vm
open Go.Proofs
def w4w (l:List Tk)(sz:Int)(x:(List En × List Nd) × St):PRes:=match x.2.b with
 |false=> .val [.sl 2 [], .sl 5 [], .int .i64 ((tkA l x.2.i).a:Int), .int .i64 (bif decide (x.2.a=0)then 2 else x.2.a)]
 |true=>bif !decide (y5w x.1.1 x.1.2=0)then .val [.sl 2 [], .sl 5 [], .int .i64 sz, .int .i64 (y5w x.1.1 x.1.2)]else .val [.sl 2 (x0g x.1.1), .sl 5 (x2b x.1.2), .int .i64 sz, .int .i64 0]
theorem w4v {l:List Tk}{n:Nat}{x:(List En × List Nd) × St}(h:x3g l (y3s l) ⟨0,true,0,0⟩ x.1 x.2):pgV (match y3s l 0 with
  | .bad p c=>(([],[]),((tkA l p).a:Int),c)
  | .ok r _=>bif !decide (y5w r.1 r.2=0)then(([],[]),(n:Int),y5w r.1 r.2)else(r,(n:Int),0))=w4w l (n:Int) x:=by
 have g:=h.good rfl
 obtain⟨⟨ens,nds⟩,s⟩:=x
 simp only at g
 unfold w4w
 cases hm:y3s l 0 with
 |ok r j=>
  rw[hm]at g
  obtain⟨rfl,e⟩:=g
  rw[e]
  simp only
  cases decide (y5w ens nds=0)<;>rfl
 |bad p c=>
  rw[hm]at g
  obtain⟨hb,h1,h2⟩:=g
  simp only [hb]
  rw[h1]
  rcases h2 with⟨h2,h3⟩|⟨h2,h3⟩
  ·rw[h2,x1c h3];rfl
  ·rw[h2,h3];rfl
def qS (str:ByteArray)(l:List Tk)(ens nds:LL)(s:St):List D:=[.str str, .sl 4 (x0a l), .sl 4 (x0a l), .int .i64 (s.i:Int), .bool !s.b, .int .i64 s.a, .sl 2 ens, .sl 5 nds]
section
variable {α : Type} (l : List Tk) (en : LL) (s : St) (r : List D) (e : En) (n : Nd) (str : ByteArray) (x y : LL)
theorem qs0 (K:ByteArray→Option α):(opS (sy.cell (qS str l x y s) 0)).bind K=K str:=(rfl)
theorem qs1 (K:LL→Option α):(opL (sy.cell (qS str l x y s) 1) 4).bind K=K (x0a l):=x3y 4 _ K
theorem qs2 (K:LL→Int→Bool→Option α):oR sy (qS str l x y s) 2 K=K (x0a l) (s.i:Int) (!s.b):=(rfl)
theorem qs5 (K:Int→Option α):(opI (sy.cell (qS str l x y s) 5) .i64).bind K=K s.a:=(rfl)
theorem qs6 (K:LL→Option α):(opL (sy.cell (qS str l x y s) 6) 2).bind K=K x:=x3y 2 _ K
theorem qs7 (K:LL→Option α):(opL (sy.cell (qS str l x y s) 7) 5).bind K=K y:=x3y 5 _ K
theorem k4w (K:Int→LL→Int→Bool→LL→Option α):oW sy (PRes.val (z4l e++qD l en s)).leaves 2 K=K s.a (x0a l) (s.i:Int) (!s.b) en:=(rfl)
theorem k4u (K:Int→LL→Int→Bool→LL→Option α):oW sy (PRes.val (y5r n++qD l en s)).leaves 5 K=K s.a (x0a l) (s.i:Int) (!s.b) en:=(rfl)
end
theorem u6l (str:ByteArray)(hs:str.size≤100000)(hT2:w8t (x8h str)):cF 8 [.d (.str str)]=some (pgV (y5n str)):=by
 have hl:=u4r str hs
 have ht:=q5b fun t ht=>(y6b hs ht).1
 have hT:=q5c fun t ht=>(y6b hs ht).2
 have hlen:(x8h str).length≤100001:=by
  have h2:=(y2u str _ 0 (a0m _)).2
  have h1:(tb str).length≤100000:=by rw[x1k];exact hs
  simp only [x8h,a0j,a0f,a0i]
  omega
 have h1:=q3u str 6000 hs
 unfold y5n
 unfold w9p at h1
 refine cOf (by kernel_rfl) rfl ?_
 rw[q7l]
 unfold g8
 cases hd:decide ((6000:Int) < ((tb str).length:Int))with
 |true=>
  rw[hd]at h1
  simp only [go1,Nat.reduceAdd,Int.reduceEq,oP,h1]
  rfl
 |false=>
  rw[hd]at h1
  cases hx:(y4z str 0).2.2 with
  |false=>
   rw[hx]at h1
   simp only [go1,Nat.reduceAdd,Int.reduceEq,oP,h1]
   rfl
  |true=>
   rw[hx]at h1
   have h1:cF 18 [.d (.str str), .d (.int .i64 6000)]=some (.val [.sl 4 (x0a (x8h str)), .int .i64 ((tb str).length:Int), .int .i64 0]):=h1
   generalize x8h str=l at hl ht hT hT2 hlen h1 ⊢
   have hz:sy.bnot (sy.ieq (0:Int) 0)=false:=rfl
   have hP0: ∀(K:LL→Int→Option PRes),oP sy (PRes.val [.sl 4 (x0a l), .int .i64 ((tb str).length:Int), .int .i64 0]).leaves 0 K=K (x0a l) ((tb str).length:Int):=fun K=>by
    unfold oP;exact x3y 4 _ _
   have hI2': ∀(K:Int→Option PRes),(opI (sy.cell (PRes.val [.sl 4 (x0a l), .int .i64 ((tb str).length:Int), .int .i64 0]).leaves 2) .i64).bind K=K 0:=fun K=>rfl
   simp only [↓hC h1, ↓hP0, ↓hI2', ↓hXf hz]
   rw[y0r]
   refine(x4t (c:=w4w l ((tb str).length:Int)) (σ:=Nat × List En × St) (fun x=>qS str l (x0g x.2.1) [] x.2.2) (fun x=>l.length - x.2.2.i≤x.1∧x.2.1.length≤x.2.2.i+1∧x.2.2.i < l.length∧(x.2.2.b=true→ ∀e∈x.2.1,EnOK e)) (fun x=>x.1)
     (fun x y=>x3g l ((y5e l x.1 x.2.1).bind fun ens=>v3t l ens l.length []) x.2.2 y.1 y.2) ?_ (l.length,[],⟨0,true,0,0⟩) ⟨by simp only;omega,by simp,hl.pos,by simp⟩).elim fun x h=>h.1.trans (congrArg some (w4v h.2).symm)
   rintro⟨n,acc,s⟩ ⟨hn,ha,hsl,hen⟩
   simp only at hn ha hsl hen ⊢
   obtain⟨v,s1,h2,r2,hv,e1⟩:=x6m hl s hsl (bs [101,110,117,109])
   obtain⟨n,rfl⟩: ∃m,n=m+1:=⟨n - 1,by omega⟩
   cases v with
   |true=>
    left
    obtain⟨⟨d,s2⟩,h3,r3⟩:=w0s hl (x0g acc) s1 r2.lt
    simp only at h3 r3
    rw[e1]at h3
    have hi:=(hv rfl).2.2
    have hle:=r3.le
    have hfit:sy.fits (x0g acc) [z4l d] 40=true:=x6p (x0g acc) [z4l d] 40 (by rw[x1b];simp only [a0f,a0i];omega)
    have fin:sy.rapp (x0g acc) [z4l d]=x0g (acc++[d]):=by rw[z1x];rfl
    refine⟨(n,acc++[d],s2),?_,⟨by simp only;omega,by simp only [a0j,a0f,a0i];omega,r3.lt,fun hb e he=> ?_⟩,a1a _,fun y hy=>Post.assoc (r2.bind (Post.assoc (r3.bind hy)))⟩
    ·simp only [↓qs0, ↓qs1, ↓qs2, ↓qs5, ↓qs6, ↓qs7, ↓hC h2, ↓hB0, ↓hN1, ↓hCt, ↓hC h3, ↓k0g, ↓k0f, ↓k4w]
     rw[←fin]
     exact hXt hfit _ _
    ·obtain⟨hb1,hm⟩:=r3.yes hb
     obtain⟨hb0,_⟩:=r2.yes hb1
     rcases a1h.1 he with he|he
     ·exact hen hb0 e he
     ·rw[a1l.1 he];exact(y6r ht hm).1
   |false=>
    right
    have hen1:s1.b=true→ ∀e∈acc,EnOK e:=fun hb=>hen (r2.yes hb).1
    have hEl:acc.length≤1000000:=by omega
    simp only [↓qs0, ↓qs1, ↓qs2, ↓qs5, ↓qs6, ↓qs7, ↓hC h2, ↓hB0, ↓hN1, ↓hCf]
    rw[y0r,←e1]
    refine(x4t (c:=fun x=>Sum.inr (w4w l ((tb str).length:Int) x)) (σ:=Nat × List Nd × St) (fun x=>qS str l (x0g acc) (x2b x.2.1) x.2.2) (fun x=>l.length - x.2.2.i≤x.1∧x.2.1.length≤x.2.2.i+1∧x.2.2.i < l.length∧(x.2.2.b=true→(∀e∈acc,EnOK e)∧ ∀e∈x.2.1,NdJ x.2.2.i e)) (fun x=>x.1)
      (fun x y=>x3g l (v3t l acc x.1 x.2.1) x.2.2 y.1 y.2) ?_ (l.length,[],s1) ⟨by simp only;omega,by simp,r2.lt,fun hb=>⟨hen1 hb,by simp⟩⟩).imp fun x h=>⟨h.1,Post.assoc (r2.bind h.2)⟩
    clear h2 r2 hv hn ha hsl hen hen1
    rintro⟨n,nds,s⟩ ⟨hn,ha,hsl,hen⟩
    simp only at hn ha hsl hen ⊢
    obtain⟨v,s1,h2,r2,hv,e1⟩:=x6m hl s hsl (bs [110,111,100,101])
    obtain⟨n,rfl⟩: ∃m,n=m+1:=⟨n - 1,by omega⟩
    cases v with
    |true=>
     left
     obtain⟨⟨d,s2⟩,h3,r3⟩:=w0r hl ht hT hT2 acc hEl s1 r2.lt
     simp only at h3 r3
     rw[e1]at h3
     have hi:=(hv rfl).2.2
     have hle:=r3.le
     have hfit:sy.fits (x2b nds) [y5r d] 112=true:=x6p (x2b nds) [y5r d] 112 (by rw[x1x];simp only [a0f,a0i];omega)
     have fin:sy.rapp (x2b nds) [y5r d]=x2b (nds++[d]):=by rw[z1k];rfl
     refine⟨(n,nds++[d],s2),?_,⟨by simp only;omega,by simp only [a0j,a0f,a0i];omega,r3.lt,fun hb=> ?_⟩,a1a _,fun y hy=>Post.assoc (r2.bind (Post.assoc (r3.bind hy)))⟩
     ·simp only [↓qs0, ↓qs1, ↓qs2, ↓qs5, ↓qs6, ↓qs7, ↓hC h2, ↓hB0, ↓hN1, ↓hCt, ↓hC h3, ↓k0e, ↓k0d, ↓k0c, ↓k0b, ↓k0a, ↓k4u]
      rw[←fin]
      exact hXt hfit _ _
     ·obtain⟨hb1,hm⟩:=r3.yes hb
      obtain⟨hb0,_⟩:=r2.yes hb1
      refine⟨(hen hb0).1,fun e he=> ?_⟩
      rcases a1h.1 he with he|he
      ·exact((hen hb0).2 e he).mono (by simp only;omega)
      ·rw[a1l.1 he];exact(z3b ht hm).1
    |false=>
     right
     have hr:x3g l (y7s l acc (n+1) nds) s nds s1:=r2.bind (Post.ret r2.lt)
     have q1:sy.inr (s1.i:Int) (sy.rlen (x0a l))=true:=x5t r2.lt
     have q0:=x5t r2.lt
     have q2:=x3d r2.lt
     have hA: ∀(K:Int→Option (List D ⊕ List D ⊕ PRes)),(opI (sy.cell (sy.skip 3 (sy.row (x0a l) (s1.i:Int))) 0) .i64).bind K=K ((tkA l s1.i).a:Int):=fun K=>by rw[q2];rfl
     have hK: ∀(K:Int→Option (List D ⊕ List D ⊕ List D ⊕ PRes)),(opI (sy.cell (sy.row (x0a l) (s1.i:Int)) 0) .i64).bind K=K (tkA l s1.i).k:=fun K=>by rw[q2];rfl
     cases hb:s1.b with
     |false=>
      refine⟨((acc,nds),s1),?_,hr.bind (x2i r2.lt hb)⟩
      have hx1:(!s1.b)=true:=by rw[hb];rfl
      have hx2:sy.bnot (!s1.b)=false:=by rw[hb];rfl
      unfold w4w
      simp only [hb]
      simp only [↓qs0, ↓qs1, ↓qs2, ↓qs5, ↓qs6, ↓qs7, ↓hC h2, ↓hB0, ↓hN1, ↓hCf]
      rw[←e1,hb]
      simp only [q0,hA,go1]
      cases decide (s1.a=0)<;>simp only [q0,go1]
     |true=>
      have hx1:(!s1.b)=false:=by rw[hb];rfl
      cases hk:decide ((tkA l s1.i).k=6)with
      |false=>
       have hk':sy.bnot (sy.ieq (tkA l s1.i).k 6)=true:=by show(!decide _)=true;rw[hk];rfl
       have rf:x3g l (v0w l) s1 () ⟨s1.i,false,s1.a,s1.w⟩:=by
        refine⟨a0m _,r2.lt,fun h=>(by rw[hb]at h;cases h),fun _=> ?_⟩
        unfold v0w
        rw[hk]
        exact⟨rfl,rfl, .inr ⟨rfl,rfl⟩⟩
       refine⟨((acc,nds),⟨s1.i,false,s1.a,s1.w⟩),?_,hr.bind (rf.bind (Post.ret rf.lt))⟩
       unfold w4w
       simp only [↓qs0, ↓qs1, ↓qs2, ↓qs5, ↓qs6, ↓qs7, ↓hC h2, ↓hB0, ↓hN1, ↓hCf]
       rw[←e1,hb]
       simp only [q0,hA,hK,hk,go1]
       cases decide (s1.a=0)<;>simp only [q0,go1]
      |true=>
       have rf:x3g l (v0w l) s1 () s1:=by
        refine⟨a0m _,r2.lt,fun _=>rfl,fun _=> ?_⟩
        unfold v0w
        rw[hk]
        obtain⟨i,b,a,w⟩:=s1
        cases hb
        exact⟨rfl,rfl⟩
       refine⟨((acc,nds),s1),?_,hr.bind (rf.bind (Post.ret rf.lt))⟩
       obtain⟨hb0,_⟩:=r2.yes hb
       have hck:=w0w acc nds hEl (by omega) (hen hb0).1 fun e he=>((hen hb0).2 e he).ok (by omega)
       have hsz:sy.slen str=((tb str).length:Int):=by show(str.size:Int)=_;rw[x0u]
       unfold w4w
       simp only [hb]
       simp only [↓qs0, ↓qs1, ↓qs2, ↓qs5, ↓qs6, ↓qs7, ↓hC h2, ↓hB0, ↓hN1, ↓hCf]
       rw[hb,hsz]
       simp only [q0,hA,hK,hk,hck,go1]
       cases decide (y5w acc nds=0)<;>rfl
end Go.Vm
end

section
set_option maxRecDepth 100000
set_option maxHeartbeats 4000000
namespace Go.Vm
open Go.Proofs
theorem w5b (k:IntKind)(a:Int):eqD (.int k a) (.int k a)=true:=by
 show(a == a)=true
 simp
theorem w5a (a:ByteArray):eqD (.str a) (.str a)=true:=by
 show(_ == _)=true
 simp
theorem z9p (l:List Dc)(h:l.length≤1000000):cF 64 [.d (.sl 6 (x0k l)), .d (.sl 6 (x0k l))]=some (.val [.bool true]):=by
 refine cOf (by kernel_rfl) rfl ?_
 rw[q2n]
 simp only [g64,go1,x0v]
 refine x2y l.length (fun i=>[.sl 6 (x0k l), .sl 6 (x0k l), .int .i64 (i:Int)]) rfl (fun i hlt=> ?_) ?_
 ·have hx:=a0b hlt
  have hd:y5c [.str l[i].n, .int .i64 l[i].k, .int .i64 l[i].e, .int .i64 l[i].c, .str l[i].o, .str l[i].q] [.str l[i].n, .int .i64 l[i].k, .int .i64 l[i].e, .int .i64 l[i].c, .str l[i].o, .str l[i].q]=true:=by
   simp only [y5c,w5b,w5a,a1v]
  simp only [go1,oD,z0p,x0v,x0n hlt,x0p hlt,y1n hx,hd,x0c hlt (by omega)]
  rfl
 ·simp only [go1,x0v,x0h]
theorem w0i (l:List En)(h:l.length≤1000000)(hc: ∀e∈l,e.2.length≤1000000):cF 23 [.d (.sl 2 (x0g l)), .d (.sl 2 (x0g l))]=some (.val [.bool true]):=by
 refine cOf (by kernel_rfl) rfl ?_
 rw[q3b]
 simp only [g23,go1,x1b]
 refine x2y l.length (fun i=>[.sl 2 (x0g l), .sl 2 (x0g l), .int .i64 (i:Int)]) rfl (fun i hlt=> ?_) ?_
 ·have hx:=a0b hlt
  have h1:=z4c l[i].2 (hc _ (a1p hlt))
  simp only [go1,x1b,x0n hlt,x0p hlt,y9b hx,q5e,x1l,h1,x0c hlt (by omega)]
  rfl
 ·simp only [go1,x1b,x0h]
theorem k4i {α:Type}(d:D)(k n o:Int)(q:ByteArray)(a u:LL)(K:Int→Int→ByteArray→Int→LL→LL→Option α):oE sy (sy.skip 1 [d, .int .i64 k, .int .i64 n, .str q, .int .i64 o, .sl 1 a, .sl 6 u]) 0 K=K k n q o a u:=rfl
theorem q0e (n:Nd)(h:NdOK n):cF 24 [nV n,nV n]=some (.val [.bool true]):=by
 have hal:=h.al
 have hdl:n.ins.length≤1000000∧n.outs.length≤1000000∧n.vars.length≤1000000:=by
  unfold y5h at hal;simp only [a0j]at hal;omega
 have h1:=z9p n.ins hdl.1
 have h2:=z9p n.outs hdl.2.1
 have h3:=z9p n.vars hdl.2.2
 have heq:=h.eq
 have heo:=h.eo
 obtain⟨nm,ins,outs,vars,eqs⟩:=n
 simp only at h1 h2 h3 heq heo
 refine cOf (by kernel_rfl) rfl ?_
 rw[q3a]
 simp only [g24,go1,x1l,h1,h2,h3,x2z]
 refine x2y eqs.length (fun i=>[.int .i64 (i:Int), .str nm, .sl 6 (x0k ins), .sl 6 (x0k outs), .sl 6 (x0k vars), .sl 7 (x2q eqs), .str nm, .sl 6 (x0k ins), .sl 6 (x0k outs), .sl 6 (x0k vars), .sl 7 (x2q eqs)]) rfl (fun i hlt=> ?_) ?_
 ·have hx:=a0b hlt
  have hok:=heo _ (a1p hlt)
  have hr:=z9s hx
  generalize eqs[i]=x at hok hr
  obtain⟨ns,e⟩:=x
  obtain⟨k,m,y,o,a,u⟩:=e
  have c1:=z4c ns hok.ns
  have c2:=u4d (Ex.mk k m y o a u).size k m y o a u (a0m _) hok.sz hok.fn
  have hr':sy.row (x2q eqs) (i:Int)= [.sl 1 (x0e ns), .int .i64 k, .int .i64 m, .str y, .int .i64 o, .sl 1 (x0e a), .sl 6 (Ex.rows u)]:=hr
  simp only [go1,x2z,x0n hlt,x0p hlt,hr',k4i,c1,c2,x0c hlt (by omega)]
  rfl
 ·simp only [go1,x2z,x0h]
theorem q0d (ens:List En)(nds:List Nd)(hE:ens.length≤1000000)(hN:nds.length≤1000000)(hc: ∀e∈ens,e.2.length≤1000000)(h: ∀n∈nds,NdOK n):cF 9 [.agg [.d (.sl 2 (x0g ens)), .d (.sl 5 (x2b nds))], .agg [.d (.sl 2 (x0g ens)), .d (.sl 5 (x2b nds))]]=some (.val [.bool true]):=by
 have h1:=w0i ens hE hc
 refine cOf (by kernel_rfl) rfl ?_
 rw[q7k]
 simp only [g9,go1,h1,x1x]
 refine x2y nds.length (fun i=>[.int .i64 (i:Int), .sl 2 (x0g ens), .sl 5 (x2b nds), .sl 2 (x0g ens), .sl 5 (x2b nds)]) rfl (fun i hlt=> ?_) ?_
 ·have hx:=a0b hlt
  have c1:=q0e nds[i] (h _ (a1p hlt))
  simp only [go1,y5r,x1x,x0n hlt,x0p hlt,y1i hx,c1,x0c hlt (by omega)]
  rfl
 ·simp only [go1,x1x,x0h]
theorem v9x {l:List Tk}(h: ∀t∈l,(t.k=1→t.s≠bs [59])∧(t.k=5→t.s.size≤2)):w8t l:=fun j=>by
 have:=z2n (Q:=fun t=>(t.k=1→t.s≠bs [59])∧(t.k=5→t.s.size≤2)) ⟨fun h=>(by cases h),fun _=>(by decide)⟩ h j
 refine⟨this.1,fun hk e=> ?_⟩
 have h2:=this.2 hk
 rw[e]at h2
 revert h2;decide
theorem v4y (s:ByteArray)(h:(x1a s).k=1):(x1a s).s≠bs [59]:=by
 unfold x1a at h ⊢
 simp only at h ⊢
 split at h
 ·unfold y2d
  simp only
  have key:s.extract 0 (x1e x1g (tb s))≠bs [59]:=fun e=>by
   have e:=congrArg tb e
   rw[x5q,a2g]at e
   unfold x1e at e
   have e2:(tb s).take ((tb s).takeWhile x1g).length=(tb s).takeWhile x1g:=by
    have h1:=(List.takeWhile_prefix x1g (l:=tb s))
    exact(List.prefix_iff_eq_take.1 h1).symm
   rw[e2]at e
   have h3: ∀x∈(tb s).takeWhile x1g,x1g x=true:=fun x hx=>a0o.1 List.all_takeWhile x hx
   have h4:tb (bs [59])= [59]:=rfl
   rw[e,h4]at h3
   have:=h3 59 (by simp)
   revert this;decide
  split<;>exact key
 ·cases h
 ·unfold y5o at h
  split at h<;>cases h
 ·unfold x4m at h
  split at h<;>cases h
theorem z6o (s:ByteArray): ∀(m a:Nat),(tb s).length - a≤m→ ∀t∈(y4z s a).1,t.k=1→t.s≠bs [59]
 |m,a,hm=>by
  rw[y4z]
  split
  ·rename_i hp
   split
   ·rename_i h
    have ih:=z6o s (m - 1) (a+x5p ((tb s).drop a)+(x1a (s.extract (a+x5p ((tb s).drop a)) (tb s).length)).w) (by omega)
    intro t ht
    rcases a1t.1 ht with rfl|ht
    ·exact fun h5=>v4y _ h5
    ·exact ih t ht
   ·intro t ht;cases ht
  ·intro t ht;cases ht
 termination_by m a=>(tb s).length - a
 decreasing_by omega
theorem v3f (s:ByteArray)(hs:s.size≤100000):w8t (x8h s):=v9x fun t ht=>by
 refine⟨?_,(y6b hs ht).2⟩
 rcases a1h.1 ht with h|h
 ·exact z6o s _ 0 (a0m _) t h
 ·rw[a1l.1 h];exact fun h=>by cases h
end Go.Vm
end

section
set_option maxRecDepth 100000
set_option maxHeartbeats 4000000
namespace Go.Vm
open Go.Proofs
def q7c (s:ByteArray):Nat→Nat→Option (List Tk × Nat × Bool)
 |0,_=>none
 |n+1,a=>match decide (a+x5p ((tb s).drop a) < (tb s).length)with
  |true=>match (x1a (s.extract (a+x5p ((tb s).drop a)) (tb s).length)).ok&&decide (1≤(x1a (s.extract (a+x5p ((tb s).drop a)) (tb s).length)).w)with
   |true=>match q7c s n (a+x5p ((tb s).drop a)+(x1a (s.extract (a+x5p ((tb s).drop a)) (tb s).length)).w)with
    |some r=>some (⟨(x1a (s.extract (a+x5p ((tb s).drop a)) (tb s).length)).k,(x1a (s.extract (a+x5p ((tb s).drop a)) (tb s).length)).s,(x1a (s.extract (a+x5p ((tb s).drop a)) (tb s).length)).n,a+x5p ((tb s).drop a)⟩::r.1,r.2)
    |none=>none
   |false=>some ([],a+x5p ((tb s).drop a),false)
  |false=>some ([],a+x5p ((tb s).drop a),true)
theorem u9o (s:ByteArray): ∀(n a:Nat) {r:List Tk × Nat × Bool},q7c s n a=some r→y4z s a=r
 |0,a,r,h=>by cases h
 |n+1,a,r,h=>by
  rw[y4z]
  unfold q7c at h
  split at h
  ·rename_i hp
   rw[dif_pos (a0c hp)]
   split at h
   ·rename_i ht
    rw[a0p]at ht
    rw[dif_pos ⟨ht.1,a0c ht.2⟩]
    split at h
    ·rename_i q hq
     rw[u9o s n _ hq]
     cases h;rfl
    ·cases h
   ·rename_i ht
    rw[dif_neg (fun e=>by rw[e.1,x1m e.2]at ht;cases ht)]
    cases h;rfl
  ·rename_i hp
   rw[dif_neg (of_decide_eq_false hp)]
   cases h;rfl
def lvS:ByteArray:=bs [110,111,100,101,32,102,40,97,58,32,105,110,116,41,32,114,101,116,117,114,110,115,32,40,98,58,32,105,110,116,41,32,108,101,116,32,98,32,61,32,97,59,32,116,101,108]
def lvT:List Tk:=[⟨1,bs [110,111,100,101],0,0⟩,⟨1,bs [102],0,5⟩,⟨5,bs [40],0,6⟩,⟨1,bs [97],0,7⟩,⟨5,bs [58],0,8⟩,⟨1,bs [105,110,116],0,10⟩,⟨5,bs [41],0,13⟩,⟨1,bs [114,101,116,117,114,110,115],0,15⟩,⟨5,bs [40],0,23⟩,⟨1,bs [98],0,24⟩,⟨5,bs [58],0,25⟩,⟨1,bs [105,110,116],0,27⟩,⟨5,bs [41],0,30⟩,⟨1,bs [108,101,116],0,32⟩,⟨1,bs [98],0,36⟩,⟨5,bs [61],0,38⟩,⟨1,bs [97],0,40⟩,⟨5,bs [59],0,41⟩,⟨1,bs [116,101,108],0,43⟩]
theorem lv1:y4z lvS 0=(lvT,46,true):=u9o _ 60 _ (by kernel_rfl)
def lvN:Nd:=⟨bs [102],[⟨bs [97],1,0,0,bs [],bs []⟩],[⟨bs [98],1,0,0,bs [],bs []⟩],[],[⟨[bs [98]], .mk 3 0 (bs [97]) 0 [] []⟩]⟩
theorem lv3:y3s (lvT++[⟨6,bs [],0,46⟩]) 0= .ok ([],[lvN]) 19:=by kernel_rfl
theorem lv4:y5w [] [lvN]=0:=by kernel_rfl
theorem lv5:y5n lvS=(([],[lvN]),46,0):=by
 have e:x8h lvS=lvT++[⟨6,bs [],0,46⟩]:=by
  unfold x8h
  rw[lv1]
  rfl
 have e2:(tb lvS).length=46:=by kernel_rfl
 unfold y5n
 rw[lv1,e,e2,lv3]
 simp only [lv4]
 rfl
end Go.Vm
end

section
set_option maxRecDepth 100000
set_option maxHeartbeats 4000000
namespace Go.Vm
open Go.Proofs
theorem lv2:cF 13 [.agg [.d (.sl 2 []), .d (.sl 5 (x2b [lvN]))]]=some (.val [.str (bs [110,111,100,101,32,102,40,97,58,32,105,110,116,41,32,114,101,116,117,114,110,115,32,40,98,58,32,105,110,116,41,10,108,101,116,10,32,32,98,32,61,32,97,59,10,116,101,108,10])]):=v1o 60 fun n=>by
 rw[Nat.add_comm]
 kernel_rfl
end Go.Vm
end

section
set_option maxRecDepth 1000000
set_option maxHeartbeats 0
namespace Go.Vm
open Go.Proofs
noncomputable section
variable (A : Sy) (E : Env)
def g6 (A:Sy)(E:Env):Option PRes:=(E.call 7 [(.d (.str (bs [110,111,100,101,32,102,40,97,58,32,105,110,116,41,32,114,101,116,117,114,110,115,32,40,98,58,32,105,110,116,41,32,108,101,116,32,98,32,61,32,97,59,32,116,101,108])))]).bind fun p1=>(opL (A.cell p1.leaves 0) 2).bind fun l3=>(opL (A.cell p1.leaves 1) 5).bind fun l4=>(opI (A.cell p1.leaves 2) .i64).bind fun n5=>(opI (A.cell p1.leaves 3) .i64).bind fun n6=>(E.call 10 [(.d (.int .i64 n6))]).bind fun p7=>(opI (A.cell p7.leaves 0) .i64).bind fun n9=>x0q (bif (A.ieq n9 0)then some (.inl [(.bool (A.ieq n5 46))]) else some (.inl [(.bool false)])) fun ds10=>(opB (A.cell ds10 0)).bind fun b11=>x0q (bif b11 then (E.call 13 [(.agg [(.d (.sl 2 l3)),(.d (.sl 5 l4))])]).bind fun p12=>(opS (A.cell p12.leaves 0)).bind fun s14=>some (.inl [(.bool (A.seq s14 (bs [110,111,100,101,32,102,40,97,58,32,105,110,116,41,32,114,101,116,117,114,110,115,32,40,98,58,32,105,110,116,41,10,108,101,116,10,32,32,98,32,61,32,97,59,10,116,101,108,10])))]) else some (.inl [(.bool false)])) fun ds15=>(opB (A.cell ds15 0)).bind fun b16=>some (.val [(.bool b16)])
theorem q7n:(x1o A Tryz.prog cs 6 []).run E=g6 A E:=by kernel_rfl
end
end Go.Vm
end

section
set_option maxRecDepth 100000
set_option maxHeartbeats 4000000
namespace Go.Vm
open Go.Proofs
theorem v9e (x:Int):cF 10 [.d (.int .i64 x)]=some (.val [.int .i64 x]):=by
 refine cOf (by kernel_rfl) rfl ?_
 rw[q3i]
 simp only [g10]
theorem v6t:cF 6 []=some (.val [.bool true]):=by
 have h1:=z2g lvS (by decide)
 rw[lv5]at h1
 have h1:cF 7 [.d (.str lvS)]=some (.val [.sl 2 [], .sl 5 (x2b [lvN]), .int .i64 46, .int .i64 0]):=h1
 have h2:=v9e 0
 have h3:=lv2
 refine cOf (by kernel_rfl) rfl ?_
 rw[q7n]
 unfold g6
 rw[x4h,show(bs [110,111,100,101,32,102,40,97,58,32,105,110,116,41,32,114,101,116,117,114,110,115,32,40,98,58,32,105,110,116,41,32,108,101,116,32,98,32,61,32,97,59,32,116,101,108])=lvS from rfl,h1]
 simp only [go1,h2,h3,x1l]
theorem z0q (s:ByteArray):cF 3 [.d (.str s)]=some (.val [.bool true]):=by
 have hl:=v6t
 refine cOf (by kernel_rfl) rfl ?_
 rw[q7o]
 simp only [g3,go1,hl]
 by_cases hs:2500 < (s.size:Int)
 ·simp only [go1,x1m hs]
 ·have hs5:s.size≤100000:=by omega
  have h1:=z2g s hs5
  have h2:=u6l s hs5 (v3f s hs5)
  have ok:=v4e s hs5
  have h3:=q0d (y5n s).1.1 (y5n s).1.2 ok.e ok.n (fun e he=>ok.c e he) ok.no
  have h4:=v9e (y5n s).2.2
  unfold pgV at h1 h2
  simp only [go1,x1c hs,h1,h2,h3,h4]
end Go.Vm
end

section
set_option maxRecDepth 100000
namespace Go.Vm
open Go.Proofs Go.RowKit Go.Extern.Stop Go.Stop Go.Extern
theorem q4t (t:Value)(w:World):Calls Tryz.prog 16 #[.nilIface,t] w fun e w'=>e= .returned (.bool false)∧w'=w:=by
 go_enter Tryz.func16,Tryz.ntmps16
 go_wp2
 go_ret
 exact⟨rfl,rfl⟩
theorem u7b (t:Addr)(w:World):(ReflectliteValue.unpack (.iface 53 (.pointer (some t)))).run Tryz.prog w= .ok (.agg #[.pointer (some ⟨12,53,none⟩), .pointer (some ⟨w.heap.size,0,none⟩), .int .u64 150]) (w.alloc (.cells #[.pointer (some t)] 53)):=by kernel_rfl
theorem w9r (a:Addr)(w:World):(ReflectliteValue.methodAny (ReflectliteValue.valueError "reflectlite.Value.Type" 0) (fun t _ _ _=>ReflectliteType.toType t) #[.agg #[.pointer (some ⟨12,53,none⟩), .pointer (some a), .int .u64 150]]).run Tryz.prog w= .ok (.iface 142 (.agg #[.pointer (some ⟨12,53,none⟩)])) w:=by kernel_rfl
theorem q1q (w:World):((ReflectliteType.abiMethod fun t=>(fun a:Nat=>Value.int IntKind.u8 (a:Int)) <$> Rtype.kind t) #[.pointer (some ⟨12,53,none⟩)]).run Tryz.prog w= .ok (.int .u8 22) w:=by kernel_rfl
theorem q1r (w:World):((ReflectliteType.abiMethod fun t=>(fun a:Nat=>Value.int IntKind.u8 (a:Int)) <$> Rtype.kind t) #[.pointer (some ⟨12,51,none⟩)]).run Tryz.prog w= .ok (.int .u8 25) w:=by kernel_rfl
theorem rlm (z:Sem Value)(f:TypeId→Addr→Nat→Nat→Sem Value)(v:Value):ReflectliteValue.method z f #[v]=(do match ←ReflectliteValue.parts v with|none=>z|some (t,a,fl)=>f t a fl (fl % 32)):=rfl
theorem u8z (a:Addr)(w:World):(ReflectliteValue.parts (.agg #[.pointer (some ⟨12,53,none⟩), .pointer (some a), .int .u64 150])).run Tryz.prog w= .ok (some (53,a,150)) w:=by kernel_rfl
theorem w1x (a p:Addr)(W:World)(ha:W.cell? a=some (.pointer (some p))):(ReflectliteValue.method (ReflectliteValue.valueError "reflectlite.Value.IsNil" 0) ReflectliteValue.isNil #[.agg #[.pointer (some ⟨12,53,none⟩), .pointer (some a), .int .u64 150]]).run Tryz.prog W= .ok (.bool false) W:=by
 rw[rlm]
 simp only [Sem.run_bind,u8z,Result.andThen]
 simp [ReflectliteValue.isNil,loadVar,isAgg,underlying,Tryz.underlying53,ha,Result.andThen]
theorem q3m (w:World):(ReflectliteType.method ReflectliteType.elem #[.agg #[.pointer (some ⟨12,53,none⟩)]]).run Tryz.prog w= .ok (.iface 142 (.agg #[.pointer (some ⟨12,51,none⟩)])) w:=by kernel_rfl
theorem z6x (w:World):(ReflectliteType.relation "Implements" ReflectliteType.implements_ #[.agg #[.pointer (some ⟨12,51,none⟩)], .iface 142 (.agg #[.pointer (some ⟨12,45,none⟩)])]).run Tryz.prog w= .ok (.bool true) w:=by kernel_rfl
theorem v3r (v:Value)(w:World):(ReflectliteType.typeOf #[.iface 51 v]).run Tryz.prog w= .ok (.iface 142 (.agg #[.pointer (some ⟨12,51,none⟩)])) w:=by kernel_rfl
theorem z8t (w:World):(ReflectliteType.relation "AssignableTo" ReflectliteType.assignableTo #[.agg #[.pointer (some ⟨12,51,none⟩)], .iface 142 (.agg #[.pointer (some ⟨12,51,none⟩)])]).run Tryz.prog w= .ok (.bool true) w:=by kernel_rfl
theorem u7c (a b:Int)(w:World):(ReflectliteValue.unpack (.iface 51 (.agg #[.int .i64 a, .int .i64 b]))).run Tryz.prog w= .ok (.agg #[.pointer (some ⟨12,51,none⟩), .pointer (some ⟨w.heap.size,0,none⟩), .int .u64 153]) (w.alloc (.cells #[.int .i64 a, .int .i64 b] 51)):=by kernel_rfl
theorem v5u (w:World):(Rtype.elem? 53).run Tryz.prog w= .ok (some 51) w:=by kernel_rfl
theorem k4p (p:Addr)(w:World):(ReflectliteValue.mk 51 p ReflectliteValue.flagAddr).run Tryz.prog w= .ok (.agg #[.pointer (some ⟨12,51,none⟩), .pointer (some p), .int .u64 409]) w:=by kernel_rfl
theorem w5d (a p:Addr)(W:World)(ha:W.cell? a=some (.pointer (some p))):(ReflectliteValue.method (ReflectliteValue.valueError "reflectlite.Value.Elem" 0) ReflectliteValue.elem #[.agg #[.pointer (some ⟨12,53,none⟩), .pointer (some a), .int .u64 150]]).run Tryz.prog W= .ok (.agg #[.pointer (some ⟨12,51,none⟩), .pointer (some p), .int .u64 409]) W:=by
 rw[rlm]
 simp only [Sem.run_bind,u8z,Result.andThen]
 simp [ReflectliteValue.elem,loadVar,isAgg,underlying,Tryz.underlying53,ha,Result.andThen,v5u,k4p]
theorem rls (v x:Value):ReflectliteValue.set #[v,x]=(do
  let (some (dst,a,fl),some (src,b,_)):=(←ReflectliteValue.parts v,←ReflectliteValue.parts x)
   |unsupported (.noEntry "extern/(internal/reflectlite.Value).Set.zeroValue")
  if fl / ReflectliteValue.flagAddr % 2 == 0 then unsupported (.noEntry "extern/(internal/reflectlite.Value).Set.unaddressable")
  let val ←loadVar src b
  if ←Rtype.directlyAssignable dst src then storeVar dst a val
  else if ←Rtype.implements dst src then
   if(←Rtype.kind src) == 20 then
    match val with
    | .nilIface=>unsupported (.noEntry "extern/reflectlite: a nil value of one interface type handed on as a value of another")
    |_=>storeVar dst a val
   else storeVar dst a (.iface src val)
  else panicString ("reflectlite.Set: value of type " ++(←Rtype.spelt src)++ " is not assignable to type " ++(←Rtype.spelt dst))
  pure (.tuple #[])):=rfl
theorem v4k (a:Addr)(w:World):(ReflectliteValue.parts (.agg #[.pointer (some ⟨12,51,none⟩), .pointer (some a), .int .u64 409])).run Tryz.prog w= .ok (some (51,a,409)) w:=by kernel_rfl
theorem w1b (a:Addr)(w:World):(ReflectliteValue.parts (.agg #[.pointer (some ⟨12,51,none⟩), .pointer (some a), .int .u64 153])).run Tryz.prog w= .ok (some (51,a,153)) w:=by kernel_rfl
theorem v5v (w:World):(Rtype.directlyAssignable 51 51).run Tryz.prog w= .ok true w:=by kernel_rfl
end Go.Vm
end

section
set_option maxRecDepth 100000
namespace Go.Vm
open Go.Proofs Go.RowKit Go.Extern.Stop Go.Stop Go.Extern
theorem w1z (w:World):(isAgg 51).run Tryz.prog w= .ok true w:=by kernel_rfl
theorem u2c (w:World):(sizeOf 51).run Tryz.prog w= .ok 2 w:=by kernel_rfl
theorem q1n (b:Nat)(x y:Int)(W:World)(hb:W.heap[b]? =some (.cells #[.int .i64 x, .int .i64 y] 51 (0,0))):(loadVar 51 ⟨b,0,none⟩).run Tryz.prog W= .ok (.agg #[.int .i64 x, .int .i64 y]) W:=by
 have h:=run_loadCells_list (P:=Tryz.prog) W ⟨b,0,none⟩ [.int .i64 x, .int .i64 y] (fun j v hv=>by
  have hadd:(⟨b,0,none⟩:Addr).add j=⟨b,j,none⟩:=by unfold Addr.add;split<;>simp_all
  rw[hadd]
  simp only [World.cell?,hb]
  match j,hv with
  |0,hv=>simpa using hv
  |1,hv=>simpa using hv
  |j+2,hv=>simp at hv)
 simp only [loadVar,Sem.run_bind,w1z,Result.andThen,if_true,u2c]
 have h:(loadCells ⟨b,0,none⟩ 2).run Tryz.prog W= .ok #[.int .i64 x, .int .i64 y] W:=h
 rw[h]
 rfl
theorem w0b (t:Nat)(x y:Int)(us:Array Value)(W:World)(ht:W.heap[t]? =some (.cells us 51 (0,0)))(hu:us.size=2):(storeVar 51 ⟨t,0,none⟩ (.agg #[.int .i64 x, .int .i64 y])).run Tryz.prog W= .ok () (W.setRow t #[.int .i64 x, .int .i64 y]):=by
 have h:=run_storeCells_at Tryz.prog t 0 51 [.int .i64 x, .int .i64 y] 0 us W ht (by simp [hu]) (by simp [Value.oneCell'])
 have e:(us.toList.take (0+0)++[Value.int .i64 x,Value.int .i64 y]++us.toList.drop (0+0+[Value.int .i64 x,Value.int .i64 y].length)).toArray= #[.int .i64 x, .int .i64 y]:=by
  have:us.toList.drop 2= []:=List.drop_of_length_le (by simp [hu])
  simp [this]
 rw[e]at h
 simp only [storeVar,Sem.run_bind,u2c,Result.andThen]
 exact h
theorem q6e (t b:Nat)(x y:Int)(us:Array Value)(W:World)(hb:W.heap[b]? =some (.cells #[.int .i64 x, .int .i64 y] 51 (0,0)))(ht:W.heap[t]? =some (.cells us 51 (0,0)))(hu:us.size=2):
  (ReflectliteValue.set #[.agg #[.pointer (some ⟨12,51,none⟩), .pointer (some ⟨t,0,none⟩), .int .u64 409], .agg #[.pointer (some ⟨12,51,none⟩), .pointer (some ⟨b,0,none⟩), .int .u64 153]]).run Tryz.prog W= .ok (.tuple #[]) (W.setRow t #[.int .i64 x, .int .i64 y]):=by
 rw[rls]
 simp only [Sem.run_bind,v4k,w1b,Result.andThen]
 simp [ReflectliteValue.flagAddr,q1n b x y W hb,Result.andThen,v5v,w0b t x y us W ht hu]
end Go.Vm
end

section
set_option maxRecDepth 100000
namespace Go.Vm
open Go.Proofs Go.RowKit Go.Extern.Stop Go.Stop Go.Extern
theorem u5o (h:Value)(w:World):(Go.method 437 142 (.agg #[h]) "Kind").run Tryz.prog w= .ok (309,h) w:=by kernel_rfl
theorem u5p (h:Value)(w:World):(Go.method 437 142 (.agg #[h]) "Elem").run Tryz.prog w= .ok (319, .agg #[h]) w:=by kernel_rfl
theorem y5t (h:Value)(w:World):(Go.method 437 142 (.agg #[h]) "Implements").run Tryz.prog w= .ok (320, .agg #[h]) w:=by kernel_rfl
theorem y2t (h:Value)(w:World):(Go.method 437 142 (.agg #[h]) "AssignableTo").run Tryz.prog w= .ok (317, .agg #[h]) w:=by kernel_rfl
theorem u4p {w:World}(o:Obj){k:Nat}(h:k < w.heap.size):(w.alloc o).heap[k]? =w.heap[k]? :=by
 show(w.heap.push o)[k]? =_
 rw[a1x,if_neg (by omega)]
theorem q4w (w:World)(o:Obj):(w.alloc o).heap[w.heap.size]? =some o:=by
 show(w.heap.push o)[w.heap.size]? =_
 rw[a1x,if_pos rfl]
theorem y4p (w:World)(o:Obj):(w.alloc o).heap.size=w.heap.size+1:=by
 show(w.heap.push o).size=_
 rw[Array.size_push]
def w4 (w:World)(t:Nat)(x y:Int):World:=((((w.alloc (.cells #[.pointer (some ⟨t,0,none⟩)] 53)).alloc (.cells #[.pointer (some ⟨12,53,none⟩), .pointer (some ⟨w.heap.size,0,none⟩), .int .u64 150] 101)).alloc (.cells #[.pointer (some ⟨12,53,none⟩), .pointer (some ⟨w.heap.size,0,none⟩), .int .u64 150] 101)).alloc (.cells #[.int .i64 x, .int .i64 y] 51))
set_option maxHeartbeats 4000000 in
theorem q4u (t:Nat)(x y:Int)(us:Array Value)(w:World)(hg:w.cell? ⟨0,0,none⟩=some (.iface 142 (.agg #[.pointer (some ⟨12,45,none⟩)])))(ht:w.heap[t]? =some (.cells us 51 (0,0)))(hu:us.size=2):
  Calls Tryz.prog 16 #[.iface 51 (.agg #[.int .i64 x, .int .i64 y]), .iface 53 (.pointer (some ⟨t,0,none⟩))] w fun ev w'=>ev= .returned (.bool true)∧w'=(w4 w t x y).setRow t #[.int .i64 x, .int .i64 y]:=by
 unfold w4
 have h6:=@run_callFunc_extern Tryz.prog 43 _ (fun args=>ReflectliteValue.unpack (args.getD 0 (.tuple #[]))) Tryz.func43 (by kernel_rfl) (by kernel_rfl) (by kernel_rfl) (by kernel_rfl)
 have h7:=@run_callFunc_extern Tryz.prog 44 _ (ReflectliteValue.methodAny (ReflectliteValue.valueError "reflectlite.Value.Type" 0) (fun t _ _ _=>ReflectliteType.toType t)) Tryz.func44 (by kernel_rfl) (by kernel_rfl) (by kernel_rfl) (by kernel_rfl)
 have h8:=@run_callFunc_extern Tryz.prog 45 _ (ReflectliteValue.method (ReflectliteValue.valueError "reflectlite.Value.IsNil" 0) ReflectliteValue.isNil) Tryz.func45 (by kernel_rfl) (by kernel_rfl) (by kernel_rfl) (by kernel_rfl)
 have h27:=@run_callFunc_extern Tryz.prog 309 _ (ReflectliteType.abiMethod fun t=>do pure (.int .u8 (←Rtype.kind t))) Tryz.func309 (by kernel_rfl) (by kernel_rfl) (by kernel_rfl) (by kernel_rfl)
 have h37:=@run_callFunc_extern Tryz.prog 319 _ (ReflectliteType.method ReflectliteType.elem) Tryz.func319 (by kernel_rfl) (by kernel_rfl) (by kernel_rfl) (by kernel_rfl)
 have h38:=@run_callFunc_extern Tryz.prog 320 _ (ReflectliteType.relation "Implements" ReflectliteType.implements_) Tryz.func320 (by kernel_rfl) (by kernel_rfl) (by kernel_rfl) (by kernel_rfl)
 have h10:=@run_callFunc_extern Tryz.prog 91 _ ReflectliteType.typeOf Tryz.func91 (by kernel_rfl) (by kernel_rfl) (by kernel_rfl) (by kernel_rfl)
 have h35:=@run_callFunc_extern Tryz.prog 317 _ (ReflectliteType.relation "AssignableTo" ReflectliteType.assignableTo) Tryz.func317 (by kernel_rfl) (by kernel_rfl) (by kernel_rfl) (by kernel_rfl)
 have h11:=@run_callFunc_extern Tryz.prog 92 _ (ReflectliteValue.method (ReflectliteValue.valueError "reflectlite.Value.Elem" 0) ReflectliteValue.elem) Tryz.func92 (by kernel_rfl) (by kernel_rfl) (by kernel_rfl) (by kernel_rfl)
 have h12:=@run_callFunc_extern Tryz.prog 93 _ ReflectliteValue.set Tryz.func93 (by kernel_rfl) (by kernel_rfl) (by kernel_rfl) (by kernel_rfl)
 have tO:=v3r
 have mA:=y2t
 have a25:=z8t
 have v25:=u7c
 have f6:=u7b
 have f7:=w9r
 have mK:=u5o
 have mE:=u5p
 have mI:=y5t
 have k27:=q1q
 have k25:=q1r
 have e27:=q3m
 have i25:=z6x
 have n8:=w1x ⟨w.heap.size,0,none⟩ ⟨t,0,none⟩ ((w.alloc (.cells #[.pointer (some ⟨t,0,none⟩)] 53)).alloc (.cells #[.pointer (some ⟨12,53,none⟩), .pointer (some ⟨w.heap.size,0,none⟩), .int .u64 150] 101)) (by simp)
 have hlt:0 < w.heap.size:=by
  rcases Nat.eq_zero_or_pos w.heap.size with h0|h
  ·simp [World.cell?,h0]at hg
  ·exact h
 have hg2:((w.alloc (.cells #[.pointer (some ⟨t,0,none⟩)] 53)).alloc (.cells #[.pointer (some ⟨12,53,none⟩), .pointer (some ⟨w.heap.size,0,none⟩), .int .u64 150] 101)).cell? ⟨0,0,none⟩=some (.iface 142 (.agg #[.pointer (some ⟨12,45,none⟩)])):=by
  rw[World.cell?_alloc_lt _ _ ⟨0,0,none⟩ (by simp),World.cell?_alloc_lt _ _ ⟨0,0,none⟩ hlt];exact hg
 have htl:t < w.heap.size:=(a0q.1 ht).1
 have el:=w5d ⟨w.heap.size,0,none⟩ ⟨t,0,none⟩ (((w.alloc (.cells #[.pointer (some ⟨t,0,none⟩)] 53)).alloc (.cells #[.pointer (some ⟨12,53,none⟩), .pointer (some ⟨w.heap.size,0,none⟩), .int .u64 150] 101)).alloc (.cells #[.pointer (some ⟨12,53,none⟩), .pointer (some ⟨w.heap.size,0,none⟩), .int .u64 150] 101)) (by rw[World.cell?_alloc_lt _ _ ⟨w.heap.size,0,none⟩ (by simp;omega)];simp)
 have st:=q6e t (w.heap.size+1+1+1) x y us (w4 w t x y)
  (by unfold w4;have h:=q4w (((w.alloc (.cells #[.pointer (some ⟨t,0,none⟩)] 53)).alloc (.cells #[.pointer (some ⟨12,53,none⟩), .pointer (some ⟨w.heap.size,0,none⟩), .int .u64 150] 101)).alloc (.cells #[.pointer (some ⟨12,53,none⟩), .pointer (some ⟨w.heap.size,0,none⟩), .int .u64 150] 101)) (.cells #[.int .i64 x, .int .i64 y] 51);rw[y4p,y4p,y4p]at h;exact h)
  (by unfold w4;rw[u4p _ (by simp only [y4p];omega),u4p _ (by simp only [y4p];omega),u4p _ (by simp only [y4p];omega),u4p _ htl];exact ht) hu
 unfold w4 at st
 go_enter Tryz.func16,Tryz.ntmps16
 go_wp2
 refine wp_loop_rounds 1 ?_
 rw[rounds_succ]
 go_wp2
 go_ret
 exact⟨rfl,rfl⟩
end Go.Vm
end

section
set_option maxRecDepth 100000
namespace Go.Vm
open Go.Proofs Go.RowKit Go.Shelf
def q1t:Ren:=⟨fun|4=>174|n=>n,fun|22=>68|25=>127|n=>n,fun n=>n⟩
theorem q1u:Lays8.n4 Tryz.prog q1t where
 mixed:=by kernel_rfl
 f4:=Exists.intro ("slices.Grow[[]noria/api.Decl,noria/api.Decl]") ⟨by decide+kernel,Tryz.func174.trans (congrArg some (by kernel_rfl))⟩
 t0:=Tryz.underlying0
 a0:=Tryz.isAgg0
 z0:=Tryz.sizeOf0
 v0:=Tryz.zeroValue0
 t3:=Tryz.underlying3
 a3:=Tryz.isAgg3
 z3:=Tryz.sizeOf3
 v3:=Tryz.zeroValue3
 t4:=Tryz.underlying4
 a4:=Tryz.isAgg4
 z4:=Tryz.sizeOf4
 v4:=Tryz.zeroValue4
 t9:=Tryz.underlying9
 a9:=Tryz.isAgg9
 z9:=Tryz.sizeOf9
 v9:=Tryz.zeroValue9
 t20:=Tryz.underlying20
 a20:=Tryz.isAgg20
 z20:=Tryz.sizeOf20
 v20:=Tryz.zeroValue20
 t22:=Tryz.underlying68
 a22:=Tryz.isAgg68
 z22:=Tryz.sizeOf68
 v22:=Tryz.zeroValue68
theorem u9w (n:Int)(h:0≤n∧n≤1000000):u6v Tryz.prog 174 [.nils, .d (.int .i64 n)] 127 6 []:=by
 intro g w us hs hu
 obtain⟨h1,h2⟩:=hu
 have hn0:g.n=0:=hs.n
 match us,h1 with
 | [u0,u1],_=>
   have e0:u0= .slice none 0 0:=by
    have:=h2 0 u0 _ rfl rfl
    cases this;rfl
   have e1:=x0l (h2 1 u1 _ rfl rfl)
   subst e0;subst e1
   have key: ∀(w':World) (u:Value),Fr (fun _=>False) w w'→(u= .slice none 0 0∨ ∃(us:Array Value) (cap:Nat),u= .slice (some ⟨w.heap.size,0,none⟩) 0 cap∧cap≤maxLen∧w'.heap[w.heap.size]? =some (.cells us 127 (0,0))∧us.size=cap*6)→ ∃u2 g',Ending.returned u= .returned u2∧Rep w' g' u2 (.own 0)∧Keep [] g [] w g' [.arr 127 6 []] w':=by
    intro w' u hfr hu
    have hv:(g.push w.heap.size u).val g.n=u:=by simp [Gh.push]
    have hbk:(g.push w.heap.size u).blk g.n=w.heap.size:=by simp [Gh.push]
    refine⟨u,g.push w.heap.size u,rfl,?_,Keep.push hs _ _ _ hfr ⟨fun i r hr=>by simp at hr,?_⟩ fun k hk=> ?_⟩
    ·have:=Rep.own (w:=w') (g:=g.push w.heap.size u) g.n (by simp [Gh.push])
     rw[hv,hn0]at this
     exact this
    ·rcases hu with hu|⟨us,cap,hu,hc,hh,hz⟩
     ·exact .inl ⟨by rw[hv];exact hu,rfl⟩
     ·exact .inr ⟨us,cap,by rw[hv,hbk];exact hu,a0r _,hc,by rw[hbk];exact hh,hz,fun i r j c hr=>by simp at hr⟩
    ·unfold Box.at? at hk
     simp only [hv]at hk
     rcases hu with rfl|⟨us,cap,rfl,_⟩
     ·cases hk
     ·simp at hk;omega
   obtain⟨m,rfl⟩: ∃m:Nat,n=m:=⟨n.toNat,by omega⟩
   by_cases hm:m=0
   ·subst hm
    refine(Any8.slices_Grow_room q1u none 0 0 0 w (by omega) (by omega) (by omega) (by omega)).mono ?_
    rintro e w' ⟨rfl,rfl⟩
    exact key _ _ (Fr.refl _ _) (.inl rfl)
   ·have hinfo:(Tryz.prog.info? 127).map (fun i=>(i.zero,i.size,i.bytes))=some (some (.agg #[.string ⟨#[]⟩, .int .i64 0, .int .i64 0, .int .i64 0, .string ⟨#[]⟩, .string ⟨#[]⟩]),6,72):=by kernel_rfl
    obtain⟨i,hi,hz0,hz1,hz2⟩:=info_parts hinfo
    have hL:=Any8.slices_Grow_grow q1u i _ hi hz0 (by omega) none 0 0 m [] w (by omega) (by omega) (by rw[hz2];omega) (by omega) (by simp) (fun _=>rfl) (fun a h=>by cases h)
    refine hL.mono ?_
    rintro e w' ⟨rfl,rfl⟩
    have hge:=grownCap_ge w (0+m) 0 127
    have hcm:grownCap w (0+m) 0 127≤maxLen:=grownCap_le_maxLen w (0+m) 0 127 (by unfold maxLen;omega)
    refine key _ _ ((Fr.drew _ w).trans (Fr.alloc _ _ _)) (.inr ⟨_,_,rfl,hcm,(MapKept.heap_alloc w.drew _).1,?_⟩)
    show(#[]++_++_).size=grownCap w (0+m) 0 127*6
    simp only [Array.size_append,size_zeroCells,Value.cells,List.size_toArray,a0f,a0i,a1z,show q1t.t 25=127 from rfl]at hge ⊢
    omega
def hsA:List Box:=[.cells (.ty 51) [.d (.int .i64 0), .d (.int .i64 0)]]
theorem u1r (a c:Int):x8v Tryz.prog [] 16 [.ifo 51 true [.int .i64 a, .int .i64 c], .ifp 53 0 0] hsA (.d (.bool false)) hsA:=by
 intro g w us hs hu
 obtain⟨h1,h2⟩:=hu
 match us,h1 with
 | [u0,u1],_=>
   have e0:u0= .nilIface:=by
    have:=h2 0 u0 _ rfl rfl
    cases this;rfl
   subst e0
   refine(q4t u1 w).mono ?_
   rintro e w' ⟨rfl,rfl⟩
   exact⟨_,g,rfl, .d (.bool _),Keep.refl hs⟩
theorem u1s (a c:Int):x8v Tryz.prog [] 16 [.ifo 51 false [.int .i64 a, .int .i64 c], .ifp 53 0 0] hsA (.d (.bool true)) [.cells (.ty 51) [.d (.int .i64 a), .d (.int .i64 c)]]:=by
 intro g w us hs hu
 obtain⟨h1,h2⟩:=hu
 match us,h1 with
 | [u0,u1],_=>
   have e0:u0= .iface 51 (.agg #[.int .i64 a, .int .i64 c]):=by
    have:=h2 0 u0 _ rfl rfl
    cases this with
    |ifo1 t vs cs hl h=>
     congr 2
     match vs,hl,h with
     |⟨[x,y]⟩,_,h=>
      have e1:=h 0 x _ rfl rfl
      have e2:=h 1 y _ rfl rfl
      cases e1;cases e2;rfl
   have e1:u1= .iface 53 (.pointer (some ⟨g.blk 0,0,none⟩)):=by
    have:=h2 1 u1 _ rfl rfl
    cases this;rfl
   subst e0;subst e1
   have hb:=hs.rep 0 _ rfl
   obtain⟨vs,hh,hsz,hr⟩:=x4l hb
   have hg:w.cell? ⟨0,0,none⟩=some (.iface 142 (.agg #[.pointer (some ⟨12,45,none⟩)])):=(hs.tab.2 (0,[Value.iface 142 (.agg #[.pointer (some ⟨12,45,none⟩)])]) (by simp [gV]) 0).2
   refine(q4u (g.blk 0) a c vs w hg hh (by simpa using hsz)).mono ?_
   rintro e w' ⟨rfl,rfl⟩
   have hf4:Fr (fun _=>False) w (w4 w (g.blk 0) a c):=(((Fr.alloc _ _ _).trans (Fr.alloc _ _ _)).trans (Fr.alloc _ _ _)).trans (Fr.alloc _ _ _)
   have k1:Keep [] g hsA w g hsA (w4 w (g.blk 0) a c):=Keep.of_fr hs hf4
   have hlt:g.blk 0 < w.heap.size:=(a0q.1 hh).1
   have hh4:(w4 w (g.blk 0) a c).heap[g.blk 0]? =some (.cells vs 51 (0,0)):=by rw[hf4.block _ hlt (fun h=>h)];exact hh
   have hrow:=setRow_heap (w4 w (g.blk 0) a c) (g.blk 0) vs #[.int .i64 a, .int .i64 c] 51 (0,0) hh4
   have k2:=Keep.turn (y:= .cells (.ty 51) [.d (.int .i64 a), .d (.int .i64 c)]) k1.heap (b:=0) rfl [] (.inl ⟨rfl,rfl⟩) rfl rfl rfl (fun _ _=>⟨rfl,rfl⟩) ((y7c (w4 w (g.blk 0) a c) (g.blk 0) #[.int .i64 a, .int .i64 c]).mono fun k hk=>by simp [Box.at?,hk])
    ⟨_,_,hrow,rfl,rfl,fun i u v hu hv=>by
      match i with
      |0=>simp at hu hv;subst hu;subst hv;exact .d (.int _ _)
      |1=>simp at hu hv;subst hu;subst hv;exact .d (.int _ _)
      |i+2=>simp at hu⟩ (fun k hk=> .inl hk)
   exact⟨_,g,rfl, .d (.bool _),k1.trans k2⟩
theorem q1p {k:Nat}{key:List V}{p:PRes}(h:1000000≤k)(h2:kn k key=some p):k=1000016∧knA key=some p:=by
 unfold kn at h2
 rw[v2s (show 127 < k by omega),v2s (show 174 < k by omega)]at h2
 simp only at h2
 split at h2
 ·rename_i hf
  exact⟨Nat.eq_of_beq_eq_true hf,h2⟩
 ·cases h2
theorem w1t:w8y Tryz.prog kn:=by
 refine⟨w1s,fun f args p hgf ha h=> ?_,fun f key pn as' hs p hgf hd h=> ?_⟩
 ·unfold kn at h
  split at h
  ·rename_i hf
   have hf:=Nat.eq_of_beq_eq_true hf
   subst hf
   unfold knF at h
   split at h
   ·rename_i s
    split at h
    ·rename_i hd
     cases h
     exact u0w s (a0c hd)
    ·cases h
   ·cases h
  ·split at h
   ·rename_i hf
    have hf:=Nat.eq_of_beq_eq_true hf
    subst hf
    unfold knG at h
    split at h
    ·rename_i n
     split at h
     ·rename_i hd
      cases h
      exact⟨68,by kernel_rfl,by kernel_rfl,u9w n (a0c hd)⟩
     ·cases h
    ·cases h
   ·split at h
    ·rename_i hf
     have hf:=Nat.eq_of_beq_eq_true hf
     subst hf
     exact absurd hgf (by rw[show x4w Tryz.prog 1000016=false by kernel_rfl];simp)
    ·cases h
 ·obtain⟨hf,hA⟩:=q1p (a0c (v2o f)) h
  clear h
  have hf:f=16:=by have:=u4h f;rw[hf]at this;exact this.symm
  subst hf
  unfold knA at hA
  split at hA
  ·rename_i b a c
   clear hgf
   obtain rfl:=Option.some.inj hA
   clear hA
   have hd:(0,[.ifo 51 b [.int .i64 a, .int .i64 c], .ifp 53 0 0],hsA)=(pn,as',hs):=Option.some.inj hd
   cases hd
   intro ts E q hE hsig hr
   have hts:ts= [4]:=Option.some.inj (hsig.symm.trans (show z0b Tryz.prog 16=some [4] by kernel_rfl))
   subst hts
   have hM:x6s hsA= []:=rfl
   rw[hM]
   cases b with
   |true=>
    have e:(u6p sy Tryz.prog 0 [4] [.ifo 51 true [.int .i64 a, .int .i64 c], .ifp 53 0 0] hsA [.bool false, .int .i64 0, .int .i64 0]).run E=some (.d (.bool false),hsA):=by kernel_rfl
    rw[show(PRes.val [.bool false, .int .i64 0, .int .i64 0]).leaves= [.bool false, .int .i64 0, .int .i64 0]from rfl,e]at hr
    cases hr
    exact u1r a c
   |false=>
    have e:(u6p sy Tryz.prog 0 [4] [.ifo 51 false [.int .i64 a, .int .i64 c], .ifp 53 0 0] hsA [.bool true, .int .i64 a, .int .i64 c]).run E=some (.d (.bool true),[.cells (.ty 51) [.d (.int .i64 a), .d (.int .i64 c)]]):=by kernel_rfl
    rw[show(PRes.val [.bool true, .int .i64 a, .int .i64 c]).leaves= [.bool true, .int .i64 a, .int .i64 c]from rfl,e]at hr
    cases hr
    exact u1s a c
  ·cases hA
end Go.Vm
end
