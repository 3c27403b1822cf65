/- Part RBJ of the proof. What is proved by the whole: the statement that the claim names, with no condition. -/
import Derived.Test.YtdilhaphlahfjaaGreatDoorRBI
set_option linter.all false
section
set_option maxRecDepth 1000000
set_option maxHeartbeats 0
namespace Go.Vm
open Go.Proofs
noncomputable section
variable (A : Sy) (E : Env)
def g116 (A:Sy)(E:Env)(l_:LL)(t_0 t_1 t_2:Int):Option PRes:=x0u (bif (A.ilt t_0 1)then vB true else vB (A.ilt 3 t_0)) fun ds1=>zB A ds1 0 fun b2=>x0u (bif b2 then vB true else vB (A.ilt t_2 0)) fun ds3=>zB A ds3 0 fun b4=>x0u (bif b4 then vB true else vB (A.ilt 8 t_2)) fun ds5=>zB A ds5 0 fun b6=>bif b6 then vL [.bool false] else bif (A.ieq t_0 3)then x0u (bif (A.ile 0 t_1)then vB (A.ilt t_1 (A.rlen l_)) else vB false) fun ds7=>zB A ds7 0 fun b8=>vL [.bool b8] else vL [.bool (A.ieq t_1 0)]
def q1h (l_:LL)(t_0 t_1 t_2:Int):fT A E 116 [.d (.sl 2 l_), .agg [.d (.int .i64 t_0), .d (.int .i64 t_1), .d (.int .i64 t_2)]]=g116 A E l_ t_0 t_1 t_2:=by kernel_rfl
def g117 (s_:BA):Option PRes:=zC E 69 [.d (.str s_)] fun p1=>yB A p1 0 fun b3=>x0u (bif b3 then vB true else vB (A.seq s_ (bs [116,114,117,101]))) fun ds4=>zB A ds4 0 fun b5=>x0u (bif b5 then vB true else vB (A.seq s_ (bs [102,97,108,115,101]))) fun ds6=>zB A ds6 0 fun b7=>vL [.bool b7]
def q1g (s_:BA):fT A E 117 [.d (.str s_)]=g117 A E s_:=by kernel_rfl
def g23 (a_ b_:LL):Option PRes:=bif (A.bnot (A.ieq (A.rlen a_) (A.rlen b_)))then vL [.bool false] else E.lp (fun ds1=>zL A ds1 0 2 fun l2=>zL A ds1 1 2 fun l3=>zI A ds1 2 fun n4=>bif (A.ilt n4 (A.rlen l2))then iT (A.inr n4 (A.rlen l2)) <| zS A (A.row l2 n4) 0 fun s5=>iT (A.inr n4 (A.rlen l3)) <| zS A (A.row l3 n4) 0 fun s6=>bif (A.bnot (A.seq s5 s6))then some (.inr (.val [.bool false])) else iT (A.inr n4 (A.rlen l2)) <| zL A (A.skip 1 (A.row l2 n4)) 0 1 fun l7=>iT (A.inr n4 (A.rlen l3)) <| zL A (A.skip 1 (A.row l3 n4)) 0 1 fun l8=>zC E 63 [.d (.sl 1 l7), .d (.sl 1 l8)] fun p9=>yB A p9 0 fun b11=>bif (A.bnot b11)then some (.inr (.val [.bool false])) else iL [.sl 2 l2, .sl 2 l3,nI (zW A (A.add n4 1))] else some (.inr (.val [.bool true]))) [.sl 2 a_, .sl 2 b_,nI 0]
def k0e (a_ b_:LL):fT A E 23 [.d (.sl 2 a_), .d (.sl 2 b_)]=g23 A E a_ b_:=by kernel_rfl
def g25 (A:Sy)(E:Env)(l_:LL):Option PRes:=bif (A.ilt 8 (A.rlen l_))then some (.val [(.bool false)]) else E.lp (fun ds1=>(opL (A.cell ds1 0) 2).bind fun l2=>(opI (A.cell ds1 1) .i64).bind fun n3=>bif (A.ilt n3 (A.rlen l2))then bif (A.inr n3 (A.rlen l2))then (opL (A.cell (A.skip 1 (A.row l2 n3)) 0) 1).bind fun l4=>x0u (bif (A.ilt 12 (A.rlen l4))then some (.inl [(.bool true)]) else bif (A.inr n3 (A.rlen l2))then (opS (A.cell (A.row l2 n3) 0)).bind fun s5=>some (.inl [(.bool (A.ilt 100 (A.slen s5)))]) else none) fun ds6=>(opB (A.cell ds6 0)).bind fun b7=>bif b7 then some (.inr (.val [(.bool false)])) else E.lp (fun ds8=>(opL (A.cell ds8 0) 2).bind fun l9=>(opI (A.cell ds8 1) .i64).bind fun n10=>(opI (A.cell ds8 2) .i64).bind fun n11=>bif (A.inr n10 (A.rlen l9))then (opL (A.cell (A.skip 1 (A.row l9 n10)) 0) 1).bind fun l12=>bif (A.ilt n11 (A.rlen l12))then bif (A.inr n10 (A.rlen l9))then (opL (A.cell (A.skip 1 (A.row l9 n10)) 0) 1).bind fun l13=>bif (A.inr n11 (A.rlen l13))then (opS (A.cell (A.row l13 n11) 0)).bind fun s14=>bif (A.ilt 100 (A.slen s14))then some (.inr (.inr (.val [(.bool false)]))) else some (.inl [(.sl 2 l9),(.int .i64 n10),(.int .i64 (A.wrap .i64 (A.add n11 1)))]) else none else none else some (.inr (.inl [(.sl 2 l9),(.int .i64 (A.wrap .i64 (A.add n10 1)))])) else none) [(.sl 2 l2),(.int .i64 n3),(.int .i64 0)] else none else some (.inr (.val [(.bool true)]))) [(.sl 2 l_),(.int .i64 0)]
def k0c (l_:LL):fT A E 25 [.d (.sl 2 l_)]=g25 A E l_:=by kernel_rfl
def g26 (A:Sy)(E:Env)(l_:LL):Option PRes:=E.lp (fun ds1=>(opL (A.cell ds1 0) 6).bind fun l2=>(opI (A.cell ds1 1) .i64).bind fun n3=>bif (A.ilt n3 (A.rlen l2))then bif (A.inr n3 (A.rlen l2))then (opS (A.cell (A.row l2 n3) 0)).bind fun s4=>x0u (bif (A.ilt 100 (A.slen s4))then some (.inl [(.bool true)]) else bif (A.inr n3 (A.rlen l2))then (opS (A.cell (A.skip 4 (A.row l2 n3)) 0)).bind fun s5=>some (.inl [(.bool (A.ilt 100 (A.slen s5)))]) else none) fun ds6=>(opB (A.cell ds6 0)).bind fun b7=>x0u (bif b7 then some (.inl [(.bool true)]) else bif (A.inr n3 (A.rlen l2))then (opS (A.cell (A.skip 5 (A.row l2 n3)) 0)).bind fun s8=>some (.inl [(.bool (A.ilt 100 (A.slen s8)))]) else none) fun ds9=>(opB (A.cell ds9 0)).bind fun b10=>bif b10 then some (.inr (.val [(.bool false)])) else some (.inl [(.sl 6 l2),(.int .i64 (A.wrap .i64 (A.add n3 1)))]) else none else some (.inr (.val [(.bool (A.ile (A.rlen l2) 20))]))) [(.sl 6 l_),(.int .i64 0)]
def k0b (l_:LL):fT A E 26 [.d (.sl 6 l_)]=g26 A E l_:=by kernel_rfl
def g66 (A:Sy)(E:Env)(e_0 e_1:Int)(e_2:BA)(e_3:Int)(e_4 e_5:LL)(left_:Int):Option PRes:=bif (A.ile left_ 0)then some (.val [(.int .i64 0)]) else E.lp (fun ds1=>(opI (A.cell ds1 0) .i64).bind fun n2=>(opI (A.cell ds1 1) .i64).bind fun n3=>oE A ds1 2 fun n4 n5 s6 n7 l8 l9=>x0u (bif (A.ilt n3 (A.rlen l9))then some (.inl [(.bool (A.ilt 0 n2))]) else some (.inl [(.bool false)])) fun ds10=>(opB (A.cell ds10 0)).bind fun b11=>bif b11 then bif (A.inr n3 (A.rlen l9))then oE A (A.row l9 n3) 0 fun n12 n13 s14 n15 l16 l17=>(E.call 66 [(kE n12 n13 s14 n15 l16 l17),(.d (.int .i64 n2))]).bind fun p18=>(opI (A.cell p18.leaves 0) .i64).bind fun n20=>some (.inl [(.int .i64 n20),(.int .i64 (A.wrap .i64 (A.add n3 1))),(.int .i64 n4),(.int .i64 n5),(.str s6),(.int .i64 n7),(.sl 1 l8),(.sl 6 l9)]) else none else some (.inr (.val [(.int .i64 n2)]))) [(.int .i64 (A.wrap .i64 (A.sub left_ 1))),(.int .i64 0),(.int .i64 e_0),(.int .i64 e_1),(.str e_2),(.int .i64 e_3),(.sl 1 e_4),(.sl 6 e_5)]
def q9m (e_0 e_1:Int)(e_2:BA)(e_3:Int)(e_4 e_5:LL)(left_:Int):fT A E 66 [.agg [.d (.int .i64 e_0), .d (.int .i64 e_1), .d (.str e_2), .d (.int .i64 e_3), .d (.sl 1 e_4), .d (.sl 6 e_5)], .d (.int .i64 left_)]=g66 A E e_0 e_1 e_2 e_3 e_4 e_5 left_:=by kernel_rfl
def g67 (e_0 e_1:Int)(e_2:BA)(e_3:Int)(e_4 e_5:LL):Option PRes:=zC E 114 [kE e_0 e_1 e_2 e_3 e_4 e_5] fun p1=>yL A p1 0 6 fun l3=>E.lp (fun ds4=>zL A ds4 0 6 fun l5=>zI A ds4 1 fun n6=>bif (A.ilt n6 (A.rlen l5))then iT (A.inr n6 (A.rlen l5)) <| zS A (A.skip 2 (A.row l5 n6)) 0 fun s7=>x0u (bif (A.ilt 200 (A.slen s7))then vB true else iT (A.inr n6 (A.rlen l5)) <| zL A (A.skip 4 (A.row l5 n6)) 0 1 fun l8=>vB (A.ilt 20 (A.rlen l8))) fun ds9=>zB A ds9 0 fun b10=>bif b10 then some (.inr (.val [.bool false])) else E.lp (fun ds11=>zL A ds11 0 6 fun l12=>zI A ds11 1 fun n13=>zI A ds11 2 fun n14=>iT (A.inr n13 (A.rlen l12)) <| zL A (A.skip 4 (A.row l12 n13)) 0 1 fun l15=>bif (A.ilt n14 (A.rlen l15))then iT (A.inr n13 (A.rlen l12)) <| zL A (A.skip 4 (A.row l12 n13)) 0 1 fun l16=>iT (A.inr n14 (A.rlen l16)) <| zS A (A.row l16 n14) 0 fun s17=>bif (A.ilt 100 (A.slen s17))then some (.inr (.inr (.val [.bool false]))) else iL [.sl 6 l12,nI n13,nI (zW A (A.add n14 1))] else some (.inr (.inl [.sl 6 l12,nI (zW A (A.add n13 1))]))) [.sl 6 l5,nI n6,nI 0] else some (.inr (.val [.bool true]))) [.sl 6 l3,nI 0]
def q9l (e_0 e_1:Int)(e_2:BA)(e_3:Int)(e_4 e_5:LL):fT A E 67 [.agg [.d (.int .i64 e_0), .d (.int .i64 e_1), .d (.str e_2), .d (.int .i64 e_3), .d (.sl 1 e_4), .d (.sl 6 e_5)]]=g67 A E e_0 e_1 e_2 e_3 e_4 e_5:=by kernel_rfl
def g27 (e_0 e_1:Int)(e_2:BA)(e_3:Int)(e_4 e_5:LL):Option PRes:=zC E 66 [kE e_0 e_1 e_2 e_3 e_4 e_5, .d (nI 200)] fun p1=>yI A p1 0 fun n3=>x0u (bif (A.ilt 0 n3)then zC E 67 [kE e_0 e_1 e_2 e_3 e_4 e_5] fun p4=>yB A p4 0 fun b6=>vB b6 else vB false) fun ds7=>zB A ds7 0 fun b8=>vL [.bool b8]
def w5e (e_0 e_1:Int)(e_2:BA)(e_3:Int)(e_4 e_5:LL):fT A E 27 [.agg [.d (.int .i64 e_0), .d (.int .i64 e_1), .d (.str e_2), .d (.int .i64 e_3), .d (.sl 1 e_4), .d (.sl 6 e_5)]]=g27 A E e_0 e_1 e_2 e_3 e_4 e_5:=by kernel_rfl
def g28 (l_:LL):Option PRes:=bif (A.ilt 4 (A.rlen l_))then vL [nI 4] else E.lp (fun ds1=>zL A ds1 0 2 fun l2=>zI A ds1 1 fun n3=>zL A ds1 2 1 fun l4=>zL A ds1 3 1 fun l5=>bif (A.ilt n3 (A.rlen l2))then iT (A.inr n3 (A.rlen l2)) <| zL A (A.skip 1 (A.row l2 n3)) 0 1 fun l6=>bif (A.ilt 6 (A.rlen l6))then some (.inr (.val [nI 4])) else iT (A.inr n3 (A.rlen l2)) <| zS A (A.row l2 n3) 0 fun s7=>iT (A.fits l4 [[.str s7]] 16) <| iT (A.inr n3 (A.rlen l2)) <| zL A (A.skip 1 (A.row l2 n3)) 0 1 fun l8=>iT (A.fits l5 l8 16) <| iL [.sl 2 l2,nI (zW A (A.add n3 1)), .sl 1 (A.rapp l4 [[.str s7]]), .sl 1 (A.rapp l5 l8)] else E.lp (fun ds9=>zL A ds9 0 2 fun l10=>zI A ds9 1 fun n11=>zL A ds9 2 1 fun l12=>zL A ds9 3 1 fun l13=>bif (A.ilt n11 (A.rlen l10))then iT (A.inr n11 (A.rlen l10)) <| zS A (A.row l10 n11) 0 fun s14=>zC E 68 [.d (.str s14)] fun p15=>yB A p15 0 fun b17=>x0u (bif (A.bnot b17)then vB true else iT (A.inr n11 (A.rlen l10)) <| zL A (A.skip 1 (A.row l10 n11)) 0 1 fun l18=>vB (A.ieq (A.rlen l18) 0)) fun ds19=>zB A ds19 0 fun b20=>bif b20 then some (.inr (.inr (.val [nI 1]))) else iL [.sl 2 l10,nI (zW A (A.add n11 1)), .sl 1 l12, .sl 1 l13] else E.lp (fun ds21=>zI A ds21 0 fun n22=>zL A ds21 1 1 fun l23=>zL A ds21 2 1 fun l24=>bif (A.ilt n22 (A.rlen l24))then iT (A.inr n22 (A.rlen l24)) <| zS A (A.rown l24 (A.nat n22)) 0 fun s25=>zC E 69 [.d (.str s25)] fun p26=>yB A p26 0 fun b28=>bif (A.bnot b28)then some (.inr (.inr (.inr (.val [nI 1])))) else iL [nI (zW A (A.add n22 1)), .sl 1 l23, .sl 1 l24] else zC E 30 [.d (.sl 1 l23)] fun p29=>yB A p29 0 fun b31=>x0u (bif (A.bnot b31)then vB true else zC E 30 [.d (.sl 1 l24)] fun p32=>yB A p32 0 fun b34=>vB (A.bnot b34)) fun ds35=>zB A ds35 0 fun b36=>bif b36 then some (.inr (.inr (.inr (.val [nI 6])))) else some (.inr (.inr (.inr (.val [nI 0]))))) [nI 0, .sl 1 l12, .sl 1 l13]) [.sl 2 l2,nI 0, .sl 1 l4, .sl 1 l5]) [.sl 2 l_,nI 0, .sl 1 [], .sl 1 []]
def w5d (l_:LL):fT A E 28 [.d (.sl 2 l_)]=g28 A E l_:=by kernel_rfl
def g32 (A:Sy)(E:Env)(n_0:BA)(n_1 n_2 n_3 n_4:LL):Option PRes:=iT (A.fits [] n_1 72) <| iT (A.fits (A.rapp [] n_1) n_2 72) <| iT (A.fits (A.rapp (A.rapp [] n_1) n_2) n_3 72) <| some (.own 127 6 (A.rapp (A.rapp (A.rapp [] n_1) n_2) n_3))
def q9x (n_0:BA)(n_1 n_2 n_3 n_4:LL):fT A E 32 [.agg [.d (.str n_0), .d (.sl 6 n_1), .d (.sl 6 n_2), .d (.sl 6 n_3), .d (.sl 7 n_4)]]=g32 A E n_0 n_1 n_2 n_3 n_4:=by kernel_rfl
def g31 (l_:LL):Option PRes:=E.lp (fun ds1=>zL A ds1 0 6 fun l2=>zI A ds1 1 fun n3=>zL A ds1 2 1 fun l4=>bif (A.ilt n3 (A.rlen l2))then iT (A.inr n3 (A.rlen l2)) <| zS A (A.row l2 n3) 0 fun s5=>iT (A.fits l4 [[.str s5]] 16) <| iL [.sl 6 l2,nI (zW A (A.add n3 1)), .sl 1 (A.rapp l4 [[.str s5]])] else some (.inr (.own 9 1 l4))) [.sl 6 l_,nI 0, .sl 1 []]
def q9y (l_:LL):fT A E 31 [.d (.sl 6 l_)]=g31 A E l_:=by kernel_rfl
def g70 (l_:LL)(d_0:BA)(d_1 d_2 d_3:Int)(d_4 d_5:BA):Option PRes:=zC E 68 [.d (.str d_0)] fun p1=>yB A p1 0 fun b3=>x0u (bif (A.bnot b3)then vB true else zC E 116 [.d (.sl 2 l_), .agg [.d (nI d_1), .d (nI d_2), .d (nI d_3)]] fun p4=>yB A p4 0 fun b6=>vB (A.bnot b6)) fun ds7=>zB A ds7 0 fun b8=>bif b8 then vL [.bool false] else x0u (bif (A.seq d_4 (bs []))then vB (A.seq d_5 (bs [])) else vB false) fun ds9=>zB A ds9 0 fun b10=>x0u (bif b10 then vB true else zC E 68 [.d (.str d_4)] fun p11=>yB A p11 0 fun b13=>bif b13 then zC E 117 [.d (.str d_5)] fun p14=>yB A p14 0 fun b16=>vB b16 else vB false) fun ds17=>zB A ds17 0 fun b18=>vL [.bool b18]
def q9i (l_:LL)(d_0:BA)(d_1 d_2 d_3:Int)(d_4 d_5:BA):fT A E 70 [.d (.sl 2 l_), .agg [.d (.str d_0), .d (.int .i64 d_1), .d (.int .i64 d_2), .d (.int .i64 d_3), .d (.str d_4), .d (.str d_5)]]=g70 A E l_ d_0 d_1 d_2 d_3 d_4 d_5:=by kernel_rfl
def g71 (x_0:LL)(x_1 x_2:Int)(x_3:BA)(x_4:Int)(x_5 x_6:LL):Option PRes:=E.lp (fun ds1=>zI A ds1 0 fun n2=>zL A ds1 1 1 fun l3=>oE A ds1 2 fun n4 n5 s6 n7 l8 l9=>bif (A.ilt n2 (A.rlen l3))then iT (A.inr n2 (A.rlen l3)) <| zS A (A.row l3 n2) 0 fun s10=>zC E 68 [.d (.str s10)] fun p11=>yB A p11 0 fun b13=>bif (A.bnot b13)then some (.inr (.val [.bool false])) else iL [nI (zW A (A.add n2 1)), .sl 1 l3,nI n4,nI n5, .str s6,nI n7, .sl 1 l8, .sl 6 l9] else x0u (bif (A.ilt 0 (A.rlen l3))then zC E 118 [kE n4 n5 s6 n7 l8 l9] fun p14=>yB A p14 0 fun b16=>vB b16 else vB false) fun ds17=>zB A ds17 0 fun b18=>x0u (bif b18 then bif (A.ieq (A.rlen l3) 1)then vB true else vB (A.ieq n4 13) else vB false) fun ds19=>zB A ds19 0 fun b20=>some (.inr (.val [.bool b20]))) [nI 0, .sl 1 x_0,nI x_1,nI x_2, .str x_3,nI x_4, .sl 1 x_5, .sl 6 x_6]
def q9h (x_0:LL)(x_1 x_2:Int)(x_3:BA)(x_4:Int)(x_5 x_6:LL):fT A E 71 [.agg [.d (.sl 1 x_0), .d (.int .i64 x_1), .d (.int .i64 x_2), .d (.str x_3), .d (.int .i64 x_4), .d (.sl 1 x_5), .d (.sl 6 x_6)]]=g71 A E x_0 x_1 x_2 x_3 x_4 x_5 x_6:=by kernel_rfl
def g29 (l_:LL)(n_0:BA)(n_1 n_2 n_3 n_4:LL):Option PRes:=zC E 32 [.agg [.d (.str n_0), .d (.sl 6 n_1), .d (.sl 6 n_2), .d (.sl 6 n_3), .d (.sl 7 n_4)]] fun p1=>yL A p1 0 6 fun l3=>E.lp (fun ds4=>zL A ds4 0 2 fun l5=>zL A ds4 1 6 fun l6=>zI A ds4 2 fun n7=>zS A ds4 3 fun s8=>zL A ds4 4 6 fun l9=>zL A ds4 5 6 fun l10=>zL A ds4 6 6 fun l11=>zL A ds4 7 7 fun l12=>bif (A.ilt n7 (A.rlen l6))then iT (A.inr n7 (A.rlen l6)) <| oD A (A.row l6 n7) 0 fun s13 n14 n15 n16 s17 s18=>zC E 70 [.d (.sl 2 l5), .agg [.d (.str s13), .d (nI n14), .d (nI n15), .d (nI n16), .d (.str s17), .d (.str s18)]] fun p19=>yB A p19 0 fun b21=>x0u (bif (A.bnot b21)then vB true else bif (A.ilt n7 (zW A (A.add (A.rlen l9) (A.rlen l10))))then iT (A.inr n7 (A.rlen l6)) <| zS A (A.skip 4 (A.row l6 n7)) 0 fun s22=>vB (A.bnot (A.seq s22 (bs []))) else vB false) fun ds23=>zB A ds23 0 fun b24=>bif b24 then some (.inr (.val [.bool false])) else iL [.sl 2 l5, .sl 6 l6,nI (zW A (A.add n7 1)), .str s8, .sl 6 l9, .sl 6 l10, .sl 6 l11, .sl 7 l12] else E.lp (fun ds25=>zI A ds25 0 fun n26=>zS A ds25 1 fun s27=>zL A ds25 2 6 fun l28=>zL A ds25 3 6 fun l29=>zL A ds25 4 6 fun l30=>zL A ds25 5 7 fun l31=>bif (A.ilt n26 (A.rlen l31))then iT (A.inr n26 (A.rlen l31)) <| zL A (A.row l31 n26) 0 1 fun l32=>oE A (A.row l31 n26) 1 fun n33 n34 s35 n36 l37 l38=>zC E 71 [.agg [.d (.sl 1 l32), .d (nI n33), .d (nI n34), .d (.str s35), .d (nI n36), .d (.sl 1 l37), .d (.sl 6 l38)]] fun p39=>yB A p39 0 fun b41=>bif (A.bnot b41)then some (.inr (.inr (.val [.bool false]))) else iL [nI (zW A (A.add n26 1)), .str s27, .sl 6 l28, .sl 6 l29, .sl 6 l30, .sl 7 l31] else zC E 68 [.d (.str s27)] fun p42=>yB A p42 0 fun b44=>x0u (bif b44 then vB (A.ilt 0 (A.rlen l29)) else vB false) fun ds45=>zB A ds45 0 fun b46=>some (.inr (.inr (.val [.bool b46])))) [nI 0, .str s8, .sl 6 l9, .sl 6 l10, .sl 6 l11, .sl 7 l12]) [.sl 2 l_, .sl 6 l3,nI 0, .str n_0, .sl 6 n_1, .sl 6 n_2, .sl 6 n_3, .sl 7 n_4]
def k0a (l_:LL)(n_0:BA)(n_1 n_2 n_3 n_4:LL):fT A E 29 [.d (.sl 2 l_), .agg [.d (.str n_0), .d (.sl 6 n_1), .d (.sl 6 n_2), .d (.sl 6 n_3), .d (.sl 7 n_4)]]=g29 A E l_ n_0 n_1 n_2 n_3 n_4:=by kernel_rfl
def g12 (p_0 p_1:LL):Option PRes:=zC E 28 [.d (.sl 2 p_0)] fun p1=>yI A p1 0 fun n3=>bif (A.bnot (A.ieq n3 0))then vL [nI n3] else bif (A.ieq (A.rlen p_1) 0)then vL [nI 5] else bif (A.ilt 6 (A.rlen p_1))then vL [nI 4] else E.lp (fun ds4=>zB A ds4 0 fun b5=>zB A ds4 1 fun b6=>zI A ds4 2 fun n7=>zL A ds4 3 2 fun l8=>zL A ds4 4 5 fun l9=>zL A ds4 5 1 fun l10=>bif (A.ilt n7 (A.rlen l9))then iT (A.inr n7 (A.rlen l9)) <| zS A (A.row l9 n7) 0 fun s11=>zL A (A.row l9 n7) 1 6 fun l12=>zL A (A.row l9 n7) 2 6 fun l13=>zL A (A.row l9 n7) 3 6 fun l14=>zL A (A.row l9 n7) 4 7 fun l15=>x0u (bif (A.ilt 6 (A.rlen l12))then vB true else vB (A.ilt 6 (A.rlen l13))) fun ds16=>zB A ds16 0 fun b17=>x0u (bif b17 then vB true else vB (A.ilt 12 (A.rlen l14))) fun ds18=>zB A ds18 0 fun b19=>x0u (bif b19 then vB true else vB (A.ilt 18 (A.rlen l15))) fun ds20=>zB A ds20 0 fun b21=>bif b21 then some (.inr (.val [nI 4])) else iT (A.fits l10 [[.str s11]] 16) <| x0u (bif b5 then zC E 29 [.d (.sl 2 l8), .agg [.d (.str s11), .d (.sl 6 l12), .d (.sl 6 l13), .d (.sl 6 l14), .d (.sl 7 l15)]] fun p22=>yB A p22 0 fun b24=>vB b24 else vB false) fun ds25=>zB A ds25 0 fun b26=>bif b6 then zC E 32 [.agg [.d (.str s11), .d (.sl 6 l12), .d (.sl 6 l13), .d (.sl 6 l14), .d (.sl 7 l15)]] fun p27=>yL A p27 0 6 fun l29=>zC E 31 [.d (.sl 6 l29)] fun p30=>yL A p30 0 1 fun l32=>zC E 30 [.d (.sl 1 l32)] fun p33=>yB A p33 0 fun b35=>iL [.bool b26, .bool b35,nI (zW A (A.add n7 1)), .sl 2 l8, .sl 5 l9, .sl 1 (A.rapp l10 [[.str s11]])] else iL [.bool b26, .bool false,nI (zW A (A.add n7 1)), .sl 2 l8, .sl 5 l9, .sl 1 (A.rapp l10 [[.str s11]])] else bif (A.bnot b5)then some (.inr (.val [nI 1])) else x0u (bif (A.bnot b6)then vB true else zC E 30 [.d (.sl 1 l10)] fun p36=>yB A p36 0 fun b38=>vB (A.bnot b38)) fun ds39=>zB A ds39 0 fun b40=>bif b40 then some (.inr (.val [nI 6])) else some (.inr (.val [nI 0]))) [.bool true, .bool true,nI 0, .sl 2 p_0, .sl 5 p_1, .sl 1 []]
def k0k (p_0 p_1:LL):fT A E 12 [.agg [.d (.sl 2 p_0), .d (.sl 5 p_1)]]=g12 A E p_0 p_1:=by kernel_rfl
def g64 (a_ b_:LL):Option PRes:=bif (A.bnot (A.ieq (A.rlen a_) (A.rlen b_)))then vL [.bool false] else E.lp (fun ds1=>zL A ds1 0 6 fun l2=>zL A ds1 1 6 fun l3=>zI A ds1 2 fun n4=>bif (A.ilt n4 (A.rlen l2))then iT (A.inr n4 (A.rlen l2)) <| oD A (A.row l2 n4) 0 fun s5 n6 n7 n8 s9 s10=>iT (A.inr n4 (A.rlen l3)) <| oD A (A.row l3 n4) 0 fun s11 n12 n13 n14 s15 s16=>bif (A.bnot (A.deq [.str s5,nI n6,nI n7,nI n8, .str s9, .str s10] [.str s11,nI n12,nI n13,nI n14, .str s15, .str s16]))then some (.inr (.val [.bool false])) else iL [.sl 6 l2, .sl 6 l3,nI (zW A (A.add n4 1))] else some (.inr (.val [.bool true]))) [.sl 6 a_, .sl 6 b_,nI 0]
def q9o (a_ b_:LL):fT A E 64 [.d (.sl 6 a_), .d (.sl 6 b_)]=g64 A E a_ b_:=by kernel_rfl
def g24 (a_0:BA)(a_1 a_2 a_3 a_4:LL)(b_0:BA)(b_1 b_2 b_3 b_4:LL):Option PRes:=x0u (bif (A.bnot (A.seq a_0 b_0))then vB true else zC E 64 [.d (.sl 6 a_1), .d (.sl 6 b_1)] fun p1=>yB A p1 0 fun b3=>vB (A.bnot b3)) fun ds4=>zB A ds4 0 fun b5=>x0u (bif b5 then vB true else zC E 64 [.d (.sl 6 a_2), .d (.sl 6 b_2)] fun p6=>yB A p6 0 fun b8=>vB (A.bnot b8)) fun ds9=>zB A ds9 0 fun b10=>x0u (bif b10 then vB true else zC E 64 [.d (.sl 6 a_3), .d (.sl 6 b_3)] fun p11=>yB A p11 0 fun b13=>vB (A.bnot b13)) fun ds14=>zB A ds14 0 fun b15=>x0u (bif b15 then vB true else vB (A.bnot (A.ieq (A.rlen a_4) (A.rlen b_4)))) fun ds16=>zB A ds16 0 fun b17=>bif b17 then vL [.bool false] else E.lp (fun ds18=>zI A ds18 0 fun n19=>zS A ds18 1 fun s20=>zL A ds18 2 6 fun l21=>zL A ds18 3 6 fun l22=>zL A ds18 4 6 fun l23=>zL A ds18 5 7 fun l24=>zS A ds18 6 fun s25=>zL A ds18 7 6 fun l26=>zL A ds18 8 6 fun l27=>zL A ds18 9 6 fun l28=>zL A ds18 10 7 fun l29=>bif (A.ilt n19 (A.rlen l24))then iT (A.inr n19 (A.rlen l24)) <| zL A (A.row l24 n19) 0 1 fun l30=>iT (A.inr n19 (A.rlen l29)) <| zL A (A.row l29 n19) 0 1 fun l31=>zC E 63 [.d (.sl 1 l30), .d (.sl 1 l31)] fun p32=>yB A p32 0 fun b34=>bif (A.bnot b34)then some (.inr (.val [.bool false])) else iT (A.inr n19 (A.rlen l24)) <| oE A (A.skip 1 (A.row l24 n19)) 0 fun n35 n36 s37 n38 l39 l40=>iT (A.inr n19 (A.rlen l29)) <| oE A (A.skip 1 (A.row l29 n19)) 0 fun n41 n42 s43 n44 l45 l46=>zC E 65 [kE n35 n36 s37 n38 l39 l40,kE n41 n42 s43 n44 l45 l46] fun p47=>yB A p47 0 fun b49=>bif (A.bnot b49)then some (.inr (.val [.bool false])) else iL [nI (zW A (A.add n19 1)), .str s20, .sl 6 l21, .sl 6 l22, .sl 6 l23, .sl 7 l24, .str s25, .sl 6 l26, .sl 6 l27, .sl 6 l28, .sl 7 l29] else some (.inr (.val [.bool true]))) [nI 0, .str a_0, .sl 6 a_1, .sl 6 a_2, .sl 6 a_3, .sl 7 a_4, .str b_0, .sl 6 b_1, .sl 6 b_2, .sl 6 b_3, .sl 7 b_4]
def k0d (a_0:BA)(a_1 a_2 a_3 a_4:LL)(b_0:BA)(b_1 b_2 b_3 b_4:LL):fT A E 24 [.agg [.d (.str a_0), .d (.sl 6 a_1), .d (.sl 6 a_2), .d (.sl 6 a_3), .d (.sl 7 a_4)], .agg [.d (.str b_0), .d (.sl 6 b_1), .d (.sl 6 b_2), .d (.sl 6 b_3), .d (.sl 7 b_4)]]=g24 A E a_0 a_1 a_2 a_3 a_4 b_0 b_1 b_2 b_3 b_4:=by kernel_rfl
def g9 (a_0 a_1 b_0 b_1:LL):Option PRes:=zC E 23 [.d (.sl 2 a_0), .d (.sl 2 b_0)] fun p1=>yB A p1 0 fun b3=>x0u (bif (A.bnot b3)then vB true else vB (A.bnot (A.ieq (A.rlen a_1) (A.rlen b_1)))) fun ds4=>zB A ds4 0 fun b5=>bif b5 then vL [.bool false] else E.lp (fun ds6=>zI A ds6 0 fun n7=>zL A ds6 1 2 fun l8=>zL A ds6 2 5 fun l9=>zL A ds6 3 2 fun l10=>zL A ds6 4 5 fun l11=>bif (A.ilt n7 (A.rlen l9))then iT (A.inr n7 (A.rlen l9)) <| zS A (A.row l9 n7) 0 fun s12=>zL A (A.row l9 n7) 1 6 fun l13=>zL A (A.row l9 n7) 2 6 fun l14=>zL A (A.row l9 n7) 3 6 fun l15=>zL A (A.row l9 n7) 4 7 fun l16=>iT (A.inr n7 (A.rlen l11)) <| zS A (A.row l11 n7) 0 fun s17=>zL A (A.row l11 n7) 1 6 fun l18=>zL A (A.row l11 n7) 2 6 fun l19=>zL A (A.row l11 n7) 3 6 fun l20=>zL A (A.row l11 n7) 4 7 fun l21=>zC E 24 [.agg [.d (.str s12), .d (.sl 6 l13), .d (.sl 6 l14), .d (.sl 6 l15), .d (.sl 7 l16)], .agg [.d (.str s17), .d (.sl 6 l18), .d (.sl 6 l19), .d (.sl 6 l20), .d (.sl 7 l21)]] fun p22=>yB A p22 0 fun b24=>bif (A.bnot b24)then some (.inr (.val [.bool false])) else iL [nI (zW A (A.add n7 1)), .sl 2 l8, .sl 5 l9, .sl 2 l10, .sl 5 l11] else some (.inr (.val [.bool true]))) [nI 0, .sl 2 a_0, .sl 5 a_1, .sl 2 b_0, .sl 5 b_1]
def k5j (a_0 a_1 b_0 b_1:LL):fT A E 9 [.agg [.d (.sl 2 a_0), .d (.sl 5 a_1)], .agg [.d (.sl 2 b_0), .d (.sl 5 b_1)]]=g9 A E a_0 a_1 b_0 b_1:=by kernel_rfl
def g11 (A:Sy)(E:Env)(p_0 p_1:LL):Option PRes:=(E.call 25 [(.d (.sl 2 p_0))]).bind fun p1=>(opB (A.cell p1.leaves 0)).bind fun b3=>x0u (bif (A.bnot b3)then some (.inl [(.bool true)]) else some (.inl [(.bool (A.ilt 10 (A.rlen p_1)))])) fun ds4=>(opB (A.cell ds4 0)).bind fun b5=>bif b5 then some (.val [(.bool false)]) else E.lp (fun ds6=>(opI (A.cell ds6 0) .i64).bind fun n7=>(opL (A.cell ds6 1) 2).bind fun l8=>(opL (A.cell ds6 2) 5).bind fun l9=>bif (A.ilt n7 (A.rlen l9))then bif (A.inr n7 (A.rlen l9))then (opS (A.cell (A.row l9 n7) 0)).bind fun s10=>(opL (A.cell (A.row l9 n7) 1) 6).bind fun l11=>(opL (A.cell (A.row l9 n7) 2) 6).bind fun l12=>(opL (A.cell (A.row l9 n7) 3) 6).bind fun l13=>(opL (A.cell (A.row l9 n7) 4) 7).bind fun l14=>(E.call 26 [(.d (.sl 6 l11))]).bind fun p15=>(opB (A.cell p15.leaves 0)).bind fun b17=>x0u (bif (A.bnot b17)then some (.inl [(.bool true)]) else (E.call 26 [(.d (.sl 6 l12))]).bind fun p18=>(opB (A.cell p18.leaves 0)).bind fun b20=>some (.inl [(.bool (A.bnot b20))])) fun ds21=>(opB (A.cell ds21 0)).bind fun b22=>x0u (bif b22 then some (.inl [(.bool true)]) else (E.call 26 [(.d (.sl 6 l13))]).bind fun p23=>(opB (A.cell p23.leaves 0)).bind fun b25=>some (.inl [(.bool (A.bnot b25))])) fun ds26=>(opB (A.cell ds26 0)).bind fun b27=>x0u (bif b27 then some (.inl [(.bool true)]) else some (.inl [(.bool (A.ilt 30 (A.rlen l14)))])) fun ds28=>(opB (A.cell ds28 0)).bind fun b29=>x0u (bif b29 then some (.inl [(.bool true)]) else some (.inl [(.bool (A.ilt 100 (A.slen s10)))])) fun ds30=>(opB (A.cell ds30 0)).bind fun b31=>bif b31 then some (.inr (.val [(.bool false)])) else E.lp (fun ds32=>(opI (A.cell ds32 0) .i64).bind fun n33=>(opI (A.cell ds32 1) .i64).bind fun n34=>(opL (A.cell ds32 2) 2).bind fun l35=>(opL (A.cell ds32 3) 5).bind fun l36=>(opS (A.cell ds32 4)).bind fun s37=>(opL (A.cell ds32 5) 6).bind fun l38=>(opL (A.cell ds32 6) 6).bind fun l39=>(opL (A.cell ds32 7) 6).bind fun l40=>(opL (A.cell ds32 8) 7).bind fun l41=>bif (A.ilt n34 (A.rlen l41))then bif (A.inr n34 (A.rlen l41))then (opL (A.cell (A.row l41 n34) 0) 1).bind fun l42=>oE A (A.row l41 n34) 1 fun n43 n44 s45 n46 l47 l48=>x0u (bif (A.ilt 20 (A.rlen l42))then some (.inl [(.bool true)]) else (E.call 27 [(kE n43 n44 s45 n46 l47 l48)]).bind fun p49=>(opB (A.cell p49.leaves 0)).bind fun b51=>some (.inl [(.bool (A.bnot b51))])) fun ds52=>(opB (A.cell ds52 0)).bind fun b53=>bif b53 then some (.inr (.inr (.val [(.bool false)]))) else E.lp (fun ds54=>(opI (A.cell ds54 0) .i64).bind fun n55=>(opI (A.cell ds54 1) .i64).bind fun n56=>(opI (A.cell ds54 2) .i64).bind fun n57=>(opL (A.cell ds54 3) 2).bind fun l58=>(opL (A.cell ds54 4) 5).bind fun l59=>(opS (A.cell ds54 5)).bind fun s60=>(opL (A.cell ds54 6) 6).bind fun l61=>(opL (A.cell ds54 7) 6).bind fun l62=>(opL (A.cell ds54 8) 6).bind fun l63=>(opL (A.cell ds54 9) 7).bind fun l64=>(opL (A.cell ds54 10) 1).bind fun l65=>oE A ds54 11 fun n66 n67 s68 n69 l70 l71=>bif (A.ilt n57 (A.rlen l65))then bif (A.inr n57 (A.rlen l65))then (opS (A.cell (A.row l65 n57) 0)).bind fun s72=>bif (A.ilt 100 (A.slen s72))then some (.inr (.inr (.inr (.val [(.bool false)])))) else some (.inl [(.int .i64 n55),(.int .i64 n56),(.int .i64 (A.wrap .i64 (A.add n57 1))),(.sl 2 l58),(.sl 5 l59),(.str s60),(.sl 6 l61),(.sl 6 l62),(.sl 6 l63),(.sl 7 l64),(.sl 1 l65),(.int .i64 n66),(.int .i64 n67),(.str s68),(.int .i64 n69),(.sl 1 l70),(.sl 6 l71)]) else none else some (.inr (.inl [(.int .i64 n55),(.int .i64 (A.wrap .i64 (A.add n56 1))),(.sl 2 l58),(.sl 5 l59),(.str s60),(.sl 6 l61),(.sl 6 l62),(.sl 6 l63),(.sl 7 l64)]))) [(.int .i64 n33),(.int .i64 n34),(.int .i64 0),(.sl 2 l35),(.sl 5 l36),(.str s37),(.sl 6 l38),(.sl 6 l39),(.sl 6 l40),(.sl 7 l41),(.sl 1 l42),(.int .i64 n43),(.int .i64 n44),(.str s45),(.int .i64 n46),(.sl 1 l47),(.sl 6 l48)] else none else some (.inr (.inl [(.int .i64 (A.wrap .i64 (A.add n33 1))),(.sl 2 l35),(.sl 5 l36)]))) [(.int .i64 n7),(.int .i64 0),(.sl 2 l8),(.sl 5 l9),(.str s10),(.sl 6 l11),(.sl 6 l12),(.sl 6 l13),(.sl 7 l14)]
 else none else some (.inr (.val [(.bool true)]))) [(.int .i64 0),(.sl 2 p_0),(.sl 5 p_1)]
def k0l (p_0 p_1:LL):fT A E 11 [.agg [.d (.sl 2 p_0), .d (.sl 5 p_1)]]=g11 A E p_0 p_1:=by kernel_rfl
def w5f (l_:LL)(t_0 t_1 t_2:Int):Option PRes:=zC E 116 [.d (.sl 2 l_), .agg [.d (nI t_0), .d (nI t_1), .d (nI t_2)]] fun p1=>yB A p1 0 fun b3=>bif (A.bnot b3)then vL [.str (bs [])] else bif (A.ieq t_0 2)then bif (A.ieq t_0 3)then iT (A.inr t_1 (A.rlen l_)) <| zS A (A.row l_ t_1) 0 fun s4=>bif (A.ilt 0 t_2)then iT (A.sfit s4 (bs [91])) <| iT (A.isby [[.int .u8 (A.wrap .u8 (zW A (A.add 48 t_2)))]]) <| iT (A.sfit (A.sapp s4 (bs [91])) (A.bstr [[.int .u8 (A.wrap .u8 (zW A (A.add 48 t_2)))]])) <| iT (A.sfit (A.sapp (A.sapp s4 (bs [91])) (A.bstr [[.int .u8 (A.wrap .u8 (zW A (A.add 48 t_2)))]])) (bs [93])) <| vL [.str (A.sapp (A.sapp (A.sapp s4 (bs [91])) (A.bstr [[.int .u8 (A.wrap .u8 (zW A (A.add 48 t_2)))]])) (bs [93]))] else vL [.str s4] else bif (A.ilt 0 t_2)then iT (A.sfit (bs [98,111,111,108]) (bs [91])) <| iT (A.isby [[.int .u8 (A.wrap .u8 (zW A (A.add 48 t_2)))]]) <| iT (A.sfit (A.sapp (bs [98,111,111,108]) (bs [91])) (A.bstr [[.int .u8 (A.wrap .u8 (zW A (A.add 48 t_2)))]])) <| iT (A.sfit (A.sapp (A.sapp (bs [98,111,111,108]) (bs [91])) (A.bstr [[.int .u8 (A.wrap .u8 (zW A (A.add 48 t_2)))]])) (bs [93])) <| vL [.str (A.sapp (A.sapp (A.sapp (bs [98,111,111,108]) (bs [91])) (A.bstr [[.int .u8 (A.wrap .u8 (zW A (A.add 48 t_2)))]])) (bs [93]))] else vL [.str (bs [98,111,111,108])] else bif (A.ieq t_0 3)then iT (A.inr t_1 (A.rlen l_)) <| zS A (A.row l_ t_1) 0 fun s5=>bif (A.ilt 0 t_2)then iT (A.sfit s5 (bs [91])) <| iT (A.isby [[.int .u8 (A.wrap .u8 (zW A (A.add 48 t_2)))]]) <| iT (A.sfit (A.sapp s5 (bs [91])) (A.bstr [[.int .u8 (A.wrap .u8 (zW A (A.add 48 t_2)))]])) <| iT (A.sfit (A.sapp (A.sapp s5 (bs [91])) (A.bstr [[.int .u8 (A.wrap .u8 (zW A (A.add 48 t_2)))]])) (bs [93])) <| vL [.str (A.sapp (A.sapp (A.sapp s5 (bs [91])) (A.bstr [[.int .u8 (A.wrap .u8 (zW A (A.add 48 t_2)))]])) (bs [93]))] else vL [.str s5] else bif (A.ilt 0 t_2)then iT (A.sfit (bs [105,110,116]) (bs [91])) <| iT (A.isby [[.int .u8 (A.wrap .u8 (zW A (A.add 48 t_2)))]]) <| iT (A.sfit (A.sapp (bs [105,110,116]) (bs [91])) (A.bstr [[.int .u8 (A.wrap .u8 (zW A (A.add 48 t_2)))]])) <| iT (A.sfit (A.sapp (A.sapp (bs [105,110,116]) (bs [91])) (A.bstr [[.int .u8 (A.wrap .u8 (zW A (A.add 48 t_2)))]])) (bs [93])) <| vL [.str (A.sapp (A.sapp (A.sapp (bs [105,110,116]) (bs [91])) (A.bstr [[.int .u8 (A.wrap .u8 (zW A (A.add 48 t_2)))]])) (bs [93]))] else vL [.str (bs [105,110,116])]
def q0k (l_:LL)(t_0 t_1 t_2:Int):fT A E 155 [.d (.sl 2 l_), .agg [.d (.int .i64 t_0), .d (.int .i64 t_1), .d (.int .i64 t_2)]]=w5f A E l_ t_0 t_1 t_2:=by kernel_rfl
def k3g (l_:LL)(d_0:BA)(d_1 d_2 d_3:Int)(d_4 d_5:BA):Option PRes:=iT (A.sfit d_0 (bs [58,32])) <| zC E 155 [.d (.sl 2 l_), .agg [.d (nI d_1), .d (nI d_2), .d (nI d_3)]] fun p1=>yS A p1 0 fun s3=>iT (A.sfit (A.sapp d_0 (bs [58,32])) s3) <| bif (A.bnot (A.seq d_4 (bs [])))then iT (A.sfit (A.sapp (A.sapp d_0 (bs [58,32])) s3) (bs [32,119,104,101,110,32])) <| zC E 156 [.d (.str d_4), .d (.str d_5)] fun p4=>yS A p4 0 fun s6=>iT (A.sfit (A.sapp (A.sapp (A.sapp d_0 (bs [58,32])) s3) (bs [32,119,104,101,110,32])) s6) <| vL [.str (A.sapp (A.sapp (A.sapp (A.sapp d_0 (bs [58,32])) s3) (bs [32,119,104,101,110,32])) s6)] else vL [.str (A.sapp (A.sapp d_0 (bs [58,32])) s3)]
def q1e (l_:LL)(d_0:BA)(d_1 d_2 d_3:Int)(d_4 d_5:BA):fT A E 119 [.d (.sl 2 l_), .agg [.d (.str d_0), .d (.int .i64 d_1), .d (.int .i64 d_2), .d (.int .i64 d_3), .d (.str d_4), .d (.str d_5)]]=k3g A E l_ d_0 d_1 d_2 d_3 d_4 d_5:=by kernel_rfl
def g33 (A:Sy)(E:Env)(l_:LL):Option PRes:=E.lp (fun ds1=>(opL (A.cell ds1 0) 1).bind fun l2=>(opS (A.cell ds1 1)).bind fun s3=>(opI (A.cell ds1 2) .i64).bind fun n4=>bif (A.ilt n4 (A.rlen l2))then bif (A.ilt 0 n4)then bif (A.sfit s3 (bs [44,32]))then bif (A.inr n4 (A.rlen l2))then (opS (A.cell (A.row l2 n4) 0)).bind fun s5=>bif (A.sfit (A.sapp s3 (bs [44,32])) s5)then some (.inl [(.sl 1 l2),(.str (A.sapp (A.sapp s3 (bs [44,32])) s5)),(.int .i64 (A.wrap .i64 (A.add n4 1)))]) else none else none else none else bif (A.inr n4 (A.rlen l2))then (opS (A.cell (A.row l2 n4) 0)).bind fun s6=>bif (A.sfit s3 s6)then some (.inl [(.sl 1 l2),(.str (A.sapp s3 s6)),(.int .i64 (A.wrap .i64 (A.add n4 1)))]) else none else none else some (.inr (.val [(.str s3)]))) [(.sl 1 l_),(.str (bs [])),(.int .i64 0)]
def q9w (l_:LL):fT A E 33 [.d (.sl 1 l_)]=g33 A E l_:=by kernel_rfl
def g72 (A:Sy)(E:Env)(l_ d_:LL):Option PRes:=E.lp (fun ds1=>(opL (A.cell ds1 0) 2).bind fun l2=>(opL (A.cell ds1 1) 6).bind fun l3=>(opS (A.cell ds1 2)).bind fun s4=>(opI (A.cell ds1 3) .i64).bind fun n5=>bif (A.ilt n5 (A.rlen l3))then bif (A.ilt 0 n5)then bif (A.sfit s4 (bs [59,32]))then bif (A.inr n5 (A.rlen l3))then oD A (A.row l3 n5) 0 fun s6 n7 n8 n9 s10 s11=>(E.call 119 [(.d (.sl 2 l2)),(.agg [(.d (.str s6)),(.d (.int .i64 n7)),(.d (.int .i64 n8)),(.d (.int .i64 n9)),(.d (.str s10)),(.d (.str s11))])]).bind fun p12=>(opS (A.cell p12.leaves 0)).bind fun s14=>bif (A.sfit (A.sapp s4 (bs [59,32])) s14)then some (.inl [(.sl 2 l2),(.sl 6 l3),(.str (A.sapp (A.sapp s4 (bs [59,32])) s14)),(.int .i64 (A.wrap .i64 (A.add n5 1)))]) else none else none else none else bif (A.inr n5 (A.rlen l3))then oD A (A.row l3 n5) 0 fun s15 n16 n17 n18 s19 s20=>(E.call 119 [(.d (.sl 2 l2)),(.agg [(.d (.str s15)),(.d (.int .i64 n16)),(.d (.int .i64 n17)),(.d (.int .i64 n18)),(.d (.str s19)),(.d (.str s20))])]).bind fun p21=>(opS (A.cell p21.leaves 0)).bind fun s23=>bif (A.sfit s4 s23)then some (.inl [(.sl 2 l2),(.sl 6 l3),(.str (A.sapp s4 s23)),(.int .i64 (A.wrap .i64 (A.add n5 1)))]) else none else none else some (.inr (.val [(.str s4)]))) [(.sl 2 l_),(.sl 6 d_),(.str (bs [])),(.int .i64 0)]
def q9g (l_ d_:LL):fT A E 72 [.d (.sl 2 l_), .d (.sl 6 d_)]=g72 A E l_ d_:=by kernel_rfl
def g34 (A:Sy)(E:Env)(l_:LL)(n_0:BA)(n_1 n_2 n_3 n_4:LL):Option PRes:=bif (A.sfit (bs [110,111,100,101,32]) n_0)then bif (A.sfit (A.sapp (bs [110,111,100,101,32]) n_0) (bs [40]))then (E.call 72 [(.d (.sl 2 l_)),(.d (.sl 6 n_1))]).bind fun p1=>(opS (A.cell p1.leaves 0)).bind fun s3=>bif (A.sfit (A.sapp (A.sapp (bs [110,111,100,101,32]) n_0) (bs [40])) s3)then bif (A.sfit (A.sapp (A.sapp (A.sapp (bs [110,111,100,101,32]) n_0) (bs [40])) s3) (bs [41,32,114,101,116,117,114,110,115,32,40]))then (E.call 72 [(.d (.sl 2 l_)),(.d (.sl 6 n_2))]).bind fun p4=>(opS (A.cell p4.leaves 0)).bind fun s6=>bif (A.sfit (A.sapp (A.sapp (A.sapp (A.sapp (bs [110,111,100,101,32]) n_0) (bs [40])) s3) (bs [41,32,114,101,116,117,114,110,115,32,40])) s6)then bif (A.sfit (A.sapp (A.sapp (A.sapp (A.sapp (A.sapp (bs [110,111,100,101,32]) n_0) (bs [40])) s3) (bs [41,32,114,101,116,117,114,110,115,32,40])) s6) (bs [41,10]))then bif (A.ilt 0 (A.rlen n_3))then bif (A.sfit (A.sapp (A.sapp (A.sapp (A.sapp (A.sapp (A.sapp (bs [110,111,100,101,32]) n_0) (bs [40])) s3) (bs [41,32,114,101,116,117,114,110,115,32,40])) s6) (bs [41,10])) (bs [118,97,114,32]))then (E.call 72 [(.d (.sl 2 l_)),(.d (.sl 6 n_3))]).bind fun p7=>(opS (A.cell p7.leaves 0)).bind fun s9=>bif (A.sfit (A.sapp (A.sapp (A.sapp (A.sapp (A.sapp (A.sapp (A.sapp (bs [110,111,100,101,32]) n_0) (bs [40])) s3) (bs [41,32,114,101,116,117,114,110,115,32,40])) s6) (bs [41,10])) (bs [118,97,114,32])) s9)then bif (A.sfit (A.sapp (A.sapp (A.sapp (A.sapp (A.sapp (A.sapp (A.sapp (A.sapp (bs [110,111,100,101,32]) n_0) (bs [40])) s3) (bs [41,32,114,101,116,117,114,110,115,32,40])) s6) (bs [41,10])) (bs [118,97,114,32])) s9) (bs [59,10]))then bif (A.sfit (A.sapp (A.sapp (A.sapp (A.sapp (A.sapp (A.sapp (A.sapp (A.sapp (A.sapp (bs [110,111,100,101,32]) n_0) (bs [40])) s3) (bs [41,32,114,101,116,117,114,110,115,32,40])) s6) (bs [41,10])) (bs [118,97,114,32])) s9) (bs [59,10])) (bs [108,101,116,10]))then E.lp (fun ds10=>(opS (A.cell ds10 0)).bind fun s11=>(opI (A.cell ds10 1) .i64).bind fun n12=>(opS (A.cell ds10 2)).bind fun s13=>(opL (A.cell ds10 3) 6).bind fun l14=>(opL (A.cell ds10 4) 6).bind fun l15=>(opL (A.cell ds10 5) 6).bind fun l16=>(opL (A.cell ds10 6) 7).bind fun l17=>bif (A.ilt n12 (A.rlen l17))then bif (A.sfit s11 (bs [32,32]))then bif (A.inr n12 (A.rlen l17))then (opL (A.cell (A.row l17 n12) 0) 1).bind fun l18=>(E.call 33 [(.d (.sl 1 l18))]).bind fun p19=>(opS (A.cell p19.leaves 0)).bind fun s21=>bif (A.sfit (A.sapp s11 (bs [32,32])) s21)then bif (A.sfit (A.sapp (A.sapp s11 (bs [32,32])) s21) (bs [32,61,32]))then bif (A.inr n12 (A.rlen l17))then oE A (A.skip 1 (A.row l17 n12)) 0 fun n22 n23 s24 n25 l26 l27=>(E.call 73 [(kE n22 n23 s24 n25 l26 l27)]).bind fun p28=>(opS (A.cell p28.leaves 0)).bind fun s30=>bif (A.sfit (A.sapp (A.sapp (A.sapp s11 (bs [32,32])) s21) (bs [32,61,32])) s30)then bif (A.sfit (A.sapp (A.sapp (A.sapp (A.sapp s11 (bs [32,32])) s21) (bs [32,61,32])) s30) (bs [59,10]))then some (.inl [(.str (A.sapp (A.sapp (A.sapp (A.sapp (A.sapp s11 (bs [32,32])) s21) (bs [32,61,32])) s30) (bs [59,10]))),(.int .i64 (A.wrap .i64 (A.add n12 1))),(.str s13),(.sl 6 l14),(.sl 6 l15),(.sl 6 l16),(.sl 7 l17)]) else none else none else none else none else none else none else none else bif (A.sfit s11 (bs [116,101,108,10]))then some (.inr (.val [(.str (A.sapp s11 (bs [116,101,108,10])))])) else none) [(.str (A.sapp (A.sapp (A.sapp (A.sapp (A.sapp (A.sapp (A.sapp (A.sapp (A.sapp (A.sapp (bs [110,111,100,101,32]) n_0) (bs [40])) s3) (bs [41,32,114,101,116,117,114,110,115,32,40])) s6) (bs [41,10])) (bs [118,97,114,32])) s9) (bs [59,10])) (bs [108,101,116,10]))),(.int .i64 0),(.str n_0),(.sl 6 n_1),(.sl 6 n_2),(.sl 6 n_3),(.sl 7 n_4)] else none else none else none else none else bif (A.sfit (A.sapp (A.sapp (A.sapp (A.sapp (A.sapp (A.sapp (bs [110,111,100,101,32]) n_0) (bs [40])) s3) (bs [41,32,114,101,116,117,114,110,115,32,40])) s6) (bs [41,10])) (bs [108,101,116,10]))then E.lp (fun ds31=>(opS (A.cell ds31 0)).bind fun s32=>
 (opI (A.cell ds31 1) .i64).bind fun n33=>(opS (A.cell ds31 2)).bind fun s34=>(opL (A.cell ds31 3) 6).bind fun l35=>(opL (A.cell ds31 4) 6).bind fun l36=>(opL (A.cell ds31 5) 6).bind fun l37=>(opL (A.cell ds31 6) 7).bind fun l38=>bif (A.ilt n33 (A.rlen l38))then bif (A.sfit s32 (bs [32,32]))then bif (A.inr n33 (A.rlen l38))then (opL (A.cell (A.row l38 n33) 0) 1).bind fun l39=>(E.call 33 [(.d (.sl 1 l39))]).bind fun p40=>(opS (A.cell p40.leaves 0)).bind fun s42=>bif (A.sfit (A.sapp s32 (bs [32,32])) s42)then bif (A.sfit (A.sapp (A.sapp s32 (bs [32,32])) s42) (bs [32,61,32]))then bif (A.inr n33 (A.rlen l38))then oE A (A.skip 1 (A.row l38 n33)) 0 fun n43 n44 s45 n46 l47 l48=>(E.call 73 [(kE n43 n44 s45 n46 l47 l48)]).bind fun p49=>(opS (A.cell p49.leaves 0)).bind fun s51=>bif (A.sfit (A.sapp (A.sapp (A.sapp s32 (bs [32,32])) s42) (bs [32,61,32])) s51)then bif (A.sfit (A.sapp (A.sapp (A.sapp (A.sapp s32 (bs [32,32])) s42) (bs [32,61,32])) s51) (bs [59,10]))then some (.inl [(.str (A.sapp (A.sapp (A.sapp (A.sapp (A.sapp s32 (bs [32,32])) s42) (bs [32,61,32])) s51) (bs [59,10]))),(.int .i64 (A.wrap .i64 (A.add n33 1))),(.str s34),(.sl 6 l35),(.sl 6 l36),(.sl 6 l37),(.sl 7 l38)]) else none else none else none else none else none else none else none else bif (A.sfit s32 (bs [116,101,108,10]))then some (.inr (.val [(.str (A.sapp s32 (bs [116,101,108,10])))])) else none) [(.str (A.sapp (A.sapp (A.sapp (A.sapp (A.sapp (A.sapp (A.sapp (bs [110,111,100,101,32]) n_0) (bs [40])) s3) (bs [41,32,114,101,116,117,114,110,115,32,40])) s6) (bs [41,10])) (bs [108,101,116,10]))),(.int .i64 0),(.str n_0),(.sl 6 n_1),(.sl 6 n_2),(.sl 6 n_3),(.sl 7 n_4)] else none else none else none else none else none else none else none
def q9v (l_:LL)(n_0:BA)(n_1 n_2 n_3 n_4:LL):fT A E 34 [.d (.sl 2 l_), .agg [.d (.str n_0), .d (.sl 6 n_1), .d (.sl 6 n_2), .d (.sl 6 n_3), .d (.sl 7 n_4)]]=g34 A E l_ n_0 n_1 n_2 n_3 n_4:=by kernel_rfl
def g13 (A:Sy)(E:Env)(p_0 p_1:LL):Option PRes:=(E.call 12 [(.agg [(.d (.sl 2 p_0)),(.d (.sl 5 p_1))])]).bind fun p1=>(opI (A.cell p1.leaves 0) .i64).bind fun n3=>bif (A.bnot (A.ieq n3 0))then some (.val [(.str (bs []))]) else E.lp (fun ds4=>(opS (A.cell ds4 0)).bind fun s5=>(opI (A.cell ds4 1) .i64).bind fun n6=>(opL (A.cell ds4 2) 2).bind fun l7=>(opL (A.cell ds4 3) 5).bind fun l8=>bif (A.ilt n6 (A.rlen l7))then bif (A.sfit s5 (bs [101,110,117,109,32]))then bif (A.inr n6 (A.rlen l7))then (opS (A.cell (A.row l7 n6) 0)).bind fun s9=>bif (A.sfit (A.sapp s5 (bs [101,110,117,109,32])) s9)then bif (A.sfit (A.sapp (A.sapp s5 (bs [101,110,117,109,32])) s9) (bs [32,123,32]))then bif (A.inr n6 (A.rlen l7))then (opL (A.cell (A.skip 1 (A.row l7 n6)) 0) 1).bind fun l10=>(E.call 33 [(.d (.sl 1 l10))]).bind fun p11=>(opS (A.cell p11.leaves 0)).bind fun s13=>bif (A.sfit (A.sapp (A.sapp (A.sapp s5 (bs [101,110,117,109,32])) s9) (bs [32,123,32])) s13)then bif (A.sfit (A.sapp (A.sapp (A.sapp (A.sapp s5 (bs [101,110,117,109,32])) s9) (bs [32,123,32])) s13) (bs [32,125,59,10]))then some (.inl [(.str (A.sapp (A.sapp (A.sapp (A.sapp (A.sapp s5 (bs [101,110,117,109,32])) s9) (bs [32,123,32])) s13) (bs [32,125,59,10]))),(.int .i64 (A.wrap .i64 (A.add n6 1))),(.sl 2 l7),(.sl 5 l8)]) else none else none else none else none else none else none else none else E.lp (fun ds14=>(opS (A.cell ds14 0)).bind fun s15=>(opI (A.cell ds14 1) .i64).bind fun n16=>(opL (A.cell ds14 2) 2).bind fun l17=>(opL (A.cell ds14 3) 5).bind fun l18=>bif (A.ilt n16 (A.rlen l18))then bif (A.inr n16 (A.rlen l18))then (opS (A.cell (A.row l18 n16) 0)).bind fun s19=>(opL (A.cell (A.row l18 n16) 1) 6).bind fun l20=>(opL (A.cell (A.row l18 n16) 2) 6).bind fun l21=>(opL (A.cell (A.row l18 n16) 3) 6).bind fun l22=>(opL (A.cell (A.row l18 n16) 4) 7).bind fun l23=>(E.call 34 [(.d (.sl 2 l17)),(.agg [(.d (.str s19)),(.d (.sl 6 l20)),(.d (.sl 6 l21)),(.d (.sl 6 l22)),(.d (.sl 7 l23))])]).bind fun p24=>(opS (A.cell p24.leaves 0)).bind fun s26=>bif (A.sfit s15 s26)then some (.inl [(.str (A.sapp s15 s26)),(.int .i64 (A.wrap .i64 (A.add n16 1))),(.sl 2 l17),(.sl 5 l18)]) else none else none else some (.inr (.inr (.val [(.str s15)])))) [(.str s5),(.int .i64 0),(.sl 2 l7),(.sl 5 l8)]) [(.str (bs [])),(.int .i64 0),(.sl 2 p_0),(.sl 5 p_1)]
def k0j (p_0 p_1:LL):fT A E 13 [.agg [.d (.sl 2 p_0), .d (.sl 5 p_1)]]=g13 A E p_0 p_1:=by kernel_rfl
def g10 (A:Sy)(E:Env)(e_:Int):Option PRes:=some (.val [(.int .i64 e_)])
def k0n (e_:Int):fT A E 10 [.d (.int .i64 e_)]=g10 A E e_:=by kernel_rfl
def g3 (A:Sy)(E:Env)(s_:BA):Option PRes:=bif (A.ilt 2500 (A.slen s_))then (E.call 6 []).bind fun p1=>(opB (A.cell p1.leaves 0)).bind fun b3=>some (.val [(.bool b3)]) else (E.call 7 [(.d (.str s_))]).bind fun p4=>(opL (A.cell p4.leaves 0) 2).bind fun l6=>(opL (A.cell p4.leaves 1) 5).bind fun l7=>(opI (A.cell p4.leaves 2) .i64).bind fun n8=>(opI (A.cell p4.leaves 3) .i64).bind fun n9=>(E.call 8 [(.d (.str s_))]).bind fun p10=>(opL (A.cell p10.leaves 0) 2).bind fun l12=>(opL (A.cell p10.leaves 1) 5).bind fun l13=>(opI (A.cell p10.leaves 2) .i64).bind fun n14=>(opI (A.cell p10.leaves 3) .i64).bind fun n15=>(E.call 9 [(.agg [(.d (.sl 2 l6)),(.d (.sl 5 l7))]),(.agg [(.d (.sl 2 l12)),(.d (.sl 5 l13))])]).bind fun p16=>(opB (A.cell p16.leaves 0)).bind fun b18=>x0u (bif b18 then some (.inl [(.bool (A.ieq n8 n14))]) else some (.inl [(.bool false)])) fun ds19=>(opB (A.cell ds19 0)).bind fun b20=>x0u (bif b20 then (E.call 10 [(.d (.int .i64 n9))]).bind fun p21=>(opI (A.cell p21.leaves 0) .i64).bind fun n23=>some (.inl [(.bool (A.ieq n23 n15))]) else some (.inl [(.bool false)])) fun ds24=>(opB (A.cell ds24 0)).bind fun b25=>x0u (bif b25 then (E.call 6 []).bind fun p26=>(opB (A.cell p26.leaves 0)).bind fun b28=>some (.inl [(.bool b28)]) else some (.inl [(.bool false)])) fun ds29=>(opB (A.cell ds29 0)).bind fun b30=>some (.val [(.bool b30)])
def g4 (A:Sy)(E:Env)(p_0 p_1:LL):Option PRes:=(E.call 11 [(.agg [(.d (.sl 2 p_0)),(.d (.sl 5 p_1))])]).bind fun p1=>(opB (A.cell p1.leaves 0)).bind fun b3=>x0u (bif (A.bnot b3)then some (.inl [(.bool true)]) else (E.call 12 [(.agg [(.d (.sl 2 p_0)),(.d (.sl 5 p_1))])]).bind fun p4=>(opI (A.cell p4.leaves 0) .i64).bind fun n6=>some (.inl [(.bool (A.bnot (A.ieq n6 0)))])) fun ds7=>(opB (A.cell ds7 0)).bind fun b8=>bif b8 then (E.call 6 []).bind fun p9=>(opB (A.cell p9.leaves 0)).bind fun b11=>some (.val [(.bool b11)]) else (E.call 13 [(.agg [(.d (.sl 2 p_0)),(.d (.sl 5 p_1))])]).bind fun p12=>(opS (A.cell p12.leaves 0)).bind fun s14=>bif (A.ilt 6000 (A.slen s14))then (E.call 6 []).bind fun p15=>(opB (A.cell p15.leaves 0)).bind fun b17=>some (.val [(.bool b17)]) else (E.call 7 [(.d (.str s14))]).bind fun p18=>(opL (A.cell p18.leaves 0) 2).bind fun l20=>(opL (A.cell p18.leaves 1) 5).bind fun l21=>(opI (A.cell p18.leaves 2) .i64).bind fun n22=>(opI (A.cell p18.leaves 3) .i64).bind fun n23=>(E.call 10 [(.d (.int .i64 n23))]).bind fun p24=>(opI (A.cell p24.leaves 0) .i64).bind fun n26=>x0u (bif (A.ieq n26 0)then some (.inl [(.bool (A.ieq n22 (A.slen s14)))]) else some (.inl [(.bool false)])) fun ds27=>(opB (A.cell ds27 0)).bind fun b28=>x0u (bif b28 then (E.call 9 [(.agg [(.d (.sl 2 l20)),(.d (.sl 5 l21))]),(.agg [(.d (.sl 2 p_0)),(.d (.sl 5 p_1))])]).bind fun p29=>(opB (A.cell p29.leaves 0)).bind fun b31=>some (.inl [(.bool b31)]) else some (.inl [(.bool false)])) fun ds32=>(opB (A.cell ds32 0)).bind fun b33=>x0u (bif b33 then (E.call 6 []).bind fun p34=>(opB (A.cell p34.leaves 0)).bind fun b36=>some (.inl [(.bool b36)]) else some (.inl [(.bool false)])) fun ds37=>(opB (A.cell ds37 0)).bind fun b38=>some (.val [(.bool b38)])
def k5m (p_0 p_1:LL):fT A E 4 [.agg [.d (.sl 2 p_0), .d (.sl 5 p_1)]]=g4 A E p_0 p_1:=by kernel_rfl
def g5 (s_:BA):Option PRes:=bif (A.ilt 2500 (A.slen s_))then zC E 6 [] fun p1=>yB A p1 0 fun b3=>vL [.bool b3] else zC E 7 [.d (.str s_)] fun p4=>yL A p4 0 2 fun l6=>yL A p4 1 5 fun l7=>yI A p4 2 fun n8=>yI A p4 3 fun n9=>zC E 10 [.d (nI n9)] fun p10=>yI A p10 0 fun n12=>bif (A.bnot (A.ieq n12 0))then x0u (bif (A.ile 0 n8)then vB (A.ile n8 (A.imax (A.slen s_) 6000)) else vB false) fun ds13=>zB A ds13 0 fun b14=>x0u (bif b14 then vB (A.ieq (A.rlen l7) 0) else vB false) fun ds15=>zB A ds15 0 fun b16=>x0u (bif b16 then zC E 6 [] fun p17=>yB A p17 0 fun b19=>vB b19 else vB false) fun ds20=>zB A ds20 0 fun b21=>vL [.bool b21] else zC E 13 [.agg [.d (.sl 2 l6), .d (.sl 5 l7)]] fun p22=>yS A p22 0 fun s24=>x0u (bif (A.ilt 6000 (A.slen s24))then vB true else vB (A.seq s24 (bs []))) fun ds25=>zB A ds25 0 fun b26=>bif b26 then x0u (bif (A.bnot (A.seq s24 (bs [])))then zC E 6 [] fun p27=>yB A p27 0 fun b29=>vB b29 else vB false) fun ds30=>zB A ds30 0 fun b31=>vL [.bool b31] else zC E 7 [.d (.str s24)] fun p32=>yL A p32 0 2 fun l34=>yL A p32 1 5 fun l35=>yI A p32 2 fun n36=>yI A p32 3 fun n37=>zC E 10 [.d (nI n37)] fun p38=>yI A p38 0 fun n40=>x0u (bif (A.ieq n40 0)then vB (A.ieq n36 (A.slen s24)) else vB false) fun ds41=>zB A ds41 0 fun b42=>x0u (bif b42 then zC E 9 [.agg [.d (.sl 2 l6), .d (.sl 5 l7)], .agg [.d (.sl 2 l34), .d (.sl 5 l35)]] fun p43=>yB A p43 0 fun b45=>vB b45 else vB false) fun ds46=>zB A ds46 0 fun b47=>x0u (bif b47 then vB (A.ieq n8 (A.slen s_)) else vB false) fun ds48=>zB A ds48 0 fun b49=>x0u (bif b49 then zC E 6 [] fun p50=>yB A p50 0 fun b52=>vB b52 else vB false) fun ds53=>zB A ds53 0 fun b54=>vL [.bool b54]
end
end Go.Vm
end
section
set_option maxRecDepth 100000
set_option maxHeartbeats 4000000
namespace Go.Vm
open Go.Proofs
structure EnOK (e:En):Prop where
 n:e.1.size<=100000
 c: ∀x∈e.2,x.size<=100000
def y6a {l:List En}(h:x7p l=true):x7s l=4:=by unfold x7s;rw[h];rfl
def k2z {α:Type}(a:D)(k:Nat)(x:LL)(K:LL->Option α):(opL (sy.cell (sy.skip 1 [a, .sl k x]) 0) k).bind K=K x:=x9y k x K
def w2v (l:List En)(hl:l.length<=1000000)(hE: ∀x∈l,EnOK x):cF 28 [.d (.sl 2 (x0j l))]=some (.val [.int .i64 (x7s l)]):=by
 by_cases h4:4 < (l.length:Int)
 ·have hG:x7p l=true:=by unfold x7p;rw[x2p h4];rfl
  rw[y6a hG];refine cO rfl ?_;rw[w5d];simp only[g28,go1,Nat.reduceAdd,x0t,x2p h4]
 ·refine cO rfl ?_;rw[w5d];simp only[g28,go1,Nat.reduceAdd,x0t,x1p h4];have h4':l.length<=4:=by omega
  have hbd: ∀i,(∀e∈l.take i,e.2.length<=6)->(x1q (l.take i)).length<=24:=fun i h=>by
   have:=z0t h;rw[a1q]at this;omega
  refine x0v (fun i:Nat=>[.sl 2 (x0j l), .int .i64 (i:Int), .sl 1 (x0b ((l.take i).map (·.1))), .sl 1 (x0b (x1q (l.take i)))]) (fun i=>i<=l.length/\ ∀e∈l.take i,e.2.length<=6) (fun i=>l.length - i) (fun i hi=> ?_) 0 ⟨a0t _,by simp⟩
  obtain⟨hi,h6⟩:=hi;have hcb:=hbd i h6
  by_cases hlt:i < l.length
  ·have hx:=a0a hlt
   by_cases hc:6 < (l[i].2.length:Int)
   ·right
    have hG:x7p l=true:=by
     unfold x7p;rw[Bool.or_eq_true];exact .inr (List.any_eq_true.2 ⟨l[i],a1i hlt,x2p hc⟩)
    rw[y6a hG];simp only[go1,x0t,x0c,x0l hlt,x0k hlt,x7f hx,k2z,x2p hc]
   ·left
    refine⟨i+1,?_,⟨hlt,fun e he=> ?_⟩,by omega⟩
    ·have hf:=y0z (x0b ((l.take i).map (·.1))) [[.str l[i].1]] 16 (by rw[x0c,a1f,a1q];simp only[a0b,a0e];omega)
     have hf2:=y0z (x0b (x1q (l.take i))) (x0b l[i].2) 16 (by rw[x0c,x0c];omega)
     rw[z3f hx,x4m,z0s hx,<-y2x];simp only[go1,Nat.reduceAdd,a0b,a0e]at hf hf2;simp only[go1,x0t,x0l hlt,x0k hlt,x7f hx,k2z,x0c,x1p hc,a0b,a0e]at hf hf2 ⊢;simp only[go1,hf,hf2,x0e hlt (by omega)]
     rfl
    ·rw[a1d,hx]at he;rcases a1k.1 he with he|he
     ·exact h6 e he
     ·simp at he;subst he;omega
  ·have:i=l.length:=by omega
   subst this
   right
   rw[a0r]at h6 hcb;have hG:x7p l=false:=by
    unfold x7p;rw[Bool.or_eq_false_iff];refine⟨x1p h4,List.any_eq_false.2 fun e he=> ?_⟩
    have:=h6 e he;simp;omega
   have hO1:=z1a (l.map (·.1)) (by simp;omega)
   have hO2:=z1a (x1q l) (by omega)
   simp only[go1,x0t,x0g,a0r];refine x2e (r0:=Sum.inr (PRes.val [.int .i64 1])) (r1:=Sum.inr (PRes.val [.int .i64 (bif !y0y (x1q l)then 1 else bif !decide (l.map (·.1)).Nodup || !decide (x1q l).Nodup then 6 else 0)])) (fun e:En=>x3r (tb e.1)&&decide (0 < (e.2.length:Int))) l (fun i:Nat=>[.sl 2 (x0j l), .int .i64 (i:Int), .sl 1 (x0b (l.map (·.1))), .sl 1 (x0b (x1q l))]) rfl (fun i x hx=> ?_) (fun _=> ?_) ?_
   ·have hlt:=(a0c.1 hx).1;have hL:=y6d x.1 (hE _ (a0p hx)).n;have e1:decide ((x.2.length:Int)=0)= !decide (0 < (x.2.length:Int)):=by rw[a1g];simp
    simp only[go1,x0t,x0l hlt,x0k hlt,x7f hx,k2z,x0c,hL,x0e hlt (by omega),e1]
    cases x3r (tb x.1)<;>cases decide (0 < (x.2.length:Int))<;>rfl
   ·simp only[go1,x0t,x0g];refine x2e (r0:=Sum.inr (Sum.inr (PRes.val [.int .i64 1]))) (r1:=Sum.inr (Sum.inr (PRes.val [.int .i64 (bif !decide (l.map (·.1)).Nodup || !decide (x1q l).Nodup then 6 else 0)]))) (fun s:BA=>x3h (tb s)) (x1q l) (fun i:Nat=>[.int .i64 (i:Int), .sl 1 (x0b (l.map (·.1))), .sl 1 (x0b (x1q l))]) rfl (fun i x hx=> ?_) (fun _=> ?_) ?_
    ·have hlt:=(a0c.1 hx).1;have hsz:x.size<=100000:=by
      have hm:=a0p hx;unfold x1q at hm;obtain⟨e,he,hc⟩:=List.mem_flatMap.1 hm;exact(hE e he).c _ hc
     have hH:=z6f x hsz;have hrn:sy.rown (x0b (x1q l)) i=sy.row (x0b (x1q l)) (i:Int):=by rw[y5l,w7b,a0n]
     simp only[go1,x0c,x0l hlt,x0k hlt,a0n,hrn,x1j hx,hH,x0e hlt (by omega)]
     cases x3h (tb x)<;>rfl
    ·simp only[go1,x0c,x0g,hO1,hO2];cases decide (l.map (·.1)).Nodup<;>cases decide (x1q l).Nodup<;>rfl
    ·unfold y0y;cases List.all (x1q l) _<;>rfl
   ·unfold x7s u6b;rw[hG];cases List.all l _<;>cases y0y (x1q l)<;>rfl
def z7p (ens:List En)(k e c:Int):cF 116 [.d (.sl 2 (x0j ens)), .agg [.d (.int .i64 k), .d (.int .i64 e), .d (.int .i64 c)]]=some (.val [.bool (tyB ens k e c)]):=by
 have hA:(decide (k < 1) || decide (3 < k))= !(decide (k=1) || (decide (k=2) || decide (k=3))):=by
  rw[a1g];simp;omega
 have h13:decide (k=3)=true->decide (k=1)=false/\decide (k=2)=false:=fun h=>by
  have:=a0f h;exact⟨x1p (by omega),x1p (by omega)⟩
 unfold tyB;refine cO rfl ?_;rw[q1h];simp only[g116,go1,x0t]
 revert hA h13
 cases decide (c < 0)<;>cases decide (8 < c)<;>cases decide (k < 1)<;>cases decide (3 < k)<;>cases decide (k=1)<;>cases decide (k=2)<;>cases decide (k=3)<;>intro hA h13<;>first|(cases hA;done)|(cases(h13 rfl).1;done)|(cases(h13 rfl).2;done)|(cases decide (0<=e)<;>rfl)|rfl
def k4q (s:BA)(hs:s.size<=100000):cF 117 [.d (.str s)]=some (.val [.bool (x9a s)]):=by
 have h:=z6f s hs;unfold x9a;refine cO rfl ?_;rw[q1g];simp only[g117,go1,h,x2f];rw[show tb x6f=tb (bs [116,114,117,101])from rfl,show tb x3q=tb (bs [102,97,108,115,101])from rfl];cases x3h (tb s)<;>cases decide (tb s=tb (bs [116,114,117,101]))<;>rfl
abbrev dV (d:Dc):V:= .agg [.d (.str d.n), .d (.int .i64 d.k), .d (.int .i64 d.e), .d (.int .i64 d.c), .d (.str d.o), .d (.str d.q)]
def q7k (ens:List En)(x:Dc)(h:DcOK x):cF 70 [.d (.sl 2 (x0j ens)),dV x]=some (.val [.bool (x3y ens x)]):=by
 have c1:=y6d x.n h.n;have c2:=z7p ens x.k x.e x.c;have c3:=y6d x.o h.o;have c4:=k4q x.q h.q;unfold x3y v1d;obtain⟨n,k,e,c,o,q⟩:=x;refine cO rfl ?_;rw[q9i];simp only[g70,go1,c1,c2,c3,c4,x2f];cases x3r (tb n)<;>cases tyB ens k e c<;>cases decide (tb o=tb (bs []))<;>cases decide (tb q=tb (bs []))<;>cases x3r (tb o)<;>cases x9a q<;>first|rfl|(simp only[go1,Nat.reduceAdd,Int.reduceEq,Int.reduceLT,Int.reduceLE,Int.reduceSub,Int.reduceAdd,c2,c3,c4];rfl)
def u9a (ns:List BA)(k m:Int)(s:BA)(o:Int)(a:List BA)(u:List Ex)(h:EqOK ⟨ns, .mk k m s o a u⟩):cF 71 [.agg [.d (.sl 1 (x0b ns)), .d (.int .i64 k), .d (.int .i64 m), .d (.str s), .d (.int .i64 o), .d (.sl 1 (x0b a)), .d (.sl 6 (Ex.rows u))]]=some (.val [.bool (eqB ⟨ns, .mk k m s o a u⟩)]):=by
 have h1:=u0r k m s o a u h.sz h.fn;have hl:ns.length<=1000000:=h.ns;have hst:=h.st;have eE:eqB ⟨ns, .mk k m s o a u⟩=(!(decide ((ns.length:Int)=0))&&(x3k (.mk k m s o a u)&&y1y (.mk k m s o a u))&& !(decide (1 < (ns.length:Int))&& !decide (k=13))&&ns.all fun s=>x3r (tb s)):=rfl
 rw[eE];have e1:decide ((ns.length:Int)=0)= !decide (0 < (ns.length:Int)):=by rw[a1g];simp
 have e2:decide (0 < (ns.length:Int))=true->decide (1 < (ns.length:Int))= !decide ((ns.length:Int)=1):=fun h=>by
  have:=a0f h;rw[a1g];simp;omega
 rw[e1];refine cO rfl ?_;rw[q9h];simp only[g71,go1];refine x2e (r0:=PRes.val [.bool false]) (r1:=PRes.val [.bool (decide (0 < (ns.length:Int))&&(x3k (.mk k m s o a u)&&y1y (.mk k m s o a u))&&(decide ((ns.length:Int)=1) || decide (k=13)))]) (fun s:BA=>x3r (tb s)) ns (fun i=>[.int .i64 (i:Int), .sl 1 (x0b ns), .int .i64 k, .int .i64 m, .str s, .int .i64 o, .sl 1 (x0b a), .sl 6 (Ex.rows u)]) rfl (fun i x hx=> ?_) (fun _=> ?_) ?_
 ·have hlt:=(a0c.1 hx).1;have hL:=y6d x (hst x (a0p hx));simp only[go1,Nat.reduceAdd,oE,x0c,x0l hlt,x0k hlt,x1j hx,hL,x0e hlt (by omega)]
  cases x3r (tb x)<;>rfl
 ·simp only[go1,Nat.reduceAdd,oE,x0c,x0g,h1]
  try (cases decide (0 < (ns.length:Int))<;>cases x3k (.mk k m s o a u)&&y1y (.mk k m s o a u)<;>cases decide ((ns.length:Int)=1)<;>rfl)
 ·revert e2
  cases decide (0 < (ns.length:Int))with
  |false=>intro _;cases List.all ns _<;>rfl
  |true=>
   intro e2;rw[e2 rfl];cases List.all ns _<;>cases x3k (.mk k m s o a u)&&y1y (.mk k m s o a u)<;>cases decide ((ns.length:Int)=1)<;>cases decide (k=13)<;>rfl
def onB (d:Dc):Bool:=decide (tb d.o=tb (bs []))
def v1i (p:Dc->Bool)(N:Nat): ∀(l:List Dc) (k:Nat),k+l.length<=N->((l.zipIdx k).all fun x=>p x.1&&(!decide (x.2 < N) || onB x.1))=(l.all p&&y4r l)
 | [],k,_=>rfl
 |x::l,k,h=>by
  rw[List.zipIdx_cons,a1p,v1i p N l (k+1) (by simp only[a0b]at h;omega),a1p]
  have:y4r (x::l)=(onB x&&y4r l):=rfl;rw[this,x2p (by simp only[a0b]at h;omega)]
  cases p x<;>cases onB x<;>cases l.all p<;>cases y4r l<;>rfl
def w3v (p:Dc->Bool)(N:Nat): ∀(l:List Dc) (k:Nat),N<=k->((l.zipIdx k).all fun x=>p x.1&&(!decide (x.2 < N) || onB x.1))=l.all p
 | [],k,_=>rfl
 |x::l,k,h=>by
  rw[List.zipIdx_cons,a1p,w3v p N l (k+1) (by omega),a1p,x1p (by omega)]
  cases p x<;>rfl
def w6h (p:Dc->Bool)(a b c:List Dc):((a++b++c).zipIdx.all fun x=>p x.1&&(!decide (x.2 < a.length+b.length) || onB x.1))=((a++b++c).all p&&(y4r a&&y4r b)):=by
 rw[List.zipIdx_append,List.zipIdx_append,List.all_append,List.all_append,v1i _ _ a 0 (by omega),v1i _ _ b (0+a.length) (by omega),w3v _ _ c _ (by simp),List.all_append,List.all_append]
 cases a.all p<;>cases b.all p<;>cases c.all p<;>cases y4r a<;>cases y4r b<;>rfl
def q7l (n:Nd)(h:(y2e n).length<=1000000):cF 32 [nV n]=some (.own 127 6 (x0m (y2e n))):=by
 obtain⟨nm,ins,outs,vars,eqs⟩:=n;simp only[y2e,a0j]at h;have f1:=y0z [] (x0m ins) 72 (by rw[x0q];simp only[a0e];omega)
 have f2:=y0z (x0m ins) (x0m outs) 72 (by rw[x0q,x0q];omega)
 have f3:=y0z (x0m (ins++outs)) (x0m vars) 72 (by rw[x0q,x0q,a0j];omega)
 rw[<-y3u]at f3;simp only[go1,Nat.reduceAdd]at f1 f2 f3;refine cO rfl ?_;rw[q9x];simp only[g32,go1,Nat.reduceAdd];simp only[a0h,f1,f2,f3,cond_true];rw[y3u,y3u];rfl
def w7o (l:List Dc)(h:l.length<=1000000):cF 31 [.d (.sl 6 (x0m l))]=some (.own 9 1 (x0b (l.map (·.n)))):=by
 refine cO rfl ?_;rw[q9y];simp only[g31,go1,Nat.reduceAdd];refine x3n l.length (fun i=>[.sl 6 (x0m l), .int .i64 (i:Int), .sl 1 (x0b ((l.take i).map (·.n)))]) rfl (fun i hlt=> ?_) ?_
 ·have hx:=a0a hlt;have hf:=y0z (x0b ((l.take i).map (·.n))) [[.str l[i].n]] 16 (by rw[x0c,a1f,a1q];simp only[a0b,a0e];omega)
  rw[a1d,hx,a2g,List.map_append,a1o,a1x,x4m];simp only[go1,Nat.reduceAdd,a0b,a0e]at hf;simp only[go1,z3r,x0q,x0l hlt,x0k hlt,x9s hx,hf,a0b,a0e,x0e hlt (by omega)]
  rfl
 ·simp only[go1,x0q,x0g,a0r]
def sk4S {α:Type}(a b c d:D)(x:BA)(r:List D)(K:BA->Option α):(opS (sy.cell (sy.skip 4 (a::b::c::d:: .str x::r)) 0)).bind K=K x:=rfl
def q7j (ens:List En)(n:Nd)(h:NdOK n):cF 29 [.d (.sl 2 (x0j ens)),nV n]=some (.val [.bool (y0u ens n)]):=by
 have h1:=q7l n h.al;have hal:=h.al;have hdl:n.ins.length+n.outs.length<=1000000:=by
  unfold y2e at hal;simp only[a0j]at hal;omega
 have heo:=h.eo;have heq:=h.eq;have hdc:=h.dc;have hnm:=y6d n.n h.nm;have hz:=w6h (x3y ens) n.ins n.outs n.vars;have e:n.ins++n.outs++n.vars=y2e n:=rfl;rw[e]at hz;obtain⟨nm,ins,outs,vars,eqs⟩:=n;unfold y0u;generalize y2e ⟨nm,ins,outs,vars,eqs⟩=l at hal h1 hdc hz ⊢;simp only at h1 hdl heo heq hnm hz ⊢;have hw:IntKind.i64.wrap ((ins.length:Int)+(outs.length:Int))=((ins.length+outs.length:Nat):Int):=by rw[x0p (by omega) (by omega)];omega
 refine cO rfl ?_;rw[k0a];simp only[g29,go1,h1];refine x2e (r0:=PRes.val [.bool false]) (r1:=PRes.val [.bool (eqs.all eqB&&(x3r (tb nm)&&decide (0 < (outs.length:Int))))]) (fun x:Dc × Nat=>x3y ens x.1&&(!decide (x.2 < ins.length+outs.length) || onB x.1)) l.zipIdx (fun i=>[.sl 2 (x0j ens), .sl 6 (x0m l), .int .i64 (i:Int), .str nm, .sl 6 (x0m ins), .sl 6 (x0m outs), .sl 6 (x0m vars), .sl 7 (x3e eqs)]) rfl (fun i x hx=> ?_) (fun _=> ?_) ?_
 ·rw[List.getElem?_zipIdx]at hx;cases hy:l[i]? with
  |none=>rw[hy]at hx;cases hx
  |some d=>
   rw[hy]at hx;simp only[Option.map_some,Option.some.injEq,a1y]at hx;subst hx;have hlt:=(a0c.1 hy).1;have c1:=q7k ens d (hdc d (a0p hy));have e5:decide ((i:Int) < ((ins.length+outs.length:Nat):Int))=decide (i < ins.length+outs.length):=by rw[a1g];simp;omega
   unfold onB;simp only[go1,oD,z3r,x0q,x0l hlt,x0k hlt,x9s hy,c1,hw,e5,sk4S,x2f,x0e hlt (by omega)]
   cases x3y ens d<;>cases decide (i < ins.length+outs.length)<;>cases decide (tb d.o=tb (bs []))<;>rfl
 ·rw[List.length_zipIdx];simp only[go1,x0g,x0q];refine x2e (r0:=Sum.inr (PRes.val [.bool false])) (r1:=Sum.inr (PRes.val [.bool (x3r (tb nm)&&decide (0 < (outs.length:Int)))])) eqB eqs (fun i=>[.int .i64 (i:Int), .str nm, .sl 6 (x0m ins), .sl 6 (x0m outs), .sl 6 (x0m vars), .sl 7 (x3e eqs)]) rfl (fun i x hx=> ?_) (fun _=> ?_) ?_
  ·have hlt:=(a0c.1 hx).1;have hok:=heo x (a0p hx);have hr:=y8n hx;obtain⟨ns,e⟩:=x;obtain⟨k,m,y,o,a,u⟩:=e;have c1:=u9a ns k m y o a u hok;have hr':sy.row (x3e eqs) (i:Int)= [.sl 1 (x0b ns), .int .i64 k, .int .i64 m, .str y, .int .i64 o, .sl 1 (x0b a), .sl 6 (Ex.rows u)]:=hr;simp only[go1,Nat.reduceAdd,oE,x2c,x0l hlt,x0k hlt,hr',c1,x0e hlt (by omega)]
   cases eqB ⟨ns, .mk k m y o a u⟩<;>rfl
  ·simp only[go1,x2c,x0g,hnm,x0q]
   try (cases x3r (tb nm)<;>rfl)
  ·cases List.all eqs _<;>rfl
 ·rw[hz];cases l.all (x3y ens)<;>cases y4r ins<;>cases y4r outs<;>rfl
def v3k (ens:List En)(nds:List Nd)(hE:ens.length<=1000000)(hN:nds.length<=1000000)(hEo: ∀x∈ens,EnOK x)(h: ∀n∈nds,NdOK n):cF 12 [.agg [.d (.sl 2 (x0j ens)), .d (.sl 5 (x1x nds))]]=some (.val [.int .i64 (y6r ens nds)]):=by
 have h1:=w2v ens hE hEo;have hO:=z1a (nds.map (·.n)) (by rw[a1f];exact hN)
 unfold y6r;refine cO rfl ?_;rw[k0k];simp only[g12,go1,Nat.reduceAdd,h1];cases he:decide (x7s ens=0)with
 |false=>simp only[go1]
 |true=>
  simp only[go1,x1l];cases hz:decide ((nds.length:Int)=0)with
  |true=>rfl
  |false=>
   cases h6:decide (6 < (nds.length:Int))with
   |true=>rfl
   |false=>
    simp only[go1];have take1: ∀(p:Nd->Bool) {i:Nat} {x:Nd},nds[i]? =some x->(nds.take (i+1)).all p=((nds.take i).all p&&p x):=fun p i x hx=>by
     rw[a1d,hx,a2g,List.all_append,a1p,List.all_nil,a2a]
    refine x2e (r0:=PRes.val [.int .i64 4]) (r1:=PRes.val [.int .i64 (bif !nds.all (y0u ens)then 1 else bif !nds.all y6l || !decide (nds.map (·.n)).Nodup then 6 else 0)]) (fun n=> !y5x n) nds (fun i=>[.bool ((nds.take i).all (y0u ens)), .bool ((nds.take i).all y6l), .int .i64 (i:Int), .sl 2 (x0j ens), .sl 5 (x1x nds), .sl 1 (x0b ((nds.take i).map (·.n)))]) rfl (fun i x hx=> ?_) (fun _=> ?_) ?_
    ·have hlt:=(a0c.1 hx).1;have hk:=h x (a0p hx);have c1:=q7j ens x hk;have c2:=q7l x hk.al;have c3:=w7o (y2e x) hk.al;have c4:=z1a ((y2e x).map (·.n)) (by rw[a1f];exact hk.al)
     have hf:=y0z (x0b ((nds.take i).map (·.n))) [[.str x.n]] 16 (by rw[x0c,a1f,a1q];simp only[a0b,a0e];omega)
     simp only[go1,Nat.reduceAdd,a0b,a0e]at hf;rw[take1 _ hx,take1 _ hx,a1d,hx,a2g,List.map_append,a1o,a1x,x4m];have c4:cF 30 [.d (.sl 1 (x0b ((y2e x).map (·.n))))]=some (.val [.bool (y6l x)]):=c4;unfold y5x;simp only[go1,y7d,x1l,x0q,x2c,x0l hlt,x0k hlt,x9m hx,c1,c2,c3,c4,hf,a0b,a0e,x0e hlt (by omega)]
     cases decide (6 < (x.ins.length:Int))<;>cases decide (6 < (x.outs.length:Int))<;>cases decide (12 < (x.vars.length:Int))<;>cases decide (18 < (x.eqs.length:Int))<;>first|rfl|skip
     cases(nds.take i).all (y0u ens)<;>cases(nds.take i).all y6l<;>first|rfl|(simp only[go1,Nat.reduceAdd,Int.reduceEq,Int.reduceLT,Int.reduceLE,Int.reduceSub,Int.reduceAdd,y7d,x1l,x0q,x2c,x0l hlt,x0k hlt,x9m hx,c1,c2,c3,c4,hf,a0b,a0e,x0e hlt (by omega)];rfl)
    ·simp only[go1,x1l,x0g,a0r,hO];cases nds.all (y0u ens)<;>cases nds.all y6l<;>cases decide (nds.map (·.n)).Nodup<;>rfl
    ·rw[List.any_eq_not_all_not];cases List.all nds _<;>rfl
def qD (l:List Tk)(en:LL)(s:St):List D:=[.int .i64 s.a, .sl 4 (x0i l), .int .i64 (s.i:Int), .bool !s.b, .sl 2 en]
def TOK2 (l:List Tk):Prop:= ∀j,((tkA l j).k=1->(tkA l j).s≠bs [59])/\((tkA l j).k=5->(tkA l j).s≠v9g)
section
variable {α : Type}
variable (l : List Tk) (en : LL) (s : St) (r : List D) (K : Int -> LL -> Int -> Bool -> LL -> Option α)
theorem hW0:oW sy (PRes.val (qD l en s)).leaves 0 K=K s.a (x0i l) (s.i:Int) (!s.b) en:=(rfl)
end
section
variable {l : List Tk} (hl : LOK l) (en : LL) (s : St) (hs : s.i < l.length)
include hl hs
end
theorem RM.assoc {α β γ:Type}(m:RM α)(f:α->RM β)(g:β->RM γ):(m.bind f).bind g=m.bind fun x=>(f x).bind g:=by
 funext i;unfold RM.bind;cases m i<;>rfl
theorem Post.assoc {α β γ:Type}{F:Int->St->Nat->Int->Prop}{l:List Tk}{m:RM α}{f:α->RM β}{g:β->RM γ}{s s':St}{v:γ}(h:Post F l (m.bind fun x=>(f x).bind g) s v s'):Post F l ((m.bind f).bind g) s v s':=by
 rw[RM.assoc];exact h
section
variable {α : Type} (l : List Tk) (en : LL) (s : St) (r : List D) (d e f g : D) (k : Nat) (x : LL) (K : LL -> Option α)
end
section
variable {l : List Tk} (hl : LOK l) (en : LL) (s : St) (hs : s.i < l.length)
include hl hs
end
section
variable {l : List Tk} (hl : LOK l) (ens : List En) (hE : ens.length <= 1000000) (s : St) (hs : s.i < l.length)
include hl hs
include hE
end
section
variable {l : List Tk} (hl : LOK l) (h2 : TOK2 l) (ens : List En) (hE : ens.length <= 1000000) (s : St) (hs : s.i < l.length)
include hl h2 hs
include hE
end
section
variable {α : Type} (l : List Tk) (en : LL) (s : St) (r : List D) (d e f g h i j : D) (x : LL) (v : Int) (w : BA)
end
section
variable {l : List Tk} (hl : LOK l) (ht : TS l) (hT : TOK l) (en : LL) (s : St) (hs : s.i < l.length)
include hl ht hT hs
end
section
variable {l : List Tk} (hl : LOK l) (ht : TS l) (hT : TOK l) (h2T : TOK2 l) (ens : List En) (hE : ens.length <= 1000000) (s : St) (hs : s.i < l.length)
include hl ht hT h2T hE hs
end
section
variable {l : List Tk} (ht : TS l)
include ht
theorem y7z {k:Int}{i j:Nat}{t:Tk}(h:z6u l k i= .ok t j):t.s.size<=100000/\j=i+1:=by
 obtain⟨h1,h2⟩:=y4e h;exact⟨by rw[h1];exact ht i,h2⟩
theorem z8i {k:Int}: ∀(n:Nat) (acc:List BA) {i j:Nat} {r:List BA},y5t l k n acc i= .ok r j->(∀s∈acc,s.size<=100000)->(∀s∈r,s.size<=100000)/\i<=j/\r.length+i<=acc.length+j
 |0,acc,i,j,r,h,ha=>by cases h;exact⟨ha,a0q _,a0q _⟩
 |n+1,acc,i,j,r,h,ha=>by
  unfold y5t at h;obtain⟨v,x,h1,h2⟩:=bind_ok h;have e1:=x9w h1;cases v with
  |true=>
   obtain⟨t,y,h3,h4⟩:=bind_ok h2;have e2:=y7z ht h3;have e3:=z8i n _ h4 (fun s hs=>by
    rcases a1k.1 hs with hs|hs
    ·exact ha s hs
    ·rw[a1h.1 hs];exact e2.1)
   refine⟨e3.1,by omega,?_⟩
   have:=e3.2.2;simp only[a0j,a0b,a0e]at this;omega
  |false=>cases h2;exact⟨ha,e1,by omega⟩
theorem y9c {k:Int}{i j:Nat}{r:List BA}(h:z3g l k i= .ok r j):(∀s∈r,s.size<=100000)/\i < j/\r.length+i<=j:=by
 obtain⟨t,x,h1,h2⟩:=bind_ok h;have e1:=y7z ht h1;have e2:=z8i ht _ _ h2 (fun s hs=>by rw[a1h.1 hs];exact e1.1)
 have:=e2.2.2;simp only[a0b,a0e]at this;exact⟨e2.1,by omega,by omega⟩
theorem z5w {i j:Nat}{r:En}(h:v6o l i= .ok r j):EnOK r/\i<=j:=by
 obtain⟨t,x,h1,h⟩:=bind_ok h;obtain⟨_,y,h2,h⟩:=bind_ok h;obtain⟨cs,z,h3,h⟩:=bind_ok h;obtain⟨_,w,h4,h⟩:=bind_ok h;cases h;have e1:=y7z ht h1;have e3:=y9c ht h3;have:=x3g h2;have:=x3g h4;exact⟨⟨e1.1,e3.1⟩,by omega⟩
theorem w1s {i j:Nat}{r:En}(h:v6o l i= .ok r j):r.2.length<=j:=by
 obtain⟨t,x,h1,h⟩:=bind_ok h;obtain⟨_,y,h2,h⟩:=bind_ok h;obtain⟨cs,z,h3,h⟩:=bind_ok h;obtain⟨_,w,h4,h⟩:=bind_ok h;cases h;have e3:=y9c ht h3;have:=x3g h4;simp only;omega
theorem w3k {ens:List En}{i j:Nat}{r:Int × Int}(h:w3l l ens i= .ok r j):i<=j:=by
 obtain⟨v,x,h1,h⟩:=bind_ok h;have:=x9w h1;cases v with
 |true=>cases h;omega
 |false=>
  obtain⟨v,y,h2,h⟩:=bind_ok h;have:=x9w h2;cases v with
  |true=>cases h;omega
  |false=>
   obtain⟨t,z,h3,h⟩:=bind_ok h;have:=(y4e h3).2;unfold v1c at h;cases hx:q6e ens t.s with
   |some k=>rw[hx]at h;cases h;omega
   |none=>rw[hx]at h;cases h
theorem q6s {ens:List En}{i j:Nat}{r:Int × Int × Int}(h:tyR l ens i= .ok r j):i<=j:=by
 obtain⟨b,x,h1,h⟩:=bind_ok h;have:=w3k ht h1;obtain⟨v,y,h2,h⟩:=bind_ok h;have:=x9w h2;cases v with
 |false=>cases h;omega
 |true=>
  obtain⟨t,z,h3,h⟩:=bind_ok h;have:=(y4e h3).2;cases hc:decide (t.n < 1) || decide (8 < t.n)with
  |true=>rw[hc]at h;cases h
  |false=>
   rw[hc]at h;obtain⟨_,u,h4,h⟩:=bind_ok h;have:=x3g h4;cases h;omega
theorem u7c {ens:List En}{i j:Nat}{r:Dc}(h:v6u l ens i= .ok r j):DcOK r/\i < j:=by
 have h0:(bs []).size<=100000:=by decide
 obtain⟨t,x,h1,h⟩:=bind_ok h;obtain⟨_,y,h2,h⟩:=bind_ok h;obtain⟨k,z,h3,h⟩:=bind_ok h;obtain⟨v,w,h4,h⟩:=bind_ok h;have e1:=y7z ht h1;have:=x3g h2;have:=q6s ht h3;have:=x9w h4;cases v with
 |false=>cases h;exact⟨⟨e1.1,h0,h0⟩,by omega⟩
 |true=>
  obtain⟨c,u,h5,h⟩:=bind_ok h;cases h;unfold u1o at h5;split at h5
  ·rename_i hw;cases h5;have e5:=u4m ht (v3n ht 0) hw;exact⟨⟨e1.1,e5.2.1,e5.2.2⟩,by omega⟩
  ·cases h5
  ·cases h5
theorem u0f {ens:List En}{f:Bool}: ∀(n:Nat) (acc:List Dc) {i j:Nat} {r:List Dc},y2c l ens f n acc i= .ok r j->(∀s∈acc,DcOK s)->(∀s∈r,DcOK s)/\i<=j/\r.length+i<=acc.length+j
 |0,acc,i,j,r,h,ha=>by cases h;exact⟨ha,a0q _,a0q _⟩
 |n+1,acc,i,j,r,h,ha=>by
  unfold y2c at h;obtain⟨v,x,h1,h2⟩:=bind_ok h;have e1:i<=x:=by unfold y1u at h1;split at h1<;>cases h1<;>omega
  cases v with
  |true=>
   obtain⟨d,y,h3,h4⟩:=bind_ok h2;have e2:=u7c ht h3;have e3:=u0f n _ h4 (fun s hs=>by
    rcases a1k.1 hs with hs|hs
    ·exact ha s hs
    ·rw[a1h.1 hs];exact e2.1)
   refine⟨e3.1,by omega,?_⟩
   have:=e3.2.2;simp only[a0j,a0b,a0e]at this;omega
  |false=>cases h2;exact⟨ha,e1,by omega⟩
theorem z0o {ens:List En}{f:Bool}{i j:Nat}{r:List Dc}(h:y6c l ens f i= .ok r j):(∀s∈r,DcOK s)/\r.length+i<=j:=by
 obtain⟨d,x,h1,h2⟩:=bind_ok h;have e1:=u7c ht h1;have e2:=u0f ht _ _ h2 (fun s hs=>by rw[a1h.1 hs];exact e1.1)
 have:=e2.2.2;simp only[a0b,a0e]at this;exact⟨e2.1,by omega⟩
theorem w8u {ens:List En}{i j:Nat}{r:List Dc}(h:k3d l ens i= .ok r j):(∀s∈r,DcOK s)/\r.length+i<=j:=by
 obtain⟨v,x,h1,h⟩:=bind_ok h;have:=x9w h1;cases v with
 |true=>cases h;exact⟨by simp,by simpa using this⟩
 |false=>
  obtain⟨d,y,h2,h⟩:=bind_ok h;obtain⟨_,z,h3,h⟩:=bind_ok h;cases h;have e2:=z0o ht h2;have:=x3g h3;exact⟨e2.1,by omega⟩
theorem v9l {ens:List En}{i j:Nat}{r:List Dc}(h:v9m l ens i= .ok r j):(∀s∈r,DcOK s)/\r.length+i<=j:=by
 obtain⟨v,x,h1,h⟩:=bind_ok h;have:=x9w h1;cases v with
 |false=>cases h;exact⟨by simp,by simpa using this⟩
 |true=>
  obtain⟨d,y,h2,h⟩:=bind_ok h;obtain⟨_,z,h3,h⟩:=bind_ok h;cases h;have e2:=z0o ht h2;have:=x3g h3;exact⟨e2.1,by omega⟩
structure EqJ (J:Nat) (x:Eqn):Prop where
 ns:x.ns.length<=J
 sz:x.e.size<=60
 fn:x.e.j1f
 st: ∀s∈x.ns,s.size<=100000
theorem k0v {i j:Nat}{r:Eqn}(h:eqR l i= .ok r j):EqJ j r/\i < j:=by
 obtain⟨ns,x,h1,h⟩:=bind_ok h;obtain⟨_,y,h2,h⟩:=bind_ok h;obtain⟨e,z,h3,h⟩:=bind_ok h;obtain⟨_,w,h4,h⟩:=bind_ok h;cases h;have e1:=y9c ht h1;have:=x3g h2;have:=x3g h4;unfold z5v at h3;split at h3
 ·cases h3
 ·cases h3
 ·rename_i e2 j2 hR;have hz:=z4p ht hR;cases hs:x3k e2 with
  |false=>rw[hs]at h3;cases h3
  |true=>
   cases ha:y1y e2 with
   |false=>rw[hs,ha]at h3;cases h3
   |true=>
    rw[hs,ha]at h3;cases h3;have h60:e.size<=60:=by
     unfold x3k at hs;simp only[a0g,a0u]at hs;exact hs.1
    exact⟨⟨by simp only;omega,h60,z5b e hz.2 (by omega),e1.1⟩,by omega⟩
omit ht in
theorem EqJ.mono {J K:Nat}{x:Eqn}(h:EqJ J x)(hk:J<=K):EqJ K x:=⟨a1a h.ns hk,h.sz,h.fn,h.st⟩
theorem v6k: ∀(n:Nat) (acc:List Eqn) {i j:Nat} {r:List Eqn},q6g l n acc i= .ok r j->(∀s∈acc,EqJ i s)->(∀s∈r,EqJ j s)/\i<=j/\r.length+i<=acc.length+j
 |0,acc,i,j,r,h,ha=>by cases h;exact⟨ha,a0q _,a0q _⟩
 |n+1,acc,i,j,r,h,ha=>by
  unfold q6g at h;obtain⟨v,x,h1,h2⟩:=bind_ok h;have e1:=x9w h1;cases v with
  |false=>
   obtain⟨d,y,h3,h4⟩:=bind_ok h2;have e2:=k0v ht h3;have e3:=v6k n _ h4 (fun s hs=>by
    rcases a1k.1 hs with hs|hs
    ·exact(ha s hs).mono (by omega)
    ·rw[a1h.1 hs];exact e2.1)
   refine⟨e3.1,by omega,?_⟩
   have:=e3.2.2;simp only[a0j,a0b,a0e]at this;omega
  |true=>cases h2;exact⟨fun s hs=>(ha s hs).mono e1,e1,by omega⟩
structure NdJ (J:Nat) (n:Nd):Prop where
 ins:n.ins.length<=J
 outs:n.outs.length<=J
 vars:n.vars.length<=J
 eqs:n.eqs.length<=J
 eo: ∀x∈n.eqs,EqJ J x
 dc: ∀d∈y2e n,DcOK d
 nm:n.n.size<=100000
theorem u5t {ens:List En}{i j:Nat}{r:Nd}(h:w0u l ens i= .ok r j):NdJ j r/\i<=j:=by
 obtain⟨t,x1,h1,h⟩:=bind_ok h;obtain⟨_,x2,h2,h⟩:=bind_ok h;obtain⟨ins,x3,h3,h⟩:=bind_ok h;obtain⟨_,x4,h4,h⟩:=bind_ok h;obtain⟨outs,x5,h5,h⟩:=bind_ok h;obtain⟨_,x6,h6,h⟩:=bind_ok h;obtain⟨vars,x7,h7,h⟩:=bind_ok h;obtain⟨_,x8,h8,h⟩:=bind_ok h;obtain⟨eqs,x9,h9,h⟩:=bind_ok h;cases h;have e1:=y7z ht h1;have e2:=x3g h2;have e3:=w8u ht h3;have e4:=x3g h4;have e5:=z0o ht h5;have e6:=x3g h6;have e7:=v9l ht h7;have e8:=x3g h8;have e9:=v6k ht _ _ h9 (by simp)
 have:=e9.2.2;simp only[a0e]at this;refine⟨⟨by simp only;omega,by simp only;omega,by simp only;omega,by simp only;omega,e9.1,fun d hd=> ?_,e1.1⟩,by omega⟩
 unfold y2e at hd;rcases a1k.1 hd with hd|hd
 ·rcases a1k.1 hd with hd|hd
  ·exact e3.1 d hd
  ·exact e5.1 d hd
 ·exact e7.1 d hd
omit ht in
theorem NdJ.mono {J K:Nat}{x:Nd}(h:NdJ J x)(hk:J<=K):NdJ K x:=⟨a1a h.ins hk,a1a h.outs hk,a1a h.vars hk,a1a h.eqs hk,fun y hy=>(h.eo y hy).mono hk,h.dc,h.nm⟩
omit ht in
theorem NdJ.ok {J:Nat}{n:Nd}(h:NdJ J n)(hJ:J<=300000):NdOK n:=by
 have h1:=h.ins;have h2:=h.outs;have h3:=h.vars;have h4:=h.eqs;refine⟨?_,by omega,fun x hx=> ?_,h.dc,h.nm⟩
 ·unfold y2e;simp only[a0j];omega
 ·have:=h.eo x hx;exact⟨a1a this.ns (by omega),a1a this.sz (by omega),this.fn,this.st⟩
end
def y6b (l:List Tk):Nat->List En->RM (List En)
 |0,acc=>RM.ret acc
 |n+1,acc=>(tkR l (bs [101,110,117,109])).bind fun v=>match v with
  |true=>(v6o l).bind fun d=>y6b l n (acc++[d])
  |false=>RM.ret acc
def y9a (l:List Tk)(ens:List En):Nat->List Nd->RM (List Nd)
 |0,acc=>RM.ret acc
 |n+1,acc=>(tkR l (bs [110,111,100,101])).bind fun v=>match v with
  |true=>(w0u l ens).bind fun d=>y9a l ens n (acc++[d])
  |false=>RM.ret acc
def w5l (l:List Tk):RM Unit:=fun i=>match decide ((tkA l i).k=6)with
 |true=> .ok () i
 |false=> .bad i 2
def y6k (l:List Tk):RM (List En × List Nd):=(y6b l l.length []).bind fun ens=>(y9a l ens l.length []).bind fun nds=>(w5l l).bind fun _=>RM.ret (ens,nds)
theorem v1x {l:List Tk}{w:BA}{i j:Nat}(h:tkR l w i= .ok true j):j=i+1:=by
 unfold tkR at h;split at h<;>cases h;rfl
section
variable {l : List Tk} (ht : TS l)
include ht
theorem z9x: ∀(n:Nat) (acc:List En) {i j:Nat} {r:List En},y6b l n acc i= .ok r j->(∀s∈acc,EnOK s)->(∀s∈r,EnOK s)/\i<=j/\r.length+i<=acc.length+j
 |0,acc,i,j,r,h,ha=>by cases h;exact⟨ha,a0q _,a0q _⟩
 |n+1,acc,i,j,r,h,ha=>by
  unfold y6b at h;obtain⟨v,x,h1,h2⟩:=bind_ok h;have e1:=x9w h1;cases v with
  |true=>
   obtain⟨d,y,h3,h4⟩:=bind_ok h2;have e0:=v1x h1;have e2:=z5w ht h3;have e3:=z9x n _ h4 (fun s hs=>by
    rcases a1k.1 hs with hs|hs
    ·exact ha s hs
    ·rw[a1h.1 hs];exact e2.1)
   refine⟨e3.1,by omega,?_⟩
   have:=e3.2.2;simp only[a0j,a0b,a0e]at this;omega
  |false=>cases h2;exact⟨ha,e1,by omega⟩
theorem z9y: ∀(n:Nat) (acc:List En) {i j:Nat} {r:List En},y6b l n acc i= .ok r j->(∀s∈acc,s.2.length<=i)-> ∀s∈r,s.2.length<=j
 |0,acc,i,j,r,h,ha=>by cases h;exact ha
 |n+1,acc,i,j,r,h,ha=>by
  unfold y6b at h;obtain⟨v,x,h1,h2⟩:=bind_ok h;have e1:=x9w h1;cases v with
  |true=>
   obtain⟨d,y,h3,h4⟩:=bind_ok h2;have e2:=(z5w ht h3).2;exact z9y n _ h4 (fun s hs=>by
    rcases a1k.1 hs with hs|hs
    ·have:=ha s hs;omega
    ·rw[a1h.1 hs];exact w1s ht h3)
  |false=>cases h2;exact fun s hs=>a1a (ha s hs) e1
theorem z8f {ens:List En}: ∀(n:Nat) (acc:List Nd) {i j:Nat} {r:List Nd},y9a l ens n acc i= .ok r j->(∀s∈acc,NdJ i s)->(∀s∈r,NdJ j s)/\i<=j/\r.length+i<=acc.length+j
 |0,acc,i,j,r,h,ha=>by cases h;exact⟨ha,a0q _,a0q _⟩
 |n+1,acc,i,j,r,h,ha=>by
  unfold y9a at h;obtain⟨v,x,h1,h2⟩:=bind_ok h;have e1:=x9w h1;cases v with
  |true=>
   obtain⟨d,y,h3,h4⟩:=bind_ok h2;have e0:=v1x h1;have e2:=u5t ht h3;have e3:=z8f n _ h4 (fun s hs=>by
    rcases a1k.1 hs with hs|hs
    ·exact(ha s hs).mono (by omega)
    ·rw[a1h.1 hs];exact e2.1)
   refine⟨e3.1,by omega,?_⟩
   have:=e3.2.2;simp only[a0j,a0b,a0e]at this;omega
  |false=>cases h2;exact⟨fun s hs=>(ha s hs).mono e1,e1,by omega⟩
structure PgOK (p:List En × List Nd):Prop where
 e:p.1.length<=1000000
 n:p.2.length<=1000000
 eo: ∀x∈p.1,EnOK x
 no: ∀x∈p.2,NdOK x
 c: ∀e∈p.1,e.2.length<=1000000
theorem w0f {j:Nat}{r:List En × List Nd}(h:y6k l 0= .ok r j)(hj:j<=300000):PgOK r:=by
 obtain⟨ens,x,h1,h⟩:=bind_ok h;obtain⟨nds,y,h2,h⟩:=bind_ok h;obtain⟨_,z,h3,h⟩:=bind_ok h;cases h;have e1:=z9x ht _ _ h1 (by simp)
 have e2:=z8f ht _ _ h2 (by simp)
 have e3:y=j:=by unfold w5l at h3;split at h3<;>cases h3;rfl
 have l1:=e1.2.2;have l2:=e2.2.2;simp only[a0e]at l1 l2;exact⟨by simp only;omega,by simp only;omega,e1.1,fun x hx=>(e2.1 x hx).ok (by omega),fun e he=>by have:=z9y ht _ _ h1 (by simp) e he;omega⟩
end
def Post.yes {α:Type}{F:Int->St->Nat->Int->Prop}{l:List Tk}{m:RM α}{s s':St}{v:α}(h:Post F l m s v s')(hb:s'.b=true):s.b=true/\m s.i= .ok v s'.i:=by
 have h0:s.b=true:=by
  cases hs:s.b with
  |true=>rfl
  |false=>have e:=h.bad hs;rw[e,hs]at hb;cases hb
 have g:=h.good h0;cases hm:m s.i with
 |ok a j=>rw[hm]at g;rw[g.1,g.2];exact⟨h0,rfl⟩
 |bad p c=>rw[hm]at g;rw[g.1]at hb;cases hb
def k6t (b:Bool)(a w:Int):cF 1000016 (kAs b a w)=some (match b with
  |true=> .val [.bool false, .int .i64 0, .int .i64 0]
  |false=> .val [.bool true, .int .i64 a, .int .i64 w]):=y2p rfl
def q1q (sz:Int)(x:(List En × List Nd) × St):PRes:=match x.2.b with
 |false=> .val [.sl 2 [], .sl 5 [], .int .i64 x.2.a, .int .i64 x.2.w]
 |true=>bif !decide (y6r x.1.1 x.1.2=0)then .val [.sl 2 [], .sl 5 [], .int .i64 sz, .int .i64 (y6r x.1.1 x.1.2)]else .val [.sl 2 (x0j x.1.1), .sl 5 (x1x x.1.2), .int .i64 sz, .int .i64 0]
def v0g (acc:List En)(x:En):x0j (acc++[x])=x0j acc++[v0h x]:=by simp[x0j]
section
variable {α : Type} (l : List Tk) (en : LL) (s : St) (r : List D) (k : Nat) (x : LL) (e : En) (n : Nd)
def lL6 (K:LL->Option α):(opL (sy.cell (stD l en s++ .sl k x::r) 6) k).bind K=K x:=x9y k x K
def hEr0 (K:BA->Option α):(opS (sy.cell (PRes.val (v0h e++r)).leaves 0)).bind K=K e.1:=(rfl)
def hEr1 (K:LL->Option α):(opL (sy.cell (PRes.val (v0h e++r)).leaves 1) 1).bind K=K (x0b e.2):=x9y 1 _ K
def hEr2 (K:LL->Int->Bool->Int->Int->LL->Option α):oV sy (PRes.val (v0h e++stD l en s)).leaves 2 K=K (x0i l) (s.i:Int) s.b s.a s.w en:=(rfl)
def hNr0 (K:BA->Option α):(opS (sy.cell (PRes.val (y7d n++r)).leaves 0)).bind K=K n.n:=(rfl)
def hNr1 (K:LL->Option α):(opL (sy.cell (PRes.val (y7d n++r)).leaves 1) 6).bind K=K (x0m n.ins):=x9y 6 _ K
def hNr2 (K:LL->Option α):(opL (sy.cell (PRes.val (y7d n++r)).leaves 2) 6).bind K=K (x0m n.outs):=x9y 6 _ K
def hNr3 (K:LL->Option α):(opL (sy.cell (PRes.val (y7d n++r)).leaves 3) 6).bind K=K (x0m n.vars):=x9y 6 _ K
def hNr4 (K:LL->Option α):(opL (sy.cell (PRes.val (y7d n++r)).leaves 4) 7).bind K=K (x3e n.eqs):=x9y 7 _ K
def hNr5 (K:LL->Int->Bool->Int->Int->LL->Option α):oV sy (PRes.val (y7d n++stD l en s)).leaves 5 K=K (x0i l) (s.i:Int) s.b s.a s.w en:=(rfl)
end
def q6y (l:List Tk)(ens:List En)(k:Nat)(acc:List Nd):RM (List En × List Nd):=(y9a l ens k acc).bind fun nds=>(w5l l).bind fun _=>RM.ret (ens,nds)
def z7s (s:BA):(List En × List Nd) × Int × Int:=match decide ((6000:Int) < ((tb s).length:Int)),(y5u s 0).2.2 with
 |true,_=>(([],[]),6000,3)
 |false,false=>(([],[]),((y5u s 0).2.1:Int),2)
 |false,true=>match y6k (x9d s) 0 with
  | .bad p c=>(([],[]),((tkA (x9d s) p).a:Int),c)
  | .ok r _=>bif !decide (y6r r.1 r.2=0)then(([],[]),((tb s).length:Int),y6r r.1 r.2)else(r,((tb s).length:Int),0)
def pgV (x:(List En × List Nd) × Int × Int):PRes:= .val [.sl 2 (x0j x.1.1), .sl 5 (x1x x.1.2), .int .i64 x.2.1, .int .i64 x.2.2]
def k0u {l:List Tk}{n:Nat}{x:(List En × List Nd) × St}(h:x4i l (y6k l) ⟨0,true,0,0⟩ x.1 x.2):pgV (match y6k l 0 with
  | .bad p c=>(([],[]),((tkA l p).a:Int),c)
  | .ok r _=>bif !decide (y6r r.1 r.2=0)then(([],[]),(n:Int),y6r r.1 r.2)else(r,(n:Int),0))=q1q (n:Int) x:=by
 have g:=h.good rfl;obtain⟨⟨ens,nds⟩,s⟩:=x;simp only at g;unfold q1q;cases hm:y6k l 0 with
 |ok r j=>
  rw[hm]at g;obtain⟨rfl,e⟩:=g;rw[e];simp only;cases decide (y6r ens nds=0)<;>rfl
 |bad p c=>
  rw[hm]at g;obtain⟨hb,h1,h2⟩:=g;simp only[hb];rw[h1,h2];rfl
def k4r {l:List Tk}(ht:TS l)(hl3:l.length<=300000){n:Nat}{x:(List En × List Nd) × St}(h:x4i l (y6k l) ⟨0,true,0,0⟩ x.1 x.2):PgOK ((match y6k l 0 with
  | .bad p c=>(([],[]),((tkA l p).a:Int),c)
  | .ok r _=>bif !decide (y6r r.1 r.2=0)then(([],[]),(n:Int),y6r r.1 r.2)else(r,(n:Int),0)):(List En × List Nd) × Int × Int).1:=by
 have h0:PgOK (([],[]):List En × List Nd):=⟨a0t _,a0t _,by simp,by simp,by simp⟩
 have g:=h.good rfl;cases hm:y6k l 0 with
 |ok r j=>
  have hm':y6k l (St.i ⟨0,true,0,0⟩)= .ok r j:=hm;rw[hm']at g;have hj:x.2.i=j:=by rw[g.2]
  have hlt:=h.lt;have:=w0f ht hm (by omega)
  show PgOK ((bif !decide (y6r r.1 r.2=0)then(([],[]),(n:Int),y6r r.1 r.2)else(r,(n:Int),0)):(List En × List Nd) × Int × Int).1;cases decide (y6r r.1 r.2=0)with
  |true=>exact this
  |false=>exact h0
 |bad p c=>exact h0
def u3z (str:BA)(hs:str.size<=100000):cF 7 [.d (.str str)]=some (pgV (z7s str))/\PgOK (z7s str).1:=by
 have h0:PgOK (([],[]):List En × List Nd):=⟨a0t _,a0t _,by simp,by simp,by simp⟩
 have hl:=w3t str hs;have ht:=k7l fun t ht=>(v9t hs ht).1
 have hlen:(x9d str).length<=100001:=by
  have h2:=(y7f str _ 0 (a0q _)).2;have h1:(tb str).length<=100000:=by rw[x2i];exact hs
  simp only[x9d,a0j,a0b,a0e];omega
 have h1:=k6u str 6000 hs;unfold z7s;unfold k7e at h1;have hc: ∀X,g7 sy eF str=some X->cF 7 [.d (.str str)]=some X:=fun X h=>cO rfl (by rw[k5k];exact h)
 unfold g7 at hc;cases hd:decide ((6000:Int) < ((tb str).length:Int))with
 |true=>
  rw[hd]at h1;refine⟨hc _ ?_,h0⟩;simp only[go1,Nat.reduceAdd,Int.reduceEq,oP,h1];rfl
 |false=>
  rw[hd]at h1;cases hx:(y5u str 0).2.2 with
  |false=>
   rw[hx]at h1;refine⟨hc _ ?_,h0⟩;simp only[go1,Nat.reduceAdd,Int.reduceEq,oP,h1];rfl
  |true=>
   rw[hx]at h1;have h1:cF 14 [.d (.str str), .d (.int .i64 6000)]=some (.val [.sl 4 (x0i (x9d str)), .int .i64 ((tb str).length:Int), .int .i64 0]):=h1;generalize x9d str=l at hl ht hlen h1 ⊢;have hz:sy.bnot (sy.ieq (0:Int) 0)=false:=rfl;have hP0: ∀(K:LL->Int->Option PRes),oP sy (PRes.val [.sl 4 (x0i l), .int .i64 ((tb str).length:Int), .int .i64 0]).leaves 0 K=K (x0i l) ((tb str).length:Int):=fun K=>by
    unfold oP;exact x9y 4 _ _
   have hI2': ∀(K:Int->Option PRes),(opI (sy.cell (PRes.val [.sl 4 (x0i l), .int .i64 ((tb str).length:Int), .int .i64 0]).leaves 2) .i64).bind K=K 0:=fun K=>rfl
   simp only[↓hC h1, ↓hP0, ↓hI2', ↓hXf hz]at hc;rw[u0b]at hc
   ·refine(y2k (c:=q1q ((tb str).length:Int)) (σ:=Nat × List En × St) (fun x=>stD l (x0j x.2.1) x.2.2++[.sl 5 []]) (fun x=>l.length - x.2.2.i<=x.1/\x.2.1.length<=x.2.2.i+1/\x.2.2.i < l.length/\(x.2.2.b=true-> ∀e∈x.2.1,EnOK e)) (fun x=>x.1)
     (fun x y=>x4i l ((y6b l x.1 x.2.1).bind fun ens=>q6y l ens l.length []) x.2.2 y.1 y.2) ?_ (l.length,[],⟨0,true,0,0⟩) ⟨by simp only;omega,by simp,hl.pos,by simp⟩).elim fun x h=>⟨hc _ (h.1.trans (congrArg some (k0u h.2).symm)),k4r ht (by omega) h.2⟩
    rintro⟨n,acc,s⟩ ⟨hn,ha,hsl,hen⟩
    simp only at hn ha hsl hen ⊢;obtain⟨v,s1,h2,r2,hv⟩:=x7h hl (x0j acc) s hsl (bs [101,110,117,109]);obtain⟨n,rfl⟩: ∃m,n=m+1:=⟨n - 1,by omega⟩
    cases v with
    |true=>
     left
     obtain⟨⟨d,s2⟩,h3,r3⟩:=q2r hl (x0j acc) s1 r2.lt;simp only at h3 r3;have hi:=(hv rfl).2;have hle:=r3.le;have hfit:sy.fits (x0j acc) [v0h d] 40=true:=y0z (x0j acc) [v0h d] 40 (by rw[x0t];simp only[a0b,a0e];omega)
     have fin:sy.rapp (x0j acc) [v0h d]=x0j (acc++[d]):=by rw[v0g];rfl
     refine⟨(n,acc++[d],s2),?_,⟨by simp only;omega,by simp only[a0j,a0b,a0e];omega,r3.lt,fun hb e he=> ?_⟩,a1m _,fun y hy=>Post.assoc (r2.bind (Post.assoc (r3.bind hy)))⟩
     ·simp only[↓lV0, ↓lL6, ↓hC h2, ↓hB0, ↓hV1, ↓hCt, ↓hC h3, ↓hEr0, ↓hEr1, ↓hEr2];rw[<-fin];exact hXt hfit _ _
     ·obtain⟨hb1,hm⟩:=r3.yes hb;obtain⟨hb0,_⟩:=r2.yes hb1;rcases a1k.1 he with he|he
      ·exact hen hb0 e he
      ·rw[a1h.1 he];exact(z5w ht hm).1
    |false=>
     right
     have hen1:s1.b=true-> ∀e∈acc,EnOK e:=fun hb=>hen (r2.yes hb).1
     have hEl:acc.length<=1000000:=by omega
     simp only[↓lV0, ↓lL6, ↓hC h2, ↓hB0, ↓hV1, ↓hCf];rw[u0b];refine(y2k (c:=fun x=>Sum.inr (q1q ((tb str).length:Int) x)) (σ:=Nat × List Nd × St) (fun x=>stD l (x0j acc) x.2.2++[.sl 5 (x1x x.2.1)]) (fun x=>l.length - x.2.2.i<=x.1/\x.2.1.length<=x.2.2.i+1/\x.2.2.i < l.length/\(x.2.2.b=true->(∀e∈acc,EnOK e)/\ ∀e∈x.2.1,NdJ x.2.2.i e)) (fun x=>x.1)
      (fun x y=>x4i l (q6y l acc x.1 x.2.1) x.2.2 y.1 y.2) ?_ (l.length,[],s1) ⟨by simp only;omega,by simp,r2.lt,fun hb=>⟨hen1 hb,by simp⟩⟩).imp fun x h=>⟨h.1,Post.assoc (r2.bind h.2)⟩
     clear h2 r2 hv hn ha hsl hen hen1
     rintro⟨n,nds,s⟩ ⟨hn,ha,hsl,hen⟩
     simp only at hn ha hsl hen ⊢;obtain⟨v,s1,h2,r2,hv⟩:=x7h hl (x0j acc) s hsl (bs [110,111,100,101]);obtain⟨n,rfl⟩: ∃m,n=m+1:=⟨n - 1,by omega⟩
     cases v with
     |true=>
      left
      obtain⟨⟨d,s2⟩,h3,r3⟩:=q2n hl ht acc hEl s1 r2.lt;simp only at h3 r3;have hi:=(hv rfl).2;have hle:=r3.le;have hfit:sy.fits (x1x nds) [y7d d] 112=true:=y0z (x1x nds) [y7d d] 112 (by rw[x1l];simp only[a0b,a0e];omega)
      have fin:sy.rapp (x1x nds) [y7d d]=x1x (nds++[d]):=by rw[u9i];rfl
      refine⟨(n,nds++[d],s2),?_,⟨by simp only;omega,by simp only[a0j,a0b,a0e];omega,r3.lt,fun hb=> ?_⟩,a1m _,fun y hy=>Post.assoc (r2.bind (Post.assoc (r3.bind hy)))⟩
      ·simp only[↓lV0, ↓lL6, ↓hC h2, ↓hB0, ↓hV1, ↓hCt, ↓hC h3, ↓hNr0, ↓hNr1, ↓hNr2, ↓hNr3, ↓hNr4, ↓hNr5];rw[<-fin];exact hXt hfit _ _
      ·obtain⟨hb1,hm⟩:=r3.yes hb;obtain⟨hb0,_⟩:=r2.yes hb1;refine⟨(hen hb0).1,fun e he=> ?_⟩
       rcases a1k.1 he with he|he
       ·exact((hen hb0).2 e he).mono (by simp only;omega)
       ·rw[a1h.1 he];exact(u5t ht hm).1
     |false=>
      right
      have hr:x4i l (y9a l acc (n+1) nds) s nds s1:=r2.bind (Post.ret r2.lt);cases hb:s1.b with
      |false=>
       refine⟨((acc,nds),s1),?_,hr.bind (x9l r2.lt hb)⟩;have k1:=k6t s1.b s1.a s1.w;rw[hb]at k1;simp only[↓lV0, ↓lL6, ↓hC h2, ↓hB0, ↓hV1, ↓hCf, ↓hXf hb];rw[hb];simp only[↓hC k1, ↓hB0, ↓hI1, ↓hI2, ↓hCt];unfold q1q;simp only[hb]
      |true=>
       have q1:sy.inr (s1.i:Int) (sy.rlen (x0i l))=true:=y6o r2.lt;have q2:=y0p r2.lt;have hT: ∀(K:Int->BA->Int->Int->Option (List D ⊕ List D ⊕ PRes)),oT sy (sy.row (x0i l) (s1.i:Int)) 0 K=K (tkA l s1.i).k (tkA l s1.i).s (tkA l s1.i).n (tkA l s1.i).a:=fun K=>by rw[q2];rfl
       cases hk:decide ((tkA l s1.i).k=6)with
       |false=>
        obtain⟨s2,h4,r4,hb4,_⟩:=y2q hl (x0j acc) s1 r2.lt s1.i r2.lt 2;have rf:x4i l (w5l l) s1 () s2:=r4.of fun _=>by unfold w5l q1r;rw[hk]
        refine⟨((acc,nds),s2),?_,hr.bind (rf.bind (Post.ret rf.lt))⟩;have k1:=k6t s2.b s2.a s2.w;have hk':sy.bnot (sy.ieq (tkA l s1.i).k 6)=true:=by show(!decide _)=true;rw[hk];rfl
        simp only[↓lV0, ↓lL6, ↓hC h2, ↓hB0, ↓hV1, ↓hCf, ↓hXt hb, ↓hXt q1, ↓hT, ↓hXt hk', ↓hC h4, ↓hV0, ↓hC k1];rw[hb4];simp only[↓hB0, ↓hI1, ↓hI2, ↓hCt];unfold q1q;simp only[hb4]
       |true=>
        have rf:x4i l (w5l l) s1 () s1:=by
         refine⟨a0q _,r2.lt,fun _=>rfl,fun _=> ?_⟩
         unfold w5l;rw[hk];obtain⟨i,b,a,w⟩:=s1;cases hb;exact⟨rfl,rfl⟩
        refine⟨((acc,nds),s1),?_,hr.bind (rf.bind (Post.ret rf.lt))⟩;obtain⟨hb0,_⟩:=r2.yes hb;have hck:=q3j acc nds hEl (by omega) fun e he=>((hen hb0).2 e he).ok (by omega)
        have k1:=k6t s1.b s1.a s1.w;have hk':sy.bnot (sy.ieq (tkA l s1.i).k 6)=false:=by show(!decide _)=false;rw[hk];rfl
        have hsz:sy.slen str=((tb str).length:Int):=by show(str.size:Int)=_;rw[x1r]
        rw[hb]at k1;simp only[↓lV0, ↓lL6, ↓hC h2, ↓hB0, ↓hV1, ↓hCf, ↓hXt hb, ↓hXt q1, ↓hT, ↓hXf hk'];rw[hb];simp only[↓hC k1, ↓hB0, ↓hI1, ↓hI2, ↓hCf, ↓hC hck, ↓hI0,hsz];unfold q1q;simp only[hb];show cond (!decide (y6r acc nds=0)) _ _=_;cases decide (y6r acc nds=0)<;>rfl
def z3y (str:BA)(hs:str.size<=100000):cF 7 [.d (.str str)]=some (pgV (z7s str)):=(u3z str hs).1
structure T where
 k:Int
 b:List Nat
 n:Int
def tkT (t:Tk):T:=⟨t.k,tb t.s,t.n⟩
def T.w (t:T):List Nat:=if t.k=4 then 39::(t.b++[39])else t.b
def k2u (b:List Nat)(n:Int):Prop:=b.all x0x=true/\0 < b.length/\(b.getD 0 0=48->b.length=1)/\z2j 0 b < 9223372036854775808/\n=(z2j 0 b:Int)
def T.OK (t:T):Prop:=
 (t.k=1/\(x3r t.b || x4r t.b)=true/\x6c x1u t.b=true/\t.n=0)\/(t.k=2/\x3h t.b=true/\t.n=0)\/(t.k=3/\k2u t.b t.n)\/(t.k=4/\y8u t.b=true/\(∀x∈t.b,x≠39)/\t.n=0)\/(t.k=5/\y2u.contains t.b=true/\t.n=0)\/(t.k=5/\ ∃c,u2h.contains c=true/\t.b= [c]/\t.n=0)
def ajB (t:T)(d:Nat):Bool:=if t.k=4 then true else if t.k=5 then(match t.b with
 | [c]=> !y2u.contains [c,d]&& !(decide (c=45)&&decide (d=45))
 |_=>true)else !x0w d
def z4l {p:Nat->Bool}: ∀(b r:List Nat),b.all p=true->p (r.getD 0 0)=false\/r= []->x2v p (b++r)=b.length
 | [],r,_,h=>by
   rcases h with h|rfl
   ·exact q7d h
   ·rfl
 |c::b,r,hb,h=>by
  simp only[a1p,a0g]at hb;rw[a0d,z2p hb.1,z4l b r hb.2 h,a0b];omega
def z0n {c:Nat}(h:x0x c=true):x0w c=true:=by unfold x0w;rw[h];simp
def v4d {c:Nat}(h:x0w c=false):x0x c=false:=by
 cases hd:x0x c with
 |false=>rfl
 |true=>rw[z0n hd]at h;cases h
def u4w {c:Nat}(h:x1u c=true):97<=c/\c<=122:=by unfold x1u at h;simpa using h
def v5b {c:Nat}(h:x1y c=true):65<=c/\c<=90:=by unfold x1y at h;simpa using h
def y7o {c:Nat}(h:x0x c=true):48<=c/\c<=57:=by unfold x0x at h;simpa using h
def y8e {c:Nat}(h:x1u c=true):x1y c=false:=by have:=u4w h;unfold x1y;simp;omega
def u3q {c:Nat}(h:x0x c=true):x1u c=false:=by have:=y7o h;unfold x1u;simp;omega
def u3r {c:Nat}(h:x0x c=true):x1y c=false:=by have:=y7o h;unfold x1y;simp;omega
def y7q {c:Nat}(h:33<=c):x2z c=false:=by unfold x2z;simp;omega
def z2x {c:Nat}{r:List Nat}(h:c≠45):u1h v3g (c::r)=false:=by
 unfold u1h v3g;refine decide_eq_false fun e=>h ?_
 simp at e;exact e.1
def x3a {p:Nat->Bool}{b:List Nat}(h:x6c p b=true):0 < b.length/\p (b.getD 0 0)=true/\b.all x0w=true:=by
 unfold x6c at h;simp only[a0g,a0u]at h;exact⟨h.1.1.1,h.1.2,h.2⟩
def x9r {b r:List Nat}(h:0 < b.length):(b++r).getD 0 0=b.getD 0 0:=by
 match b,h with
 |c::b,_=>rfl
def z6w (b r:List Nat):(b++r).take b.length=b:=by simp
structure TokIs (s:BA) (t:T):Prop where
 k:(x1e s).k=t.k
 b:tb (x1e s).s=t.b
 n:(x1e s).n=t.n
 w:(x1e s).w=t.w.length
 ok:(x1e s).ok=true
def u4o {s:BA}{t:T}{r:List Nat}(hs:tb s=t.b++r)(hk:t.k=1/\x6c x1u t.b=true/\(x3r t.b || x4r t.b)=true\/t.k=2/\x3h t.b=true)(hn:t.n=0)(hr:x0w (r.getD 0 0)=false):TokIs s t:=by
 obtain⟨k,b,n⟩:=t;simp only at hs hk hn;subst hn;have hp:0 < b.length/\(x1u (b.getD 0 0)=true/\x1y (b.getD 0 0)=false\/x1y (b.getD 0 0)=true)/\b.all x0w=true:=by
  rcases hk with⟨_,h,_⟩|⟨_,h⟩
  ·have h:=x3a h;exact⟨h.1, .inl ⟨h.2.1,y8e h.2.1⟩,h.2.2⟩
  ·have h:=x3a h;exact⟨h.1, .inr h.2.1,h.2.2⟩
 have hsp:x2v x0w (tb s)=b.length:=by rw[hs];exact z4l b r hp.2.2 (.inl hr)
 have h0:(tb s).getD 0 0=b.getD 0 0:=by rw[hs,x9r hp.1]
 have hw:x1e s=y0c s:=by
  unfold x1e;simp only[h0];rcases hp.2.1 with h|h
  ·rw[h.1];rfl
  ·rw[h,Bool.or_true]
 have he:tb (s.extract 0 b.length)=b:=by rw[x6g,a2k,hs,z6w]
 have hwl:(T.w ⟨k,b,0⟩)=b:=by
  unfold T.w;rw[if_neg];rcases hk with h|h<;>(simp only;omega)
 rcases hk with⟨h1,h2,h3⟩|⟨h1,h2⟩
 ·have hg:x1y (b.getD 0 0)=false:=by
   exact y8e (x3a h2).2.1
  have e:y0c s=⟨1,s.extract 0 b.length,0,b.length,x3r b || x4r b⟩:=by unfold y0c;simp only[hsp,h0,hg,he]
  rw[e]at hw;refine⟨?_,?_,?_,?_,?_⟩<;>rw[hw]
  ·exact h1.symm
  ·exact he
  ·rw[hwl]
  ·exact h3
 ·have hg:x1y (b.getD 0 0)=true:=(x3a h2).2.1;have e:y0c s=⟨2,s.extract 0 b.length,0,b.length,x3h b⟩:=by unfold y0c;simp only[hsp,h0,hg,he]
  rw[e]at hw;refine⟨?_,?_,?_,?_,?_⟩<;>rw[hw]
  ·exact h1.symm
  ·exact he
  ·rw[hwl]
  ·exact h2
def w6x {s:BA}{t:T}{r:List Nat}(hs:tb s=t.b++r)(hk:t.k=3)(hn:k2u t.b t.n)(hr:x0w (r.getD 0 0)=false):TokIs s t:=by
 obtain⟨k,b,n⟩:=t;simp only at hs hk hn;obtain⟨hd,hl,h48,hv,hn⟩:=hn;subst hk hn;have hsp:x2v x0x (tb s)=b.length:=by rw[hs];exact z4l b r hd (.inl (v4d hr))
 have h0:(tb s).getD 0 0=b.getD 0 0:=by rw[hs,x9r hl]
 have hb:x0x (b.getD 0 0)=true:=by
  match b,hl with
  |c::b,_=>
   simp only[a1p,a0g]at hd;exact hd.1
 have hbd:=y7o hb;have he:tb (s.extract 0 b.length)=b:=by rw[x6g,a2k,hs,z6w]
 have hw:x1e s=x6b s:=by
  unfold x1e;have h1:x1u (b.getD 0 0)=false:=u3q hb;have h2:x1y (b.getD 0 0)=false:=u3r hb;simp only[h0,h1,h2,hb,Bool.or_self]
 have hp:=z7x (s.extract 0 b.length) (by rw[he];exact hd) (by rw[he];exact hl)
 rw[he]at hp;have e:x6b s=⟨3,s.extract 0 b.length,(z2j 0 b:Int),b.length,true⟩:=by
  unfold x6b;simp only[hsp,h0,hp.1,hp.2 hv,a0o hv,a2j];have:(!decide (b.getD 0 0=48) || decide (b.length=1))=true:=by
   by_cases h:b.getD 0 0=48
   ·rw[a0o (h48 h),Bool.or_true]
   ·rw[decide_eq_false h];rfl
  rw[this]
 rw[e]at hw;refine⟨?_,?_,?_,?_,?_⟩<;>rw[hw]
 ·exact he
 ·rfl
def v4x {c:Nat}: ∀(b r:List Nat),(∀x∈b,x≠c)->y4y c (b++c::r)=some b.length
 | [],r,_=>by simp[y4y]
 |x::b,r,h=>by
  have h1:x≠c:=h x a0v;have h2:=v4x b r fun y hy=>h y (a0w _ hy)
  rw[a0d,y4y];simp[h1,h2]
def v9u {s:BA}{t:T}{r:List Nat}(hs:tb s=39::(t.b++[39])++r)(hk:t.k=4)(hp:y8u t.b=true)(h39: ∀x∈t.b,x≠39)(hn:t.n=0):TokIs s t:=by
 obtain⟨k,b,n⟩:=t;simp only at hs hk hp h39 hn;subst hk hn;have hs2:tb s=39::(b++39::r):=by rw[hs];simp
 have hw:x1e s=y2z s:=by
  unfold x1e;rw[hs2];rfl
 have he:tb (s.extract 1 (b.length+1))=b:=by
  rw[x6g,hs2];simp
 have e:y2z s=⟨4,s.extract 1 (b.length+1),0,b.length+2,true⟩:=by
  unfold y2z;have:(tb s).drop 1=b++39::r:=by rw[hs2];rfl
  rw[this,v4x b r h39];simp only[he,hp]
 rw[e]at hw;refine⟨?_,?_,?_,?_,?_⟩<;>rw[hw]
 ·exact he
 ·unfold T.w;simp
def w6v {s:BA}{t:T}{r:List Nat}(hs:tb s=t.b++r)(hk:t.k=5)(hp:y2u.contains t.b=true)(hn:t.n=0):TokIs s t:=by
 obtain⟨k,b,n⟩:=t;simp only at hs hk hp hn;subst hk hn;obtain⟨i,hi,he⟩:=y5k.1 hp;have hb: ∃c d,b= [c,d]/\(x1u c || x1y c)=false/\x0x c=false/\decide (c=39)=false:=by
  match i,hi with
  |0,_|1,_|2,_|3,_|4,_=>exact⟨_,_,he,rfl,rfl,rfl⟩
 obtain⟨c,d,rfl,h1,h2,h3⟩:=hb;have hw:x1e s=y0h s:=by
  unfold x1e;rw[hs];show(match x1u c || x1y c,x0x c,decide (c=39)with
   |true,_,_=>y0c s
   |false,true,_=>x6b s
   |false,false,true=>y2z s
   |false,false,false=>y0h s)=_
  rw[h1,h2,h3]
 have ht:(tb s).take 2= [c,d]:=by rw[hs];rfl
 have e:y0h s=⟨5,s.extract 0 2,0,2,true⟩:=by
  unfold y0h;rw[ht,hp]
 rw[e]at hw;refine⟨?_,?_,?_,?_,?_⟩<;>rw[hw]
 ·show tb (s.extract 0 2)=_;rw[x6g,ht];rfl
 ·rfl
def w6w {s:BA}{t:T}{r:List Nat}{c:Nat}(hs:tb s=t.b++r)(hk:t.k=5)(hp:u2h.contains c=true)(hb:t.b= [c])(hn:t.n=0)(hr:y2u.contains [c,r.getD 0 0]=false):TokIs s t:=by
 obtain⟨k,b,n⟩:=t;simp only at hs hk hb hn;subst hk hn hb;have hb:(x1u c || x1y c)=false/\x0x c=false/\decide (c=39)=false:=by
  have hm:=List.contains_iff_mem.1 hp;unfold u2h at hm;simp at hm;rcases hm with h|h|h|h|h|h|h|h|h|h|h|h|h|h|h|h<;>(subst h;exact⟨rfl,rfl,rfl⟩)
 obtain⟨h1,h2,h3⟩:=hb;have hw:x1e s=y0h s:=by
  unfold x1e;rw[hs];show(match x1u c || x1y c,x0x c,decide (c=39)with
   |true,_,_=>y0c s
   |false,true,_=>x6b s
   |false,false,true=>y2z s
   |false,false,false=>y0h s)=_
  rw[h1,h2,h3]
 have ht:y2u.contains ((tb s).take 2)=false:=by
  rw[hs]
  match r,hr with
  | [],_=>
    cases hx:y2u.contains (([c]++[]).take 2)with
    |false=>rfl
    |true=>
     obtain⟨i,hi,he⟩:=y5k.1 hx
     match i,hi,he with
     |0,_,he|1,_,he|2,_,he|3,_,he|4,_,he=>cases he
  |d::r,hr=>exact hr
 have e:y0h s=⟨5,s.extract 0 1,0,1,true⟩:=by
  unfold y0h;have:(tb s).getD 0 0=c:=by rw[hs];rfl
  rw[ht,this,hp]
 rw[e]at hw;refine⟨?_,?_,?_,?_,?_⟩<;>rw[hw]
 ·show tb (s.extract 0 1)=_;rw[x6g,hs];rfl
 ·rfl
def q6w {s:BA}{t:T}{r:List Nat}(hs:tb s=t.w++r)(ht:t.OK)(hr:ajB t (r.getD 0 0)=true):TokIs s t/\x7r (tb s)=0/\0 < t.w.length:=by
 unfold T.w at hs ⊢;rcases ht with⟨h1,h2,h3,h4⟩|⟨h1,h2,h3⟩|⟨h1,h2⟩|⟨h1,h2,h3,h4⟩|⟨h1,h2,h3⟩|⟨h1,c,h2,h3,h4⟩
 ·have hb:x0w (r.getD 0 0)=false:=by
   unfold ajB at hr;rw[if_neg (by omega),if_neg (by omega)]at hr;simpa using hr
  rw[if_neg (by omega)]at hs ⊢
  have hp:=x3a h3;have hs':=u4w hp.2.1;have h0:(tb s).getD 0 0=t.b.getD 0 0:=by rw[hs,x9r hp.1]
  refine⟨u4o hs (.inl ⟨h1,h3,h2⟩) h4 hb,x7q (by rw[h0];exact y7q (by omega)) ?_,hp.1⟩
  rw[hs]
  match h:t.b,hp.1 with
  |c::b,_=>rw[h]at hs';exact z2x (by have:97<=c:=hs'.1;omega)
 ·have hb:x0w (r.getD 0 0)=false:=by
   unfold ajB at hr;rw[if_neg (by omega),if_neg (by omega)]at hr;simpa using hr
  rw[if_neg (by omega)]at hs ⊢
  have hp:=x3a h2;have hs':=v5b hp.2.1;have h0:(tb s).getD 0 0=t.b.getD 0 0:=by rw[hs,x9r hp.1]
  refine⟨u4o hs (.inr ⟨h1,h2⟩) h3 hb,x7q (by rw[h0];exact y7q (by omega)) ?_,hp.1⟩
  rw[hs]
  match h:t.b,hp.1 with
  |c::b,_=>rw[h]at hs';exact z2x (by have:65<=c:=hs'.1;omega)
 ·have hb:x0w (r.getD 0 0)=false:=by
   unfold ajB at hr;rw[if_neg (by omega),if_neg (by omega)]at hr;simpa using hr
  rw[if_neg (by omega)]at hs ⊢
  refine⟨w6x hs h1 h2 hb,?_,h2.2.1⟩;obtain⟨hd,hl,_⟩:=h2;rw[hs]
  match h:t.b,hl with
  |c::b,_=>
   rw[h]at hd;simp only[a1p,a0g]at hd;have:=y7o hd.1;exact x7q (y7q (by show 33<=c;omega)) (z2x (by omega))
 ·rw[if_pos h1]at hs ⊢;refine⟨v9u hs h1 h2 h3 h4,?_,by simp⟩
  rw[hs];exact x7q rfl (z2x (by decide))
 ·rw[if_neg (by omega)]at hs ⊢
  obtain⟨i,hi,he⟩:=y5k.1 h2;refine⟨w6v hs h1 h2 h3,?_,?_⟩
  ·rw[hs,he]
   match i,hi with
   |0,_|2,_|3,_|4,_=>exact x7q rfl (z2x (by decide))
   |1,_=>exact x7q rfl rfl
  ·rw[he]
   match i,hi with
   |0,_|1,_|2,_|3,_|4,_=>decide
 ·have hb:y2u.contains [c,r.getD 0 0]=false/\(c=45->r.getD 0 0≠45):=by
   unfold ajB at hr;rw[if_neg (by omega),if_pos h1,h3]at hr
   simp only[a0g,Bool.not_eq_true']at hr;refine⟨hr.1,fun h e=> ?_⟩
   rw[e,h]at hr;exact absurd hr.2 (by decide)
  rw[if_neg (by omega)]at hs ⊢
  refine⟨w6w hs h1 h2 h3 h4 hb.1,?_,by rw[h3];exact Nat.one_pos⟩
  rw[hs,h3];have hm:=List.contains_iff_mem.1 h2;have h33:33<=c:=by
   unfold u2h at hm;simp at hm;omega
  refine x7q (y7q h33) ?_
  by_cases h45:c=45
  ·subst h45;unfold u1h v3g;refine decide_eq_false fun e=> ?_
   match r,hb.2 rfl,e with
   |d::r,h,e=>
    simp at e;exact h e
  ·exact z2x h45
def x0f:List (Option T)->List Nat
 | []=>[]
 |none::r=>32::x0f r
 |some t::r=>t.w++x0f r
def hd (d:Nat)(r:List (Option T)):Nat:=(x0f r++[d]).getD 0 0
def x2y (d:Nat):List (Option T)->Bool
 | []=>true
 |none::r=>x2y d r
 |some t::r=>ajB t (hd d r)&&x2y d r
def x0r: ∀x y:List (Option T),x0f (x++y)=x0f x++x0f y
 | [],y=>rfl
 |none::x,y=>by simp[x0f,x0r x y]
 |some t::x,y=>by simp[x0f,x0r x y]
def x7o (d:Nat)(x y:List (Option T)):hd d (x++y)=hd (hd d y) x:=by
 unfold hd;rw[x0r]
 match h:x0f x with
 | []=>
   match h2:x0f y with
   | []=>rfl
   |c::b=>rfl
 |c::b=>rfl
def x1f (d:Nat): ∀x y:List (Option T),x2y d (x++y)=(x2y (hd d y) x&&x2y d y)
 | [],y=>rfl
 |none::x,y=>x1f d x y
 |some t::x,y=>by
  rw[a0d,x2y,x2y,x1f d x y,x7o,Bool.and_assoc]
def u0c {l x y:List Nat}{a:Nat}(h:l.drop a=x++y):l.drop (a+x.length)=y:=by
 rw[<-List.drop_drop,h];simp
abbrev Pc:=List (Option T)
def mk (c:Nat):Option T:=some ⟨5,[c],0⟩
def m2 (c d:Nat):Option T:=some ⟨5,[c,d],0⟩
def wd (b:List Nat):Option T:=some ⟨1,b,0⟩
def y0i (n:Nat):List Nat:=if h:n < 10 then[48+n]else y0i (n / 10)++[48+n % 10]
 termination_by n
 decreasing_by omega
def v1h:List Nat:=[110,111,116]
def kIf:List Nat:=[105,102]
def u2v:List Nat:=[116,104,101,110]
def u2x:List Nat:=[101,108,115,101]
def v9c:List Nat:=[102,98,121]
def w4t:List Nat:=[112,114,101]
def y3l:List Nat:=[119,104,101,110]
def y5w:List Nat:=[109,101,114,103,101]
def y3m:List Nat:=[101,118,101,114,121]
def u2u:List Nat:=[119,105,116,104]
def v4t:List Nat:=[116,114,117,101]
def z8v:List Nat:=[102,97,108,115,101]
def opK (o:Nat):Option T:=some ⟨if 7<=o/\o<=10 then 1 else 5,tb (y0n o),0⟩
def v8s (a:BA):Option T:=some ⟨if x3h (tb a)then 2 else 1,tb a,0⟩
def onP (s a:BA):Pc:=if tb a=v4t then[wd (tb s)]else if tb a=z8v then[wd v1h,none,wd (tb s)]else[v8s a,mk 40,wd (tb s),mk 41]
def y4c:List Pc->Pc
 | []=>[]
 |x::r=>[mk 44,none]++x++y4c r
def x1w:List Pc->Pc
 | []=>[]
 |x::r=>x++y4c r
def x1g:List BA->List Pc->Pc
 |a::ar,x::xs=>[none,mk 40,v8s a,none,m2 45 62,none]++x++[mk 41]++x1g ar xs
 |_,_=>[]
def v4p (k n:Int)(s:BA):Pc:=if k=1 then[some ⟨3,y0i n.toNat,n⟩]else if k=2 then[wd (if n=1 then v4t else z8v)]else if k=17 then[some ⟨4,tb s,0⟩]else if k=4 then[some ⟨2,tb s,0⟩]else[wd (tb s)]
def v7b (n:Int)(s:BA)(t:List Pc):Pc:=if n=1 then[mk 40,wd (tb s),mk 40]++x1w (t.take (t.length - 1))++[mk 41,none,wd y3m,none]++t.getD (t.length - 1) []++[mk 41]else[wd (tb s),mk 40]++x1w t++[mk 41]
def pcK (k n:Int)(s:BA)(o:Int)(a:List BA)(t:List Pc):Pc:=
 if k=5 then(if o=1 then[mk 40,mk 45]++t.getD 0 []++[mk 41]else[mk 40,wd v1h,none]++t.getD 0 []++[mk 41])
 else if k=6 then[mk 40]++t.getD 0 []++[none,opK o.toNat,none]++t.getD 1 []++[mk 41]
 else if k=7 then[mk 40,wd kIf,none]++t.getD 0 []++[none,wd u2v,none]++t.getD 1 []++[none,wd u2x,none]++t.getD 2 []++[mk 41]
 else if k=8 then[mk 40]++t.getD 0 []++[none,wd v9c,none]++t.getD 1 []++[mk 41]
 else if k=9 then[mk 40]++t.getD 0 []++[none,m2 45 62,none]++t.getD 1 []++[mk 41]
 else if k=10 then[mk 40,wd w4t,none]++t.getD 0 []++[mk 41]
 else if k=11 then[mk 40]++t.getD 0 []++[none,wd y3l,none]++onP s (a.getD 0 (bs []))++[mk 41]
 else if k=12 then[mk 40,wd y5w,none,wd (tb s)]++x1g a t++[mk 41]
 else if k=13 then v7b n s t
 else if k=14 then[mk 91]++x1w t++[mk 93]
 else if k=15 then t.getD 0 []++[mk 91]++t.getD 1 []++[mk 93]
 else if k=16 then[mk 40]++t.getD 0 []++[none,wd u2u,none,mk 91]++t.getD 1 []++[mk 93,none,mk 61,none]++t.getD 2 []++[mk 41]
 else v4p k n s
mutual
def pcs:Ex->Pc
 | .mk k n s o a u=>pcK k n s o a (x1v u)
def x1v:List Ex->List Pc
 | []=>[]
 |e::l=>pcs e::x1v l
end
def z4u: ∀u:List Ex,(x1v u).length=u.length
 | []=>rfl
 |_::l=>by simp[x1v,z4u l]
mutual
def Ex.rng:Ex->Prop
 | .mk _ n _ _ _ u=>n < 9223372036854775808/\Ex.j2h u
def Ex.j2h:List Ex->Prop
 | []=>True
 |e::l=>e.rng/\Ex.j2h l
end
def stB (c:Nat):Bool:=x1u c || (x1y c || (x0x c || (decide (c=39) || (decide (c=40) || decide (c=91)))))
def edB (d:Nat):Bool:=decide (d=32) || (decide (d=41) || (decide (d=44) || (decide (d=91) || (decide (d=93) || (decide (d=59) || decide (d=0))))))
def x4h {d:Nat}(h:edB d=true):x0w d=false:=by
 unfold edB at h;simp only[Bool.or_eq_true,a0u]at h;rcases h with h|h|h|h|h|h|h<;>(subst h;rfl)
def u4k {c:Nat}(h:u2h.contains c=true):T.OK ⟨5,[c],0⟩:= .inr (.inr (.inr (.inr (.inr ⟨rfl,c,h,rfl,rfl⟩))))
def k2t {c d:Nat}(h:y2u.contains [c,d]=true):T.OK ⟨5,[c,d],0⟩:= .inr (.inr (.inr (.inr (.inl ⟨rfl,h,rfl⟩))))
def y1z {b:List Nat}(h:x6c x1u b=true)(h2:(x3r b || x4r b)=true):T.OK ⟨1,b,0⟩:= .inl ⟨rfl,h2,h,rfl⟩
def x3b {b:List Nat}(h:x3r b=true):x6c x1u b=true/\x4r b=false:=by
 unfold x3r at h;simp only[a0g,Bool.not_eq_true']at h;exact h
def y4b {b:List Nat}(h:x3r b=true):T.OK ⟨1,b,0⟩:=y1z (x3b h).1 (by rw[h];rfl)
def u4l {b:List Nat}(h:x3h b=true):T.OK ⟨2,b,0⟩:= .inr (.inl ⟨rfl,h,rfl⟩)
def y6w {c x:Nat}: ∀ {b:List Nat},x∈b->x=c\/ ∃p∈x1n c b,x∈p
 | [],h=>by cases h
 |y::b,h=>by
  unfold x1n
  by_cases hy:y=c
  ·rw[if_pos hy];rcases a1n.1 h with rfl|h
   ·exact .inl hy
   ·rcases y6w (c:=c) h with h|⟨p,hp,hx⟩
    ·exact .inl h
    ·exact .inr ⟨p,a0w _ hp,hx⟩
  ·rw[if_neg hy];have hne:=y0m c b;rcases a1n.1 h with rfl|h
   ·right
    cases hs:x1n c b with
    |nil=>exact absurd hs hne
    |cons q qs=>exact⟨_,a0v,a0v⟩
   ·rcases y6w (c:=c) h with h|⟨p,hp,hx⟩
    ·exact .inl h
    ·right
     cases hs:x1n c b with
     |nil=>exact absurd hs hne
     |cons q qs=>
      rw[hs]at hp;rcases a1n.1 hp with rfl|hp
      ·exact⟨_,a0v,a0w _ hx⟩
      ·exact⟨p,a0w _ hp,hx⟩
def v4v {x:Nat}(h:x0w x=true):x≠39:=by rintro rfl;cases h
def q8h {b:List Nat}(h:x3r b=true): ∀x∈b,x≠39:=fun x hx=>v4v (a0l.1 (x3a (x3b h).1).2.2 x hx)
def q7p {b:List Nat}(h:y0s b=true): ∀x∈b,x≠39:=fun x hx=>by
 rcases y6w (c:=46) hx with rfl|⟨p,hp,hxp⟩
 ·decide
 ·unfold y0s at h;split at h
  ·rename_i q hq;rw[hq]at hp;rw[a1h.1 hp]at hxp;exact q8h h x hxp
  ·rename_i q r hq;rw[hq]at hp;simp only[a0g]at h;rcases a1n.1 hp with rfl|hp
   ·exact q8h h.1 x hxp
   ·rw[a1h.1 hp]at hxp;have h2:=h.2;unfold u5s at h2;simp only[a0g]at h2;exact v4v (z0n (a0l.1 h2.2 x hxp))
  ·cases h
def q7o {b:List Nat}(h:y8u b=true): ∀x∈b,x≠39:=fun x hx=>by
 rcases y6w (c:=47) hx with rfl|⟨p,hp,hxp⟩
 ·decide
 ·exact q7p (a0l.1 h p hp) x hxp
def q5n {b:List Nat}(h:y8u b=true):T.OK ⟨4,b,0⟩:= .inr (.inr (.inr (.inl ⟨rfl,h,q7o h,rfl⟩)))
def u3s: ∀(m n:Nat),n<=m->(y0i n).all x0x=true/\0 < (y0i n).length/\((y0i n).getD 0 0=48->(y0i n).length=1)/\z2j 0 (y0i n)=n
 |m,n,hm=>by
  unfold y0i;split
  ·rename_i h;refine⟨?_,by simp,by simp,?_⟩
   ·show(x0x (48+n)&&true)=true;unfold x0x;rw[a0o (by omega),a0o (by omega)];rfl
   ·show 0*10+(48+n - 48)=n;omega
  ·rename_i h;cases m with
   |zero=>omega
   |succ m=>
    obtain⟨h1,h2,h3,h4⟩:=u3s m (n / 10) (by omega)
    refine⟨?_,by simp,fun h0=> ?_,?_⟩
    ·rw[List.all_append,h1];show(true&&(x0x (48+n % 10)&&true))=true;unfold x0x;rw[a0o (by omega),a0o (by omega)];rfl
    ·rw[x9r h2]at h0;have h5:=h3 h0;exfalso
     match hd:y0i (n / 10),h5,h0,h4 with
     | [c],_,h0,h4=>
       simp only[List.getD_cons_zero]at h0;subst h0;have h4:0*10+(48 - 48)=n / 10:=h4;omega
    ·rw[u4n,h4];show n / 10*10+(48+n % 10 - 48)=n;omega
def w6c {n:Int}(h0:0<=n)(h1:n < 9223372036854775808):T.OK ⟨3,y0i n.toNat,n⟩:=by
 obtain⟨h2,h3,h4,h5⟩:=u3s _ n.toNat (a0q _);refine .inr (.inr (.inl ⟨rfl,h2,h3,h4,?_,?_⟩))
 ·show z2j 0 (y0i n.toNat) < _;rw[h5];omega
 ·show n=(z2j 0 (y0i n.toNat):Int);rw[h5];omega
def w6d {a:BA}(h:x9a a=true):T.OK ⟨if x3h (tb a)then 2 else 1,tb a,0⟩:=by
 unfold x9a at h;cases hh:x3h (tb a)with
 |true=>rw[if_pos rfl];exact u4l hh
 |false=>
  rw[hh,a1e]at h;rw[if_neg (by decide)]
  rcases Bool.or_eq_true _ _▸h with h|h<;>(rw[a0f h];exact y1z rfl rfl)
def k7o {o:Nat}(h1:3<=o)(h2:o<=16):T.OK ⟨if 7<=o/\o<=10 then 1 else 5,tb (y0n o),0⟩:=by
 match o,h1,h2 with
 |3,_,_|4,_,_|5,_,_|6,_,_|11,_,_|13,_,_|15,_,_=>exact u4k rfl
 |7,_,_|8,_,_|9,_,_|10,_,_=>exact y1z rfl rfl
 |12,_,_|14,_,_|16,_,_=>exact k2t rfl
 |o+17,_,h=>omega
def z5l (d:Nat)(t:T)(r:Pc)(h:0 < t.w.length):hd d (some t::r)=t.w.getD 0 0:=by
 unfold hd;rw[x0f,List.append_assoc,x9r h]
def x7e (d:Nat)(r:Pc):hd d (none::r)=32:=rfl
def y1v (d c:Nat)(r:Pc):hd d (mk c::r)=c:=rfl
def w4v (d:Nat):hd d []=d:=rfl
def q5b (b:List Nat)(d:Nat):ajB ⟨4,b,0⟩ d=true:=rfl
def k7f (a b d:Nat):ajB ⟨5,[a,b],0⟩ d=true:=rfl
def z2h {c d:Nat}(h:c≠58/\c≠45/\c≠60/\c≠62):ajB ⟨5,[c],0⟩ d=true:=by
 show(!y2u.contains [c,d]&& !(decide (c=45)&&decide (d=45)))=true;rw[decide_eq_false h.2.1];have:y2u.contains [c,d]=false:=by
  cases hx:y2u.contains [c,d]with
  |false=>rfl
  |true=>
   have:=List.contains_iff_mem.1 hx;unfold y2u at this;simp at this;omega
 rw[this];rfl
def k2n {c d:Nat}(h:stB d=true\/d=32):ajB ⟨5,[c],0⟩ d=true:=by
 have hd:d≠61/\d≠62/\d≠45:=by
  rcases h with h|h
  ·refine⟨?_,?_,?_⟩<;>(rintro rfl;cases h)
  ·omega
 show(!y2u.contains [c,d]&& !(decide (c=45)&&decide (d=45)))=true;rw[decide_eq_false hd.2.2,Bool.and_false];have:y2u.contains [c,d]=false:=by
  cases hx:y2u.contains [c,d]with
  |false=>rfl
  |true=>
   have:=List.contains_iff_mem.1 hx;unfold y2u at this;simp at this;omega
 rw[this];rfl
def okP:Pc->Prop
 | []=>True
 |none::r=>okP r
 |some t::r=>t.OK/\okP r
def x2x: ∀x y:Pc,okP (x++y)↔okP x/\okP y
 | [],y=>by simp[okP]
 |none::x,y=>by simp only[a0d,okP,x2x x y]
 |some t::x,y=>by simp only[a0d,okP,x2x x y,and_assoc]
def u2j: ∀ {x:Pc},okP x↔ ∀t,some t∈x->t.OK
 | []=>by simp[okP]
 |none::x=>by simp[okP,u2j (x:=x)]
 |some t::x=>by simp[okP,u2j (x:=x)]
structure PV (p:Pc):Prop where
 ok:okP p
 ch: ∀d,edB d=true->x2y d p=true
 st: ∀d,stB (hd d p)=true
def x9t (d c:Nat)(r:Pc):x2y d (mk c::r)=(ajB ⟨5,[c],0⟩ (hd d r)&&x2y d r):=rfl
def k1g (d a b:Nat)(r:Pc):x2y d (m2 a b::r)=x2y d r:=by
 show(ajB ⟨5,[a,b],0⟩ (hd d r)&&x2y d r)=_;rw[k7f,a2j]
def z2e (d:Nat)(b:List Nat)(r:Pc):x2y d (wd b::r)=(!x0w (hd d r)&&x2y d r):=rfl
def x5n (d:Nat)(r:Pc):x2y d (none::r)=x2y d r:=rfl
def x7u (d:Nat):x2y d []=true:=rfl
def z5a (c:Nat)(r:Pc)(h:u2h.contains c=true):okP (mk c::r)↔okP r:=⟨fun h=>h.2,fun h2=>⟨u4k h,h2⟩⟩
def q7w (r:Pc):okP (m2 45 62::r)↔okP r:=⟨fun h=>h.2,fun h2=>⟨k2t rfl,h2⟩⟩
def x6a (r:Pc):okP (none::r)↔okP r:=Iff.rfl
def y4q (b:List Nat)(r:Pc)(h1:x6c x1u b=true)(h2:(x3r b || x4r b)=true):okP (wd b::r)↔okP r:=⟨fun h=>h.2,fun h3=>⟨y1z h1 h2,h3⟩⟩
def op32 {o:Nat}(h1:3<=o)(h2:o<=16)(d:Nat)(r:Pc):x2y d (opK o::none::r)=x2y d r/\(okP (opK o::r)↔okP r):=by
 refine⟨?_,fun h=>h.2,fun h=>⟨k7o h1 h2,h⟩⟩
 show(ajB _ 32&&x2y d r)=x2y d r;rw[show ajB ⟨if 7<=o/\o<=10 then 1 else 5,tb (y0n o),0⟩ 32=true from by
  match o,h1,h2 with
  |3,_,_|4,_,_|5,_,_|6,_,_|11,_,_|13,_,_|15,_,_|7,_,_|8,_,_|9,_,_|10,_,_|12,_,_|14,_,_|16,_,_=>rfl
  |o+17,_,h=>omega,a2j]
def u1l (d:Nat):ajB ⟨5,[40],0⟩ d=true:=z2h (by decide)
def u1k (d:Nat):ajB ⟨5,[41],0⟩ d=true:=z2h (by decide)
def k3s (d:Nat):ajB ⟨5,[91],0⟩ d=true:=z2h (by decide)
def k3r (d:Nat):ajB ⟨5,[93],0⟩ d=true:=z2h (by decide)
def aj44 (d:Nat):ajB ⟨5,[44],0⟩ d=true:=z2h (by decide)
def aj61:ajB ⟨5,[61],0⟩ 32=true:=rfl
def w1i:x0w 32=false:=rfl
def k8n:x0w 40=false:=rfl
def v1l {b:List Nat}(h:x3r b=true):(x3r b || x4r b)=true:=by rw[h];rfl
def v4j {b:List Nat}(h:x3r b=true)(d:Nat)(r:Pc):stB (hd d (wd b::r))=true:=by
 have hp:=x3a (x3b h).1;show stB (hd d (some ⟨1,b,0⟩::r))=true;rw[z5l _ _ _ (by show 0 < (T.w ⟨1,b,0⟩).length;exact hp.1)]
 show stB (b.getD 0 0)=true;unfold stB;rw[hp.2.1];rfl
def v4y {b:List Nat}(h:x3h b=true)(d:Nat)(r:Pc):stB (hd d (some ⟨2,b,0⟩::r))=true:=by
 have hp:=x3a h;rw[z5l _ _ _ (by show 0 < (T.w ⟨2,b,0⟩).length;exact hp.1)]
 show stB (b.getD 0 0)=true;unfold stB;rw[hp.2.1,a1r,Bool.or_true]
def q7y (m:Nat)(n:Int)(d:Nat)(r:Pc):stB (hd d (some ⟨3,y0i m,n⟩::r))=true:=by
 obtain⟨h1,h2,h3,h4⟩:=u3s _ m (a0q _);rw[z5l _ _ _ (by show 0 < (T.w ⟨3,y0i m,n⟩).length;exact h2)]
 show stB ((y0i m).getD 0 0)=true;have:x0x ((y0i m).getD 0 0)=true:=by
  match hd:y0i m,h2,h1 with
  |c::b,_,h1=>
   simp only[a1p,a0g]at h1;exact h1.1
 unfold stB;rw[this,a1r,Bool.or_true,Bool.or_true]
def k1f (b:List Nat)(n:Int)(d:Nat)(r:Pc):x2y d (some ⟨3,b,n⟩::r)=(!x0w (hd d r)&&x2y d r):=rfl
def q2g (b:List Nat)(d:Nat)(r:Pc):x2y d (some ⟨4,b,0⟩::r)=x2y d r:=by
 show(ajB ⟨4,b,0⟩ (hd d r)&&x2y d r)=_;rw[q5b,a2j]
def v6z (a:BA)(d:Nat)(r:Pc):x2y d (v8s a::r)=(!x0w (hd d r)&&x2y d r):=by
 unfold v8s;split<;>rfl
def q7x {a:BA}(h:x9a a=true)(r:Pc):okP (v8s a::r)↔okP r:=⟨fun h=>h.2,fun h2=>⟨w6d h,h2⟩⟩
def v8w: ∀ {t:List Pc},(∀p∈t,PV p)->okP (y4c t)/\ ∀d,edB d=true->x2y d (y4c t)=true/\edB (hd d (y4c t))=true
 | [],_=>⟨trivial,fun d h=>⟨rfl,h⟩⟩
 |x::t,h=>by
  have hx:=h x a0v;obtain⟨h1,h2⟩:=v8w fun p hp=>h p (a0w _ hp)
  refine⟨?_,fun d hd'=> ?_⟩
  ·simp only[y4c,x2x,a0d,a0h,z5a _ _ (show u2h.contains 44=true from rfl),x6a];exact⟨hx.ok,h1⟩
  ·simp only[y4c,a0d,a0h,x9t,x5n,x1f,aj44,a2j];rw[hx.ch _ (h2 d hd').2,(h2 d hd').1];exact⟨rfl,rfl⟩
def z1m {t:List Pc}(h: ∀p∈t,PV p):okP (x1w t)/\ ∀d,edB d=true->x2y d (x1w t)=true:=by
 match t,h with
 | [],_=>exact⟨trivial,fun d _=>rfl⟩
 |x::t,h=>
  have hx:=h x a0v;obtain⟨h1,h2⟩:=v8w fun p hp=>h p (a0w _ hp)
  refine⟨by simp only[x1w,x2x];exact⟨hx.ok,h1⟩,fun d hd'=> ?_⟩
  simp only[x1w,x1f];rw[hx.ch _ (h2 d hd').2,(h2 d hd').1];rfl
def u8g: ∀ {a:List BA} {t:List Pc},a.all x9a=true->(∀p∈t,PV p)->okP (x1g a t)/\ ∀d,edB d=true->x2y d (x1g a t)=true/\edB (hd d (x1g a t))=true
 | [],_,_,_=>⟨trivial,fun d h=>⟨by unfold x1g;rfl,by unfold x1g;exact h⟩⟩
 |_::_,[],_,_=>⟨trivial,fun d h=>⟨by unfold x1g;rfl,by unfold x1g;exact h⟩⟩
 |a::ar,x::t,ha,h=>by
  simp only[a1p,a0g]at ha;have hx:=h x a0v;obtain⟨h1,h2⟩:=u8g ha.2 fun p hp=>h p (a0w _ hp)
  refine⟨?_,fun d hd'=> ?_⟩
  ·simp only[x1g,x2x,a0d,a0h,z5a _ _ (show u2h.contains 40=true from rfl),z5a _ _ (show u2h.contains 41=true from rfl),x6a,q7w,q7x ha.1];exact⟨⟨hx.ok,trivial⟩,h1⟩
  ·simp only[x1g,a0d,a0h,x9t,x5n,k1g,v6z,x1f,x7e,y1v,u1l,u1k,w1i,a2j,a2f];rw[hx.ch _ rfl,(h2 d hd').1];exact⟨rfl,rfl⟩
def k2s {s a:BA}(hs:x3r (tb s)=true)(ha:x9a a=true):okP (onP s a)/\x2y 41 (onP s a)=true:=by
 unfold onP;split
 ·exact⟨⟨y4b hs,trivial⟩,rfl⟩
 ·split
  ·exact⟨⟨y1z rfl rfl,y4b hs,trivial⟩,rfl⟩
  ·refine⟨⟨w6d ha,u4k rfl,y4b hs,u4k rfl,trivial⟩,?_⟩;rw[v6z];rfl
def z6o {a:List BA}{k:Int}(h:y1e k a=true):a.all x9a=true:=by
 unfold y1e at h;simp only[a0g]at h;exact h.1
def q5l (k n:Int)(s:BA)(o:Int)(a:List BA)(u:List Ex)(t:List Pc)(hp:y0f (.mk k n s o a u)=true)(hn:n < 9223372036854775808)(ht: ∀p∈t,PV p)(hl:t.length=u.length):PV (pcK k n s o a t):=by
 have g: ∀i,i < t.length->PV (t.getD i []):=fun i hi=>by
  rw[a0i,a0a hi];exact ht _ (a1i hi)
 unfold y0f at hp;simp only[a0g]at hp;obtain⟨hk,h1,h2,h3,h4,h5,h6,h7⟩:=hp;have h5:=a0f h5;have h6:=a0f h6;have o40: ∀r,okP (mk 40::r)↔okP r:=fun r=>z5a 40 r rfl
 have o41: ∀r,okP (mk 41::r)↔okP r:=fun r=>z5a 41 r rfl
 have o45: ∀r,okP (mk 45::r)↔okP r:=fun r=>z5a 45 r rfl
 have o91: ∀r,okP (mk 91::r)↔okP r:=fun r=>z5a 91 r rfl
 have o93: ∀r,okP (mk 93::r)↔okP r:=fun r=>z5a 93 r rfl
 have o61: ∀r,okP (mk 61::r)↔okP r:=fun r=>z5a 61 r rfl
 rcases w1d k hk with rfl|rfl|rfl|rfl|rfl|rfl|rfl|rfl|rfl|rfl|rfl|rfl|rfl|rfl|rfl|rfl|rfl
 ·have h1:0<=n:=a0f h1;exact⟨⟨w6c h1 hn,trivial⟩,fun d hd'=>by show(!x0w d&&true)=true;rw[x4h hd'];rfl,fun d=>q7y _ _ _ _⟩
 ·refine⟨?_,fun d hd'=> ?_,fun d=> ?_⟩<;>simp only[pcK,v4p]<;>(by_cases hn1:n=1<;>simp only[hn1,if_true,if_false])
  ·exact⟨y1z rfl rfl,trivial⟩
  ·exact⟨y1z rfl rfl,trivial⟩
  ·show(!x0w d&&true)=true;rw[x4h hd'];rfl
  ·show(!x0w d&&true)=true;rw[x4h hd'];rfl
  ·rfl
  ·rfl
 ·exact⟨⟨y4b h2,trivial⟩,fun d hd'=>by show(!x0w d&&true)=true;rw[x4h hd'];rfl,fun d=>v4j h2 _ _⟩
 ·exact⟨⟨u4l h2,trivial⟩,fun d hd'=>by show(!x0w d&&true)=true;rw[x4h hd'];rfl,fun d=>v4y h2 _ _⟩
 ·have g0:=g 0 (by simp[loB]at h5;omega)
  by_cases ho:o=1
  ·have e:pcK 5 n s o a t= [mk 40,mk 45]++t.getD 0 []++[mk 41]:=by unfold pcK;rw[if_pos rfl,if_pos ho]
   rw[e];refine⟨?_,fun d hd'=> ?_,fun d=>rfl⟩
   ·simp only[x2x,a0d,a0h,o40,o45,o41];exact⟨g0.ok,trivial⟩
   ·simp only[a0d,a0h,x9t,x1f,x7o,y1v,x7u,u1l,u1k,k2n (.inl (g0.st _)),g0.ch 41 rfl,Bool.and_self]
  ·have e:pcK 5 n s o a t= [mk 40,wd v1h,none]++t.getD 0 []++[mk 41]:=by unfold pcK;rw[if_pos rfl,if_neg ho]
   rw[e];refine⟨?_,fun d hd'=> ?_,fun d=>rfl⟩
   ·simp only[x2x,a0d,a0h,o40,y4q v1h _ rfl rfl,x6a,o41];exact⟨g0.ok,trivial⟩
   ·simp only[a0d,a0h,x9t,z2e,x5n,x1f,y1v,x7e,x7u,u1l,u1k,w1i,g0.ch 41 rfl,Bool.and_self,a2f]
 ·have g0:=g 0 (by simp[loB]at h5;omega)
  have g1:=g 1 (by simp[loB]at h5;omega)
  have ho:3<=o/\o<=16:=by simpa[u2g]using h3
  have e:pcK 6 n s o a t= [mk 40]++t.getD 0 []++[none,opK o.toNat,none]++t.getD 1 []++[mk 41]:=rfl;have q:=fun d r=>op32 (o:=o.toNat) (by omega) (by omega) d r
  have q1:=fun d r=>(q d r).1
  have q2:=fun r=>(q 0 r).2
  rw[e];refine⟨?_,fun d hd'=> ?_,fun d=>rfl⟩
  ·simp only[x2x,a0d,a0h,o40,q2,x6a,o41];exact⟨⟨⟨g0.ok,trivial⟩,g1.ok⟩,trivial⟩
  ·simp only[a0d,a0h,List.append_assoc,x9t,x5n,q1,x1f,x7o,y1v,x7e,x7u,u1l,u1k,g0.ch 32 rfl,g1.ch 41 rfl,Bool.and_self]
 ·have g0:=g 0 (by simp[loB]at h5;omega)
  have g1:=g 1 (by simp[loB]at h5;omega)
  have g2:=g 2 (by simp[loB]at h5;omega)
  have e:pcK 7 n s o a t= [mk 40,wd kIf,none]++t.getD 0 []++[none,wd u2v,none]++t.getD 1 []++[none,wd u2x,none]++t.getD 2 []++[mk 41]:=rfl;rw[e];refine⟨?_,fun d hd'=> ?_,fun d=>rfl⟩
  ·simp only[x2x,a0d,a0h,o40,y4q kIf _ rfl rfl,y4q u2v _ rfl rfl,y4q u2x _ rfl rfl,x6a,o41];exact⟨⟨⟨⟨⟨g0.ok,trivial⟩,g1.ok⟩,trivial⟩,g2.ok⟩,trivial⟩
  ·simp only[a0d,a0h,List.append_assoc,x9t,z2e,x5n,x1f,y1v,x7e,x7u,u1l,u1k,w1i,g0.ch 32 rfl,g1.ch 32 rfl,g2.ch 41 rfl,Bool.and_self,a2f]
 ·have g0:=g 0 (by simp[loB]at h5;omega)
  have g1:=g 1 (by simp[loB]at h5;omega)
  have e:pcK 8 n s o a t= [mk 40]++t.getD 0 []++[none,wd v9c,none]++t.getD 1 []++[mk 41]:=rfl;rw[e];refine⟨?_,fun d hd'=> ?_,fun d=>rfl⟩
  ·simp only[x2x,a0d,a0h,o40,y4q v9c _ rfl rfl,x6a,o41];exact⟨⟨⟨g0.ok,trivial⟩,g1.ok⟩,trivial⟩
  ·simp only[a0d,a0h,List.append_assoc,x9t,z2e,x5n,x1f,x7o,y1v,x7e,x7u,u1l,u1k,w1i,g0.ch 32 rfl,g1.ch 41 rfl,Bool.and_self,a2f]
 ·have g0:=g 0 (by simp[loB]at h5;omega)
  have g1:=g 1 (by simp[loB]at h5;omega)
  have e:pcK 9 n s o a t= [mk 40]++t.getD 0 []++[none,m2 45 62,none]++t.getD 1 []++[mk 41]:=rfl;rw[e];refine⟨?_,fun d hd'=> ?_,fun d=>rfl⟩
  ·simp only[x2x,a0d,a0h,o40,q7w,x6a,o41];exact⟨⟨⟨g0.ok,trivial⟩,g1.ok⟩,trivial⟩
  ·simp only[a0d,a0h,List.append_assoc,x9t,k1g,x5n,x1f,x7o,y1v,x7e,x7u,u1l,u1k,g0.ch 32 rfl,g1.ch 41 rfl,Bool.and_self]
 ·have g0:=g 0 (by simp[loB]at h5;omega)
  have e:pcK 10 n s o a t= [mk 40,wd w4t,none]++t.getD 0 []++[mk 41]:=rfl;rw[e];refine⟨?_,fun d hd'=> ?_,fun d=>rfl⟩
  ·simp only[x2x,a0d,a0h,o40,y4q w4t _ rfl rfl,x6a,o41];exact⟨g0.ok,trivial⟩
  ·simp only[a0d,a0h,x9t,z2e,x5n,x1f,y1v,x7e,x7u,u1l,u1k,w1i,g0.ch 41 rfl,Bool.and_self,a2f]
 ·have g0:=g 0 (by simp[loB]at h5;omega)
  have ha:=z6o h4;have hla:a.length=1:=by
   unfold y1e at h4;simp only[a0g]at h4;exact a0f h4.2
  match a,hla,ha with
  | [ar],_,ha=>
    simp only[a1p,List.all_nil,a2a]at ha;obtain⟨w1,w2⟩:=k2s (s:=s) h2 ha;have e:pcK 11 n s o [ar] t= [mk 40]++t.getD 0 []++[none,wd y3l,none]++onP s ar++[mk 41]:=rfl;rw[e];refine⟨?_,fun d hd'=> ?_,fun d=>rfl⟩
    ·simp only[x2x,a0d,a0h,o40,y4q y3l _ rfl rfl,x6a,o41];exact⟨⟨⟨g0.ok,trivial⟩,w1⟩,trivial⟩
    ·simp only[a0d,a0h,List.append_assoc,x9t,z2e,x5n,x1f,x7o,y1v,x7e,x7u,u1l,u1k,w1i,g0.ch 32 rfl,w2,Bool.and_self,a2f]
 ·have ha:=z6o h4;obtain⟨m1,m3⟩:=u8g ha ht;have e:pcK 12 n s o a t= [mk 40,wd y5w,none,wd (tb s)]++x1g a t++[mk 41]:=rfl;rw[e];have h2:x3r (tb s)=true:=h2;refine⟨?_,fun d hd'=> ?_,fun d=>rfl⟩
  ·simp only[x2x,a0d,a0h,o40,y4q y5w _ rfl rfl,y4q (tb s) _ (x3b h2).1 (v1l h2),x6a,o41];exact⟨m1,trivial⟩
  ·simp only[a0d,a0h,x9t,z2e,x5n,x1f,x7o,y1v,x7e,x7u,u1l,u1k,w1i,(m3 41 rfl).1,x4h (m3 41 rfl).2,Bool.and_self,a2f]
 ·have h2:x3r (tb s)=true:=h2;have h1:n=0\/n=1:=by simpa[u2k]using h1
  rcases h1 with rfl|rfl
  ·obtain⟨l1,l2⟩:=z1m ht;have e:pcK 13 0 s o a t= [wd (tb s),mk 40]++x1w t++[mk 41]:=rfl;rw[e];refine⟨?_,fun d hd'=> ?_,fun d=> ?_⟩
   ·simp only[x2x,a0d,a0h,o40,y4q (tb s) _ (x3b h2).1 (v1l h2),o41];exact⟨l1,trivial⟩
   ·simp only[a0d,a0h,x9t,z2e,x1f,x7o,y1v,x7u,u1l,u1k,k8n,l2 41 rfl,Bool.and_self,a2f]
   ·simp only[a0d,a0h];exact v4j h2 _ _
  ·have hlt:0 < t.length:=by simp[loB]at h5;omega
   have g0:=g (t.length - 1) (by omega)
   obtain⟨l1,l2⟩:=z1m (t:=t.take (t.length - 1)) fun p hp=>ht p (List.mem_of_mem_take hp)
   have e:pcK 13 1 s o a t= [mk 40,wd (tb s),mk 40]++x1w (t.take (t.length - 1))++[mk 41,none,wd y3m,none]++t.getD (t.length - 1) []++[mk 41]:=rfl;rw[e];refine⟨?_,fun d hd'=> ?_,fun d=>rfl⟩
   ·simp only[x2x,a0d,a0h,o40,y4q (tb s) _ (x3b h2).1 (v1l h2),y4q y3m _ rfl rfl,x6a,o41];exact⟨⟨⟨l1,trivial⟩,g0.ok⟩,trivial⟩
   ·simp only[a0d,a0h,List.append_assoc,x9t,z2e,x5n,x1f,x7o,y1v,x7e,x7u,u1l,u1k,k8n,w1i,l2 41 rfl,g0.ch 41 rfl,Bool.and_self,a2f]
 ·obtain⟨l1,l2⟩:=z1m ht;have e:pcK 14 n s o a t= [mk 91]++x1w t++[mk 93]:=rfl;rw[e];refine⟨?_,fun d hd'=> ?_,fun d=>rfl⟩
  ·simp only[x2x,a0d,a0h,o91,o93];exact⟨l1,trivial⟩
  ·simp only[a0d,a0h,x9t,x1f,x7o,y1v,x7u,k3s,k3r,l2 93 rfl,Bool.and_self]
 ·have g0:=g 0 (by simp[loB]at h5;omega)
  have g1:=g 1 (by simp[loB]at h5;omega)
  have e:pcK 15 n s o a t=t.getD 0 []++[mk 91]++t.getD 1 []++[mk 93]:=rfl;rw[e];refine⟨?_,fun d hd'=> ?_,fun d=> ?_⟩
  ·simp only[x2x,o91,o93];exact⟨⟨⟨g0.ok,trivial⟩,g1.ok⟩,trivial⟩
  ·simp only[a0d,a0h,List.append_assoc,x9t,x1f,x7o,y1v,x7u,k3s,k3r,g0.ch 91 rfl,g1.ch 93 rfl,Bool.and_self]
  ·simp only[List.append_assoc,x7o];exact g0.st _
 ·have g0:=g 0 (by simp[loB]at h5;omega)
  have g1:=g 1 (by simp[loB]at h5;omega)
  have g2:=g 2 (by simp[loB]at h5;omega)
  have e:pcK 16 n s o a t= [mk 40]++t.getD 0 []++[none,wd u2u,none,mk 91]++t.getD 1 []++[mk 93,none,mk 61,none]++t.getD 2 []++[mk 41]:=rfl;rw[e];refine⟨?_,fun d hd'=> ?_,fun d=>rfl⟩
  ·simp only[x2x,a0d,a0h,o40,y4q u2u _ rfl rfl,x6a,o41,o91,o93,o61];exact⟨⟨⟨⟨⟨g0.ok,trivial⟩,g1.ok⟩,trivial⟩,g2.ok⟩,trivial⟩
  ·simp only[a0d,a0h,List.append_assoc,x9t,z2e,x5n,x1f,x7o,y1v,x7e,x7u,u1l,u1k,k3s,k3r,aj61,w1i,g0.ch 32 rfl,g1.ch 93 rfl,g2.ch 41 rfl,Bool.and_self,a2f]
 ·have h2:y8u (tb s)=true:=h2;exact⟨⟨q5n h2,trivial⟩,fun d hd'=>by show x2y d (some ⟨4,tb s,0⟩::[])=true;rw[q2g];rfl,fun d=>rfl⟩
mutual
def w6b: ∀e:Ex,y1y e=true->e.rng->PV (pcs e)
 | .mk k n s o a u,h,hr=>by
   simp only[y1y,a0g]at h;rw[pcs];exact q5l k n s o a u _ h.1 hr.1 (v8x u h.2 hr.2) (z4u u)
def v8x: ∀u:List Ex,y4a u=true->Ex.j2h u-> ∀p∈x1v u,PV p
 | [],_,_,p,h=>by cases h
 |e::u,h,hr,p,hp=>by
  simp only[y4a,a0g]at h;rcases a1n.1 hp with rfl|hp
  ·exact w6b e h.1 hr.1
  ·exact v8x u h.2 hr.2 p hp
end
def fm:Pc->List T
 | []=>[]
 |none::r=>fm r
 |some t::r=>t::fm r
def x2g: ∀x y:Pc,fm (x++y)=fm x++fm y
 | [],y=>rfl
 |none::x,y=>x2g x y
 |some t::x,y=>by rw[a0d,fm,fm,x2g x y];rfl
def q1p: ∀x:Pc,x.filterMap id=fm x
 | []=>rfl
 |none::x=>by simp[fm,q1p x]
 |some t::x=>by simp[fm,q1p x]
def x2r (r:Pc):fm (none::r)=fm r:=rfl
def x2a (t:T)(r:Pc):fm (some t::r)=t::fm r:=rfl
def x5x:fm []= []:=rfl
def Az (l:List Tk):Nat->List T->Prop
 |_,[]=>True
 |i,t::ts=>tkT (tkA l i)=t/\Az l (i+1) ts
def x2q {l:List Tk}: ∀ {a b:List T} {i:Nat},Az l i (a++b)↔Az l i a/\Az l (i+a.length) b
 | [],b,i=>by simp[Az]
 |t::a,b,i=>by
  simp only[a0d,Az,x2q (a:=a),a0b,and_assoc];rw[show i+1+a.length=i+(a.length+1) by omega]
def x1d {l:List Tk}{t:T}{b:List T}{i:Nat}:Az l i (t::b)↔tkT (tkA l i)=t/\Az l (i+1) b:=Iff.rfl
def y6n (t:T)(w:List Nat):Bool:=decide (t.b=w)&&(decide (t.k=1) || decide (t.k=5))
def y9i (l:List Tk)(i:Nat)(w:BA):isT l i w=y6n (tkT (tkA l i)) (tb w):=rfl
def opQ (t:T):Nat->Nat->Option Nat
 |_,0=>none
 |a,n+1=>match y6n t (tb (y0n a))with
  |true=>some a
  |false=>opQ t (a+1) n
def y8y (l:List Tk)(i:Nat): ∀n a,z4y l i a n=opQ (tkT (tkA l i)) a n
 |0,_=>rfl
 |n+1,a=>by
  rw[z4y,opQ,y9i,y8y l i n];cases y6n (tkT (tkA l i)) (tb (y0n a))<;>rfl
def nT (t:T)(w:List Nat):Bool:= !y6n t w
def nO (t:T)(a n:Nat):Bool:=(opQ t a n).isNone
def f1 (t:T):Bool:=nT t [40]&&nT t y3m
def f2 (t:T):Bool:=f1 t&&(nT t [91]&&nT t y3l)
def f4 (t:T):Bool:=f2 t&&nO t 5 3
def f5 (t:T):Bool:=f4 t&&nO t 3 2
def f6 (t:T):Bool:=f5 t&&nO t 11 6
def f7 (t:T):Bool:=f6 t&&nO t 8 1
def f8 (t:T):Bool:=f7 t&&nO t 9 2
def f9 (t:T):Bool:=f8 t&&nT t v9c
def f10 (t:T):Bool:=f9 t&&nT t [45,62]
def foB:Nt->T->Bool
 | .atom,t=>f1 t
 | .post,t| .un,t=>f2 t
 | .prod,t=>f4 t
 | .sum,t=>f5 t
 | .cmp,t=>f6 t
 | .and,t=>f7 t
 | .or,t=>f8 t
 | .fby,t=>f9 t
 | .arrow,t=>f10 t
def u8q (t:T):Bool:=nT t [45]&&(nT t v1h&&(nT t w4t&&nT t [41]))
section
variable (l : List Tk)
def Ev (nt:Nt)(i:Nat)(e:Ex)(j N:Nat):Prop:= ∀m,N<=m->prs l m nt i= .ok e j
end
section
variable {l : List Tk} {i j k N M : Nat} {e x y : Ex}
def Ev.mono {nt:Nt}(h:Ev l nt i e j N)(hN:N<=M):Ev l nt i e j M:=fun m hm=>h m (by omega)
def x7c {w:BA}(h:nT (tkT (tkA l i)) (tb w)=true):isT l i w=false:=by
 rw[y9i];unfold nT at h;simpa using h
def w7w {a n:Nat}(h:nO (tkT (tkA l i)) a n=true):z4y l i a n=none:=by
 rw[y8y];unfold nO at h;simpa using h
def q6m (h:Ev l .post i e j N)(hs:u8q (tkT (tkA l i))=true):Ev l .un i e j (N+1):=fun m hm=>by
 obtain⟨m,rfl⟩: ∃r,m=r+1:=⟨m - 1,by omega⟩
 unfold u8q at hs;simp only[a0g]at hs;show unS l (prs l m) i=_;unfold unS;rw[x7c (w:=bs [45]) hs.1,x7c (w:=bs [110,111,116]) hs.2.1,x7c (w:=bs [112,114,101]) hs.2.2.1];exact h m (by omega)
def z5h {side nt:Nt}{a n:Nat}(hn: ∀m,ntS l m (prs l m) nt i=x5v l m (prs l m) side a n i)(h:Ev l side i e j N)(h1:1<=N)(ho:nO (tkT (tkA l j)) a n=true):Ev l nt i e j (N+1):=fun m hm=>by
 obtain⟨m,rfl⟩: ∃r,m=r+1:=⟨m - 1,by omega⟩
 show ntS l m (prs l m) nt i=_;rw[hn,x5v,h m (by omega),Rs.bind_ok]
 obtain⟨r,rfl⟩: ∃r,m=r+1:=⟨m - 1,by omega⟩
 rw[x2k,x7d,w7w ho]
def y7h {side nt:Nt}{a n o:Nat}(hn: ∀m,ntS l m (prs l m) nt i=x5v l m (prs l m) side a n i)(h:Ev l side i x j N)(h1:2<=N)(ho:z4y l j a n=some o)(h2:Ev l side (j+1) y k N)(hk:nO (tkT (tkA l k)) a n=true):Ev l nt i (x9u o x y) k (N+1):=fun m hm=>by
 obtain⟨m,rfl⟩: ∃r,m=r+1:=⟨m - 1,by omega⟩
 show ntS l m (prs l m) nt i=_;rw[hn,x5v,h m (by omega),Rs.bind_ok]
 have h2:=h2 m (by omega)
 have hk:=w7w hk;generalize prs l m=p at h2;obtain⟨r,rfl⟩: ∃r,m=r+2:=⟨m - 2,by omega⟩
 rw[x2k,x7d,ho];simp only[h2];rw[x2k,x7d,hk]
def y7w (h:Ev l .sum i e j N)(ho:nO (tkT (tkA l j)) 11 6=true):Ev l .cmp i e j (N+1):=fun m hm=>by
 obtain⟨m,rfl⟩: ∃r,m=r+1:=⟨m - 1,by omega⟩
 show v6x l (prs l m) i=_;rw[v6x,h m (by omega),Rs.bind_ok,w7w ho]
def q3x {o:Nat}(h:Ev l .sum i x j N)(ho:z4y l j 11 6=some o)(h2:Ev l .sum (j+1) y k N):Ev l .cmp i (x9u o x y) k (N+1):=fun m hm=>by
 obtain⟨m,rfl⟩: ∃r,m=r+1:=⟨m - 1,by omega⟩
 show v6x l (prs l m) i=_;rw[v6x,h m (by omega),Rs.bind_ok,ho]
 simp only;rw[h2 m (by omega),Rs.bind_ok]
def y7v (h:Ev l .or i e j N)(ho:nT (tkT (tkA l j)) v9c=true):Ev l .fby i e j (N+1):=fun m hm=>by
 obtain⟨m,rfl⟩: ∃r,m=r+1:=⟨m - 1,by omega⟩
 show v6f l (prs l m) i=_;rw[v6f,h m (by omega),Rs.bind_ok,x7c (w:=bs [102,98,121]) ho]
def q3w (h:Ev l .or i x j N)(ho:tkT (tkA l j)=⟨1,v9c,0⟩)(h2:Ev l .fby (j+1) y k N):Ev l .fby i (ex 8 [x,y]) k (N+1):=fun m hm=>by
 obtain⟨m,rfl⟩: ∃r,m=r+1:=⟨m - 1,by omega⟩
 show v6f l (prs l m) i=_;rw[v6f,h m (by omega),Rs.bind_ok,y9i,ho,show y6n ⟨1,v9c,0⟩ (tb (bs [102,98,121]))=true from rfl]
 simp only;rw[h2 m (by omega),Rs.bind_ok]
def x9c (h:Ev l .fby i e j N)(ho:nT (tkT (tkA l j)) [45,62]=true):Ev l .arrow i e j (N+1):=fun m hm=>by
 obtain⟨m,rfl⟩: ∃r,m=r+1:=⟨m - 1,by omega⟩
 show y1d l (prs l m) i=_;rw[y1d,h m (by omega),Rs.bind_ok,x7c (w:=bs [45,62]) ho]
def v8g (h:Ev l .fby i x j N)(ho:tkT (tkA l j)=⟨5,[45,62],0⟩)(h2:Ev l .arrow (j+1) y k N):Ev l .arrow i (ex 9 [x,y]) k (N+1):=fun m hm=>by
 obtain⟨m,rfl⟩: ∃r,m=r+1:=⟨m - 1,by omega⟩
 show y1d l (prs l m) i=_;rw[y1d,h m (by omega),Rs.bind_ok,y9i,ho,show y6n ⟨5,[45,62],0⟩ (tb (bs [45,62]))=true from rfl]
 simp only;rw[h2 m (by omega),Rs.bind_ok]
def x1t {a b:Bool}(h:(a&&b)=true):a=true:=(a0g _ _▸h).1
def y1x {a b:Bool}(h:(a&&b)=true):b=true:=(a0g _ _▸h).2
def y7x (h:Ev l .un i e j N)(h1:1<=N)(hf:f4 (tkT (tkA l j))=true):Ev l .prod i e j (N+1):=z5h (fun _=>rfl) h h1 (y1x hf)
def u1r (h:Ev l .prod i e j N)(h1:1<=N)(hf:f5 (tkT (tkA l j))=true):Ev l .sum i e j (N+1):=z5h (fun _=>rfl) h h1 (y1x hf)
def u1s (h:Ev l .cmp i e j N)(h1:1<=N)(hf:f7 (tkT (tkA l j))=true):Ev l .and i e j (N+1):=z5h (fun _=>rfl) h h1 (y1x hf)
def w6p (h:Ev l .and i e j N)(h1:1<=N)(hf:f8 (tkT (tkA l j))=true):Ev l .or i e j (N+1):=z5h (fun _=>rfl) h h1 (y1x hf)
def q1o (h:Ev l .un i e j N)(h1:1<=N): ∀nt,foB nt (tkT (tkA l j))=true->nt≠ .atom->nt≠ .post->Ev l nt i e j (N+9)
 | .un,_,_,_=>h.mono (by omega)
 | .prod,hf,_,_=>(y7x h h1 hf).mono (by omega)
 | .sum,hf,_,_=>(u1r (y7x h h1 (x1t hf)) (by omega) hf).mono (by omega)
 | .cmp,hf,_,_=>(y7w (u1r (y7x h h1 (x1t (x1t hf))) (by omega) (x1t hf)) (y1x hf)).mono (by omega)
 | .and,hf,_,_=>(u1s (y7w (u1r (y7x h h1 (x1t (x1t (x1t hf)))) (by omega) (x1t (x1t hf))) (y1x (x1t hf))) (by omega) hf).mono (by omega)
 | .or,hf,_,_=>(w6p (u1s (y7w (u1r (y7x h h1 (x1t (x1t (x1t (x1t hf))))) (by omega) (x1t (x1t (x1t hf)))) (y1x (x1t (x1t hf)))) (by omega) (x1t hf)) (by omega) hf).mono (by omega)
 | .fby,hf,_,_=>(y7v (w6p (u1s (y7w (u1r (y7x h h1 (x1t (x1t (x1t (x1t (x1t hf)))))) (by omega) (x1t (x1t (x1t (x1t hf))))) (y1x (x1t (x1t (x1t hf))))) (by omega) (x1t (x1t hf))) (by omega) (x1t hf)) (y1x hf)).mono (by omega)
 | .arrow,hf,_,_=>(x9c (y7v (w6p (u1s (y7w (u1r (y7x h h1 (x1t (x1t (x1t (x1t (x1t (x1t hf))))))) (by omega) (x1t (x1t (x1t (x1t (x1t hf)))))) (y1x (x1t (x1t (x1t (x1t hf)))))) (by omega) (x1t (x1t (x1t hf)))) (by omega) (x1t (x1t hf))) (y1x (x1t hf))) (y1x hf)).mono (by omega)
 | .atom,_,h,_=>(h rfl).elim
 | .post,_,_,h=>(h rfl).elim
def x6o: ∀nt,Ev l nt i e j N->1<=N->f10 (tkT (tkA l j))=true->nt≠ .atom->nt≠ .post->Ev l .arrow i e j (N+9)
 | .un,h,h1,hf,_,_=>q1o h h1 .arrow hf (by simp) (by simp)
 | .prod,h,h1,hf,_,_=>(x9c (y7v (w6p (u1s (y7w (u1r h h1 (x1t (x1t (x1t (x1t (x1t hf)))))) (y1x (x1t (x1t (x1t (x1t hf)))))) (by omega) (x1t (x1t (x1t hf)))) (by omega) (x1t (x1t hf))) (y1x (x1t hf))) (y1x hf)).mono (by omega)
 | .sum,h,h1,hf,_,_=>(x9c (y7v (w6p (u1s (y7w h (y1x (x1t (x1t (x1t (x1t hf)))))) (by omega) (x1t (x1t (x1t hf)))) (by omega) (x1t (x1t hf))) (y1x (x1t hf))) (y1x hf)).mono (by omega)
 | .cmp,h,h1,hf,_,_=>(x9c (y7v (w6p (u1s h (by omega) (x1t (x1t (x1t hf)))) (by omega) (x1t (x1t hf))) (y1x (x1t hf))) (y1x hf)).mono (by omega)
 | .and,h,h1,hf,_,_=>(x9c (y7v (w6p h (by omega) (x1t (x1t hf))) (y1x (x1t hf))) (y1x hf)).mono (by omega)
 | .or,h,h1,hf,_,_=>(x9c (y7v h (y1x (x1t hf))) (y1x hf)).mono (by omega)
 | .fby,h,h1,hf,_,_=>(x9c h (y1x hf)).mono (by omega)
 | .arrow,h,_,_,_,_=>h.mono (by omega)
 | .atom,_,_,_,h,_=>(h rfl).elim
 | .post,_,_,_,_,h=>(h rfl).elim
def AI (l:List Tk)(e:Ex)(i j L:Nat):Prop:= ∃base j0 k,k<=L/\(∀m,20*L<=m->prs l m .atom i= .ok base j0)/\ ∀m,20*L<=m-> ∀r,x2k (y0e l (prs l m)) (r+k) (base,j0)=x2k (y0e l (prs l m)) r (e,j)
def q5v {L:Nat}(h:Ev l .atom i e j (20*L)):AI l e i j L:=⟨e,j,0,a0t _,h,fun _ _ _=>rfl⟩
def q5u {L:Nat}(hL:1<=L)(h:AI l e i j L)(hf:f2 (tkT (tkA l j))=true):Ev l .post i e j (20*L+1):=fun m hm=>by
 obtain⟨base,j0,k,h1,h2,h3⟩:=h;obtain⟨m,rfl⟩: ∃r,m=r+1:=⟨m - 1,by omega⟩
 show y1t l m (prs l m) i=_;rw[y1t,h2 m (by omega),Rs.bind_ok]
 have h3:=h3 m (by omega) (m - k)
 rw[show m - k+k=m by omega]at h3
 rw[h3];obtain⟨r,hr⟩: ∃r,m - k=r+1:=⟨m - k - 1,by omega⟩
 have hf:=y1x hf;rw[hr,x2k,y0e,x7c (w:=bs [91]) (x1t hf),x7c (w:=bs [119,104,101,110]) (y1x hf)]
def k7q {L:Nat}(hL:1<=L)(h:AI l e i j L)(hs:u8q (tkT (tkA l i))=true)(nt:Nt)(hf:foB nt (tkT (tkA l j))=true)(hn:nt≠ .atom)(h2:f2 (tkT (tkA l j))=true):Ev l nt i e j (20*L+11):=by
 have hp:=q5u hL h h2
 by_cases he:nt= .post
 ·subst he;exact hp.mono (by omega)
 ·exact(q1o (q6m hp hs) (by omega) nt hf hn he).mono (by omega)
end
def k0p {t:T}: ∀ {nt:Nt},foB nt t=true->nt≠ .atom->f2 t=true
 | .atom,_,h=>(h rfl).elim
 | .post,h,_| .un,h,_=>h
 | .prod,h,_=>x1t h
 | .sum,h,_=>x1t (x1t h)
 | .cmp,h,_=>x1t (x1t (x1t h))
 | .and,h,_=>x1t (x1t (x1t (x1t h)))
 | .or,h,_=>x1t (x1t (x1t (x1t (x1t h))))
 | .fby,h,_=>x1t (x1t (x1t (x1t (x1t (x1t h)))))
 | .arrow,h,_=>x1t (x1t (x1t (x1t (x1t (x1t (x1t h))))))
def tL (x:Ex):Nat:=(fm (pcs x)).length
def v8y (l:List Tk)(x:Ex):Prop:= ∀i,Az l i (fm (pcs x))->f1 (tkT (tkA l (i+tL x)))=true->AI l x i (i+tL x) (tL x)
def Stx (x:Ex):Prop:= ∃t r,fm (pcs x)=t::r/\u8q t=true
section
variable {l : List Tk} {i j k N M n : Nat} {e x y z : Ex} {p : PR}
def Stx.pos (h:Stx x):1<=tL x:=by
 obtain⟨t,r,h,_⟩:=h;unfold tL;rw[h];simp
def Stx.at (h:Stx x)(ha:Az l i (fm (pcs x))):u8q (tkT (tkA l i))=true:=by
 obtain⟨t,r,h,hs⟩:=h;rw[h]at ha;rw[ha.1];exact hs
def x8d (hg:v8y l x)(hs:Stx x)(nt:Nt)(hn:nt≠ .atom)(ha:Az l i (fm (pcs x)))(hf:foB nt (tkT (tkA l (i+tL x)))=true):Ev l nt i x (i+tL x) (20*tL x+11):=by
 have h2:=k0p hf hn;exact k7q hs.pos (hg i ha (x1t h2)) (hs.at ha) nt hf hn h2
def x0s {t:T}(h:tkT (tkA l i)=t)(w:BA){b:Bool}(hb:y6n t (tb w)=b):isT l i w=b:=by rw[y9i,h,hb]
def z1i {t:T}(h:tkT (tkA l i)=t)(h3:decide (t.k=3)=false)(h2:decide (t.k=2)=false)(h4:decide (t.k=4)=false):x8h l n p i=x7w l n p i:=by
 subst h;unfold x8h;rw[show decide ((tkA l i).k=3)=false from h3,show decide ((tkA l i).k=2)=false from h2,show decide ((tkA l i).k=4)=false from h4]
def v1k (h:tkT (tkA l i)=⟨5,[40],0⟩):x8h l n p i=x8m l p (i+1):=by
 rw[z1i h rfl rfl rfl];unfold x7w;rw[x0s h x6f (b:=false) rfl,x0s h x3q (b:=false) rfl,x0s h (bs [91]) (b:=false) rfl,x0s h (bs [40]) (b:=true) rfl]
def w6l (h:tkT (tkA l i)=⟨5,[91],0⟩):x8h l n p i=(y4t l n p (bs [93]) (i+1)).bind fun es j=> .ok (ex 14 es) j:=by
 rw[z1i h rfl rfl rfl];unfold x7w;rw[x0s h x6f (b:=false) rfl,x0s h x3q (b:=false) rfl,x0s h (bs [91]) (b:=true) rfl]
def u8i (h:tkT (tkA l i)=⟨1,y5w,0⟩):x8h l n p i=y0a l n p (i+1):=by
 rw[z1i h rfl rfl rfl];unfold x7w;rw[x0s h x6f (b:=false) rfl,x0s h x3q (b:=false) rfl,x0s h (bs [91]) (b:=false) rfl,x0s h (bs [40]) (b:=false) rfl,x0s h (bs [109,101,114,103,101]) (b:=true) rfl]
def w6m (h:tkT (tkA l i)=⟨1,kIf,0⟩):x8h l n p i=x7g l p (i+1):=by
 rw[z1i h rfl rfl rfl];unfold x7w;rw[x0s h x6f (b:=false) rfl,x0s h x3q (b:=false) rfl,x0s h (bs [91]) (b:=false) rfl,x0s h (bs [40]) (b:=false) rfl,x0s h (bs [109,101,114,103,101]) (b:=false) rfl,x0s h (bs [105,102]) (b:=true) rfl]
def x5i {b w:List Nat}(hb:x3r b=true)(hw:x4r w=true):y6n ⟨1,b,0⟩ w=false:=by
 unfold y6n;have:b≠w:=fun h=>by
  have:=(x3b hb).2;rw[h,hw]at this;cases this
 simp only[decide_eq_false this,Bool.false_and]
def x7n {b:List Nat}{c:Nat}(hb:x3r b=true)(hc:x1u c=false):y6n ⟨1,b,0⟩ [c]=false:=by
 unfold y6n;have:b≠[c]:=fun h=>by
  have:=(x3a (x3b hb).1).2.1;rw[h]at this;simp only[List.getD_cons_zero]at this;rw[hc]at this;cases this
 simp only[decide_eq_false this,Bool.false_and]
def y7t {b:List Nat}(h:tkT (tkA l i)=⟨1,b,0⟩)(hb:x3r b=true):x8h l n p i=(match isT l (i+1) (bs [40])with
  |true=>y3x l n p (tkA l i).s (i+2)
  |false=> .ok (.mk 3 0 (tkA l i).s 0 [] []) (i+1)):=by
 rw[z1i h rfl rfl rfl];unfold x7w;have hn:x4l l i= .ok (tkA l i).s (i+1):=by
  unfold x4l;have h1:(tkA l i).k=1:=congrArg T.k h;have h2:tb (tkA l i).s=b:=congrArg T.b h;rw[h1,h2,(x3b hb).2];rfl
 rw[x0s h x6f (x5i hb rfl),x0s h x3q (x5i hb rfl),x0s h (bs [91]) (x7n hb rfl),x0s h (bs [40]) (x7n hb rfl),x0s h (bs [109,101,114,103,101]) (x5i hb rfl),x0s h (bs [105,102]) (x5i hb rfl),hn];rfl
def y3e {w:BA}{t:T}(h:tkT (tkA l i)=t)(hw:y6n t (tb w)=true)(ws:List BA):x2b l (w::ws) i=x2b l ws (i+1):=by
 rw[x2b,x0s h w hw]
def y4s:x2b l [] i= .ok () i:=rfl
def x5r (h: ∀m,N<=m->x8h l m (prs l m) i= .ok e j):Ev l .atom i e j (N+1):=fun m hm=>by
 obtain⟨m,rfl⟩: ∃r,m=r+1:=⟨m - 1,by omega⟩
 exact h m (by omega)
def rnd (h0:tkT (tkA l i)=⟨5,[40],0⟩)(h:Ev l .arrow (i+1) e j N)(h1:tkT (tkA l j)=⟨5,[41],0⟩):Ev l .atom i e (j+1) (N+1):=x5r fun m hm=>by
 rw[v1k h0,x8m,h m hm,Rs.bind_ok,x0s h1 (bs [119,105,116,104]) (b:=false) rfl];simp only;rw[y3e h1 rfl,y4s,Rs.bind_ok]
def z1h (h:Ev l .atom i e j N)(h1:1<=N)(hf:f2 (tkT (tkA l j))=true):Ev l .post i e j (N+1):=fun m hm=>by
 obtain⟨m,rfl⟩: ∃r,m=r+1:=⟨m - 1,by omega⟩
 show y1t l m (prs l m) i=_;rw[y1t,h m (by omega),Rs.bind_ok]
 obtain⟨r,rfl⟩: ∃r,m=r+1:=⟨m - 1,by omega⟩
 have hf:=y1x hf;rw[x2k,y0e,x7c (w:=bs [91]) (x1t hf),x7c (w:=bs [119,104,101,110]) (y1x hf)]
def y1k (h:Ev l .post i e j N)(hs:u8q (tkT (tkA l i))=true)(hf:f10 (tkT (tkA l j))=true):Ev l .arrow i e j (N+10):=q1o (q6m h hs) (by omega) .arrow hf (by simp) (by simp)
def q6p (h0:tkT (tkA l i)=⟨5,[45],0⟩)(h:Ev l .un (i+1) x j N):Ev l .un i (.mk 5 0 (bs []) 1 [] [x]) j (N+1):=fun m hm=>by
 obtain⟨m,rfl⟩: ∃r,m=r+1:=⟨m - 1,by omega⟩
 show unS l (prs l m) i=_;rw[unS,x0s h0 (bs [45]) (b:=true) rfl];simp only;rw[h m (by omega),Rs.bind_ok]
def q6o (h0:tkT (tkA l i)=⟨1,v1h,0⟩)(h:Ev l .un (i+1) x j N):Ev l .un i (.mk 5 0 (bs []) 2 [] [x]) j (N+1):=fun m hm=>by
 obtain⟨m,rfl⟩: ∃r,m=r+1:=⟨m - 1,by omega⟩
 show unS l (prs l m) i=_;rw[unS,x0s h0 (bs [45]) (b:=false) rfl,x0s h0 (bs [110,111,116]) (b:=true) rfl];simp only;rw[h m (by omega),Rs.bind_ok]
def q6n (h0:tkT (tkA l i)=⟨1,w4t,0⟩)(h:Ev l .un (i+1) x j N):Ev l .un i (ex 10 [x]) j (N+1):=fun m hm=>by
 obtain⟨m,rfl⟩: ∃r,m=r+1:=⟨m - 1,by omega⟩
 show unS l (prs l m) i=_;rw[unS,x0s h0 (bs [45]) (b:=false) rfl,x0s h0 (bs [110,111,116]) (b:=false) rfl,x0s h0 (bs [112,114,101]) (b:=true) rfl];simp only;rw[h m (by omega),Rs.bind_ok]
def k7d (h0:tkT (tkA l i)=⟨1,kIf,0⟩)(hx:Ev l .arrow (i+1) x j N)(h1:tkT (tkA l j)=⟨1,u2v,0⟩)(hy:Ev l .arrow (j+1) y k N)(h2:tkT (tkA l k)=⟨1,u2x,0⟩)(hz:Ev l .arrow (k+1) z M N):Ev l .atom i (ex 7 [x,y,z]) M (N+1):=x5r fun m hm=>by
 rw[w6m h0,x7g,hx m hm,Rs.bind_ok,y3e h1 rfl,y4s,Rs.bind_ok,hy m hm,Rs.bind_ok,y3e h2 rfl,y4s,Rs.bind_ok,hz m hm,Rs.bind_ok]
def w0d {q:Nat}(h0:tkT (tkA l i)=⟨5,[40],0⟩)(hx:Ev l .arrow (i+1) x j N)(h1:tkT (tkA l j)=⟨1,u2u,0⟩)(h2:tkT (tkA l (j+1))=⟨5,[91],0⟩)(hy:Ev l .arrow (j+2) y k N)(h3:tkT (tkA l k)=⟨5,[93],0⟩)(h4:tkT (tkA l (k+1))=⟨5,[61],0⟩)(hz:Ev l .arrow (k+2) z M N)(h5:tkT (tkA l M)=⟨5,[41],0⟩):Ev l .atom i (ex 16 [x,y,z]) (M+1) (N+1):=x5r fun m hm=>by
 rw[v1k h0,x8m,hx m hm,Rs.bind_ok,x0s h1 (bs [119,105,116,104]) (b:=true) rfl];simp only;rw[y3e h2 rfl,y4s,Rs.bind_ok,hy m hm,Rs.bind_ok,y3e h3 rfl,y3e h4 rfl,y4s,Rs.bind_ok,hz m hm,Rs.bind_ok,y3e h5 rfl,y4s,Rs.bind_ok]
def u6d (c:UInt8)(hc:c=41\/c=93)(m:Nat): ∀(u:List Ex) (es:List Ex) (i r:Nat),(∀x∈u,v8y l x/\Stx x/\20*tL x+11<=m)->Az l i (fm (y4c (x1v u))++[⟨5,[c.toNat],0⟩])->u.length+1<=r->
  x2k (y0x l (prs l m) (bs [c])) r (es,i)= .ok (es++u) (i+(fm (y4c (x1v u))).length+1)
 | [],es,i,r,_,ha,hr=>by
   obtain⟨r,rfl⟩: ∃q,r=q+1:=⟨r - 1,by omega⟩
   have ha:=ha.1;have h44:y6n ⟨5,[c.toNat],0⟩ (tb (bs [44]))=false:=by rcases hc with rfl|rfl<;>rfl
   have hcc:y6n ⟨5,[c.toNat],0⟩ (tb (bs [c]))=true:=by rcases hc with rfl|rfl<;>rfl
   rw[x2k,y0x,x0s ha (bs [44]) h44];simp only;rw[y3e ha hcc,y4s,Rs.bind_ok,a0y];rfl
 |x::u,es,i,r,h,ha,hr=>by
  obtain⟨r,rfl⟩: ∃q,r=q+1:=⟨r - 1,by omega⟩
  obtain⟨g1,g2,g3⟩:=h x a0v;have e:fm (y4c (x1v (x::u)))=⟨5,[44],0⟩::(fm (pcs x)++fm (y4c (x1v u))):=by
   simp only[x1v,y4c,a0d,a0h,mk,x2a,x2r,x2g]
  rw[e,a0d,x1d,List.append_assoc,x2q]at ha;obtain⟨a1,a2,a3⟩:=ha;have hf:f10 (tkT (tkA l (i+1+tL x)))=true:=by
   match u,a3 with
   | [],a3=>
     have:=a3.1;show f10 (tkT (tkA l (i+1+(fm (pcs x)).length)))=true;rw[this];rcases hc with rfl|rfl<;>rfl
   |y::u,a3=>
    have:=a3.1;show f10 (tkT (tkA l (i+1+(fm (pcs x)).length)))=true;rw[this];rfl
  have hx:=x8d g1 g2 .arrow (by simp) a2 hf m g3
  have ih:=u6d c hc m u (es++[x]) (i+1+tL x) r (fun y hy=>h y (a0w _ hy)) a3 (by simp only[a0b]at hr;omega)
  rw[x2k,y0x,x0s a1 (bs [44]) (b:=true) rfl];simp only;rw[hx];simp only;rw[ih,e];simp only[List.append_assoc,List.singleton_append,a0b,a0j,tL];congr 1;omega
def v4m (c:UInt8)(hc:c=41\/c=93)(m:Nat)(x:Ex)(u:List Ex)(i:Nat)(h: ∀y∈x::u,v8y l y/\Stx y/\20*tL y+11<=m)(ha:Az l i (fm (x1w (x1v (x::u)))++[⟨5,[c.toNat],0⟩]))(hr:u.length+1<=n):
  y4t l n (prs l m) (bs [c]) i= .ok (x::u) (i+(fm (x1w (x1v (x::u)))).length+1):=by
 obtain⟨g1,g2,g3⟩:=h x a0v;have e:fm (x1w (x1v (x::u)))=fm (pcs x)++fm (y4c (x1v u)):=by simp only[x1v,x1w,x2g]
 rw[e,List.append_assoc,x2q]at ha;obtain⟨a2,a3⟩:=ha;have hf:f10 (tkT (tkA l (i+tL x)))=true:=by
  match u,a3 with
  | [],a3=>
    have:=a3.1;show f10 (tkT (tkA l (i+(fm (pcs x)).length)))=true;rw[this];rcases hc with rfl|rfl<;>rfl
  |y::u,a3=>
   have:=a3.1;show f10 (tkT (tkA l (i+(fm (pcs x)).length)))=true;rw[this];rfl
 have hx:=x8d g1 g2 .arrow (by simp) a2 hf m g3
 have ih:=u6d c hc m u [x] (i+tL x) n (fun y hy=>h y (a0w _ hy)) a3 hr
 rw[y4t,hx,Rs.bind_ok,ih,e];simp only[List.singleton_append,a0j,tL];congr 1;omega
def u5a: ∀u:List Ex,(∀x∈u,Stx x)->u.length<=(fm (y4c (x1v u))).length/\ ∀x∈u,tL x+1<=(fm (y4c (x1v u))).length
 | [],_=>⟨a0q _,by simp⟩
 |x::u,h=>by
  obtain⟨h1,h2⟩:=u5a u fun y hy=>h y (a0w _ hy)
  have e:fm (y4c (x1v (x::u)))=⟨5,[44],0⟩::(fm (pcs x)++fm (y4c (x1v u))):=by
   simp only[x1v,y4c,a0d,a0h,mk,x2a,x2r,x2g]
  rw[e];simp only[a0b,a0j];refine⟨by omega,fun y hy=> ?_⟩
  rcases a1n.1 hy with rfl|hy
  ·unfold tL;omega
  ·have:=h2 y hy;omega
def u6c (x:Ex)(u:List Ex)(h: ∀y∈x::u,Stx y):u.length+1<=(fm (x1w (x1v (x::u)))).length/\ ∀y∈x::u,tL y<=(fm (x1w (x1v (x::u)))).length:=by
 obtain⟨h1,h2⟩:=u5a u fun y hy=>h y (a0w _ hy)
 have hx:=(h x a0v).pos;have e:fm (x1w (x1v (x::u)))=fm (pcs x)++fm (y4c (x1v u)):=by simp only[x1v,x1w,x2g]
 rw[e];simp only[a0j];unfold tL at hx;refine⟨by omega,fun y hy=> ?_⟩
 rcases a1n.1 hy with rfl|hy
 ·unfold tL;omega
 ·have:=h2 y hy;omega
def z5c {b:List Nat}(h:tkT (tkA l i)=⟨1,b,0⟩)(hb:x3r b=true):x4l l i= .ok (tkA l i).s (i+1):=by
 unfold x4l;have h1:(tkA l i).k=1:=congrArg T.k h;have h2:tb (tkA l i).s=b:=congrArg T.b h;rw[h1,h2,(x3b hb).2];rfl
def v8q {a:BA}(ha:x9a a=true)(h:tkT (tkA l i)=⟨if x3h (tb a)then 2 else 1,tb a,0⟩):y1f l i=true/\(tkA l i).s=a/\isT l i (bs [110,111,116])=false:=by
 have hs:(tkA l i).s=a:=x3f (congrArg T.b h);have hk:(tkA l i).k=if x3h (tb a)then 2 else 1:=congrArg T.k h;unfold x9a at ha;refine⟨?_,hs,?_⟩
 ·unfold y1f;cases hh:x3h (tb a)with
  |true=>
   rw[hh,if_pos rfl]at hk;rw[hk];rfl
  |false=>
   rw[hh,a1e]at ha;rw[hh,if_neg (by decide)]at hk
   unfold isT;rw[hs,hk];rcases Bool.or_eq_true _ _▸ha with ha|ha<;>(rw[a0f ha];rfl)
 ·unfold isT;rw[hs,hk];cases hh:x3h (tb a)with
  |true=>simp
  |false=>
   rw[hh,a1e]at ha;rcases Bool.or_eq_true _ _▸ha with ha|ha<;>(rw[a0f ha];rfl)
def w5z {a:BA}(ha:x9a a=true)(h:tkT (tkA l i)=⟨if x3h (tb a)then 2 else 1,tb a,0⟩):z1j l i= .ok a (i+1):=by
 obtain⟨h1,h2,_⟩:=v8q ha h;unfold z1j;rw[h1,h2]
def v1m {s a:BA}(hs:x3r (tb s)=true)(ha:x9a a=true)(h:Az l i (fm (onP s a)))(h41:True):x6j l i= .ok (s,a) (i+(fm (onP s a)).length):=by
 unfold onP at h ⊢;split at h
 ·rename_i ht;rw[if_pos ht];have h0:tkT (tkA l i)=⟨1,tb s,0⟩:=h.1;have e:(tkA l i).s=s:=x3f (congrArg T.b h0);have hk:(tkA l i).k=1:=congrArg T.k h0;have hA:y1f l i=false:=by
   unfold y1f;rw[hk,x0s h0 x6f (x5i hs rfl),x0s h0 x3q (x5i hs rfl)];rfl
  unfold x6j;rw[x0s h0 (bs [110,111,116]) (x5i hs rfl),hA];simp only;rw[z5c h0 hs,Rs.bind_ok,e,show x6f=a from x3f (by rw[ht];rfl)]
  rfl
 ·rename_i ht;rw[if_neg ht];split at h
  ·rename_i hf;rw[if_pos hf];have h0:tkT (tkA l i)=⟨1,v1h,0⟩:=h.1;have h1:tkT (tkA l (i+1))=⟨1,tb s,0⟩:=h.2.1;have e:(tkA l (i+1)).s=s:=x3f (congrArg T.b h1);unfold x6j;rw[x0s h0 (bs [110,111,116]) (b:=true) rfl];simp only;rw[z5c h1 hs,Rs.bind_ok,e,show x3q=a from x3f (by rw[hf];rfl)]
   rfl
  ·rename_i hf;rw[if_neg hf];have h0:tkT (tkA l i)=⟨if x3h (tb a)then 2 else 1,tb a,0⟩:=h.1;have h1:tkT (tkA l (i+1))=⟨5,[40],0⟩:=h.2.1;have h2:tkT (tkA l (i+2))=⟨1,tb s,0⟩:=h.2.2.1;have h3:tkT (tkA l (i+3))=⟨5,[41],0⟩:=h.2.2.2.1;have e:(tkA l (i+2)).s=s:=x3f (congrArg T.b h2);obtain⟨q1,q2,q3⟩:=v8q ha h0;unfold x6j;rw[q3,q1];simp only;rw[w5z ha h0,Rs.bind_ok,y3e h1 rfl,y4s,Rs.bind_ok,z5c h2 hs,Rs.bind_ok,y3e h3 rfl,y4s,Rs.bind_ok,e];rfl
def v4h {ar:List BA}{es:List Ex}(r:Nat):x2k (x4o l p) (r+1) (ar,es,i,false)= .ok (ar,es) i:=rfl
def u5z (m:Nat): ∀(a:List BA) (u:List Ex) (ar:List BA) (es:List Ex) (i r:Nat),a.length=u.length->1<=a.length->a.all x9a=true->(∀x∈u,v8y l x/\Stx x/\20*tL x+11<=m)->Az l i (fm (x1g a (x1v u))++[⟨5,[41],0⟩])->a.length+1<=r->
  x2k (x4o l (prs l m)) r (ar,es,i+1,true)= .ok (ar++a,es++u) (i+(fm (x1g a (x1v u))).length)
 | [],_,_,_,_,_,_,h,_,_,_,_=>by simp at h
 |_::_,[],_,_,_,_,h,_,_,_,_,_=>by simp at h
 |a::at_,x::u,ar,es,i,r,hl,_,ha,h,hA,hr=>by
  obtain⟨r,rfl⟩: ∃q,r=q+1:=⟨r - 1,by omega⟩
  simp only[a1p,a0g]at ha;obtain⟨g1,g2,g3⟩:=h x a0v;have e:fm (x1g (a::at_) (x1v (x::u)))=⟨5,[40],0⟩::⟨if x3h (tb a)then 2 else 1,tb a,0⟩::⟨5,[45,62],0⟩::(fm (pcs x)++⟨5,[41],0⟩::fm (x1g at_ (x1v u))):=by
   simp only[x1v,x1g,a0d,a0h,mk,m2,v8s,x2a,x2r,x2g,List.append_assoc]
  rw[e]at hA;simp only[a0d,List.append_assoc]at hA;rw[x1d,x1d,x1d,x2q]at hA;obtain⟨a0,a1,a2,a3,a4,a5⟩:=hA;have hx:=x8d g1 g2 .arrow (by simp) a3 (by show f10 (tkT (tkA l (i+1+1+1+(fm (pcs x)).length)))=true;rw[a4];rfl) m g3
  have hx:prs l m .arrow (i+1+1+1)= .ok x (i+1+1+1+(fm (pcs x)).length):=hx;rw[x2k,x4o,w5z ha.1 a1,Rs.bind_ok,y3e a2 rfl,y4s,Rs.bind_ok,hx,Rs.bind_ok,y3e a4 rfl,y4s,Rs.bind_ok,e];simp only
  match at_,u,hl,ha.2,a5,hr with
  | [],[],_,_,a5,hr=>
    have a5:=a5.1;rw[x0s a5 (bs [40]) (b:=false) rfl];simp only[a0b,a0e]at hr;obtain⟨r,rfl⟩: ∃q,r=q+1:=⟨r - 1,by omega⟩
    show x2k (x4o l (prs l m)) (r+1) (ar++[a],es++[x],i+1+1+1+(fm (pcs x)).length+1,false)=_;rw[v4h];simp only[x1g,fm,a0b,a0j,a0e];congr 1;omega
  |b::bt,y::v,hl,hb,a5,hr=>
   have ih:=u5z m (b::bt) (y::v) (ar++[a]) (es++[x]) (i+1+1+1+(fm (pcs x)).length+1) r (by simpa using hl) (by simp) hb (fun z hz=>h z (a0w _ hz)) a5 (by simp only[a0b]at hr ⊢;omega)
   have a6:tkT (tkA l (i+1+1+1+(fm (pcs x)).length+1))=⟨5,[40],0⟩:=by
    have e2:fm (x1g (b::bt) (x1v (y::v)))=⟨5,[40],0⟩::⟨if x3h (tb b)then 2 else 1,tb b,0⟩::⟨5,[45,62],0⟩::(fm (pcs y)++⟨5,[41],0⟩::fm (x1g bt (x1v v))):=by
     simp only[x1v,x1g,a0d,a0h,mk,m2,v8s,x2a,x2r,x2g,List.append_assoc]
    rw[e2]at a5;exact a5.1
   rw[x0s a6 (bs [40]) (b:=true) rfl];simp only;rw[ih];simp only[List.append_assoc,List.singleton_append,a0b,a0j];congr 1;omega
def z8m: ∀(a:List BA) (u:List Ex),a.length=u.length->a.length<=(fm (x1g a (x1v u))).length/\ ∀x∈u,tL x+4<=(fm (x1g a (x1v u))).length
 | [],[],_=>⟨a0t _,by simp⟩
 | [],_::_,h=>by simp at h
 |_::_,[],h=>by simp at h
 |a::at_,x::u,h=>by
  obtain⟨h1,h2⟩:=z8m at_ u (by simpa using h)
  have e:fm (x1g (a::at_) (x1v (x::u)))=⟨5,[40],0⟩::⟨if x3h (tb a)then 2 else 1,tb a,0⟩::⟨5,[45,62],0⟩::(fm (pcs x)++⟨5,[41],0⟩::fm (x1g at_ (x1v u))):=by
   simp only[x1v,x1g,a0d,a0h,mk,m2,v8s,x2a,x2r,x2g,List.append_assoc]
  rw[e];simp only[a0b,a0j];refine⟨by omega,fun y hy=> ?_⟩
  rcases a1n.1 hy with rfl|hy
  ·unfold tL;omega
  ·have:=h2 y hy;omega
end
end Go.Vm
end
