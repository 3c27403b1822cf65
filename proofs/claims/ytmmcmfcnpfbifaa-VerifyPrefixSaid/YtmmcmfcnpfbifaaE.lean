/-
  Part E of the proof. What is proved by the whole: the statement that the claim names, with no condition. This part: lemmas.
-/
import Derived.Test.YtmmcmfcnpfbifaaD
import Derived.Test.YtmmcmfcnpfbifaaChecked
set_option linter.unusedSimpArgs false
set_option linter.unusedVariables false

section
namespace Go.Vm
def look {α : Type} (d : α) : List (Nat × α) → Nat → α
  | [], _ => d
  | (k, x) :: r, n => match Nat.beq k n with
    | true => x
    | false => look d r n
def loopTab : List (Nat × List (Nat × LAn)) := [(4, [(0, { slots := [(1, none), (2, none), (5, none), (7, none)] })]),
  (5, [(0, { slots := [(1, none), (7, none), (9, none), (10, none), (11, none)] })]),
  (8, [(0, { slots := [(0, none), (1, none), (5, none)] })]),
  (12, [(2, { slots := [(1, none), (6, none), (7, none), (8, none), (12, none), (36, none), (37, none), (38, none), (79, none), (80, none), (81, none)] }), (0, { slots := [(1, none), (6, none), (7, none), (36, none), (37, none), (38, none)] })]),
  (13, [(2, { slots := [(1, none), (2, none), (6, none), (7, none), (8, none), (10, none), (12, none), (13, none)] }), (0, { slots := [(1, none), (2, none), (6, none), (7, none), (8, none)] })]),
  (15, [(2, { slots := [(1, none), (4, none)] }), (0, { slots := [(1, none), (3, none)] })]),
  (17, [(2, { slots := [(3, none), (4, none), (19, none), (20, none), (21, none)] })]),
  (18, [(2, { slots := [(0, none), (3, none), (4, none), (5, none), (6, none), (7, none), (8, none)] }), (0, { slots := [(0, none), (3, none), (4, none)] })]),
  (19, [(0, { slots := [(0, none), (1, none), (5, none)] })]),
  (22, [(0, { slots := [(1, none), (2, none), (5, none)] })]),
  (23, [(0, { slots := [(0, none), (1, none), (2, none), (9, none), (10, none)] })]),
  (24, [(0, { slots := [(0, none), (3, none)] })]),
  (25, [(2, { slots := [(0, none), (3, none), (4, none)] }), (0, { slots := [(0, none), (3, none)] })]),
  (26, [(0, { slots := [(0, none), (3, none)] })]),
  (29, [(6, { slots := [(1, none), (2, none), (3, none), (6, none), (63, none), (64, none), (65, none)] }), (4, { slots := [(1, none), (2, none), (3, none), (6, none), (47, none), (48, none), (49, none)] }), (2, { slots := [(1, none), (2, none), (3, none), (6, none), (31, none), (32, none), (33, none)] }), (0, { slots := [(1, none), (2, none), (3, none), (14, none), (15, none), (16, none)] })]),
  (30, [(6, { slots := [(1, none), (2, none), (3, none), (7, none)] }), (4, { slots := [(1, none), (2, none), (3, none), (6, none)] }), (2, { slots := [(1, none), (2, none), (3, none), (5, none)] }), (0, { slots := [(1, none), (2, none), (3, none), (4, none)] })]),
  (34, [(0, { slots := [(0, none), (1, none), (12, none), (13, none)] })]),
  (37, [(0, { slots := [(0, none), (1, none), (5, none)] })]),
  (45, [(2, { slots := [(0, none), (3, none), (4, none), (5, none)] }), (0, { slots := [(0, none), (3, none)] })]),
  (48, [(0, { slots := [(0, none), (1, none), (5, none), (6, none)] })]),
  (51, [(0, { slots := [(1, none), (2, none), (6, none), (8, none), (9, none), (10, none), (54, none), (55, none), (56, none)] })]),
  (53, [(0, { slots := [(0, none), (1, none), (5, none)] })]),
  (54, [(0, { slots := [(1, none), (2, none), (4, none), (5, none)] })]),
  (57, [(0, { slots := [(0, none), (3, none), (5, none)] })]),
  (75, [(0, { slots := [(0, none), (1, none), (7, none), (8, none)] })]),
  (76, [(0, { slots := [(0, none), (1, none), (4, none), (5, none)] })]),
  (79, [(0, { slots := [(0, none), (5, none), (6, none), (7, none)] })]),
  (86, [(0, { slots := [(5, none), (7, none), (8, none), (26, none), (27, none), (28, none)] })]),
  (87, [(0, { slots := [(3, none), (6, none), (7, none), (8, none)] })]),
  (88, [(2, { slots := [(2, none), (5, none), (6, none), (7, none), (8, none), (30, none), (31, none)] }), (0, { slots := [(2, none), (6, none), (7, none), (8, none)] })]),
  (89, [(0, { slots := [(1, none), (7, none), (8, none), (9, none)] })]),
  (91, [(0, { slots := [(3, none), (6, none), (7, none), (8, none)] })]),
  (94, [(2, { slots := [(6, none), (25, none), (26, none), (27, none)] }), (0, { slots := [(0, none), (3, none), (9, none), (10, none), (11, none)] })]),
  (102, [(0, { slots := [(1, none), (2, none), (3, none), (7, none)] })]),
  (103, [(0, { slots := [(1, none), (2, none), (3, none), (7, none)] })]),
  (105, [(0, { slots := [(0, none), (1, none), (2, none), (3, none), (8, none), (9, none)] })]),
  (109, [(0, { slots := [(2, none), (5, none), (20, none), (21, none), (22, none)] })]),
  (112, [(0, { slots := [(2, none), (5, none), (6, none), (7, none), (18, none), (19, none), (20, none)] })]),
  (113, [(0, { slots := [(3, none), (8, none), (9, none), (10, none)] })]),
  (114, [(0, { slots := [(2, none), (3, none), (4, none), (18, none), (19, none), (20, none)] })]),
  (115, [(4, { slots := [(55, none), (56, none), (57, none)] }), (2, { slots := [(2, none), (4, none), (45, none), (46, none), (47, none)] }), (0, { slots := [(2, none), (3, none), (4, none), (12, none), (13, none), (14, none)] })]),
  (119, [(2, { slots := [(0, none), (1, none), (2, none), (6, none), (7, none)] }), (0, { slots := [(0, none), (1, none), (2, none), (6, none)] })]),
  (120, [(2, { slots := [(0, none), (6, none), (7, none), (10, none)] }), (0, { slots := [(0, none), (6, none), (7, none), (8, none), (9, none)] })]),
  (121, [(0, { slots := [(0, none), (1, none), (6, none), (7, none), (8, none), (9, none)] })]),
  (123, [(0, { slots := [(0, none), (6, none), (7, none)] })]),
  (124, [(6, { slots := [(0, none), (1, none), (2, none), (7, none), (8, none), (10, none)] }), (4, { slots := [(0, none), (1, none), (2, none), (7, none), (8, none), (9, none)] }), (2, { slots := [(0, none), (1, none), (2, none), (7, none), (8, none)] }), (0, { slots := [(0, none), (1, none), (2, none), (7, none), (8, none)] })]),
  (126, [(4, { slots := [(0, none), (1, none), (9, none), (10, none)] }), (2, { slots := [(0, none), (1, none), (9, none), (10, none)] }), (0, { slots := [(0, none), (1, none), (9, none), (10, none)] })]),
  (127, [(8, { slots := [(0, none), (1, none), (10, none), (11, none)] }), (6, { slots := [(0, none), (1, none), (10, none), (11, none)] }), (4, { slots := [(0, none), (1, none), (10, none), (11, none)] }), (2, { slots := [(0, none), (1, none), (10, none), (11, none)] }), (0, { slots := [(0, none), (1, none), (10, none), (11, none)] })]),
  (132, [(0, { slots := [(3, none), (6, none), (7, none), (8, none)] })]),
  (134, [(0, { slots := [(1, none), (2, none), (6, none), (22, none), (23, none), (51, none)] })]),
  (139, [(0, { slots := [(0, none), (1, none), (5, none), (6, none), (9, none), (10, none)] })]),
  (141, [(0, { slots := [(1, none), (5, none), (10, none), (11, none)] })]),
  (146, [(1, { slots := [(2, none), (4, none), (5, none), (59, none), (60, none)] })]),
  (148, [(0, { slots := [(0, none), (2, none), (3, none), (8, none)] })]),
  (158, [(2, { slots := [(6, none), (25, none), (26, none), (27, none)] }), (0, { slots := [(0, none), (3, none), (9, none), (10, none), (11, none)] })]),
  (159, [(0, { slots := [(0, none), (1, none), (7, none), (8, none)] })]),
  (161, [(0, { slots := [(0, none), (1, none), (12, none), (13, none)] })]),
  (167, [(2, { slots := [(2, none), (4, none), (72, none), (73, none), (74, none)] }), (0, { slots := [(2, none), (3, none), (4, none), (39, none), (40, none), (41, none)] })]),
  (169, [(0, { slots := [(2, none), (4, none), (5, none), (7, none), (10, none), (11, none)] })]),
  (173, [(0, { slots := [(0, none), (6, none), (7, none), (8, none)] })]),
  (174, [(0, { slots := [(0, none), (2, none), (12, none), (13, none), (14, none)] })]),
  (177, [(0, { slots := [(2, none), (3, none), (4, none), (6, none), (14, none), (15, none), (16, none)] })]),
  (179, [(2, { slots := [(91, none), (92, none), (93, none)] }), (0, { slots := [(2, none), (4, none), (5, none), (7, none), (8, none), (9, none), (10, none), (31, none), (32, none), (33, none)] })]),
  (180, [(1, { slots := [(2, none), (4, none), (8, none), (50, none), (51, none), (52, none)] })]),
  (181, [(2, { slots := [(2, none), (3, none), (6, none), (8, none), (23, none), (24, none), (25, none), (35, none), (36, none), (37, none)] }), (0, { slots := [(2, none), (3, none), (6, none), (23, none), (24, none), (25, none)] })]),
  (182, [(0, { slots := [(0, none), (1, none), (7, none), (8, none)] })]),
  (185, [(1, { slots := [(2, none), (18, none), (19, none), (20, none)] })])]
def inlTab : List (Nat × List Nat) := [(94, [116])]
def mintTab : List (Nat × List Nat) := []
def cutTab : List (Nat × List (Nat × Option LAn)) := []
def noLAn : LAn := { slots := [] }
def cs : FuncId → CfgT := fun f => { o := { inl := look [] inlTab f, mint := look [] mintTab f }, loops := look noLAn (look [] loopTab f), cuts := look none (look [] cutTab f) }
end Go.Vm
end

section
namespace Go.Vm
open Go.Proofs
noncomputable def cF (f : FuncId) (args : List V) : Option PRes := callF Try.prog cs f args
noncomputable def eF : Env := envF (callF Try.prog cs)
theorem eF_call (f : FuncId) (args : List V) : eF.call f args = cF f args := rfl
theorem eF_lp {α : Type} (b : List D → Option (List D ⊕ α)) (ds : List D) : eF.lp b ds = loopF b ds := rfl
theorem cOf {f : FuncId} {args : List V} {p : PRes} (hg : goodF Try.prog f = true) (h : (funT sy Try.prog cs f args).run eF = some p) : cF f args = some p := callF_of hg h
theorem cOfE {α : Type} {f : FuncId} {args : List V} {p : α → PRes} (hg : goodF Try.prog f = true) (h : ∃ x, (funT sy Try.prog cs f args).run eF = some (p x)) : ∃ x, cF f args = some (p x) := h.imp fun _ h => callF_of hg h
theorem cOfP {f : FuncId} {args : List V} {Q : PRes → Prop} (hg : goodF Try.prog f = true) (h : ∃ p, (funT sy Try.prog cs f args).run eF = some p ∧ Q p) : ∃ p, cF f args = some p ∧ Q p := h.imp fun _ h => ⟨callF_of hg h.1, h.2⟩
theorem some_and {α : Type} {a : α} {Q : α → Prop} : (∃ p, some a = some p ∧ Q p) ↔ Q a := by simp
theorem decT {p : Prop} [Decidable p] (h : p) : decide p = true := decide_eq_true h
theorem decF {p : Prop} [Decidable p] (h : ¬ p) : decide p = false := decide_eq_false h
theorem irows_cell {la : List Int} {i : Int} (h0 : 0 ≤ i) (h1 : i < (la.length : Int)) : sy.cell (sy.row (irows la) i) 0 = some (.int .i64 (la.getD i.toNat 0)) := by
  rw [sy_row, irows_get _ _ (by omega)]; rfl
theorem irows_at {la : List Int} {i : Nat} {x : Int} (h : la[i]? = some x) : sy.cell (sy.row (irows la) (i : Int)) 0 = some (.int .i64 x) := by
  obtain ⟨h1, h2⟩ := getElem?_some_getD (d := 0) h
  rw [irows_cell (by omega) (by omega), Int.toNat_natCast, h1]
theorem inr_at {i n : Nat} (h : i < n) : decide (0 ≤ (i : Int) ∧ (i : Int) < (n : Int)) = true := decide_eq_true ⟨by omega, by omega⟩
theorem ilt_at {i n : Nat} (h : i < n) : decide ((i : Int) < (n : Int)) = true := decide_eq_true (by omega)
theorem ilt_self (n : Nat) : decide ((n : Int) < (n : Int)) = false := decide_eq_false (by omega)
theorem wrap_succ {i n : Nat} (h : i < n) (hn : n ≤ 1000000000000) : IntKind.i64.wrap ((i : Int) + 1) = (i : Int) + 1 := wrap_id (by omega) (by omega)
theorem mixedOrders : Try.prog.follows .mixedOrders = true := by kernel_rfl
end Go.Vm
end

section
set_option maxRecDepth 100000
namespace Go.Vm
open Go.Proofs
def g10 (A : Sy) (E : Env) (s_0 : List (List D)) (s_1 : List (List D)) (s_2 : Int) (s_3 : Int) : Option PRes :=
  cutO (
    bif (A.ile (A.rlen s_0) 10) then
      some (.inl [(D.bool (A.ile (A.rlen s_1) 1100))])
    else
      some (.inl [(D.bool false)])
  ) fun ds1 =>
  (opB (A.cell ds1 0)).bind fun b2 =>
  some (PRes.val [(D.bool b2)])
theorem g10_eq (A : Sy) (E : Env) (s_0 : List (List D)) (s_1 : List (List D)) (s_2 : Int) (s_3 : Int) : (funT A Try.prog cs 10 [V.agg [V.d (D.sl 1 s_0), V.d (D.sl 1 s_1), V.d (D.int IntKind.i64 s_2), V.d (D.int IntKind.i64 s_3)]]).run E = g10 A E s_0 s_1 s_2 s_3 := by kernel_rfl
def g14 (A : Sy) (E : Env) (x_0 : List (List D)) (x_1 : List (List D)) (x_2 : Int) (x_3 : Int) : Option PRes :=
  cutO (
    bif (A.ilt 4 (A.rlen x_0)) then
      some (.inl [(D.bool true)])
    else
      some (.inl [(D.bool (A.ilt 1000 (A.rlen x_1)))])
  ) fun ds1 =>
  (opB (A.cell ds1 0)).bind fun b2 =>
  cutO (
    bif b2 then
      some (.inl [(D.bool true)])
    else
      some (.inl [(D.bool (A.ilt x_2 0))])
  ) fun ds3 =>
  (opB (A.cell ds3 0)).bind fun b4 =>
  cutO (
    bif b4 then
      some (.inl [(D.bool true)])
    else
      some (.inl [(D.bool (A.ilt x_3 x_2))])
  ) fun ds5 =>
  (opB (A.cell ds5 0)).bind fun b6 =>
  cutO (
    bif b6 then
      some (.inl [(D.bool true)])
    else
      some (.inl [(D.bool (A.ilt (A.rlen x_1) x_3))])
  ) fun ds7 =>
  (opB (A.cell ds7 0)).bind fun b8 =>
  bif b8 then
    some (PRes.val [(D.bool false)])
  else
    (E.call 38 [(V.d (D.sl 1 x_0)), (V.fn 39 [])]).bind fun p9 =>
    (opB (A.cell p9.leaves 0)).bind fun b11 =>
    bif (A.bnot b11) then
      (E.call 38 [(V.d (D.sl 1 x_1)), (V.fn 40 [(V.pel [(D.sl 1 x_0), (D.sl 1 x_1), (D.int IntKind.i64 x_2), (D.int IntKind.i64 x_3)])])]).bind fun p12 =>
      (opB (A.cell p12.leaves 0)).bind fun b14 =>
      some (PRes.val [(D.bool (A.bnot b14))])
    else
      some (PRes.val [(D.bool false)])
theorem g14_eq (A : Sy) (E : Env) (x_0 : List (List D)) (x_1 : List (List D)) (x_2 : Int) (x_3 : Int) : (funT A Try.prog cs 14 [V.agg [V.d (D.sl 1 x_0), V.d (D.sl 1 x_1), V.d (D.int IntKind.i64 x_2), V.d (D.int IntKind.i64 x_3)]]).run E = g14 A E x_0 x_1 x_2 x_3 := by kernel_rfl
def g31 (A : Sy) (E : Env) (x_0 : Int) (x_1 : Int) (x_2 : Int) (x_3 : Int) : Option PRes :=
  (E.call 58 [(V.d (D.int IntKind.i64 x_0))]).bind fun p1 =>
  (opS (A.cell p1.leaves 0)).bind fun s3 =>
  (opB (A.cell p1.leaves 1)).bind fun b4 =>
  (opB (A.cell p1.leaves 2)).bind fun b5 =>
  (opB (A.cell p1.leaves 3)).bind fun b6 =>
  (opB (A.cell p1.leaves 4)).bind fun b7 =>
  (opB (A.cell p1.leaves 5)).bind fun b8 =>
  cutO (
    bif (A.bnot b8) then
      some (.inl [(D.bool true)])
    else
      (E.call 59 [(V.agg [(V.d (D.int IntKind.i64 x_0)), (V.d (D.int IntKind.i64 x_1)), (V.d (D.int IntKind.i64 x_2)), (V.d (D.int IntKind.i64 x_3))])]).bind fun p9 =>
      (opB (A.cell p9.leaves 0)).bind fun b11 =>
      some (.inl [(D.bool (A.bnot b11))])
  ) fun ds12 =>
  (opB (A.cell ds12 0)).bind fun b13 =>
  cutO (
    bif b13 then
      some (.inl [(D.bool true)])
    else
      bif (A.bnot b7) then
        some (.inl [(D.bool (A.bnot (A.ieq x_3 0)))])
      else
        some (.inl [(D.bool false)])
  ) fun ds14 =>
  (opB (A.cell ds14 0)).bind fun b15 =>
  bif b15 then
    some (PRes.val [(D.bool false)])
  else
    bif b6 then
      (E.call 60 [(V.d (D.int IntKind.i64 x_2)), (V.d (D.int IntKind.i64 1)), (V.d (D.int IntKind.i64 8))]).bind fun p16 =>
      (opB (A.cell p16.leaves 0)).bind fun b18 =>
      some (PRes.val [(D.bool b18)])
    else
      some (PRes.val [(D.bool (A.ieq x_2 0))])
theorem g31_eq (A : Sy) (E : Env) (x_0 : Int) (x_1 : Int) (x_2 : Int) (x_3 : Int) : (funT A Try.prog cs 31 [V.agg [V.d (D.int IntKind.i64 x_0), V.d (D.int IntKind.i64 x_1), V.d (D.int IntKind.i64 x_2), V.d (D.int IntKind.i64 x_3)]]).run E = g31 A E x_0 x_1 x_2 x_3 := by kernel_rfl
def g32 (A : Sy) (E : Env) (s_0 : List (List D)) (s_1 : List (List D)) (s_2 : Int) (s_3 : Int) (x_0 : Int) (x_1 : Int) (x_2 : Int) (x_3 : Int) (row_ : List (List D)) : Option PRes :=
  bif (A.ieq x_0 1) then
    (E.call 61 [(V.d (D.sl 1 row_)), (V.d (D.int IntKind.i64 0)), (V.d (D.sl 1 [[(D.int IntKind.i64 x_1)]]))]).bind fun p1 =>
    (opL (A.cell p1.leaves 0) 1).bind fun l3 =>
    (E.call 41 [(V.agg [(V.d (D.sl 1 s_0)), (V.d (D.sl 1 s_1)), (V.d (D.int IntKind.i64 s_2)), (V.d (D.int IntKind.i64 s_3))]), (V.d (D.int IntKind.i64 x_1))]).bind fun p4 =>
    (opB (A.cell p4.leaves 0)).bind fun b6 =>
    bif b6 then
      (E.call 62 [(V.agg [(V.d (D.sl 1 s_0)), (V.d (D.sl 1 s_1)), (V.d (D.int IntKind.i64 s_2)), (V.d (D.int IntKind.i64 s_3))]), (V.d (D.int IntKind.i64 x_1)), (V.d (D.int IntKind.i64 x_3))]).bind fun p7 =>
      (opB (A.cell p7.leaves 0)).bind fun b9 =>
      bif b9 then
        some (PRes.val [(D.sl 1 l3), (D.bool (A.ilt (A.rlen row_) 16))])
      else
        some (PRes.val [(D.sl 1 l3), (D.bool false)])
    else
      some (PRes.val [(D.sl 1 l3), (D.bool false)])
  else
    bif (A.ieq x_0 4) then
      (E.call 63 [(V.agg [(V.d (D.int IntKind.i64 x_0)), (V.d (D.int IntKind.i64 x_1)), (V.d (D.int IntKind.i64 x_2)), (V.d (D.int IntKind.i64 x_3))]), (V.d (D.sl 1 row_))]).bind fun p10 =>
      (opL (A.cell p10.leaves 0) 1).bind fun l12 =>
      (opB (A.cell p10.leaves 1)).bind fun b13 =>
      some (PRes.val [(D.sl 1 l12), (D.bool b13)])
    else
      bif (A.ieq x_0 5) then
        (E.call 63 [(V.agg [(V.d (D.int IntKind.i64 x_0)), (V.d (D.int IntKind.i64 x_1)), (V.d (D.int IntKind.i64 x_2)), (V.d (D.int IntKind.i64 x_3))]), (V.d (D.sl 1 row_))]).bind fun p14 =>
        (opL (A.cell p14.leaves 0) 1).bind fun l16 =>
        (opB (A.cell p14.leaves 1)).bind fun b17 =>
        some (PRes.val [(D.sl 1 l16), (D.bool b17)])
      else
        bif (A.ieq x_0 7) then
          (E.call 64 [(V.d (D.sl 1 row_)), (V.d (D.sl 1 [[(D.int IntKind.i64 2)]]))]).bind fun p18 =>
          (opB (A.cell p18.leaves 0)).bind fun b20 =>
          bif (A.bnot b20) then
            some (PRes.val [(D.sl 1 []), (D.bool false)])
          else
            (E.call 61 [(V.d (D.sl 1 row_)), (V.d (D.int IntKind.i64 1)), (V.d (D.sl 1 []))]).bind fun p21 =>
            (opL (A.cell p21.leaves 0) 1).bind fun l23 =>
            some (PRes.val [(D.sl 1 l23), (D.bool true)])
        else
          bif (A.ieq x_0 6) then
            some (PRes.val [(D.sl 1 row_), (D.bool true)])
          else
            bif (A.ieq x_0 10) then
              some (PRes.val [(D.sl 1 []), (D.bool (A.ieq (A.rlen row_) 0))])
            else
              (E.call 65 [(V.agg [(V.d (D.sl 1 s_0)), (V.d (D.sl 1 s_1)), (V.d (D.int IntKind.i64 s_2)), (V.d (D.int IntKind.i64 s_3))]), (V.agg [(V.d (D.int IntKind.i64 x_0)), (V.d (D.int IntKind.i64 x_1)), (V.d (D.int IntKind.i64 x_2)), (V.d (D.int IntKind.i64 x_3))]), (V.d (D.sl 1 row_))]).bind fun p24 =>
              (opL (A.cell p24.leaves 0) 1).bind fun l26 =>
              (opB (A.cell p24.leaves 1)).bind fun b27 =>
              some (PRes.val [(D.sl 1 l26), (D.bool b27)])
theorem g32_eq (A : Sy) (E : Env) (s_0 : List (List D)) (s_1 : List (List D)) (s_2 : Int) (s_3 : Int) (x_0 : Int) (x_1 : Int) (x_2 : Int) (x_3 : Int) (row_ : List (List D)) : (funT A Try.prog cs 32 [V.agg [V.d (D.sl 1 s_0), V.d (D.sl 1 s_1), V.d (D.int IntKind.i64 s_2), V.d (D.int IntKind.i64 s_3)], V.agg [V.d (D.int IntKind.i64 x_0), V.d (D.int IntKind.i64 x_1), V.d (D.int IntKind.i64 x_2), V.d (D.int IntKind.i64 x_3)], V.d (D.sl 1 row_)]).run E = g32 A E s_0 s_1 s_2 s_3 x_0 x_1 x_2 x_3 row_ := by kernel_rfl
def g33 (A : Sy) (E : Env) (code_ : List (List D)) (at_ : Int) : Option PRes :=
  bif (A.inr at_ (A.rlen code_)) then
    (opI (A.cell (A.row code_ at_) 0) IntKind.i64).bind fun n1 =>
    (opI (A.cell (A.row code_ at_) 1) IntKind.i64).bind fun n2 =>
    (opI (A.cell (A.row code_ at_) 2) IntKind.i64).bind fun n3 =>
    (opI (A.cell (A.row code_ at_) 3) IntKind.i64).bind fun n4 =>
    bif (A.ieq n1 10) then
      some (PRes.val [(D.sl 1 []), (D.bool (A.ieq at_ (A.wrap IntKind.i64 (A.sub (A.rlen code_) 1))))])
    else
      bif (A.ieq n1 6) then
        (E.call 38 [(V.d (D.sl 1 [[(D.int IntKind.i64 n2)]])), (V.fn 66 [(V.pel [(D.int IntKind.i64 at_)]), (V.pel [(D.sl 4 code_)])])]).bind fun p5 =>
        (opB (A.cell p5.leaves 0)).bind fun b7 =>
        some (PRes.val [(D.sl 1 [[(D.int IntKind.i64 n2)]]), (D.bool (A.bnot b7))])
      else
        bif (A.ieq n1 7) then
          (E.call 38 [(V.d (D.sl 1 [[(D.int IntKind.i64 (A.wrap IntKind.i64 (A.add at_ 1)))], [(D.int IntKind.i64 n2)]])), (V.fn 66 [(V.pel [(D.int IntKind.i64 at_)]), (V.pel [(D.sl 4 code_)])])]).bind fun p8 =>
          (opB (A.cell p8.leaves 0)).bind fun b10 =>
          some (PRes.val [(D.sl 1 [[(D.int IntKind.i64 (A.wrap IntKind.i64 (A.add at_ 1)))], [(D.int IntKind.i64 n2)]]), (D.bool (A.bnot b10))])
        else
          (E.call 38 [(V.d (D.sl 1 [[(D.int IntKind.i64 (A.wrap IntKind.i64 (A.add at_ 1)))]])), (V.fn 66 [(V.pel [(D.int IntKind.i64 at_)]), (V.pel [(D.sl 4 code_)])])]).bind fun p11 =>
          (opB (A.cell p11.leaves 0)).bind fun b13 =>
          some (PRes.val [(D.sl 1 [[(D.int IntKind.i64 (A.wrap IntKind.i64 (A.add at_ 1)))]]), (D.bool (A.bnot b13))])
  else
    none
theorem g33_eq (A : Sy) (E : Env) (code_ : List (List D)) (at_ : Int) : (funT A Try.prog cs 33 [V.d (D.sl 4 code_), V.d (D.int IntKind.i64 at_)]).run E = g33 A E code_ at_ := by kernel_rfl
def g34 (A : Sy) (E : Env) (s1_ : List (List D)) (s2_ : List (List D)) : Option PRes :=
  bif (A.bnot (A.ieq (A.rlen s1_) (A.rlen s2_))) then
    some (PRes.val [(D.bool false)])
  else
    E.lp (fun ds1 =>
      (opL (A.cell ds1 0) 1).bind fun l2 =>
      (opL (A.cell ds1 1) 1).bind fun l3 =>
      (opI (A.cell ds1 2) IntKind.i64).bind fun n4 =>
      (opI (A.cell ds1 3) IntKind.i64).bind fun n5 =>
      bif (A.ilt n5 n4) then
        bif (A.inr n5 (A.rlen l2)) then
          (opI (A.cell (A.row l2 n5) 0) IntKind.i64).bind fun n6 =>
          bif (A.inr n5 (A.rlen l3)) then
            (opI (A.cell (A.row l3 n5) 0) IntKind.i64).bind fun n7 =>
            bif (A.bnot (A.ieq n6 n7)) then
              some (.inr (PRes.val [(D.bool false)]))
            else
              some (.inl [(D.sl 1 l2), (D.sl 1 l3), (D.int IntKind.i64 n4), (D.int IntKind.i64 (A.wrap IntKind.i64 (A.add n5 1)))])
          else
            none
        else
          none
      else
        some (.inr (PRes.val [(D.bool true)]))
    ) [(D.sl 1 s1_), (D.sl 1 s2_), (D.int IntKind.i64 (A.rlen s1_)), (D.int IntKind.i64 0)]
theorem g34_eq (A : Sy) (E : Env) (s1_ : List (List D)) (s2_ : List (List D)) : (funT A Try.prog cs 34 [V.d (D.sl 1 s1_), V.d (D.sl 1 s2_)]).run E = g34 A E s1_ s2_ := by kernel_rfl
def g39 (A : Sy) (E : Env) (n_ : Int) : Option PRes :=
  some (PRes.val [(D.bool (A.ilt n_ 1))])
theorem g39_eq (A : Sy) (E : Env) (n_ : Int) : (funT A Try.prog cs 39 [V.d (D.int IntKind.i64 n_)]).run E = g39 A E n_ := by kernel_rfl
def g41 (A : Sy) (E : Env) (s_0 : List (List D)) (s_1 : List (List D)) (s_2 : Int) (s_3 : Int) (k_ : Int) : Option PRes :=
  cutO (
    bif (A.ile 1 k_) then
      some (.inl [(D.bool (A.ilt k_ (A.wrap IntKind.i64 (A.add 3 (A.rlen s_0)))))])
    else
      some (.inl [(D.bool false)])
  ) fun ds1 =>
  (opB (A.cell ds1 0)).bind fun b2 =>
  some (PRes.val [(D.bool b2)])
theorem g41_eq (A : Sy) (E : Env) (s_0 : List (List D)) (s_1 : List (List D)) (s_2 : Int) (s_3 : Int) (k_ : Int) : (funT A Try.prog cs 41 [V.agg [V.d (D.sl 1 s_0), V.d (D.sl 1 s_1), V.d (D.int IntKind.i64 s_2), V.d (D.int IntKind.i64 s_3)], V.d (D.int IntKind.i64 k_)]).run E = g41 A E s_0 s_1 s_2 s_3 k_ := by kernel_rfl
def g58 (A : Sy) (E : Env) (op_ : Int) : Option PRes :=
  bif (A.ieq op_ 1) then
    some (PRes.val [(D.str (bs [112, 117, 115, 104])), (D.bool true), (D.bool false), (D.bool false), (D.bool true), (D.bool true)])
  else
    bif (A.ieq op_ 2) then
      some (PRes.val [(D.str (bs [108, 111, 97, 100])), (D.bool true), (D.bool false), (D.bool false), (D.bool false), (D.bool true)])
    else
      bif (A.ieq op_ 3) then
        some (PRes.val [(D.str (bs [115, 116, 111, 114, 101])), (D.bool true), (D.bool false), (D.bool false), (D.bool false), (D.bool true)])
      else
        bif (A.ieq op_ 4) then
          some (PRes.val [(D.str (bs [117, 110])), (D.bool false), (D.bool true), (D.bool false), (D.bool false), (D.bool true)])
        else
          bif (A.ieq op_ 5) then
            some (PRes.val [(D.str (bs [98, 105, 110])), (D.bool false), (D.bool true), (D.bool false), (D.bool false), (D.bool true)])
          else
            bif (A.ieq op_ 6) then
              some (PRes.val [(D.str (bs [106, 117, 109, 112])), (D.bool true), (D.bool false), (D.bool false), (D.bool false), (D.bool true)])
            else
              bif (A.ieq op_ 7) then
                some (PRes.val [(D.str (bs [122, 101, 114, 111])), (D.bool true), (D.bool false), (D.bool false), (D.bool false), (D.bool true)])
              else
                bif (A.ieq op_ 8) then
                  some (PRes.val [(D.str (bs [103, 101, 116])), (D.bool true), (D.bool false), (D.bool true), (D.bool false), (D.bool true)])
                else
                  bif (A.ieq op_ 9) then
                    some (PRes.val [(D.str (bs [112, 117, 116])), (D.bool true), (D.bool false), (D.bool true), (D.bool false), (D.bool true)])
                  else
                    bif (A.ieq op_ 10) then
                      some (PRes.val [(D.str (bs [104, 97, 108, 116])), (D.bool false), (D.bool false), (D.bool false), (D.bool false), (D.bool true)])
                    else
                      some (PRes.val [(D.str (bs [])), (D.bool false), (D.bool false), (D.bool false), (D.bool false), (D.bool false)])
theorem g58_eq (A : Sy) (E : Env) (op_ : Int) : (funT A Try.prog cs 58 [V.d (D.int IntKind.i64 op_)]).run E = g58 A E op_ := by kernel_rfl
def g59 (A : Sy) (E : Env) (x_0 : Int) (x_1 : Int) (x_2 : Int) (x_3 : Int) : Option PRes :=
  bif (A.ieq x_0 1) then
    (E.call 60 [(V.d (D.int IntKind.i64 x_1)), (V.d (D.int IntKind.i64 1)), (V.d (D.int IntKind.i64 1000))]).bind fun p1 =>
    (opB (A.cell p1.leaves 0)).bind fun b3 =>
    some (PRes.val [(D.bool b3)])
  else
    bif (A.ieq x_0 4) then
      cutO (
        bif (A.ieq x_1 1) then
          some (.inl [(D.bool true)])
        else
          some (.inl [(D.bool (A.ieq x_1 2))])
      ) fun ds4 =>
      (opB (A.cell ds4 0)).bind fun b5 =>
      some (PRes.val [(D.bool b5)])
    else
      bif (A.ieq x_0 5) then
        (E.call 60 [(V.d (D.int IntKind.i64 x_1)), (V.d (D.int IntKind.i64 3)), (V.d (D.int IntKind.i64 16))]).bind fun p6 =>
        (opB (A.cell p6.leaves 0)).bind fun b8 =>
        some (PRes.val [(D.bool b8)])
      else
        bif (A.ieq x_0 10) then
          some (PRes.val [(D.bool (A.ieq x_1 0))])
        else
          (E.call 60 [(V.d (D.int IntKind.i64 x_1)), (V.d (D.int IntKind.i64 0)), (V.d (D.int IntKind.i64 65535))]).bind fun p9 =>
          (opB (A.cell p9.leaves 0)).bind fun b11 =>
          some (PRes.val [(D.bool b11)])
theorem g59_eq (A : Sy) (E : Env) (x_0 : Int) (x_1 : Int) (x_2 : Int) (x_3 : Int) : (funT A Try.prog cs 59 [V.agg [V.d (D.int IntKind.i64 x_0), V.d (D.int IntKind.i64 x_1), V.d (D.int IntKind.i64 x_2), V.d (D.int IntKind.i64 x_3)]]).run E = g59 A E x_0 x_1 x_2 x_3 := by kernel_rfl
def g60 (A : Sy) (E : Env) (n_ : Int) (lo_ : Int) (hi_ : Int) : Option PRes :=
  cutO (
    bif (A.ile lo_ n_) then
      some (.inl [(D.bool (A.ile n_ hi_))])
    else
      some (.inl [(D.bool false)])
  ) fun ds1 =>
  (opB (A.cell ds1 0)).bind fun b2 =>
  some (PRes.val [(D.bool b2)])
theorem g60_eq (A : Sy) (E : Env) (n_ : Int) (lo_ : Int) (hi_ : Int) : (funT A Try.prog cs 60 [V.d (D.int IntKind.i64 n_), V.d (D.int IntKind.i64 lo_), V.d (D.int IntKind.i64 hi_)]).run E = g60 A E n_ lo_ hi_ := by kernel_rfl
def g61 (A : Sy) (E : Env) (row_ : List (List D)) (n_ : Int) (kinds_ : List (List D)) : Option PRes :=
  bif (A.cutok 0 (A.wrap IntKind.i64 (A.sub (A.rlen row_) n_)) (A.rlen row_)) then
    (E.call 94 [(V.d (D.sl 1 [[(D.sl 1 (A.cut row_ 0 (A.wrap IntKind.i64 (A.sub (A.rlen row_) n_))))], [(D.sl 1 kinds_)]]))]).bind fun p1 =>
    (opL (A.cell p1.leaves 0) 1).bind fun l3 =>
    some (PRes.val [(D.sl 1 l3)])
  else
    none
theorem g61_eq (A : Sy) (E : Env) (row_ : List (List D)) (n_ : Int) (kinds_ : List (List D)) : (funT A Try.prog cs 61 [V.d (D.sl 1 row_), V.d (D.int IntKind.i64 n_), V.d (D.sl 1 kinds_)]).run E = g61 A E row_ n_ kinds_ := by kernel_rfl
def g62 (A : Sy) (E : Env) (s_0 : List (List D)) (s_1 : List (List D)) (s_2 : Int) (s_3 : Int) (k_ : Int) (n_ : Int) : Option PRes :=
  bif (A.ieq k_ 1) then
    some (PRes.val [(D.bool true)])
  else
    bif (A.ieq k_ 2) then
      cutO (
        bif (A.ieq n_ 0) then
          some (.inl [(D.bool true)])
        else
          some (.inl [(D.bool (A.ieq n_ 1))])
      ) fun ds1 =>
      (opB (A.cell ds1 0)).bind fun b2 =>
      some (PRes.val [(D.bool b2)])
    else
      cutO (
        bif (A.ile 0 n_) then
          bif (A.inr (A.wrap IntKind.i64 (A.sub k_ 3)) (A.rlen s_0)) then
            (opI (A.cell (A.row s_0 (A.wrap IntKind.i64 (A.sub k_ 3))) 0) IntKind.i64).bind fun n3 =>
            some (.inl [(D.bool (A.ilt n_ n3))])
          else
            none
        else
          some (.inl [(D.bool false)])
      ) fun ds4 =>
      (opB (A.cell ds4 0)).bind fun b5 =>
      some (PRes.val [(D.bool b5)])
theorem g62_eq (A : Sy) (E : Env) (s_0 : List (List D)) (s_1 : List (List D)) (s_2 : Int) (s_3 : Int) (k_ : Int) (n_ : Int) : (funT A Try.prog cs 62 [V.agg [V.d (D.sl 1 s_0), V.d (D.sl 1 s_1), V.d (D.int IntKind.i64 s_2), V.d (D.int IntKind.i64 s_3)], V.d (D.int IntKind.i64 k_), V.d (D.int IntKind.i64 n_)]).run E = g62 A E s_0 s_1 s_2 s_3 k_ n_ := by kernel_rfl
def g63 (A : Sy) (E : Env) (x_0 : Int) (x_1 : Int) (x_2 : Int) (x_3 : Int) (row_ : List (List D)) : Option PRes :=
  bif (A.ieq x_0 4) then
    bif (A.ilt (A.rlen row_) 1) then
      some (PRes.val [(D.sl 1 []), (D.bool false)])
    else
      bif (A.cutok (A.wrap IntKind.i64 (A.sub (A.rlen row_) 1)) (A.rlen row_) (A.rlen row_)) then
        bif (A.ieq 1 1) then
          bif (A.inr 0 (A.rlen (A.cut row_ (A.wrap IntKind.i64 (A.sub (A.rlen row_) 1)) (A.rlen row_)))) then
            (opI (A.cell (A.row (A.cut row_ (A.wrap IntKind.i64 (A.sub (A.rlen row_) 1)) (A.rlen row_)) 0) 0) IntKind.i64).bind fun n1 =>
            (E.call 96 [(V.d (D.int IntKind.i64 n1))]).bind fun p2 =>
            (opI (A.cell p2.leaves 0) IntKind.i64).bind fun n4 =>
            (opI (A.cell p2.leaves 1) IntKind.i64).bind fun n5 =>
            (opI (A.cell p2.leaves 2) IntKind.i64).bind fun n6 =>
            (E.call 95 [(V.d (D.int IntKind.i64 x_1)), (V.agg [(V.d (D.int IntKind.i64 n4)), (V.d (D.int IntKind.i64 n5)), (V.d (D.int IntKind.i64 n6))])]).bind fun p7 =>
            (opI (A.cell p7.leaves 0) IntKind.i64).bind fun n9 =>
            (opI (A.cell p7.leaves 1) IntKind.i64).bind fun n10 =>
            (opI (A.cell p7.leaves 2) IntKind.i64).bind fun n11 =>
            (opB (A.cell p7.leaves 3)).bind fun b12 =>
            bif (A.bnot b12) then
              some (PRes.val [(D.sl 1 []), (D.bool false)])
            else
              (E.call 98 [(V.agg [(V.d (D.int IntKind.i64 n9)), (V.d (D.int IntKind.i64 n10)), (V.d (D.int IntKind.i64 n11))])]).bind fun p13 =>
              (opI (A.cell p13.leaves 0) IntKind.i64).bind fun n15 =>
              (E.call 61 [(V.d (D.sl 1 row_)), (V.d (D.int IntKind.i64 1)), (V.d (D.sl 1 [[(D.int IntKind.i64 n15)]]))]).bind fun p16 =>
              (opL (A.cell p16.leaves 0) 1).bind fun l18 =>
              some (PRes.val [(D.sl 1 l18), (D.bool true)])
          else
            none
        else
          bif (A.inr 0 (A.rlen (A.cut row_ (A.wrap IntKind.i64 (A.sub (A.rlen row_) 1)) (A.rlen row_)))) then
            (opI (A.cell (A.row (A.cut row_ (A.wrap IntKind.i64 (A.sub (A.rlen row_) 1)) (A.rlen row_)) 0) 0) IntKind.i64).bind fun n19 =>
            (E.call 96 [(V.d (D.int IntKind.i64 n19))]).bind fun p20 =>
            (opI (A.cell p20.leaves 0) IntKind.i64).bind fun n22 =>
            (opI (A.cell p20.leaves 1) IntKind.i64).bind fun n23 =>
            (opI (A.cell p20.leaves 2) IntKind.i64).bind fun n24 =>
            bif (A.inr 1 (A.rlen (A.cut row_ (A.wrap IntKind.i64 (A.sub (A.rlen row_) 1)) (A.rlen row_)))) then
              (opI (A.cell (A.row (A.cut row_ (A.wrap IntKind.i64 (A.sub (A.rlen row_) 1)) (A.rlen row_)) 1) 0) IntKind.i64).bind fun n25 =>
              (E.call 96 [(V.d (D.int IntKind.i64 n25))]).bind fun p26 =>
              (opI (A.cell p26.leaves 0) IntKind.i64).bind fun n28 =>
              (opI (A.cell p26.leaves 1) IntKind.i64).bind fun n29 =>
              (opI (A.cell p26.leaves 2) IntKind.i64).bind fun n30 =>
              (E.call 97 [(V.d (D.int IntKind.i64 x_1)), (V.agg [(V.d (D.int IntKind.i64 n22)), (V.d (D.int IntKind.i64 n23)), (V.d (D.int IntKind.i64 n24))]), (V.agg [(V.d (D.int IntKind.i64 n28)), (V.d (D.int IntKind.i64 n29)), (V.d (D.int IntKind.i64 n30))])]).bind fun p31 =>
              (opI (A.cell p31.leaves 0) IntKind.i64).bind fun n33 =>
              (opI (A.cell p31.leaves 1) IntKind.i64).bind fun n34 =>
              (opI (A.cell p31.leaves 2) IntKind.i64).bind fun n35 =>
              (opB (A.cell p31.leaves 3)).bind fun b36 =>
              bif (A.bnot b36) then
                some (PRes.val [(D.sl 1 []), (D.bool false)])
              else
                (E.call 98 [(V.agg [(V.d (D.int IntKind.i64 n33)), (V.d (D.int IntKind.i64 n34)), (V.d (D.int IntKind.i64 n35))])]).bind fun p37 =>
                (opI (A.cell p37.leaves 0) IntKind.i64).bind fun n39 =>
                (E.call 61 [(V.d (D.sl 1 row_)), (V.d (D.int IntKind.i64 1)), (V.d (D.sl 1 [[(D.int IntKind.i64 n39)]]))]).bind fun p40 =>
                (opL (A.cell p40.leaves 0) 1).bind fun l42 =>
                some (PRes.val [(D.sl 1 l42), (D.bool true)])
            else
              none
          else
            none
      else
        none
  else
    bif (A.ilt (A.rlen row_) 2) then
      some (PRes.val [(D.sl 1 []), (D.bool false)])
    else
      bif (A.cutok (A.wrap IntKind.i64 (A.sub (A.rlen row_) 2)) (A.rlen row_) (A.rlen row_)) then
        bif (A.ieq 2 1) then
          bif (A.inr 0 (A.rlen (A.cut row_ (A.wrap IntKind.i64 (A.sub (A.rlen row_) 2)) (A.rlen row_)))) then
            (opI (A.cell (A.row (A.cut row_ (A.wrap IntKind.i64 (A.sub (A.rlen row_) 2)) (A.rlen row_)) 0) 0) IntKind.i64).bind fun n43 =>
            (E.call 96 [(V.d (D.int IntKind.i64 n43))]).bind fun p44 =>
            (opI (A.cell p44.leaves 0) IntKind.i64).bind fun n46 =>
            (opI (A.cell p44.leaves 1) IntKind.i64).bind fun n47 =>
            (opI (A.cell p44.leaves 2) IntKind.i64).bind fun n48 =>
            (E.call 95 [(V.d (D.int IntKind.i64 x_1)), (V.agg [(V.d (D.int IntKind.i64 n46)), (V.d (D.int IntKind.i64 n47)), (V.d (D.int IntKind.i64 n48))])]).bind fun p49 =>
            (opI (A.cell p49.leaves 0) IntKind.i64).bind fun n51 =>
            (opI (A.cell p49.leaves 1) IntKind.i64).bind fun n52 =>
            (opI (A.cell p49.leaves 2) IntKind.i64).bind fun n53 =>
            (opB (A.cell p49.leaves 3)).bind fun b54 =>
            bif (A.bnot b54) then
              some (PRes.val [(D.sl 1 []), (D.bool false)])
            else
              (E.call 98 [(V.agg [(V.d (D.int IntKind.i64 n51)), (V.d (D.int IntKind.i64 n52)), (V.d (D.int IntKind.i64 n53))])]).bind fun p55 =>
              (opI (A.cell p55.leaves 0) IntKind.i64).bind fun n57 =>
              (E.call 61 [(V.d (D.sl 1 row_)), (V.d (D.int IntKind.i64 2)), (V.d (D.sl 1 [[(D.int IntKind.i64 n57)]]))]).bind fun p58 =>
              (opL (A.cell p58.leaves 0) 1).bind fun l60 =>
              some (PRes.val [(D.sl 1 l60), (D.bool true)])
          else
            none
        else
          bif (A.inr 0 (A.rlen (A.cut row_ (A.wrap IntKind.i64 (A.sub (A.rlen row_) 2)) (A.rlen row_)))) then
            (opI (A.cell (A.row (A.cut row_ (A.wrap IntKind.i64 (A.sub (A.rlen row_) 2)) (A.rlen row_)) 0) 0) IntKind.i64).bind fun n61 =>
            (E.call 96 [(V.d (D.int IntKind.i64 n61))]).bind fun p62 =>
            (opI (A.cell p62.leaves 0) IntKind.i64).bind fun n64 =>
            (opI (A.cell p62.leaves 1) IntKind.i64).bind fun n65 =>
            (opI (A.cell p62.leaves 2) IntKind.i64).bind fun n66 =>
            bif (A.inr 1 (A.rlen (A.cut row_ (A.wrap IntKind.i64 (A.sub (A.rlen row_) 2)) (A.rlen row_)))) then
              (opI (A.cell (A.row (A.cut row_ (A.wrap IntKind.i64 (A.sub (A.rlen row_) 2)) (A.rlen row_)) 1) 0) IntKind.i64).bind fun n67 =>
              (E.call 96 [(V.d (D.int IntKind.i64 n67))]).bind fun p68 =>
              (opI (A.cell p68.leaves 0) IntKind.i64).bind fun n70 =>
              (opI (A.cell p68.leaves 1) IntKind.i64).bind fun n71 =>
              (opI (A.cell p68.leaves 2) IntKind.i64).bind fun n72 =>
              (E.call 97 [(V.d (D.int IntKind.i64 x_1)), (V.agg [(V.d (D.int IntKind.i64 n64)), (V.d (D.int IntKind.i64 n65)), (V.d (D.int IntKind.i64 n66))]), (V.agg [(V.d (D.int IntKind.i64 n70)), (V.d (D.int IntKind.i64 n71)), (V.d (D.int IntKind.i64 n72))])]).bind fun p73 =>
              (opI (A.cell p73.leaves 0) IntKind.i64).bind fun n75 =>
              (opI (A.cell p73.leaves 1) IntKind.i64).bind fun n76 =>
              (opI (A.cell p73.leaves 2) IntKind.i64).bind fun n77 =>
              (opB (A.cell p73.leaves 3)).bind fun b78 =>
              bif (A.bnot b78) then
                some (PRes.val [(D.sl 1 []), (D.bool false)])
              else
                (E.call 98 [(V.agg [(V.d (D.int IntKind.i64 n75)), (V.d (D.int IntKind.i64 n76)), (V.d (D.int IntKind.i64 n77))])]).bind fun p79 =>
                (opI (A.cell p79.leaves 0) IntKind.i64).bind fun n81 =>
                (E.call 61 [(V.d (D.sl 1 row_)), (V.d (D.int IntKind.i64 2)), (V.d (D.sl 1 [[(D.int IntKind.i64 n81)]]))]).bind fun p82 =>
                (opL (A.cell p82.leaves 0) 1).bind fun l84 =>
                some (PRes.val [(D.sl 1 l84), (D.bool true)])
            else
              none
          else
            none
      else
        none
theorem g63_eq (A : Sy) (E : Env) (x_0 : Int) (x_1 : Int) (x_2 : Int) (x_3 : Int) (row_ : List (List D)) : (funT A Try.prog cs 63 [V.agg [V.d (D.int IntKind.i64 x_0), V.d (D.int IntKind.i64 x_1), V.d (D.int IntKind.i64 x_2), V.d (D.int IntKind.i64 x_3)], V.d (D.sl 1 row_)]).run E = g63 A E x_0 x_1 x_2 x_3 row_ := by kernel_rfl
def g64 (A : Sy) (E : Env) (row_ : List (List D)) (kinds_ : List (List D)) : Option PRes :=
  bif (A.ile 0 (A.wrap IntKind.i64 (A.sub (A.rlen row_) (A.rlen kinds_)))) then
    bif (A.cutok (A.wrap IntKind.i64 (A.sub (A.rlen row_) (A.rlen kinds_))) (A.rlen row_) (A.rlen row_)) then
      (E.call 34 [(V.d (D.sl 1 (A.cut row_ (A.wrap IntKind.i64 (A.sub (A.rlen row_) (A.rlen kinds_))) (A.rlen row_)))), (V.d (D.sl 1 kinds_))]).bind fun p1 =>
      (opB (A.cell p1.leaves 0)).bind fun b3 =>
      some (PRes.val [(D.bool b3)])
    else
      none
  else
    some (PRes.val [(D.bool false)])
theorem g64_eq (A : Sy) (E : Env) (row_ : List (List D)) (kinds_ : List (List D)) : (funT A Try.prog cs 64 [V.d (D.sl 1 row_), V.d (D.sl 1 kinds_)]).run E = g64 A E row_ kinds_ := by kernel_rfl
def g65 (A : Sy) (E : Env) (s_0 : List (List D)) (s_1 : List (List D)) (s_2 : Int) (s_3 : Int) (x_0 : Int) (x_1 : Int) (x_2 : Int) (x_3 : Int) (row_ : List (List D)) : Option PRes :=
  (E.call 99 [(V.agg [(V.d (D.sl 1 s_0)), (V.d (D.sl 1 s_1)), (V.d (D.int IntKind.i64 s_2)), (V.d (D.int IntKind.i64 s_3))]), (V.d (D.int IntKind.i64 x_1)), (V.d (D.int IntKind.i64 (A.imax 1 x_2)))]).bind fun p1 =>
  (opI (A.cell p1.leaves 0) IntKind.i64).bind fun n3 =>
  (opB (A.cell p1.leaves 1)).bind fun b4 =>
  bif (A.bnot b4) then
    some (PRes.val [(D.sl 1 []), (D.bool false)])
  else
    bif (A.ieq x_0 2) then
      (E.call 61 [(V.d (D.sl 1 row_)), (V.d (D.int IntKind.i64 0)), (V.d (D.sl 1 [[(D.int IntKind.i64 n3)]]))]).bind fun p5 =>
      (opL (A.cell p5.leaves 0) 1).bind fun l7 =>
      some (PRes.val [(D.sl 1 l7), (D.bool (A.ilt (A.rlen row_) 16))])
    else
      bif (A.ieq x_0 8) then
        (E.call 64 [(V.d (D.sl 1 row_)), (V.d (D.sl 1 [[(D.int IntKind.i64 1)]]))]).bind fun p8 =>
        (opB (A.cell p8.leaves 0)).bind fun b10 =>
        bif (A.bnot b10) then
          some (PRes.val [(D.sl 1 []), (D.bool false)])
        else
          (E.call 61 [(V.d (D.sl 1 row_)), (V.d (D.int IntKind.i64 1)), (V.d (D.sl 1 [[(D.int IntKind.i64 n3)]]))]).bind fun p11 =>
          (opL (A.cell p11.leaves 0) 1).bind fun l13 =>
          some (PRes.val [(D.sl 1 l13), (D.bool true)])
      else
        bif (A.ieq x_0 3) then
          (E.call 64 [(V.d (D.sl 1 row_)), (V.d (D.sl 1 [[(D.int IntKind.i64 n3)]]))]).bind fun p14 =>
          (opB (A.cell p14.leaves 0)).bind fun b16 =>
          cutO (
            bif (A.bnot b16) then
              some (.inl [(D.bool true)])
            else
              (E.call 100 [(V.agg [(V.d (D.sl 1 s_0)), (V.d (D.sl 1 s_1)), (V.d (D.int IntKind.i64 s_2)), (V.d (D.int IntKind.i64 s_3))]), (V.d (D.int IntKind.i64 x_1)), (V.d (D.int IntKind.i64 (A.imax 1 x_2)))]).bind fun p17 =>
              (opB (A.cell p17.leaves 0)).bind fun b19 =>
              some (.inl [(D.bool b19)])
          ) fun ds20 =>
          (opB (A.cell ds20 0)).bind fun b21 =>
          bif b21 then
            some (PRes.val [(D.sl 1 []), (D.bool false)])
          else
            (E.call 61 [(V.d (D.sl 1 row_)), (V.d (D.int IntKind.i64 1)), (V.d (D.sl 1 []))]).bind fun p22 =>
            (opL (A.cell p22.leaves 0) 1).bind fun l24 =>
            some (PRes.val [(D.sl 1 l24), (D.bool true)])
        else
          (E.call 64 [(V.d (D.sl 1 row_)), (V.d (D.sl 1 [[(D.int IntKind.i64 n3)], [(D.int IntKind.i64 1)]]))]).bind fun p25 =>
          (opB (A.cell p25.leaves 0)).bind fun b27 =>
          cutO (
            bif (A.bnot b27) then
              some (.inl [(D.bool true)])
            else
              (E.call 100 [(V.agg [(V.d (D.sl 1 s_0)), (V.d (D.sl 1 s_1)), (V.d (D.int IntKind.i64 s_2)), (V.d (D.int IntKind.i64 s_3))]), (V.d (D.int IntKind.i64 x_1)), (V.d (D.int IntKind.i64 (A.imax 1 x_2)))]).bind fun p28 =>
              (opB (A.cell p28.leaves 0)).bind fun b30 =>
              some (.inl [(D.bool b30)])
          ) fun ds31 =>
          (opB (A.cell ds31 0)).bind fun b32 =>
          bif b32 then
            some (PRes.val [(D.sl 1 []), (D.bool false)])
          else
            (E.call 61 [(V.d (D.sl 1 row_)), (V.d (D.int IntKind.i64 2)), (V.d (D.sl 1 []))]).bind fun p33 =>
            (opL (A.cell p33.leaves 0) 1).bind fun l35 =>
            some (PRes.val [(D.sl 1 l35), (D.bool true)])
theorem g65_eq (A : Sy) (E : Env) (s_0 : List (List D)) (s_1 : List (List D)) (s_2 : Int) (s_3 : Int) (x_0 : Int) (x_1 : Int) (x_2 : Int) (x_3 : Int) (row_ : List (List D)) : (funT A Try.prog cs 65 [V.agg [V.d (D.sl 1 s_0), V.d (D.sl 1 s_1), V.d (D.int IntKind.i64 s_2), V.d (D.int IntKind.i64 s_3)], V.agg [V.d (D.int IntKind.i64 x_0), V.d (D.int IntKind.i64 x_1), V.d (D.int IntKind.i64 x_2), V.d (D.int IntKind.i64 x_3)], V.d (D.sl 1 row_)]).run E = g65 A E s_0 s_1 s_2 s_3 x_0 x_1 x_2 x_3 row_ := by kernel_rfl
def g40c (A : Sy) (E : Env)(n : Int) (a b : List (List D)) (lo hi : Int) : Option PRes :=
  (opL (A.cell [(D.sl 1 a), (D.sl 1 b), (D.int IntKind.i64 lo), (D.int IntKind.i64 hi)] 0) 1).bind fun l1 =>
  (opL (A.cell [(D.sl 1 a), (D.sl 1 b), (D.int IntKind.i64 lo), (D.int IntKind.i64 hi)] 1) 1).bind fun l2 =>
  (opI (A.cell [(D.sl 1 a), (D.sl 1 b), (D.int IntKind.i64 lo), (D.int IntKind.i64 hi)] 2) IntKind.i64).bind fun n3 =>
  (opI (A.cell [(D.sl 1 a), (D.sl 1 b), (D.int IntKind.i64 lo), (D.int IntKind.i64 hi)] 3) IntKind.i64).bind fun n4 =>
  (E.call 41 [(V.agg [(V.d (D.sl 1 l1)), (V.d (D.sl 1 l2)), (V.d (D.int IntKind.i64 n3)), (V.d (D.int IntKind.i64 n4))]), (V.d (D.int IntKind.i64 n))]).bind fun p5 =>
  (opB (A.cell p5.leaves 0)).bind fun b7 =>
  some (PRes.val [(D.bool (A.bnot b7))])
theorem g40c_eq (A : Sy) (E : Env)(n : Int) (a b : List (List D)) (lo hi : Int) : (funT A Try.prog cs 40 [V.d (D.int IntKind.i64 n), V.pel [D.sl 1 a, D.sl 1 b, D.int IntKind.i64 lo, D.int IntKind.i64 hi]]).run E = g40c A E n a b lo hi := by kernel_rfl
def g66c (A : Sy) (E : Env)(n at_ : Int) (c : List (List D)) : Option PRes :=
  (opI (A.cell [(D.int IntKind.i64 at_)] 0) IntKind.i64).bind fun n1 =>
  cutO (
    bif (A.ile n n1) then
      some (.inl [(D.bool true)])
    else
      (opL (A.cell [(D.sl 4 c)] 0) 4).bind fun l2 =>
      some (.inl [(D.bool (A.ile (A.rlen l2) n))])
  ) fun ds3 =>
  (opB (A.cell ds3 0)).bind fun b4 =>
  some (PRes.val [(D.bool b4)])
theorem g66c_eq (A : Sy) (E : Env)(n at_ : Int) (c : List (List D)) : (funT A Try.prog cs 66 [V.d (D.int IntKind.i64 n), V.pel [D.int IntKind.i64 at_], V.pel [D.sl 4 c]]).run E = g66c A E n at_ c := by kernel_rfl
def g147c (A : Sy) (E : Env)(n : Int) (l : List (List D)) : Option PRes :=
  (opL (A.cell [(D.sl 1 l)] 0) 1).bind fun l1 =>
  bif (A.inr 0 (A.rlen l1)) then
    (opI (A.cell (A.row l1 0) 0) IntKind.i64).bind fun n2 =>
    some (PRes.val [(D.bool (A.bnot (A.ieq n n2)))])
  else
    none
theorem g147c_eq (A : Sy) (E : Env)(n : Int) (l : List (List D)) : (funT A Try.prog cs 147 [V.d (D.int IntKind.i64 n), V.pel [D.sl 1 l]]).run E = g147c A E n l := by kernel_rfl
def g38_39 (A : Sy) (E : Env)(rows : List (List D)) : Option PRes :=
  (E.call 75 [(V.d (D.sl 1 rows)), (V.fn 39 [])]).bind fun p1 =>
  (opI (A.cell p1.leaves 0) IntKind.i64).bind fun n3 =>
  some (PRes.val [(D.bool (A.ile 0 n3))])
theorem g38_39_eq (A : Sy) (E : Env)(rows : List (List D)) : (funT A Try.prog cs 38 [V.d (D.sl 1 rows), V.fn 39 []]).run E = g38_39 A E rows := by kernel_rfl
def g75_39 (A : Sy) (E : Env)(rows : List (List D)) : Option PRes :=
  E.lp (fun ds1 =>
    (opL (A.cell ds1 0) 1).bind fun l2 =>
    (opI (A.cell ds1 1) IntKind.i64).bind fun n3 =>
    (opI (A.cell ds1 2) IntKind.i64).bind fun n4 =>
    bif (A.ilt n4 n3) then
      bif (A.inr n4 (A.rlen l2)) then
        (opI (A.cell (A.row l2 n4) 0) IntKind.i64).bind fun n5 =>
        (E.call 39 [(V.d (D.int IntKind.i64 n5))]).bind fun p6 =>
        (opB (A.cell p6.leaves 0)).bind fun b8 =>
        bif b8 then
          some (.inr (PRes.val [(D.int IntKind.i64 n4)]))
        else
          some (.inl [(D.sl 1 l2), (D.int IntKind.i64 n3), (D.int IntKind.i64 (A.wrap IntKind.i64 (A.add n4 1)))])
      else
        none
    else
      some (.inr (PRes.val [(D.int IntKind.i64 (-1))]))
  ) [(D.sl 1 rows), (D.int IntKind.i64 (A.rlen rows)), (D.int IntKind.i64 0)]
theorem g75_39_eq (A : Sy) (E : Env)(rows : List (List D)) : (funT A Try.prog cs 75 [V.d (D.sl 1 rows), V.fn 39 []]).run E = g75_39 A E rows := by kernel_rfl
def g38_40 (A : Sy) (E : Env)(rows a b : List (List D)) (lo hi : Int) : Option PRes :=
  (E.call 75 [(V.d (D.sl 1 rows)), (V.fn 40 [(V.pel [(D.sl 1 a), (D.sl 1 b), (D.int IntKind.i64 lo), (D.int IntKind.i64 hi)])])]).bind fun p1 =>
  (opI (A.cell p1.leaves 0) IntKind.i64).bind fun n3 =>
  some (PRes.val [(D.bool (A.ile 0 n3))])
theorem g38_40_eq (A : Sy) (E : Env)(rows a b : List (List D)) (lo hi : Int) : (funT A Try.prog cs 38 [V.d (D.sl 1 rows), V.fn 40 [V.pel [D.sl 1 a, D.sl 1 b, D.int IntKind.i64 lo, D.int IntKind.i64 hi]]]).run E = g38_40 A E rows a b lo hi := by kernel_rfl
def g75_40 (A : Sy) (E : Env)(rows a b : List (List D)) (lo hi : Int) : Option PRes :=
  E.lp (fun ds1 =>
    (opL (A.cell ds1 0) 1).bind fun l2 =>
    (opL (A.cell ds1 1) 1).bind fun l3 =>
    (opL (A.cell ds1 2) 1).bind fun l4 =>
    (opI (A.cell ds1 3) IntKind.i64).bind fun n5 =>
    (opI (A.cell ds1 4) IntKind.i64).bind fun n6 =>
    (opI (A.cell ds1 5) IntKind.i64).bind fun n7 =>
    (opI (A.cell ds1 6) IntKind.i64).bind fun n8 =>
    bif (A.ilt n8 n7) then
      bif (A.inr n8 (A.rlen l2)) then
        (opI (A.cell (A.row l2 n8) 0) IntKind.i64).bind fun n9 =>
        (E.call 40 [(V.d (D.int IntKind.i64 n9)), (V.pel [(D.sl 1 l3), (D.sl 1 l4), (D.int IntKind.i64 n5), (D.int IntKind.i64 n6)])]).bind fun p10 =>
        (opB (A.cell p10.leaves 0)).bind fun b12 =>
        bif b12 then
          some (.inr (PRes.val [(D.int IntKind.i64 n8)]))
        else
          some (.inl [(D.sl 1 l2), (D.sl 1 l3), (D.sl 1 l4), (D.int IntKind.i64 n5), (D.int IntKind.i64 n6), (D.int IntKind.i64 n7), (D.int IntKind.i64 (A.wrap IntKind.i64 (A.add n8 1)))])
      else
        none
    else
      some (.inr (PRes.val [(D.int IntKind.i64 (-1))]))
  ) [(D.sl 1 rows), (D.sl 1 a), (D.sl 1 b), (D.int IntKind.i64 lo), (D.int IntKind.i64 hi), (D.int IntKind.i64 (A.rlen rows)), (D.int IntKind.i64 0)]
theorem g75_40_eq (A : Sy) (E : Env)(rows a b : List (List D)) (lo hi : Int) : (funT A Try.prog cs 75 [V.d (D.sl 1 rows), V.fn 40 [V.pel [D.sl 1 a, D.sl 1 b, D.int IntKind.i64 lo, D.int IntKind.i64 hi]]]).run E = g75_40 A E rows a b lo hi := by kernel_rfl
def g38_66 (A : Sy) (E : Env)(rows : List (List D)) (at_ : Int) (c : List (List D)) : Option PRes :=
  (E.call 75 [(V.d (D.sl 1 rows)), (V.fn 66 [(V.pel [(D.int IntKind.i64 at_)]), (V.pel [(D.sl 4 c)])])]).bind fun p1 =>
  (opI (A.cell p1.leaves 0) IntKind.i64).bind fun n3 =>
  some (PRes.val [(D.bool (A.ile 0 n3))])
theorem g38_66_eq (A : Sy) (E : Env)(rows : List (List D)) (at_ : Int) (c : List (List D)) : (funT A Try.prog cs 38 [V.d (D.sl 1 rows), V.fn 66 [V.pel [D.int IntKind.i64 at_], V.pel [D.sl 4 c]]]).run E = g38_66 A E rows at_ c := by kernel_rfl
def g75_66 (A : Sy) (E : Env)(rows : List (List D)) (at_ : Int) (c : List (List D)) : Option PRes :=
  E.lp (fun ds1 =>
    (opL (A.cell ds1 0) 1).bind fun l2 =>
    (opI (A.cell ds1 1) IntKind.i64).bind fun n3 =>
    (opL (A.cell ds1 2) 4).bind fun l4 =>
    (opI (A.cell ds1 3) IntKind.i64).bind fun n5 =>
    (opI (A.cell ds1 4) IntKind.i64).bind fun n6 =>
    bif (A.ilt n6 n5) then
      bif (A.inr n6 (A.rlen l2)) then
        (opI (A.cell (A.row l2 n6) 0) IntKind.i64).bind fun n7 =>
        (E.call 66 [(V.d (D.int IntKind.i64 n7)), (V.pel [(D.int IntKind.i64 n3)]), (V.pel [(D.sl 4 l4)])]).bind fun p8 =>
        (opB (A.cell p8.leaves 0)).bind fun b10 =>
        bif b10 then
          some (.inr (PRes.val [(D.int IntKind.i64 n6)]))
        else
          some (.inl [(D.sl 1 l2), (D.int IntKind.i64 n3), (D.sl 4 l4), (D.int IntKind.i64 n5), (D.int IntKind.i64 (A.wrap IntKind.i64 (A.add n6 1)))])
      else
        none
    else
      some (.inr (PRes.val [(D.int IntKind.i64 (-1))]))
  ) [(D.sl 1 rows), (D.int IntKind.i64 at_), (D.sl 4 c), (D.int IntKind.i64 (A.rlen rows)), (D.int IntKind.i64 0)]
theorem g75_66_eq (A : Sy) (E : Env)(rows : List (List D)) (at_ : Int) (c : List (List D)) : (funT A Try.prog cs 75 [V.d (D.sl 1 rows), V.fn 66 [V.pel [D.int IntKind.i64 at_], V.pel [D.sl 4 c]]]).run E = g75_66 A E rows at_ c := by kernel_rfl
def g38_147 (A : Sy) (E : Env)(rows l : List (List D)) : Option PRes :=
  (E.call 75 [(V.d (D.sl 1 rows)), (V.fn 147 [(V.pel [(D.sl 1 l)])])]).bind fun p1 =>
  (opI (A.cell p1.leaves 0) IntKind.i64).bind fun n3 =>
  some (PRes.val [(D.bool (A.ile 0 n3))])
theorem g38_147_eq (A : Sy) (E : Env)(rows l : List (List D)) : (funT A Try.prog cs 38 [V.d (D.sl 1 rows), V.fn 147 [V.pel [D.sl 1 l]]]).run E = g38_147 A E rows l := by kernel_rfl
def g75_147 (A : Sy) (E : Env)(rows l : List (List D)) : Option PRes :=
  E.lp (fun ds1 =>
    (opL (A.cell ds1 0) 1).bind fun l2 =>
    (opL (A.cell ds1 1) 1).bind fun l3 =>
    (opI (A.cell ds1 2) IntKind.i64).bind fun n4 =>
    (opI (A.cell ds1 3) IntKind.i64).bind fun n5 =>
    bif (A.ilt n5 n4) then
      bif (A.inr n5 (A.rlen l2)) then
        (opI (A.cell (A.row l2 n5) 0) IntKind.i64).bind fun n6 =>
        (E.call 147 [(V.d (D.int IntKind.i64 n6)), (V.pel [(D.sl 1 l3)])]).bind fun p7 =>
        (opB (A.cell p7.leaves 0)).bind fun b9 =>
        bif b9 then
          some (.inr (PRes.val [(D.int IntKind.i64 n5)]))
        else
          some (.inl [(D.sl 1 l2), (D.sl 1 l3), (D.int IntKind.i64 n4), (D.int IntKind.i64 (A.wrap IntKind.i64 (A.add n5 1)))])
      else
        none
    else
      some (.inr (PRes.val [(D.int IntKind.i64 (-1))]))
  ) [(D.sl 1 rows), (D.sl 1 l), (D.int IntKind.i64 (A.rlen rows)), (D.int IntKind.i64 0)]
theorem g75_147_eq (A : Sy) (E : Env)(rows l : List (List D)) : (funT A Try.prog cs 75 [V.d (D.sl 1 rows), V.fn 147 [V.pel [D.sl 1 l]]]).run E = g75_147 A E rows l := by kernel_rfl
end Go.Vm
end

section
set_option maxRecDepth 100000
namespace Go.Vm
open Go.Proofs
def g94 (A : Sy) (E : Env) (slices_ : List (List D)) : Option PRes :=
  E.lp (fun ds1 =>
    (opL (A.cell ds1 0) 1).bind fun l2 =>
    (opI (A.cell ds1 1) IntKind.i64).bind fun n3 =>
    (opL (A.cell ds1 2) 1).bind fun l4 =>
    (opI (A.cell ds1 3) IntKind.i64).bind fun n5 =>
    (opI (A.cell ds1 4) IntKind.i64).bind fun n6 =>
    bif (A.ilt n6 n5) then
      bif (A.inr n6 (A.rlen l4)) then
        (opL (A.cell (A.row l4 n6) 0) 1).bind fun l7 =>
        bif (A.ilt (A.wrap IntKind.i64 (A.add n3 (A.rlen l7))) 0) then
          none
        else
          some (.inl [(D.sl 1 l2), (D.int IntKind.i64 (A.wrap IntKind.i64 (A.add n3 (A.rlen l7)))), (D.sl 1 l4), (D.int IntKind.i64 n5), (D.int IntKind.i64 (A.wrap IntKind.i64 (A.add n6 1)))])
      else
        none
    else
      bif (A.ilt n3 0) then
        none
      else
        bif (A.ilt 0 (A.wrap IntKind.i64 (A.sub n3 (A.wrap IntKind.i64 (A.sub 0 0))))) then
          bif (A.cutok 0 0 0) then
            bif (A.mkz (A.wrap IntKind.i64 (A.sub n3 (A.wrap IntKind.i64 (A.sub 0 0)))) 8) then
              bif (A.cutok 0 0 (A.rlen (A.rep (A.wrap IntKind.i64 (A.sub n3 (A.wrap IntKind.i64 (A.sub 0 0)))) [(D.int IntKind.i64 0)]))) then
                E.lp (fun ds8 =>
                  (opL (A.cell ds8 0) 1).bind fun l9 =>
                  (opI (A.cell ds8 1) IntKind.i64).bind fun n10 =>
                  (opI (A.cell ds8 2) IntKind.i64).bind fun n11 =>
                  (opL (A.cell ds8 3) 1).bind fun l12 =>
                  bif (A.ilt n11 n10) then
                    bif (A.inr n11 (A.rlen l9)) then
                      (opL (A.cell (A.row l9 n11) 0) 1).bind fun l13 =>
                      bif (A.fits l12 l13 8) then
                        some (.inl [(D.sl 1 l9), (D.int IntKind.i64 n10), (D.int IntKind.i64 (A.wrap IntKind.i64 (A.add n11 1))), (D.sl 1 (A.rapp l12 l13))])
                      else
                        none
                    else
                      none
                  else
                    some (.inr (.inr (PRes.own 3 1 l12)))
                ) [(D.sl 1 l2), (D.int IntKind.i64 (A.rlen l2)), (D.int IntKind.i64 0), (D.sl 1 (A.head (A.rep (A.wrap IntKind.i64 (A.sub n3 (A.wrap IntKind.i64 (A.sub 0 0)))) [(D.int IntKind.i64 0)]) 0))]
              else
                none
            else
              none
          else
            none
        else
          E.lp (fun ds14 =>
            (opL (A.cell ds14 0) 1).bind fun l15 =>
            (opI (A.cell ds14 1) IntKind.i64).bind fun n16 =>
            (opI (A.cell ds14 2) IntKind.i64).bind fun n17 =>
            (opL (A.cell ds14 3) 1).bind fun l18 =>
            bif (A.ilt n17 n16) then
              bif (A.inr n17 (A.rlen l15)) then
                (opL (A.cell (A.row l15 n17) 0) 1).bind fun l19 =>
                bif (A.fits l18 l19 8) then
                  some (.inl [(D.sl 1 l15), (D.int IntKind.i64 n16), (D.int IntKind.i64 (A.wrap IntKind.i64 (A.add n17 1))), (D.sl 1 (A.rapp l18 l19))])
                else
                  none
              else
                none
            else
              some (.inr (.inr (PRes.own 3 1 l18)))
          ) [(D.sl 1 l2), (D.int IntKind.i64 (A.rlen l2)), (D.int IntKind.i64 0), (D.sl 1 [])]
  ) [(D.sl 1 slices_), (D.int IntKind.i64 0), (D.sl 1 slices_), (D.int IntKind.i64 (A.rlen slices_)), (D.int IntKind.i64 0)]
theorem g94_eq (A : Sy) (E : Env) (slices_ : List (List D)) : (funT A Try.prog cs 94 [V.d (D.sl 1 slices_)]).run E = g94 A E slices_ := by kernel_rfl
def g95 (A : Sy) (E : Env) (op_ : Int) (t_0 : Int) (t_1 : Int) (t_2 : Int) : Option PRes :=
  bif (A.ieq op_ 1) then
    cutO (
      bif (A.ieq 1 0) then
        some (.inl [(D.bool true)])
      else
        some (.inl [(D.bool (A.bnot (A.deq [(D.int IntKind.i64 t_0), (D.int IntKind.i64 t_1), (D.int IntKind.i64 t_2)] [(D.int IntKind.i64 1), (D.int IntKind.i64 0), (D.int IntKind.i64 0)])))])
    ) fun ds1 =>
    (opB (A.cell ds1 0)).bind fun b2 =>
    bif b2 then
      some (PRes.val [(D.int IntKind.i64 0), (D.int IntKind.i64 0), (D.int IntKind.i64 0), (D.bool false)])
    else
      some (PRes.val [(D.int IntKind.i64 1), (D.int IntKind.i64 0), (D.int IntKind.i64 0), (D.bool true)])
  else
    bif (A.ieq op_ 2) then
      cutO (
        bif (A.ieq 2 0) then
          some (.inl [(D.bool true)])
        else
          some (.inl [(D.bool (A.bnot (A.deq [(D.int IntKind.i64 t_0), (D.int IntKind.i64 t_1), (D.int IntKind.i64 t_2)] [(D.int IntKind.i64 2), (D.int IntKind.i64 0), (D.int IntKind.i64 0)])))])
      ) fun ds3 =>
      (opB (A.cell ds3 0)).bind fun b4 =>
      bif b4 then
        some (PRes.val [(D.int IntKind.i64 0), (D.int IntKind.i64 0), (D.int IntKind.i64 0), (D.bool false)])
      else
        some (PRes.val [(D.int IntKind.i64 2), (D.int IntKind.i64 0), (D.int IntKind.i64 0), (D.bool true)])
    else
      cutO (
        bif (A.ieq 0 0) then
          some (.inl [(D.bool true)])
        else
          some (.inl [(D.bool (A.bnot (A.deq [(D.int IntKind.i64 t_0), (D.int IntKind.i64 t_1), (D.int IntKind.i64 t_2)] [(D.int IntKind.i64 0), (D.int IntKind.i64 0), (D.int IntKind.i64 0)])))])
      ) fun ds5 =>
      (opB (A.cell ds5 0)).bind fun b6 =>
      bif b6 then
        some (PRes.val [(D.int IntKind.i64 0), (D.int IntKind.i64 0), (D.int IntKind.i64 0), (D.bool false)])
      else
        some (PRes.val [(D.int IntKind.i64 0), (D.int IntKind.i64 0), (D.int IntKind.i64 0), (D.bool true)])
theorem g95_eq (A : Sy) (E : Env) (op_ : Int) (t_0 : Int) (t_1 : Int) (t_2 : Int) : (funT A Try.prog cs 95 [V.d (D.int IntKind.i64 op_), V.agg [V.d (D.int IntKind.i64 t_0), V.d (D.int IntKind.i64 t_1), V.d (D.int IntKind.i64 t_2)]]).run E = g95 A E op_ t_0 t_1 t_2 := by kernel_rfl
def g96 (A : Sy) (E : Env) (k_ : Int) : Option PRes :=
  bif (A.ilt k_ 3) then
    some (PRes.val [(D.int IntKind.i64 k_), (D.int IntKind.i64 0), (D.int IntKind.i64 0)])
  else
    some (PRes.val [(D.int IntKind.i64 3), (D.int IntKind.i64 (A.wrap IntKind.i64 (A.sub k_ 3))), (D.int IntKind.i64 0)])
theorem g96_eq (A : Sy) (E : Env) (k_ : Int) : (funT A Try.prog cs 96 [V.d (D.int IntKind.i64 k_)]).run E = g96 A E k_ := by kernel_rfl
def g97 (A : Sy) (E : Env) (op_ : Int) (t_0 : Int) (t_1 : Int) (t_2 : Int) (u_0 : Int) (u_1 : Int) (u_2 : Int) : Option PRes :=
  (E.call 117 [(V.d (D.int IntKind.i64 op_))]).bind fun p1 =>
  (opI (A.cell p1.leaves 0) IntKind.i64).bind fun n3 =>
  bif (A.ieq n3 1) then
    bif (A.deq [(D.int IntKind.i64 t_0), (D.int IntKind.i64 t_1), (D.int IntKind.i64 t_2)] [(D.int IntKind.i64 1), (D.int IntKind.i64 0), (D.int IntKind.i64 0)]) then
      bif (A.bnot (A.deq [(D.int IntKind.i64 u_0), (D.int IntKind.i64 u_1), (D.int IntKind.i64 u_2)] [(D.int IntKind.i64 1), (D.int IntKind.i64 0), (D.int IntKind.i64 0)])) then
        some (PRes.val [(D.int IntKind.i64 0), (D.int IntKind.i64 0), (D.int IntKind.i64 0), (D.bool false)])
      else
        some (PRes.val [(D.int IntKind.i64 1), (D.int IntKind.i64 0), (D.int IntKind.i64 0), (D.bool true)])
    else
      bif (A.bnot false) then
        some (PRes.val [(D.int IntKind.i64 0), (D.int IntKind.i64 0), (D.int IntKind.i64 0), (D.bool false)])
      else
        some (PRes.val [(D.int IntKind.i64 1), (D.int IntKind.i64 0), (D.int IntKind.i64 0), (D.bool true)])
  else
    bif (A.ieq n3 2) then
      bif (A.deq [(D.int IntKind.i64 t_0), (D.int IntKind.i64 t_1), (D.int IntKind.i64 t_2)] [(D.int IntKind.i64 2), (D.int IntKind.i64 0), (D.int IntKind.i64 0)]) then
        bif (A.bnot (A.deq [(D.int IntKind.i64 u_0), (D.int IntKind.i64 u_1), (D.int IntKind.i64 u_2)] [(D.int IntKind.i64 2), (D.int IntKind.i64 0), (D.int IntKind.i64 0)])) then
          some (PRes.val [(D.int IntKind.i64 0), (D.int IntKind.i64 0), (D.int IntKind.i64 0), (D.bool false)])
        else
          some (PRes.val [(D.int IntKind.i64 2), (D.int IntKind.i64 0), (D.int IntKind.i64 0), (D.bool true)])
      else
        bif (A.bnot false) then
          some (PRes.val [(D.int IntKind.i64 0), (D.int IntKind.i64 0), (D.int IntKind.i64 0), (D.bool false)])
        else
          some (PRes.val [(D.int IntKind.i64 2), (D.int IntKind.i64 0), (D.int IntKind.i64 0), (D.bool true)])
    else
      bif (A.ieq n3 3) then
        bif (A.deq [(D.int IntKind.i64 t_0), (D.int IntKind.i64 t_1), (D.int IntKind.i64 t_2)] [(D.int IntKind.i64 1), (D.int IntKind.i64 0), (D.int IntKind.i64 0)]) then
          bif (A.bnot (A.deq [(D.int IntKind.i64 u_0), (D.int IntKind.i64 u_1), (D.int IntKind.i64 u_2)] [(D.int IntKind.i64 1), (D.int IntKind.i64 0), (D.int IntKind.i64 0)])) then
            some (PRes.val [(D.int IntKind.i64 0), (D.int IntKind.i64 0), (D.int IntKind.i64 0), (D.bool false)])
          else
            some (PRes.val [(D.int IntKind.i64 2), (D.int IntKind.i64 0), (D.int IntKind.i64 0), (D.bool true)])
        else
          bif (A.bnot false) then
            some (PRes.val [(D.int IntKind.i64 0), (D.int IntKind.i64 0), (D.int IntKind.i64 0), (D.bool false)])
          else
            some (PRes.val [(D.int IntKind.i64 2), (D.int IntKind.i64 0), (D.int IntKind.i64 0), (D.bool true)])
      else
        bif (A.ieq n3 4) then
          bif (A.deq [(D.int IntKind.i64 t_0), (D.int IntKind.i64 t_1), (D.int IntKind.i64 t_2)] [(D.int IntKind.i64 u_0), (D.int IntKind.i64 u_1), (D.int IntKind.i64 u_2)]) then
            bif (A.bnot (A.ieq t_2 0)) then
              some (PRes.val [(D.int IntKind.i64 0), (D.int IntKind.i64 0), (D.int IntKind.i64 0), (D.bool false)])
            else
              some (PRes.val [(D.int IntKind.i64 2), (D.int IntKind.i64 0), (D.int IntKind.i64 0), (D.bool true)])
          else
            bif (A.bnot false) then
              some (PRes.val [(D.int IntKind.i64 0), (D.int IntKind.i64 0), (D.int IntKind.i64 0), (D.bool false)])
            else
              some (PRes.val [(D.int IntKind.i64 2), (D.int IntKind.i64 0), (D.int IntKind.i64 0), (D.bool true)])
        else
          bif (A.bnot false) then
            some (PRes.val [(D.int IntKind.i64 0), (D.int IntKind.i64 0), (D.int IntKind.i64 0), (D.bool false)])
          else
            some (PRes.val [(D.int IntKind.i64 0), (D.int IntKind.i64 0), (D.int IntKind.i64 0), (D.bool true)])
theorem g97_eq (A : Sy) (E : Env) (op_ : Int) (t_0 : Int) (t_1 : Int) (t_2 : Int) (u_0 : Int) (u_1 : Int) (u_2 : Int) : (funT A Try.prog cs 97 [V.d (D.int IntKind.i64 op_), V.agg [V.d (D.int IntKind.i64 t_0), V.d (D.int IntKind.i64 t_1), V.d (D.int IntKind.i64 t_2)], V.agg [V.d (D.int IntKind.i64 u_0), V.d (D.int IntKind.i64 u_1), V.d (D.int IntKind.i64 u_2)]]).run E = g97 A E op_ t_0 t_1 t_2 u_0 u_1 u_2 := by kernel_rfl
def g98 (A : Sy) (E : Env) (t_0 : Int) (t_1 : Int) (t_2 : Int) : Option PRes :=
  some (PRes.val [(D.int IntKind.i64 (A.wrap IntKind.i64 (A.add t_0 t_1)))])
theorem g98_eq (A : Sy) (E : Env) (t_0 : Int) (t_1 : Int) (t_2 : Int) : (funT A Try.prog cs 98 [V.agg [V.d (D.int IntKind.i64 t_0), V.d (D.int IntKind.i64 t_1), V.d (D.int IntKind.i64 t_2)]]).run E = g98 A E t_0 t_1 t_2 := by kernel_rfl
def g99 (A : Sy) (E : Env) (s_0 : List (List D)) (s_1 : List (List D)) (s_2 : Int) (s_3 : Int) (at_ : Int) (n_ : Int) : Option PRes :=
  bif (A.ilt (A.wrap IntKind.i64 (A.sub (A.rlen s_1) n_)) at_) then
    some (PRes.val [(D.int IntKind.i64 0), (D.bool false)])
  else
    bif (A.cutok at_ (A.wrap IntKind.i64 (A.add at_ n_)) (A.rlen s_1)) then
      bif (A.inr 0 (A.rlen (A.cut s_1 at_ (A.wrap IntKind.i64 (A.add at_ n_))))) then
        (opI (A.cell (A.row (A.cut s_1 at_ (A.wrap IntKind.i64 (A.add at_ n_))) 0) 0) IntKind.i64).bind fun n1 =>
        (E.call 118 [(V.d (D.sl 1 (A.cut s_1 at_ (A.wrap IntKind.i64 (A.add at_ n_)))))]).bind fun p2 =>
        (opB (A.cell p2.leaves 0)).bind fun b4 =>
        some (PRes.val [(D.int IntKind.i64 n1), (D.bool b4)])
      else
        none
    else
      none
theorem g99_eq (A : Sy) (E : Env) (s_0 : List (List D)) (s_1 : List (List D)) (s_2 : Int) (s_3 : Int) (at_ : Int) (n_ : Int) : (funT A Try.prog cs 99 [V.agg [V.d (D.sl 1 s_0), V.d (D.sl 1 s_1), V.d (D.int IntKind.i64 s_2), V.d (D.int IntKind.i64 s_3)], V.d (D.int IntKind.i64 at_), V.d (D.int IntKind.i64 n_)]).run E = g99 A E s_0 s_1 s_2 s_3 at_ n_ := by kernel_rfl
def g100 (A : Sy) (E : Env) (s_0 : List (List D)) (s_1 : List (List D)) (s_2 : Int) (s_3 : Int) (at_ : Int) (n_ : Int) : Option PRes :=
  cutO (
    bif (A.ilt at_ s_3) then
      some (.inl [(D.bool (A.ilt s_2 (A.wrap IntKind.i64 (A.add at_ n_))))])
    else
      some (.inl [(D.bool false)])
  ) fun ds1 =>
  (opB (A.cell ds1 0)).bind fun b2 =>
  cutO (
    bif b2 then
      some (.inl [(D.bool (A.ilt s_2 s_3))])
    else
      some (.inl [(D.bool false)])
  ) fun ds3 =>
  (opB (A.cell ds3 0)).bind fun b4 =>
  some (PRes.val [(D.bool b4)])
theorem g100_eq (A : Sy) (E : Env) (s_0 : List (List D)) (s_1 : List (List D)) (s_2 : Int) (s_3 : Int) (at_ : Int) (n_ : Int) : (funT A Try.prog cs 100 [V.agg [V.d (D.sl 1 s_0), V.d (D.sl 1 s_1), V.d (D.int IntKind.i64 s_2), V.d (D.int IntKind.i64 s_3)], V.d (D.int IntKind.i64 at_), V.d (D.int IntKind.i64 n_)]).run E = g100 A E s_0 s_1 s_2 s_3 at_ n_ := by kernel_rfl
def g117 (A : Sy) (E : Env) (op_ : Int) : Option PRes :=
  bif (A.ieq op_ 3) then
    some (PRes.val [(D.int IntKind.i64 1)])
  else
    bif (A.ieq op_ 4) then
      some (PRes.val [(D.int IntKind.i64 1)])
    else
      bif (A.ieq op_ 5) then
        some (PRes.val [(D.int IntKind.i64 1)])
      else
        bif (A.ieq op_ 6) then
          some (PRes.val [(D.int IntKind.i64 1)])
        else
          bif (A.ieq op_ 7) then
            some (PRes.val [(D.int IntKind.i64 1)])
          else
            bif (A.ieq op_ 8) then
              some (PRes.val [(D.int IntKind.i64 2)])
            else
              bif (A.ieq op_ 9) then
                some (PRes.val [(D.int IntKind.i64 2)])
              else
                bif (A.ieq op_ 10) then
                  some (PRes.val [(D.int IntKind.i64 2)])
                else
                  bif (A.ieq op_ 11) then
                    some (PRes.val [(D.int IntKind.i64 4)])
                  else
                    bif (A.ieq op_ 12) then
                      some (PRes.val [(D.int IntKind.i64 4)])
                    else
                      bif (A.ieq op_ 13) then
                        some (PRes.val [(D.int IntKind.i64 3)])
                      else
                        bif (A.ieq op_ 14) then
                          some (PRes.val [(D.int IntKind.i64 3)])
                        else
                          bif (A.ieq op_ 15) then
                            some (PRes.val [(D.int IntKind.i64 3)])
                          else
                            bif (A.ieq op_ 16) then
                              some (PRes.val [(D.int IntKind.i64 3)])
                            else
                              some (PRes.val [(D.int IntKind.i64 0)])
theorem g117_eq (A : Sy) (E : Env) (op_ : Int) : (funT A Try.prog cs 117 [V.d (D.int IntKind.i64 op_)]).run E = g117 A E op_ := by kernel_rfl
def g118 (A : Sy) (E : Env) (l_ : List (List D)) : Option PRes :=
  (E.call 38 [(V.d (D.sl 1 l_)), (V.fn 147 [(V.pel [(D.sl 1 l_)])])]).bind fun p1 =>
  (opB (A.cell p1.leaves 0)).bind fun b3 =>
  some (PRes.val [(D.bool (A.bnot b3))])
theorem g118_eq (A : Sy) (E : Env) (l_ : List (List D)) : (funT A Try.prog cs 118 [V.d (D.sl 1 l_)]).run E = g118 A E l_ := by kernel_rfl
def g12 (A : Sy) (E : Env) (x_0 : List (List D)) (x_1 : List (List D)) (x_2 : Int) (x_3 : Int) (code_ : List (List D)) : Option PRes :=
  (E.call 14 [(V.agg [(V.d (D.sl 1 x_0)), (V.d (D.sl 1 x_1)), (V.d (D.int IntKind.i64 x_2)), (V.d (D.int IntKind.i64 x_3))])]).bind fun p1 =>
  (opB (A.cell p1.leaves 0)).bind fun b3 =>
  cutO (
    bif (A.bnot b3) then
      some (.inl [(D.bool true)])
    else
      some (.inl [(D.bool (A.ilt (A.rlen code_) 1))])
  ) fun ds4 =>
  (opB (A.cell ds4 0)).bind fun b5 =>
  cutO (
    bif b5 then
      some (.inl [(D.bool true)])
    else
      some (.inl [(D.bool (A.ilt 6000 (A.rlen code_)))])
  ) fun ds6 =>
  (opB (A.cell ds6 0)).bind fun b7 =>
  bif b7 then
    some (PRes.val [(D.int IntKind.i64 0), (D.bool false)])
  else
    E.lp (fun ds8 =>
      (opL (A.cell ds8 0) 4).bind fun l9 =>
      (opL (A.cell ds8 1) 4).bind fun l10 =>
      (opI (A.cell ds8 2) IntKind.i64).bind fun n11 =>
      (opI (A.cell ds8 3) IntKind.i64).bind fun n12 =>
      (opL (A.cell ds8 4) 1).bind fun l13 =>
      (opL (A.cell ds8 5) 1).bind fun l14 =>
      (opI (A.cell ds8 6) IntKind.i64).bind fun n15 =>
      (opI (A.cell ds8 7) IntKind.i64).bind fun n16 =>
      (opL (A.cell ds8 8) 2).bind fun l17 =>
      bif (A.ilt n12 n11) then
        bif (A.inr n12 (A.rlen l10)) then
          (opI (A.cell (A.row l10 n12) 0) IntKind.i64).bind fun n18 =>
          (opI (A.cell (A.row l10 n12) 1) IntKind.i64).bind fun n19 =>
          (opI (A.cell (A.row l10 n12) 2) IntKind.i64).bind fun n20 =>
          (opI (A.cell (A.row l10 n12) 3) IntKind.i64).bind fun n21 =>
          (opL (some (A.mval (D.sl 1 []) (D.int IntKind.i64 n12) l17)) 1).bind fun l22 =>
          cutO (
            bif (A.bnot (A.mhas (D.int IntKind.i64 n12) l17)) then
              some (.inl [(D.bool true)])
            else
              (E.call 31 [(V.agg [(V.d (D.int IntKind.i64 n18)), (V.d (D.int IntKind.i64 n19)), (V.d (D.int IntKind.i64 n20)), (V.d (D.int IntKind.i64 n21))])]).bind fun p23 =>
              (opB (A.cell p23.leaves 0)).bind fun b25 =>
              some (.inl [(D.bool (A.bnot b25))])
          ) fun ds26 =>
          (opB (A.cell ds26 0)).bind fun b27 =>
          bif b27 then
            some (.inr (PRes.val [(D.int IntKind.i64 n12), (D.bool false)]))
          else
            (E.call 32 [(V.agg [(V.d (D.sl 1 l13)), (V.d (D.sl 1 l14)), (V.d (D.int IntKind.i64 n15)), (V.d (D.int IntKind.i64 n16))]), (V.agg [(V.d (D.int IntKind.i64 n18)), (V.d (D.int IntKind.i64 n19)), (V.d (D.int IntKind.i64 n20)), (V.d (D.int IntKind.i64 n21))]), (V.d (D.sl 1 l22))]).bind fun p28 =>
            (opL (A.cell p28.leaves 0) 1).bind fun l30 =>
            (opB (A.cell p28.leaves 1)).bind fun b31 =>
            (E.call 33 [(V.d (D.sl 4 l9)), (V.d (D.int IntKind.i64 n12))]).bind fun p32 =>
            (opL (A.cell p32.leaves 0) 1).bind fun l34 =>
            (opB (A.cell p32.leaves 1)).bind fun b35 =>
            cutO (
              bif (A.bnot b31) then
                some (.inl [(D.bool true)])
              else
                some (.inl [(D.bool (A.bnot b35))])
            ) fun ds36 =>
            (opB (A.cell ds36 0)).bind fun b37 =>
            bif b37 then
              some (.inr (PRes.val [(D.int IntKind.i64 n12), (D.bool false)]))
            else
              E.lp (fun ds38 =>
                (opL (A.cell ds38 0) 4).bind fun l39 =>
                (opI (A.cell ds38 1) IntKind.i64).bind fun n40 =>
                (opL (A.cell ds38 2) 1).bind fun l41 =>
                (opL (A.cell ds38 3) 4).bind fun l42 =>
                (opI (A.cell ds38 4) IntKind.i64).bind fun n43 =>
                (opI (A.cell ds38 5) IntKind.i64).bind fun n44 =>
                (opL (A.cell ds38 6) 1).bind fun l45 =>
                (opI (A.cell ds38 7) IntKind.i64).bind fun n46 =>
                (opI (A.cell ds38 8) IntKind.i64).bind fun n47 =>
                (opL (A.cell ds38 9) 1).bind fun l48 =>
                (opL (A.cell ds38 10) 1).bind fun l49 =>
                (opI (A.cell ds38 11) IntKind.i64).bind fun n50 =>
                (opI (A.cell ds38 12) IntKind.i64).bind fun n51 =>
                (opL (A.cell ds38 13) 2).bind fun l52 =>
                bif (A.ilt n47 n46) then
                  bif (A.inr n47 (A.rlen l45)) then
                    (opI (A.cell (A.row l45 n47) 0) IntKind.i64).bind fun n53 =>
                    (opL (some (A.mval (D.sl 1 []) (D.int IntKind.i64 n53) l52)) 1).bind fun l54 =>
                    cutO (
                      bif (A.mhas (D.int IntKind.i64 n53) l52) then
                        (E.call 34 [(V.d (D.sl 1 l54)), (V.d (D.sl 1 l41))]).bind fun p55 =>
                        (opB (A.cell p55.leaves 0)).bind fun b57 =>
                        some (.inl [(D.bool (A.bnot b57))])
                      else
                        some (.inl [(D.bool false)])
                    ) fun ds58 =>
                    (opB (A.cell ds58 0)).bind fun b59 =>
                    bif b59 then
                      some (.inr (.inr (PRes.val [(D.int IntKind.i64 n40), (D.bool false)])))
                    else
                      some (.inl [(D.sl 4 l39), (D.int IntKind.i64 n40), (D.sl 1 l41), (D.sl 4 l42), (D.int IntKind.i64 n43), (D.int IntKind.i64 n44), (D.sl 1 l45), (D.int IntKind.i64 n46), (D.int IntKind.i64 (A.wrap IntKind.i64 (A.add n47 1))), (D.sl 1 l48), (D.sl 1 l49), (D.int IntKind.i64 n50), (D.int IntKind.i64 n51), (D.sl 2 (A.mput (D.int IntKind.i64 n53) (D.sl 1 l41) l52))])
                  else
                    none
                else
                  some (.inr (.inl [(D.sl 4 l39), (D.sl 4 l42), (D.int IntKind.i64 n43), (D.int IntKind.i64 (A.wrap IntKind.i64 (A.add n44 1))), (D.sl 1 l48), (D.sl 1 l49), (D.int IntKind.i64 n50), (D.int IntKind.i64 n51), (D.sl 2 l52)]))
              ) [(D.sl 4 l9), (D.int IntKind.i64 n12), (D.sl 1 l30), (D.sl 4 l10), (D.int IntKind.i64 n11), (D.int IntKind.i64 n12), (D.sl 1 l34), (D.int IntKind.i64 (A.rlen l34)), (D.int IntKind.i64 0), (D.sl 1 l13), (D.sl 1 l14), (D.int IntKind.i64 n15), (D.int IntKind.i64 n16), (D.sl 2 (A.mdel (D.int IntKind.i64 n12) l17))]
        else
          none
      else
        some (.inr (PRes.val [(D.int IntKind.i64 (A.rlen l9)), (D.bool true)]))
    ) [(D.sl 4 code_), (D.sl 4 code_), (D.int IntKind.i64 (A.rlen code_)), (D.int IntKind.i64 0), (D.sl 1 x_0), (D.sl 1 x_1), (D.int IntKind.i64 x_2), (D.int IntKind.i64 x_3), (D.sl 2 (A.mput (D.int IntKind.i64 0) (D.sl 1 []) []))]
theorem g12_eq (A : Sy) (E : Env) (x_0 : List (List D)) (x_1 : List (List D)) (x_2 : Int) (x_3 : Int) (code_ : List (List D)) : (funT A Try.prog cs 12 [V.agg [V.d (D.sl 1 x_0), V.d (D.sl 1 x_1), V.d (D.int IntKind.i64 x_2), V.d (D.int IntKind.i64 x_3)], V.d (D.sl 4 code_)]).run E = g12 A E x_0 x_1 x_2 x_3 code_ := by kernel_rfl
def g15 (A : Sy) (E : Env) (s_0 : List (List D)) (s_1 : List (List D)) (s_2 : Int) (s_3 : Int) : Option PRes :=
  cutO (
    bif (A.ilt 4 (A.rlen s_0)) then
      some (.inl [(D.bool true)])
    else
      some (.inl [(D.bool (A.ilt 1000 (A.rlen s_1)))])
  ) fun ds1 =>
  (opB (A.cell ds1 0)).bind fun b2 =>
  cutO (
    bif b2 then
      some (.inl [(D.bool true)])
    else
      some (.inl [(D.bool (A.ilt s_2 0))])
  ) fun ds3 =>
  (opB (A.cell ds3 0)).bind fun b4 =>
  cutO (
    bif b4 then
      some (.inl [(D.bool true)])
    else
      some (.inl [(D.bool (A.ilt (A.rlen s_1) s_3))])
  ) fun ds5 =>
  (opB (A.cell ds5 0)).bind fun b6 =>
  cutO (
    bif b6 then
      some (.inl [(D.bool true)])
    else
      some (.inl [(D.bool (A.ilt s_3 s_2))])
  ) fun ds7 =>
  (opB (A.cell ds7 0)).bind fun b8 =>
  bif b8 then
    some (PRes.val [(D.bool false)])
  else
    E.lp (fun ds9 =>
      (opI (A.cell ds9 0) IntKind.i64).bind fun n10 =>
      (opL (A.cell ds9 1) 1).bind fun l11 =>
      (opL (A.cell ds9 2) 1).bind fun l12 =>
      (opI (A.cell ds9 3) IntKind.i64).bind fun n13 =>
      (opI (A.cell ds9 4) IntKind.i64).bind fun n14 =>
      bif (A.ilt n10 (A.rlen l11)) then
        bif (A.inr n10 (A.rlen l11)) then
          (opI (A.cell (A.row l11 n10) 0) IntKind.i64).bind fun n15 =>
          bif (A.ilt n15 1) then
            some (.inr (PRes.val [(D.bool false)]))
          else
            some (.inl [(D.int IntKind.i64 (A.wrap IntKind.i64 (A.add n10 1))), (D.sl 1 l11), (D.sl 1 l12), (D.int IntKind.i64 n13), (D.int IntKind.i64 n14)])
        else
          none
      else
        E.lp (fun ds16 =>
          (opI (A.cell ds16 0) IntKind.i64).bind fun n17 =>
          (opL (A.cell ds16 1) 1).bind fun l18 =>
          (opL (A.cell ds16 2) 1).bind fun l19 =>
          (opI (A.cell ds16 3) IntKind.i64).bind fun n20 =>
          (opI (A.cell ds16 4) IntKind.i64).bind fun n21 =>
          bif (A.ilt n17 (A.rlen l19)) then
            bif (A.inr n17 (A.rlen l19)) then
              (opI (A.cell (A.row l19 n17) 0) IntKind.i64).bind fun n22 =>
              (E.call 42 [(V.agg [(V.d (D.sl 1 l18)), (V.d (D.sl 1 l19)), (V.d (D.int IntKind.i64 n20)), (V.d (D.int IntKind.i64 n21))]), (V.d (D.int IntKind.i64 n22))]).bind fun p23 =>
              (opB (A.cell p23.leaves 0)).bind fun b25 =>
              bif (A.bnot b25) then
                some (.inr (.inr (PRes.val [(D.bool false)])))
              else
                some (.inl [(D.int IntKind.i64 (A.wrap IntKind.i64 (A.add n17 1))), (D.sl 1 l18), (D.sl 1 l19), (D.int IntKind.i64 n20), (D.int IntKind.i64 n21)])
            else
              none
          else
            some (.inr (.inr (PRes.val [(D.bool true)])))
        ) [(D.int IntKind.i64 0), (D.sl 1 l11), (D.sl 1 l12), (D.int IntKind.i64 n13), (D.int IntKind.i64 n14)]
    ) [(D.int IntKind.i64 0), (D.sl 1 s_0), (D.sl 1 s_1), (D.int IntKind.i64 s_2), (D.int IntKind.i64 s_3)]
theorem g15_eq (A : Sy) (E : Env) (s_0 : List (List D)) (s_1 : List (List D)) (s_2 : Int) (s_3 : Int) : (funT A Try.prog cs 15 [V.agg [V.d (D.sl 1 s_0), V.d (D.sl 1 s_1), V.d (D.int IntKind.i64 s_2), V.d (D.int IntKind.i64 s_3)]]).run E = g15 A E s_0 s_1 s_2 s_3 := by kernel_rfl
def g42 (A : Sy) (E : Env) (s_0 : List (List D)) (s_1 : List (List D)) (s_2 : Int) (s_3 : Int) (k_ : Int) : Option PRes :=
  cutO (
    bif (A.ieq k_ 1) then
      some (.inl [(D.bool true)])
    else
      some (.inl [(D.bool (A.ieq k_ 2))])
  ) fun ds1 =>
  (opB (A.cell ds1 0)).bind fun b2 =>
  cutO (
    bif b2 then
      some (.inl [(D.bool true)])
    else
      bif (A.ile 3 k_) then
        some (.inl [(D.bool (A.ilt k_ (A.wrap IntKind.i64 (A.add 3 (A.rlen s_0)))))])
      else
        some (.inl [(D.bool false)])
  ) fun ds3 =>
  (opB (A.cell ds3 0)).bind fun b4 =>
  some (PRes.val [(D.bool b4)])
theorem g42_eq (A : Sy) (E : Env) (s_0 : List (List D)) (s_1 : List (List D)) (s_2 : Int) (s_3 : Int) (k_ : Int) : (funT A Try.prog cs 42 [V.agg [V.d (D.sl 1 s_0), V.d (D.sl 1 s_1), V.d (D.int IntKind.i64 s_2), V.d (D.int IntKind.i64 s_3)], V.d (D.int IntKind.i64 k_)]).run E = g42 A E s_0 s_1 s_2 s_3 k_ := by kernel_rfl
def g49 (A : Sy) (E : Env) (s_0 : List (List D)) (s_1 : List (List D)) (s_2 : Int) (s_3 : Int) (k_ : Int) (n_ : Int) : Option PRes :=
  bif (A.ieq k_ 2) then
    cutO (
      bif (A.ieq n_ 0) then
        some (.inl [(D.bool true)])
      else
        some (.inl [(D.bool (A.ieq n_ 1))])
    ) fun ds1 =>
    (opB (A.cell ds1 0)).bind fun b2 =>
    some (PRes.val [(D.bool b2)])
  else
    cutO (
      bif (A.ieq k_ 1) then
        some (.inl [(D.bool true)])
      else
        bif (A.ile 0 n_) then
          bif (A.inr (A.wrap IntKind.i64 (A.sub k_ 3)) (A.rlen s_0)) then
            (opI (A.cell (A.row s_0 (A.wrap IntKind.i64 (A.sub k_ 3))) 0) IntKind.i64).bind fun n3 =>
            some (.inl [(D.bool (A.ilt n_ n3))])
          else
            none
        else
          some (.inl [(D.bool false)])
    ) fun ds4 =>
    (opB (A.cell ds4 0)).bind fun b5 =>
    some (PRes.val [(D.bool b5)])
theorem g49_eq (A : Sy) (E : Env) (s_0 : List (List D)) (s_1 : List (List D)) (s_2 : Int) (s_3 : Int) (k_ : Int) (n_ : Int) : (funT A Try.prog cs 49 [V.agg [V.d (D.sl 1 s_0), V.d (D.sl 1 s_1), V.d (D.int IntKind.i64 s_2), V.d (D.int IntKind.i64 s_3)], V.d (D.int IntKind.i64 k_), V.d (D.int IntKind.i64 n_)]).run E = g49 A E s_0 s_1 s_2 s_3 k_ n_ := by kernel_rfl
def g67 (A : Sy) (E : Env) (n_ : Int) : Option PRes :=
  cutO (
    bif (A.ile 0 n_) then
      some (.inl [(D.bool (A.ile n_ 65535))])
    else
      some (.inl [(D.bool false)])
  ) fun ds1 =>
  (opB (A.cell ds1 0)).bind fun b2 =>
  some (PRes.val [(D.bool b2)])
theorem g67_eq (A : Sy) (E : Env) (n_ : Int) : (funT A Try.prog cs 67 [V.d (D.int IntKind.i64 n_)]).run E = g67 A E n_ := by kernel_rfl
def g68 (A : Sy) (E : Env) (row_ : List (List D)) (n_ : Int) (k_ : Int) : Option PRes :=
  bif (A.cutok 0 (A.wrap IntKind.i64 (A.sub (A.rlen row_) n_)) (A.rlen row_)) then
    bif (A.fits [] (A.cut row_ 0 (A.wrap IntKind.i64 (A.sub (A.rlen row_) n_))) 8) then
      bif (A.bnot (A.ieq k_ 0)) then
        bif (A.fits (A.rapp [] (A.cut row_ 0 (A.wrap IntKind.i64 (A.sub (A.rlen row_) n_)))) [[(D.int IntKind.i64 k_)]] 8) then
          some (PRes.own 3 1 (A.rapp (A.rapp [] (A.cut row_ 0 (A.wrap IntKind.i64 (A.sub (A.rlen row_) n_)))) [[(D.int IntKind.i64 k_)]]))
        else
          none
      else
        some (PRes.own 3 1 (A.rapp [] (A.cut row_ 0 (A.wrap IntKind.i64 (A.sub (A.rlen row_) n_)))))
    else
      none
  else
    none
theorem g68_eq (A : Sy) (E : Env) (row_ : List (List D)) (n_ : Int) (k_ : Int) : (funT A Try.prog cs 68 [V.d (D.sl 1 row_), V.d (D.int IntKind.i64 n_), V.d (D.int IntKind.i64 k_)]).run E = g68 A E row_ n_ k_ := by kernel_rfl
def g69 (A : Sy) (E : Env) (op_ : Int) (t_0 : Int) (t_1 : Int) (t_2 : Int) : Option PRes :=
  bif (A.ieq op_ 1) then
    (E.call 101 [(V.d (D.int IntKind.i64 1))]).bind fun p1 =>
    (opI (A.cell p1.leaves 0) IntKind.i64).bind fun n3 =>
    (opI (A.cell p1.leaves 1) IntKind.i64).bind fun n4 =>
    (opI (A.cell p1.leaves 2) IntKind.i64).bind fun n5 =>
    bif (A.deq [(D.int IntKind.i64 t_0), (D.int IntKind.i64 t_1), (D.int IntKind.i64 t_2)] [(D.int IntKind.i64 n3), (D.int IntKind.i64 n4), (D.int IntKind.i64 n5)]) then
      some (PRes.val [(D.int IntKind.i64 t_0), (D.int IntKind.i64 t_1), (D.int IntKind.i64 t_2), (D.bool true)])
    else
      bif (A.ieq op_ 2) then
        (E.call 101 [(V.d (D.int IntKind.i64 2))]).bind fun p6 =>
        (opI (A.cell p6.leaves 0) IntKind.i64).bind fun n8 =>
        (opI (A.cell p6.leaves 1) IntKind.i64).bind fun n9 =>
        (opI (A.cell p6.leaves 2) IntKind.i64).bind fun n10 =>
        bif (A.deq [(D.int IntKind.i64 t_0), (D.int IntKind.i64 t_1), (D.int IntKind.i64 t_2)] [(D.int IntKind.i64 n8), (D.int IntKind.i64 n9), (D.int IntKind.i64 n10)]) then
          some (PRes.val [(D.int IntKind.i64 t_0), (D.int IntKind.i64 t_1), (D.int IntKind.i64 t_2), (D.bool true)])
        else
          some (PRes.val [(D.int IntKind.i64 0), (D.int IntKind.i64 0), (D.int IntKind.i64 0), (D.bool false)])
      else
        some (PRes.val [(D.int IntKind.i64 0), (D.int IntKind.i64 0), (D.int IntKind.i64 0), (D.bool false)])
  else
    bif (A.ieq op_ 2) then
      (E.call 101 [(V.d (D.int IntKind.i64 2))]).bind fun p11 =>
      (opI (A.cell p11.leaves 0) IntKind.i64).bind fun n13 =>
      (opI (A.cell p11.leaves 1) IntKind.i64).bind fun n14 =>
      (opI (A.cell p11.leaves 2) IntKind.i64).bind fun n15 =>
      bif (A.deq [(D.int IntKind.i64 t_0), (D.int IntKind.i64 t_1), (D.int IntKind.i64 t_2)] [(D.int IntKind.i64 n13), (D.int IntKind.i64 n14), (D.int IntKind.i64 n15)]) then
        some (PRes.val [(D.int IntKind.i64 t_0), (D.int IntKind.i64 t_1), (D.int IntKind.i64 t_2), (D.bool true)])
      else
        some (PRes.val [(D.int IntKind.i64 0), (D.int IntKind.i64 0), (D.int IntKind.i64 0), (D.bool false)])
    else
      some (PRes.val [(D.int IntKind.i64 0), (D.int IntKind.i64 0), (D.int IntKind.i64 0), (D.bool false)])
theorem g69_eq (A : Sy) (E : Env) (op_ : Int) (t_0 : Int) (t_1 : Int) (t_2 : Int) : (funT A Try.prog cs 69 [V.d (D.int IntKind.i64 op_), V.agg [V.d (D.int IntKind.i64 t_0), V.d (D.int IntKind.i64 t_1), V.d (D.int IntKind.i64 t_2)]]).run E = g69 A E op_ t_0 t_1 t_2 := by kernel_rfl
def g70 (A : Sy) (E : Env) (k_ : Int) : Option PRes :=
  bif (A.ilt k_ 3) then
    some (PRes.val [(D.int IntKind.i64 k_), (D.int IntKind.i64 0), (D.int IntKind.i64 0)])
  else
    some (PRes.val [(D.int IntKind.i64 3), (D.int IntKind.i64 (A.wrap IntKind.i64 (A.sub k_ 3))), (D.int IntKind.i64 0)])
theorem g70_eq (A : Sy) (E : Env) (k_ : Int) : (funT A Try.prog cs 70 [V.d (D.int IntKind.i64 k_)]).run E = g70 A E k_ := by kernel_rfl
def g71 (A : Sy) (E : Env) (row_ : List (List D)) (back_ : Int) : Option PRes :=
  bif (A.ile (A.rlen row_) back_) then
    some (PRes.val [(D.int IntKind.i64 0)])
  else
    bif (A.inr (A.wrap IntKind.i64 (A.sub (A.wrap IntKind.i64 (A.sub (A.rlen row_) 1)) back_)) (A.rlen row_)) then
      (opI (A.cell (A.row row_ (A.wrap IntKind.i64 (A.sub (A.wrap IntKind.i64 (A.sub (A.rlen row_) 1)) back_))) 0) IntKind.i64).bind fun n1 =>
      some (PRes.val [(D.int IntKind.i64 n1)])
    else
      none
theorem g71_eq (A : Sy) (E : Env) (row_ : List (List D)) (back_ : Int) : (funT A Try.prog cs 71 [V.d (D.sl 1 row_), V.d (D.int IntKind.i64 back_)]).run E = g71 A E row_ back_ := by kernel_rfl
def g72 (A : Sy) (E : Env) (t_0 : Int) (t_1 : Int) (t_2 : Int) : Option PRes :=
  bif (A.ilt t_0 3) then
    some (PRes.val [(D.int IntKind.i64 t_0)])
  else
    some (PRes.val [(D.int IntKind.i64 (A.wrap IntKind.i64 (A.add 3 t_1)))])
theorem g72_eq (A : Sy) (E : Env) (t_0 : Int) (t_1 : Int) (t_2 : Int) : (funT A Try.prog cs 72 [V.agg [V.d (D.int IntKind.i64 t_0), V.d (D.int IntKind.i64 t_1), V.d (D.int IntKind.i64 t_2)]]).run E = g72 A E t_0 t_1 t_2 := by kernel_rfl
end Go.Vm
end

section
set_option maxRecDepth 100000
set_option maxHeartbeats 1000000
namespace Go.Vm
open Go.Proofs
theorem c60 (n lo hi : Int) : cF 60 [.d (.int .i64 n), .d (.int .i64 lo), .d (.int .i64 hi)] = some (.val [.bool (withinB n lo hi)]) := by
  refine cOf (by kernel_rfl) ?_
  rw [g60_eq]
  simp only [g60, sy_wrap, sy_add, sy_sub, sy_mul, sy_ieq, sy_ilt, sy_ile, sy_seq, sy_beq, sy_bor, sy_bnot, sy_imax, sy_imin, sy_rlen, sy_slen, sy_sapp, sy_inr, sy_nat, sy_cell0, sy_cellS, sy_skip0, sy_inrn, sy_rapp, sy_fits, sy_cutok, sy_cut, sy_scut, sy_sbyte, sy_mkok, sy_mkok0, sy_mkz, sy_rep, sy_head, sy_deq, eqDs_int, eqDs_nil, opI_int, opB_bool, opS_str, opL_sl, opM_own, leaves_val, leaves_own, Option.bind_some, cutO_bool, bif_bool, cutO_inl, cutO_inr, eF_call, eF_lp, Nat.zero_add, Nat.reduceAdd, Bool.cond_false_right, Bool.cond_true_left, Bool.cond_false_left, Bool.cond_true_right, Bool.not_true, Bool.not_false, Bool.not_not, eq_self, decide_true, decide_false, cond_true, cond_false, Int.reduceEq, Int.reduceLT, Int.reduceLE, Int.reduceSub, Int.reduceAdd, Bool.true_and, Bool.and_true, Bool.false_and, Bool.and_false, Bool.or_false, Bool.false_or, Bool.true_or, Bool.or_true, true_and, and_true]
  rfl
theorem c10 (a b : List (List D)) (lo hi : Int) : cF 10 [.agg [.d (.sl 1 a), .d (.sl 1 b), .d (.int .i64 lo), .d (.int .i64 hi)]] = some (.val [.bool (decide ((a.length : Int) ≤ 10) && decide ((b.length : Int) ≤ 1100))]) := by
  refine cOf (by kernel_rfl) ?_
  rw [g10_eq]
  simp only [g10, sy_wrap, sy_add, sy_sub, sy_mul, sy_ieq, sy_ilt, sy_ile, sy_seq, sy_beq, sy_bor, sy_bnot, sy_imax, sy_imin, sy_rlen, sy_slen, sy_sapp, sy_inr, sy_nat, sy_cell0, sy_cellS, sy_skip0, sy_inrn, sy_rapp, sy_fits, sy_cutok, sy_cut, sy_scut, sy_sbyte, sy_mkok, sy_mkok0, sy_mkz, sy_rep, sy_head, sy_deq, eqDs_int, eqDs_nil, opI_int, opB_bool, opS_str, opL_sl, opM_own, leaves_val, leaves_own, Option.bind_some, cutO_bool, bif_bool, cutO_inl, cutO_inr, eF_call, eF_lp, Nat.zero_add, Nat.reduceAdd, Bool.cond_false_right, Bool.cond_true_left, Bool.cond_false_left, Bool.cond_true_right, Bool.not_true, Bool.not_false, Bool.not_not, eq_self, decide_true, decide_false, cond_true, cond_false, Int.reduceEq, Int.reduceLT, Int.reduceLE, Int.reduceSub, Int.reduceAdd, Bool.true_and, Bool.and_true, Bool.false_and, Bool.and_false, Bool.or_false, Bool.false_or, Bool.true_or, Bool.or_true, true_and, and_true]
theorem c59 (x : Ins) : cF 59 [insV x] = some (.val [.bool (firstB x)]) := by
  unfold insV
  refine cOf (by kernel_rfl) ?_
  rw [g59_eq]
  simp only [g59, sy_wrap, sy_add, sy_sub, sy_mul, sy_ieq, sy_ilt, sy_ile, sy_seq, sy_beq, sy_bor, sy_bnot, sy_imax, sy_imin, sy_rlen, sy_slen, sy_sapp, sy_inr, sy_nat, sy_cell0, sy_cellS, sy_skip0, sy_inrn, sy_rapp, sy_fits, sy_cutok, sy_cut, sy_scut, sy_sbyte, sy_mkok, sy_mkok0, sy_mkz, sy_rep, sy_head, sy_deq, eqDs_int, eqDs_nil, opI_int, opB_bool, opS_str, opL_sl, opM_own, leaves_val, leaves_own, Option.bind_some, cutO_bool, bif_bool, cutO_inl, cutO_inr, eF_call, eF_lp, Nat.zero_add, Nat.reduceAdd, Bool.cond_false_right, Bool.cond_true_left, Bool.cond_false_left, Bool.cond_true_right, Bool.not_true, Bool.not_false, Bool.not_not, eq_self, decide_true, decide_false, cond_true, cond_false, Int.reduceEq, Int.reduceLT, Int.reduceLE, Int.reduceSub, Int.reduceAdd, Bool.true_and, Bool.and_true, Bool.false_and, Bool.and_false, Bool.or_false, Bool.false_or, Bool.true_or, Bool.or_true, true_and, and_true, c60]
  unfold firstB; grind
theorem c39 (n : Int) : cF 39 [.d (.int .i64 n)] = some (.val [.bool (decide (n < 1))]) := by
  refine cOf (by kernel_rfl) ?_
  rw [g39_eq]
  simp only [g39, sy_wrap, sy_add, sy_sub, sy_mul, sy_ieq, sy_ilt, sy_ile, sy_seq, sy_beq, sy_bor, sy_bnot, sy_imax, sy_imin, sy_rlen, sy_slen, sy_sapp, sy_inr, sy_nat, sy_cell0, sy_cellS, sy_skip0, sy_inrn, sy_rapp, sy_fits, sy_cutok, sy_cut, sy_scut, sy_sbyte, sy_mkok, sy_mkok0, sy_mkz, sy_rep, sy_head, sy_deq, eqDs_int, eqDs_nil, opI_int, opB_bool, opS_str, opL_sl, opM_own, leaves_val, leaves_own, Option.bind_some, cutO_bool, bif_bool, cutO_inl, cutO_inr, eF_call, eF_lp, Nat.zero_add, Nat.reduceAdd, Bool.cond_false_right, Bool.cond_true_left, Bool.cond_false_left, Bool.cond_true_right, Bool.not_true, Bool.not_false, Bool.not_not, eq_self, decide_true, decide_false, cond_true, cond_false, Int.reduceEq, Int.reduceLT, Int.reduceLE, Int.reduceSub, Int.reduceAdd, Bool.true_and, Bool.and_true, Bool.false_and, Bool.and_false, Bool.or_false, Bool.false_or, Bool.true_or, Bool.or_true, true_and, and_true]
def shV (a b : List (List D)) (lo hi : Int) : V := .agg [.d (.sl 1 a), .d (.sl 1 b), .d (.int .i64 lo), .d (.int .i64 hi)]
theorem c41 (la lb : List Int) (lo hi k : Int) (h : la.length ≤ 1000) : cF 41 [shV (irows la) (irows lb) lo hi, .d (.int .i64 k)] = some (.val [.bool (withinB k 1 (2 + il la))]) := by
  unfold shV
  refine cOf (by kernel_rfl) ?_
  rw [g41_eq]
  simp only [g41, sy_wrap, sy_add, sy_sub, sy_mul, sy_ieq, sy_ilt, sy_ile, sy_seq, sy_beq, sy_bor, sy_bnot, sy_imax, sy_imin, sy_rlen, sy_slen, sy_sapp, sy_inr, sy_nat, sy_cell0, sy_cellS, sy_skip0, sy_inrn, sy_rapp, sy_fits, sy_cutok, sy_cut, sy_scut, sy_sbyte, sy_mkok, sy_mkok0, sy_mkz, sy_rep, sy_head, sy_deq, eqDs_int, eqDs_nil, opI_int, opB_bool, opS_str, opL_sl, opM_own, leaves_val, leaves_own, Option.bind_some, cutO_bool, bif_bool, cutO_inl, cutO_inr, eF_call, eF_lp, Nat.zero_add, Nat.reduceAdd, Bool.cond_false_right, Bool.cond_true_left, Bool.cond_false_left, Bool.cond_true_right, Bool.not_true, Bool.not_false, Bool.not_not, eq_self, decide_true, decide_false, cond_true, cond_false, Int.reduceEq, Int.reduceLT, Int.reduceLE, Int.reduceSub, Int.reduceAdd, Bool.true_and, Bool.and_true, Bool.false_and, Bool.and_false, Bool.or_false, Bool.false_or, Bool.true_or, Bool.or_true, true_and, and_true, irows_len]
  rw [wrap_id (by omega) (by omega)]
  unfold withinB il
  grind
theorem c58 (x : Ins) : ∃ s, cF 58 [.d (.int .i64 x.op)] = some (.val [.str s, .bool (x.op == 1 || x.op == 2 || x.op == 3 || x.op == 6 || x.op == 7 || x.op == 8 || x.op == 9), .bool (x.op == 4 || x.op == 5), .bool (x.op == 8 || x.op == 9), .bool (x.op == 1), .bool (withinB x.op 1 10)]) := by
  obtain ⟨op, a, b, n⟩ := x
  simp only
  by_cases h : 1 ≤ op ∧ op ≤ 10
  · have : op = 1 ∨ op = 2 ∨ op = 3 ∨ op = 4 ∨ op = 5 ∨ op = 6 ∨ op = 7 ∨ op = 8 ∨ op = 9 ∨ op = 10 := by omega
    rcases this with rfl | rfl | rfl | rfl | rfl | rfl | rfl | rfl | rfl | rfl
    all_goals
      refine cOfE (by kernel_rfl) ?_
      simp only [g58_eq, g58, sy_wrap, sy_add, sy_sub, sy_mul, sy_ieq, sy_ilt, sy_ile, sy_seq, sy_beq, sy_bor, sy_bnot, sy_imax, sy_imin, sy_rlen, sy_slen, sy_sapp, sy_inr, sy_nat, sy_cell0, sy_cellS, sy_skip0, sy_inrn, sy_rapp, sy_fits, sy_cutok, sy_cut, sy_scut, sy_sbyte, sy_mkok, sy_mkok0, sy_mkz, sy_rep, sy_head, sy_deq, eqDs_int, eqDs_nil, opI_int, opB_bool, opS_str, opL_sl, opM_own, leaves_val, leaves_own, Option.bind_some, cutO_bool, bif_bool, cutO_inl, cutO_inr, eF_call, eF_lp, Nat.zero_add, Nat.reduceAdd, Bool.cond_false_right, Bool.cond_true_left, Bool.cond_false_left, Bool.cond_true_right, Bool.not_true, Bool.not_false, Bool.not_not, eq_self, decide_true, decide_false, cond_true, cond_false, Int.reduceEq, Int.reduceLT, Int.reduceLE, Int.reduceSub, Int.reduceAdd, Bool.true_and, Bool.and_true, Bool.false_and, Bool.and_false, Bool.or_false, Bool.false_or, Bool.true_or, Bool.or_true, true_and, and_true]
      exact ⟨_, rfl⟩
  · refine cOfE (by kernel_rfl) ?_
    simp only [g58_eq, g58, sy_wrap, sy_add, sy_sub, sy_mul, sy_ieq, sy_ilt, sy_ile, sy_seq, sy_beq, sy_bor, sy_bnot, sy_imax, sy_imin, sy_rlen, sy_slen, sy_sapp, sy_inr, sy_nat, sy_cell0, sy_cellS, sy_skip0, sy_inrn, sy_rapp, sy_fits, sy_cutok, sy_cut, sy_scut, sy_sbyte, sy_mkok, sy_mkok0, sy_mkz, sy_rep, sy_head, sy_deq, eqDs_int, eqDs_nil, opI_int, opB_bool, opS_str, opL_sl, opM_own, leaves_val, leaves_own, Option.bind_some, cutO_bool, bif_bool, cutO_inl, cutO_inr, eF_call, eF_lp, Nat.zero_add, Nat.reduceAdd, Bool.cond_false_right, Bool.cond_true_left, Bool.cond_false_left, Bool.cond_true_right, Bool.not_true, Bool.not_false, Bool.not_not, eq_self, decide_true, decide_false, cond_true, cond_false, Int.reduceEq, Int.reduceLT, Int.reduceLE, Int.reduceSub, Int.reduceAdd, Bool.true_and, Bool.and_true, Bool.false_and, Bool.and_false, Bool.or_false, Bool.false_or, Bool.true_or, Bool.or_true, true_and, and_true]
    refine ⟨bs [], ?_⟩
    rw [show withinB op 1 10 = false from by rw [withinB_false]; omega]
    have e : op ≠ 1 ∧ op ≠ 2 ∧ op ≠ 3 ∧ op ≠ 4 ∧ op ≠ 5 ∧ op ≠ 6 ∧ op ≠ 7 ∧ op ≠ 8 ∧ op ≠ 9 ∧ op ≠ 10 := by omega
    simp [e]
theorem c31 (x : Ins) : cF 31 [insV x] = some (.val [.bool (rightB x)]) := by
  obtain ⟨s, h58⟩ := c58 x
  have h59 := c59 x
  unfold insV at *
  refine cOf (by kernel_rfl) ?_
  rw [g31_eq]
  simp only [g31, sy_wrap, sy_add, sy_sub, sy_mul, sy_ieq, sy_ilt, sy_ile, sy_seq, sy_beq, sy_bor, sy_bnot, sy_imax, sy_imin, sy_rlen, sy_slen, sy_sapp, sy_inr, sy_nat, sy_cell0, sy_cellS, sy_skip0, sy_inrn, sy_rapp, sy_fits, sy_cutok, sy_cut, sy_scut, sy_sbyte, sy_mkok, sy_mkok0, sy_mkz, sy_rep, sy_head, sy_deq, eqDs_int, eqDs_nil, opI_int, opB_bool, opS_str, opL_sl, opM_own, leaves_val, leaves_own, Option.bind_some, cutO_bool, bif_bool, cutO_inl, cutO_inr, eF_call, eF_lp, Nat.zero_add, Nat.reduceAdd, Bool.cond_false_right, Bool.cond_true_left, Bool.cond_false_left, Bool.cond_true_right, Bool.not_true, Bool.not_false, Bool.not_not, eq_self, decide_true, decide_false, cond_true, cond_false, Int.reduceEq, Int.reduceLT, Int.reduceLE, Int.reduceSub, Int.reduceAdd, Bool.true_and, Bool.and_true, Bool.false_and, Bool.and_false, Bool.or_false, Bool.false_or, Bool.true_or, Bool.or_true, true_and, and_true, h58, h59, c60]
  rw [right_eq]
  simp only [show ∀ a b : Int, (a == b) = decide (a = b) from fun a b => by rw [Bool.eq_iff_iff]; simp]
  generalize withinB x.op 1 10 = w
  generalize firstB x = f
  clear h58 h59
  generalize decide (x.op = 1) = a
  generalize decide (x.n = 0) = b
  generalize decide (x.op = 8) = c
  generalize decide (x.op = 9) = d
  generalize withinB x.b 1 8 = u
  generalize decide (x.b = 0) = v
  cases w <;> cases f <;> cases a <;> cases b <;> cases c <;> cases d <;> rfl
theorem c62 (la lb : List Int) (lo hi k n : Int) (hl : la.length ≤ 1000) (h1 : 1 ≤ k) (h2 : k < 3 + il la) : cF 62 [shV (irows la) (irows lb) lo hi, .d (.int .i64 k), .d (.int .i64 n)] = some (.val [.bool (valueB la k n)]) := by
  unfold shV
  unfold il at h2
  refine cOf (by kernel_rfl) ?_
  rw [g62_eq]
  simp only [g62, sy_wrap, sy_add, sy_sub, sy_mul, sy_ieq, sy_ilt, sy_ile, sy_seq, sy_beq, sy_bor, sy_bnot, sy_imax, sy_imin, sy_rlen, sy_slen, sy_sapp, sy_inr, sy_nat, sy_cell0, sy_cellS, sy_skip0, sy_inrn, sy_rapp, sy_fits, sy_cutok, sy_cut, sy_scut, sy_sbyte, sy_mkok, sy_mkok0, sy_mkz, sy_rep, sy_head, sy_deq, eqDs_int, eqDs_nil, opI_int, opB_bool, opS_str, opL_sl, opM_own, leaves_val, leaves_own, Option.bind_some, cutO_bool, bif_bool, cutO_inl, cutO_inr, eF_call, eF_lp, Nat.zero_add, Nat.reduceAdd, Bool.cond_false_right, Bool.cond_true_left, Bool.cond_false_left, Bool.cond_true_right, Bool.not_true, Bool.not_false, Bool.not_not, eq_self, decide_true, decide_false, cond_true, cond_false, Int.reduceEq, Int.reduceLT, Int.reduceLE, Int.reduceSub, Int.reduceAdd, Bool.true_and, Bool.and_true, Bool.false_and, Bool.and_false, Bool.or_false, Bool.false_or, Bool.true_or, Bool.or_true, true_and, and_true, irows_len]
  unfold valueB
  by_cases k1 : k = 1
  · simp [k1]
  by_cases k2 : k = 2
  · subst k2; rfl
  simp (disch := omega) only [wrap_id, decT, decF, sy_wrap, sy_add, sy_sub, sy_mul, sy_ieq, sy_ilt, sy_ile, sy_seq, sy_beq, sy_bor, sy_bnot, sy_imax, sy_imin, sy_rlen, sy_slen, sy_sapp, sy_inr, sy_nat, sy_cell0, sy_cellS, sy_skip0, sy_inrn, sy_rapp, sy_fits, sy_cutok, sy_cut, sy_scut, sy_sbyte, sy_mkok, sy_mkok0, sy_mkz, sy_rep, sy_head, sy_deq, eqDs_int, eqDs_nil, opI_int, opB_bool, opS_str, opL_sl, opM_own, leaves_val, leaves_own, Option.bind_some, cutO_bool, bif_bool, cutO_inl, cutO_inr, eF_call, eF_lp, Nat.zero_add, Nat.reduceAdd, Bool.cond_false_right, Bool.cond_true_left, Bool.cond_false_left, Bool.cond_true_right, Bool.not_true, Bool.not_false, Bool.not_not, eq_self, decide_true, decide_false, cond_true, cond_false, Int.reduceEq, Int.reduceLT, Int.reduceLE, Int.reduceSub, Int.reduceAdd, Bool.true_and, Bool.and_true, Bool.false_and, Bool.and_false, Bool.or_false, Bool.false_or, Bool.true_or, Bool.or_true, true_and, and_true, irows_cell]
  rw [if_neg k1, if_neg k2]
end Go.Vm
end

section
set_option maxRecDepth 100000
set_option maxHeartbeats 1000000
namespace Go.Vm
open Go.Proofs
theorem c75_39 (l : List Int) (hl : l.length ≤ 100000) : cF 75 [.d (.sl 1 (irows l)), .fn 39 []] = some (.val [.int .i64 (idxI (fun n => decide (n < 1)) l 0)]) := by
  refine cOf (by kernel_rfl) ?_
  rw [g75_39_eq]
  simp only [g75_39, sy_wrap, sy_add, sy_sub, sy_mul, sy_ieq, sy_ilt, sy_ile, sy_seq, sy_beq, sy_bor, sy_bnot, sy_imax, sy_imin, sy_rlen, sy_slen, sy_sapp, sy_inr, sy_nat, sy_cell0, sy_cellS, sy_skip0, sy_inrn, sy_rapp, sy_fits, sy_cutok, sy_cut, sy_scut, sy_sbyte, sy_mkok, sy_mkok0, sy_mkz, sy_rep, sy_head, sy_deq, eqDs_int, eqDs_nil, opI_int, opB_bool, opS_str, opL_sl, opM_own, leaves_val, leaves_own, Option.bind_some, cutO_bool, bif_bool, cutO_inl, cutO_inr, eF_call, eF_lp, Nat.zero_add, Nat.reduceAdd, Bool.cond_false_right, Bool.cond_true_left, Bool.cond_false_left, Bool.cond_true_right, Bool.not_true, Bool.not_false, Bool.not_not, eq_self, decide_true, decide_false, cond_true, cond_false, Int.reduceEq, Int.reduceLT, Int.reduceLE, Int.reduceSub, Int.reduceAdd, Bool.true_and, Bool.and_true, Bool.false_and, Bool.and_false, Bool.or_false, Bool.false_or, Bool.true_or, Bool.or_true, true_and, and_true]
  refine idx_loop (fun n => decide (n < 1)) l (fun i => [.sl 1 (irows l), .int .i64 ((irows l).length : Int), .int .i64 i]) (fun i x hx => ?_) ?_
  · have hlt := (List.getElem?_eq_some_iff.1 hx).1
    simp only [sy_wrap, sy_add, sy_sub, sy_mul, sy_ieq, sy_ilt, sy_ile, sy_seq, sy_beq, sy_bor, sy_bnot, sy_imax, sy_imin, sy_rlen, sy_slen, sy_sapp, sy_inr, sy_nat, sy_cell0, sy_cellS, sy_skip0, sy_inrn, sy_rapp, sy_fits, sy_cutok, sy_cut, sy_scut, sy_sbyte, sy_mkok, sy_mkok0, sy_mkz, sy_rep, sy_head, sy_deq, eqDs_int, eqDs_nil, opI_int, opB_bool, opS_str, opL_sl, opM_own, leaves_val, leaves_own, Option.bind_some, cutO_bool, bif_bool, cutO_inl, cutO_inr, eF_call, eF_lp, Nat.zero_add, Nat.reduceAdd, Bool.cond_false_right, Bool.cond_true_left, Bool.cond_false_left, Bool.cond_true_right, Bool.not_true, Bool.not_false, Bool.not_not, eq_self, decide_true, decide_false, cond_true, cond_false, Int.reduceEq, Int.reduceLT, Int.reduceLE, Int.reduceSub, Int.reduceAdd, Bool.true_and, Bool.and_true, Bool.false_and, Bool.and_false, Bool.or_false, Bool.false_or, Bool.true_or, Bool.or_true, true_and, and_true, irows_len, ilt_at hlt, inr_at hlt, irows_at hx, c39, wrap_succ hlt (by omega)]
  · simp only [sy_wrap, sy_add, sy_sub, sy_mul, sy_ieq, sy_ilt, sy_ile, sy_seq, sy_beq, sy_bor, sy_bnot, sy_imax, sy_imin, sy_rlen, sy_slen, sy_sapp, sy_inr, sy_nat, sy_cell0, sy_cellS, sy_skip0, sy_inrn, sy_rapp, sy_fits, sy_cutok, sy_cut, sy_scut, sy_sbyte, sy_mkok, sy_mkok0, sy_mkz, sy_rep, sy_head, sy_deq, eqDs_int, eqDs_nil, opI_int, opB_bool, opS_str, opL_sl, opM_own, leaves_val, leaves_own, Option.bind_some, cutO_bool, bif_bool, cutO_inl, cutO_inr, eF_call, eF_lp, Nat.zero_add, Nat.reduceAdd, Bool.cond_false_right, Bool.cond_true_left, Bool.cond_false_left, Bool.cond_true_right, Bool.not_true, Bool.not_false, Bool.not_not, eq_self, decide_true, decide_false, cond_true, cond_false, Int.reduceEq, Int.reduceLT, Int.reduceLE, Int.reduceSub, Int.reduceAdd, Bool.true_and, Bool.and_true, Bool.false_and, Bool.and_false, Bool.or_false, Bool.false_or, Bool.true_or, Bool.or_true, true_and, and_true, irows_len, ilt_self]
theorem c38_39 (l : List Int) (hl : l.length ≤ 100000) : cF 38 [.d (.sl 1 (irows l)), .fn 39 []] = some (.val [.bool (l.any fun n => decide (n < 1))]) := by
  refine cOf (by kernel_rfl) ?_
  rw [g38_39_eq]
  simp only [g38_39, sy_wrap, sy_add, sy_sub, sy_mul, sy_ieq, sy_ilt, sy_ile, sy_seq, sy_beq, sy_bor, sy_bnot, sy_imax, sy_imin, sy_rlen, sy_slen, sy_sapp, sy_inr, sy_nat, sy_cell0, sy_cellS, sy_skip0, sy_inrn, sy_rapp, sy_fits, sy_cutok, sy_cut, sy_scut, sy_sbyte, sy_mkok, sy_mkok0, sy_mkz, sy_rep, sy_head, sy_deq, eqDs_int, eqDs_nil, opI_int, opB_bool, opS_str, opL_sl, opM_own, leaves_val, leaves_own, Option.bind_some, cutO_bool, bif_bool, cutO_inl, cutO_inr, eF_call, eF_lp, Nat.zero_add, Nat.reduceAdd, Bool.cond_false_right, Bool.cond_true_left, Bool.cond_false_left, Bool.cond_true_right, Bool.not_true, Bool.not_false, Bool.not_not, eq_self, decide_true, decide_false, cond_true, cond_false, Int.reduceEq, Int.reduceLT, Int.reduceLE, Int.reduceSub, Int.reduceAdd, Bool.true_and, Bool.and_true, Bool.false_and, Bool.and_false, Bool.or_false, Bool.false_or, Bool.true_or, Bool.or_true, true_and, and_true, c75_39 l hl]
  rw [idxI_any _ _ _ (by omega)]
end Go.Vm
end

section
set_option maxRecDepth 100000
set_option maxHeartbeats 1000000
namespace Go.Vm
open Go.Proofs
theorem c40 (la lb : List Int) (lo hi n : Int) (h : la.length ≤ 1000) : cF 40 [.d (.int .i64 n), .pel [.sl 1 (irows la), .sl 1 (irows lb), .int .i64 lo, .int .i64 hi]] = some (.val [.bool (!withinB n 1 (2 + il la))]) := by
  have h41 := c41 la lb lo hi n h
  unfold shV at h41
  refine cOf (by kernel_rfl) ?_
  rw [g40c_eq]
  simp only [g40c, sy_wrap, sy_add, sy_sub, sy_mul, sy_ieq, sy_ilt, sy_ile, sy_seq, sy_beq, sy_bor, sy_bnot, sy_imax, sy_imin, sy_rlen, sy_slen, sy_sapp, sy_inr, sy_nat, sy_cell0, sy_cellS, sy_skip0, sy_inrn, sy_rapp, sy_fits, sy_cutok, sy_cut, sy_scut, sy_sbyte, sy_mkok, sy_mkok0, sy_mkz, sy_rep, sy_head, sy_deq, eqDs_int, eqDs_nil, opI_int, opB_bool, opS_str, opL_sl, opM_own, leaves_val, leaves_own, Option.bind_some, cutO_bool, bif_bool, cutO_inl, cutO_inr, eF_call, eF_lp, Nat.zero_add, Nat.reduceAdd, Bool.cond_false_right, Bool.cond_true_left, Bool.cond_false_left, Bool.cond_true_right, Bool.not_true, Bool.not_false, Bool.not_not, eq_self, decide_true, decide_false, cond_true, cond_false, Int.reduceEq, Int.reduceLT, Int.reduceLE, Int.reduceSub, Int.reduceAdd, Bool.true_and, Bool.and_true, Bool.false_and, Bool.and_false, Bool.or_false, Bool.false_or, Bool.true_or, Bool.or_true, true_and, and_true, h41]
theorem c75_40 (l la lb : List Int) (lo hi : Int) (hl : l.length ≤ 100000) (h : la.length ≤ 1000) : cF 75 [.d (.sl 1 (irows l)), .fn 40 [.pel [.sl 1 (irows la), .sl 1 (irows lb), .int .i64 lo, .int .i64 hi]]] = some (.val [.int .i64 (idxI (fun n => !withinB n 1 (2 + il la)) l 0)]) := by
  refine cOf (by kernel_rfl) ?_
  rw [g75_40_eq]
  simp only [g75_40, sy_wrap, sy_add, sy_sub, sy_mul, sy_ieq, sy_ilt, sy_ile, sy_seq, sy_beq, sy_bor, sy_bnot, sy_imax, sy_imin, sy_rlen, sy_slen, sy_sapp, sy_inr, sy_nat, sy_cell0, sy_cellS, sy_skip0, sy_inrn, sy_rapp, sy_fits, sy_cutok, sy_cut, sy_scut, sy_sbyte, sy_mkok, sy_mkok0, sy_mkz, sy_rep, sy_head, sy_deq, eqDs_int, eqDs_nil, opI_int, opB_bool, opS_str, opL_sl, opM_own, leaves_val, leaves_own, Option.bind_some, cutO_bool, bif_bool, cutO_inl, cutO_inr, eF_call, eF_lp, Nat.zero_add, Nat.reduceAdd, Bool.cond_false_right, Bool.cond_true_left, Bool.cond_false_left, Bool.cond_true_right, Bool.not_true, Bool.not_false, Bool.not_not, eq_self, decide_true, decide_false, cond_true, cond_false, Int.reduceEq, Int.reduceLT, Int.reduceLE, Int.reduceSub, Int.reduceAdd, Bool.true_and, Bool.and_true, Bool.false_and, Bool.and_false, Bool.or_false, Bool.false_or, Bool.true_or, Bool.or_true, true_and, and_true]
  refine idx_loop (fun n => !withinB n 1 (2 + il la)) l (fun i => [.sl 1 (irows l), .sl 1 (irows la), .sl 1 (irows lb), .int .i64 lo, .int .i64 hi, .int .i64 ((irows l).length : Int), .int .i64 i]) (fun i x hx => ?_) ?_
  · have hlt := (List.getElem?_eq_some_iff.1 hx).1
    simp only [sy_wrap, sy_add, sy_sub, sy_mul, sy_ieq, sy_ilt, sy_ile, sy_seq, sy_beq, sy_bor, sy_bnot, sy_imax, sy_imin, sy_rlen, sy_slen, sy_sapp, sy_inr, sy_nat, sy_cell0, sy_cellS, sy_skip0, sy_inrn, sy_rapp, sy_fits, sy_cutok, sy_cut, sy_scut, sy_sbyte, sy_mkok, sy_mkok0, sy_mkz, sy_rep, sy_head, sy_deq, eqDs_int, eqDs_nil, opI_int, opB_bool, opS_str, opL_sl, opM_own, leaves_val, leaves_own, Option.bind_some, cutO_bool, bif_bool, cutO_inl, cutO_inr, eF_call, eF_lp, Nat.zero_add, Nat.reduceAdd, Bool.cond_false_right, Bool.cond_true_left, Bool.cond_false_left, Bool.cond_true_right, Bool.not_true, Bool.not_false, Bool.not_not, eq_self, decide_true, decide_false, cond_true, cond_false, Int.reduceEq, Int.reduceLT, Int.reduceLE, Int.reduceSub, Int.reduceAdd, Bool.true_and, Bool.and_true, Bool.false_and, Bool.and_false, Bool.or_false, Bool.false_or, Bool.true_or, Bool.or_true, true_and, and_true, irows_len, ilt_at hlt, inr_at hlt, irows_at hx, c40 la lb lo hi _ h, wrap_succ hlt (by omega)]
  · simp only [sy_wrap, sy_add, sy_sub, sy_mul, sy_ieq, sy_ilt, sy_ile, sy_seq, sy_beq, sy_bor, sy_bnot, sy_imax, sy_imin, sy_rlen, sy_slen, sy_sapp, sy_inr, sy_nat, sy_cell0, sy_cellS, sy_skip0, sy_inrn, sy_rapp, sy_fits, sy_cutok, sy_cut, sy_scut, sy_sbyte, sy_mkok, sy_mkok0, sy_mkz, sy_rep, sy_head, sy_deq, eqDs_int, eqDs_nil, opI_int, opB_bool, opS_str, opL_sl, opM_own, leaves_val, leaves_own, Option.bind_some, cutO_bool, bif_bool, cutO_inl, cutO_inr, eF_call, eF_lp, Nat.zero_add, Nat.reduceAdd, Bool.cond_false_right, Bool.cond_true_left, Bool.cond_false_left, Bool.cond_true_right, Bool.not_true, Bool.not_false, Bool.not_not, eq_self, decide_true, decide_false, cond_true, cond_false, Int.reduceEq, Int.reduceLT, Int.reduceLE, Int.reduceSub, Int.reduceAdd, Bool.true_and, Bool.and_true, Bool.false_and, Bool.and_false, Bool.or_false, Bool.false_or, Bool.true_or, Bool.or_true, true_and, and_true, irows_len, ilt_self]
theorem c38_40 (l la lb : List Int) (lo hi : Int) (hl : l.length ≤ 100000) (h : la.length ≤ 1000) : cF 38 [.d (.sl 1 (irows l)), .fn 40 [.pel [.sl 1 (irows la), .sl 1 (irows lb), .int .i64 lo, .int .i64 hi]]] = some (.val [.bool (l.any fun n => !withinB n 1 (2 + il la))]) := by
  refine cOf (by kernel_rfl) ?_
  rw [g38_40_eq]
  simp only [g38_40, sy_wrap, sy_add, sy_sub, sy_mul, sy_ieq, sy_ilt, sy_ile, sy_seq, sy_beq, sy_bor, sy_bnot, sy_imax, sy_imin, sy_rlen, sy_slen, sy_sapp, sy_inr, sy_nat, sy_cell0, sy_cellS, sy_skip0, sy_inrn, sy_rapp, sy_fits, sy_cutok, sy_cut, sy_scut, sy_sbyte, sy_mkok, sy_mkok0, sy_mkz, sy_rep, sy_head, sy_deq, eqDs_int, eqDs_nil, opI_int, opB_bool, opS_str, opL_sl, opM_own, leaves_val, leaves_own, Option.bind_some, cutO_bool, bif_bool, cutO_inl, cutO_inr, eF_call, eF_lp, Nat.zero_add, Nat.reduceAdd, Bool.cond_false_right, Bool.cond_true_left, Bool.cond_false_left, Bool.cond_true_right, Bool.not_true, Bool.not_false, Bool.not_not, eq_self, decide_true, decide_false, cond_true, cond_false, Int.reduceEq, Int.reduceLT, Int.reduceLE, Int.reduceSub, Int.reduceAdd, Bool.true_and, Bool.and_true, Bool.false_and, Bool.and_false, Bool.or_false, Bool.false_or, Bool.true_or, Bool.or_true, true_and, and_true, c75_40 l la lb lo hi hl h]
  rw [idxI_any _ _ _ (by omega)]
theorem c66 (n at_ : Int) (c : List (List D)) : cF 66 [.d (.int .i64 n), .pel [.int .i64 at_], .pel [.sl 4 c]] = some (.val [.bool (decide (n ≤ at_) || decide ((c.length : Int) ≤ n))]) := by
  refine cOf (by kernel_rfl) ?_
  rw [g66c_eq]
  simp only [g66c, sy_wrap, sy_add, sy_sub, sy_mul, sy_ieq, sy_ilt, sy_ile, sy_seq, sy_beq, sy_bor, sy_bnot, sy_imax, sy_imin, sy_rlen, sy_slen, sy_sapp, sy_inr, sy_nat, sy_cell0, sy_cellS, sy_skip0, sy_inrn, sy_rapp, sy_fits, sy_cutok, sy_cut, sy_scut, sy_sbyte, sy_mkok, sy_mkok0, sy_mkz, sy_rep, sy_head, sy_deq, eqDs_int, eqDs_nil, opI_int, opB_bool, opS_str, opL_sl, opM_own, leaves_val, leaves_own, Option.bind_some, cutO_bool, bif_bool, cutO_inl, cutO_inr, eF_call, eF_lp, Nat.zero_add, Nat.reduceAdd, Bool.cond_false_right, Bool.cond_true_left, Bool.cond_false_left, Bool.cond_true_right, Bool.not_true, Bool.not_false, Bool.not_not, eq_self, decide_true, decide_false, cond_true, cond_false, Int.reduceEq, Int.reduceLT, Int.reduceLE, Int.reduceSub, Int.reduceAdd, Bool.true_and, Bool.and_true, Bool.false_and, Bool.and_false, Bool.or_false, Bool.false_or, Bool.true_or, Bool.or_true, true_and, and_true]
theorem c75_66 (l : List Int) (at_ : Int) (c : List (List D)) (hl : l.length ≤ 100000) : cF 75 [.d (.sl 1 (irows l)), .fn 66 [.pel [.int .i64 at_], .pel [.sl 4 c]]] = some (.val [.int .i64 (idxI (fun n => decide (n ≤ at_) || decide ((c.length : Int) ≤ n)) l 0)]) := by
  refine cOf (by kernel_rfl) ?_
  rw [g75_66_eq]
  simp only [g75_66, sy_wrap, sy_add, sy_sub, sy_mul, sy_ieq, sy_ilt, sy_ile, sy_seq, sy_beq, sy_bor, sy_bnot, sy_imax, sy_imin, sy_rlen, sy_slen, sy_sapp, sy_inr, sy_nat, sy_cell0, sy_cellS, sy_skip0, sy_inrn, sy_rapp, sy_fits, sy_cutok, sy_cut, sy_scut, sy_sbyte, sy_mkok, sy_mkok0, sy_mkz, sy_rep, sy_head, sy_deq, eqDs_int, eqDs_nil, opI_int, opB_bool, opS_str, opL_sl, opM_own, leaves_val, leaves_own, Option.bind_some, cutO_bool, bif_bool, cutO_inl, cutO_inr, eF_call, eF_lp, Nat.zero_add, Nat.reduceAdd, Bool.cond_false_right, Bool.cond_true_left, Bool.cond_false_left, Bool.cond_true_right, Bool.not_true, Bool.not_false, Bool.not_not, eq_self, decide_true, decide_false, cond_true, cond_false, Int.reduceEq, Int.reduceLT, Int.reduceLE, Int.reduceSub, Int.reduceAdd, Bool.true_and, Bool.and_true, Bool.false_and, Bool.and_false, Bool.or_false, Bool.false_or, Bool.true_or, Bool.or_true, true_and, and_true]
  refine idx_loop (fun n => decide (n ≤ at_) || decide ((c.length : Int) ≤ n)) l (fun i => [.sl 1 (irows l), .int .i64 at_, .sl 4 c, .int .i64 ((irows l).length : Int), .int .i64 i]) (fun i x hx => ?_) ?_
  · have hlt := (List.getElem?_eq_some_iff.1 hx).1
    simp only [sy_wrap, sy_add, sy_sub, sy_mul, sy_ieq, sy_ilt, sy_ile, sy_seq, sy_beq, sy_bor, sy_bnot, sy_imax, sy_imin, sy_rlen, sy_slen, sy_sapp, sy_inr, sy_nat, sy_cell0, sy_cellS, sy_skip0, sy_inrn, sy_rapp, sy_fits, sy_cutok, sy_cut, sy_scut, sy_sbyte, sy_mkok, sy_mkok0, sy_mkz, sy_rep, sy_head, sy_deq, eqDs_int, eqDs_nil, opI_int, opB_bool, opS_str, opL_sl, opM_own, leaves_val, leaves_own, Option.bind_some, cutO_bool, bif_bool, cutO_inl, cutO_inr, eF_call, eF_lp, Nat.zero_add, Nat.reduceAdd, Bool.cond_false_right, Bool.cond_true_left, Bool.cond_false_left, Bool.cond_true_right, Bool.not_true, Bool.not_false, Bool.not_not, eq_self, decide_true, decide_false, cond_true, cond_false, Int.reduceEq, Int.reduceLT, Int.reduceLE, Int.reduceSub, Int.reduceAdd, Bool.true_and, Bool.and_true, Bool.false_and, Bool.and_false, Bool.or_false, Bool.false_or, Bool.true_or, Bool.or_true, true_and, and_true, irows_len, ilt_at hlt, inr_at hlt, irows_at hx, c66, wrap_succ hlt (by omega)]
  · simp only [sy_wrap, sy_add, sy_sub, sy_mul, sy_ieq, sy_ilt, sy_ile, sy_seq, sy_beq, sy_bor, sy_bnot, sy_imax, sy_imin, sy_rlen, sy_slen, sy_sapp, sy_inr, sy_nat, sy_cell0, sy_cellS, sy_skip0, sy_inrn, sy_rapp, sy_fits, sy_cutok, sy_cut, sy_scut, sy_sbyte, sy_mkok, sy_mkok0, sy_mkz, sy_rep, sy_head, sy_deq, eqDs_int, eqDs_nil, opI_int, opB_bool, opS_str, opL_sl, opM_own, leaves_val, leaves_own, Option.bind_some, cutO_bool, bif_bool, cutO_inl, cutO_inr, eF_call, eF_lp, Nat.zero_add, Nat.reduceAdd, Bool.cond_false_right, Bool.cond_true_left, Bool.cond_false_left, Bool.cond_true_right, Bool.not_true, Bool.not_false, Bool.not_not, eq_self, decide_true, decide_false, cond_true, cond_false, Int.reduceEq, Int.reduceLT, Int.reduceLE, Int.reduceSub, Int.reduceAdd, Bool.true_and, Bool.and_true, Bool.false_and, Bool.and_false, Bool.or_false, Bool.false_or, Bool.true_or, Bool.or_true, true_and, and_true, irows_len, ilt_self]
theorem c38_66 (l : List Int) (at_ : Int) (c : List (List D)) (hl : l.length ≤ 100000) : cF 38 [.d (.sl 1 (irows l)), .fn 66 [.pel [.int .i64 at_], .pel [.sl 4 c]]] = some (.val [.bool (l.any fun n => decide (n ≤ at_) || decide ((c.length : Int) ≤ n))]) := by
  refine cOf (by kernel_rfl) ?_
  rw [g38_66_eq]
  simp only [g38_66, sy_wrap, sy_add, sy_sub, sy_mul, sy_ieq, sy_ilt, sy_ile, sy_seq, sy_beq, sy_bor, sy_bnot, sy_imax, sy_imin, sy_rlen, sy_slen, sy_sapp, sy_inr, sy_nat, sy_cell0, sy_cellS, sy_skip0, sy_inrn, sy_rapp, sy_fits, sy_cutok, sy_cut, sy_scut, sy_sbyte, sy_mkok, sy_mkok0, sy_mkz, sy_rep, sy_head, sy_deq, eqDs_int, eqDs_nil, opI_int, opB_bool, opS_str, opL_sl, opM_own, leaves_val, leaves_own, Option.bind_some, cutO_bool, bif_bool, cutO_inl, cutO_inr, eF_call, eF_lp, Nat.zero_add, Nat.reduceAdd, Bool.cond_false_right, Bool.cond_true_left, Bool.cond_false_left, Bool.cond_true_right, Bool.not_true, Bool.not_false, Bool.not_not, eq_self, decide_true, decide_false, cond_true, cond_false, Int.reduceEq, Int.reduceLT, Int.reduceLE, Int.reduceSub, Int.reduceAdd, Bool.true_and, Bool.and_true, Bool.false_and, Bool.and_false, Bool.or_false, Bool.false_or, Bool.true_or, Bool.or_true, true_and, and_true, c75_66 l at_ c hl]
  rw [idxI_any _ _ _ (by omega)]
theorem c147 (n : Int) (l : List Int) (hl : 0 < l.length) : cF 147 [.d (.int .i64 n), .pel [.sl 1 (irows l)]] = some (.val [.bool (!decide (n = l.getD 0 0))]) := by
  refine cOf (by kernel_rfl) ?_
  rw [g147c_eq]
  simp only [g147c, sy_wrap, sy_add, sy_sub, sy_mul, sy_ieq, sy_ilt, sy_ile, sy_seq, sy_beq, sy_bor, sy_bnot, sy_imax, sy_imin, sy_rlen, sy_slen, sy_sapp, sy_inr, sy_nat, sy_cell0, sy_cellS, sy_skip0, sy_inrn, sy_rapp, sy_fits, sy_cutok, sy_cut, sy_scut, sy_sbyte, sy_mkok, sy_mkok0, sy_mkz, sy_rep, sy_head, sy_deq, eqDs_int, eqDs_nil, opI_int, opB_bool, opS_str, opL_sl, opM_own, leaves_val, leaves_own, Option.bind_some, cutO_bool, bif_bool, cutO_inl, cutO_inr, eF_call, eF_lp, Nat.zero_add, Nat.reduceAdd, Bool.cond_false_right, Bool.cond_true_left, Bool.cond_false_left, Bool.cond_true_right, Bool.not_true, Bool.not_false, Bool.not_not, eq_self, decide_true, decide_false, cond_true, cond_false, Int.reduceEq, Int.reduceLT, Int.reduceLE, Int.reduceSub, Int.reduceAdd, Bool.true_and, Bool.and_true, Bool.false_and, Bool.and_false, Bool.or_false, Bool.false_or, Bool.true_or, Bool.or_true, true_and, and_true]
  have hq : sy.cell (sy.row (irows l) 0) 0 = some (.int .i64 (l.getD 0 0)) := irows_cell (i := 0) (by omega) (by omega)
  rw [irows_len, decT (p := (0 : Int) < (l.length : Int)) (by omega), hq]
  simp only [sy_wrap, sy_add, sy_sub, sy_mul, sy_ieq, sy_ilt, sy_ile, sy_seq, sy_beq, sy_bor, sy_bnot, sy_imax, sy_imin, sy_rlen, sy_slen, sy_sapp, sy_inr, sy_nat, sy_cell0, sy_cellS, sy_skip0, sy_inrn, sy_rapp, sy_fits, sy_cutok, sy_cut, sy_scut, sy_sbyte, sy_mkok, sy_mkok0, sy_mkz, sy_rep, sy_head, sy_deq, eqDs_int, eqDs_nil, opI_int, opB_bool, opS_str, opL_sl, opM_own, leaves_val, leaves_own, Option.bind_some, cutO_bool, bif_bool, cutO_inl, cutO_inr, eF_call, eF_lp, Nat.zero_add, Nat.reduceAdd, Bool.cond_false_right, Bool.cond_true_left, Bool.cond_false_left, Bool.cond_true_right, Bool.not_true, Bool.not_false, Bool.not_not, eq_self, decide_true, decide_false, cond_true, cond_false, Int.reduceEq, Int.reduceLT, Int.reduceLE, Int.reduceSub, Int.reduceAdd, Bool.true_and, Bool.and_true, Bool.false_and, Bool.and_false, Bool.or_false, Bool.false_or, Bool.true_or, Bool.or_true, true_and, and_true]
theorem c75_147 (l m : List Int) (hl : l.length ≤ 100000) (hm : 0 < m.length) : cF 75 [.d (.sl 1 (irows l)), .fn 147 [.pel [.sl 1 (irows m)]]] = some (.val [.int .i64 (idxI (fun n => !decide (n = m.getD 0 0)) l 0)]) := by
  refine cOf (by kernel_rfl) ?_
  rw [g75_147_eq]
  simp only [g75_147, sy_wrap, sy_add, sy_sub, sy_mul, sy_ieq, sy_ilt, sy_ile, sy_seq, sy_beq, sy_bor, sy_bnot, sy_imax, sy_imin, sy_rlen, sy_slen, sy_sapp, sy_inr, sy_nat, sy_cell0, sy_cellS, sy_skip0, sy_inrn, sy_rapp, sy_fits, sy_cutok, sy_cut, sy_scut, sy_sbyte, sy_mkok, sy_mkok0, sy_mkz, sy_rep, sy_head, sy_deq, eqDs_int, eqDs_nil, opI_int, opB_bool, opS_str, opL_sl, opM_own, leaves_val, leaves_own, Option.bind_some, cutO_bool, bif_bool, cutO_inl, cutO_inr, eF_call, eF_lp, Nat.zero_add, Nat.reduceAdd, Bool.cond_false_right, Bool.cond_true_left, Bool.cond_false_left, Bool.cond_true_right, Bool.not_true, Bool.not_false, Bool.not_not, eq_self, decide_true, decide_false, cond_true, cond_false, Int.reduceEq, Int.reduceLT, Int.reduceLE, Int.reduceSub, Int.reduceAdd, Bool.true_and, Bool.and_true, Bool.false_and, Bool.and_false, Bool.or_false, Bool.false_or, Bool.true_or, Bool.or_true, true_and, and_true]
  refine idx_loop (fun n => !decide (n = m.getD 0 0)) l (fun i => [.sl 1 (irows l), .sl 1 (irows m), .int .i64 ((irows l).length : Int), .int .i64 i]) (fun i x hx => ?_) ?_
  · have hlt := (List.getElem?_eq_some_iff.1 hx).1
    simp only [sy_wrap, sy_add, sy_sub, sy_mul, sy_ieq, sy_ilt, sy_ile, sy_seq, sy_beq, sy_bor, sy_bnot, sy_imax, sy_imin, sy_rlen, sy_slen, sy_sapp, sy_inr, sy_nat, sy_cell0, sy_cellS, sy_skip0, sy_inrn, sy_rapp, sy_fits, sy_cutok, sy_cut, sy_scut, sy_sbyte, sy_mkok, sy_mkok0, sy_mkz, sy_rep, sy_head, sy_deq, eqDs_int, eqDs_nil, opI_int, opB_bool, opS_str, opL_sl, opM_own, leaves_val, leaves_own, Option.bind_some, cutO_bool, bif_bool, cutO_inl, cutO_inr, eF_call, eF_lp, Nat.zero_add, Nat.reduceAdd, Bool.cond_false_right, Bool.cond_true_left, Bool.cond_false_left, Bool.cond_true_right, Bool.not_true, Bool.not_false, Bool.not_not, eq_self, decide_true, decide_false, cond_true, cond_false, Int.reduceEq, Int.reduceLT, Int.reduceLE, Int.reduceSub, Int.reduceAdd, Bool.true_and, Bool.and_true, Bool.false_and, Bool.and_false, Bool.or_false, Bool.false_or, Bool.true_or, Bool.or_true, true_and, and_true, irows_len, ilt_at hlt, inr_at hlt, irows_at hx, c147 _ m hm, wrap_succ hlt (by omega)]
  · simp only [sy_wrap, sy_add, sy_sub, sy_mul, sy_ieq, sy_ilt, sy_ile, sy_seq, sy_beq, sy_bor, sy_bnot, sy_imax, sy_imin, sy_rlen, sy_slen, sy_sapp, sy_inr, sy_nat, sy_cell0, sy_cellS, sy_skip0, sy_inrn, sy_rapp, sy_fits, sy_cutok, sy_cut, sy_scut, sy_sbyte, sy_mkok, sy_mkok0, sy_mkz, sy_rep, sy_head, sy_deq, eqDs_int, eqDs_nil, opI_int, opB_bool, opS_str, opL_sl, opM_own, leaves_val, leaves_own, Option.bind_some, cutO_bool, bif_bool, cutO_inl, cutO_inr, eF_call, eF_lp, Nat.zero_add, Nat.reduceAdd, Bool.cond_false_right, Bool.cond_true_left, Bool.cond_false_left, Bool.cond_true_right, Bool.not_true, Bool.not_false, Bool.not_not, eq_self, decide_true, decide_false, cond_true, cond_false, Int.reduceEq, Int.reduceLT, Int.reduceLE, Int.reduceSub, Int.reduceAdd, Bool.true_and, Bool.and_true, Bool.false_and, Bool.and_false, Bool.or_false, Bool.false_or, Bool.true_or, Bool.or_true, true_and, and_true, irows_len, ilt_self]
theorem c38_147 (l m : List Int) (hl : l.length ≤ 100000) (hm : 0 < m.length) : cF 38 [.d (.sl 1 (irows l)), .fn 147 [.pel [.sl 1 (irows m)]]] = some (.val [.bool (l.any fun n => !decide (n = m.getD 0 0))]) := by
  refine cOf (by kernel_rfl) ?_
  rw [g38_147_eq]
  simp only [g38_147, sy_wrap, sy_add, sy_sub, sy_mul, sy_ieq, sy_ilt, sy_ile, sy_seq, sy_beq, sy_bor, sy_bnot, sy_imax, sy_imin, sy_rlen, sy_slen, sy_sapp, sy_inr, sy_nat, sy_cell0, sy_cellS, sy_skip0, sy_inrn, sy_rapp, sy_fits, sy_cutok, sy_cut, sy_scut, sy_sbyte, sy_mkok, sy_mkok0, sy_mkz, sy_rep, sy_head, sy_deq, eqDs_int, eqDs_nil, opI_int, opB_bool, opS_str, opL_sl, opM_own, leaves_val, leaves_own, Option.bind_some, cutO_bool, bif_bool, cutO_inl, cutO_inr, eF_call, eF_lp, Nat.zero_add, Nat.reduceAdd, Bool.cond_false_right, Bool.cond_true_left, Bool.cond_false_left, Bool.cond_true_right, Bool.not_true, Bool.not_false, Bool.not_not, eq_self, decide_true, decide_false, cond_true, cond_false, Int.reduceEq, Int.reduceLT, Int.reduceLE, Int.reduceSub, Int.reduceAdd, Bool.true_and, Bool.and_true, Bool.false_and, Bool.and_false, Bool.or_false, Bool.false_or, Bool.true_or, Bool.or_true, true_and, and_true, c75_147 l m hl hm]
  rw [idxI_any _ _ _ (by omega)]
theorem c118 (l : List Int) (hl : l.length ≤ 100000) (h0 : 0 < l.length) : cF 118 [.d (.sl 1 (irows l))] = some (.val [.bool (l.all fun n => n == l.getD 0 0)]) := by
  refine cOf (by kernel_rfl) ?_
  rw [g118_eq]
  simp only [g118, sy_wrap, sy_add, sy_sub, sy_mul, sy_ieq, sy_ilt, sy_ile, sy_seq, sy_beq, sy_bor, sy_bnot, sy_imax, sy_imin, sy_rlen, sy_slen, sy_sapp, sy_inr, sy_nat, sy_cell0, sy_cellS, sy_skip0, sy_inrn, sy_rapp, sy_fits, sy_cutok, sy_cut, sy_scut, sy_sbyte, sy_mkok, sy_mkok0, sy_mkz, sy_rep, sy_head, sy_deq, eqDs_int, eqDs_nil, opI_int, opB_bool, opS_str, opL_sl, opM_own, leaves_val, leaves_own, Option.bind_some, cutO_bool, bif_bool, cutO_inl, cutO_inr, eF_call, eF_lp, Nat.zero_add, Nat.reduceAdd, Bool.cond_false_right, Bool.cond_true_left, Bool.cond_false_left, Bool.cond_true_right, Bool.not_true, Bool.not_false, Bool.not_not, eq_self, decide_true, decide_false, cond_true, cond_false, Int.reduceEq, Int.reduceLT, Int.reduceLE, Int.reduceSub, Int.reduceAdd, Bool.true_and, Bool.and_true, Bool.false_and, Bool.and_false, Bool.or_false, Bool.false_or, Bool.true_or, Bool.or_true, true_and, and_true, c38_147 l l hl h0]
  have e : (fun n : Int => n == l.getD 0 0) = fun n => decide (n = l.getD 0 0) := by funext n; rw [Bool.eq_iff_iff]; simp
  rw [← List.not_all_eq_any_not, Bool.not_not, e]
theorem c34 (la lb : List Int) (hl : la.length ≤ 100000) : cF 34 [.d (.sl 1 (irows la)), .d (.sl 1 (irows lb))] = some (.val [.bool (la == lb)]) := by
  refine cOf (by kernel_rfl) ?_
  rw [g34_eq]
  simp only [g34, sy_wrap, sy_add, sy_sub, sy_mul, sy_ieq, sy_ilt, sy_ile, sy_seq, sy_beq, sy_bor, sy_bnot, sy_imax, sy_imin, sy_rlen, sy_slen, sy_sapp, sy_inr, sy_nat, sy_cell0, sy_cellS, sy_skip0, sy_inrn, sy_rapp, sy_fits, sy_cutok, sy_cut, sy_scut, sy_sbyte, sy_mkok, sy_mkok0, sy_mkz, sy_rep, sy_head, sy_deq, eqDs_int, eqDs_nil, opI_int, opB_bool, opS_str, opL_sl, opM_own, leaves_val, leaves_own, Option.bind_some, cutO_bool, bif_bool, cutO_inl, cutO_inr, eF_call, eF_lp, Nat.zero_add, Nat.reduceAdd, Bool.cond_false_right, Bool.cond_true_left, Bool.cond_false_left, Bool.cond_true_right, Bool.not_true, Bool.not_false, Bool.not_not, eq_self, decide_true, decide_false, cond_true, cond_false, Int.reduceEq, Int.reduceLT, Int.reduceLE, Int.reduceSub, Int.reduceAdd, Bool.true_and, Bool.and_true, Bool.false_and, Bool.and_false, Bool.or_false, Bool.false_or, Bool.true_or, Bool.or_true, true_and, and_true, irows_len]
  by_cases hlen : la.length = lb.length
  · rw [decT (p := (la.length : Int) = (lb.length : Int)) (by omega)]
    simp only [sy_wrap, sy_add, sy_sub, sy_mul, sy_ieq, sy_ilt, sy_ile, sy_seq, sy_beq, sy_bor, sy_bnot, sy_imax, sy_imin, sy_rlen, sy_slen, sy_sapp, sy_inr, sy_nat, sy_cell0, sy_cellS, sy_skip0, sy_inrn, sy_rapp, sy_fits, sy_cutok, sy_cut, sy_scut, sy_sbyte, sy_mkok, sy_mkok0, sy_mkz, sy_rep, sy_head, sy_deq, eqDs_int, eqDs_nil, opI_int, opB_bool, opS_str, opL_sl, opM_own, leaves_val, leaves_own, Option.bind_some, cutO_bool, bif_bool, cutO_inl, cutO_inr, eF_call, eF_lp, Nat.zero_add, Nat.reduceAdd, Bool.cond_false_right, Bool.cond_true_left, Bool.cond_false_left, Bool.cond_true_right, Bool.not_true, Bool.not_false, Bool.not_not, eq_self, decide_true, decide_false, cond_true, cond_false, Int.reduceEq, Int.reduceLT, Int.reduceLE, Int.reduceSub, Int.reduceAdd, Bool.true_and, Bool.and_true, Bool.false_and, Bool.and_false, Bool.or_false, Bool.false_or, Bool.true_or, Bool.or_true, true_and, and_true]
    refine loopF_at (fun i : Nat => [.sl 1 (irows la), .sl 1 (irows lb), .int .i64 (la.length : Int), .int .i64 (i : Int)]) (fun i => i ≤ la.length ∧ (la == lb) = (la.drop i == lb.drop i)) (fun i => la.length - i) (fun i ⟨hi, he⟩ => ?_) 0 ⟨Nat.zero_le _, rfl⟩
    by_cases hlt : i < la.length
    · have hx : la[i]? = some la[i] := List.getElem?_eq_getElem hlt
      have hy : lb[i]? = some (lb[i]'(by omega)) := List.getElem?_eq_getElem (by omega)
      have hd : (la.drop i == lb.drop i) = (decide (la[i] = lb[i]'(by omega)) && (la.drop (i + 1) == lb.drop (i + 1))) := by
        rw [List.drop_eq_getElem_cons hlt, List.drop_eq_getElem_cons (show i < lb.length by omega), List.cons_beq_cons]
        congr 1
      simp only [sy_wrap, sy_add, sy_sub, sy_mul, sy_ieq, sy_ilt, sy_ile, sy_seq, sy_beq, sy_bor, sy_bnot, sy_imax, sy_imin, sy_rlen, sy_slen, sy_sapp, sy_inr, sy_nat, sy_cell0, sy_cellS, sy_skip0, sy_inrn, sy_rapp, sy_fits, sy_cutok, sy_cut, sy_scut, sy_sbyte, sy_mkok, sy_mkok0, sy_mkz, sy_rep, sy_head, sy_deq, eqDs_int, eqDs_nil, opI_int, opB_bool, opS_str, opL_sl, opM_own, leaves_val, leaves_own, Option.bind_some, cutO_bool, bif_bool, cutO_inl, cutO_inr, eF_call, eF_lp, Nat.zero_add, Nat.reduceAdd, Bool.cond_false_right, Bool.cond_true_left, Bool.cond_false_left, Bool.cond_true_right, Bool.not_true, Bool.not_false, Bool.not_not, eq_self, decide_true, decide_false, cond_true, cond_false, Int.reduceEq, Int.reduceLT, Int.reduceLE, Int.reduceSub, Int.reduceAdd, Bool.true_and, Bool.and_true, Bool.false_and, Bool.and_false, Bool.or_false, Bool.false_or, Bool.true_or, Bool.or_true, true_and, and_true, irows_len, ilt_at hlt, inr_at hlt, inr_at (show i < lb.length by omega), irows_at hx, irows_at hy, wrap_succ hlt (by omega)]
      by_cases hq : la[i] = lb[i]'(by omega)
      · left
        refine ⟨i + 1, by simp [hq], ⟨by omega, ?_⟩, by omega⟩
        rw [he, hd]; simp [hq]
      · right
        rw [he, hd]; simp [hq]
    · right
      have : i = la.length := by omega
      subst this
      simp only [sy_wrap, sy_add, sy_sub, sy_mul, sy_ieq, sy_ilt, sy_ile, sy_seq, sy_beq, sy_bor, sy_bnot, sy_imax, sy_imin, sy_rlen, sy_slen, sy_sapp, sy_inr, sy_nat, sy_cell0, sy_cellS, sy_skip0, sy_inrn, sy_rapp, sy_fits, sy_cutok, sy_cut, sy_scut, sy_sbyte, sy_mkok, sy_mkok0, sy_mkz, sy_rep, sy_head, sy_deq, eqDs_int, eqDs_nil, opI_int, opB_bool, opS_str, opL_sl, opM_own, leaves_val, leaves_own, Option.bind_some, cutO_bool, bif_bool, cutO_inl, cutO_inr, eF_call, eF_lp, Nat.zero_add, Nat.reduceAdd, Bool.cond_false_right, Bool.cond_true_left, Bool.cond_false_left, Bool.cond_true_right, Bool.not_true, Bool.not_false, Bool.not_not, eq_self, decide_true, decide_false, cond_true, cond_false, Int.reduceEq, Int.reduceLT, Int.reduceLE, Int.reduceSub, Int.reduceAdd, Bool.true_and, Bool.and_true, Bool.false_and, Bool.and_false, Bool.or_false, Bool.false_or, Bool.true_or, Bool.or_true, true_and, and_true, irows_len, ilt_self]
      rw [he, List.drop_length, hlen, List.drop_length]
      rfl
  · rw [decF (p := (la.length : Int) = (lb.length : Int)) (by omega)]
    simp only [sy_wrap, sy_add, sy_sub, sy_mul, sy_ieq, sy_ilt, sy_ile, sy_seq, sy_beq, sy_bor, sy_bnot, sy_imax, sy_imin, sy_rlen, sy_slen, sy_sapp, sy_inr, sy_nat, sy_cell0, sy_cellS, sy_skip0, sy_inrn, sy_rapp, sy_fits, sy_cutok, sy_cut, sy_scut, sy_sbyte, sy_mkok, sy_mkok0, sy_mkz, sy_rep, sy_head, sy_deq, eqDs_int, eqDs_nil, opI_int, opB_bool, opS_str, opL_sl, opM_own, leaves_val, leaves_own, Option.bind_some, cutO_bool, bif_bool, cutO_inl, cutO_inr, eF_call, eF_lp, Nat.zero_add, Nat.reduceAdd, Bool.cond_false_right, Bool.cond_true_left, Bool.cond_false_left, Bool.cond_true_right, Bool.not_true, Bool.not_false, Bool.not_not, eq_self, decide_true, decide_false, cond_true, cond_false, Int.reduceEq, Int.reduceLT, Int.reduceLE, Int.reduceSub, Int.reduceAdd, Bool.true_and, Bool.and_true, Bool.false_and, Bool.and_false, Bool.or_false, Bool.false_or, Bool.true_or, Bool.or_true, true_and, and_true]
    have : (la == lb) = false := by rw [beq_eq_false_iff_ne]; intro h; exact hlen (by rw [h])
    rw [this]
theorem c64 (row ks : List Int) (hl : row.length ≤ 1000) (hk : ks.length ≤ 1000) : cF 64 [.d (.sl 1 (irows row)), .d (.sl 1 (irows ks))] = some (.val [.bool (endsB row ks)]) := by
  refine cOf (by kernel_rfl) ?_
  rw [g64_eq]
  simp only [g64, sy_wrap, sy_add, sy_sub, sy_mul, sy_ieq, sy_ilt, sy_ile, sy_seq, sy_beq, sy_bor, sy_bnot, sy_imax, sy_imin, sy_rlen, sy_slen, sy_sapp, sy_inr, sy_nat, sy_cell0, sy_cellS, sy_skip0, sy_inrn, sy_rapp, sy_fits, sy_cutok, sy_cut, sy_scut, sy_sbyte, sy_mkok, sy_mkok0, sy_mkz, sy_rep, sy_head, sy_deq, eqDs_int, eqDs_nil, opI_int, opB_bool, opS_str, opL_sl, opM_own, leaves_val, leaves_own, Option.bind_some, cutO_bool, bif_bool, cutO_inl, cutO_inr, eF_call, eF_lp, Nat.zero_add, Nat.reduceAdd, Bool.cond_false_right, Bool.cond_true_left, Bool.cond_false_left, Bool.cond_true_right, Bool.not_true, Bool.not_false, Bool.not_not, eq_self, decide_true, decide_false, cond_true, cond_false, Int.reduceEq, Int.reduceLT, Int.reduceLE, Int.reduceSub, Int.reduceAdd, Bool.true_and, Bool.and_true, Bool.false_and, Bool.and_false, Bool.or_false, Bool.false_or, Bool.true_or, Bool.or_true, true_and, and_true, irows_len]
  rw [wrap_id (by omega) (by omega)]
  unfold endsB
  by_cases h : ks.length ≤ row.length
  · rw [decT (p := 0 ≤ (row.length : Int) - (ks.length : Int)) (by omega)]
    have e : List.drop ((row.length : Int) - (ks.length : Int)).toNat (List.take (row.length : Int).toNat (irows row)) = irows (row.drop (row.length - ks.length)) := by
      rw [irows_take, irows_drop]
      congr 1
      rw [show ((row.length : Int) - (ks.length : Int)).toNat = row.length - ks.length by omega, show (row.length : Int).toNat = row.length by omega, List.take_length]
    simp (disch := omega) only [wrap_id, decT, decF, sy_wrap, sy_add, sy_sub, sy_mul, sy_ieq, sy_ilt, sy_ile, sy_seq, sy_beq, sy_bor, sy_bnot, sy_imax, sy_imin, sy_rlen, sy_slen, sy_sapp, sy_inr, sy_nat, sy_cell0, sy_cellS, sy_skip0, sy_inrn, sy_rapp, sy_fits, sy_cutok, sy_cut, sy_scut, sy_sbyte, sy_mkok, sy_mkok0, sy_mkz, sy_rep, sy_head, sy_deq, eqDs_int, eqDs_nil, opI_int, opB_bool, opS_str, opL_sl, opM_own, leaves_val, leaves_own, Option.bind_some, cutO_bool, bif_bool, cutO_inl, cutO_inr, eF_call, eF_lp, Nat.zero_add, Nat.reduceAdd, Bool.cond_false_right, Bool.cond_true_left, Bool.cond_false_left, Bool.cond_true_right, Bool.not_true, Bool.not_false, Bool.not_not, eq_self, decide_true, decide_false, cond_true, cond_false, Int.reduceEq, Int.reduceLT, Int.reduceLE, Int.reduceSub, Int.reduceAdd, Bool.true_and, Bool.and_true, Bool.false_and, Bool.and_false, Bool.or_false, Bool.false_or, Bool.true_or, Bool.or_true, true_and, and_true, e]
    rw [c34 _ _ (by simp; omega)]
    simp (disch := omega) only [wrap_id, decT, decF, sy_wrap, sy_add, sy_sub, sy_mul, sy_ieq, sy_ilt, sy_ile, sy_seq, sy_beq, sy_bor, sy_bnot, sy_imax, sy_imin, sy_rlen, sy_slen, sy_sapp, sy_inr, sy_nat, sy_cell0, sy_cellS, sy_skip0, sy_inrn, sy_rapp, sy_fits, sy_cutok, sy_cut, sy_scut, sy_sbyte, sy_mkok, sy_mkok0, sy_mkz, sy_rep, sy_head, sy_deq, eqDs_int, eqDs_nil, opI_int, opB_bool, opS_str, opL_sl, opM_own, leaves_val, leaves_own, Option.bind_some, cutO_bool, bif_bool, cutO_inl, cutO_inr, eF_call, eF_lp, Nat.zero_add, Nat.reduceAdd, Bool.cond_false_right, Bool.cond_true_left, Bool.cond_false_left, Bool.cond_true_right, Bool.not_true, Bool.not_false, Bool.not_not, eq_self, decide_true, decide_false, cond_true, cond_false, Int.reduceEq, Int.reduceLT, Int.reduceLE, Int.reduceSub, Int.reduceAdd, Bool.true_and, Bool.and_true, Bool.false_and, Bool.and_false, Bool.or_false, Bool.false_or, Bool.true_or, Bool.or_true, true_and, and_true]
  · rw [decF (p := 0 ≤ (row.length : Int) - (ks.length : Int)) (by omega), decF h]
    simp only [sy_wrap, sy_add, sy_sub, sy_mul, sy_ieq, sy_ilt, sy_ile, sy_seq, sy_beq, sy_bor, sy_bnot, sy_imax, sy_imin, sy_rlen, sy_slen, sy_sapp, sy_inr, sy_nat, sy_cell0, sy_cellS, sy_skip0, sy_inrn, sy_rapp, sy_fits, sy_cutok, sy_cut, sy_scut, sy_sbyte, sy_mkok, sy_mkok0, sy_mkz, sy_rep, sy_head, sy_deq, eqDs_int, eqDs_nil, opI_int, opB_bool, opS_str, opL_sl, opM_own, leaves_val, leaves_own, Option.bind_some, cutO_bool, bif_bool, cutO_inl, cutO_inr, eF_call, eF_lp, Nat.zero_add, Nat.reduceAdd, Bool.cond_false_right, Bool.cond_true_left, Bool.cond_false_left, Bool.cond_true_right, Bool.not_true, Bool.not_false, Bool.not_not, eq_self, decide_true, decide_false, cond_true, cond_false, Int.reduceEq, Int.reduceLT, Int.reduceLE, Int.reduceSub, Int.reduceAdd, Bool.true_and, Bool.and_true, Bool.false_and, Bool.and_false, Bool.or_false, Bool.false_or, Bool.true_or, Bool.or_true, true_and, and_true]
end Go.Vm
end

section
set_option maxRecDepth 100000
set_option maxHeartbeats 1000000
namespace Go.Vm
open Go.Proofs
theorem c94 (a b : List Int) (ha : a.length ≤ 100000) (hb : b.length ≤ 100000) : cF 94 [.d (.sl 1 [[.sl 1 (irows a)], [.sl 1 (irows b)]])] = some (.own 3 1 (irows (a ++ b))) := by
  refine cOf (by kernel_rfl) ?_
  rw [g94_eq]
  simp only [g94, sy_wrap, sy_add, sy_sub, sy_mul, sy_ieq, sy_ilt, sy_ile, sy_seq, sy_beq, sy_bor, sy_bnot, sy_imax, sy_imin, sy_rlen, sy_slen, sy_sapp, sy_inr, sy_nat, sy_cell0, sy_cellS, sy_skip0, sy_inrn, sy_rapp, sy_fits, sy_cutok, sy_cut, sy_scut, sy_sbyte, sy_mkok, sy_mkok0, sy_mkz, sy_rep, sy_head, sy_deq, eqDs_int, eqDs_nil, opI_int, opB_bool, opS_str, opL_sl, opM_own, leaves_val, leaves_own, Option.bind_some, cutO_bool, bif_bool, cutO_inl, cutO_inr, eF_call, eF_lp, Nat.zero_add, Nat.reduceAdd, Bool.cond_false_right, Bool.cond_true_left, Bool.cond_false_left, Bool.cond_true_right, Bool.not_true, Bool.not_false, Bool.not_not, eq_self, decide_true, decide_false, cond_true, cond_false, Int.reduceEq, Int.reduceLT, Int.reduceLE, Int.reduceSub, Int.reduceAdd, Bool.true_and, Bool.and_true, Bool.false_and, Bool.and_false, Bool.or_false, Bool.false_or, Bool.true_or, Bool.or_true, true_and, and_true]
  have inner : ∀ s : List (List D), s = [] → loopF (fun ds8 => (opL (sy.cell ds8 0) 1).bind fun l9 => (opI (sy.cell ds8 1) IntKind.i64).bind fun n10 => (opI (sy.cell ds8 2) IntKind.i64).bind fun n11 => (opL (sy.cell ds8 3) 1).bind fun l12 =>
      bif decide (n11 < n10) then bif decide (0 ≤ n11 ∧ n11 < (l9.length : Int)) then (opL (sy.cell (sy.row l9 n11) 0) 1).bind fun l13 => bif decide ((l12.length + l13.length) * 9 ≤ 140737488355328) then
        some (Sum.inl [D.sl 1 l9, D.int IntKind.i64 n10, D.int IntKind.i64 (IntKind.i64.wrap (n11 + 1)), D.sl 1 (l12 ++ l13)]) else none else none
      else some (Sum.inr (Sum.inr (PRes.own 3 1 l12)) : List D ⊕ (List D ⊕ PRes))) [.sl 1 [[.sl 1 (irows a)], [.sl 1 (irows b)]], .int .i64 2, .int .i64 0, .sl 1 s] = some (.inr (.own 3 1 (irows (a ++ b)))) := by
    intro s hs
    subst hs
    have r0 : sy.cell (sy.row [[D.sl 1 (irows a)], [D.sl 1 (irows b)]] 0) 0 = some (.sl 1 (irows a)) := rfl
    have r1 : sy.cell (sy.row [[D.sl 1 (irows a)], [D.sl 1 (irows b)]] 1) 0 = some (.sl 1 (irows b)) := rfl
    have hl : (([[D.sl 1 (irows a)], [D.sl 1 (irows b)]] : List (List D)).length : Int) = 2 := rfl
    rw [loopF_eq]
    simp (disch := omega) only [wrap_id, decT, decF, sy_wrap, sy_add, sy_sub, sy_mul, sy_ieq, sy_ilt, sy_ile, sy_seq, sy_beq, sy_bor, sy_bnot, sy_imax, sy_imin, sy_rlen, sy_slen, sy_sapp, sy_inr, sy_nat, sy_cell0, sy_cellS, sy_skip0, sy_inrn, sy_rapp, sy_fits, sy_cutok, sy_cut, sy_scut, sy_sbyte, sy_mkok, sy_mkok0, sy_mkz, sy_rep, sy_head, sy_deq, eqDs_int, eqDs_nil, opI_int, opB_bool, opS_str, opL_sl, opM_own, leaves_val, leaves_own, Option.bind_some, cutO_bool, bif_bool, cutO_inl, cutO_inr, eF_call, eF_lp, Nat.zero_add, Nat.reduceAdd, Bool.cond_false_right, Bool.cond_true_left, Bool.cond_false_left, Bool.cond_true_right, Bool.not_true, Bool.not_false, Bool.not_not, eq_self, decide_true, decide_false, cond_true, cond_false, Int.reduceEq, Int.reduceLT, Int.reduceLE, Int.reduceSub, Int.reduceAdd, Bool.true_and, Bool.and_true, Bool.false_and, Bool.and_false, Bool.or_false, Bool.false_or, Bool.true_or, Bool.or_true, true_and, and_true, hl, r0, irows_len, List.nil_append, List.length_nil]
    rw [loopF_eq]
    simp (disch := omega) only [wrap_id, decT, decF, sy_wrap, sy_add, sy_sub, sy_mul, sy_ieq, sy_ilt, sy_ile, sy_seq, sy_beq, sy_bor, sy_bnot, sy_imax, sy_imin, sy_rlen, sy_slen, sy_sapp, sy_inr, sy_nat, sy_cell0, sy_cellS, sy_skip0, sy_inrn, sy_rapp, sy_fits, sy_cutok, sy_cut, sy_scut, sy_sbyte, sy_mkok, sy_mkok0, sy_mkz, sy_rep, sy_head, sy_deq, eqDs_int, eqDs_nil, opI_int, opB_bool, opS_str, opL_sl, opM_own, leaves_val, leaves_own, Option.bind_some, cutO_bool, bif_bool, cutO_inl, cutO_inr, eF_call, eF_lp, Nat.zero_add, Nat.reduceAdd, Bool.cond_false_right, Bool.cond_true_left, Bool.cond_false_left, Bool.cond_true_right, Bool.not_true, Bool.not_false, Bool.not_not, eq_self, decide_true, decide_false, cond_true, cond_false, Int.reduceEq, Int.reduceLT, Int.reduceLE, Int.reduceSub, Int.reduceAdd, Bool.true_and, Bool.and_true, Bool.false_and, Bool.and_false, Bool.or_false, Bool.false_or, Bool.true_or, Bool.or_true, true_and, and_true, hl, r1, irows_len, irows_app]
    rw [loopF_eq]
    simp (disch := omega) only [wrap_id, decT, decF, sy_wrap, sy_add, sy_sub, sy_mul, sy_ieq, sy_ilt, sy_ile, sy_seq, sy_beq, sy_bor, sy_bnot, sy_imax, sy_imin, sy_rlen, sy_slen, sy_sapp, sy_inr, sy_nat, sy_cell0, sy_cellS, sy_skip0, sy_inrn, sy_rapp, sy_fits, sy_cutok, sy_cut, sy_scut, sy_sbyte, sy_mkok, sy_mkok0, sy_mkz, sy_rep, sy_head, sy_deq, eqDs_int, eqDs_nil, opI_int, opB_bool, opS_str, opL_sl, opM_own, leaves_val, leaves_own, Option.bind_some, cutO_bool, bif_bool, cutO_inl, cutO_inr, eF_call, eF_lp, Nat.zero_add, Nat.reduceAdd, Bool.cond_false_right, Bool.cond_true_left, Bool.cond_false_left, Bool.cond_true_right, Bool.not_true, Bool.not_false, Bool.not_not, eq_self, decide_true, decide_false, cond_true, cond_false, Int.reduceEq, Int.reduceLT, Int.reduceLE, Int.reduceSub, Int.reduceAdd, Bool.true_and, Bool.and_true, Bool.false_and, Bool.and_false, Bool.or_false, Bool.false_or, Bool.true_or, Bool.or_true, true_and, and_true, hl]
  have r0 : sy.cell (sy.row [[D.sl 1 (irows a)], [D.sl 1 (irows b)]] 0) 0 = some (.sl 1 (irows a)) := rfl
  have r1 : sy.cell (sy.row [[D.sl 1 (irows a)], [D.sl 1 (irows b)]] 1) 0 = some (.sl 1 (irows b)) := rfl
  have hl : (([[D.sl 1 (irows a)], [D.sl 1 (irows b)]] : List (List D)).length : Int) = 2 := rfl
  rw [loopF_eq]
  simp (disch := omega) only [wrap_id, decT, decF, sy_wrap, sy_add, sy_sub, sy_mul, sy_ieq, sy_ilt, sy_ile, sy_seq, sy_beq, sy_bor, sy_bnot, sy_imax, sy_imin, sy_rlen, sy_slen, sy_sapp, sy_inr, sy_nat, sy_cell0, sy_cellS, sy_skip0, sy_inrn, sy_rapp, sy_fits, sy_cutok, sy_cut, sy_scut, sy_sbyte, sy_mkok, sy_mkok0, sy_mkz, sy_rep, sy_head, sy_deq, eqDs_int, eqDs_nil, opI_int, opB_bool, opS_str, opL_sl, opM_own, leaves_val, leaves_own, Option.bind_some, cutO_bool, bif_bool, cutO_inl, cutO_inr, eF_call, eF_lp, Nat.zero_add, Nat.reduceAdd, Bool.cond_false_right, Bool.cond_true_left, Bool.cond_false_left, Bool.cond_true_right, Bool.not_true, Bool.not_false, Bool.not_not, eq_self, decide_true, decide_false, cond_true, cond_false, Int.reduceEq, Int.reduceLT, Int.reduceLE, Int.reduceSub, Int.reduceAdd, Bool.true_and, Bool.and_true, Bool.false_and, Bool.and_false, Bool.or_false, Bool.false_or, Bool.true_or, Bool.or_true, true_and, and_true, hl, r0, irows_len]
  rw [loopF_eq]
  simp (disch := omega) only [wrap_id, decT, decF, sy_wrap, sy_add, sy_sub, sy_mul, sy_ieq, sy_ilt, sy_ile, sy_seq, sy_beq, sy_bor, sy_bnot, sy_imax, sy_imin, sy_rlen, sy_slen, sy_sapp, sy_inr, sy_nat, sy_cell0, sy_cellS, sy_skip0, sy_inrn, sy_rapp, sy_fits, sy_cutok, sy_cut, sy_scut, sy_sbyte, sy_mkok, sy_mkok0, sy_mkz, sy_rep, sy_head, sy_deq, eqDs_int, eqDs_nil, opI_int, opB_bool, opS_str, opL_sl, opM_own, leaves_val, leaves_own, Option.bind_some, cutO_bool, bif_bool, cutO_inl, cutO_inr, eF_call, eF_lp, Nat.zero_add, Nat.reduceAdd, Bool.cond_false_right, Bool.cond_true_left, Bool.cond_false_left, Bool.cond_true_right, Bool.not_true, Bool.not_false, Bool.not_not, eq_self, decide_true, decide_false, cond_true, cond_false, Int.reduceEq, Int.reduceLT, Int.reduceLE, Int.reduceSub, Int.reduceAdd, Bool.true_and, Bool.and_true, Bool.false_and, Bool.and_false, Bool.or_false, Bool.false_or, Bool.true_or, Bool.or_true, true_and, and_true, hl, r1, irows_len]
  rw [loopF_eq]
  simp (disch := omega) only [wrap_id, decT, decF, sy_wrap, sy_add, sy_sub, sy_mul, sy_ieq, sy_ilt, sy_ile, sy_seq, sy_beq, sy_bor, sy_bnot, sy_imax, sy_imin, sy_rlen, sy_slen, sy_sapp, sy_inr, sy_nat, sy_cell0, sy_cellS, sy_skip0, sy_inrn, sy_rapp, sy_fits, sy_cutok, sy_cut, sy_scut, sy_sbyte, sy_mkok, sy_mkok0, sy_mkz, sy_rep, sy_head, sy_deq, eqDs_int, eqDs_nil, opI_int, opB_bool, opS_str, opL_sl, opM_own, leaves_val, leaves_own, Option.bind_some, cutO_bool, bif_bool, cutO_inl, cutO_inr, eF_call, eF_lp, Nat.zero_add, Nat.reduceAdd, Bool.cond_false_right, Bool.cond_true_left, Bool.cond_false_left, Bool.cond_true_right, Bool.not_true, Bool.not_false, Bool.not_not, eq_self, decide_true, decide_false, cond_true, cond_false, Int.reduceEq, Int.reduceLT, Int.reduceLE, Int.reduceSub, Int.reduceAdd, Bool.true_and, Bool.and_true, Bool.false_and, Bool.and_false, Bool.or_false, Bool.false_or, Bool.true_or, Bool.or_true, true_and, and_true, hl, Int.toNat_zero, List.take_zero]
  by_cases hz : 0 < a.length + b.length
  · rw [decT (p := 0 < 0 + (a.length : Int) + (b.length : Int) - 0) (by omega), decT (p := 0 < 0 + (a.length : Int) + (b.length : Int) - 0 ∧ _) (by omega)]
    simp only [cond_true]
    rw [inner [] rfl]
  · rw [decF (p := 0 < 0 + (a.length : Int) + (b.length : Int) - 0) (by omega)]
    simp only [cond_false]
    rw [inner [] rfl]
end Go.Vm
end
