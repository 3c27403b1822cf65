/-
  Part G of the proof. What is proved by the whole: the statement that the claim names, with no condition. This part: lemmas.
-/
import Derived.Test.YtmmcmfcnpfbifaaDoorF
set_option linter.unusedSimpArgs false
set_option linter.unusedVariables false

section
set_option linter.all false
set_option maxRecDepth 100000
set_option maxHeartbeats 4000000
namespace Go.Vm
open Go.Proofs
/-! ### slots and cells -/
structure Slt where
  path : ByteArray
  ty : Tyy
  at_ : Int
  init : List Int
instance : Inhabited Slt := ⟨⟨ByteArray.empty, default, 0, []⟩⟩
def Slt.row (x : Slt) : List D := [.str x.path, .int .i64 x.ty.k, .int .i64 x.ty.e, .int .i64 x.ty.n, .int .i64 x.at_, .sl 1 (irows x.init)]
def slrows (l : List Slt) : List (List D) := l.map Slt.row
structure Cll where
  path : ByteArray
  vals : List Int
instance : Inhabited Cll := ⟨⟨ByteArray.empty, []⟩⟩
def Cll.row (x : Cll) : List D := [.str x.path, .sl 1 (irows x.vals)]
def clrows (l : List Cll) : List (List D) := l.map Cll.row
theorem slrows_len (l : List Slt) : (slrows l).length = l.length := by simp [slrows]
theorem clrows_len (l : List Cll) : (clrows l).length = l.length := by simp [clrows]
theorem slt_at {l : List Slt} {i : Nat} {x : Slt} (h : l[i]? = some x) : sy.row (slrows l) (i : Int) = [.str x.path, .int .i64 x.ty.k, .int .i64 x.ty.e, .int .i64 x.ty.n, .int .i64 x.at_, .sl 1 (irows x.init)] := by
  rw [sy_row, Int.toNat_natCast, List.getD_eq_getElem?_getD]
  unfold slrows
  rw [List.getElem?_map, h]; rfl
theorem cll_at {l : List Cll} {i : Nat} {x : Cll} (h : l[i]? = some x) : sy.row (clrows l) (i : Int) = [.str x.path, .sl 1 (irows x.vals)] := by
  rw [sy_row, Int.toNat_natCast, List.getD_eq_getElem?_getD]
  unfold clrows
  rw [List.getElem?_map, h]; rfl
theorem skip1 (a : D) (l : List D) : sy.skip 1 (a :: l) = l := rfl
theorem skip4 (a b c d : D) (l : List D) : sy.skip 4 (a :: b :: c :: d :: l) = l := rfl
theorem skip5 (a b c d e : D) (l : List D) : sy.skip 5 (a :: b :: c :: d :: e :: l) = l := rfl
def cellsN (l : List Slt) : Int := (l.map fun x => x.ty.c).sum
theorem c_pos (t : Tyy) : 1 ≤ t.c ∧ t.c ≤ 8 := by unfold Tyy.c; omega
theorem cellsN_bd : ∀ l : List Slt, 0 ≤ cellsN l ∧ cellsN l ≤ 8 * l.length
  | [] => by simp [cellsN]
  | x :: l => by
    have := cellsN_bd l
    have := c_pos x.ty
    unfold cellsN at *
    simp only [List.map_cons, List.sum_cons, List.length_cons]
    omega
theorem cellsN_app (a b : List Slt) : cellsN (a ++ b) = cellsN a + cellsN b := by simp [cellsN]
theorem cellsN_take {l : List Slt} {i : Nat} {x : Slt} (h : l[i]? = some x) : cellsN (l.take (i + 1)) = cellsN (l.take i) + x.ty.c := by
  rw [List.take_add_one, h, cellsN_app]; simp [cellsN]
theorem cellsN_tbd (l : List Slt) (i : Nat) : 0 ≤ cellsN (l.take i) ∧ cellsN (l.take i) ≤ 8 * l.length := by
  have := cellsN_bd (l.take i)
  have : (l.take i).length ≤ l.length := by simp; omega
  omega
theorem cells_u (t : Tyy) : cF 34 [V.agg [.d (.int .i64 t.k), .d (.int .i64 t.e), .d (.int .i64 t.n)]] = some (.val [.int .i64 t.c]) := c_cells t
theorem rcells_u (t : Tyy) : cF 36 [V.agg [.d (.int .i64 t.k), .d (.int .i64 t.e), .d (.int .i64 t.n)]] = some (.val [.int .i64 t.c]) := c_rcells t
theorem c_tCells (s : List Slt) (hs : s.length ≤ 1000000) : cF 21 [.d (.sl 6 (slrows s))] = some (.val [.int .i64 (cellsN s)]) := by
  refine cOf (by kernel_rfl) rfl ?_
  rw [g21_eq]
  simp only [g21, sy_wrap, sy_add, sy_sub, sy_mul, sy_ieq, sy_ilt, sy_ile, sy_seq, sy_beq, sy_bor, sy_bnot, sy_imax, sy_imin, sy_rlen, sy_slen, sy_sapp, sy_inr, sy_nat, sy_cell0, sy_cellS, sy_skip0, sy_inrn, sy_rapp, sy_fits, sy_cutok, sy_cut, sy_scut, sy_sbyte, sy_mkok, sy_mkok0, sy_mkz, sy_rep, sy_head, sy_deq, eqDs_int, eqDs_nil, opI_int, opB_bool, opS_str, opL_sl, opM_own, leaves_val, leaves_own, Option.bind_some, cutO_bool, bif_bool, cutO_inl, cutO_inr, eF_call, eF_lp, Nat.zero_add, Nat.reduceAdd, Bool.cond_false_right, Bool.cond_true_left, Bool.cond_false_left, Bool.cond_true_right, Bool.not_true, Bool.not_false, Bool.not_not, eq_self, decide_true, decide_false, cond_true, cond_false, Int.reduceEq, Int.reduceLT, Int.reduceLE, Int.reduceSub, Int.reduceAdd, Bool.true_and, Bool.and_true, Bool.false_and, Bool.and_false, Bool.or_false, Bool.false_or, Bool.true_or, Bool.or_true, true_and, and_true, slrows_len]
  refine loopF_at (fun i : Nat => [.int .i64 (cellsN (s.take i)), .sl 6 (slrows s), .int .i64 (s.length : Int), .int .i64 (i : Int)]) (fun i => i ≤ s.length) (fun i => s.length - i) (fun i hi => ?_) 0 (Nat.zero_le _)
  have hb := cellsN_tbd s i
  by_cases hlt : i < s.length
  · left
    have hx := List.getElem?_eq_getElem hlt
    refine ⟨i + 1, ?_, hlt, by omega⟩
    have hc := c_pos s[i].ty
    have hw : IntKind.i64.wrap (cellsN (s.take i) + s[i].ty.c) = cellsN (s.take i) + s[i].ty.c := wrap_id (by omega) (by omega)
    simp only [sy_wrap, sy_add, sy_sub, sy_mul, sy_ieq, sy_ilt, sy_ile, sy_seq, sy_beq, sy_bor, sy_bnot, sy_imax, sy_imin, sy_rlen, sy_slen, sy_sapp, sy_inr, sy_nat, sy_cell0, sy_cellS, sy_skip0, sy_inrn, sy_rapp, sy_fits, sy_cutok, sy_cut, sy_scut, sy_sbyte, sy_mkok, sy_mkok0, sy_mkz, sy_rep, sy_head, sy_deq, eqDs_int, eqDs_nil, opI_int, opB_bool, opS_str, opL_sl, opM_own, leaves_val, leaves_own, Option.bind_some, cutO_bool, bif_bool, cutO_inl, cutO_inr, eF_call, eF_lp, Nat.zero_add, Nat.reduceAdd, Bool.cond_false_right, Bool.cond_true_left, Bool.cond_false_left, Bool.cond_true_right, Bool.not_true, Bool.not_false, Bool.not_not, eq_self, decide_true, decide_false, cond_true, cond_false, Int.reduceEq, Int.reduceLT, Int.reduceLE, Int.reduceSub, Int.reduceAdd, Bool.true_and, Bool.and_true, Bool.false_and, Bool.and_false, Bool.or_false, Bool.false_or, Bool.true_or, Bool.or_true, true_and, and_true, slrows_len, ilt_at hlt, inr_at hlt, slt_at hx, cells_u, wrap_succ hlt (by omega), cellsN_take hx, hw]
    rfl
  · right
    have : i = s.length := by omega
    subst this
    simp only [sy_wrap, sy_add, sy_sub, sy_mul, sy_ieq, sy_ilt, sy_ile, sy_seq, sy_beq, sy_bor, sy_bnot, sy_imax, sy_imin, sy_rlen, sy_slen, sy_sapp, sy_inr, sy_nat, sy_cell0, sy_cellS, sy_skip0, sy_inrn, sy_rapp, sy_fits, sy_cutok, sy_cut, sy_scut, sy_sbyte, sy_mkok, sy_mkok0, sy_mkz, sy_rep, sy_head, sy_deq, eqDs_int, eqDs_nil, opI_int, opB_bool, opS_str, opL_sl, opM_own, leaves_val, leaves_own, Option.bind_some, cutO_bool, bif_bool, cutO_inl, cutO_inr, eF_call, eF_lp, Nat.zero_add, Nat.reduceAdd, Bool.cond_false_right, Bool.cond_true_left, Bool.cond_false_left, Bool.cond_true_right, Bool.not_true, Bool.not_false, Bool.not_not, eq_self, decide_true, decide_false, cond_true, cond_false, Int.reduceEq, Int.reduceLT, Int.reduceLE, Int.reduceSub, Int.reduceAdd, Bool.true_and, Bool.and_true, Bool.false_and, Bool.and_false, Bool.or_false, Bool.false_or, Bool.true_or, Bool.or_true, true_and, and_true, slrows_len, ilt_self, List.take_length]
theorem c_rtCells (s : List Slt) (hs : s.length ≤ 1000000) : cF 26 [.d (.sl 6 (slrows s))] = some (.val [.int .i64 (cellsN s)]) := by
  refine cOf (by kernel_rfl) rfl ?_
  rw [g26_eq]
  simp only [g26, sy_wrap, sy_add, sy_sub, sy_mul, sy_ieq, sy_ilt, sy_ile, sy_seq, sy_beq, sy_bor, sy_bnot, sy_imax, sy_imin, sy_rlen, sy_slen, sy_sapp, sy_inr, sy_nat, sy_cell0, sy_cellS, sy_skip0, sy_inrn, sy_rapp, sy_fits, sy_cutok, sy_cut, sy_scut, sy_sbyte, sy_mkok, sy_mkok0, sy_mkz, sy_rep, sy_head, sy_deq, eqDs_int, eqDs_nil, opI_int, opB_bool, opS_str, opL_sl, opM_own, leaves_val, leaves_own, Option.bind_some, cutO_bool, bif_bool, cutO_inl, cutO_inr, eF_call, eF_lp, Nat.zero_add, Nat.reduceAdd, Bool.cond_false_right, Bool.cond_true_left, Bool.cond_false_left, Bool.cond_true_right, Bool.not_true, Bool.not_false, Bool.not_not, eq_self, decide_true, decide_false, cond_true, cond_false, Int.reduceEq, Int.reduceLT, Int.reduceLE, Int.reduceSub, Int.reduceAdd, Bool.true_and, Bool.and_true, Bool.false_and, Bool.and_false, Bool.or_false, Bool.false_or, Bool.true_or, Bool.or_true, true_and, and_true, slrows_len]
  refine loopF_at (fun i : Nat => [.sl 6 (slrows s), .int .i64 (cellsN (s.take i)), .int .i64 (i : Int)]) (fun i => i ≤ s.length) (fun i => s.length - i) (fun i hi => ?_) 0 (Nat.zero_le _)
  have hb := cellsN_tbd s i
  by_cases hlt : i < s.length
  · left
    have hx := List.getElem?_eq_getElem hlt
    refine ⟨i + 1, ?_, hlt, by omega⟩
    have hc := c_pos s[i].ty
    have hw : IntKind.i64.wrap (cellsN (s.take i) + s[i].ty.c) = cellsN (s.take i) + s[i].ty.c := wrap_id (by omega) (by omega)
    simp only [sy_wrap, sy_add, sy_sub, sy_mul, sy_ieq, sy_ilt, sy_ile, sy_seq, sy_beq, sy_bor, sy_bnot, sy_imax, sy_imin, sy_rlen, sy_slen, sy_sapp, sy_inr, sy_nat, sy_cell0, sy_cellS, sy_skip0, sy_inrn, sy_rapp, sy_fits, sy_cutok, sy_cut, sy_scut, sy_sbyte, sy_mkok, sy_mkok0, sy_mkz, sy_rep, sy_head, sy_deq, eqDs_int, eqDs_nil, opI_int, opB_bool, opS_str, opL_sl, opM_own, leaves_val, leaves_own, Option.bind_some, cutO_bool, bif_bool, cutO_inl, cutO_inr, eF_call, eF_lp, Nat.zero_add, Nat.reduceAdd, Bool.cond_false_right, Bool.cond_true_left, Bool.cond_false_left, Bool.cond_true_right, Bool.not_true, Bool.not_false, Bool.not_not, eq_self, decide_true, decide_false, cond_true, cond_false, Int.reduceEq, Int.reduceLT, Int.reduceLE, Int.reduceSub, Int.reduceAdd, Bool.true_and, Bool.and_true, Bool.false_and, Bool.and_false, Bool.or_false, Bool.false_or, Bool.true_or, Bool.or_true, true_and, and_true, slrows_len, ilt_at hlt, inr_at hlt, slt_at hx, skip1, rcells_u, wrap_succ hlt (by omega), cellsN_take hx, hw]
    rfl
  · right
    have : i = s.length := by omega
    subst this
    simp only [sy_wrap, sy_add, sy_sub, sy_mul, sy_ieq, sy_ilt, sy_ile, sy_seq, sy_beq, sy_bor, sy_bnot, sy_imax, sy_imin, sy_rlen, sy_slen, sy_sapp, sy_inr, sy_nat, sy_cell0, sy_cellS, sy_skip0, sy_inrn, sy_rapp, sy_fits, sy_cutok, sy_cut, sy_scut, sy_sbyte, sy_mkok, sy_mkok0, sy_mkz, sy_rep, sy_head, sy_deq, eqDs_int, eqDs_nil, opI_int, opB_bool, opS_str, opL_sl, opM_own, leaves_val, leaves_own, Option.bind_some, cutO_bool, bif_bool, cutO_inl, cutO_inr, eF_call, eF_lp, Nat.zero_add, Nat.reduceAdd, Bool.cond_false_right, Bool.cond_true_left, Bool.cond_false_left, Bool.cond_true_right, Bool.not_true, Bool.not_false, Bool.not_not, eq_self, decide_true, decide_false, cond_true, cond_false, Int.reduceEq, Int.reduceLT, Int.reduceLE, Int.reduceSub, Int.reduceAdd, Bool.true_and, Bool.and_true, Bool.false_and, Bool.and_false, Bool.or_false, Bool.false_or, Bool.true_or, Bool.or_true, true_and, and_true, slrows_len, ilt_self, List.take_length]
/-! ### where a path is -/
def pathIs (p : ByteArray) (x : Slt) : Bool := decide (tb x.path = tb p)
def findS (s : List Slt) (p : ByteArray) : Int := idxI (pathIs p) s 0
theorem c_rtFind (s : List Slt) (p : ByteArray) (hs : s.length ≤ 1000000) : cF 12 [.d (.sl 6 (slrows s)), .d (.str p)] = some (.val [.int .i64 (findS s p)]) := by
  refine cOf (by kernel_rfl) rfl ?_
  rw [g12_eq]
  simp only [g12, sy_wrap, sy_add, sy_sub, sy_mul, sy_ieq, sy_ilt, sy_ile, sy_seq, sy_beq, sy_bor, sy_bnot, sy_imax, sy_imin, sy_rlen, sy_slen, sy_sapp, sy_inr, sy_nat, sy_cell0, sy_cellS, sy_skip0, sy_inrn, sy_rapp, sy_fits, sy_cutok, sy_cut, sy_scut, sy_sbyte, sy_mkok, sy_mkok0, sy_mkz, sy_rep, sy_head, sy_deq, eqDs_int, eqDs_nil, opI_int, opB_bool, opS_str, opL_sl, opM_own, leaves_val, leaves_own, Option.bind_some, cutO_bool, bif_bool, cutO_inl, cutO_inr, eF_call, eF_lp, Nat.zero_add, Nat.reduceAdd, Bool.cond_false_right, Bool.cond_true_left, Bool.cond_false_left, Bool.cond_true_right, Bool.not_true, Bool.not_false, Bool.not_not, eq_self, decide_true, decide_false, cond_true, cond_false, Int.reduceEq, Int.reduceLT, Int.reduceLE, Int.reduceSub, Int.reduceAdd, Bool.true_and, Bool.and_true, Bool.false_and, Bool.and_false, Bool.or_false, Bool.false_or, Bool.true_or, Bool.or_true, true_and, and_true, slrows_len]
  refine idx_loop (pathIs p) s (fun i => [.sl 6 (slrows s), .str p, .int .i64 i]) (fun i x hx => ?_) ?_
  · have hlt := (List.getElem?_eq_some_iff.1 hx).1
    unfold pathIs
    simp only [sy_wrap, sy_add, sy_sub, sy_mul, sy_ieq, sy_ilt, sy_ile, sy_seq, sy_beq, sy_bor, sy_bnot, sy_imax, sy_imin, sy_rlen, sy_slen, sy_sapp, sy_inr, sy_nat, sy_cell0, sy_cellS, sy_skip0, sy_inrn, sy_rapp, sy_fits, sy_cutok, sy_cut, sy_scut, sy_sbyte, sy_mkok, sy_mkok0, sy_mkz, sy_rep, sy_head, sy_deq, eqDs_int, eqDs_nil, opI_int, opB_bool, opS_str, opL_sl, opM_own, leaves_val, leaves_own, Option.bind_some, cutO_bool, bif_bool, cutO_inl, cutO_inr, eF_call, eF_lp, Nat.zero_add, Nat.reduceAdd, Bool.cond_false_right, Bool.cond_true_left, Bool.cond_false_left, Bool.cond_true_right, Bool.not_true, Bool.not_false, Bool.not_not, eq_self, decide_true, decide_false, cond_true, cond_false, Int.reduceEq, Int.reduceLT, Int.reduceLE, Int.reduceSub, Int.reduceAdd, Bool.true_and, Bool.and_true, Bool.false_and, Bool.and_false, Bool.or_false, Bool.false_or, Bool.true_or, Bool.or_true, true_and, and_true, slrows_len, ilt_at hlt, inr_at hlt, slt_at hx, seq_tb, wrap_succ hlt (by omega)]
  · simp only [sy_wrap, sy_add, sy_sub, sy_mul, sy_ieq, sy_ilt, sy_ile, sy_seq, sy_beq, sy_bor, sy_bnot, sy_imax, sy_imin, sy_rlen, sy_slen, sy_sapp, sy_inr, sy_nat, sy_cell0, sy_cellS, sy_skip0, sy_inrn, sy_rapp, sy_fits, sy_cutok, sy_cut, sy_scut, sy_sbyte, sy_mkok, sy_mkok0, sy_mkz, sy_rep, sy_head, sy_deq, eqDs_int, eqDs_nil, opI_int, opB_bool, opS_str, opL_sl, opM_own, leaves_val, leaves_own, Option.bind_some, cutO_bool, bif_bool, cutO_inl, cutO_inr, eF_call, eF_lp, Nat.zero_add, Nat.reduceAdd, Bool.cond_false_right, Bool.cond_true_left, Bool.cond_false_left, Bool.cond_true_right, Bool.not_true, Bool.not_false, Bool.not_not, eq_self, decide_true, decide_false, cond_true, cond_false, Int.reduceEq, Int.reduceLT, Int.reduceLE, Int.reduceSub, Int.reduceAdd, Bool.true_and, Bool.and_true, Bool.false_and, Bool.and_false, Bool.or_false, Bool.false_or, Bool.true_or, Bool.or_true, true_and, and_true, slrows_len, ilt_self]
theorem c_tFind (s : List Slt) (p : ByteArray) (hs : s.length ≤ 1000000) : cF 11 [.d (.sl 6 (slrows s)), .d (.str p)] = some (.val [.int .i64 (findS s p)]) := by
  have h30 : ∀ a b c d e f, cF 30 [V.agg [.d (.str a), .d (.int .i64 b), .d (.int .i64 c), .d (.int .i64 d), .d (.int .i64 e), .d (.sl 1 f)], .pel [.str p]] = some (.val [.bool (decide (tb a = tb p))]) := fun a b c d e f => by
    refine cOf (by kernel_rfl) rfl ?_
    rw [g30c_eq]
    simp only [g30c, sy_wrap, sy_add, sy_sub, sy_mul, sy_ieq, sy_ilt, sy_ile, sy_seq, sy_beq, sy_bor, sy_bnot, sy_imax, sy_imin, sy_rlen, sy_slen, sy_sapp, sy_inr, sy_nat, sy_cell0, sy_cellS, sy_skip0, sy_inrn, sy_rapp, sy_fits, sy_cutok, sy_cut, sy_scut, sy_sbyte, sy_mkok, sy_mkok0, sy_mkz, sy_rep, sy_head, sy_deq, eqDs_int, eqDs_nil, opI_int, opB_bool, opS_str, opL_sl, opM_own, leaves_val, leaves_own, Option.bind_some, cutO_bool, bif_bool, cutO_inl, cutO_inr, eF_call, eF_lp, Nat.zero_add, Nat.reduceAdd, Bool.cond_false_right, Bool.cond_true_left, Bool.cond_false_left, Bool.cond_true_right, Bool.not_true, Bool.not_false, Bool.not_not, eq_self, decide_true, decide_false, cond_true, cond_false, Int.reduceEq, Int.reduceLT, Int.reduceLE, Int.reduceSub, Int.reduceAdd, Bool.true_and, Bool.and_true, Bool.false_and, Bool.and_false, Bool.or_false, Bool.false_or, Bool.true_or, Bool.or_true, true_and, and_true, seq_tb]
  have h29 : cF 29 [.d (.sl 6 (slrows s)), .fn 30 [.pel [.str p]]] = some (.val [.int .i64 (findS s p)]) := by
    refine cOf (by kernel_rfl) rfl ?_
    rw [g29_30_eq]
    simp only [g29_30, sy_wrap, sy_add, sy_sub, sy_mul, sy_ieq, sy_ilt, sy_ile, sy_seq, sy_beq, sy_bor, sy_bnot, sy_imax, sy_imin, sy_rlen, sy_slen, sy_sapp, sy_inr, sy_nat, sy_cell0, sy_cellS, sy_skip0, sy_inrn, sy_rapp, sy_fits, sy_cutok, sy_cut, sy_scut, sy_sbyte, sy_mkok, sy_mkok0, sy_mkz, sy_rep, sy_head, sy_deq, eqDs_int, eqDs_nil, opI_int, opB_bool, opS_str, opL_sl, opM_own, leaves_val, leaves_own, Option.bind_some, cutO_bool, bif_bool, cutO_inl, cutO_inr, eF_call, eF_lp, Nat.zero_add, Nat.reduceAdd, Bool.cond_false_right, Bool.cond_true_left, Bool.cond_false_left, Bool.cond_true_right, Bool.not_true, Bool.not_false, Bool.not_not, eq_self, decide_true, decide_false, cond_true, cond_false, Int.reduceEq, Int.reduceLT, Int.reduceLE, Int.reduceSub, Int.reduceAdd, Bool.true_and, Bool.and_true, Bool.false_and, Bool.and_false, Bool.or_false, Bool.false_or, Bool.true_or, Bool.or_true, true_and, and_true, slrows_len]
    refine idx_loop (pathIs p) s (fun i => [.sl 6 (slrows s), .str p, .int .i64 (s.length : Int), .int .i64 i]) (fun i x hx => ?_) ?_
    · have hlt := (List.getElem?_eq_some_iff.1 hx).1
      unfold pathIs
      simp only [sy_wrap, sy_add, sy_sub, sy_mul, sy_ieq, sy_ilt, sy_ile, sy_seq, sy_beq, sy_bor, sy_bnot, sy_imax, sy_imin, sy_rlen, sy_slen, sy_sapp, sy_inr, sy_nat, sy_cell0, sy_cellS, sy_skip0, sy_inrn, sy_rapp, sy_fits, sy_cutok, sy_cut, sy_scut, sy_sbyte, sy_mkok, sy_mkok0, sy_mkz, sy_rep, sy_head, sy_deq, eqDs_int, eqDs_nil, opI_int, opB_bool, opS_str, opL_sl, opM_own, leaves_val, leaves_own, Option.bind_some, cutO_bool, bif_bool, cutO_inl, cutO_inr, eF_call, eF_lp, Nat.zero_add, Nat.reduceAdd, Bool.cond_false_right, Bool.cond_true_left, Bool.cond_false_left, Bool.cond_true_right, Bool.not_true, Bool.not_false, Bool.not_not, eq_self, decide_true, decide_false, cond_true, cond_false, Int.reduceEq, Int.reduceLT, Int.reduceLE, Int.reduceSub, Int.reduceAdd, Bool.true_and, Bool.and_true, Bool.false_and, Bool.and_false, Bool.or_false, Bool.false_or, Bool.true_or, Bool.or_true, true_and, and_true, slrows_len, ilt_at hlt, inr_at hlt, slt_at hx, h30, wrap_succ hlt (by omega)]
    · simp only [sy_wrap, sy_add, sy_sub, sy_mul, sy_ieq, sy_ilt, sy_ile, sy_seq, sy_beq, sy_bor, sy_bnot, sy_imax, sy_imin, sy_rlen, sy_slen, sy_sapp, sy_inr, sy_nat, sy_cell0, sy_cellS, sy_skip0, sy_inrn, sy_rapp, sy_fits, sy_cutok, sy_cut, sy_scut, sy_sbyte, sy_mkok, sy_mkok0, sy_mkz, sy_rep, sy_head, sy_deq, eqDs_int, eqDs_nil, opI_int, opB_bool, opS_str, opL_sl, opM_own, leaves_val, leaves_own, Option.bind_some, cutO_bool, bif_bool, cutO_inl, cutO_inr, eF_call, eF_lp, Nat.zero_add, Nat.reduceAdd, Bool.cond_false_right, Bool.cond_true_left, Bool.cond_false_left, Bool.cond_true_right, Bool.not_true, Bool.not_false, Bool.not_not, eq_self, decide_true, decide_false, cond_true, cond_false, Int.reduceEq, Int.reduceLT, Int.reduceLE, Int.reduceSub, Int.reduceAdd, Bool.true_and, Bool.and_true, Bool.false_and, Bool.and_false, Bool.or_false, Bool.false_or, Bool.true_or, Bool.or_true, true_and, and_true, slrows_len, ilt_self]
  refine cOf (by kernel_rfl) rfl ?_
  rw [g11_eq]
  simp only [g11, sy_wrap, sy_add, sy_sub, sy_mul, sy_ieq, sy_ilt, sy_ile, sy_seq, sy_beq, sy_bor, sy_bnot, sy_imax, sy_imin, sy_rlen, sy_slen, sy_sapp, sy_inr, sy_nat, sy_cell0, sy_cellS, sy_skip0, sy_inrn, sy_rapp, sy_fits, sy_cutok, sy_cut, sy_scut, sy_sbyte, sy_mkok, sy_mkok0, sy_mkz, sy_rep, sy_head, sy_deq, eqDs_int, eqDs_nil, opI_int, opB_bool, opS_str, opL_sl, opM_own, leaves_val, leaves_own, Option.bind_some, cutO_bool, bif_bool, cutO_inl, cutO_inr, eF_call, eF_lp, Nat.zero_add, Nat.reduceAdd, Bool.cond_false_right, Bool.cond_true_left, Bool.cond_false_left, Bool.cond_true_right, Bool.not_true, Bool.not_false, Bool.not_not, eq_self, decide_true, decide_false, cond_true, cond_false, Int.reduceEq, Int.reduceLT, Int.reduceLE, Int.reduceSub, Int.reduceAdd, Bool.true_and, Bool.and_true, Bool.false_and, Bool.and_false, Bool.or_false, Bool.false_or, Bool.true_or, Bool.or_true, true_and, and_true, h29]
/-! ### numbers alike -/
theorem eq_of_all {a b : List Int} (hl : a.length = b.length) : decide (a = b) = (List.range a.length).all (fun i => decide (a.getD i 0 = b.getD i 0)) := by
  rw [Bool.eq_iff_iff, decide_eq_true_eq, List.all_eq_true]
  simp only [List.mem_range, decide_eq_true_eq]
  constructor
  · intro h; subst h; intros; rfl
  · intro h
    refine List.ext_getElem hl fun i h1 h2 => ?_
    have := h i h1
    simpa [h1, h2] using this
theorem same_loop {b : List D → Option (List D ⊕ PRes)} (la lb : List Int) (mk : Int → List D) (hl : la.length = lb.length)
    (hb : ∀ (i : Nat) x y, la[i]? = some x → lb[i]? = some y → b (mk i) = bif decide (x = y) then some (.inl (mk ((i : Int) + 1))) else some (.inr (.val [.bool false])))
    (hend : b (mk (la.length : Int)) = some (.inr (.val [.bool true]))) : loopF b (mk 0) = some (.val [.bool (decide (la = lb))]) := by
  rw [eq_of_all hl]
  refine loopF_at (fun i : Nat => mk (i : Int)) (fun i => i ≤ la.length ∧ ((List.range la.length).take i).all (fun i => decide (la.getD i 0 = lb.getD i 0)) = true) (fun i => la.length - i) (fun i hi => ?_) 0 ⟨Nat.zero_le _, by simp⟩
  by_cases hlt : i < la.length
  · have h1 := List.getElem?_eq_getElem hlt
    have hlt2 : i < lb.length := by omega
    have h2 := List.getElem?_eq_getElem hlt2
    have hr : i < (List.range la.length).length := by simpa using hlt
    have hgd : (List.range la.length).getD i 0 = i := by simp [hlt]
    rw [hb i _ _ h1 h2]
    have e1 : la.getD i 0 = la[i] := by simp [hlt]
    have e2 : lb.getD i 0 = lb[i] := by simp [hlt2]
    by_cases he : la[i] = lb[i]
    · left
      rw [decT he]
      exact ⟨i + 1, rfl, ⟨hlt, all_snoc (d := 0) hr hi.2 (by rw [hgd, e1, e2]; exact decT he)⟩, by omega⟩
    · right
      rw [decF he, all_false (d := 0) hr (by rw [hgd, e1, e2]; exact decF he)]
      rfl
  · right
    have : i = la.length := by omega
    subst this
    have hi := hi.2
    rw [show (List.range la.length).take la.length = List.range la.length by rw [List.take_of_length_le (by simp)]] at hi
    rw [hi]; exact hend
theorem ne_len {a b : List Int} (h : ¬ (a.length : Int) = b.length) : decide (a = b) = false := decF (fun e => h (by rw [e]))
theorem c_xEqual (a b : List Int) (ha : a.length ≤ 1000000) : cF 49 [.d (.sl 1 (irows a)), .d (.sl 1 (irows b))] = some (.val [.bool (decide (a = b))]) := by
  refine cOf (by kernel_rfl) rfl ?_
  rw [g49_eq]
  simp only [g49, sy_wrap, sy_add, sy_sub, sy_mul, sy_ieq, sy_ilt, sy_ile, sy_seq, sy_beq, sy_bor, sy_bnot, sy_imax, sy_imin, sy_rlen, sy_slen, sy_sapp, sy_inr, sy_nat, sy_cell0, sy_cellS, sy_skip0, sy_inrn, sy_rapp, sy_fits, sy_cutok, sy_cut, sy_scut, sy_sbyte, sy_mkok, sy_mkok0, sy_mkz, sy_rep, sy_head, sy_deq, eqDs_int, eqDs_nil, opI_int, opB_bool, opS_str, opL_sl, opM_own, leaves_val, leaves_own, Option.bind_some, cutO_bool, bif_bool, cutO_inl, cutO_inr, eF_call, eF_lp, Nat.zero_add, Nat.reduceAdd, Bool.cond_false_right, Bool.cond_true_left, Bool.cond_false_left, Bool.cond_true_right, Bool.not_true, Bool.not_false, Bool.not_not, eq_self, decide_true, decide_false, cond_true, cond_false, Int.reduceEq, Int.reduceLT, Int.reduceLE, Int.reduceSub, Int.reduceAdd, Bool.true_and, Bool.and_true, Bool.false_and, Bool.and_false, Bool.or_false, Bool.false_or, Bool.true_or, Bool.or_true, true_and, and_true, irows_len]
  by_cases hl : (a.length : Int) = b.length
  · rw [decT hl]
    simp only [sy_wrap, sy_add, sy_sub, sy_mul, sy_ieq, sy_ilt, sy_ile, sy_seq, sy_beq, sy_bor, sy_bnot, sy_imax, sy_imin, sy_rlen, sy_slen, sy_sapp, sy_inr, sy_nat, sy_cell0, sy_cellS, sy_skip0, sy_inrn, sy_rapp, sy_fits, sy_cutok, sy_cut, sy_scut, sy_sbyte, sy_mkok, sy_mkok0, sy_mkz, sy_rep, sy_head, sy_deq, eqDs_int, eqDs_nil, opI_int, opB_bool, opS_str, opL_sl, opM_own, leaves_val, leaves_own, Option.bind_some, cutO_bool, bif_bool, cutO_inl, cutO_inr, eF_call, eF_lp, Nat.zero_add, Nat.reduceAdd, Bool.cond_false_right, Bool.cond_true_left, Bool.cond_false_left, Bool.cond_true_right, Bool.not_true, Bool.not_false, Bool.not_not, eq_self, decide_true, decide_false, cond_true, cond_false, Int.reduceEq, Int.reduceLT, Int.reduceLE, Int.reduceSub, Int.reduceAdd, Bool.true_and, Bool.and_true, Bool.false_and, Bool.and_false, Bool.or_false, Bool.false_or, Bool.true_or, Bool.or_true, true_and, and_true]
    refine same_loop a b (fun i => [.sl 1 (irows a), .sl 1 (irows b), .int .i64 (a.length : Int), .int .i64 i]) (by omega) (fun i x y hx hy => ?_) ?_
    · have hlt := (List.getElem?_eq_some_iff.1 hx).1
      have hlt2 := (List.getElem?_eq_some_iff.1 hy).1
      simp only [sy_wrap, sy_add, sy_sub, sy_mul, sy_ieq, sy_ilt, sy_ile, sy_seq, sy_beq, sy_bor, sy_bnot, sy_imax, sy_imin, sy_rlen, sy_slen, sy_sapp, sy_inr, sy_nat, sy_cell0, sy_cellS, sy_skip0, sy_inrn, sy_rapp, sy_fits, sy_cutok, sy_cut, sy_scut, sy_sbyte, sy_mkok, sy_mkok0, sy_mkz, sy_rep, sy_head, sy_deq, eqDs_int, eqDs_nil, opI_int, opB_bool, opS_str, opL_sl, opM_own, leaves_val, leaves_own, Option.bind_some, cutO_bool, bif_bool, cutO_inl, cutO_inr, eF_call, eF_lp, Nat.zero_add, Nat.reduceAdd, Bool.cond_false_right, Bool.cond_true_left, Bool.cond_false_left, Bool.cond_true_right, Bool.not_true, Bool.not_false, Bool.not_not, eq_self, decide_true, decide_false, cond_true, cond_false, Int.reduceEq, Int.reduceLT, Int.reduceLE, Int.reduceSub, Int.reduceAdd, Bool.true_and, Bool.and_true, Bool.false_and, Bool.and_false, Bool.or_false, Bool.false_or, Bool.true_or, Bool.or_true, true_and, and_true, irows_len, ilt_at hlt, inr_at hlt, inr_at hlt2, irows_at hx, irows_at hy, wrap_succ hlt (by omega)]
      cases decide (x = y) <;> rfl
    · simp only [sy_wrap, sy_add, sy_sub, sy_mul, sy_ieq, sy_ilt, sy_ile, sy_seq, sy_beq, sy_bor, sy_bnot, sy_imax, sy_imin, sy_rlen, sy_slen, sy_sapp, sy_inr, sy_nat, sy_cell0, sy_cellS, sy_skip0, sy_inrn, sy_rapp, sy_fits, sy_cutok, sy_cut, sy_scut, sy_sbyte, sy_mkok, sy_mkok0, sy_mkz, sy_rep, sy_head, sy_deq, eqDs_int, eqDs_nil, opI_int, opB_bool, opS_str, opL_sl, opM_own, leaves_val, leaves_own, Option.bind_some, cutO_bool, bif_bool, cutO_inl, cutO_inr, eF_call, eF_lp, Nat.zero_add, Nat.reduceAdd, Bool.cond_false_right, Bool.cond_true_left, Bool.cond_false_left, Bool.cond_true_right, Bool.not_true, Bool.not_false, Bool.not_not, eq_self, decide_true, decide_false, cond_true, cond_false, Int.reduceEq, Int.reduceLT, Int.reduceLE, Int.reduceSub, Int.reduceAdd, Bool.true_and, Bool.and_true, Bool.false_and, Bool.and_false, Bool.or_false, Bool.false_or, Bool.true_or, Bool.or_true, true_and, and_true, ilt_self]
  · rw [decF hl, ne_len hl]; simp only [sy_wrap, sy_add, sy_sub, sy_mul, sy_ieq, sy_ilt, sy_ile, sy_seq, sy_beq, sy_bor, sy_bnot, sy_imax, sy_imin, sy_rlen, sy_slen, sy_sapp, sy_inr, sy_nat, sy_cell0, sy_cellS, sy_skip0, sy_inrn, sy_rapp, sy_fits, sy_cutok, sy_cut, sy_scut, sy_sbyte, sy_mkok, sy_mkok0, sy_mkz, sy_rep, sy_head, sy_deq, eqDs_int, eqDs_nil, opI_int, opB_bool, opS_str, opL_sl, opM_own, leaves_val, leaves_own, Option.bind_some, cutO_bool, bif_bool, cutO_inl, cutO_inr, eF_call, eF_lp, Nat.zero_add, Nat.reduceAdd, Bool.cond_false_right, Bool.cond_true_left, Bool.cond_false_left, Bool.cond_true_right, Bool.not_true, Bool.not_false, Bool.not_not, eq_self, decide_true, decide_false, cond_true, cond_false, Int.reduceEq, Int.reduceLT, Int.reduceLE, Int.reduceSub, Int.reduceAdd, Bool.true_and, Bool.and_true, Bool.false_and, Bool.and_false, Bool.or_false, Bool.false_or, Bool.true_or, Bool.or_true, true_and, and_true]
theorem c_rVals (a b : List Int) (ha : a.length ≤ 1000000) : cF 20 [.d (.sl 1 (irows a)), .d (.sl 1 (irows b))] = some (.val [.bool (decide (a = b))]) := by
  refine cOf (by kernel_rfl) rfl ?_
  rw [g20_eq]
  simp only [g20, sy_wrap, sy_add, sy_sub, sy_mul, sy_ieq, sy_ilt, sy_ile, sy_seq, sy_beq, sy_bor, sy_bnot, sy_imax, sy_imin, sy_rlen, sy_slen, sy_sapp, sy_inr, sy_nat, sy_cell0, sy_cellS, sy_skip0, sy_inrn, sy_rapp, sy_fits, sy_cutok, sy_cut, sy_scut, sy_sbyte, sy_mkok, sy_mkok0, sy_mkz, sy_rep, sy_head, sy_deq, eqDs_int, eqDs_nil, opI_int, opB_bool, opS_str, opL_sl, opM_own, leaves_val, leaves_own, Option.bind_some, cutO_bool, bif_bool, cutO_inl, cutO_inr, eF_call, eF_lp, Nat.zero_add, Nat.reduceAdd, Bool.cond_false_right, Bool.cond_true_left, Bool.cond_false_left, Bool.cond_true_right, Bool.not_true, Bool.not_false, Bool.not_not, eq_self, decide_true, decide_false, cond_true, cond_false, Int.reduceEq, Int.reduceLT, Int.reduceLE, Int.reduceSub, Int.reduceAdd, Bool.true_and, Bool.and_true, Bool.false_and, Bool.and_false, Bool.or_false, Bool.false_or, Bool.true_or, Bool.or_true, true_and, and_true, irows_len]
  by_cases hl : (a.length : Int) = b.length
  · rw [decT hl]
    simp only [sy_wrap, sy_add, sy_sub, sy_mul, sy_ieq, sy_ilt, sy_ile, sy_seq, sy_beq, sy_bor, sy_bnot, sy_imax, sy_imin, sy_rlen, sy_slen, sy_sapp, sy_inr, sy_nat, sy_cell0, sy_cellS, sy_skip0, sy_inrn, sy_rapp, sy_fits, sy_cutok, sy_cut, sy_scut, sy_sbyte, sy_mkok, sy_mkok0, sy_mkz, sy_rep, sy_head, sy_deq, eqDs_int, eqDs_nil, opI_int, opB_bool, opS_str, opL_sl, opM_own, leaves_val, leaves_own, Option.bind_some, cutO_bool, bif_bool, cutO_inl, cutO_inr, eF_call, eF_lp, Nat.zero_add, Nat.reduceAdd, Bool.cond_false_right, Bool.cond_true_left, Bool.cond_false_left, Bool.cond_true_right, Bool.not_true, Bool.not_false, Bool.not_not, eq_self, decide_true, decide_false, cond_true, cond_false, Int.reduceEq, Int.reduceLT, Int.reduceLE, Int.reduceSub, Int.reduceAdd, Bool.true_and, Bool.and_true, Bool.false_and, Bool.and_false, Bool.or_false, Bool.false_or, Bool.true_or, Bool.or_true, true_and, and_true]
    refine same_loop a b (fun i => [.sl 1 (irows a), .sl 1 (irows b), .int .i64 i]) (by omega) (fun i x y hx hy => ?_) ?_
    · have hlt := (List.getElem?_eq_some_iff.1 hx).1
      have hlt2 := (List.getElem?_eq_some_iff.1 hy).1
      simp only [sy_wrap, sy_add, sy_sub, sy_mul, sy_ieq, sy_ilt, sy_ile, sy_seq, sy_beq, sy_bor, sy_bnot, sy_imax, sy_imin, sy_rlen, sy_slen, sy_sapp, sy_inr, sy_nat, sy_cell0, sy_cellS, sy_skip0, sy_inrn, sy_rapp, sy_fits, sy_cutok, sy_cut, sy_scut, sy_sbyte, sy_mkok, sy_mkok0, sy_mkz, sy_rep, sy_head, sy_deq, eqDs_int, eqDs_nil, opI_int, opB_bool, opS_str, opL_sl, opM_own, leaves_val, leaves_own, Option.bind_some, cutO_bool, bif_bool, cutO_inl, cutO_inr, eF_call, eF_lp, Nat.zero_add, Nat.reduceAdd, Bool.cond_false_right, Bool.cond_true_left, Bool.cond_false_left, Bool.cond_true_right, Bool.not_true, Bool.not_false, Bool.not_not, eq_self, decide_true, decide_false, cond_true, cond_false, Int.reduceEq, Int.reduceLT, Int.reduceLE, Int.reduceSub, Int.reduceAdd, Bool.true_and, Bool.and_true, Bool.false_and, Bool.and_false, Bool.or_false, Bool.false_or, Bool.true_or, Bool.or_true, true_and, and_true, irows_len, ilt_at hlt, inr_at hlt, inr_at hlt2, irows_at hx, irows_at hy, wrap_succ hlt (by omega)]
      cases decide (x = y) <;> rfl
    · simp only [sy_wrap, sy_add, sy_sub, sy_mul, sy_ieq, sy_ilt, sy_ile, sy_seq, sy_beq, sy_bor, sy_bnot, sy_imax, sy_imin, sy_rlen, sy_slen, sy_sapp, sy_inr, sy_nat, sy_cell0, sy_cellS, sy_skip0, sy_inrn, sy_rapp, sy_fits, sy_cutok, sy_cut, sy_scut, sy_sbyte, sy_mkok, sy_mkok0, sy_mkz, sy_rep, sy_head, sy_deq, eqDs_int, eqDs_nil, opI_int, opB_bool, opS_str, opL_sl, opM_own, leaves_val, leaves_own, Option.bind_some, cutO_bool, bif_bool, cutO_inl, cutO_inr, eF_call, eF_lp, Nat.zero_add, Nat.reduceAdd, Bool.cond_false_right, Bool.cond_true_left, Bool.cond_false_left, Bool.cond_true_right, Bool.not_true, Bool.not_false, Bool.not_not, eq_self, decide_true, decide_false, cond_true, cond_false, Int.reduceEq, Int.reduceLT, Int.reduceLE, Int.reduceSub, Int.reduceAdd, Bool.true_and, Bool.and_true, Bool.false_and, Bool.and_false, Bool.or_false, Bool.false_or, Bool.true_or, Bool.or_true, true_and, and_true, irows_len, ilt_self]
  · rw [decF hl, ne_len hl]; simp only [sy_wrap, sy_add, sy_sub, sy_mul, sy_ieq, sy_ilt, sy_ile, sy_seq, sy_beq, sy_bor, sy_bnot, sy_imax, sy_imin, sy_rlen, sy_slen, sy_sapp, sy_inr, sy_nat, sy_cell0, sy_cellS, sy_skip0, sy_inrn, sy_rapp, sy_fits, sy_cutok, sy_cut, sy_scut, sy_sbyte, sy_mkok, sy_mkok0, sy_mkz, sy_rep, sy_head, sy_deq, eqDs_int, eqDs_nil, opI_int, opB_bool, opS_str, opL_sl, opM_own, leaves_val, leaves_own, Option.bind_some, cutO_bool, bif_bool, cutO_inl, cutO_inr, eF_call, eF_lp, Nat.zero_add, Nat.reduceAdd, Bool.cond_false_right, Bool.cond_true_left, Bool.cond_false_left, Bool.cond_true_right, Bool.not_true, Bool.not_false, Bool.not_not, eq_self, decide_true, decide_false, cond_true, cond_false, Int.reduceEq, Int.reduceLT, Int.reduceLE, Int.reduceSub, Int.reduceAdd, Bool.true_and, Bool.and_true, Bool.false_and, Bool.and_false, Bool.or_false, Bool.false_or, Bool.true_or, Bool.or_true, true_and, and_true]
end Go.Vm
end

section
set_option linter.all false
set_option maxRecDepth 100000
set_option maxHeartbeats 4000000
namespace Go.Vm
open Go.Proofs
/-! ### each one once -/
theorem sy_mval (z k : D) (l : List (List D)) : sy.mval z k l = mval z k l := rfl
theorem sy_mput (k x : D) (l : List (List D)) : sy.mput k x l = mput k x l := rfl
def encT (l : List ByteArray) : List (List D) := l.map fun s => [.str s, .int .i64 1]
theorem key_str (a b : ByteArray) : keyIs (.str a) (.str b) = decide (a = b) := by
  show (a == b) = _
  have h : (a == b) = (a.data == b.data) := rfl
  rw [h, Bool.eq_iff_iff, beq_iff_eq, decide_eq_true_eq]
  exact ⟨fun h => by cases a; cases b; simp_all, fun h => by rw [h]⟩
theorem midxT {x : ByteArray} : ∀ {l : List ByteArray}, x ∉ l → midx (.str x) (encT l) = none
  | [], _ => rfl
  | y :: l, h => by
    have h1 : ¬ x = y := fun e => h (by rw [e]; exact List.mem_cons_self)
    have h2 : x ∉ l := fun e => h (List.mem_cons_of_mem _ e)
    show midx (.str x) ((D.str y :: [.int .i64 1]) :: encT l) = none
    have hk : keyIs (.str x) (.str y) = false := by rw [key_str]; exact decF h1
    simp only [midx, hk, midxT h2]; rfl
theorem mvalT {x : ByteArray} : ∀ {l : List ByteArray}, x ∈ l → mval (.int .i64 0) (.str x) (encT l) = .int .i64 1
  | y :: l, h => by
    show mval (.int .i64 0) (.str x) ((D.str y :: [.int .i64 1]) :: encT l) = _
    by_cases he : x = y
    · have hk : keyIs (.str x) (.str y) = true := by rw [key_str]; exact decT he
      simp only [mval, mget, midx, hk]; rfl
    · have hm : x ∈ l := by
        rcases List.mem_cons.1 h with e | e
        · exact absurd e he
        · exact e
      have ih := mvalT hm
      have hk : keyIs (.str x) (.str y) = false := by rw [key_str]; exact decF he
      simp only [mval, mget, midx, hk] at ih ⊢
      rw [← ih]
      cases midx (.str x) (encT l) <;> rfl
theorem mvalT0 {x : ByteArray} {l : List ByteArray} (h : x ∉ l) : mval (.int .i64 0) (.str x) (encT l) = .int .i64 0 := by
  unfold mval mget; rw [midxT h]; rfl
theorem mputT {x : ByteArray} {l : List ByteArray} (h : x ∉ l) : mput (.str x) (.int .i64 1) (encT l) = encT (l ++ [x]) := by
  unfold mput; rw [midxT h]; simp [encT]
theorem nodup_snoc {l : List ByteArray} {i : Nat} {x : ByteArray} (h : l[i]? = some x) (hn : (l.take i).Nodup) (hx : x ∉ l.take i) : (l.take (i + 1)).Nodup := by
  rw [List.take_add_one, h, Option.toList_some, List.nodup_append]
  exact ⟨hn, by simp, fun a ha b hb => by simp at hb; rw [hb]; exact fun e => hx (e ▸ ha)⟩
theorem nodup_not {l : List ByteArray} {i : Nat} {x : ByteArray} (h : l[i]? = some x) (hx : x ∈ l.take i) : ¬ l.Nodup := by
  intro hn
  have hd : l = l.take i ++ l.drop i := (List.take_append_drop i l).symm
  rw [hd, List.nodup_append] at hn
  refine hn.2.2 x hx x ?_ rfl
  have : (l.drop i)[0]? = some x := by simpa using h
  exact List.mem_of_getElem? this
theorem c_iOnce (l : List ByteArray) (hl : l.length ≤ 1000000) : cF 25 [.d (.sl 1 (srows l))] = some (.val [.bool (decide l.Nodup)]) := by
  refine cOf (by kernel_rfl) rfl ?_
  rw [g25_eq]
  simp only [g25, sy_wrap, sy_add, sy_sub, sy_mul, sy_ieq, sy_ilt, sy_ile, sy_seq, sy_beq, sy_bor, sy_bnot, sy_imax, sy_imin, sy_rlen, sy_slen, sy_sapp, sy_inr, sy_nat, sy_cell0, sy_cellS, sy_skip0, sy_inrn, sy_rapp, sy_fits, sy_cutok, sy_cut, sy_scut, sy_sbyte, sy_mkok, sy_mkok0, sy_mkz, sy_rep, sy_head, sy_deq, eqDs_int, eqDs_nil, opI_int, opB_bool, opS_str, opL_sl, opM_own, leaves_val, leaves_own, Option.bind_some, cutO_bool, bif_bool, cutO_inl, cutO_inr, eF_call, eF_lp, Nat.zero_add, Nat.reduceAdd, Bool.cond_false_right, Bool.cond_true_left, Bool.cond_false_left, Bool.cond_true_right, Bool.not_true, Bool.not_false, Bool.not_not, eq_self, decide_true, decide_false, cond_true, cond_false, Int.reduceEq, Int.reduceLT, Int.reduceLE, Int.reduceSub, Int.reduceAdd, Bool.true_and, Bool.and_true, Bool.false_and, Bool.and_false, Bool.or_false, Bool.false_or, Bool.true_or, Bool.or_true, true_and, and_true, srows_len]
  refine loopF_at (fun i : Nat => [.sl 1 (srows l), .int .i64 (l.length : Int), .int .i64 (i : Int), .sl 2 (encT (l.take i))]) (fun i => i ≤ l.length ∧ (l.take i).Nodup) (fun i => l.length - i) (fun i hi => ?_) 0 ⟨Nat.zero_le _, by simp⟩
  by_cases hlt : i < l.length
  · have hx := List.getElem?_eq_getElem hlt
    by_cases hm : l[i] ∈ l.take i
    · right
      rw [decF (nodup_not hx hm)]
      simp only [sy_wrap, sy_add, sy_sub, sy_mul, sy_ieq, sy_ilt, sy_ile, sy_seq, sy_beq, sy_bor, sy_bnot, sy_imax, sy_imin, sy_rlen, sy_slen, sy_sapp, sy_inr, sy_nat, sy_cell0, sy_cellS, sy_skip0, sy_inrn, sy_rapp, sy_fits, sy_cutok, sy_cut, sy_scut, sy_sbyte, sy_mkok, sy_mkok0, sy_mkz, sy_rep, sy_head, sy_deq, eqDs_int, eqDs_nil, opI_int, opB_bool, opS_str, opL_sl, opM_own, leaves_val, leaves_own, Option.bind_some, cutO_bool, bif_bool, cutO_inl, cutO_inr, eF_call, eF_lp, Nat.zero_add, Nat.reduceAdd, Bool.cond_false_right, Bool.cond_true_left, Bool.cond_false_left, Bool.cond_true_right, Bool.not_true, Bool.not_false, Bool.not_not, eq_self, decide_true, decide_false, cond_true, cond_false, Int.reduceEq, Int.reduceLT, Int.reduceLE, Int.reduceSub, Int.reduceAdd, Bool.true_and, Bool.and_true, Bool.false_and, Bool.and_false, Bool.or_false, Bool.false_or, Bool.true_or, Bool.or_true, true_and, and_true, srows_len, ilt_at hlt, inr_at hlt, srows_at hx, sy_mval, mvalT hm]
    · left
      refine ⟨i + 1, ?_, ⟨hlt, nodup_snoc hx hi.2 hm⟩, by omega⟩
      have hw : IntKind.i64.wrap 1 = 1 := rfl
      simp only [sy_wrap, sy_add, sy_sub, sy_mul, sy_ieq, sy_ilt, sy_ile, sy_seq, sy_beq, sy_bor, sy_bnot, sy_imax, sy_imin, sy_rlen, sy_slen, sy_sapp, sy_inr, sy_nat, sy_cell0, sy_cellS, sy_skip0, sy_inrn, sy_rapp, sy_fits, sy_cutok, sy_cut, sy_scut, sy_sbyte, sy_mkok, sy_mkok0, sy_mkz, sy_rep, sy_head, sy_deq, eqDs_int, eqDs_nil, opI_int, opB_bool, opS_str, opL_sl, opM_own, leaves_val, leaves_own, Option.bind_some, cutO_bool, bif_bool, cutO_inl, cutO_inr, eF_call, eF_lp, Nat.zero_add, Nat.reduceAdd, Bool.cond_false_right, Bool.cond_true_left, Bool.cond_false_left, Bool.cond_true_right, Bool.not_true, Bool.not_false, Bool.not_not, eq_self, decide_true, decide_false, cond_true, cond_false, Int.reduceEq, Int.reduceLT, Int.reduceLE, Int.reduceSub, Int.reduceAdd, Bool.true_and, Bool.and_true, Bool.false_and, Bool.and_false, Bool.or_false, Bool.false_or, Bool.true_or, Bool.or_true, true_and, and_true, srows_len, ilt_at hlt, inr_at hlt, srows_at hx, sy_mval, sy_mput, mvalT0 hm, hw, mputT hm, wrap_succ hlt (by omega)]
      rw [List.take_add_one, hx]; rfl
  · right
    have : i = l.length := by omega
    subst this
    simp only [sy_wrap, sy_add, sy_sub, sy_mul, sy_ieq, sy_ilt, sy_ile, sy_seq, sy_beq, sy_bor, sy_bnot, sy_imax, sy_imin, sy_rlen, sy_slen, sy_sapp, sy_inr, sy_nat, sy_cell0, sy_cellS, sy_skip0, sy_inrn, sy_rapp, sy_fits, sy_cutok, sy_cut, sy_scut, sy_sbyte, sy_mkok, sy_mkok0, sy_mkz, sy_rep, sy_head, sy_deq, eqDs_int, eqDs_nil, opI_int, opB_bool, opS_str, opL_sl, opM_own, leaves_val, leaves_own, Option.bind_some, cutO_bool, bif_bool, cutO_inl, cutO_inr, eF_call, eF_lp, Nat.zero_add, Nat.reduceAdd, Bool.cond_false_right, Bool.cond_true_left, Bool.cond_false_left, Bool.cond_true_right, Bool.not_true, Bool.not_false, Bool.not_not, eq_self, decide_true, decide_false, cond_true, cond_false, Int.reduceEq, Int.reduceLT, Int.reduceLE, Int.reduceSub, Int.reduceAdd, Bool.true_and, Bool.and_true, Bool.false_and, Bool.and_false, Bool.or_false, Bool.false_or, Bool.true_or, Bool.or_true, true_and, and_true, srows_len, ilt_self]
    rw [List.take_length] at hi
    rw [decT hi.2]
/-! ### which slots may be -/
def okAt (l : List Enm) (s : List Slt) (i : Nat) : Bool := decide (cellsN (s.take i) = (s.getD i default).at_) && (pathN (tb (s.getD i default).path) && valOK l (s.getD i default).ty (s.getD i default).init)
def rightS (l : List Enm) (s : List Slt) : Bool := !(decide (120 < (s.length : Int)) || decide (1000 < cellsN s)) && ((List.range s.length).all (okAt l s) && decide (s.map (·.path)).Nodup)
structure SB (s : List Slt) : Prop where
  len : s.length ≤ 1000000
  path : ∀ x ∈ s, x.path.size ≤ 100000
  init : ∀ x ∈ s, x.init.length ≤ 1000000
theorem vRight_u (l : List Enm) (t : Tyy) (vs : List Int) (hl : vs.length ≤ 1000000) : cF 24 [.d (.sl 2 (erows l)), V.agg [.d (.int .i64 t.k), .d (.int .i64 t.e), .d (.int .i64 t.n)], .d (.sl 1 (irows vs))] = some (.val [.bool (valOK l t vs)]) := c_vRight l t vs hl
theorem rvRight_u (l : List Enm) (t : Tyy) (vs : List Int) (hl : vs.length ≤ 1000000) : cF 28 [.d (.sl 2 (erows l)), V.agg [.d (.int .i64 t.k), .d (.int .i64 t.e), .d (.int .i64 t.n)], .d (.sl 1 (irows vs))] = some (.val [.bool (valOK l t vs)]) := c_rvRight l t vs hl
theorem rng_at {n i : Nat} (h : i < n) : (List.range n).getD i 0 = i := by simp [h]
theorem rng_take (n : Nat) : (List.range n).take n = List.range n := List.take_of_length_le (by simp)
theorem c_tRight (l : List Enm) (s : List Slt) (hs : SB s) : cF 9 [.d (.sl 2 (erows l)), .d (.sl 6 (slrows s))] = some (.val [.bool (rightS l s)]) := by
  have hC := c_tCells s hs.len
  have hL := hs.len
  unfold rightS
  refine cOf (by kernel_rfl) rfl ?_
  rw [g9_eq]
  simp only [g9, sy_wrap, sy_add, sy_sub, sy_mul, sy_ieq, sy_ilt, sy_ile, sy_seq, sy_beq, sy_bor, sy_bnot, sy_imax, sy_imin, sy_rlen, sy_slen, sy_sapp, sy_inr, sy_nat, sy_cell0, sy_cellS, sy_skip0, sy_inrn, sy_rapp, sy_fits, sy_cutok, sy_cut, sy_scut, sy_sbyte, sy_mkok, sy_mkok0, sy_mkz, sy_rep, sy_head, sy_deq, eqDs_int, eqDs_nil, opI_int, opB_bool, opS_str, opL_sl, opM_own, leaves_val, leaves_own, Option.bind_some, cutO_bool, bif_bool, cutO_inl, cutO_inr, eF_call, eF_lp, Nat.zero_add, Nat.reduceAdd, Bool.cond_false_right, Bool.cond_true_left, Bool.cond_false_left, Bool.cond_true_right, Bool.not_true, Bool.not_false, Bool.not_not, eq_self, decide_true, decide_false, cond_true, cond_false, Int.reduceEq, Int.reduceLT, Int.reduceLE, Int.reduceSub, Int.reduceAdd, Bool.true_and, Bool.and_true, Bool.false_and, Bool.and_false, Bool.or_false, Bool.false_or, Bool.true_or, Bool.or_true, true_and, and_true, slrows_len, hC]
  cases hh : (decide (120 < (s.length : Int)) || decide (1000 < cellsN s)) with
  | true => simp only [sy_wrap, sy_add, sy_sub, sy_mul, sy_ieq, sy_ilt, sy_ile, sy_seq, sy_beq, sy_bor, sy_bnot, sy_imax, sy_imin, sy_rlen, sy_slen, sy_sapp, sy_inr, sy_nat, sy_cell0, sy_cellS, sy_skip0, sy_inrn, sy_rapp, sy_fits, sy_cutok, sy_cut, sy_scut, sy_sbyte, sy_mkok, sy_mkok0, sy_mkz, sy_rep, sy_head, sy_deq, eqDs_int, eqDs_nil, opI_int, opB_bool, opS_str, opL_sl, opM_own, leaves_val, leaves_own, Option.bind_some, cutO_bool, bif_bool, cutO_inl, cutO_inr, eF_call, eF_lp, Nat.zero_add, Nat.reduceAdd, Bool.cond_false_right, Bool.cond_true_left, Bool.cond_false_left, Bool.cond_true_right, Bool.not_true, Bool.not_false, Bool.not_not, eq_self, decide_true, decide_false, cond_true, cond_false, Int.reduceEq, Int.reduceLT, Int.reduceLE, Int.reduceSub, Int.reduceAdd, Bool.true_and, Bool.and_true, Bool.false_and, Bool.and_false, Bool.or_false, Bool.false_or, Bool.true_or, Bool.or_true, true_and, and_true]
  | false =>
    simp only [sy_wrap, sy_add, sy_sub, sy_mul, sy_ieq, sy_ilt, sy_ile, sy_seq, sy_beq, sy_bor, sy_bnot, sy_imax, sy_imin, sy_rlen, sy_slen, sy_sapp, sy_inr, sy_nat, sy_cell0, sy_cellS, sy_skip0, sy_inrn, sy_rapp, sy_fits, sy_cutok, sy_cut, sy_scut, sy_sbyte, sy_mkok, sy_mkok0, sy_mkz, sy_rep, sy_head, sy_deq, eqDs_int, eqDs_nil, opI_int, opB_bool, opS_str, opL_sl, opM_own, leaves_val, leaves_own, Option.bind_some, cutO_bool, bif_bool, cutO_inl, cutO_inr, eF_call, eF_lp, Nat.zero_add, Nat.reduceAdd, Bool.cond_false_right, Bool.cond_true_left, Bool.cond_false_left, Bool.cond_true_right, Bool.not_true, Bool.not_false, Bool.not_not, eq_self, decide_true, decide_false, cond_true, cond_false, Int.reduceEq, Int.reduceLT, Int.reduceLE, Int.reduceSub, Int.reduceAdd, Bool.true_and, Bool.and_true, Bool.false_and, Bool.and_false, Bool.or_false, Bool.false_or, Bool.true_or, Bool.or_true, true_and, and_true]
    refine loopF_at (fun i : Nat => [.sl 2 (erows l), .sl 6 (slrows s), .int .i64 (s.length : Int), .int .i64 (i : Int), .int .i64 (cellsN (s.take i)), .sl 1 (srows ((s.take i).map (·.path)))]) (fun i => i ≤ s.length ∧ ((List.range s.length).take i).all (okAt l s) = true) (fun i => s.length - i) (fun i hi => ?_) 0 ⟨Nat.zero_le _, by simp⟩
    have hb := cellsN_tbd s i
    by_cases hlt : i < s.length
    · have hx := List.getElem?_eq_getElem hlt
      have hm := List.getElem_mem hlt
      have hp := c_Path s[i].path (hs.path _ hm)
      have hv := vRight_u l s[i].ty s[i].init (hs.init _ hm)
      have hc := c_pos s[i].ty
      have hw : IntKind.i64.wrap (cellsN (s.take i) + s[i].ty.c) = cellsN (s.take i) + s[i].ty.c := wrap_id (by omega) (by omega)
      have hr : i < (List.range s.length).length := by simpa using hlt
      have hgd : s.getD i default = s[i] := by simp [hlt]
      have hok : okAt l s i = (decide (cellsN (s.take i) = s[i].at_) && (pathN (tb s[i].path) && valOK l s[i].ty s[i].init)) := by unfold okAt; rw [hgd]
      cases ho : okAt l s i with
      | false =>
        right
        rw [all_false (d := 0) hr (by rw [rng_at hlt]; exact ho)]
        rw [hok] at ho
        simp only [sy_wrap, sy_add, sy_sub, sy_mul, sy_ieq, sy_ilt, sy_ile, sy_seq, sy_beq, sy_bor, sy_bnot, sy_imax, sy_imin, sy_rlen, sy_slen, sy_sapp, sy_inr, sy_nat, sy_cell0, sy_cellS, sy_skip0, sy_inrn, sy_rapp, sy_fits, sy_cutok, sy_cut, sy_scut, sy_sbyte, sy_mkok, sy_mkok0, sy_mkz, sy_rep, sy_head, sy_deq, eqDs_int, eqDs_nil, opI_int, opB_bool, opS_str, opL_sl, opM_own, leaves_val, leaves_own, Option.bind_some, cutO_bool, bif_bool, cutO_inl, cutO_inr, eF_call, eF_lp, Nat.zero_add, Nat.reduceAdd, Bool.cond_false_right, Bool.cond_true_left, Bool.cond_false_left, Bool.cond_true_right, Bool.not_true, Bool.not_false, Bool.not_not, eq_self, decide_true, decide_false, cond_true, cond_false, Int.reduceEq, Int.reduceLT, Int.reduceLE, Int.reduceSub, Int.reduceAdd, Bool.true_and, Bool.and_true, Bool.false_and, Bool.and_false, Bool.or_false, Bool.false_or, Bool.true_or, Bool.or_true, true_and, and_true, slrows_len, ilt_at hlt, inr_at hlt, slt_at hx, cells_u, hp, hv]
        cases h1 : decide (cellsN (s.take i) = s[i].at_) with
        | false => simp only [sy_wrap, sy_add, sy_sub, sy_mul, sy_ieq, sy_ilt, sy_ile, sy_seq, sy_beq, sy_bor, sy_bnot, sy_imax, sy_imin, sy_rlen, sy_slen, sy_sapp, sy_inr, sy_nat, sy_cell0, sy_cellS, sy_skip0, sy_inrn, sy_rapp, sy_fits, sy_cutok, sy_cut, sy_scut, sy_sbyte, sy_mkok, sy_mkok0, sy_mkz, sy_rep, sy_head, sy_deq, eqDs_int, eqDs_nil, opI_int, opB_bool, opS_str, opL_sl, opM_own, leaves_val, leaves_own, Option.bind_some, cutO_bool, bif_bool, cutO_inl, cutO_inr, eF_call, eF_lp, Nat.zero_add, Nat.reduceAdd, Bool.cond_false_right, Bool.cond_true_left, Bool.cond_false_left, Bool.cond_true_right, Bool.not_true, Bool.not_false, Bool.not_not, eq_self, decide_true, decide_false, cond_true, cond_false, Int.reduceEq, Int.reduceLT, Int.reduceLE, Int.reduceSub, Int.reduceAdd, Bool.true_and, Bool.and_true, Bool.false_and, Bool.and_false, Bool.or_false, Bool.false_or, Bool.true_or, Bool.or_true, true_and, and_true]
        | true =>
          cases h2 : pathN (tb s[i].path) with
          | false => simp only [sy_wrap, sy_add, sy_sub, sy_mul, sy_ieq, sy_ilt, sy_ile, sy_seq, sy_beq, sy_bor, sy_bnot, sy_imax, sy_imin, sy_rlen, sy_slen, sy_sapp, sy_inr, sy_nat, sy_cell0, sy_cellS, sy_skip0, sy_inrn, sy_rapp, sy_fits, sy_cutok, sy_cut, sy_scut, sy_sbyte, sy_mkok, sy_mkok0, sy_mkz, sy_rep, sy_head, sy_deq, eqDs_int, eqDs_nil, opI_int, opB_bool, opS_str, opL_sl, opM_own, leaves_val, leaves_own, Option.bind_some, cutO_bool, bif_bool, cutO_inl, cutO_inr, eF_call, eF_lp, Nat.zero_add, Nat.reduceAdd, Bool.cond_false_right, Bool.cond_true_left, Bool.cond_false_left, Bool.cond_true_right, Bool.not_true, Bool.not_false, Bool.not_not, eq_self, decide_true, decide_false, cond_true, cond_false, Int.reduceEq, Int.reduceLT, Int.reduceLE, Int.reduceSub, Int.reduceAdd, Bool.true_and, Bool.and_true, Bool.false_and, Bool.and_false, Bool.or_false, Bool.false_or, Bool.true_or, Bool.or_true, true_and, and_true]
          | true =>
            rw [h1, h2] at ho
            rw [show valOK l s[i].ty s[i].init = false from ho]
            simp only [sy_wrap, sy_add, sy_sub, sy_mul, sy_ieq, sy_ilt, sy_ile, sy_seq, sy_beq, sy_bor, sy_bnot, sy_imax, sy_imin, sy_rlen, sy_slen, sy_sapp, sy_inr, sy_nat, sy_cell0, sy_cellS, sy_skip0, sy_inrn, sy_rapp, sy_fits, sy_cutok, sy_cut, sy_scut, sy_sbyte, sy_mkok, sy_mkok0, sy_mkz, sy_rep, sy_head, sy_deq, eqDs_int, eqDs_nil, opI_int, opB_bool, opS_str, opL_sl, opM_own, leaves_val, leaves_own, Option.bind_some, cutO_bool, bif_bool, cutO_inl, cutO_inr, eF_call, eF_lp, Nat.zero_add, Nat.reduceAdd, Bool.cond_false_right, Bool.cond_true_left, Bool.cond_false_left, Bool.cond_true_right, Bool.not_true, Bool.not_false, Bool.not_not, eq_self, decide_true, decide_false, cond_true, cond_false, Int.reduceEq, Int.reduceLT, Int.reduceLE, Int.reduceSub, Int.reduceAdd, Bool.true_and, Bool.and_true, Bool.false_and, Bool.and_false, Bool.or_false, Bool.false_or, Bool.true_or, Bool.or_true, true_and, and_true]
      | true =>
        left
        refine ⟨i + 1, ?_, ⟨hlt, all_snoc (d := 0) hr hi.2 (by rw [rng_at hlt]; exact ho)⟩, by omega⟩
        rw [hok] at ho
        simp only [Bool.and_eq_true] at ho
        obtain ⟨h1, h2, h3⟩ := ho
        have hf : sy.fits (srows ((s.take i).map (·.path))) [[D.str s[i].path]] 16 = true := decide_eq_true (by
          rw [srows_len, List.length_map, List.length_take]
          show (min i s.length + 1) * 17 ≤ _
          omega)
        simp only [sy_wrap, sy_add, sy_sub, sy_mul, sy_ieq, sy_ilt, sy_ile, sy_seq, sy_beq, sy_bor, sy_bnot, sy_imax, sy_imin, sy_rlen, sy_slen, sy_sapp, sy_inr, sy_nat, sy_cell0, sy_cellS, sy_skip0, sy_inrn, sy_rapp, sy_fits, sy_cutok, sy_cut, sy_scut, sy_sbyte, sy_mkok, sy_mkok0, sy_mkz, sy_rep, sy_head, sy_deq, eqDs_int, eqDs_nil, opI_int, opB_bool, opS_str, opL_sl, opM_own, leaves_val, leaves_own, Option.bind_some, cutO_bool, bif_bool, cutO_inl, cutO_inr, eF_call, eF_lp, Nat.zero_add, Nat.reduceAdd, Bool.cond_false_right, Bool.cond_true_left, Bool.cond_false_left, Bool.cond_true_right, Bool.not_true, Bool.not_false, Bool.not_not, eq_self, decide_true, decide_false, cond_true, cond_false, Int.reduceEq, Int.reduceLT, Int.reduceLE, Int.reduceSub, Int.reduceAdd, Bool.true_and, Bool.and_true, Bool.false_and, Bool.and_false, Bool.or_false, Bool.false_or, Bool.true_or, Bool.or_true, true_and, and_true, slrows_len, ilt_at hlt, inr_at hlt, slt_at hx, cells_u, hp, hv, h1, h2, h3, hw, wrap_succ hlt (by omega)] at hf ⊢
        rw [hf, cellsN_take hx]
        rw [show (s.take (i + 1)).map (·.path) = (s.take i).map (·.path) ++ [s[i].path] by rw [List.take_add_one, hx, List.map_append]; rfl]
        rw [← srows_app]
        rfl
    · right
      have : i = s.length := by omega
      subst this
      have hi := hi.2
      rw [rng_take] at hi
      have hO := c_iOnce (s.map (·.path)) (by simp; exact hs.len)
      simp only [sy_wrap, sy_add, sy_sub, sy_mul, sy_ieq, sy_ilt, sy_ile, sy_seq, sy_beq, sy_bor, sy_bnot, sy_imax, sy_imin, sy_rlen, sy_slen, sy_sapp, sy_inr, sy_nat, sy_cell0, sy_cellS, sy_skip0, sy_inrn, sy_rapp, sy_fits, sy_cutok, sy_cut, sy_scut, sy_sbyte, sy_mkok, sy_mkok0, sy_mkz, sy_rep, sy_head, sy_deq, eqDs_int, eqDs_nil, opI_int, opB_bool, opS_str, opL_sl, opM_own, leaves_val, leaves_own, Option.bind_some, cutO_bool, bif_bool, cutO_inl, cutO_inr, eF_call, eF_lp, Nat.zero_add, Nat.reduceAdd, Bool.cond_false_right, Bool.cond_true_left, Bool.cond_false_left, Bool.cond_true_right, Bool.not_true, Bool.not_false, Bool.not_not, eq_self, decide_true, decide_false, cond_true, cond_false, Int.reduceEq, Int.reduceLT, Int.reduceLE, Int.reduceSub, Int.reduceAdd, Bool.true_and, Bool.and_true, Bool.false_and, Bool.and_false, Bool.or_false, Bool.false_or, Bool.true_or, Bool.or_true, true_and, and_true, ilt_self, List.take_length, hO, hi]
theorem idxI_spec {τ : Type} (p : τ → Bool) : ∀ (l : List τ) (i : Int), (idxI p l i = -1 ∧ ∀ x ∈ l, p x = false) ∨ ∃ (k : Nat) (x : τ), idxI p l i = i + k ∧ l[k]? = some x ∧ p x = true ∧ ∀ (j : Nat) y, j < k → l[j]? = some y → p y = false
  | [], i => .inl ⟨rfl, by simp⟩
  | x :: l, i => by
    unfold idxI
    by_cases hp : p x = true
    · exact .inr ⟨0, x, by simp [hp], rfl, hp, fun j y hj => by omega⟩
    · have hp : p x = false := by simpa using hp
      rcases idxI_spec p l (i + 1) with ⟨h1, h2⟩ | ⟨k, y, h1, h2, h3, h4⟩
      · exact .inl ⟨by simp [hp, h1], fun z hz => by
          rcases List.mem_cons.1 hz with rfl | hz
          · exact hp
          · exact h2 z hz⟩
      · refine .inr ⟨k + 1, y, by simp [hp, h1]; omega, h2, h3, fun j z hj hz => ?_⟩
        cases j with
        | zero => simp at hz; rw [← hz]; exact hp
        | succ j => exact h4 j z (by omega) (by simpa using hz)
theorem find_once (s : List Slt) : (∀ i (h : i < s.length), findS s s[i].path = i) ↔ (s.map (·.path)).Nodup := by
  rw [List.nodup_iff_pairwise_ne, List.pairwise_iff_getElem]
  simp only [List.length_map, List.getElem_map]
  unfold findS
  constructor
  · intro h i j hi hj hij e
    have h2 := h j hj
    rcases idxI_spec (pathIs s[j].path) s 0 with ⟨h3, h4⟩ | ⟨k, x, h3, h4, h5, h6⟩
    · omega
    · have hk : k = j := by omega
      have := h6 i s[i] (by omega) (List.getElem?_eq_getElem hi)
      unfold pathIs at this
      rw [e] at this
      simp at this
  · intro h i hi
    rcases idxI_spec (pathIs s[i].path) s 0 with ⟨h3, h4⟩ | ⟨k, x, h3, h4, h5, h6⟩
    · have := h4 _ (List.getElem_mem hi)
      simp [pathIs] at this
    · obtain ⟨hk, rfl⟩ := List.getElem?_eq_some_iff.1 h4
      have h5 := tb_inj (of_decide_eq_true h5)
      rcases Nat.lt_trichotomy k i with hlt | heq | hgt
      · exact absurd h5 (h k i hk hi hlt)
      · omega
      · have := h6 i s[i] hgt (List.getElem?_eq_getElem hi)
        simp [pathIs] at this
theorem c_rtRight (l : List Enm) (s : List Slt) (hs : SB s) : cF 10 [.d (.sl 2 (erows l)), .d (.sl 6 (slrows s))] = some (.val [.bool (rightS l s)]) := by
  have hC := c_rtCells s hs.len
  have hL := hs.len
  unfold rightS
  refine cOf (by kernel_rfl) rfl ?_
  rw [g10_eq]
  simp only [g10, sy_wrap, sy_add, sy_sub, sy_mul, sy_ieq, sy_ilt, sy_ile, sy_seq, sy_beq, sy_bor, sy_bnot, sy_imax, sy_imin, sy_rlen, sy_slen, sy_sapp, sy_inr, sy_nat, sy_cell0, sy_cellS, sy_skip0, sy_inrn, sy_rapp, sy_fits, sy_cutok, sy_cut, sy_scut, sy_sbyte, sy_mkok, sy_mkok0, sy_mkz, sy_rep, sy_head, sy_deq, eqDs_int, eqDs_nil, opI_int, opB_bool, opS_str, opL_sl, opM_own, leaves_val, leaves_own, Option.bind_some, cutO_bool, bif_bool, cutO_inl, cutO_inr, eF_call, eF_lp, Nat.zero_add, Nat.reduceAdd, Bool.cond_false_right, Bool.cond_true_left, Bool.cond_false_left, Bool.cond_true_right, Bool.not_true, Bool.not_false, Bool.not_not, eq_self, decide_true, decide_false, cond_true, cond_false, Int.reduceEq, Int.reduceLT, Int.reduceLE, Int.reduceSub, Int.reduceAdd, Bool.true_and, Bool.and_true, Bool.false_and, Bool.and_false, Bool.or_false, Bool.false_or, Bool.true_or, Bool.or_true, true_and, and_true, slrows_len, hC]
  cases hh : (decide (120 < (s.length : Int)) || decide (1000 < cellsN s)) with
  | true => simp only [sy_wrap, sy_add, sy_sub, sy_mul, sy_ieq, sy_ilt, sy_ile, sy_seq, sy_beq, sy_bor, sy_bnot, sy_imax, sy_imin, sy_rlen, sy_slen, sy_sapp, sy_inr, sy_nat, sy_cell0, sy_cellS, sy_skip0, sy_inrn, sy_rapp, sy_fits, sy_cutok, sy_cut, sy_scut, sy_sbyte, sy_mkok, sy_mkok0, sy_mkz, sy_rep, sy_head, sy_deq, eqDs_int, eqDs_nil, opI_int, opB_bool, opS_str, opL_sl, opM_own, leaves_val, leaves_own, Option.bind_some, cutO_bool, bif_bool, cutO_inl, cutO_inr, eF_call, eF_lp, Nat.zero_add, Nat.reduceAdd, Bool.cond_false_right, Bool.cond_true_left, Bool.cond_false_left, Bool.cond_true_right, Bool.not_true, Bool.not_false, Bool.not_not, eq_self, decide_true, decide_false, cond_true, cond_false, Int.reduceEq, Int.reduceLT, Int.reduceLE, Int.reduceSub, Int.reduceAdd, Bool.true_and, Bool.and_true, Bool.false_and, Bool.and_false, Bool.or_false, Bool.false_or, Bool.true_or, Bool.or_true, true_and, and_true]
  | false =>
    simp only [sy_wrap, sy_add, sy_sub, sy_mul, sy_ieq, sy_ilt, sy_ile, sy_seq, sy_beq, sy_bor, sy_bnot, sy_imax, sy_imin, sy_rlen, sy_slen, sy_sapp, sy_inr, sy_nat, sy_cell0, sy_cellS, sy_skip0, sy_inrn, sy_rapp, sy_fits, sy_cutok, sy_cut, sy_scut, sy_sbyte, sy_mkok, sy_mkok0, sy_mkz, sy_rep, sy_head, sy_deq, eqDs_int, eqDs_nil, opI_int, opB_bool, opS_str, opL_sl, opM_own, leaves_val, leaves_own, Option.bind_some, cutO_bool, bif_bool, cutO_inl, cutO_inr, eF_call, eF_lp, Nat.zero_add, Nat.reduceAdd, Bool.cond_false_right, Bool.cond_true_left, Bool.cond_false_left, Bool.cond_true_right, Bool.not_true, Bool.not_false, Bool.not_not, eq_self, decide_true, decide_false, cond_true, cond_false, Int.reduceEq, Int.reduceLT, Int.reduceLE, Int.reduceSub, Int.reduceAdd, Bool.true_and, Bool.and_true, Bool.false_and, Bool.and_false, Bool.or_false, Bool.false_or, Bool.true_or, Bool.or_true, true_and, and_true]
    refine loopF_at (fun i : Nat => [.sl 2 (erows l), .sl 6 (slrows s), .int .i64 (i : Int)]) (fun i => i ≤ s.length ∧ ((List.range s.length).take i).all (okAt l s) = true ∧ ∀ j (h : j < s.length), j < i → findS s s[j].path = j) (fun i => s.length - i) (fun i hi => ?_) 0 ⟨Nat.zero_le _, by simp, by omega⟩
    obtain ⟨hi, hia, hif⟩ := hi
    by_cases hlt : i < s.length
    · have hx := List.getElem?_eq_getElem hlt
      have hm := List.getElem_mem hlt
      have hp := c_rPath s[i].path (hs.path _ hm)
      have hv := rvRight_u l s[i].ty s[i].init (hs.init _ hm)
      have hF := c_rtFind s s[i].path hs.len
      have hr : i < (List.range s.length).length := by simpa using hlt
      have hgd : s.getD i default = s[i] := by simp [hlt]
      have hok : okAt l s i = (decide (cellsN (s.take i) = s[i].at_) && (pathN (tb s[i].path) && valOK l s[i].ty s[i].init)) := by unfold okAt; rw [hgd]
      have hcut : sy.cut (slrows s) 0 (i : Int) = slrows (s.take i) := by
        rw [sy_cut, Int.toNat_natCast]; simp [slrows]
      have hck : decide (0 ≤ (i : Int) ∧ (i : Int) ≤ (s.length : Int)) = true := decT ⟨by omega, by omega⟩
      have hCi := c_rtCells (s.take i) (by simp; omega)
      rw [← hcut] at hCi
      simp only [sy_cut] at hCi
      cases ho : okAt l s i with
      | false =>
        right
        rw [all_false (d := 0) hr (by rw [rng_at hlt]; exact ho)]
        rw [hok] at ho
        simp only [sy_wrap, sy_add, sy_sub, sy_mul, sy_ieq, sy_ilt, sy_ile, sy_seq, sy_beq, sy_bor, sy_bnot, sy_imax, sy_imin, sy_rlen, sy_slen, sy_sapp, sy_inr, sy_nat, sy_cell0, sy_cellS, sy_skip0, sy_inrn, sy_rapp, sy_fits, sy_cutok, sy_cut, sy_scut, sy_sbyte, sy_mkok, sy_mkok0, sy_mkz, sy_rep, sy_head, sy_deq, eqDs_int, eqDs_nil, opI_int, opB_bool, opS_str, opL_sl, opM_own, leaves_val, leaves_own, Option.bind_some, cutO_bool, bif_bool, cutO_inl, cutO_inr, eF_call, eF_lp, Nat.zero_add, Nat.reduceAdd, Bool.cond_false_right, Bool.cond_true_left, Bool.cond_false_left, Bool.cond_true_right, Bool.not_true, Bool.not_false, Bool.not_not, eq_self, decide_true, decide_false, cond_true, cond_false, Int.reduceEq, Int.reduceLT, Int.reduceLE, Int.reduceSub, Int.reduceAdd, Bool.true_and, Bool.and_true, Bool.false_and, Bool.and_false, Bool.or_false, Bool.false_or, Bool.true_or, Bool.or_true, true_and, and_true, slrows_len, ilt_at hlt, inr_at hlt, slt_at hx, skip1, skip4, skip5, hp, hv, hck, hCi]
        cases h2 : pathN (tb s[i].path) with
        | false => simp only [sy_wrap, sy_add, sy_sub, sy_mul, sy_ieq, sy_ilt, sy_ile, sy_seq, sy_beq, sy_bor, sy_bnot, sy_imax, sy_imin, sy_rlen, sy_slen, sy_sapp, sy_inr, sy_nat, sy_cell0, sy_cellS, sy_skip0, sy_inrn, sy_rapp, sy_fits, sy_cutok, sy_cut, sy_scut, sy_sbyte, sy_mkok, sy_mkok0, sy_mkz, sy_rep, sy_head, sy_deq, eqDs_int, eqDs_nil, opI_int, opB_bool, opS_str, opL_sl, opM_own, leaves_val, leaves_own, Option.bind_some, cutO_bool, bif_bool, cutO_inl, cutO_inr, eF_call, eF_lp, Nat.zero_add, Nat.reduceAdd, Bool.cond_false_right, Bool.cond_true_left, Bool.cond_false_left, Bool.cond_true_right, Bool.not_true, Bool.not_false, Bool.not_not, eq_self, decide_true, decide_false, cond_true, cond_false, Int.reduceEq, Int.reduceLT, Int.reduceLE, Int.reduceSub, Int.reduceAdd, Bool.true_and, Bool.and_true, Bool.false_and, Bool.and_false, Bool.or_false, Bool.false_or, Bool.true_or, Bool.or_true, true_and, and_true]
        | true =>
          cases h3 : valOK l s[i].ty s[i].init with
          | false => simp only [sy_wrap, sy_add, sy_sub, sy_mul, sy_ieq, sy_ilt, sy_ile, sy_seq, sy_beq, sy_bor, sy_bnot, sy_imax, sy_imin, sy_rlen, sy_slen, sy_sapp, sy_inr, sy_nat, sy_cell0, sy_cellS, sy_skip0, sy_inrn, sy_rapp, sy_fits, sy_cutok, sy_cut, sy_scut, sy_sbyte, sy_mkok, sy_mkok0, sy_mkz, sy_rep, sy_head, sy_deq, eqDs_int, eqDs_nil, opI_int, opB_bool, opS_str, opL_sl, opM_own, leaves_val, leaves_own, Option.bind_some, cutO_bool, bif_bool, cutO_inl, cutO_inr, eF_call, eF_lp, Nat.zero_add, Nat.reduceAdd, Bool.cond_false_right, Bool.cond_true_left, Bool.cond_false_left, Bool.cond_true_right, Bool.not_true, Bool.not_false, Bool.not_not, eq_self, decide_true, decide_false, cond_true, cond_false, Int.reduceEq, Int.reduceLT, Int.reduceLE, Int.reduceSub, Int.reduceAdd, Bool.true_and, Bool.and_true, Bool.false_and, Bool.and_false, Bool.or_false, Bool.false_or, Bool.true_or, Bool.or_true, true_and, and_true]
          | true =>
            rw [h2, h3] at ho
            have : ¬ s[i].at_ = cellsN (s.take i) := by
              simp at ho; exact fun e => ho e.symm
            rw [decF this]
            simp only [sy_wrap, sy_add, sy_sub, sy_mul, sy_ieq, sy_ilt, sy_ile, sy_seq, sy_beq, sy_bor, sy_bnot, sy_imax, sy_imin, sy_rlen, sy_slen, sy_sapp, sy_inr, sy_nat, sy_cell0, sy_cellS, sy_skip0, sy_inrn, sy_rapp, sy_fits, sy_cutok, sy_cut, sy_scut, sy_sbyte, sy_mkok, sy_mkok0, sy_mkz, sy_rep, sy_head, sy_deq, eqDs_int, eqDs_nil, opI_int, opB_bool, opS_str, opL_sl, opM_own, leaves_val, leaves_own, Option.bind_some, cutO_bool, bif_bool, cutO_inl, cutO_inr, eF_call, eF_lp, Nat.zero_add, Nat.reduceAdd, Bool.cond_false_right, Bool.cond_true_left, Bool.cond_false_left, Bool.cond_true_right, Bool.not_true, Bool.not_false, Bool.not_not, eq_self, decide_true, decide_false, cond_true, cond_false, Int.reduceEq, Int.reduceLT, Int.reduceLE, Int.reduceSub, Int.reduceAdd, Bool.true_and, Bool.and_true, Bool.false_and, Bool.and_false, Bool.or_false, Bool.false_or, Bool.true_or, Bool.or_true, true_and, and_true]
      | true =>
        rw [hok] at ho
        have ho' := ho
        simp only [Bool.and_eq_true, decide_eq_true_eq] at ho
        obtain ⟨h1, h2, h3⟩ := ho
        by_cases hf : findS s s[i].path = i
        · left
          refine ⟨i + 1, ?_, ⟨hlt, all_snoc (d := 0) hr hia (by rw [rng_at hlt, hok]; exact ho'), fun j hj hji => ?_⟩, by omega⟩
          · simp only [sy_wrap, sy_add, sy_sub, sy_mul, sy_ieq, sy_ilt, sy_ile, sy_seq, sy_beq, sy_bor, sy_bnot, sy_imax, sy_imin, sy_rlen, sy_slen, sy_sapp, sy_inr, sy_nat, sy_cell0, sy_cellS, sy_skip0, sy_inrn, sy_rapp, sy_fits, sy_cutok, sy_cut, sy_scut, sy_sbyte, sy_mkok, sy_mkok0, sy_mkz, sy_rep, sy_head, sy_deq, eqDs_int, eqDs_nil, opI_int, opB_bool, opS_str, opL_sl, opM_own, leaves_val, leaves_own, Option.bind_some, cutO_bool, bif_bool, cutO_inl, cutO_inr, eF_call, eF_lp, Nat.zero_add, Nat.reduceAdd, Bool.cond_false_right, Bool.cond_true_left, Bool.cond_false_left, Bool.cond_true_right, Bool.not_true, Bool.not_false, Bool.not_not, eq_self, decide_true, decide_false, cond_true, cond_false, Int.reduceEq, Int.reduceLT, Int.reduceLE, Int.reduceSub, Int.reduceAdd, Bool.true_and, Bool.and_true, Bool.false_and, Bool.and_false, Bool.or_false, Bool.false_or, Bool.true_or, Bool.or_true, true_and, and_true, slrows_len, ilt_at hlt, inr_at hlt, slt_at hx, skip1, skip4, skip5, hp, hv, h1, h2, h3, hck, hCi, hF, hf, wrap_succ hlt (by omega)]
            rfl
          · by_cases hji2 : j = i
            · subst hji2; exact hf
            · exact hif j hj (by omega)
        · right
          have hn : ¬ (s.map (·.path)).Nodup := fun hn => hf ((find_once s).2 hn i hlt)
          rw [decF hn]
          simp only [sy_wrap, sy_add, sy_sub, sy_mul, sy_ieq, sy_ilt, sy_ile, sy_seq, sy_beq, sy_bor, sy_bnot, sy_imax, sy_imin, sy_rlen, sy_slen, sy_sapp, sy_inr, sy_nat, sy_cell0, sy_cellS, sy_skip0, sy_inrn, sy_rapp, sy_fits, sy_cutok, sy_cut, sy_scut, sy_sbyte, sy_mkok, sy_mkok0, sy_mkz, sy_rep, sy_head, sy_deq, eqDs_int, eqDs_nil, opI_int, opB_bool, opS_str, opL_sl, opM_own, leaves_val, leaves_own, Option.bind_some, cutO_bool, bif_bool, cutO_inl, cutO_inr, eF_call, eF_lp, Nat.zero_add, Nat.reduceAdd, Bool.cond_false_right, Bool.cond_true_left, Bool.cond_false_left, Bool.cond_true_right, Bool.not_true, Bool.not_false, Bool.not_not, eq_self, decide_true, decide_false, cond_true, cond_false, Int.reduceEq, Int.reduceLT, Int.reduceLE, Int.reduceSub, Int.reduceAdd, Bool.true_and, Bool.and_true, Bool.false_and, Bool.and_false, Bool.or_false, Bool.false_or, Bool.true_or, Bool.or_true, true_and, and_true, slrows_len, ilt_at hlt, inr_at hlt, slt_at hx, skip1, skip4, skip5, hp, hv, h1, h2, h3, hck, hCi, hF, decF hf]
    · right
      have : i = s.length := by omega
      subst this
      rw [rng_take] at hia
      have hn : (s.map (·.path)).Nodup := (find_once s).1 fun i h => hif i h h
      rw [decT hn, hia]
      simp only [sy_wrap, sy_add, sy_sub, sy_mul, sy_ieq, sy_ilt, sy_ile, sy_seq, sy_beq, sy_bor, sy_bnot, sy_imax, sy_imin, sy_rlen, sy_slen, sy_sapp, sy_inr, sy_nat, sy_cell0, sy_cellS, sy_skip0, sy_inrn, sy_rapp, sy_fits, sy_cutok, sy_cut, sy_scut, sy_sbyte, sy_mkok, sy_mkok0, sy_mkz, sy_rep, sy_head, sy_deq, eqDs_int, eqDs_nil, opI_int, opB_bool, opS_str, opL_sl, opM_own, leaves_val, leaves_own, Option.bind_some, cutO_bool, bif_bool, cutO_inl, cutO_inr, eF_call, eF_lp, Nat.zero_add, Nat.reduceAdd, Bool.cond_false_right, Bool.cond_true_left, Bool.cond_false_left, Bool.cond_true_right, Bool.not_true, Bool.not_false, Bool.not_not, eq_self, decide_true, decide_false, cond_true, cond_false, Int.reduceEq, Int.reduceLT, Int.reduceLE, Int.reduceSub, Int.reduceAdd, Bool.true_and, Bool.and_true, Bool.false_and, Bool.and_false, Bool.or_false, Bool.false_or, Bool.true_or, Bool.or_true, true_and, and_true, slrows_len, ilt_self]
end Go.Vm
end

section
set_option linter.all false
set_option maxRecDepth 100000
set_option maxHeartbeats 4000000
namespace Go.Vm
open Go.Proofs
/-! ### the same slots -/
theorem c_tSame (s : List Slt) (hs : SB s) : cF 13 [.d (.sl 6 (slrows s)), .d (.sl 6 (slrows s))] = some (.val [.bool true]) := by
  have hL := hs.len
  have h32 : ∀ x ∈ s, cF 32 [V.agg [.d (.str x.path), .d (.int .i64 x.ty.k), .d (.int .i64 x.ty.e), .d (.int .i64 x.ty.n), .d (.int .i64 x.at_), .d (.sl 1 (irows x.init))], V.agg [.d (.str x.path), .d (.int .i64 x.ty.k), .d (.int .i64 x.ty.e), .d (.int .i64 x.ty.n), .d (.int .i64 x.at_), .d (.sl 1 (irows x.init))]] = some (.val [.bool true]) := fun x hx => by
    have h49 := c_xEqual x.init x.init (hs.init x hx)
    refine cOf (by kernel_rfl) rfl ?_
    rw [g32_eq]
    simp only [g32, sy_wrap, sy_add, sy_sub, sy_mul, sy_ieq, sy_ilt, sy_ile, sy_seq, sy_beq, sy_bor, sy_bnot, sy_imax, sy_imin, sy_rlen, sy_slen, sy_sapp, sy_inr, sy_nat, sy_cell0, sy_cellS, sy_skip0, sy_inrn, sy_rapp, sy_fits, sy_cutok, sy_cut, sy_scut, sy_sbyte, sy_mkok, sy_mkok0, sy_mkz, sy_rep, sy_head, sy_deq, eqDs_int, eqDs_nil, opI_int, opB_bool, opS_str, opL_sl, opM_own, leaves_val, leaves_own, Option.bind_some, cutO_bool, bif_bool, cutO_inl, cutO_inr, eF_call, eF_lp, Nat.zero_add, Nat.reduceAdd, Bool.cond_false_right, Bool.cond_true_left, Bool.cond_false_left, Bool.cond_true_right, Bool.not_true, Bool.not_false, Bool.not_not, eq_self, decide_true, decide_false, cond_true, cond_false, Int.reduceEq, Int.reduceLT, Int.reduceLE, Int.reduceSub, Int.reduceAdd, Bool.true_and, Bool.and_true, Bool.false_and, Bool.and_false, Bool.or_false, Bool.false_or, Bool.true_or, Bool.or_true, true_and, and_true, h49, seq_tb, beq_self_eq_true]
  have h31 : cF 31 [.d (.sl 6 (slrows s)), .d (.sl 6 (slrows s)), .fn 32 []] = some (.val [.bool true]) := by
    refine cOf (by kernel_rfl) rfl ?_
    rw [g31_32_eq]
    simp only [g31_32, sy_wrap, sy_add, sy_sub, sy_mul, sy_ieq, sy_ilt, sy_ile, sy_seq, sy_beq, sy_bor, sy_bnot, sy_imax, sy_imin, sy_rlen, sy_slen, sy_sapp, sy_inr, sy_nat, sy_cell0, sy_cellS, sy_skip0, sy_inrn, sy_rapp, sy_fits, sy_cutok, sy_cut, sy_scut, sy_sbyte, sy_mkok, sy_mkok0, sy_mkz, sy_rep, sy_head, sy_deq, eqDs_int, eqDs_nil, opI_int, opB_bool, opS_str, opL_sl, opM_own, leaves_val, leaves_own, Option.bind_some, cutO_bool, bif_bool, cutO_inl, cutO_inr, eF_call, eF_lp, Nat.zero_add, Nat.reduceAdd, Bool.cond_false_right, Bool.cond_true_left, Bool.cond_false_left, Bool.cond_true_right, Bool.not_true, Bool.not_false, Bool.not_not, eq_self, decide_true, decide_false, cond_true, cond_false, Int.reduceEq, Int.reduceLT, Int.reduceLE, Int.reduceSub, Int.reduceAdd, Bool.true_and, Bool.and_true, Bool.false_and, Bool.and_false, Bool.or_false, Bool.false_or, Bool.true_or, Bool.or_true, true_and, and_true, slrows_len]
    refine loopF_at (fun i : Nat => [.sl 6 (slrows s), .sl 6 (slrows s), .int .i64 (s.length : Int), .int .i64 (i : Int)]) (fun i => i ≤ s.length) (fun i => s.length - i) (fun i hi => ?_) 0 (Nat.zero_le _)
    by_cases hlt : i < s.length
    · left
      have hx := List.getElem?_eq_getElem hlt
      refine ⟨i + 1, ?_, hlt, by omega⟩
      simp only [sy_wrap, sy_add, sy_sub, sy_mul, sy_ieq, sy_ilt, sy_ile, sy_seq, sy_beq, sy_bor, sy_bnot, sy_imax, sy_imin, sy_rlen, sy_slen, sy_sapp, sy_inr, sy_nat, sy_cell0, sy_cellS, sy_skip0, sy_inrn, sy_rapp, sy_fits, sy_cutok, sy_cut, sy_scut, sy_sbyte, sy_mkok, sy_mkok0, sy_mkz, sy_rep, sy_head, sy_deq, eqDs_int, eqDs_nil, opI_int, opB_bool, opS_str, opL_sl, opM_own, leaves_val, leaves_own, Option.bind_some, cutO_bool, bif_bool, cutO_inl, cutO_inr, eF_call, eF_lp, Nat.zero_add, Nat.reduceAdd, Bool.cond_false_right, Bool.cond_true_left, Bool.cond_false_left, Bool.cond_true_right, Bool.not_true, Bool.not_false, Bool.not_not, eq_self, decide_true, decide_false, cond_true, cond_false, Int.reduceEq, Int.reduceLT, Int.reduceLE, Int.reduceSub, Int.reduceAdd, Bool.true_and, Bool.and_true, Bool.false_and, Bool.and_false, Bool.or_false, Bool.false_or, Bool.true_or, Bool.or_true, true_and, and_true, slrows_len, ilt_at hlt, inr_at hlt, slt_at hx, h32 _ (List.getElem_mem hlt), wrap_succ hlt (by omega)]
      rfl
    · right
      have : i = s.length := by omega
      subst this
      simp only [sy_wrap, sy_add, sy_sub, sy_mul, sy_ieq, sy_ilt, sy_ile, sy_seq, sy_beq, sy_bor, sy_bnot, sy_imax, sy_imin, sy_rlen, sy_slen, sy_sapp, sy_inr, sy_nat, sy_cell0, sy_cellS, sy_skip0, sy_inrn, sy_rapp, sy_fits, sy_cutok, sy_cut, sy_scut, sy_sbyte, sy_mkok, sy_mkok0, sy_mkz, sy_rep, sy_head, sy_deq, eqDs_int, eqDs_nil, opI_int, opB_bool, opS_str, opL_sl, opM_own, leaves_val, leaves_own, Option.bind_some, cutO_bool, bif_bool, cutO_inl, cutO_inr, eF_call, eF_lp, Nat.zero_add, Nat.reduceAdd, Bool.cond_false_right, Bool.cond_true_left, Bool.cond_false_left, Bool.cond_true_right, Bool.not_true, Bool.not_false, Bool.not_not, eq_self, decide_true, decide_false, cond_true, cond_false, Int.reduceEq, Int.reduceLT, Int.reduceLE, Int.reduceSub, Int.reduceAdd, Bool.true_and, Bool.and_true, Bool.false_and, Bool.and_false, Bool.or_false, Bool.false_or, Bool.true_or, Bool.or_true, true_and, and_true, ilt_self]
  refine cOf (by kernel_rfl) rfl ?_
  rw [g13_eq]
  simp only [g13, sy_wrap, sy_add, sy_sub, sy_mul, sy_ieq, sy_ilt, sy_ile, sy_seq, sy_beq, sy_bor, sy_bnot, sy_imax, sy_imin, sy_rlen, sy_slen, sy_sapp, sy_inr, sy_nat, sy_cell0, sy_cellS, sy_skip0, sy_inrn, sy_rapp, sy_fits, sy_cutok, sy_cut, sy_scut, sy_sbyte, sy_mkok, sy_mkok0, sy_mkz, sy_rep, sy_head, sy_deq, eqDs_int, eqDs_nil, opI_int, opB_bool, opS_str, opL_sl, opM_own, leaves_val, leaves_own, Option.bind_some, cutO_bool, bif_bool, cutO_inl, cutO_inr, eF_call, eF_lp, Nat.zero_add, Nat.reduceAdd, Bool.cond_false_right, Bool.cond_true_left, Bool.cond_false_left, Bool.cond_true_right, Bool.not_true, Bool.not_false, Bool.not_not, eq_self, decide_true, decide_false, cond_true, cond_false, Int.reduceEq, Int.reduceLT, Int.reduceLE, Int.reduceSub, Int.reduceAdd, Bool.true_and, Bool.and_true, Bool.false_and, Bool.and_false, Bool.or_false, Bool.false_or, Bool.true_or, Bool.or_true, true_and, and_true, h31]
/-! ### how many, at most -/
theorem ex_b {P : Prop} {c : Bool} {a b : Option (List D ⊕ PRes)} (ht : c = true → ∃ x, a = some x) (hf : c = false → ∃ x, b = some x) : ∃ x, (bif c then a else b) = some x := by
  cases c
  · exact hf rfl
  · exact ht rfl
theorem c_rtFew (s : List Slt) : ∃ p, cF 7 [.d (.sl 6 (slrows s))] = some p ∧ ∃ b, p = .val [.bool b] ∧ (b = true → s.length ≤ 150 ∧ ∀ x ∈ s, x.path.size ≤ 200 ∧ x.init.length ≤ 20) := by
  refine cOfP (by kernel_rfl) rfl ?_
  rw [g7_eq]
  unfold g7
  rw [eF_lp]
  refine loopF_ex (fun i : Nat => [.sl 6 (slrows s), .int .i64 (i : Int)]) (fun i => i ≤ 200 ∧ i ≤ s.length ∧ ∀ j (h : j < s.length), j < i → s[j].path.size ≤ 200 ∧ s[j].init.length ≤ 20) (fun i => s.length - i) (fun i hi => ?_) 0 ⟨by omega, Nat.zero_le _, by omega⟩
  obtain ⟨h2, hi, hj⟩ := hi
  by_cases hlt : i < s.length
  · have hx := List.getElem?_eq_getElem hlt
    by_cases h3 : i < 200
    · by_cases h4 : s[i].path.size ≤ 200
      · by_cases h5 : s[i].init.length ≤ 20
        · left
          refine ⟨i + 1, ?_, ⟨by omega, hlt, fun j hjl hji => ?_⟩, by omega⟩
          · simp only [sy_wrap, sy_add, sy_sub, sy_mul, sy_ieq, sy_ilt, sy_ile, sy_seq, sy_beq, sy_bor, sy_bnot, sy_imax, sy_imin, sy_rlen, sy_slen, sy_sapp, sy_inr, sy_nat, sy_cell0, sy_cellS, sy_skip0, sy_inrn, sy_rapp, sy_fits, sy_cutok, sy_cut, sy_scut, sy_sbyte, sy_mkok, sy_mkok0, sy_mkz, sy_rep, sy_head, sy_deq, eqDs_int, eqDs_nil, opI_int, opB_bool, opS_str, opL_sl, opM_own, leaves_val, leaves_own, Option.bind_some, cutO_bool, bif_bool, cutO_inl, cutO_inr, eF_call, eF_lp, Nat.zero_add, Nat.reduceAdd, Bool.cond_false_right, Bool.cond_true_left, Bool.cond_false_left, Bool.cond_true_right, Bool.not_true, Bool.not_false, Bool.not_not, eq_self, decide_true, decide_false, cond_true, cond_false, Int.reduceEq, Int.reduceLT, Int.reduceLE, Int.reduceSub, Int.reduceAdd, Bool.true_and, Bool.and_true, Bool.false_and, Bool.and_false, Bool.or_false, Bool.false_or, Bool.true_or, Bool.or_true, true_and, and_true, slrows_len, irows_len, ilt_at hlt, inr_at hlt, slt_at hx, skip5, decT (p := (i : Int) < 200) (by omega), decF (p := 200 < (s[i].path.size : Int)) (by omega), decF (p := 20 < (s[i].init.length : Int)) (by omega), wrap_succ h3 (by omega)]
            rfl
          · by_cases hji2 : j = i
            · subst hji2; exact ⟨h4, h5⟩
            · exact hj j hjl (by omega)
        · right
          refine ⟨.val [.bool false], ?_, false, rfl, fun h => by cases h⟩
          simp only [sy_wrap, sy_add, sy_sub, sy_mul, sy_ieq, sy_ilt, sy_ile, sy_seq, sy_beq, sy_bor, sy_bnot, sy_imax, sy_imin, sy_rlen, sy_slen, sy_sapp, sy_inr, sy_nat, sy_cell0, sy_cellS, sy_skip0, sy_inrn, sy_rapp, sy_fits, sy_cutok, sy_cut, sy_scut, sy_sbyte, sy_mkok, sy_mkok0, sy_mkz, sy_rep, sy_head, sy_deq, eqDs_int, eqDs_nil, opI_int, opB_bool, opS_str, opL_sl, opM_own, leaves_val, leaves_own, Option.bind_some, cutO_bool, bif_bool, cutO_inl, cutO_inr, eF_call, eF_lp, Nat.zero_add, Nat.reduceAdd, Bool.cond_false_right, Bool.cond_true_left, Bool.cond_false_left, Bool.cond_true_right, Bool.not_true, Bool.not_false, Bool.not_not, eq_self, decide_true, decide_false, cond_true, cond_false, Int.reduceEq, Int.reduceLT, Int.reduceLE, Int.reduceSub, Int.reduceAdd, Bool.true_and, Bool.and_true, Bool.false_and, Bool.and_false, Bool.or_false, Bool.false_or, Bool.true_or, Bool.or_true, true_and, and_true, slrows_len, irows_len, ilt_at hlt, inr_at hlt, slt_at hx, skip5, decT (p := (i : Int) < 200) (by omega), decF (p := 200 < (s[i].path.size : Int)) (by omega), decT (p := 20 < (s[i].init.length : Int)) (by omega)]
      · right
        refine ⟨.val [.bool false], ?_, false, rfl, fun h => by cases h⟩
        simp only [sy_wrap, sy_add, sy_sub, sy_mul, sy_ieq, sy_ilt, sy_ile, sy_seq, sy_beq, sy_bor, sy_bnot, sy_imax, sy_imin, sy_rlen, sy_slen, sy_sapp, sy_inr, sy_nat, sy_cell0, sy_cellS, sy_skip0, sy_inrn, sy_rapp, sy_fits, sy_cutok, sy_cut, sy_scut, sy_sbyte, sy_mkok, sy_mkok0, sy_mkz, sy_rep, sy_head, sy_deq, eqDs_int, eqDs_nil, opI_int, opB_bool, opS_str, opL_sl, opM_own, leaves_val, leaves_own, Option.bind_some, cutO_bool, bif_bool, cutO_inl, cutO_inr, eF_call, eF_lp, Nat.zero_add, Nat.reduceAdd, Bool.cond_false_right, Bool.cond_true_left, Bool.cond_false_left, Bool.cond_true_right, Bool.not_true, Bool.not_false, Bool.not_not, eq_self, decide_true, decide_false, cond_true, cond_false, Int.reduceEq, Int.reduceLT, Int.reduceLE, Int.reduceSub, Int.reduceAdd, Bool.true_and, Bool.and_true, Bool.false_and, Bool.and_false, Bool.or_false, Bool.false_or, Bool.true_or, Bool.or_true, true_and, and_true, slrows_len, irows_len, ilt_at hlt, inr_at hlt, slt_at hx, skip5, decT (p := (i : Int) < 200) (by omega), decT (p := 200 < (s[i].path.size : Int)) (by omega)]
    · right
      refine ⟨.val [.bool false], ?_, false, rfl, fun h => by cases h⟩
      simp only [sy_wrap, sy_add, sy_sub, sy_mul, sy_ieq, sy_ilt, sy_ile, sy_seq, sy_beq, sy_bor, sy_bnot, sy_imax, sy_imin, sy_rlen, sy_slen, sy_sapp, sy_inr, sy_nat, sy_cell0, sy_cellS, sy_skip0, sy_inrn, sy_rapp, sy_fits, sy_cutok, sy_cut, sy_scut, sy_sbyte, sy_mkok, sy_mkok0, sy_mkz, sy_rep, sy_head, sy_deq, eqDs_int, eqDs_nil, opI_int, opB_bool, opS_str, opL_sl, opM_own, leaves_val, leaves_own, Option.bind_some, cutO_bool, bif_bool, cutO_inl, cutO_inr, eF_call, eF_lp, Nat.zero_add, Nat.reduceAdd, Bool.cond_false_right, Bool.cond_true_left, Bool.cond_false_left, Bool.cond_true_right, Bool.not_true, Bool.not_false, Bool.not_not, eq_self, decide_true, decide_false, cond_true, cond_false, Int.reduceEq, Int.reduceLT, Int.reduceLE, Int.reduceSub, Int.reduceAdd, Bool.true_and, Bool.and_true, Bool.false_and, Bool.and_false, Bool.or_false, Bool.false_or, Bool.true_or, Bool.or_true, true_and, and_true, slrows_len, ilt_at hlt, decF (p := (i : Int) < 200) (by omega), decF (p := (s.length : Int) ≤ 150) (by omega)]
  · right
    have : i = s.length := by omega
    subst this
    refine ⟨.val [.bool (decide ((s.length : Int) ≤ 150))], ?_, _, rfl, fun h => ⟨by have := of_decide_eq_true h; omega, fun x hx => ?_⟩⟩
    · simp only [sy_wrap, sy_add, sy_sub, sy_mul, sy_ieq, sy_ilt, sy_ile, sy_seq, sy_beq, sy_bor, sy_bnot, sy_imax, sy_imin, sy_rlen, sy_slen, sy_sapp, sy_inr, sy_nat, sy_cell0, sy_cellS, sy_skip0, sy_inrn, sy_rapp, sy_fits, sy_cutok, sy_cut, sy_scut, sy_sbyte, sy_mkok, sy_mkok0, sy_mkz, sy_rep, sy_head, sy_deq, eqDs_int, eqDs_nil, opI_int, opB_bool, opS_str, opL_sl, opM_own, leaves_val, leaves_own, Option.bind_some, cutO_bool, bif_bool, cutO_inl, cutO_inr, eF_call, eF_lp, Nat.zero_add, Nat.reduceAdd, Bool.cond_false_right, Bool.cond_true_left, Bool.cond_false_left, Bool.cond_true_right, Bool.not_true, Bool.not_false, Bool.not_not, eq_self, decide_true, decide_false, cond_true, cond_false, Int.reduceEq, Int.reduceLT, Int.reduceLE, Int.reduceSub, Int.reduceAdd, Bool.true_and, Bool.and_true, Bool.false_and, Bool.and_false, Bool.or_false, Bool.false_or, Bool.true_or, Bool.or_true, true_and, and_true, slrows_len, ilt_self]
    · obtain ⟨j, hj1, rfl⟩ := List.getElem_of_mem hx
      exact hj j hj1 hj1
theorem c_rmFew (s : List Cll) : ∃ p, cF 14 [.d (.sl 2 (clrows s))] = some p ∧ ∃ b, p = .val [.bool b] ∧ (b = true → s.length ≤ 150 ∧ ∀ x ∈ s, x.path.size ≤ 200 ∧ x.vals.length ≤ 20) := by
  refine cOfP (by kernel_rfl) rfl ?_
  rw [g14_eq]
  unfold g14
  rw [eF_lp]
  refine loopF_ex (fun i : Nat => [.sl 2 (clrows s), .int .i64 (i : Int)]) (fun i => i ≤ 200 ∧ i ≤ s.length ∧ ∀ j (h : j < s.length), j < i → s[j].path.size ≤ 200 ∧ s[j].vals.length ≤ 20) (fun i => s.length - i) (fun i hi => ?_) 0 ⟨by omega, Nat.zero_le _, by omega⟩
  obtain ⟨h2, hi, hj⟩ := hi
  by_cases hlt : i < s.length
  · have hx := List.getElem?_eq_getElem hlt
    by_cases h3 : i < 200
    · by_cases h4 : s[i].path.size ≤ 200
      · by_cases h5 : s[i].vals.length ≤ 20
        · left
          refine ⟨i + 1, ?_, ⟨by omega, hlt, fun j hjl hji => ?_⟩, by omega⟩
          · simp only [sy_wrap, sy_add, sy_sub, sy_mul, sy_ieq, sy_ilt, sy_ile, sy_seq, sy_beq, sy_bor, sy_bnot, sy_imax, sy_imin, sy_rlen, sy_slen, sy_sapp, sy_inr, sy_nat, sy_cell0, sy_cellS, sy_skip0, sy_inrn, sy_rapp, sy_fits, sy_cutok, sy_cut, sy_scut, sy_sbyte, sy_mkok, sy_mkok0, sy_mkz, sy_rep, sy_head, sy_deq, eqDs_int, eqDs_nil, opI_int, opB_bool, opS_str, opL_sl, opM_own, leaves_val, leaves_own, Option.bind_some, cutO_bool, bif_bool, cutO_inl, cutO_inr, eF_call, eF_lp, Nat.zero_add, Nat.reduceAdd, Bool.cond_false_right, Bool.cond_true_left, Bool.cond_false_left, Bool.cond_true_right, Bool.not_true, Bool.not_false, Bool.not_not, eq_self, decide_true, decide_false, cond_true, cond_false, Int.reduceEq, Int.reduceLT, Int.reduceLE, Int.reduceSub, Int.reduceAdd, Bool.true_and, Bool.and_true, Bool.false_and, Bool.and_false, Bool.or_false, Bool.false_or, Bool.true_or, Bool.or_true, true_and, and_true, clrows_len, irows_len, ilt_at hlt, inr_at hlt, cll_at hx, skip1, decT (p := (i : Int) < 200) (by omega), decF (p := 200 < (s[i].path.size : Int)) (by omega), decF (p := 20 < (s[i].vals.length : Int)) (by omega), wrap_succ h3 (by omega)]
            rfl
          · by_cases hji2 : j = i
            · subst hji2; exact ⟨h4, h5⟩
            · exact hj j hjl (by omega)
        · right
          refine ⟨.val [.bool false], ?_, false, rfl, fun h => by cases h⟩
          simp only [sy_wrap, sy_add, sy_sub, sy_mul, sy_ieq, sy_ilt, sy_ile, sy_seq, sy_beq, sy_bor, sy_bnot, sy_imax, sy_imin, sy_rlen, sy_slen, sy_sapp, sy_inr, sy_nat, sy_cell0, sy_cellS, sy_skip0, sy_inrn, sy_rapp, sy_fits, sy_cutok, sy_cut, sy_scut, sy_sbyte, sy_mkok, sy_mkok0, sy_mkz, sy_rep, sy_head, sy_deq, eqDs_int, eqDs_nil, opI_int, opB_bool, opS_str, opL_sl, opM_own, leaves_val, leaves_own, Option.bind_some, cutO_bool, bif_bool, cutO_inl, cutO_inr, eF_call, eF_lp, Nat.zero_add, Nat.reduceAdd, Bool.cond_false_right, Bool.cond_true_left, Bool.cond_false_left, Bool.cond_true_right, Bool.not_true, Bool.not_false, Bool.not_not, eq_self, decide_true, decide_false, cond_true, cond_false, Int.reduceEq, Int.reduceLT, Int.reduceLE, Int.reduceSub, Int.reduceAdd, Bool.true_and, Bool.and_true, Bool.false_and, Bool.and_false, Bool.or_false, Bool.false_or, Bool.true_or, Bool.or_true, true_and, and_true, clrows_len, irows_len, ilt_at hlt, inr_at hlt, cll_at hx, skip1, decT (p := (i : Int) < 200) (by omega), decF (p := 200 < (s[i].path.size : Int)) (by omega), decT (p := 20 < (s[i].vals.length : Int)) (by omega)]
      · right
        refine ⟨.val [.bool false], ?_, false, rfl, fun h => by cases h⟩
        simp only [sy_wrap, sy_add, sy_sub, sy_mul, sy_ieq, sy_ilt, sy_ile, sy_seq, sy_beq, sy_bor, sy_bnot, sy_imax, sy_imin, sy_rlen, sy_slen, sy_sapp, sy_inr, sy_nat, sy_cell0, sy_cellS, sy_skip0, sy_inrn, sy_rapp, sy_fits, sy_cutok, sy_cut, sy_scut, sy_sbyte, sy_mkok, sy_mkok0, sy_mkz, sy_rep, sy_head, sy_deq, eqDs_int, eqDs_nil, opI_int, opB_bool, opS_str, opL_sl, opM_own, leaves_val, leaves_own, Option.bind_some, cutO_bool, bif_bool, cutO_inl, cutO_inr, eF_call, eF_lp, Nat.zero_add, Nat.reduceAdd, Bool.cond_false_right, Bool.cond_true_left, Bool.cond_false_left, Bool.cond_true_right, Bool.not_true, Bool.not_false, Bool.not_not, eq_self, decide_true, decide_false, cond_true, cond_false, Int.reduceEq, Int.reduceLT, Int.reduceLE, Int.reduceSub, Int.reduceAdd, Bool.true_and, Bool.and_true, Bool.false_and, Bool.and_false, Bool.or_false, Bool.false_or, Bool.true_or, Bool.or_true, true_and, and_true, clrows_len, irows_len, ilt_at hlt, inr_at hlt, cll_at hx, skip1, decT (p := (i : Int) < 200) (by omega), decT (p := 200 < (s[i].path.size : Int)) (by omega)]
    · right
      refine ⟨.val [.bool false], ?_, false, rfl, fun h => by cases h⟩
      simp only [sy_wrap, sy_add, sy_sub, sy_mul, sy_ieq, sy_ilt, sy_ile, sy_seq, sy_beq, sy_bor, sy_bnot, sy_imax, sy_imin, sy_rlen, sy_slen, sy_sapp, sy_inr, sy_nat, sy_cell0, sy_cellS, sy_skip0, sy_inrn, sy_rapp, sy_fits, sy_cutok, sy_cut, sy_scut, sy_sbyte, sy_mkok, sy_mkok0, sy_mkz, sy_rep, sy_head, sy_deq, eqDs_int, eqDs_nil, opI_int, opB_bool, opS_str, opL_sl, opM_own, leaves_val, leaves_own, Option.bind_some, cutO_bool, bif_bool, cutO_inl, cutO_inr, eF_call, eF_lp, Nat.zero_add, Nat.reduceAdd, Bool.cond_false_right, Bool.cond_true_left, Bool.cond_false_left, Bool.cond_true_right, Bool.not_true, Bool.not_false, Bool.not_not, eq_self, decide_true, decide_false, cond_true, cond_false, Int.reduceEq, Int.reduceLT, Int.reduceLE, Int.reduceSub, Int.reduceAdd, Bool.true_and, Bool.and_true, Bool.false_and, Bool.and_false, Bool.or_false, Bool.false_or, Bool.true_or, Bool.or_true, true_and, and_true, clrows_len, ilt_at hlt, decF (p := (i : Int) < 200) (by omega), decF (p := (s.length : Int) ≤ 150) (by omega)]
  · right
    have : i = s.length := by omega
    subst this
    refine ⟨.val [.bool (decide ((s.length : Int) ≤ 150))], ?_, _, rfl, fun h => ⟨by have := of_decide_eq_true h; omega, fun x hx => ?_⟩⟩
    · simp only [sy_wrap, sy_add, sy_sub, sy_mul, sy_ieq, sy_ilt, sy_ile, sy_seq, sy_beq, sy_bor, sy_bnot, sy_imax, sy_imin, sy_rlen, sy_slen, sy_sapp, sy_inr, sy_nat, sy_cell0, sy_cellS, sy_skip0, sy_inrn, sy_rapp, sy_fits, sy_cutok, sy_cut, sy_scut, sy_sbyte, sy_mkok, sy_mkok0, sy_mkz, sy_rep, sy_head, sy_deq, eqDs_int, eqDs_nil, opI_int, opB_bool, opS_str, opL_sl, opM_own, leaves_val, leaves_own, Option.bind_some, cutO_bool, bif_bool, cutO_inl, cutO_inr, eF_call, eF_lp, Nat.zero_add, Nat.reduceAdd, Bool.cond_false_right, Bool.cond_true_left, Bool.cond_false_left, Bool.cond_true_right, Bool.not_true, Bool.not_false, Bool.not_not, eq_self, decide_true, decide_false, cond_true, cond_false, Int.reduceEq, Int.reduceLT, Int.reduceLE, Int.reduceSub, Int.reduceAdd, Bool.true_and, Bool.and_true, Bool.false_and, Bool.and_false, Bool.or_false, Bool.false_or, Bool.true_or, Bool.or_true, true_and, and_true, clrows_len, ilt_self]
    · obtain ⟨j, hj1, rfl⟩ := List.getElem_of_mem hx
      exact hj j hj1 hj1
theorem enm_at {l : List Enm} {i : Nat} {x : Enm} (h : l[i]? = some x) : sy.row (erows l) (i : Int) = [.str x.name, .sl 1 (srows x.ctors)] := erows_at h
theorem inner_lp {X : Option (List D ⊕ PRes)} {P : Prop} {R : PRes → Prop} {L : List D} (key : ∃ r, X = some r ∧ (r = .inl L ∨ ∃ q, r = .inr q ∧ R q)) (k : X = some (.inl L) → P) : P ∨ ∃ q, X = some (.inr q) ∧ R q := by
  obtain ⟨r, h, h2⟩ := key
  rcases h2 with rfl | ⟨q, rfl, h3⟩
  · exact .inl (k h)
  · exact .inr ⟨q, h, h3⟩
theorem c_rSmall (l : List Enm) : ∃ p, cF 6 [.d (.sl 2 (erows l))] = some p ∧ ∃ b, p = .val [.bool b] := by
  refine cOfP (by kernel_rfl) rfl ?_
  rw [g6_eq]
  unfold g6
  by_cases h8 : 8 < (l.length : Int)
  · refine ⟨_, ?_, false, rfl⟩
    rw [show sy.ilt 8 (sy.rlen (erows l)) = true from decT (by rw [sy_rlen, erows_len]; exact h8)]; rfl
  · rw [show sy.ilt 8 (sy.rlen (erows l)) = false from decF (by rw [sy_rlen, erows_len]; exact h8), cond_false, eF_lp]
    refine loopF_ex (fun i : Nat => [.sl 2 (erows l), .int .i64 (i : Int)]) (fun i => i ≤ l.length) (fun i => l.length - i) (fun i hi => ?_) 0 (Nat.zero_le _)
    by_cases hlt : i < l.length
    · have hx := List.getElem?_eq_getElem hlt
      by_cases h12 : l[i].ctors.length ≤ 12
      · by_cases h100 : l[i].name.size ≤ 100
        · simp only [sy_wrap, sy_add, sy_sub, sy_mul, sy_ieq, sy_ilt, sy_ile, sy_seq, sy_beq, sy_bor, sy_bnot, sy_imax, sy_imin, sy_rlen, sy_slen, sy_sapp, sy_inr, sy_nat, sy_cell0, sy_cellS, sy_skip0, sy_inrn, sy_rapp, sy_fits, sy_cutok, sy_cut, sy_scut, sy_sbyte, sy_mkok, sy_mkok0, sy_mkz, sy_rep, sy_head, sy_deq, eqDs_int, eqDs_nil, opI_int, opB_bool, opS_str, opL_sl, opM_own, leaves_val, leaves_own, Option.bind_some, cutO_bool, bif_bool, cutO_inl, cutO_inr, eF_call, eF_lp, Nat.zero_add, Nat.reduceAdd, Bool.cond_false_right, Bool.cond_true_left, Bool.cond_false_left, Bool.cond_true_right, Bool.not_true, Bool.not_false, Bool.not_not, eq_self, decide_true, decide_false, cond_true, cond_false, Int.reduceEq, Int.reduceLT, Int.reduceLE, Int.reduceSub, Int.reduceAdd, Bool.true_and, Bool.and_true, Bool.false_and, Bool.and_false, Bool.or_false, Bool.false_or, Bool.true_or, Bool.or_true, true_and, and_true, erows_len, srows_len, ilt_at hlt, inr_at hlt, enm_at hx, skip1, decF (p := 12 < (l[i].ctors.length : Int)) (by omega), decF (p := 100 < (l[i].name.size : Int)) (by omega)]
          refine inner_lp (L := [D.sl 2 (erows l), D.int IntKind.i64 ((i : Int) + 1)]) ?_ (fun hr => ⟨i + 1, hr, hlt, by omega⟩)
          refine loopF_ex (fun j : Nat => [.sl 2 (erows l), .int .i64 (i : Int), .int .i64 (j : Int)]) (fun j => j ≤ l[i].ctors.length) (fun j => l[i].ctors.length - j) (fun j hj => ?_) 0 (Nat.zero_le _)
          by_cases hjl : j < l[i].ctors.length
          · have hy := List.getElem?_eq_getElem hjl
            by_cases hc : l[i].ctors[j].size ≤ 100
            · left
              refine ⟨j + 1, ?_, hjl, by omega⟩
              simp only [sy_wrap, sy_add, sy_sub, sy_mul, sy_ieq, sy_ilt, sy_ile, sy_seq, sy_beq, sy_bor, sy_bnot, sy_imax, sy_imin, sy_rlen, sy_slen, sy_sapp, sy_inr, sy_nat, sy_cell0, sy_cellS, sy_skip0, sy_inrn, sy_rapp, sy_fits, sy_cutok, sy_cut, sy_scut, sy_sbyte, sy_mkok, sy_mkok0, sy_mkz, sy_rep, sy_head, sy_deq, eqDs_int, eqDs_nil, opI_int, opB_bool, opS_str, opL_sl, opM_own, leaves_val, leaves_own, Option.bind_some, cutO_bool, bif_bool, cutO_inl, cutO_inr, eF_call, eF_lp, Nat.zero_add, Nat.reduceAdd, Bool.cond_false_right, Bool.cond_true_left, Bool.cond_false_left, Bool.cond_true_right, Bool.not_true, Bool.not_false, Bool.not_not, eq_self, decide_true, decide_false, cond_true, cond_false, Int.reduceEq, Int.reduceLT, Int.reduceLE, Int.reduceSub, Int.reduceAdd, Bool.true_and, Bool.and_true, Bool.false_and, Bool.and_false, Bool.or_false, Bool.false_or, Bool.true_or, Bool.or_true, true_and, and_true, erows_len, srows_len, inr_at hlt, ilt_at hjl, inr_at hjl, enm_at hx, skip1, srows_at hy, decF (p := 100 < (l[i].ctors[j].size : Int)) (by omega), wrap_succ hjl (by omega)]
              rfl
            · right
              refine ⟨.inr (.val [.bool false]), ?_, .inr ⟨_, rfl, false, rfl⟩⟩
              simp only [sy_wrap, sy_add, sy_sub, sy_mul, sy_ieq, sy_ilt, sy_ile, sy_seq, sy_beq, sy_bor, sy_bnot, sy_imax, sy_imin, sy_rlen, sy_slen, sy_sapp, sy_inr, sy_nat, sy_cell0, sy_cellS, sy_skip0, sy_inrn, sy_rapp, sy_fits, sy_cutok, sy_cut, sy_scut, sy_sbyte, sy_mkok, sy_mkok0, sy_mkz, sy_rep, sy_head, sy_deq, eqDs_int, eqDs_nil, opI_int, opB_bool, opS_str, opL_sl, opM_own, leaves_val, leaves_own, Option.bind_some, cutO_bool, bif_bool, cutO_inl, cutO_inr, eF_call, eF_lp, Nat.zero_add, Nat.reduceAdd, Bool.cond_false_right, Bool.cond_true_left, Bool.cond_false_left, Bool.cond_true_right, Bool.not_true, Bool.not_false, Bool.not_not, eq_self, decide_true, decide_false, cond_true, cond_false, Int.reduceEq, Int.reduceLT, Int.reduceLE, Int.reduceSub, Int.reduceAdd, Bool.true_and, Bool.and_true, Bool.false_and, Bool.and_false, Bool.or_false, Bool.false_or, Bool.true_or, Bool.or_true, true_and, and_true, erows_len, srows_len, inr_at hlt, ilt_at hjl, inr_at hjl, enm_at hx, skip1, srows_at hy, decT (p := 100 < (l[i].ctors[j].size : Int)) (by omega)]
          · have : j = l[i].ctors.length := by omega
            subst this
            right
            refine ⟨_, ?_, .inl rfl⟩
            simp only [sy_wrap, sy_add, sy_sub, sy_mul, sy_ieq, sy_ilt, sy_ile, sy_seq, sy_beq, sy_bor, sy_bnot, sy_imax, sy_imin, sy_rlen, sy_slen, sy_sapp, sy_inr, sy_nat, sy_cell0, sy_cellS, sy_skip0, sy_inrn, sy_rapp, sy_fits, sy_cutok, sy_cut, sy_scut, sy_sbyte, sy_mkok, sy_mkok0, sy_mkz, sy_rep, sy_head, sy_deq, eqDs_int, eqDs_nil, opI_int, opB_bool, opS_str, opL_sl, opM_own, leaves_val, leaves_own, Option.bind_some, cutO_bool, bif_bool, cutO_inl, cutO_inr, eF_call, eF_lp, Nat.zero_add, Nat.reduceAdd, Bool.cond_false_right, Bool.cond_true_left, Bool.cond_false_left, Bool.cond_true_right, Bool.not_true, Bool.not_false, Bool.not_not, eq_self, decide_true, decide_false, cond_true, cond_false, Int.reduceEq, Int.reduceLT, Int.reduceLE, Int.reduceSub, Int.reduceAdd, Bool.true_and, Bool.and_true, Bool.false_and, Bool.and_false, Bool.or_false, Bool.false_or, Bool.true_or, Bool.or_true, true_and, and_true, erows_len, srows_len, inr_at hlt, ilt_self, enm_at hx, skip1, wrap_succ hlt (by omega)]
        · right
          refine ⟨.val [.bool false], ?_, false, rfl⟩
          simp only [sy_wrap, sy_add, sy_sub, sy_mul, sy_ieq, sy_ilt, sy_ile, sy_seq, sy_beq, sy_bor, sy_bnot, sy_imax, sy_imin, sy_rlen, sy_slen, sy_sapp, sy_inr, sy_nat, sy_cell0, sy_cellS, sy_skip0, sy_inrn, sy_rapp, sy_fits, sy_cutok, sy_cut, sy_scut, sy_sbyte, sy_mkok, sy_mkok0, sy_mkz, sy_rep, sy_head, sy_deq, eqDs_int, eqDs_nil, opI_int, opB_bool, opS_str, opL_sl, opM_own, leaves_val, leaves_own, Option.bind_some, cutO_bool, bif_bool, cutO_inl, cutO_inr, eF_call, eF_lp, Nat.zero_add, Nat.reduceAdd, Bool.cond_false_right, Bool.cond_true_left, Bool.cond_false_left, Bool.cond_true_right, Bool.not_true, Bool.not_false, Bool.not_not, eq_self, decide_true, decide_false, cond_true, cond_false, Int.reduceEq, Int.reduceLT, Int.reduceLE, Int.reduceSub, Int.reduceAdd, Bool.true_and, Bool.and_true, Bool.false_and, Bool.and_false, Bool.or_false, Bool.false_or, Bool.true_or, Bool.or_true, true_and, and_true, erows_len, srows_len, ilt_at hlt, inr_at hlt, enm_at hx, skip1, decF (p := 12 < (l[i].ctors.length : Int)) (by omega), decT (p := 100 < (l[i].name.size : Int)) (by omega)]
      · right
        refine ⟨.val [.bool false], ?_, false, rfl⟩
        simp only [sy_wrap, sy_add, sy_sub, sy_mul, sy_ieq, sy_ilt, sy_ile, sy_seq, sy_beq, sy_bor, sy_bnot, sy_imax, sy_imin, sy_rlen, sy_slen, sy_sapp, sy_inr, sy_nat, sy_cell0, sy_cellS, sy_skip0, sy_inrn, sy_rapp, sy_fits, sy_cutok, sy_cut, sy_scut, sy_sbyte, sy_mkok, sy_mkok0, sy_mkz, sy_rep, sy_head, sy_deq, eqDs_int, eqDs_nil, opI_int, opB_bool, opS_str, opL_sl, opM_own, leaves_val, leaves_own, Option.bind_some, cutO_bool, bif_bool, cutO_inl, cutO_inr, eF_call, eF_lp, Nat.zero_add, Nat.reduceAdd, Bool.cond_false_right, Bool.cond_true_left, Bool.cond_false_left, Bool.cond_true_right, Bool.not_true, Bool.not_false, Bool.not_not, eq_self, decide_true, decide_false, cond_true, cond_false, Int.reduceEq, Int.reduceLT, Int.reduceLE, Int.reduceSub, Int.reduceAdd, Bool.true_and, Bool.and_true, Bool.false_and, Bool.and_false, Bool.or_false, Bool.false_or, Bool.true_or, Bool.or_true, true_and, and_true, erows_len, srows_len, ilt_at hlt, inr_at hlt, enm_at hx, skip1, decT (p := 12 < (l[i].ctors.length : Int)) (by omega)]
    · right
      have : i = l.length := by omega
      subst this
      refine ⟨.val [.bool true], ?_, true, rfl⟩
      simp only [sy_wrap, sy_add, sy_sub, sy_mul, sy_ieq, sy_ilt, sy_ile, sy_seq, sy_beq, sy_bor, sy_bnot, sy_imax, sy_imin, sy_rlen, sy_slen, sy_sapp, sy_inr, sy_nat, sy_cell0, sy_cellS, sy_skip0, sy_inrn, sy_rapp, sy_fits, sy_cutok, sy_cut, sy_scut, sy_sbyte, sy_mkok, sy_mkok0, sy_mkz, sy_rep, sy_head, sy_deq, eqDs_int, eqDs_nil, opI_int, opB_bool, opS_str, opL_sl, opM_own, leaves_val, leaves_own, Option.bind_some, cutO_bool, bif_bool, cutO_inl, cutO_inr, eF_call, eF_lp, Nat.zero_add, Nat.reduceAdd, Bool.cond_false_right, Bool.cond_true_left, Bool.cond_false_left, Bool.cond_true_right, Bool.not_true, Bool.not_false, Bool.not_not, eq_self, decide_true, decide_false, cond_true, cond_false, Int.reduceEq, Int.reduceLT, Int.reduceLE, Int.reduceSub, Int.reduceAdd, Bool.true_and, Bool.and_true, Bool.false_and, Bool.and_false, Bool.or_false, Bool.false_or, Bool.true_or, Bool.or_true, true_and, and_true, erows_len, ilt_self]
end Go.Vm
end

section
set_option linter.all false
set_option maxRecDepth 100000
set_option maxHeartbeats 4000000
namespace Go.Vm
open Go.Proofs
/-! ### two lists, side by side -/
def allZ {τ υ : Type} (p : τ → υ → Bool) : List τ → List υ → Bool
  | [], [] => true
  | x :: l, y :: m => p x y && allZ p l m
  | _, _ => false
theorem allZ_len {τ υ : Type} {p : τ → υ → Bool} : ∀ {l : List τ} {m : List υ}, allZ p l m = true → l.length = m.length
  | [], [], _ => rfl
  | _ :: l, _ :: m, h => by
    simp only [allZ, Bool.and_eq_true] at h
    simp [allZ_len h.2]
theorem allZ_ne {τ υ : Type} {p : τ → υ → Bool} {l : List τ} {m : List υ} (h : ¬ (l.length : Int) = m.length) : allZ p l m = false := by
  rw [Bool.eq_false_iff]
  exact fun e => h (by rw [allZ_len e])
theorem allZ_drop {τ υ : Type} {p : τ → υ → Bool} {l : List τ} {m : List υ} {i : Nat} {x : τ} {y : υ} (hx : l[i]? = some x) (hy : m[i]? = some y) : allZ p (l.drop i) (m.drop i) = (p x y && allZ p (l.drop (i + 1)) (m.drop (i + 1))) := by
  obtain ⟨h1, rfl⟩ := List.getElem?_eq_some_iff.1 hx
  obtain ⟨h2, rfl⟩ := List.getElem?_eq_some_iff.1 hy
  rw [List.drop_eq_getElem_cons h1, List.drop_eq_getElem_cons h2]; rfl
theorem zip_loop {τ υ : Type} {b : List D → Option (List D ⊕ PRes)} (p : τ → υ → Bool) (la : List τ) (lb : List υ) (mk : Int → List D) (hl : la.length = lb.length)
    (hb : ∀ (i : Nat) x y, la[i]? = some x → lb[i]? = some y → b (mk i) = bif p x y then some (.inl (mk ((i : Int) + 1))) else some (.inr (.val [.bool false])))
    (hend : b (mk (la.length : Int)) = some (.inr (.val [.bool true]))) : loopF b (mk 0) = some (.val [.bool (allZ p la lb)]) := by
  refine loopF_at (fun i : Nat => mk (i : Int)) (fun i => i ≤ la.length ∧ allZ p (la.drop i) (lb.drop i) = allZ p la lb) (fun i => la.length - i) (fun i hi => ?_) 0 ⟨Nat.zero_le _, rfl⟩
  by_cases hlt : i < la.length
  · have h1 := List.getElem?_eq_getElem hlt
    have h2 := List.getElem?_eq_getElem (show i < lb.length by omega)
    rw [hb i _ _ h1 h2]
    have hd := hi.2
    rw [allZ_drop h1 h2] at hd
    cases hp : p la[i] lb[i] with
    | true =>
      left
      rw [hp] at hd
      exact ⟨i + 1, rfl, ⟨hlt, hd⟩, by omega⟩
    | false =>
      right
      rw [hp] at hd
      rw [← hd]; rfl
  · right
    have : i = la.length := by omega
    subst this
    have hd := hi.2
    rw [List.drop_of_length_le (Nat.le_refl _), hl, List.drop_of_length_le (Nat.le_refl _)] at hd
    rw [← hd]; exact hend
/-! ### what is written -/
def wAt (x : Slt) (y : Cll) : Bool := decide (tb x.path = tb y.path) && decide ((y.vals.length : Int) = x.ty.c)
def wOK (s : List Slt) (c : List Cll) : Bool := allZ wAt s c
def valsN (c : List Cll) : List Int := c.flatMap (·.vals)
structure CB (c : List Cll) : Prop where
  len : c.length ≤ 1000000
theorem wOK_len : ∀ {s : List Slt} {c : List Cll}, wOK s c = true → ((valsN c).length : Int) = cellsN s
  | [], [], _ => rfl
  | x :: s, y :: c, h => by
    simp only [wOK, allZ, Bool.and_eq_true] at h
    have ih := wOK_len (s := s) (c := c) h.2
    have h1 := h.1
    simp only [wAt, Bool.and_eq_true, decide_eq_true_eq] at h1
    unfold valsN cellsN at *
    simp only [List.flatMap_cons, List.length_append, List.map_cons, List.sum_cons]
    omega
theorem valsN_take {c : List Cll} {i : Nat} {y : Cll} (h : c[i]? = some y) : valsN (c.take (i + 1)) = valsN (c.take i) ++ y.vals := by
  rw [List.take_add_one, h]; simp [valsN]
theorem valsN_bd {c : List Cll} {i : Nat} : (valsN (c.take i)).length ≤ (valsN c).length := by
  have h : valsN c = valsN (c.take i) ++ valsN (c.drop i) := by
    unfold valsN
    rw [← List.flatMap_append, List.take_append_drop]
  rw [h, List.length_append]; omega
def wRes (s : List Slt) (c : List Cll) : PRes := .val [.sl 1 (irows (bif wOK s c then valsN c else [])), .bool (wOK s c)]
theorem c_fits (x : Slt) (y : Cll) : cF 33 [V.agg [.d (.str x.path), .d (.int .i64 x.ty.k), .d (.int .i64 x.ty.e), .d (.int .i64 x.ty.n), .d (.int .i64 x.at_), .d (.sl 1 (irows x.init))], V.agg [.d (.str y.path), .d (.sl 1 (irows y.vals))]] = some (.val [.bool (wAt x y)]) := by
  unfold wAt
  refine cOf (by kernel_rfl) rfl ?_
  rw [g33_eq]
  simp only [g33, sy_wrap, sy_add, sy_sub, sy_mul, sy_ieq, sy_ilt, sy_ile, sy_seq, sy_beq, sy_bor, sy_bnot, sy_imax, sy_imin, sy_rlen, sy_slen, sy_sapp, sy_inr, sy_nat, sy_cell0, sy_cellS, sy_skip0, sy_inrn, sy_rapp, sy_fits, sy_cutok, sy_cut, sy_scut, sy_sbyte, sy_mkok, sy_mkok0, sy_mkz, sy_rep, sy_head, sy_deq, eqDs_int, eqDs_nil, opI_int, opB_bool, opS_str, opL_sl, opM_own, leaves_val, leaves_own, Option.bind_some, cutO_bool, bif_bool, cutO_inl, cutO_inr, eF_call, eF_lp, Nat.zero_add, Nat.reduceAdd, Bool.cond_false_right, Bool.cond_true_left, Bool.cond_false_left, Bool.cond_true_right, Bool.not_true, Bool.not_false, Bool.not_not, eq_self, decide_true, decide_false, cond_true, cond_false, Int.reduceEq, Int.reduceLT, Int.reduceLE, Int.reduceSub, Int.reduceAdd, Bool.true_and, Bool.and_true, Bool.false_and, Bool.and_false, Bool.or_false, Bool.false_or, Bool.true_or, Bool.or_true, true_and, and_true, seq_tb, cells_u, irows_len]
  cases decide (tb x.path = tb y.path) <;> rfl
theorem c_eqSlotCell (s : List Slt) (c : List Cll) (hs : s.length ≤ 1000000) : cF 35 [.d (.sl 6 (slrows s)), .d (.sl 2 (clrows c)), .fn 33 []] = some (.val [.bool (wOK s c)]) := by
  refine cOf (by kernel_rfl) rfl ?_
  rw [g35_33_eq]
  simp only [g35_33, sy_wrap, sy_add, sy_sub, sy_mul, sy_ieq, sy_ilt, sy_ile, sy_seq, sy_beq, sy_bor, sy_bnot, sy_imax, sy_imin, sy_rlen, sy_slen, sy_sapp, sy_inr, sy_nat, sy_cell0, sy_cellS, sy_skip0, sy_inrn, sy_rapp, sy_fits, sy_cutok, sy_cut, sy_scut, sy_sbyte, sy_mkok, sy_mkok0, sy_mkz, sy_rep, sy_head, sy_deq, eqDs_int, eqDs_nil, opI_int, opB_bool, opS_str, opL_sl, opM_own, leaves_val, leaves_own, Option.bind_some, cutO_bool, bif_bool, cutO_inl, cutO_inr, eF_call, eF_lp, Nat.zero_add, Nat.reduceAdd, Bool.cond_false_right, Bool.cond_true_left, Bool.cond_false_left, Bool.cond_true_right, Bool.not_true, Bool.not_false, Bool.not_not, eq_self, decide_true, decide_false, cond_true, cond_false, Int.reduceEq, Int.reduceLT, Int.reduceLE, Int.reduceSub, Int.reduceAdd, Bool.true_and, Bool.and_true, Bool.false_and, Bool.and_false, Bool.or_false, Bool.false_or, Bool.true_or, Bool.or_true, true_and, and_true, slrows_len, clrows_len]
  by_cases hl : (s.length : Int) = c.length
  · rw [decT hl]
    simp only [sy_wrap, sy_add, sy_sub, sy_mul, sy_ieq, sy_ilt, sy_ile, sy_seq, sy_beq, sy_bor, sy_bnot, sy_imax, sy_imin, sy_rlen, sy_slen, sy_sapp, sy_inr, sy_nat, sy_cell0, sy_cellS, sy_skip0, sy_inrn, sy_rapp, sy_fits, sy_cutok, sy_cut, sy_scut, sy_sbyte, sy_mkok, sy_mkok0, sy_mkz, sy_rep, sy_head, sy_deq, eqDs_int, eqDs_nil, opI_int, opB_bool, opS_str, opL_sl, opM_own, leaves_val, leaves_own, Option.bind_some, cutO_bool, bif_bool, cutO_inl, cutO_inr, eF_call, eF_lp, Nat.zero_add, Nat.reduceAdd, Bool.cond_false_right, Bool.cond_true_left, Bool.cond_false_left, Bool.cond_true_right, Bool.not_true, Bool.not_false, Bool.not_not, eq_self, decide_true, decide_false, cond_true, cond_false, Int.reduceEq, Int.reduceLT, Int.reduceLE, Int.reduceSub, Int.reduceAdd, Bool.true_and, Bool.and_true, Bool.false_and, Bool.and_false, Bool.or_false, Bool.false_or, Bool.true_or, Bool.or_true, true_and, and_true]
    refine zip_loop wAt s c (fun i => [.sl 2 (clrows c), .sl 6 (slrows s), .int .i64 (s.length : Int), .int .i64 i]) (by omega) (fun i x y hx hy => ?_) ?_
    · have hlt := (List.getElem?_eq_some_iff.1 hx).1
      have hlt2 := (List.getElem?_eq_some_iff.1 hy).1
      simp only [sy_wrap, sy_add, sy_sub, sy_mul, sy_ieq, sy_ilt, sy_ile, sy_seq, sy_beq, sy_bor, sy_bnot, sy_imax, sy_imin, sy_rlen, sy_slen, sy_sapp, sy_inr, sy_nat, sy_cell0, sy_cellS, sy_skip0, sy_inrn, sy_rapp, sy_fits, sy_cutok, sy_cut, sy_scut, sy_sbyte, sy_mkok, sy_mkok0, sy_mkz, sy_rep, sy_head, sy_deq, eqDs_int, eqDs_nil, opI_int, opB_bool, opS_str, opL_sl, opM_own, leaves_val, leaves_own, Option.bind_some, cutO_bool, bif_bool, cutO_inl, cutO_inr, eF_call, eF_lp, Nat.zero_add, Nat.reduceAdd, Bool.cond_false_right, Bool.cond_true_left, Bool.cond_false_left, Bool.cond_true_right, Bool.not_true, Bool.not_false, Bool.not_not, eq_self, decide_true, decide_false, cond_true, cond_false, Int.reduceEq, Int.reduceLT, Int.reduceLE, Int.reduceSub, Int.reduceAdd, Bool.true_and, Bool.and_true, Bool.false_and, Bool.and_false, Bool.or_false, Bool.false_or, Bool.true_or, Bool.or_true, true_and, and_true, slrows_len, clrows_len, ilt_at hlt, inr_at hlt, inr_at hlt2, slt_at hx, cll_at hy, c_fits, wrap_succ hlt (by omega)]
      cases wAt x y <;> rfl
    · simp only [sy_wrap, sy_add, sy_sub, sy_mul, sy_ieq, sy_ilt, sy_ile, sy_seq, sy_beq, sy_bor, sy_bnot, sy_imax, sy_imin, sy_rlen, sy_slen, sy_sapp, sy_inr, sy_nat, sy_cell0, sy_cellS, sy_skip0, sy_inrn, sy_rapp, sy_fits, sy_cutok, sy_cut, sy_scut, sy_sbyte, sy_mkok, sy_mkok0, sy_mkz, sy_rep, sy_head, sy_deq, eqDs_int, eqDs_nil, opI_int, opB_bool, opS_str, opL_sl, opM_own, leaves_val, leaves_own, Option.bind_some, cutO_bool, bif_bool, cutO_inl, cutO_inr, eF_call, eF_lp, Nat.zero_add, Nat.reduceAdd, Bool.cond_false_right, Bool.cond_true_left, Bool.cond_false_left, Bool.cond_true_right, Bool.not_true, Bool.not_false, Bool.not_not, eq_self, decide_true, decide_false, cond_true, cond_false, Int.reduceEq, Int.reduceLT, Int.reduceLE, Int.reduceSub, Int.reduceAdd, Bool.true_and, Bool.and_true, Bool.false_and, Bool.and_false, Bool.or_false, Bool.false_or, Bool.true_or, Bool.or_true, true_and, and_true, ilt_self]
  · rw [decF hl, show wOK s c = false from allZ_ne hl]; simp only [sy_wrap, sy_add, sy_sub, sy_mul, sy_ieq, sy_ilt, sy_ile, sy_seq, sy_beq, sy_bor, sy_bnot, sy_imax, sy_imin, sy_rlen, sy_slen, sy_sapp, sy_inr, sy_nat, sy_cell0, sy_cellS, sy_skip0, sy_inrn, sy_rapp, sy_fits, sy_cutok, sy_cut, sy_scut, sy_sbyte, sy_mkok, sy_mkok0, sy_mkz, sy_rep, sy_head, sy_deq, eqDs_int, eqDs_nil, opI_int, opB_bool, opS_str, opL_sl, opM_own, leaves_val, leaves_own, Option.bind_some, cutO_bool, bif_bool, cutO_inl, cutO_inr, eF_call, eF_lp, Nat.zero_add, Nat.reduceAdd, Bool.cond_false_right, Bool.cond_true_left, Bool.cond_false_left, Bool.cond_true_right, Bool.not_true, Bool.not_false, Bool.not_not, eq_self, decide_true, decide_false, cond_true, cond_false, Int.reduceEq, Int.reduceLT, Int.reduceLE, Int.reduceSub, Int.reduceAdd, Bool.true_and, Bool.and_true, Bool.false_and, Bool.and_false, Bool.or_false, Bool.false_or, Bool.true_or, Bool.or_true, true_and, and_true]
theorem c_tWrite (s : List Slt) (c : List Cll) (hs : s.length ≤ 1000000) : cF 15 [.d (.sl 6 (slrows s)), .d (.sl 2 (clrows c))] = some (wRes s c) := by
  have h35 := c_eqSlotCell s c hs
  have hC := c_tCells s hs
  have hb := cellsN_bd s
  unfold wRes
  cases hw : wOK s c with
  | false =>
    rw [hw] at h35
    refine cOf (by kernel_rfl) rfl ?_
    rw [g15_eq]
    simp only [g15, sy_wrap, sy_add, sy_sub, sy_mul, sy_ieq, sy_ilt, sy_ile, sy_seq, sy_beq, sy_bor, sy_bnot, sy_imax, sy_imin, sy_rlen, sy_slen, sy_sapp, sy_inr, sy_nat, sy_cell0, sy_cellS, sy_skip0, sy_inrn, sy_rapp, sy_fits, sy_cutok, sy_cut, sy_scut, sy_sbyte, sy_mkok, sy_mkok0, sy_mkz, sy_rep, sy_head, sy_deq, eqDs_int, eqDs_nil, opI_int, opB_bool, opS_str, opL_sl, opM_own, leaves_val, leaves_own, Option.bind_some, cutO_bool, bif_bool, cutO_inl, cutO_inr, eF_call, eF_lp, Nat.zero_add, Nat.reduceAdd, Bool.cond_false_right, Bool.cond_true_left, Bool.cond_false_left, Bool.cond_true_right, Bool.not_true, Bool.not_false, Bool.not_not, eq_self, decide_true, decide_false, cond_true, cond_false, Int.reduceEq, Int.reduceLT, Int.reduceLE, Int.reduceSub, Int.reduceAdd, Bool.true_and, Bool.and_true, Bool.false_and, Bool.and_false, Bool.or_false, Bool.false_or, Bool.true_or, Bool.or_true, true_and, and_true, h35]
    rfl
  | true =>
    rw [hw] at h35
    have hlen := wOK_len hw
    have hsc := allZ_len hw
    generalize hT : cellsN s = T at hC hb hlen
    have hmk : sy.mkok T T 8 = true := decT ⟨rfl, hb.1, by omega⟩
    have hrep : sy.rep T [D.int .i64 0] = irows (List.replicate T.toNat 0) := by
      rw [sy_rep]; simp [irows, irow]
    refine cOf (by kernel_rfl) rfl ?_
    rw [g15_eq]
    simp only [g15, h35, eF_call, Option.bind_some, leaves_val, sy_cell0, opB_bool, sy_bnot, Bool.not_true, cond_false, hC, opI_int, hmk, cond_true, hrep, eF_lp, clrows_len, sy_rlen]
    refine loopF_at (fun i : Nat => [.int .i64 ((valsN (c.take i)).length : Int), .sl 2 (clrows c), .int .i64 (c.length : Int), .int .i64 (i : Int), .sl 1 (irows (valsN (c.take i) ++ List.replicate (T.toNat - (valsN (c.take i)).length) 0))]) (fun i => i ≤ c.length) (fun i => c.length - i) (fun i hi => ?_) 0 (Nat.zero_le _)
    have hbd := valsN_bd (c := c) (i := i)
    by_cases hlt : i < c.length
    · left
      have hx := List.getElem?_eq_getElem hlt
      have hbd2 := valsN_bd (c := c) (i := i + 1)
      refine ⟨i + 1, ?_, hlt, by omega⟩
      have ht := valsN_take hx
      rw [ht]
      rw [ht] at hbd2
      generalize hA : valsN (c.take i) = A at hbd hbd2
      generalize hV : c[i].vals = W at hbd2
      rw [List.length_append] at hbd2 ⊢
      have hX : sy.rlen (irows (A ++ List.replicate (T.toNat - A.length) 0)) = T := by
        rw [sy_rlen, irows_len, List.length_append, List.length_replicate]; omega
      have hcp : sy.rcopy (irows (A ++ List.replicate (T.toNat - A.length) 0)) (A.length : Int) (sy.sub T (A.length : Int)) (irows W) = irows ((A ++ W) ++ List.replicate (T.toNat - (A.length + W.length)) 0) := by
        have e1 : min (sy.sub T (A.length : Int)).toNat (irows W).length = W.length := by
          rw [irows_len]
          show min (T - (A.length : Int)).toNat W.length = W.length
          omega
        rw [sy_rcopy, e1, Int.toNat_natCast, ← irows_app, ← irows_app, ← irows_app]
        rw [List.take_append_of_le_length (by rw [irows_len]; exact Nat.le_refl _), List.take_of_length_le (by rw [irows_len]; exact Nat.le_refl _), List.take_of_length_le (by rw [irows_len]; exact Nat.le_refl _)]
        rw [List.drop_append, List.drop_of_length_le (by rw [irows_len]; omega), irows_len, irows_drop]
        rw [List.nil_append, List.drop_replicate]
        congr 3
        omega
      have hc1 : sy.cutok (A.length : Int) T T = true := decT ⟨by omega, by omega, by omega⟩
      have hc2 : sy.cutok (A.length : Int) (sy.add (A.length : Int) (sy.sub T (A.length : Int))) T = true := decT (by
        show (0 : Int) ≤ A.length ∧ (A.length : Int) ≤ A.length + (T - A.length) ∧ A.length + (T - A.length) ≤ T
        omega)
      have hmin : sy.imin (sy.sub T (A.length : Int)) (W.length : Int) = W.length := by
        show min (T - (A.length : Int)) (W.length : Int) = W.length
        omega
      have hw2 : IntKind.i64.wrap ((A.length : Int) + (W.length : Int)) = ((A.length + W.length : Nat) : Int) := by
        rw [wrap_id (by omega) (by omega)]; omega
      simp only [sy_cell0, sy_cellS, opI_int, opL_sl, opS_str, Option.bind_some, sy_ilt, sy_inr, sy_rlen, clrows_len, ilt_at hlt, inr_at hlt, cond_true, cll_at hx, hV] at hX ⊢
      rw [hX, hc1, cond_true, hc2, cond_true, irows_len, hmin, hcp]
      simp only [sy_wrap, sy_add, hw2, wrap_succ hlt (show c.length ≤ 1000000000000 by omega)]
      rfl
    · right
      have : i = c.length := by omega
      subst this
      simp only [sy_wrap, sy_add, sy_sub, sy_mul, sy_ieq, sy_ilt, sy_ile, sy_seq, sy_beq, sy_bor, sy_bnot, sy_imax, sy_imin, sy_rlen, sy_slen, sy_sapp, sy_inr, sy_nat, sy_cell0, sy_cellS, sy_skip0, sy_inrn, sy_rapp, sy_fits, sy_cutok, sy_cut, sy_scut, sy_sbyte, sy_mkok, sy_mkok0, sy_mkz, sy_rep, sy_head, sy_deq, eqDs_int, eqDs_nil, opI_int, opB_bool, opS_str, opL_sl, opM_own, leaves_val, leaves_own, Option.bind_some, cutO_bool, bif_bool, cutO_inl, cutO_inr, eF_call, eF_lp, Nat.zero_add, Nat.reduceAdd, Bool.cond_false_right, Bool.cond_true_left, Bool.cond_false_left, Bool.cond_true_right, Bool.not_true, Bool.not_false, Bool.not_not, eq_self, decide_true, decide_false, cond_true, cond_false, Int.reduceEq, Int.reduceLT, Int.reduceLE, Int.reduceSub, Int.reduceAdd, Bool.true_and, Bool.and_true, Bool.false_and, Bool.and_false, Bool.or_false, Bool.false_or, Bool.true_or, Bool.or_true, true_and, and_true, ilt_self, List.take_length]
      rw [show T.toNat - (valsN c).length = 0 by omega]
      simp
theorem c_rtWrite (s : List Slt) (c : List Cll) (hs : s.length ≤ 1000000) : cF 16 [.d (.sl 6 (slrows s)), .d (.sl 2 (clrows c))] = some (wRes s c) := by
  have hb := cellsN_bd s
  unfold wRes
  refine cOf (by kernel_rfl) rfl ?_
  rw [g16_eq]
  simp only [g16, sy_wrap, sy_add, sy_sub, sy_mul, sy_ieq, sy_ilt, sy_ile, sy_seq, sy_beq, sy_bor, sy_bnot, sy_imax, sy_imin, sy_rlen, sy_slen, sy_sapp, sy_inr, sy_nat, sy_cell0, sy_cellS, sy_skip0, sy_inrn, sy_rapp, sy_fits, sy_cutok, sy_cut, sy_scut, sy_sbyte, sy_mkok, sy_mkok0, sy_mkz, sy_rep, sy_head, sy_deq, eqDs_int, eqDs_nil, opI_int, opB_bool, opS_str, opL_sl, opM_own, leaves_val, leaves_own, Option.bind_some, cutO_bool, bif_bool, cutO_inl, cutO_inr, eF_call, eF_lp, Nat.zero_add, Nat.reduceAdd, Bool.cond_false_right, Bool.cond_true_left, Bool.cond_false_left, Bool.cond_true_right, Bool.not_true, Bool.not_false, Bool.not_not, eq_self, decide_true, decide_false, cond_true, cond_false, Int.reduceEq, Int.reduceLT, Int.reduceLE, Int.reduceSub, Int.reduceAdd, Bool.true_and, Bool.and_true, Bool.false_and, Bool.and_false, Bool.or_false, Bool.false_or, Bool.true_or, Bool.or_true, true_and, and_true, slrows_len, clrows_len]
  by_cases hl : (s.length : Int) = c.length
  · rw [decT hl]
    simp only [sy_wrap, sy_add, sy_sub, sy_mul, sy_ieq, sy_ilt, sy_ile, sy_seq, sy_beq, sy_bor, sy_bnot, sy_imax, sy_imin, sy_rlen, sy_slen, sy_sapp, sy_inr, sy_nat, sy_cell0, sy_cellS, sy_skip0, sy_inrn, sy_rapp, sy_fits, sy_cutok, sy_cut, sy_scut, sy_sbyte, sy_mkok, sy_mkok0, sy_mkz, sy_rep, sy_head, sy_deq, eqDs_int, eqDs_nil, opI_int, opB_bool, opS_str, opL_sl, opM_own, leaves_val, leaves_own, Option.bind_some, cutO_bool, bif_bool, cutO_inl, cutO_inr, eF_call, eF_lp, Nat.zero_add, Nat.reduceAdd, Bool.cond_false_right, Bool.cond_true_left, Bool.cond_false_left, Bool.cond_true_right, Bool.not_true, Bool.not_false, Bool.not_not, eq_self, decide_true, decide_false, cond_true, cond_false, Int.reduceEq, Int.reduceLT, Int.reduceLE, Int.reduceSub, Int.reduceAdd, Bool.true_and, Bool.and_true, Bool.false_and, Bool.and_false, Bool.or_false, Bool.false_or, Bool.true_or, Bool.or_true, true_and, and_true]
    refine loopF_at (fun i : Nat => [.sl 6 (slrows s), .sl 2 (clrows c), .int .i64 (i : Int), .sl 1 (irows (valsN (c.take i)))]) (fun i => i ≤ s.length ∧ allZ wAt (s.drop i) (c.drop i) = wOK s c ∧ (valsN (c.take i)).length ≤ 8 * i) (fun i => s.length - i) (fun i hi => ?_) 0 ⟨Nat.zero_le _, rfl, by simp [valsN]⟩
    obtain ⟨hi, hd, hv⟩ := hi
    by_cases hlt : i < s.length
    · have hlt2 : i < c.length := by omega
      have hx := List.getElem?_eq_getElem hlt
      have hy := List.getElem?_eq_getElem hlt2
      have hcp := c_pos s[i].ty
      rw [allZ_drop hx hy] at hd
      cases hp : wAt s[i] c[i] with
      | true =>
        left
        rw [hp] at hd
        have hp' := hp
        simp only [wAt, Bool.and_eq_true, decide_eq_true_eq] at hp'
        refine ⟨i + 1, ?_, ⟨hlt, hd, by rw [valsN_take hy, List.length_append]; omega⟩, by omega⟩
        have hf : decide (((valsN (c.take i)).length + c[i].vals.length) * 9 ≤ 140737488355328) = true := decT (by omega)
        simp only [sy_wrap, sy_add, sy_sub, sy_mul, sy_ieq, sy_ilt, sy_ile, sy_seq, sy_beq, sy_bor, sy_bnot, sy_imax, sy_imin, sy_rlen, sy_slen, sy_sapp, sy_inr, sy_nat, sy_cell0, sy_cellS, sy_skip0, sy_inrn, sy_rapp, sy_fits, sy_cutok, sy_cut, sy_scut, sy_sbyte, sy_mkok, sy_mkok0, sy_mkz, sy_rep, sy_head, sy_deq, eqDs_int, eqDs_nil, opI_int, opB_bool, opS_str, opL_sl, opM_own, leaves_val, leaves_own, Option.bind_some, cutO_bool, bif_bool, cutO_inl, cutO_inr, eF_call, eF_lp, Nat.zero_add, Nat.reduceAdd, Bool.cond_false_right, Bool.cond_true_left, Bool.cond_false_left, Bool.cond_true_right, Bool.not_true, Bool.not_false, Bool.not_not, eq_self, decide_true, decide_false, cond_true, cond_false, Int.reduceEq, Int.reduceLT, Int.reduceLE, Int.reduceSub, Int.reduceAdd, Bool.true_and, Bool.and_true, Bool.false_and, Bool.and_false, Bool.or_false, Bool.false_or, Bool.true_or, Bool.or_true, true_and, and_true, slrows_len, clrows_len, irows_len, ilt_at hlt, inr_at hlt, inr_at hlt2, slt_at hx, cll_at hy, skip1, seq_tb, hp'.1, hp'.2, rcells_u, hf, wrap_succ hlt (by omega), irows_app, ← valsN_take hy]
        rfl
      | false =>
        right
        rw [hp] at hd
        rw [← hd]
        simp only [sy_wrap, sy_add, sy_sub, sy_mul, sy_ieq, sy_ilt, sy_ile, sy_seq, sy_beq, sy_bor, sy_bnot, sy_imax, sy_imin, sy_rlen, sy_slen, sy_sapp, sy_inr, sy_nat, sy_cell0, sy_cellS, sy_skip0, sy_inrn, sy_rapp, sy_fits, sy_cutok, sy_cut, sy_scut, sy_sbyte, sy_mkok, sy_mkok0, sy_mkz, sy_rep, sy_head, sy_deq, eqDs_int, eqDs_nil, opI_int, opB_bool, opS_str, opL_sl, opM_own, leaves_val, leaves_own, Option.bind_some, cutO_bool, bif_bool, cutO_inl, cutO_inr, eF_call, eF_lp, Nat.zero_add, Nat.reduceAdd, Bool.cond_false_right, Bool.cond_true_left, Bool.cond_false_left, Bool.cond_true_right, Bool.not_true, Bool.not_false, Bool.not_not, eq_self, decide_true, decide_false, cond_true, cond_false, Int.reduceEq, Int.reduceLT, Int.reduceLE, Int.reduceSub, Int.reduceAdd, Bool.true_and, Bool.and_true, Bool.false_and, Bool.and_false, Bool.or_false, Bool.false_or, Bool.true_or, Bool.or_true, true_and, and_true, slrows_len, clrows_len, irows_len, ilt_at hlt, inr_at hlt, inr_at hlt2, slt_at hx, cll_at hy, skip1, seq_tb, rcells_u]
        by_cases h1 : tb s[i].path = tb c[i].path
        · have h2 : ¬ (c[i].vals.length : Int) = s[i].ty.c := fun e => by
            rw [show wAt s[i] c[i] = true from by unfold wAt; rw [decT h1, decT e]; rfl] at hp; cases hp
          rw [decT h1.symm, decF h2]; simp only [sy_wrap, sy_add, sy_sub, sy_mul, sy_ieq, sy_ilt, sy_ile, sy_seq, sy_beq, sy_bor, sy_bnot, sy_imax, sy_imin, sy_rlen, sy_slen, sy_sapp, sy_inr, sy_nat, sy_cell0, sy_cellS, sy_skip0, sy_inrn, sy_rapp, sy_fits, sy_cutok, sy_cut, sy_scut, sy_sbyte, sy_mkok, sy_mkok0, sy_mkz, sy_rep, sy_head, sy_deq, eqDs_int, eqDs_nil, opI_int, opB_bool, opS_str, opL_sl, opM_own, leaves_val, leaves_own, Option.bind_some, cutO_bool, bif_bool, cutO_inl, cutO_inr, eF_call, eF_lp, Nat.zero_add, Nat.reduceAdd, Bool.cond_false_right, Bool.cond_true_left, Bool.cond_false_left, Bool.cond_true_right, Bool.not_true, Bool.not_false, Bool.not_not, eq_self, decide_true, decide_false, cond_true, cond_false, Int.reduceEq, Int.reduceLT, Int.reduceLE, Int.reduceSub, Int.reduceAdd, Bool.true_and, Bool.and_true, Bool.false_and, Bool.and_false, Bool.or_false, Bool.false_or, Bool.true_or, Bool.or_true, true_and, and_true]; rfl
        · rw [decF (fun e => h1 e.symm)]; simp only [sy_wrap, sy_add, sy_sub, sy_mul, sy_ieq, sy_ilt, sy_ile, sy_seq, sy_beq, sy_bor, sy_bnot, sy_imax, sy_imin, sy_rlen, sy_slen, sy_sapp, sy_inr, sy_nat, sy_cell0, sy_cellS, sy_skip0, sy_inrn, sy_rapp, sy_fits, sy_cutok, sy_cut, sy_scut, sy_sbyte, sy_mkok, sy_mkok0, sy_mkz, sy_rep, sy_head, sy_deq, eqDs_int, eqDs_nil, opI_int, opB_bool, opS_str, opL_sl, opM_own, leaves_val, leaves_own, Option.bind_some, cutO_bool, bif_bool, cutO_inl, cutO_inr, eF_call, eF_lp, Nat.zero_add, Nat.reduceAdd, Bool.cond_false_right, Bool.cond_true_left, Bool.cond_false_left, Bool.cond_true_right, Bool.not_true, Bool.not_false, Bool.not_not, eq_self, decide_true, decide_false, cond_true, cond_false, Int.reduceEq, Int.reduceLT, Int.reduceLE, Int.reduceSub, Int.reduceAdd, Bool.true_and, Bool.and_true, Bool.false_and, Bool.and_false, Bool.or_false, Bool.false_or, Bool.true_or, Bool.or_true, true_and, and_true]; rfl
    · right
      have : i = s.length := by omega
      subst this
      rw [List.drop_of_length_le (Nat.le_refl _), List.drop_of_length_le (by omega)] at hd
      rw [← hd]
      simp only [sy_wrap, sy_add, sy_sub, sy_mul, sy_ieq, sy_ilt, sy_ile, sy_seq, sy_beq, sy_bor, sy_bnot, sy_imax, sy_imin, sy_rlen, sy_slen, sy_sapp, sy_inr, sy_nat, sy_cell0, sy_cellS, sy_skip0, sy_inrn, sy_rapp, sy_fits, sy_cutok, sy_cut, sy_scut, sy_sbyte, sy_mkok, sy_mkok0, sy_mkz, sy_rep, sy_head, sy_deq, eqDs_int, eqDs_nil, opI_int, opB_bool, opS_str, opL_sl, opM_own, leaves_val, leaves_own, Option.bind_some, cutO_bool, bif_bool, cutO_inl, cutO_inr, eF_call, eF_lp, Nat.zero_add, Nat.reduceAdd, Bool.cond_false_right, Bool.cond_true_left, Bool.cond_false_left, Bool.cond_true_right, Bool.not_true, Bool.not_false, Bool.not_not, eq_self, decide_true, decide_false, cond_true, cond_false, Int.reduceEq, Int.reduceLT, Int.reduceLE, Int.reduceSub, Int.reduceAdd, Bool.true_and, Bool.and_true, Bool.false_and, Bool.and_false, Bool.or_false, Bool.false_or, Bool.true_or, Bool.or_true, true_and, and_true, slrows_len, ilt_self]
      rw [List.take_of_length_le (by omega)]
      rfl
  · rw [decF hl, show wOK s c = false from allZ_ne hl]; simp only [sy_wrap, sy_add, sy_sub, sy_mul, sy_ieq, sy_ilt, sy_ile, sy_seq, sy_beq, sy_bor, sy_bnot, sy_imax, sy_imin, sy_rlen, sy_slen, sy_sapp, sy_inr, sy_nat, sy_cell0, sy_cellS, sy_skip0, sy_inrn, sy_rapp, sy_fits, sy_cutok, sy_cut, sy_scut, sy_sbyte, sy_mkok, sy_mkok0, sy_mkz, sy_rep, sy_head, sy_deq, eqDs_int, eqDs_nil, opI_int, opB_bool, opS_str, opL_sl, opM_own, leaves_val, leaves_own, Option.bind_some, cutO_bool, bif_bool, cutO_inl, cutO_inr, eF_call, eF_lp, Nat.zero_add, Nat.reduceAdd, Bool.cond_false_right, Bool.cond_true_left, Bool.cond_false_left, Bool.cond_true_right, Bool.not_true, Bool.not_false, Bool.not_not, eq_self, decide_true, decide_false, cond_true, cond_false, Int.reduceEq, Int.reduceLT, Int.reduceLE, Int.reduceSub, Int.reduceAdd, Bool.true_and, Bool.and_true, Bool.false_and, Bool.and_false, Bool.or_false, Bool.false_or, Bool.true_or, Bool.or_true, true_and, and_true]; rfl
end Go.Vm
end

section
set_option linter.all false
set_option maxRecDepth 100000
set_option maxHeartbeats 4000000
namespace Go.Vm
open Go.Proofs
/-! ### what is read -/
def rAt (n : Int) (x : Slt) : Bool := decide (0 ≤ x.at_) && decide (x.at_ ≤ n - x.ty.c)
def rCell (m : List Int) (x : Slt) : Cll := ⟨x.path, (m.drop x.at_.toNat).take x.ty.c.toNat⟩
def readS (s : List Slt) (m : List Int) : List Cll := bif s.all (rAt m.length) then s.map (rCell m) else []
theorem clrows_snoc {s : List Slt} {m : List Int} {i : Nat} {x : Slt} (h : s[i]? = some x) : clrows ((s.take (i + 1)).map (rCell m)) = clrows ((s.take i).map (rCell m)) ++ [[.str x.path, .sl 1 (irows (rCell m x).vals)]] := by
  rw [List.take_add_one, h]; simp [clrows]; rfl
theorem rAt_bad {n : Int} {x : Slt} (h : rAt n x = false) (hn : ¬ x.at_ < 0) : n - x.ty.c < x.at_ := by
  unfold rAt at h
  rw [decT (p := 0 ≤ x.at_) (by omega)] at h
  have := of_decide_eq_false (p := x.at_ ≤ n - x.ty.c) h
  omega
theorem c_rtRead (s : List Slt) (m : List Int) (hs : s.length ≤ 1000000) (hm : m.length ≤ 1000000) : cF 19 [.d (.sl 6 (slrows s)), .d (.sl 1 (irows m))] = some (.own 59 2 (clrows (readS s m))) := by
  unfold readS
  refine cOf (by kernel_rfl) rfl ?_
  rw [g19_eq]
  simp only [g19, sy_wrap, sy_add, sy_sub, sy_mul, sy_ieq, sy_ilt, sy_ile, sy_seq, sy_beq, sy_bor, sy_bnot, sy_imax, sy_imin, sy_rlen, sy_slen, sy_sapp, sy_inr, sy_nat, sy_cell0, sy_cellS, sy_skip0, sy_inrn, sy_rapp, sy_fits, sy_cutok, sy_cut, sy_scut, sy_sbyte, sy_mkok, sy_mkok0, sy_mkz, sy_rep, sy_head, sy_deq, eqDs_int, eqDs_nil, opI_int, opB_bool, opS_str, opL_sl, opM_own, leaves_val, leaves_own, Option.bind_some, cutO_bool, bif_bool, cutO_inl, cutO_inr, eF_call, eF_lp, Nat.zero_add, Nat.reduceAdd, Bool.cond_false_right, Bool.cond_true_left, Bool.cond_false_left, Bool.cond_true_right, Bool.not_true, Bool.not_false, Bool.not_not, eq_self, decide_true, decide_false, cond_true, cond_false, Int.reduceEq, Int.reduceLT, Int.reduceLE, Int.reduceSub, Int.reduceAdd, Bool.true_and, Bool.and_true, Bool.false_and, Bool.and_false, Bool.or_false, Bool.false_or, Bool.true_or, Bool.or_true, true_and, and_true]
  refine loopF_at (fun i : Nat => [.sl 6 (slrows s), .sl 1 (irows m), .int .i64 (i : Int), .sl 2 (clrows ((s.take i).map (rCell m)))]) (fun i => i ≤ s.length ∧ (s.take i).all (rAt m.length) = true) (fun i => s.length - i) (fun i hi => ?_) 0 ⟨Nat.zero_le _, by simp⟩
  by_cases hlt : i < s.length
  · have hx := List.getElem?_eq_getElem hlt
    have hc := c_pos s[i].ty
    have hgd : s.getD i default = s[i] := by simp [hlt]
    have hw : IntKind.i64.wrap ((m.length : Int) - s[i].ty.c) = (m.length : Int) - s[i].ty.c := wrap_id (by omega) (by omega)
    cases hr : rAt m.length s[i] with
    | false =>
      right
      rw [all_false (d := default) hlt (by rw [hgd]; exact hr)]
      simp only [sy_wrap, sy_add, sy_sub, sy_mul, sy_ieq, sy_ilt, sy_ile, sy_seq, sy_beq, sy_bor, sy_bnot, sy_imax, sy_imin, sy_rlen, sy_slen, sy_sapp, sy_inr, sy_nat, sy_cell0, sy_cellS, sy_skip0, sy_inrn, sy_rapp, sy_fits, sy_cutok, sy_cut, sy_scut, sy_sbyte, sy_mkok, sy_mkok0, sy_mkz, sy_rep, sy_head, sy_deq, eqDs_int, eqDs_nil, opI_int, opB_bool, opS_str, opL_sl, opM_own, leaves_val, leaves_own, Option.bind_some, cutO_bool, bif_bool, cutO_inl, cutO_inr, eF_call, eF_lp, Nat.zero_add, Nat.reduceAdd, Bool.cond_false_right, Bool.cond_true_left, Bool.cond_false_left, Bool.cond_true_right, Bool.not_true, Bool.not_false, Bool.not_not, eq_self, decide_true, decide_false, cond_true, cond_false, Int.reduceEq, Int.reduceLT, Int.reduceLE, Int.reduceSub, Int.reduceAdd, Bool.true_and, Bool.and_true, Bool.false_and, Bool.and_false, Bool.or_false, Bool.false_or, Bool.true_or, Bool.or_true, true_and, and_true, slrows_len, irows_len, ilt_at hlt, inr_at hlt, slt_at hx, skip1, skip4, rcells_u, hw]
      by_cases h0 : s[i].at_ < 0
      · rw [decT h0]; simp only [sy_wrap, sy_add, sy_sub, sy_mul, sy_ieq, sy_ilt, sy_ile, sy_seq, sy_beq, sy_bor, sy_bnot, sy_imax, sy_imin, sy_rlen, sy_slen, sy_sapp, sy_inr, sy_nat, sy_cell0, sy_cellS, sy_skip0, sy_inrn, sy_rapp, sy_fits, sy_cutok, sy_cut, sy_scut, sy_sbyte, sy_mkok, sy_mkok0, sy_mkz, sy_rep, sy_head, sy_deq, eqDs_int, eqDs_nil, opI_int, opB_bool, opS_str, opL_sl, opM_own, leaves_val, leaves_own, Option.bind_some, cutO_bool, bif_bool, cutO_inl, cutO_inr, eF_call, eF_lp, Nat.zero_add, Nat.reduceAdd, Bool.cond_false_right, Bool.cond_true_left, Bool.cond_false_left, Bool.cond_true_right, Bool.not_true, Bool.not_false, Bool.not_not, eq_self, decide_true, decide_false, cond_true, cond_false, Int.reduceEq, Int.reduceLT, Int.reduceLE, Int.reduceSub, Int.reduceAdd, Bool.true_and, Bool.and_true, Bool.false_and, Bool.and_false, Bool.or_false, Bool.false_or, Bool.true_or, Bool.or_true, true_and, and_true]; rfl
      · rw [decF h0, decT (rAt_bad hr h0)]; simp only [sy_wrap, sy_add, sy_sub, sy_mul, sy_ieq, sy_ilt, sy_ile, sy_seq, sy_beq, sy_bor, sy_bnot, sy_imax, sy_imin, sy_rlen, sy_slen, sy_sapp, sy_inr, sy_nat, sy_cell0, sy_cellS, sy_skip0, sy_inrn, sy_rapp, sy_fits, sy_cutok, sy_cut, sy_scut, sy_sbyte, sy_mkok, sy_mkok0, sy_mkz, sy_rep, sy_head, sy_deq, eqDs_int, eqDs_nil, opI_int, opB_bool, opS_str, opL_sl, opM_own, leaves_val, leaves_own, Option.bind_some, cutO_bool, bif_bool, cutO_inl, cutO_inr, eF_call, eF_lp, Nat.zero_add, Nat.reduceAdd, Bool.cond_false_right, Bool.cond_true_left, Bool.cond_false_left, Bool.cond_true_right, Bool.not_true, Bool.not_false, Bool.not_not, eq_self, decide_true, decide_false, cond_true, cond_false, Int.reduceEq, Int.reduceLT, Int.reduceLE, Int.reduceSub, Int.reduceAdd, Bool.true_and, Bool.and_true, Bool.false_and, Bool.and_false, Bool.or_false, Bool.false_or, Bool.true_or, Bool.or_true, true_and, and_true]; rfl
    | true =>
      left
      have hr' := hr
      simp only [rAt, Bool.and_eq_true, decide_eq_true_eq] at hr
      refine ⟨i + 1, ?_, ⟨hlt, all_snoc (d := default) hlt hi.2 (by rw [hgd]; exact hr')⟩, by omega⟩
      have hw2 : IntKind.i64.wrap (s[i].at_ + s[i].ty.c) = s[i].at_ + s[i].ty.c := wrap_id (by omega) (by omega)
      have hck : decide (0 ≤ s[i].at_ ∧ s[i].at_ ≤ s[i].at_ + s[i].ty.c ∧ s[i].at_ + s[i].ty.c ≤ (m.length : Int)) = true := decT (by omega)
      have hf : decide (((clrows ((s.take i).map (rCell m))).length + 1) * 41 ≤ 140737488355328) = true := decT (by
        rw [clrows_len, List.length_map, List.length_take]; omega)
      have hcut : ((irows m).take (s[i].at_ + s[i].ty.c).toNat).drop s[i].at_.toNat = irows (rCell m s[i]).vals := by
        rw [irows_take, irows_drop]
        unfold rCell
        congr 1
        rw [List.drop_take]
        congr 1
        omega
      rw [clrows_snoc hx]
      simp only [sy_wrap, sy_add, sy_sub, sy_mul, sy_ieq, sy_ilt, sy_ile, sy_seq, sy_beq, sy_bor, sy_bnot, sy_imax, sy_imin, sy_rlen, sy_slen, sy_sapp, sy_inr, sy_nat, sy_cell0, sy_cellS, sy_skip0, sy_inrn, sy_rapp, sy_fits, sy_cutok, sy_cut, sy_scut, sy_sbyte, sy_mkok, sy_mkok0, sy_mkz, sy_rep, sy_head, sy_deq, eqDs_int, eqDs_nil, opI_int, opB_bool, opS_str, opL_sl, opM_own, leaves_val, leaves_own, Option.bind_some, cutO_bool, bif_bool, cutO_inl, cutO_inr, eF_call, eF_lp, Nat.zero_add, Nat.reduceAdd, Bool.cond_false_right, Bool.cond_true_left, Bool.cond_false_left, Bool.cond_true_right, Bool.not_true, Bool.not_false, Bool.not_not, eq_self, decide_true, decide_false, cond_true, cond_false, Int.reduceEq, Int.reduceLT, Int.reduceLE, Int.reduceSub, Int.reduceAdd, Bool.true_and, Bool.and_true, Bool.false_and, Bool.and_false, Bool.or_false, Bool.false_or, Bool.true_or, Bool.or_true, true_and, and_true, slrows_len, irows_len, ilt_at hlt, inr_at hlt, slt_at hx, skip1, skip4, rcells_u, hw, hw2, hck, hcut, decF (p := s[i].at_ < 0) (by omega), decF (p := (m.length : Int) - s[i].ty.c < s[i].at_) (by omega), wrap_succ hlt (by omega), List.length_cons, List.length_nil, hf]
      rfl
  · right
    have : i = s.length := by omega
    subst this
    have hi := hi.2
    rw [List.take_length] at hi
    rw [hi]
    simp only [sy_wrap, sy_add, sy_sub, sy_mul, sy_ieq, sy_ilt, sy_ile, sy_seq, sy_beq, sy_bor, sy_bnot, sy_imax, sy_imin, sy_rlen, sy_slen, sy_sapp, sy_inr, sy_nat, sy_cell0, sy_cellS, sy_skip0, sy_inrn, sy_rapp, sy_fits, sy_cutok, sy_cut, sy_scut, sy_sbyte, sy_mkok, sy_mkok0, sy_mkz, sy_rep, sy_head, sy_deq, eqDs_int, eqDs_nil, opI_int, opB_bool, opS_str, opL_sl, opM_own, leaves_val, leaves_own, Option.bind_some, cutO_bool, bif_bool, cutO_inl, cutO_inr, eF_call, eF_lp, Nat.zero_add, Nat.reduceAdd, Bool.cond_false_right, Bool.cond_true_left, Bool.cond_false_left, Bool.cond_true_right, Bool.not_true, Bool.not_false, Bool.not_not, eq_self, decide_true, decide_false, cond_true, cond_false, Int.reduceEq, Int.reduceLT, Int.reduceLE, Int.reduceSub, Int.reduceAdd, Bool.true_and, Bool.and_true, Bool.false_and, Bool.and_false, Bool.or_false, Bool.false_or, Bool.true_or, Bool.or_true, true_and, and_true, slrows_len, ilt_self, List.take_length]
theorem e8 : ((8 : Nat) : Int) = 8 := rfl
theorem c_tRead (s : List Slt) (m : List Int) (hs : s.length ≤ 1000000) (hm : m.length ≤ 1000000) : cF 18 [.d (.sl 6 (slrows s)), .d (.sl 1 (irows m))] = some (.own 59 2 (clrows (readS s m))) := by
  unfold readS
  refine cOf (by kernel_rfl) rfl ?_
  rw [g18_eq]
  simp only [g18, sy_wrap, sy_add, sy_sub, sy_mul, sy_ieq, sy_ilt, sy_ile, sy_seq, sy_beq, sy_bor, sy_bnot, sy_imax, sy_imin, sy_rlen, sy_slen, sy_sapp, sy_inr, sy_nat, sy_cell0, sy_cellS, sy_skip0, sy_inrn, sy_rapp, sy_fits, sy_cutok, sy_cut, sy_scut, sy_sbyte, sy_mkok, sy_mkok0, sy_mkz, sy_rep, sy_head, sy_deq, eqDs_int, eqDs_nil, opI_int, opB_bool, opS_str, opL_sl, opM_own, leaves_val, leaves_own, Option.bind_some, cutO_bool, bif_bool, cutO_inl, cutO_inr, eF_call, eF_lp, Nat.zero_add, Nat.reduceAdd, Bool.cond_false_right, Bool.cond_true_left, Bool.cond_false_left, Bool.cond_true_right, Bool.not_true, Bool.not_false, Bool.not_not, eq_self, decide_true, decide_false, cond_true, cond_false, Int.reduceEq, Int.reduceLT, Int.reduceLE, Int.reduceSub, Int.reduceAdd, Bool.true_and, Bool.and_true, Bool.false_and, Bool.and_false, Bool.or_false, Bool.false_or, Bool.true_or, Bool.or_true, true_and, and_true, slrows_len]
  refine loopF_at (fun i : Nat => [.sl 1 (irows m), .sl 6 (slrows s), .int .i64 (s.length : Int), .int .i64 (i : Int), .sl 2 (clrows ((s.take i).map (rCell m)))]) (fun i => i ≤ s.length ∧ (s.take i).all (rAt m.length) = true) (fun i => s.length - i) (fun i hi => ?_) 0 ⟨Nat.zero_le _, by simp⟩
  by_cases hlt : i < s.length
  · have hx := List.getElem?_eq_getElem hlt
    have hc := c_pos s[i].ty
    have hgd : s.getD i default = s[i] := by simp [hlt]
    have hlr : (((s[i].ty.c).toNat : Nat) : Int) = s[i].ty.c := by omega
    have hw : IntKind.i64.wrap ((m.length : Int) - s[i].ty.c) = (m.length : Int) - s[i].ty.c := wrap_id (by omega) (by omega)
    have hmk : decide (0 ≤ s[i].ty.c ∧ s[i].ty.c * 9 ≤ 140737488355328) = true := decT ⟨by omega, by omega⟩
    cases hr : rAt m.length s[i] with
    | false =>
      right
      rw [all_false (d := default) hlt (by rw [hgd]; exact hr)]
      simp only [sy_wrap, sy_add, sy_sub, sy_mul, sy_ieq, sy_ilt, sy_ile, sy_seq, sy_beq, sy_bor, sy_bnot, sy_imax, sy_imin, sy_rlen, sy_slen, sy_sapp, sy_inr, sy_nat, sy_cell0, sy_cellS, sy_skip0, sy_inrn, sy_rapp, sy_fits, sy_cutok, sy_cut, sy_scut, sy_sbyte, sy_mkok, sy_mkok0, sy_mkz, sy_rep, sy_head, sy_deq, eqDs_int, eqDs_nil, opI_int, opB_bool, opS_str, opL_sl, opM_own, leaves_val, leaves_own, Option.bind_some, cutO_bool, bif_bool, cutO_inl, cutO_inr, eF_call, eF_lp, Nat.zero_add, Nat.reduceAdd, Bool.cond_false_right, Bool.cond_true_left, Bool.cond_false_left, Bool.cond_true_right, Bool.not_true, Bool.not_false, Bool.not_not, eq_self, decide_true, decide_false, cond_true, cond_false, Int.reduceEq, Int.reduceLT, Int.reduceLE, Int.reduceSub, Int.reduceAdd, Bool.true_and, Bool.and_true, Bool.false_and, Bool.and_false, Bool.or_false, Bool.false_or, Bool.true_or, Bool.or_true, true_and, and_true, slrows_len, irows_len, ilt_at hlt, inr_at hlt, slt_at hx, cells_u, List.length_replicate, hlr, hw, e8, hmk]
      by_cases h0 : s[i].at_ < 0
      · rw [decT h0]; simp only [sy_wrap, sy_add, sy_sub, sy_mul, sy_ieq, sy_ilt, sy_ile, sy_seq, sy_beq, sy_bor, sy_bnot, sy_imax, sy_imin, sy_rlen, sy_slen, sy_sapp, sy_inr, sy_nat, sy_cell0, sy_cellS, sy_skip0, sy_inrn, sy_rapp, sy_fits, sy_cutok, sy_cut, sy_scut, sy_sbyte, sy_mkok, sy_mkok0, sy_mkz, sy_rep, sy_head, sy_deq, eqDs_int, eqDs_nil, opI_int, opB_bool, opS_str, opL_sl, opM_own, leaves_val, leaves_own, Option.bind_some, cutO_bool, bif_bool, cutO_inl, cutO_inr, eF_call, eF_lp, Nat.zero_add, Nat.reduceAdd, Bool.cond_false_right, Bool.cond_true_left, Bool.cond_false_left, Bool.cond_true_right, Bool.not_true, Bool.not_false, Bool.not_not, eq_self, decide_true, decide_false, cond_true, cond_false, Int.reduceEq, Int.reduceLT, Int.reduceLE, Int.reduceSub, Int.reduceAdd, Bool.true_and, Bool.and_true, Bool.false_and, Bool.and_false, Bool.or_false, Bool.false_or, Bool.true_or, Bool.or_true, true_and, and_true]; rfl
      · rw [decF h0, decT (rAt_bad hr h0)]; simp only [sy_wrap, sy_add, sy_sub, sy_mul, sy_ieq, sy_ilt, sy_ile, sy_seq, sy_beq, sy_bor, sy_bnot, sy_imax, sy_imin, sy_rlen, sy_slen, sy_sapp, sy_inr, sy_nat, sy_cell0, sy_cellS, sy_skip0, sy_inrn, sy_rapp, sy_fits, sy_cutok, sy_cut, sy_scut, sy_sbyte, sy_mkok, sy_mkok0, sy_mkz, sy_rep, sy_head, sy_deq, eqDs_int, eqDs_nil, opI_int, opB_bool, opS_str, opL_sl, opM_own, leaves_val, leaves_own, Option.bind_some, cutO_bool, bif_bool, cutO_inl, cutO_inr, eF_call, eF_lp, Nat.zero_add, Nat.reduceAdd, Bool.cond_false_right, Bool.cond_true_left, Bool.cond_false_left, Bool.cond_true_right, Bool.not_true, Bool.not_false, Bool.not_not, eq_self, decide_true, decide_false, cond_true, cond_false, Int.reduceEq, Int.reduceLT, Int.reduceLE, Int.reduceSub, Int.reduceAdd, Bool.true_and, Bool.and_true, Bool.false_and, Bool.and_false, Bool.or_false, Bool.false_or, Bool.true_or, Bool.or_true, true_and, and_true]; rfl
    | true =>
      left
      have hr' := hr
      simp only [rAt, Bool.and_eq_true, decide_eq_true_eq] at hr
      refine ⟨i + 1, ?_, ⟨hlt, all_snoc (d := default) hlt hi.2 (by rw [hgd]; exact hr')⟩, by omega⟩
      have hck : decide (0 ≤ s[i].at_ ∧ s[i].at_ ≤ (m.length : Int)) = true := decT (by omega)
      have hck2 : decide (0 ≤ s[i].ty.c) = true := decT (by omega)
      have hf : decide (((clrows ((s.take i).map (rCell m))).length + 1) * 41 ≤ 140737488355328) = true := decT (by
        rw [clrows_len, List.length_map, List.length_take]; omega)
      have hcp : sy.rcopy (List.replicate s[i].ty.c.toNat [D.int .i64 0]) 0 s[i].ty.c (((irows m).take ((m.length : Nat) : Int).toNat).drop s[i].at_.toNat) = irows (rCell m s[i]).vals := by
        have e1 : (irows m).take ((m.length : Nat) : Int).toNat = irows m := List.take_of_length_le (by rw [irows_len]; omega)
        rw [e1, irows_drop]
        have e2 : min s[i].ty.c.toNat (irows (m.drop s[i].at_.toNat)).length = s[i].ty.c.toNat := by
          rw [irows_len, List.length_drop]; omega
        rw [sy_rcopy, e2, irows_take]
        have e3 : (List.replicate s[i].ty.c.toNat [D.int .i64 0]).drop (Int.toNat 0 + s[i].ty.c.toNat) = [] := List.drop_of_length_le (by simp)
        rw [e3]
        unfold rCell
        simp
      rw [clrows_snoc hx]
      simp only [sy_wrap, sy_add, sy_sub, sy_mul, sy_ieq, sy_ilt, sy_ile, sy_seq, sy_beq, sy_bor, sy_bnot, sy_imax, sy_imin, sy_rlen, sy_slen, sy_sapp, sy_inr, sy_nat, sy_cell0, sy_cellS, sy_skip0, sy_inrn, sy_rapp, sy_fits, sy_cutok, sy_cut, sy_scut, sy_sbyte, sy_mkok, sy_mkok0, sy_mkz, sy_rep, sy_head, sy_deq, eqDs_int, eqDs_nil, opI_int, opB_bool, opS_str, opL_sl, opM_own, leaves_val, leaves_own, Option.bind_some, cutO_bool, bif_bool, cutO_inl, cutO_inr, eF_call, eF_lp, Nat.zero_add, Nat.reduceAdd, Bool.cond_false_right, Bool.cond_true_left, Bool.cond_false_left, Bool.cond_true_right, Bool.not_true, Bool.not_false, Bool.not_not, eq_self, decide_true, decide_false, cond_true, cond_false, Int.reduceEq, Int.reduceLT, Int.reduceLE, Int.reduceSub, Int.reduceAdd, Bool.true_and, Bool.and_true, Bool.false_and, Bool.and_false, Bool.or_false, Bool.false_or, Bool.true_or, Bool.or_true, true_and, and_true, slrows_len, irows_len, ilt_at hlt, inr_at hlt, slt_at hx, cells_u, List.length_replicate, hlr, hw, e8, hmk, hck, hck2, Int.le_refl, Int.zero_add, hcp, decF (p := s[i].at_ < 0) (by omega), decF (p := (m.length : Int) - s[i].ty.c < s[i].at_) (by omega), wrap_succ hlt (by omega), List.length_cons, List.length_nil, hf]
      rfl
  · right
    have : i = s.length := by omega
    subst this
    have hi := hi.2
    rw [List.take_length] at hi
    rw [hi]
    simp only [sy_wrap, sy_add, sy_sub, sy_mul, sy_ieq, sy_ilt, sy_ile, sy_seq, sy_beq, sy_bor, sy_bnot, sy_imax, sy_imin, sy_rlen, sy_slen, sy_sapp, sy_inr, sy_nat, sy_cell0, sy_cellS, sy_skip0, sy_inrn, sy_rapp, sy_fits, sy_cutok, sy_cut, sy_scut, sy_sbyte, sy_mkok, sy_mkok0, sy_mkz, sy_rep, sy_head, sy_deq, eqDs_int, eqDs_nil, opI_int, opB_bool, opS_str, opL_sl, opM_own, leaves_val, leaves_own, Option.bind_some, cutO_bool, bif_bool, cutO_inl, cutO_inr, eF_call, eF_lp, Nat.zero_add, Nat.reduceAdd, Bool.cond_false_right, Bool.cond_true_left, Bool.cond_false_left, Bool.cond_true_right, Bool.not_true, Bool.not_false, Bool.not_not, eq_self, decide_true, decide_false, cond_true, cond_false, Int.reduceEq, Int.reduceLT, Int.reduceLE, Int.reduceSub, Int.reduceAdd, Bool.true_and, Bool.and_true, Bool.false_and, Bool.and_false, Bool.or_false, Bool.false_or, Bool.true_or, Bool.or_true, true_and, and_true, ilt_self, List.take_length]
/-! ### the same cells -/
def sameC (a b : List Cll) : Bool := allZ (fun x y => decide (tb x.path = tb y.path) && decide (x.vals = y.vals)) a b
theorem sameC_self (a : List Cll) : sameC a a = true := by
  unfold sameC
  induction a with
  | nil => rfl
  | cons x l ih => simp [allZ, ih]
theorem c_rmSame (a b : List Cll) (ha : a.length ≤ 1000000) (hv : ∀ x ∈ a, x.vals.length ≤ 1000000) : cF 17 [.d (.sl 2 (clrows a)), .d (.sl 2 (clrows b))] = some (.val [.bool (sameC a b)]) := by
  refine cOf (by kernel_rfl) rfl ?_
  rw [g17_eq]
  simp only [g17, sy_wrap, sy_add, sy_sub, sy_mul, sy_ieq, sy_ilt, sy_ile, sy_seq, sy_beq, sy_bor, sy_bnot, sy_imax, sy_imin, sy_rlen, sy_slen, sy_sapp, sy_inr, sy_nat, sy_cell0, sy_cellS, sy_skip0, sy_inrn, sy_rapp, sy_fits, sy_cutok, sy_cut, sy_scut, sy_sbyte, sy_mkok, sy_mkok0, sy_mkz, sy_rep, sy_head, sy_deq, eqDs_int, eqDs_nil, opI_int, opB_bool, opS_str, opL_sl, opM_own, leaves_val, leaves_own, Option.bind_some, cutO_bool, bif_bool, cutO_inl, cutO_inr, eF_call, eF_lp, Nat.zero_add, Nat.reduceAdd, Bool.cond_false_right, Bool.cond_true_left, Bool.cond_false_left, Bool.cond_true_right, Bool.not_true, Bool.not_false, Bool.not_not, eq_self, decide_true, decide_false, cond_true, cond_false, Int.reduceEq, Int.reduceLT, Int.reduceLE, Int.reduceSub, Int.reduceAdd, Bool.true_and, Bool.and_true, Bool.false_and, Bool.and_false, Bool.or_false, Bool.false_or, Bool.true_or, Bool.or_true, true_and, and_true, clrows_len]
  by_cases hl : (a.length : Int) = b.length
  · rw [decT hl]
    simp only [sy_wrap, sy_add, sy_sub, sy_mul, sy_ieq, sy_ilt, sy_ile, sy_seq, sy_beq, sy_bor, sy_bnot, sy_imax, sy_imin, sy_rlen, sy_slen, sy_sapp, sy_inr, sy_nat, sy_cell0, sy_cellS, sy_skip0, sy_inrn, sy_rapp, sy_fits, sy_cutok, sy_cut, sy_scut, sy_sbyte, sy_mkok, sy_mkok0, sy_mkz, sy_rep, sy_head, sy_deq, eqDs_int, eqDs_nil, opI_int, opB_bool, opS_str, opL_sl, opM_own, leaves_val, leaves_own, Option.bind_some, cutO_bool, bif_bool, cutO_inl, cutO_inr, eF_call, eF_lp, Nat.zero_add, Nat.reduceAdd, Bool.cond_false_right, Bool.cond_true_left, Bool.cond_false_left, Bool.cond_true_right, Bool.not_true, Bool.not_false, Bool.not_not, eq_self, decide_true, decide_false, cond_true, cond_false, Int.reduceEq, Int.reduceLT, Int.reduceLE, Int.reduceSub, Int.reduceAdd, Bool.true_and, Bool.and_true, Bool.false_and, Bool.and_false, Bool.or_false, Bool.false_or, Bool.true_or, Bool.or_true, true_and, and_true]
    refine zip_loop (fun x y : Cll => decide (tb x.path = tb y.path) && decide (x.vals = y.vals)) a b (fun i => [.sl 2 (clrows a), .sl 2 (clrows b), .int .i64 i]) (by omega) (fun i x y hx hy => ?_) ?_
    · have hlt := (List.getElem?_eq_some_iff.1 hx).1
      have hlt2 := (List.getElem?_eq_some_iff.1 hy).1
      have hV := c_rVals x.vals y.vals (hv _ (List.mem_of_getElem? hx))
      simp only [sy_wrap, sy_add, sy_sub, sy_mul, sy_ieq, sy_ilt, sy_ile, sy_seq, sy_beq, sy_bor, sy_bnot, sy_imax, sy_imin, sy_rlen, sy_slen, sy_sapp, sy_inr, sy_nat, sy_cell0, sy_cellS, sy_skip0, sy_inrn, sy_rapp, sy_fits, sy_cutok, sy_cut, sy_scut, sy_sbyte, sy_mkok, sy_mkok0, sy_mkz, sy_rep, sy_head, sy_deq, eqDs_int, eqDs_nil, opI_int, opB_bool, opS_str, opL_sl, opM_own, leaves_val, leaves_own, Option.bind_some, cutO_bool, bif_bool, cutO_inl, cutO_inr, eF_call, eF_lp, Nat.zero_add, Nat.reduceAdd, Bool.cond_false_right, Bool.cond_true_left, Bool.cond_false_left, Bool.cond_true_right, Bool.not_true, Bool.not_false, Bool.not_not, eq_self, decide_true, decide_false, cond_true, cond_false, Int.reduceEq, Int.reduceLT, Int.reduceLE, Int.reduceSub, Int.reduceAdd, Bool.true_and, Bool.and_true, Bool.false_and, Bool.and_false, Bool.or_false, Bool.false_or, Bool.true_or, Bool.or_true, true_and, and_true, clrows_len, ilt_at hlt, inr_at hlt, inr_at hlt2, cll_at hx, cll_at hy, skip1, seq_tb, hV, wrap_succ hlt (by omega)]
      cases decide (tb x.path = tb y.path) <;> cases decide (x.vals = y.vals) <;> rfl
    · simp only [sy_wrap, sy_add, sy_sub, sy_mul, sy_ieq, sy_ilt, sy_ile, sy_seq, sy_beq, sy_bor, sy_bnot, sy_imax, sy_imin, sy_rlen, sy_slen, sy_sapp, sy_inr, sy_nat, sy_cell0, sy_cellS, sy_skip0, sy_inrn, sy_rapp, sy_fits, sy_cutok, sy_cut, sy_scut, sy_sbyte, sy_mkok, sy_mkok0, sy_mkz, sy_rep, sy_head, sy_deq, eqDs_int, eqDs_nil, opI_int, opB_bool, opS_str, opL_sl, opM_own, leaves_val, leaves_own, Option.bind_some, cutO_bool, bif_bool, cutO_inl, cutO_inr, eF_call, eF_lp, Nat.zero_add, Nat.reduceAdd, Bool.cond_false_right, Bool.cond_true_left, Bool.cond_false_left, Bool.cond_true_right, Bool.not_true, Bool.not_false, Bool.not_not, eq_self, decide_true, decide_false, cond_true, cond_false, Int.reduceEq, Int.reduceLT, Int.reduceLE, Int.reduceSub, Int.reduceAdd, Bool.true_and, Bool.and_true, Bool.false_and, Bool.and_false, Bool.or_false, Bool.false_or, Bool.true_or, Bool.or_true, true_and, and_true, clrows_len, ilt_self]
  · rw [decF hl, show sameC a b = false from allZ_ne hl]; simp only [sy_wrap, sy_add, sy_sub, sy_mul, sy_ieq, sy_ilt, sy_ile, sy_seq, sy_beq, sy_bor, sy_bnot, sy_imax, sy_imin, sy_rlen, sy_slen, sy_sapp, sy_inr, sy_nat, sy_cell0, sy_cellS, sy_skip0, sy_inrn, sy_rapp, sy_fits, sy_cutok, sy_cut, sy_scut, sy_sbyte, sy_mkok, sy_mkok0, sy_mkz, sy_rep, sy_head, sy_deq, eqDs_int, eqDs_nil, opI_int, opB_bool, opS_str, opL_sl, opM_own, leaves_val, leaves_own, Option.bind_some, cutO_bool, bif_bool, cutO_inl, cutO_inr, eF_call, eF_lp, Nat.zero_add, Nat.reduceAdd, Bool.cond_false_right, Bool.cond_true_left, Bool.cond_false_left, Bool.cond_true_right, Bool.not_true, Bool.not_false, Bool.not_not, eq_self, decide_true, decide_false, cond_true, cond_false, Int.reduceEq, Int.reduceLT, Int.reduceLE, Int.reduceSub, Int.reduceAdd, Bool.true_and, Bool.and_true, Bool.false_and, Bool.and_false, Bool.or_false, Bool.false_or, Bool.true_or, Bool.or_true, true_and, and_true]
end Go.Vm
end

section
set_option linter.all false
set_option maxRecDepth 100000
set_option maxHeartbeats 4000000
namespace Go.Vm
open Go.Proofs
/-! ### the page's example -/
def exS : List Slt := [⟨bs [97], ⟨2, 0, 2⟩, 0, [0, 1]⟩, ⟨bs [98], ⟨1, 0, 0⟩, 2, [5]⟩]
theorem exSB : SB exS := by
  refine ⟨by decide, fun x hx => ?_, fun x hx => ?_⟩
  · rcases List.mem_cons.1 hx with rfl | hx
    · decide
    · rcases List.mem_cons.1 hx with rfl | hx
      · decide
      · cases hx
  · rcases List.mem_cons.1 hx with rfl | hx
    · decide
    · rcases List.mem_cons.1 hx with rfl | hx
      · decide
      · cases hx
theorem c_Live : cF 8 [] = some (.val [.bool true]) := by
  have h1 := c_tCells exS exSB.len
  have h2 := c_tRight [] exS exSB
  have h3 := c_tFind exS (bs [98]) exSB.len
  have e1 : cellsN exS = 3 := by decide
  have e2 : rightS [] exS = true := by decide
  have e3 : findS exS (bs [98]) = 1 := by decide
  rw [e1] at h1
  rw [e2] at h2
  rw [e3] at h3
  simp only [exS, slrows, erows, Slt.row, irows, irow, List.map_cons, List.map_nil] at h1 h2 h3
  refine cOf (by kernel_rfl) rfl ?_
  rw [g8_eq]
  simp only [g8, sy_wrap, sy_add, sy_sub, sy_mul, sy_ieq, sy_ilt, sy_ile, sy_seq, sy_beq, sy_bor, sy_bnot, sy_imax, sy_imin, sy_rlen, sy_slen, sy_sapp, sy_inr, sy_nat, sy_cell0, sy_cellS, sy_skip0, sy_inrn, sy_rapp, sy_fits, sy_cutok, sy_cut, sy_scut, sy_sbyte, sy_mkok, sy_mkok0, sy_mkz, sy_rep, sy_head, sy_deq, eqDs_int, eqDs_nil, opI_int, opB_bool, opS_str, opL_sl, opM_own, leaves_val, leaves_own, Option.bind_some, cutO_bool, bif_bool, cutO_inl, cutO_inr, eF_call, eF_lp, Nat.zero_add, Nat.reduceAdd, Bool.cond_false_right, Bool.cond_true_left, Bool.cond_false_left, Bool.cond_true_right, Bool.not_true, Bool.not_false, Bool.not_not, eq_self, decide_true, decide_false, cond_true, cond_false, Int.reduceEq, Int.reduceLT, Int.reduceLE, Int.reduceSub, Int.reduceAdd, Bool.true_and, Bool.and_true, Bool.false_and, Bool.and_false, Bool.or_false, Bool.false_or, Bool.true_or, Bool.or_true, true_and, and_true, h1, h2, h3]
/-! ### the laws -/
theorem SB_of {s : List Slt} (h : s.length ≤ 150 ∧ ∀ x ∈ s, x.path.size ≤ 200 ∧ x.init.length ≤ 20) : SB s := ⟨by omega, fun x hx => by have := (h.2 x hx).1; omega, fun x hx => by have := (h.2 x hx).2; omega⟩
theorem c_LawRight (l : List Enm) (s : List Slt) (p : ByteArray) : cF 3 [.d (.sl 2 (erows l)), .d (.sl 6 (slrows s)), .d (.str p)] = some (.val [.bool true]) := by
  obtain ⟨_, hS, bS, rfl⟩ := c_rSmall l
  obtain ⟨_, hF, bF, rfl, hb⟩ := c_rtFew s
  have hLv := c_Live
  cases bS with
  | false =>
    refine cOf (by kernel_rfl) rfl ?_
    rw [g3_eq]
    simp only [g3, sy_wrap, sy_add, sy_sub, sy_mul, sy_ieq, sy_ilt, sy_ile, sy_seq, sy_beq, sy_bor, sy_bnot, sy_imax, sy_imin, sy_rlen, sy_slen, sy_sapp, sy_inr, sy_nat, sy_cell0, sy_cellS, sy_skip0, sy_inrn, sy_rapp, sy_fits, sy_cutok, sy_cut, sy_scut, sy_sbyte, sy_mkok, sy_mkok0, sy_mkz, sy_rep, sy_head, sy_deq, eqDs_int, eqDs_nil, opI_int, opB_bool, opS_str, opL_sl, opM_own, leaves_val, leaves_own, Option.bind_some, cutO_bool, bif_bool, cutO_inl, cutO_inr, eF_call, eF_lp, Nat.zero_add, Nat.reduceAdd, Bool.cond_false_right, Bool.cond_true_left, Bool.cond_false_left, Bool.cond_true_right, Bool.not_true, Bool.not_false, Bool.not_not, eq_self, decide_true, decide_false, cond_true, cond_false, Int.reduceEq, Int.reduceLT, Int.reduceLE, Int.reduceSub, Int.reduceAdd, Bool.true_and, Bool.and_true, Bool.false_and, Bool.and_false, Bool.or_false, Bool.false_or, Bool.true_or, Bool.or_true, true_and, and_true, hS, hLv]
  | true =>
    cases bF with
    | false =>
      refine cOf (by kernel_rfl) rfl ?_
      rw [g3_eq]
      simp only [g3, sy_wrap, sy_add, sy_sub, sy_mul, sy_ieq, sy_ilt, sy_ile, sy_seq, sy_beq, sy_bor, sy_bnot, sy_imax, sy_imin, sy_rlen, sy_slen, sy_sapp, sy_inr, sy_nat, sy_cell0, sy_cellS, sy_skip0, sy_inrn, sy_rapp, sy_fits, sy_cutok, sy_cut, sy_scut, sy_sbyte, sy_mkok, sy_mkok0, sy_mkz, sy_rep, sy_head, sy_deq, eqDs_int, eqDs_nil, opI_int, opB_bool, opS_str, opL_sl, opM_own, leaves_val, leaves_own, Option.bind_some, cutO_bool, bif_bool, cutO_inl, cutO_inr, eF_call, eF_lp, Nat.zero_add, Nat.reduceAdd, Bool.cond_false_right, Bool.cond_true_left, Bool.cond_false_left, Bool.cond_true_right, Bool.not_true, Bool.not_false, Bool.not_not, eq_self, decide_true, decide_false, cond_true, cond_false, Int.reduceEq, Int.reduceLT, Int.reduceLE, Int.reduceSub, Int.reduceAdd, Bool.true_and, Bool.and_true, Bool.false_and, Bool.and_false, Bool.or_false, Bool.false_or, Bool.true_or, Bool.or_true, true_and, and_true, hS, hF, hLv]
    | true =>
      have hs := SB_of (hb rfl)
      by_cases h3 : 300 < (p.size : Int)
      · refine cOf (by kernel_rfl) rfl ?_
        rw [g3_eq]
        simp only [g3, sy_wrap, sy_add, sy_sub, sy_mul, sy_ieq, sy_ilt, sy_ile, sy_seq, sy_beq, sy_bor, sy_bnot, sy_imax, sy_imin, sy_rlen, sy_slen, sy_sapp, sy_inr, sy_nat, sy_cell0, sy_cellS, sy_skip0, sy_inrn, sy_rapp, sy_fits, sy_cutok, sy_cut, sy_scut, sy_sbyte, sy_mkok, sy_mkok0, sy_mkz, sy_rep, sy_head, sy_deq, eqDs_int, eqDs_nil, opI_int, opB_bool, opS_str, opL_sl, opM_own, leaves_val, leaves_own, Option.bind_some, cutO_bool, bif_bool, cutO_inl, cutO_inr, eF_call, eF_lp, Nat.zero_add, Nat.reduceAdd, Bool.cond_false_right, Bool.cond_true_left, Bool.cond_false_left, Bool.cond_true_right, Bool.not_true, Bool.not_false, Bool.not_not, eq_self, decide_true, decide_false, cond_true, cond_false, Int.reduceEq, Int.reduceLT, Int.reduceLE, Int.reduceSub, Int.reduceAdd, Bool.true_and, Bool.and_true, Bool.false_and, Bool.and_false, Bool.or_false, Bool.false_or, Bool.true_or, Bool.or_true, true_and, and_true, hS, hF, decT h3, hLv]
      · have h1 := c_tRight l s hs
        have h2 := c_rtRight l s hs
        have h4 := c_tFind s p hs.len
        have h5 := c_rtFind s p hs.len
        have h6 := c_tSame s hs
        refine cOf (by kernel_rfl) rfl ?_
        rw [g3_eq]
        simp only [g3, sy_wrap, sy_add, sy_sub, sy_mul, sy_ieq, sy_ilt, sy_ile, sy_seq, sy_beq, sy_bor, sy_bnot, sy_imax, sy_imin, sy_rlen, sy_slen, sy_sapp, sy_inr, sy_nat, sy_cell0, sy_cellS, sy_skip0, sy_inrn, sy_rapp, sy_fits, sy_cutok, sy_cut, sy_scut, sy_sbyte, sy_mkok, sy_mkok0, sy_mkz, sy_rep, sy_head, sy_deq, eqDs_int, eqDs_nil, opI_int, opB_bool, opS_str, opL_sl, opM_own, leaves_val, leaves_own, Option.bind_some, cutO_bool, bif_bool, cutO_inl, cutO_inr, eF_call, eF_lp, Nat.zero_add, Nat.reduceAdd, Bool.cond_false_right, Bool.cond_true_left, Bool.cond_false_left, Bool.cond_true_right, Bool.not_true, Bool.not_false, Bool.not_not, eq_self, decide_true, decide_false, cond_true, cond_false, Int.reduceEq, Int.reduceLT, Int.reduceLE, Int.reduceSub, Int.reduceAdd, Bool.true_and, Bool.and_true, Bool.false_and, Bool.and_false, Bool.or_false, Bool.false_or, Bool.true_or, Bool.or_true, true_and, and_true, hS, hF, decF h3, hLv, h1, h2, h4, h5, h6, beq_self_eq_true]
theorem readS_bd (s : List Slt) (m : List Int) : (readS s m).length ≤ s.length := by
  unfold readS
  cases s.all (rAt m.length)
  · exact Nat.zero_le _
  · simp
theorem readS_vals (s : List Slt) (m : List Int) : ∀ x ∈ readS s m, x.vals.length ≤ m.length := by
  intro x hx
  unfold readS at hx
  cases h : s.all (rAt m.length) <;> rw [h] at hx
  · cases hx
  · rw [cond_true] at hx
    obtain ⟨y, hy, rfl⟩ := List.mem_map.1 hx
    unfold rCell
    simp
    omega
theorem c_LawReads (s : List Slt) (m : List Int) (c : List Cll) : cF 4 [.d (.sl 6 (slrows s)), .d (.sl 1 (irows m)), .d (.sl 2 (clrows c))] = some (.val [.bool true]) := by
  obtain ⟨_, hF, bF, rfl, hb⟩ := c_rtFew s
  obtain ⟨_, hM, bM, rfl, hc⟩ := c_rmFew c
  have hLv := c_Live
  cases bF with
  | false =>
    refine cOf (by kernel_rfl) rfl ?_
    rw [g4_eq]
    simp only [g4, sy_wrap, sy_add, sy_sub, sy_mul, sy_ieq, sy_ilt, sy_ile, sy_seq, sy_beq, sy_bor, sy_bnot, sy_imax, sy_imin, sy_rlen, sy_slen, sy_sapp, sy_inr, sy_nat, sy_cell0, sy_cellS, sy_skip0, sy_inrn, sy_rapp, sy_fits, sy_cutok, sy_cut, sy_scut, sy_sbyte, sy_mkok, sy_mkok0, sy_mkz, sy_rep, sy_head, sy_deq, eqDs_int, eqDs_nil, opI_int, opB_bool, opS_str, opL_sl, opM_own, leaves_val, leaves_own, Option.bind_some, cutO_bool, bif_bool, cutO_inl, cutO_inr, eF_call, eF_lp, Nat.zero_add, Nat.reduceAdd, Bool.cond_false_right, Bool.cond_true_left, Bool.cond_false_left, Bool.cond_true_right, Bool.not_true, Bool.not_false, Bool.not_not, eq_self, decide_true, decide_false, cond_true, cond_false, Int.reduceEq, Int.reduceLT, Int.reduceLE, Int.reduceSub, Int.reduceAdd, Bool.true_and, Bool.and_true, Bool.false_and, Bool.and_false, Bool.or_false, Bool.false_or, Bool.true_or, Bool.or_true, true_and, and_true, hF, hLv]
  | true =>
    have hs := SB_of (hb rfl)
    by_cases h3 : 1500 < (m.length : Int)
    · refine cOf (by kernel_rfl) rfl ?_
      rw [g4_eq]
      simp only [g4, sy_wrap, sy_add, sy_sub, sy_mul, sy_ieq, sy_ilt, sy_ile, sy_seq, sy_beq, sy_bor, sy_bnot, sy_imax, sy_imin, sy_rlen, sy_slen, sy_sapp, sy_inr, sy_nat, sy_cell0, sy_cellS, sy_skip0, sy_inrn, sy_rapp, sy_fits, sy_cutok, sy_cut, sy_scut, sy_sbyte, sy_mkok, sy_mkok0, sy_mkz, sy_rep, sy_head, sy_deq, eqDs_int, eqDs_nil, opI_int, opB_bool, opS_str, opL_sl, opM_own, leaves_val, leaves_own, Option.bind_some, cutO_bool, bif_bool, cutO_inl, cutO_inr, eF_call, eF_lp, Nat.zero_add, Nat.reduceAdd, Bool.cond_false_right, Bool.cond_true_left, Bool.cond_false_left, Bool.cond_true_right, Bool.not_true, Bool.not_false, Bool.not_not, eq_self, decide_true, decide_false, cond_true, cond_false, Int.reduceEq, Int.reduceLT, Int.reduceLE, Int.reduceSub, Int.reduceAdd, Bool.true_and, Bool.and_true, Bool.false_and, Bool.and_false, Bool.or_false, Bool.false_or, Bool.true_or, Bool.or_true, true_and, and_true, hF, irows_len, decT h3, hLv]
    · cases bM with
      | false =>
        refine cOf (by kernel_rfl) rfl ?_
        rw [g4_eq]
        simp only [g4, sy_wrap, sy_add, sy_sub, sy_mul, sy_ieq, sy_ilt, sy_ile, sy_seq, sy_beq, sy_bor, sy_bnot, sy_imax, sy_imin, sy_rlen, sy_slen, sy_sapp, sy_inr, sy_nat, sy_cell0, sy_cellS, sy_skip0, sy_inrn, sy_rapp, sy_fits, sy_cutok, sy_cut, sy_scut, sy_sbyte, sy_mkok, sy_mkok0, sy_mkz, sy_rep, sy_head, sy_deq, eqDs_int, eqDs_nil, opI_int, opB_bool, opS_str, opL_sl, opM_own, leaves_val, leaves_own, Option.bind_some, cutO_bool, bif_bool, cutO_inl, cutO_inr, eF_call, eF_lp, Nat.zero_add, Nat.reduceAdd, Bool.cond_false_right, Bool.cond_true_left, Bool.cond_false_left, Bool.cond_true_right, Bool.not_true, Bool.not_false, Bool.not_not, eq_self, decide_true, decide_false, cond_true, cond_false, Int.reduceEq, Int.reduceLT, Int.reduceLE, Int.reduceSub, Int.reduceAdd, Bool.true_and, Bool.and_true, Bool.false_and, Bool.and_false, Bool.or_false, Bool.false_or, Bool.true_or, Bool.or_true, true_and, and_true, hF, irows_len, decF h3, hM, hLv]
      | true =>
        have hmm : m.length ≤ 1000000 := by omega
        have hsl := hs.len
        have hb := hb rfl
        have hc := hc rfl
        have h1 := c_tWrite s c hs.len
        have h2 := c_rtWrite s c hs.len
        have h4 := c_tRead s m hs.len hmm
        have h5 := c_rtRead s m hs.len hmm
        have h6 := c_rmSame (readS s m) (readS s m) (by have := readS_bd s m; omega) (fun x hx => by have := readS_vals s m x hx; omega)
        rw [sameC_self] at h6
        have h7 := c_rVals (bif wOK s c then valsN c else []) (bif wOK s c then valsN c else []) (by
          cases h : wOK s c
          · exact Nat.zero_le _
          · have := wOK_len h
            have := cellsN_bd s
            simp only [cond_true]
            omega)
        unfold wRes at h1 h2
        generalize (bif wOK s c then valsN c else []) = W at h1 h2 h7
        refine cOf (by kernel_rfl) rfl ?_
        rw [g4_eq]
        simp only [g4, sy_wrap, sy_add, sy_sub, sy_mul, sy_ieq, sy_ilt, sy_ile, sy_seq, sy_beq, sy_bor, sy_bnot, sy_imax, sy_imin, sy_rlen, sy_slen, sy_sapp, sy_inr, sy_nat, sy_cell0, sy_cellS, sy_skip0, sy_inrn, sy_rapp, sy_fits, sy_cutok, sy_cut, sy_scut, sy_sbyte, sy_mkok, sy_mkok0, sy_mkz, sy_rep, sy_head, sy_deq, eqDs_int, eqDs_nil, opI_int, opB_bool, opS_str, opL_sl, opM_own, leaves_val, leaves_own, Option.bind_some, cutO_bool, bif_bool, cutO_inl, cutO_inr, eF_call, eF_lp, Nat.zero_add, Nat.reduceAdd, Bool.cond_false_right, Bool.cond_true_left, Bool.cond_false_left, Bool.cond_true_right, Bool.not_true, Bool.not_false, Bool.not_not, eq_self, decide_true, decide_false, cond_true, cond_false, Int.reduceEq, Int.reduceLT, Int.reduceLE, Int.reduceSub, Int.reduceAdd, Bool.true_and, Bool.and_true, Bool.false_and, Bool.and_false, Bool.or_false, Bool.false_or, Bool.true_or, Bool.or_true, true_and, and_true, hF, irows_len, decF h3, hM, hLv, h1, h2, h4, h5, h6, h7, beq_self_eq_true]
end Go.Vm
end
