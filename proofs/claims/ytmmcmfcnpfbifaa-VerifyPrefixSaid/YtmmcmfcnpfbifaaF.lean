/-
  Part F of the proof. What is proved by the whole: the statement that the claim names, with no condition. This part: lemmas.
-/
import Derived.Test.YtmmcmfcnpfbifaaE
import Derived.Test.YtmmcmfcnpfbifaaChecked
set_option linter.unusedSimpArgs false
set_option linter.unusedVariables false

section
set_option maxRecDepth 100000
set_option maxHeartbeats 1000000
namespace Go.Vm
open Go.Proofs
theorem c61 (row ks : List Int) (n : Int) (hr : row.length ≤ 1000) (hk : ks.length ≤ 1000) (h0 : 0 ≤ n) (h1 : n ≤ row.length) : cF 61 [.d (.sl 1 (irows row)), .d (.int .i64 n), .d (.sl 1 (irows ks))] = some (.val [.sl 1 (irows (dropTop row n.toNat ++ ks))]) := by
  refine cOf (by kernel_rfl) ?_
  rw [g61_eq]
  simp only [g61, sy_wrap, sy_add, sy_sub, sy_mul, sy_ieq, sy_ilt, sy_ile, sy_seq, sy_beq, sy_bor, sy_bnot, sy_imax, sy_imin, sy_rlen, sy_slen, sy_sapp, sy_inr, sy_nat, sy_cell0, sy_cellS, sy_skip0, sy_inrn, sy_rapp, sy_fits, sy_cutok, sy_cut, sy_scut, sy_sbyte, sy_mkok, sy_mkok0, sy_mkz, sy_rep, sy_head, sy_deq, eqDs_int, eqDs_nil, opI_int, opB_bool, opS_str, opL_sl, opM_own, leaves_val, leaves_own, Option.bind_some, cutO_bool, bif_bool, cutO_inl, cutO_inr, eF_call, eF_lp, Nat.zero_add, Nat.reduceAdd, Bool.cond_false_right, Bool.cond_true_left, Bool.cond_false_left, Bool.cond_true_right, Bool.not_true, Bool.not_false, Bool.not_not, eq_self, decide_true, decide_false, cond_true, cond_false, Int.reduceEq, Int.reduceLT, Int.reduceLE, Int.reduceSub, Int.reduceAdd, Bool.true_and, Bool.and_true, Bool.false_and, Bool.and_false, Bool.or_false, Bool.false_or, Bool.true_or, Bool.or_true, true_and, and_true, irows_len]
  rw [wrap_id (by omega) (by omega), decT (p := 0 ≤ (row.length : Int) - n ∧ (row.length : Int) - n ≤ row.length) (by omega)]
  have e : List.drop (Int.toNat 0) (List.take ((row.length : Int) - n).toNat (irows row)) = irows (dropTop row n.toNat) := by
    rw [irows_take]
    unfold dropTop
    rw [show ((row.length : Int) - n).toNat = row.length - n.toNat by omega]
    rfl
  simp only [sy_wrap, sy_add, sy_sub, sy_mul, sy_ieq, sy_ilt, sy_ile, sy_seq, sy_beq, sy_bor, sy_bnot, sy_imax, sy_imin, sy_rlen, sy_slen, sy_sapp, sy_inr, sy_nat, sy_cell0, sy_cellS, sy_skip0, sy_inrn, sy_rapp, sy_fits, sy_cutok, sy_cut, sy_scut, sy_sbyte, sy_mkok, sy_mkok0, sy_mkz, sy_rep, sy_head, sy_deq, eqDs_int, eqDs_nil, opI_int, opB_bool, opS_str, opL_sl, opM_own, leaves_val, leaves_own, Option.bind_some, cutO_bool, bif_bool, cutO_inl, cutO_inr, eF_call, eF_lp, Nat.zero_add, Nat.reduceAdd, Bool.cond_false_right, Bool.cond_true_left, Bool.cond_false_left, Bool.cond_true_right, Bool.not_true, Bool.not_false, Bool.not_not, eq_self, decide_true, decide_false, cond_true, cond_false, Int.reduceEq, Int.reduceLT, Int.reduceLE, Int.reduceSub, Int.reduceAdd, Bool.true_and, Bool.and_true, Bool.false_and, Bool.and_false, Bool.or_false, Bool.false_or, Bool.true_or, Bool.or_true, true_and, and_true, e, c94 _ ks (show (dropTop row n.toNat).length ≤ 100000 by unfold dropTop; simp; omega) (by omega)]
theorem c61_1 (row : List Int) (k : Int) (n : Int) (hr : row.length ≤ 1000) (h0 : 0 ≤ n) (h1 : n ≤ row.length) : cF 61 [.d (.sl 1 (irows row)), .d (.int .i64 n), .d (.sl 1 [[.int .i64 k]])] = some (.val [.sl 1 (irows (dropTop row n.toNat ++ [k]))]) := c61 row [k] n hr (by simp) h0 h1
theorem c61_0 (row : List Int) (n : Int) (hr : row.length ≤ 1000) (h0 : 0 ≤ n) (h1 : n ≤ row.length) : cF 61 [.d (.sl 1 (irows row)), .d (.int .i64 n), .d (.sl 1 [])] = some (.val [.sl 1 (irows (dropTop row n.toNat))]) := by
  have := c61 row [] n hr (by simp) h0 h1
  rwa [List.append_nil] at this
theorem c64_1 (row : List Int) (k : Int) (hr : row.length ≤ 1000) : cF 64 [.d (.sl 1 (irows row)), .d (.sl 1 [[.int .i64 k]])] = some (.val [.bool (endsB row [k])]) := c64 row [k] hr (by simp)
theorem c64_2 (row : List Int) (k m : Int) (hr : row.length ≤ 1000) : cF 64 [.d (.sl 1 (irows row)), .d (.sl 1 [[.int .i64 k], [.int .i64 m]])] = some (.val [.bool (endsB row [k, m])]) := c64 row [k, m] hr (by simp)
theorem c96 (k : Int) (h : -1000 ≤ k) (h1 : k ≤ 1000000) : cF 96 [.d (.int .i64 k)] = some (.val [.int .i64 (tyOf k).k, .int .i64 (tyOf k).e, .int .i64 (tyOf k).l]) := by
  refine cOf (by kernel_rfl) ?_
  rw [g96_eq]
  simp only [g96, sy_wrap, sy_add, sy_sub, sy_mul, sy_ieq, sy_ilt, sy_ile, sy_seq, sy_beq, sy_bor, sy_bnot, sy_imax, sy_imin, sy_rlen, sy_slen, sy_sapp, sy_inr, sy_nat, sy_cell0, sy_cellS, sy_skip0, sy_inrn, sy_rapp, sy_fits, sy_cutok, sy_cut, sy_scut, sy_sbyte, sy_mkok, sy_mkok0, sy_mkz, sy_rep, sy_head, sy_deq, eqDs_int, eqDs_nil, opI_int, opB_bool, opS_str, opL_sl, opM_own, leaves_val, leaves_own, Option.bind_some, cutO_bool, bif_bool, cutO_inl, cutO_inr, eF_call, eF_lp, Nat.zero_add, Nat.reduceAdd, Bool.cond_false_right, Bool.cond_true_left, Bool.cond_false_left, Bool.cond_true_right, Bool.not_true, Bool.not_false, Bool.not_not, eq_self, decide_true, decide_false, cond_true, cond_false, Int.reduceEq, Int.reduceLT, Int.reduceLE, Int.reduceSub, Int.reduceAdd, Bool.true_and, Bool.and_true, Bool.false_and, Bool.and_false, Bool.or_false, Bool.false_or, Bool.true_or, Bool.or_true, true_and, and_true]
  rw [wrap_id (by omega) (by omega)]
  unfold tyOf
  by_cases h : k < 3 <;> simp [h]
theorem c98 (t : Ty3) (h : -1000 ≤ t.k) (h1 : t.k ≤ 1000000) (h2 : -1000 ≤ t.e) (h3 : t.e ≤ 1000000) : cF 98 [t.v] = some (.val [.int .i64 (kindOf t)]) := by
  unfold Ty3.v tyV
  refine cOf (by kernel_rfl) ?_
  rw [g98_eq]
  simp only [g98, sy_wrap, sy_add, sy_sub, sy_mul, sy_ieq, sy_ilt, sy_ile, sy_seq, sy_beq, sy_bor, sy_bnot, sy_imax, sy_imin, sy_rlen, sy_slen, sy_sapp, sy_inr, sy_nat, sy_cell0, sy_cellS, sy_skip0, sy_inrn, sy_rapp, sy_fits, sy_cutok, sy_cut, sy_scut, sy_sbyte, sy_mkok, sy_mkok0, sy_mkz, sy_rep, sy_head, sy_deq, eqDs_int, eqDs_nil, opI_int, opB_bool, opS_str, opL_sl, opM_own, leaves_val, leaves_own, Option.bind_some, cutO_bool, bif_bool, cutO_inl, cutO_inr, eF_call, eF_lp, Nat.zero_add, Nat.reduceAdd, Bool.cond_false_right, Bool.cond_true_left, Bool.cond_false_left, Bool.cond_true_right, Bool.not_true, Bool.not_false, Bool.not_not, eq_self, decide_true, decide_false, cond_true, cond_false, Int.reduceEq, Int.reduceLT, Int.reduceLE, Int.reduceSub, Int.reduceAdd, Bool.true_and, Bool.and_true, Bool.false_and, Bool.and_false, Bool.or_false, Bool.false_or, Bool.true_or, Bool.or_true, true_and, and_true]
  rw [wrap_id (by omega) (by omega)]
  rfl
def tyR (o : Option Ty3) : PRes := match o with
  | some t => .val [.int .i64 t.k, .int .i64 t.e, .int .i64 t.l, .bool true]
  | none => .val [.int .i64 0, .int .i64 0, .int .i64 0, .bool false]
theorem c117 (op : Int) : cF 117 [.d (.int .i64 op)] = some (.val [.int .i64 (group op)]) := by
  by_cases h : 3 ≤ op ∧ op ≤ 16
  · have : op = 3 ∨ op = 4 ∨ op = 5 ∨ op = 6 ∨ op = 7 ∨ op = 8 ∨ op = 9 ∨ op = 10 ∨ op = 11 ∨ op = 12 ∨ op = 13 ∨ op = 14 ∨ op = 15 ∨ op = 16 := by omega
    rcases this with rfl | rfl | rfl | rfl | rfl | rfl | rfl | rfl | rfl | rfl | rfl | rfl | rfl | rfl
    all_goals
      refine cOf (by kernel_rfl) ?_
      rw [g117_eq]
      simp only [g117, sy_wrap, sy_add, sy_sub, sy_mul, sy_ieq, sy_ilt, sy_ile, sy_seq, sy_beq, sy_bor, sy_bnot, sy_imax, sy_imin, sy_rlen, sy_slen, sy_sapp, sy_inr, sy_nat, sy_cell0, sy_cellS, sy_skip0, sy_inrn, sy_rapp, sy_fits, sy_cutok, sy_cut, sy_scut, sy_sbyte, sy_mkok, sy_mkok0, sy_mkz, sy_rep, sy_head, sy_deq, eqDs_int, eqDs_nil, opI_int, opB_bool, opS_str, opL_sl, opM_own, leaves_val, leaves_own, Option.bind_some, cutO_bool, bif_bool, cutO_inl, cutO_inr, eF_call, eF_lp, Nat.zero_add, Nat.reduceAdd, Bool.cond_false_right, Bool.cond_true_left, Bool.cond_false_left, Bool.cond_true_right, Bool.not_true, Bool.not_false, Bool.not_not, eq_self, decide_true, decide_false, cond_true, cond_false, Int.reduceEq, Int.reduceLT, Int.reduceLE, Int.reduceSub, Int.reduceAdd, Bool.true_and, Bool.and_true, Bool.false_and, Bool.and_false, Bool.or_false, Bool.false_or, Bool.true_or, Bool.or_true, true_and, and_true]
      rfl
  · refine cOf (by kernel_rfl) ?_
    rw [g117_eq]
    simp only [g117, sy_wrap, sy_add, sy_sub, sy_mul, sy_ieq, sy_ilt, sy_ile, sy_seq, sy_beq, sy_bor, sy_bnot, sy_imax, sy_imin, sy_rlen, sy_slen, sy_sapp, sy_inr, sy_nat, sy_cell0, sy_cellS, sy_skip0, sy_inrn, sy_rapp, sy_fits, sy_cutok, sy_cut, sy_scut, sy_sbyte, sy_mkok, sy_mkok0, sy_mkz, sy_rep, sy_head, sy_deq, eqDs_int, eqDs_nil, opI_int, opB_bool, opS_str, opL_sl, opM_own, leaves_val, leaves_own, Option.bind_some, cutO_bool, bif_bool, cutO_inl, cutO_inr, eF_call, eF_lp, Nat.zero_add, Nat.reduceAdd, Bool.cond_false_right, Bool.cond_true_left, Bool.cond_false_left, Bool.cond_true_right, Bool.not_true, Bool.not_false, Bool.not_not, eq_self, decide_true, decide_false, cond_true, cond_false, Int.reduceEq, Int.reduceLT, Int.reduceLE, Int.reduceSub, Int.reduceAdd, Bool.true_and, Bool.and_true, Bool.false_and, Bool.and_false, Bool.or_false, Bool.false_or, Bool.true_or, Bool.or_true, true_and, and_true]
    simp (disch := omega) only [wrap_id, decT, decF, sy_wrap, sy_add, sy_sub, sy_mul, sy_ieq, sy_ilt, sy_ile, sy_seq, sy_beq, sy_bor, sy_bnot, sy_imax, sy_imin, sy_rlen, sy_slen, sy_sapp, sy_inr, sy_nat, sy_cell0, sy_cellS, sy_skip0, sy_inrn, sy_rapp, sy_fits, sy_cutok, sy_cut, sy_scut, sy_sbyte, sy_mkok, sy_mkok0, sy_mkz, sy_rep, sy_head, sy_deq, eqDs_int, eqDs_nil, opI_int, opB_bool, opS_str, opL_sl, opM_own, leaves_val, leaves_own, Option.bind_some, cutO_bool, bif_bool, cutO_inl, cutO_inr, eF_call, eF_lp, Nat.zero_add, Nat.reduceAdd, Bool.cond_false_right, Bool.cond_true_left, Bool.cond_false_left, Bool.cond_true_right, Bool.not_true, Bool.not_false, Bool.not_not, eq_self, decide_true, decide_false, cond_true, cond_false, Int.reduceEq, Int.reduceLT, Int.reduceLE, Int.reduceSub, Int.reduceAdd, Bool.true_and, Bool.and_true, Bool.false_and, Bool.and_false, Bool.or_false, Bool.false_or, Bool.true_or, Bool.or_true, true_and, and_true]
    unfold group
    rw [if_neg (by omega), if_neg (by omega), if_neg (by omega), if_neg (by omega)]
theorem ty_ext {t u : Ty3} : t = u ↔ (t.k = u.k ∧ t.e = u.e ∧ t.l = u.l) := by
  obtain ⟨a, b, c⟩ := t; obtain ⟨d, e, f⟩ := u; simp
theorem c95 (op : Int) (t : Ty3) : cF 95 [.d (.int .i64 op), t.v] = some (tyR (unTy op t)) := by
  unfold Ty3.v tyV
  refine cOf (by kernel_rfl) ?_
  rw [g95_eq]
  simp only [g95, sy_wrap, sy_add, sy_sub, sy_mul, sy_ieq, sy_ilt, sy_ile, sy_seq, sy_beq, sy_bor, sy_bnot, sy_imax, sy_imin, sy_rlen, sy_slen, sy_sapp, sy_inr, sy_nat, sy_cell0, sy_cellS, sy_skip0, sy_inrn, sy_rapp, sy_fits, sy_cutok, sy_cut, sy_scut, sy_sbyte, sy_mkok, sy_mkok0, sy_mkz, sy_rep, sy_head, sy_deq, eqDs_int, eqDs_nil, opI_int, opB_bool, opS_str, opL_sl, opM_own, leaves_val, leaves_own, Option.bind_some, cutO_bool, bif_bool, cutO_inl, cutO_inr, eF_call, eF_lp, Nat.zero_add, Nat.reduceAdd, Bool.cond_false_right, Bool.cond_true_left, Bool.cond_false_left, Bool.cond_true_right, Bool.not_true, Bool.not_false, Bool.not_not, eq_self, decide_true, decide_false, cond_true, cond_false, Int.reduceEq, Int.reduceLT, Int.reduceLE, Int.reduceSub, Int.reduceAdd, Bool.true_and, Bool.and_true, Bool.false_and, Bool.and_false, Bool.or_false, Bool.false_or, Bool.true_or, Bool.or_true, true_and, and_true]
  unfold unTy
  simp only [ty_ext]
  by_cases h1 : op = 1 <;> by_cases h2 : op = 2 <;> by_cases h3 : t.k = 1 <;> by_cases h4 : t.k = 2 <;> by_cases h5 : t.e = 0 <;> by_cases h6 : t.l = 0 <;> simp [h1, h2, h3, h4, h5, h6, tyR] <;> omega
theorem c97 (op : Int) (t u : Ty3) : cF 97 [.d (.int .i64 op), t.v, u.v] = some (tyR (binTy op t u)) := by
  unfold Ty3.v tyV
  refine cOf (by kernel_rfl) ?_
  rw [g97_eq]
  simp only [g97, sy_wrap, sy_add, sy_sub, sy_mul, sy_ieq, sy_ilt, sy_ile, sy_seq, sy_beq, sy_bor, sy_bnot, sy_imax, sy_imin, sy_rlen, sy_slen, sy_sapp, sy_inr, sy_nat, sy_cell0, sy_cellS, sy_skip0, sy_inrn, sy_rapp, sy_fits, sy_cutok, sy_cut, sy_scut, sy_sbyte, sy_mkok, sy_mkok0, sy_mkz, sy_rep, sy_head, sy_deq, eqDs_int, eqDs_nil, opI_int, opB_bool, opS_str, opL_sl, opM_own, leaves_val, leaves_own, Option.bind_some, cutO_bool, bif_bool, cutO_inl, cutO_inr, eF_call, eF_lp, Nat.zero_add, Nat.reduceAdd, Bool.cond_false_right, Bool.cond_true_left, Bool.cond_false_left, Bool.cond_true_right, Bool.not_true, Bool.not_false, Bool.not_not, eq_self, decide_true, decide_false, cond_true, cond_false, Int.reduceEq, Int.reduceLT, Int.reduceLE, Int.reduceSub, Int.reduceAdd, Bool.true_and, Bool.and_true, Bool.false_and, Bool.and_false, Bool.or_false, Bool.false_or, Bool.true_or, Bool.or_true, true_and, and_true, c117]
  unfold binTy
  simp only [ty_ext]
  by_cases g1 : group op = 1
  · by_cases h1 : t.k = 1 <;> by_cases h2 : t.e = 0 <;> by_cases h3 : t.l = 0 <;> by_cases h4 : u.k = 1 <;> by_cases h5 : u.e = 0 <;> by_cases h6 : u.l = 0 <;> simp [g1, h1, h2, h3, h4, h5, h6, tyR]
  by_cases g2 : group op = 2
  · by_cases h1 : t.k = 2 <;> by_cases h2 : t.e = 0 <;> by_cases h3 : t.l = 0 <;> by_cases h4 : u.k = 2 <;> by_cases h5 : u.e = 0 <;> by_cases h6 : u.l = 0 <;> simp [g2, h1, h2, h3, h4, h5, h6, tyR]
  by_cases g3 : group op = 3
  · by_cases h1 : t.k = 1 <;> by_cases h2 : t.e = 0 <;> by_cases h3 : t.l = 0 <;> by_cases h4 : u.k = 1 <;> by_cases h5 : u.e = 0 <;> by_cases h6 : u.l = 0 <;> simp [g3, h1, h2, h3, h4, h5, h6, tyR]
  by_cases g4 : group op = 4
  · by_cases h1 : t.k = u.k <;> by_cases h2 : t.e = u.e <;> by_cases h3 : t.l = u.l <;> by_cases h4 : t.l = 0 <;> first | (exfalso; omega) | (simp only [g4, h1, h2, h3, h4, tyR, and_self, true_and, and_true, false_and, and_false, decide_true, decide_false, cond_true, cond_false, if_true, if_false, Bool.true_and, Bool.and_true, Bool.false_and, Bool.and_false, Bool.not_true, Bool.not_false]; first | done | simp_all)
  · simp [g1, g2, g3, g4, tyR]
/-- A row, and whether it is one. -/
def rowR (o : Option (List Int)) : PRes → Prop := fun p => match o with
  | some r => p = .val [.sl 1 (irows r), .bool true]
  | none => ∃ r : List Int, p = .val [.sl 1 (irows r), .bool false]
theorem cut_cell {row : List Int} (n j : Int) (hn : n ≤ (row.length : Int)) (h0 : 0 ≤ j) (hj : j < n) : sy.cell (sy.row (List.drop ((row.length : Int) - n).toNat (List.take (row.length : Int).toNat (irows row))) j) 0 = some (.int .i64 (row.getD (row.length - n.toNat + j.toNat) 0)) := by
  rw [irows_take, irows_drop, irows_cell h0 (by simp; omega)]
  congr 2
  simp only [Int.toNat_natCast, List.getD_eq_getElem?_getD, List.getElem?_drop, List.take_length]
  congr 2
  omega
theorem c63 (x : Ins) (row : List Int) (hr : ∀ k ∈ row, 1 ≤ k ∧ k ≤ 100) (hl : row.length ≤ 100) (hop : x.op = 4 ∨ x.op = 5) : ∃ p, cF 63 [insV x, .d (.sl 1 (irows row))] = some p ∧ rowR (operS x row) p := by
  unfold insV
  have hk : ∀ i, i < row.length → 1 ≤ row.getD i 0 ∧ row.getD i 0 ≤ 100 := fun i hi => by
    rw [List.getD_eq_getElem?_getD, List.getElem?_eq_getElem hi]; exact hr _ (List.getElem_mem hi)
  rcases hop with h4 | h5
  · by_cases hlen : row.length < 1
    · refine ⟨.val [.sl 1 [], .bool false], ?_, ?_⟩
      · refine cOf (by kernel_rfl) ?_
        rw [g63_eq]
        simp only [g63, sy_wrap, sy_add, sy_sub, sy_mul, sy_ieq, sy_ilt, sy_ile, sy_seq, sy_beq, sy_bor, sy_bnot, sy_imax, sy_imin, sy_rlen, sy_slen, sy_sapp, sy_inr, sy_nat, sy_cell0, sy_cellS, sy_skip0, sy_inrn, sy_rapp, sy_fits, sy_cutok, sy_cut, sy_scut, sy_sbyte, sy_mkok, sy_mkok0, sy_mkz, sy_rep, sy_head, sy_deq, eqDs_int, eqDs_nil, opI_int, opB_bool, opS_str, opL_sl, opM_own, leaves_val, leaves_own, Option.bind_some, cutO_bool, bif_bool, cutO_inl, cutO_inr, eF_call, eF_lp, Nat.zero_add, Nat.reduceAdd, Bool.cond_false_right, Bool.cond_true_left, Bool.cond_false_left, Bool.cond_true_right, Bool.not_true, Bool.not_false, Bool.not_not, eq_self, decide_true, decide_false, cond_true, cond_false, Int.reduceEq, Int.reduceLT, Int.reduceLE, Int.reduceSub, Int.reduceAdd, Bool.true_and, Bool.and_true, Bool.false_and, Bool.and_false, Bool.or_false, Bool.false_or, Bool.true_or, Bool.or_true, true_and, and_true, irows_len, h4]
        simp (disch := omega) only [wrap_id, decT, decF, sy_wrap, sy_add, sy_sub, sy_mul, sy_ieq, sy_ilt, sy_ile, sy_seq, sy_beq, sy_bor, sy_bnot, sy_imax, sy_imin, sy_rlen, sy_slen, sy_sapp, sy_inr, sy_nat, sy_cell0, sy_cellS, sy_skip0, sy_inrn, sy_rapp, sy_fits, sy_cutok, sy_cut, sy_scut, sy_sbyte, sy_mkok, sy_mkok0, sy_mkz, sy_rep, sy_head, sy_deq, eqDs_int, eqDs_nil, opI_int, opB_bool, opS_str, opL_sl, opM_own, leaves_val, leaves_own, Option.bind_some, cutO_bool, bif_bool, cutO_inl, cutO_inr, eF_call, eF_lp, Nat.zero_add, Nat.reduceAdd, Bool.cond_false_right, Bool.cond_true_left, Bool.cond_false_left, Bool.cond_true_right, Bool.not_true, Bool.not_false, Bool.not_not, eq_self, decide_true, decide_false, cond_true, cond_false, Int.reduceEq, Int.reduceLT, Int.reduceLE, Int.reduceSub, Int.reduceAdd, Bool.true_and, Bool.and_true, Bool.false_and, Bool.and_false, Bool.or_false, Bool.false_or, Bool.true_or, Bool.or_true, true_and, and_true]
      · unfold operS rowR; rw [if_pos h4, if_pos hlen]; exact ⟨[], rfl⟩
    · have c0 : _ = some (D.int .i64 (topN row 0)) := cut_cell (row := row) 1 0 (by omega) (by omega) (by omega)
      have k0 := hk (row.length - 1 - 0) (by omega)
      have e96 := c96 (topN row 0) (by unfold topN; omega) (by unfold topN; omega)
      have e95 := c95 x.a (tyOf (topN row 0))
      cases hq : unTy x.a (tyOf (topN row 0)) with
      | none =>
        rw [hq] at e95
        unfold Ty3.v tyV at e95
        refine ⟨.val [.sl 1 [], .bool false], ?_, ?_⟩
        · refine cOf (by kernel_rfl) ?_
          rw [g63_eq]
          simp only [g63, sy_wrap, sy_add, sy_sub, sy_mul, sy_ieq, sy_ilt, sy_ile, sy_seq, sy_beq, sy_bor, sy_bnot, sy_imax, sy_imin, sy_rlen, sy_slen, sy_sapp, sy_inr, sy_nat, sy_cell0, sy_cellS, sy_skip0, sy_inrn, sy_rapp, sy_fits, sy_cutok, sy_cut, sy_scut, sy_sbyte, sy_mkok, sy_mkok0, sy_mkz, sy_rep, sy_head, sy_deq, eqDs_int, eqDs_nil, opI_int, opB_bool, opS_str, opL_sl, opM_own, leaves_val, leaves_own, Option.bind_some, cutO_bool, bif_bool, cutO_inl, cutO_inr, eF_call, eF_lp, Nat.zero_add, Nat.reduceAdd, Bool.cond_false_right, Bool.cond_true_left, Bool.cond_false_left, Bool.cond_true_right, Bool.not_true, Bool.not_false, Bool.not_not, eq_self, decide_true, decide_false, cond_true, cond_false, Int.reduceEq, Int.reduceLT, Int.reduceLE, Int.reduceSub, Int.reduceAdd, Bool.true_and, Bool.and_true, Bool.false_and, Bool.and_false, Bool.or_false, Bool.false_or, Bool.true_or, Bool.or_true, true_and, and_true, irows_len, h4]
          simp (disch := omega) only [wrap_id, decT, decF, sy_wrap, sy_add, sy_sub, sy_mul, sy_ieq, sy_ilt, sy_ile, sy_seq, sy_beq, sy_bor, sy_bnot, sy_imax, sy_imin, sy_rlen, sy_slen, sy_sapp, sy_inr, sy_nat, sy_cell0, sy_cellS, sy_skip0, sy_inrn, sy_rapp, sy_fits, sy_cutok, sy_cut, sy_scut, sy_sbyte, sy_mkok, sy_mkok0, sy_mkz, sy_rep, sy_head, sy_deq, eqDs_int, eqDs_nil, opI_int, opB_bool, opS_str, opL_sl, opM_own, leaves_val, leaves_own, Option.bind_some, cutO_bool, bif_bool, cutO_inl, cutO_inr, eF_call, eF_lp, Nat.zero_add, Nat.reduceAdd, Bool.cond_false_right, Bool.cond_true_left, Bool.cond_false_left, Bool.cond_true_right, Bool.not_true, Bool.not_false, Bool.not_not, eq_self, decide_true, decide_false, cond_true, cond_false, Int.reduceEq, Int.reduceLT, Int.reduceLE, Int.reduceSub, Int.reduceAdd, Bool.true_and, Bool.and_true, Bool.false_and, Bool.and_false, Bool.or_false, Bool.false_or, Bool.true_or, Bool.or_true, true_and, and_true, c0, e96, e95, tyR, List.length_drop, List.length_take, irows_len]
        · unfold operS rowR; rw [if_pos h4, if_neg hlen, hq]; exact ⟨[], rfl⟩
      | some t =>
        rw [hq] at e95
        have hb := unTy_bd hq
        have e98 := c98 t (by rcases hb with rfl | rfl <;> simp) (by rcases hb with rfl | rfl <;> simp) (by rcases hb with rfl | rfl <;> simp) (by rcases hb with rfl | rfl <;> simp)
        unfold Ty3.v tyV at e95 e98
        refine ⟨.val [.sl 1 (irows (dropTop row 1 ++ [kindOf t])), .bool true], ?_, ?_⟩
        · refine cOf (by kernel_rfl) ?_
          rw [g63_eq]
          simp only [g63, sy_wrap, sy_add, sy_sub, sy_mul, sy_ieq, sy_ilt, sy_ile, sy_seq, sy_beq, sy_bor, sy_bnot, sy_imax, sy_imin, sy_rlen, sy_slen, sy_sapp, sy_inr, sy_nat, sy_cell0, sy_cellS, sy_skip0, sy_inrn, sy_rapp, sy_fits, sy_cutok, sy_cut, sy_scut, sy_sbyte, sy_mkok, sy_mkok0, sy_mkz, sy_rep, sy_head, sy_deq, eqDs_int, eqDs_nil, opI_int, opB_bool, opS_str, opL_sl, opM_own, leaves_val, leaves_own, Option.bind_some, cutO_bool, bif_bool, cutO_inl, cutO_inr, eF_call, eF_lp, Nat.zero_add, Nat.reduceAdd, Bool.cond_false_right, Bool.cond_true_left, Bool.cond_false_left, Bool.cond_true_right, Bool.not_true, Bool.not_false, Bool.not_not, eq_self, decide_true, decide_false, cond_true, cond_false, Int.reduceEq, Int.reduceLT, Int.reduceLE, Int.reduceSub, Int.reduceAdd, Bool.true_and, Bool.and_true, Bool.false_and, Bool.and_false, Bool.or_false, Bool.false_or, Bool.true_or, Bool.or_true, true_and, and_true, irows_len, h4]
          simp (disch := omega) only [wrap_id, decT, decF, sy_wrap, sy_add, sy_sub, sy_mul, sy_ieq, sy_ilt, sy_ile, sy_seq, sy_beq, sy_bor, sy_bnot, sy_imax, sy_imin, sy_rlen, sy_slen, sy_sapp, sy_inr, sy_nat, sy_cell0, sy_cellS, sy_skip0, sy_inrn, sy_rapp, sy_fits, sy_cutok, sy_cut, sy_scut, sy_sbyte, sy_mkok, sy_mkok0, sy_mkz, sy_rep, sy_head, sy_deq, eqDs_int, eqDs_nil, opI_int, opB_bool, opS_str, opL_sl, opM_own, leaves_val, leaves_own, Option.bind_some, cutO_bool, bif_bool, cutO_inl, cutO_inr, eF_call, eF_lp, Nat.zero_add, Nat.reduceAdd, Bool.cond_false_right, Bool.cond_true_left, Bool.cond_false_left, Bool.cond_true_right, Bool.not_true, Bool.not_false, Bool.not_not, eq_self, decide_true, decide_false, cond_true, cond_false, Int.reduceEq, Int.reduceLT, Int.reduceLE, Int.reduceSub, Int.reduceAdd, Bool.true_and, Bool.and_true, Bool.false_and, Bool.and_false, Bool.or_false, Bool.false_or, Bool.true_or, Bool.or_true, true_and, and_true, c0, e96, e95, tyR, List.length_drop, List.length_take, irows_len, e98, c61_1 row (kindOf t) 1 (by omega) (by omega) (by omega)]
          rfl
        · unfold operS rowR; rw [if_pos h4, if_neg hlen, hq]; rfl
  · have h4 : ¬ x.op = 4 := by omega
    by_cases hlen : row.length < 2
    · refine ⟨.val [.sl 1 [], .bool false], ?_, ?_⟩
      · refine cOf (by kernel_rfl) ?_
        rw [g63_eq]
        simp only [g63, sy_wrap, sy_add, sy_sub, sy_mul, sy_ieq, sy_ilt, sy_ile, sy_seq, sy_beq, sy_bor, sy_bnot, sy_imax, sy_imin, sy_rlen, sy_slen, sy_sapp, sy_inr, sy_nat, sy_cell0, sy_cellS, sy_skip0, sy_inrn, sy_rapp, sy_fits, sy_cutok, sy_cut, sy_scut, sy_sbyte, sy_mkok, sy_mkok0, sy_mkz, sy_rep, sy_head, sy_deq, eqDs_int, eqDs_nil, opI_int, opB_bool, opS_str, opL_sl, opM_own, leaves_val, leaves_own, Option.bind_some, cutO_bool, bif_bool, cutO_inl, cutO_inr, eF_call, eF_lp, Nat.zero_add, Nat.reduceAdd, Bool.cond_false_right, Bool.cond_true_left, Bool.cond_false_left, Bool.cond_true_right, Bool.not_true, Bool.not_false, Bool.not_not, eq_self, decide_true, decide_false, cond_true, cond_false, Int.reduceEq, Int.reduceLT, Int.reduceLE, Int.reduceSub, Int.reduceAdd, Bool.true_and, Bool.and_true, Bool.false_and, Bool.and_false, Bool.or_false, Bool.false_or, Bool.true_or, Bool.or_true, true_and, and_true, irows_len, h4]
        simp (disch := omega) only [wrap_id, decT, decF, sy_wrap, sy_add, sy_sub, sy_mul, sy_ieq, sy_ilt, sy_ile, sy_seq, sy_beq, sy_bor, sy_bnot, sy_imax, sy_imin, sy_rlen, sy_slen, sy_sapp, sy_inr, sy_nat, sy_cell0, sy_cellS, sy_skip0, sy_inrn, sy_rapp, sy_fits, sy_cutok, sy_cut, sy_scut, sy_sbyte, sy_mkok, sy_mkok0, sy_mkz, sy_rep, sy_head, sy_deq, eqDs_int, eqDs_nil, opI_int, opB_bool, opS_str, opL_sl, opM_own, leaves_val, leaves_own, Option.bind_some, cutO_bool, bif_bool, cutO_inl, cutO_inr, eF_call, eF_lp, Nat.zero_add, Nat.reduceAdd, Bool.cond_false_right, Bool.cond_true_left, Bool.cond_false_left, Bool.cond_true_right, Bool.not_true, Bool.not_false, Bool.not_not, eq_self, decide_true, decide_false, cond_true, cond_false, Int.reduceEq, Int.reduceLT, Int.reduceLE, Int.reduceSub, Int.reduceAdd, Bool.true_and, Bool.and_true, Bool.false_and, Bool.and_false, Bool.or_false, Bool.false_or, Bool.true_or, Bool.or_true, true_and, and_true]
      · unfold operS rowR; rw [if_neg h4, if_pos hlen]; exact ⟨[], rfl⟩
    · have c0 := cut_cell (row := row) 2 0 (by omega) (by omega) (by omega)
      have c1 := cut_cell (row := row) 2 1 (by omega) (by omega) (by omega)
      have et1 : row.getD (row.length - Int.toNat 2 + Int.toNat 0) 0 = topN row 1 := rfl
      have et0 : row.getD (row.length - Int.toNat 2 + Int.toNat 1) 0 = topN row 0 := by unfold topN; congr 1; show row.length - 2 + 1 = _; omega
      rw [et1] at c0
      rw [et0] at c1
      have k0 := hk (row.length - 1 - 0) (by omega)
      have k1 := hk (row.length - 1 - 1) (by omega)
      have e96 := c96 (topN row 0) (by unfold topN; omega) (by unfold topN; omega)
      have e96' := c96 (topN row 1) (by unfold topN; omega) (by unfold topN; omega)
      have e97 := c97 x.a (tyOf (topN row 1)) (tyOf (topN row 0))
      cases hq : binTy x.a (tyOf (topN row 1)) (tyOf (topN row 0)) with
      | none =>
        rw [hq] at e97
        unfold Ty3.v tyV at e97
        refine ⟨.val [.sl 1 [], .bool false], ?_, ?_⟩
        · refine cOf (by kernel_rfl) ?_
          rw [g63_eq]
          simp only [g63, sy_wrap, sy_add, sy_sub, sy_mul, sy_ieq, sy_ilt, sy_ile, sy_seq, sy_beq, sy_bor, sy_bnot, sy_imax, sy_imin, sy_rlen, sy_slen, sy_sapp, sy_inr, sy_nat, sy_cell0, sy_cellS, sy_skip0, sy_inrn, sy_rapp, sy_fits, sy_cutok, sy_cut, sy_scut, sy_sbyte, sy_mkok, sy_mkok0, sy_mkz, sy_rep, sy_head, sy_deq, eqDs_int, eqDs_nil, opI_int, opB_bool, opS_str, opL_sl, opM_own, leaves_val, leaves_own, Option.bind_some, cutO_bool, bif_bool, cutO_inl, cutO_inr, eF_call, eF_lp, Nat.zero_add, Nat.reduceAdd, Bool.cond_false_right, Bool.cond_true_left, Bool.cond_false_left, Bool.cond_true_right, Bool.not_true, Bool.not_false, Bool.not_not, eq_self, decide_true, decide_false, cond_true, cond_false, Int.reduceEq, Int.reduceLT, Int.reduceLE, Int.reduceSub, Int.reduceAdd, Bool.true_and, Bool.and_true, Bool.false_and, Bool.and_false, Bool.or_false, Bool.false_or, Bool.true_or, Bool.or_true, true_and, and_true, irows_len, h4]
          simp (disch := omega) only [wrap_id, decT, decF, sy_wrap, sy_add, sy_sub, sy_mul, sy_ieq, sy_ilt, sy_ile, sy_seq, sy_beq, sy_bor, sy_bnot, sy_imax, sy_imin, sy_rlen, sy_slen, sy_sapp, sy_inr, sy_nat, sy_cell0, sy_cellS, sy_skip0, sy_inrn, sy_rapp, sy_fits, sy_cutok, sy_cut, sy_scut, sy_sbyte, sy_mkok, sy_mkok0, sy_mkz, sy_rep, sy_head, sy_deq, eqDs_int, eqDs_nil, opI_int, opB_bool, opS_str, opL_sl, opM_own, leaves_val, leaves_own, Option.bind_some, cutO_bool, bif_bool, cutO_inl, cutO_inr, eF_call, eF_lp, Nat.zero_add, Nat.reduceAdd, Bool.cond_false_right, Bool.cond_true_left, Bool.cond_false_left, Bool.cond_true_right, Bool.not_true, Bool.not_false, Bool.not_not, eq_self, decide_true, decide_false, cond_true, cond_false, Int.reduceEq, Int.reduceLT, Int.reduceLE, Int.reduceSub, Int.reduceAdd, Bool.true_and, Bool.and_true, Bool.false_and, Bool.and_false, Bool.or_false, Bool.false_or, Bool.true_or, Bool.or_true, true_and, and_true, c0, c1, e96, e96', e97, tyR, List.length_drop, List.length_take, irows_len]
        · unfold operS rowR; rw [if_neg h4, if_neg hlen, hq]; exact ⟨[], rfl⟩
      | some t =>
        rw [hq] at e97
        have hb := binTy_bd hq
        have e98 := c98 t (by rcases hb with rfl | rfl <;> simp) (by rcases hb with rfl | rfl <;> simp) (by rcases hb with rfl | rfl <;> simp) (by rcases hb with rfl | rfl <;> simp)
        unfold Ty3.v tyV at e97 e98
        refine ⟨.val [.sl 1 (irows (dropTop row 2 ++ [kindOf t])), .bool true], ?_, ?_⟩
        · refine cOf (by kernel_rfl) ?_
          rw [g63_eq]
          simp only [g63, sy_wrap, sy_add, sy_sub, sy_mul, sy_ieq, sy_ilt, sy_ile, sy_seq, sy_beq, sy_bor, sy_bnot, sy_imax, sy_imin, sy_rlen, sy_slen, sy_sapp, sy_inr, sy_nat, sy_cell0, sy_cellS, sy_skip0, sy_inrn, sy_rapp, sy_fits, sy_cutok, sy_cut, sy_scut, sy_sbyte, sy_mkok, sy_mkok0, sy_mkz, sy_rep, sy_head, sy_deq, eqDs_int, eqDs_nil, opI_int, opB_bool, opS_str, opL_sl, opM_own, leaves_val, leaves_own, Option.bind_some, cutO_bool, bif_bool, cutO_inl, cutO_inr, eF_call, eF_lp, Nat.zero_add, Nat.reduceAdd, Bool.cond_false_right, Bool.cond_true_left, Bool.cond_false_left, Bool.cond_true_right, Bool.not_true, Bool.not_false, Bool.not_not, eq_self, decide_true, decide_false, cond_true, cond_false, Int.reduceEq, Int.reduceLT, Int.reduceLE, Int.reduceSub, Int.reduceAdd, Bool.true_and, Bool.and_true, Bool.false_and, Bool.and_false, Bool.or_false, Bool.false_or, Bool.true_or, Bool.or_true, true_and, and_true, irows_len, h4]
          simp (disch := omega) only [wrap_id, decT, decF, sy_wrap, sy_add, sy_sub, sy_mul, sy_ieq, sy_ilt, sy_ile, sy_seq, sy_beq, sy_bor, sy_bnot, sy_imax, sy_imin, sy_rlen, sy_slen, sy_sapp, sy_inr, sy_nat, sy_cell0, sy_cellS, sy_skip0, sy_inrn, sy_rapp, sy_fits, sy_cutok, sy_cut, sy_scut, sy_sbyte, sy_mkok, sy_mkok0, sy_mkz, sy_rep, sy_head, sy_deq, eqDs_int, eqDs_nil, opI_int, opB_bool, opS_str, opL_sl, opM_own, leaves_val, leaves_own, Option.bind_some, cutO_bool, bif_bool, cutO_inl, cutO_inr, eF_call, eF_lp, Nat.zero_add, Nat.reduceAdd, Bool.cond_false_right, Bool.cond_true_left, Bool.cond_false_left, Bool.cond_true_right, Bool.not_true, Bool.not_false, Bool.not_not, eq_self, decide_true, decide_false, cond_true, cond_false, Int.reduceEq, Int.reduceLT, Int.reduceLE, Int.reduceSub, Int.reduceAdd, Bool.true_and, Bool.and_true, Bool.false_and, Bool.and_false, Bool.or_false, Bool.false_or, Bool.true_or, Bool.or_true, true_and, and_true, c0, c1, e96, e96', e97, tyR, List.length_drop, List.length_take, irows_len, e98, c61_1 row (kindOf t) 2 (by omega) (by omega) (by omega)]
          rfl
        · unfold operS rowR; rw [if_neg h4, if_neg hlen, hq]; rfl
theorem c100 (a b : List (List D)) (lo hi at_ n : Int) (h0 : 0 ≤ at_) (h1 : at_ ≤ 100000) (h2 : 0 ≤ n) (h3 : n ≤ 1000) : cF 100 [shV a b lo hi, .d (.int .i64 at_), .d (.int .i64 n)] = some (.val [.bool (fixedB lo hi at_ n)]) := by
  unfold shV
  refine cOf (by kernel_rfl) ?_
  rw [g100_eq]
  simp only [g100, sy_wrap, sy_add, sy_sub, sy_mul, sy_ieq, sy_ilt, sy_ile, sy_seq, sy_beq, sy_bor, sy_bnot, sy_imax, sy_imin, sy_rlen, sy_slen, sy_sapp, sy_inr, sy_nat, sy_cell0, sy_cellS, sy_skip0, sy_inrn, sy_rapp, sy_fits, sy_cutok, sy_cut, sy_scut, sy_sbyte, sy_mkok, sy_mkok0, sy_mkz, sy_rep, sy_head, sy_deq, eqDs_int, eqDs_nil, opI_int, opB_bool, opS_str, opL_sl, opM_own, leaves_val, leaves_own, Option.bind_some, cutO_bool, bif_bool, cutO_inl, cutO_inr, eF_call, eF_lp, Nat.zero_add, Nat.reduceAdd, Bool.cond_false_right, Bool.cond_true_left, Bool.cond_false_left, Bool.cond_true_right, Bool.not_true, Bool.not_false, Bool.not_not, eq_self, decide_true, decide_false, cond_true, cond_false, Int.reduceEq, Int.reduceLT, Int.reduceLE, Int.reduceSub, Int.reduceAdd, Bool.true_and, Bool.and_true, Bool.false_and, Bool.and_false, Bool.or_false, Bool.false_or, Bool.true_or, Bool.or_true, true_and, and_true]
  simp (disch := omega) only [wrap_id, decT, decF, sy_wrap, sy_add, sy_sub, sy_mul, sy_ieq, sy_ilt, sy_ile, sy_seq, sy_beq, sy_bor, sy_bnot, sy_imax, sy_imin, sy_rlen, sy_slen, sy_sapp, sy_inr, sy_nat, sy_cell0, sy_cellS, sy_skip0, sy_inrn, sy_rapp, sy_fits, sy_cutok, sy_cut, sy_scut, sy_sbyte, sy_mkok, sy_mkok0, sy_mkz, sy_rep, sy_head, sy_deq, eqDs_int, eqDs_nil, opI_int, opB_bool, opS_str, opL_sl, opM_own, leaves_val, leaves_own, Option.bind_some, cutO_bool, bif_bool, cutO_inl, cutO_inr, eF_call, eF_lp, Nat.zero_add, Nat.reduceAdd, Bool.cond_false_right, Bool.cond_true_left, Bool.cond_false_left, Bool.cond_true_right, Bool.not_true, Bool.not_false, Bool.not_not, eq_self, decide_true, decide_false, cond_true, cond_false, Int.reduceEq, Int.reduceLT, Int.reduceLE, Int.reduceSub, Int.reduceAdd, Bool.true_and, Bool.and_true, Bool.false_and, Bool.and_false, Bool.or_false, Bool.false_or, Bool.true_or, Bool.or_true, true_and, and_true]
  rfl
/-- The kind of some cells, as it is told. -/
def cellR (o : Option Int) : PRes → Prop := fun p => match o with
  | some k => p = .val [.int .i64 k, .bool true]
  | none => ∃ k : Int, p = .val [.int .i64 k, .bool false]
theorem c99 (a : List (List D)) (lb : List Int) (lo hi at_ n : Int) (h0 : 0 ≤ at_) (h1 : at_ ≤ 100000) (h2 : 1 ≤ n) (h3 : n ≤ 8) (hlb : lb.length ≤ 10000) : ∃ p, cF 99 [shV a (irows lb) lo hi, .d (.int .i64 at_), .d (.int .i64 n)] = some p ∧ cellR (cellsK lb at_ n) p := by
  unfold shV
  by_cases hle : (lb.length : Int) - n < at_
  · refine ⟨.val [.int .i64 0, .bool false], ?_, ?_⟩
    · refine cOf (by kernel_rfl) ?_
      rw [g99_eq]
      simp only [g99, sy_wrap, sy_add, sy_sub, sy_mul, sy_ieq, sy_ilt, sy_ile, sy_seq, sy_beq, sy_bor, sy_bnot, sy_imax, sy_imin, sy_rlen, sy_slen, sy_sapp, sy_inr, sy_nat, sy_cell0, sy_cellS, sy_skip0, sy_inrn, sy_rapp, sy_fits, sy_cutok, sy_cut, sy_scut, sy_sbyte, sy_mkok, sy_mkok0, sy_mkz, sy_rep, sy_head, sy_deq, eqDs_int, eqDs_nil, opI_int, opB_bool, opS_str, opL_sl, opM_own, leaves_val, leaves_own, Option.bind_some, cutO_bool, bif_bool, cutO_inl, cutO_inr, eF_call, eF_lp, Nat.zero_add, Nat.reduceAdd, Bool.cond_false_right, Bool.cond_true_left, Bool.cond_false_left, Bool.cond_true_right, Bool.not_true, Bool.not_false, Bool.not_not, eq_self, decide_true, decide_false, cond_true, cond_false, Int.reduceEq, Int.reduceLT, Int.reduceLE, Int.reduceSub, Int.reduceAdd, Bool.true_and, Bool.and_true, Bool.false_and, Bool.and_false, Bool.or_false, Bool.false_or, Bool.true_or, Bool.or_true, true_and, and_true, irows_len]
      simp (disch := omega) only [wrap_id, decT, decF, sy_wrap, sy_add, sy_sub, sy_mul, sy_ieq, sy_ilt, sy_ile, sy_seq, sy_beq, sy_bor, sy_bnot, sy_imax, sy_imin, sy_rlen, sy_slen, sy_sapp, sy_inr, sy_nat, sy_cell0, sy_cellS, sy_skip0, sy_inrn, sy_rapp, sy_fits, sy_cutok, sy_cut, sy_scut, sy_sbyte, sy_mkok, sy_mkok0, sy_mkz, sy_rep, sy_head, sy_deq, eqDs_int, eqDs_nil, opI_int, opB_bool, opS_str, opL_sl, opM_own, leaves_val, leaves_own, Option.bind_some, cutO_bool, bif_bool, cutO_inl, cutO_inr, eF_call, eF_lp, Nat.zero_add, Nat.reduceAdd, Bool.cond_false_right, Bool.cond_true_left, Bool.cond_false_left, Bool.cond_true_right, Bool.not_true, Bool.not_false, Bool.not_not, eq_self, decide_true, decide_false, cond_true, cond_false, Int.reduceEq, Int.reduceLT, Int.reduceLE, Int.reduceSub, Int.reduceAdd, Bool.true_and, Bool.and_true, Bool.false_and, Bool.and_false, Bool.or_false, Bool.false_or, Bool.true_or, Bool.or_true, true_and, and_true]
    · unfold cellsK cellR il
      rw [if_neg (by omega)]; exact ⟨0, rfl⟩
  · have hcut : List.drop at_.toNat (List.take (at_ + n).toNat (irows lb)) = irows ((lb.drop at_.toNat).take n.toNat) := by
      rw [irows_take, irows_drop]
      congr 1
      rw [List.drop_take]
      congr 1
      omega
    have hlen : ((lb.drop at_.toNat).take n.toNat).length = n.toNat := by simp; omega
    have h118 := c118 ((lb.drop at_.toNat).take n.toNat) (by rw [hlen]; omega) (by rw [hlen]; omega)
    have hcell : sy.cell (sy.row (irows ((lb.drop at_.toNat).take n.toNat)) 0) 0 = some (.int .i64 (lb.getD at_.toNat 0)) := by
      rw [irows_cell (by omega) (by rw [hlen]; omega)]
      congr 2
      simp only [List.getD_eq_getElem?_getD, List.getElem?_take, List.getElem?_drop, Int.toNat_zero, Nat.add_zero]
      rw [if_pos (by omega)]
    have hget : ((lb.drop at_.toNat).take n.toNat).getD 0 0 = lb.getD at_.toNat 0 := by
      simp only [List.getD_eq_getElem?_getD, List.getElem?_take, List.getElem?_drop, Nat.add_zero]
      rw [if_pos (by omega)]
    rw [hget] at h118
    refine ⟨.val [.int .i64 (lb.getD at_.toNat 0), .bool (((lb.drop at_.toNat).take n.toNat).all fun k => k == lb.getD at_.toNat 0)], ?_, ?_⟩
    · refine cOf (by kernel_rfl) ?_
      rw [g99_eq]
      simp only [g99, sy_wrap, sy_add, sy_sub, sy_mul, sy_ieq, sy_ilt, sy_ile, sy_seq, sy_beq, sy_bor, sy_bnot, sy_imax, sy_imin, sy_rlen, sy_slen, sy_sapp, sy_inr, sy_nat, sy_cell0, sy_cellS, sy_skip0, sy_inrn, sy_rapp, sy_fits, sy_cutok, sy_cut, sy_scut, sy_sbyte, sy_mkok, sy_mkok0, sy_mkz, sy_rep, sy_head, sy_deq, eqDs_int, eqDs_nil, opI_int, opB_bool, opS_str, opL_sl, opM_own, leaves_val, leaves_own, Option.bind_some, cutO_bool, bif_bool, cutO_inl, cutO_inr, eF_call, eF_lp, Nat.zero_add, Nat.reduceAdd, Bool.cond_false_right, Bool.cond_true_left, Bool.cond_false_left, Bool.cond_true_right, Bool.not_true, Bool.not_false, Bool.not_not, eq_self, decide_true, decide_false, cond_true, cond_false, Int.reduceEq, Int.reduceLT, Int.reduceLE, Int.reduceSub, Int.reduceAdd, Bool.true_and, Bool.and_true, Bool.false_and, Bool.and_false, Bool.or_false, Bool.false_or, Bool.true_or, Bool.or_true, true_and, and_true, irows_len]
      simp (disch := omega) only [wrap_id, decT, decF, sy_wrap, sy_add, sy_sub, sy_mul, sy_ieq, sy_ilt, sy_ile, sy_seq, sy_beq, sy_bor, sy_bnot, sy_imax, sy_imin, sy_rlen, sy_slen, sy_sapp, sy_inr, sy_nat, sy_cell0, sy_cellS, sy_skip0, sy_inrn, sy_rapp, sy_fits, sy_cutok, sy_cut, sy_scut, sy_sbyte, sy_mkok, sy_mkok0, sy_mkz, sy_rep, sy_head, sy_deq, eqDs_int, eqDs_nil, opI_int, opB_bool, opS_str, opL_sl, opM_own, leaves_val, leaves_own, Option.bind_some, cutO_bool, bif_bool, cutO_inl, cutO_inr, eF_call, eF_lp, Nat.zero_add, Nat.reduceAdd, Bool.cond_false_right, Bool.cond_true_left, Bool.cond_false_left, Bool.cond_true_right, Bool.not_true, Bool.not_false, Bool.not_not, eq_self, decide_true, decide_false, cond_true, cond_false, Int.reduceEq, Int.reduceLT, Int.reduceLE, Int.reduceSub, Int.reduceAdd, Bool.true_and, Bool.and_true, Bool.false_and, Bool.and_false, Bool.or_false, Bool.false_or, Bool.true_or, Bool.or_true, true_and, and_true, hcut, h118, hcell, irows_len, hlen]
    · unfold cellsK cellR il
      rw [if_pos (by omega)]
      cases hq : ((lb.drop at_.toNat).take n.toNat).all fun k => k == lb.getD at_.toNat 0 with
      | true => rfl
      | false => exact ⟨_, rfl⟩
end Go.Vm
end

section
set_option maxRecDepth 100000
set_option maxHeartbeats 1000000
namespace Go.Vm
open Go.Proofs
theorem imax_one (b : Int) : max 1 b = max 1 b := rfl
theorem c65 (la lb : List Int) (lo hi : Int) (x : Ins) (row : List Int) (hlb : lb.length ≤ 10000) (hr : row.length ≤ 1000) (ha : 0 ≤ x.a) (ha2 : x.a ≤ 65535) (hb0 : 0 ≤ x.b) (hb : x.b ≤ 8) (hop : x.op = 2 ∨ x.op = 3 ∨ x.op = 8 ∨ x.op = 9) :
    ∃ p, cF 65 [shV (irows la) (irows lb) lo hi, insV x, .d (.sl 1 (irows row))] = some p ∧ rowR (memS ⟨la, lb, lo, hi⟩ x row) p := by
  obtain ⟨q, h99, hq⟩ := c99 (irows la) lb lo hi x.a (max 1 x.b) ha (by omega) (by omega) (by omega) hlb
  have h100 := c100 (irows la) (irows lb) lo hi x.a (max 1 x.b) ha (by omega) (by omega) (by omega)
  unfold shV at h99 h100 ⊢
  unfold insV memS
  simp only
  cases hk : cellsK lb x.a (max 1 x.b) with
  | none =>
    rw [hk] at hq
    obtain ⟨k, rfl⟩ := hq
    refine cOfP (by kernel_rfl) ?_
    simp only [g65_eq, g65, some_and, sy_wrap, sy_add, sy_sub, sy_mul, sy_ieq, sy_ilt, sy_ile, sy_seq, sy_beq, sy_bor, sy_bnot, sy_imax, sy_imin, sy_rlen, sy_slen, sy_sapp, sy_inr, sy_nat, sy_cell0, sy_cellS, sy_skip0, sy_inrn, sy_rapp, sy_fits, sy_cutok, sy_cut, sy_scut, sy_sbyte, sy_mkok, sy_mkok0, sy_mkz, sy_rep, sy_head, sy_deq, eqDs_int, eqDs_nil, opI_int, opB_bool, opS_str, opL_sl, opM_own, leaves_val, leaves_own, Option.bind_some, cutO_bool, bif_bool, cutO_inl, cutO_inr, eF_call, eF_lp, Nat.zero_add, Nat.reduceAdd, Bool.cond_false_right, Bool.cond_true_left, Bool.cond_false_left, Bool.cond_true_right, Bool.not_true, Bool.not_false, Bool.not_not, eq_self, decide_true, decide_false, cond_true, cond_false, Int.reduceEq, Int.reduceLT, Int.reduceLE, Int.reduceSub, Int.reduceAdd, Bool.true_and, Bool.and_true, Bool.false_and, Bool.and_false, Bool.or_false, Bool.false_or, Bool.true_or, Bool.or_true, true_and, and_true, h99]
    exact ⟨[], rfl⟩
  | some k =>
    rw [hk] at hq
    have hq : q = .val [.int .i64 k, .bool true] := hq
    subst hq
    simp only
    rcases hop with h | h | h | h
    · rw [if_pos h]
      refine cOfP (by kernel_rfl) ?_
      simp only [g65_eq, g65, some_and, sy_wrap, sy_add, sy_sub, sy_mul, sy_ieq, sy_ilt, sy_ile, sy_seq, sy_beq, sy_bor, sy_bnot, sy_imax, sy_imin, sy_rlen, sy_slen, sy_sapp, sy_inr, sy_nat, sy_cell0, sy_cellS, sy_skip0, sy_inrn, sy_rapp, sy_fits, sy_cutok, sy_cut, sy_scut, sy_sbyte, sy_mkok, sy_mkok0, sy_mkz, sy_rep, sy_head, sy_deq, eqDs_int, eqDs_nil, opI_int, opB_bool, opS_str, opL_sl, opM_own, leaves_val, leaves_own, Option.bind_some, cutO_bool, bif_bool, cutO_inl, cutO_inr, eF_call, eF_lp, Nat.zero_add, Nat.reduceAdd, Bool.cond_false_right, Bool.cond_true_left, Bool.cond_false_left, Bool.cond_true_right, Bool.not_true, Bool.not_false, Bool.not_not, eq_self, decide_true, decide_false, cond_true, cond_false, Int.reduceEq, Int.reduceLT, Int.reduceLE, Int.reduceSub, Int.reduceAdd, Bool.true_and, Bool.and_true, Bool.false_and, Bool.and_false, Bool.or_false, Bool.false_or, Bool.true_or, Bool.or_true, true_and, and_true, h99, h, c61_1 row k 0 hr (Int.le_refl 0) (by omega), irows_len]
      by_cases hl : row.length < 16
      · rw [if_pos hl, decT (by omega)]; show _ = _; simp [dropTop]
      · rw [if_neg hl, decF (by omega)]; exact ⟨_, rfl⟩
    · rw [if_neg (by omega), if_neg (by omega), if_pos h]
      cases he : endsB row [k] with
      | false =>
        refine cOfP (by kernel_rfl) ?_
        simp only [g65_eq, g65, some_and, sy_wrap, sy_add, sy_sub, sy_mul, sy_ieq, sy_ilt, sy_ile, sy_seq, sy_beq, sy_bor, sy_bnot, sy_imax, sy_imin, sy_rlen, sy_slen, sy_sapp, sy_inr, sy_nat, sy_cell0, sy_cellS, sy_skip0, sy_inrn, sy_rapp, sy_fits, sy_cutok, sy_cut, sy_scut, sy_sbyte, sy_mkok, sy_mkok0, sy_mkz, sy_rep, sy_head, sy_deq, eqDs_int, eqDs_nil, opI_int, opB_bool, opS_str, opL_sl, opM_own, leaves_val, leaves_own, Option.bind_some, cutO_bool, bif_bool, cutO_inl, cutO_inr, eF_call, eF_lp, Nat.zero_add, Nat.reduceAdd, Bool.cond_false_right, Bool.cond_true_left, Bool.cond_false_left, Bool.cond_true_right, Bool.not_true, Bool.not_false, Bool.not_not, eq_self, decide_true, decide_false, cond_true, cond_false, Int.reduceEq, Int.reduceLT, Int.reduceLE, Int.reduceSub, Int.reduceAdd, Bool.true_and, Bool.and_true, Bool.false_and, Bool.and_false, Bool.or_false, Bool.false_or, Bool.true_or, Bool.or_true, true_and, and_true, h99, h, c64_1 row k hr, h100, he]
        exact ⟨[], rfl⟩
      | true =>
        have hlen := ends_len he
        cases hf : fixedB lo hi x.a (max 1 x.b) with
        | true =>
          refine cOfP (by kernel_rfl) ?_
          simp only [g65_eq, g65, some_and, sy_wrap, sy_add, sy_sub, sy_mul, sy_ieq, sy_ilt, sy_ile, sy_seq, sy_beq, sy_bor, sy_bnot, sy_imax, sy_imin, sy_rlen, sy_slen, sy_sapp, sy_inr, sy_nat, sy_cell0, sy_cellS, sy_skip0, sy_inrn, sy_rapp, sy_fits, sy_cutok, sy_cut, sy_scut, sy_sbyte, sy_mkok, sy_mkok0, sy_mkz, sy_rep, sy_head, sy_deq, eqDs_int, eqDs_nil, opI_int, opB_bool, opS_str, opL_sl, opM_own, leaves_val, leaves_own, Option.bind_some, cutO_bool, bif_bool, cutO_inl, cutO_inr, eF_call, eF_lp, Nat.zero_add, Nat.reduceAdd, Bool.cond_false_right, Bool.cond_true_left, Bool.cond_false_left, Bool.cond_true_right, Bool.not_true, Bool.not_false, Bool.not_not, eq_self, decide_true, decide_false, cond_true, cond_false, Int.reduceEq, Int.reduceLT, Int.reduceLE, Int.reduceSub, Int.reduceAdd, Bool.true_and, Bool.and_true, Bool.false_and, Bool.and_false, Bool.or_false, Bool.false_or, Bool.true_or, Bool.or_true, true_and, and_true, h99, h, c64_1 row k hr, h100, he, hf]
          exact ⟨[], rfl⟩
        | false =>
          refine cOfP (by kernel_rfl) ?_
          simp only [g65_eq, g65, some_and, sy_wrap, sy_add, sy_sub, sy_mul, sy_ieq, sy_ilt, sy_ile, sy_seq, sy_beq, sy_bor, sy_bnot, sy_imax, sy_imin, sy_rlen, sy_slen, sy_sapp, sy_inr, sy_nat, sy_cell0, sy_cellS, sy_skip0, sy_inrn, sy_rapp, sy_fits, sy_cutok, sy_cut, sy_scut, sy_sbyte, sy_mkok, sy_mkok0, sy_mkz, sy_rep, sy_head, sy_deq, eqDs_int, eqDs_nil, opI_int, opB_bool, opS_str, opL_sl, opM_own, leaves_val, leaves_own, Option.bind_some, cutO_bool, bif_bool, cutO_inl, cutO_inr, eF_call, eF_lp, Nat.zero_add, Nat.reduceAdd, Bool.cond_false_right, Bool.cond_true_left, Bool.cond_false_left, Bool.cond_true_right, Bool.not_true, Bool.not_false, Bool.not_not, eq_self, decide_true, decide_false, cond_true, cond_false, Int.reduceEq, Int.reduceLT, Int.reduceLE, Int.reduceSub, Int.reduceAdd, Bool.true_and, Bool.and_true, Bool.false_and, Bool.and_false, Bool.or_false, Bool.false_or, Bool.true_or, Bool.or_true, true_and, and_true, h99, h, c64_1 row k hr, h100, he, hf, c61_0 row 1 hr (by omega) (by simpa [il] using hlen)]
          rfl
    · rw [if_neg (by omega), if_pos h]
      cases he : endsB row [1] with
      | false =>
        refine cOfP (by kernel_rfl) ?_
        simp only [g65_eq, g65, some_and, sy_wrap, sy_add, sy_sub, sy_mul, sy_ieq, sy_ilt, sy_ile, sy_seq, sy_beq, sy_bor, sy_bnot, sy_imax, sy_imin, sy_rlen, sy_slen, sy_sapp, sy_inr, sy_nat, sy_cell0, sy_cellS, sy_skip0, sy_inrn, sy_rapp, sy_fits, sy_cutok, sy_cut, sy_scut, sy_sbyte, sy_mkok, sy_mkok0, sy_mkz, sy_rep, sy_head, sy_deq, eqDs_int, eqDs_nil, opI_int, opB_bool, opS_str, opL_sl, opM_own, leaves_val, leaves_own, Option.bind_some, cutO_bool, bif_bool, cutO_inl, cutO_inr, eF_call, eF_lp, Nat.zero_add, Nat.reduceAdd, Bool.cond_false_right, Bool.cond_true_left, Bool.cond_false_left, Bool.cond_true_right, Bool.not_true, Bool.not_false, Bool.not_not, eq_self, decide_true, decide_false, cond_true, cond_false, Int.reduceEq, Int.reduceLT, Int.reduceLE, Int.reduceSub, Int.reduceAdd, Bool.true_and, Bool.and_true, Bool.false_and, Bool.and_false, Bool.or_false, Bool.false_or, Bool.true_or, Bool.or_true, true_and, and_true, h99, h, c64_1 row 1 hr, he]
        exact ⟨[], rfl⟩
      | true =>
        have hlen := ends_len he
        refine cOfP (by kernel_rfl) ?_
        simp only [g65_eq, g65, some_and, sy_wrap, sy_add, sy_sub, sy_mul, sy_ieq, sy_ilt, sy_ile, sy_seq, sy_beq, sy_bor, sy_bnot, sy_imax, sy_imin, sy_rlen, sy_slen, sy_sapp, sy_inr, sy_nat, sy_cell0, sy_cellS, sy_skip0, sy_inrn, sy_rapp, sy_fits, sy_cutok, sy_cut, sy_scut, sy_sbyte, sy_mkok, sy_mkok0, sy_mkz, sy_rep, sy_head, sy_deq, eqDs_int, eqDs_nil, opI_int, opB_bool, opS_str, opL_sl, opM_own, leaves_val, leaves_own, Option.bind_some, cutO_bool, bif_bool, cutO_inl, cutO_inr, eF_call, eF_lp, Nat.zero_add, Nat.reduceAdd, Bool.cond_false_right, Bool.cond_true_left, Bool.cond_false_left, Bool.cond_true_right, Bool.not_true, Bool.not_false, Bool.not_not, eq_self, decide_true, decide_false, cond_true, cond_false, Int.reduceEq, Int.reduceLT, Int.reduceLE, Int.reduceSub, Int.reduceAdd, Bool.true_and, Bool.and_true, Bool.false_and, Bool.and_false, Bool.or_false, Bool.false_or, Bool.true_or, Bool.or_true, true_and, and_true, h99, h, c64_1 row 1 hr, he, c61_1 row k 1 hr (by omega) (by simpa [il] using hlen)]
        rfl
    · rw [if_neg (by omega), if_neg (by omega), if_neg (by omega)]
      cases he : endsB row [k, 1] with
      | false =>
        refine cOfP (by kernel_rfl) ?_
        simp only [g65_eq, g65, some_and, sy_wrap, sy_add, sy_sub, sy_mul, sy_ieq, sy_ilt, sy_ile, sy_seq, sy_beq, sy_bor, sy_bnot, sy_imax, sy_imin, sy_rlen, sy_slen, sy_sapp, sy_inr, sy_nat, sy_cell0, sy_cellS, sy_skip0, sy_inrn, sy_rapp, sy_fits, sy_cutok, sy_cut, sy_scut, sy_sbyte, sy_mkok, sy_mkok0, sy_mkz, sy_rep, sy_head, sy_deq, eqDs_int, eqDs_nil, opI_int, opB_bool, opS_str, opL_sl, opM_own, leaves_val, leaves_own, Option.bind_some, cutO_bool, bif_bool, cutO_inl, cutO_inr, eF_call, eF_lp, Nat.zero_add, Nat.reduceAdd, Bool.cond_false_right, Bool.cond_true_left, Bool.cond_false_left, Bool.cond_true_right, Bool.not_true, Bool.not_false, Bool.not_not, eq_self, decide_true, decide_false, cond_true, cond_false, Int.reduceEq, Int.reduceLT, Int.reduceLE, Int.reduceSub, Int.reduceAdd, Bool.true_and, Bool.and_true, Bool.false_and, Bool.and_false, Bool.or_false, Bool.false_or, Bool.true_or, Bool.or_true, true_and, and_true, h99, h, c64_2 row k 1 hr, h100, he]
        exact ⟨[], rfl⟩
      | true =>
        have hlen := ends_len he
        cases hf : fixedB lo hi x.a (max 1 x.b) with
        | true =>
          refine cOfP (by kernel_rfl) ?_
          simp only [g65_eq, g65, some_and, sy_wrap, sy_add, sy_sub, sy_mul, sy_ieq, sy_ilt, sy_ile, sy_seq, sy_beq, sy_bor, sy_bnot, sy_imax, sy_imin, sy_rlen, sy_slen, sy_sapp, sy_inr, sy_nat, sy_cell0, sy_cellS, sy_skip0, sy_inrn, sy_rapp, sy_fits, sy_cutok, sy_cut, sy_scut, sy_sbyte, sy_mkok, sy_mkok0, sy_mkz, sy_rep, sy_head, sy_deq, eqDs_int, eqDs_nil, opI_int, opB_bool, opS_str, opL_sl, opM_own, leaves_val, leaves_own, Option.bind_some, cutO_bool, bif_bool, cutO_inl, cutO_inr, eF_call, eF_lp, Nat.zero_add, Nat.reduceAdd, Bool.cond_false_right, Bool.cond_true_left, Bool.cond_false_left, Bool.cond_true_right, Bool.not_true, Bool.not_false, Bool.not_not, eq_self, decide_true, decide_false, cond_true, cond_false, Int.reduceEq, Int.reduceLT, Int.reduceLE, Int.reduceSub, Int.reduceAdd, Bool.true_and, Bool.and_true, Bool.false_and, Bool.and_false, Bool.or_false, Bool.false_or, Bool.true_or, Bool.or_true, true_and, and_true, h99, h, c64_2 row k 1 hr, h100, he, hf]
          exact ⟨[], rfl⟩
        | false =>
          refine cOfP (by kernel_rfl) ?_
          simp only [g65_eq, g65, some_and, sy_wrap, sy_add, sy_sub, sy_mul, sy_ieq, sy_ilt, sy_ile, sy_seq, sy_beq, sy_bor, sy_bnot, sy_imax, sy_imin, sy_rlen, sy_slen, sy_sapp, sy_inr, sy_nat, sy_cell0, sy_cellS, sy_skip0, sy_inrn, sy_rapp, sy_fits, sy_cutok, sy_cut, sy_scut, sy_sbyte, sy_mkok, sy_mkok0, sy_mkz, sy_rep, sy_head, sy_deq, eqDs_int, eqDs_nil, opI_int, opB_bool, opS_str, opL_sl, opM_own, leaves_val, leaves_own, Option.bind_some, cutO_bool, bif_bool, cutO_inl, cutO_inr, eF_call, eF_lp, Nat.zero_add, Nat.reduceAdd, Bool.cond_false_right, Bool.cond_true_left, Bool.cond_false_left, Bool.cond_true_right, Bool.not_true, Bool.not_false, Bool.not_not, eq_self, decide_true, decide_false, cond_true, cond_false, Int.reduceEq, Int.reduceLT, Int.reduceLE, Int.reduceSub, Int.reduceAdd, Bool.true_and, Bool.and_true, Bool.false_and, Bool.and_false, Bool.or_false, Bool.false_or, Bool.true_or, Bool.or_true, true_and, and_true, h99, h, c64_2 row k 1 hr, h100, he, hf, c61_0 row 2 hr (by omega) (by simpa [il] using hlen)]
          rfl
theorem c32 (la lb : List Int) (lo hi : Int) (x : Ins) (row : List Int) (hla : la.length ≤ 10) (hlb : lb.length ≤ 10000) (hl : row.length ≤ 100) (hrow : ∀ k ∈ row, 1 ≤ k ∧ k ≤ 100) (hx : rightB x = true) :
    ∃ p, cF 32 [shV (irows la) (irows lb) lo hi, insV x, .d (.sl 1 (irows row))] = some p ∧ rowR (nextS ⟨la, lb, lo, hi⟩ x row) p := by
  have hr : row.length ≤ 1000 := by omega
  have hops : x.op = 1 ∨ x.op = 4 ∨ x.op = 5 ∨ x.op = 7 ∨ x.op = 6 ∨ x.op = 10 ∨ x.op = 2 ∨ x.op = 3 ∨ x.op = 8 ∨ x.op = 9 := by
    rw [right_eq] at hx
    simp only [Bool.and_eq_true] at hx
    have := withinB_iff.1 hx.1.1.1
    omega
  have h41 := c41 la lb lo hi x.a (by omega)
  unfold nextS
  simp only
  by_cases h1 : x.op = 1
  · rw [if_pos h1]
    cases hk : kindB (il la) x.a with
    | false =>
      rw [kind_eq] at hk
      rw [hk] at h41
      unfold shV insV at *
      refine cOfP (by kernel_rfl) ?_
      simp only [g32_eq, g32, some_and, sy_wrap, sy_add, sy_sub, sy_mul, sy_ieq, sy_ilt, sy_ile, sy_seq, sy_beq, sy_bor, sy_bnot, sy_imax, sy_imin, sy_rlen, sy_slen, sy_sapp, sy_inr, sy_nat, sy_cell0, sy_cellS, sy_skip0, sy_inrn, sy_rapp, sy_fits, sy_cutok, sy_cut, sy_scut, sy_sbyte, sy_mkok, sy_mkok0, sy_mkz, sy_rep, sy_head, sy_deq, eqDs_int, eqDs_nil, opI_int, opB_bool, opS_str, opL_sl, opM_own, leaves_val, leaves_own, Option.bind_some, cutO_bool, bif_bool, cutO_inl, cutO_inr, eF_call, eF_lp, Nat.zero_add, Nat.reduceAdd, Bool.cond_false_right, Bool.cond_true_left, Bool.cond_false_left, Bool.cond_true_right, Bool.not_true, Bool.not_false, Bool.not_not, eq_self, decide_true, decide_false, cond_true, cond_false, Int.reduceEq, Int.reduceLT, Int.reduceLE, Int.reduceSub, Int.reduceAdd, Bool.true_and, Bool.and_true, Bool.false_and, Bool.and_false, Bool.or_false, Bool.false_or, Bool.true_or, Bool.or_true, true_and, and_true, h1, c61_1 row x.a 0 hr (Int.le_refl 0) (by omega), h41]
      exact ⟨_, rfl⟩
    | true =>
      rw [kind_eq] at hk
      have hw := withinB_iff.1 hk
      have h62 := c62 la lb lo hi x.a x.n (by omega) (by omega) (by omega)
      rw [hk] at h41
      unfold shV insV at *
      cases hv : valueB la x.a x.n with
      | false =>
        rw [hv] at h62
        refine cOfP (by kernel_rfl) ?_
        simp only [g32_eq, g32, some_and, sy_wrap, sy_add, sy_sub, sy_mul, sy_ieq, sy_ilt, sy_ile, sy_seq, sy_beq, sy_bor, sy_bnot, sy_imax, sy_imin, sy_rlen, sy_slen, sy_sapp, sy_inr, sy_nat, sy_cell0, sy_cellS, sy_skip0, sy_inrn, sy_rapp, sy_fits, sy_cutok, sy_cut, sy_scut, sy_sbyte, sy_mkok, sy_mkok0, sy_mkz, sy_rep, sy_head, sy_deq, eqDs_int, eqDs_nil, opI_int, opB_bool, opS_str, opL_sl, opM_own, leaves_val, leaves_own, Option.bind_some, cutO_bool, bif_bool, cutO_inl, cutO_inr, eF_call, eF_lp, Nat.zero_add, Nat.reduceAdd, Bool.cond_false_right, Bool.cond_true_left, Bool.cond_false_left, Bool.cond_true_right, Bool.not_true, Bool.not_false, Bool.not_not, eq_self, decide_true, decide_false, cond_true, cond_false, Int.reduceEq, Int.reduceLT, Int.reduceLE, Int.reduceSub, Int.reduceAdd, Bool.true_and, Bool.and_true, Bool.false_and, Bool.and_false, Bool.or_false, Bool.false_or, Bool.true_or, Bool.or_true, true_and, and_true, h1, c61_1 row x.a 0 hr (Int.le_refl 0) (by omega), h41, h62]
        exact ⟨_, rfl⟩
      | true =>
        rw [hv] at h62
        by_cases hl2 : row.length < 16
        · refine cOfP (by kernel_rfl) ?_
          simp only [g32_eq, g32, some_and, sy_wrap, sy_add, sy_sub, sy_mul, sy_ieq, sy_ilt, sy_ile, sy_seq, sy_beq, sy_bor, sy_bnot, sy_imax, sy_imin, sy_rlen, sy_slen, sy_sapp, sy_inr, sy_nat, sy_cell0, sy_cellS, sy_skip0, sy_inrn, sy_rapp, sy_fits, sy_cutok, sy_cut, sy_scut, sy_sbyte, sy_mkok, sy_mkok0, sy_mkz, sy_rep, sy_head, sy_deq, eqDs_int, eqDs_nil, opI_int, opB_bool, opS_str, opL_sl, opM_own, leaves_val, leaves_own, Option.bind_some, cutO_bool, bif_bool, cutO_inl, cutO_inr, eF_call, eF_lp, Nat.zero_add, Nat.reduceAdd, Bool.cond_false_right, Bool.cond_true_left, Bool.cond_false_left, Bool.cond_true_right, Bool.not_true, Bool.not_false, Bool.not_not, eq_self, decide_true, decide_false, cond_true, cond_false, Int.reduceEq, Int.reduceLT, Int.reduceLE, Int.reduceSub, Int.reduceAdd, Bool.true_and, Bool.and_true, Bool.false_and, Bool.and_false, Bool.or_false, Bool.false_or, Bool.true_or, Bool.or_true, true_and, and_true, h1, c61_1 row x.a 0 hr (Int.le_refl 0) (by omega), h41, h62, irows_len]
          rw [decT hl2, decT (by omega)]
          show _ = _
          simp [dropTop]
        · refine cOfP (by kernel_rfl) ?_
          simp only [g32_eq, g32, some_and, sy_wrap, sy_add, sy_sub, sy_mul, sy_ieq, sy_ilt, sy_ile, sy_seq, sy_beq, sy_bor, sy_bnot, sy_imax, sy_imin, sy_rlen, sy_slen, sy_sapp, sy_inr, sy_nat, sy_cell0, sy_cellS, sy_skip0, sy_inrn, sy_rapp, sy_fits, sy_cutok, sy_cut, sy_scut, sy_sbyte, sy_mkok, sy_mkok0, sy_mkz, sy_rep, sy_head, sy_deq, eqDs_int, eqDs_nil, opI_int, opB_bool, opS_str, opL_sl, opM_own, leaves_val, leaves_own, Option.bind_some, cutO_bool, bif_bool, cutO_inl, cutO_inr, eF_call, eF_lp, Nat.zero_add, Nat.reduceAdd, Bool.cond_false_right, Bool.cond_true_left, Bool.cond_false_left, Bool.cond_true_right, Bool.not_true, Bool.not_false, Bool.not_not, eq_self, decide_true, decide_false, cond_true, cond_false, Int.reduceEq, Int.reduceLT, Int.reduceLE, Int.reduceSub, Int.reduceAdd, Bool.true_and, Bool.and_true, Bool.false_and, Bool.and_false, Bool.or_false, Bool.false_or, Bool.true_or, Bool.or_true, true_and, and_true, h1, c61_1 row x.a 0 hr (Int.le_refl 0) (by omega), h41, h62, irows_len]
          rw [decF hl2, decF (by omega)]
          exact ⟨_, rfl⟩
  rw [if_neg h1]
  by_cases h45 : x.op = 4 ∨ x.op = 5
  · rw [if_pos h45]
    obtain ⟨p, h63, hp⟩ := c63 x row hrow hl h45
    have key : ∃ b l, p = .val [.sl 1 l, .bool b] := by
      unfold rowR at hp
      split at hp
      · exact ⟨_, _, hp⟩
      · obtain ⟨r, hp⟩ := hp; exact ⟨_, _, hp⟩
    obtain ⟨b, l, rfl⟩ := key
    unfold shV insV at *
    rcases h45 with h | h
    · rw [h] at h63
      refine cOfP (by kernel_rfl) ?_
      simp only [g32_eq, g32, some_and, sy_wrap, sy_add, sy_sub, sy_mul, sy_ieq, sy_ilt, sy_ile, sy_seq, sy_beq, sy_bor, sy_bnot, sy_imax, sy_imin, sy_rlen, sy_slen, sy_sapp, sy_inr, sy_nat, sy_cell0, sy_cellS, sy_skip0, sy_inrn, sy_rapp, sy_fits, sy_cutok, sy_cut, sy_scut, sy_sbyte, sy_mkok, sy_mkok0, sy_mkz, sy_rep, sy_head, sy_deq, eqDs_int, eqDs_nil, opI_int, opB_bool, opS_str, opL_sl, opM_own, leaves_val, leaves_own, Option.bind_some, cutO_bool, bif_bool, cutO_inl, cutO_inr, eF_call, eF_lp, Nat.zero_add, Nat.reduceAdd, Bool.cond_false_right, Bool.cond_true_left, Bool.cond_false_left, Bool.cond_true_right, Bool.not_true, Bool.not_false, Bool.not_not, eq_self, decide_true, decide_false, cond_true, cond_false, Int.reduceEq, Int.reduceLT, Int.reduceLE, Int.reduceSub, Int.reduceAdd, Bool.true_and, Bool.and_true, Bool.false_and, Bool.and_false, Bool.or_false, Bool.false_or, Bool.true_or, Bool.or_true, true_and, and_true, h, h63]
      exact hp
    · rw [h] at h63
      refine cOfP (by kernel_rfl) ?_
      simp only [g32_eq, g32, some_and, sy_wrap, sy_add, sy_sub, sy_mul, sy_ieq, sy_ilt, sy_ile, sy_seq, sy_beq, sy_bor, sy_bnot, sy_imax, sy_imin, sy_rlen, sy_slen, sy_sapp, sy_inr, sy_nat, sy_cell0, sy_cellS, sy_skip0, sy_inrn, sy_rapp, sy_fits, sy_cutok, sy_cut, sy_scut, sy_sbyte, sy_mkok, sy_mkok0, sy_mkz, sy_rep, sy_head, sy_deq, eqDs_int, eqDs_nil, opI_int, opB_bool, opS_str, opL_sl, opM_own, leaves_val, leaves_own, Option.bind_some, cutO_bool, bif_bool, cutO_inl, cutO_inr, eF_call, eF_lp, Nat.zero_add, Nat.reduceAdd, Bool.cond_false_right, Bool.cond_true_left, Bool.cond_false_left, Bool.cond_true_right, Bool.not_true, Bool.not_false, Bool.not_not, eq_self, decide_true, decide_false, cond_true, cond_false, Int.reduceEq, Int.reduceLT, Int.reduceLE, Int.reduceSub, Int.reduceAdd, Bool.true_and, Bool.and_true, Bool.false_and, Bool.and_false, Bool.or_false, Bool.false_or, Bool.true_or, Bool.or_true, true_and, and_true, h, h63]
      exact hp
  rw [if_neg h45]
  have h65 : x.op = 2 ∨ x.op = 3 ∨ x.op = 8 ∨ x.op = 9 → ∃ p, cF 65 [shV (irows la) (irows lb) lo hi, insV x, .d (.sl 1 (irows row))] = some p ∧ rowR (memS ⟨la, lb, lo, hi⟩ x row) p := fun h => by
    have hx2 := hx
    rw [right_eq] at hx2
    simp only [Bool.and_eq_true] at hx2
    obtain ⟨⟨⟨_, q2⟩, _⟩, q4⟩ := hx2
    unfold firstB at q2
    rw [if_neg h1, if_neg (by omega), if_neg (by omega), if_neg (by omega)] at q2
    have := withinB_iff.1 q2
    have hb : 0 ≤ x.b ∧ x.b ≤ 8 := by
      split at q4
      · have := withinB_iff.1 q4; omega
      · have := eq_of_beq q4; omega
    exact c65 la lb lo hi x row hlb hr (by omega) (by omega) hb.1 hb.2 h
  have h64 := c64_1 row 2 hr
  by_cases h7 : x.op = 7
  · rw [if_pos h7]
    unfold shV insV at *
    cases he : endsB row [2] with
    | false =>
      rw [he] at h64
      refine cOfP (by kernel_rfl) ?_
      simp only [g32_eq, g32, some_and, sy_wrap, sy_add, sy_sub, sy_mul, sy_ieq, sy_ilt, sy_ile, sy_seq, sy_beq, sy_bor, sy_bnot, sy_imax, sy_imin, sy_rlen, sy_slen, sy_sapp, sy_inr, sy_nat, sy_cell0, sy_cellS, sy_skip0, sy_inrn, sy_rapp, sy_fits, sy_cutok, sy_cut, sy_scut, sy_sbyte, sy_mkok, sy_mkok0, sy_mkz, sy_rep, sy_head, sy_deq, eqDs_int, eqDs_nil, opI_int, opB_bool, opS_str, opL_sl, opM_own, leaves_val, leaves_own, Option.bind_some, cutO_bool, bif_bool, cutO_inl, cutO_inr, eF_call, eF_lp, Nat.zero_add, Nat.reduceAdd, Bool.cond_false_right, Bool.cond_true_left, Bool.cond_false_left, Bool.cond_true_right, Bool.not_true, Bool.not_false, Bool.not_not, eq_self, decide_true, decide_false, cond_true, cond_false, Int.reduceEq, Int.reduceLT, Int.reduceLE, Int.reduceSub, Int.reduceAdd, Bool.true_and, Bool.and_true, Bool.false_and, Bool.and_false, Bool.or_false, Bool.false_or, Bool.true_or, Bool.or_true, true_and, and_true, h7, h64]
      exact ⟨[], rfl⟩
    | true =>
      rw [he] at h64
      have hlen := ends_len he
      refine cOfP (by kernel_rfl) ?_
      simp only [g32_eq, g32, some_and, sy_wrap, sy_add, sy_sub, sy_mul, sy_ieq, sy_ilt, sy_ile, sy_seq, sy_beq, sy_bor, sy_bnot, sy_imax, sy_imin, sy_rlen, sy_slen, sy_sapp, sy_inr, sy_nat, sy_cell0, sy_cellS, sy_skip0, sy_inrn, sy_rapp, sy_fits, sy_cutok, sy_cut, sy_scut, sy_sbyte, sy_mkok, sy_mkok0, sy_mkz, sy_rep, sy_head, sy_deq, eqDs_int, eqDs_nil, opI_int, opB_bool, opS_str, opL_sl, opM_own, leaves_val, leaves_own, Option.bind_some, cutO_bool, bif_bool, cutO_inl, cutO_inr, eF_call, eF_lp, Nat.zero_add, Nat.reduceAdd, Bool.cond_false_right, Bool.cond_true_left, Bool.cond_false_left, Bool.cond_true_right, Bool.not_true, Bool.not_false, Bool.not_not, eq_self, decide_true, decide_false, cond_true, cond_false, Int.reduceEq, Int.reduceLT, Int.reduceLE, Int.reduceSub, Int.reduceAdd, Bool.true_and, Bool.and_true, Bool.false_and, Bool.and_false, Bool.or_false, Bool.false_or, Bool.true_or, Bool.or_true, true_and, and_true, h7, h64, c61_0 row 1 hr (by omega) (by simpa [il] using hlen)]
      rfl
  rw [if_neg h7]
  by_cases h6 : x.op = 6
  · rw [if_pos h6]
    unfold shV insV at *
    refine cOfP (by kernel_rfl) ?_
    simp only [g32_eq, g32, some_and, sy_wrap, sy_add, sy_sub, sy_mul, sy_ieq, sy_ilt, sy_ile, sy_seq, sy_beq, sy_bor, sy_bnot, sy_imax, sy_imin, sy_rlen, sy_slen, sy_sapp, sy_inr, sy_nat, sy_cell0, sy_cellS, sy_skip0, sy_inrn, sy_rapp, sy_fits, sy_cutok, sy_cut, sy_scut, sy_sbyte, sy_mkok, sy_mkok0, sy_mkz, sy_rep, sy_head, sy_deq, eqDs_int, eqDs_nil, opI_int, opB_bool, opS_str, opL_sl, opM_own, leaves_val, leaves_own, Option.bind_some, cutO_bool, bif_bool, cutO_inl, cutO_inr, eF_call, eF_lp, Nat.zero_add, Nat.reduceAdd, Bool.cond_false_right, Bool.cond_true_left, Bool.cond_false_left, Bool.cond_true_right, Bool.not_true, Bool.not_false, Bool.not_not, eq_self, decide_true, decide_false, cond_true, cond_false, Int.reduceEq, Int.reduceLT, Int.reduceLE, Int.reduceSub, Int.reduceAdd, Bool.true_and, Bool.and_true, Bool.false_and, Bool.and_false, Bool.or_false, Bool.false_or, Bool.true_or, Bool.or_true, true_and, and_true, h6]
    rfl
  rw [if_neg h6]
  by_cases h10 : x.op = 10
  · rw [if_pos h10]
    unfold shV insV at *
    refine cOfP (by kernel_rfl) ?_
    simp only [g32_eq, g32, some_and, sy_wrap, sy_add, sy_sub, sy_mul, sy_ieq, sy_ilt, sy_ile, sy_seq, sy_beq, sy_bor, sy_bnot, sy_imax, sy_imin, sy_rlen, sy_slen, sy_sapp, sy_inr, sy_nat, sy_cell0, sy_cellS, sy_skip0, sy_inrn, sy_rapp, sy_fits, sy_cutok, sy_cut, sy_scut, sy_sbyte, sy_mkok, sy_mkok0, sy_mkz, sy_rep, sy_head, sy_deq, eqDs_int, eqDs_nil, opI_int, opB_bool, opS_str, opL_sl, opM_own, leaves_val, leaves_own, Option.bind_some, cutO_bool, bif_bool, cutO_inl, cutO_inr, eF_call, eF_lp, Nat.zero_add, Nat.reduceAdd, Bool.cond_false_right, Bool.cond_true_left, Bool.cond_false_left, Bool.cond_true_right, Bool.not_true, Bool.not_false, Bool.not_not, eq_self, decide_true, decide_false, cond_true, cond_false, Int.reduceEq, Int.reduceLT, Int.reduceLE, Int.reduceSub, Int.reduceAdd, Bool.true_and, Bool.and_true, Bool.false_and, Bool.and_false, Bool.or_false, Bool.false_or, Bool.true_or, Bool.or_true, true_and, and_true, h10, irows_len]
    by_cases hz : row.length = 0
    · rw [if_pos hz, decT (by omega)]; rfl
    · rw [if_neg hz, decF (by omega)]; exact ⟨[], rfl⟩
  rw [if_neg h10]
  obtain ⟨p, h65, hp⟩ := h65 (by omega)
  have key : ∃ b l, p = .val [.sl 1 l, .bool b] := by
    unfold rowR at hp
    split at hp
    · exact ⟨_, _, hp⟩
    · obtain ⟨r, hp⟩ := hp; exact ⟨_, _, hp⟩
  obtain ⟨b, l, rfl⟩ := key
  unfold shV insV at *
  refine cOfP (by kernel_rfl) ?_
  simp (disch := omega) only [g32_eq, g32, some_and, decF, h65, sy_wrap, sy_add, sy_sub, sy_mul, sy_ieq, sy_ilt, sy_ile, sy_seq, sy_beq, sy_bor, sy_bnot, sy_imax, sy_imin, sy_rlen, sy_slen, sy_sapp, sy_inr, sy_nat, sy_cell0, sy_cellS, sy_skip0, sy_inrn, sy_rapp, sy_fits, sy_cutok, sy_cut, sy_scut, sy_sbyte, sy_mkok, sy_mkok0, sy_mkz, sy_rep, sy_head, sy_deq, eqDs_int, eqDs_nil, opI_int, opB_bool, opS_str, opL_sl, opM_own, leaves_val, leaves_own, Option.bind_some, cutO_bool, bif_bool, cutO_inl, cutO_inr, eF_call, eF_lp, Nat.zero_add, Nat.reduceAdd, Bool.cond_false_right, Bool.cond_true_left, Bool.cond_false_left, Bool.cond_true_right, Bool.not_true, Bool.not_false, Bool.not_not, eq_self, decide_true, decide_false, cond_true, cond_false, Int.reduceEq, Int.reduceLT, Int.reduceLE, Int.reduceSub, Int.reduceAdd, Bool.true_and, Bool.and_true, Bool.false_and, Bool.and_false, Bool.or_false, Bool.false_or, Bool.true_or, Bool.or_true, true_and, and_true]
  exact hp
end Go.Vm
end

section
set_option maxRecDepth 100000
set_option maxHeartbeats 1000000
namespace Go.Vm
open Go.Proofs
theorem all_any {τ : Type} {p q : τ → Bool} (h : ∀ x, p x = !q x) (l : List τ) : l.all p = !l.any q := by
  induction l with
  | nil => rfl
  | cons x l ih => simp only [List.all_cons, List.any_cons, ih, h, Bool.not_or]
theorem c14 (la lb : List Int) (lo hi : Int) (hla : la.length ≤ 1000) (hlb : lb.length ≤ 10000) : cF 14 [shV (irows la) (irows lb) lo hi] = some (.val [.bool (shapeB la lb lo hi)]) := by
  have h39 := c38_39 la (by omega)
  have h40 := c38_40 lb la lb lo hi (by omega) hla
  unfold shV at *
  refine cOf (by kernel_rfl) ?_
  rw [g14_eq]
  simp only [g14, sy_wrap, sy_add, sy_sub, sy_mul, sy_ieq, sy_ilt, sy_ile, sy_seq, sy_beq, sy_bor, sy_bnot, sy_imax, sy_imin, sy_rlen, sy_slen, sy_sapp, sy_inr, sy_nat, sy_cell0, sy_cellS, sy_skip0, sy_inrn, sy_rapp, sy_fits, sy_cutok, sy_cut, sy_scut, sy_sbyte, sy_mkok, sy_mkok0, sy_mkz, sy_rep, sy_head, sy_deq, eqDs_int, eqDs_nil, opI_int, opB_bool, opS_str, opL_sl, opM_own, leaves_val, leaves_own, Option.bind_some, cutO_bool, bif_bool, cutO_inl, cutO_inr, eF_call, eF_lp, Nat.zero_add, Nat.reduceAdd, Bool.cond_false_right, Bool.cond_true_left, Bool.cond_false_left, Bool.cond_true_right, Bool.not_true, Bool.not_false, Bool.not_not, eq_self, decide_true, decide_false, cond_true, cond_false, Int.reduceEq, Int.reduceLT, Int.reduceLE, Int.reduceSub, Int.reduceAdd, Bool.true_and, Bool.and_true, Bool.false_and, Bool.and_false, Bool.or_false, Bool.false_or, Bool.true_or, Bool.or_true, true_and, and_true, irows_len, h39, h40]
  unfold shapeB
  rw [all_any (q := fun n => decide (n < 1)) (fun x => by rw [Bool.eq_iff_iff]; simp) la, all_any (q := fun n => !withinB n 1 (2 + il la)) (fun x => by rw [kind_eq, Bool.not_not]) lb]
  clear h39 h40
  generalize la.any _ = p
  generalize lb.any _ = q
  unfold il
  by_cases h : (la.length : Int) ≤ 4 ∧ (lb.length : Int) ≤ 1000 ∧ 0 ≤ lo ∧ lo ≤ hi ∧ hi ≤ lb.length
  · simp (disch := omega) only [wrap_id, decT, decF, sy_wrap, sy_add, sy_sub, sy_mul, sy_ieq, sy_ilt, sy_ile, sy_seq, sy_beq, sy_bor, sy_bnot, sy_imax, sy_imin, sy_rlen, sy_slen, sy_sapp, sy_inr, sy_nat, sy_cell0, sy_cellS, sy_skip0, sy_inrn, sy_rapp, sy_fits, sy_cutok, sy_cut, sy_scut, sy_sbyte, sy_mkok, sy_mkok0, sy_mkz, sy_rep, sy_head, sy_deq, eqDs_int, eqDs_nil, opI_int, opB_bool, opS_str, opL_sl, opM_own, leaves_val, leaves_own, Option.bind_some, cutO_bool, bif_bool, cutO_inl, cutO_inr, eF_call, eF_lp, Nat.zero_add, Nat.reduceAdd, Bool.cond_false_right, Bool.cond_true_left, Bool.cond_false_left, Bool.cond_true_right, Bool.not_true, Bool.not_false, Bool.not_not, eq_self, decide_true, decide_false, cond_true, cond_false, Int.reduceEq, Int.reduceLT, Int.reduceLE, Int.reduceSub, Int.reduceAdd, Bool.true_and, Bool.and_true, Bool.false_and, Bool.and_false, Bool.or_false, Bool.false_or, Bool.true_or, Bool.or_true, true_and, and_true]
    cases p <;> cases q <;> rfl
  · have e1 : (decide (4 < (la.length : Int)) || decide (1000 < (lb.length : Int)) || decide (lo < 0) || decide (hi < lo) || decide ((lb.length : Int) < hi)) = true := by
      simp only [Bool.or_eq_true, decide_eq_true_eq]; omega
    have e2 : (decide ((la.length : Int) ≤ 4) && decide ((lb.length : Int) ≤ 1000) && decide (0 ≤ lo) && decide (lo ≤ hi) && decide (hi ≤ (lb.length : Int))) = false := by
      rw [← Bool.not_eq_true]; simp only [Bool.and_eq_true, decide_eq_true_eq]; omega
    rw [e1, e2]
    rfl
/-- Where an instruction hands on to, as it is told. -/
def leadsL (i : Int) (x : Ins) : List Int := if x.op = 6 then [x.a] else if x.op = 7 then [i + 1, x.a] else [i + 1]
theorem leads_any (l : List Int) (i n : Int) : (!(l.any fun m => decide (m ≤ i) || decide (n ≤ m))) = l.all fun m => decide (i < m) && decide (m < n) := by
  induction l with
  | nil => rfl
  | cons x l ih =>
    simp only [List.any_cons, List.all_cons, Bool.not_or, ih]
    congr 1
    by_cases h1 : x ≤ i <;> by_cases h2 : n ≤ x <;> simp [h1, h2] <;> omega
def leadsP (n i : Int) (x : Ins) : PRes := if x.op = 10 then .val [.sl 1 [], .bool (decide (i = n - 1))] else .val [.sl 1 (irows (leadsL i x)), .bool ((leadsL i x).all fun m => decide (i < m) && decide (m < n))]
theorem crows_cell {l : List Ins} {i : Int} (h0 : 0 ≤ i) (h1 : i < (l.length : Int)) : sy.row (crows l) i = (l.getD i.toNat default).row := by
  rw [sy_row, crows_get _ _ (by omega)]
theorem c33 (code : List Ins) (i : Int) (h0 : 0 ≤ i) (h1 : i < code.length) (hl : code.length ≤ 100000) : cF 33 [.d (.sl 4 (crows code)), .d (.int .i64 i)] = some (leadsP code.length i (code.getD i.toNat default)) := by
  refine cOf (by kernel_rfl) ?_
  rw [g33_eq]
  simp only [g33, sy_wrap, sy_add, sy_sub, sy_mul, sy_ieq, sy_ilt, sy_ile, sy_seq, sy_beq, sy_bor, sy_bnot, sy_imax, sy_imin, sy_rlen, sy_slen, sy_sapp, sy_inr, sy_nat, sy_cell0, sy_cellS, sy_skip0, sy_inrn, sy_rapp, sy_fits, sy_cutok, sy_cut, sy_scut, sy_sbyte, sy_mkok, sy_mkok0, sy_mkz, sy_rep, sy_head, sy_deq, eqDs_int, eqDs_nil, opI_int, opB_bool, opS_str, opL_sl, opM_own, leaves_val, leaves_own, Option.bind_some, cutO_bool, bif_bool, cutO_inl, cutO_inr, eF_call, eF_lp, Nat.zero_add, Nat.reduceAdd, Bool.cond_false_right, Bool.cond_true_left, Bool.cond_false_left, Bool.cond_true_right, Bool.not_true, Bool.not_false, Bool.not_not, eq_self, decide_true, decide_false, cond_true, cond_false, Int.reduceEq, Int.reduceLT, Int.reduceLE, Int.reduceSub, Int.reduceAdd, Bool.true_and, Bool.and_true, Bool.false_and, Bool.and_false, Bool.or_false, Bool.false_or, Bool.true_or, Bool.or_true, true_and, and_true, crows_len]
  rw [crows_cell h0 h1]
  generalize code.getD i.toNat default = x
  unfold leadsP leadsL Ins.row
  have e1 := c38_66 [x.a] i (crows code) (by simp)
  have e2 := c38_66 [i + 1, x.a] i (crows code) (by simp)
  have e3 := c38_66 [i + 1] i (crows code) (by simp)
  simp only [crows_len, irows, irow, List.map_cons, List.map_nil] at e1 e2 e3
  by_cases h10 : x.op = 10
  · rw [if_pos h10]
    simp (disch := omega) only [wrap_id, decT, decF, sy_wrap, sy_add, sy_sub, sy_mul, sy_ieq, sy_ilt, sy_ile, sy_seq, sy_beq, sy_bor, sy_bnot, sy_imax, sy_imin, sy_rlen, sy_slen, sy_sapp, sy_inr, sy_nat, sy_cell0, sy_cellS, sy_skip0, sy_inrn, sy_rapp, sy_fits, sy_cutok, sy_cut, sy_scut, sy_sbyte, sy_mkok, sy_mkok0, sy_mkz, sy_rep, sy_head, sy_deq, eqDs_int, eqDs_nil, opI_int, opB_bool, opS_str, opL_sl, opM_own, leaves_val, leaves_own, Option.bind_some, cutO_bool, bif_bool, cutO_inl, cutO_inr, eF_call, eF_lp, Nat.zero_add, Nat.reduceAdd, Bool.cond_false_right, Bool.cond_true_left, Bool.cond_false_left, Bool.cond_true_right, Bool.not_true, Bool.not_false, Bool.not_not, eq_self, decide_true, decide_false, cond_true, cond_false, Int.reduceEq, Int.reduceLT, Int.reduceLE, Int.reduceSub, Int.reduceAdd, Bool.true_and, Bool.and_true, Bool.false_and, Bool.and_false, Bool.or_false, Bool.false_or, Bool.true_or, Bool.or_true, true_and, and_true, h10, if_true]
  rw [if_neg h10]
  by_cases h6 : x.op = 6
  · simp (disch := omega) only [wrap_id, decT, decF, sy_wrap, sy_add, sy_sub, sy_mul, sy_ieq, sy_ilt, sy_ile, sy_seq, sy_beq, sy_bor, sy_bnot, sy_imax, sy_imin, sy_rlen, sy_slen, sy_sapp, sy_inr, sy_nat, sy_cell0, sy_cellS, sy_skip0, sy_inrn, sy_rapp, sy_fits, sy_cutok, sy_cut, sy_scut, sy_sbyte, sy_mkok, sy_mkok0, sy_mkz, sy_rep, sy_head, sy_deq, eqDs_int, eqDs_nil, opI_int, opB_bool, opS_str, opL_sl, opM_own, leaves_val, leaves_own, Option.bind_some, cutO_bool, bif_bool, cutO_inl, cutO_inr, eF_call, eF_lp, Nat.zero_add, Nat.reduceAdd, Bool.cond_false_right, Bool.cond_true_left, Bool.cond_false_left, Bool.cond_true_right, Bool.not_true, Bool.not_false, Bool.not_not, eq_self, decide_true, decide_false, cond_true, cond_false, Int.reduceEq, Int.reduceLT, Int.reduceLE, Int.reduceSub, Int.reduceAdd, Bool.true_and, Bool.and_true, Bool.false_and, Bool.and_false, Bool.or_false, Bool.false_or, Bool.true_or, Bool.or_true, true_and, and_true, h6, e1]
    simp only [if_true, leads_any]; rfl
  by_cases h7 : x.op = 7
  · simp (disch := omega) only [wrap_id, decT, decF, sy_wrap, sy_add, sy_sub, sy_mul, sy_ieq, sy_ilt, sy_ile, sy_seq, sy_beq, sy_bor, sy_bnot, sy_imax, sy_imin, sy_rlen, sy_slen, sy_sapp, sy_inr, sy_nat, sy_cell0, sy_cellS, sy_skip0, sy_inrn, sy_rapp, sy_fits, sy_cutok, sy_cut, sy_scut, sy_sbyte, sy_mkok, sy_mkok0, sy_mkz, sy_rep, sy_head, sy_deq, eqDs_int, eqDs_nil, opI_int, opB_bool, opS_str, opL_sl, opM_own, leaves_val, leaves_own, Option.bind_some, cutO_bool, bif_bool, cutO_inl, cutO_inr, eF_call, eF_lp, Nat.zero_add, Nat.reduceAdd, Bool.cond_false_right, Bool.cond_true_left, Bool.cond_false_left, Bool.cond_true_right, Bool.not_true, Bool.not_false, Bool.not_not, eq_self, decide_true, decide_false, cond_true, cond_false, Int.reduceEq, Int.reduceLT, Int.reduceLE, Int.reduceSub, Int.reduceAdd, Bool.true_and, Bool.and_true, Bool.false_and, Bool.and_false, Bool.or_false, Bool.false_or, Bool.true_or, Bool.or_true, true_and, and_true, h7, e2]
    simp only [if_true, if_false, leads_any]; rfl
  · simp (disch := omega) only [wrap_id, decT, decF, sy_wrap, sy_add, sy_sub, sy_mul, sy_ieq, sy_ilt, sy_ile, sy_seq, sy_beq, sy_bor, sy_bnot, sy_imax, sy_imin, sy_rlen, sy_slen, sy_sapp, sy_inr, sy_nat, sy_cell0, sy_cellS, sy_skip0, sy_inrn, sy_rapp, sy_fits, sy_cutok, sy_cut, sy_scut, sy_sbyte, sy_mkok, sy_mkok0, sy_mkz, sy_rep, sy_head, sy_deq, eqDs_int, eqDs_nil, opI_int, opB_bool, opS_str, opL_sl, opM_own, leaves_val, leaves_own, Option.bind_some, cutO_bool, bif_bool, cutO_inl, cutO_inr, eF_call, eF_lp, Nat.zero_add, Nat.reduceAdd, Bool.cond_false_right, Bool.cond_true_left, Bool.cond_false_left, Bool.cond_true_right, Bool.not_true, Bool.not_false, Bool.not_not, eq_self, decide_true, decide_false, cond_true, cond_false, Int.reduceEq, Int.reduceLT, Int.reduceLE, Int.reduceSub, Int.reduceAdd, Bool.true_and, Bool.and_true, Bool.false_and, Bool.and_false, Bool.or_false, Bool.false_or, Bool.true_or, Bool.or_true, true_and, and_true, e3]
    rw [if_neg h6, if_neg h7, leads_any]; rfl
end Go.Vm
end

section
set_option maxRecDepth 100000
set_option maxHeartbeats 2000000
namespace Go.Vm
open Go.Proofs
theorem crows_at {l : List Ins} {i : Nat} {x : Ins} (h : l[i]? = some x) : sy.row (crows l) (i : Int) = x.row := by
  obtain ⟨h1, h2⟩ := getElem?_some_getD (d := default) h
  rw [crows_cell (by omega) (by omega), Int.toNat_natCast, h1]
theorem irows_at' {l : List Int} {i : Nat} {x : Int} (h : l[i]? = some x) : sy.cell (sy.row (irows l) (i : Int)) 0 = some (.int .i64 x) := irows_at h
def tells {τ : Type} (o : Option τ) (l : τ) (b : Bool) : Prop := match o with
  | some r => l = r ∧ b = true
  | none => b = false
theorem rowR_val {o : Option (List Int)} {p : PRes} (h : rowR o p) : ∃ l b, p = .val [.sl 1 (irows l), .bool b] ∧ tells o l b := by
  unfold rowR at h
  cases o with
  | some r => exact ⟨r, true, h, rfl, rfl⟩
  | none => obtain ⟨r, h⟩ := h; exact ⟨r, false, h, rfl⟩
theorem leads_eq (n i : Nat) (x : Ins) : ∃ T b, leadsP (n : Int) (i : Int) x = .val [.sl 1 (irows T), .bool b] ∧ T.length ≤ 2 ∧ tells (leadsS n i x) T b := by
  unfold leadsP leadsS tells
  by_cases h10 : x.op = 10
  · rw [if_pos h10, if_pos h10]
    by_cases h : i + 1 = n
    · rw [if_pos h]; exact ⟨[], _, rfl, by simp, rfl, decide_eq_true (by omega)⟩
    · rw [if_neg h]; exact ⟨[], _, rfl, by simp, decide_eq_false (by omega)⟩
  · rw [if_neg h10, if_neg h10]
    refine ⟨leadsL i x, _, rfl, by unfold leadsL; repeat' split
                                   all_goals simp, ?_⟩
    have e : (if x.op = 6 then [x.a] else if x.op = 7 then [(i : Int) + 1, x.a] else [(i : Int) + 1]) = leadsL i x := rfl
    simp only [e]
    by_cases hall : ((leadsL i x).all fun m => decide ((i : Int) < m) && decide (m < (n : Int))) = true
    · rw [if_pos hall]; exact ⟨rfl, hall⟩
    · rw [if_neg hall]; simpa using hall
theorem mval_at {L : List (Int × List Int)} {m : Int} : sy.mval (.sl 1 []) (.int .i64 m) (encM L) = .sl 1 (irows ((lk L m).getD [])) := by
  show mval _ _ _ = _
  rw [mval_enc]
  cases lk L m <;> rfl
theorem mhas_at {L : List (Int × List Int)} {m : Int} : sy.mhas (.int .i64 m) (encM L) = (lk L m).isSome := mhas_enc m L
theorem mput_at {L : List (Int × List Int)} {m : Int} {v : List Int} : sy.mput (.int .i64 m) (.sl 1 (irows v)) (encM L) = encM (putL L m v) := mput_enc m v L
theorem mdel_at {L : List (Int × List Int)} {m : Int} : sy.mdel (.int .i64 m) (encM L) = encM (delL L m) := mdel_enc m L
theorem c12 (la lb : List Int) (lo hi : Int) (code : List Ins) (hla : la.length ≤ 10) (hlb : lb.length ≤ 1100) (hcl : code.length ≤ 1000) :
    cF 12 [shV (irows la) (irows lb) lo hi, .d (.sl 4 (crows code))] = some (chR (checkS ⟨la, lb, lo, hi⟩ code)) := by
  have h14 := c14 la lb lo hi (by omega) (by omega)
  unfold checkS
  simp only
  cases hs : shapeB la lb lo hi with
  | false =>
    rw [hs] at h14
    unfold shV at *
    refine cOf (by kernel_rfl) ?_
    rw [g12_eq]
    simp only [g12, sy_wrap, sy_add, sy_sub, sy_mul, sy_ieq, sy_ilt, sy_ile, sy_seq, sy_beq, sy_bor, sy_bnot, sy_imax, sy_imin, sy_rlen, sy_slen, sy_sapp, sy_inr, sy_nat, sy_cell0, sy_cellS, sy_skip0, sy_inrn, sy_rapp, sy_fits, sy_cutok, sy_cut, sy_scut, sy_sbyte, sy_mkok, sy_mkok0, sy_mkz, sy_rep, sy_head, sy_deq, eqDs_int, eqDs_nil, opI_int, opB_bool, opS_str, opL_sl, opM_own, leaves_val, leaves_own, Option.bind_some, cutO_bool, bif_bool, cutO_inl, cutO_inr, eF_call, eF_lp, Nat.zero_add, Nat.reduceAdd, Bool.cond_false_right, Bool.cond_true_left, Bool.cond_false_left, Bool.cond_true_right, Bool.not_true, Bool.not_false, Bool.not_not, eq_self, decide_true, decide_false, cond_true, cond_false, Int.reduceEq, Int.reduceLT, Int.reduceLE, Int.reduceSub, Int.reduceAdd, Bool.true_and, Bool.and_true, Bool.false_and, Bool.and_false, Bool.or_false, Bool.false_or, Bool.true_or, Bool.or_true, true_and, and_true, h14]
    rfl
  | true =>
  rw [hs] at h14
  by_cases h1 : code.length < 1
  · unfold shV at *
    refine cOf (by kernel_rfl) ?_
    rw [g12_eq]
    simp only [g12, sy_wrap, sy_add, sy_sub, sy_mul, sy_ieq, sy_ilt, sy_ile, sy_seq, sy_beq, sy_bor, sy_bnot, sy_imax, sy_imin, sy_rlen, sy_slen, sy_sapp, sy_inr, sy_nat, sy_cell0, sy_cellS, sy_skip0, sy_inrn, sy_rapp, sy_fits, sy_cutok, sy_cut, sy_scut, sy_sbyte, sy_mkok, sy_mkok0, sy_mkz, sy_rep, sy_head, sy_deq, eqDs_int, eqDs_nil, opI_int, opB_bool, opS_str, opL_sl, opM_own, leaves_val, leaves_own, Option.bind_some, cutO_bool, bif_bool, cutO_inl, cutO_inr, eF_call, eF_lp, Nat.zero_add, Nat.reduceAdd, Bool.cond_false_right, Bool.cond_true_left, Bool.cond_false_left, Bool.cond_true_right, Bool.not_true, Bool.not_false, Bool.not_not, eq_self, decide_true, decide_false, cond_true, cond_false, Int.reduceEq, Int.reduceLT, Int.reduceLE, Int.reduceSub, Int.reduceAdd, Bool.true_and, Bool.and_true, Bool.false_and, Bool.and_false, Bool.or_false, Bool.false_or, Bool.true_or, Bool.or_true, true_and, and_true, h14, crows_len]
    simp (disch := omega) only [wrap_id, decT, decF, sy_wrap, sy_add, sy_sub, sy_mul, sy_ieq, sy_ilt, sy_ile, sy_seq, sy_beq, sy_bor, sy_bnot, sy_imax, sy_imin, sy_rlen, sy_slen, sy_sapp, sy_inr, sy_nat, sy_cell0, sy_cellS, sy_skip0, sy_inrn, sy_rapp, sy_fits, sy_cutok, sy_cut, sy_scut, sy_sbyte, sy_mkok, sy_mkok0, sy_mkz, sy_rep, sy_head, sy_deq, eqDs_int, eqDs_nil, opI_int, opB_bool, opS_str, opL_sl, opM_own, leaves_val, leaves_own, Option.bind_some, cutO_bool, bif_bool, cutO_inl, cutO_inr, eF_call, eF_lp, Nat.zero_add, Nat.reduceAdd, Bool.cond_false_right, Bool.cond_true_left, Bool.cond_false_left, Bool.cond_true_right, Bool.not_true, Bool.not_false, Bool.not_not, eq_self, decide_true, decide_false, cond_true, cond_false, Int.reduceEq, Int.reduceLT, Int.reduceLE, Int.reduceSub, Int.reduceAdd, Bool.true_and, Bool.and_true, Bool.false_and, Bool.and_false, Bool.or_false, Bool.false_or, Bool.true_or, Bool.or_true, true_and, and_true]
    rfl
  by_cases h2 : 6000 < code.length
  · omega
  rw [if_pos (by simp; omega)]
  have h32 := fun x row => c32 la lb lo hi x row hla (by omega)
  unfold shV at *
  refine cOf (by kernel_rfl) ?_
  rw [g12_eq]
  simp (disch := omega) only [g12, decF, h14, crows_len, sy_wrap, sy_add, sy_sub, sy_mul, sy_ieq, sy_ilt, sy_ile, sy_seq, sy_beq, sy_bor, sy_bnot, sy_imax, sy_imin, sy_rlen, sy_slen, sy_sapp, sy_inr, sy_nat, sy_cell0, sy_cellS, sy_skip0, sy_inrn, sy_rapp, sy_fits, sy_cutok, sy_cut, sy_scut, sy_sbyte, sy_mkok, sy_mkok0, sy_mkz, sy_rep, sy_head, sy_deq, eqDs_int, eqDs_nil, opI_int, opB_bool, opS_str, opL_sl, opM_own, leaves_val, leaves_own, Option.bind_some, cutO_bool, bif_bool, cutO_inl, cutO_inr, eF_call, eF_lp, Nat.zero_add, Nat.reduceAdd, Bool.cond_false_right, Bool.cond_true_left, Bool.cond_false_left, Bool.cond_true_right, Bool.not_true, Bool.not_false, Bool.not_not, eq_self, decide_true, decide_false, cond_true, cond_false, Int.reduceEq, Int.reduceLT, Int.reduceLE, Int.reduceSub, Int.reduceAdd, Bool.true_and, Bool.and_true, Bool.false_and, Bool.and_false, Bool.or_false, Bool.false_or, Bool.true_or, Bool.or_true, true_and, and_true]
  have hM0 : sy.mput (.int .i64 0) (.sl 1 []) [] = encM [(0, [])] := rfl
  rw [hM0]
  refine check_loop ⟨la, lb, lo, hi⟩ code (fun i L => [.sl 4 (crows code), .sl 4 (crows code), .int .i64 (code.length : Int), .int .i64 (i : Int), .sl 1 (irows la), .sl 1 (irows lb), .int .i64 lo, .int .i64 hi, .sl 2 (encM L)]) (fun i L x hx hrow => ?_) (fun L => ?_) code 0 [(0, [])] _ rfl (Nat.zero_le _) ⟨fun m hm => ?_, fun m row hm => ?_⟩
  · have hlt := (List.getElem?_eq_some_iff.1 hx).1
    have h31 := c31 x
    have h33 := c33 code i (by omega) (by omega) (by omega)
    rw [Int.toNat_natCast, (getElem?_some_getD (d := default) hx).1] at h33
    obtain ⟨T, bT, eT, hT2, hTm⟩ := leads_eq code.length i x
    rw [eT] at h33
    unfold StepOK
    cases hk : lk L i with
    | none =>
      simp only [sy_wrap, sy_add, sy_sub, sy_mul, sy_ieq, sy_ilt, sy_ile, sy_seq, sy_beq, sy_bor, sy_bnot, sy_imax, sy_imin, sy_rlen, sy_slen, sy_sapp, sy_inr, sy_nat, sy_cell0, sy_cellS, sy_skip0, sy_inrn, sy_rapp, sy_fits, sy_cutok, sy_cut, sy_scut, sy_sbyte, sy_mkok, sy_mkok0, sy_mkz, sy_rep, sy_head, sy_deq, eqDs_int, eqDs_nil, opI_int, opB_bool, opS_str, opL_sl, opM_own, leaves_val, leaves_own, Option.bind_some, cutO_bool, bif_bool, cutO_inl, cutO_inr, eF_call, eF_lp, Nat.zero_add, Nat.reduceAdd, Bool.cond_false_right, Bool.cond_true_left, Bool.cond_false_left, Bool.cond_true_right, Bool.not_true, Bool.not_false, Bool.not_not, eq_self, decide_true, decide_false, cond_true, cond_false, Int.reduceEq, Int.reduceLT, Int.reduceLE, Int.reduceSub, Int.reduceAdd, Bool.true_and, Bool.and_true, Bool.false_and, Bool.and_false, Bool.or_false, Bool.false_or, Bool.true_or, Bool.or_true, true_and, and_true, crows_len, ilt_at hlt, inr_at hlt, crows_at hx, Ins.row, mval_at, mhas_at, hk, Option.isSome_none]
      rfl
    | some row =>
      have hro := hrow row hk
      simp only
      unfold insV at *
      cases hr : rightB x with
      | false =>
        rw [hr] at h31
        simp only [sy_wrap, sy_add, sy_sub, sy_mul, sy_ieq, sy_ilt, sy_ile, sy_seq, sy_beq, sy_bor, sy_bnot, sy_imax, sy_imin, sy_rlen, sy_slen, sy_sapp, sy_inr, sy_nat, sy_cell0, sy_cellS, sy_skip0, sy_inrn, sy_rapp, sy_fits, sy_cutok, sy_cut, sy_scut, sy_sbyte, sy_mkok, sy_mkok0, sy_mkz, sy_rep, sy_head, sy_deq, eqDs_int, eqDs_nil, opI_int, opB_bool, opS_str, opL_sl, opM_own, leaves_val, leaves_own, Option.bind_some, cutO_bool, bif_bool, cutO_inl, cutO_inr, eF_call, eF_lp, Nat.zero_add, Nat.reduceAdd, Bool.cond_false_right, Bool.cond_true_left, Bool.cond_false_left, Bool.cond_true_right, Bool.not_true, Bool.not_false, Bool.not_not, eq_self, decide_true, decide_false, cond_true, cond_false, Int.reduceEq, Int.reduceLT, Int.reduceLE, Int.reduceSub, Int.reduceAdd, Bool.true_and, Bool.and_true, Bool.false_and, Bool.and_false, Bool.or_false, Bool.false_or, Bool.true_or, Bool.or_true, true_and, and_true, crows_len, ilt_at hlt, inr_at hlt, crows_at hx, Ins.row, mval_at, mhas_at, hk, Option.isSome_some, Option.getD_some, h31]
        rfl
      | true =>
        rw [hr] at h31
        obtain ⟨p, h32, hp⟩ := h32 x row (by have := hro.2; omega) hro.1 hr
        obtain ⟨l, b, rfl, hlb2⟩ := rowR_val hp
        simp only [sy_wrap, sy_add, sy_sub, sy_mul, sy_ieq, sy_ilt, sy_ile, sy_seq, sy_beq, sy_bor, sy_bnot, sy_imax, sy_imin, sy_rlen, sy_slen, sy_sapp, sy_inr, sy_nat, sy_cell0, sy_cellS, sy_skip0, sy_inrn, sy_rapp, sy_fits, sy_cutok, sy_cut, sy_scut, sy_sbyte, sy_mkok, sy_mkok0, sy_mkz, sy_rep, sy_head, sy_deq, eqDs_int, eqDs_nil, opI_int, opB_bool, opS_str, opL_sl, opM_own, leaves_val, leaves_own, Option.bind_some, cutO_bool, bif_bool, cutO_inl, cutO_inr, eF_call, eF_lp, Nat.zero_add, Nat.reduceAdd, Bool.cond_false_right, Bool.cond_true_left, Bool.cond_false_left, Bool.cond_true_right, Bool.not_true, Bool.not_false, Bool.not_not, eq_self, decide_true, decide_false, cond_true, cond_false, Int.reduceEq, Int.reduceLT, Int.reduceLE, Int.reduceSub, Int.reduceAdd, Bool.true_and, Bool.and_true, Bool.false_and, Bool.and_false, Bool.or_false, Bool.false_or, Bool.true_or, Bool.or_true, true_and, and_true, crows_len, ilt_at hlt, inr_at hlt, crows_at hx, Ins.row, mval_at, mhas_at, mdel_at, hk, Option.isSome_some, Option.getD_some, h31, h32, h33, if_true]
        cases hn : nextS ⟨la, lb, lo, hi⟩ x row with
        | none => rw [hn] at hlb2; rw [show b = false from hlb2]; rfl
        | some row' =>
          rw [hn] at hlb2
          obtain ⟨rfl, rfl⟩ := hlb2
          cases hl : leadsS code.length i x with
          | none => rw [hl] at hTm; rw [show bT = false from hTm]; rfl
          | some T' =>
            rw [hl] at hTm
            obtain ⟨rfl, rfl⟩ := hTm
            have hRow' := nextS_ok hn hro hs hr
            have hbd := (leadsS_bd hl).1
            simp only [sy_wrap, sy_add, sy_sub, sy_mul, sy_ieq, sy_ilt, sy_ile, sy_seq, sy_beq, sy_bor, sy_bnot, sy_imax, sy_imin, sy_rlen, sy_slen, sy_sapp, sy_inr, sy_nat, sy_cell0, sy_cellS, sy_skip0, sy_inrn, sy_rapp, sy_fits, sy_cutok, sy_cut, sy_scut, sy_sbyte, sy_mkok, sy_mkok0, sy_mkz, sy_rep, sy_head, sy_deq, eqDs_int, eqDs_nil, opI_int, opB_bool, opS_str, opL_sl, opM_own, leaves_val, leaves_own, Option.bind_some, cutO_bool, bif_bool, cutO_inl, cutO_inr, eF_call, eF_lp, Nat.zero_add, Nat.reduceAdd, Bool.cond_false_right, Bool.cond_true_left, Bool.cond_false_left, Bool.cond_true_right, Bool.not_true, Bool.not_false, Bool.not_not, eq_self, decide_true, decide_false, cond_true, cond_false, Int.reduceEq, Int.reduceLT, Int.reduceLE, Int.reduceSub, Int.reduceAdd, Bool.true_and, Bool.and_true, Bool.false_and, Bool.and_false, Bool.or_false, Bool.false_or, Bool.true_or, Bool.or_true, true_and, and_true, irows_len]
            intro K hK
            refine put_loop T l (fun j L => [.sl 4 (crows code), .int .i64 (i : Int), .sl 1 (irows l), .sl 4 (crows code), .int .i64 (code.length : Int), .int .i64 (i : Int), .sl 1 (irows T), .int .i64 (T.length : Int), .int .i64 (j : Int), .sl 1 (irows la), .sl 1 (irows lb), .int .i64 lo, .int .i64 hi, .sl 2 (encM L)])
              (fun L => [.sl 4 (crows code), .sl 4 (crows code), .int .i64 (code.length : Int), .int .i64 ((i + 1 : Nat) : Int), .sl 1 (irows la), .sl 1 (irows lb), .int .i64 lo, .int .i64 hi, .sl 2 (encM L)]) (badR i) (i + 1) (fun j L2 t ht hwas => ?_) (fun L2 => ?_) (fun t ht => by have := hbd t ht; omega) hRow' T 0 (delL L i) K rfl (Nat.zero_le _) ⟨fun m hm => ?_, hK.2⟩
            · have hjlt := (List.getElem?_eq_some_iff.1 ht).1
              simp only [sy_wrap, sy_add, sy_sub, sy_mul, sy_ieq, sy_ilt, sy_ile, sy_seq, sy_beq, sy_bor, sy_bnot, sy_imax, sy_imin, sy_rlen, sy_slen, sy_sapp, sy_inr, sy_nat, sy_cell0, sy_cellS, sy_skip0, sy_inrn, sy_rapp, sy_fits, sy_cutok, sy_cut, sy_scut, sy_sbyte, sy_mkok, sy_mkok0, sy_mkz, sy_rep, sy_head, sy_deq, eqDs_int, eqDs_nil, opI_int, opB_bool, opS_str, opL_sl, opM_own, leaves_val, leaves_own, Option.bind_some, cutO_bool, bif_bool, cutO_inl, cutO_inr, eF_call, eF_lp, Nat.zero_add, Nat.reduceAdd, Bool.cond_false_right, Bool.cond_true_left, Bool.cond_false_left, Bool.cond_true_right, Bool.not_true, Bool.not_false, Bool.not_not, eq_self, decide_true, decide_false, cond_true, cond_false, Int.reduceEq, Int.reduceLT, Int.reduceLE, Int.reduceSub, Int.reduceAdd, Bool.true_and, Bool.and_true, Bool.false_and, Bool.and_false, Bool.or_false, Bool.false_or, Bool.true_or, Bool.or_true, true_and, and_true, irows_len, ilt_at hjlt, inr_at hjlt, irows_at ht, mval_at, mhas_at, mput_at, wrap_succ hjlt (by omega)]
              cases hq : lk L2 t with
              | none => simp only [sy_wrap, sy_add, sy_sub, sy_mul, sy_ieq, sy_ilt, sy_ile, sy_seq, sy_beq, sy_bor, sy_bnot, sy_imax, sy_imin, sy_rlen, sy_slen, sy_sapp, sy_inr, sy_nat, sy_cell0, sy_cellS, sy_skip0, sy_inrn, sy_rapp, sy_fits, sy_cutok, sy_cut, sy_scut, sy_sbyte, sy_mkok, sy_mkok0, sy_mkz, sy_rep, sy_head, sy_deq, eqDs_int, eqDs_nil, opI_int, opB_bool, opS_str, opL_sl, opM_own, leaves_val, leaves_own, Option.bind_some, cutO_bool, bif_bool, cutO_inl, cutO_inr, eF_call, eF_lp, Nat.zero_add, Nat.reduceAdd, Bool.cond_false_right, Bool.cond_true_left, Bool.cond_false_left, Bool.cond_true_right, Bool.not_true, Bool.not_false, Bool.not_not, eq_self, decide_true, decide_false, cond_true, cond_false, Int.reduceEq, Int.reduceLT, Int.reduceLE, Int.reduceSub, Int.reduceAdd, Bool.true_and, Bool.and_true, Bool.false_and, Bool.and_false, Bool.or_false, Bool.false_or, Bool.true_or, Bool.or_true, true_and, and_true, Option.isSome_none]; rfl
              | some was =>
                have := hwas was hq
                simp only [sy_wrap, sy_add, sy_sub, sy_mul, sy_ieq, sy_ilt, sy_ile, sy_seq, sy_beq, sy_bor, sy_bnot, sy_imax, sy_imin, sy_rlen, sy_slen, sy_sapp, sy_inr, sy_nat, sy_cell0, sy_cellS, sy_skip0, sy_inrn, sy_rapp, sy_fits, sy_cutok, sy_cut, sy_scut, sy_sbyte, sy_mkok, sy_mkok0, sy_mkz, sy_rep, sy_head, sy_deq, eqDs_int, eqDs_nil, opI_int, opB_bool, opS_str, opL_sl, opM_own, leaves_val, leaves_own, Option.bind_some, cutO_bool, bif_bool, cutO_inl, cutO_inr, eF_call, eF_lp, Nat.zero_add, Nat.reduceAdd, Bool.cond_false_right, Bool.cond_true_left, Bool.cond_false_left, Bool.cond_true_right, Bool.not_true, Bool.not_false, Bool.not_not, eq_self, decide_true, decide_false, cond_true, cond_false, Int.reduceEq, Int.reduceLT, Int.reduceLE, Int.reduceSub, Int.reduceAdd, Bool.true_and, Bool.and_true, Bool.false_and, Bool.and_false, Bool.or_false, Bool.false_or, Bool.true_or, Bool.or_true, true_and, and_true, Option.isSome_some, Option.getD_some, c34 was l (by omega)]
                by_cases he : was = l
                · rw [if_pos he, show (was == l) = true from by simp [he]]; rfl
                · rw [if_neg he, show (was == l) = false from by simp [he]]; rfl
            · simp only [sy_wrap, sy_add, sy_sub, sy_mul, sy_ieq, sy_ilt, sy_ile, sy_seq, sy_beq, sy_bor, sy_bnot, sy_imax, sy_imin, sy_rlen, sy_slen, sy_sapp, sy_inr, sy_nat, sy_cell0, sy_cellS, sy_skip0, sy_inrn, sy_rapp, sy_fits, sy_cutok, sy_cut, sy_scut, sy_sbyte, sy_mkok, sy_mkok0, sy_mkz, sy_rep, sy_head, sy_deq, eqDs_int, eqDs_nil, opI_int, opB_bool, opS_str, opL_sl, opM_own, leaves_val, leaves_own, Option.bind_some, cutO_bool, bif_bool, cutO_inl, cutO_inr, eF_call, eF_lp, Nat.zero_add, Nat.reduceAdd, Bool.cond_false_right, Bool.cond_true_left, Bool.cond_false_left, Bool.cond_true_right, Bool.not_true, Bool.not_false, Bool.not_not, eq_self, decide_true, decide_false, cond_true, cond_false, Int.reduceEq, Int.reduceLT, Int.reduceLE, Int.reduceSub, Int.reduceAdd, Bool.true_and, Bool.and_true, Bool.false_and, Bool.and_false, Bool.or_false, Bool.false_or, Bool.true_or, Bool.or_true, true_and, and_true, irows_len, ilt_self, wrap_succ hlt (by omega)]
              rfl
            · rw [lk_del _ _ (by omega)]
              exact hK.1 m hm
  · simp only [sy_wrap, sy_add, sy_sub, sy_mul, sy_ieq, sy_ilt, sy_ile, sy_seq, sy_beq, sy_bor, sy_bnot, sy_imax, sy_imin, sy_rlen, sy_slen, sy_sapp, sy_inr, sy_nat, sy_cell0, sy_cellS, sy_skip0, sy_inrn, sy_rapp, sy_fits, sy_cutok, sy_cut, sy_scut, sy_sbyte, sy_mkok, sy_mkok0, sy_mkz, sy_rep, sy_head, sy_deq, eqDs_int, eqDs_nil, opI_int, opB_bool, opS_str, opL_sl, opM_own, leaves_val, leaves_own, Option.bind_some, cutO_bool, bif_bool, cutO_inl, cutO_inr, eF_call, eF_lp, Nat.zero_add, Nat.reduceAdd, Bool.cond_false_right, Bool.cond_true_left, Bool.cond_false_left, Bool.cond_true_right, Bool.not_true, Bool.not_false, Bool.not_not, eq_self, decide_true, decide_false, cond_true, cond_false, Int.reduceEq, Int.reduceLT, Int.reduceLE, Int.reduceSub, Int.reduceAdd, Bool.true_and, Bool.and_true, Bool.false_and, Bool.and_false, Bool.or_false, Bool.false_or, Bool.true_or, Bool.or_true, true_and, and_true, ilt_self, crows_len]
  · simp only [lk]
    by_cases h0 : (0 : Int) = m
    · rw [if_pos h0, if_pos (by omega)]
    · rw [if_neg h0, if_neg (by omega)]
  · have hm : (if m = 0 then some [] else none) = some row := hm
    by_cases h0 : m = 0
    · rw [if_pos h0] at hm; cases hm; exact ⟨by simp, by simp⟩
    · rw [if_neg h0] at hm; cases hm
end Go.Vm
end

section
set_option maxRecDepth 100000
namespace Go.Vm
open Go.Proofs
def g35 (A : Sy) (E : Env) (x_0 : Int) (x_1 : Int) (x_2 : Int) (x_3 : Int) : Option PRes :=
  cutO (
    bif (A.bnot (A.ieq x_0 1)) then
      some (.inl [(D.bool (A.bnot (A.ieq x_3 0)))])
    else
      some (.inl [(D.bool false)])
  ) fun ds1 =>
  (opB (A.cell ds1 0)).bind fun b2 =>
  cutO (
    bif b2 then
      some (.inl [(D.bool true)])
    else
      bif (A.bnot (A.ieq x_0 8)) then
        bif (A.bnot (A.ieq x_0 9)) then
          some (.inl [(D.bool (A.bnot (A.ieq x_2 0)))])
        else
          some (.inl [(D.bool false)])
      else
        some (.inl [(D.bool false)])
  ) fun ds3 =>
  (opB (A.cell ds3 0)).bind fun b4 =>
  bif b4 then
    some (PRes.val [(D.bool false)])
  else
    bif (A.ieq x_0 1) then
      cutO (
        bif (A.ile 1 x_1) then
          some (.inl [(D.bool (A.ile x_1 1000))])
        else
          some (.inl [(D.bool false)])
      ) fun ds5 =>
      (opB (A.cell ds5 0)).bind fun b6 =>
      some (PRes.val [(D.bool b6)])
    else
      bif (A.ieq x_0 2) then
        (E.call 67 [(V.d (D.int IntKind.i64 x_1))]).bind fun p7 =>
        (opB (A.cell p7.leaves 0)).bind fun b9 =>
        some (PRes.val [(D.bool b9)])
      else
        bif (A.ieq x_0 3) then
          (E.call 67 [(V.d (D.int IntKind.i64 x_1))]).bind fun p10 =>
          (opB (A.cell p10.leaves 0)).bind fun b12 =>
          some (PRes.val [(D.bool b12)])
        else
          bif (A.ieq x_0 6) then
            (E.call 67 [(V.d (D.int IntKind.i64 x_1))]).bind fun p13 =>
            (opB (A.cell p13.leaves 0)).bind fun b15 =>
            some (PRes.val [(D.bool b15)])
          else
            bif (A.ieq x_0 7) then
              (E.call 67 [(V.d (D.int IntKind.i64 x_1))]).bind fun p16 =>
              (opB (A.cell p16.leaves 0)).bind fun b18 =>
              some (PRes.val [(D.bool b18)])
            else
              bif (A.ieq x_0 4) then
                cutO (
                  bif (A.ieq x_1 1) then
                    some (.inl [(D.bool true)])
                  else
                    some (.inl [(D.bool (A.ieq x_1 2))])
                ) fun ds19 =>
                (opB (A.cell ds19 0)).bind fun b20 =>
                some (PRes.val [(D.bool b20)])
              else
                bif (A.ieq x_0 5) then
                  cutO (
                    bif (A.ile 3 x_1) then
                      some (.inl [(D.bool (A.ile x_1 16))])
                    else
                      some (.inl [(D.bool false)])
                  ) fun ds21 =>
                  (opB (A.cell ds21 0)).bind fun b22 =>
                  some (PRes.val [(D.bool b22)])
                else
                  bif (A.ieq x_0 8) then
                    (E.call 67 [(V.d (D.int IntKind.i64 x_1))]).bind fun p23 =>
                    (opB (A.cell p23.leaves 0)).bind fun b25 =>
                    cutO (
                      bif b25 then
                        some (.inl [(D.bool (A.ile 1 x_2))])
                      else
                        some (.inl [(D.bool false)])
                    ) fun ds26 =>
                    (opB (A.cell ds26 0)).bind fun b27 =>
                    cutO (
                      bif b27 then
                        some (.inl [(D.bool (A.ile x_2 8))])
                      else
                        some (.inl [(D.bool false)])
                    ) fun ds28 =>
                    (opB (A.cell ds28 0)).bind fun b29 =>
                    some (PRes.val [(D.bool b29)])
                  else
                    bif (A.ieq x_0 9) then
                      (E.call 67 [(V.d (D.int IntKind.i64 x_1))]).bind fun p30 =>
                      (opB (A.cell p30.leaves 0)).bind fun b32 =>
                      cutO (
                        bif b32 then
                          some (.inl [(D.bool (A.ile 1 x_2))])
                        else
                          some (.inl [(D.bool false)])
                      ) fun ds33 =>
                      (opB (A.cell ds33 0)).bind fun b34 =>
                      cutO (
                        bif b34 then
                          some (.inl [(D.bool (A.ile x_2 8))])
                        else
                          some (.inl [(D.bool false)])
                      ) fun ds35 =>
                      (opB (A.cell ds35 0)).bind fun b36 =>
                      some (PRes.val [(D.bool b36)])
                    else
                      bif (A.ieq x_0 10) then
                        some (PRes.val [(D.bool (A.ieq x_1 0))])
                      else
                        some (PRes.val [(D.bool false)])
theorem g35_eq (A : Sy) (E : Env) (x_0 : Int) (x_1 : Int) (x_2 : Int) (x_3 : Int) : (funT A Try.prog cs 35 [V.agg [V.d (D.int IntKind.i64 x_0), V.d (D.int IntKind.i64 x_1), V.d (D.int IntKind.i64 x_2), V.d (D.int IntKind.i64 x_3)]]).run E = g35 A E x_0 x_1 x_2 x_3 := by kernel_rfl
def g37 (A : Sy) (E : Env) (a_ : List (List D)) (b_ : List (List D)) : Option PRes :=
  bif (A.bnot (A.ieq (A.rlen a_) (A.rlen b_))) then
    some (PRes.val [(D.bool false)])
  else
    E.lp (fun ds1 =>
      (opL (A.cell ds1 0) 1).bind fun l2 =>
      (opL (A.cell ds1 1) 1).bind fun l3 =>
      (opI (A.cell ds1 2) IntKind.i64).bind fun n4 =>
      bif (A.ilt n4 (A.rlen l2)) then
        bif (A.inr n4 (A.rlen l2)) then
          (opI (A.cell (A.row l2 n4) 0) IntKind.i64).bind fun n5 =>
          bif (A.inr n4 (A.rlen l3)) then
            (opI (A.cell (A.row l3 n4) 0) IntKind.i64).bind fun n6 =>
            bif (A.bnot (A.ieq n5 n6)) then
              some (.inr (PRes.val [(D.bool false)]))
            else
              some (.inl [(D.sl 1 l2), (D.sl 1 l3), (D.int IntKind.i64 (A.wrap IntKind.i64 (A.add n4 1)))])
          else
            none
        else
          none
      else
        some (.inr (PRes.val [(D.bool true)]))
    ) [(D.sl 1 a_), (D.sl 1 b_), (D.int IntKind.i64 0)]
theorem g37_eq (A : Sy) (E : Env) (a_ : List (List D)) (b_ : List (List D)) : (funT A Try.prog cs 37 [V.d (D.sl 1 a_), V.d (D.sl 1 b_)]).run E = g37 A E a_ b_ := by kernel_rfl
def g74 (A : Sy) (E : Env) (s_0 : List (List D)) (s_1 : List (List D)) (s_2 : Int) (s_3 : Int) (x_0 : Int) (x_1 : Int) (x_2 : Int) (x_3 : Int) (row_ : List (List D)) : Option PRes :=
  (E.call 102 [(V.agg [(V.d (D.sl 1 s_0)), (V.d (D.sl 1 s_1)), (V.d (D.int IntKind.i64 s_2)), (V.d (D.int IntKind.i64 s_3))]), (V.d (D.int IntKind.i64 x_1)), (V.d (D.int IntKind.i64 (A.imax 1 x_2)))]).bind fun p1 =>
  (opI (A.cell p1.leaves 0) IntKind.i64).bind fun n3 =>
  bif (A.ieq n3 0) then
    some (PRes.val [(D.sl 1 []), (D.bool false)])
  else
    bif (A.ieq x_0 2) then
      (E.call 68 [(V.d (D.sl 1 row_)), (V.d (D.int IntKind.i64 0)), (V.d (D.int IntKind.i64 n3))]).bind fun p4 =>
      (opL (A.cell p4.leaves 0) 1).bind fun l6 =>
      some (PRes.val [(D.sl 1 l6), (D.bool (A.ilt (A.rlen row_) 16))])
    else
      bif (A.ieq x_0 3) then
        (E.call 71 [(V.d (D.sl 1 row_)), (V.d (D.int IntKind.i64 0))]).bind fun p7 =>
        (opI (A.cell p7.leaves 0) IntKind.i64).bind fun n9 =>
        cutO (
          bif (A.bnot (A.ieq n9 n3)) then
            some (.inl [(D.bool true)])
          else
            (E.call 103 [(V.agg [(V.d (D.sl 1 s_0)), (V.d (D.sl 1 s_1)), (V.d (D.int IntKind.i64 s_2)), (V.d (D.int IntKind.i64 s_3))]), (V.d (D.int IntKind.i64 x_1)), (V.d (D.int IntKind.i64 (A.imax 1 x_2)))]).bind fun p10 =>
            (opB (A.cell p10.leaves 0)).bind fun b12 =>
            some (.inl [(D.bool (A.bnot b12))])
        ) fun ds13 =>
        (opB (A.cell ds13 0)).bind fun b14 =>
        bif b14 then
          some (PRes.val [(D.sl 1 []), (D.bool false)])
        else
          (E.call 68 [(V.d (D.sl 1 row_)), (V.d (D.int IntKind.i64 1)), (V.d (D.int IntKind.i64 0))]).bind fun p15 =>
          (opL (A.cell p15.leaves 0) 1).bind fun l17 =>
          some (PRes.val [(D.sl 1 l17), (D.bool true)])
      else
        bif (A.ieq x_0 8) then
          (E.call 71 [(V.d (D.sl 1 row_)), (V.d (D.int IntKind.i64 0))]).bind fun p18 =>
          (opI (A.cell p18.leaves 0) IntKind.i64).bind fun n20 =>
          bif (A.bnot (A.ieq n20 1)) then
            some (PRes.val [(D.sl 1 []), (D.bool false)])
          else
            (E.call 68 [(V.d (D.sl 1 row_)), (V.d (D.int IntKind.i64 1)), (V.d (D.int IntKind.i64 n3))]).bind fun p21 =>
            (opL (A.cell p21.leaves 0) 1).bind fun l23 =>
            some (PRes.val [(D.sl 1 l23), (D.bool true)])
        else
          (E.call 71 [(V.d (D.sl 1 row_)), (V.d (D.int IntKind.i64 0))]).bind fun p24 =>
          (opI (A.cell p24.leaves 0) IntKind.i64).bind fun n26 =>
          cutO (
            bif (A.bnot (A.ieq n26 1)) then
              some (.inl [(D.bool true)])
            else
              (E.call 71 [(V.d (D.sl 1 row_)), (V.d (D.int IntKind.i64 1))]).bind fun p27 =>
              (opI (A.cell p27.leaves 0) IntKind.i64).bind fun n29 =>
              some (.inl [(D.bool (A.bnot (A.ieq n29 n3)))])
          ) fun ds30 =>
          (opB (A.cell ds30 0)).bind fun b31 =>
          cutO (
            bif b31 then
              some (.inl [(D.bool true)])
            else
              (E.call 103 [(V.agg [(V.d (D.sl 1 s_0)), (V.d (D.sl 1 s_1)), (V.d (D.int IntKind.i64 s_2)), (V.d (D.int IntKind.i64 s_3))]), (V.d (D.int IntKind.i64 x_1)), (V.d (D.int IntKind.i64 (A.imax 1 x_2)))]).bind fun p32 =>
              (opB (A.cell p32.leaves 0)).bind fun b34 =>
              some (.inl [(D.bool (A.bnot b34))])
          ) fun ds35 =>
          (opB (A.cell ds35 0)).bind fun b36 =>
          bif b36 then
            some (PRes.val [(D.sl 1 []), (D.bool false)])
          else
            (E.call 68 [(V.d (D.sl 1 row_)), (V.d (D.int IntKind.i64 2)), (V.d (D.int IntKind.i64 0))]).bind fun p37 =>
            (opL (A.cell p37.leaves 0) 1).bind fun l39 =>
            some (PRes.val [(D.sl 1 l39), (D.bool true)])
theorem g74_eq (A : Sy) (E : Env) (s_0 : List (List D)) (s_1 : List (List D)) (s_2 : Int) (s_3 : Int) (x_0 : Int) (x_1 : Int) (x_2 : Int) (x_3 : Int) (row_ : List (List D)) : (funT A Try.prog cs 74 [V.agg [V.d (D.sl 1 s_0), V.d (D.sl 1 s_1), V.d (D.int IntKind.i64 s_2), V.d (D.int IntKind.i64 s_3)], V.agg [V.d (D.int IntKind.i64 x_0), V.d (D.int IntKind.i64 x_1), V.d (D.int IntKind.i64 x_2), V.d (D.int IntKind.i64 x_3)], V.d (D.sl 1 row_)]).run E = g74 A E s_0 s_1 s_2 s_3 x_0 x_1 x_2 x_3 row_ := by kernel_rfl
def g101 (A : Sy) (E : Env) (kind_ : Int) : Option PRes :=
  some (PRes.val [(D.int IntKind.i64 kind_), (D.int IntKind.i64 0), (D.int IntKind.i64 0)])
theorem g101_eq (A : Sy) (E : Env) (kind_ : Int) : (funT A Try.prog cs 101 [V.d (D.int IntKind.i64 kind_)]).run E = g101 A E kind_ := by kernel_rfl
def g102 (A : Sy) (E : Env) (s_0 : List (List D)) (s_1 : List (List D)) (s_2 : Int) (s_3 : Int) (at_ : Int) (n_ : Int) : Option PRes :=
  bif (A.ilt (A.rlen s_1) (A.wrap IntKind.i64 (A.add at_ n_))) then
    some (PRes.val [(D.int IntKind.i64 0)])
  else
    E.lp (fun ds1 =>
      (opI (A.cell ds1 0) IntKind.i64).bind fun n2 =>
      (opI (A.cell ds1 1) IntKind.i64).bind fun n3 =>
      (opI (A.cell ds1 2) IntKind.i64).bind fun n4 =>
      (opL (A.cell ds1 3) 1).bind fun l5 =>
      (opL (A.cell ds1 4) 1).bind fun l6 =>
      (opI (A.cell ds1 5) IntKind.i64).bind fun n7 =>
      (opI (A.cell ds1 6) IntKind.i64).bind fun n8 =>
      bif (A.ilt n4 (A.wrap IntKind.i64 (A.add n2 n3))) then
        bif (A.inr n4 (A.rlen l6)) then
          (opI (A.cell (A.row l6 n4) 0) IntKind.i64).bind fun n9 =>
          bif (A.inr n2 (A.rlen l6)) then
            (opI (A.cell (A.row l6 n2) 0) IntKind.i64).bind fun n10 =>
            bif (A.bnot (A.ieq n9 n10)) then
              some (.inr (PRes.val [(D.int IntKind.i64 0)]))
            else
              some (.inl [(D.int IntKind.i64 n2), (D.int IntKind.i64 n3), (D.int IntKind.i64 (A.wrap IntKind.i64 (A.add n4 1))), (D.sl 1 l5), (D.sl 1 l6), (D.int IntKind.i64 n7), (D.int IntKind.i64 n8)])
          else
            none
        else
          none
      else
        bif (A.inr n2 (A.rlen l6)) then
          (opI (A.cell (A.row l6 n2) 0) IntKind.i64).bind fun n11 =>
          some (.inr (PRes.val [(D.int IntKind.i64 n11)]))
        else
          none
    ) [(D.int IntKind.i64 at_), (D.int IntKind.i64 n_), (D.int IntKind.i64 at_), (D.sl 1 s_0), (D.sl 1 s_1), (D.int IntKind.i64 s_2), (D.int IntKind.i64 s_3)]
theorem g102_eq (A : Sy) (E : Env) (s_0 : List (List D)) (s_1 : List (List D)) (s_2 : Int) (s_3 : Int) (at_ : Int) (n_ : Int) : (funT A Try.prog cs 102 [V.agg [V.d (D.sl 1 s_0), V.d (D.sl 1 s_1), V.d (D.int IntKind.i64 s_2), V.d (D.int IntKind.i64 s_3)], V.d (D.int IntKind.i64 at_), V.d (D.int IntKind.i64 n_)]).run E = g102 A E s_0 s_1 s_2 s_3 at_ n_ := by kernel_rfl
def g103 (A : Sy) (E : Env) (s_0 : List (List D)) (s_1 : List (List D)) (s_2 : Int) (s_3 : Int) (at_ : Int) (n_ : Int) : Option PRes :=
  E.lp (fun ds1 =>
    (opI (A.cell ds1 0) IntKind.i64).bind fun n2 =>
    (opI (A.cell ds1 1) IntKind.i64).bind fun n3 =>
    (opI (A.cell ds1 2) IntKind.i64).bind fun n4 =>
    (opL (A.cell ds1 3) 1).bind fun l5 =>
    (opL (A.cell ds1 4) 1).bind fun l6 =>
    (opI (A.cell ds1 5) IntKind.i64).bind fun n7 =>
    (opI (A.cell ds1 6) IntKind.i64).bind fun n8 =>
    bif (A.ilt n4 (A.wrap IntKind.i64 (A.add n2 n3))) then
      cutO (
        bif (A.ile n7 n4) then
          some (.inl [(D.bool (A.ilt n4 n8))])
        else
          some (.inl [(D.bool false)])
      ) fun ds9 =>
      (opB (A.cell ds9 0)).bind fun b10 =>
      bif b10 then
        some (.inr (PRes.val [(D.bool false)]))
      else
        some (.inl [(D.int IntKind.i64 n2), (D.int IntKind.i64 n3), (D.int IntKind.i64 (A.wrap IntKind.i64 (A.add n4 1))), (D.sl 1 l5), (D.sl 1 l6), (D.int IntKind.i64 n7), (D.int IntKind.i64 n8)])
    else
      some (.inr (PRes.val [(D.bool true)]))
  ) [(D.int IntKind.i64 at_), (D.int IntKind.i64 n_), (D.int IntKind.i64 at_), (D.sl 1 s_0), (D.sl 1 s_1), (D.int IntKind.i64 s_2), (D.int IntKind.i64 s_3)]
theorem g103_eq (A : Sy) (E : Env) (s_0 : List (List D)) (s_1 : List (List D)) (s_2 : Int) (s_3 : Int) (at_ : Int) (n_ : Int) : (funT A Try.prog cs 103 [V.agg [V.d (D.sl 1 s_0), V.d (D.sl 1 s_1), V.d (D.int IntKind.i64 s_2), V.d (D.int IntKind.i64 s_3)], V.d (D.int IntKind.i64 at_), V.d (D.int IntKind.i64 n_)]).run E = g103 A E s_0 s_1 s_2 s_3 at_ n_ := by kernel_rfl
def g11 (A : Sy) (E : Env) : Option PRes :=
  (E.call 12 [(V.agg [(V.d (D.sl 1 [])), (V.d (D.sl 1 [[(D.int IntKind.i64 1)]])), (V.d (D.int IntKind.i64 0)), (V.d (D.int IntKind.i64 0))]), (V.d (D.sl 4 [[(D.int IntKind.i64 1), (D.int IntKind.i64 1), (D.int IntKind.i64 0), (D.int IntKind.i64 5)], [(D.int IntKind.i64 3), (D.int IntKind.i64 0), (D.int IntKind.i64 0), (D.int IntKind.i64 0)], [(D.int IntKind.i64 10), (D.int IntKind.i64 0), (D.int IntKind.i64 0), (D.int IntKind.i64 0)]]))]).bind fun p1 =>
  (opI (A.cell p1.leaves 0) IntKind.i64).bind fun n3 =>
  (opB (A.cell p1.leaves 1)).bind fun b4 =>
  (E.call 12 [(V.agg [(V.d (D.sl 1 [])), (V.d (D.sl 1 [[(D.int IntKind.i64 1)]])), (V.d (D.int IntKind.i64 0)), (V.d (D.int IntKind.i64 0))]), (V.d (D.sl 4 [[(D.int IntKind.i64 3), (D.int IntKind.i64 0), (D.int IntKind.i64 0), (D.int IntKind.i64 0)], [(D.int IntKind.i64 10), (D.int IntKind.i64 0), (D.int IntKind.i64 0), (D.int IntKind.i64 0)]]))]).bind fun p5 =>
  (opI (A.cell p5.leaves 0) IntKind.i64).bind fun n7 =>
  (opB (A.cell p5.leaves 1)).bind fun b8 =>
  cutO (
    bif (A.ieq n3 3) then
      some (.inl [(D.bool b4)])
    else
      some (.inl [(D.bool false)])
  ) fun ds9 =>
  (opB (A.cell ds9 0)).bind fun b10 =>
  cutO (
    bif b10 then
      some (.inl [(D.bool (A.bnot b8))])
    else
      some (.inl [(D.bool false)])
  ) fun ds11 =>
  (opB (A.cell ds11 0)).bind fun b12 =>
  some (PRes.val [(D.bool b12)])
theorem g11_eq (A : Sy) (E : Env) : (funT A Try.prog cs 11 []).run E = g11 A E  := by kernel_rfl
end Go.Vm
end

section
set_option maxRecDepth 100000
namespace Go.Vm
open Go.Proofs
def g4 (A : Sy) (E : Env) (s_0 : List (List D)) (s_1 : List (List D)) (s_2 : Int) (s_3 : Int) (code_ : List (List D)) : Option PRes :=
  (E.call 10 [(V.agg [(V.d (D.sl 1 s_0)), (V.d (D.sl 1 s_1)), (V.d (D.int IntKind.i64 s_2)), (V.d (D.int IntKind.i64 s_3))])]).bind fun p1 =>
  (opB (A.cell p1.leaves 0)).bind fun b3 =>
  cutO (
    bif (A.bnot b3) then
      some (.inl [(D.bool true)])
    else
      some (.inl [(D.bool (A.ilt 400 (A.rlen code_)))])
  ) fun ds4 =>
  (opB (A.cell ds4 0)).bind fun b5 =>
  bif b5 then
    (E.call 11 []).bind fun p6 =>
    (opB (A.cell p6.leaves 0)).bind fun b8 =>
    some (PRes.val [(D.bool b8)])
  else
    (E.call 12 [(V.agg [(V.d (D.sl 1 s_0)), (V.d (D.sl 1 s_1)), (V.d (D.int IntKind.i64 s_2)), (V.d (D.int IntKind.i64 s_3))]), (V.d (D.sl 4 code_))]).bind fun p9 =>
    (opI (A.cell p9.leaves 0) IntKind.i64).bind fun n11 =>
    (opB (A.cell p9.leaves 1)).bind fun b12 =>
    bif (A.bnot b12) then
      cutO (
        bif (A.ile 0 n11) then
          some (.inl [(D.bool (A.ile n11 (A.rlen code_)))])
        else
          some (.inl [(D.bool false)])
      ) fun ds13 =>
      (opB (A.cell ds13 0)).bind fun b14 =>
      cutO (
        bif b14 then
          (E.call 11 []).bind fun p15 =>
          (opB (A.cell p15.leaves 0)).bind fun b17 =>
          some (.inl [(D.bool b17)])
        else
          some (.inl [(D.bool false)])
      ) fun ds18 =>
      (opB (A.cell ds18 0)).bind fun b19 =>
      some (PRes.val [(D.bool b19)])
    else
      E.lp (fun ds20 =>
        (opL (A.cell ds20 0) 4).bind fun l21 =>
        (opI (A.cell ds20 1) IntKind.i64).bind fun n22 =>
        (opI (A.cell ds20 2) IntKind.i64).bind fun n23 =>
        (opL (A.cell ds20 3) 1).bind fun l24 =>
        (opL (A.cell ds20 4) 1).bind fun l25 =>
        (opI (A.cell ds20 5) IntKind.i64).bind fun n26 =>
        (opI (A.cell ds20 6) IntKind.i64).bind fun n27 =>
        bif (A.ilt n23 (A.rlen l21)) then
          bif (A.inr n23 (A.rlen l21)) then
            (opI (A.cell (A.row l21 n23) 0) IntKind.i64).bind fun n28 =>
            (opI (A.cell (A.row l21 n23) 1) IntKind.i64).bind fun n29 =>
            (opI (A.cell (A.row l21 n23) 2) IntKind.i64).bind fun n30 =>
            (opI (A.cell (A.row l21 n23) 3) IntKind.i64).bind fun n31 =>
            cutO (
              bif (A.bnot (A.beq (A.ieq n28 10) (A.ieq n23 (A.wrap IntKind.i64 (A.sub (A.rlen l21) 1))))) then
                some (.inl [(D.bool true)])
              else
                bif (A.ieq n28 6) then
                  bif (A.ile n29 n23) then
                    some (.inl [(D.bool true)])
                  else
                    some (.inl [(D.bool (A.ile (A.rlen l21) n29))])
                else
                  bif (A.ieq n28 7) then
                    bif (A.ile n29 n23) then
                      some (.inl [(D.bool true)])
                    else
                      some (.inl [(D.bool (A.ile (A.rlen l21) n29))])
                  else
                    some (.inl [(D.bool false)])
            ) fun ds32 =>
            (opB (A.cell ds32 0)).bind fun b33 =>
            bif b33 then
              some (.inr (PRes.val [(D.bool false)]))
            else
              cutO (
                bif (A.ieq n28 2) then
                  some (.inl [(D.bool true)])
                else
                  some (.inl [(D.bool (A.ieq n28 3))])
              ) fun ds34 =>
              (opB (A.cell ds34 0)).bind fun b35 =>
              cutO (
                bif b35 then
                  bif (A.ilt n29 0) then
                    some (.inl [(D.bool true)])
                  else
                    some (.inl [(D.bool (A.ile (A.rlen l25) n29))])
                else
                  some (.inl [(D.bool false)])
              ) fun ds36 =>
              (opB (A.cell ds36 0)).bind fun b37 =>
              bif b37 then
                some (.inr (PRes.val [(D.bool false)]))
              else
                cutO (
                  bif (A.ieq n28 3) then
                    some (.inl [(D.bool true)])
                  else
                    some (.inl [(D.bool (A.ieq n28 9))])
                ) fun ds38 =>
                (opB (A.cell ds38 0)).bind fun b39 =>
                cutO (
                  bif b39 then
                    some (.inl [(D.bool (A.ile n26 n29))])
                  else
                    some (.inl [(D.bool false)])
                ) fun ds40 =>
                (opB (A.cell ds40 0)).bind fun b41 =>
                cutO (
                  bif b41 then
                    some (.inl [(D.bool (A.ilt n29 n27))])
                  else
                    some (.inl [(D.bool false)])
                ) fun ds42 =>
                (opB (A.cell ds42 0)).bind fun b43 =>
                bif b43 then
                  some (.inr (PRes.val [(D.bool false)]))
                else
                  some (.inl [(D.sl 4 l21), (D.int IntKind.i64 n22), (D.int IntKind.i64 (A.wrap IntKind.i64 (A.add n23 1))), (D.sl 1 l24), (D.sl 1 l25), (D.int IntKind.i64 n26), (D.int IntKind.i64 n27)])
          else
            none
        else
          cutO (
            bif (A.ieq n22 (A.rlen l21)) then
              (E.call 11 []).bind fun p44 =>
              (opB (A.cell p44.leaves 0)).bind fun b46 =>
              some (.inl [(D.bool b46)])
            else
              some (.inl [(D.bool false)])
          ) fun ds47 =>
          (opB (A.cell ds47 0)).bind fun b48 =>
          some (.inr (PRes.val [(D.bool b48)]))
      ) [(D.sl 4 code_), (D.int IntKind.i64 n11), (D.int IntKind.i64 0), (D.sl 1 s_0), (D.sl 1 s_1), (D.int IntKind.i64 s_2), (D.int IntKind.i64 s_3)]
theorem g4_eq (A : Sy) (E : Env) (s_0 : List (List D)) (s_1 : List (List D)) (s_2 : Int) (s_3 : Int) (code_ : List (List D)) : (funT A Try.prog cs 4 [V.agg [V.d (D.sl 1 s_0), V.d (D.sl 1 s_1), V.d (D.int IntKind.i64 s_2), V.d (D.int IntKind.i64 s_3)], V.d (D.sl 4 code_)]).run E = g4 A E s_0 s_1 s_2 s_3 code_ := by kernel_rfl
def g3 (A : Sy) (E : Env) (s_0 : List (List D)) (s_1 : List (List D)) (s_2 : Int) (s_3 : Int) (code_ : List (List D)) : Option PRes :=
  (E.call 10 [(V.agg [(V.d (D.sl 1 s_0)), (V.d (D.sl 1 s_1)), (V.d (D.int IntKind.i64 s_2)), (V.d (D.int IntKind.i64 s_3))])]).bind fun p1 =>
  (opB (A.cell p1.leaves 0)).bind fun b3 =>
  cutO (
    bif (A.bnot b3) then
      some (.inl [(D.bool true)])
    else
      some (.inl [(D.bool (A.ilt 400 (A.rlen code_)))])
  ) fun ds4 =>
  (opB (A.cell ds4 0)).bind fun b5 =>
  bif b5 then
    (E.call 11 []).bind fun p6 =>
    (opB (A.cell p6.leaves 0)).bind fun b8 =>
    some (PRes.val [(D.bool b8)])
  else
    (E.call 12 [(V.agg [(V.d (D.sl 1 s_0)), (V.d (D.sl 1 s_1)), (V.d (D.int IntKind.i64 s_2)), (V.d (D.int IntKind.i64 s_3))]), (V.d (D.sl 4 code_))]).bind fun p9 =>
    (opI (A.cell p9.leaves 0) IntKind.i64).bind fun n11 =>
    (opB (A.cell p9.leaves 1)).bind fun b12 =>
    (E.call 13 [(V.agg [(V.d (D.sl 1 s_0)), (V.d (D.sl 1 s_1)), (V.d (D.int IntKind.i64 s_2)), (V.d (D.int IntKind.i64 s_3))]), (V.d (D.sl 4 code_))]).bind fun p13 =>
    (opI (A.cell p13.leaves 0) IntKind.i64).bind fun n15 =>
    (opB (A.cell p13.leaves 1)).bind fun b16 =>
    bif (A.ieq n11 n15) then
      bif (A.beq b12 b16) then
        (E.call 14 [(V.agg [(V.d (D.sl 1 s_0)), (V.d (D.sl 1 s_1)), (V.d (D.int IntKind.i64 s_2)), (V.d (D.int IntKind.i64 s_3))])]).bind fun p17 =>
        (opB (A.cell p17.leaves 0)).bind fun b19 =>
        (E.call 15 [(V.agg [(V.d (D.sl 1 s_0)), (V.d (D.sl 1 s_1)), (V.d (D.int IntKind.i64 s_2)), (V.d (D.int IntKind.i64 s_3))])]).bind fun p20 =>
        (opB (A.cell p20.leaves 0)).bind fun b22 =>
        bif (A.beq b19 b22) then
          (E.call 11 []).bind fun p23 =>
          (opB (A.cell p23.leaves 0)).bind fun b25 =>
          some (PRes.val [(D.bool b25)])
        else
          some (PRes.val [(D.bool false)])
      else
        some (PRes.val [(D.bool false)])
    else
      some (PRes.val [(D.bool false)])
theorem g3_eq (A : Sy) (E : Env) (s_0 : List (List D)) (s_1 : List (List D)) (s_2 : Int) (s_3 : Int) (code_ : List (List D)) : (funT A Try.prog cs 3 [V.agg [V.d (D.sl 1 s_0), V.d (D.sl 1 s_1), V.d (D.int IntKind.i64 s_2), V.d (D.int IntKind.i64 s_3)], V.d (D.sl 4 code_)]).run E = g3 A E s_0 s_1 s_2 s_3 code_ := by kernel_rfl
def g73 (A : Sy) (E : Env) (op_ : Int) (t_0 : Int) (t_1 : Int) (t_2 : Int) (u_0 : Int) (u_1 : Int) (u_2 : Int) : Option PRes :=
  (E.call 101 [(V.d (D.int IntKind.i64 1))]).bind fun p1 =>
  (opI (A.cell p1.leaves 0) IntKind.i64).bind fun n3 =>
  (opI (A.cell p1.leaves 1) IntKind.i64).bind fun n4 =>
  (opI (A.cell p1.leaves 2) IntKind.i64).bind fun n5 =>
  bif (A.deq [(D.int IntKind.i64 t_0), (D.int IntKind.i64 t_1), (D.int IntKind.i64 t_2)] [(D.int IntKind.i64 n3), (D.int IntKind.i64 n4), (D.int IntKind.i64 n5)]) then
    (E.call 101 [(V.d (D.int IntKind.i64 1))]).bind fun p6 =>
    (opI (A.cell p6.leaves 0) IntKind.i64).bind fun n8 =>
    (opI (A.cell p6.leaves 1) IntKind.i64).bind fun n9 =>
    (opI (A.cell p6.leaves 2) IntKind.i64).bind fun n10 =>
    (E.call 101 [(V.d (D.int IntKind.i64 2))]).bind fun p11 =>
    (opI (A.cell p11.leaves 0) IntKind.i64).bind fun n13 =>
    (opI (A.cell p11.leaves 1) IntKind.i64).bind fun n14 =>
    (opI (A.cell p11.leaves 2) IntKind.i64).bind fun n15 =>
    bif (A.deq [(D.int IntKind.i64 t_0), (D.int IntKind.i64 t_1), (D.int IntKind.i64 t_2)] [(D.int IntKind.i64 n13), (D.int IntKind.i64 n14), (D.int IntKind.i64 n15)]) then
      (E.call 101 [(V.d (D.int IntKind.i64 2))]).bind fun p16 =>
      (opI (A.cell p16.leaves 0) IntKind.i64).bind fun n18 =>
      (opI (A.cell p16.leaves 1) IntKind.i64).bind fun n19 =>
      (opI (A.cell p16.leaves 2) IntKind.i64).bind fun n20 =>
      cutO (
        bif (A.ile 3 op_) then
          some (.inl [(D.bool (A.ile op_ 7))])
        else
          some (.inl [(D.bool false)])
      ) fun ds21 =>
      (opB (A.cell ds21 0)).bind fun b22 =>
      cutO (
        bif b22 then
          some (.inl [(D.bool (A.deq [(D.int IntKind.i64 u_0), (D.int IntKind.i64 u_1), (D.int IntKind.i64 u_2)] [(D.int IntKind.i64 n8), (D.int IntKind.i64 n9), (D.int IntKind.i64 n10)]))])
        else
          some (.inl [(D.bool false)])
      ) fun ds23 =>
      (opB (A.cell ds23 0)).bind fun b24 =>
      bif b24 then
        (E.call 101 [(V.d (D.int IntKind.i64 1))]).bind fun p25 =>
        (opI (A.cell p25.leaves 0) IntKind.i64).bind fun n27 =>
        (opI (A.cell p25.leaves 1) IntKind.i64).bind fun n28 =>
        (opI (A.cell p25.leaves 2) IntKind.i64).bind fun n29 =>
        some (PRes.val [(D.int IntKind.i64 n27), (D.int IntKind.i64 n28), (D.int IntKind.i64 n29), (D.bool true)])
      else
        cutO (
          bif (A.ile 8 op_) then
            some (.inl [(D.bool (A.ile op_ 10))])
          else
            some (.inl [(D.bool false)])
        ) fun ds30 =>
        (opB (A.cell ds30 0)).bind fun b31 =>
        cutO (
          bif b31 then
            some (.inl [(D.bool (A.deq [(D.int IntKind.i64 u_0), (D.int IntKind.i64 u_1), (D.int IntKind.i64 u_2)] [(D.int IntKind.i64 n18), (D.int IntKind.i64 n19), (D.int IntKind.i64 n20)]))])
          else
            some (.inl [(D.bool false)])
        ) fun ds32 =>
        (opB (A.cell ds32 0)).bind fun b33 =>
        cutO (
          bif b33 then
            some (.inl [(D.bool true)])
          else
            bif (A.ile 13 op_) then
              bif (A.ile op_ 16) then
                some (.inl [(D.bool (A.deq [(D.int IntKind.i64 u_0), (D.int IntKind.i64 u_1), (D.int IntKind.i64 u_2)] [(D.int IntKind.i64 n8), (D.int IntKind.i64 n9), (D.int IntKind.i64 n10)]))])
              else
                some (.inl [(D.bool false)])
            else
              some (.inl [(D.bool false)])
        ) fun ds34 =>
        (opB (A.cell ds34 0)).bind fun b35 =>
        cutO (
          bif b35 then
            some (.inl [(D.bool true)])
          else
            bif (A.ieq op_ 11) then
              bif (A.deq [(D.int IntKind.i64 t_0), (D.int IntKind.i64 t_1), (D.int IntKind.i64 t_2)] [(D.int IntKind.i64 u_0), (D.int IntKind.i64 u_1), (D.int IntKind.i64 u_2)]) then
                some (.inl [(D.bool (A.ieq t_2 0))])
              else
                some (.inl [(D.bool false)])
            else
              bif (A.ieq op_ 12) then
                bif (A.deq [(D.int IntKind.i64 t_0), (D.int IntKind.i64 t_1), (D.int IntKind.i64 t_2)] [(D.int IntKind.i64 u_0), (D.int IntKind.i64 u_1), (D.int IntKind.i64 u_2)]) then
                  some (.inl [(D.bool (A.ieq t_2 0))])
                else
                  some (.inl [(D.bool false)])
              else
                some (.inl [(D.bool false)])
        ) fun ds36 =>
        (opB (A.cell ds36 0)).bind fun b37 =>
        bif b37 then
          (E.call 101 [(V.d (D.int IntKind.i64 2))]).bind fun p38 =>
          (opI (A.cell p38.leaves 0) IntKind.i64).bind fun n40 =>
          (opI (A.cell p38.leaves 1) IntKind.i64).bind fun n41 =>
          (opI (A.cell p38.leaves 2) IntKind.i64).bind fun n42 =>
          some (PRes.val [(D.int IntKind.i64 n40), (D.int IntKind.i64 n41), (D.int IntKind.i64 n42), (D.bool true)])
        else
          some (PRes.val [(D.int IntKind.i64 0), (D.int IntKind.i64 0), (D.int IntKind.i64 0), (D.bool false)])
    else
      cutO (
        bif (A.ile 3 op_) then
          some (.inl [(D.bool (A.ile op_ 7))])
        else
          some (.inl [(D.bool false)])
      ) fun ds43 =>
      (opB (A.cell ds43 0)).bind fun b44 =>
      cutO (
        bif b44 then
          some (.inl [(D.bool (A.deq [(D.int IntKind.i64 u_0), (D.int IntKind.i64 u_1), (D.int IntKind.i64 u_2)] [(D.int IntKind.i64 n8), (D.int IntKind.i64 n9), (D.int IntKind.i64 n10)]))])
        else
          some (.inl [(D.bool false)])
      ) fun ds45 =>
      (opB (A.cell ds45 0)).bind fun b46 =>
      bif b46 then
        (E.call 101 [(V.d (D.int IntKind.i64 1))]).bind fun p47 =>
        (opI (A.cell p47.leaves 0) IntKind.i64).bind fun n49 =>
        (opI (A.cell p47.leaves 1) IntKind.i64).bind fun n50 =>
        (opI (A.cell p47.leaves 2) IntKind.i64).bind fun n51 =>
        some (PRes.val [(D.int IntKind.i64 n49), (D.int IntKind.i64 n50), (D.int IntKind.i64 n51), (D.bool true)])
      else
        cutO (
          bif (A.ile 8 op_) then
            some (.inl [(D.bool (A.ile op_ 10))])
          else
            some (.inl [(D.bool false)])
        ) fun ds52 =>
        (opB (A.cell ds52 0)).bind fun b53 =>
        cutO (
          bif b53 then
            some (.inl [(D.bool false)])
          else
            some (.inl [(D.bool false)])
        ) fun ds54 =>
        (opB (A.cell ds54 0)).bind fun b55 =>
        cutO (
          bif b55 then
            some (.inl [(D.bool true)])
          else
            bif (A.ile 13 op_) then
              bif (A.ile op_ 16) then
                some (.inl [(D.bool (A.deq [(D.int IntKind.i64 u_0), (D.int IntKind.i64 u_1), (D.int IntKind.i64 u_2)] [(D.int IntKind.i64 n8), (D.int IntKind.i64 n9), (D.int IntKind.i64 n10)]))])
              else
                some (.inl [(D.bool false)])
            else
              some (.inl [(D.bool false)])
        ) fun ds56 =>
        (opB (A.cell ds56 0)).bind fun b57 =>
        cutO (
          bif b57 then
            some (.inl [(D.bool true)])
          else
            bif (A.ieq op_ 11) then
              bif (A.deq [(D.int IntKind.i64 t_0), (D.int IntKind.i64 t_1), (D.int IntKind.i64 t_2)] [(D.int IntKind.i64 u_0), (D.int IntKind.i64 u_1), (D.int IntKind.i64 u_2)]) then
                some (.inl [(D.bool (A.ieq t_2 0))])
              else
                some (.inl [(D.bool false)])
            else
              bif (A.ieq op_ 12) then
                bif (A.deq [(D.int IntKind.i64 t_0), (D.int IntKind.i64 t_1), (D.int IntKind.i64 t_2)] [(D.int IntKind.i64 u_0), (D.int IntKind.i64 u_1), (D.int IntKind.i64 u_2)]) then
                  some (.inl [(D.bool (A.ieq t_2 0))])
                else
                  some (.inl [(D.bool false)])
              else
                some (.inl [(D.bool false)])
        ) fun ds58 =>
        (opB (A.cell ds58 0)).bind fun b59 =>
        bif b59 then
          (E.call 101 [(V.d (D.int IntKind.i64 2))]).bind fun p60 =>
          (opI (A.cell p60.leaves 0) IntKind.i64).bind fun n62 =>
          (opI (A.cell p60.leaves 1) IntKind.i64).bind fun n63 =>
          (opI (A.cell p60.leaves 2) IntKind.i64).bind fun n64 =>
          some (PRes.val [(D.int IntKind.i64 n62), (D.int IntKind.i64 n63), (D.int IntKind.i64 n64), (D.bool true)])
        else
          some (PRes.val [(D.int IntKind.i64 0), (D.int IntKind.i64 0), (D.int IntKind.i64 0), (D.bool false)])
  else
    (E.call 101 [(V.d (D.int IntKind.i64 2))]).bind fun p65 =>
    (opI (A.cell p65.leaves 0) IntKind.i64).bind fun n67 =>
    (opI (A.cell p65.leaves 1) IntKind.i64).bind fun n68 =>
    (opI (A.cell p65.leaves 2) IntKind.i64).bind fun n69 =>
    bif (A.deq [(D.int IntKind.i64 t_0), (D.int IntKind.i64 t_1), (D.int IntKind.i64 t_2)] [(D.int IntKind.i64 n67), (D.int IntKind.i64 n68), (D.int IntKind.i64 n69)]) then
      (E.call 101 [(V.d (D.int IntKind.i64 2))]).bind fun p70 =>
      (opI (A.cell p70.leaves 0) IntKind.i64).bind fun n72 =>
      (opI (A.cell p70.leaves 1) IntKind.i64).bind fun n73 =>
      (opI (A.cell p70.leaves 2) IntKind.i64).bind fun n74 =>
      cutO (
        bif (A.ile 3 op_) then
          some (.inl [(D.bool (A.ile op_ 7))])
        else
          some (.inl [(D.bool false)])
      ) fun ds75 =>
      (opB (A.cell ds75 0)).bind fun b76 =>
      cutO (
        bif b76 then
          some (.inl [(D.bool false)])
        else
          some (.inl [(D.bool false)])
      ) fun ds77 =>
      (opB (A.cell ds77 0)).bind fun b78 =>
      bif b78 then
        (E.call 101 [(V.d (D.int IntKind.i64 1))]).bind fun p79 =>
        (opI (A.cell p79.leaves 0) IntKind.i64).bind fun n81 =>
        (opI (A.cell p79.leaves 1) IntKind.i64).bind fun n82 =>
        (opI (A.cell p79.leaves 2) IntKind.i64).bind fun n83 =>
        some (PRes.val [(D.int IntKind.i64 n81), (D.int IntKind.i64 n82), (D.int IntKind.i64 n83), (D.bool true)])
      else
        cutO (
          bif (A.ile 8 op_) then
            some (.inl [(D.bool (A.ile op_ 10))])
          else
            some (.inl [(D.bool false)])
        ) fun ds84 =>
        (opB (A.cell ds84 0)).bind fun b85 =>
        cutO (
          bif b85 then
            some (.inl [(D.bool (A.deq [(D.int IntKind.i64 u_0), (D.int IntKind.i64 u_1), (D.int IntKind.i64 u_2)] [(D.int IntKind.i64 n72), (D.int IntKind.i64 n73), (D.int IntKind.i64 n74)]))])
          else
            some (.inl [(D.bool false)])
        ) fun ds86 =>
        (opB (A.cell ds86 0)).bind fun b87 =>
        cutO (
          bif b87 then
            some (.inl [(D.bool true)])
          else
            bif (A.ile 13 op_) then
              bif (A.ile op_ 16) then
                some (.inl [(D.bool false)])
              else
                some (.inl [(D.bool false)])
            else
              some (.inl [(D.bool false)])
        ) fun ds88 =>
        (opB (A.cell ds88 0)).bind fun b89 =>
        cutO (
          bif b89 then
            some (.inl [(D.bool true)])
          else
            bif (A.ieq op_ 11) then
              bif (A.deq [(D.int IntKind.i64 t_0), (D.int IntKind.i64 t_1), (D.int IntKind.i64 t_2)] [(D.int IntKind.i64 u_0), (D.int IntKind.i64 u_1), (D.int IntKind.i64 u_2)]) then
                some (.inl [(D.bool (A.ieq t_2 0))])
              else
                some (.inl [(D.bool false)])
            else
              bif (A.ieq op_ 12) then
                bif (A.deq [(D.int IntKind.i64 t_0), (D.int IntKind.i64 t_1), (D.int IntKind.i64 t_2)] [(D.int IntKind.i64 u_0), (D.int IntKind.i64 u_1), (D.int IntKind.i64 u_2)]) then
                  some (.inl [(D.bool (A.ieq t_2 0))])
                else
                  some (.inl [(D.bool false)])
              else
                some (.inl [(D.bool false)])
        ) fun ds90 =>
        (opB (A.cell ds90 0)).bind fun b91 =>
        bif b91 then
          (E.call 101 [(V.d (D.int IntKind.i64 2))]).bind fun p92 =>
          (opI (A.cell p92.leaves 0) IntKind.i64).bind fun n94 =>
          (opI (A.cell p92.leaves 1) IntKind.i64).bind fun n95 =>
          (opI (A.cell p92.leaves 2) IntKind.i64).bind fun n96 =>
          some (PRes.val [(D.int IntKind.i64 n94), (D.int IntKind.i64 n95), (D.int IntKind.i64 n96), (D.bool true)])
        else
          some (PRes.val [(D.int IntKind.i64 0), (D.int IntKind.i64 0), (D.int IntKind.i64 0), (D.bool false)])
    else
      cutO (
        bif (A.ile 3 op_) then
          some (.inl [(D.bool (A.ile op_ 7))])
        else
          some (.inl [(D.bool false)])
      ) fun ds97 =>
      (opB (A.cell ds97 0)).bind fun b98 =>
      cutO (
        bif b98 then
          some (.inl [(D.bool false)])
        else
          some (.inl [(D.bool false)])
      ) fun ds99 =>
      (opB (A.cell ds99 0)).bind fun b100 =>
      bif b100 then
        (E.call 101 [(V.d (D.int IntKind.i64 1))]).bind fun p101 =>
        (opI (A.cell p101.leaves 0) IntKind.i64).bind fun n103 =>
        (opI (A.cell p101.leaves 1) IntKind.i64).bind fun n104 =>
        (opI (A.cell p101.leaves 2) IntKind.i64).bind fun n105 =>
        some (PRes.val [(D.int IntKind.i64 n103), (D.int IntKind.i64 n104), (D.int IntKind.i64 n105), (D.bool true)])
      else
        cutO (
          bif (A.ile 8 op_) then
            some (.inl [(D.bool (A.ile op_ 10))])
          else
            some (.inl [(D.bool false)])
        ) fun ds106 =>
        (opB (A.cell ds106 0)).bind fun b107 =>
        cutO (
          bif b107 then
            some (.inl [(D.bool false)])
          else
            some (.inl [(D.bool false)])
        ) fun ds108 =>
        (opB (A.cell ds108 0)).bind fun b109 =>
        cutO (
          bif b109 then
            some (.inl [(D.bool true)])
          else
            bif (A.ile 13 op_) then
              bif (A.ile op_ 16) then
                some (.inl [(D.bool false)])
              else
                some (.inl [(D.bool false)])
            else
              some (.inl [(D.bool false)])
        ) fun ds110 =>
        (opB (A.cell ds110 0)).bind fun b111 =>
        cutO (
          bif b111 then
            some (.inl [(D.bool true)])
          else
            bif (A.ieq op_ 11) then
              bif (A.deq [(D.int IntKind.i64 t_0), (D.int IntKind.i64 t_1), (D.int IntKind.i64 t_2)] [(D.int IntKind.i64 u_0), (D.int IntKind.i64 u_1), (D.int IntKind.i64 u_2)]) then
                some (.inl [(D.bool (A.ieq t_2 0))])
              else
                some (.inl [(D.bool false)])
            else
              bif (A.ieq op_ 12) then
                bif (A.deq [(D.int IntKind.i64 t_0), (D.int IntKind.i64 t_1), (D.int IntKind.i64 t_2)] [(D.int IntKind.i64 u_0), (D.int IntKind.i64 u_1), (D.int IntKind.i64 u_2)]) then
                  some (.inl [(D.bool (A.ieq t_2 0))])
                else
                  some (.inl [(D.bool false)])
              else
                some (.inl [(D.bool false)])
        ) fun ds112 =>
        (opB (A.cell ds112 0)).bind fun b113 =>
        bif b113 then
          (E.call 101 [(V.d (D.int IntKind.i64 2))]).bind fun p114 =>
          (opI (A.cell p114.leaves 0) IntKind.i64).bind fun n116 =>
          (opI (A.cell p114.leaves 1) IntKind.i64).bind fun n117 =>
          (opI (A.cell p114.leaves 2) IntKind.i64).bind fun n118 =>
          some (PRes.val [(D.int IntKind.i64 n116), (D.int IntKind.i64 n117), (D.int IntKind.i64 n118), (D.bool true)])
        else
          some (PRes.val [(D.int IntKind.i64 0), (D.int IntKind.i64 0), (D.int IntKind.i64 0), (D.bool false)])
theorem g73_eq (A : Sy) (E : Env) (op_ : Int) (t_0 : Int) (t_1 : Int) (t_2 : Int) (u_0 : Int) (u_1 : Int) (u_2 : Int) : (funT A Try.prog cs 73 [V.d (D.int IntKind.i64 op_), V.agg [V.d (D.int IntKind.i64 t_0), V.d (D.int IntKind.i64 t_1), V.d (D.int IntKind.i64 t_2)], V.agg [V.d (D.int IntKind.i64 u_0), V.d (D.int IntKind.i64 u_1), V.d (D.int IntKind.i64 u_2)]]).run E = g73 A E op_ t_0 t_1 t_2 u_0 u_1 u_2 := by kernel_rfl
end Go.Vm
end

section
set_option maxRecDepth 100000
set_option maxHeartbeats 2000000
namespace Go.Vm
open Go.Proofs
def liveA : List Ins := [⟨1, 1, 0, 5⟩, ⟨3, 0, 0, 0⟩, ⟨10, 0, 0, 0⟩]
def liveB : List Ins := [⟨3, 0, 0, 0⟩, ⟨10, 0, 0, 0⟩]
theorem liveA_ok : checkS ⟨[], [1], 0, 0⟩ liveA = (3, true) := by kernel_rfl
theorem liveB_ok : (checkS ⟨[], [1], 0, 0⟩ liveB).2 = false := by kernel_rfl
theorem c11 : cF 11 [] = some (.val [.bool true]) := by
  have h1 := c12 [] [1] 0 0 liveA (by simp) (by simp) (by simp [liveA])
  have h2 := c12 [] [1] 0 0 liveB (by simp) (by simp) (by simp [liveB])
  rw [liveA_ok] at h1
  unfold chR at h2
  rw [liveB_ok] at h2
  unfold chR at h1
  generalize (checkS ⟨[], [1], 0, 0⟩ liveB).1 = z at h2
  have h1 : cF 12 [V.agg [V.d (D.sl 1 []), V.d (D.sl 1 [[D.int .i64 1]]), V.d (D.int .i64 0), V.d (D.int .i64 0)], V.d (D.sl 4 [[D.int .i64 1, D.int .i64 1, D.int .i64 0, D.int .i64 5], [D.int .i64 3, D.int .i64 0, D.int .i64 0, D.int .i64 0], [D.int .i64 10, D.int .i64 0, D.int .i64 0, D.int .i64 0]])] = some (.val [.int .i64 3, .bool true]) := h1
  have h2 : cF 12 [V.agg [V.d (D.sl 1 []), V.d (D.sl 1 [[D.int .i64 1]]), V.d (D.int .i64 0), V.d (D.int .i64 0)], V.d (D.sl 4 [[D.int .i64 3, D.int .i64 0, D.int .i64 0, D.int .i64 0], [D.int .i64 10, D.int .i64 0, D.int .i64 0, D.int .i64 0]])] = some (.val [.int .i64 z, .bool false]) := h2
  refine cOf (by kernel_rfl) ?_
  rw [g11_eq]
  simp only [g11, sy_wrap, sy_add, sy_sub, sy_mul, sy_ieq, sy_ilt, sy_ile, sy_seq, sy_beq, sy_bor, sy_bnot, sy_imax, sy_imin, sy_rlen, sy_slen, sy_sapp, sy_inr, sy_nat, sy_cell0, sy_cellS, sy_skip0, sy_inrn, sy_rapp, sy_fits, sy_cutok, sy_cut, sy_scut, sy_sbyte, sy_mkok, sy_mkok0, sy_mkz, sy_rep, sy_head, sy_deq, eqDs_int, eqDs_nil, opI_int, opB_bool, opS_str, opL_sl, opM_own, leaves_val, leaves_own, Option.bind_some, cutO_bool, bif_bool, cutO_inl, cutO_inr, eF_call, eF_lp, Nat.zero_add, Nat.reduceAdd, Bool.cond_false_right, Bool.cond_true_left, Bool.cond_false_left, Bool.cond_true_right, Bool.not_true, Bool.not_false, Bool.not_not, eq_self, decide_true, decide_false, cond_true, cond_false, Int.reduceEq, Int.reduceLT, Int.reduceLE, Int.reduceSub, Int.reduceAdd, Bool.true_and, Bool.and_true, Bool.false_and, Bool.and_false, Bool.or_false, Bool.false_or, Bool.true_or, Bool.or_true, true_and, and_true, h1, h2]
end Go.Vm
end

section
set_option maxRecDepth 100000
set_option maxHeartbeats 2000000
namespace Go.Vm
open Go.Proofs
/-- A loop that goes along a list to its end. -/
theorem through {τ α : Type} {b : List D → Option (List D ⊕ α)} {r : α} (l : List τ) (mk : Nat → List D)
    (hb : ∀ i x, l[i]? = some x → b (mk i) = some (.inl (mk (i + 1)))) (hend : b (mk l.length) = some (.inr r)) : loopF b (mk 0) = some r := by
  refine loopF_at mk (fun i => i ≤ l.length) (fun i => l.length - i) (fun i hi => ?_) 0 (Nat.zero_le _)
  by_cases h : i < l.length
  · exact .inl ⟨i + 1, hb i l[i] (List.getElem?_eq_getElem h), h, by omega⟩
  · have : i = l.length := by omega
    subst this
    exact .inr hend
theorem c4 (la lb : List Int) (lo hi : Int) (code : List Ins) : cF 4 [shV (irows la) (irows lb) lo hi, .d (.sl 4 (crows code))] = some (.val [.bool true]) := by
  have h10 := c10 (irows la) (irows lb) lo hi
  rw [irows_len, irows_len] at h10
  by_cases hs : ¬ (la.length ≤ 10 ∧ lb.length ≤ 1100)
  · have hd : (decide ((la.length : Int) ≤ 10) && decide ((lb.length : Int) ≤ 1100)) = false := by
      rw [Bool.and_eq_false_iff, decide_eq_false_iff_not, decide_eq_false_iff_not]; omega
    rw [hd] at h10
    unfold shV at *
    refine cOf (by kernel_rfl) ?_
    rw [g4_eq]
    simp only [g4, sy_wrap, sy_add, sy_sub, sy_mul, sy_ieq, sy_ilt, sy_ile, sy_seq, sy_beq, sy_bor, sy_bnot, sy_imax, sy_imin, sy_rlen, sy_slen, sy_sapp, sy_inr, sy_nat, sy_cell0, sy_cellS, sy_skip0, sy_inrn, sy_rapp, sy_fits, sy_cutok, sy_cut, sy_scut, sy_sbyte, sy_mkok, sy_mkok0, sy_mkz, sy_rep, sy_head, sy_deq, eqDs_int, eqDs_nil, opI_int, opB_bool, opS_str, opL_sl, opM_own, leaves_val, leaves_own, Option.bind_some, cutO_bool, bif_bool, cutO_inl, cutO_inr, eF_call, eF_lp, Nat.zero_add, Nat.reduceAdd, Bool.cond_false_right, Bool.cond_true_left, Bool.cond_false_left, Bool.cond_true_right, Bool.not_true, Bool.not_false, Bool.not_not, eq_self, decide_true, decide_false, cond_true, cond_false, Int.reduceEq, Int.reduceLT, Int.reduceLE, Int.reduceSub, Int.reduceAdd, Bool.true_and, Bool.and_true, Bool.false_and, Bool.and_false, Bool.or_false, Bool.false_or, Bool.true_or, Bool.or_true, true_and, and_true, h10, c11]
  have hs := Classical.not_not.1 hs
  have hd : (decide ((la.length : Int) ≤ 10) && decide ((lb.length : Int) ≤ 1100)) = true := by
    rw [Bool.and_eq_true, decide_eq_true_eq, decide_eq_true_eq]; omega
  rw [hd] at h10
  clear hd
  by_cases hn : 400 < (code.length : Int)
  · unfold shV at *
    refine cOf (by kernel_rfl) ?_
    rw [g4_eq]
    simp only [g4, sy_wrap, sy_add, sy_sub, sy_mul, sy_ieq, sy_ilt, sy_ile, sy_seq, sy_beq, sy_bor, sy_bnot, sy_imax, sy_imin, sy_rlen, sy_slen, sy_sapp, sy_inr, sy_nat, sy_cell0, sy_cellS, sy_skip0, sy_inrn, sy_rapp, sy_fits, sy_cutok, sy_cut, sy_scut, sy_sbyte, sy_mkok, sy_mkok0, sy_mkz, sy_rep, sy_head, sy_deq, eqDs_int, eqDs_nil, opI_int, opB_bool, opS_str, opL_sl, opM_own, leaves_val, leaves_own, Option.bind_some, cutO_bool, bif_bool, cutO_inl, cutO_inr, eF_call, eF_lp, Nat.zero_add, Nat.reduceAdd, Bool.cond_false_right, Bool.cond_true_left, Bool.cond_false_left, Bool.cond_true_right, Bool.not_true, Bool.not_false, Bool.not_not, eq_self, decide_true, decide_false, cond_true, cond_false, Int.reduceEq, Int.reduceLT, Int.reduceLE, Int.reduceSub, Int.reduceAdd, Bool.true_and, Bool.and_true, Bool.false_and, Bool.and_false, Bool.or_false, Bool.false_or, Bool.true_or, Bool.or_true, true_and, and_true, h10, c11, crows_len]
    simp (disch := omega) only [wrap_id, decT, decF, sy_wrap, sy_add, sy_sub, sy_mul, sy_ieq, sy_ilt, sy_ile, sy_seq, sy_beq, sy_bor, sy_bnot, sy_imax, sy_imin, sy_rlen, sy_slen, sy_sapp, sy_inr, sy_nat, sy_cell0, sy_cellS, sy_skip0, sy_inrn, sy_rapp, sy_fits, sy_cutok, sy_cut, sy_scut, sy_sbyte, sy_mkok, sy_mkok0, sy_mkz, sy_rep, sy_head, sy_deq, eqDs_int, eqDs_nil, opI_int, opB_bool, opS_str, opL_sl, opM_own, leaves_val, leaves_own, Option.bind_some, cutO_bool, bif_bool, cutO_inl, cutO_inr, eF_call, eF_lp, Nat.zero_add, Nat.reduceAdd, Bool.cond_false_right, Bool.cond_true_left, Bool.cond_false_left, Bool.cond_true_right, Bool.not_true, Bool.not_false, Bool.not_not, eq_self, decide_true, decide_false, cond_true, cond_false, Int.reduceEq, Int.reduceLT, Int.reduceLE, Int.reduceSub, Int.reduceAdd, Bool.true_and, Bool.and_true, Bool.false_and, Bool.and_false, Bool.or_false, Bool.false_or, Bool.true_or, Bool.or_true, true_and, and_true]
  have h12 := c12 la lb lo hi code (by omega) (by omega) (by omega)
  have hrg := check_range ⟨la, lb, lo, hi⟩ code
  have hck := fun h => @check_ok ⟨la, lb, lo, hi⟩ code h
  generalize checkS ⟨la, lb, lo, hi⟩ code = p at h12 hrg hck
  obtain ⟨p1, p2⟩ := p
  unfold chR at h12
  simp only at h12 hrg hck
  unfold cl at *
  unfold shV at *
  refine cOf (by kernel_rfl) ?_
  rw [g4_eq]
  cases p2 with
  | false =>
    simp only [g4, h10, c11, h12, crows_len, sy_wrap, sy_add, sy_sub, sy_mul, sy_ieq, sy_ilt, sy_ile, sy_seq, sy_beq, sy_bor, sy_bnot, sy_imax, sy_imin, sy_rlen, sy_slen, sy_sapp, sy_inr, sy_nat, sy_cell0, sy_cellS, sy_skip0, sy_inrn, sy_rapp, sy_fits, sy_cutok, sy_cut, sy_scut, sy_sbyte, sy_mkok, sy_mkok0, sy_mkz, sy_rep, sy_head, sy_deq, eqDs_int, eqDs_nil, opI_int, opB_bool, opS_str, opL_sl, opM_own, leaves_val, leaves_own, Option.bind_some, cutO_bool, bif_bool, cutO_inl, cutO_inr, eF_call, eF_lp, Nat.zero_add, Nat.reduceAdd, Bool.cond_false_right, Bool.cond_true_left, Bool.cond_false_left, Bool.cond_true_right, Bool.not_true, Bool.not_false, Bool.not_not, eq_self, decide_true, decide_false, cond_true, cond_false, Int.reduceEq, Int.reduceLT, Int.reduceLE, Int.reduceSub, Int.reduceAdd, Bool.true_and, Bool.and_true, Bool.false_and, Bool.and_false, Bool.or_false, Bool.false_or, Bool.true_or, Bool.or_true, true_and, and_true]
    simp (disch := omega) only [wrap_id, decT, decF, sy_wrap, sy_add, sy_sub, sy_mul, sy_ieq, sy_ilt, sy_ile, sy_seq, sy_beq, sy_bor, sy_bnot, sy_imax, sy_imin, sy_rlen, sy_slen, sy_sapp, sy_inr, sy_nat, sy_cell0, sy_cellS, sy_skip0, sy_inrn, sy_rapp, sy_fits, sy_cutok, sy_cut, sy_scut, sy_sbyte, sy_mkok, sy_mkok0, sy_mkz, sy_rep, sy_head, sy_deq, eqDs_int, eqDs_nil, opI_int, opB_bool, opS_str, opL_sl, opM_own, leaves_val, leaves_own, Option.bind_some, cutO_bool, bif_bool, cutO_inl, cutO_inr, eF_call, eF_lp, Nat.zero_add, Nat.reduceAdd, Bool.cond_false_right, Bool.cond_true_left, Bool.cond_false_left, Bool.cond_true_right, Bool.not_true, Bool.not_false, Bool.not_not, eq_self, decide_true, decide_false, cond_true, cond_false, Int.reduceEq, Int.reduceLT, Int.reduceLE, Int.reduceSub, Int.reduceAdd, Bool.true_and, Bool.and_true, Bool.false_and, Bool.and_false, Bool.or_false, Bool.false_or, Bool.true_or, Bool.or_true, true_and, and_true, c11]
  | true =>
    obtain ⟨rfl, hok⟩ := hck rfl
    simp only [g4, h10, c11, h12, crows_len, sy_wrap, sy_add, sy_sub, sy_mul, sy_ieq, sy_ilt, sy_ile, sy_seq, sy_beq, sy_bor, sy_bnot, sy_imax, sy_imin, sy_rlen, sy_slen, sy_sapp, sy_inr, sy_nat, sy_cell0, sy_cellS, sy_skip0, sy_inrn, sy_rapp, sy_fits, sy_cutok, sy_cut, sy_scut, sy_sbyte, sy_mkok, sy_mkok0, sy_mkz, sy_rep, sy_head, sy_deq, eqDs_int, eqDs_nil, opI_int, opB_bool, opS_str, opL_sl, opM_own, leaves_val, leaves_own, Option.bind_some, cutO_bool, bif_bool, cutO_inl, cutO_inr, eF_call, eF_lp, Nat.zero_add, Nat.reduceAdd, Bool.cond_false_right, Bool.cond_true_left, Bool.cond_false_left, Bool.cond_true_right, Bool.not_true, Bool.not_false, Bool.not_not, eq_self, decide_true, decide_false, cond_true, cond_false, Int.reduceEq, Int.reduceLT, Int.reduceLE, Int.reduceSub, Int.reduceAdd, Bool.true_and, Bool.and_true, Bool.false_and, Bool.and_false, Bool.or_false, Bool.false_or, Bool.true_or, Bool.or_true, true_and, and_true]
    simp (disch := omega) only [wrap_id, decT, decF, sy_wrap, sy_add, sy_sub, sy_mul, sy_ieq, sy_ilt, sy_ile, sy_seq, sy_beq, sy_bor, sy_bnot, sy_imax, sy_imin, sy_rlen, sy_slen, sy_sapp, sy_inr, sy_nat, sy_cell0, sy_cellS, sy_skip0, sy_inrn, sy_rapp, sy_fits, sy_cutok, sy_cut, sy_scut, sy_sbyte, sy_mkok, sy_mkok0, sy_mkz, sy_rep, sy_head, sy_deq, eqDs_int, eqDs_nil, opI_int, opB_bool, opS_str, opL_sl, opM_own, leaves_val, leaves_own, Option.bind_some, cutO_bool, bif_bool, cutO_inl, cutO_inr, eF_call, eF_lp, Nat.zero_add, Nat.reduceAdd, Bool.cond_false_right, Bool.cond_true_left, Bool.cond_false_left, Bool.cond_true_right, Bool.not_true, Bool.not_false, Bool.not_not, eq_self, decide_true, decide_false, cond_true, cond_false, Int.reduceEq, Int.reduceLT, Int.reduceLE, Int.reduceSub, Int.reduceAdd, Bool.true_and, Bool.and_true, Bool.false_and, Bool.and_false, Bool.or_false, Bool.false_or, Bool.true_or, Bool.or_true, true_and, and_true]
    refine through code (fun i => [.sl 4 (crows code), .int .i64 (code.length : Int), .int .i64 (i : Int), .sl 1 (irows la), .sl 1 (irows lb), .int .i64 lo, .int .i64 hi]) (fun i x hx => ?_) ?_
    · have hlt := (List.getElem?_eq_some_iff.1 hx).1
      have hk := hok i (by omega) (by omega)
      rw [Int.toNat_natCast, (getElem?_some_getD (d := default) hx).1] at hk
      obtain ⟨k1, k2, k3, k4⟩ := hk
      unfold il at *
      simp only at k2 k3 k4
      simp only [sy_wrap, sy_add, sy_sub, sy_mul, sy_ieq, sy_ilt, sy_ile, sy_seq, sy_beq, sy_bor, sy_bnot, sy_imax, sy_imin, sy_rlen, sy_slen, sy_sapp, sy_inr, sy_nat, sy_cell0, sy_cellS, sy_skip0, sy_inrn, sy_rapp, sy_fits, sy_cutok, sy_cut, sy_scut, sy_sbyte, sy_mkok, sy_mkok0, sy_mkz, sy_rep, sy_head, sy_deq, eqDs_int, eqDs_nil, opI_int, opB_bool, opS_str, opL_sl, opM_own, leaves_val, leaves_own, Option.bind_some, cutO_bool, bif_bool, cutO_inl, cutO_inr, eF_call, eF_lp, Nat.zero_add, Nat.reduceAdd, Bool.cond_false_right, Bool.cond_true_left, Bool.cond_false_left, Bool.cond_true_right, Bool.not_true, Bool.not_false, Bool.not_not, eq_self, decide_true, decide_false, cond_true, cond_false, Int.reduceEq, Int.reduceLT, Int.reduceLE, Int.reduceSub, Int.reduceAdd, Bool.true_and, Bool.and_true, Bool.false_and, Bool.and_false, Bool.or_false, Bool.false_or, Bool.true_or, Bool.or_true, true_and, and_true, crows_len, irows_len, ilt_at hlt, inr_at hlt, crows_at hx, Ins.row, wrap_succ hlt (by omega)]
      have e1 : (!((decide (x.op = 10)) == (decide ((i : Int) = IntKind.i64.wrap ((code.length : Int) - 1))))) = false := by
        rw [wrap_id (by omega) (by omega)]
        have : decide (x.op = 10) = decide ((i : Int) = (code.length : Int) - 1) := by rw [decide_eq_decide]; exact k1
        rw [this]; simp
      have e2 : ∀ {p : Bool}, (bif p then false else false) = false := fun {p} => by cases p <;> rfl
      rw [e1]
      clear e1 k1
      by_cases o6 : x.op = 6
      · have := k2 (.inl o6)
        simp (disch := omega) only [wrap_id, decT, decF, sy_wrap, sy_add, sy_sub, sy_mul, sy_ieq, sy_ilt, sy_ile, sy_seq, sy_beq, sy_bor, sy_bnot, sy_imax, sy_imin, sy_rlen, sy_slen, sy_sapp, sy_inr, sy_nat, sy_cell0, sy_cellS, sy_skip0, sy_inrn, sy_rapp, sy_fits, sy_cutok, sy_cut, sy_scut, sy_sbyte, sy_mkok, sy_mkok0, sy_mkz, sy_rep, sy_head, sy_deq, eqDs_int, eqDs_nil, opI_int, opB_bool, opS_str, opL_sl, opM_own, leaves_val, leaves_own, Option.bind_some, cutO_bool, bif_bool, cutO_inl, cutO_inr, eF_call, eF_lp, Nat.zero_add, Nat.reduceAdd, Bool.cond_false_right, Bool.cond_true_left, Bool.cond_false_left, Bool.cond_true_right, Bool.not_true, Bool.not_false, Bool.not_not, eq_self, decide_true, decide_false, cond_true, cond_false, Int.reduceEq, Int.reduceLT, Int.reduceLE, Int.reduceSub, Int.reduceAdd, Bool.true_and, Bool.and_true, Bool.false_and, Bool.and_false, Bool.or_false, Bool.false_or, Bool.true_or, Bool.or_true, true_and, and_true, o6]
        rfl
      by_cases o7 : x.op = 7
      · have := k2 (.inr o7)
        simp (disch := omega) only [wrap_id, decT, decF, sy_wrap, sy_add, sy_sub, sy_mul, sy_ieq, sy_ilt, sy_ile, sy_seq, sy_beq, sy_bor, sy_bnot, sy_imax, sy_imin, sy_rlen, sy_slen, sy_sapp, sy_inr, sy_nat, sy_cell0, sy_cellS, sy_skip0, sy_inrn, sy_rapp, sy_fits, sy_cutok, sy_cut, sy_scut, sy_sbyte, sy_mkok, sy_mkok0, sy_mkz, sy_rep, sy_head, sy_deq, eqDs_int, eqDs_nil, opI_int, opB_bool, opS_str, opL_sl, opM_own, leaves_val, leaves_own, Option.bind_some, cutO_bool, bif_bool, cutO_inl, cutO_inr, eF_call, eF_lp, Nat.zero_add, Nat.reduceAdd, Bool.cond_false_right, Bool.cond_true_left, Bool.cond_false_left, Bool.cond_true_right, Bool.not_true, Bool.not_false, Bool.not_not, eq_self, decide_true, decide_false, cond_true, cond_false, Int.reduceEq, Int.reduceLT, Int.reduceLE, Int.reduceSub, Int.reduceAdd, Bool.true_and, Bool.and_true, Bool.false_and, Bool.and_false, Bool.or_false, Bool.false_or, Bool.true_or, Bool.or_true, true_and, and_true, o7]
        rfl
      by_cases o2 : x.op = 2
      · have := k3 (.inl o2)
        simp (disch := omega) only [wrap_id, decT, decF, sy_wrap, sy_add, sy_sub, sy_mul, sy_ieq, sy_ilt, sy_ile, sy_seq, sy_beq, sy_bor, sy_bnot, sy_imax, sy_imin, sy_rlen, sy_slen, sy_sapp, sy_inr, sy_nat, sy_cell0, sy_cellS, sy_skip0, sy_inrn, sy_rapp, sy_fits, sy_cutok, sy_cut, sy_scut, sy_sbyte, sy_mkok, sy_mkok0, sy_mkz, sy_rep, sy_head, sy_deq, eqDs_int, eqDs_nil, opI_int, opB_bool, opS_str, opL_sl, opM_own, leaves_val, leaves_own, Option.bind_some, cutO_bool, bif_bool, cutO_inl, cutO_inr, eF_call, eF_lp, Nat.zero_add, Nat.reduceAdd, Bool.cond_false_right, Bool.cond_true_left, Bool.cond_false_left, Bool.cond_true_right, Bool.not_true, Bool.not_false, Bool.not_not, eq_self, decide_true, decide_false, cond_true, cond_false, Int.reduceEq, Int.reduceLT, Int.reduceLE, Int.reduceSub, Int.reduceAdd, Bool.true_and, Bool.and_true, Bool.false_and, Bool.and_false, Bool.or_false, Bool.false_or, Bool.true_or, Bool.or_true, true_and, and_true, o2]
        rfl
      by_cases o3 : x.op = 3
      · have := k3 (.inr o3)
        have := k4 (.inl o3)
        clear k2 k3 k4
        by_cases hlo : lo ≤ x.a
        · simp (disch := omega) only [wrap_id, decT, decF, sy_wrap, sy_add, sy_sub, sy_mul, sy_ieq, sy_ilt, sy_ile, sy_seq, sy_beq, sy_bor, sy_bnot, sy_imax, sy_imin, sy_rlen, sy_slen, sy_sapp, sy_inr, sy_nat, sy_cell0, sy_cellS, sy_skip0, sy_inrn, sy_rapp, sy_fits, sy_cutok, sy_cut, sy_scut, sy_sbyte, sy_mkok, sy_mkok0, sy_mkz, sy_rep, sy_head, sy_deq, eqDs_int, eqDs_nil, opI_int, opB_bool, opS_str, opL_sl, opM_own, leaves_val, leaves_own, Option.bind_some, cutO_bool, bif_bool, cutO_inl, cutO_inr, eF_call, eF_lp, Nat.zero_add, Nat.reduceAdd, Bool.cond_false_right, Bool.cond_true_left, Bool.cond_false_left, Bool.cond_true_right, Bool.not_true, Bool.not_false, Bool.not_not, eq_self, decide_true, decide_false, cond_true, cond_false, Int.reduceEq, Int.reduceLT, Int.reduceLE, Int.reduceSub, Int.reduceAdd, Bool.true_and, Bool.and_true, Bool.false_and, Bool.and_false, Bool.or_false, Bool.false_or, Bool.true_or, Bool.or_true, true_and, and_true, o3]
          rfl
        · simp (disch := omega) only [wrap_id, decT, decF, sy_wrap, sy_add, sy_sub, sy_mul, sy_ieq, sy_ilt, sy_ile, sy_seq, sy_beq, sy_bor, sy_bnot, sy_imax, sy_imin, sy_rlen, sy_slen, sy_sapp, sy_inr, sy_nat, sy_cell0, sy_cellS, sy_skip0, sy_inrn, sy_rapp, sy_fits, sy_cutok, sy_cut, sy_scut, sy_sbyte, sy_mkok, sy_mkok0, sy_mkz, sy_rep, sy_head, sy_deq, eqDs_int, eqDs_nil, opI_int, opB_bool, opS_str, opL_sl, opM_own, leaves_val, leaves_own, Option.bind_some, cutO_bool, bif_bool, cutO_inl, cutO_inr, eF_call, eF_lp, Nat.zero_add, Nat.reduceAdd, Bool.cond_false_right, Bool.cond_true_left, Bool.cond_false_left, Bool.cond_true_right, Bool.not_true, Bool.not_false, Bool.not_not, eq_self, decide_true, decide_false, cond_true, cond_false, Int.reduceEq, Int.reduceLT, Int.reduceLE, Int.reduceSub, Int.reduceAdd, Bool.true_and, Bool.and_true, Bool.false_and, Bool.and_false, Bool.or_false, Bool.false_or, Bool.true_or, Bool.or_true, true_and, and_true, o3]
          rfl
      by_cases o9 : x.op = 9
      · have := k4 (.inr o9)
        clear k2 k3 k4
        by_cases hlo : lo ≤ x.a
        · simp (disch := omega) only [wrap_id, decT, decF, sy_wrap, sy_add, sy_sub, sy_mul, sy_ieq, sy_ilt, sy_ile, sy_seq, sy_beq, sy_bor, sy_bnot, sy_imax, sy_imin, sy_rlen, sy_slen, sy_sapp, sy_inr, sy_nat, sy_cell0, sy_cellS, sy_skip0, sy_inrn, sy_rapp, sy_fits, sy_cutok, sy_cut, sy_scut, sy_sbyte, sy_mkok, sy_mkok0, sy_mkz, sy_rep, sy_head, sy_deq, eqDs_int, eqDs_nil, opI_int, opB_bool, opS_str, opL_sl, opM_own, leaves_val, leaves_own, Option.bind_some, cutO_bool, bif_bool, cutO_inl, cutO_inr, eF_call, eF_lp, Nat.zero_add, Nat.reduceAdd, Bool.cond_false_right, Bool.cond_true_left, Bool.cond_false_left, Bool.cond_true_right, Bool.not_true, Bool.not_false, Bool.not_not, eq_self, decide_true, decide_false, cond_true, cond_false, Int.reduceEq, Int.reduceLT, Int.reduceLE, Int.reduceSub, Int.reduceAdd, Bool.true_and, Bool.and_true, Bool.false_and, Bool.and_false, Bool.or_false, Bool.false_or, Bool.true_or, Bool.or_true, true_and, and_true, o9]
          rfl
        · simp (disch := omega) only [wrap_id, decT, decF, sy_wrap, sy_add, sy_sub, sy_mul, sy_ieq, sy_ilt, sy_ile, sy_seq, sy_beq, sy_bor, sy_bnot, sy_imax, sy_imin, sy_rlen, sy_slen, sy_sapp, sy_inr, sy_nat, sy_cell0, sy_cellS, sy_skip0, sy_inrn, sy_rapp, sy_fits, sy_cutok, sy_cut, sy_scut, sy_sbyte, sy_mkok, sy_mkok0, sy_mkz, sy_rep, sy_head, sy_deq, eqDs_int, eqDs_nil, opI_int, opB_bool, opS_str, opL_sl, opM_own, leaves_val, leaves_own, Option.bind_some, cutO_bool, bif_bool, cutO_inl, cutO_inr, eF_call, eF_lp, Nat.zero_add, Nat.reduceAdd, Bool.cond_false_right, Bool.cond_true_left, Bool.cond_false_left, Bool.cond_true_right, Bool.not_true, Bool.not_false, Bool.not_not, eq_self, decide_true, decide_false, cond_true, cond_false, Int.reduceEq, Int.reduceLT, Int.reduceLE, Int.reduceSub, Int.reduceAdd, Bool.true_and, Bool.and_true, Bool.false_and, Bool.and_false, Bool.or_false, Bool.false_or, Bool.true_or, Bool.or_true, true_and, and_true, o9]
          rfl
      clear k2 k3 k4
      simp (disch := omega) only [wrap_id, decT, decF, sy_wrap, sy_add, sy_sub, sy_mul, sy_ieq, sy_ilt, sy_ile, sy_seq, sy_beq, sy_bor, sy_bnot, sy_imax, sy_imin, sy_rlen, sy_slen, sy_sapp, sy_inr, sy_nat, sy_cell0, sy_cellS, sy_skip0, sy_inrn, sy_rapp, sy_fits, sy_cutok, sy_cut, sy_scut, sy_sbyte, sy_mkok, sy_mkok0, sy_mkz, sy_rep, sy_head, sy_deq, eqDs_int, eqDs_nil, opI_int, opB_bool, opS_str, opL_sl, opM_own, leaves_val, leaves_own, Option.bind_some, cutO_bool, bif_bool, cutO_inl, cutO_inr, eF_call, eF_lp, Nat.zero_add, Nat.reduceAdd, Bool.cond_false_right, Bool.cond_true_left, Bool.cond_false_left, Bool.cond_true_right, Bool.not_true, Bool.not_false, Bool.not_not, eq_self, decide_true, decide_false, cond_true, cond_false, Int.reduceEq, Int.reduceLT, Int.reduceLE, Int.reduceSub, Int.reduceAdd, Bool.true_and, Bool.and_true, Bool.false_and, Bool.and_false, Bool.or_false, Bool.false_or, Bool.true_or, Bool.or_true, true_and, and_true]
      rfl
    · simp only [sy_wrap, sy_add, sy_sub, sy_mul, sy_ieq, sy_ilt, sy_ile, sy_seq, sy_beq, sy_bor, sy_bnot, sy_imax, sy_imin, sy_rlen, sy_slen, sy_sapp, sy_inr, sy_nat, sy_cell0, sy_cellS, sy_skip0, sy_inrn, sy_rapp, sy_fits, sy_cutok, sy_cut, sy_scut, sy_sbyte, sy_mkok, sy_mkok0, sy_mkz, sy_rep, sy_head, sy_deq, eqDs_int, eqDs_nil, opI_int, opB_bool, opS_str, opL_sl, opM_own, leaves_val, leaves_own, Option.bind_some, cutO_bool, bif_bool, cutO_inl, cutO_inr, eF_call, eF_lp, Nat.zero_add, Nat.reduceAdd, Bool.cond_false_right, Bool.cond_true_left, Bool.cond_false_left, Bool.cond_true_right, Bool.not_true, Bool.not_false, Bool.not_not, eq_self, decide_true, decide_false, cond_true, cond_false, Int.reduceEq, Int.reduceLT, Int.reduceLE, Int.reduceSub, Int.reduceAdd, Bool.true_and, Bool.and_true, Bool.false_and, Bool.and_false, Bool.or_false, Bool.false_or, Bool.true_or, Bool.or_true, true_and, and_true, ilt_self, crows_len, c11]
end Go.Vm
end
