/-
  Part H of the proof. What is proved by the whole: the statement that the claim names, with no condition. This part: lemmas.
-/
import Derived.Test.YtmmcmfcnpfbifaaG
set_option linter.unusedSimpArgs false
set_option linter.unusedVariables false

section
set_option maxRecDepth 100000
set_option maxHeartbeats 2000000
namespace Go.Vm
open Go.Proofs
theorem topB_top {row : List Int} {j : Nat} (h : j + 1 ≤ row.length) : topB row j = topN row j := by
  unfold topB; rw [if_neg (by omega)]
theorem rowR_key {o : Option (List Int)} {p : PRes} (hp : rowR o p) : ∃ b l, p = .val [.sl 1 l, .bool b] := by
  unfold rowR at hp
  split at hp
  · exact ⟨_, _, hp⟩
  · obtain ⟨r, hp⟩ := hp; exact ⟨_, _, hp⟩
theorem tops_bd {row : List Int} (hrow : ∀ k ∈ row, 1 ≤ k ∧ k ≤ 100) (j : Nat) : 0 ≤ topB row j ∧ topB row j ≤ 100 := by
  unfold topB topN
  by_cases h : row.length ≤ j
  · rw [if_pos h]; omega
  · rw [if_neg h, List.getD_eq_getElem?_getD, List.getElem?_eq_getElem (by omega)]
    have := hrow _ (List.getElem_mem (show row.length - 1 - j < row.length by omega))
    simp only [Option.getD_some]; omega
theorem c36 (la lb : List Int) (lo hi : Int) (x : Ins) (row : List Int) (hla : la.length ≤ 10) (hlb : lb.length ≤ 10000) (hk1 : ∀ k ∈ lb, 1 ≤ k) (hl : row.length ≤ 100) (hrow : ∀ k ∈ row, 1 ≤ k ∧ k ≤ 100) (hx : rightB x = true) :
    ∃ p, cF 36 [shV (irows la) (irows lb) lo hi, insV x, .d (.sl 1 (irows row))] = some p ∧ rowR (nextS ⟨la, lb, lo, hi⟩ x row) p := by
  have hr : row.length ≤ 1000 := by omega
  have t0 := c71_0 row hr
  have t1 := c71_1 row hr
  have hops : x.op = 1 ∨ x.op = 4 ∨ x.op = 5 ∨ x.op = 7 ∨ x.op = 6 ∨ x.op = 10 ∨ x.op = 2 ∨ x.op = 3 ∨ x.op = 8 ∨ x.op = 9 := by
    rw [right_eq] at hx
    simp only [Bool.and_eq_true] at hx
    have := withinB_iff.1 hx.1.1.1
    omega
  have h42 := c42 la lb lo hi x.a (by omega)
  unfold nextS
  simp only
  by_cases h1 : x.op = 1
  · rw [if_pos h1]
    have ha : x.a ≠ 0 := by
      rw [right_eq] at hx
      simp only [Bool.and_eq_true] at hx
      have q2 := hx.1.1.2
      unfold firstB at q2
      rw [if_pos h1] at q2
      have := withinB_iff.1 q2
      omega
    have h68 := c68_k0 row x.a hr ha
    cases hk : kindB (il la) x.a with
    | false =>
      rw [hk] at h42
      unfold shV insV at *
      refine cOfP (by kernel_rfl) rfl ?_
      simp only [g36_eq, g36, some_and, sy_wrap, sy_add, sy_sub, sy_mul, sy_ieq, sy_ilt, sy_ile, sy_seq, sy_beq, sy_bor, sy_bnot, sy_imax, sy_imin, sy_rlen, sy_slen, sy_sapp, sy_inr, sy_nat, sy_cell0, sy_cellS, sy_skip0, sy_inrn, sy_rapp, sy_fits, sy_cutok, sy_cut, sy_scut, sy_sbyte, sy_mkok, sy_mkok0, sy_mkz, sy_rep, sy_head, sy_deq, eqDs_int, eqDs_nil, opI_int, opB_bool, opS_str, opL_sl, opM_own, leaves_val, leaves_own, Option.bind_some, cutO_bool, bif_bool, cutO_inl, cutO_inr, eF_call, eF_lp, Nat.zero_add, Nat.reduceAdd, Bool.cond_false_right, Bool.cond_true_left, Bool.cond_false_left, Bool.cond_true_right, Bool.not_true, Bool.not_false, Bool.not_not, eq_self, decide_true, decide_false, cond_true, cond_false, Int.reduceEq, Int.reduceLT, Int.reduceLE, Int.reduceSub, Int.reduceAdd, Bool.true_and, Bool.and_true, Bool.false_and, Bool.and_false, Bool.or_false, Bool.false_or, Bool.true_or, Bool.or_true, true_and, and_true, h1, h68, h42]
      exact ⟨_, rfl⟩
    | true =>
      have h49 := c49 la lb lo hi x.a x.n (by omega) hk
      rw [hk] at h42
      unfold shV insV at *
      cases hv : valueB la x.a x.n with
      | false =>
        rw [hv] at h49
        refine cOfP (by kernel_rfl) rfl ?_
        simp only [g36_eq, g36, some_and, sy_wrap, sy_add, sy_sub, sy_mul, sy_ieq, sy_ilt, sy_ile, sy_seq, sy_beq, sy_bor, sy_bnot, sy_imax, sy_imin, sy_rlen, sy_slen, sy_sapp, sy_inr, sy_nat, sy_cell0, sy_cellS, sy_skip0, sy_inrn, sy_rapp, sy_fits, sy_cutok, sy_cut, sy_scut, sy_sbyte, sy_mkok, sy_mkok0, sy_mkz, sy_rep, sy_head, sy_deq, eqDs_int, eqDs_nil, opI_int, opB_bool, opS_str, opL_sl, opM_own, leaves_val, leaves_own, Option.bind_some, cutO_bool, bif_bool, cutO_inl, cutO_inr, eF_call, eF_lp, Nat.zero_add, Nat.reduceAdd, Bool.cond_false_right, Bool.cond_true_left, Bool.cond_false_left, Bool.cond_true_right, Bool.not_true, Bool.not_false, Bool.not_not, eq_self, decide_true, decide_false, cond_true, cond_false, Int.reduceEq, Int.reduceLT, Int.reduceLE, Int.reduceSub, Int.reduceAdd, Bool.true_and, Bool.and_true, Bool.false_and, Bool.and_false, Bool.or_false, Bool.false_or, Bool.true_or, Bool.or_true, true_and, and_true, h1, h68, h42, h49]
        exact ⟨_, rfl⟩
      | true =>
        rw [hv] at h49
        by_cases hl2 : row.length < 16
        · refine cOfP (by kernel_rfl) rfl ?_
          simp only [g36_eq, g36, some_and, sy_wrap, sy_add, sy_sub, sy_mul, sy_ieq, sy_ilt, sy_ile, sy_seq, sy_beq, sy_bor, sy_bnot, sy_imax, sy_imin, sy_rlen, sy_slen, sy_sapp, sy_inr, sy_nat, sy_cell0, sy_cellS, sy_skip0, sy_inrn, sy_rapp, sy_fits, sy_cutok, sy_cut, sy_scut, sy_sbyte, sy_mkok, sy_mkok0, sy_mkz, sy_rep, sy_head, sy_deq, eqDs_int, eqDs_nil, opI_int, opB_bool, opS_str, opL_sl, opM_own, leaves_val, leaves_own, Option.bind_some, cutO_bool, bif_bool, cutO_inl, cutO_inr, eF_call, eF_lp, Nat.zero_add, Nat.reduceAdd, Bool.cond_false_right, Bool.cond_true_left, Bool.cond_false_left, Bool.cond_true_right, Bool.not_true, Bool.not_false, Bool.not_not, eq_self, decide_true, decide_false, cond_true, cond_false, Int.reduceEq, Int.reduceLT, Int.reduceLE, Int.reduceSub, Int.reduceAdd, Bool.true_and, Bool.and_true, Bool.false_and, Bool.and_false, Bool.or_false, Bool.false_or, Bool.true_or, Bool.or_true, true_and, and_true, h1, h68, h42, h49, irows_len]
          rw [decT hl2, decT (by omega)]
          rfl
        · refine cOfP (by kernel_rfl) rfl ?_
          simp only [g36_eq, g36, some_and, sy_wrap, sy_add, sy_sub, sy_mul, sy_ieq, sy_ilt, sy_ile, sy_seq, sy_beq, sy_bor, sy_bnot, sy_imax, sy_imin, sy_rlen, sy_slen, sy_sapp, sy_inr, sy_nat, sy_cell0, sy_cellS, sy_skip0, sy_inrn, sy_rapp, sy_fits, sy_cutok, sy_cut, sy_scut, sy_sbyte, sy_mkok, sy_mkok0, sy_mkz, sy_rep, sy_head, sy_deq, eqDs_int, eqDs_nil, opI_int, opB_bool, opS_str, opL_sl, opM_own, leaves_val, leaves_own, Option.bind_some, cutO_bool, bif_bool, cutO_inl, cutO_inr, eF_call, eF_lp, Nat.zero_add, Nat.reduceAdd, Bool.cond_false_right, Bool.cond_true_left, Bool.cond_false_left, Bool.cond_true_right, Bool.not_true, Bool.not_false, Bool.not_not, eq_self, decide_true, decide_false, cond_true, cond_false, Int.reduceEq, Int.reduceLT, Int.reduceLE, Int.reduceSub, Int.reduceAdd, Bool.true_and, Bool.and_true, Bool.false_and, Bool.and_false, Bool.or_false, Bool.false_or, Bool.true_or, Bool.or_true, true_and, and_true, h1, h68, h42, h49, irows_len]
          rw [decF hl2, decF (by omega)]
          exact ⟨_, rfl⟩
  rw [if_neg h1]
  by_cases h4 : x.op = 4
  · rw [if_pos (.inl h4)]
    have hb0 := tops_bd hrow 0
    have h70 := c70 (topB row 0) (by omega) (by omega)
    have h69 := c69 x.a (tyOf (topB row 0))
    unfold operS
    rw [if_pos h4]
    cases hq : unTy x.a (tyOf (topB row 0)) with
    | none =>
      rw [hq] at h69
      have e : (if row.length < 1 then none else (unTy x.a (tyOf (topN row 0))).map fun t => dropTop row 1 ++ [kindOf t]) = none := by
        by_cases hlen : row.length < 1
        · rw [if_pos hlen]
        · rw [if_neg hlen, ← topB_top (by omega), hq]; rfl
      rw [e]
      unfold shV insV Ty3.v tyV tyR at *
      refine cOfP (by kernel_rfl) rfl ?_
      simp only [g36_eq, g36, some_and, sy_wrap, sy_add, sy_sub, sy_mul, sy_ieq, sy_ilt, sy_ile, sy_seq, sy_beq, sy_bor, sy_bnot, sy_imax, sy_imin, sy_rlen, sy_slen, sy_sapp, sy_inr, sy_nat, sy_cell0, sy_cellS, sy_skip0, sy_inrn, sy_rapp, sy_fits, sy_cutok, sy_cut, sy_scut, sy_sbyte, sy_mkok, sy_mkok0, sy_mkz, sy_rep, sy_head, sy_deq, eqDs_int, eqDs_nil, opI_int, opB_bool, opS_str, opL_sl, opM_own, leaves_val, leaves_own, Option.bind_some, cutO_bool, bif_bool, cutO_inl, cutO_inr, eF_call, eF_lp, Nat.zero_add, Nat.reduceAdd, Bool.cond_false_right, Bool.cond_true_left, Bool.cond_false_left, Bool.cond_true_right, Bool.not_true, Bool.not_false, Bool.not_not, eq_self, decide_true, decide_false, cond_true, cond_false, Int.reduceEq, Int.reduceLT, Int.reduceLE, Int.reduceSub, Int.reduceAdd, Bool.true_and, Bool.and_true, Bool.false_and, Bool.and_false, Bool.or_false, Bool.false_or, Bool.true_or, Bool.or_true, true_and, and_true, h4, t0, h70, h69]
      exact ⟨[], rfl⟩
    | some t =>
      rw [hq] at h69
      have hlen : 1 ≤ row.length := by
        by_cases hlen : row.length ≤ 0
        · exfalso
          have : topB row 0 = 0 := by unfold topB; rw [if_pos hlen]
          rw [this] at hq
          unfold unTy at hq
          rw [show tyOf 0 = ⟨0, 0, 0⟩ from rfl] at hq
          by_cases g1 : x.a = 1 <;> by_cases g2 : x.a = 2 <;> simp [g1, g2] at hq
        · omega
      have hb := unTy_bd hq
      have h72 := c72 t (by rcases hb with rfl | rfl <;> simp) (by rcases hb with rfl | rfl <;> simp)
      have ek : (if t.k < 3 then t.k else 3 + t.e) = kindOf t := by rcases hb with rfl | rfl <;> rfl
      have ek0 : kindOf t ≠ 0 := by rcases hb with rfl | rfl <;> decide
      rw [ek] at h72
      have h68 := c68_k1 row (kindOf t) hr hlen ek0
      rw [if_neg (by omega), ← topB_top (by omega), hq]
      unfold shV insV Ty3.v tyV tyR at *
      refine cOfP (by kernel_rfl) rfl ?_
      simp only [g36_eq, g36, some_and, sy_wrap, sy_add, sy_sub, sy_mul, sy_ieq, sy_ilt, sy_ile, sy_seq, sy_beq, sy_bor, sy_bnot, sy_imax, sy_imin, sy_rlen, sy_slen, sy_sapp, sy_inr, sy_nat, sy_cell0, sy_cellS, sy_skip0, sy_inrn, sy_rapp, sy_fits, sy_cutok, sy_cut, sy_scut, sy_sbyte, sy_mkok, sy_mkok0, sy_mkz, sy_rep, sy_head, sy_deq, eqDs_int, eqDs_nil, opI_int, opB_bool, opS_str, opL_sl, opM_own, leaves_val, leaves_own, Option.bind_some, cutO_bool, bif_bool, cutO_inl, cutO_inr, eF_call, eF_lp, Nat.zero_add, Nat.reduceAdd, Bool.cond_false_right, Bool.cond_true_left, Bool.cond_false_left, Bool.cond_true_right, Bool.not_true, Bool.not_false, Bool.not_not, eq_self, decide_true, decide_false, cond_true, cond_false, Int.reduceEq, Int.reduceLT, Int.reduceLE, Int.reduceSub, Int.reduceAdd, Bool.true_and, Bool.and_true, Bool.false_and, Bool.and_false, Bool.or_false, Bool.false_or, Bool.true_or, Bool.or_true, true_and, and_true, h4, t0, h70, h69, h72, h68]
      rfl
  by_cases h5 : x.op = 5
  · rw [if_pos (.inr h5)]
    unfold operS
    rw [if_neg h4]
    by_cases hlen : row.length < 2
    · rw [if_pos hlen]
      unfold shV insV at *
      refine cOfP (by kernel_rfl) rfl ?_
      simp only [g36_eq, g36, some_and, sy_wrap, sy_add, sy_sub, sy_mul, sy_ieq, sy_ilt, sy_ile, sy_seq, sy_beq, sy_bor, sy_bnot, sy_imax, sy_imin, sy_rlen, sy_slen, sy_sapp, sy_inr, sy_nat, sy_cell0, sy_cellS, sy_skip0, sy_inrn, sy_rapp, sy_fits, sy_cutok, sy_cut, sy_scut, sy_sbyte, sy_mkok, sy_mkok0, sy_mkz, sy_rep, sy_head, sy_deq, eqDs_int, eqDs_nil, opI_int, opB_bool, opS_str, opL_sl, opM_own, leaves_val, leaves_own, Option.bind_some, cutO_bool, bif_bool, cutO_inl, cutO_inr, eF_call, eF_lp, Nat.zero_add, Nat.reduceAdd, Bool.cond_false_right, Bool.cond_true_left, Bool.cond_false_left, Bool.cond_true_right, Bool.not_true, Bool.not_false, Bool.not_not, eq_self, decide_true, decide_false, cond_true, cond_false, Int.reduceEq, Int.reduceLT, Int.reduceLE, Int.reduceSub, Int.reduceAdd, Bool.true_and, Bool.and_true, Bool.false_and, Bool.and_false, Bool.or_false, Bool.false_or, Bool.true_or, Bool.or_true, true_and, and_true, h5, irows_len, decT (p := (row.length : Int) < 2) (by omega)]
      exact ⟨[], rfl⟩
    · rw [if_neg hlen, ← topB_top (by omega), ← topB_top (by omega)]
      have hb0 := tops_bd hrow 0
      have hb1 := tops_bd hrow 1
      have h70 := c70 (topB row 0) (by omega) (by omega)
      have h70' := c70 (topB row 1) (by omega) (by omega)
      have h73 := c73 x.a (tyOf (topB row 1)) (tyOf (topB row 0))
      cases hq : binTy x.a (tyOf (topB row 1)) (tyOf (topB row 0)) with
      | none =>
        rw [hq] at h73
        unfold shV insV Ty3.v tyV tyR at *
        refine cOfP (by kernel_rfl) rfl ?_
        simp only [g36_eq, g36, some_and, sy_wrap, sy_add, sy_sub, sy_mul, sy_ieq, sy_ilt, sy_ile, sy_seq, sy_beq, sy_bor, sy_bnot, sy_imax, sy_imin, sy_rlen, sy_slen, sy_sapp, sy_inr, sy_nat, sy_cell0, sy_cellS, sy_skip0, sy_inrn, sy_rapp, sy_fits, sy_cutok, sy_cut, sy_scut, sy_sbyte, sy_mkok, sy_mkok0, sy_mkz, sy_rep, sy_head, sy_deq, eqDs_int, eqDs_nil, opI_int, opB_bool, opS_str, opL_sl, opM_own, leaves_val, leaves_own, Option.bind_some, cutO_bool, bif_bool, cutO_inl, cutO_inr, eF_call, eF_lp, Nat.zero_add, Nat.reduceAdd, Bool.cond_false_right, Bool.cond_true_left, Bool.cond_false_left, Bool.cond_true_right, Bool.not_true, Bool.not_false, Bool.not_not, eq_self, decide_true, decide_false, cond_true, cond_false, Int.reduceEq, Int.reduceLT, Int.reduceLE, Int.reduceSub, Int.reduceAdd, Bool.true_and, Bool.and_true, Bool.false_and, Bool.and_false, Bool.or_false, Bool.false_or, Bool.true_or, Bool.or_true, true_and, and_true, h5, irows_len, decF (p := (row.length : Int) < 2) (by omega), t0, t1, h70, h70', h73]
        exact ⟨[], rfl⟩
      | some t =>
        rw [hq] at h73
        have hb := binTy_bd hq
        have h72 := c72 t (by rcases hb with rfl | rfl <;> simp) (by rcases hb with rfl | rfl <;> simp)
        have ek : (if t.k < 3 then t.k else 3 + t.e) = kindOf t := by rcases hb with rfl | rfl <;> rfl
        have ek0 : kindOf t ≠ 0 := by rcases hb with rfl | rfl <;> decide
        rw [ek] at h72
        have h68 := c68_k2 row (kindOf t) hr (by omega) ek0
        unfold shV insV Ty3.v tyV tyR at *
        refine cOfP (by kernel_rfl) rfl ?_
        simp only [g36_eq, g36, some_and, sy_wrap, sy_add, sy_sub, sy_mul, sy_ieq, sy_ilt, sy_ile, sy_seq, sy_beq, sy_bor, sy_bnot, sy_imax, sy_imin, sy_rlen, sy_slen, sy_sapp, sy_inr, sy_nat, sy_cell0, sy_cellS, sy_skip0, sy_inrn, sy_rapp, sy_fits, sy_cutok, sy_cut, sy_scut, sy_sbyte, sy_mkok, sy_mkok0, sy_mkz, sy_rep, sy_head, sy_deq, eqDs_int, eqDs_nil, opI_int, opB_bool, opS_str, opL_sl, opM_own, leaves_val, leaves_own, Option.bind_some, cutO_bool, bif_bool, cutO_inl, cutO_inr, eF_call, eF_lp, Nat.zero_add, Nat.reduceAdd, Bool.cond_false_right, Bool.cond_true_left, Bool.cond_false_left, Bool.cond_true_right, Bool.not_true, Bool.not_false, Bool.not_not, eq_self, decide_true, decide_false, cond_true, cond_false, Int.reduceEq, Int.reduceLT, Int.reduceLE, Int.reduceSub, Int.reduceAdd, Bool.true_and, Bool.and_true, Bool.false_and, Bool.and_false, Bool.or_false, Bool.false_or, Bool.true_or, Bool.or_true, true_and, and_true, h5, irows_len, decF (p := (row.length : Int) < 2) (by omega), t0, t1, h70, h70', h73, h72, h68]
        rfl
  rw [if_neg (by omega)]
  by_cases h7 : x.op = 7
  · rw [if_pos h7, ends1 row 2 (by omega)]
    by_cases he : topB row 0 = 2
    · have hlen := topB_len (by omega) he
      unfold shV insV at *
      refine cOfP (by kernel_rfl) rfl ?_
      simp only [g36_eq, g36, some_and, sy_wrap, sy_add, sy_sub, sy_mul, sy_ieq, sy_ilt, sy_ile, sy_seq, sy_beq, sy_bor, sy_bnot, sy_imax, sy_imin, sy_rlen, sy_slen, sy_sapp, sy_inr, sy_nat, sy_cell0, sy_cellS, sy_skip0, sy_inrn, sy_rapp, sy_fits, sy_cutok, sy_cut, sy_scut, sy_sbyte, sy_mkok, sy_mkok0, sy_mkz, sy_rep, sy_head, sy_deq, eqDs_int, eqDs_nil, opI_int, opB_bool, opS_str, opL_sl, opM_own, leaves_val, leaves_own, Option.bind_some, cutO_bool, bif_bool, cutO_inl, cutO_inr, eF_call, eF_lp, Nat.zero_add, Nat.reduceAdd, Bool.cond_false_right, Bool.cond_true_left, Bool.cond_false_left, Bool.cond_true_right, Bool.not_true, Bool.not_false, Bool.not_not, eq_self, decide_true, decide_false, cond_true, cond_false, Int.reduceEq, Int.reduceLT, Int.reduceLE, Int.reduceSub, Int.reduceAdd, Bool.true_and, Bool.and_true, Bool.false_and, Bool.and_false, Bool.or_false, Bool.false_or, Bool.true_or, Bool.or_true, true_and, and_true, h7, t0, decT he, c68_01 row hr hlen]
      rfl
    · unfold shV insV at *
      refine cOfP (by kernel_rfl) rfl ?_
      simp only [g36_eq, g36, some_and, sy_wrap, sy_add, sy_sub, sy_mul, sy_ieq, sy_ilt, sy_ile, sy_seq, sy_beq, sy_bor, sy_bnot, sy_imax, sy_imin, sy_rlen, sy_slen, sy_sapp, sy_inr, sy_nat, sy_cell0, sy_cellS, sy_skip0, sy_inrn, sy_rapp, sy_fits, sy_cutok, sy_cut, sy_scut, sy_sbyte, sy_mkok, sy_mkok0, sy_mkz, sy_rep, sy_head, sy_deq, eqDs_int, eqDs_nil, opI_int, opB_bool, opS_str, opL_sl, opM_own, leaves_val, leaves_own, Option.bind_some, cutO_bool, bif_bool, cutO_inl, cutO_inr, eF_call, eF_lp, Nat.zero_add, Nat.reduceAdd, Bool.cond_false_right, Bool.cond_true_left, Bool.cond_false_left, Bool.cond_true_right, Bool.not_true, Bool.not_false, Bool.not_not, eq_self, decide_true, decide_false, cond_true, cond_false, Int.reduceEq, Int.reduceLT, Int.reduceLE, Int.reduceSub, Int.reduceAdd, Bool.true_and, Bool.and_true, Bool.false_and, Bool.and_false, Bool.or_false, Bool.false_or, Bool.true_or, Bool.or_true, true_and, and_true, h7, t0, decF he]
      exact ⟨[], rfl⟩
  rw [if_neg h7]
  by_cases h6 : x.op = 6
  · rw [if_pos h6]
    unfold shV insV at *
    refine cOfP (by kernel_rfl) rfl ?_
    simp only [g36_eq, g36, some_and, sy_wrap, sy_add, sy_sub, sy_mul, sy_ieq, sy_ilt, sy_ile, sy_seq, sy_beq, sy_bor, sy_bnot, sy_imax, sy_imin, sy_rlen, sy_slen, sy_sapp, sy_inr, sy_nat, sy_cell0, sy_cellS, sy_skip0, sy_inrn, sy_rapp, sy_fits, sy_cutok, sy_cut, sy_scut, sy_sbyte, sy_mkok, sy_mkok0, sy_mkz, sy_rep, sy_head, sy_deq, eqDs_int, eqDs_nil, opI_int, opB_bool, opS_str, opL_sl, opM_own, leaves_val, leaves_own, Option.bind_some, cutO_bool, bif_bool, cutO_inl, cutO_inr, eF_call, eF_lp, Nat.zero_add, Nat.reduceAdd, Bool.cond_false_right, Bool.cond_true_left, Bool.cond_false_left, Bool.cond_true_right, Bool.not_true, Bool.not_false, Bool.not_not, eq_self, decide_true, decide_false, cond_true, cond_false, Int.reduceEq, Int.reduceLT, Int.reduceLE, Int.reduceSub, Int.reduceAdd, Bool.true_and, Bool.and_true, Bool.false_and, Bool.and_false, Bool.or_false, Bool.false_or, Bool.true_or, Bool.or_true, true_and, and_true, h6]
    rfl
  rw [if_neg h6]
  by_cases h10 : x.op = 10
  · rw [if_pos h10]
    unfold shV insV at *
    refine cOfP (by kernel_rfl) rfl ?_
    simp only [g36_eq, g36, some_and, sy_wrap, sy_add, sy_sub, sy_mul, sy_ieq, sy_ilt, sy_ile, sy_seq, sy_beq, sy_bor, sy_bnot, sy_imax, sy_imin, sy_rlen, sy_slen, sy_sapp, sy_inr, sy_nat, sy_cell0, sy_cellS, sy_skip0, sy_inrn, sy_rapp, sy_fits, sy_cutok, sy_cut, sy_scut, sy_sbyte, sy_mkok, sy_mkok0, sy_mkz, sy_rep, sy_head, sy_deq, eqDs_int, eqDs_nil, opI_int, opB_bool, opS_str, opL_sl, opM_own, leaves_val, leaves_own, Option.bind_some, cutO_bool, bif_bool, cutO_inl, cutO_inr, eF_call, eF_lp, Nat.zero_add, Nat.reduceAdd, Bool.cond_false_right, Bool.cond_true_left, Bool.cond_false_left, Bool.cond_true_right, Bool.not_true, Bool.not_false, Bool.not_not, eq_self, decide_true, decide_false, cond_true, cond_false, Int.reduceEq, Int.reduceLT, Int.reduceLE, Int.reduceSub, Int.reduceAdd, Bool.true_and, Bool.and_true, Bool.false_and, Bool.and_false, Bool.or_false, Bool.false_or, Bool.true_or, Bool.or_true, true_and, and_true, h10, irows_len]
    by_cases h0 : row.length = 0
    · rw [if_pos h0, decT (by omega)]; rfl
    · rw [if_neg h0, decF (by omega)]; exact ⟨[], rfl⟩
  rw [if_neg h10]
  have hop : x.op = 2 ∨ x.op = 3 ∨ x.op = 8 ∨ x.op = 9 := by omega
  have hx2 := hx
  rw [right_eq] at hx2
  simp only [Bool.and_eq_true] at hx2
  obtain ⟨⟨⟨_, q2⟩, _⟩, q4⟩ := hx2
  unfold firstB at q2
  rw [if_neg h1, if_neg (by omega), if_neg (by omega), if_neg (by omega)] at q2
  have := withinB_iff.1 q2
  have hb : 0 ≤ x.b ∧ x.b ≤ 8 := by
    split at q4
    · have := withinB_iff.1 q4; omega
    · have := eq_of_beq q4; omega
  obtain ⟨p, h74, hp⟩ := c74 la lb lo hi x row hlb hk1 hr (by omega) (by omega) hb.1 hb.2 hop
  obtain ⟨b, l, rfl⟩ := rowR_key hp
  unfold shV insV at *
  refine cOfP (by kernel_rfl) rfl ?_
  simp only [g36_eq, g36, some_and, sy_wrap, sy_add, sy_sub, sy_mul, sy_ieq, sy_ilt, sy_ile, sy_seq, sy_beq, sy_bor, sy_bnot, sy_imax, sy_imin, sy_rlen, sy_slen, sy_sapp, sy_inr, sy_nat, sy_cell0, sy_cellS, sy_skip0, sy_inrn, sy_rapp, sy_fits, sy_cutok, sy_cut, sy_scut, sy_sbyte, sy_mkok, sy_mkok0, sy_mkz, sy_rep, sy_head, sy_deq, eqDs_int, eqDs_nil, opI_int, opB_bool, opS_str, opL_sl, opM_own, leaves_val, leaves_own, Option.bind_some, cutO_bool, bif_bool, cutO_inl, cutO_inr, eF_call, eF_lp, Nat.zero_add, Nat.reduceAdd, Bool.cond_false_right, Bool.cond_true_left, Bool.cond_false_left, Bool.cond_true_right, Bool.not_true, Bool.not_false, Bool.not_not, eq_self, decide_true, decide_false, cond_true, cond_false, Int.reduceEq, Int.reduceLT, Int.reduceLE, Int.reduceSub, Int.reduceAdd, Bool.true_and, Bool.and_true, Bool.false_and, Bool.and_false, Bool.or_false, Bool.false_or, Bool.true_or, Bool.or_true, true_and, and_true, decF h1, decF h4, decF h5, decF h7, decF h6, decF h10, h74]
  exact hp
end Go.Vm
end

section
set_option maxRecDepth 100000
set_option maxHeartbeats 4000000
namespace Go.Vm
open Go.Proofs
/-! ### the reference's check: arrays of what is known -/
def kA (n : Nat) (K : Known) : List (List D) := (List.range n).map fun m => [.bool (K m).isSome]
def rA (n : Nat) (K : Known) : List (List D) := (List.range n).map fun m => [.sl 1 (irows ((K m).getD []))]
def setK (K : Known) (t : Nat) (row : List Int) : Known := fun m => if m = t then some row else K m
theorem kA_len (n : Nat) (K : Known) : (kA n K).length = n := by simp [kA]
theorem rA_len (n : Nat) (K : Known) : (rA n K).length = n := by simp [rA]
theorem kA_at {n m : Nat} {K : Known} (h : m < n) : sy.cell (sy.rown (kA n K) m) 0 = some (.bool (K m).isSome) := by
  rw [sy_rown, kA, List.getD_eq_getElem?_getD, List.getElem?_map, List.getElem?_range h]; rfl
theorem rA_at {n m : Nat} {K : Known} (h : m < n) : sy.cell (sy.rown (rA n K) m) 0 = some (.sl 1 (irows ((K m).getD []))) := by
  rw [sy_rown, rA, List.getD_eq_getElem?_getD, List.getElem?_map, List.getElem?_range h]; rfl
theorem set_range {α : Type} {n m : Nat} {f g : Nat → α} {y : α} (hy : y = g m) (hg : ∀ i, i ≠ m → g i = f i) : ((List.range n).map f).set m y = (List.range n).map g := by
  apply List.ext_getElem
  · simp
  · intro i h1 h2
    rw [List.getElem_set, List.getElem_map, List.getElem_map]
    by_cases h : m = i
    · subst h; rw [if_pos rfl, hy]; simp
    · rw [if_neg h]; simp only [List.getElem_range]; rw [hg i (fun e => h e.symm)]
theorem kA_put {n m : Nat} {K : Known} (row : List Int) (h : m < n) : sy.rput (kA n K) m 0 [.bool true] = kA n (setK K m row) := by
  show (kA n K).set m (List.take 0 ((kA n K).getD m []) ++ [D.bool true] ++ List.drop (0 + 1) ((kA n K).getD m [])) = _
  have e : (kA n K).getD m [] = [.bool (K m).isSome] := by
    unfold kA; rw [List.getD_eq_getElem?_getD, List.getElem?_map, List.getElem?_range h]; rfl
  rw [e]
  unfold kA setK
  refine set_range ?_ fun i hi => ?_
  · rw [if_pos rfl]; rfl
  · rw [if_neg hi]
theorem rA_put {n m : Nat} {K : Known} {row : List Int} (h : m < n) : sy.rput (rA n K) m 0 [.sl 1 (irows row)] = rA n (setK K m row) := by
  show (rA n K).set m (List.take 0 ((rA n K).getD m []) ++ [D.sl 1 (irows row)] ++ List.drop (0 + 1) ((rA n K).getD m [])) = _
  have e : (rA n K).getD m [] = [.sl 1 (irows ((K m).getD []))] := by
    unfold rA; rw [List.getD_eq_getElem?_getD, List.getElem?_map, List.getElem?_range h]; rfl
  rw [e]
  unfold rA setK
  refine set_range ?_ fun i hi => ?_
  · rw [if_pos rfl]; rfl
  · rw [if_neg hi]
def K00 : Known := fun _ => none
theorem kA_zero (n : Nat) : List.replicate (n : Int).toNat [D.bool false] = kA n K00 := by
  unfold kA K00
  rw [Int.toNat_natCast]
  apply List.ext_getElem
  · simp
  · intro i h1 h2; simp
theorem rA_zero (n : Nat) : List.replicate (n : Int).toNat [D.sl 1 []] = rA n K00 := by
  unfold rA K00
  rw [Int.toNat_natCast]
  apply List.ext_getElem
  · simp
  · intro i h1 h2; simp; rfl
/-- As the reference does it: place by place. -/
def refPut (n : Nat) (row' : List Int) : List Int → Known → Option Known
  | [], K => some K
  | t :: ts, K => if (n : Int) ≤ t then none else match K t.toNat with
    | some was => if was = row' then refPut n row' ts (setK K t.toNat row') else none
    | none => refPut n row' ts (setK K t.toNat row')
theorem refPut_eq (n : Nat) (row' : List Int) : ∀ (T : List Int) (K : Known), refPut n row' T K = if (T.all fun m => decide (m < (n : Int))) then putAll row' T K else none
  | [], K => rfl
  | t :: ts, K => by
    unfold refPut putAll
    by_cases ht : (n : Int) ≤ t
    · rw [if_pos ht, List.all_cons, decF (by omega), Bool.false_and]; rfl
    · rw [if_neg ht, List.all_cons, decT (by omega), Bool.true_and]
      cases hk : K t.toNat with
      | none => exact refPut_eq n row' ts _
      | some was =>
        simp only
        by_cases he : was = row'
        · rw [if_pos he, if_pos he]; exact refPut_eq n row' ts _
        · rw [if_neg he, if_neg he]; split <;> rfl
theorem refPut_loop {b : List D → Option (List D ⊕ (List D ⊕ PRes))} (n : Nat) (T : List Int) (row' : List Int) (mkI : Nat → Known → List D) (mkO : Known → List D) (bad : PRes)
    (hb : ∀ (j : Nat) K t, T[j]? = some t → (∀ m r, K m = some r → RowOK r) → b (mkI j K) = if (n : Int) ≤ t then some (.inr (.inr bad)) else match K t.toNat with
      | some was => if was = row' then some (.inl (mkI (j + 1) (setK K t.toNat row'))) else some (.inr (.inr bad))
      | none => some (.inl (mkI (j + 1) (setK K t.toNat row'))))
    (hend : ∀ K, b (mkI T.length K) = some (.inr (.inl (mkO K)))) (hr : RowOK row') :
    ∀ (rest : List Int) (j : Nat) (K : Known), T.drop j = rest → j ≤ T.length → (∀ m r, K m = some r → RowOK r) →
      loopF b (mkI j K) = match refPut n row' rest K with
        | none => some (.inr bad)
        | some K' => some (.inl (mkO K')) := by
  intro rest
  induction rest with
  | nil =>
    intro j K hd hj hK
    have : j = T.length := by have := congrArg List.length hd; simp at this; omega
    subst this
    rw [loopF_eq, hend]
    rfl
  | cons t ts ih =>
    intro j K hd hj hK
    have hx : T[j]? = some t := by
      have := congrArg (fun r => r[0]?) hd
      simpa using this
    have hlt := (List.getElem?_eq_some_iff.1 hx).1
    have hts : T.drop (j + 1) = ts := by
      have := congrArg List.tail hd
      simpa using this
    have hK2 : ∀ m r, setK K t.toNat row' m = some r → RowOK r := fun m r h => by
      unfold setK at h
      split at h
      · cases h; exact hr
      · exact hK m r h
    unfold refPut
    rw [loopF_eq, hb j K t hx hK]
    by_cases ht : (n : Int) ≤ t
    · rw [if_pos ht, if_pos ht]
    · rw [if_neg ht, if_neg ht]
      cases hq : K t.toNat with
      | none => exact ih (j + 1) _ hts (by omega) hK2
      | some was =>
        simp only
        by_cases he : was = row'
        · rw [if_pos he, if_pos he]
          exact ih (j + 1) _ hts (by omega) hK2
        · rw [if_neg he, if_neg he]
end Go.Vm
end

section
set_option maxRecDepth 100000
set_option maxHeartbeats 4000000
namespace Go.Vm
open Go.Proofs
theorem irows_rown {l : List Int} {i : Nat} {x : Int} (h : l[i]? = some x) : sy.cell (sy.rown (irows l) i) 0 = some (.int .i64 x) := by
  have := irows_at h
  rwa [sy_row, Int.toNat_natCast] at this
def leadsA (n i : Nat) (x : Ins) : Option (List Int) :=
  if x.op = 10 then (if i + 1 = n then some [] else none) else if (x.op = 6 ∨ x.op = 7) ∧ x.a ≤ (i : Int) then none else some (leadsL i x)
theorem leadsA_eq (n i : Nat) (x : Ins) : leadsS n i x = match leadsA n i x with
    | none => none
    | some T => if (T.all fun m => decide (m < (n : Int))) then some T else none := by
  unfold leadsS leadsA
  by_cases h10 : x.op = 10
  · rw [if_pos h10, if_pos h10]
    by_cases h : i + 1 = n
    · rw [if_pos h]; rfl
    · rw [if_neg h]
  · rw [if_neg h10, if_neg h10]
    have e : (if x.op = 6 then [x.a] else if x.op = 7 then [(i : Int) + 1, x.a] else [(i : Int) + 1]) = leadsL i x := rfl
    simp only [e]
    by_cases h : (x.op = 6 ∨ x.op = 7) ∧ x.a ≤ (i : Int)
    · rw [if_pos h]
      have : ((leadsL i x).all fun m => decide ((i : Int) < m) && decide (m < (n : Int))) = false := by
        unfold leadsL
        rcases h.1 with h1 | h1
        · rw [if_pos h1, List.all_cons, decF (by omega)]; rfl
        · rw [if_neg (by omega), if_pos h1, List.all_cons, List.all_cons, decF (p := (i : Int) < x.a) (by omega)]; simp
      rw [this]; rfl
    · rw [if_neg h]
      have : ((leadsL i x).all fun m => decide ((i : Int) < m) && decide (m < (n : Int))) = (leadsL i x).all fun m => decide (m < (n : Int)) := by
        unfold leadsL
        by_cases h6 : x.op = 6
        · rw [if_pos h6]; simp only [List.all_cons, List.all_nil]; rw [decT (p := (i : Int) < x.a) (by omega)]; rfl
        · by_cases h7 : x.op = 7
          · rw [if_neg h6, if_pos h7]; simp only [List.all_cons, List.all_nil]; rw [decT (p := (i : Int) < x.a) (by omega), decT (p := (i : Int) < (i : Int) + 1) (by omega)]; rfl
          · rw [if_neg h6, if_neg h7]; simp only [List.all_cons, List.all_nil]; rw [decT (p := (i : Int) < (i : Int) + 1) (by omega)]; rfl
      rw [this]
def StepA (s : Shp) (n : Nat) (mk : Nat → Known → List D) (r : Option (List D ⊕ PRes)) (i : Nat) (K : Known) (x : Ins) : Prop := match K i with
  | none => r = some (.inr (badR i))
  | some row => if rightB x then (match nextS s x row with
    | none => r = some (.inr (badR i))
    | some row' => match leadsA n i x with
      | none => r = some (.inr (badR i))
      | some T => r = match refPut n row' T K with
        | none => some (.inr (badR i))
        | some K' => some (.inl (mk (i + 1) K'))) else r = some (.inr (badR i))
theorem refPut_ok {n : Nat} {row' : List Int} (hr : RowOK row') : ∀ {T : List Int} {K K' : Known}, (∀ m r, K m = some r → RowOK r) → refPut n row' T K = some K' → ∀ m r, K' m = some r → RowOK r
  | [], K, K', hK, h => by cases h; exact hK
  | t :: ts, K, K', hK, h => by
    have hK2 : ∀ m r, setK K t.toNat row' m = some r → RowOK r := fun m r h => by
      unfold setK at h
      split at h
      · cases h; exact hr
      · exact hK m r h
    unfold refPut at h
    split at h
    · cases h
    · split at h
      · split at h
        · exact refPut_ok hr hK2 h
        · cases h
      · exact refPut_ok hr hK2 h
theorem checkA_loop {b : List D → Option (List D ⊕ PRes)} (s : Shp) (code : List Ins) (mk : Nat → Known → List D) (hs : shapeB s.ctors s.kinds s.lo s.hi = true)
    (hb : ∀ (i : Nat) K x, code[i]? = some x → (∀ m r, K m = some r → RowOK r) → StepA s code.length mk (b (mk i K)) i K x)
    (hend : ∀ K, b (mk code.length K) = some (.inr (.val [.int .i64 (code.length : Int), .bool true]))) :
    ∀ (rest : List Ins) (i : Nat) (K : Known), code.drop i = rest → i ≤ code.length → (∀ m r, K m = some r → RowOK r) → loopF b (mk i K) = some (chR (checkGo s code.length i rest K)) := by
  intro rest
  induction rest with
  | nil =>
    intro i K hd hi hK
    have : i = code.length := by have := congrArg List.length hd; simp at this; omega
    subst this
    rw [loopF_eq, hend]
    rfl
  | cons x xs ih =>
    intro i K hd hi hK
    have hx : code[i]? = some x := by
      have := congrArg (fun r => r[0]?) hd
      simpa using this
    have hlt := (List.getElem?_eq_some_iff.1 hx).1
    have hxs : code.drop (i + 1) = xs := by
      have := congrArg List.tail hd
      simpa using this
    have hs := hb i K x hx hK
    unfold StepA at hs
    unfold checkGo
    rw [loopF_eq]
    cases hq : K i with
    | none => rw [hq] at hs; rw [show b (mk i K) = _ from hs]; rfl
    | some row =>
      rw [hq] at hs
      simp only at hs ⊢
      by_cases hr : rightB x = true
      · rw [if_pos hr] at hs ⊢
        cases hn : nextS s x row with
        | none => rw [hn] at hs; rw [show b (mk i K) = _ from hs]; rfl
        | some row' =>
          rw [hn] at hs
          have hRow' := nextS_ok hn (hK i row hq) (by assumption) hr
          simp only at hs ⊢
          rw [leadsA_eq]
          cases hl : leadsA code.length i x with
          | none => rw [hl] at hs; rw [show b (mk i K) = _ from hs]; rfl
          | some T =>
            rw [hl] at hs
            simp only at hs ⊢
            rw [hs]
            have he := refPut_eq code.length row' T K
            by_cases hall : (T.all fun m => decide (m < (code.length : Int))) = true
            · rw [if_pos hall] at he ⊢
              simp only
              rw [← he]
              cases hp : refPut code.length row' T K with
              | none => rfl
              | some K' => exact ih (i + 1) K' hxs hlt (refPut_ok hRow' hK hp)
            · rw [if_neg hall] at he ⊢
              rw [he]; rfl
      · rw [if_neg hr] at hs ⊢
        rw [hs]; rfl
theorem rA_K0 (n : Nat) : rA n K00 = rA n (setK K00 0 []) := by
  unfold rA setK K00
  refine List.map_congr_left fun m _ => ?_
  by_cases h : m = 0
  · subst h; rfl
  · rw [if_neg h]
theorem kinds_ge {la lb : List Int} {lo hi : Int} (h : shapeB la lb lo hi = true) : ∀ k ∈ lb, 1 ≤ k := fun k hk => by
  unfold shapeB at h
  simp only [Bool.and_eq_true] at h
  have := List.all_eq_true.1 h.2 k hk
  rw [kind_eq] at this
  exact (withinB_iff.1 this).1
end Go.Vm
end

section
set_option maxRecDepth 100000
set_option maxHeartbeats 8000000
namespace Go.Vm
open Go.Proofs
theorem c13 (la lb : List Int) (lo hi : Int) (code : List Ins) (hla : la.length ≤ 10) (hlb : lb.length ≤ 1100) (hcl : code.length ≤ 1000) :
    cF 13 [shV (irows la) (irows lb) lo hi, .d (.sl 4 (crows code))] = some (chR (checkS ⟨la, lb, lo, hi⟩ code)) := by
  have h15 := c15 la lb lo hi (by omega) (by omega)
  unfold checkS
  simp only
  cases hs : shapeB la lb lo hi with
  | false =>
    rw [hs] at h15
    unfold shV at *
    refine cOf (by kernel_rfl) rfl ?_
    rw [g13_eq]
    simp only [g13, sy_wrap, sy_add, sy_sub, sy_mul, sy_ieq, sy_ilt, sy_ile, sy_seq, sy_beq, sy_bor, sy_bnot, sy_imax, sy_imin, sy_rlen, sy_slen, sy_sapp, sy_inr, sy_nat, sy_cell0, sy_cellS, sy_skip0, sy_inrn, sy_rapp, sy_fits, sy_cutok, sy_cut, sy_scut, sy_sbyte, sy_mkok, sy_mkok0, sy_mkz, sy_rep, sy_head, sy_deq, eqDs_int, eqDs_nil, opI_int, opB_bool, opS_str, opL_sl, opM_own, leaves_val, leaves_own, Option.bind_some, cutO_bool, bif_bool, cutO_inl, cutO_inr, eF_call, eF_lp, Nat.zero_add, Nat.reduceAdd, Bool.cond_false_right, Bool.cond_true_left, Bool.cond_false_left, Bool.cond_true_right, Bool.not_true, Bool.not_false, Bool.not_not, eq_self, decide_true, decide_false, cond_true, cond_false, Int.reduceEq, Int.reduceLT, Int.reduceLE, Int.reduceSub, Int.reduceAdd, Bool.true_and, Bool.and_true, Bool.false_and, Bool.and_false, Bool.or_false, Bool.false_or, Bool.true_or, Bool.or_true, true_and, and_true, h15]
    rfl
  | true =>
  rw [hs] at h15
  have hk1 := kinds_ge hs
  by_cases h1 : code.length < 1
  · unfold shV at *
    refine cOf (by kernel_rfl) rfl ?_
    rw [g13_eq]
    simp only [g13, sy_wrap, sy_add, sy_sub, sy_mul, sy_ieq, sy_ilt, sy_ile, sy_seq, sy_beq, sy_bor, sy_bnot, sy_imax, sy_imin, sy_rlen, sy_slen, sy_sapp, sy_inr, sy_nat, sy_cell0, sy_cellS, sy_skip0, sy_inrn, sy_rapp, sy_fits, sy_cutok, sy_cut, sy_scut, sy_sbyte, sy_mkok, sy_mkok0, sy_mkz, sy_rep, sy_head, sy_deq, eqDs_int, eqDs_nil, opI_int, opB_bool, opS_str, opL_sl, opM_own, leaves_val, leaves_own, Option.bind_some, cutO_bool, bif_bool, cutO_inl, cutO_inr, eF_call, eF_lp, Nat.zero_add, Nat.reduceAdd, Bool.cond_false_right, Bool.cond_true_left, Bool.cond_false_left, Bool.cond_true_right, Bool.not_true, Bool.not_false, Bool.not_not, eq_self, decide_true, decide_false, cond_true, cond_false, Int.reduceEq, Int.reduceLT, Int.reduceLE, Int.reduceSub, Int.reduceAdd, Bool.true_and, Bool.and_true, Bool.false_and, Bool.and_false, Bool.or_false, Bool.false_or, Bool.true_or, Bool.or_true, true_and, and_true, h15, crows_len]
    simp (disch := omega) only [wrap_id, decT, decF, sy_wrap, sy_add, sy_sub, sy_mul, sy_ieq, sy_ilt, sy_ile, sy_seq, sy_beq, sy_bor, sy_bnot, sy_imax, sy_imin, sy_rlen, sy_slen, sy_sapp, sy_inr, sy_nat, sy_cell0, sy_cellS, sy_skip0, sy_inrn, sy_rapp, sy_fits, sy_cutok, sy_cut, sy_scut, sy_sbyte, sy_mkok, sy_mkok0, sy_mkz, sy_rep, sy_head, sy_deq, eqDs_int, eqDs_nil, opI_int, opB_bool, opS_str, opL_sl, opM_own, leaves_val, leaves_own, Option.bind_some, cutO_bool, bif_bool, cutO_inl, cutO_inr, eF_call, eF_lp, Nat.zero_add, Nat.reduceAdd, Bool.cond_false_right, Bool.cond_true_left, Bool.cond_false_left, Bool.cond_true_right, Bool.not_true, Bool.not_false, Bool.not_not, eq_self, decide_true, decide_false, cond_true, cond_false, Int.reduceEq, Int.reduceLT, Int.reduceLE, Int.reduceSub, Int.reduceAdd, Bool.true_and, Bool.and_true, Bool.false_and, Bool.and_false, Bool.or_false, Bool.false_or, Bool.true_or, Bool.or_true, true_and, and_true]
    rfl
  rw [if_pos (by simp; omega)]
  have h36 := fun x row => c36 la lb lo hi x row hla (by omega) hk1
  unfold shV at *
  refine cOf (by kernel_rfl) rfl ?_
  rw [g13_eq]
  have h0 : 0 < code.length := by omega
  simp (disch := omega) only [g13, decT, decF, h15, crows_len, kA_zero, rA_zero, kA_len, rA_len, Int.toNat_zero, sy_wrap, sy_add, sy_sub, sy_mul, sy_ieq, sy_ilt, sy_ile, sy_seq, sy_beq, sy_bor, sy_bnot, sy_imax, sy_imin, sy_rlen, sy_slen, sy_sapp, sy_inr, sy_nat, sy_cell0, sy_cellS, sy_skip0, sy_inrn, sy_rapp, sy_fits, sy_cutok, sy_cut, sy_scut, sy_sbyte, sy_mkok, sy_mkok0, sy_mkz, sy_rep, sy_head, sy_deq, eqDs_int, eqDs_nil, opI_int, opB_bool, opS_str, opL_sl, opM_own, leaves_val, leaves_own, Option.bind_some, cutO_bool, bif_bool, cutO_inl, cutO_inr, eF_call, eF_lp, Nat.zero_add, Nat.reduceAdd, Bool.cond_false_right, Bool.cond_true_left, Bool.cond_false_left, Bool.cond_true_right, Bool.not_true, Bool.not_false, Bool.not_not, eq_self, decide_true, decide_false, cond_true, cond_false, Int.reduceEq, Int.reduceLT, Int.reduceLE, Int.reduceSub, Int.reduceAdd, Bool.true_and, Bool.and_true, Bool.false_and, Bool.and_false, Bool.or_false, Bool.false_or, Bool.true_or, Bool.or_true, true_and, and_true]
  rw [kA_put [] h0, rA_K0]
  refine checkA_loop ⟨la, lb, lo, hi⟩ code (fun i K => [.sl 4 (crows code), .int .i64 (i : Int), .sl 1 (irows la), .sl 1 (irows lb), .int .i64 lo, .int .i64 hi, .sl 1 (kA code.length K), .sl 1 (rA code.length K)]) hs (fun i K x hx hKO => ?_) (fun K => ?_) code 0 (setK K00 0 []) rfl (Nat.zero_le _) (fun m r hm => ?_)
  · have hlt := (List.getElem?_eq_some_iff.1 hx).1
    have h35 := c35 x
    unfold StepA
    cases hk : K i with
    | none =>
      simp only [sy_wrap, sy_add, sy_sub, sy_mul, sy_ieq, sy_ilt, sy_ile, sy_seq, sy_beq, sy_bor, sy_bnot, sy_imax, sy_imin, sy_rlen, sy_slen, sy_sapp, sy_inr, sy_nat, sy_cell0, sy_cellS, sy_skip0, sy_inrn, sy_rapp, sy_fits, sy_cutok, sy_cut, sy_scut, sy_sbyte, sy_mkok, sy_mkok0, sy_mkz, sy_rep, sy_head, sy_deq, eqDs_int, eqDs_nil, opI_int, opB_bool, opS_str, opL_sl, opM_own, leaves_val, leaves_own, Option.bind_some, cutO_bool, bif_bool, cutO_inl, cutO_inr, eF_call, eF_lp, Nat.zero_add, Nat.reduceAdd, Bool.cond_false_right, Bool.cond_true_left, Bool.cond_false_left, Bool.cond_true_right, Bool.not_true, Bool.not_false, Bool.not_not, eq_self, decide_true, decide_false, cond_true, cond_false, Int.reduceEq, Int.reduceLT, Int.reduceLE, Int.reduceSub, Int.reduceAdd, Bool.true_and, Bool.and_true, Bool.false_and, Bool.and_false, Bool.or_false, Bool.false_or, Bool.true_or, Bool.or_true, true_and, and_true, crows_len, ilt_at hlt, inr_at hlt, crows_at hx, Ins.row, kA_len, Int.toNat_natCast, kA_at hlt, hk, Option.isSome_none]
      rfl
    | some row =>
      have hro := hKO i row hk
      simp only
      unfold insV at *
      cases hr : rightB x with
      | false =>
        rw [hr] at h35
        simp only [sy_wrap, sy_add, sy_sub, sy_mul, sy_ieq, sy_ilt, sy_ile, sy_seq, sy_beq, sy_bor, sy_bnot, sy_imax, sy_imin, sy_rlen, sy_slen, sy_sapp, sy_inr, sy_nat, sy_cell0, sy_cellS, sy_skip0, sy_inrn, sy_rapp, sy_fits, sy_cutok, sy_cut, sy_scut, sy_sbyte, sy_mkok, sy_mkok0, sy_mkz, sy_rep, sy_head, sy_deq, eqDs_int, eqDs_nil, opI_int, opB_bool, opS_str, opL_sl, opM_own, leaves_val, leaves_own, Option.bind_some, cutO_bool, bif_bool, cutO_inl, cutO_inr, eF_call, eF_lp, Nat.zero_add, Nat.reduceAdd, Bool.cond_false_right, Bool.cond_true_left, Bool.cond_false_left, Bool.cond_true_right, Bool.not_true, Bool.not_false, Bool.not_not, eq_self, decide_true, decide_false, cond_true, cond_false, Int.reduceEq, Int.reduceLT, Int.reduceLE, Int.reduceSub, Int.reduceAdd, Bool.true_and, Bool.and_true, Bool.false_and, Bool.and_false, Bool.or_false, Bool.false_or, Bool.true_or, Bool.or_true, true_and, and_true, crows_len, ilt_at hlt, inr_at hlt, crows_at hx, Ins.row, kA_len, Int.toNat_natCast, kA_at hlt, hk, Option.isSome_some, h35]
        rfl
      | true =>
        rw [hr] at h35
        obtain ⟨p, h36, hp⟩ := h36 x row (by have := hro.2; omega) hro.1 hr
        obtain ⟨l, b, rfl, hlb2⟩ := rowR_val hp
        simp only [sy_wrap, sy_add, sy_sub, sy_mul, sy_ieq, sy_ilt, sy_ile, sy_seq, sy_beq, sy_bor, sy_bnot, sy_imax, sy_imin, sy_rlen, sy_slen, sy_sapp, sy_inr, sy_nat, sy_cell0, sy_cellS, sy_skip0, sy_inrn, sy_rapp, sy_fits, sy_cutok, sy_cut, sy_scut, sy_sbyte, sy_mkok, sy_mkok0, sy_mkz, sy_rep, sy_head, sy_deq, eqDs_int, eqDs_nil, opI_int, opB_bool, opS_str, opL_sl, opM_own, leaves_val, leaves_own, Option.bind_some, cutO_bool, bif_bool, cutO_inl, cutO_inr, eF_call, eF_lp, Nat.zero_add, Nat.reduceAdd, Bool.cond_false_right, Bool.cond_true_left, Bool.cond_false_left, Bool.cond_true_right, Bool.not_true, Bool.not_false, Bool.not_not, eq_self, decide_true, decide_false, cond_true, cond_false, Int.reduceEq, Int.reduceLT, Int.reduceLE, Int.reduceSub, Int.reduceAdd, Bool.true_and, Bool.and_true, Bool.false_and, Bool.and_false, Bool.or_false, Bool.false_or, Bool.true_or, Bool.or_true, true_and, and_true, crows_len, ilt_at hlt, inr_at hlt, crows_at hx, Ins.row, kA_len, rA_len, Int.toNat_natCast, kA_at hlt, rA_at hlt, hk, Option.isSome_some, Option.getD_some, h35, h36, if_true]
        cases hn : nextS ⟨la, lb, lo, hi⟩ x row with
        | none => rw [hn] at hlb2; rw [show b = false from hlb2]; rfl
        | some row' =>
          rw [hn] at hlb2
          obtain ⟨rfl, rfl⟩ := hlb2
          have hRow' := nextS_ok hn hro hs hr
          unfold leadsA
          have ha : x.op = 6 ∨ x.op = 7 → 0 ≤ x.a ∧ x.a ≤ 65535 := fun h => by
            have hr2 := hr
            rw [right_eq] at hr2
            simp only [Bool.and_eq_true] at hr2
            have q2 := hr2.1.1.2
            unfold firstB at q2
            rw [if_neg (by omega), if_neg (by omega), if_neg (by omega), if_neg (by omega)] at q2
            exact withinB_iff.1 q2
          by_cases h10 : x.op = 10
          · rw [if_pos h10]
            by_cases hend : i + 1 = code.length
            · rw [if_pos hend]
              simp (disch := omega) only [sy_wrap, sy_add, sy_sub, sy_mul, sy_ieq, sy_ilt, sy_ile, sy_seq, sy_beq, sy_bor, sy_bnot, sy_imax, sy_imin, sy_rlen, sy_slen, sy_sapp, sy_inr, sy_nat, sy_cell0, sy_cellS, sy_skip0, sy_inrn, sy_rapp, sy_fits, sy_cutok, sy_cut, sy_scut, sy_sbyte, sy_mkok, sy_mkok0, sy_mkz, sy_rep, sy_head, sy_deq, eqDs_int, eqDs_nil, opI_int, opB_bool, opS_str, opL_sl, opM_own, leaves_val, leaves_own, Option.bind_some, cutO_bool, bif_bool, cutO_inl, cutO_inr, eF_call, eF_lp, Nat.zero_add, Nat.reduceAdd, Bool.cond_false_right, Bool.cond_true_left, Bool.cond_false_left, Bool.cond_true_right, Bool.not_true, Bool.not_false, Bool.not_not, eq_self, decide_true, decide_false, cond_true, cond_false, Int.reduceEq, Int.reduceLT, Int.reduceLE, Int.reduceSub, Int.reduceAdd, Bool.true_and, Bool.and_true, Bool.false_and, Bool.and_false, Bool.or_false, Bool.false_or, Bool.true_or, Bool.or_true, true_and, and_true, decT, decF, h10, wrap_succ hlt (by omega)]
              have hT0 : ∀ t ∈ ([] : List Int), 0 ≤ t := by simp
              refine (refPut_loop code.length ([] : List Int) l (fun j K => [.sl 4 (crows code), .int .i64 (i : Int), .sl 1 (irows l), .int .i64 (j : Int), .sl 1 (irows la), .sl 1 (irows lb), .int .i64 lo, .int .i64 hi, .sl 1 (kA code.length K), .sl 1 (rA code.length K), .sl 1 (irows ([] : List Int))])
                (fun K => [.sl 4 (crows code), .int .i64 ((i + 1 : Nat) : Int), .sl 1 (irows la), .sl 1 (irows lb), .int .i64 lo, .int .i64 hi, .sl 1 (kA code.length K), .sl 1 (rA code.length K)]) (badR i) (fun j K t ht hKO => ?_) (fun K => ?_) hRow' ([] : List Int) 0 K rfl (Nat.zero_le _) hKO).trans ?_
              · have hjlt := (List.getElem?_eq_some_iff.1 ht).1
                have ht0 := hT0 t (List.mem_of_getElem? ht)
                by_cases htn : (code.length : Int) ≤ t
                · rw [if_pos htn]
                  simp only [sy_wrap, sy_add, sy_sub, sy_mul, sy_ieq, sy_ilt, sy_ile, sy_seq, sy_beq, sy_bor, sy_bnot, sy_imax, sy_imin, sy_rlen, sy_slen, sy_sapp, sy_inr, sy_nat, sy_cell0, sy_cellS, sy_skip0, sy_inrn, sy_rapp, sy_fits, sy_cutok, sy_cut, sy_scut, sy_sbyte, sy_mkok, sy_mkok0, sy_mkz, sy_rep, sy_head, sy_deq, eqDs_int, eqDs_nil, opI_int, opB_bool, opS_str, opL_sl, opM_own, leaves_val, leaves_own, Option.bind_some, cutO_bool, bif_bool, cutO_inl, cutO_inr, eF_call, eF_lp, Nat.zero_add, Nat.reduceAdd, Bool.cond_false_right, Bool.cond_true_left, Bool.cond_false_left, Bool.cond_true_right, Bool.not_true, Bool.not_false, Bool.not_not, eq_self, decide_true, decide_false, cond_true, cond_false, Int.reduceEq, Int.reduceLT, Int.reduceLE, Int.reduceSub, Int.reduceAdd, Bool.true_and, Bool.and_true, Bool.false_and, Bool.and_false, Bool.or_false, Bool.false_or, Bool.true_or, Bool.or_true, true_and, and_true, irows_len, crows_len, Int.toNat_natCast, ilt_at hjlt, inr_at hjlt, irows_rown ht, decT htn]
                  rfl
                · rw [if_neg htn]
                  have h1 : t.toNat < code.length := by omega
                  have h2 : decide (0 ≤ t ∧ t < (code.length : Int)) = true := decT ⟨ht0, by omega⟩
                  cases hq : K t.toNat with
                  | none =>
                    simp only [sy_wrap, sy_add, sy_sub, sy_mul, sy_ieq, sy_ilt, sy_ile, sy_seq, sy_beq, sy_bor, sy_bnot, sy_imax, sy_imin, sy_rlen, sy_slen, sy_sapp, sy_inr, sy_nat, sy_cell0, sy_cellS, sy_skip0, sy_inrn, sy_rapp, sy_fits, sy_cutok, sy_cut, sy_scut, sy_sbyte, sy_mkok, sy_mkok0, sy_mkz, sy_rep, sy_head, sy_deq, eqDs_int, eqDs_nil, opI_int, opB_bool, opS_str, opL_sl, opM_own, leaves_val, leaves_own, Option.bind_some, cutO_bool, bif_bool, cutO_inl, cutO_inr, eF_call, eF_lp, Nat.zero_add, Nat.reduceAdd, Bool.cond_false_right, Bool.cond_true_left, Bool.cond_false_left, Bool.cond_true_right, Bool.not_true, Bool.not_false, Bool.not_not, eq_self, decide_true, decide_false, cond_true, cond_false, Int.reduceEq, Int.reduceLT, Int.reduceLE, Int.reduceSub, Int.reduceAdd, Bool.true_and, Bool.and_true, Bool.false_and, Bool.and_false, Bool.or_false, Bool.false_or, Bool.true_or, Bool.or_true, true_and, and_true, irows_len, crows_len, Int.toNat_natCast, ilt_at hjlt, inr_at hjlt, irows_rown ht, decF htn, kA_len, rA_len, h2, decT h1, kA_at h1, hq, Option.isSome_none, kA_put l h1, rA_put h1, wrap_succ hjlt (by simp)]
                    rfl
                  | some was =>
                    have hw := hKO _ _ hq
                    simp only [sy_wrap, sy_add, sy_sub, sy_mul, sy_ieq, sy_ilt, sy_ile, sy_seq, sy_beq, sy_bor, sy_bnot, sy_imax, sy_imin, sy_rlen, sy_slen, sy_sapp, sy_inr, sy_nat, sy_cell0, sy_cellS, sy_skip0, sy_inrn, sy_rapp, sy_fits, sy_cutok, sy_cut, sy_scut, sy_sbyte, sy_mkok, sy_mkok0, sy_mkz, sy_rep, sy_head, sy_deq, eqDs_int, eqDs_nil, opI_int, opB_bool, opS_str, opL_sl, opM_own, leaves_val, leaves_own, Option.bind_some, cutO_bool, bif_bool, cutO_inl, cutO_inr, eF_call, eF_lp, Nat.zero_add, Nat.reduceAdd, Bool.cond_false_right, Bool.cond_true_left, Bool.cond_false_left, Bool.cond_true_right, Bool.not_true, Bool.not_false, Bool.not_not, eq_self, decide_true, decide_false, cond_true, cond_false, Int.reduceEq, Int.reduceLT, Int.reduceLE, Int.reduceSub, Int.reduceAdd, Bool.true_and, Bool.and_true, Bool.false_and, Bool.and_false, Bool.or_false, Bool.false_or, Bool.true_or, Bool.or_true, true_and, and_true, irows_len, crows_len, Int.toNat_natCast, ilt_at hjlt, inr_at hjlt, irows_rown ht, decF htn, kA_len, rA_len, h2, decT h1, kA_at h1, rA_at h1, hq, Option.isSome_some, Option.getD_some, c37 was l (by have := hw.2; omega), kA_put l h1, rA_put h1, wrap_succ hjlt (by simp)]
                    by_cases he : was = l
                    · rw [if_pos he, show (was == l) = true from by simp [he]]; rfl
                    · rw [if_neg he, show (was == l) = false from by simp [he]]; rfl
              · simp only [sy_wrap, sy_add, sy_sub, sy_mul, sy_ieq, sy_ilt, sy_ile, sy_seq, sy_beq, sy_bor, sy_bnot, sy_imax, sy_imin, sy_rlen, sy_slen, sy_sapp, sy_inr, sy_nat, sy_cell0, sy_cellS, sy_skip0, sy_inrn, sy_rapp, sy_fits, sy_cutok, sy_cut, sy_scut, sy_sbyte, sy_mkok, sy_mkok0, sy_mkz, sy_rep, sy_head, sy_deq, eqDs_int, eqDs_nil, opI_int, opB_bool, opS_str, opL_sl, opM_own, leaves_val, leaves_own, Option.bind_some, cutO_bool, bif_bool, cutO_inl, cutO_inr, eF_call, eF_lp, Nat.zero_add, Nat.reduceAdd, Bool.cond_false_right, Bool.cond_true_left, Bool.cond_false_left, Bool.cond_true_right, Bool.not_true, Bool.not_false, Bool.not_not, eq_self, decide_true, decide_false, cond_true, cond_false, Int.reduceEq, Int.reduceLT, Int.reduceLE, Int.reduceSub, Int.reduceAdd, Bool.true_and, Bool.and_true, Bool.false_and, Bool.and_false, Bool.or_false, Bool.false_or, Bool.true_or, Bool.or_true, true_and, and_true, irows_len, ilt_self, wrap_succ hlt (by omega)]
                rfl
              · cases refPut code.length l ([] : List Int) K <;> rfl
            · rw [if_neg hend]
              simp (disch := omega) only [sy_wrap, sy_add, sy_sub, sy_mul, sy_ieq, sy_ilt, sy_ile, sy_seq, sy_beq, sy_bor, sy_bnot, sy_imax, sy_imin, sy_rlen, sy_slen, sy_sapp, sy_inr, sy_nat, sy_cell0, sy_cellS, sy_skip0, sy_inrn, sy_rapp, sy_fits, sy_cutok, sy_cut, sy_scut, sy_sbyte, sy_mkok, sy_mkok0, sy_mkz, sy_rep, sy_head, sy_deq, eqDs_int, eqDs_nil, opI_int, opB_bool, opS_str, opL_sl, opM_own, leaves_val, leaves_own, Option.bind_some, cutO_bool, bif_bool, cutO_inl, cutO_inr, eF_call, eF_lp, Nat.zero_add, Nat.reduceAdd, Bool.cond_false_right, Bool.cond_true_left, Bool.cond_false_left, Bool.cond_true_right, Bool.not_true, Bool.not_false, Bool.not_not, eq_self, decide_true, decide_false, cond_true, cond_false, Int.reduceEq, Int.reduceLT, Int.reduceLE, Int.reduceSub, Int.reduceAdd, Bool.true_and, Bool.and_true, Bool.false_and, Bool.and_false, Bool.or_false, Bool.false_or, Bool.true_or, Bool.or_true, true_and, and_true, decT, decF, h10, wrap_succ hlt (by omega)]
              rfl
          rw [if_neg h10]
          by_cases hb6 : (x.op = 6 ∨ x.op = 7) ∧ x.a ≤ (i : Int)
          · rw [if_pos hb6]
            rcases hb6.1 with h | h
            · simp (disch := omega) only [sy_wrap, sy_add, sy_sub, sy_mul, sy_ieq, sy_ilt, sy_ile, sy_seq, sy_beq, sy_bor, sy_bnot, sy_imax, sy_imin, sy_rlen, sy_slen, sy_sapp, sy_inr, sy_nat, sy_cell0, sy_cellS, sy_skip0, sy_inrn, sy_rapp, sy_fits, sy_cutok, sy_cut, sy_scut, sy_sbyte, sy_mkok, sy_mkok0, sy_mkz, sy_rep, sy_head, sy_deq, eqDs_int, eqDs_nil, opI_int, opB_bool, opS_str, opL_sl, opM_own, leaves_val, leaves_own, Option.bind_some, cutO_bool, bif_bool, cutO_inl, cutO_inr, eF_call, eF_lp, Nat.zero_add, Nat.reduceAdd, Bool.cond_false_right, Bool.cond_true_left, Bool.cond_false_left, Bool.cond_true_right, Bool.not_true, Bool.not_false, Bool.not_not, eq_self, decide_true, decide_false, cond_true, cond_false, Int.reduceEq, Int.reduceLT, Int.reduceLE, Int.reduceSub, Int.reduceAdd, Bool.true_and, Bool.and_true, Bool.false_and, Bool.and_false, Bool.or_false, Bool.false_or, Bool.true_or, Bool.or_true, true_and, and_true, decT, decF, h, wrap_succ hlt (by omega)]
              rfl
            · simp (disch := omega) only [sy_wrap, sy_add, sy_sub, sy_mul, sy_ieq, sy_ilt, sy_ile, sy_seq, sy_beq, sy_bor, sy_bnot, sy_imax, sy_imin, sy_rlen, sy_slen, sy_sapp, sy_inr, sy_nat, sy_cell0, sy_cellS, sy_skip0, sy_inrn, sy_rapp, sy_fits, sy_cutok, sy_cut, sy_scut, sy_sbyte, sy_mkok, sy_mkok0, sy_mkz, sy_rep, sy_head, sy_deq, eqDs_int, eqDs_nil, opI_int, opB_bool, opS_str, opL_sl, opM_own, leaves_val, leaves_own, Option.bind_some, cutO_bool, bif_bool, cutO_inl, cutO_inr, eF_call, eF_lp, Nat.zero_add, Nat.reduceAdd, Bool.cond_false_right, Bool.cond_true_left, Bool.cond_false_left, Bool.cond_true_right, Bool.not_true, Bool.not_false, Bool.not_not, eq_self, decide_true, decide_false, cond_true, cond_false, Int.reduceEq, Int.reduceLT, Int.reduceLE, Int.reduceSub, Int.reduceAdd, Bool.true_and, Bool.and_true, Bool.false_and, Bool.and_false, Bool.or_false, Bool.false_or, Bool.true_or, Bool.or_true, true_and, and_true, decT, decF, h, wrap_succ hlt (by omega), List.length_nil, List.length_cons]
              rfl
          rw [if_neg hb6]
          unfold leadsL
          by_cases h6 : x.op = 6
          · rw [if_pos h6]
            have hT0 : ∀ t ∈ [x.a], 0 ≤ t := fun t ht => by
              simp only [List.mem_cons, List.not_mem_nil, or_false] at ht
              subst ht
              exact (ha (.inl h6)).1
            simp (disch := omega) only [sy_wrap, sy_add, sy_sub, sy_mul, sy_ieq, sy_ilt, sy_ile, sy_seq, sy_beq, sy_bor, sy_bnot, sy_imax, sy_imin, sy_rlen, sy_slen, sy_sapp, sy_inr, sy_nat, sy_cell0, sy_cellS, sy_skip0, sy_inrn, sy_rapp, sy_fits, sy_cutok, sy_cut, sy_scut, sy_sbyte, sy_mkok, sy_mkok0, sy_mkz, sy_rep, sy_head, sy_deq, eqDs_int, eqDs_nil, opI_int, opB_bool, opS_str, opL_sl, opM_own, leaves_val, leaves_own, Option.bind_some, cutO_bool, bif_bool, cutO_inl, cutO_inr, eF_call, eF_lp, Nat.zero_add, Nat.reduceAdd, Bool.cond_false_right, Bool.cond_true_left, Bool.cond_false_left, Bool.cond_true_right, Bool.not_true, Bool.not_false, Bool.not_not, eq_self, decide_true, decide_false, cond_true, cond_false, Int.reduceEq, Int.reduceLT, Int.reduceLE, Int.reduceSub, Int.reduceAdd, Bool.true_and, Bool.and_true, Bool.false_and, Bool.and_false, Bool.or_false, Bool.false_or, Bool.true_or, Bool.or_true, true_and, and_true, decT, decF, h6, wrap_succ hlt (by omega), List.length_nil, List.length_cons, List.nil_append]
            refine (refPut_loop code.length [x.a] l (fun j K => [.sl 4 (crows code), .int .i64 (i : Int), .sl 1 (irows l), .int .i64 (j : Int), .sl 1 (irows la), .sl 1 (irows lb), .int .i64 lo, .int .i64 hi, .sl 1 (kA code.length K), .sl 1 (rA code.length K), .sl 1 (irows [x.a])])
              (fun K => [.sl 4 (crows code), .int .i64 ((i + 1 : Nat) : Int), .sl 1 (irows la), .sl 1 (irows lb), .int .i64 lo, .int .i64 hi, .sl 1 (kA code.length K), .sl 1 (rA code.length K)]) (badR i) (fun j K t ht hKO => ?_) (fun K => ?_) hRow' [x.a] 0 K rfl (Nat.zero_le _) hKO).trans ?_
            · have hjlt := (List.getElem?_eq_some_iff.1 ht).1
              have ht0 := hT0 t (List.mem_of_getElem? ht)
              by_cases htn : (code.length : Int) ≤ t
              · rw [if_pos htn]
                simp only [sy_wrap, sy_add, sy_sub, sy_mul, sy_ieq, sy_ilt, sy_ile, sy_seq, sy_beq, sy_bor, sy_bnot, sy_imax, sy_imin, sy_rlen, sy_slen, sy_sapp, sy_inr, sy_nat, sy_cell0, sy_cellS, sy_skip0, sy_inrn, sy_rapp, sy_fits, sy_cutok, sy_cut, sy_scut, sy_sbyte, sy_mkok, sy_mkok0, sy_mkz, sy_rep, sy_head, sy_deq, eqDs_int, eqDs_nil, opI_int, opB_bool, opS_str, opL_sl, opM_own, leaves_val, leaves_own, Option.bind_some, cutO_bool, bif_bool, cutO_inl, cutO_inr, eF_call, eF_lp, Nat.zero_add, Nat.reduceAdd, Bool.cond_false_right, Bool.cond_true_left, Bool.cond_false_left, Bool.cond_true_right, Bool.not_true, Bool.not_false, Bool.not_not, eq_self, decide_true, decide_false, cond_true, cond_false, Int.reduceEq, Int.reduceLT, Int.reduceLE, Int.reduceSub, Int.reduceAdd, Bool.true_and, Bool.and_true, Bool.false_and, Bool.and_false, Bool.or_false, Bool.false_or, Bool.true_or, Bool.or_true, true_and, and_true, irows_len, crows_len, Int.toNat_natCast, ilt_at hjlt, inr_at hjlt, irows_rown ht, decT htn]
                rfl
              · rw [if_neg htn]
                have h1 : t.toNat < code.length := by omega
                have h2 : decide (0 ≤ t ∧ t < (code.length : Int)) = true := decT ⟨ht0, by omega⟩
                cases hq : K t.toNat with
                | none =>
                  simp only [sy_wrap, sy_add, sy_sub, sy_mul, sy_ieq, sy_ilt, sy_ile, sy_seq, sy_beq, sy_bor, sy_bnot, sy_imax, sy_imin, sy_rlen, sy_slen, sy_sapp, sy_inr, sy_nat, sy_cell0, sy_cellS, sy_skip0, sy_inrn, sy_rapp, sy_fits, sy_cutok, sy_cut, sy_scut, sy_sbyte, sy_mkok, sy_mkok0, sy_mkz, sy_rep, sy_head, sy_deq, eqDs_int, eqDs_nil, opI_int, opB_bool, opS_str, opL_sl, opM_own, leaves_val, leaves_own, Option.bind_some, cutO_bool, bif_bool, cutO_inl, cutO_inr, eF_call, eF_lp, Nat.zero_add, Nat.reduceAdd, Bool.cond_false_right, Bool.cond_true_left, Bool.cond_false_left, Bool.cond_true_right, Bool.not_true, Bool.not_false, Bool.not_not, eq_self, decide_true, decide_false, cond_true, cond_false, Int.reduceEq, Int.reduceLT, Int.reduceLE, Int.reduceSub, Int.reduceAdd, Bool.true_and, Bool.and_true, Bool.false_and, Bool.and_false, Bool.or_false, Bool.false_or, Bool.true_or, Bool.or_true, true_and, and_true, irows_len, crows_len, Int.toNat_natCast, ilt_at hjlt, inr_at hjlt, irows_rown ht, decF htn, kA_len, rA_len, h2, decT h1, kA_at h1, hq, Option.isSome_none, kA_put l h1, rA_put h1, wrap_succ hjlt (by simp)]
                  rfl
                | some was =>
                  have hw := hKO _ _ hq
                  simp only [sy_wrap, sy_add, sy_sub, sy_mul, sy_ieq, sy_ilt, sy_ile, sy_seq, sy_beq, sy_bor, sy_bnot, sy_imax, sy_imin, sy_rlen, sy_slen, sy_sapp, sy_inr, sy_nat, sy_cell0, sy_cellS, sy_skip0, sy_inrn, sy_rapp, sy_fits, sy_cutok, sy_cut, sy_scut, sy_sbyte, sy_mkok, sy_mkok0, sy_mkz, sy_rep, sy_head, sy_deq, eqDs_int, eqDs_nil, opI_int, opB_bool, opS_str, opL_sl, opM_own, leaves_val, leaves_own, Option.bind_some, cutO_bool, bif_bool, cutO_inl, cutO_inr, eF_call, eF_lp, Nat.zero_add, Nat.reduceAdd, Bool.cond_false_right, Bool.cond_true_left, Bool.cond_false_left, Bool.cond_true_right, Bool.not_true, Bool.not_false, Bool.not_not, eq_self, decide_true, decide_false, cond_true, cond_false, Int.reduceEq, Int.reduceLT, Int.reduceLE, Int.reduceSub, Int.reduceAdd, Bool.true_and, Bool.and_true, Bool.false_and, Bool.and_false, Bool.or_false, Bool.false_or, Bool.true_or, Bool.or_true, true_and, and_true, irows_len, crows_len, Int.toNat_natCast, ilt_at hjlt, inr_at hjlt, irows_rown ht, decF htn, kA_len, rA_len, h2, decT h1, kA_at h1, rA_at h1, hq, Option.isSome_some, Option.getD_some, c37 was l (by have := hw.2; omega), kA_put l h1, rA_put h1, wrap_succ hjlt (by simp)]
                  by_cases he : was = l
                  · rw [if_pos he, show (was == l) = true from by simp [he]]; rfl
                  · rw [if_neg he, show (was == l) = false from by simp [he]]; rfl
            · simp only [sy_wrap, sy_add, sy_sub, sy_mul, sy_ieq, sy_ilt, sy_ile, sy_seq, sy_beq, sy_bor, sy_bnot, sy_imax, sy_imin, sy_rlen, sy_slen, sy_sapp, sy_inr, sy_nat, sy_cell0, sy_cellS, sy_skip0, sy_inrn, sy_rapp, sy_fits, sy_cutok, sy_cut, sy_scut, sy_sbyte, sy_mkok, sy_mkok0, sy_mkz, sy_rep, sy_head, sy_deq, eqDs_int, eqDs_nil, opI_int, opB_bool, opS_str, opL_sl, opM_own, leaves_val, leaves_own, Option.bind_some, cutO_bool, bif_bool, cutO_inl, cutO_inr, eF_call, eF_lp, Nat.zero_add, Nat.reduceAdd, Bool.cond_false_right, Bool.cond_true_left, Bool.cond_false_left, Bool.cond_true_right, Bool.not_true, Bool.not_false, Bool.not_not, eq_self, decide_true, decide_false, cond_true, cond_false, Int.reduceEq, Int.reduceLT, Int.reduceLE, Int.reduceSub, Int.reduceAdd, Bool.true_and, Bool.and_true, Bool.false_and, Bool.and_false, Bool.or_false, Bool.false_or, Bool.true_or, Bool.or_true, true_and, and_true, irows_len, ilt_self, wrap_succ hlt (by omega)]
              rfl
            · cases refPut code.length l [x.a] K <;> rfl
          by_cases h7 : x.op = 7
          · rw [if_neg h6, if_pos h7]
            have hT0 : ∀ t ∈ [(i : Int) + 1, x.a], 0 ≤ t := fun t ht => by
              simp only [List.mem_cons, List.not_mem_nil, or_false] at ht
              rcases ht with rfl | rfl
              · omega
              · exact (ha (.inr h7)).1
            simp (disch := omega) only [sy_wrap, sy_add, sy_sub, sy_mul, sy_ieq, sy_ilt, sy_ile, sy_seq, sy_beq, sy_bor, sy_bnot, sy_imax, sy_imin, sy_rlen, sy_slen, sy_sapp, sy_inr, sy_nat, sy_cell0, sy_cellS, sy_skip0, sy_inrn, sy_rapp, sy_fits, sy_cutok, sy_cut, sy_scut, sy_sbyte, sy_mkok, sy_mkok0, sy_mkz, sy_rep, sy_head, sy_deq, eqDs_int, eqDs_nil, opI_int, opB_bool, opS_str, opL_sl, opM_own, leaves_val, leaves_own, Option.bind_some, cutO_bool, bif_bool, cutO_inl, cutO_inr, eF_call, eF_lp, Nat.zero_add, Nat.reduceAdd, Bool.cond_false_right, Bool.cond_true_left, Bool.cond_false_left, Bool.cond_true_right, Bool.not_true, Bool.not_false, Bool.not_not, eq_self, decide_true, decide_false, cond_true, cond_false, Int.reduceEq, Int.reduceLT, Int.reduceLE, Int.reduceSub, Int.reduceAdd, Bool.true_and, Bool.and_true, Bool.false_and, Bool.and_false, Bool.or_false, Bool.false_or, Bool.true_or, Bool.or_true, true_and, and_true, decT, decF, h7, wrap_succ hlt (by omega), List.length_nil, List.length_cons, List.nil_append, List.cons_append]
            refine (refPut_loop code.length [(i : Int) + 1, x.a] l (fun j K => [.sl 4 (crows code), .int .i64 (i : Int), .sl 1 (irows l), .int .i64 (j : Int), .sl 1 (irows la), .sl 1 (irows lb), .int .i64 lo, .int .i64 hi, .sl 1 (kA code.length K), .sl 1 (rA code.length K), .sl 1 (irows [(i : Int) + 1, x.a])])
              (fun K => [.sl 4 (crows code), .int .i64 ((i + 1 : Nat) : Int), .sl 1 (irows la), .sl 1 (irows lb), .int .i64 lo, .int .i64 hi, .sl 1 (kA code.length K), .sl 1 (rA code.length K)]) (badR i) (fun j K t ht hKO => ?_) (fun K => ?_) hRow' [(i : Int) + 1, x.a] 0 K rfl (Nat.zero_le _) hKO).trans ?_
            · have hjlt := (List.getElem?_eq_some_iff.1 ht).1
              have ht0 := hT0 t (List.mem_of_getElem? ht)
              by_cases htn : (code.length : Int) ≤ t
              · rw [if_pos htn]
                simp only [sy_wrap, sy_add, sy_sub, sy_mul, sy_ieq, sy_ilt, sy_ile, sy_seq, sy_beq, sy_bor, sy_bnot, sy_imax, sy_imin, sy_rlen, sy_slen, sy_sapp, sy_inr, sy_nat, sy_cell0, sy_cellS, sy_skip0, sy_inrn, sy_rapp, sy_fits, sy_cutok, sy_cut, sy_scut, sy_sbyte, sy_mkok, sy_mkok0, sy_mkz, sy_rep, sy_head, sy_deq, eqDs_int, eqDs_nil, opI_int, opB_bool, opS_str, opL_sl, opM_own, leaves_val, leaves_own, Option.bind_some, cutO_bool, bif_bool, cutO_inl, cutO_inr, eF_call, eF_lp, Nat.zero_add, Nat.reduceAdd, Bool.cond_false_right, Bool.cond_true_left, Bool.cond_false_left, Bool.cond_true_right, Bool.not_true, Bool.not_false, Bool.not_not, eq_self, decide_true, decide_false, cond_true, cond_false, Int.reduceEq, Int.reduceLT, Int.reduceLE, Int.reduceSub, Int.reduceAdd, Bool.true_and, Bool.and_true, Bool.false_and, Bool.and_false, Bool.or_false, Bool.false_or, Bool.true_or, Bool.or_true, true_and, and_true, irows_len, crows_len, Int.toNat_natCast, ilt_at hjlt, inr_at hjlt, irows_rown ht, decT htn]
                rfl
              · rw [if_neg htn]
                have h1 : t.toNat < code.length := by omega
                have h2 : decide (0 ≤ t ∧ t < (code.length : Int)) = true := decT ⟨ht0, by omega⟩
                cases hq : K t.toNat with
                | none =>
                  simp only [sy_wrap, sy_add, sy_sub, sy_mul, sy_ieq, sy_ilt, sy_ile, sy_seq, sy_beq, sy_bor, sy_bnot, sy_imax, sy_imin, sy_rlen, sy_slen, sy_sapp, sy_inr, sy_nat, sy_cell0, sy_cellS, sy_skip0, sy_inrn, sy_rapp, sy_fits, sy_cutok, sy_cut, sy_scut, sy_sbyte, sy_mkok, sy_mkok0, sy_mkz, sy_rep, sy_head, sy_deq, eqDs_int, eqDs_nil, opI_int, opB_bool, opS_str, opL_sl, opM_own, leaves_val, leaves_own, Option.bind_some, cutO_bool, bif_bool, cutO_inl, cutO_inr, eF_call, eF_lp, Nat.zero_add, Nat.reduceAdd, Bool.cond_false_right, Bool.cond_true_left, Bool.cond_false_left, Bool.cond_true_right, Bool.not_true, Bool.not_false, Bool.not_not, eq_self, decide_true, decide_false, cond_true, cond_false, Int.reduceEq, Int.reduceLT, Int.reduceLE, Int.reduceSub, Int.reduceAdd, Bool.true_and, Bool.and_true, Bool.false_and, Bool.and_false, Bool.or_false, Bool.false_or, Bool.true_or, Bool.or_true, true_and, and_true, irows_len, crows_len, Int.toNat_natCast, ilt_at hjlt, inr_at hjlt, irows_rown ht, decF htn, kA_len, rA_len, h2, decT h1, kA_at h1, hq, Option.isSome_none, kA_put l h1, rA_put h1, wrap_succ hjlt (by simp)]
                  rfl
                | some was =>
                  have hw := hKO _ _ hq
                  simp only [sy_wrap, sy_add, sy_sub, sy_mul, sy_ieq, sy_ilt, sy_ile, sy_seq, sy_beq, sy_bor, sy_bnot, sy_imax, sy_imin, sy_rlen, sy_slen, sy_sapp, sy_inr, sy_nat, sy_cell0, sy_cellS, sy_skip0, sy_inrn, sy_rapp, sy_fits, sy_cutok, sy_cut, sy_scut, sy_sbyte, sy_mkok, sy_mkok0, sy_mkz, sy_rep, sy_head, sy_deq, eqDs_int, eqDs_nil, opI_int, opB_bool, opS_str, opL_sl, opM_own, leaves_val, leaves_own, Option.bind_some, cutO_bool, bif_bool, cutO_inl, cutO_inr, eF_call, eF_lp, Nat.zero_add, Nat.reduceAdd, Bool.cond_false_right, Bool.cond_true_left, Bool.cond_false_left, Bool.cond_true_right, Bool.not_true, Bool.not_false, Bool.not_not, eq_self, decide_true, decide_false, cond_true, cond_false, Int.reduceEq, Int.reduceLT, Int.reduceLE, Int.reduceSub, Int.reduceAdd, Bool.true_and, Bool.and_true, Bool.false_and, Bool.and_false, Bool.or_false, Bool.false_or, Bool.true_or, Bool.or_true, true_and, and_true, irows_len, crows_len, Int.toNat_natCast, ilt_at hjlt, inr_at hjlt, irows_rown ht, decF htn, kA_len, rA_len, h2, decT h1, kA_at h1, rA_at h1, hq, Option.isSome_some, Option.getD_some, c37 was l (by have := hw.2; omega), kA_put l h1, rA_put h1, wrap_succ hjlt (by simp)]
                  by_cases he : was = l
                  · rw [if_pos he, show (was == l) = true from by simp [he]]; rfl
                  · rw [if_neg he, show (was == l) = false from by simp [he]]; rfl
            · simp only [sy_wrap, sy_add, sy_sub, sy_mul, sy_ieq, sy_ilt, sy_ile, sy_seq, sy_beq, sy_bor, sy_bnot, sy_imax, sy_imin, sy_rlen, sy_slen, sy_sapp, sy_inr, sy_nat, sy_cell0, sy_cellS, sy_skip0, sy_inrn, sy_rapp, sy_fits, sy_cutok, sy_cut, sy_scut, sy_sbyte, sy_mkok, sy_mkok0, sy_mkz, sy_rep, sy_head, sy_deq, eqDs_int, eqDs_nil, opI_int, opB_bool, opS_str, opL_sl, opM_own, leaves_val, leaves_own, Option.bind_some, cutO_bool, bif_bool, cutO_inl, cutO_inr, eF_call, eF_lp, Nat.zero_add, Nat.reduceAdd, Bool.cond_false_right, Bool.cond_true_left, Bool.cond_false_left, Bool.cond_true_right, Bool.not_true, Bool.not_false, Bool.not_not, eq_self, decide_true, decide_false, cond_true, cond_false, Int.reduceEq, Int.reduceLT, Int.reduceLE, Int.reduceSub, Int.reduceAdd, Bool.true_and, Bool.and_true, Bool.false_and, Bool.and_false, Bool.or_false, Bool.false_or, Bool.true_or, Bool.or_true, true_and, and_true, irows_len, ilt_self, wrap_succ hlt (by omega)]
              rfl
            · cases refPut code.length l [(i : Int) + 1, x.a] K <;> rfl
          · rw [if_neg h6, if_neg h7]
            have hT0 : ∀ t ∈ [(i : Int) + 1], 0 ≤ t := fun t ht => by
              simp only [List.mem_cons, List.not_mem_nil, or_false] at ht
              omega
            simp (disch := omega) only [sy_wrap, sy_add, sy_sub, sy_mul, sy_ieq, sy_ilt, sy_ile, sy_seq, sy_beq, sy_bor, sy_bnot, sy_imax, sy_imin, sy_rlen, sy_slen, sy_sapp, sy_inr, sy_nat, sy_cell0, sy_cellS, sy_skip0, sy_inrn, sy_rapp, sy_fits, sy_cutok, sy_cut, sy_scut, sy_sbyte, sy_mkok, sy_mkok0, sy_mkz, sy_rep, sy_head, sy_deq, eqDs_int, eqDs_nil, opI_int, opB_bool, opS_str, opL_sl, opM_own, leaves_val, leaves_own, Option.bind_some, cutO_bool, bif_bool, cutO_inl, cutO_inr, eF_call, eF_lp, Nat.zero_add, Nat.reduceAdd, Bool.cond_false_right, Bool.cond_true_left, Bool.cond_false_left, Bool.cond_true_right, Bool.not_true, Bool.not_false, Bool.not_not, eq_self, decide_true, decide_false, cond_true, cond_false, Int.reduceEq, Int.reduceLT, Int.reduceLE, Int.reduceSub, Int.reduceAdd, Bool.true_and, Bool.and_true, Bool.false_and, Bool.and_false, Bool.or_false, Bool.false_or, Bool.true_or, Bool.or_true, true_and, and_true, decT, decF, wrap_succ hlt (by omega), List.length_nil, List.length_cons, List.nil_append]
            refine (refPut_loop code.length [(i : Int) + 1] l (fun j K => [.sl 4 (crows code), .int .i64 (i : Int), .sl 1 (irows l), .int .i64 (j : Int), .sl 1 (irows la), .sl 1 (irows lb), .int .i64 lo, .int .i64 hi, .sl 1 (kA code.length K), .sl 1 (rA code.length K), .sl 1 (irows [(i : Int) + 1])])
              (fun K => [.sl 4 (crows code), .int .i64 ((i + 1 : Nat) : Int), .sl 1 (irows la), .sl 1 (irows lb), .int .i64 lo, .int .i64 hi, .sl 1 (kA code.length K), .sl 1 (rA code.length K)]) (badR i) (fun j K t ht hKO => ?_) (fun K => ?_) hRow' [(i : Int) + 1] 0 K rfl (Nat.zero_le _) hKO).trans ?_
            · have hjlt := (List.getElem?_eq_some_iff.1 ht).1
              have ht0 := hT0 t (List.mem_of_getElem? ht)
              by_cases htn : (code.length : Int) ≤ t
              · rw [if_pos htn]
                simp only [sy_wrap, sy_add, sy_sub, sy_mul, sy_ieq, sy_ilt, sy_ile, sy_seq, sy_beq, sy_bor, sy_bnot, sy_imax, sy_imin, sy_rlen, sy_slen, sy_sapp, sy_inr, sy_nat, sy_cell0, sy_cellS, sy_skip0, sy_inrn, sy_rapp, sy_fits, sy_cutok, sy_cut, sy_scut, sy_sbyte, sy_mkok, sy_mkok0, sy_mkz, sy_rep, sy_head, sy_deq, eqDs_int, eqDs_nil, opI_int, opB_bool, opS_str, opL_sl, opM_own, leaves_val, leaves_own, Option.bind_some, cutO_bool, bif_bool, cutO_inl, cutO_inr, eF_call, eF_lp, Nat.zero_add, Nat.reduceAdd, Bool.cond_false_right, Bool.cond_true_left, Bool.cond_false_left, Bool.cond_true_right, Bool.not_true, Bool.not_false, Bool.not_not, eq_self, decide_true, decide_false, cond_true, cond_false, Int.reduceEq, Int.reduceLT, Int.reduceLE, Int.reduceSub, Int.reduceAdd, Bool.true_and, Bool.and_true, Bool.false_and, Bool.and_false, Bool.or_false, Bool.false_or, Bool.true_or, Bool.or_true, true_and, and_true, irows_len, crows_len, Int.toNat_natCast, ilt_at hjlt, inr_at hjlt, irows_rown ht, decT htn]
                rfl
              · rw [if_neg htn]
                have h1 : t.toNat < code.length := by omega
                have h2 : decide (0 ≤ t ∧ t < (code.length : Int)) = true := decT ⟨ht0, by omega⟩
                cases hq : K t.toNat with
                | none =>
                  simp only [sy_wrap, sy_add, sy_sub, sy_mul, sy_ieq, sy_ilt, sy_ile, sy_seq, sy_beq, sy_bor, sy_bnot, sy_imax, sy_imin, sy_rlen, sy_slen, sy_sapp, sy_inr, sy_nat, sy_cell0, sy_cellS, sy_skip0, sy_inrn, sy_rapp, sy_fits, sy_cutok, sy_cut, sy_scut, sy_sbyte, sy_mkok, sy_mkok0, sy_mkz, sy_rep, sy_head, sy_deq, eqDs_int, eqDs_nil, opI_int, opB_bool, opS_str, opL_sl, opM_own, leaves_val, leaves_own, Option.bind_some, cutO_bool, bif_bool, cutO_inl, cutO_inr, eF_call, eF_lp, Nat.zero_add, Nat.reduceAdd, Bool.cond_false_right, Bool.cond_true_left, Bool.cond_false_left, Bool.cond_true_right, Bool.not_true, Bool.not_false, Bool.not_not, eq_self, decide_true, decide_false, cond_true, cond_false, Int.reduceEq, Int.reduceLT, Int.reduceLE, Int.reduceSub, Int.reduceAdd, Bool.true_and, Bool.and_true, Bool.false_and, Bool.and_false, Bool.or_false, Bool.false_or, Bool.true_or, Bool.or_true, true_and, and_true, irows_len, crows_len, Int.toNat_natCast, ilt_at hjlt, inr_at hjlt, irows_rown ht, decF htn, kA_len, rA_len, h2, decT h1, kA_at h1, hq, Option.isSome_none, kA_put l h1, rA_put h1, wrap_succ hjlt (by simp)]
                  rfl
                | some was =>
                  have hw := hKO _ _ hq
                  simp only [sy_wrap, sy_add, sy_sub, sy_mul, sy_ieq, sy_ilt, sy_ile, sy_seq, sy_beq, sy_bor, sy_bnot, sy_imax, sy_imin, sy_rlen, sy_slen, sy_sapp, sy_inr, sy_nat, sy_cell0, sy_cellS, sy_skip0, sy_inrn, sy_rapp, sy_fits, sy_cutok, sy_cut, sy_scut, sy_sbyte, sy_mkok, sy_mkok0, sy_mkz, sy_rep, sy_head, sy_deq, eqDs_int, eqDs_nil, opI_int, opB_bool, opS_str, opL_sl, opM_own, leaves_val, leaves_own, Option.bind_some, cutO_bool, bif_bool, cutO_inl, cutO_inr, eF_call, eF_lp, Nat.zero_add, Nat.reduceAdd, Bool.cond_false_right, Bool.cond_true_left, Bool.cond_false_left, Bool.cond_true_right, Bool.not_true, Bool.not_false, Bool.not_not, eq_self, decide_true, decide_false, cond_true, cond_false, Int.reduceEq, Int.reduceLT, Int.reduceLE, Int.reduceSub, Int.reduceAdd, Bool.true_and, Bool.and_true, Bool.false_and, Bool.and_false, Bool.or_false, Bool.false_or, Bool.true_or, Bool.or_true, true_and, and_true, irows_len, crows_len, Int.toNat_natCast, ilt_at hjlt, inr_at hjlt, irows_rown ht, decF htn, kA_len, rA_len, h2, decT h1, kA_at h1, rA_at h1, hq, Option.isSome_some, Option.getD_some, c37 was l (by have := hw.2; omega), kA_put l h1, rA_put h1, wrap_succ hjlt (by simp)]
                  by_cases he : was = l
                  · rw [if_pos he, show (was == l) = true from by simp [he]]; rfl
                  · rw [if_neg he, show (was == l) = false from by simp [he]]; rfl
            · simp only [sy_wrap, sy_add, sy_sub, sy_mul, sy_ieq, sy_ilt, sy_ile, sy_seq, sy_beq, sy_bor, sy_bnot, sy_imax, sy_imin, sy_rlen, sy_slen, sy_sapp, sy_inr, sy_nat, sy_cell0, sy_cellS, sy_skip0, sy_inrn, sy_rapp, sy_fits, sy_cutok, sy_cut, sy_scut, sy_sbyte, sy_mkok, sy_mkok0, sy_mkz, sy_rep, sy_head, sy_deq, eqDs_int, eqDs_nil, opI_int, opB_bool, opS_str, opL_sl, opM_own, leaves_val, leaves_own, Option.bind_some, cutO_bool, bif_bool, cutO_inl, cutO_inr, eF_call, eF_lp, Nat.zero_add, Nat.reduceAdd, Bool.cond_false_right, Bool.cond_true_left, Bool.cond_false_left, Bool.cond_true_right, Bool.not_true, Bool.not_false, Bool.not_not, eq_self, decide_true, decide_false, cond_true, cond_false, Int.reduceEq, Int.reduceLT, Int.reduceLE, Int.reduceSub, Int.reduceAdd, Bool.true_and, Bool.and_true, Bool.false_and, Bool.and_false, Bool.or_false, Bool.false_or, Bool.true_or, Bool.or_true, true_and, and_true, irows_len, ilt_self, wrap_succ hlt (by omega)]
              rfl
            · cases refPut code.length l [(i : Int) + 1] K <;> rfl
  · simp only [sy_wrap, sy_add, sy_sub, sy_mul, sy_ieq, sy_ilt, sy_ile, sy_seq, sy_beq, sy_bor, sy_bnot, sy_imax, sy_imin, sy_rlen, sy_slen, sy_sapp, sy_inr, sy_nat, sy_cell0, sy_cellS, sy_skip0, sy_inrn, sy_rapp, sy_fits, sy_cutok, sy_cut, sy_scut, sy_sbyte, sy_mkok, sy_mkok0, sy_mkz, sy_rep, sy_head, sy_deq, eqDs_int, eqDs_nil, opI_int, opB_bool, opS_str, opL_sl, opM_own, leaves_val, leaves_own, Option.bind_some, cutO_bool, bif_bool, cutO_inl, cutO_inr, eF_call, eF_lp, Nat.zero_add, Nat.reduceAdd, Bool.cond_false_right, Bool.cond_true_left, Bool.cond_false_left, Bool.cond_true_right, Bool.not_true, Bool.not_false, Bool.not_not, eq_self, decide_true, decide_false, cond_true, cond_false, Int.reduceEq, Int.reduceLT, Int.reduceLE, Int.reduceSub, Int.reduceAdd, Bool.true_and, Bool.and_true, Bool.false_and, Bool.and_false, Bool.or_false, Bool.false_or, Bool.true_or, Bool.or_true, true_and, and_true, ilt_self, crows_len]
  · unfold setK at hm
    split at hm
    · cases hm; exact ⟨by simp, by simp⟩
    · cases hm
end Go.Vm
end

section
set_option maxRecDepth 1000000
set_option maxHeartbeats 0
namespace Go.Vm
open Go.Proofs
def g107 (A : Sy) (E : Env) (op_ : Int) (a_ : Int) : Option PRes :=
  bif (A.ieq op_ 1) then
    some (PRes.val [(D.int IntKind.i64 (A.wrap IntKind.i64 (A.wrap IntKind.u64 (A.sub 0 (A.wrap IntKind.u64 a_))))), (D.int IntKind.i64 0)])
  else
    bif (A.ieq op_ 2) then
      (E.call 130 [(V.d (D.bool (A.ieq a_ 0)))]).bind fun p1 =>
      (opI (A.cell p1.leaves 0) IntKind.i64).bind fun n3 =>
      some (PRes.val [(D.int IntKind.i64 n3), (D.int IntKind.i64 0)])
    else
      some (PRes.val [(D.int IntKind.i64 0), (D.int IntKind.i64 1)])
theorem g107_eq (A : Sy) (E : Env) (op_ : Int) (a_ : Int) : (funT A Try.prog cs 107 [V.d (D.int IntKind.i64 op_), V.d (D.int IntKind.i64 a_)]).run E = g107 A E op_ a_ := by kernel_rfl
def g108 (A : Sy) (E : Env) (op_ : Int) (a_ : Int) (b_ : Int) : Option PRes :=
  bif (A.ieq op_ 3) then
    (E.call 131 [(V.d (D.int IntKind.i64 op_)), (V.d (D.int IntKind.i64 a_)), (V.d (D.int IntKind.i64 b_))]).bind fun p1 =>
    (opI (A.cell p1.leaves 0) IntKind.i64).bind fun n3 =>
    (opI (A.cell p1.leaves 1) IntKind.i64).bind fun n4 =>
    some (PRes.val [(D.int IntKind.i64 n3), (D.int IntKind.i64 n4)])
  else
    bif (A.ieq op_ 4) then
      (E.call 131 [(V.d (D.int IntKind.i64 op_)), (V.d (D.int IntKind.i64 a_)), (V.d (D.int IntKind.i64 b_))]).bind fun p5 =>
      (opI (A.cell p5.leaves 0) IntKind.i64).bind fun n7 =>
      (opI (A.cell p5.leaves 1) IntKind.i64).bind fun n8 =>
      some (PRes.val [(D.int IntKind.i64 n7), (D.int IntKind.i64 n8)])
    else
      bif (A.ieq op_ 5) then
        (E.call 131 [(V.d (D.int IntKind.i64 op_)), (V.d (D.int IntKind.i64 a_)), (V.d (D.int IntKind.i64 b_))]).bind fun p9 =>
        (opI (A.cell p9.leaves 0) IntKind.i64).bind fun n11 =>
        (opI (A.cell p9.leaves 1) IntKind.i64).bind fun n12 =>
        some (PRes.val [(D.int IntKind.i64 n11), (D.int IntKind.i64 n12)])
      else
        bif (A.ieq op_ 6) then
          (E.call 131 [(V.d (D.int IntKind.i64 op_)), (V.d (D.int IntKind.i64 a_)), (V.d (D.int IntKind.i64 b_))]).bind fun p13 =>
          (opI (A.cell p13.leaves 0) IntKind.i64).bind fun n15 =>
          (opI (A.cell p13.leaves 1) IntKind.i64).bind fun n16 =>
          some (PRes.val [(D.int IntKind.i64 n15), (D.int IntKind.i64 n16)])
        else
          bif (A.ieq op_ 7) then
            (E.call 131 [(V.d (D.int IntKind.i64 op_)), (V.d (D.int IntKind.i64 a_)), (V.d (D.int IntKind.i64 b_))]).bind fun p17 =>
            (opI (A.cell p17.leaves 0) IntKind.i64).bind fun n19 =>
            (opI (A.cell p17.leaves 1) IntKind.i64).bind fun n20 =>
            some (PRes.val [(D.int IntKind.i64 n19), (D.int IntKind.i64 n20)])
          else
            bif (A.ieq op_ 8) then
              cutO (
                bif (A.bnot (A.ieq a_ 0)) then
                  some (.inl [(D.bool (A.bnot (A.ieq b_ 0)))])
                else
                  some (.inl [(D.bool false)])
              ) fun ds21 =>
              (opB (A.cell ds21 0)).bind fun b22 =>
              (E.call 130 [(V.d (D.bool b22))]).bind fun p23 =>
              (opI (A.cell p23.leaves 0) IntKind.i64).bind fun n25 =>
              some (PRes.val [(D.int IntKind.i64 n25), (D.int IntKind.i64 0)])
            else
              bif (A.ieq op_ 9) then
                cutO (
                  bif (A.bnot (A.ieq a_ 0)) then
                    some (.inl [(D.bool true)])
                  else
                    some (.inl [(D.bool (A.bnot (A.ieq b_ 0)))])
                ) fun ds26 =>
                (opB (A.cell ds26 0)).bind fun b27 =>
                (E.call 130 [(V.d (D.bool b27))]).bind fun p28 =>
                (opI (A.cell p28.leaves 0) IntKind.i64).bind fun n30 =>
                some (PRes.val [(D.int IntKind.i64 n30), (D.int IntKind.i64 0)])
              else
                bif (A.ieq op_ 10) then
                  (E.call 130 [(V.d (D.bool (A.bnot (A.beq (A.bnot (A.ieq a_ 0)) (A.bnot (A.ieq b_ 0))))))]).bind fun p31 =>
                  (opI (A.cell p31.leaves 0) IntKind.i64).bind fun n33 =>
                  some (PRes.val [(D.int IntKind.i64 n33), (D.int IntKind.i64 0)])
                else
                  bif (A.ieq op_ 11) then
                    (E.call 130 [(V.d (D.bool (A.ieq a_ b_)))]).bind fun p34 =>
                    (opI (A.cell p34.leaves 0) IntKind.i64).bind fun n36 =>
                    some (PRes.val [(D.int IntKind.i64 n36), (D.int IntKind.i64 0)])
                  else
                    bif (A.ieq op_ 12) then
                      (E.call 130 [(V.d (D.bool (A.bnot (A.ieq a_ b_))))]).bind fun p37 =>
                      (opI (A.cell p37.leaves 0) IntKind.i64).bind fun n39 =>
                      some (PRes.val [(D.int IntKind.i64 n39), (D.int IntKind.i64 0)])
                    else
                      bif (A.ieq op_ 13) then
                        (E.call 130 [(V.d (D.bool (A.ilt a_ b_)))]).bind fun p40 =>
                        (opI (A.cell p40.leaves 0) IntKind.i64).bind fun n42 =>
                        some (PRes.val [(D.int IntKind.i64 n42), (D.int IntKind.i64 0)])
                      else
                        bif (A.ieq op_ 14) then
                          (E.call 130 [(V.d (D.bool (A.ile a_ b_)))]).bind fun p43 =>
                          (opI (A.cell p43.leaves 0) IntKind.i64).bind fun n45 =>
                          some (PRes.val [(D.int IntKind.i64 n45), (D.int IntKind.i64 0)])
                        else
                          bif (A.ieq op_ 15) then
                            (E.call 130 [(V.d (D.bool (A.ilt b_ a_)))]).bind fun p46 =>
                            (opI (A.cell p46.leaves 0) IntKind.i64).bind fun n48 =>
                            some (PRes.val [(D.int IntKind.i64 n48), (D.int IntKind.i64 0)])
                          else
                            bif (A.ieq op_ 16) then
                              (E.call 130 [(V.d (D.bool (A.ile b_ a_)))]).bind fun p49 =>
                              (opI (A.cell p49.leaves 0) IntKind.i64).bind fun n51 =>
                              some (PRes.val [(D.int IntKind.i64 n51), (D.int IntKind.i64 0)])
                            else
                              some (PRes.val [(D.int IntKind.i64 0), (D.int IntKind.i64 1)])
theorem g108_eq (A : Sy) (E : Env) (op_ : Int) (a_ : Int) (b_ : Int) : (funT A Try.prog cs 108 [V.d (D.int IntKind.i64 op_), V.d (D.int IntKind.i64 a_), V.d (D.int IntKind.i64 b_)]).run E = g108 A E op_ a_ b_ := by kernel_rfl
def g130 (A : Sy) (E : Env) (b_ : Bool) : Option PRes :=
  bif b_ then
    some (PRes.val [(D.int IntKind.i64 1)])
  else
    some (PRes.val [(D.int IntKind.i64 0)])
theorem g130_eq (A : Sy) (E : Env) (b_ : Bool) : (funT A Try.prog cs 130 [V.d (D.bool b_)]).run E = g130 A E b_ := by kernel_rfl
def g131 (A : Sy) (E : Env) (op_ : Int) (a_ : Int) (b_ : Int) : Option PRes :=
  bif (A.ieq op_ 3) then
    some (PRes.val [(D.int IntKind.i64 (A.wrap IntKind.i64 (A.wrap IntKind.u64 (A.add (A.wrap IntKind.u64 a_) (A.wrap IntKind.u64 b_))))), (D.int IntKind.i64 0)])
  else
    bif (A.ieq op_ 4) then
      some (PRes.val [(D.int IntKind.i64 (A.wrap IntKind.i64 (A.wrap IntKind.u64 (A.sub (A.wrap IntKind.u64 a_) (A.wrap IntKind.u64 b_))))), (D.int IntKind.i64 0)])
    else
      bif (A.ieq op_ 5) then
        some (PRes.val [(D.int IntKind.i64 (A.wrap IntKind.i64 (A.wrap IntKind.u64 (A.mul (A.wrap IntKind.u64 a_) (A.wrap IntKind.u64 b_))))), (D.int IntKind.i64 0)])
      else
        bif (A.ieq b_ 0) then
          some (PRes.val [(D.int IntKind.i64 0), (D.int IntKind.i64 15)])
        else
          (E.call 154 [(V.d (D.int IntKind.i64 a_)), (V.d (D.int IntKind.i64 b_))]).bind fun p1 =>
          (opI (A.cell p1.leaves 0) IntKind.i64).bind fun n3 =>
          bif (A.ieq op_ 6) then
            some (PRes.val [(D.int IntKind.i64 n3), (D.int IntKind.i64 0)])
          else
            some (PRes.val [(D.int IntKind.i64 (A.wrap IntKind.i64 (A.wrap IntKind.u64 (A.sub (A.wrap IntKind.u64 a_) (A.wrap IntKind.u64 (A.mul (A.wrap IntKind.u64 b_) (A.wrap IntKind.u64 n3))))))), (D.int IntKind.i64 0)])
theorem g131_eq (A : Sy) (E : Env) (op_ : Int) (a_ : Int) (b_ : Int) : (funT A Try.prog cs 131 [V.d (D.int IntKind.i64 op_), V.d (D.int IntKind.i64 a_), V.d (D.int IntKind.i64 b_)]).run E = g131 A E op_ a_ b_ := by kernel_rfl
def g154 (A : Sy) (E : Env) (a_ : Int) (b_ : Int) : Option PRes :=
  (E.call 172 [(V.d (D.int IntKind.i64 a_))]).bind fun p1 =>
  (opI (A.cell p1.leaves 0) IntKind.u64).bind fun n3 =>
  (E.call 172 [(V.d (D.int IntKind.i64 b_))]).bind fun p4 =>
  (opI (A.cell p4.leaves 0) IntKind.u64).bind fun n6 =>
  bif (A.bnot (A.ieq n6 0)) then
    bif (A.bnot (A.beq (A.ilt a_ 0) (A.ilt b_ 0))) then
      some (PRes.val [(D.int IntKind.i64 (A.wrap IntKind.i64 (A.wrap IntKind.u64 (A.sub 0 (A.wrap IntKind.u64 (A.quo n3 n6))))))])
    else
      some (PRes.val [(D.int IntKind.i64 (A.wrap IntKind.i64 (A.wrap IntKind.u64 (A.quo n3 n6))))])
  else
    none
theorem g154_eq (A : Sy) (E : Env) (a_ : Int) (b_ : Int) : (funT A Try.prog cs 154 [V.d (D.int IntKind.i64 a_), V.d (D.int IntKind.i64 b_)]).run E = g154 A E a_ b_ := by kernel_rfl
def g172 (A : Sy) (E : Env) (a_ : Int) : Option PRes :=
  bif (A.ilt a_ 0) then
    some (PRes.val [(D.int IntKind.u64 (A.wrap IntKind.u64 (A.sub 0 (A.wrap IntKind.u64 a_))))])
  else
    some (PRes.val [(D.int IntKind.u64 (A.wrap IntKind.u64 a_))])
theorem g172_eq (A : Sy) (E : Env) (a_ : Int) : (funT A Try.prog cs 172 [V.d (D.int IntKind.i64 a_)]).run E = g172 A E a_ := by kernel_rfl
def g7 (A : Sy) (E : Env) (s_0 : List (List D)) (s_1 : List (List D)) (s_2 : Int) (s_3 : Int) (code_ : List (List D)) (cells_ : List (List D)) : Option PRes :=
  cutO (
    bif (A.ilt 10 (A.rlen s_0)) then
      some (.inl [(D.bool true)])
    else
      some (.inl [(D.bool (A.ilt 1100 (A.rlen s_1)))])
  ) fun ds1 =>
  (opB (A.cell ds1 0)).bind fun b2 =>
  cutO (
    bif b2 then
      some (.inl [(D.bool true)])
    else
      some (.inl [(D.bool (A.ilt 400 (A.rlen code_)))])
  ) fun ds3 =>
  (opB (A.cell ds3 0)).bind fun b4 =>
  cutO (
    bif b4 then
      some (.inl [(D.bool true)])
    else
      (E.call 22 [(V.agg [(V.d (D.sl 1 s_0)), (V.d (D.sl 1 s_1)), (V.d (D.int IntKind.i64 s_2)), (V.d (D.int IntKind.i64 s_3))]), (V.d (D.sl 1 cells_))]).bind fun p5 =>
      (opB (A.cell p5.leaves 0)).bind fun b7 =>
      some (.inl [(D.bool (A.bnot b7))])
  ) fun ds8 =>
  (opB (A.cell ds8 0)).bind fun b9 =>
  bif b9 then
    (E.call 16 []).bind fun p10 =>
    (opB (A.cell p10.leaves 0)).bind fun b12 =>
    some (PRes.val [(D.bool b12)])
  else
    (E.call 13 [(V.agg [(V.d (D.sl 1 s_0)), (V.d (D.sl 1 s_1)), (V.d (D.int IntKind.i64 s_2)), (V.d (D.int IntKind.i64 s_3))]), (V.d (D.sl 4 code_))]).bind fun p13 =>
    (opI (A.cell p13.leaves 0) IntKind.i64).bind fun n15 =>
    (opB (A.cell p13.leaves 1)).bind fun b16 =>
    bif (A.bnot b16) then
      (E.call 16 []).bind fun p17 =>
      (opB (A.cell p17.leaves 0)).bind fun b19 =>
      some (PRes.val [(D.bool b19)])
    else
      (E.call 17 [(V.d (D.sl 4 code_))]).bind fun p20 =>
      (opI (A.cell p20.leaves 0) IntKind.i64).bind fun n22 =>
      (E.call 23 [(V.d (D.sl 4 code_)), (V.d (D.sl 1 cells_)), (V.d (D.int IntKind.i64 n22))]).bind fun p23 =>
      (opL (A.cell p23.leaves 0) 1).bind fun l25 =>
      (opI (A.cell p23.leaves 1) IntKind.i64).bind fun n26 =>
      (opI (A.cell p23.leaves 2) IntKind.i64).bind fun n27 =>
      cutO (
        bif (A.ile 1 n22) then
          some (.inl [(D.bool (A.ile n22 (A.rlen code_)))])
        else
          some (.inl [(D.bool false)])
      ) fun ds28 =>
      (opB (A.cell ds28 0)).bind fun b29 =>
      cutO (
        bif b29 then
          some (.inl [(D.bool (A.ile n26 n22))])
        else
          some (.inl [(D.bool false)])
      ) fun ds30 =>
      (opB (A.cell ds30 0)).bind fun b31 =>
      cutO (
        bif b31 then
          some (.inl [(D.bool (A.bnot (A.ieq n27 17)))])
        else
          some (.inl [(D.bool false)])
      ) fun ds32 =>
      (opB (A.cell ds32 0)).bind fun b33 =>
      cutO (
        bif b33 then
          some (.inl [(D.bool (A.bnot (A.ieq n27 13)))])
        else
          some (.inl [(D.bool false)])
      ) fun ds34 =>
      (opB (A.cell ds34 0)).bind fun b35 =>
      cutO (
        bif b35 then
          (E.call 16 []).bind fun p36 =>
          (opB (A.cell p36.leaves 0)).bind fun b38 =>
          some (.inl [(D.bool b38)])
        else
          some (.inl [(D.bool false)])
      ) fun ds39 =>
      (opB (A.cell ds39 0)).bind fun b40 =>
      some (PRes.val [(D.bool b40)])
theorem g7_eq (A : Sy) (E : Env) (s_0 : List (List D)) (s_1 : List (List D)) (s_2 : Int) (s_3 : Int) (code_ : List (List D)) (cells_ : List (List D)) : (funT A Try.prog cs 7 [V.agg [V.d (D.sl 1 s_0), V.d (D.sl 1 s_1), V.d (D.int IntKind.i64 s_2), V.d (D.int IntKind.i64 s_3)], V.d (D.sl 4 code_), V.d (D.sl 1 cells_)]).run E = g7 A E s_0 s_1 s_2 s_3 code_ cells_ := by kernel_rfl
end Go.Vm
end

section
set_option maxRecDepth 1000000
set_option maxHeartbeats 0
namespace Go.Vm
open Go.Proofs
def g23 (A : Sy) (E : Env) (code_ : List (List D)) (cells_ : List (List D)) (fuel_ : Int) : Option PRes :=
  bif (A.fits [] cells_ 8) then
    E.lp (fun ds1 =>
      (opL (A.cell ds1 0) 4).bind fun l2 =>
      (opL (A.cell ds1 1) 1).bind fun l3 =>
      (opI (A.cell ds1 2) IntKind.i64).bind fun n4 =>
      (opI (A.cell ds1 3) IntKind.i64).bind fun n5 =>
      (opL (A.cell ds1 4) 1).bind fun l6 =>
      (opL (A.cell ds1 5) 1).bind fun l7 =>
      (opI (A.cell ds1 6) IntKind.i64).bind fun n8 =>
      (opI (A.cell ds1 7) IntKind.i64).bind fun n9 =>
      bif (A.ieq n9 0) then
        bif (A.ile (A.rlen l2) n8) then
          some (.inr (PRes.val [(D.sl 1 l3), (D.int IntKind.i64 n5), (D.int IntKind.i64 13)]))
        else
          bif (A.ile n4 n5) then
            some (.inr (PRes.val [(D.sl 1 l3), (D.int IntKind.i64 n5), (D.int IntKind.i64 17)]))
          else
            bif (A.inr n8 (A.rlen l2)) then
              (opI (A.cell (A.row l2 n8) 0) IntKind.i64).bind fun n10 =>
              (opI (A.cell (A.row l2 n8) 1) IntKind.i64).bind fun n11 =>
              (opI (A.cell (A.row l2 n8) 2) IntKind.i64).bind fun n12 =>
              (opI (A.cell (A.row l2 n8) 3) IntKind.i64).bind fun n13 =>
              (E.call 35 [(V.agg [(V.d (D.int IntKind.i64 n10)), (V.d (D.int IntKind.i64 n11)), (V.d (D.int IntKind.i64 n12)), (V.d (D.int IntKind.i64 n13))])]).bind fun p14 =>
              (opB (A.cell p14.leaves 0)).bind fun b16 =>
              bif (A.bnot b16) then
                some (.inr (PRes.val [(D.sl 1 l3), (D.int IntKind.i64 (A.wrap IntKind.i64 (A.add n5 1))), (D.int IntKind.i64 13)]))
              else
                bif (A.inr n8 (A.rlen l2)) then
                  (opI (A.cell (A.row l2 n8) 0) IntKind.i64).bind fun n17 =>
                  (opI (A.cell (A.row l2 n8) 1) IntKind.i64).bind fun n18 =>
                  (opI (A.cell (A.row l2 n8) 2) IntKind.i64).bind fun n19 =>
                  (opI (A.cell (A.row l2 n8) 3) IntKind.i64).bind fun n20 =>
                  bif (A.ieq n17 1) then
                    bif (A.ile 16 (A.rlen l7)) then
                      some (.inl [(D.sl 4 l2), (D.sl 1 l3), (D.int IntKind.i64 n4), (D.int IntKind.i64 (A.wrap IntKind.i64 (A.add n5 1))), (D.sl 1 l6), (D.sl 1 l7), (D.int IntKind.i64 (A.wrap IntKind.i64 (A.add n8 1))), (D.int IntKind.i64 13)])
                    else
                      bif (A.fits [] l7 8) then
                        bif (A.fits (A.rapp [] l7) [[(D.int IntKind.i64 n20)]] 8) then
                          some (.inl [(D.sl 4 l2), (D.sl 1 l3), (D.int IntKind.i64 n4), (D.int IntKind.i64 (A.wrap IntKind.i64 (A.add n5 1))), (D.sl 1 l6), (D.sl 1 (A.rapp (A.rapp [] l7) [[(D.int IntKind.i64 n20)]])), (D.int IntKind.i64 (A.wrap IntKind.i64 (A.add n8 1))), (D.int IntKind.i64 n9)])
                        else
                          none
                      else
                        none
                  else
                    bif (A.ieq n17 2) then
                      bif (A.ilt (A.rlen l6) (A.wrap IntKind.i64 (A.add n18 1))) then
                        some (.inl [(D.sl 4 l2), (D.sl 1 l3), (D.int IntKind.i64 n4), (D.int IntKind.i64 (A.wrap IntKind.i64 (A.add n5 1))), (D.sl 1 l6), (D.sl 1 l7), (D.int IntKind.i64 (A.wrap IntKind.i64 (A.add n8 1))), (D.int IntKind.i64 13)])
                      else
                        bif (A.inr n18 (A.rlen l6)) then
                          (opI (A.cell (A.rown l6 (A.nat n18)) 0) IntKind.i64).bind fun n21 =>
                          bif (A.ile 16 (A.rlen l7)) then
                            some (.inl [(D.sl 4 l2), (D.sl 1 l3), (D.int IntKind.i64 n4), (D.int IntKind.i64 (A.wrap IntKind.i64 (A.add n5 1))), (D.sl 1 l6), (D.sl 1 l7), (D.int IntKind.i64 (A.wrap IntKind.i64 (A.add n8 1))), (D.int IntKind.i64 13)])
                          else
                            bif (A.fits [] l7 8) then
                              bif (A.fits (A.rapp [] l7) [[(D.int IntKind.i64 n21)]] 8) then
                                some (.inl [(D.sl 4 l2), (D.sl 1 l3), (D.int IntKind.i64 n4), (D.int IntKind.i64 (A.wrap IntKind.i64 (A.add n5 1))), (D.sl 1 l6), (D.sl 1 (A.rapp (A.rapp [] l7) [[(D.int IntKind.i64 n21)]])), (D.int IntKind.i64 (A.wrap IntKind.i64 (A.add n8 1))), (D.int IntKind.i64 n9)])
                              else
                                none
                            else
                              none
                        else
                          none
                    else
                      bif (A.ieq n17 3) then
                        cutO (
                          bif (A.ieq (A.rlen l7) 0) then
                            some (.inl [(D.int IntKind.i64 0), (D.bool false), (D.sl 1 l6), (D.sl 1 l7), (D.int IntKind.i64 (A.wrap IntKind.i64 (A.add n8 1))), (D.int IntKind.i64 13), (D.int IntKind.i64 n17), (D.int IntKind.i64 n18), (D.int IntKind.i64 n19), (D.int IntKind.i64 n20)])
                          else
                            bif (A.inr (A.wrap IntKind.i64 (A.sub (A.rlen l7) 1)) (A.rlen l7)) then
                              (opI (A.cell (A.row l7 (A.wrap IntKind.i64 (A.sub (A.rlen l7) 1))) 0) IntKind.i64).bind fun n22 =>
                              bif (A.cutok 0 (A.wrap IntKind.i64 (A.sub (A.rlen l7) 1)) (A.rlen l7)) then
                                some (.inl [(D.int IntKind.i64 n22), (D.bool true), (D.sl 1 l6), (D.sl 1 (A.cut l7 0 (A.wrap IntKind.i64 (A.sub (A.rlen l7) 1)))), (D.int IntKind.i64 (A.wrap IntKind.i64 (A.add n8 1))), (D.int IntKind.i64 n9), (D.int IntKind.i64 n17), (D.int IntKind.i64 n18), (D.int IntKind.i64 n19), (D.int IntKind.i64 n20)])
                              else
                                none
                            else
                              none
                        ) fun ds23 =>
                        (opI (A.cell ds23 0) IntKind.i64).bind fun n24 =>
                        (opB (A.cell ds23 1)).bind fun b25 =>
                        (opL (A.cell ds23 2) 1).bind fun l26 =>
                        (opL (A.cell ds23 3) 1).bind fun l27 =>
                        (opI (A.cell ds23 4) IntKind.i64).bind fun n28 =>
                        (opI (A.cell ds23 5) IntKind.i64).bind fun n29 =>
                        (opI (A.cell ds23 6) IntKind.i64).bind fun n30 =>
                        (opI (A.cell ds23 7) IntKind.i64).bind fun n31 =>
                        (opI (A.cell ds23 8) IntKind.i64).bind fun n32 =>
                        (opI (A.cell ds23 9) IntKind.i64).bind fun n33 =>
                        bif b25 then
                          bif (A.ilt (A.rlen l26) (A.wrap IntKind.i64 (A.add n31 1))) then
                            some (.inl [(D.sl 4 l2), (D.sl 1 l3), (D.int IntKind.i64 n4), (D.int IntKind.i64 (A.wrap IntKind.i64 (A.add n5 1))), (D.sl 1 l26), (D.sl 1 l27), (D.int IntKind.i64 n28), (D.int IntKind.i64 13)])
                          else
                            bif (A.inr n31 (A.rlen l26)) then
                              bif (A.inrn (A.nat n31) l26) then
                                some (.inl [(D.sl 4 l2), (D.sl 1 l3), (D.int IntKind.i64 n4), (D.int IntKind.i64 (A.wrap IntKind.i64 (A.add n5 1))), (D.sl 1 (A.rput l26 (A.nat n31) 0 [(D.int IntKind.i64 n24)])), (D.sl 1 l27), (D.int IntKind.i64 n28), (D.int IntKind.i64 n29)])
                              else
                                none
                            else
                              none
                        else
                          some (.inl [(D.sl 4 l2), (D.sl 1 l3), (D.int IntKind.i64 n4), (D.int IntKind.i64 (A.wrap IntKind.i64 (A.add n5 1))), (D.sl 1 l26), (D.sl 1 l27), (D.int IntKind.i64 n28), (D.int IntKind.i64 n29)])
                      else
                        bif (A.ieq n17 4) then
                          cutO (
                            bif (A.ieq (A.rlen l7) 0) then
                              some (.inl [(D.int IntKind.i64 0), (D.bool false), (D.sl 1 l6), (D.sl 1 l7), (D.int IntKind.i64 (A.wrap IntKind.i64 (A.add n8 1))), (D.int IntKind.i64 13), (D.int IntKind.i64 n17), (D.int IntKind.i64 n18), (D.int IntKind.i64 n19), (D.int IntKind.i64 n20), (D.int IntKind.i64 n17), (D.int IntKind.i64 n18), (D.int IntKind.i64 n19), (D.int IntKind.i64 n20)])
                            else
                              bif (A.inr (A.wrap IntKind.i64 (A.sub (A.rlen l7) 1)) (A.rlen l7)) then
                                (opI (A.cell (A.row l7 (A.wrap IntKind.i64 (A.sub (A.rlen l7) 1))) 0) IntKind.i64).bind fun n34 =>
                                bif (A.cutok 0 (A.wrap IntKind.i64 (A.sub (A.rlen l7) 1)) (A.rlen l7)) then
                                  some (.inl [(D.int IntKind.i64 n34), (D.bool true), (D.sl 1 l6), (D.sl 1 (A.cut l7 0 (A.wrap IntKind.i64 (A.sub (A.rlen l7) 1)))), (D.int IntKind.i64 (A.wrap IntKind.i64 (A.add n8 1))), (D.int IntKind.i64 n9), (D.int IntKind.i64 n17), (D.int IntKind.i64 n18), (D.int IntKind.i64 n19), (D.int IntKind.i64 n20), (D.int IntKind.i64 n17), (D.int IntKind.i64 n18), (D.int IntKind.i64 n19), (D.int IntKind.i64 n20)])
                                else
                                  none
                              else
                                none
                          ) fun ds35 =>
                          (opI (A.cell ds35 0) IntKind.i64).bind fun n36 =>
                          (opB (A.cell ds35 1)).bind fun b37 =>
                          (opL (A.cell ds35 2) 1).bind fun l38 =>
                          (opL (A.cell ds35 3) 1).bind fun l39 =>
                          (opI (A.cell ds35 4) IntKind.i64).bind fun n40 =>
                          (opI (A.cell ds35 5) IntKind.i64).bind fun n41 =>
                          (opI (A.cell ds35 6) IntKind.i64).bind fun n42 =>
                          (opI (A.cell ds35 7) IntKind.i64).bind fun n43 =>
                          (opI (A.cell ds35 8) IntKind.i64).bind fun n44 =>
                          (opI (A.cell ds35 9) IntKind.i64).bind fun n45 =>
                          (opI (A.cell ds35 10) IntKind.i64).bind fun n46 =>
                          (opI (A.cell ds35 11) IntKind.i64).bind fun n47 =>
                          (opI (A.cell ds35 12) IntKind.i64).bind fun n48 =>
                          (opI (A.cell ds35 13) IntKind.i64).bind fun n49 =>
                          bif (A.bnot b37) then
                            some (.inl [(D.sl 4 l2), (D.sl 1 l3), (D.int IntKind.i64 n4), (D.int IntKind.i64 (A.wrap IntKind.i64 (A.add n5 1))), (D.sl 1 l38), (D.sl 1 l39), (D.int IntKind.i64 n40), (D.int IntKind.i64 n41)])
                          else
                            cutO (
                              bif (A.ieq n46 4) then
                                (E.call 107 [(V.d (D.int IntKind.i64 n47)), (V.d (D.int IntKind.i64 n36))]).bind fun p50 =>
                                (opI (A.cell p50.leaves 0) IntKind.i64).bind fun n52 =>
                                (opI (A.cell p50.leaves 1) IntKind.i64).bind fun n53 =>
                                some (.inl [(D.int IntKind.i64 n52), (D.int IntKind.i64 n53), (D.sl 1 l38), (D.sl 1 l39), (D.int IntKind.i64 n40), (D.int IntKind.i64 n41), (D.int IntKind.i64 n42), (D.int IntKind.i64 n43), (D.int IntKind.i64 n44), (D.int IntKind.i64 n45)])
                              else
                                cutO (
                                  bif (A.ieq (A.rlen l39) 0) then
                                    some (.inl [(D.int IntKind.i64 n36), (D.int IntKind.i64 0), (D.bool false), (D.sl 1 l38), (D.sl 1 l39), (D.int IntKind.i64 n40), (D.int IntKind.i64 13), (D.int IntKind.i64 n42), (D.int IntKind.i64 n43), (D.int IntKind.i64 n44), (D.int IntKind.i64 n45), (D.int IntKind.i64 n46), (D.int IntKind.i64 n47), (D.int IntKind.i64 n48), (D.int IntKind.i64 n49)])
                                  else
                                    bif (A.inr (A.wrap IntKind.i64 (A.sub (A.rlen l39) 1)) (A.rlen l39)) then
                                      (opI (A.cell (A.row l39 (A.wrap IntKind.i64 (A.sub (A.rlen l39) 1))) 0) IntKind.i64).bind fun n54 =>
                                      bif (A.cutok 0 (A.wrap IntKind.i64 (A.sub (A.rlen l39) 1)) (A.rlen l39)) then
                                        some (.inl [(D.int IntKind.i64 n36), (D.int IntKind.i64 n54), (D.bool true), (D.sl 1 l38), (D.sl 1 (A.cut l39 0 (A.wrap IntKind.i64 (A.sub (A.rlen l39) 1)))), (D.int IntKind.i64 n40), (D.int IntKind.i64 n41), (D.int IntKind.i64 n42), (D.int IntKind.i64 n43), (D.int IntKind.i64 n44), (D.int IntKind.i64 n45), (D.int IntKind.i64 n46), (D.int IntKind.i64 n47), (D.int IntKind.i64 n48), (D.int IntKind.i64 n49)])
                                      else
                                        none
                                    else
                                      none
                                ) fun ds55 =>
                                (opI (A.cell ds55 0) IntKind.i64).bind fun n56 =>
                                (opI (A.cell ds55 1) IntKind.i64).bind fun n57 =>
                                (opB (A.cell ds55 2)).bind fun b58 =>
                                (opL (A.cell ds55 3) 1).bind fun l59 =>
                                (opL (A.cell ds55 4) 1).bind fun l60 =>
                                (opI (A.cell ds55 5) IntKind.i64).bind fun n61 =>
                                (opI (A.cell ds55 6) IntKind.i64).bind fun n62 =>
                                (opI (A.cell ds55 7) IntKind.i64).bind fun n63 =>
                                (opI (A.cell ds55 8) IntKind.i64).bind fun n64 =>
                                (opI (A.cell ds55 9) IntKind.i64).bind fun n65 =>
                                (opI (A.cell ds55 10) IntKind.i64).bind fun n66 =>
                                (opI (A.cell ds55 11) IntKind.i64).bind fun n67 =>
                                (opI (A.cell ds55 12) IntKind.i64).bind fun n68 =>
                                (opI (A.cell ds55 13) IntKind.i64).bind fun n69 =>
                                (opI (A.cell ds55 14) IntKind.i64).bind fun n70 =>
                                bif (A.bnot b58) then
                                  some (.inr (.inl [(D.sl 4 l2), (D.sl 1 l3), (D.int IntKind.i64 n4), (D.int IntKind.i64 (A.wrap IntKind.i64 (A.add n5 1))), (D.sl 1 l59), (D.sl 1 l60), (D.int IntKind.i64 n61), (D.int IntKind.i64 n62)]))
                                else
                                  (E.call 108 [(V.d (D.int IntKind.i64 n68)), (V.d (D.int IntKind.i64 n57)), (V.d (D.int IntKind.i64 n56))]).bind fun p71 =>
                                  (opI (A.cell p71.leaves 0) IntKind.i64).bind fun n73 =>
                                  (opI (A.cell p71.leaves 1) IntKind.i64).bind fun n74 =>
                                  some (.inl [(D.int IntKind.i64 n73), (D.int IntKind.i64 n74), (D.sl 1 l59), (D.sl 1 l60), (D.int IntKind.i64 n61), (D.int IntKind.i64 n62), (D.int IntKind.i64 n63), (D.int IntKind.i64 n64), (D.int IntKind.i64 n65), (D.int IntKind.i64 n66)])
                            ) fun ds75 =>
                            (opI (A.cell ds75 0) IntKind.i64).bind fun n76 =>
                            (opI (A.cell ds75 1) IntKind.i64).bind fun n77 =>
                            (opL (A.cell ds75 2) 1).bind fun l78 =>
                            (opL (A.cell ds75 3) 1).bind fun l79 =>
                            (opI (A.cell ds75 4) IntKind.i64).bind fun n80 =>
                            (opI (A.cell ds75 5) IntKind.i64).bind fun n81 =>
                            (opI (A.cell ds75 6) IntKind.i64).bind fun n82 =>
                            (opI (A.cell ds75 7) IntKind.i64).bind fun n83 =>
                            (opI (A.cell ds75 8) IntKind.i64).bind fun n84 =>
                            (opI (A.cell ds75 9) IntKind.i64).bind fun n85 =>
                            bif (A.bnot (A.ieq n77 0)) then
                              some (.inl [(D.sl 4 l2), (D.sl 1 l3), (D.int IntKind.i64 n4), (D.int IntKind.i64 (A.wrap IntKind.i64 (A.add n5 1))), (D.sl 1 l78), (D.sl 1 l79), (D.int IntKind.i64 n80), (D.int IntKind.i64 n77)])
                            else
                              bif (A.ile 16 (A.rlen l79)) then
                                some (.inl [(D.sl 4 l2), (D.sl 1 l3), (D.int IntKind.i64 n4), (D.int IntKind.i64 (A.wrap IntKind.i64 (A.add n5 1))), (D.sl 1 l78), (D.sl 1 l79), (D.int IntKind.i64 n80), (D.int IntKind.i64 13)])
                              else
                                bif (A.fits [] l79 8) then
                                  bif (A.fits (A.rapp [] l79) [[(D.int IntKind.i64 n76)]] 8) then
                                    some (.inl [(D.sl 4 l2), (D.sl 1 l3), (D.int IntKind.i64 n4), (D.int IntKind.i64 (A.wrap IntKind.i64 (A.add n5 1))), (D.sl 1 l78), (D.sl 1 (A.rapp (A.rapp [] l79) [[(D.int IntKind.i64 n76)]])), (D.int IntKind.i64 n80), (D.int IntKind.i64 n81)])
                                  else
                                    none
                                else
                                  none
                        else
                          bif (A.ieq n17 5) then
                            cutO (
                              bif (A.ieq (A.rlen l7) 0) then
                                some (.inl [(D.int IntKind.i64 0), (D.bool false), (D.sl 1 l6), (D.sl 1 l7), (D.int IntKind.i64 (A.wrap IntKind.i64 (A.add n8 1))), (D.int IntKind.i64 13), (D.int IntKind.i64 n17), (D.int IntKind.i64 n18), (D.int IntKind.i64 n19), (D.int IntKind.i64 n20), (D.int IntKind.i64 n17), (D.int IntKind.i64 n18), (D.int IntKind.i64 n19), (D.int IntKind.i64 n20)])
                              else
                                bif (A.inr (A.wrap IntKind.i64 (A.sub (A.rlen l7) 1)) (A.rlen l7)) then
                                  (opI (A.cell (A.row l7 (A.wrap IntKind.i64 (A.sub (A.rlen l7) 1))) 0) IntKind.i64).bind fun n86 =>
                                  bif (A.cutok 0 (A.wrap IntKind.i64 (A.sub (A.rlen l7) 1)) (A.rlen l7)) then
                                    some (.inl [(D.int IntKind.i64 n86), (D.bool true), (D.sl 1 l6), (D.sl 1 (A.cut l7 0 (A.wrap IntKind.i64 (A.sub (A.rlen l7) 1)))), (D.int IntKind.i64 (A.wrap IntKind.i64 (A.add n8 1))), (D.int IntKind.i64 n9), (D.int IntKind.i64 n17), (D.int IntKind.i64 n18), (D.int IntKind.i64 n19), (D.int IntKind.i64 n20), (D.int IntKind.i64 n17), (D.int IntKind.i64 n18), (D.int IntKind.i64 n19), (D.int IntKind.i64 n20)])
                                  else
                                    none
                                else
                                  none
                            ) fun ds87 =>
                            (opI (A.cell ds87 0) IntKind.i64).bind fun n88 =>
                            (opB (A.cell ds87 1)).bind fun b89 =>
                            (opL (A.cell ds87 2) 1).bind fun l90 =>
                            (opL (A.cell ds87 3) 1).bind fun l91 =>
                            (opI (A.cell ds87 4) IntKind.i64).bind fun n92 =>
                            (opI (A.cell ds87 5) IntKind.i64).bind fun n93 =>
                            (opI (A.cell ds87 6) IntKind.i64).bind fun n94 =>
                            (opI (A.cell ds87 7) IntKind.i64).bind fun n95 =>
                            (opI (A.cell ds87 8) IntKind.i64).bind fun n96 =>
                            (opI (A.cell ds87 9) IntKind.i64).bind fun n97 =>
                            (opI (A.cell ds87 10) IntKind.i64).bind fun n98 =>
                            (opI (A.cell ds87 11) IntKind.i64).bind fun n99 =>
                            (opI (A.cell ds87 12) IntKind.i64).bind fun n100 =>
                            (opI (A.cell ds87 13) IntKind.i64).bind fun n101 =>
                            bif (A.bnot b89) then
                              some (.inl [(D.sl 4 l2), (D.sl 1 l3), (D.int IntKind.i64 n4), (D.int IntKind.i64 (A.wrap IntKind.i64 (A.add n5 1))), (D.sl 1 l90), (D.sl 1 l91), (D.int IntKind.i64 n92), (D.int IntKind.i64 n93)])
                            else
                              cutO (
                                bif (A.ieq n98 4) then
                                  (E.call 107 [(V.d (D.int IntKind.i64 n99)), (V.d (D.int IntKind.i64 n88))]).bind fun p102 =>
                                  (opI (A.cell p102.leaves 0) IntKind.i64).bind fun n104 =>
                                  (opI (A.cell p102.leaves 1) IntKind.i64).bind fun n105 =>
                                  some (.inl [(D.int IntKind.i64 n104), (D.int IntKind.i64 n105), (D.sl 1 l90), (D.sl 1 l91), (D.int IntKind.i64 n92), (D.int IntKind.i64 n93), (D.int IntKind.i64 n94), (D.int IntKind.i64 n95), (D.int IntKind.i64 n96), (D.int IntKind.i64 n97)])
                                else
                                  cutO (
                                    bif (A.ieq (A.rlen l91) 0) then
                                      some (.inl [(D.int IntKind.i64 n88), (D.int IntKind.i64 0), (D.bool false), (D.sl 1 l90), (D.sl 1 l91), (D.int IntKind.i64 n92), (D.int IntKind.i64 13), (D.int IntKind.i64 n94), (D.int IntKind.i64 n95), (D.int IntKind.i64 n96), (D.int IntKind.i64 n97), (D.int IntKind.i64 n98), (D.int IntKind.i64 n99), (D.int IntKind.i64 n100), (D.int IntKind.i64 n101)])
                                    else
                                      bif (A.inr (A.wrap IntKind.i64 (A.sub (A.rlen l91) 1)) (A.rlen l91)) then
                                        (opI (A.cell (A.row l91 (A.wrap IntKind.i64 (A.sub (A.rlen l91) 1))) 0) IntKind.i64).bind fun n106 =>
                                        bif (A.cutok 0 (A.wrap IntKind.i64 (A.sub (A.rlen l91) 1)) (A.rlen l91)) then
                                          some (.inl [(D.int IntKind.i64 n88), (D.int IntKind.i64 n106), (D.bool true), (D.sl 1 l90), (D.sl 1 (A.cut l91 0 (A.wrap IntKind.i64 (A.sub (A.rlen l91) 1)))), (D.int IntKind.i64 n92), (D.int IntKind.i64 n93), (D.int IntKind.i64 n94), (D.int IntKind.i64 n95), (D.int IntKind.i64 n96), (D.int IntKind.i64 n97), (D.int IntKind.i64 n98), (D.int IntKind.i64 n99), (D.int IntKind.i64 n100), (D.int IntKind.i64 n101)])
                                        else
                                          none
                                      else
                                        none
                                  ) fun ds107 =>
                                  (opI (A.cell ds107 0) IntKind.i64).bind fun n108 =>
                                  (opI (A.cell ds107 1) IntKind.i64).bind fun n109 =>
                                  (opB (A.cell ds107 2)).bind fun b110 =>
                                  (opL (A.cell ds107 3) 1).bind fun l111 =>
                                  (opL (A.cell ds107 4) 1).bind fun l112 =>
                                  (opI (A.cell ds107 5) IntKind.i64).bind fun n113 =>
                                  (opI (A.cell ds107 6) IntKind.i64).bind fun n114 =>
                                  (opI (A.cell ds107 7) IntKind.i64).bind fun n115 =>
                                  (opI (A.cell ds107 8) IntKind.i64).bind fun n116 =>
                                  (opI (A.cell ds107 9) IntKind.i64).bind fun n117 =>
                                  (opI (A.cell ds107 10) IntKind.i64).bind fun n118 =>
                                  (opI (A.cell ds107 11) IntKind.i64).bind fun n119 =>
                                  (opI (A.cell ds107 12) IntKind.i64).bind fun n120 =>
                                  (opI (A.cell ds107 13) IntKind.i64).bind fun n121 =>
                                  (opI (A.cell ds107 14) IntKind.i64).bind fun n122 =>
                                  bif (A.bnot b110) then
                                    some (.inr (.inl [(D.sl 4 l2), (D.sl 1 l3), (D.int IntKind.i64 n4), (D.int IntKind.i64 (A.wrap IntKind.i64 (A.add n5 1))), (D.sl 1 l111), (D.sl 1 l112), (D.int IntKind.i64 n113), (D.int IntKind.i64 n114)]))
                                  else
                                    (E.call 108 [(V.d (D.int IntKind.i64 n120)), (V.d (D.int IntKind.i64 n109)), (V.d (D.int IntKind.i64 n108))]).bind fun p123 =>
                                    (opI (A.cell p123.leaves 0) IntKind.i64).bind fun n125 =>
                                    (opI (A.cell p123.leaves 1) IntKind.i64).bind fun n126 =>
                                    some (.inl [(D.int IntKind.i64 n125), (D.int IntKind.i64 n126), (D.sl 1 l111), (D.sl 1 l112), (D.int IntKind.i64 n113), (D.int IntKind.i64 n114), (D.int IntKind.i64 n115), (D.int IntKind.i64 n116), (D.int IntKind.i64 n117), (D.int IntKind.i64 n118)])
                              ) fun ds127 =>
                              (opI (A.cell ds127 0) IntKind.i64).bind fun n128 =>
                              (opI (A.cell ds127 1) IntKind.i64).bind fun n129 =>
                              (opL (A.cell ds127 2) 1).bind fun l130 =>
                              (opL (A.cell ds127 3) 1).bind fun l131 =>
                              (opI (A.cell ds127 4) IntKind.i64).bind fun n132 =>
                              (opI (A.cell ds127 5) IntKind.i64).bind fun n133 =>
                              (opI (A.cell ds127 6) IntKind.i64).bind fun n134 =>
                              (opI (A.cell ds127 7) IntKind.i64).bind fun n135 =>
                              (opI (A.cell ds127 8) IntKind.i64).bind fun n136 =>
                              (opI (A.cell ds127 9) IntKind.i64).bind fun n137 =>
                              bif (A.bnot (A.ieq n129 0)) then
                                some (.inl [(D.sl 4 l2), (D.sl 1 l3), (D.int IntKind.i64 n4), (D.int IntKind.i64 (A.wrap IntKind.i64 (A.add n5 1))), (D.sl 1 l130), (D.sl 1 l131), (D.int IntKind.i64 n132), (D.int IntKind.i64 n129)])
                              else
                                bif (A.ile 16 (A.rlen l131)) then
                                  some (.inl [(D.sl 4 l2), (D.sl 1 l3), (D.int IntKind.i64 n4), (D.int IntKind.i64 (A.wrap IntKind.i64 (A.add n5 1))), (D.sl 1 l130), (D.sl 1 l131), (D.int IntKind.i64 n132), (D.int IntKind.i64 13)])
                                else
                                  bif (A.fits [] l131 8) then
                                    bif (A.fits (A.rapp [] l131) [[(D.int IntKind.i64 n128)]] 8) then
                                      some (.inl [(D.sl 4 l2), (D.sl 1 l3), (D.int IntKind.i64 n4), (D.int IntKind.i64 (A.wrap IntKind.i64 (A.add n5 1))), (D.sl 1 l130), (D.sl 1 (A.rapp (A.rapp [] l131) [[(D.int IntKind.i64 n128)]])), (D.int IntKind.i64 n132), (D.int IntKind.i64 n133)])
                                    else
                                      none
                                  else
                                    none
                          else
                            bif (A.ieq n17 6) then
                              some (.inl [(D.sl 4 l2), (D.sl 1 l3), (D.int IntKind.i64 n4), (D.int IntKind.i64 (A.wrap IntKind.i64 (A.add n5 1))), (D.sl 1 l6), (D.sl 1 l7), (D.int IntKind.i64 n18), (D.int IntKind.i64 n9)])
                            else
                              bif (A.ieq n17 7) then
                                cutO (
                                  bif (A.ieq (A.rlen l7) 0) then
                                    some (.inl [(D.int IntKind.i64 0), (D.bool false), (D.sl 1 l6), (D.sl 1 l7), (D.int IntKind.i64 (A.wrap IntKind.i64 (A.add n8 1))), (D.int IntKind.i64 13), (D.int IntKind.i64 n17), (D.int IntKind.i64 n18), (D.int IntKind.i64 n19), (D.int IntKind.i64 n20)])
                                  else
                                    bif (A.inr (A.wrap IntKind.i64 (A.sub (A.rlen l7) 1)) (A.rlen l7)) then
                                      (opI (A.cell (A.row l7 (A.wrap IntKind.i64 (A.sub (A.rlen l7) 1))) 0) IntKind.i64).bind fun n138 =>
                                      bif (A.cutok 0 (A.wrap IntKind.i64 (A.sub (A.rlen l7) 1)) (A.rlen l7)) then
                                        some (.inl [(D.int IntKind.i64 n138), (D.bool true), (D.sl 1 l6), (D.sl 1 (A.cut l7 0 (A.wrap IntKind.i64 (A.sub (A.rlen l7) 1)))), (D.int IntKind.i64 (A.wrap IntKind.i64 (A.add n8 1))), (D.int IntKind.i64 n9), (D.int IntKind.i64 n17), (D.int IntKind.i64 n18), (D.int IntKind.i64 n19), (D.int IntKind.i64 n20)])
                                      else
                                        none
                                    else
                                      none
                                ) fun ds139 =>
                                (opI (A.cell ds139 0) IntKind.i64).bind fun n140 =>
                                (opB (A.cell ds139 1)).bind fun b141 =>
                                (opL (A.cell ds139 2) 1).bind fun l142 =>
                                (opL (A.cell ds139 3) 1).bind fun l143 =>
                                (opI (A.cell ds139 4) IntKind.i64).bind fun n144 =>
                                (opI (A.cell ds139 5) IntKind.i64).bind fun n145 =>
                                (opI (A.cell ds139 6) IntKind.i64).bind fun n146 =>
                                (opI (A.cell ds139 7) IntKind.i64).bind fun n147 =>
                                (opI (A.cell ds139 8) IntKind.i64).bind fun n148 =>
                                (opI (A.cell ds139 9) IntKind.i64).bind fun n149 =>
                                cutO (
                                  bif b141 then
                                    some (.inl [(D.bool (A.ieq n140 0))])
                                  else
                                    some (.inl [(D.bool false)])
                                ) fun ds150 =>
                                (opB (A.cell ds150 0)).bind fun b151 =>
                                bif b151 then
                                  some (.inl [(D.sl 4 l2), (D.sl 1 l3), (D.int IntKind.i64 n4), (D.int IntKind.i64 (A.wrap IntKind.i64 (A.add n5 1))), (D.sl 1 l142), (D.sl 1 l143), (D.int IntKind.i64 n147), (D.int IntKind.i64 n145)])
                                else
                                  some (.inl [(D.sl 4 l2), (D.sl 1 l3), (D.int IntKind.i64 n4), (D.int IntKind.i64 (A.wrap IntKind.i64 (A.add n5 1))), (D.sl 1 l142), (D.sl 1 l143), (D.int IntKind.i64 n144), (D.int IntKind.i64 n145)])
                              else
                                bif (A.ieq n17 8) then
                                  cutO (
                                    bif (A.ieq (A.rlen l7) 0) then
                                      some (.inl [(D.int IntKind.i64 0), (D.bool false), (D.sl 1 l6), (D.sl 1 l7), (D.int IntKind.i64 (A.wrap IntKind.i64 (A.add n8 1))), (D.int IntKind.i64 13), (D.int IntKind.i64 n17), (D.int IntKind.i64 n18), (D.int IntKind.i64 n19), (D.int IntKind.i64 n20), (D.int IntKind.i64 n17), (D.int IntKind.i64 n18), (D.int IntKind.i64 n19), (D.int IntKind.i64 n20)])
                                    else
                                      bif (A.inr (A.wrap IntKind.i64 (A.sub (A.rlen l7) 1)) (A.rlen l7)) then
                                        (opI (A.cell (A.row l7 (A.wrap IntKind.i64 (A.sub (A.rlen l7) 1))) 0) IntKind.i64).bind fun n152 =>
                                        bif (A.cutok 0 (A.wrap IntKind.i64 (A.sub (A.rlen l7) 1)) (A.rlen l7)) then
                                          some (.inl [(D.int IntKind.i64 n152), (D.bool true), (D.sl 1 l6), (D.sl 1 (A.cut l7 0 (A.wrap IntKind.i64 (A.sub (A.rlen l7) 1)))), (D.int IntKind.i64 (A.wrap IntKind.i64 (A.add n8 1))), (D.int IntKind.i64 n9), (D.int IntKind.i64 n17), (D.int IntKind.i64 n18), (D.int IntKind.i64 n19), (D.int IntKind.i64 n20), (D.int IntKind.i64 n17), (D.int IntKind.i64 n18), (D.int IntKind.i64 n19), (D.int IntKind.i64 n20)])
                                        else
                                          none
                                      else
                                        none
                                  ) fun ds153 =>
                                  (opI (A.cell ds153 0) IntKind.i64).bind fun n154 =>
                                  (opB (A.cell ds153 1)).bind fun b155 =>
                                  (opL (A.cell ds153 2) 1).bind fun l156 =>
                                  (opL (A.cell ds153 3) 1).bind fun l157 =>
                                  (opI (A.cell ds153 4) IntKind.i64).bind fun n158 =>
                                  (opI (A.cell ds153 5) IntKind.i64).bind fun n159 =>
                                  (opI (A.cell ds153 6) IntKind.i64).bind fun n160 =>
                                  (opI (A.cell ds153 7) IntKind.i64).bind fun n161 =>
                                  (opI (A.cell ds153 8) IntKind.i64).bind fun n162 =>
                                  (opI (A.cell ds153 9) IntKind.i64).bind fun n163 =>
                                  (opI (A.cell ds153 10) IntKind.i64).bind fun n164 =>
                                  (opI (A.cell ds153 11) IntKind.i64).bind fun n165 =>
                                  (opI (A.cell ds153 12) IntKind.i64).bind fun n166 =>
                                  (opI (A.cell ds153 13) IntKind.i64).bind fun n167 =>
                                  bif (A.bnot b155) then
                                    some (.inl [(D.sl 4 l2), (D.sl 1 l3), (D.int IntKind.i64 n4), (D.int IntKind.i64 (A.wrap IntKind.i64 (A.add n5 1))), (D.sl 1 l156), (D.sl 1 l157), (D.int IntKind.i64 n158), (D.int IntKind.i64 n159)])
                                  else
                                    cutO (
                                      bif (A.ieq n164 9) then
                                        cutO (
                                          bif (A.ieq (A.rlen l157) 0) then
                                            some (.inl [(D.int IntKind.i64 n154), (D.bool false), (D.int IntKind.i64 0), (D.sl 1 l156), (D.sl 1 l157), (D.int IntKind.i64 n158), (D.int IntKind.i64 13), (D.int IntKind.i64 n160), (D.int IntKind.i64 n161), (D.int IntKind.i64 n162), (D.int IntKind.i64 n163), (D.int IntKind.i64 n164), (D.int IntKind.i64 n165), (D.int IntKind.i64 n166), (D.int IntKind.i64 n167)])
                                          else
                                            bif (A.inr (A.wrap IntKind.i64 (A.sub (A.rlen l157) 1)) (A.rlen l157)) then
                                              (opI (A.cell (A.row l157 (A.wrap IntKind.i64 (A.sub (A.rlen l157) 1))) 0) IntKind.i64).bind fun n168 =>
                                              bif (A.cutok 0 (A.wrap IntKind.i64 (A.sub (A.rlen l157) 1)) (A.rlen l157)) then
                                                some (.inl [(D.int IntKind.i64 n154), (D.bool true), (D.int IntKind.i64 n168), (D.sl 1 l156), (D.sl 1 (A.cut l157 0 (A.wrap IntKind.i64 (A.sub (A.rlen l157) 1)))), (D.int IntKind.i64 n158), (D.int IntKind.i64 n159), (D.int IntKind.i64 n160), (D.int IntKind.i64 n161), (D.int IntKind.i64 n162), (D.int IntKind.i64 n163), (D.int IntKind.i64 n164), (D.int IntKind.i64 n165), (D.int IntKind.i64 n166), (D.int IntKind.i64 n167)])
                                              else
                                                none
                                            else
                                              none
                                        ) fun ds169 =>
                                        (opI (A.cell ds169 0) IntKind.i64).bind fun n170 =>
                                        (opB (A.cell ds169 1)).bind fun b171 =>
                                        (opI (A.cell ds169 2) IntKind.i64).bind fun n172 =>
                                        (opL (A.cell ds169 3) 1).bind fun l173 =>
                                        (opL (A.cell ds169 4) 1).bind fun l174 =>
                                        (opI (A.cell ds169 5) IntKind.i64).bind fun n175 =>
                                        (opI (A.cell ds169 6) IntKind.i64).bind fun n176 =>
                                        (opI (A.cell ds169 7) IntKind.i64).bind fun n177 =>
                                        (opI (A.cell ds169 8) IntKind.i64).bind fun n178 =>
                                        (opI (A.cell ds169 9) IntKind.i64).bind fun n179 =>
                                        (opI (A.cell ds169 10) IntKind.i64).bind fun n180 =>
                                        (opI (A.cell ds169 11) IntKind.i64).bind fun n181 =>
                                        (opI (A.cell ds169 12) IntKind.i64).bind fun n182 =>
                                        (opI (A.cell ds169 13) IntKind.i64).bind fun n183 =>
                                        (opI (A.cell ds169 14) IntKind.i64).bind fun n184 =>
                                        bif (A.bnot b171) then
                                          some (.inr (.inl [(D.sl 4 l2), (D.sl 1 l3), (D.int IntKind.i64 n4), (D.int IntKind.i64 (A.wrap IntKind.i64 (A.add n5 1))), (D.sl 1 l173), (D.sl 1 l174), (D.int IntKind.i64 n175), (D.int IntKind.i64 n176)]))
                                        else
                                          some (.inl [(D.int IntKind.i64 n170), (D.int IntKind.i64 n172), (D.sl 1 l173), (D.sl 1 l174), (D.int IntKind.i64 n175), (D.int IntKind.i64 n176), (D.int IntKind.i64 n177), (D.int IntKind.i64 n178), (D.int IntKind.i64 n179), (D.int IntKind.i64 n180), (D.int IntKind.i64 n181), (D.int IntKind.i64 n182), (D.int IntKind.i64 n183), (D.int IntKind.i64 n184)])
                                      else
                                        some (.inl [(D.int IntKind.i64 n154), (D.int IntKind.i64 0), (D.sl 1 l156), (D.sl 1 l157), (D.int IntKind.i64 n158), (D.int IntKind.i64 n159), (D.int IntKind.i64 n160), (D.int IntKind.i64 n161), (D.int IntKind.i64 n162), (D.int IntKind.i64 n163), (D.int IntKind.i64 n164), (D.int IntKind.i64 n165), (D.int IntKind.i64 n166), (D.int IntKind.i64 n167)])
                                    ) fun ds185 =>
                                    (opI (A.cell ds185 0) IntKind.i64).bind fun n186 =>
                                    (opI (A.cell ds185 1) IntKind.i64).bind fun n187 =>
                                    (opL (A.cell ds185 2) 1).bind fun l188 =>
                                    (opL (A.cell ds185 3) 1).bind fun l189 =>
                                    (opI (A.cell ds185 4) IntKind.i64).bind fun n190 =>
                                    (opI (A.cell ds185 5) IntKind.i64).bind fun n191 =>
                                    (opI (A.cell ds185 6) IntKind.i64).bind fun n192 =>
                                    (opI (A.cell ds185 7) IntKind.i64).bind fun n193 =>
                                    (opI (A.cell ds185 8) IntKind.i64).bind fun n194 =>
                                    (opI (A.cell ds185 9) IntKind.i64).bind fun n195 =>
                                    (opI (A.cell ds185 10) IntKind.i64).bind fun n196 =>
                                    (opI (A.cell ds185 11) IntKind.i64).bind fun n197 =>
                                    (opI (A.cell ds185 12) IntKind.i64).bind fun n198 =>
                                    (opI (A.cell ds185 13) IntKind.i64).bind fun n199 =>
                                    bif (A.ilt (A.rlen l188) (A.wrap IntKind.i64 (A.add n197 n198))) then
                                      bif (A.bnot false) then
                                        some (.inl [(D.sl 4 l2), (D.sl 1 l3), (D.int IntKind.i64 n4), (D.int IntKind.i64 (A.wrap IntKind.i64 (A.add n5 1))), (D.sl 1 l188), (D.sl 1 l189), (D.int IntKind.i64 n190), (D.int IntKind.i64 13)])
                                      else
                                        cutO (
                                          bif (A.ilt n186 0) then
                                            some (.inl [(D.bool true)])
                                          else
                                            some (.inl [(D.bool (A.ile n198 n186))])
                                        ) fun ds200 =>
                                        (opB (A.cell ds200 0)).bind fun b201 =>
                                        bif b201 then
                                          some (.inl [(D.sl 4 l2), (D.sl 1 l3), (D.int IntKind.i64 n4), (D.int IntKind.i64 (A.wrap IntKind.i64 (A.add n5 1))), (D.sl 1 l188), (D.sl 1 l189), (D.int IntKind.i64 n190), (D.int IntKind.i64 16)])
                                        else
                                          bif (A.ieq n196 9) then
                                            bif (A.inr (A.wrap IntKind.i64 (A.add n197 n186)) (A.rlen l188)) then
                                              bif (A.inrn (A.nat (A.wrap IntKind.i64 (A.add n197 n186))) l188) then
                                                some (.inl [(D.sl 4 l2), (D.sl 1 l3), (D.int IntKind.i64 n4), (D.int IntKind.i64 (A.wrap IntKind.i64 (A.add n5 1))), (D.sl 1 (A.rput l188 (A.nat (A.wrap IntKind.i64 (A.add n197 n186))) 0 [(D.int IntKind.i64 n187)])), (D.sl 1 l189), (D.int IntKind.i64 n190), (D.int IntKind.i64 13)])
                                              else
                                                none
                                            else
                                              none
                                          else
                                            bif (A.inr (A.wrap IntKind.i64 (A.add n197 n186)) (A.rlen l188)) then
                                              (opI (A.cell (A.rown l188 (A.nat (A.wrap IntKind.i64 (A.add n197 n186)))) 0) IntKind.i64).bind fun n202 =>
                                              bif (A.ile 16 (A.rlen l189)) then
                                                some (.inl [(D.sl 4 l2), (D.sl 1 l3), (D.int IntKind.i64 n4), (D.int IntKind.i64 (A.wrap IntKind.i64 (A.add n5 1))), (D.sl 1 l188), (D.sl 1 l189), (D.int IntKind.i64 n190), (D.int IntKind.i64 13)])
                                              else
                                                bif (A.fits [] l189 8) then
                                                  bif (A.fits (A.rapp [] l189) [[(D.int IntKind.i64 n202)]] 8) then
                                                    some (.inl [(D.sl 4 l2), (D.sl 1 l3), (D.int IntKind.i64 n4), (D.int IntKind.i64 (A.wrap IntKind.i64 (A.add n5 1))), (D.sl 1 l188), (D.sl 1 (A.rapp (A.rapp [] l189) [[(D.int IntKind.i64 n202)]])), (D.int IntKind.i64 n190), (D.int IntKind.i64 13)])
                                                  else
                                                    none
                                                else
                                                  none
                                            else
                                              none
                                    else
                                      bif (A.bnot true) then
                                        some (.inl [(D.sl 4 l2), (D.sl 1 l3), (D.int IntKind.i64 n4), (D.int IntKind.i64 (A.wrap IntKind.i64 (A.add n5 1))), (D.sl 1 l188), (D.sl 1 l189), (D.int IntKind.i64 n190), (D.int IntKind.i64 n191)])
                                      else
                                        cutO (
                                          bif (A.ilt n186 0) then
                                            some (.inl [(D.bool true)])
                                          else
                                            some (.inl [(D.bool (A.ile n198 n186))])
                                        ) fun ds203 =>
                                        (opB (A.cell ds203 0)).bind fun b204 =>
                                        bif b204 then
                                          some (.inl [(D.sl 4 l2), (D.sl 1 l3), (D.int IntKind.i64 n4), (D.int IntKind.i64 (A.wrap IntKind.i64 (A.add n5 1))), (D.sl 1 l188), (D.sl 1 l189), (D.int IntKind.i64 n190), (D.int IntKind.i64 16)])
                                        else
                                          bif (A.ieq n196 9) then
                                            bif (A.inr (A.wrap IntKind.i64 (A.add n197 n186)) (A.rlen l188)) then
                                              bif (A.inrn (A.nat (A.wrap IntKind.i64 (A.add n197 n186))) l188) then
                                                some (.inl [(D.sl 4 l2), (D.sl 1 l3), (D.int IntKind.i64 n4), (D.int IntKind.i64 (A.wrap IntKind.i64 (A.add n5 1))), (D.sl 1 (A.rput l188 (A.nat (A.wrap IntKind.i64 (A.add n197 n186))) 0 [(D.int IntKind.i64 n187)])), (D.sl 1 l189), (D.int IntKind.i64 n190), (D.int IntKind.i64 n191)])
                                              else
                                                none
                                            else
                                              none
                                          else
                                            bif (A.inr (A.wrap IntKind.i64 (A.add n197 n186)) (A.rlen l188)) then
                                              (opI (A.cell (A.rown l188 (A.nat (A.wrap IntKind.i64 (A.add n197 n186)))) 0) IntKind.i64).bind fun n205 =>
                                              bif (A.ile 16 (A.rlen l189)) then
                                                some (.inl [(D.sl 4 l2), (D.sl 1 l3), (D.int IntKind.i64 n4), (D.int IntKind.i64 (A.wrap IntKind.i64 (A.add n5 1))), (D.sl 1 l188), (D.sl 1 l189), (D.int IntKind.i64 n190), (D.int IntKind.i64 13)])
                                              else
                                                bif (A.fits [] l189 8) then
                                                  bif (A.fits (A.rapp [] l189) [[(D.int IntKind.i64 n205)]] 8) then
                                                    some (.inl [(D.sl 4 l2), (D.sl 1 l3), (D.int IntKind.i64 n4), (D.int IntKind.i64 (A.wrap IntKind.i64 (A.add n5 1))), (D.sl 1 l188), (D.sl 1 (A.rapp (A.rapp [] l189) [[(D.int IntKind.i64 n205)]])), (D.int IntKind.i64 n190), (D.int IntKind.i64 n191)])
                                                  else
                                                    none
                                                else
                                                  none
                                            else
                                              none
                                else
                                  bif (A.ieq n17 9) then
                                    cutO (
                                      bif (A.ieq (A.rlen l7) 0) then
                                        some (.inl [(D.int IntKind.i64 0), (D.bool false), (D.sl 1 l6), (D.sl 1 l7), (D.int IntKind.i64 (A.wrap IntKind.i64 (A.add n8 1))), (D.int IntKind.i64 13), (D.int IntKind.i64 n17), (D.int IntKind.i64 n18), (D.int IntKind.i64 n19), (D.int IntKind.i64 n20), (D.int IntKind.i64 n17), (D.int IntKind.i64 n18), (D.int IntKind.i64 n19), (D.int IntKind.i64 n20)])
                                      else
                                        bif (A.inr (A.wrap IntKind.i64 (A.sub (A.rlen l7) 1)) (A.rlen l7)) then
                                          (opI (A.cell (A.row l7 (A.wrap IntKind.i64 (A.sub (A.rlen l7) 1))) 0) IntKind.i64).bind fun n206 =>
                                          bif (A.cutok 0 (A.wrap IntKind.i64 (A.sub (A.rlen l7) 1)) (A.rlen l7)) then
                                            some (.inl [(D.int IntKind.i64 n206), (D.bool true), (D.sl 1 l6), (D.sl 1 (A.cut l7 0 (A.wrap IntKind.i64 (A.sub (A.rlen l7) 1)))), (D.int IntKind.i64 (A.wrap IntKind.i64 (A.add n8 1))), (D.int IntKind.i64 n9), (D.int IntKind.i64 n17), (D.int IntKind.i64 n18), (D.int IntKind.i64 n19), (D.int IntKind.i64 n20), (D.int IntKind.i64 n17), (D.int IntKind.i64 n18), (D.int IntKind.i64 n19), (D.int IntKind.i64 n20)])
                                          else
                                            none
                                        else
                                          none
                                    ) fun ds207 =>
                                    (opI (A.cell ds207 0) IntKind.i64).bind fun n208 =>
                                    (opB (A.cell ds207 1)).bind fun b209 =>
                                    (opL (A.cell ds207 2) 1).bind fun l210 =>
                                    (opL (A.cell ds207 3) 1).bind fun l211 =>
                                    (opI (A.cell ds207 4) IntKind.i64).bind fun n212 =>
                                    (opI (A.cell ds207 5) IntKind.i64).bind fun n213 =>
                                    (opI (A.cell ds207 6) IntKind.i64).bind fun n214 =>
                                    (opI (A.cell ds207 7) IntKind.i64).bind fun n215 =>
                                    (opI (A.cell ds207 8) IntKind.i64).bind fun n216 =>
                                    (opI (A.cell ds207 9) IntKind.i64).bind fun n217 =>
                                    (opI (A.cell ds207 10) IntKind.i64).bind fun n218 =>
                                    (opI (A.cell ds207 11) IntKind.i64).bind fun n219 =>
                                    (opI (A.cell ds207 12) IntKind.i64).bind fun n220 =>
                                    (opI (A.cell ds207 13) IntKind.i64).bind fun n221 =>
                                    bif (A.bnot b209) then
                                      some (.inl [(D.sl 4 l2), (D.sl 1 l3), (D.int IntKind.i64 n4), (D.int IntKind.i64 (A.wrap IntKind.i64 (A.add n5 1))), (D.sl 1 l210), (D.sl 1 l211), (D.int IntKind.i64 n212), (D.int IntKind.i64 n213)])
                                    else
                                      cutO (
                                        bif (A.ieq n218 9) then
                                          cutO (
                                            bif (A.ieq (A.rlen l211) 0) then
                                              some (.inl [(D.int IntKind.i64 n208), (D.bool false), (D.int IntKind.i64 0), (D.sl 1 l210), (D.sl 1 l211), (D.int IntKind.i64 n212), (D.int IntKind.i64 13), (D.int IntKind.i64 n214), (D.int IntKind.i64 n215), (D.int IntKind.i64 n216), (D.int IntKind.i64 n217), (D.int IntKind.i64 n218), (D.int IntKind.i64 n219), (D.int IntKind.i64 n220), (D.int IntKind.i64 n221)])
                                            else
                                              bif (A.inr (A.wrap IntKind.i64 (A.sub (A.rlen l211) 1)) (A.rlen l211)) then
                                                (opI (A.cell (A.row l211 (A.wrap IntKind.i64 (A.sub (A.rlen l211) 1))) 0) IntKind.i64).bind fun n222 =>
                                                bif (A.cutok 0 (A.wrap IntKind.i64 (A.sub (A.rlen l211) 1)) (A.rlen l211)) then
                                                  some (.inl [(D.int IntKind.i64 n208), (D.bool true), (D.int IntKind.i64 n222), (D.sl 1 l210), (D.sl 1 (A.cut l211 0 (A.wrap IntKind.i64 (A.sub (A.rlen l211) 1)))), (D.int IntKind.i64 n212), (D.int IntKind.i64 n213), (D.int IntKind.i64 n214), (D.int IntKind.i64 n215), (D.int IntKind.i64 n216), (D.int IntKind.i64 n217), (D.int IntKind.i64 n218), (D.int IntKind.i64 n219), (D.int IntKind.i64 n220), (D.int IntKind.i64 n221)])
                                                else
                                                  none
                                              else
                                                none
                                          ) fun ds223 =>
                                          (opI (A.cell ds223 0) IntKind.i64).bind fun n224 =>
                                          (opB (A.cell ds223 1)).bind fun b225 =>
                                          (opI (A.cell ds223 2) IntKind.i64).bind fun n226 =>
                                          (opL (A.cell ds223 3) 1).bind fun l227 =>
                                          (opL (A.cell ds223 4) 1).bind fun l228 =>
                                          (opI (A.cell ds223 5) IntKind.i64).bind fun n229 =>
                                          (opI (A.cell ds223 6) IntKind.i64).bind fun n230 =>
                                          (opI (A.cell ds223 7) IntKind.i64).bind fun n231 =>
                                          (opI (A.cell ds223 8) IntKind.i64).bind fun n232 =>
                                          (opI (A.cell ds223 9) IntKind.i64).bind fun n233 =>
                                          (opI (A.cell ds223 10) IntKind.i64).bind fun n234 =>
                                          (opI (A.cell ds223 11) IntKind.i64).bind fun n235 =>
                                          (opI (A.cell ds223 12) IntKind.i64).bind fun n236 =>
                                          (opI (A.cell ds223 13) IntKind.i64).bind fun n237 =>
                                          (opI (A.cell ds223 14) IntKind.i64).bind fun n238 =>
                                          bif (A.bnot b225) then
                                            some (.inr (.inl [(D.sl 4 l2), (D.sl 1 l3), (D.int IntKind.i64 n4), (D.int IntKind.i64 (A.wrap IntKind.i64 (A.add n5 1))), (D.sl 1 l227), (D.sl 1 l228), (D.int IntKind.i64 n229), (D.int IntKind.i64 n230)]))
                                          else
                                            some (.inl [(D.int IntKind.i64 n224), (D.int IntKind.i64 n226), (D.sl 1 l227), (D.sl 1 l228), (D.int IntKind.i64 n229), (D.int IntKind.i64 n230), (D.int IntKind.i64 n231), (D.int IntKind.i64 n232), (D.int IntKind.i64 n233), (D.int IntKind.i64 n234), (D.int IntKind.i64 n235), (D.int IntKind.i64 n236), (D.int IntKind.i64 n237), (D.int IntKind.i64 n238)])
                                        else
                                          some (.inl [(D.int IntKind.i64 n208), (D.int IntKind.i64 0), (D.sl 1 l210), (D.sl 1 l211), (D.int IntKind.i64 n212), (D.int IntKind.i64 n213), (D.int IntKind.i64 n214), (D.int IntKind.i64 n215), (D.int IntKind.i64 n216), (D.int IntKind.i64 n217), (D.int IntKind.i64 n218), (D.int IntKind.i64 n219), (D.int IntKind.i64 n220), (D.int IntKind.i64 n221)])
                                      ) fun ds239 =>
                                      (opI (A.cell ds239 0) IntKind.i64).bind fun n240 =>
                                      (opI (A.cell ds239 1) IntKind.i64).bind fun n241 =>
                                      (opL (A.cell ds239 2) 1).bind fun l242 =>
                                      (opL (A.cell ds239 3) 1).bind fun l243 =>
                                      (opI (A.cell ds239 4) IntKind.i64).bind fun n244 =>
                                      (opI (A.cell ds239 5) IntKind.i64).bind fun n245 =>
                                      (opI (A.cell ds239 6) IntKind.i64).bind fun n246 =>
                                      (opI (A.cell ds239 7) IntKind.i64).bind fun n247 =>
                                      (opI (A.cell ds239 8) IntKind.i64).bind fun n248 =>
                                      (opI (A.cell ds239 9) IntKind.i64).bind fun n249 =>
                                      (opI (A.cell ds239 10) IntKind.i64).bind fun n250 =>
                                      (opI (A.cell ds239 11) IntKind.i64).bind fun n251 =>
                                      (opI (A.cell ds239 12) IntKind.i64).bind fun n252 =>
                                      (opI (A.cell ds239 13) IntKind.i64).bind fun n253 =>
                                      bif (A.ilt (A.rlen l242) (A.wrap IntKind.i64 (A.add n251 n252))) then
                                        bif (A.bnot false) then
                                          some (.inl [(D.sl 4 l2), (D.sl 1 l3), (D.int IntKind.i64 n4), (D.int IntKind.i64 (A.wrap IntKind.i64 (A.add n5 1))), (D.sl 1 l242), (D.sl 1 l243), (D.int IntKind.i64 n244), (D.int IntKind.i64 13)])
                                        else
                                          cutO (
                                            bif (A.ilt n240 0) then
                                              some (.inl [(D.bool true)])
                                            else
                                              some (.inl [(D.bool (A.ile n252 n240))])
                                          ) fun ds254 =>
                                          (opB (A.cell ds254 0)).bind fun b255 =>
                                          bif b255 then
                                            some (.inl [(D.sl 4 l2), (D.sl 1 l3), (D.int IntKind.i64 n4), (D.int IntKind.i64 (A.wrap IntKind.i64 (A.add n5 1))), (D.sl 1 l242), (D.sl 1 l243), (D.int IntKind.i64 n244), (D.int IntKind.i64 16)])
                                          else
                                            bif (A.ieq n250 9) then
                                              bif (A.inr (A.wrap IntKind.i64 (A.add n251 n240)) (A.rlen l242)) then
                                                bif (A.inrn (A.nat (A.wrap IntKind.i64 (A.add n251 n240))) l242) then
                                                  some (.inl [(D.sl 4 l2), (D.sl 1 l3), (D.int IntKind.i64 n4), (D.int IntKind.i64 (A.wrap IntKind.i64 (A.add n5 1))), (D.sl 1 (A.rput l242 (A.nat (A.wrap IntKind.i64 (A.add n251 n240))) 0 [(D.int IntKind.i64 n241)])), (D.sl 1 l243), (D.int IntKind.i64 n244), (D.int IntKind.i64 13)])
                                                else
                                                  none
                                              else
                                                none
                                            else
                                              bif (A.inr (A.wrap IntKind.i64 (A.add n251 n240)) (A.rlen l242)) then
                                                (opI (A.cell (A.rown l242 (A.nat (A.wrap IntKind.i64 (A.add n251 n240)))) 0) IntKind.i64).bind fun n256 =>
                                                bif (A.ile 16 (A.rlen l243)) then
                                                  some (.inl [(D.sl 4 l2), (D.sl 1 l3), (D.int IntKind.i64 n4), (D.int IntKind.i64 (A.wrap IntKind.i64 (A.add n5 1))), (D.sl 1 l242), (D.sl 1 l243), (D.int IntKind.i64 n244), (D.int IntKind.i64 13)])
                                                else
                                                  bif (A.fits [] l243 8) then
                                                    bif (A.fits (A.rapp [] l243) [[(D.int IntKind.i64 n256)]] 8) then
                                                      some (.inl [(D.sl 4 l2), (D.sl 1 l3), (D.int IntKind.i64 n4), (D.int IntKind.i64 (A.wrap IntKind.i64 (A.add n5 1))), (D.sl 1 l242), (D.sl 1 (A.rapp (A.rapp [] l243) [[(D.int IntKind.i64 n256)]])), (D.int IntKind.i64 n244), (D.int IntKind.i64 13)])
                                                    else
                                                      none
                                                  else
                                                    none
                                              else
                                                none
                                      else
                                        bif (A.bnot true) then
                                          some (.inl [(D.sl 4 l2), (D.sl 1 l3), (D.int IntKind.i64 n4), (D.int IntKind.i64 (A.wrap IntKind.i64 (A.add n5 1))), (D.sl 1 l242), (D.sl 1 l243), (D.int IntKind.i64 n244), (D.int IntKind.i64 n245)])
                                        else
                                          cutO (
                                            bif (A.ilt n240 0) then
                                              some (.inl [(D.bool true)])
                                            else
                                              some (.inl [(D.bool (A.ile n252 n240))])
                                          ) fun ds257 =>
                                          (opB (A.cell ds257 0)).bind fun b258 =>
                                          bif b258 then
                                            some (.inl [(D.sl 4 l2), (D.sl 1 l3), (D.int IntKind.i64 n4), (D.int IntKind.i64 (A.wrap IntKind.i64 (A.add n5 1))), (D.sl 1 l242), (D.sl 1 l243), (D.int IntKind.i64 n244), (D.int IntKind.i64 16)])
                                          else
                                            bif (A.ieq n250 9) then
                                              bif (A.inr (A.wrap IntKind.i64 (A.add n251 n240)) (A.rlen l242)) then
                                                bif (A.inrn (A.nat (A.wrap IntKind.i64 (A.add n251 n240))) l242) then
                                                  some (.inl [(D.sl 4 l2), (D.sl 1 l3), (D.int IntKind.i64 n4), (D.int IntKind.i64 (A.wrap IntKind.i64 (A.add n5 1))), (D.sl 1 (A.rput l242 (A.nat (A.wrap IntKind.i64 (A.add n251 n240))) 0 [(D.int IntKind.i64 n241)])), (D.sl 1 l243), (D.int IntKind.i64 n244), (D.int IntKind.i64 n245)])
                                                else
                                                  none
                                              else
                                                none
                                            else
                                              bif (A.inr (A.wrap IntKind.i64 (A.add n251 n240)) (A.rlen l242)) then
                                                (opI (A.cell (A.rown l242 (A.nat (A.wrap IntKind.i64 (A.add n251 n240)))) 0) IntKind.i64).bind fun n259 =>
                                                bif (A.ile 16 (A.rlen l243)) then
                                                  some (.inl [(D.sl 4 l2), (D.sl 1 l3), (D.int IntKind.i64 n4), (D.int IntKind.i64 (A.wrap IntKind.i64 (A.add n5 1))), (D.sl 1 l242), (D.sl 1 l243), (D.int IntKind.i64 n244), (D.int IntKind.i64 13)])
                                                else
                                                  bif (A.fits [] l243 8) then
                                                    bif (A.fits (A.rapp [] l243) [[(D.int IntKind.i64 n259)]] 8) then
                                                      some (.inl [(D.sl 4 l2), (D.sl 1 l3), (D.int IntKind.i64 n4), (D.int IntKind.i64 (A.wrap IntKind.i64 (A.add n5 1))), (D.sl 1 l242), (D.sl 1 (A.rapp (A.rapp [] l243) [[(D.int IntKind.i64 n259)]])), (D.int IntKind.i64 n244), (D.int IntKind.i64 n245)])
                                                    else
                                                      none
                                                  else
                                                    none
                                              else
                                                none
                                  else
                                    bif (A.ieq n17 10) then
                                      some (.inl [(D.sl 4 l2), (D.sl 1 l3), (D.int IntKind.i64 n4), (D.int IntKind.i64 (A.wrap IntKind.i64 (A.add n5 1))), (D.sl 1 l6), (D.sl 1 l7), (D.int IntKind.i64 (A.wrap IntKind.i64 (A.add n8 1))), (D.int IntKind.i64 (-1))])
                                    else
                                      some (.inl [(D.sl 4 l2), (D.sl 1 l3), (D.int IntKind.i64 n4), (D.int IntKind.i64 (A.wrap IntKind.i64 (A.add n5 1))), (D.sl 1 l6), (D.sl 1 l7), (D.int IntKind.i64 (A.wrap IntKind.i64 (A.add n8 1))), (D.int IntKind.i64 n9)])
                else
                  none
            else
              none
      else
        bif (A.bnot (A.ieq n9 (-1))) then
          some (.inr (PRes.val [(D.sl 1 l3), (D.int IntKind.i64 n5), (D.int IntKind.i64 n9)]))
        else
          some (.inr (PRes.val [(D.sl 1 l6), (D.int IntKind.i64 n5), (D.int IntKind.i64 0)]))
    ) [(D.sl 4 code_), (D.sl 1 cells_), (D.int IntKind.i64 fuel_), (D.int IntKind.i64 0), (D.sl 1 (A.rapp [] cells_)), (D.sl 1 []), (D.int IntKind.i64 0), (D.int IntKind.i64 0)]
  else
    none
theorem g23_eq (A : Sy) (E : Env) (code_ : List (List D)) (cells_ : List (List D)) (fuel_ : Int) : (funT A Try.prog cs 23 [V.d (D.sl 4 code_), V.d (D.sl 1 cells_), V.d (D.int IntKind.i64 fuel_)]).run E = g23 A E code_ cells_ fuel_ := by kernel_rfl
end Go.Vm
end

section
set_option linter.all false
set_option maxRecDepth 100000
set_option maxHeartbeats 4000000
namespace Go.Vm
open Go.Proofs
/-! ### numbers in range -/
def inR (n : Int) : Prop := -9223372036854775808 ≤ n ∧ n ≤ 9223372036854775807
theorem wrap_inR (n : Int) : inR (IntKind.i64.wrap n) := by
  unfold inR
  simp [IntKind.wrap, IntKind.bits, IntKind.signed]
  omega
def IV (n e : Int) : Prop := inR n ∧ (e = 0 ∨ e = 15)
theorem c130 (b : Bool) : ∃ p, cF 130 [.d (.bool b)] = some p ∧ ∃ n, p = .val [.int .i64 n] ∧ inR n := by
  refine cOfP (by kernel_rfl) rfl ?_
  rw [g130_eq]
  unfold g130
  cases b
  · exact ⟨_, rfl, _, rfl, by unfold inR; omega⟩
  · exact ⟨_, rfl, _, rfl, by unfold inR; omega⟩
theorem c172 (a : Int) : ∃ p, cF 172 [.d (.int .i64 a)] = some p ∧ ∃ n, p = .val [.int .u64 n] ∧ (inR a → a ≠ 0 → n ≠ 0) := by
  refine cOfP (by kernel_rfl) rfl ?_
  rw [g172_eq]
  unfold g172
  simp only [sy_wrap, sy_add, sy_sub, sy_mul, sy_ieq, sy_ilt, sy_ile, sy_seq, sy_beq, sy_bor, sy_bnot, sy_imax, sy_imin, sy_rlen, sy_slen, sy_sapp, sy_inr, sy_nat, sy_cell0, sy_cellS, sy_skip0, sy_inrn, sy_rapp, sy_fits, sy_cutok, sy_cut, sy_scut, sy_sbyte, sy_mkok, sy_mkok0, sy_mkz, sy_rep, sy_head, sy_deq, eqDs_int, eqDs_nil, opI_int, opB_bool, opS_str, opL_sl, opM_own, leaves_val, leaves_own, Option.bind_some, cutO_bool, bif_bool, cutO_inl, cutO_inr, eF_call, eF_lp, Nat.zero_add, Nat.reduceAdd, Bool.cond_false_right, Bool.cond_true_left, Bool.cond_false_left, Bool.cond_true_right, Bool.not_true, Bool.not_false, Bool.not_not, eq_self, decide_true, decide_false, cond_true, cond_false, Int.reduceEq, Int.reduceLT, Int.reduceLE, Int.reduceSub, Int.reduceAdd, Bool.true_and, Bool.and_true, Bool.false_and, Bool.and_false, Bool.or_false, Bool.false_or, Bool.true_or, Bool.or_true, true_and, and_true]
  by_cases h : a < 0
  · rw [decT h]
    refine ⟨_, rfl, _, rfl, fun h1 h2 => ?_⟩
    unfold inR at h1
    simp [IntKind.wrap, IntKind.bits, IntKind.signed]
    omega
  · rw [decF h]
    refine ⟨_, rfl, _, rfl, fun h1 h2 => ?_⟩
    unfold inR at h1
    simp [IntKind.wrap, IntKind.bits, IntKind.signed]
    omega
theorem c154 (a b : Int) (hb : inR b) (h0 : b ≠ 0) : ∃ p, cF 154 [.d (.int .i64 a), .d (.int .i64 b)] = some p ∧ ∃ n, p = .val [.int .i64 n] ∧ inR n := by
  obtain ⟨_, hx, x, rfl, _⟩ := c172 a
  obtain ⟨_, hy, y, rfl, hy0⟩ := c172 b
  have hy0 := hy0 hb h0
  refine cOfP (by kernel_rfl) rfl ?_
  rw [g154_eq]
  unfold g154
  simp only [sy_wrap, sy_add, sy_sub, sy_mul, sy_ieq, sy_ilt, sy_ile, sy_seq, sy_beq, sy_bor, sy_bnot, sy_imax, sy_imin, sy_rlen, sy_slen, sy_sapp, sy_inr, sy_nat, sy_cell0, sy_cellS, sy_skip0, sy_inrn, sy_rapp, sy_fits, sy_cutok, sy_cut, sy_scut, sy_sbyte, sy_mkok, sy_mkok0, sy_mkz, sy_rep, sy_head, sy_deq, eqDs_int, eqDs_nil, opI_int, opB_bool, opS_str, opL_sl, opM_own, leaves_val, leaves_own, Option.bind_some, cutO_bool, bif_bool, cutO_inl, cutO_inr, eF_call, eF_lp, Nat.zero_add, Nat.reduceAdd, Bool.cond_false_right, Bool.cond_true_left, Bool.cond_false_left, Bool.cond_true_right, Bool.not_true, Bool.not_false, Bool.not_not, eq_self, decide_true, decide_false, cond_true, cond_false, Int.reduceEq, Int.reduceLT, Int.reduceLE, Int.reduceSub, Int.reduceAdd, Bool.true_and, Bool.and_true, Bool.false_and, Bool.and_false, Bool.or_false, Bool.false_or, Bool.true_or, Bool.or_true, true_and, and_true, hx, hy, decF hy0]
  cases (decide (a < 0) == decide (b < 0))
  · exact ⟨_, rfl, _, rfl, wrap_inR _⟩
  · exact ⟨_, rfl, _, rfl, wrap_inR _⟩
theorem c131 (op a b : Int) (hb : inR b) : ∃ p, cF 131 [.d (.int .i64 op), .d (.int .i64 a), .d (.int .i64 b)] = some p ∧ ∃ n e, p = .val [.int .i64 n, .int .i64 e] ∧ IV n e := by
  refine cOfP (by kernel_rfl) rfl ?_
  rw [g131_eq]
  unfold g131
  simp only [sy_wrap, sy_add, sy_sub, sy_mul, sy_ieq, sy_ilt, sy_ile, sy_seq, sy_beq, sy_bor, sy_bnot, sy_imax, sy_imin, sy_rlen, sy_slen, sy_sapp, sy_inr, sy_nat, sy_cell0, sy_cellS, sy_skip0, sy_inrn, sy_rapp, sy_fits, sy_cutok, sy_cut, sy_scut, sy_sbyte, sy_mkok, sy_mkok0, sy_mkz, sy_rep, sy_head, sy_deq, eqDs_int, eqDs_nil, opI_int, opB_bool, opS_str, opL_sl, opM_own, leaves_val, leaves_own, Option.bind_some, cutO_bool, bif_bool, cutO_inl, cutO_inr, eF_call, eF_lp, Nat.zero_add, Nat.reduceAdd, Bool.cond_false_right, Bool.cond_true_left, Bool.cond_false_left, Bool.cond_true_right, Bool.not_true, Bool.not_false, Bool.not_not, eq_self, decide_true, decide_false, cond_true, cond_false, Int.reduceEq, Int.reduceLT, Int.reduceLE, Int.reduceSub, Int.reduceAdd, Bool.true_and, Bool.and_true, Bool.false_and, Bool.and_false, Bool.or_false, Bool.false_or, Bool.true_or, Bool.or_true, true_and, and_true]
  by_cases h3 : op = 3
  · rw [decT h3]; exact ⟨_, rfl, _, _, rfl, wrap_inR _, .inl rfl⟩
  by_cases h4 : op = 4
  · rw [decF h3, decT h4]; exact ⟨_, rfl, _, _, rfl, wrap_inR _, .inl rfl⟩
  by_cases h5 : op = 5
  · rw [decF h3, decF h4, decT h5]; exact ⟨_, rfl, _, _, rfl, wrap_inR _, .inl rfl⟩
  rw [decF h3, decF h4, decF h5]
  by_cases h0 : b = 0
  · rw [decT h0]; exact ⟨_, rfl, _, _, rfl, by unfold inR; omega, .inr rfl⟩
  obtain ⟨_, hn, n, rfl, hr⟩ := c154 a b hb h0
  simp only [decF h0, hn, sy_wrap, sy_add, sy_sub, sy_mul, sy_ieq, sy_ilt, sy_ile, sy_seq, sy_beq, sy_bor, sy_bnot, sy_imax, sy_imin, sy_rlen, sy_slen, sy_sapp, sy_inr, sy_nat, sy_cell0, sy_cellS, sy_skip0, sy_inrn, sy_rapp, sy_fits, sy_cutok, sy_cut, sy_scut, sy_sbyte, sy_mkok, sy_mkok0, sy_mkz, sy_rep, sy_head, sy_deq, eqDs_int, eqDs_nil, opI_int, opB_bool, opS_str, opL_sl, opM_own, leaves_val, leaves_own, Option.bind_some, cutO_bool, bif_bool, cutO_inl, cutO_inr, eF_call, eF_lp, Nat.zero_add, Nat.reduceAdd, Bool.cond_false_right, Bool.cond_true_left, Bool.cond_false_left, Bool.cond_true_right, Bool.not_true, Bool.not_false, Bool.not_not, eq_self, decide_true, decide_false, cond_true, cond_false, Int.reduceEq, Int.reduceLT, Int.reduceLE, Int.reduceSub, Int.reduceAdd, Bool.true_and, Bool.and_true, Bool.false_and, Bool.and_false, Bool.or_false, Bool.false_or, Bool.true_or, Bool.or_true, true_and, and_true]
  by_cases h6 : op = 6
  · rw [decT h6]; exact ⟨_, rfl, _, _, rfl, hr, .inl rfl⟩
  · rw [decF h6]; exact ⟨_, rfl, _, _, rfl, wrap_inR _, .inl rfl⟩
theorem c107 (op a : Int) (h : op = 1 ∨ op = 2) : ∃ p, cF 107 [.d (.int .i64 op), .d (.int .i64 a)] = some p ∧ ∃ n, p = .val [.int .i64 n, .int .i64 0] ∧ inR n := by
  obtain ⟨_, hn, n, rfl, hr⟩ := c130 (decide (a = 0))
  refine cOfP (by kernel_rfl) rfl ?_
  rw [g107_eq]
  unfold g107
  rcases h with rfl | rfl
  · simp only [sy_wrap, sy_add, sy_sub, sy_mul, sy_ieq, sy_ilt, sy_ile, sy_seq, sy_beq, sy_bor, sy_bnot, sy_imax, sy_imin, sy_rlen, sy_slen, sy_sapp, sy_inr, sy_nat, sy_cell0, sy_cellS, sy_skip0, sy_inrn, sy_rapp, sy_fits, sy_cutok, sy_cut, sy_scut, sy_sbyte, sy_mkok, sy_mkok0, sy_mkz, sy_rep, sy_head, sy_deq, eqDs_int, eqDs_nil, opI_int, opB_bool, opS_str, opL_sl, opM_own, leaves_val, leaves_own, Option.bind_some, cutO_bool, bif_bool, cutO_inl, cutO_inr, eF_call, eF_lp, Nat.zero_add, Nat.reduceAdd, Bool.cond_false_right, Bool.cond_true_left, Bool.cond_false_left, Bool.cond_true_right, Bool.not_true, Bool.not_false, Bool.not_not, eq_self, decide_true, decide_false, cond_true, cond_false, Int.reduceEq, Int.reduceLT, Int.reduceLE, Int.reduceSub, Int.reduceAdd, Bool.true_and, Bool.and_true, Bool.false_and, Bool.and_false, Bool.or_false, Bool.false_or, Bool.true_or, Bool.or_true, true_and, and_true]; exact ⟨_, rfl, _, rfl, wrap_inR _⟩
  · simp only [sy_wrap, sy_add, sy_sub, sy_mul, sy_ieq, sy_ilt, sy_ile, sy_seq, sy_beq, sy_bor, sy_bnot, sy_imax, sy_imin, sy_rlen, sy_slen, sy_sapp, sy_inr, sy_nat, sy_cell0, sy_cellS, sy_skip0, sy_inrn, sy_rapp, sy_fits, sy_cutok, sy_cut, sy_scut, sy_sbyte, sy_mkok, sy_mkok0, sy_mkz, sy_rep, sy_head, sy_deq, eqDs_int, eqDs_nil, opI_int, opB_bool, opS_str, opL_sl, opM_own, leaves_val, leaves_own, Option.bind_some, cutO_bool, bif_bool, cutO_inl, cutO_inr, eF_call, eF_lp, Nat.zero_add, Nat.reduceAdd, Bool.cond_false_right, Bool.cond_true_left, Bool.cond_false_left, Bool.cond_true_right, Bool.not_true, Bool.not_false, Bool.not_not, eq_self, decide_true, decide_false, cond_true, cond_false, Int.reduceEq, Int.reduceLT, Int.reduceLE, Int.reduceSub, Int.reduceAdd, Bool.true_and, Bool.and_true, Bool.false_and, Bool.and_false, Bool.or_false, Bool.false_or, Bool.true_or, Bool.or_true, true_and, and_true, hn]; exact ⟨_, rfl, _, rfl, hr⟩
theorem c108 (op a b : Int) (hb : inR b) (h : 3 ≤ op ∧ op ≤ 16) : ∃ p, cF 108 [.d (.int .i64 op), .d (.int .i64 a), .d (.int .i64 b)] = some p ∧ ∃ n e, p = .val [.int .i64 n, .int .i64 e] ∧ IV n e := by
  have hop : op = 3 ∨ op = 4 ∨ op = 5 ∨ op = 6 ∨ op = 7 ∨ op = 8 ∨ op = 9 ∨ op = 10 ∨ op = 11 ∨ op = 12 ∨ op = 13 ∨ op = 14 ∨ op = 15 ∨ op = 16 := by omega
  obtain ⟨fn, hf⟩ := Classical.axiomOfChoice (fun b : Bool => (show ∃ n, cF 130 [.d (.bool b)] = some (.val [.int .i64 n]) ∧ inR n from by
    obtain ⟨_, h1, n, rfl, h2⟩ := c130 b
    exact ⟨n, h1, h2⟩))
  refine cOfP (by kernel_rfl) rfl ?_
  rw [g108_eq]
  unfold g108
  rcases hop with h | h | h | h | h | h | h | h | h | h | h | h | h | h
  · obtain ⟨_, h1, n, e, rfl, h2⟩ := c131 op a b hb
    subst h; simp only [sy_wrap, sy_add, sy_sub, sy_mul, sy_ieq, sy_ilt, sy_ile, sy_seq, sy_beq, sy_bor, sy_bnot, sy_imax, sy_imin, sy_rlen, sy_slen, sy_sapp, sy_inr, sy_nat, sy_cell0, sy_cellS, sy_skip0, sy_inrn, sy_rapp, sy_fits, sy_cutok, sy_cut, sy_scut, sy_sbyte, sy_mkok, sy_mkok0, sy_mkz, sy_rep, sy_head, sy_deq, eqDs_int, eqDs_nil, opI_int, opB_bool, opS_str, opL_sl, opM_own, leaves_val, leaves_own, Option.bind_some, cutO_bool, bif_bool, cutO_inl, cutO_inr, eF_call, eF_lp, Nat.zero_add, Nat.reduceAdd, Bool.cond_false_right, Bool.cond_true_left, Bool.cond_false_left, Bool.cond_true_right, Bool.not_true, Bool.not_false, Bool.not_not, eq_self, decide_true, decide_false, cond_true, cond_false, Int.reduceEq, Int.reduceLT, Int.reduceLE, Int.reduceSub, Int.reduceAdd, Bool.true_and, Bool.and_true, Bool.false_and, Bool.and_false, Bool.or_false, Bool.false_or, Bool.true_or, Bool.or_true, true_and, and_true, h1]; exact ⟨_, rfl, _, _, rfl, h2⟩
  · obtain ⟨_, h1, n, e, rfl, h2⟩ := c131 op a b hb
    subst h; simp only [sy_wrap, sy_add, sy_sub, sy_mul, sy_ieq, sy_ilt, sy_ile, sy_seq, sy_beq, sy_bor, sy_bnot, sy_imax, sy_imin, sy_rlen, sy_slen, sy_sapp, sy_inr, sy_nat, sy_cell0, sy_cellS, sy_skip0, sy_inrn, sy_rapp, sy_fits, sy_cutok, sy_cut, sy_scut, sy_sbyte, sy_mkok, sy_mkok0, sy_mkz, sy_rep, sy_head, sy_deq, eqDs_int, eqDs_nil, opI_int, opB_bool, opS_str, opL_sl, opM_own, leaves_val, leaves_own, Option.bind_some, cutO_bool, bif_bool, cutO_inl, cutO_inr, eF_call, eF_lp, Nat.zero_add, Nat.reduceAdd, Bool.cond_false_right, Bool.cond_true_left, Bool.cond_false_left, Bool.cond_true_right, Bool.not_true, Bool.not_false, Bool.not_not, eq_self, decide_true, decide_false, cond_true, cond_false, Int.reduceEq, Int.reduceLT, Int.reduceLE, Int.reduceSub, Int.reduceAdd, Bool.true_and, Bool.and_true, Bool.false_and, Bool.and_false, Bool.or_false, Bool.false_or, Bool.true_or, Bool.or_true, true_and, and_true, h1]; exact ⟨_, rfl, _, _, rfl, h2⟩
  · obtain ⟨_, h1, n, e, rfl, h2⟩ := c131 op a b hb
    subst h; simp only [sy_wrap, sy_add, sy_sub, sy_mul, sy_ieq, sy_ilt, sy_ile, sy_seq, sy_beq, sy_bor, sy_bnot, sy_imax, sy_imin, sy_rlen, sy_slen, sy_sapp, sy_inr, sy_nat, sy_cell0, sy_cellS, sy_skip0, sy_inrn, sy_rapp, sy_fits, sy_cutok, sy_cut, sy_scut, sy_sbyte, sy_mkok, sy_mkok0, sy_mkz, sy_rep, sy_head, sy_deq, eqDs_int, eqDs_nil, opI_int, opB_bool, opS_str, opL_sl, opM_own, leaves_val, leaves_own, Option.bind_some, cutO_bool, bif_bool, cutO_inl, cutO_inr, eF_call, eF_lp, Nat.zero_add, Nat.reduceAdd, Bool.cond_false_right, Bool.cond_true_left, Bool.cond_false_left, Bool.cond_true_right, Bool.not_true, Bool.not_false, Bool.not_not, eq_self, decide_true, decide_false, cond_true, cond_false, Int.reduceEq, Int.reduceLT, Int.reduceLE, Int.reduceSub, Int.reduceAdd, Bool.true_and, Bool.and_true, Bool.false_and, Bool.and_false, Bool.or_false, Bool.false_or, Bool.true_or, Bool.or_true, true_and, and_true, h1]; exact ⟨_, rfl, _, _, rfl, h2⟩
  · obtain ⟨_, h1, n, e, rfl, h2⟩ := c131 op a b hb
    subst h; simp only [sy_wrap, sy_add, sy_sub, sy_mul, sy_ieq, sy_ilt, sy_ile, sy_seq, sy_beq, sy_bor, sy_bnot, sy_imax, sy_imin, sy_rlen, sy_slen, sy_sapp, sy_inr, sy_nat, sy_cell0, sy_cellS, sy_skip0, sy_inrn, sy_rapp, sy_fits, sy_cutok, sy_cut, sy_scut, sy_sbyte, sy_mkok, sy_mkok0, sy_mkz, sy_rep, sy_head, sy_deq, eqDs_int, eqDs_nil, opI_int, opB_bool, opS_str, opL_sl, opM_own, leaves_val, leaves_own, Option.bind_some, cutO_bool, bif_bool, cutO_inl, cutO_inr, eF_call, eF_lp, Nat.zero_add, Nat.reduceAdd, Bool.cond_false_right, Bool.cond_true_left, Bool.cond_false_left, Bool.cond_true_right, Bool.not_true, Bool.not_false, Bool.not_not, eq_self, decide_true, decide_false, cond_true, cond_false, Int.reduceEq, Int.reduceLT, Int.reduceLE, Int.reduceSub, Int.reduceAdd, Bool.true_and, Bool.and_true, Bool.false_and, Bool.and_false, Bool.or_false, Bool.false_or, Bool.true_or, Bool.or_true, true_and, and_true, h1]; exact ⟨_, rfl, _, _, rfl, h2⟩
  · obtain ⟨_, h1, n, e, rfl, h2⟩ := c131 op a b hb
    subst h; simp only [sy_wrap, sy_add, sy_sub, sy_mul, sy_ieq, sy_ilt, sy_ile, sy_seq, sy_beq, sy_bor, sy_bnot, sy_imax, sy_imin, sy_rlen, sy_slen, sy_sapp, sy_inr, sy_nat, sy_cell0, sy_cellS, sy_skip0, sy_inrn, sy_rapp, sy_fits, sy_cutok, sy_cut, sy_scut, sy_sbyte, sy_mkok, sy_mkok0, sy_mkz, sy_rep, sy_head, sy_deq, eqDs_int, eqDs_nil, opI_int, opB_bool, opS_str, opL_sl, opM_own, leaves_val, leaves_own, Option.bind_some, cutO_bool, bif_bool, cutO_inl, cutO_inr, eF_call, eF_lp, Nat.zero_add, Nat.reduceAdd, Bool.cond_false_right, Bool.cond_true_left, Bool.cond_false_left, Bool.cond_true_right, Bool.not_true, Bool.not_false, Bool.not_not, eq_self, decide_true, decide_false, cond_true, cond_false, Int.reduceEq, Int.reduceLT, Int.reduceLE, Int.reduceSub, Int.reduceAdd, Bool.true_and, Bool.and_true, Bool.false_and, Bool.and_false, Bool.or_false, Bool.false_or, Bool.true_or, Bool.or_true, true_and, and_true, h1]; exact ⟨_, rfl, _, _, rfl, h2⟩
  all_goals
    subst h
    simp only [sy_wrap, sy_add, sy_sub, sy_mul, sy_ieq, sy_ilt, sy_ile, sy_seq, sy_beq, sy_bor, sy_bnot, sy_imax, sy_imin, sy_rlen, sy_slen, sy_sapp, sy_inr, sy_nat, sy_cell0, sy_cellS, sy_skip0, sy_inrn, sy_rapp, sy_fits, sy_cutok, sy_cut, sy_scut, sy_sbyte, sy_mkok, sy_mkok0, sy_mkz, sy_rep, sy_head, sy_deq, eqDs_int, eqDs_nil, opI_int, opB_bool, opS_str, opL_sl, opM_own, leaves_val, leaves_own, Option.bind_some, cutO_bool, bif_bool, cutO_inl, cutO_inr, eF_call, eF_lp, Nat.zero_add, Nat.reduceAdd, Bool.cond_false_right, Bool.cond_true_left, Bool.cond_false_left, Bool.cond_true_right, Bool.not_true, Bool.not_false, Bool.not_not, eq_self, decide_true, decide_false, cond_true, cond_false, Int.reduceEq, Int.reduceLT, Int.reduceLE, Int.reduceSub, Int.reduceAdd, Bool.true_and, Bool.and_true, Bool.false_and, Bool.and_false, Bool.or_false, Bool.false_or, Bool.true_or, Bool.or_true, true_and, and_true]
    simp only [fun b => (hf b).1, sy_wrap, sy_add, sy_sub, sy_mul, sy_ieq, sy_ilt, sy_ile, sy_seq, sy_beq, sy_bor, sy_bnot, sy_imax, sy_imin, sy_rlen, sy_slen, sy_sapp, sy_inr, sy_nat, sy_cell0, sy_cellS, sy_skip0, sy_inrn, sy_rapp, sy_fits, sy_cutok, sy_cut, sy_scut, sy_sbyte, sy_mkok, sy_mkok0, sy_mkz, sy_rep, sy_head, sy_deq, eqDs_int, eqDs_nil, opI_int, opB_bool, opS_str, opL_sl, opM_own, leaves_val, leaves_own, Option.bind_some, cutO_bool, bif_bool, cutO_inl, cutO_inr, eF_call, eF_lp, Nat.zero_add, Nat.reduceAdd, Bool.cond_false_right, Bool.cond_true_left, Bool.cond_false_left, Bool.cond_true_right, Bool.not_true, Bool.not_false, Bool.not_not, eq_self, decide_true, decide_false, cond_true, cond_false, Int.reduceEq, Int.reduceLT, Int.reduceLE, Int.reduceSub, Int.reduceAdd, Bool.true_and, Bool.and_true, Bool.false_and, Bool.and_false, Bool.or_false, Bool.false_or, Bool.true_or, Bool.or_true, true_and, and_true]
    exact ⟨_, rfl, _, _, rfl, (hf _).2, .inl rfl⟩
end Go.Vm
end
