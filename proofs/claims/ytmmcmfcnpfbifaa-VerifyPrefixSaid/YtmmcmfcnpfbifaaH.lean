/-
  Part H of the proof. What is proved by the whole: the statement that the claim names, with no condition. This part: lemmas.
-/
import Derived.Test.YtmmcmfcnpfbifaaG
set_option linter.unusedSimpArgs false
set_option linter.unusedVariables false

section
set_option maxRecDepth 100000
set_option maxHeartbeats 8000000
namespace Go.Vm
open Go.Proofs
theorem c13 (la lb : List Int) (lo hi : Int) (code : List Ins) (hla : la.length ≤ 10) (hlb : lb.length ≤ 1100) (hcl : code.length ≤ 1000) :
    cF 13 [shV (irows la) (irows lb) lo hi, .d (.sl 4 (crows code))] = some (chR (checkS ⟨la, lb, lo, hi⟩ code)) := by
  have h15 := c15 la lb lo hi (by omega) (by omega)
  unfold checkS
  simp only
  cases hs : shapeB la lb lo hi with
  | false =>
    rw [hs] at h15
    unfold shV at *
    refine cOf (by kernel_rfl) ?_
    rw [g13_eq]
    simp only [g13, sy_wrap, sy_add, sy_sub, sy_mul, sy_ieq, sy_ilt, sy_ile, sy_seq, sy_beq, sy_bor, sy_bnot, sy_imax, sy_imin, sy_rlen, sy_slen, sy_sapp, sy_inr, sy_nat, sy_cell0, sy_cellS, sy_skip0, sy_inrn, sy_rapp, sy_fits, sy_cutok, sy_cut, sy_scut, sy_sbyte, sy_mkok, sy_mkok0, sy_mkz, sy_rep, sy_head, sy_deq, eqDs_int, eqDs_nil, opI_int, opB_bool, opS_str, opL_sl, opM_own, leaves_val, leaves_own, Option.bind_some, cutO_bool, bif_bool, cutO_inl, cutO_inr, eF_call, eF_lp, Nat.zero_add, Nat.reduceAdd, Bool.cond_false_right, Bool.cond_true_left, Bool.cond_false_left, Bool.cond_true_right, Bool.not_true, Bool.not_false, Bool.not_not, eq_self, decide_true, decide_false, cond_true, cond_false, Int.reduceEq, Int.reduceLT, Int.reduceLE, Int.reduceSub, Int.reduceAdd, Bool.true_and, Bool.and_true, Bool.false_and, Bool.and_false, Bool.or_false, Bool.false_or, Bool.true_or, Bool.or_true, true_and, and_true, h15]
    rfl
  | true =>
  rw [hs] at h15
  have hk1 := kinds_ge hs
  by_cases h1 : code.length < 1
  · unfold shV at *
    refine cOf (by kernel_rfl) ?_
    rw [g13_eq]
    simp only [g13, sy_wrap, sy_add, sy_sub, sy_mul, sy_ieq, sy_ilt, sy_ile, sy_seq, sy_beq, sy_bor, sy_bnot, sy_imax, sy_imin, sy_rlen, sy_slen, sy_sapp, sy_inr, sy_nat, sy_cell0, sy_cellS, sy_skip0, sy_inrn, sy_rapp, sy_fits, sy_cutok, sy_cut, sy_scut, sy_sbyte, sy_mkok, sy_mkok0, sy_mkz, sy_rep, sy_head, sy_deq, eqDs_int, eqDs_nil, opI_int, opB_bool, opS_str, opL_sl, opM_own, leaves_val, leaves_own, Option.bind_some, cutO_bool, bif_bool, cutO_inl, cutO_inr, eF_call, eF_lp, Nat.zero_add, Nat.reduceAdd, Bool.cond_false_right, Bool.cond_true_left, Bool.cond_false_left, Bool.cond_true_right, Bool.not_true, Bool.not_false, Bool.not_not, eq_self, decide_true, decide_false, cond_true, cond_false, Int.reduceEq, Int.reduceLT, Int.reduceLE, Int.reduceSub, Int.reduceAdd, Bool.true_and, Bool.and_true, Bool.false_and, Bool.and_false, Bool.or_false, Bool.false_or, Bool.true_or, Bool.or_true, true_and, and_true, h15, crows_len]
    simp (disch := omega) only [wrap_id, decT, decF, sy_wrap, sy_add, sy_sub, sy_mul, sy_ieq, sy_ilt, sy_ile, sy_seq, sy_beq, sy_bor, sy_bnot, sy_imax, sy_imin, sy_rlen, sy_slen, sy_sapp, sy_inr, sy_nat, sy_cell0, sy_cellS, sy_skip0, sy_inrn, sy_rapp, sy_fits, sy_cutok, sy_cut, sy_scut, sy_sbyte, sy_mkok, sy_mkok0, sy_mkz, sy_rep, sy_head, sy_deq, eqDs_int, eqDs_nil, opI_int, opB_bool, opS_str, opL_sl, opM_own, leaves_val, leaves_own, Option.bind_some, cutO_bool, bif_bool, cutO_inl, cutO_inr, eF_call, eF_lp, Nat.zero_add, Nat.reduceAdd, Bool.cond_false_right, Bool.cond_true_left, Bool.cond_false_left, Bool.cond_true_right, Bool.not_true, Bool.not_false, Bool.not_not, eq_self, decide_true, decide_false, cond_true, cond_false, Int.reduceEq, Int.reduceLT, Int.reduceLE, Int.reduceSub, Int.reduceAdd, Bool.true_and, Bool.and_true, Bool.false_and, Bool.and_false, Bool.or_false, Bool.false_or, Bool.true_or, Bool.or_true, true_and, and_true]
    rfl
  rw [if_pos (by simp; omega)]
  have h36 := fun x row => c36 la lb lo hi x row hla (by omega) hk1
  unfold shV at *
  refine cOf (by kernel_rfl) ?_
  rw [g13_eq]
  have h0 : 0 < code.length := by omega
  simp (disch := omega) only [g13, decT, decF, h15, crows_len, kA_zero, rA_zero, kA_len, rA_len, Int.toNat_zero, sy_wrap, sy_add, sy_sub, sy_mul, sy_ieq, sy_ilt, sy_ile, sy_seq, sy_beq, sy_bor, sy_bnot, sy_imax, sy_imin, sy_rlen, sy_slen, sy_sapp, sy_inr, sy_nat, sy_cell0, sy_cellS, sy_skip0, sy_inrn, sy_rapp, sy_fits, sy_cutok, sy_cut, sy_scut, sy_sbyte, sy_mkok, sy_mkok0, sy_mkz, sy_rep, sy_head, sy_deq, eqDs_int, eqDs_nil, opI_int, opB_bool, opS_str, opL_sl, opM_own, leaves_val, leaves_own, Option.bind_some, cutO_bool, bif_bool, cutO_inl, cutO_inr, eF_call, eF_lp, Nat.zero_add, Nat.reduceAdd, Bool.cond_false_right, Bool.cond_true_left, Bool.cond_false_left, Bool.cond_true_right, Bool.not_true, Bool.not_false, Bool.not_not, eq_self, decide_true, decide_false, cond_true, cond_false, Int.reduceEq, Int.reduceLT, Int.reduceLE, Int.reduceSub, Int.reduceAdd, Bool.true_and, Bool.and_true, Bool.false_and, Bool.and_false, Bool.or_false, Bool.false_or, Bool.true_or, Bool.or_true, true_and, and_true]
  rw [kA_put [] h0, rA_K0]
  refine checkA_loop ⟨la, lb, lo, hi⟩ code (fun i K => [.sl 4 (crows code), .int .i64 (i : Int), .sl 1 (irows la), .sl 1 (irows lb), .int .i64 lo, .int .i64 hi, .sl 1 (kA code.length K), .sl 1 (rA code.length K)]) hs (fun i K x hx hKO => ?_) (fun K => ?_) code 0 (setK K00 0 []) rfl (Nat.zero_le _) (fun m r hm => ?_)
  · have hlt := (List.getElem?_eq_some_iff.1 hx).1
    have h35 := c35 x
    unfold StepA
    cases hk : K i with
    | none =>
      simp only [sy_wrap, sy_add, sy_sub, sy_mul, sy_ieq, sy_ilt, sy_ile, sy_seq, sy_beq, sy_bor, sy_bnot, sy_imax, sy_imin, sy_rlen, sy_slen, sy_sapp, sy_inr, sy_nat, sy_cell0, sy_cellS, sy_skip0, sy_inrn, sy_rapp, sy_fits, sy_cutok, sy_cut, sy_scut, sy_sbyte, sy_mkok, sy_mkok0, sy_mkz, sy_rep, sy_head, sy_deq, eqDs_int, eqDs_nil, opI_int, opB_bool, opS_str, opL_sl, opM_own, leaves_val, leaves_own, Option.bind_some, cutO_bool, bif_bool, cutO_inl, cutO_inr, eF_call, eF_lp, Nat.zero_add, Nat.reduceAdd, Bool.cond_false_right, Bool.cond_true_left, Bool.cond_false_left, Bool.cond_true_right, Bool.not_true, Bool.not_false, Bool.not_not, eq_self, decide_true, decide_false, cond_true, cond_false, Int.reduceEq, Int.reduceLT, Int.reduceLE, Int.reduceSub, Int.reduceAdd, Bool.true_and, Bool.and_true, Bool.false_and, Bool.and_false, Bool.or_false, Bool.false_or, Bool.true_or, Bool.or_true, true_and, and_true, crows_len, ilt_at hlt, inr_at hlt, crows_at hx, Ins.row, kA_len, Int.toNat_natCast, kA_at hlt, hk, Option.isSome_none]
      rfl
    | some row =>
      have hro := hKO i row hk
      simp only
      unfold insV at *
      cases hr : rightB x with
      | false =>
        rw [hr] at h35
        simp only [sy_wrap, sy_add, sy_sub, sy_mul, sy_ieq, sy_ilt, sy_ile, sy_seq, sy_beq, sy_bor, sy_bnot, sy_imax, sy_imin, sy_rlen, sy_slen, sy_sapp, sy_inr, sy_nat, sy_cell0, sy_cellS, sy_skip0, sy_inrn, sy_rapp, sy_fits, sy_cutok, sy_cut, sy_scut, sy_sbyte, sy_mkok, sy_mkok0, sy_mkz, sy_rep, sy_head, sy_deq, eqDs_int, eqDs_nil, opI_int, opB_bool, opS_str, opL_sl, opM_own, leaves_val, leaves_own, Option.bind_some, cutO_bool, bif_bool, cutO_inl, cutO_inr, eF_call, eF_lp, Nat.zero_add, Nat.reduceAdd, Bool.cond_false_right, Bool.cond_true_left, Bool.cond_false_left, Bool.cond_true_right, Bool.not_true, Bool.not_false, Bool.not_not, eq_self, decide_true, decide_false, cond_true, cond_false, Int.reduceEq, Int.reduceLT, Int.reduceLE, Int.reduceSub, Int.reduceAdd, Bool.true_and, Bool.and_true, Bool.false_and, Bool.and_false, Bool.or_false, Bool.false_or, Bool.true_or, Bool.or_true, true_and, and_true, crows_len, ilt_at hlt, inr_at hlt, crows_at hx, Ins.row, kA_len, Int.toNat_natCast, kA_at hlt, hk, Option.isSome_some, h35]
        rfl
      | true =>
        rw [hr] at h35
        obtain ⟨p, h36, hp⟩ := h36 x row (by have := hro.2; omega) hro.1 hr
        obtain ⟨l, b, rfl, hlb2⟩ := rowR_val hp
        simp only [sy_wrap, sy_add, sy_sub, sy_mul, sy_ieq, sy_ilt, sy_ile, sy_seq, sy_beq, sy_bor, sy_bnot, sy_imax, sy_imin, sy_rlen, sy_slen, sy_sapp, sy_inr, sy_nat, sy_cell0, sy_cellS, sy_skip0, sy_inrn, sy_rapp, sy_fits, sy_cutok, sy_cut, sy_scut, sy_sbyte, sy_mkok, sy_mkok0, sy_mkz, sy_rep, sy_head, sy_deq, eqDs_int, eqDs_nil, opI_int, opB_bool, opS_str, opL_sl, opM_own, leaves_val, leaves_own, Option.bind_some, cutO_bool, bif_bool, cutO_inl, cutO_inr, eF_call, eF_lp, Nat.zero_add, Nat.reduceAdd, Bool.cond_false_right, Bool.cond_true_left, Bool.cond_false_left, Bool.cond_true_right, Bool.not_true, Bool.not_false, Bool.not_not, eq_self, decide_true, decide_false, cond_true, cond_false, Int.reduceEq, Int.reduceLT, Int.reduceLE, Int.reduceSub, Int.reduceAdd, Bool.true_and, Bool.and_true, Bool.false_and, Bool.and_false, Bool.or_false, Bool.false_or, Bool.true_or, Bool.or_true, true_and, and_true, crows_len, ilt_at hlt, inr_at hlt, crows_at hx, Ins.row, kA_len, rA_len, Int.toNat_natCast, kA_at hlt, rA_at hlt, hk, Option.isSome_some, Option.getD_some, h35, h36, if_true]
        cases hn : nextS ⟨la, lb, lo, hi⟩ x row with
        | none => rw [hn] at hlb2; rw [show b = false from hlb2]; rfl
        | some row' =>
          rw [hn] at hlb2
          obtain ⟨rfl, rfl⟩ := hlb2
          have hRow' := nextS_ok hn hro hs hr
          unfold leadsA
          have ha : x.op = 6 ∨ x.op = 7 → 0 ≤ x.a ∧ x.a ≤ 65535 := fun h => by
            have hr2 := hr
            rw [right_eq] at hr2
            simp only [Bool.and_eq_true] at hr2
            have q2 := hr2.1.1.2
            unfold firstB at q2
            rw [if_neg (by omega), if_neg (by omega), if_neg (by omega), if_neg (by omega)] at q2
            exact withinB_iff.1 q2
          by_cases h10 : x.op = 10
          · rw [if_pos h10]
            by_cases hend : i + 1 = code.length
            · rw [if_pos hend]
              simp (disch := omega) only [sy_wrap, sy_add, sy_sub, sy_mul, sy_ieq, sy_ilt, sy_ile, sy_seq, sy_beq, sy_bor, sy_bnot, sy_imax, sy_imin, sy_rlen, sy_slen, sy_sapp, sy_inr, sy_nat, sy_cell0, sy_cellS, sy_skip0, sy_inrn, sy_rapp, sy_fits, sy_cutok, sy_cut, sy_scut, sy_sbyte, sy_mkok, sy_mkok0, sy_mkz, sy_rep, sy_head, sy_deq, eqDs_int, eqDs_nil, opI_int, opB_bool, opS_str, opL_sl, opM_own, leaves_val, leaves_own, Option.bind_some, cutO_bool, bif_bool, cutO_inl, cutO_inr, eF_call, eF_lp, Nat.zero_add, Nat.reduceAdd, Bool.cond_false_right, Bool.cond_true_left, Bool.cond_false_left, Bool.cond_true_right, Bool.not_true, Bool.not_false, Bool.not_not, eq_self, decide_true, decide_false, cond_true, cond_false, Int.reduceEq, Int.reduceLT, Int.reduceLE, Int.reduceSub, Int.reduceAdd, Bool.true_and, Bool.and_true, Bool.false_and, Bool.and_false, Bool.or_false, Bool.false_or, Bool.true_or, Bool.or_true, true_and, and_true, decT, decF, h10, wrap_succ hlt (by omega)]
              have hT0 : ∀ t ∈ ([] : List Int), 0 ≤ t := by simp
              refine (refPut_loop code.length ([] : List Int) l (fun j K => [.sl 4 (crows code), .int .i64 (i : Int), .sl 1 (irows l), .int .i64 (j : Int), .sl 1 (irows la), .sl 1 (irows lb), .int .i64 lo, .int .i64 hi, .sl 1 (kA code.length K), .sl 1 (rA code.length K), .sl 1 (irows ([] : List Int))])
                (fun K => [.sl 4 (crows code), .int .i64 ((i + 1 : Nat) : Int), .sl 1 (irows la), .sl 1 (irows lb), .int .i64 lo, .int .i64 hi, .sl 1 (kA code.length K), .sl 1 (rA code.length K)]) (badR i) (fun j K t ht hKO => ?_) (fun K => ?_) hRow' ([] : List Int) 0 K rfl (Nat.zero_le _) hKO).trans ?_
              · have hjlt := (List.getElem?_eq_some_iff.1 ht).1
                have ht0 := hT0 t (List.mem_of_getElem? ht)
                by_cases htn : (code.length : Int) ≤ t
                · rw [if_pos htn]
                  simp only [sy_wrap, sy_add, sy_sub, sy_mul, sy_ieq, sy_ilt, sy_ile, sy_seq, sy_beq, sy_bor, sy_bnot, sy_imax, sy_imin, sy_rlen, sy_slen, sy_sapp, sy_inr, sy_nat, sy_cell0, sy_cellS, sy_skip0, sy_inrn, sy_rapp, sy_fits, sy_cutok, sy_cut, sy_scut, sy_sbyte, sy_mkok, sy_mkok0, sy_mkz, sy_rep, sy_head, sy_deq, eqDs_int, eqDs_nil, opI_int, opB_bool, opS_str, opL_sl, opM_own, leaves_val, leaves_own, Option.bind_some, cutO_bool, bif_bool, cutO_inl, cutO_inr, eF_call, eF_lp, Nat.zero_add, Nat.reduceAdd, Bool.cond_false_right, Bool.cond_true_left, Bool.cond_false_left, Bool.cond_true_right, Bool.not_true, Bool.not_false, Bool.not_not, eq_self, decide_true, decide_false, cond_true, cond_false, Int.reduceEq, Int.reduceLT, Int.reduceLE, Int.reduceSub, Int.reduceAdd, Bool.true_and, Bool.and_true, Bool.false_and, Bool.and_false, Bool.or_false, Bool.false_or, Bool.true_or, Bool.or_true, true_and, and_true, irows_len, crows_len, Int.toNat_natCast, ilt_at hjlt, inr_at hjlt, irows_rown ht, decT htn]
                  rfl
                · rw [if_neg htn]
                  have h1 : t.toNat < code.length := by omega
                  have h2 : decide (0 ≤ t ∧ t < (code.length : Int)) = true := decT ⟨ht0, by omega⟩
                  cases hq : K t.toNat with
                  | none =>
                    simp only [sy_wrap, sy_add, sy_sub, sy_mul, sy_ieq, sy_ilt, sy_ile, sy_seq, sy_beq, sy_bor, sy_bnot, sy_imax, sy_imin, sy_rlen, sy_slen, sy_sapp, sy_inr, sy_nat, sy_cell0, sy_cellS, sy_skip0, sy_inrn, sy_rapp, sy_fits, sy_cutok, sy_cut, sy_scut, sy_sbyte, sy_mkok, sy_mkok0, sy_mkz, sy_rep, sy_head, sy_deq, eqDs_int, eqDs_nil, opI_int, opB_bool, opS_str, opL_sl, opM_own, leaves_val, leaves_own, Option.bind_some, cutO_bool, bif_bool, cutO_inl, cutO_inr, eF_call, eF_lp, Nat.zero_add, Nat.reduceAdd, Bool.cond_false_right, Bool.cond_true_left, Bool.cond_false_left, Bool.cond_true_right, Bool.not_true, Bool.not_false, Bool.not_not, eq_self, decide_true, decide_false, cond_true, cond_false, Int.reduceEq, Int.reduceLT, Int.reduceLE, Int.reduceSub, Int.reduceAdd, Bool.true_and, Bool.and_true, Bool.false_and, Bool.and_false, Bool.or_false, Bool.false_or, Bool.true_or, Bool.or_true, true_and, and_true, irows_len, crows_len, Int.toNat_natCast, ilt_at hjlt, inr_at hjlt, irows_rown ht, decF htn, kA_len, rA_len, h2, decT h1, kA_at h1, hq, Option.isSome_none, kA_put l h1, rA_put h1, wrap_succ hjlt (by simp)]
                    rfl
                  | some was =>
                    have hw := hKO _ _ hq
                    simp only [sy_wrap, sy_add, sy_sub, sy_mul, sy_ieq, sy_ilt, sy_ile, sy_seq, sy_beq, sy_bor, sy_bnot, sy_imax, sy_imin, sy_rlen, sy_slen, sy_sapp, sy_inr, sy_nat, sy_cell0, sy_cellS, sy_skip0, sy_inrn, sy_rapp, sy_fits, sy_cutok, sy_cut, sy_scut, sy_sbyte, sy_mkok, sy_mkok0, sy_mkz, sy_rep, sy_head, sy_deq, eqDs_int, eqDs_nil, opI_int, opB_bool, opS_str, opL_sl, opM_own, leaves_val, leaves_own, Option.bind_some, cutO_bool, bif_bool, cutO_inl, cutO_inr, eF_call, eF_lp, Nat.zero_add, Nat.reduceAdd, Bool.cond_false_right, Bool.cond_true_left, Bool.cond_false_left, Bool.cond_true_right, Bool.not_true, Bool.not_false, Bool.not_not, eq_self, decide_true, decide_false, cond_true, cond_false, Int.reduceEq, Int.reduceLT, Int.reduceLE, Int.reduceSub, Int.reduceAdd, Bool.true_and, Bool.and_true, Bool.false_and, Bool.and_false, Bool.or_false, Bool.false_or, Bool.true_or, Bool.or_true, true_and, and_true, irows_len, crows_len, Int.toNat_natCast, ilt_at hjlt, inr_at hjlt, irows_rown ht, decF htn, kA_len, rA_len, h2, decT h1, kA_at h1, rA_at h1, hq, Option.isSome_some, Option.getD_some, c37 was l (by have := hw.2; omega), kA_put l h1, rA_put h1, wrap_succ hjlt (by simp)]
                    by_cases he : was = l
                    · rw [if_pos he, show (was == l) = true from by simp [he]]; rfl
                    · rw [if_neg he, show (was == l) = false from by simp [he]]; rfl
              · simp only [sy_wrap, sy_add, sy_sub, sy_mul, sy_ieq, sy_ilt, sy_ile, sy_seq, sy_beq, sy_bor, sy_bnot, sy_imax, sy_imin, sy_rlen, sy_slen, sy_sapp, sy_inr, sy_nat, sy_cell0, sy_cellS, sy_skip0, sy_inrn, sy_rapp, sy_fits, sy_cutok, sy_cut, sy_scut, sy_sbyte, sy_mkok, sy_mkok0, sy_mkz, sy_rep, sy_head, sy_deq, eqDs_int, eqDs_nil, opI_int, opB_bool, opS_str, opL_sl, opM_own, leaves_val, leaves_own, Option.bind_some, cutO_bool, bif_bool, cutO_inl, cutO_inr, eF_call, eF_lp, Nat.zero_add, Nat.reduceAdd, Bool.cond_false_right, Bool.cond_true_left, Bool.cond_false_left, Bool.cond_true_right, Bool.not_true, Bool.not_false, Bool.not_not, eq_self, decide_true, decide_false, cond_true, cond_false, Int.reduceEq, Int.reduceLT, Int.reduceLE, Int.reduceSub, Int.reduceAdd, Bool.true_and, Bool.and_true, Bool.false_and, Bool.and_false, Bool.or_false, Bool.false_or, Bool.true_or, Bool.or_true, true_and, and_true, irows_len, ilt_self, wrap_succ hlt (by omega)]
                rfl
              · cases refPut code.length l ([] : List Int) K <;> rfl
            · rw [if_neg hend]
              simp (disch := omega) only [sy_wrap, sy_add, sy_sub, sy_mul, sy_ieq, sy_ilt, sy_ile, sy_seq, sy_beq, sy_bor, sy_bnot, sy_imax, sy_imin, sy_rlen, sy_slen, sy_sapp, sy_inr, sy_nat, sy_cell0, sy_cellS, sy_skip0, sy_inrn, sy_rapp, sy_fits, sy_cutok, sy_cut, sy_scut, sy_sbyte, sy_mkok, sy_mkok0, sy_mkz, sy_rep, sy_head, sy_deq, eqDs_int, eqDs_nil, opI_int, opB_bool, opS_str, opL_sl, opM_own, leaves_val, leaves_own, Option.bind_some, cutO_bool, bif_bool, cutO_inl, cutO_inr, eF_call, eF_lp, Nat.zero_add, Nat.reduceAdd, Bool.cond_false_right, Bool.cond_true_left, Bool.cond_false_left, Bool.cond_true_right, Bool.not_true, Bool.not_false, Bool.not_not, eq_self, decide_true, decide_false, cond_true, cond_false, Int.reduceEq, Int.reduceLT, Int.reduceLE, Int.reduceSub, Int.reduceAdd, Bool.true_and, Bool.and_true, Bool.false_and, Bool.and_false, Bool.or_false, Bool.false_or, Bool.true_or, Bool.or_true, true_and, and_true, decT, decF, h10, wrap_succ hlt (by omega)]
              rfl
          rw [if_neg h10]
          by_cases hb6 : (x.op = 6 ∨ x.op = 7) ∧ x.a ≤ (i : Int)
          · rw [if_pos hb6]
            rcases hb6.1 with h | h
            · simp (disch := omega) only [sy_wrap, sy_add, sy_sub, sy_mul, sy_ieq, sy_ilt, sy_ile, sy_seq, sy_beq, sy_bor, sy_bnot, sy_imax, sy_imin, sy_rlen, sy_slen, sy_sapp, sy_inr, sy_nat, sy_cell0, sy_cellS, sy_skip0, sy_inrn, sy_rapp, sy_fits, sy_cutok, sy_cut, sy_scut, sy_sbyte, sy_mkok, sy_mkok0, sy_mkz, sy_rep, sy_head, sy_deq, eqDs_int, eqDs_nil, opI_int, opB_bool, opS_str, opL_sl, opM_own, leaves_val, leaves_own, Option.bind_some, cutO_bool, bif_bool, cutO_inl, cutO_inr, eF_call, eF_lp, Nat.zero_add, Nat.reduceAdd, Bool.cond_false_right, Bool.cond_true_left, Bool.cond_false_left, Bool.cond_true_right, Bool.not_true, Bool.not_false, Bool.not_not, eq_self, decide_true, decide_false, cond_true, cond_false, Int.reduceEq, Int.reduceLT, Int.reduceLE, Int.reduceSub, Int.reduceAdd, Bool.true_and, Bool.and_true, Bool.false_and, Bool.and_false, Bool.or_false, Bool.false_or, Bool.true_or, Bool.or_true, true_and, and_true, decT, decF, h, wrap_succ hlt (by omega)]
              rfl
            · simp (disch := omega) only [sy_wrap, sy_add, sy_sub, sy_mul, sy_ieq, sy_ilt, sy_ile, sy_seq, sy_beq, sy_bor, sy_bnot, sy_imax, sy_imin, sy_rlen, sy_slen, sy_sapp, sy_inr, sy_nat, sy_cell0, sy_cellS, sy_skip0, sy_inrn, sy_rapp, sy_fits, sy_cutok, sy_cut, sy_scut, sy_sbyte, sy_mkok, sy_mkok0, sy_mkz, sy_rep, sy_head, sy_deq, eqDs_int, eqDs_nil, opI_int, opB_bool, opS_str, opL_sl, opM_own, leaves_val, leaves_own, Option.bind_some, cutO_bool, bif_bool, cutO_inl, cutO_inr, eF_call, eF_lp, Nat.zero_add, Nat.reduceAdd, Bool.cond_false_right, Bool.cond_true_left, Bool.cond_false_left, Bool.cond_true_right, Bool.not_true, Bool.not_false, Bool.not_not, eq_self, decide_true, decide_false, cond_true, cond_false, Int.reduceEq, Int.reduceLT, Int.reduceLE, Int.reduceSub, Int.reduceAdd, Bool.true_and, Bool.and_true, Bool.false_and, Bool.and_false, Bool.or_false, Bool.false_or, Bool.true_or, Bool.or_true, true_and, and_true, decT, decF, h, wrap_succ hlt (by omega), List.length_nil, List.length_cons]
              rfl
          rw [if_neg hb6]
          unfold leadsL
          by_cases h6 : x.op = 6
          · rw [if_pos h6]
            have hT0 : ∀ t ∈ [x.a], 0 ≤ t := fun t ht => by
              simp only [List.mem_cons, List.not_mem_nil, or_false] at ht
              subst ht
              exact (ha (.inl h6)).1
            simp (disch := omega) only [sy_wrap, sy_add, sy_sub, sy_mul, sy_ieq, sy_ilt, sy_ile, sy_seq, sy_beq, sy_bor, sy_bnot, sy_imax, sy_imin, sy_rlen, sy_slen, sy_sapp, sy_inr, sy_nat, sy_cell0, sy_cellS, sy_skip0, sy_inrn, sy_rapp, sy_fits, sy_cutok, sy_cut, sy_scut, sy_sbyte, sy_mkok, sy_mkok0, sy_mkz, sy_rep, sy_head, sy_deq, eqDs_int, eqDs_nil, opI_int, opB_bool, opS_str, opL_sl, opM_own, leaves_val, leaves_own, Option.bind_some, cutO_bool, bif_bool, cutO_inl, cutO_inr, eF_call, eF_lp, Nat.zero_add, Nat.reduceAdd, Bool.cond_false_right, Bool.cond_true_left, Bool.cond_false_left, Bool.cond_true_right, Bool.not_true, Bool.not_false, Bool.not_not, eq_self, decide_true, decide_false, cond_true, cond_false, Int.reduceEq, Int.reduceLT, Int.reduceLE, Int.reduceSub, Int.reduceAdd, Bool.true_and, Bool.and_true, Bool.false_and, Bool.and_false, Bool.or_false, Bool.false_or, Bool.true_or, Bool.or_true, true_and, and_true, decT, decF, h6, wrap_succ hlt (by omega), List.length_nil, List.length_cons, List.nil_append]
            refine (refPut_loop code.length [x.a] l (fun j K => [.sl 4 (crows code), .int .i64 (i : Int), .sl 1 (irows l), .int .i64 (j : Int), .sl 1 (irows la), .sl 1 (irows lb), .int .i64 lo, .int .i64 hi, .sl 1 (kA code.length K), .sl 1 (rA code.length K), .sl 1 (irows [x.a])])
              (fun K => [.sl 4 (crows code), .int .i64 ((i + 1 : Nat) : Int), .sl 1 (irows la), .sl 1 (irows lb), .int .i64 lo, .int .i64 hi, .sl 1 (kA code.length K), .sl 1 (rA code.length K)]) (badR i) (fun j K t ht hKO => ?_) (fun K => ?_) hRow' [x.a] 0 K rfl (Nat.zero_le _) hKO).trans ?_
            · have hjlt := (List.getElem?_eq_some_iff.1 ht).1
              have ht0 := hT0 t (List.mem_of_getElem? ht)
              by_cases htn : (code.length : Int) ≤ t
              · rw [if_pos htn]
                simp only [sy_wrap, sy_add, sy_sub, sy_mul, sy_ieq, sy_ilt, sy_ile, sy_seq, sy_beq, sy_bor, sy_bnot, sy_imax, sy_imin, sy_rlen, sy_slen, sy_sapp, sy_inr, sy_nat, sy_cell0, sy_cellS, sy_skip0, sy_inrn, sy_rapp, sy_fits, sy_cutok, sy_cut, sy_scut, sy_sbyte, sy_mkok, sy_mkok0, sy_mkz, sy_rep, sy_head, sy_deq, eqDs_int, eqDs_nil, opI_int, opB_bool, opS_str, opL_sl, opM_own, leaves_val, leaves_own, Option.bind_some, cutO_bool, bif_bool, cutO_inl, cutO_inr, eF_call, eF_lp, Nat.zero_add, Nat.reduceAdd, Bool.cond_false_right, Bool.cond_true_left, Bool.cond_false_left, Bool.cond_true_right, Bool.not_true, Bool.not_false, Bool.not_not, eq_self, decide_true, decide_false, cond_true, cond_false, Int.reduceEq, Int.reduceLT, Int.reduceLE, Int.reduceSub, Int.reduceAdd, Bool.true_and, Bool.and_true, Bool.false_and, Bool.and_false, Bool.or_false, Bool.false_or, Bool.true_or, Bool.or_true, true_and, and_true, irows_len, crows_len, Int.toNat_natCast, ilt_at hjlt, inr_at hjlt, irows_rown ht, decT htn]
                rfl
              · rw [if_neg htn]
                have h1 : t.toNat < code.length := by omega
                have h2 : decide (0 ≤ t ∧ t < (code.length : Int)) = true := decT ⟨ht0, by omega⟩
                cases hq : K t.toNat with
                | none =>
                  simp only [sy_wrap, sy_add, sy_sub, sy_mul, sy_ieq, sy_ilt, sy_ile, sy_seq, sy_beq, sy_bor, sy_bnot, sy_imax, sy_imin, sy_rlen, sy_slen, sy_sapp, sy_inr, sy_nat, sy_cell0, sy_cellS, sy_skip0, sy_inrn, sy_rapp, sy_fits, sy_cutok, sy_cut, sy_scut, sy_sbyte, sy_mkok, sy_mkok0, sy_mkz, sy_rep, sy_head, sy_deq, eqDs_int, eqDs_nil, opI_int, opB_bool, opS_str, opL_sl, opM_own, leaves_val, leaves_own, Option.bind_some, cutO_bool, bif_bool, cutO_inl, cutO_inr, eF_call, eF_lp, Nat.zero_add, Nat.reduceAdd, Bool.cond_false_right, Bool.cond_true_left, Bool.cond_false_left, Bool.cond_true_right, Bool.not_true, Bool.not_false, Bool.not_not, eq_self, decide_true, decide_false, cond_true, cond_false, Int.reduceEq, Int.reduceLT, Int.reduceLE, Int.reduceSub, Int.reduceAdd, Bool.true_and, Bool.and_true, Bool.false_and, Bool.and_false, Bool.or_false, Bool.false_or, Bool.true_or, Bool.or_true, true_and, and_true, irows_len, crows_len, Int.toNat_natCast, ilt_at hjlt, inr_at hjlt, irows_rown ht, decF htn, kA_len, rA_len, h2, decT h1, kA_at h1, hq, Option.isSome_none, kA_put l h1, rA_put h1, wrap_succ hjlt (by simp)]
                  rfl
                | some was =>
                  have hw := hKO _ _ hq
                  simp only [sy_wrap, sy_add, sy_sub, sy_mul, sy_ieq, sy_ilt, sy_ile, sy_seq, sy_beq, sy_bor, sy_bnot, sy_imax, sy_imin, sy_rlen, sy_slen, sy_sapp, sy_inr, sy_nat, sy_cell0, sy_cellS, sy_skip0, sy_inrn, sy_rapp, sy_fits, sy_cutok, sy_cut, sy_scut, sy_sbyte, sy_mkok, sy_mkok0, sy_mkz, sy_rep, sy_head, sy_deq, eqDs_int, eqDs_nil, opI_int, opB_bool, opS_str, opL_sl, opM_own, leaves_val, leaves_own, Option.bind_some, cutO_bool, bif_bool, cutO_inl, cutO_inr, eF_call, eF_lp, Nat.zero_add, Nat.reduceAdd, Bool.cond_false_right, Bool.cond_true_left, Bool.cond_false_left, Bool.cond_true_right, Bool.not_true, Bool.not_false, Bool.not_not, eq_self, decide_true, decide_false, cond_true, cond_false, Int.reduceEq, Int.reduceLT, Int.reduceLE, Int.reduceSub, Int.reduceAdd, Bool.true_and, Bool.and_true, Bool.false_and, Bool.and_false, Bool.or_false, Bool.false_or, Bool.true_or, Bool.or_true, true_and, and_true, irows_len, crows_len, Int.toNat_natCast, ilt_at hjlt, inr_at hjlt, irows_rown ht, decF htn, kA_len, rA_len, h2, decT h1, kA_at h1, rA_at h1, hq, Option.isSome_some, Option.getD_some, c37 was l (by have := hw.2; omega), kA_put l h1, rA_put h1, wrap_succ hjlt (by simp)]
                  by_cases he : was = l
                  · rw [if_pos he, show (was == l) = true from by simp [he]]; rfl
                  · rw [if_neg he, show (was == l) = false from by simp [he]]; rfl
            · simp only [sy_wrap, sy_add, sy_sub, sy_mul, sy_ieq, sy_ilt, sy_ile, sy_seq, sy_beq, sy_bor, sy_bnot, sy_imax, sy_imin, sy_rlen, sy_slen, sy_sapp, sy_inr, sy_nat, sy_cell0, sy_cellS, sy_skip0, sy_inrn, sy_rapp, sy_fits, sy_cutok, sy_cut, sy_scut, sy_sbyte, sy_mkok, sy_mkok0, sy_mkz, sy_rep, sy_head, sy_deq, eqDs_int, eqDs_nil, opI_int, opB_bool, opS_str, opL_sl, opM_own, leaves_val, leaves_own, Option.bind_some, cutO_bool, bif_bool, cutO_inl, cutO_inr, eF_call, eF_lp, Nat.zero_add, Nat.reduceAdd, Bool.cond_false_right, Bool.cond_true_left, Bool.cond_false_left, Bool.cond_true_right, Bool.not_true, Bool.not_false, Bool.not_not, eq_self, decide_true, decide_false, cond_true, cond_false, Int.reduceEq, Int.reduceLT, Int.reduceLE, Int.reduceSub, Int.reduceAdd, Bool.true_and, Bool.and_true, Bool.false_and, Bool.and_false, Bool.or_false, Bool.false_or, Bool.true_or, Bool.or_true, true_and, and_true, irows_len, ilt_self, wrap_succ hlt (by omega)]
              rfl
            · cases refPut code.length l [x.a] K <;> rfl
          by_cases h7 : x.op = 7
          · rw [if_neg h6, if_pos h7]
            have hT0 : ∀ t ∈ [(i : Int) + 1, x.a], 0 ≤ t := fun t ht => by
              simp only [List.mem_cons, List.not_mem_nil, or_false] at ht
              rcases ht with rfl | rfl
              · omega
              · exact (ha (.inr h7)).1
            simp (disch := omega) only [sy_wrap, sy_add, sy_sub, sy_mul, sy_ieq, sy_ilt, sy_ile, sy_seq, sy_beq, sy_bor, sy_bnot, sy_imax, sy_imin, sy_rlen, sy_slen, sy_sapp, sy_inr, sy_nat, sy_cell0, sy_cellS, sy_skip0, sy_inrn, sy_rapp, sy_fits, sy_cutok, sy_cut, sy_scut, sy_sbyte, sy_mkok, sy_mkok0, sy_mkz, sy_rep, sy_head, sy_deq, eqDs_int, eqDs_nil, opI_int, opB_bool, opS_str, opL_sl, opM_own, leaves_val, leaves_own, Option.bind_some, cutO_bool, bif_bool, cutO_inl, cutO_inr, eF_call, eF_lp, Nat.zero_add, Nat.reduceAdd, Bool.cond_false_right, Bool.cond_true_left, Bool.cond_false_left, Bool.cond_true_right, Bool.not_true, Bool.not_false, Bool.not_not, eq_self, decide_true, decide_false, cond_true, cond_false, Int.reduceEq, Int.reduceLT, Int.reduceLE, Int.reduceSub, Int.reduceAdd, Bool.true_and, Bool.and_true, Bool.false_and, Bool.and_false, Bool.or_false, Bool.false_or, Bool.true_or, Bool.or_true, true_and, and_true, decT, decF, h7, wrap_succ hlt (by omega), List.length_nil, List.length_cons, List.nil_append, List.cons_append]
            refine (refPut_loop code.length [(i : Int) + 1, x.a] l (fun j K => [.sl 4 (crows code), .int .i64 (i : Int), .sl 1 (irows l), .int .i64 (j : Int), .sl 1 (irows la), .sl 1 (irows lb), .int .i64 lo, .int .i64 hi, .sl 1 (kA code.length K), .sl 1 (rA code.length K), .sl 1 (irows [(i : Int) + 1, x.a])])
              (fun K => [.sl 4 (crows code), .int .i64 ((i + 1 : Nat) : Int), .sl 1 (irows la), .sl 1 (irows lb), .int .i64 lo, .int .i64 hi, .sl 1 (kA code.length K), .sl 1 (rA code.length K)]) (badR i) (fun j K t ht hKO => ?_) (fun K => ?_) hRow' [(i : Int) + 1, x.a] 0 K rfl (Nat.zero_le _) hKO).trans ?_
            · have hjlt := (List.getElem?_eq_some_iff.1 ht).1
              have ht0 := hT0 t (List.mem_of_getElem? ht)
              by_cases htn : (code.length : Int) ≤ t
              · rw [if_pos htn]
                simp only [sy_wrap, sy_add, sy_sub, sy_mul, sy_ieq, sy_ilt, sy_ile, sy_seq, sy_beq, sy_bor, sy_bnot, sy_imax, sy_imin, sy_rlen, sy_slen, sy_sapp, sy_inr, sy_nat, sy_cell0, sy_cellS, sy_skip0, sy_inrn, sy_rapp, sy_fits, sy_cutok, sy_cut, sy_scut, sy_sbyte, sy_mkok, sy_mkok0, sy_mkz, sy_rep, sy_head, sy_deq, eqDs_int, eqDs_nil, opI_int, opB_bool, opS_str, opL_sl, opM_own, leaves_val, leaves_own, Option.bind_some, cutO_bool, bif_bool, cutO_inl, cutO_inr, eF_call, eF_lp, Nat.zero_add, Nat.reduceAdd, Bool.cond_false_right, Bool.cond_true_left, Bool.cond_false_left, Bool.cond_true_right, Bool.not_true, Bool.not_false, Bool.not_not, eq_self, decide_true, decide_false, cond_true, cond_false, Int.reduceEq, Int.reduceLT, Int.reduceLE, Int.reduceSub, Int.reduceAdd, Bool.true_and, Bool.and_true, Bool.false_and, Bool.and_false, Bool.or_false, Bool.false_or, Bool.true_or, Bool.or_true, true_and, and_true, irows_len, crows_len, Int.toNat_natCast, ilt_at hjlt, inr_at hjlt, irows_rown ht, decT htn]
                rfl
              · rw [if_neg htn]
                have h1 : t.toNat < code.length := by omega
                have h2 : decide (0 ≤ t ∧ t < (code.length : Int)) = true := decT ⟨ht0, by omega⟩
                cases hq : K t.toNat with
                | none =>
                  simp only [sy_wrap, sy_add, sy_sub, sy_mul, sy_ieq, sy_ilt, sy_ile, sy_seq, sy_beq, sy_bor, sy_bnot, sy_imax, sy_imin, sy_rlen, sy_slen, sy_sapp, sy_inr, sy_nat, sy_cell0, sy_cellS, sy_skip0, sy_inrn, sy_rapp, sy_fits, sy_cutok, sy_cut, sy_scut, sy_sbyte, sy_mkok, sy_mkok0, sy_mkz, sy_rep, sy_head, sy_deq, eqDs_int, eqDs_nil, opI_int, opB_bool, opS_str, opL_sl, opM_own, leaves_val, leaves_own, Option.bind_some, cutO_bool, bif_bool, cutO_inl, cutO_inr, eF_call, eF_lp, Nat.zero_add, Nat.reduceAdd, Bool.cond_false_right, Bool.cond_true_left, Bool.cond_false_left, Bool.cond_true_right, Bool.not_true, Bool.not_false, Bool.not_not, eq_self, decide_true, decide_false, cond_true, cond_false, Int.reduceEq, Int.reduceLT, Int.reduceLE, Int.reduceSub, Int.reduceAdd, Bool.true_and, Bool.and_true, Bool.false_and, Bool.and_false, Bool.or_false, Bool.false_or, Bool.true_or, Bool.or_true, true_and, and_true, irows_len, crows_len, Int.toNat_natCast, ilt_at hjlt, inr_at hjlt, irows_rown ht, decF htn, kA_len, rA_len, h2, decT h1, kA_at h1, hq, Option.isSome_none, kA_put l h1, rA_put h1, wrap_succ hjlt (by simp)]
                  rfl
                | some was =>
                  have hw := hKO _ _ hq
                  simp only [sy_wrap, sy_add, sy_sub, sy_mul, sy_ieq, sy_ilt, sy_ile, sy_seq, sy_beq, sy_bor, sy_bnot, sy_imax, sy_imin, sy_rlen, sy_slen, sy_sapp, sy_inr, sy_nat, sy_cell0, sy_cellS, sy_skip0, sy_inrn, sy_rapp, sy_fits, sy_cutok, sy_cut, sy_scut, sy_sbyte, sy_mkok, sy_mkok0, sy_mkz, sy_rep, sy_head, sy_deq, eqDs_int, eqDs_nil, opI_int, opB_bool, opS_str, opL_sl, opM_own, leaves_val, leaves_own, Option.bind_some, cutO_bool, bif_bool, cutO_inl, cutO_inr, eF_call, eF_lp, Nat.zero_add, Nat.reduceAdd, Bool.cond_false_right, Bool.cond_true_left, Bool.cond_false_left, Bool.cond_true_right, Bool.not_true, Bool.not_false, Bool.not_not, eq_self, decide_true, decide_false, cond_true, cond_false, Int.reduceEq, Int.reduceLT, Int.reduceLE, Int.reduceSub, Int.reduceAdd, Bool.true_and, Bool.and_true, Bool.false_and, Bool.and_false, Bool.or_false, Bool.false_or, Bool.true_or, Bool.or_true, true_and, and_true, irows_len, crows_len, Int.toNat_natCast, ilt_at hjlt, inr_at hjlt, irows_rown ht, decF htn, kA_len, rA_len, h2, decT h1, kA_at h1, rA_at h1, hq, Option.isSome_some, Option.getD_some, c37 was l (by have := hw.2; omega), kA_put l h1, rA_put h1, wrap_succ hjlt (by simp)]
                  by_cases he : was = l
                  · rw [if_pos he, show (was == l) = true from by simp [he]]; rfl
                  · rw [if_neg he, show (was == l) = false from by simp [he]]; rfl
            · simp only [sy_wrap, sy_add, sy_sub, sy_mul, sy_ieq, sy_ilt, sy_ile, sy_seq, sy_beq, sy_bor, sy_bnot, sy_imax, sy_imin, sy_rlen, sy_slen, sy_sapp, sy_inr, sy_nat, sy_cell0, sy_cellS, sy_skip0, sy_inrn, sy_rapp, sy_fits, sy_cutok, sy_cut, sy_scut, sy_sbyte, sy_mkok, sy_mkok0, sy_mkz, sy_rep, sy_head, sy_deq, eqDs_int, eqDs_nil, opI_int, opB_bool, opS_str, opL_sl, opM_own, leaves_val, leaves_own, Option.bind_some, cutO_bool, bif_bool, cutO_inl, cutO_inr, eF_call, eF_lp, Nat.zero_add, Nat.reduceAdd, Bool.cond_false_right, Bool.cond_true_left, Bool.cond_false_left, Bool.cond_true_right, Bool.not_true, Bool.not_false, Bool.not_not, eq_self, decide_true, decide_false, cond_true, cond_false, Int.reduceEq, Int.reduceLT, Int.reduceLE, Int.reduceSub, Int.reduceAdd, Bool.true_and, Bool.and_true, Bool.false_and, Bool.and_false, Bool.or_false, Bool.false_or, Bool.true_or, Bool.or_true, true_and, and_true, irows_len, ilt_self, wrap_succ hlt (by omega)]
              rfl
            · cases refPut code.length l [(i : Int) + 1, x.a] K <;> rfl
          · rw [if_neg h6, if_neg h7]
            have hT0 : ∀ t ∈ [(i : Int) + 1], 0 ≤ t := fun t ht => by
              simp only [List.mem_cons, List.not_mem_nil, or_false] at ht
              omega
            simp (disch := omega) only [sy_wrap, sy_add, sy_sub, sy_mul, sy_ieq, sy_ilt, sy_ile, sy_seq, sy_beq, sy_bor, sy_bnot, sy_imax, sy_imin, sy_rlen, sy_slen, sy_sapp, sy_inr, sy_nat, sy_cell0, sy_cellS, sy_skip0, sy_inrn, sy_rapp, sy_fits, sy_cutok, sy_cut, sy_scut, sy_sbyte, sy_mkok, sy_mkok0, sy_mkz, sy_rep, sy_head, sy_deq, eqDs_int, eqDs_nil, opI_int, opB_bool, opS_str, opL_sl, opM_own, leaves_val, leaves_own, Option.bind_some, cutO_bool, bif_bool, cutO_inl, cutO_inr, eF_call, eF_lp, Nat.zero_add, Nat.reduceAdd, Bool.cond_false_right, Bool.cond_true_left, Bool.cond_false_left, Bool.cond_true_right, Bool.not_true, Bool.not_false, Bool.not_not, eq_self, decide_true, decide_false, cond_true, cond_false, Int.reduceEq, Int.reduceLT, Int.reduceLE, Int.reduceSub, Int.reduceAdd, Bool.true_and, Bool.and_true, Bool.false_and, Bool.and_false, Bool.or_false, Bool.false_or, Bool.true_or, Bool.or_true, true_and, and_true, decT, decF, wrap_succ hlt (by omega), List.length_nil, List.length_cons, List.nil_append]
            refine (refPut_loop code.length [(i : Int) + 1] l (fun j K => [.sl 4 (crows code), .int .i64 (i : Int), .sl 1 (irows l), .int .i64 (j : Int), .sl 1 (irows la), .sl 1 (irows lb), .int .i64 lo, .int .i64 hi, .sl 1 (kA code.length K), .sl 1 (rA code.length K), .sl 1 (irows [(i : Int) + 1])])
              (fun K => [.sl 4 (crows code), .int .i64 ((i + 1 : Nat) : Int), .sl 1 (irows la), .sl 1 (irows lb), .int .i64 lo, .int .i64 hi, .sl 1 (kA code.length K), .sl 1 (rA code.length K)]) (badR i) (fun j K t ht hKO => ?_) (fun K => ?_) hRow' [(i : Int) + 1] 0 K rfl (Nat.zero_le _) hKO).trans ?_
            · have hjlt := (List.getElem?_eq_some_iff.1 ht).1
              have ht0 := hT0 t (List.mem_of_getElem? ht)
              by_cases htn : (code.length : Int) ≤ t
              · rw [if_pos htn]
                simp only [sy_wrap, sy_add, sy_sub, sy_mul, sy_ieq, sy_ilt, sy_ile, sy_seq, sy_beq, sy_bor, sy_bnot, sy_imax, sy_imin, sy_rlen, sy_slen, sy_sapp, sy_inr, sy_nat, sy_cell0, sy_cellS, sy_skip0, sy_inrn, sy_rapp, sy_fits, sy_cutok, sy_cut, sy_scut, sy_sbyte, sy_mkok, sy_mkok0, sy_mkz, sy_rep, sy_head, sy_deq, eqDs_int, eqDs_nil, opI_int, opB_bool, opS_str, opL_sl, opM_own, leaves_val, leaves_own, Option.bind_some, cutO_bool, bif_bool, cutO_inl, cutO_inr, eF_call, eF_lp, Nat.zero_add, Nat.reduceAdd, Bool.cond_false_right, Bool.cond_true_left, Bool.cond_false_left, Bool.cond_true_right, Bool.not_true, Bool.not_false, Bool.not_not, eq_self, decide_true, decide_false, cond_true, cond_false, Int.reduceEq, Int.reduceLT, Int.reduceLE, Int.reduceSub, Int.reduceAdd, Bool.true_and, Bool.and_true, Bool.false_and, Bool.and_false, Bool.or_false, Bool.false_or, Bool.true_or, Bool.or_true, true_and, and_true, irows_len, crows_len, Int.toNat_natCast, ilt_at hjlt, inr_at hjlt, irows_rown ht, decT htn]
                rfl
              · rw [if_neg htn]
                have h1 : t.toNat < code.length := by omega
                have h2 : decide (0 ≤ t ∧ t < (code.length : Int)) = true := decT ⟨ht0, by omega⟩
                cases hq : K t.toNat with
                | none =>
                  simp only [sy_wrap, sy_add, sy_sub, sy_mul, sy_ieq, sy_ilt, sy_ile, sy_seq, sy_beq, sy_bor, sy_bnot, sy_imax, sy_imin, sy_rlen, sy_slen, sy_sapp, sy_inr, sy_nat, sy_cell0, sy_cellS, sy_skip0, sy_inrn, sy_rapp, sy_fits, sy_cutok, sy_cut, sy_scut, sy_sbyte, sy_mkok, sy_mkok0, sy_mkz, sy_rep, sy_head, sy_deq, eqDs_int, eqDs_nil, opI_int, opB_bool, opS_str, opL_sl, opM_own, leaves_val, leaves_own, Option.bind_some, cutO_bool, bif_bool, cutO_inl, cutO_inr, eF_call, eF_lp, Nat.zero_add, Nat.reduceAdd, Bool.cond_false_right, Bool.cond_true_left, Bool.cond_false_left, Bool.cond_true_right, Bool.not_true, Bool.not_false, Bool.not_not, eq_self, decide_true, decide_false, cond_true, cond_false, Int.reduceEq, Int.reduceLT, Int.reduceLE, Int.reduceSub, Int.reduceAdd, Bool.true_and, Bool.and_true, Bool.false_and, Bool.and_false, Bool.or_false, Bool.false_or, Bool.true_or, Bool.or_true, true_and, and_true, irows_len, crows_len, Int.toNat_natCast, ilt_at hjlt, inr_at hjlt, irows_rown ht, decF htn, kA_len, rA_len, h2, decT h1, kA_at h1, hq, Option.isSome_none, kA_put l h1, rA_put h1, wrap_succ hjlt (by simp)]
                  rfl
                | some was =>
                  have hw := hKO _ _ hq
                  simp only [sy_wrap, sy_add, sy_sub, sy_mul, sy_ieq, sy_ilt, sy_ile, sy_seq, sy_beq, sy_bor, sy_bnot, sy_imax, sy_imin, sy_rlen, sy_slen, sy_sapp, sy_inr, sy_nat, sy_cell0, sy_cellS, sy_skip0, sy_inrn, sy_rapp, sy_fits, sy_cutok, sy_cut, sy_scut, sy_sbyte, sy_mkok, sy_mkok0, sy_mkz, sy_rep, sy_head, sy_deq, eqDs_int, eqDs_nil, opI_int, opB_bool, opS_str, opL_sl, opM_own, leaves_val, leaves_own, Option.bind_some, cutO_bool, bif_bool, cutO_inl, cutO_inr, eF_call, eF_lp, Nat.zero_add, Nat.reduceAdd, Bool.cond_false_right, Bool.cond_true_left, Bool.cond_false_left, Bool.cond_true_right, Bool.not_true, Bool.not_false, Bool.not_not, eq_self, decide_true, decide_false, cond_true, cond_false, Int.reduceEq, Int.reduceLT, Int.reduceLE, Int.reduceSub, Int.reduceAdd, Bool.true_and, Bool.and_true, Bool.false_and, Bool.and_false, Bool.or_false, Bool.false_or, Bool.true_or, Bool.or_true, true_and, and_true, irows_len, crows_len, Int.toNat_natCast, ilt_at hjlt, inr_at hjlt, irows_rown ht, decF htn, kA_len, rA_len, h2, decT h1, kA_at h1, rA_at h1, hq, Option.isSome_some, Option.getD_some, c37 was l (by have := hw.2; omega), kA_put l h1, rA_put h1, wrap_succ hjlt (by simp)]
                  by_cases he : was = l
                  · rw [if_pos he, show (was == l) = true from by simp [he]]; rfl
                  · rw [if_neg he, show (was == l) = false from by simp [he]]; rfl
            · simp only [sy_wrap, sy_add, sy_sub, sy_mul, sy_ieq, sy_ilt, sy_ile, sy_seq, sy_beq, sy_bor, sy_bnot, sy_imax, sy_imin, sy_rlen, sy_slen, sy_sapp, sy_inr, sy_nat, sy_cell0, sy_cellS, sy_skip0, sy_inrn, sy_rapp, sy_fits, sy_cutok, sy_cut, sy_scut, sy_sbyte, sy_mkok, sy_mkok0, sy_mkz, sy_rep, sy_head, sy_deq, eqDs_int, eqDs_nil, opI_int, opB_bool, opS_str, opL_sl, opM_own, leaves_val, leaves_own, Option.bind_some, cutO_bool, bif_bool, cutO_inl, cutO_inr, eF_call, eF_lp, Nat.zero_add, Nat.reduceAdd, Bool.cond_false_right, Bool.cond_true_left, Bool.cond_false_left, Bool.cond_true_right, Bool.not_true, Bool.not_false, Bool.not_not, eq_self, decide_true, decide_false, cond_true, cond_false, Int.reduceEq, Int.reduceLT, Int.reduceLE, Int.reduceSub, Int.reduceAdd, Bool.true_and, Bool.and_true, Bool.false_and, Bool.and_false, Bool.or_false, Bool.false_or, Bool.true_or, Bool.or_true, true_and, and_true, irows_len, ilt_self, wrap_succ hlt (by omega)]
              rfl
            · cases refPut code.length l [(i : Int) + 1] K <;> rfl
  · simp only [sy_wrap, sy_add, sy_sub, sy_mul, sy_ieq, sy_ilt, sy_ile, sy_seq, sy_beq, sy_bor, sy_bnot, sy_imax, sy_imin, sy_rlen, sy_slen, sy_sapp, sy_inr, sy_nat, sy_cell0, sy_cellS, sy_skip0, sy_inrn, sy_rapp, sy_fits, sy_cutok, sy_cut, sy_scut, sy_sbyte, sy_mkok, sy_mkok0, sy_mkz, sy_rep, sy_head, sy_deq, eqDs_int, eqDs_nil, opI_int, opB_bool, opS_str, opL_sl, opM_own, leaves_val, leaves_own, Option.bind_some, cutO_bool, bif_bool, cutO_inl, cutO_inr, eF_call, eF_lp, Nat.zero_add, Nat.reduceAdd, Bool.cond_false_right, Bool.cond_true_left, Bool.cond_false_left, Bool.cond_true_right, Bool.not_true, Bool.not_false, Bool.not_not, eq_self, decide_true, decide_false, cond_true, cond_false, Int.reduceEq, Int.reduceLT, Int.reduceLE, Int.reduceSub, Int.reduceAdd, Bool.true_and, Bool.and_true, Bool.false_and, Bool.and_false, Bool.or_false, Bool.false_or, Bool.true_or, Bool.or_true, true_and, and_true, ilt_self, crows_len]
  · unfold setK at hm
    split at hm
    · cases hm; exact ⟨by simp, by simp⟩
    · cases hm
end Go.Vm
end

section
set_option maxRecDepth 100000
set_option maxHeartbeats 2000000
namespace Go.Vm
open Go.Proofs
theorem few_eq (la lb : List Int) (h : la.length ≤ 10 ∧ lb.length ≤ 1100) : (decide ((la.length : Int) ≤ 10) && decide ((lb.length : Int) ≤ 1100)) = true := by
  rw [Bool.and_eq_true, decide_eq_true_eq, decide_eq_true_eq]; omega
theorem few_ne (la lb : List Int) (h : ¬ (la.length ≤ 10 ∧ lb.length ≤ 1100)) : (decide ((la.length : Int) ≤ 10) && decide ((lb.length : Int) ≤ 1100)) = false := by
  rw [Bool.and_eq_false_iff, decide_eq_false_iff_not, decide_eq_false_iff_not]; omega
theorem c3 (la lb : List Int) (lo hi : Int) (code : List Ins) : cF 3 [shV (irows la) (irows lb) lo hi, .d (.sl 4 (crows code))] = some (.val [.bool true]) := by
  have h10 := c10 (irows la) (irows lb) lo hi
  rw [irows_len, irows_len] at h10
  by_cases hs : ¬ (la.length ≤ 10 ∧ lb.length ≤ 1100)
  · rw [few_ne _ _ hs] at h10
    unfold shV at *
    refine cOf (by kernel_rfl) ?_
    rw [g3_eq]
    simp only [g3, sy_wrap, sy_add, sy_sub, sy_mul, sy_ieq, sy_ilt, sy_ile, sy_seq, sy_beq, sy_bor, sy_bnot, sy_imax, sy_imin, sy_rlen, sy_slen, sy_sapp, sy_inr, sy_nat, sy_cell0, sy_cellS, sy_skip0, sy_inrn, sy_rapp, sy_fits, sy_cutok, sy_cut, sy_scut, sy_sbyte, sy_mkok, sy_mkok0, sy_mkz, sy_rep, sy_head, sy_deq, eqDs_int, eqDs_nil, opI_int, opB_bool, opS_str, opL_sl, opM_own, leaves_val, leaves_own, Option.bind_some, cutO_bool, bif_bool, cutO_inl, cutO_inr, eF_call, eF_lp, Nat.zero_add, Nat.reduceAdd, Bool.cond_false_right, Bool.cond_true_left, Bool.cond_false_left, Bool.cond_true_right, Bool.not_true, Bool.not_false, Bool.not_not, eq_self, decide_true, decide_false, cond_true, cond_false, Int.reduceEq, Int.reduceLT, Int.reduceLE, Int.reduceSub, Int.reduceAdd, Bool.true_and, Bool.and_true, Bool.false_and, Bool.and_false, Bool.or_false, Bool.false_or, Bool.true_or, Bool.or_true, true_and, and_true, h10, c11]
  have hs := Classical.not_not.1 hs
  rw [few_eq _ _ hs] at h10
  by_cases hn : 400 < (code.length : Int)
  · unfold shV at *
    refine cOf (by kernel_rfl) ?_
    rw [g3_eq]
    simp only [g3, sy_wrap, sy_add, sy_sub, sy_mul, sy_ieq, sy_ilt, sy_ile, sy_seq, sy_beq, sy_bor, sy_bnot, sy_imax, sy_imin, sy_rlen, sy_slen, sy_sapp, sy_inr, sy_nat, sy_cell0, sy_cellS, sy_skip0, sy_inrn, sy_rapp, sy_fits, sy_cutok, sy_cut, sy_scut, sy_sbyte, sy_mkok, sy_mkok0, sy_mkz, sy_rep, sy_head, sy_deq, eqDs_int, eqDs_nil, opI_int, opB_bool, opS_str, opL_sl, opM_own, leaves_val, leaves_own, Option.bind_some, cutO_bool, bif_bool, cutO_inl, cutO_inr, eF_call, eF_lp, Nat.zero_add, Nat.reduceAdd, Bool.cond_false_right, Bool.cond_true_left, Bool.cond_false_left, Bool.cond_true_right, Bool.not_true, Bool.not_false, Bool.not_not, eq_self, decide_true, decide_false, cond_true, cond_false, Int.reduceEq, Int.reduceLT, Int.reduceLE, Int.reduceSub, Int.reduceAdd, Bool.true_and, Bool.and_true, Bool.false_and, Bool.and_false, Bool.or_false, Bool.false_or, Bool.true_or, Bool.or_true, true_and, and_true, h10, c11, crows_len]
    simp (disch := omega) only [wrap_id, decT, decF, sy_wrap, sy_add, sy_sub, sy_mul, sy_ieq, sy_ilt, sy_ile, sy_seq, sy_beq, sy_bor, sy_bnot, sy_imax, sy_imin, sy_rlen, sy_slen, sy_sapp, sy_inr, sy_nat, sy_cell0, sy_cellS, sy_skip0, sy_inrn, sy_rapp, sy_fits, sy_cutok, sy_cut, sy_scut, sy_sbyte, sy_mkok, sy_mkok0, sy_mkz, sy_rep, sy_head, sy_deq, eqDs_int, eqDs_nil, opI_int, opB_bool, opS_str, opL_sl, opM_own, leaves_val, leaves_own, Option.bind_some, cutO_bool, bif_bool, cutO_inl, cutO_inr, eF_call, eF_lp, Nat.zero_add, Nat.reduceAdd, Bool.cond_false_right, Bool.cond_true_left, Bool.cond_false_left, Bool.cond_true_right, Bool.not_true, Bool.not_false, Bool.not_not, eq_self, decide_true, decide_false, cond_true, cond_false, Int.reduceEq, Int.reduceLT, Int.reduceLE, Int.reduceSub, Int.reduceAdd, Bool.true_and, Bool.and_true, Bool.false_and, Bool.and_false, Bool.or_false, Bool.false_or, Bool.true_or, Bool.or_true, true_and, and_true]
  have h12 := c12 la lb lo hi code (by omega) (by omega) (by omega)
  have h13 := c13 la lb lo hi code (by omega) (by omega) (by omega)
  have h14 := c14 la lb lo hi (by omega) (by omega)
  have h15 := c15 la lb lo hi (by omega) (by omega)
  generalize checkS ⟨la, lb, lo, hi⟩ code = p at h12 h13
  obtain ⟨p1, p2⟩ := p
  unfold chR at h12 h13
  simp only at h12 h13
  unfold shV at *
  refine cOf (by kernel_rfl) ?_
  rw [g3_eq]
  simp only [g3, sy_wrap, sy_add, sy_sub, sy_mul, sy_ieq, sy_ilt, sy_ile, sy_seq, sy_beq, sy_bor, sy_bnot, sy_imax, sy_imin, sy_rlen, sy_slen, sy_sapp, sy_inr, sy_nat, sy_cell0, sy_cellS, sy_skip0, sy_inrn, sy_rapp, sy_fits, sy_cutok, sy_cut, sy_scut, sy_sbyte, sy_mkok, sy_mkok0, sy_mkz, sy_rep, sy_head, sy_deq, eqDs_int, eqDs_nil, opI_int, opB_bool, opS_str, opL_sl, opM_own, leaves_val, leaves_own, Option.bind_some, cutO_bool, bif_bool, cutO_inl, cutO_inr, eF_call, eF_lp, Nat.zero_add, Nat.reduceAdd, Bool.cond_false_right, Bool.cond_true_left, Bool.cond_false_left, Bool.cond_true_right, Bool.not_true, Bool.not_false, Bool.not_not, eq_self, decide_true, decide_false, cond_true, cond_false, Int.reduceEq, Int.reduceLT, Int.reduceLE, Int.reduceSub, Int.reduceAdd, Bool.true_and, Bool.and_true, Bool.false_and, Bool.and_false, Bool.or_false, Bool.false_or, Bool.true_or, Bool.or_true, true_and, and_true, h10, c11, crows_len, h12, h13, h14, h15]
  simp (disch := omega) only [wrap_id, decT, decF, sy_wrap, sy_add, sy_sub, sy_mul, sy_ieq, sy_ilt, sy_ile, sy_seq, sy_beq, sy_bor, sy_bnot, sy_imax, sy_imin, sy_rlen, sy_slen, sy_sapp, sy_inr, sy_nat, sy_cell0, sy_cellS, sy_skip0, sy_inrn, sy_rapp, sy_fits, sy_cutok, sy_cut, sy_scut, sy_sbyte, sy_mkok, sy_mkok0, sy_mkz, sy_rep, sy_head, sy_deq, eqDs_int, eqDs_nil, opI_int, opB_bool, opS_str, opL_sl, opM_own, leaves_val, leaves_own, Option.bind_some, cutO_bool, bif_bool, cutO_inl, cutO_inr, eF_call, eF_lp, Nat.zero_add, Nat.reduceAdd, Bool.cond_false_right, Bool.cond_true_left, Bool.cond_false_left, Bool.cond_true_right, Bool.not_true, Bool.not_false, Bool.not_not, eq_self, decide_true, decide_false, cond_true, cond_false, Int.reduceEq, Int.reduceLT, Int.reduceLE, Int.reduceSub, Int.reduceAdd, Bool.true_and, Bool.and_true, Bool.false_and, Bool.and_false, Bool.or_false, Bool.false_or, Bool.true_or, Bool.or_true, true_and, and_true, beq_self_eq_true]
end Go.Vm
end

section
namespace Go.Vm
/-! ### what stands behind a code -/
theorem leads_plain {n i : Nat} {x : Ins} (h6 : x.op ≠ 6) (h7 : x.op ≠ 7) (h10 : x.op ≠ 10) : leadsS n i x = if i + 1 < n then some [(i : Int) + 1] else none := by
  unfold leadsS
  rw [if_neg h10, if_neg h6, if_neg h7]
  by_cases h : i + 1 < n
  · rw [if_pos h]
    have : ([(i : Int) + 1].all fun m => decide ((i : Int) < m) && decide (m < (n : Int))) = true := by
      simp only [List.all_cons, List.all_nil, Bool.and_true, Bool.and_eq_true, decide_eq_true_eq]; omega
    simp only [this, if_true]
  · rw [if_neg h]
    have : ([(i : Int) + 1].all fun m => decide ((i : Int) < m) && decide (m < (n : Int))) = false := by
      rw [Bool.eq_false_iff]; intro hh
      simp only [List.all_cons, List.all_nil, Bool.and_true, Bool.and_eq_true, decide_eq_true_eq] at hh; omega
    simp only [this, Bool.false_eq_true, if_false]
theorem go_more {s : Shp} {n n' : Nat} (hn : n ≤ n') (more : List Ins) : ∀ (rest : List Ins) (i : Nat) (K : Known), i + rest.length = n → (∀ x ∈ rest, x.op ≠ 6 ∧ x.op ≠ 7 ∧ x.op ≠ 10) →
    (checkGo s n i rest K).1 < (n : Int) - 1 → checkGo s n' i (rest ++ more) K = ((checkGo s n i rest K).1, false)
  | [], i, K, hi, hx, ha => by
    have : (checkGo s n i [] K).1 = n := rfl
    omega
  | x :: xs, i, K, hi, hx, ha => by
    obtain ⟨h6, h7, h10⟩ := hx x List.mem_cons_self
    simp only [List.length_cons] at hi
    rw [List.cons_append]
    unfold checkGo at ha ⊢
    cases hk : K i with
    | none => rfl
    | some row =>
      rw [hk] at ha
      simp only at ha ⊢
      by_cases hr : rightB x = true
      · rw [if_pos hr] at ha ⊢
        rw [if_pos hr]
        cases hq : nextS s x row with
        | none => rfl
        | some row' =>
          rw [hq] at ha
          simp only at ha ⊢
          rw [leads_plain h6 h7 h10] at ha ⊢
          rw [leads_plain h6 h7 h10]
          by_cases hlt : i + 1 < n
          · rw [if_pos hlt] at ha ⊢
            rw [if_pos (show i + 1 < n' by omega)]
            simp only at ha ⊢
            cases hp : putAll row' [(i : Int) + 1] K with
            | none => rfl
            | some K' =>
              rw [hp] at ha
              simp only at ha ⊢
              exact go_more hn more xs (i + 1) K' (by omega) (fun y hy => hx y (List.mem_cons_of_mem _ hy)) ha
          · rw [if_neg hlt] at ha
            have : (i : Int) < (n : Int) - 1 := ha
            omega
      · rw [if_neg hr, if_neg hr]
theorem check_more {s : Shp} {code more : List Ins} (h1 : 1 ≤ code.length) (hl : (code ++ more).length ≤ 6000) (hx : ∀ x ∈ code, x.op ≠ 6 ∧ x.op ≠ 7 ∧ x.op ≠ 10) (ha : (checkS s code).1 < (code.length : Int) - 1) :
    checkS s (code ++ more) = ((checkS s code).1, false) := by
  have hlen : (code ++ more).length = code.length + more.length := List.length_append
  unfold checkS at ha ⊢
  cases hs : shapeB s.ctors s.kinds s.lo s.hi with
  | false => rfl
  | true =>
    rw [hs] at ha
    have e1 : (true && decide (1 ≤ code.length) && decide (code.length ≤ 6000)) = true := by simp; omega
    have e2 : (true && decide (1 ≤ (code ++ more).length) && decide ((code ++ more).length ≤ 6000)) = true := by simp only [Bool.true_and, Bool.and_eq_true, decide_eq_true_eq]; omega
    rw [if_pos e1] at ha ⊢
    rw [if_pos e2]
    exact go_more (by omega) more code 0 _ (by omega) hx ha
theorem ok_more {s : Shp} {code more : List Ins} (h : (checkS s code).2 = true) : (checkS s (code ++ more)).2 = decide (more.length = 0) := by
  by_cases hm : more.length = 0
  · have : more = [] := List.length_eq_zero_iff.1 hm
    subst this
    rw [List.append_nil, h]; rfl
  · rw [decide_eq_false hm]
    cases hq : (checkS s (code ++ more)).2 with
    | false => rfl
    | true =>
      exfalso
      obtain ⟨_, k1⟩ := check_ok h
      obtain ⟨_, k2⟩ := check_ok hq
      have h1 : 1 ≤ code.length := by
        unfold checkS at h
        split at h
        · rename_i hc
          simp only [Bool.and_eq_true, decide_eq_true_eq] at hc
          omega
        · cases h
      have hlen : (code ++ more).length = code.length + more.length := List.length_append
      unfold cl at k1 k2
      have a1 := (k1 ((code.length - 1 : Nat) : Int) (by omega) (by omega)).last
      have a2 := (k2 ((code.length - 1 : Nat) : Int) (by omega) (by omega)).last
      rw [Int.toNat_natCast] at a1 a2
      have e : (code ++ more).getD (code.length - 1) default = code.getD (code.length - 1) default := by
        rw [List.getD_eq_getElem?_getD, List.getD_eq_getElem?_getD, List.getElem?_append, if_pos (by omega)]
      rw [e] at a2
      have := a1.2 (by omega)
      have := a2.1 this
      omega
end Go.Vm
end

section
set_option maxRecDepth 100000
set_option maxHeartbeats 2000000
namespace Go.Vm
open Go.Proofs
theorem crows_app (a b : List Ins) : crows a ++ crows b = crows (a ++ b) := by simp [crows]
theorem c5 (la lb : List Int) (lo hi : Int) (code more : List Ins) : cF 5 [shV (irows la) (irows lb) lo hi, .d (.sl 4 (crows code)), .d (.sl 4 (crows more))] = some (.val [.bool true]) := by
  have h10 := c10 (irows la) (irows lb) lo hi
  rw [irows_len, irows_len] at h10
  by_cases hs : ¬ (la.length ≤ 10 ∧ lb.length ≤ 1100)
  · rw [few_ne _ _ hs] at h10
    unfold shV at *
    refine cOf (by kernel_rfl) ?_
    rw [g5_eq]
    simp only [g5, sy_wrap, sy_add, sy_sub, sy_mul, sy_ieq, sy_ilt, sy_ile, sy_seq, sy_beq, sy_bor, sy_bnot, sy_imax, sy_imin, sy_rlen, sy_slen, sy_sapp, sy_inr, sy_nat, sy_cell0, sy_cellS, sy_skip0, sy_inrn, sy_rapp, sy_fits, sy_cutok, sy_cut, sy_scut, sy_sbyte, sy_mkok, sy_mkok0, sy_mkz, sy_rep, sy_head, sy_deq, eqDs_int, eqDs_nil, opI_int, opB_bool, opS_str, opL_sl, opM_own, leaves_val, leaves_own, Option.bind_some, cutO_bool, bif_bool, cutO_inl, cutO_inr, eF_call, eF_lp, Nat.zero_add, Nat.reduceAdd, Bool.cond_false_right, Bool.cond_true_left, Bool.cond_false_left, Bool.cond_true_right, Bool.not_true, Bool.not_false, Bool.not_not, eq_self, decide_true, decide_false, cond_true, cond_false, Int.reduceEq, Int.reduceLT, Int.reduceLE, Int.reduceSub, Int.reduceAdd, Bool.true_and, Bool.and_true, Bool.false_and, Bool.and_false, Bool.or_false, Bool.false_or, Bool.true_or, Bool.or_true, true_and, and_true, h10, c11]
  have hs := Classical.not_not.1 hs
  rw [few_eq _ _ hs] at h10
  by_cases hn : 400 < (code.length : Int) ∨ 100 < (more.length : Int)
  · have e : (bif decide (400 < (code.length : Int)) then true else decide (100 < (more.length : Int))) = true := by
      rcases hn with h | h
      · rw [decT h]; rfl
      · rw [decT h]; cases decide (400 < (code.length : Int)) <;> rfl
    have e2 : (decide (400 < (code.length : Int)) || decide (100 < (more.length : Int))) = true := by
      rw [Bool.or_eq_true, decide_eq_true_eq, decide_eq_true_eq]; exact hn
    unfold shV at *
    refine cOf (by kernel_rfl) ?_
    rw [g5_eq]
    simp only [g5, sy_wrap, sy_add, sy_sub, sy_mul, sy_ieq, sy_ilt, sy_ile, sy_seq, sy_beq, sy_bor, sy_bnot, sy_imax, sy_imin, sy_rlen, sy_slen, sy_sapp, sy_inr, sy_nat, sy_cell0, sy_cellS, sy_skip0, sy_inrn, sy_rapp, sy_fits, sy_cutok, sy_cut, sy_scut, sy_sbyte, sy_mkok, sy_mkok0, sy_mkz, sy_rep, sy_head, sy_deq, eqDs_int, eqDs_nil, opI_int, opB_bool, opS_str, opL_sl, opM_own, leaves_val, leaves_own, Option.bind_some, cutO_bool, bif_bool, cutO_inl, cutO_inr, eF_call, eF_lp, Nat.zero_add, Nat.reduceAdd, Bool.cond_false_right, Bool.cond_true_left, Bool.cond_false_left, Bool.cond_true_right, Bool.not_true, Bool.not_false, Bool.not_not, eq_self, decide_true, decide_false, cond_true, cond_false, Int.reduceEq, Int.reduceLT, Int.reduceLE, Int.reduceSub, Int.reduceAdd, Bool.true_and, Bool.and_true, Bool.false_and, Bool.and_false, Bool.or_false, Bool.false_or, Bool.true_or, Bool.or_true, true_and, and_true, h10, c11, crows_len, e, e2]
  have hlen : (code ++ more).length = code.length + more.length := List.length_append
  have h12 := c12 la lb lo hi code (by omega) (by omega) (by omega)
  have h12' := c12 la lb lo hi (code ++ more) (by omega) (by omega) (by omega)
  have hok := @ok_more ⟨la, lb, lo, hi⟩ code more
  have hmo := @check_more ⟨la, lb, lo, hi⟩ code more
  generalize checkS ⟨la, lb, lo, hi⟩ code = p at h12 hok hmo
  generalize checkS ⟨la, lb, lo, hi⟩ (code ++ more) = q at h12' hok hmo
  obtain ⟨p1, p2⟩ := p
  obtain ⟨q1, q2⟩ := q
  unfold chR at h12 h12'
  simp only at h12 h12' hok hmo
  unfold shV at *
  refine cOf (by kernel_rfl) ?_
  rw [g5_eq]
  cases p2 with
  | true =>
    have hok := hok rfl
    subst hok
    simp (disch := omega) only [g5, decT, decF, h10, c11, h12, h12', crows_len, crows_app, List.nil_append, List.length_nil, sy_wrap, sy_add, sy_sub, sy_mul, sy_ieq, sy_ilt, sy_ile, sy_seq, sy_beq, sy_bor, sy_bnot, sy_imax, sy_imin, sy_rlen, sy_slen, sy_sapp, sy_inr, sy_nat, sy_cell0, sy_cellS, sy_skip0, sy_inrn, sy_rapp, sy_fits, sy_cutok, sy_cut, sy_scut, sy_sbyte, sy_mkok, sy_mkok0, sy_mkz, sy_rep, sy_head, sy_deq, eqDs_int, eqDs_nil, opI_int, opB_bool, opS_str, opL_sl, opM_own, leaves_val, leaves_own, Option.bind_some, cutO_bool, bif_bool, cutO_inl, cutO_inr, eF_call, eF_lp, Nat.zero_add, Nat.reduceAdd, Bool.cond_false_right, Bool.cond_true_left, Bool.cond_false_left, Bool.cond_true_right, Bool.not_true, Bool.not_false, Bool.not_not, eq_self, decide_true, decide_false, cond_true, cond_false, Int.reduceEq, Int.reduceLT, Int.reduceLE, Int.reduceSub, Int.reduceAdd, Bool.true_and, Bool.and_true, Bool.false_and, Bool.and_false, Bool.or_false, Bool.false_or, Bool.true_or, Bool.or_true, true_and, and_true]
    have e : (decide ((more.length : Int) = 0) == decide (more.length = 0)) = true := by
      by_cases h : more.length = 0
      · rw [decT h, decT (by omega)]; rfl
      · rw [decF h, decF (by omega)]; rfl
    rw [e]
    try rfl
  | false =>
    simp (disch := omega) only [g5, decT, decF, h10, c11, h12, h12', crows_len, crows_app, List.nil_append, List.length_nil, sy_wrap, sy_add, sy_sub, sy_mul, sy_ieq, sy_ilt, sy_ile, sy_seq, sy_beq, sy_bor, sy_bnot, sy_imax, sy_imin, sy_rlen, sy_slen, sy_sapp, sy_inr, sy_nat, sy_cell0, sy_cellS, sy_skip0, sy_inrn, sy_rapp, sy_fits, sy_cutok, sy_cut, sy_scut, sy_sbyte, sy_mkok, sy_mkok0, sy_mkz, sy_rep, sy_head, sy_deq, eqDs_int, eqDs_nil, opI_int, opB_bool, opS_str, opL_sl, opM_own, leaves_val, leaves_own, Option.bind_some, cutO_bool, bif_bool, cutO_inl, cutO_inr, eF_call, eF_lp, Nat.zero_add, Nat.reduceAdd, Bool.cond_false_right, Bool.cond_true_left, Bool.cond_false_left, Bool.cond_true_right, Bool.not_true, Bool.not_false, Bool.not_not, eq_self, decide_true, decide_false, cond_true, cond_false, Int.reduceEq, Int.reduceLT, Int.reduceLE, Int.reduceSub, Int.reduceAdd, Bool.true_and, Bool.and_true, Bool.false_and, Bool.and_false, Bool.or_false, Bool.false_or, Bool.true_or, Bool.or_true, true_and, and_true]
    refine all_loop' (r0 := PRes.val [.bool true]) (r1 := PRes.val [.bool true]) (fun x : Ins => !(decide (x.op = 6) || decide (x.op = 7) || decide (x.op = 10))) code (fun i => [.sl 4 (crows code), .int .i64 p1, .int .i64 q1, .bool q2, .int .i64 (i : Int)]) (fun i x hx => ?_) (fun hall => ?_) ?_
    · have hlt := (List.getElem?_eq_some_iff.1 hx).1
      simp only [sy_wrap, sy_add, sy_sub, sy_mul, sy_ieq, sy_ilt, sy_ile, sy_seq, sy_beq, sy_bor, sy_bnot, sy_imax, sy_imin, sy_rlen, sy_slen, sy_sapp, sy_inr, sy_nat, sy_cell0, sy_cellS, sy_skip0, sy_inrn, sy_rapp, sy_fits, sy_cutok, sy_cut, sy_scut, sy_sbyte, sy_mkok, sy_mkok0, sy_mkz, sy_rep, sy_head, sy_deq, eqDs_int, eqDs_nil, opI_int, opB_bool, opS_str, opL_sl, opM_own, leaves_val, leaves_own, Option.bind_some, cutO_bool, bif_bool, cutO_inl, cutO_inr, eF_call, eF_lp, Nat.zero_add, Nat.reduceAdd, Bool.cond_false_right, Bool.cond_true_left, Bool.cond_false_left, Bool.cond_true_right, Bool.not_true, Bool.not_false, Bool.not_not, eq_self, decide_true, decide_false, cond_true, cond_false, Int.reduceEq, Int.reduceLT, Int.reduceLE, Int.reduceSub, Int.reduceAdd, Bool.true_and, Bool.and_true, Bool.false_and, Bool.and_false, Bool.or_false, Bool.false_or, Bool.true_or, Bool.or_true, true_and, and_true, crows_len, ilt_at hlt, inr_at hlt, crows_at hx, Ins.row, c11, wrap_succ hlt (by omega)]
      cases (decide (x.op = 6) || decide (x.op = 7) || decide (x.op = 10)) <;> rfl
    · simp (disch := omega) only [wrap_id, sy_wrap, sy_add, sy_sub, sy_mul, sy_ieq, sy_ilt, sy_ile, sy_seq, sy_beq, sy_bor, sy_bnot, sy_imax, sy_imin, sy_rlen, sy_slen, sy_sapp, sy_inr, sy_nat, sy_cell0, sy_cellS, sy_skip0, sy_inrn, sy_rapp, sy_fits, sy_cutok, sy_cut, sy_scut, sy_sbyte, sy_mkok, sy_mkok0, sy_mkz, sy_rep, sy_head, sy_deq, eqDs_int, eqDs_nil, opI_int, opB_bool, opS_str, opL_sl, opM_own, leaves_val, leaves_own, Option.bind_some, cutO_bool, bif_bool, cutO_inl, cutO_inr, eF_call, eF_lp, Nat.zero_add, Nat.reduceAdd, Bool.cond_false_right, Bool.cond_true_left, Bool.cond_false_left, Bool.cond_true_right, Bool.not_true, Bool.not_false, Bool.not_not, eq_self, decide_true, decide_false, cond_true, cond_false, Int.reduceEq, Int.reduceLT, Int.reduceLE, Int.reduceSub, Int.reduceAdd, Bool.true_and, Bool.and_true, Bool.false_and, Bool.and_false, Bool.or_false, Bool.false_or, Bool.true_or, Bool.or_true, true_and, and_true, crows_len, ilt_self, c11]
      by_cases h1 : 0 < (code.length : Int)
      · by_cases ha : p1 < (code.length : Int) - 1
        · have := hmo (by omega) (by omega) (fun x hx => by
            have := List.all_eq_true.1 hall x hx
            simp only [Bool.not_eq_true', Bool.or_eq_false_iff, decide_eq_false_iff_not] at this
            exact ⟨this.1.1, this.1.2, this.2⟩) ha
          cases this
          simp only [decT h1, decT ha, sy_wrap, sy_add, sy_sub, sy_mul, sy_ieq, sy_ilt, sy_ile, sy_seq, sy_beq, sy_bor, sy_bnot, sy_imax, sy_imin, sy_rlen, sy_slen, sy_sapp, sy_inr, sy_nat, sy_cell0, sy_cellS, sy_skip0, sy_inrn, sy_rapp, sy_fits, sy_cutok, sy_cut, sy_scut, sy_sbyte, sy_mkok, sy_mkok0, sy_mkz, sy_rep, sy_head, sy_deq, eqDs_int, eqDs_nil, opI_int, opB_bool, opS_str, opL_sl, opM_own, leaves_val, leaves_own, Option.bind_some, cutO_bool, bif_bool, cutO_inl, cutO_inr, eF_call, eF_lp, Nat.zero_add, Nat.reduceAdd, Bool.cond_false_right, Bool.cond_true_left, Bool.cond_false_left, Bool.cond_true_right, Bool.not_true, Bool.not_false, Bool.not_not, eq_self, decide_true, decide_false, cond_true, cond_false, Int.reduceEq, Int.reduceLT, Int.reduceLE, Int.reduceSub, Int.reduceAdd, Bool.true_and, Bool.and_true, Bool.false_and, Bool.and_false, Bool.or_false, Bool.false_or, Bool.true_or, Bool.or_true, true_and, and_true]
        · simp only [decT h1, decF ha, sy_wrap, sy_add, sy_sub, sy_mul, sy_ieq, sy_ilt, sy_ile, sy_seq, sy_beq, sy_bor, sy_bnot, sy_imax, sy_imin, sy_rlen, sy_slen, sy_sapp, sy_inr, sy_nat, sy_cell0, sy_cellS, sy_skip0, sy_inrn, sy_rapp, sy_fits, sy_cutok, sy_cut, sy_scut, sy_sbyte, sy_mkok, sy_mkok0, sy_mkz, sy_rep, sy_head, sy_deq, eqDs_int, eqDs_nil, opI_int, opB_bool, opS_str, opL_sl, opM_own, leaves_val, leaves_own, Option.bind_some, cutO_bool, bif_bool, cutO_inl, cutO_inr, eF_call, eF_lp, Nat.zero_add, Nat.reduceAdd, Bool.cond_false_right, Bool.cond_true_left, Bool.cond_false_left, Bool.cond_true_right, Bool.not_true, Bool.not_false, Bool.not_not, eq_self, decide_true, decide_false, cond_true, cond_false, Int.reduceEq, Int.reduceLT, Int.reduceLE, Int.reduceSub, Int.reduceAdd, Bool.true_and, Bool.and_true, Bool.false_and, Bool.and_false, Bool.or_false, Bool.false_or, Bool.true_or, Bool.or_true, true_and, and_true]
      · simp only [decF h1, sy_wrap, sy_add, sy_sub, sy_mul, sy_ieq, sy_ilt, sy_ile, sy_seq, sy_beq, sy_bor, sy_bnot, sy_imax, sy_imin, sy_rlen, sy_slen, sy_sapp, sy_inr, sy_nat, sy_cell0, sy_cellS, sy_skip0, sy_inrn, sy_rapp, sy_fits, sy_cutok, sy_cut, sy_scut, sy_sbyte, sy_mkok, sy_mkok0, sy_mkz, sy_rep, sy_head, sy_deq, eqDs_int, eqDs_nil, opI_int, opB_bool, opS_str, opL_sl, opM_own, leaves_val, leaves_own, Option.bind_some, cutO_bool, bif_bool, cutO_inl, cutO_inr, eF_call, eF_lp, Nat.zero_add, Nat.reduceAdd, Bool.cond_false_right, Bool.cond_true_left, Bool.cond_false_left, Bool.cond_true_right, Bool.not_true, Bool.not_false, Bool.not_not, eq_self, decide_true, decide_false, cond_true, cond_false, Int.reduceEq, Int.reduceLT, Int.reduceLE, Int.reduceSub, Int.reduceAdd, Bool.true_and, Bool.and_true, Bool.false_and, Bool.and_false, Bool.or_false, Bool.false_or, Bool.true_or, Bool.or_true, true_and, and_true]
    · cases (List.all code _) <;> rfl
end Go.Vm
end

section
namespace Go.Vm
open Go.Proofs
/-- A truth told: the contract that the lift wants. -/
theorem PGood.truth {f : FuncId} {args : List V} {b : Bool} {t : TypeId} (hs : sigP Try.prog f = some [t]) (hm : mkV Try.prog [t] [.bool b] = some (.d (.bool b)))
    (h : PGood Try.prog f args (.val [.bool b])) : PCall Try.prog f args (.d (.bool b)) := by
  obtain ⟨ts, ss, v, h1, h2, h3, h4, h5⟩ := h
  rw [hs] at h1
  cases h1
  rw [hm] at h4
  cases h4
  exact h5
theorem F4_call (la lb : List Int) (lo hi : Int) (code : List Ins) : PCall Try.prog 4 [shV (irows la) (irows lb) lo hi, .d (.sl 4 (crows code))] (.d (.bool true)) :=
  PGood.truth (t := 4) (by kernel_rfl) (by kernel_rfl) (callF_good mixedOrders rfl (c4 la lb lo hi code))
theorem F3_call (la lb : List Int) (lo hi : Int) (code : List Ins) : PCall Try.prog 3 [shV (irows la) (irows lb) lo hi, .d (.sl 4 (crows code))] (.d (.bool true)) :=
  PGood.truth (t := 4) (by kernel_rfl) (by kernel_rfl) (callF_good mixedOrders rfl (c3 la lb lo hi code))
theorem F5_call (la lb : List Int) (lo hi : Int) (code more : List Ins) : PCall Try.prog 5 [shV (irows la) (irows lb) lo hi, .d (.sl 4 (crows code)), .d (.sl 4 (crows more))] (.d (.bool true)) :=
  PGood.truth (t := 4) (by kernel_rfl) (by kernel_rfl) (callF_good mixedOrders rfl (c5 la lb lo hi code more))
end Go.Vm
end
