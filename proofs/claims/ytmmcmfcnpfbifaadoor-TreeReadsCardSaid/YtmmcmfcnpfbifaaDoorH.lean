/-
  Part H of the proof. What is proved by the whole: the statement that the claim names, with no condition. This part: lemmas.
-/
import Derived.Test.YtmmcmfcnpfbifaaDoorG
set_option linter.unusedSimpArgs false
set_option linter.unusedVariables false

section
set_option linter.all false
set_option maxRecDepth 100000
set_option maxHeartbeats 4000000
namespace Go.Vm
open Go.Proofs
/-! ### what is written is read -/
theorem allZ_take {τ υ : Type} {p : τ → υ → Bool} : ∀ (i : Nat) {l : List τ} {m : List υ}, allZ p l m = true → allZ p (l.take i) (m.take i) = true
  | 0, _, _, _ => by simp [allZ]
  | i + 1, [], [], _ => rfl
  | i + 1, x :: l, y :: m, h => by
    simp only [allZ, Bool.and_eq_true] at h
    simp only [List.take_succ_cons, allZ, h.1, allZ_take i h.2, Bool.and_self]
theorem allZ_get {τ υ : Type} {p : τ → υ → Bool} : ∀ {l : List τ} {m : List υ} {i : Nat} {x : τ} {y : υ}, allZ p l m = true → l[i]? = some x → m[i]? = some y → p x y = true
  | [], [], i, x, y, _, hx, _ => by simp at hx
  | a :: l, b :: m, 0, x, y, h, hx, hy => by
    simp only [allZ, Bool.and_eq_true] at h
    simp at hx hy
    rw [← hx, ← hy]; exact h.1
  | a :: l, b :: m, i + 1, x, y, h, hx, hy => by
    simp only [allZ, Bool.and_eq_true] at h
    exact allZ_get h.2 (by simpa using hx) (by simpa using hy)
theorem cellsN_le (s : List Slt) (i : Nat) : cellsN (s.take i) ≤ cellsN s := by
  have h : cellsN s = cellsN (s.take i) + cellsN (s.drop i) := by rw [← cellsN_app, List.take_append_drop]
  have := (cellsN_bd (s.drop i)).1
  omega
theorem right_at {l : List Enm} {s : List Slt} (h : rightS l s = true) (i : Nat) (hi : i < s.length) : cellsN (s.take i) = s[i].at_ := by
  unfold rightS at h
  simp only [Bool.and_eq_true] at h
  have := List.all_eq_true.1 h.2.1 i (by simpa using hi)
  unfold okAt at this
  simp only [Bool.and_eq_true, decide_eq_true_eq] at this
  rw [this.1]; simp [hi]
theorem valsN_split {c : List Cll} {i : Nat} (hi : i < c.length) : valsN c = valsN (c.take i) ++ (c[i].vals ++ valsN (c.drop (i + 1))) := by
  have h : c = c.take i ++ (c[i] :: c.drop (i + 1)) := by rw [← List.drop_eq_getElem_cons hi, List.take_append_drop]
  have h2 : ∀ a b : List Cll, valsN (a ++ b) = valsN a ++ valsN b := fun a b => by simp [valsN]
  have h3 : ∀ (a : Cll) (b : List Cll), valsN (a :: b) = a.vals ++ valsN b := fun a b => by simp [valsN]
  rw [← h3, ← h2, ← h]
theorem read_back {l : List Enm} {s : List Slt} {c : List Cll} (h : rightS l s = true) (hw : wOK s c = true) : readS s (valsN c) = c := by
  have hlen := allZ_len hw
  have hT := wOK_len hw
  have hget : ∀ i (hi : i < s.length), wAt s[i] (c[i]'(by omega)) = true := fun i hi => allZ_get hw (List.getElem?_eq_getElem hi) (List.getElem?_eq_getElem (by omega))
  have hall : s.all (rAt (valsN c).length) = true := by
    rw [List.all_eq_true]
    intro x hx
    obtain ⟨i, hi, rfl⟩ := List.getElem_of_mem hx
    have h1 := right_at h i hi
    have h2 := cellsN_take (List.getElem?_eq_getElem hi)
    have h3 := cellsN_le s (i + 1)
    have h4 := (cellsN_bd (s.take i)).1
    unfold rAt
    rw [decT (p := 0 ≤ s[i].at_) (by omega), decT (p := s[i].at_ ≤ ((valsN c).length : Int) - s[i].ty.c) (by omega)]; rfl
  unfold readS
  rw [hall, cond_true]
  refine List.ext_getElem (by simpa using hlen) fun i h1 h2 => ?_
  rw [List.length_map] at h1
  rw [List.getElem_map]
  have hp := hget i h1
  simp only [wAt, Bool.and_eq_true, decide_eq_true_eq] at hp
  have ha := right_at h i h1
  have hl := wOK_len (s := s.take i) (c := c.take i) (allZ_take i hw)
  have hc := c_pos s[i].ty
  have hv : ((valsN c).drop s[i].at_.toNat).take s[i].ty.c.toNat = (c[i]).vals := by
    rw [valsN_split h2, List.drop_append, List.drop_of_length_le (by omega), List.nil_append]
    rw [show s[i].at_.toNat - (valsN (c.take i)).length = 0 by omega, List.drop_zero]
    rw [List.take_append_of_le_length (by omega), List.take_of_length_le (by omega)]
  unfold rCell
  rw [hv, tb_inj hp.1]
theorem c_LawBack (l : List Enm) (s : List Slt) (c : List Cll) : cF 5 [.d (.sl 2 (erows l)), .d (.sl 6 (slrows s)), .d (.sl 2 (clrows c))] = some (.val [.bool true]) := by
  obtain ⟨_, hS, bS, rfl⟩ := c_rSmall l
  obtain ⟨_, hF, bF, rfl, hb⟩ := c_rtFew s
  obtain ⟨_, hM, bM, rfl, hc⟩ := c_rmFew c
  have hLv := c_Live
  cases bS with
  | false =>
    refine cOf (by kernel_rfl) rfl ?_
    rw [g5_eq]
    simp only [g5, sy_wrap, sy_add, sy_sub, sy_mul, sy_ieq, sy_ilt, sy_ile, sy_seq, sy_beq, sy_bor, sy_bnot, sy_imax, sy_imin, sy_rlen, sy_slen, sy_sapp, sy_inr, sy_nat, sy_cell0, sy_cellS, sy_skip0, sy_inrn, sy_rapp, sy_fits, sy_cutok, sy_cut, sy_scut, sy_sbyte, sy_mkok, sy_mkok0, sy_mkz, sy_rep, sy_head, sy_deq, eqDs_int, eqDs_nil, opI_int, opB_bool, opS_str, opL_sl, opM_own, leaves_val, leaves_own, Option.bind_some, cutO_bool, bif_bool, cutO_inl, cutO_inr, eF_call, eF_lp, Nat.zero_add, Nat.reduceAdd, Bool.cond_false_right, Bool.cond_true_left, Bool.cond_false_left, Bool.cond_true_right, Bool.not_true, Bool.not_false, Bool.not_not, eq_self, decide_true, decide_false, cond_true, cond_false, Int.reduceEq, Int.reduceLT, Int.reduceLE, Int.reduceSub, Int.reduceAdd, Bool.true_and, Bool.and_true, Bool.false_and, Bool.and_false, Bool.or_false, Bool.false_or, Bool.true_or, Bool.or_true, true_and, and_true, hS, hLv]
  | true =>
    cases bF with
    | false =>
      refine cOf (by kernel_rfl) rfl ?_
      rw [g5_eq]
      simp only [g5, sy_wrap, sy_add, sy_sub, sy_mul, sy_ieq, sy_ilt, sy_ile, sy_seq, sy_beq, sy_bor, sy_bnot, sy_imax, sy_imin, sy_rlen, sy_slen, sy_sapp, sy_inr, sy_nat, sy_cell0, sy_cellS, sy_skip0, sy_inrn, sy_rapp, sy_fits, sy_cutok, sy_cut, sy_scut, sy_sbyte, sy_mkok, sy_mkok0, sy_mkz, sy_rep, sy_head, sy_deq, eqDs_int, eqDs_nil, opI_int, opB_bool, opS_str, opL_sl, opM_own, leaves_val, leaves_own, Option.bind_some, cutO_bool, bif_bool, cutO_inl, cutO_inr, eF_call, eF_lp, Nat.zero_add, Nat.reduceAdd, Bool.cond_false_right, Bool.cond_true_left, Bool.cond_false_left, Bool.cond_true_right, Bool.not_true, Bool.not_false, Bool.not_not, eq_self, decide_true, decide_false, cond_true, cond_false, Int.reduceEq, Int.reduceLT, Int.reduceLE, Int.reduceSub, Int.reduceAdd, Bool.true_and, Bool.and_true, Bool.false_and, Bool.and_false, Bool.or_false, Bool.false_or, Bool.true_or, Bool.or_true, true_and, and_true, hS, hF, hLv]
    | true =>
      cases bM with
      | false =>
        refine cOf (by kernel_rfl) rfl ?_
        rw [g5_eq]
        simp only [g5, sy_wrap, sy_add, sy_sub, sy_mul, sy_ieq, sy_ilt, sy_ile, sy_seq, sy_beq, sy_bor, sy_bnot, sy_imax, sy_imin, sy_rlen, sy_slen, sy_sapp, sy_inr, sy_nat, sy_cell0, sy_cellS, sy_skip0, sy_inrn, sy_rapp, sy_fits, sy_cutok, sy_cut, sy_scut, sy_sbyte, sy_mkok, sy_mkok0, sy_mkz, sy_rep, sy_head, sy_deq, eqDs_int, eqDs_nil, opI_int, opB_bool, opS_str, opL_sl, opM_own, leaves_val, leaves_own, Option.bind_some, cutO_bool, bif_bool, cutO_inl, cutO_inr, eF_call, eF_lp, Nat.zero_add, Nat.reduceAdd, Bool.cond_false_right, Bool.cond_true_left, Bool.cond_false_left, Bool.cond_true_right, Bool.not_true, Bool.not_false, Bool.not_not, eq_self, decide_true, decide_false, cond_true, cond_false, Int.reduceEq, Int.reduceLT, Int.reduceLE, Int.reduceSub, Int.reduceAdd, Bool.true_and, Bool.and_true, Bool.false_and, Bool.and_false, Bool.or_false, Bool.false_or, Bool.true_or, Bool.or_true, true_and, and_true, hS, hF, hM, hLv]
      | true =>
        have hs := SB_of (hb rfl)
        have hsl := hs.len
        have hb := hb rfl
        have hc := hc rfl
        have h1 := c_tRight l s hs
        cases hR : rightS l s with
        | false =>
          rw [hR] at h1
          refine cOf (by kernel_rfl) rfl ?_
          rw [g5_eq]
          simp only [g5, sy_wrap, sy_add, sy_sub, sy_mul, sy_ieq, sy_ilt, sy_ile, sy_seq, sy_beq, sy_bor, sy_bnot, sy_imax, sy_imin, sy_rlen, sy_slen, sy_sapp, sy_inr, sy_nat, sy_cell0, sy_cellS, sy_skip0, sy_inrn, sy_rapp, sy_fits, sy_cutok, sy_cut, sy_scut, sy_sbyte, sy_mkok, sy_mkok0, sy_mkz, sy_rep, sy_head, sy_deq, eqDs_int, eqDs_nil, opI_int, opB_bool, opS_str, opL_sl, opM_own, leaves_val, leaves_own, Option.bind_some, cutO_bool, bif_bool, cutO_inl, cutO_inr, eF_call, eF_lp, Nat.zero_add, Nat.reduceAdd, Bool.cond_false_right, Bool.cond_true_left, Bool.cond_false_left, Bool.cond_true_right, Bool.not_true, Bool.not_false, Bool.not_not, eq_self, decide_true, decide_false, cond_true, cond_false, Int.reduceEq, Int.reduceLT, Int.reduceLE, Int.reduceSub, Int.reduceAdd, Bool.true_and, Bool.and_true, Bool.false_and, Bool.and_false, Bool.or_false, Bool.false_or, Bool.true_or, Bool.or_true, true_and, and_true, hS, hF, hM, hLv, h1]
        | true =>
          rw [hR] at h1
          have h2 := c_tWrite s c hs.len
          unfold wRes at h2
          cases hw : wOK s c with
          | false =>
            rw [hw] at h2
            have h0 : (irows []).length = 0 := rfl
            have h00 : ((0 : Nat) : Int) = 0 := rfl
            refine cOf (by kernel_rfl) rfl ?_
            rw [g5_eq]
            simp only [g5, sy_wrap, sy_add, sy_sub, sy_mul, sy_ieq, sy_ilt, sy_ile, sy_seq, sy_beq, sy_bor, sy_bnot, sy_imax, sy_imin, sy_rlen, sy_slen, sy_sapp, sy_inr, sy_nat, sy_cell0, sy_cellS, sy_skip0, sy_inrn, sy_rapp, sy_fits, sy_cutok, sy_cut, sy_scut, sy_sbyte, sy_mkok, sy_mkok0, sy_mkz, sy_rep, sy_head, sy_deq, eqDs_int, eqDs_nil, opI_int, opB_bool, opS_str, opL_sl, opM_own, leaves_val, leaves_own, Option.bind_some, cutO_bool, bif_bool, cutO_inl, cutO_inr, eF_call, eF_lp, Nat.zero_add, Nat.reduceAdd, Bool.cond_false_right, Bool.cond_true_left, Bool.cond_false_left, Bool.cond_true_right, Bool.not_true, Bool.not_false, Bool.not_not, eq_self, decide_true, decide_false, cond_true, cond_false, Int.reduceEq, Int.reduceLT, Int.reduceLE, Int.reduceSub, Int.reduceAdd, Bool.true_and, Bool.and_true, Bool.false_and, Bool.and_false, Bool.or_false, Bool.false_or, Bool.true_or, Bool.or_true, true_and, and_true, hS, hF, hM, hLv, h1, h2, h0, h00]
          | true =>
            rw [hw] at h2
            have hlen := wOK_len hw
            have hbd := cellsN_bd s
            have hrb := read_back hR hw
            have h3 := c_tCells s hs.len
            have h4 := c_tRead s (valsN c) hs.len (by omega)
            rw [hrb] at h4
            have h5 := c_rmSame c c (by omega) (fun x hx => by have := (hc.2 x hx).2; omega)
            rw [sameC_self] at h5
            have h6 := c_rVals (valsN c) (valsN c) (by omega)
            refine cOf (by kernel_rfl) rfl ?_
            rw [g5_eq]
            simp only [g5, sy_wrap, sy_add, sy_sub, sy_mul, sy_ieq, sy_ilt, sy_ile, sy_seq, sy_beq, sy_bor, sy_bnot, sy_imax, sy_imin, sy_rlen, sy_slen, sy_sapp, sy_inr, sy_nat, sy_cell0, sy_cellS, sy_skip0, sy_inrn, sy_rapp, sy_fits, sy_cutok, sy_cut, sy_scut, sy_sbyte, sy_mkok, sy_mkok0, sy_mkz, sy_rep, sy_head, sy_deq, eqDs_int, eqDs_nil, opI_int, opB_bool, opS_str, opL_sl, opM_own, leaves_val, leaves_own, Option.bind_some, cutO_bool, bif_bool, cutO_inl, cutO_inr, eF_call, eF_lp, Nat.zero_add, Nat.reduceAdd, Bool.cond_false_right, Bool.cond_true_left, Bool.cond_false_left, Bool.cond_true_right, Bool.not_true, Bool.not_false, Bool.not_not, eq_self, decide_true, decide_false, cond_true, cond_false, Int.reduceEq, Int.reduceLT, Int.reduceLE, Int.reduceSub, Int.reduceAdd, Bool.true_and, Bool.and_true, Bool.false_and, Bool.and_false, Bool.or_false, Bool.false_or, Bool.true_or, Bool.or_true, true_and, and_true, hS, hF, hM, hLv, h1, h2, irows_len, hlen, h3, h4, h5, h6]
end Go.Vm
end
