/-
  Part I of the proof. What is proved by the whole: the statement that the claim names, with no condition. This part: lemmas.
-/
import Derived.Test.YtmmcmfcnpfbifaaH
set_option linter.unusedSimpArgs false
set_option linter.unusedVariables false

section
set_option linter.all false
set_option maxRecDepth 100000
set_option maxHeartbeats 4000000
namespace Go.Vm
open Go.Proofs
theorem loopF_ex {σ α : Type} {b : List D → Option (List D ⊕ α)} {Q : α → Prop} (mk : σ → List D) (I : σ → Prop) (μ : σ → Nat)
    (h : ∀ x, I x → (∃ y, b (mk x) = some (.inl (mk y)) ∧ I y ∧ μ y < μ x) ∨ ∃ r, b (mk x) = some (.inr r) ∧ Q r) (x : σ) (h0 : I x) : ∃ r, loopF b (mk x) = some r ∧ Q r := by
  suffices ∀ n x, μ x < n → I x → ∃ r, loopF b (mk x) = some r ∧ Q r from this _ x (Nat.lt_succ_self _) h0
  intro n
  induction n with
  | zero => intro x h; omega
  | succ n ih =>
    intro x hlt hi
    rw [loopF_eq]
    rcases h x hi with ⟨d, h1, h2, h3⟩ | ⟨r, h1, h2⟩
    · rw [h1]; exact ih d (by omega) h2
    · rw [h1]; exact ⟨r, rfl, h2⟩
theorem c22 (la lb : List Int) (lo hi : Int) (cells : List Int) (hla : la.length ≤ 10) (hlb : lb.length ≤ 1100) :
    ∃ b, cF 22 [shV (irows la) (irows lb) lo hi, .d (.sl 1 (irows cells))] = some (.val [.bool b]) ∧ (b = true → shapeB la lb lo hi = true ∧ cells.length = lb.length) := by
  have h15 := c15 la lb lo hi (by omega) (by omega)
  have h49 := fun k n hk => c49 la lb lo hi k n (by omega) hk
  unfold shV at *
  cases hs : shapeB la lb lo hi with
  | false =>
    refine ⟨false, ?_, by simp⟩
    rw [hs] at h15
    refine cOf (by kernel_rfl) rfl ?_
    rw [g22_eq]
    simp only [g22, sy_wrap, sy_add, sy_sub, sy_mul, sy_ieq, sy_ilt, sy_ile, sy_seq, sy_beq, sy_bor, sy_bnot, sy_imax, sy_imin, sy_rlen, sy_slen, sy_sapp, sy_inr, sy_nat, sy_cell0, sy_cellS, sy_skip0, sy_inrn, sy_rapp, sy_fits, sy_cutok, sy_cut, sy_scut, sy_sbyte, sy_mkok, sy_mkok0, sy_mkz, sy_rep, sy_head, sy_deq, eqDs_int, eqDs_nil, opI_int, opB_bool, opS_str, opL_sl, opM_own, leaves_val, leaves_own, Option.bind_some, cutO_bool, bif_bool, cutO_inl, cutO_inr, eF_call, eF_lp, Nat.zero_add, Nat.reduceAdd, Bool.cond_false_right, Bool.cond_true_left, Bool.cond_false_left, Bool.cond_true_right, Bool.not_true, Bool.not_false, Bool.not_not, eq_self, decide_true, decide_false, cond_true, cond_false, Int.reduceEq, Int.reduceLT, Int.reduceLE, Int.reduceSub, Int.reduceAdd, Bool.true_and, Bool.and_true, Bool.false_and, Bool.and_false, Bool.or_false, Bool.false_or, Bool.true_or, Bool.or_true, true_and, and_true, h15]
  | true =>
    rw [hs] at h15
    by_cases hl : cells.length = lb.length
    · have hk : ∀ k ∈ lb, kindB (il la) k = true := by
        unfold shapeB at hs
        simp only [Bool.and_eq_true] at hs
        exact fun k hk => List.all_eq_true.1 hs.2 k hk
      suffices ∃ r : PRes, cF 22 [.agg [.d (.sl 1 (irows la)), .d (.sl 1 (irows lb)), .d (.int .i64 lo), .d (.int .i64 hi)], .d (.sl 1 (irows cells))] = some r ∧ ∃ b : Bool, r = .val [.bool b] by
        obtain ⟨_, h1, b, rfl⟩ := this
        exact ⟨b, h1, fun _ => ⟨rfl, hl⟩⟩
      refine cOfP (by kernel_rfl) rfl ?_
      rw [g22_eq]
      simp only [g22, h15, irows_len, hl, sy_wrap, sy_add, sy_sub, sy_mul, sy_ieq, sy_ilt, sy_ile, sy_seq, sy_beq, sy_bor, sy_bnot, sy_imax, sy_imin, sy_rlen, sy_slen, sy_sapp, sy_inr, sy_nat, sy_cell0, sy_cellS, sy_skip0, sy_inrn, sy_rapp, sy_fits, sy_cutok, sy_cut, sy_scut, sy_sbyte, sy_mkok, sy_mkok0, sy_mkz, sy_rep, sy_head, sy_deq, eqDs_int, eqDs_nil, opI_int, opB_bool, opS_str, opL_sl, opM_own, leaves_val, leaves_own, Option.bind_some, cutO_bool, bif_bool, cutO_inl, cutO_inr, eF_call, eF_lp, Nat.zero_add, Nat.reduceAdd, Bool.cond_false_right, Bool.cond_true_left, Bool.cond_false_left, Bool.cond_true_right, Bool.not_true, Bool.not_false, Bool.not_not, eq_self, decide_true, decide_false, cond_true, cond_false, Int.reduceEq, Int.reduceLT, Int.reduceLE, Int.reduceSub, Int.reduceAdd, Bool.true_and, Bool.and_true, Bool.false_and, Bool.and_false, Bool.or_false, Bool.false_or, Bool.true_or, Bool.or_true, true_and, and_true]
      refine loopF_ex (fun i : Nat => [.sl 1 (irows cells), .int .i64 (i : Int), .sl 1 (irows la), .sl 1 (irows lb), .int .i64 lo, .int .i64 hi]) (fun i => i ≤ cells.length) (fun i => cells.length - i) (fun i hi => ?_) 0 (Nat.zero_le _)
      by_cases hlt : i < cells.length
      · have hlt2 : i < lb.length := by omega
        have hkk := hk lb[i] (List.getElem_mem hlt2)
        simp only [sy_wrap, sy_add, sy_sub, sy_mul, sy_ieq, sy_ilt, sy_ile, sy_seq, sy_beq, sy_bor, sy_bnot, sy_imax, sy_imin, sy_rlen, sy_slen, sy_sapp, sy_inr, sy_nat, sy_cell0, sy_cellS, sy_skip0, sy_inrn, sy_rapp, sy_fits, sy_cutok, sy_cut, sy_scut, sy_sbyte, sy_mkok, sy_mkok0, sy_mkz, sy_rep, sy_head, sy_deq, eqDs_int, eqDs_nil, opI_int, opB_bool, opS_str, opL_sl, opM_own, leaves_val, leaves_own, Option.bind_some, cutO_bool, bif_bool, cutO_inl, cutO_inr, eF_call, eF_lp, Nat.zero_add, Nat.reduceAdd, Bool.cond_false_right, Bool.cond_true_left, Bool.cond_false_left, Bool.cond_true_right, Bool.not_true, Bool.not_false, Bool.not_not, eq_self, decide_true, decide_false, cond_true, cond_false, Int.reduceEq, Int.reduceLT, Int.reduceLE, Int.reduceSub, Int.reduceAdd, Bool.true_and, Bool.and_true, Bool.false_and, Bool.and_false, Bool.or_false, Bool.false_or, Bool.true_or, Bool.or_true, true_and, and_true, irows_len, ilt_at hlt, inr_at hlt, inr_at hlt2, irows_at (List.getElem?_eq_getElem hlt), irows_at (List.getElem?_eq_getElem hlt2), h49 _ _ hkk, wrap_succ hlt (by omega)]
        cases valueB la lb[i] cells[i]
        · right; exact ⟨_, rfl, _, rfl⟩
        · left; exact ⟨i + 1, rfl, by omega, by omega⟩
      · right
        have : i = cells.length := by omega
        subst this
        simp only [sy_wrap, sy_add, sy_sub, sy_mul, sy_ieq, sy_ilt, sy_ile, sy_seq, sy_beq, sy_bor, sy_bnot, sy_imax, sy_imin, sy_rlen, sy_slen, sy_sapp, sy_inr, sy_nat, sy_cell0, sy_cellS, sy_skip0, sy_inrn, sy_rapp, sy_fits, sy_cutok, sy_cut, sy_scut, sy_sbyte, sy_mkok, sy_mkok0, sy_mkz, sy_rep, sy_head, sy_deq, eqDs_int, eqDs_nil, opI_int, opB_bool, opS_str, opL_sl, opM_own, leaves_val, leaves_own, Option.bind_some, cutO_bool, bif_bool, cutO_inl, cutO_inr, eF_call, eF_lp, Nat.zero_add, Nat.reduceAdd, Bool.cond_false_right, Bool.cond_true_left, Bool.cond_false_left, Bool.cond_true_right, Bool.not_true, Bool.not_false, Bool.not_not, eq_self, decide_true, decide_false, cond_true, cond_false, Int.reduceEq, Int.reduceLT, Int.reduceLE, Int.reduceSub, Int.reduceAdd, Bool.true_and, Bool.and_true, Bool.false_and, Bool.and_false, Bool.or_false, Bool.false_or, Bool.true_or, Bool.or_true, true_and, and_true, irows_len, ilt_self]
        exact ⟨_, rfl, _, rfl⟩
    · refine ⟨false, ?_, by simp⟩
      refine cOf (by kernel_rfl) rfl ?_
      rw [g22_eq]
      simp only [g22, sy_wrap, sy_add, sy_sub, sy_mul, sy_ieq, sy_ilt, sy_ile, sy_seq, sy_beq, sy_bor, sy_bnot, sy_imax, sy_imin, sy_rlen, sy_slen, sy_sapp, sy_inr, sy_nat, sy_cell0, sy_cellS, sy_skip0, sy_inrn, sy_rapp, sy_fits, sy_cutok, sy_cut, sy_scut, sy_sbyte, sy_mkok, sy_mkok0, sy_mkz, sy_rep, sy_head, sy_deq, eqDs_int, eqDs_nil, opI_int, opB_bool, opS_str, opL_sl, opM_own, leaves_val, leaves_own, Option.bind_some, cutO_bool, bif_bool, cutO_inl, cutO_inr, eF_call, eF_lp, Nat.zero_add, Nat.reduceAdd, Bool.cond_false_right, Bool.cond_true_left, Bool.cond_false_left, Bool.cond_true_right, Bool.not_true, Bool.not_false, Bool.not_not, eq_self, decide_true, decide_false, cond_true, cond_false, Int.reduceEq, Int.reduceLT, Int.reduceLE, Int.reduceSub, Int.reduceAdd, Bool.true_and, Bool.and_true, Bool.false_and, Bool.and_false, Bool.or_false, Bool.false_or, Bool.true_or, Bool.or_true, true_and, and_true, h15, irows_len]
      rw [decF (by omega)]
      rfl
/-! ### a run's steps -/
structure RSt2 where
  m : List (List D)
  s : List (List D)
  u : Int
  a : Int
  e : Int
theorem stepL {σ α : Type} {b : List D → Option (List D ⊕ α)} {mk : σ → List D} {I : σ → Prop} {μ : σ → Nat} {Q : α → Prop} {x : σ} (y : σ) (h : b (mk x) = some (.inl (mk y))) (hI : I y ∧ μ y < μ x) :
    (∃ y, b (mk x) = some (.inl (mk y)) ∧ I y ∧ μ y < μ x) ∨ ∃ r, b (mk x) = some (.inr r) ∧ Q r := .inl ⟨y, h, hI⟩
theorem stepR {σ α : Type} {b : List D → Option (List D ⊕ α)} {mk : σ → List D} {I : σ → Prop} {μ : σ → Nat} {Q : α → Prop} {x : σ} (r : α) (h : b (mk x) = some (.inr r)) (hI : Q r) :
    (∃ y, b (mk x) = some (.inl (mk y)) ∧ I y ∧ μ y < μ x) ∨ ∃ r, b (mk x) = some (.inr r) ∧ Q r := .inr ⟨r, h, hI⟩
/-- The top may be taken off. -/
structure PopF (s : List (List D)) (v : Int) : Prop where
  e0 : sy.ieq (sy.rlen s) 0 = false
  e1 : sy.inr (sy.wrap .i64 (sy.sub (sy.rlen s) 1)) (sy.rlen s) = true
  e2 : sy.cell (sy.row s (sy.wrap .i64 (sy.sub (sy.rlen s) 1))) 0 = some (.int .i64 v)
  e3 : sy.cutok 0 (sy.wrap .i64 (sy.sub (sy.rlen s) 1)) (sy.rlen s) = true
theorem len1 {s : List (List D)} {S : List Int} (h : s = irows S) (h1 : 1 ≤ S.length) (h2 : S.length ≤ 16) : sy.wrap .i64 (sy.sub (sy.rlen s) 1) = (S.length : Int) - 1 := by
  subst h
  show IntKind.i64.wrap (((irows S).length : Int) - 1) = _
  rw [irows_len, wrap_id (by omega) (by omega)]
theorem popF {s : List (List D)} {S : List Int} (h : s = irows S) (h1 : 1 ≤ S.length) (h2 : S.length ≤ 16) : PopF s (S.getD (S.length - 1) 0) := by
  have hl := len1 h h1 h2
  have hr : sy.rlen s = (S.length : Int) := by subst h; show ((irows S).length : Int) = _; rw [irows_len]
  refine ⟨?_, ?_, ?_, ?_⟩
  · rw [hr]; exact decide_eq_false (by omega)
  · rw [hl, hr]; exact decide_eq_true (by omega)
  · rw [hl]; subst h; rw [irows_cell (by omega) (by omega)]
    congr 3; omega
  · rw [hl, hr]; exact decide_eq_true (by omega)
theorem cutE {s : List (List D)} {S : List Int} (h : s = irows S) (h1 : 1 ≤ S.length) (h2 : S.length ≤ 16) : sy.cut s 0 (sy.wrap .i64 (sy.sub (sy.rlen s) 1)) = irows (S.take (S.length - 1)) := by
  rw [len1 h h1 h2]
  subst h
  show ((irows S).take ((S.length : Int) - 1).toNat).drop (0 : Int).toNat = _
  rw [irows_take]
  have : ((S.length : Int) - 1).toNat = S.length - 1 := by omega
  rw [this]; rfl
/-- One may be laid on. -/
structure PushF (s : List (List D)) (n : Int) : Prop where
  e0 : sy.ile 16 (sy.rlen s) = false
  e1 : sy.fits [] s 8 = true
  e2 : sy.fits (sy.rapp [] s) [[.int .i64 n]] 8 = true
theorem pushF {s : List (List D)} {S : List Int} (h : s = irows S) (h2 : S.length < 16) (n : Int) : PushF s n := by
  subst h
  refine ⟨decide_eq_false ?_, decide_eq_true ?_, decide_eq_true ?_⟩
  · show ¬ (16 : Int) ≤ ((irows S).length : Int); rw [irows_len]; omega
  · simp only [irows_len, List.length_nil]; omega
  · show ((([] ++ irows S : List (List D)).length + 1) * (8 + 1) ≤ _)
    simp only [List.nil_append, irows_len]; omega
theorem pushE {s : List (List D)} {S : List Int} (h : s = irows S) (n : Int) : sy.rapp (sy.rapp [] s) [[.int .i64 n]] = irows (S ++ [n]) := by
  subst h
  show ([] ++ irows S) ++ [[.int .i64 n]] = _
  rw [List.nil_append]; simp [irows, irow]
theorem thereF {M : List Int} {a b : Int} (h0 : 0 ≤ a) (h1 : 0 ≤ b) (hb : b ≤ 100) (h : a + b ≤ M.length) (hm : M.length ≤ 10000) : sy.ilt (sy.rlen (irows M)) (sy.wrap .i64 (sy.add a b)) = false := by
  show decide (((irows M).length : Int) < IntKind.i64.wrap (a + b)) = false
  rw [irows_len, wrap_id (by omega) (by omega)]
  exact decide_eq_false (by omega)
def allR (l : List Int) : Prop := ∀ n ∈ l, inR n
theorem allR_getD {l : List Int} (h : allR l) (i : Nat) : inR (l.getD i 0) := by
  rw [List.getD_eq_getElem?_getD]
  cases hq : l[i]? with
  | none => unfold inR; simp
  | some x => exact h x (List.mem_of_getElem? hq)
theorem allR_take {l : List Int} (h : allR l) (i : Nat) : allR (l.take i) := fun n hn => h n (List.mem_of_mem_take hn)
theorem allR_snoc {l : List Int} {n : Int} (h : allR l) (hn : inR n) : allR (l ++ [n]) := fun m hm => by
  rcases List.mem_append.1 hm with hm | hm
  · exact h m hm
  · simp at hm; subst hm; exact hn
theorem allR_set {l : List Int} {i : Nat} {n : Int} (h : allR l) (hn : inR n) : allR (l.set i n) := fun m hm => by
  rcases List.mem_or_eq_of_mem_set hm with hm | hm
  · exact h m hm
  · subst hm; exact hn
end Go.Vm
end

section
set_option linter.all false
set_option maxRecDepth 100000
set_option maxHeartbeats 8000000
namespace Go.Vm
open Go.Proofs
/-- Where a place leads. -/
theorem adv {code : List Ins} {i : Nat} {x : Ins} {to : List Int} (hx : code[i]? = some x) (h10 : x.op ≠ 10) (hl : leadsS code.length i x = some to) : to = leadsL i x ∧ ∀ t ∈ to, ∃ j : Nat, t = j ∧ i < j ∧ j < code.length ∧ bAt code j + 1 ≤ bAt code i := by
  have hlt := (List.getElem?_eq_some_iff.1 hx).1
  have hd : code.getD i default = x := by rw [List.getD_eq_getElem?_getD, hx]; rfl
  have hbd := (leadsS_bd hl).1
  have hto : to = leadsL i x := by
    unfold leadsS at hl
    rw [if_neg h10] at hl
    have e : (if x.op = 6 then [x.a] else if x.op = 7 then [(i : Int) + 1, x.a] else [(i : Int) + 1]) = leadsL i x := rfl
    simp only [e] at hl
    split at hl
    · cases hl; rfl
    · cases hl
  refine ⟨hto, fun t ht => ?_⟩
  have hb := hbd t ht
  refine ⟨t.toNat, by omega, by omega, by omega, ?_⟩
  refine bAt_lead hlt ?_
  rw [hto] at ht
  unfold leadsL at ht
  by_cases h6 : x.op = 6
  · rw [if_pos h6] at ht
    simp only [List.mem_singleton] at ht
    have := leads_jump (code := code) (i := i) hlt (by rw [hd]; exact .inl h6) (by rw [hd]; omega) (by rw [hd]; omega)
    rw [hd] at this
    rwa [ht]
  · rw [if_neg h6] at ht
    by_cases h7 : x.op = 7
    · rw [if_pos h7] at ht
      simp only [List.mem_cons, List.not_mem_nil, or_false] at ht
      rcases ht with ht | ht
      · rw [ht]; exact leads_next (by omega) (by rw [hd]; omega) (by rw [hd]; omega)
      · have := leads_jump (code := code) (i := i) hlt (by rw [hd]; exact .inr h7) (by rw [hd]; omega) (by rw [hd]; omega)
        rw [hd] at this
        rwa [ht]
    · rw [if_neg h7] at ht
      simp only [List.mem_singleton] at ht
      rw [ht]; exact leads_next (by omega) (by rw [hd]; omega) (by rw [hd]; omega)
structure HdF (code : List Ins) (fuel u : Int) (i : Nat) (op A B n : Int) : Prop where
  i0 : sy.ile (sy.rlen (crows code)) (i : Int) = false
  i1 : sy.ile fuel u = false
  i2 : sy.inr (i : Int) (sy.rlen (crows code)) = true
  r0 : sy.cell (sy.row (crows code) (i : Int)) 0 = some (.int .i64 op)
  r1 : sy.cell (sy.row (crows code) (i : Int)) 1 = some (.int .i64 A)
  r2 : sy.cell (sy.row (crows code) (i : Int)) 2 = some (.int .i64 B)
  r3 : sy.cell (sy.row (crows code) (i : Int)) 3 = some (.int .i64 n)
  c : eF.call 35 [.agg [.d (.int .i64 op), .d (.int .i64 A), .d (.int .i64 B), .d (.int .i64 n)]] = some (.val [.bool true])
def RInv (code : List Ins) (R : Nat → List Int) (nk : Nat) (fuel : Int) (x : RSt2) : Prop :=
  ∃ M S : List Int, x.m = irows M ∧ x.s = irows S ∧ M.length = nk ∧ allR M ∧ allR S ∧ 0 ≤ x.u ∧
    ((x.e = 0 ∧ ∃ i : Nat, x.a = i ∧ i < code.length ∧ S.length = (R i).length ∧ S.length ≤ 16 ∧ x.u + bAt code i ≤ fuel) ∨ ((x.e = -1 ∨ x.e = 15 ∨ x.e = 16) ∧ x.u ≤ fuel))
def RMu (code : List Ins) (x : RSt2) : Nat := if x.e = 0 then code.length - x.a.toNat + 1 else 0
def RQ (fuel : Int) (p : PRes) : Prop := ∃ m u e, p = .val [.sl 1 m, .int .i64 u, .int .i64 e] ∧ u ≤ fuel ∧ e ≠ 17 ∧ e ≠ 13
theorem ex_t {α : Type} {c : Bool} {a b : Option α} {Q : α → Prop} (h : c = true) (k : ∃ p, a = some p ∧ Q p) : ∃ p, (bif c then a else b) = some p ∧ Q p := by rw [h]; exact k
theorem go_on {code : List Ins} {R : Nat → List Int} {nk : Nat} {fuel : Int} {m m' s s' : List (List D)} {u u' a a' : Int} {M S : List Int} {i j : Nat} (hm : m' = irows M) (hs : s' = irows S) (hM : M.length = nk) (h1 : allR M) (h2 : allR S) (hu : u' = u + 1) (hu0 : 0 ≤ u) (ha : a' = j) (ha0 : a = i)
    (hj : i < j) (hj2 : j < code.length) (hS : S.length = (R j).length) (hS2 : S.length ≤ 16) (hb : bAt code j + 1 ≤ bAt code i) (hf : u + bAt code i ≤ fuel) : RInv code R nk fuel ⟨m', s', u', a', 0⟩ ∧ RMu code ⟨m', s', u', a', 0⟩ < RMu code ⟨m, s, u, a, 0⟩ := by
  refine ⟨⟨M, S, hm, hs, hM, h1, h2, by simp only; omega, .inl ⟨rfl, j, ha, hj2, hS, hS2, by simp only; omega⟩⟩, ?_⟩
  unfold RMu
  simp only [if_true]
  omega
theorem stop_at {code : List Ins} {R : Nat → List Int} {nk : Nat} {fuel : Int} {m m' s s' : List (List D)} {u u' a a' e' : Int} {M S : List Int} {i : Nat} (hm : m' = irows M) (hs : s' = irows S) (hM : M.length = nk) (h1 : allR M) (h2 : allR S) (hu : u' = u + 1) (hu0 : 0 ≤ u) (he : e' = -1 ∨ e' = 15 ∨ e' = 16)
    (hb : 1 ≤ bAt code i) (hf : u + bAt code i ≤ fuel) : RInv code R nk fuel ⟨m', s', u', a', e'⟩ ∧ RMu code ⟨m', s', u', a', e'⟩ < RMu code ⟨m, s, u, a, 0⟩ := by
  refine ⟨⟨M, S, hm, hs, hM, h1, h2, by simp only; omega, .inr ⟨he, by simp only; omega⟩⟩, ?_⟩
  unfold RMu
  simp only [if_true]
  rw [if_neg (by omega)]
  omega
end Go.Vm
end

section
set_option linter.all false
set_option maxRecDepth 100000
set_option maxHeartbeats 40000000
namespace Go.Vm
open Go.Proofs
theorem stepL2 {α : Type} {X : Option (List D ⊕ α)} {mk : RSt2 → List D} {I : RSt2 → Prop} {μ : RSt2 → Nat} {k : Nat} {Z : Prop} {m s : List (List D)} {u a e : Int} (h : X = some (.inl (mk ⟨m, s, u, a, e⟩))) (hI : I ⟨m, s, u, a, e⟩ ∧ μ ⟨m, s, u, a, e⟩ < k) :
    (∃ y, X = some (.inl (mk y)) ∧ I y ∧ μ y < k) ∨ Z := .inl ⟨_, h, hI⟩
theorem stepR2 {α : Type} {X : Option (List D ⊕ α)} {Q : α → Prop} {Z : Prop} {r : α} (h : X = some (.inr r)) (hI : Q r) : Z ∨ ∃ r, X = some (.inr r) ∧ Q r := .inr ⟨r, h, hI⟩
theorem c23 (s : Shp) (code : List Ins) (cells : List Int) (R : Nat → List Int) (hR0 : R 0 = []) (hR : ∀ i x, code[i]? = some x → PlaceOK s code.length R i x) (h1 : 1 ≤ code.length) (hl : code.length ≤ 400) (hk : s.kinds.length ≤ 1100) (hc : cells.length = s.kinds.length) (hr : allR cells) (hcn : allR (code.map Ins.n)) :
    ∃ p, cF 23 [.d (.sl 4 (crows code)), .d (.sl 1 (irows cells)), .d (.int .i64 (bound code))] = some p ∧ RQ (bound code) p := by
  have hbnd : bound code = bAt code 0 := rfl
  have hble := bAt_le (code := code) 0
  refine cOfP (by kernel_rfl) rfl ?_
  rw [g23_eq]
  unfold g23
  have hfit : sy.fits [] (irows cells) 8 = true := decide_eq_true (by simp only [irows_len, List.length_nil]; omega)
  with_reducible apply ex_t hfit
  generalize hfu : bound code = fuel at *
  show ∃ p, loopF _ _ = some p ∧ RQ fuel p
  refine loopF_ex (fun x : RSt2 => [.sl 4 (crows code), .sl 1 (irows cells), .int .i64 fuel, .int .i64 x.u, .sl 1 x.m, .sl 1 x.s, .int .i64 x.a, .int .i64 x.e]) (RInv code R cells.length fuel) (RMu code) (fun x hx => ?_) ⟨sy.rapp [] (irows cells), [], 0, 0, 0⟩ ⟨cells, [], rfl, rfl, rfl, hr, by intro n hn; simp at hn, by simp, .inl ⟨rfl, 0, rfl, by omega, by rw [hR0], by simp, by simp only; omega⟩⟩
  obtain ⟨m, st, u, a, e⟩ := x
  obtain ⟨M, S, hm, hs, hM, hrM, hrS, hu, hx⟩ := hx
  simp only at hm hs hu hx
  subst hm hs
  rcases hx with ⟨he, i, ha, hi, hSl, hS16, huf⟩ | ⟨he, huf⟩
  · subst he ha
    obtain ⟨x, hx⟩ : ∃ x, code[i]? = some x := ⟨code[i], List.getElem?_eq_getElem hi⟩
    obtain ⟨hrt, row', to, hn, hto, hRt⟩ := hR i x hx
    have hbp := bAt_pos (code := code) hi
    have hb0 := bAt_le (code := code) i
    have hc35 := c35 x
    have hxr := crows_at hx
    have hxn : inR x.n := hcn x.n (List.mem_map_of_mem (List.mem_of_getElem? hx))
    have hadv := fun h10 => adv hx h10 hto
    have hlen := fun h10 => next_len hn hrt h10 (by rw [← hSl]; exact hS16)
    have hthere := fun hmm => next_there hn hmm
    have hq := hrt
    rw [right_eq] at hq
    simp only [Bool.and_eq_true] at hq
    obtain ⟨⟨⟨q1, q2⟩, q3⟩, q4⟩ := hq
    have q1 := withinB_iff.1 q1
    rw [hrt] at hc35
    obtain ⟨op, A, B, n⟩ := x
    unfold insV at hc35
    simp only at hc35 hadv hlen hthere q1 q4 hxn
    have hH : HdF code fuel u i op A B n := by
      refine ⟨decide_eq_false ?_, decide_eq_false ?_, decide_eq_true ?_, ?_, ?_, ?_, ?_, hc35⟩
      · show ¬ ((crows code).length : Int) ≤ i; rw [crows_len]; omega
      · omega
      · show 0 ≤ (i : Int) ∧ (i : Int) < ((crows code).length : Int); rw [crows_len]; omega
      · rw [hxr]; rfl
      · rw [hxr]; rfl
      · rw [hxr]; rfl
      · rw [hxr]; rfl
    have hu1 : sy.wrap .i64 (sy.add u 1) = u + 1 := by
      rw [show sy.wrap .i64 (sy.add u 1) = IntKind.i64.wrap (u + 1) from rfl, wrap_id (by omega) (by omega)]
    have hi1 : sy.wrap .i64 (sy.add (i : Int) 1) = ((i + 1 : Nat) : Int) := by
      rw [show sy.wrap .i64 (sy.add (i : Int) 1) = IntKind.i64.wrap ((i : Int) + 1) from rfl, wrap_id (by omega) (by omega)]; rfl
    have hop : op = 1 ∨ op = 2 ∨ op = 3 ∨ op = 4 ∨ op = 5 ∨ op = 6 ∨ op = 7 ∨ op = 8 ∨ op = 9 ∨ op = 10 := by omega
    -- one place on
    have hnext : op ≠ 10 → op ≠ 6 → i < i + 1 ∧ i + 1 < code.length ∧ R (i + 1) = row' ∧ bAt code (i + 1) + 1 ≤ bAt code i := fun h10 h6 => by
      obtain ⟨e1, e2⟩ := hadv h10
      have hm : (i : Int) + 1 ∈ to := by
        rw [e1]; unfold leadsL; simp only
        rw [if_neg h6]
        split <;> simp
      obtain ⟨j, hj, hj1, hj2, hj3⟩ := e2 _ hm
      have hj0 : j = i + 1 := by omega
      subst hj0
      refine ⟨hj1, hj2, ?_, hj3⟩
      have := hRt _ hm
      rwa [hj, Int.toNat_natCast] at this
    have hjump : (op = 6 ∨ op = 7) → ∃ j : Nat, A = j ∧ i < j ∧ j < code.length ∧ R j = row' ∧ bAt code j + 1 ≤ bAt code i := fun h67 => by
      obtain ⟨e1, e2⟩ := hadv (by omega)
      have hm : A ∈ to := by
        rw [e1]; unfold leadsL; simp only
        rcases h67 with h | h
        · rw [if_pos h]; simp
        · rw [if_neg (by omega), if_pos h]; simp
      obtain ⟨j, hj, hj1, hj2, hj3⟩ := e2 _ hm
      refine ⟨j, hj, hj1, hj2, ?_, hj3⟩
      have := hRt _ hm
      rwa [hj, Int.toNat_natCast] at this
    rcases hop with rfl | rfl | rfl | rfl | rfl | rfl | rfl | rfl | rfl | rfl
    · -- push
      obtain ⟨p1, p2, p3⟩ := hlen (by decide)
      simp [popsN, putsN] at p1 p2
      have hp := pushF (s := irows S) rfl (by omega) n
      obtain ⟨n1, n2, n3, n4⟩ := hnext (by decide) (by decide)
      apply stepL2
      · repeat' (first | with_reducible exact st_some | with_reducible apply st_cut | with_reducible apply st_bind | ((with_reducible apply st_t); (first | with_reducible exact hH.i0 | with_reducible exact hH.i1 | with_reducible exact hH.i2 | with_reducible exact hp.e0 | with_reducible exact hp.e1 | with_reducible exact hp.e2 | rfl)) | ((with_reducible apply st_f); (first | with_reducible exact hH.i0 | with_reducible exact hH.i1 | with_reducible exact hH.i2 | with_reducible exact hp.e0 | with_reducible exact hp.e1 | with_reducible exact hp.e2 | rfl)) | with_reducible apply st_lp | with_reducible apply st_inl | with_reducible exact st_inr | with_reducible apply st_opI | with_reducible apply st_opB | with_reducible apply st_opL | with_reducible exact hH.r0 | with_reducible exact hH.r1 | with_reducible exact hH.r2 | with_reducible exact hH.r3 | exact hH.c | rfl)
      · refine go_on rfl (pushE rfl n) hM hrM (allR_snoc hrS hxn) hu1 hu hi1 rfl n1 n2 ?_ ?_ n4 huf
        · rw [n3]; simp; omega
        · simp; omega
    · -- load
      obtain ⟨p1, p2, p3⟩ := hlen (by decide)
      simp [popsN, putsN] at p1 p2
      have ht := hthere (by decide)
      have qA : 0 ≤ A ∧ A ≤ 65535 := withinB_iff.1 (by simpa [firstB] using q2)
      have hv : sy.cell (sy.rown (irows M) (sy.nat A)) 0 = some (.int .i64 (M.getD A.toNat 0)) := irows_n (show A.toNat < M.length by omega)
      have hin : sy.inr A (sy.rlen (irows M)) = true := decide_eq_true (by rw [sy_rlen, irows_len]; omega)
      have hth := thereF (M := M) (a := A) (b := 1) (by omega) (by omega) (by omega) (by omega) (by omega)
      have hp := pushF (s := irows S) rfl (by omega) (M.getD A.toNat 0)
      obtain ⟨n1, n2, n3, n4⟩ := hnext (by decide) (by decide)
      apply stepL2
      · repeat' (first | with_reducible exact st_some | with_reducible apply st_cut | with_reducible apply st_bind | ((with_reducible apply st_t); (first | with_reducible exact hH.i0 | with_reducible exact hH.i1 | with_reducible exact hH.i2 | with_reducible exact hth | with_reducible exact hin | with_reducible exact hp.e0 | with_reducible exact hp.e1 | with_reducible exact hp.e2 | rfl)) | ((with_reducible apply st_f); (first | with_reducible exact hH.i0 | with_reducible exact hH.i1 | with_reducible exact hH.i2 | with_reducible exact hth | with_reducible exact hin | with_reducible exact hp.e0 | with_reducible exact hp.e1 | with_reducible exact hp.e2 | rfl)) | with_reducible apply st_lp | with_reducible apply st_inl | with_reducible exact st_inr | with_reducible apply st_opI | with_reducible apply st_opB | with_reducible apply st_opL | with_reducible exact hH.r0 | with_reducible exact hH.r1 | with_reducible exact hH.r2 | with_reducible exact hH.r3 | with_reducible exact hv | exact hH.c | rfl)
      · refine go_on rfl (pushE rfl _) hM hrM (allR_snoc hrS (allR_getD hrM _)) hu1 hu hi1 rfl n1 n2 ?_ ?_ n4 huf
        · rw [n3]; simp; omega
        · simp; omega
    · -- store
      obtain ⟨p1, p2, p3⟩ := hlen (by decide)
      simp [popsN, putsN] at p1 p2
      have ht := hthere (by decide)
      have qA : 0 ≤ A ∧ A ≤ 65535 := withinB_iff.1 (by simpa [firstB] using q2)
      have hin : sy.inr A (sy.rlen (irows M)) = true := decide_eq_true (by rw [sy_rlen, irows_len]; omega)
      have hinn : sy.inrn (sy.nat A) (irows M) = true := decide_eq_true (by rw [irows_len]; show A.toNat < _; omega)
      have hth := thereF (M := M) (a := A) (b := 1) (by omega) (by omega) (by omega) (by omega) (by omega)
      have hp := popF (s := irows S) rfl (by omega) (by omega)
      obtain ⟨n1, n2, n3, n4⟩ := hnext (by decide) (by decide)
      apply stepL2
      · repeat' (first | with_reducible exact st_some | with_reducible apply st_cut | with_reducible apply st_bind | ((with_reducible apply st_t); (first | with_reducible exact hH.i0 | with_reducible exact hH.i1 | with_reducible exact hH.i2 | with_reducible exact hth | with_reducible exact hin | with_reducible exact hinn | with_reducible exact hp.e0 | with_reducible exact hp.e1 | with_reducible exact hp.e3 | rfl)) | ((with_reducible apply st_f); (first | with_reducible exact hH.i0 | with_reducible exact hH.i1 | with_reducible exact hH.i2 | with_reducible exact hth | with_reducible exact hin | with_reducible exact hinn | with_reducible exact hp.e0 | with_reducible exact hp.e1 | with_reducible exact hp.e3 | rfl)) | with_reducible apply st_lp | with_reducible apply st_inl | with_reducible exact st_inr | with_reducible apply st_opI | with_reducible apply st_opB | with_reducible apply st_opL | with_reducible exact hH.r0 | with_reducible exact hH.r1 | with_reducible exact hH.r2 | with_reducible exact hH.r3 | with_reducible exact hp.e2 | exact hH.c | rfl)
      · refine go_on (irows_put M A.toNat _ (by omega)) (cutE rfl (by omega) (by omega)) (by rw [List.length_set]; exact hM) (allR_set hrM (allR_getD hrS _)) (allR_take hrS _) hu1 hu hi1 rfl n1 n2 ?_ ?_ n4 huf
        · rw [n3]; simp; omega
        · simp; omega
    · -- one number
      obtain ⟨p1, p2, p3⟩ := hlen (by decide)
      simp [popsN, putsN] at p1 p2
      have qA : A = 1 ∨ A = 2 := by simpa [firstB] using q2
      have hp := popF (s := irows S) rfl (by omega) (by omega)
      have hcut := cutE (s := irows S) rfl (by omega) (by omega)
      obtain ⟨_, hc1, v, rfl, hvr⟩ := c107 A (S.getD (S.length - 1) 0) qA
      rw [← eF_call] at hc1
      have hp2 := pushF hcut (by rw [List.length_take]; omega) v
      obtain ⟨n1, n2, n3, n4⟩ := hnext (by decide) (by decide)
      apply stepL2
      · repeat' (first | with_reducible exact st_some | with_reducible apply st_cut | with_reducible apply st_bind | ((with_reducible apply st_t); (first | with_reducible exact hH.i0 | with_reducible exact hH.i1 | with_reducible exact hH.i2 | with_reducible exact hp.e0 | with_reducible exact hp.e1 | with_reducible exact hp.e3 | with_reducible exact hp2.e0 | with_reducible exact hp2.e1 | with_reducible exact hp2.e2 | rfl)) | ((with_reducible apply st_f); (first | with_reducible exact hH.i0 | with_reducible exact hH.i1 | with_reducible exact hH.i2 | with_reducible exact hp.e0 | with_reducible exact hp.e1 | with_reducible exact hp.e3 | with_reducible exact hp2.e0 | with_reducible exact hp2.e1 | with_reducible exact hp2.e2 | rfl)) | with_reducible apply st_lp | with_reducible apply st_inl | with_reducible exact st_inr | with_reducible apply st_opI | with_reducible apply st_opB | with_reducible apply st_opL | with_reducible exact hH.r0 | with_reducible exact hH.r1 | with_reducible exact hH.r2 | with_reducible exact hH.r3 | with_reducible exact hp.e2 | exact hH.c | exact hc1 | rfl)
      · refine go_on rfl (pushE hcut _) hM hrM (allR_snoc (allR_take hrS _) hvr) hu1 hu hi1 rfl n1 n2 ?_ ?_ n4 huf
        · rw [n3]; simp; omega
        · simp; omega
    · -- two numbers
      obtain ⟨p1, p2, p3⟩ := hlen (by decide)
      simp [popsN, putsN] at p1 p2
      have qA : 3 ≤ A ∧ A ≤ 16 := withinB_iff.1 (by simpa [firstB] using q2)
      have hp := popF (s := irows S) rfl (by omega) (by omega)
      have hcut := cutE (s := irows S) rfl (by omega) (by omega)
      have hl1 : (S.take (S.length - 1)).length = S.length - 1 := by rw [List.length_take]; omega
      have hpb := popF hcut (by omega) (by omega)
      have hcut2 := cutE hcut (by omega) (by omega)
      have hl2 : ((S.take (S.length - 1)).take ((S.take (S.length - 1)).length - 1)).length = S.length - 2 := by rw [List.length_take, hl1]; omega
      have hrS2 := allR_take (allR_take hrS (S.length - 1)) ((S.take (S.length - 1)).length - 1)
      obtain ⟨_, hc1, v, e, rfl, hvr, he⟩ := c108 A ((S.take (S.length - 1)).getD ((S.take (S.length - 1)).length - 1) 0) (S.getD (S.length - 1) 0) (allR_getD hrS _) qA
      rw [← eF_call] at hc1
      have hp2 := pushF hcut2 (by omega) v
      obtain ⟨n1, n2, n3, n4⟩ := hnext (by decide) (by decide)
      rcases he with rfl | rfl
      · apply stepL2
        · repeat' (first | with_reducible exact st_some | with_reducible apply st_cut | with_reducible apply st_bind | ((with_reducible apply st_t); (first | with_reducible exact hH.i0 | with_reducible exact hH.i1 | with_reducible exact hH.i2 | with_reducible exact hp.e0 | with_reducible exact hp.e1 | with_reducible exact hp.e3 | with_reducible exact hpb.e0 | with_reducible exact hpb.e1 | with_reducible exact hpb.e3 | with_reducible exact hp2.e0 | with_reducible exact hp2.e1 | with_reducible exact hp2.e2 | rfl)) | ((with_reducible apply st_f); (first | with_reducible exact hH.i0 | with_reducible exact hH.i1 | with_reducible exact hH.i2 | with_reducible exact hp.e0 | with_reducible exact hp.e1 | with_reducible exact hp.e3 | with_reducible exact hpb.e0 | with_reducible exact hpb.e1 | with_reducible exact hpb.e3 | with_reducible exact hp2.e0 | with_reducible exact hp2.e1 | with_reducible exact hp2.e2 | rfl)) | with_reducible apply st_lp | with_reducible apply st_inl | with_reducible exact st_inr | with_reducible apply st_opI | with_reducible apply st_opB | with_reducible apply st_opL | with_reducible exact hH.r0 | with_reducible exact hH.r1 | with_reducible exact hH.r2 | with_reducible exact hH.r3 | with_reducible exact hp.e2 | with_reducible exact hpb.e2 | exact hH.c | exact hc1 | rfl)
        · refine go_on rfl (pushE hcut2 _) hM hrM (allR_snoc hrS2 hvr) hu1 hu hi1 rfl n1 n2 ?_ ?_ n4 huf
          · rw [n3, List.length_append, hl2]; simp; omega
          · rw [List.length_append, hl2]; simp; omega
      · apply stepL2
        · repeat' (first | with_reducible exact st_some | with_reducible apply st_cut | with_reducible apply st_bind | ((with_reducible apply st_t); (first | with_reducible exact hH.i0 | with_reducible exact hH.i1 | with_reducible exact hH.i2 | with_reducible exact hp.e0 | with_reducible exact hp.e1 | with_reducible exact hp.e3 | with_reducible exact hpb.e0 | with_reducible exact hpb.e1 | with_reducible exact hpb.e3 | with_reducible exact hp2.e0 | with_reducible exact hp2.e1 | with_reducible exact hp2.e2 | rfl)) | ((with_reducible apply st_f); (first | with_reducible exact hH.i0 | with_reducible exact hH.i1 | with_reducible exact hH.i2 | with_reducible exact hp.e0 | with_reducible exact hp.e1 | with_reducible exact hp.e3 | with_reducible exact hpb.e0 | with_reducible exact hpb.e1 | with_reducible exact hpb.e3 | with_reducible exact hp2.e0 | with_reducible exact hp2.e1 | with_reducible exact hp2.e2 | rfl)) | with_reducible apply st_lp | with_reducible apply st_inl | with_reducible exact st_inr | with_reducible apply st_opI | with_reducible apply st_opB | with_reducible apply st_opL | with_reducible exact hH.r0 | with_reducible exact hH.r1 | with_reducible exact hH.r2 | with_reducible exact hH.r3 | with_reducible exact hp.e2 | with_reducible exact hpb.e2 | exact hH.c | exact hc1 | rfl)
        · exact stop_at rfl hcut2 hM hrM hrS2 hu1 hu (by omega) hbp huf
    · -- jump
      obtain ⟨p1, p2, p3⟩ := hlen (by decide)
      simp [popsN, putsN] at p1 p2
      obtain ⟨j, n0, n1, n2, n3, n4⟩ := hjump (by decide)
      apply stepL2
      · repeat' (first | with_reducible exact st_some | with_reducible apply st_cut | with_reducible apply st_bind | ((with_reducible apply st_t); (first | with_reducible exact hH.i0 | with_reducible exact hH.i1 | with_reducible exact hH.i2 | rfl)) | ((with_reducible apply st_f); (first | with_reducible exact hH.i0 | with_reducible exact hH.i1 | with_reducible exact hH.i2 | rfl)) | with_reducible apply st_lp | with_reducible apply st_inl | with_reducible exact st_inr | with_reducible apply st_opI | with_reducible apply st_opB | with_reducible apply st_opL | with_reducible exact hH.r0 | with_reducible exact hH.r1 | with_reducible exact hH.r2 | with_reducible exact hH.r3 | exact hH.c | rfl)
      · refine go_on rfl rfl hM hrM hrS hu1 hu n0 rfl n1 n2 ?_ ?_ n4 huf
        · rw [n3]; omega
        · omega
    · -- zero
      obtain ⟨p1, p2, p3⟩ := hlen (by decide)
      simp [popsN, putsN] at p1 p2
      have hp := popF (s := irows S) rfl (by omega) (by omega)
      have hcut := cutE (s := irows S) rfl (by omega) (by omega)
      have hl1 : (S.take (S.length - 1)).length = S.length - 1 := by rw [List.length_take]; omega
      by_cases hz : S.getD (S.length - 1) 0 = 0
      · obtain ⟨j, n0, n1, n2, n3, n4⟩ := hjump (by decide)
        have hz' : sy.ieq (S.getD (S.length - 1) 0) 0 = true := decide_eq_true hz
        apply stepL2
        · repeat' (first | with_reducible exact st_some | with_reducible apply st_cut | with_reducible apply st_bind | ((with_reducible apply st_t); (first | with_reducible exact hH.i0 | with_reducible exact hH.i1 | with_reducible exact hH.i2 | with_reducible exact hp.e0 | with_reducible exact hp.e1 | with_reducible exact hp.e3 | with_reducible exact hz' | rfl)) | ((with_reducible apply st_f); (first | with_reducible exact hH.i0 | with_reducible exact hH.i1 | with_reducible exact hH.i2 | with_reducible exact hp.e0 | with_reducible exact hp.e1 | with_reducible exact hp.e3 | with_reducible exact hz' | rfl)) | with_reducible apply st_lp | with_reducible apply st_inl | with_reducible exact st_inr | with_reducible apply st_opI | with_reducible apply st_opB | with_reducible apply st_opL | with_reducible exact hH.r0 | with_reducible exact hH.r1 | with_reducible exact hH.r2 | with_reducible exact hH.r3 | with_reducible exact hp.e2 | exact hH.c | rfl)
        · refine go_on rfl hcut hM hrM (allR_take hrS _) hu1 hu n0 rfl n1 n2 ?_ ?_ n4 huf
          · rw [n3]; omega
          · omega
      · obtain ⟨n1, n2, n3, n4⟩ := hnext (by decide) (by decide)
        have hz' : sy.ieq (S.getD (S.length - 1) 0) 0 = false := decide_eq_false hz
        apply stepL2
        · repeat' (first | with_reducible exact st_some | with_reducible apply st_cut | with_reducible apply st_bind | ((with_reducible apply st_t); (first | with_reducible exact hH.i0 | with_reducible exact hH.i1 | with_reducible exact hH.i2 | with_reducible exact hp.e0 | with_reducible exact hp.e1 | with_reducible exact hp.e3 | with_reducible exact hz' | rfl)) | ((with_reducible apply st_f); (first | with_reducible exact hH.i0 | with_reducible exact hH.i1 | with_reducible exact hH.i2 | with_reducible exact hp.e0 | with_reducible exact hp.e1 | with_reducible exact hp.e3 | with_reducible exact hz' | rfl)) | with_reducible apply st_lp | with_reducible apply st_inl | with_reducible exact st_inr | with_reducible apply st_opI | with_reducible apply st_opB | with_reducible apply st_opL | with_reducible exact hH.r0 | with_reducible exact hH.r1 | with_reducible exact hH.r2 | with_reducible exact hH.r3 | with_reducible exact hp.e2 | exact hH.c | rfl)
        · refine go_on rfl hcut hM hrM (allR_take hrS _) hu1 hu hi1 rfl n1 n2 ?_ ?_ n4 huf
          · rw [n3]; omega
          · omega
    · -- get
      obtain ⟨p1, p2, p3⟩ := hlen (by decide)
      simp [popsN, putsN] at p1 p2
      have ht := hthere (by decide)
      have qA : 0 ≤ A ∧ A ≤ 65535 := withinB_iff.1 (by simpa [firstB] using q2)
      have qB : 1 ≤ B ∧ B ≤ 8 := withinB_iff.1 (by simpa using q4)
      have hp := popF (s := irows S) rfl (by omega) (by omega)
      have hcut := cutE (s := irows S) rfl (by omega) (by omega)
      have hl1 : (S.take (S.length - 1)).length = S.length - 1 := by rw [List.length_take]; omega
      have hth := thereF (M := M) (a := A) (b := B) (by omega) (by omega) (by omega) (by omega) (by omega)
      generalize hv : S.getD (S.length - 1) 0 = v at hp
      by_cases hv0 : v < 0
      · have hz : sy.ilt v 0 = true := decide_eq_true hv0
        apply stepL2
        · repeat' (first | with_reducible exact st_some | with_reducible apply st_cut | with_reducible apply st_bind | ((with_reducible apply st_t); (first | with_reducible exact hH.i0 | with_reducible exact hH.i1 | with_reducible exact hH.i2 | with_reducible exact hp.e0 | with_reducible exact hp.e1 | with_reducible exact hp.e3 | with_reducible exact hth | with_reducible exact hz | rfl)) | ((with_reducible apply st_f); (first | with_reducible exact hH.i0 | with_reducible exact hH.i1 | with_reducible exact hH.i2 | with_reducible exact hp.e0 | with_reducible exact hp.e1 | with_reducible exact hp.e3 | with_reducible exact hth | with_reducible exact hz | rfl)) | with_reducible apply st_lp | with_reducible apply st_inl | with_reducible exact st_inr | with_reducible apply st_opI | with_reducible apply st_opB | with_reducible apply st_opL | with_reducible exact hH.r0 | with_reducible exact hH.r1 | with_reducible exact hH.r2 | with_reducible exact hH.r3 | with_reducible exact hp.e2 | exact hH.c | rfl)
        · exact stop_at rfl hcut hM hrM (allR_take hrS _) hu1 hu (by omega) hbp huf
      have hz : sy.ilt v 0 = false := decide_eq_false hv0
      by_cases hvB : B ≤ v
      · have hz2 : sy.ile B v = true := decide_eq_true hvB
        apply stepL2
        · repeat' (first | with_reducible exact st_some | with_reducible apply st_cut | with_reducible apply st_bind | ((with_reducible apply st_t); (first | with_reducible exact hH.i0 | with_reducible exact hH.i1 | with_reducible exact hH.i2 | with_reducible exact hp.e0 | with_reducible exact hp.e1 | with_reducible exact hp.e3 | with_reducible exact hth | with_reducible exact hz | with_reducible exact hz2 | rfl)) | ((with_reducible apply st_f); (first | with_reducible exact hH.i0 | with_reducible exact hH.i1 | with_reducible exact hH.i2 | with_reducible exact hp.e0 | with_reducible exact hp.e1 | with_reducible exact hp.e3 | with_reducible exact hth | with_reducible exact hz | with_reducible exact hz2 | rfl)) | with_reducible apply st_lp | with_reducible apply st_inl | with_reducible exact st_inr | with_reducible apply st_opI | with_reducible apply st_opB | with_reducible apply st_opL | with_reducible exact hH.r0 | with_reducible exact hH.r1 | with_reducible exact hH.r2 | with_reducible exact hH.r3 | with_reducible exact hp.e2 | exact hH.c | rfl)
        · exact stop_at rfl hcut hM hrM (allR_take hrS _) hu1 hu (by omega) hbp huf
      have hz2 : sy.ile B v = false := decide_eq_false hvB
      have hw : sy.wrap .i64 (sy.add A v) = A + v := by
        rw [show sy.wrap .i64 (sy.add A v) = IntKind.i64.wrap (A + v) from rfl, wrap_id (by omega) (by omega)]
      have hin : sy.inr (sy.wrap .i64 (sy.add A v)) (sy.rlen (irows M)) = true := by rw [hw]; exact decide_eq_true (by rw [sy_rlen, irows_len]; omega)
      have hvv : sy.cell (sy.rown (irows M) (sy.nat (sy.wrap .i64 (sy.add A v)))) 0 = some (.int .i64 (M.getD (A + v).toNat 0)) := by rw [hw]; exact irows_n (show (A + v).toNat < M.length by omega)
      have hp2 := pushF hcut (by omega) (M.getD (A + v).toNat 0)
      obtain ⟨n1, n2, n3, n4⟩ := hnext (by decide) (by decide)
      apply stepL2
      · repeat' (first | with_reducible exact st_some | with_reducible apply st_cut | with_reducible apply st_bind | ((with_reducible apply st_t); (first | with_reducible exact hH.i0 | with_reducible exact hH.i1 | with_reducible exact hH.i2 | with_reducible exact hp.e0 | with_reducible exact hp.e1 | with_reducible exact hp.e3 | with_reducible exact hth | with_reducible exact hz | with_reducible exact hz2 | with_reducible exact hin | with_reducible exact hp2.e0 | with_reducible exact hp2.e1 | with_reducible exact hp2.e2 | rfl)) | ((with_reducible apply st_f); (first | with_reducible exact hH.i0 | with_reducible exact hH.i1 | with_reducible exact hH.i2 | with_reducible exact hp.e0 | with_reducible exact hp.e1 | with_reducible exact hp.e3 | with_reducible exact hth | with_reducible exact hz | with_reducible exact hz2 | with_reducible exact hin | with_reducible exact hp2.e0 | with_reducible exact hp2.e1 | with_reducible exact hp2.e2 | rfl)) | with_reducible apply st_lp | with_reducible apply st_inl | with_reducible exact st_inr | with_reducible apply st_opI | with_reducible apply st_opB | with_reducible apply st_opL | with_reducible exact hH.r0 | with_reducible exact hH.r1 | with_reducible exact hH.r2 | with_reducible exact hH.r3 | with_reducible exact hp.e2 | with_reducible exact hvv | exact hH.c | rfl)
      · refine go_on rfl (pushE hcut _) hM hrM (allR_snoc (allR_take hrS _) (allR_getD hrM _)) hu1 hu hi1 rfl n1 n2 ?_ ?_ n4 huf
        · rw [n3, List.length_append, hl1]; simp; omega
        · rw [List.length_append, hl1]; simp; omega
    · -- put
      obtain ⟨p1, p2, p3⟩ := hlen (by decide)
      simp [popsN, putsN] at p1 p2
      have ht := hthere (by decide)
      have qA : 0 ≤ A ∧ A ≤ 65535 := withinB_iff.1 (by simpa [firstB] using q2)
      have qB : 1 ≤ B ∧ B ≤ 8 := withinB_iff.1 (by simpa using q4)
      have hp := popF (s := irows S) rfl (by omega) (by omega)
      have hcut := cutE (s := irows S) rfl (by omega) (by omega)
      have hl1 : (S.take (S.length - 1)).length = S.length - 1 := by rw [List.length_take]; omega
      have hpb := popF hcut (by omega) (by omega)
      have hcut2 := cutE hcut (by omega) (by omega)
      have hl2 : ((S.take (S.length - 1)).take ((S.take (S.length - 1)).length - 1)).length = S.length - 2 := by rw [List.length_take, hl1]; omega
      have hrS2 := allR_take (allR_take hrS (S.length - 1)) ((S.take (S.length - 1)).length - 1)
      have hth := thereF (M := M) (a := A) (b := B) (by omega) (by omega) (by omega) (by omega) (by omega)
      generalize hv : S.getD (S.length - 1) 0 = v at hp
      by_cases hv0 : v < 0
      · have hz : sy.ilt v 0 = true := decide_eq_true hv0
        apply stepL2
        · repeat' (first | with_reducible exact st_some | with_reducible apply st_cut | with_reducible apply st_bind | ((with_reducible apply st_t); (first | with_reducible exact hH.i0 | with_reducible exact hH.i1 | with_reducible exact hH.i2 | with_reducible exact hp.e0 | with_reducible exact hp.e1 | with_reducible exact hp.e3 | with_reducible exact hpb.e0 | with_reducible exact hpb.e1 | with_reducible exact hpb.e3 | with_reducible exact hth | with_reducible exact hz | rfl)) | ((with_reducible apply st_f); (first | with_reducible exact hH.i0 | with_reducible exact hH.i1 | with_reducible exact hH.i2 | with_reducible exact hp.e0 | with_reducible exact hp.e1 | with_reducible exact hp.e3 | with_reducible exact hpb.e0 | with_reducible exact hpb.e1 | with_reducible exact hpb.e3 | with_reducible exact hth | with_reducible exact hz | rfl)) | with_reducible apply st_lp | with_reducible apply st_inl | with_reducible exact st_inr | with_reducible apply st_opI | with_reducible apply st_opB | with_reducible apply st_opL | with_reducible exact hH.r0 | with_reducible exact hH.r1 | with_reducible exact hH.r2 | with_reducible exact hH.r3 | with_reducible exact hp.e2 | with_reducible exact hpb.e2 | exact hH.c | rfl)
        · exact stop_at rfl hcut2 hM hrM hrS2 hu1 hu (by omega) hbp huf
      have hz : sy.ilt v 0 = false := decide_eq_false hv0
      by_cases hvB : B ≤ v
      · have hz2 : sy.ile B v = true := decide_eq_true hvB
        apply stepL2
        · repeat' (first | with_reducible exact st_some | with_reducible apply st_cut | with_reducible apply st_bind | ((with_reducible apply st_t); (first | with_reducible exact hH.i0 | with_reducible exact hH.i1 | with_reducible exact hH.i2 | with_reducible exact hp.e0 | with_reducible exact hp.e1 | with_reducible exact hp.e3 | with_reducible exact hpb.e0 | with_reducible exact hpb.e1 | with_reducible exact hpb.e3 | with_reducible exact hth | with_reducible exact hz | with_reducible exact hz2 | rfl)) | ((with_reducible apply st_f); (first | with_reducible exact hH.i0 | with_reducible exact hH.i1 | with_reducible exact hH.i2 | with_reducible exact hp.e0 | with_reducible exact hp.e1 | with_reducible exact hp.e3 | with_reducible exact hpb.e0 | with_reducible exact hpb.e1 | with_reducible exact hpb.e3 | with_reducible exact hth | with_reducible exact hz | with_reducible exact hz2 | rfl)) | with_reducible apply st_lp | with_reducible apply st_inl | with_reducible exact st_inr | with_reducible apply st_opI | with_reducible apply st_opB | with_reducible apply st_opL | with_reducible exact hH.r0 | with_reducible exact hH.r1 | with_reducible exact hH.r2 | with_reducible exact hH.r3 | with_reducible exact hp.e2 | with_reducible exact hpb.e2 | exact hH.c | rfl)
        · exact stop_at rfl hcut2 hM hrM hrS2 hu1 hu (by omega) hbp huf
      have hz2 : sy.ile B v = false := decide_eq_false hvB
      have hw : sy.wrap .i64 (sy.add A v) = A + v := by
        rw [show sy.wrap .i64 (sy.add A v) = IntKind.i64.wrap (A + v) from rfl, wrap_id (by omega) (by omega)]
      have hin : sy.inr (sy.wrap .i64 (sy.add A v)) (sy.rlen (irows M)) = true := by rw [hw]; exact decide_eq_true (by rw [sy_rlen, irows_len]; omega)
      have hinn : sy.inrn (sy.nat (sy.wrap .i64 (sy.add A v))) (irows M) = true := by rw [hw]; exact decide_eq_true (by rw [irows_len]; show (A + v).toNat < _; omega)
      obtain ⟨n1, n2, n3, n4⟩ := hnext (by decide) (by decide)
      apply stepL2
      · repeat' (first | with_reducible exact st_some | with_reducible apply st_cut | with_reducible apply st_bind | ((with_reducible apply st_t); (first | with_reducible exact hH.i0 | with_reducible exact hH.i1 | with_reducible exact hH.i2 | with_reducible exact hp.e0 | with_reducible exact hp.e1 | with_reducible exact hp.e3 | with_reducible exact hpb.e0 | with_reducible exact hpb.e1 | with_reducible exact hpb.e3 | with_reducible exact hth | with_reducible exact hz | with_reducible exact hz2 | with_reducible exact hin | with_reducible exact hinn | rfl)) | ((with_reducible apply st_f); (first | with_reducible exact hH.i0 | with_reducible exact hH.i1 | with_reducible exact hH.i2 | with_reducible exact hp.e0 | with_reducible exact hp.e1 | with_reducible exact hp.e3 | with_reducible exact hpb.e0 | with_reducible exact hpb.e1 | with_reducible exact hpb.e3 | with_reducible exact hth | with_reducible exact hz | with_reducible exact hz2 | with_reducible exact hin | with_reducible exact hinn | rfl)) | with_reducible apply st_lp | with_reducible apply st_inl | with_reducible exact st_inr | with_reducible apply st_opI | with_reducible apply st_opB | with_reducible apply st_opL | with_reducible exact hH.r0 | with_reducible exact hH.r1 | with_reducible exact hH.r2 | with_reducible exact hH.r3 | with_reducible exact hp.e2 | with_reducible exact hpb.e2 | exact hH.c | rfl)
      · refine go_on (M := M.set (A + v).toNat _) (by rw [hw]; exact irows_put M (A + v).toNat _ (by omega)) hcut2 (by rw [List.length_set]; exact hM) (allR_set hrM (allR_getD (allR_take hrS _) _)) hrS2 hu1 hu hi1 rfl n1 n2 ?_ ?_ n4 huf
        · rw [n3, hl2]; omega
        · rw [hl2]; omega
    · -- halt
      apply stepL2
      · repeat' (first | with_reducible exact st_some | with_reducible apply st_cut | with_reducible apply st_bind | ((with_reducible apply st_t); (first | with_reducible exact hH.i0 | with_reducible exact hH.i1 | with_reducible exact hH.i2 | rfl)) | ((with_reducible apply st_f); (first | with_reducible exact hH.i0 | with_reducible exact hH.i1 | with_reducible exact hH.i2 | rfl)) | with_reducible apply st_lp | with_reducible apply st_inl | with_reducible exact st_inr | with_reducible apply st_opI | with_reducible apply st_opB | with_reducible apply st_opL | with_reducible exact hH.r0 | with_reducible exact hH.r1 | with_reducible exact hH.r2 | with_reducible exact hH.r3 | exact hH.c | rfl)
      · exact stop_at rfl rfl hM hrM hrS hu1 hu (by omega) hbp huf
  · have hz : sy.ieq e 0 = false := decide_eq_false (by omega)
    by_cases he1 : e = -1
    · subst he1
      apply stepR2
      · repeat' (first | with_reducible exact st_some | with_reducible apply st_cut | with_reducible apply st_bind | ((with_reducible apply st_t); (first | with_reducible exact hz | rfl)) | ((with_reducible apply st_f); (first | with_reducible exact hz | rfl)) | with_reducible apply st_lp | with_reducible apply st_inl | with_reducible exact st_inr | with_reducible apply st_opI | with_reducible apply st_opB | with_reducible apply st_opL | exact hz | rfl)
      · exact ⟨_, _, _, rfl, huf, by decide, by decide⟩
    · have hz1 : sy.bnot (sy.ieq e (-1)) = true := by
        rw [show sy.ieq e (-1) = false from decide_eq_false he1]; rfl
      apply stepR2
      · repeat' (first | with_reducible exact st_some | with_reducible apply st_cut | with_reducible apply st_bind | ((with_reducible apply st_t); (first | with_reducible exact hz | with_reducible exact hz1 | rfl)) | ((with_reducible apply st_f); (first | with_reducible exact hz | with_reducible exact hz1 | rfl)) | with_reducible apply st_lp | with_reducible apply st_inl | with_reducible exact st_inr | with_reducible apply st_opI | with_reducible apply st_opB | with_reducible apply st_opL | exact hz | rfl)
      · exact ⟨_, _, _, rfl, huf, (by show e ≠ 17; omega), (by show e ≠ 13; omega)⟩
end Go.Vm
end

section
set_option linter.all false
set_option maxRecDepth 100000
set_option maxHeartbeats 4000000
namespace Go.Vm
open Go.Proofs
theorem c7 (la lb : List Int) (lo hi : Int) (code : List Ins) (cells : List Int) (hr : allR cells) (hcn : allR (code.map Ins.n)) :
    cF 7 [shV (irows la) (irows lb) lo hi, .d (.sl 4 (crows code)), .d (.sl 1 (irows cells))] = some (.val [.bool true]) := by
  by_cases hb : la.length ≤ 10 ∧ lb.length ≤ 1100 ∧ code.length ≤ 400
  · obtain ⟨b1, b2, b3⟩ := hb
    obtain ⟨b, h22, hb22⟩ := c22 la lb lo hi cells b1 b2
    have h13 := c13 la lb lo hi code b1 b2 (by omega)
    have h17 := c17 (code := code) (by omega)
    generalize hch : checkS ⟨la, lb, lo, hi⟩ code = ch at h13
    obtain ⟨n, ok⟩ := ch
    unfold chR at h13
    simp only at h13
    unfold shV at *
    cases b with
    | false =>
      refine cOf (by kernel_rfl) rfl ?_
      rw [g7_eq]
      simp only [g7, sy_wrap, sy_add, sy_sub, sy_mul, sy_ieq, sy_ilt, sy_ile, sy_seq, sy_beq, sy_bor, sy_bnot, sy_imax, sy_imin, sy_rlen, sy_slen, sy_sapp, sy_inr, sy_nat, sy_cell0, sy_cellS, sy_skip0, sy_inrn, sy_rapp, sy_fits, sy_cutok, sy_cut, sy_scut, sy_sbyte, sy_mkok, sy_mkok0, sy_mkz, sy_rep, sy_head, sy_deq, eqDs_int, eqDs_nil, opI_int, opB_bool, opS_str, opL_sl, opM_own, leaves_val, leaves_own, Option.bind_some, cutO_bool, bif_bool, cutO_inl, cutO_inr, eF_call, eF_lp, Nat.zero_add, Nat.reduceAdd, Bool.cond_false_right, Bool.cond_true_left, Bool.cond_false_left, Bool.cond_true_right, Bool.not_true, Bool.not_false, Bool.not_not, eq_self, decide_true, decide_false, cond_true, cond_false, Int.reduceEq, Int.reduceLT, Int.reduceLE, Int.reduceSub, Int.reduceAdd, Bool.true_and, Bool.and_true, Bool.false_and, Bool.and_false, Bool.or_false, Bool.false_or, Bool.true_or, Bool.or_true, true_and, and_true, irows_len, crows_len, h22, c16, decF (p := 10 < (la.length : Int)) (by omega), decF (p := 1100 < (lb.length : Int)) (by omega), decF (p := 400 < (code.length : Int)) (by omega)]
    | true =>
      cases ok with
      | false =>
        refine cOf (by kernel_rfl) rfl ?_
        rw [g7_eq]
        simp only [g7, sy_wrap, sy_add, sy_sub, sy_mul, sy_ieq, sy_ilt, sy_ile, sy_seq, sy_beq, sy_bor, sy_bnot, sy_imax, sy_imin, sy_rlen, sy_slen, sy_sapp, sy_inr, sy_nat, sy_cell0, sy_cellS, sy_skip0, sy_inrn, sy_rapp, sy_fits, sy_cutok, sy_cut, sy_scut, sy_sbyte, sy_mkok, sy_mkok0, sy_mkz, sy_rep, sy_head, sy_deq, eqDs_int, eqDs_nil, opI_int, opB_bool, opS_str, opL_sl, opM_own, leaves_val, leaves_own, Option.bind_some, cutO_bool, bif_bool, cutO_inl, cutO_inr, eF_call, eF_lp, Nat.zero_add, Nat.reduceAdd, Bool.cond_false_right, Bool.cond_true_left, Bool.cond_false_left, Bool.cond_true_right, Bool.not_true, Bool.not_false, Bool.not_not, eq_self, decide_true, decide_false, cond_true, cond_false, Int.reduceEq, Int.reduceLT, Int.reduceLE, Int.reduceSub, Int.reduceAdd, Bool.true_and, Bool.and_true, Bool.false_and, Bool.and_false, Bool.or_false, Bool.false_or, Bool.true_or, Bool.or_true, true_and, and_true, irows_len, crows_len, h22, h13, c16, decF (p := 10 < (la.length : Int)) (by omega), decF (p := 1100 < (lb.length : Int)) (by omega), decF (p := 400 < (code.length : Int)) (by omega)]
      | true =>
        obtain ⟨q1, q2, R, hR0, hR⟩ := checkS_rows (s := ⟨la, lb, lo, hi⟩) (code := code) (by rw [hch])
        obtain ⟨_, h23, m, u, e, rfl, hu, he1, he2⟩ := c23 ⟨la, lb, lo, hi⟩ code cells R hR0 hR q2 b3 b2 (hb22 rfl).2 hr hcn
        have hp : 1 ≤ bound code := bAt_pos (code := code) (i := 0) (by omega)
        have hle : bound code ≤ code.length := bAt_le (code := code) 0
        refine cOf (by kernel_rfl) rfl ?_
        rw [g7_eq]
        simp only [g7, sy_wrap, sy_add, sy_sub, sy_mul, sy_ieq, sy_ilt, sy_ile, sy_seq, sy_beq, sy_bor, sy_bnot, sy_imax, sy_imin, sy_rlen, sy_slen, sy_sapp, sy_inr, sy_nat, sy_cell0, sy_cellS, sy_skip0, sy_inrn, sy_rapp, sy_fits, sy_cutok, sy_cut, sy_scut, sy_sbyte, sy_mkok, sy_mkok0, sy_mkz, sy_rep, sy_head, sy_deq, eqDs_int, eqDs_nil, opI_int, opB_bool, opS_str, opL_sl, opM_own, leaves_val, leaves_own, Option.bind_some, cutO_bool, bif_bool, cutO_inl, cutO_inr, eF_call, eF_lp, Nat.zero_add, Nat.reduceAdd, Bool.cond_false_right, Bool.cond_true_left, Bool.cond_false_left, Bool.cond_true_right, Bool.not_true, Bool.not_false, Bool.not_not, eq_self, decide_true, decide_false, cond_true, cond_false, Int.reduceEq, Int.reduceLT, Int.reduceLE, Int.reduceSub, Int.reduceAdd, Bool.true_and, Bool.and_true, Bool.false_and, Bool.and_false, Bool.or_false, Bool.false_or, Bool.true_or, Bool.or_true, true_and, and_true, irows_len, crows_len, h22, h13, h17, h23, c16, decF (p := 10 < (la.length : Int)) (by omega), decF (p := 1100 < (lb.length : Int)) (by omega), decF (p := 400 < (code.length : Int)) (by omega), decT (p := 1 ≤ bound code) hp, decT (p := bound code ≤ (code.length : Int)) hle, decT (p := u ≤ bound code) hu, decF (p := e = 17) he1, decF (p := e = 13) he2]
  · have e : (decide (10 < (la.length : Int)) || decide (1100 < (lb.length : Int)) || decide (400 < (code.length : Int))) = true := by
      simp only [Bool.or_eq_true, decide_eq_true_eq]; omega
    unfold shV at *
    refine cOf (by kernel_rfl) rfl ?_
    rw [g7_eq]
    simp only [g7, sy_wrap, sy_add, sy_sub, sy_mul, sy_ieq, sy_ilt, sy_ile, sy_seq, sy_beq, sy_bor, sy_bnot, sy_imax, sy_imin, sy_rlen, sy_slen, sy_sapp, sy_inr, sy_nat, sy_cell0, sy_cellS, sy_skip0, sy_inrn, sy_rapp, sy_fits, sy_cutok, sy_cut, sy_scut, sy_sbyte, sy_mkok, sy_mkok0, sy_mkz, sy_rep, sy_head, sy_deq, eqDs_int, eqDs_nil, opI_int, opB_bool, opS_str, opL_sl, opM_own, leaves_val, leaves_own, Option.bind_some, cutO_bool, bif_bool, cutO_inl, cutO_inr, eF_call, eF_lp, Nat.zero_add, Nat.reduceAdd, Bool.cond_false_right, Bool.cond_true_left, Bool.cond_false_left, Bool.cond_true_right, Bool.not_true, Bool.not_false, Bool.not_not, eq_self, decide_true, decide_false, cond_true, cond_false, Int.reduceEq, Int.reduceLT, Int.reduceLE, Int.reduceSub, Int.reduceAdd, Bool.true_and, Bool.and_true, Bool.false_and, Bool.and_false, Bool.or_false, Bool.false_or, Bool.true_or, Bool.or_true, true_and, and_true, irows_len, crows_len, c16, e]
end Go.Vm
end

section
namespace Go.Vm
open Go.Proofs
/-- A truth told: the contract that the lift wants. -/
theorem PGood.truth {f : FuncId} {args : List V} {b : Bool} {t : TypeId} (hs : sigP Try.prog f = some [t]) (hm : mkV Try.prog [t] [.bool b] = some (.d (.bool b)))
    (h : PGood Try.prog f args (.val [.bool b])) : PCall Try.prog f args (.d (.bool b)) := by
  obtain ⟨ts, ss, v, h1, h2, h3, h4, h5⟩ := h
  rw [hs] at h1
  cases h1
  rw [hm] at h4
  cases h4
  exact h5
theorem F7_call (la lb : List Int) (lo hi : Int) (code : List Ins) (cells : List Int) (hr : allR cells) (hcn : allR (code.map Ins.n)) : PCall Try.prog 7 [shV (irows la) (irows lb) lo hi, .d (.sl 4 (crows code)), .d (.sl 1 (irows cells))] (.d (.bool true)) :=
  PGood.truth (t := 4) (by kernel_rfl) (by kernel_rfl) (callF_good mixedOrders kn_good rfl (c7 la lb lo hi code cells hr hcn))
end Go.Vm
end
