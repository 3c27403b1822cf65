/-
  Part I of the proof. What is proved by the whole: the statement that the claim names, with no condition. This part: lemmas.
-/
import Derived.Test.YtmmcmfcnpfbifaaGreatDoorH
set_option linter.unusedSimpArgs false
set_option linter.unusedVariables false

section
set_option maxRecDepth 100000
set_option maxHeartbeats 2000000
namespace Go.Vm
open Go.Proofs
theorem c67 (n : Int) : cF 112 [.d (.int .i64 n)] = some (.val [.bool (withinB n 0 65535)]) := by
  refine cOf (by kernel_rfl) rfl ?_
  rw [g112_eq]
  simp only [g112, go1, Option.bind_some, eq_self, cond_true, cond_false, Nat.reduceAdd, Int.reduceEq, Int.reduceLT, Int.reduceLE, Int.reduceSub, Int.reduceAdd]
  rfl
theorem c101 (k : Int) : cF 210 [.d (.int .i64 k)] = some (.val [.int .i64 k, .int .i64 0, .int .i64 0]) := by
  refine cOf (by kernel_rfl) rfl ?_
  rw [g210_eq]
  simp only [g210, go1, Option.bind_some, eq_self, cond_true, cond_false, Nat.reduceAdd, Int.reduceEq, Int.reduceLT, Int.reduceLE, Int.reduceSub, Int.reduceAdd]
theorem c42 (la lb : List Int) (lo hi k : Int) (hl : la.length ≤ 100000) : cF 110 [shV (irows la) (irows lb) lo hi, .d (.int .i64 k)] = some (.val [.bool (kindB (il la) k)]) := by
  unfold shV
  refine cOf (by kernel_rfl) rfl ?_
  rw [g110_eq]
  simp only [g110, go1, Option.bind_some, eq_self, cond_true, cond_false, Nat.reduceAdd, Int.reduceEq, Int.reduceLT, Int.reduceLE, Int.reduceSub, Int.reduceAdd, irows_len]
  rw [wrap_id (by omega) (by omega)]
  unfold kindB il
  by_cases h1 : k = 1
  · subst h1; rfl
  · by_cases h2 : k = 2
    · subst h2; rfl
    · rw [decF h1, decF h2]
      simp [h1, h2]
theorem c49 (la lb : List Int) (lo hi k n : Int) (hl : la.length ≤ 100000) (hk : kindB (il la) k = true) : cF 56 [shV (irows la) (irows lb) lo hi, .d (.int .i64 k), .d (.int .i64 n)] = some (.val [.bool (valueB la k n)]) := by
  unfold shV
  unfold kindB il at hk
  simp only [Bool.or_eq_true, Bool.and_eq_true, decide_eq_true_eq, beq_iff_eq] at hk
  refine cOf (by kernel_rfl) rfl ?_
  rw [g56_eq]
  simp only [g56, go1, Option.bind_some, eq_self, cond_true, cond_false, Nat.reduceAdd, Int.reduceEq, Int.reduceLT, Int.reduceLE, Int.reduceSub, Int.reduceAdd, irows_len]
  unfold valueB
  by_cases h1 : k = 1
  · subst h1; rfl
  · by_cases h2 : k = 2
    · subst h2
      simp only [go1, Option.bind_some, eq_self, cond_true, cond_false, Nat.reduceAdd, Int.reduceEq, Int.reduceLT, Int.reduceLE, Int.reduceSub, Int.reduceAdd]
      have e : ∀ (p q : Int), (p == q) = decide (p = q) := fun p q => by rw [Bool.eq_iff_iff]; simp
      rw [e, e]; simp
    · rw [decF h1, decF h2, if_neg h1, if_neg h2]
      simp only [go1, Option.bind_some, eq_self, cond_true, cond_false, Nat.reduceAdd, Int.reduceEq, Int.reduceLT, Int.reduceLE, Int.reduceSub, Int.reduceAdd]
      have hk2 : 3 ≤ k ∧ k < 3 + (la.length : Int) := by omega
      by_cases h0 : 0 ≤ n
      · rw [decT h0]
        simp only [go1, Option.bind_some, eq_self, cond_true, cond_false, Nat.reduceAdd, Int.reduceEq, Int.reduceLT, Int.reduceLE, Int.reduceSub, Int.reduceAdd]
        rw [wrap_id (by omega) (by omega), decT (p := 0 ≤ k - 3 ∧ k - 3 < (la.length : Int)) (by omega), irows_cell (by omega) (by omega)]
        simp only [go1, Option.bind_some, eq_self, cond_true, cond_false, Nat.reduceAdd, Int.reduceEq, Int.reduceLT, Int.reduceLE, Int.reduceSub, Int.reduceAdd]
      · rw [decF h0]
        simp only [go1, Option.bind_some, eq_self, cond_true, cond_false, Nat.reduceAdd, Int.reduceEq, Int.reduceLT, Int.reduceLE, Int.reduceSub, Int.reduceAdd]
theorem c35 (x : Ins) : cF 58 [insV x] = some (.val [.bool (rightB x)]) := by
  obtain ⟨op, a, b, n⟩ := x
  unfold insV
  refine cOf (by kernel_rfl) rfl ?_
  rw [g58_eq]
  simp only [g58, go1, Option.bind_some, eq_self, cond_true, cond_false, Nat.reduceAdd, Int.reduceEq, Int.reduceLT, Int.reduceLE, Int.reduceSub, Int.reduceAdd, c67]
  unfold rightB
  simp only
  have e : ∀ (p q : Int), (p == q) = decide (p = q) := fun p q => by rw [Bool.eq_iff_iff]; simp
  simp only [e]
  by_cases hop : 1 ≤ op ∧ op ≤ 10
  · have : op = 1 ∨ op = 2 ∨ op = 3 ∨ op = 4 ∨ op = 5 ∨ op = 6 ∨ op = 7 ∨ op = 8 ∨ op = 9 ∨ op = 10 := by omega
    rcases this with rfl | rfl | rfl | rfl | rfl | rfl | rfl | rfl | rfl | rfl <;>
      simp only [go1, Option.bind_some, eq_self, cond_true, cond_false, Nat.reduceAdd, Int.reduceEq, Int.reduceLT, Int.reduceLE, Int.reduceSub, Int.reduceAdd] <;> (try simp) <;> (by_cases hn : n = 0 <;> by_cases hb : b = 0 <;> simp [hn, hb, withinB, Bool.and_assoc])
  · rw [if_neg (by omega), if_neg (by omega), if_neg (by omega), if_neg (by omega), if_neg (by omega), if_neg (by omega), Bool.and_false]
    rw [decF (p := op = 1) (by omega), decF (p := op = 2) (by omega), decF (p := op = 3) (by omega), decF (p := op = 6) (by omega), decF (p := op = 7) (by omega), decF (p := op = 4) (by omega), decF (p := op = 5) (by omega), decF (p := op = 8) (by omega), decF (p := op = 9) (by omega), decF (p := op = 10) (by omega)]
    simp only [go1, Option.bind_some, eq_self, cond_true, cond_false, Nat.reduceAdd, Int.reduceEq, Int.reduceLT, Int.reduceLE, Int.reduceSub, Int.reduceAdd]
    cases (!decide (n = 0) || !decide (b = 0)) <;> rfl
/-- A loop that looks at all of a list and may end early. -/
theorem all_loop {τ α : Type} {b : List D → Option (List D ⊕ α)} {r0 r1 : α} (p : τ → Bool) (l : List τ) (mk : Nat → List D)
    (hb : ∀ i x, l[i]? = some x → b (mk i) = bif p x then some (.inl (mk (i + 1))) else some (.inr r0))
    (hend : l.all p = true → b (mk l.length) = some (.inr r1)) : loopF b (mk 0) = some (bif l.all p then r1 else r0) := by
  suffices ∀ (rest : List τ) (i : Nat), l.drop i = rest → i ≤ l.length → (l.take i).all p = true → loopF b (mk i) = some (bif rest.all p then r1 else r0) from this l 0 rfl (Nat.zero_le _) rfl
  intro rest
  induction rest with
  | nil =>
    intro i hd hi ht
    have : i = l.length := by have := congrArg List.length hd; simp at this; omega
    subst this
    rw [List.take_length] at ht
    rw [loopF_eq, hend ht]
    rfl
  | cons x xs ih =>
    intro i hd hi ht
    have hx : l[i]? = some x := by
      have := congrArg (fun r => r[0]?) hd
      simpa using this
    have hlt : i < l.length := (List.getElem?_eq_some_iff.1 hx).1
    have hxs : l.drop (i + 1) = xs := by
      have := congrArg List.tail hd
      simpa using this
    rw [loopF_eq, hb i x hx]
    cases hp : p x with
    | false => simp [List.all_cons, hp]
    | true =>
      simp only [cond_true, List.all_cons, hp, Bool.true_and]
      refine ih (i + 1) hxs hlt ?_
      rw [List.take_add_one, hx, List.all_append, ht]
      simp [hp]
theorem all_loop' {τ α : Type} {b : List D → Option (List D ⊕ α)} {r0 r1 r : α} (p : τ → Bool) (l : List τ) (mk : Nat → List D)
    (hb : ∀ i x, l[i]? = some x → b (mk i) = bif p x then some (.inl (mk (i + 1))) else some (.inr r0))
    (hend : l.all p = true → b (mk l.length) = some (.inr r1)) (hr : (bif l.all p then r1 else r0) = r) : loopF b (mk 0) = some r := by
  rw [all_loop p l mk hb hend, hr]
theorem c15 (la lb : List Int) (lo hi : Int) (hla : la.length ≤ 1000) (hlb : lb.length ≤ 10000) : cF 55 [shV (irows la) (irows lb) lo hi] = some (.val [.bool (shapeB la lb lo hi)]) := by
  have h42 := fun k => c42 la lb lo hi k (by omega)
  unfold shapeB il
  by_cases hc : (la.length : Int) ≤ 4 ∧ (lb.length : Int) ≤ 1000 ∧ 0 ≤ lo ∧ lo ≤ hi ∧ hi ≤ (lb.length : Int)
  · obtain ⟨h1, h2, h3, h4, h5⟩ := hc
    rw [decT h1, decT h2, decT h3, decT h4, decT h5]
    unfold shV at *
    refine cOf (by kernel_rfl) rfl ?_
    rw [g55_eq]
    simp only [g55, go1, Option.bind_some, eq_self, cond_true, cond_false, Nat.reduceAdd, Int.reduceEq, Int.reduceLT, Int.reduceLE, Int.reduceSub, Int.reduceAdd, irows_len]
    simp (disch := omega) only [wrap_id, decT, decF, go1, Option.bind_some, eq_self, cond_true, cond_false, Nat.reduceAdd, Int.reduceEq, Int.reduceLT, Int.reduceLE, Int.reduceSub, Int.reduceAdd]
    refine all_loop' (r0 := PRes.val [.bool false]) (r1 := PRes.val [.bool (lb.all (kindB (il la)))]) (fun n => decide (1 ≤ n)) la (fun i => [.int .i64 (i : Int), .sl 1 (irows la), .sl 1 (irows lb), .int .i64 lo, .int .i64 hi]) (fun i x hx => ?_) (fun hall => ?_) ?_
    · have hlt := (List.getElem?_eq_some_iff.1 hx).1
      simp only [go1, Option.bind_some, eq_self, cond_true, cond_false, Nat.reduceAdd, Int.reduceEq, Int.reduceLT, Int.reduceLE, Int.reduceSub, Int.reduceAdd, irows_len, ilt_at hlt, inr_at hlt, irows_at hx, wrap_succ hlt (by omega)]
      by_cases h : 1 ≤ x
      · rw [decT h, decF (by omega)]; rfl
      · rw [decF h, decT (by omega)]; rfl
    · simp only [go1, Option.bind_some, eq_self, cond_true, cond_false, Nat.reduceAdd, Int.reduceEq, Int.reduceLT, Int.reduceLE, Int.reduceSub, Int.reduceAdd, ilt_self, irows_len]
      refine all_loop' (α := List D ⊕ PRes) (r0 := .inr (PRes.val [.bool false])) (r1 := .inr (PRes.val [.bool true])) (kindB (il la)) lb (fun i => [.int .i64 (i : Int), .sl 1 (irows la), .sl 1 (irows lb), .int .i64 lo, .int .i64 hi]) (fun i x hx => ?_) (fun _ => ?_) ?_
      · have hlt := (List.getElem?_eq_some_iff.1 hx).1
        simp only [go1, Option.bind_some, eq_self, cond_true, cond_false, Nat.reduceAdd, Int.reduceEq, Int.reduceLT, Int.reduceLE, Int.reduceSub, Int.reduceAdd, irows_len, ilt_at hlt, inr_at hlt, irows_at hx, wrap_succ hlt (by omega), h42]
        cases kindB (il la) x <;> rfl
      · simp only [go1, Option.bind_some, eq_self, cond_true, cond_false, Nat.reduceAdd, Int.reduceEq, Int.reduceLT, Int.reduceLE, Int.reduceSub, Int.reduceAdd, ilt_self, irows_len]
      · cases lb.all (kindB (il la)) <;> rfl
    · show (bif (la.all fun n => decide (1 ≤ n)) then _ else _) = PRes.val [.bool ((la.all fun n => decide (1 ≤ n)) && lb.all (kindB (il la)))]
      cases (la.all fun n => decide (1 ≤ n)) <;> rfl
  · have hz : (decide ((la.length : Int) ≤ 4) && decide ((lb.length : Int) ≤ 1000) && decide (0 ≤ lo) && decide (lo ≤ hi) && decide (hi ≤ (lb.length : Int))) = false := by
      rw [Bool.eq_false_iff]; intro h; simp only [Bool.and_eq_true, decide_eq_true_eq] at h; omega
    rw [hz]
    unfold shV at *
    refine cOf (by kernel_rfl) rfl ?_
    rw [g55_eq]
    simp only [g55, go1, Option.bind_some, eq_self, cond_true, cond_false, Nat.reduceAdd, Int.reduceEq, Int.reduceLT, Int.reduceLE, Int.reduceSub, Int.reduceAdd, irows_len]
    have hq : (decide (4 < (la.length : Int)) || decide (1000 < (lb.length : Int)) || decide (lo < 0) || decide ((lb.length : Int) < hi) || decide (hi < lo)) = true := by
      simp only [Bool.or_eq_true, decide_eq_true_eq]; omega
    rw [hq]
    rfl
end Go.Vm
end

section
set_option maxRecDepth 100000
set_option maxHeartbeats 2000000
namespace Go.Vm
open Go.Proofs
theorem c70 (k : Int) (h : -1000 ≤ k) (h1 : k ≤ 1000000) : cF 153 [.d (.int .i64 k)] = some (.val [.int .i64 (tyOf k).k, .int .i64 (tyOf k).e, .int .i64 (tyOf k).l]) := by
  refine cOf (by kernel_rfl) rfl ?_
  rw [g153_eq]
  simp only [g153, go1, Option.bind_some, eq_self, cond_true, cond_false, Nat.reduceAdd, Int.reduceEq, Int.reduceLT, Int.reduceLE, Int.reduceSub, Int.reduceAdd]
  rw [wrap_id (by omega) (by omega)]
  unfold tyOf
  by_cases h : k < 3
  · rw [decT h, if_pos h]; rfl
  · rw [decF h, if_neg h]; rfl
def topB (row : List Int) (j : Nat) : Int := if row.length ≤ j then 0 else topN row j
theorem c71 (row : List Int) (j : Nat) (hr : row.length ≤ 1000) (hj : j ≤ 10) : cF 154 [.d (.sl 1 (irows row)), .d (.int .i64 (j : Int))] = some (.val [.int .i64 (topB row j)]) := by
  refine cOf (by kernel_rfl) rfl ?_
  rw [g154_eq]
  simp only [g154, go1, Option.bind_some, eq_self, cond_true, cond_false, Nat.reduceAdd, Int.reduceEq, Int.reduceLT, Int.reduceLE, Int.reduceSub, Int.reduceAdd, irows_len]
  unfold topB topN
  by_cases h : row.length ≤ j
  · rw [decT (by omega), if_pos h]; rfl
  · rw [decF (by omega), if_neg h]
    simp only [go1, Option.bind_some, eq_self, cond_true, cond_false, Nat.reduceAdd, Int.reduceEq, Int.reduceLT, Int.reduceLE, Int.reduceSub, Int.reduceAdd]
    rw [wrap_id (n := (row.length : Int) - 1) (by omega) (by omega), wrap_id (by omega) (by omega), decT (p := 0 ≤ (row.length : Int) - 1 - j ∧ (row.length : Int) - 1 - j < (row.length : Int)) (by omega), irows_cell (by omega) (by omega)]
    simp only [go1, Option.bind_some, eq_self, cond_true, cond_false, Nat.reduceAdd, Int.reduceEq, Int.reduceLT, Int.reduceLE, Int.reduceSub, Int.reduceAdd]
    rw [show ((row.length : Int) - 1 - j).toNat = row.length - 1 - j by omega]
theorem c71_0 (row : List Int) (hr : row.length ≤ 1000) : cF 154 [.d (.sl 1 (irows row)), .d (.int .i64 0)] = some (.val [.int .i64 (topB row 0)]) := c71 row 0 hr (by omega)
theorem c71_1 (row : List Int) (hr : row.length ≤ 1000) : cF 154 [.d (.sl 1 (irows row)), .d (.int .i64 1)] = some (.val [.int .i64 (topB row 1)]) := c71 row 1 hr (by omega)
theorem c68_k (row : List Int) (j : Nat) (k : Int) (hr : row.length ≤ 1000) (hj : j ≤ row.length) (hk : k ≠ 0) : cF 151 [.d (.sl 1 (irows row)), .d (.int .i64 (j : Int)), .d (.int .i64 k)] = some (.own 3 1 (irows (dropTop row j ++ [k]))) := by
  refine cOf (by kernel_rfl) rfl ?_
  rw [g151_eq]
  simp only [g151, go1, Option.bind_some, eq_self, cond_true, cond_false, Nat.reduceAdd, Int.reduceEq, Int.reduceLT, Int.reduceLE, Int.reduceSub, Int.reduceAdd, irows_len]
  rw [wrap_id (by omega) (by omega), decT (p := 0 ≤ (row.length : Int) - j ∧ (row.length : Int) - j ≤ (row.length : Int)) (by omega), decF hk]
  have e : List.drop (Int.toNat 0) (List.take ((row.length : Int) - j).toNat (irows row)) = irows (dropTop row j) := by
    show List.drop 0 _ = _
    rw [List.drop_zero, irows_take, show ((row.length : Int) - j).toNat = row.length - j by omega]; rfl
  have hl : (dropTop row j).length ≤ 1000 := by unfold dropTop; rw [List.length_take]; omega
  simp only [go1, Option.bind_some, eq_self, cond_true, cond_false, Nat.reduceAdd, Int.reduceEq, Int.reduceLT, Int.reduceLE, Int.reduceSub, Int.reduceAdd, e, List.nil_append, irows_len, List.length_nil, List.length_cons]
  rw [decT (by omega), decT (by omega)]
  simp only [go1, Option.bind_some, eq_self, cond_true, cond_false, Nat.reduceAdd, Int.reduceEq, Int.reduceLT, Int.reduceLE, Int.reduceSub, Int.reduceAdd]
  rw [show ([[D.int .i64 k]] : List (List D)) = irows [k] from rfl, irows_app]
theorem c68_0 (row : List Int) (j : Nat) (hr : row.length ≤ 1000) (hj : j ≤ row.length) : cF 151 [.d (.sl 1 (irows row)), .d (.int .i64 (j : Int)), .d (.int .i64 0)] = some (.own 3 1 (irows (dropTop row j))) := by
  refine cOf (by kernel_rfl) rfl ?_
  rw [g151_eq]
  simp only [g151, go1, Option.bind_some, eq_self, cond_true, cond_false, Nat.reduceAdd, Int.reduceEq, Int.reduceLT, Int.reduceLE, Int.reduceSub, Int.reduceAdd, irows_len]
  rw [wrap_id (by omega) (by omega), decT (p := 0 ≤ (row.length : Int) - j ∧ (row.length : Int) - j ≤ (row.length : Int)) (by omega)]
  have e : List.drop (Int.toNat 0) (List.take ((row.length : Int) - j).toNat (irows row)) = irows (dropTop row j) := by
    show List.drop 0 _ = _
    rw [List.drop_zero, irows_take, show ((row.length : Int) - j).toNat = row.length - j by omega]; rfl
  have hl : (dropTop row j).length ≤ 1000 := by unfold dropTop; rw [List.length_take]; omega
  simp only [go1, Option.bind_some, eq_self, cond_true, cond_false, Nat.reduceAdd, Int.reduceEq, Int.reduceLT, Int.reduceLE, Int.reduceSub, Int.reduceAdd, e, List.nil_append, irows_len, List.length_nil]
  rw [decT (by omega)]
  simp only [go1, Option.bind_some, eq_self, cond_true, cond_false, Nat.reduceAdd, Int.reduceEq, Int.reduceLT, Int.reduceLE, Int.reduceSub, Int.reduceAdd]
theorem c69 (op : Int) (t : Ty3) : cF 152 [.d (.int .i64 op), t.v] = some (tyR (unTy op t)) := by
  unfold Ty3.v tyV
  refine cOf (by kernel_rfl) rfl ?_
  rw [g152_eq]
  simp only [g152, go1, Option.bind_some, eq_self, cond_true, cond_false, Nat.reduceAdd, Int.reduceEq, Int.reduceLT, Int.reduceLE, Int.reduceSub, Int.reduceAdd, c101]
  unfold unTy
  simp only [ty_ext]
  by_cases h1 : op = 1 <;> by_cases h2 : op = 2 <;> by_cases h3 : t.k = 1 <;> by_cases h4 : t.k = 2 <;> by_cases h5 : t.e = 0 <;> by_cases h6 : t.l = 0 <;> simp [h1, h2, h3, h4, h5, h6, tyR] <;> omega
theorem deq3 (t : Ty3) (a b c : Int) : (decide (t.k = a) && (decide (t.e = b) && decide (t.l = c))) = decide (t = ⟨a, b, c⟩) := by
  rw [Bool.eq_iff_iff]; simp [ty_ext]
theorem deq3' (t u : Ty3) : (decide (t.k = u.k) && (decide (t.e = u.e) && decide (t.l = u.l))) = decide (t = u) := by
  rw [Bool.eq_iff_iff]; simp [ty_ext]
theorem c73 (op : Int) (t u : Ty3) : cF 156 [.d (.int .i64 op), t.v, u.v] = some (tyR (binTy op t u)) := by
  unfold Ty3.v tyV
  refine cOf (by kernel_rfl) rfl ?_
  rw [g156_eq]
  simp only [g156, go1, Option.bind_some, eq_self, cond_true, cond_false, Nat.reduceAdd, Int.reduceEq, Int.reduceLT, Int.reduceLE, Int.reduceSub, Int.reduceAdd, c101]
  simp only [deq3']
  simp only [deq3]
  unfold binTy
  by_cases g1 : 3 ≤ op ∧ op ≤ 7
  · have hg : group op = 1 := if_pos g1
    rw [hg]
    simp (disch := omega) only [wrap_id, decT, decF, go1, Option.bind_some, eq_self, cond_true, cond_false, Nat.reduceAdd, Int.reduceEq, Int.reduceLT, Int.reduceLE, Int.reduceSub, Int.reduceAdd]
    by_cases a1 : t = ⟨1, 0, 0⟩ <;> by_cases a2 : t = ⟨2, 0, 0⟩ <;> by_cases b1 : u = ⟨1, 0, 0⟩ <;> simp_all [tyR]
  by_cases g2 : 8 ≤ op ∧ op ≤ 10
  · have hg : group op = 2 := by unfold group; rw [if_neg g1, if_pos g2]
    rw [hg]
    simp (disch := omega) only [wrap_id, decT, decF, go1, Option.bind_some, eq_self, cond_true, cond_false, Nat.reduceAdd, Int.reduceEq, Int.reduceLT, Int.reduceLE, Int.reduceSub, Int.reduceAdd]
    by_cases a1 : t = ⟨1, 0, 0⟩ <;> by_cases a2 : t = ⟨2, 0, 0⟩ <;> by_cases b1 : u = ⟨2, 0, 0⟩ <;> simp_all [tyR]
  by_cases g4 : op = 11 ∨ op = 12
  · have hg : group op = 4 := by unfold group; rw [if_neg g1, if_neg g2, if_pos g4]
    rw [hg]
    rcases g4 with rfl | rfl
    · simp (disch := omega) only [wrap_id, decT, decF, go1, Option.bind_some, eq_self, cond_true, cond_false, Nat.reduceAdd, Int.reduceEq, Int.reduceLT, Int.reduceLE, Int.reduceSub, Int.reduceAdd]
      by_cases a1 : t = ⟨1, 0, 0⟩ <;> by_cases a2 : t = ⟨2, 0, 0⟩ <;> by_cases b1 : t = u <;> by_cases c1 : t.l = 0 <;> simp_all [tyR]
    · simp (disch := omega) only [wrap_id, decT, decF, go1, Option.bind_some, eq_self, cond_true, cond_false, Nat.reduceAdd, Int.reduceEq, Int.reduceLT, Int.reduceLE, Int.reduceSub, Int.reduceAdd]
      by_cases a1 : t = ⟨1, 0, 0⟩ <;> by_cases a2 : t = ⟨2, 0, 0⟩ <;> by_cases b1 : t = u <;> by_cases c1 : t.l = 0 <;> simp_all [tyR]
  by_cases g3 : 13 ≤ op ∧ op ≤ 16
  · have hg : group op = 3 := by unfold group; rw [if_neg g1, if_neg g2, if_neg g4, if_pos g3]
    rw [hg]
    simp (disch := omega) only [wrap_id, decT, decF, go1, Option.bind_some, eq_self, cond_true, cond_false, Nat.reduceAdd, Int.reduceEq, Int.reduceLT, Int.reduceLE, Int.reduceSub, Int.reduceAdd]
    by_cases a1 : t = ⟨1, 0, 0⟩ <;> by_cases a2 : t = ⟨2, 0, 0⟩ <;> by_cases b1 : u = ⟨1, 0, 0⟩ <;> simp_all [tyR]
  · have hg : group op = 0 := by unfold group; rw [if_neg g1, if_neg g2, if_neg g4, if_neg g3]
    rw [hg]
    have e1 : (decide (3 ≤ op) && decide (op ≤ 7)) = false := by rw [Bool.eq_false_iff]; intro h; simp only [Bool.and_eq_true, decide_eq_true_eq] at h; omega
    have e2 : (decide (8 ≤ op) && decide (op ≤ 10)) = false := by rw [Bool.eq_false_iff]; intro h; simp only [Bool.and_eq_true, decide_eq_true_eq] at h; omega
    have e3 : ∀ p : Bool, (decide (13 ≤ op) && (decide (op ≤ 16) && p)) = false := fun p => by rw [Bool.eq_false_iff]; intro h; simp only [Bool.and_eq_true, decide_eq_true_eq] at h; omega
    simp (disch := omega) only [wrap_id, decT, decF, go1, Option.bind_some, eq_self, cond_true, cond_false, Nat.reduceAdd, Int.reduceEq, Int.reduceLT, Int.reduceLE, Int.reduceSub, Int.reduceAdd, e1, e2, e3]
    by_cases a1 : t = ⟨1, 0, 0⟩ <;> by_cases a2 : t = ⟨2, 0, 0⟩ <;> simp_all [tyR]
theorem c72 (t : Ty3) (h : -1000 ≤ t.e) (h1 : t.e ≤ 1000000) : cF 155 [t.v] = some (.val [.int .i64 (if t.k < 3 then t.k else 3 + t.e)]) := by
  unfold Ty3.v tyV
  refine cOf (by kernel_rfl) rfl ?_
  rw [g155_eq]
  simp only [g155, go1, Option.bind_some, eq_self, cond_true, cond_false, Nat.reduceAdd, Int.reduceEq, Int.reduceLT, Int.reduceLE, Int.reduceSub, Int.reduceAdd]
  rw [wrap_id (by omega) (by omega)]
  by_cases h : t.k < 3
  · rw [decT h, if_pos h]; rfl
  · rw [decF h, if_neg h]; rfl
theorem c37 (la lb : List Int) (hl : la.length ≤ 100000) : cF 93 [.d (.sl 1 (irows la)), .d (.sl 1 (irows lb))] = some (.val [.bool (la == lb)]) := by
  refine cOf (by kernel_rfl) rfl ?_
  rw [g93_eq]
  simp only [g93, go1, Option.bind_some, eq_self, cond_true, cond_false, Nat.reduceAdd, Int.reduceEq, Int.reduceLT, Int.reduceLE, Int.reduceSub, Int.reduceAdd, irows_len]
  by_cases hlen : la.length = lb.length
  · rw [decT (p := (la.length : Int) = (lb.length : Int)) (by omega)]
    simp only [go1, Option.bind_some, eq_self, cond_true, cond_false, Nat.reduceAdd, Int.reduceEq, Int.reduceLT, Int.reduceLE, Int.reduceSub, Int.reduceAdd]
    refine loopF_at (fun i : Nat => [.sl 1 (irows la), .sl 1 (irows lb), .int .i64 (i : Int)]) (fun i => i ≤ la.length ∧ (la == lb) = (la.drop i == lb.drop i)) (fun i => la.length - i) (fun i ⟨hi, he⟩ => ?_) 0 ⟨Nat.zero_le _, rfl⟩
    by_cases hlt : i < la.length
    · have hx : la[i]? = some la[i] := List.getElem?_eq_getElem hlt
      have hy : lb[i]? = some (lb[i]'(by omega)) := List.getElem?_eq_getElem (by omega)
      have hd : (la.drop i == lb.drop i) = (decide (la[i] = lb[i]'(by omega)) && (la.drop (i + 1) == lb.drop (i + 1))) := by
        rw [List.drop_eq_getElem_cons hlt, List.drop_eq_getElem_cons (show i < lb.length by omega), List.cons_beq_cons]
        congr 1
      simp only [go1, Option.bind_some, eq_self, cond_true, cond_false, Nat.reduceAdd, Int.reduceEq, Int.reduceLT, Int.reduceLE, Int.reduceSub, Int.reduceAdd, irows_len, ilt_at hlt, inr_at hlt, inr_at (show i < lb.length by omega), irows_at hx, irows_at hy, wrap_succ hlt (by omega)]
      by_cases hq : la[i] = lb[i]'(by omega)
      · left
        refine ⟨i + 1, by simp [hq], ⟨by omega, ?_⟩, by omega⟩
        rw [he, hd]; simp [hq]
      · right
        rw [he, hd]; simp [hq]
    · right
      have : i = la.length := by omega
      subst this
      simp only [go1, Option.bind_some, eq_self, cond_true, cond_false, Nat.reduceAdd, Int.reduceEq, Int.reduceLT, Int.reduceLE, Int.reduceSub, Int.reduceAdd, irows_len, ilt_self]
      rw [he, List.drop_length, hlen, List.drop_length]
      rfl
  · rw [decF (p := (la.length : Int) = (lb.length : Int)) (by omega)]
    have : (la == lb) = false := by rw [Bool.eq_false_iff]; intro h; exact hlen (by rw [eq_of_beq h])
    rw [this]
    rfl
end Go.Vm
end

section
set_option maxRecDepth 100000
set_option maxHeartbeats 2000000
namespace Go.Vm
open Go.Proofs
theorem all_loop2 {τ α : Type} {b : List D → Option (List D ⊕ α)} {r0 r1 r : α} {ds : List D} (p : τ → Bool) (l : List τ) (mk : Nat → List D) (h0 : mk 0 = ds)
    (hb : ∀ i x, l[i]? = some x → b (mk i) = bif p x then some (.inl (mk (i + 1))) else some (.inr r0))
    (hend : l.all p = true → b (mk l.length) = some (.inr r1)) (hr : (bif l.all p then r1 else r0) = r) : loopF b ds = some r := by
  rw [← h0, all_loop p l mk hb hend, hr]
theorem c102 (a : List (List D)) (lb : List Int) (lo hi at_ n : Int) (h0 : 0 ≤ at_) (h1 : at_ ≤ 100000) (h2 : 1 ≤ n) (h3 : n ≤ 8) (hlb : lb.length ≤ 10000) : cF 211 [shV a (irows lb) lo hi, .d (.int .i64 at_), .d (.int .i64 n)] = some (.val [.int .i64 ((cellsK lb at_ n).getD 0)]) := by
  unfold shV
  by_cases hle : (lb.length : Int) < at_ + n
  · unfold cellsK il
    rw [if_neg (by omega)]
    refine cOf (by kernel_rfl) rfl ?_
    rw [g211_eq]
    simp only [g211, go1, Option.bind_some, eq_self, cond_true, cond_false, Nat.reduceAdd, Int.reduceEq, Int.reduceLT, Int.reduceLE, Int.reduceSub, Int.reduceAdd, irows_len]
    simp (disch := omega) only [wrap_id, decT, decF, go1, Option.bind_some, eq_self, cond_true, cond_false, Nat.reduceAdd, Int.reduceEq, Int.reduceLT, Int.reduceLE, Int.reduceSub, Int.reduceAdd]
    rfl
  · have hc : cellsK lb at_ n = if ((lb.drop at_.toNat).take n.toNat).all (fun k => k == lb.getD at_.toNat 0) then some (lb.getD at_.toNat 0) else none := by
      unfold cellsK il; rw [if_pos (by omega)]
    rw [hc]
    refine cOf (by kernel_rfl) rfl ?_
    rw [g211_eq]
    simp only [g211, go1, Option.bind_some, eq_self, cond_true, cond_false, Nat.reduceAdd, Int.reduceEq, Int.reduceLT, Int.reduceLE, Int.reduceSub, Int.reduceAdd, irows_len]
    simp (disch := omega) only [wrap_id, decT, decF, go1, Option.bind_some, eq_self, cond_true, cond_false, Nat.reduceAdd, Int.reduceEq, Int.reduceLT, Int.reduceLE, Int.reduceSub, Int.reduceAdd]
    refine all_loop2 (r0 := PRes.val [.int .i64 0]) (r1 := PRes.val [.int .i64 (lb.getD at_.toNat 0)]) (fun k => k == lb.getD at_.toNat 0) ((lb.drop at_.toNat).take n.toNat) (fun j => [.int .i64 at_, .int .i64 n, .int .i64 (at_ + (j : Int)), .sl 1 a, .sl 1 (irows lb), .int .i64 lo, .int .i64 hi]) (by simp) (fun i x hx => ?_) (fun _ => ?_) ?_
    · have hlt := (List.getElem?_eq_some_iff.1 hx).1
      rw [List.length_take, List.length_drop] at hlt
      rw [List.getElem?_take, if_pos (by omega), List.getElem?_drop] at hx
      have hcell : sy.cell (sy.row (irows lb) (at_ + (i : Int))) 0 = some (.int .i64 x) := by
        have := irows_at hx
        rwa [show ((at_.toNat + i : Nat) : Int) = at_ + i by omega] at this
      simp (disch := omega) only [wrap_id, decT, decF, go1, Option.bind_some, eq_self, cond_true, cond_false, Nat.reduceAdd, Int.reduceEq, Int.reduceLT, Int.reduceLE, Int.reduceSub, Int.reduceAdd, irows_len, hcell, irows_cell (la := lb) h0 (by omega)]
      by_cases hq : x = lb.getD at_.toNat 0
      · rw [decT hq, show (x == lb.getD at_.toNat 0) = true from by simp [hq], show at_ + (i : Int) + 1 = at_ + ((i + 1 : Nat) : Int) by omega]; rfl
      · rw [decF hq, show (x == lb.getD at_.toNat 0) = false from by rw [beq_eq_false_iff_ne]; exact hq]; rfl
    · have hl : (((lb.drop at_.toNat).take n.toNat).length : Int) = n := by rw [List.length_take, List.length_drop]; omega
      rw [hl]
      simp (disch := omega) only [wrap_id, decT, decF, go1, Option.bind_some, eq_self, cond_true, cond_false, Nat.reduceAdd, Int.reduceEq, Int.reduceLT, Int.reduceLE, Int.reduceSub, Int.reduceAdd, irows_len, irows_cell (la := lb) h0 (by omega)]
    · cases (List.all (List.take n.toNat (List.drop at_.toNat lb)) fun k => k == lb.getD at_.toNat 0) <;> rfl
theorem free_range (lo hi at_ n : Int) (h2 : 1 ≤ n) : ((List.range n.toNat).all fun (j : Nat) => !(decide (lo ≤ at_ + (j : Int)) && decide (at_ + (j : Int) < hi))) = !fixedB lo hi at_ n := by
  unfold fixedB
  rw [Bool.eq_iff_iff, List.all_eq_true]
  simp only [List.mem_range, Bool.not_eq_true', Bool.and_eq_false_iff, decide_eq_false_iff_not]
  constructor
  · intro h
    by_cases h1 : at_ < hi ∧ lo < at_ + n ∧ lo < hi
    · exfalso
      by_cases h4 : at_ ≤ lo
      · have := h (lo - at_).toNat (by omega)
        omega
      · have := h 0 (by omega)
        omega
    · omega
  · intro h j hj
    omega
theorem c103 (a b : List (List D)) (lo hi at_ n : Int) (h0 : 0 ≤ at_) (h1 : at_ ≤ 100000) (h2 : 1 ≤ n) (h3 : n ≤ 1000) : cF 212 [shV a b lo hi, .d (.int .i64 at_), .d (.int .i64 n)] = some (.val [.bool (!fixedB lo hi at_ n)]) := by
  unfold shV
  refine cOf (by kernel_rfl) rfl ?_
  rw [g212_eq]
  simp only [g212, go1, Option.bind_some, eq_self, cond_true, cond_false, Nat.reduceAdd, Int.reduceEq, Int.reduceLT, Int.reduceLE, Int.reduceSub, Int.reduceAdd]
  rw [← free_range lo hi at_ n h2]
  refine all_loop2 (r0 := PRes.val [.bool false]) (r1 := PRes.val [.bool true]) (fun (j : Nat) => !(decide (lo ≤ at_ + (j : Int)) && decide (at_ + (j : Int) < hi))) (List.range n.toNat) (fun j => [.int .i64 at_, .int .i64 n, .int .i64 (at_ + (j : Int)), .sl 1 a, .sl 1 b, .int .i64 lo, .int .i64 hi]) (by simp) (fun i x hx => ?_) (fun _ => ?_) ?_
  · have hlt := (List.getElem?_eq_some_iff.1 hx).1
    rw [List.length_range] at hlt
    rw [List.getElem?_range hlt] at hx
    cases hx
    simp (disch := omega) only [wrap_id, decT, decF, go1, Option.bind_some, eq_self, cond_true, cond_false, Nat.reduceAdd, Int.reduceEq, Int.reduceLT, Int.reduceLE, Int.reduceSub, Int.reduceAdd]
    rw [show at_ + (i : Int) + 1 = at_ + ((i + 1 : Nat) : Int) by omega]
    cases (decide (lo ≤ at_ + (i : Int)) && decide (at_ + (i : Int) < hi)) <;> rfl
  · rw [List.length_range]
    simp (disch := omega) only [wrap_id, decT, decF, go1, Option.bind_some, eq_self, cond_true, cond_false, Nat.reduceAdd, Int.reduceEq, Int.reduceLT, Int.reduceLE, Int.reduceSub, Int.reduceAdd]
  · cases (List.all (List.range n.toNat) _) <;> rfl
end Go.Vm
end

section
set_option maxRecDepth 100000
set_option maxHeartbeats 2000000
namespace Go.Vm
open Go.Proofs
theorem drop_last {row : List Int} (h : 1 ≤ row.length) : row.drop (row.length - 1) = [topN row 0] := by
  rw [List.drop_eq_getElem_cons (by omega), List.drop_eq_nil_of_le (by omega)]
  unfold topN
  rw [List.getD_eq_getElem?_getD, List.getElem?_eq_getElem (by omega)]
  rfl
theorem drop_last2 {row : List Int} (h : 2 ≤ row.length) : row.drop (row.length - 2) = [topN row 1, topN row 0] := by
  rw [List.drop_eq_getElem_cons (by omega), show row.length - 2 + 1 = row.length - 1 by omega, drop_last (by omega)]
  congr 1
  unfold topN
  rw [List.getD_eq_getElem?_getD, List.getElem?_eq_getElem (show row.length - 1 - 1 < row.length by omega)]
  rfl
theorem ends1 (row : List Int) (k : Int) (hk : 1 ≤ k) : endsB row [k] = decide (topB row 0 = k) := by
  unfold endsB topB
  by_cases h : row.length ≤ 0
  · rw [if_pos h, decF (p := (0 : Int) = k) (by omega), decF (p := List.length [k] ≤ row.length) (by simp only [List.length_cons, List.length_nil]; omega), Bool.and_false]
  · rw [if_neg h, decT (p := List.length [k] ≤ row.length) (by simp only [List.length_cons, List.length_nil]; omega), Bool.and_true]
    show (row.drop (row.length - 1) == [k]) = _
    rw [drop_last (by omega), Bool.eq_iff_iff]; simp
theorem ends2 (row : List Int) (k : Int) (hk : 1 ≤ k) : endsB row [k, 1] = (decide (topB row 0 = 1) && decide (topB row 1 = k)) := by
  unfold endsB topB
  by_cases h : row.length ≤ 1
  · rw [if_pos h, decF (p := (0 : Int) = k) (by omega), decF (p := List.length [k, 1] ≤ row.length) (by simp only [List.length_cons, List.length_nil]; omega), Bool.and_false, Bool.and_false]
  · rw [if_neg h, if_neg (by omega), decT (p := List.length [k, 1] ≤ row.length) (by simp only [List.length_cons, List.length_nil]; omega), Bool.and_true]
    show (row.drop (row.length - 2) == [k, 1]) = _
    rw [drop_last2 (by omega), Bool.eq_iff_iff]; simp [and_comm]
theorem c68_k0 (row : List Int) (k : Int) (hr : row.length ≤ 1000) (hk : k ≠ 0) : cF 151 [.d (.sl 1 (irows row)), .d (.int .i64 0), .d (.int .i64 k)] = some (.own 3 1 (irows (row ++ [k]))) := by
  have := c68_k row 0 k hr (by omega) hk
  rwa [show dropTop row 0 = row by unfold dropTop; simp] at this
theorem c68_k1 (row : List Int) (k : Int) (hr : row.length ≤ 1000) (hj : 1 ≤ row.length) (hk : k ≠ 0) : cF 151 [.d (.sl 1 (irows row)), .d (.int .i64 1), .d (.int .i64 k)] = some (.own 3 1 (irows (dropTop row 1 ++ [k]))) := c68_k row 1 k hr hj hk
theorem c68_k2 (row : List Int) (k : Int) (hr : row.length ≤ 1000) (hj : 2 ≤ row.length) (hk : k ≠ 0) : cF 151 [.d (.sl 1 (irows row)), .d (.int .i64 2), .d (.int .i64 k)] = some (.own 3 1 (irows (dropTop row 2 ++ [k]))) := c68_k row 2 k hr hj hk
theorem c68_01 (row : List Int) (hr : row.length ≤ 1000) (hj : 1 ≤ row.length) : cF 151 [.d (.sl 1 (irows row)), .d (.int .i64 1), .d (.int .i64 0)] = some (.own 3 1 (irows (dropTop row 1))) := c68_0 row 1 hr hj
theorem c68_02 (row : List Int) (hr : row.length ≤ 1000) (hj : 2 ≤ row.length) : cF 151 [.d (.sl 1 (irows row)), .d (.int .i64 2), .d (.int .i64 0)] = some (.own 3 1 (irows (dropTop row 2))) := c68_0 row 2 hr hj
theorem topB_len {row : List Int} {j : Nat} {k : Int} (hk : k ≠ 0) (h : topB row j = k) : j + 1 ≤ row.length := by
  unfold topB at h
  by_cases hl : row.length ≤ j
  · rw [if_pos hl] at h; omega
  · omega
theorem c74 (la lb : List Int) (lo hi : Int) (x : Ins) (row : List Int) (hlb : lb.length ≤ 10000) (hk1 : ∀ k ∈ lb, 1 ≤ k) (hr : row.length ≤ 1000) (ha : 0 ≤ x.a) (ha2 : x.a ≤ 65535) (hb0 : 0 ≤ x.b) (hb : x.b ≤ 8) (hop : x.op = 2 ∨ x.op = 3 ∨ x.op = 8 ∨ x.op = 9) :
    ∃ p, cF 157 [shV (irows la) (irows lb) lo hi, insV x, .d (.sl 1 (irows row))] = some p ∧ rowR (memS ⟨la, lb, lo, hi⟩ x row) p := by
  have h102 := c102 (irows la) lb lo hi x.a (max 1 x.b) ha (by omega) (by omega) (by omega) hlb
  have h103 := c103 (irows la) (irows lb) lo hi x.a (max 1 x.b) ha (by omega) (by omega) (by omega)
  have t0 := c71_0 row hr
  have t1 := c71_1 row hr
  unfold shV at h102 h103 ⊢
  unfold insV memS
  simp only
  cases hk : cellsK lb x.a (max 1 x.b) with
  | none =>
    rw [hk] at h102
    simp only [Option.getD_none] at h102
    refine cOfP (by kernel_rfl) rfl ?_
    simp only [g157_eq, g157, some_and, go1, Option.bind_some, eq_self, cond_true, cond_false, Nat.reduceAdd, Int.reduceEq, Int.reduceLT, Int.reduceLE, Int.reduceSub, Int.reduceAdd, h102]
    exact ⟨[], rfl⟩
  | some k =>
    have hkk : 1 ≤ k := hk1 k (cellsK_mem hk ha (by omega))
    have hk0 : k ≠ 0 := by omega
    rw [hk] at h102
    simp only [Option.getD_some] at h102
    have kz := decF hk0
    simp only
    rcases hop with h | h | h | h
    · rw [if_pos h]
      refine cOfP (by kernel_rfl) rfl ?_
      simp only [g157_eq, g157, some_and, go1, Option.bind_some, eq_self, cond_true, cond_false, Nat.reduceAdd, Int.reduceEq, Int.reduceLT, Int.reduceLE, Int.reduceSub, Int.reduceAdd, h102, h, kz, c68_k0 row k hr hk0, irows_len]
      by_cases hl : row.length < 16
      · rw [if_pos hl, decT (by omega)]; rfl
      · rw [if_neg hl, decF (by omega)]; exact ⟨_, rfl⟩
    · rw [if_neg (by omega), if_neg (by omega), if_pos h, ends1 row k hkk]
      by_cases he : topB row 0 = k
      · have hlen := topB_len hk0 he
        cases hf : fixedB lo hi x.a (max 1 x.b) with
        | true =>
          refine cOfP (by kernel_rfl) rfl ?_
          simp only [g157_eq, g157, some_and, go1, Option.bind_some, eq_self, cond_true, cond_false, Nat.reduceAdd, Int.reduceEq, Int.reduceLT, Int.reduceLE, Int.reduceSub, Int.reduceAdd, h102, h, kz, t0, h103, decT he, hf]
          exact ⟨[], rfl⟩
        | false =>
          refine cOfP (by kernel_rfl) rfl ?_
          simp only [g157_eq, g157, some_and, go1, Option.bind_some, eq_self, cond_true, cond_false, Nat.reduceAdd, Int.reduceEq, Int.reduceLT, Int.reduceLE, Int.reduceSub, Int.reduceAdd, h102, h, kz, t0, h103, decT he, hf, c68_01 row hr hlen]
          rfl
      · refine cOfP (by kernel_rfl) rfl ?_
        simp only [g157_eq, g157, some_and, go1, Option.bind_some, eq_self, cond_true, cond_false, Nat.reduceAdd, Int.reduceEq, Int.reduceLT, Int.reduceLE, Int.reduceSub, Int.reduceAdd, h102, h, kz, t0, h103, decF he]
        exact ⟨[], rfl⟩
    · rw [if_neg (by omega), if_pos h, ends1 row 1 (by omega)]
      by_cases he : topB row 0 = 1
      · have hlen := topB_len (by omega) he
        refine cOfP (by kernel_rfl) rfl ?_
        simp only [g157_eq, g157, some_and, go1, Option.bind_some, eq_self, cond_true, cond_false, Nat.reduceAdd, Int.reduceEq, Int.reduceLT, Int.reduceLE, Int.reduceSub, Int.reduceAdd, h102, h, kz, t0, decT he, c68_k1 row k hr hlen hk0]
        rfl
      · refine cOfP (by kernel_rfl) rfl ?_
        simp only [g157_eq, g157, some_and, go1, Option.bind_some, eq_self, cond_true, cond_false, Nat.reduceAdd, Int.reduceEq, Int.reduceLT, Int.reduceLE, Int.reduceSub, Int.reduceAdd, h102, h, kz, t0, decF he]
        exact ⟨[], rfl⟩
    · rw [if_neg (by omega), if_neg (by omega), if_neg (by omega), ends2 row k hkk]
      by_cases he : topB row 0 = 1
      · by_cases he2 : topB row 1 = k
        · have hlen := topB_len hk0 he2
          cases hf : fixedB lo hi x.a (max 1 x.b) with
          | true =>
            refine cOfP (by kernel_rfl) rfl ?_
            simp only [g157_eq, g157, some_and, go1, Option.bind_some, eq_self, cond_true, cond_false, Nat.reduceAdd, Int.reduceEq, Int.reduceLT, Int.reduceLE, Int.reduceSub, Int.reduceAdd, h102, h, kz, t0, t1, h103, decT he, decT he2, hf]
            exact ⟨[], rfl⟩
          | false =>
            refine cOfP (by kernel_rfl) rfl ?_
            simp only [g157_eq, g157, some_and, go1, Option.bind_some, eq_self, cond_true, cond_false, Nat.reduceAdd, Int.reduceEq, Int.reduceLT, Int.reduceLE, Int.reduceSub, Int.reduceAdd, h102, h, kz, t0, t1, h103, decT he, decT he2, hf, c68_02 row hr hlen]
            rfl
        · refine cOfP (by kernel_rfl) rfl ?_
          simp only [g157_eq, g157, some_and, go1, Option.bind_some, eq_self, cond_true, cond_false, Nat.reduceAdd, Int.reduceEq, Int.reduceLT, Int.reduceLE, Int.reduceSub, Int.reduceAdd, h102, h, kz, t0, t1, h103, decT he, decF he2]
          exact ⟨[], rfl⟩
      · refine cOfP (by kernel_rfl) rfl ?_
        simp only [g157_eq, g157, some_and, go1, Option.bind_some, eq_self, cond_true, cond_false, Nat.reduceAdd, Int.reduceEq, Int.reduceLT, Int.reduceLE, Int.reduceSub, Int.reduceAdd, h102, h, kz, t0, t1, h103, decF he]
        exact ⟨[], rfl⟩
end Go.Vm
end

section
set_option maxRecDepth 100000
set_option maxHeartbeats 2000000
namespace Go.Vm
open Go.Proofs
theorem topB_top {row : List Int} {j : Nat} (h : j + 1 ≤ row.length) : topB row j = topN row j := by
  unfold topB; rw [if_neg (by omega)]
theorem rowR_key {o : Option (List Int)} {p : PRes} (hp : rowR o p) : ∃ b l, p = .val [.sl 1 l, .bool b] := by
  unfold rowR at hp
  split at hp
  · exact ⟨_, _, hp⟩
  · obtain ⟨r, hp⟩ := hp; exact ⟨_, _, hp⟩
theorem tops_bd {row : List Int} (hrow : ∀ k ∈ row, 1 ≤ k ∧ k ≤ 100) (j : Nat) : 0 ≤ topB row j ∧ topB row j ≤ 100 := by
  unfold topB topN
  by_cases h : row.length ≤ j
  · rw [if_pos h]; omega
  · rw [if_neg h, List.getD_eq_getElem?_getD, List.getElem?_eq_getElem (by omega)]
    have := hrow _ (List.getElem_mem (show row.length - 1 - j < row.length by omega))
    simp only [Option.getD_some]; omega
theorem c36 (la lb : List Int) (lo hi : Int) (x : Ins) (row : List Int) (hla : la.length ≤ 10) (hlb : lb.length ≤ 10000) (hk1 : ∀ k ∈ lb, 1 ≤ k) (hl : row.length ≤ 100) (hrow : ∀ k ∈ row, 1 ≤ k ∧ k ≤ 100) (hx : rightB x = true) :
    ∃ p, cF 92 [shV (irows la) (irows lb) lo hi, insV x, .d (.sl 1 (irows row))] = some p ∧ rowR (nextS ⟨la, lb, lo, hi⟩ x row) p := by
  have hr : row.length ≤ 1000 := by omega
  have t0 := c71_0 row hr
  have t1 := c71_1 row hr
  have hops : x.op = 1 ∨ x.op = 4 ∨ x.op = 5 ∨ x.op = 7 ∨ x.op = 6 ∨ x.op = 10 ∨ x.op = 2 ∨ x.op = 3 ∨ x.op = 8 ∨ x.op = 9 := by
    rw [right_eq] at hx
    simp only [Bool.and_eq_true] at hx
    have := withinB_iff.1 hx.1.1.1
    omega
  have h42 := c42 la lb lo hi x.a (by omega)
  unfold nextS
  simp only
  by_cases h1 : x.op = 1
  · rw [if_pos h1]
    have ha : x.a ≠ 0 := by
      rw [right_eq] at hx
      simp only [Bool.and_eq_true] at hx
      have q2 := hx.1.1.2
      unfold firstB at q2
      rw [if_pos h1] at q2
      have := withinB_iff.1 q2
      omega
    have h68 := c68_k0 row x.a hr ha
    cases hk : kindB (il la) x.a with
    | false =>
      rw [hk] at h42
      unfold shV insV at *
      refine cOfP (by kernel_rfl) rfl ?_
      simp only [g92_eq, g92, some_and, go1, Option.bind_some, eq_self, cond_true, cond_false, Nat.reduceAdd, Int.reduceEq, Int.reduceLT, Int.reduceLE, Int.reduceSub, Int.reduceAdd, h1, h68, h42]
      exact ⟨_, rfl⟩
    | true =>
      have h49 := c49 la lb lo hi x.a x.n (by omega) hk
      rw [hk] at h42
      unfold shV insV at *
      cases hv : valueB la x.a x.n with
      | false =>
        rw [hv] at h49
        refine cOfP (by kernel_rfl) rfl ?_
        simp only [g92_eq, g92, some_and, go1, Option.bind_some, eq_self, cond_true, cond_false, Nat.reduceAdd, Int.reduceEq, Int.reduceLT, Int.reduceLE, Int.reduceSub, Int.reduceAdd, h1, h68, h42, h49]
        exact ⟨_, rfl⟩
      | true =>
        rw [hv] at h49
        by_cases hl2 : row.length < 16
        · refine cOfP (by kernel_rfl) rfl ?_
          simp only [g92_eq, g92, some_and, go1, Option.bind_some, eq_self, cond_true, cond_false, Nat.reduceAdd, Int.reduceEq, Int.reduceLT, Int.reduceLE, Int.reduceSub, Int.reduceAdd, h1, h68, h42, h49, irows_len]
          rw [decT hl2, decT (by omega)]
          rfl
        · refine cOfP (by kernel_rfl) rfl ?_
          simp only [g92_eq, g92, some_and, go1, Option.bind_some, eq_self, cond_true, cond_false, Nat.reduceAdd, Int.reduceEq, Int.reduceLT, Int.reduceLE, Int.reduceSub, Int.reduceAdd, h1, h68, h42, h49, irows_len]
          rw [decF hl2, decF (by omega)]
          exact ⟨_, rfl⟩
  rw [if_neg h1]
  by_cases h4 : x.op = 4
  · rw [if_pos (.inl h4)]
    have hb0 := tops_bd hrow 0
    have h70 := c70 (topB row 0) (by omega) (by omega)
    have h69 := c69 x.a (tyOf (topB row 0))
    unfold operS
    rw [if_pos h4]
    cases hq : unTy x.a (tyOf (topB row 0)) with
    | none =>
      rw [hq] at h69
      have e : (if row.length < 1 then none else (unTy x.a (tyOf (topN row 0))).map fun t => dropTop row 1 ++ [kindOf t]) = none := by
        by_cases hlen : row.length < 1
        · rw [if_pos hlen]
        · rw [if_neg hlen, ← topB_top (by omega), hq]; rfl
      rw [e]
      unfold shV insV Ty3.v tyV tyR at *
      refine cOfP (by kernel_rfl) rfl ?_
      simp only [g92_eq, g92, some_and, go1, Option.bind_some, eq_self, cond_true, cond_false, Nat.reduceAdd, Int.reduceEq, Int.reduceLT, Int.reduceLE, Int.reduceSub, Int.reduceAdd, h4, t0, h70, h69]
      exact ⟨[], rfl⟩
    | some t =>
      rw [hq] at h69
      have hlen : 1 ≤ row.length := by
        by_cases hlen : row.length ≤ 0
        · exfalso
          have : topB row 0 = 0 := by unfold topB; rw [if_pos hlen]
          rw [this] at hq
          unfold unTy at hq
          rw [show tyOf 0 = ⟨0, 0, 0⟩ from rfl] at hq
          by_cases g1 : x.a = 1 <;> by_cases g2 : x.a = 2 <;> simp [g1, g2] at hq
        · omega
      have hb := unTy_bd hq
      have h72 := c72 t (by rcases hb with rfl | rfl <;> simp) (by rcases hb with rfl | rfl <;> simp)
      have ek : (if t.k < 3 then t.k else 3 + t.e) = kindOf t := by rcases hb with rfl | rfl <;> rfl
      have ek0 : kindOf t ≠ 0 := by rcases hb with rfl | rfl <;> decide
      rw [ek] at h72
      have h68 := c68_k1 row (kindOf t) hr hlen ek0
      rw [if_neg (by omega), ← topB_top (by omega), hq]
      unfold shV insV Ty3.v tyV tyR at *
      refine cOfP (by kernel_rfl) rfl ?_
      simp only [g92_eq, g92, some_and, go1, Option.bind_some, eq_self, cond_true, cond_false, Nat.reduceAdd, Int.reduceEq, Int.reduceLT, Int.reduceLE, Int.reduceSub, Int.reduceAdd, h4, t0, h70, h69, h72, h68]
      rfl
  by_cases h5 : x.op = 5
  · rw [if_pos (.inr h5)]
    unfold operS
    rw [if_neg h4]
    by_cases hlen : row.length < 2
    · rw [if_pos hlen]
      unfold shV insV at *
      refine cOfP (by kernel_rfl) rfl ?_
      simp only [g92_eq, g92, some_and, go1, Option.bind_some, eq_self, cond_true, cond_false, Nat.reduceAdd, Int.reduceEq, Int.reduceLT, Int.reduceLE, Int.reduceSub, Int.reduceAdd, h5, irows_len, decT (p := (row.length : Int) < 2) (by omega)]
      exact ⟨[], rfl⟩
    · rw [if_neg hlen, ← topB_top (by omega), ← topB_top (by omega)]
      have hb0 := tops_bd hrow 0
      have hb1 := tops_bd hrow 1
      have h70 := c70 (topB row 0) (by omega) (by omega)
      have h70' := c70 (topB row 1) (by omega) (by omega)
      have h73 := c73 x.a (tyOf (topB row 1)) (tyOf (topB row 0))
      cases hq : binTy x.a (tyOf (topB row 1)) (tyOf (topB row 0)) with
      | none =>
        rw [hq] at h73
        unfold shV insV Ty3.v tyV tyR at *
        refine cOfP (by kernel_rfl) rfl ?_
        simp only [g92_eq, g92, some_and, go1, Option.bind_some, eq_self, cond_true, cond_false, Nat.reduceAdd, Int.reduceEq, Int.reduceLT, Int.reduceLE, Int.reduceSub, Int.reduceAdd, h5, irows_len, decF (p := (row.length : Int) < 2) (by omega), t0, t1, h70, h70', h73]
        exact ⟨[], rfl⟩
      | some t =>
        rw [hq] at h73
        have hb := binTy_bd hq
        have h72 := c72 t (by rcases hb with rfl | rfl <;> simp) (by rcases hb with rfl | rfl <;> simp)
        have ek : (if t.k < 3 then t.k else 3 + t.e) = kindOf t := by rcases hb with rfl | rfl <;> rfl
        have ek0 : kindOf t ≠ 0 := by rcases hb with rfl | rfl <;> decide
        rw [ek] at h72
        have h68 := c68_k2 row (kindOf t) hr (by omega) ek0
        unfold shV insV Ty3.v tyV tyR at *
        refine cOfP (by kernel_rfl) rfl ?_
        simp only [g92_eq, g92, some_and, go1, Option.bind_some, eq_self, cond_true, cond_false, Nat.reduceAdd, Int.reduceEq, Int.reduceLT, Int.reduceLE, Int.reduceSub, Int.reduceAdd, h5, irows_len, decF (p := (row.length : Int) < 2) (by omega), t0, t1, h70, h70', h73, h72, h68]
        rfl
  rw [if_neg (by omega)]
  by_cases h7 : x.op = 7
  · rw [if_pos h7, ends1 row 2 (by omega)]
    by_cases he : topB row 0 = 2
    · have hlen := topB_len (by omega) he
      unfold shV insV at *
      refine cOfP (by kernel_rfl) rfl ?_
      simp only [g92_eq, g92, some_and, go1, Option.bind_some, eq_self, cond_true, cond_false, Nat.reduceAdd, Int.reduceEq, Int.reduceLT, Int.reduceLE, Int.reduceSub, Int.reduceAdd, h7, t0, decT he, c68_01 row hr hlen]
      rfl
    · unfold shV insV at *
      refine cOfP (by kernel_rfl) rfl ?_
      simp only [g92_eq, g92, some_and, go1, Option.bind_some, eq_self, cond_true, cond_false, Nat.reduceAdd, Int.reduceEq, Int.reduceLT, Int.reduceLE, Int.reduceSub, Int.reduceAdd, h7, t0, decF he]
      exact ⟨[], rfl⟩
  rw [if_neg h7]
  by_cases h6 : x.op = 6
  · rw [if_pos h6]
    unfold shV insV at *
    refine cOfP (by kernel_rfl) rfl ?_
    simp only [g92_eq, g92, some_and, go1, Option.bind_some, eq_self, cond_true, cond_false, Nat.reduceAdd, Int.reduceEq, Int.reduceLT, Int.reduceLE, Int.reduceSub, Int.reduceAdd, h6]
    rfl
  rw [if_neg h6]
  by_cases h10 : x.op = 10
  · rw [if_pos h10]
    unfold shV insV at *
    refine cOfP (by kernel_rfl) rfl ?_
    simp only [g92_eq, g92, some_and, go1, Option.bind_some, eq_self, cond_true, cond_false, Nat.reduceAdd, Int.reduceEq, Int.reduceLT, Int.reduceLE, Int.reduceSub, Int.reduceAdd, h10, irows_len]
    by_cases h0 : row.length = 0
    · rw [if_pos h0, decT (by omega)]; rfl
    · rw [if_neg h0, decF (by omega)]; exact ⟨[], rfl⟩
  rw [if_neg h10]
  have hop : x.op = 2 ∨ x.op = 3 ∨ x.op = 8 ∨ x.op = 9 := by omega
  have hx2 := hx
  rw [right_eq] at hx2
  simp only [Bool.and_eq_true] at hx2
  obtain ⟨⟨⟨_, q2⟩, _⟩, q4⟩ := hx2
  unfold firstB at q2
  rw [if_neg h1, if_neg (by omega), if_neg (by omega), if_neg (by omega)] at q2
  have := withinB_iff.1 q2
  have hb : 0 ≤ x.b ∧ x.b ≤ 8 := by
    split at q4
    · have := withinB_iff.1 q4; omega
    · have := eq_of_beq q4; omega
  obtain ⟨p, h74, hp⟩ := c74 la lb lo hi x row hlb hk1 hr (by omega) (by omega) hb.1 hb.2 hop
  obtain ⟨b, l, rfl⟩ := rowR_key hp
  unfold shV insV at *
  refine cOfP (by kernel_rfl) rfl ?_
  simp only [g92_eq, g92, some_and, go1, Option.bind_some, eq_self, cond_true, cond_false, Nat.reduceAdd, Int.reduceEq, Int.reduceLT, Int.reduceLE, Int.reduceSub, Int.reduceAdd, decF h1, decF h4, decF h5, decF h7, decF h6, decF h10, h74]
  exact hp
end Go.Vm
end

section
set_option maxRecDepth 100000
set_option maxHeartbeats 4000000
namespace Go.Vm
open Go.Proofs
/-! ### the reference's check: arrays of what is known -/
def kA (n : Nat) (K : Known) : List (List D) := (List.range n).map fun m => [.bool (K m).isSome]
def rA (n : Nat) (K : Known) : List (List D) := (List.range n).map fun m => [.sl 1 (irows ((K m).getD []))]
def setK (K : Known) (t : Nat) (row : List Int) : Known := fun m => if m = t then some row else K m
theorem kA_len (n : Nat) (K : Known) : (kA n K).length = n := by simp [kA]
theorem rA_len (n : Nat) (K : Known) : (rA n K).length = n := by simp [rA]
theorem kA_at {n m : Nat} {K : Known} (h : m < n) : sy.cell (sy.rown (kA n K) m) 0 = some (.bool (K m).isSome) := by
  rw [sy_rown, kA, List.getD_eq_getElem?_getD, List.getElem?_map, List.getElem?_range h]; rfl
theorem rA_at {n m : Nat} {K : Known} (h : m < n) : sy.cell (sy.rown (rA n K) m) 0 = some (.sl 1 (irows ((K m).getD []))) := by
  rw [sy_rown, rA, List.getD_eq_getElem?_getD, List.getElem?_map, List.getElem?_range h]; rfl
theorem set_range {α : Type} {n m : Nat} {f g : Nat → α} {y : α} (hy : y = g m) (hg : ∀ i, i ≠ m → g i = f i) : ((List.range n).map f).set m y = (List.range n).map g := by
  apply List.ext_getElem
  · simp
  · intro i h1 h2
    rw [List.getElem_set, List.getElem_map, List.getElem_map]
    by_cases h : m = i
    · subst h; rw [if_pos rfl, hy]; simp
    · rw [if_neg h]; simp only [List.getElem_range]; rw [hg i (fun e => h e.symm)]
theorem kA_put {n m : Nat} {K : Known} (row : List Int) (h : m < n) : sy.rput (kA n K) m 0 [.bool true] = kA n (setK K m row) := by
  show (kA n K).set m (List.take 0 ((kA n K).getD m []) ++ [D.bool true] ++ List.drop (0 + 1) ((kA n K).getD m [])) = _
  have e : (kA n K).getD m [] = [.bool (K m).isSome] := by
    unfold kA; rw [List.getD_eq_getElem?_getD, List.getElem?_map, List.getElem?_range h]; rfl
  rw [e]
  unfold kA setK
  refine set_range ?_ fun i hi => ?_
  · rw [if_pos rfl]; rfl
  · rw [if_neg hi]
theorem rA_put {n m : Nat} {K : Known} {row : List Int} (h : m < n) : sy.rput (rA n K) m 0 [.sl 1 (irows row)] = rA n (setK K m row) := by
  show (rA n K).set m (List.take 0 ((rA n K).getD m []) ++ [D.sl 1 (irows row)] ++ List.drop (0 + 1) ((rA n K).getD m [])) = _
  have e : (rA n K).getD m [] = [.sl 1 (irows ((K m).getD []))] := by
    unfold rA; rw [List.getD_eq_getElem?_getD, List.getElem?_map, List.getElem?_range h]; rfl
  rw [e]
  unfold rA setK
  refine set_range ?_ fun i hi => ?_
  · rw [if_pos rfl]; rfl
  · rw [if_neg hi]
def K00 : Known := fun _ => none
theorem kA_zero (n : Nat) : List.replicate (n : Int).toNat [D.bool false] = kA n K00 := by
  unfold kA K00
  rw [Int.toNat_natCast]
  apply List.ext_getElem
  · simp
  · intro i h1 h2; simp
theorem rA_zero (n : Nat) : List.replicate (n : Int).toNat [D.sl 1 []] = rA n K00 := by
  unfold rA K00
  rw [Int.toNat_natCast]
  apply List.ext_getElem
  · simp
  · intro i h1 h2; simp; rfl
/-- As the reference does it: place by place. -/
def refPut (n : Nat) (row' : List Int) : List Int → Known → Option Known
  | [], K => some K
  | t :: ts, K => if (n : Int) ≤ t then none else match K t.toNat with
    | some was => if was = row' then refPut n row' ts (setK K t.toNat row') else none
    | none => refPut n row' ts (setK K t.toNat row')
theorem refPut_eq (n : Nat) (row' : List Int) : ∀ (T : List Int) (K : Known), refPut n row' T K = if (T.all fun m => decide (m < (n : Int))) then putAll row' T K else none
  | [], K => rfl
  | t :: ts, K => by
    unfold refPut putAll
    by_cases ht : (n : Int) ≤ t
    · rw [if_pos ht, List.all_cons, decF (by omega), Bool.false_and]; rfl
    · rw [if_neg ht, List.all_cons, decT (by omega), Bool.true_and]
      cases hk : K t.toNat with
      | none => exact refPut_eq n row' ts _
      | some was =>
        simp only
        by_cases he : was = row'
        · rw [if_pos he, if_pos he]; exact refPut_eq n row' ts _
        · rw [if_neg he, if_neg he]; split <;> rfl
theorem refPut_loop {b : List D → Option (List D ⊕ (List D ⊕ PRes))} (n : Nat) (T : List Int) (row' : List Int) (mkI : Nat → Known → List D) (mkO : Known → List D) (bad : PRes)
    (hb : ∀ (j : Nat) K t, T[j]? = some t → (∀ m r, K m = some r → RowOK r) → b (mkI j K) = if (n : Int) ≤ t then some (.inr (.inr bad)) else match K t.toNat with
      | some was => if was = row' then some (.inl (mkI (j + 1) (setK K t.toNat row'))) else some (.inr (.inr bad))
      | none => some (.inl (mkI (j + 1) (setK K t.toNat row'))))
    (hend : ∀ K, b (mkI T.length K) = some (.inr (.inl (mkO K)))) (hr : RowOK row') :
    ∀ (rest : List Int) (j : Nat) (K : Known), T.drop j = rest → j ≤ T.length → (∀ m r, K m = some r → RowOK r) →
      loopF b (mkI j K) = match refPut n row' rest K with
        | none => some (.inr bad)
        | some K' => some (.inl (mkO K')) := by
  intro rest
  induction rest with
  | nil =>
    intro j K hd hj hK
    have : j = T.length := by have := congrArg List.length hd; simp at this; omega
    subst this
    rw [loopF_eq, hend]
    rfl
  | cons t ts ih =>
    intro j K hd hj hK
    have hx : T[j]? = some t := by
      have := congrArg (fun r => r[0]?) hd
      simpa using this
    have hlt := (List.getElem?_eq_some_iff.1 hx).1
    have hts : T.drop (j + 1) = ts := by
      have := congrArg List.tail hd
      simpa using this
    have hK2 : ∀ m r, setK K t.toNat row' m = some r → RowOK r := fun m r h => by
      unfold setK at h
      split at h
      · cases h; exact hr
      · exact hK m r h
    unfold refPut
    rw [loopF_eq, hb j K t hx hK]
    by_cases ht : (n : Int) ≤ t
    · rw [if_pos ht, if_pos ht]
    · rw [if_neg ht, if_neg ht]
      cases hq : K t.toNat with
      | none => exact ih (j + 1) _ hts (by omega) hK2
      | some was =>
        simp only
        by_cases he : was = row'
        · rw [if_pos he, if_pos he]
          exact ih (j + 1) _ hts (by omega) hK2
        · rw [if_neg he, if_neg he]
end Go.Vm
end

section
set_option maxRecDepth 100000
set_option maxHeartbeats 4000000
namespace Go.Vm
open Go.Proofs
theorem irows_rown {l : List Int} {i : Nat} {x : Int} (h : l[i]? = some x) : sy.cell (sy.rown (irows l) i) 0 = some (.int .i64 x) := by
  have := irows_at h
  rwa [sy_row, Int.toNat_natCast] at this
def leadsA (n i : Nat) (x : Ins) : Option (List Int) :=
  if x.op = 10 then (if i + 1 = n then some [] else none) else if (x.op = 6 ∨ x.op = 7) ∧ x.a ≤ (i : Int) then none else some (leadsL i x)
theorem leadsA_eq (n i : Nat) (x : Ins) : leadsS n i x = match leadsA n i x with
    | none => none
    | some T => if (T.all fun m => decide (m < (n : Int))) then some T else none := by
  unfold leadsS leadsA
  by_cases h10 : x.op = 10
  · rw [if_pos h10, if_pos h10]
    by_cases h : i + 1 = n
    · rw [if_pos h]; rfl
    · rw [if_neg h]
  · rw [if_neg h10, if_neg h10]
    have e : (if x.op = 6 then [x.a] else if x.op = 7 then [(i : Int) + 1, x.a] else [(i : Int) + 1]) = leadsL i x := rfl
    simp only [e]
    by_cases h : (x.op = 6 ∨ x.op = 7) ∧ x.a ≤ (i : Int)
    · rw [if_pos h]
      have : ((leadsL i x).all fun m => decide ((i : Int) < m) && decide (m < (n : Int))) = false := by
        unfold leadsL
        rcases h.1 with h1 | h1
        · rw [if_pos h1, List.all_cons, decF (by omega)]; rfl
        · rw [if_neg (by omega), if_pos h1, List.all_cons, List.all_cons, decF (p := (i : Int) < x.a) (by omega)]; simp
      rw [this]; rfl
    · rw [if_neg h]
      have : ((leadsL i x).all fun m => decide ((i : Int) < m) && decide (m < (n : Int))) = (leadsL i x).all fun m => decide (m < (n : Int)) := by
        unfold leadsL
        by_cases h6 : x.op = 6
        · rw [if_pos h6]; simp only [List.all_cons, List.all_nil]; rw [decT (p := (i : Int) < x.a) (by omega)]; rfl
        · by_cases h7 : x.op = 7
          · rw [if_neg h6, if_pos h7]; simp only [List.all_cons, List.all_nil]; rw [decT (p := (i : Int) < x.a) (by omega), decT (p := (i : Int) < (i : Int) + 1) (by omega)]; rfl
          · rw [if_neg h6, if_neg h7]; simp only [List.all_cons, List.all_nil]; rw [decT (p := (i : Int) < (i : Int) + 1) (by omega)]; rfl
      rw [this]
def StepA (s : Shp) (n : Nat) (mk : Nat → Known → List D) (r : Option (List D ⊕ PRes)) (i : Nat) (K : Known) (x : Ins) : Prop := match K i with
  | none => r = some (.inr (badR i))
  | some row => if rightB x then (match nextS s x row with
    | none => r = some (.inr (badR i))
    | some row' => match leadsA n i x with
      | none => r = some (.inr (badR i))
      | some T => r = match refPut n row' T K with
        | none => some (.inr (badR i))
        | some K' => some (.inl (mk (i + 1) K'))) else r = some (.inr (badR i))
theorem refPut_ok {n : Nat} {row' : List Int} (hr : RowOK row') : ∀ {T : List Int} {K K' : Known}, (∀ m r, K m = some r → RowOK r) → refPut n row' T K = some K' → ∀ m r, K' m = some r → RowOK r
  | [], K, K', hK, h => by cases h; exact hK
  | t :: ts, K, K', hK, h => by
    have hK2 : ∀ m r, setK K t.toNat row' m = some r → RowOK r := fun m r h => by
      unfold setK at h
      split at h
      · cases h; exact hr
      · exact hK m r h
    unfold refPut at h
    split at h
    · cases h
    · split at h
      · split at h
        · exact refPut_ok hr hK2 h
        · cases h
      · exact refPut_ok hr hK2 h
theorem checkA_loop {b : List D → Option (List D ⊕ PRes)} (s : Shp) (code : List Ins) (mk : Nat → Known → List D) (hs : shapeB s.ctors s.kinds s.lo s.hi = true)
    (hb : ∀ (i : Nat) K x, code[i]? = some x → (∀ m r, K m = some r → RowOK r) → StepA s code.length mk (b (mk i K)) i K x)
    (hend : ∀ K, b (mk code.length K) = some (.inr (.val [.int .i64 (code.length : Int), .bool true]))) :
    ∀ (rest : List Ins) (i : Nat) (K : Known), code.drop i = rest → i ≤ code.length → (∀ m r, K m = some r → RowOK r) → loopF b (mk i K) = some (chR (checkGo s code.length i rest K)) := by
  intro rest
  induction rest with
  | nil =>
    intro i K hd hi hK
    have : i = code.length := by have := congrArg List.length hd; simp at this; omega
    subst this
    rw [loopF_eq, hend]
    rfl
  | cons x xs ih =>
    intro i K hd hi hK
    have hx : code[i]? = some x := by
      have := congrArg (fun r => r[0]?) hd
      simpa using this
    have hlt := (List.getElem?_eq_some_iff.1 hx).1
    have hxs : code.drop (i + 1) = xs := by
      have := congrArg List.tail hd
      simpa using this
    have hs := hb i K x hx hK
    unfold StepA at hs
    unfold checkGo
    rw [loopF_eq]
    cases hq : K i with
    | none => rw [hq] at hs; rw [show b (mk i K) = _ from hs]; rfl
    | some row =>
      rw [hq] at hs
      simp only at hs ⊢
      by_cases hr : rightB x = true
      · rw [if_pos hr] at hs ⊢
        cases hn : nextS s x row with
        | none => rw [hn] at hs; rw [show b (mk i K) = _ from hs]; rfl
        | some row' =>
          rw [hn] at hs
          have hRow' := nextS_ok hn (hK i row hq) (by assumption) hr
          simp only at hs ⊢
          rw [leadsA_eq]
          cases hl : leadsA code.length i x with
          | none => rw [hl] at hs; rw [show b (mk i K) = _ from hs]; rfl
          | some T =>
            rw [hl] at hs
            simp only at hs ⊢
            rw [hs]
            have he := refPut_eq code.length row' T K
            by_cases hall : (T.all fun m => decide (m < (code.length : Int))) = true
            · rw [if_pos hall] at he ⊢
              simp only
              rw [← he]
              cases hp : refPut code.length row' T K with
              | none => rfl
              | some K' => exact ih (i + 1) K' hxs hlt (refPut_ok hRow' hK hp)
            · rw [if_neg hall] at he ⊢
              rw [he]; rfl
      · rw [if_neg hr] at hs ⊢
        rw [hs]; rfl
theorem rA_K0 (n : Nat) : rA n K00 = rA n (setK K00 0 []) := by
  unfold rA setK K00
  refine List.map_congr_left fun m _ => ?_
  by_cases h : m = 0
  · subst h; rfl
  · rw [if_neg h]
theorem kinds_ge {la lb : List Int} {lo hi : Int} (h : shapeB la lb lo hi = true) : ∀ k ∈ lb, 1 ≤ k := fun k hk => by
  unfold shapeB at h
  simp only [Bool.and_eq_true] at h
  have := List.all_eq_true.1 h.2 k hk
  rw [kind_eq] at this
  exact (withinB_iff.1 this).1
end Go.Vm
end

section
set_option maxRecDepth 100000
set_option maxHeartbeats 8000000
namespace Go.Vm
open Go.Proofs
theorem c13 (la lb : List Int) (lo hi : Int) (code : List Ins) (hla : la.length ≤ 10) (hlb : lb.length ≤ 10000) (hcl : code.length ≤ 1000) :
    cF 46 [shV (irows la) (irows lb) lo hi, .d (.sl 4 (crows code))] = some (chR (checkS ⟨la, lb, lo, hi⟩ code)) := by
  have h15 := c15 la lb lo hi (by omega) (by omega)
  unfold checkS
  simp only
  cases hs : shapeB la lb lo hi with
  | false =>
    rw [hs] at h15
    unfold shV at *
    refine cOf (by kernel_rfl) rfl ?_
    rw [g46_eq]
    simp only [g46, go1, Option.bind_some, eq_self, cond_true, cond_false, Nat.reduceAdd, Int.reduceEq, Int.reduceLT, Int.reduceLE, Int.reduceSub, Int.reduceAdd, h15]
    rfl
  | true =>
  rw [hs] at h15
  have hk1 := kinds_ge hs
  by_cases h1 : code.length < 1
  · unfold shV at *
    refine cOf (by kernel_rfl) rfl ?_
    rw [g46_eq]
    simp only [g46, go1, Option.bind_some, eq_self, cond_true, cond_false, Nat.reduceAdd, Int.reduceEq, Int.reduceLT, Int.reduceLE, Int.reduceSub, Int.reduceAdd, h15, crows_len]
    simp (disch := omega) only [wrap_id, decT, decF, go1, Option.bind_some, eq_self, cond_true, cond_false, Nat.reduceAdd, Int.reduceEq, Int.reduceLT, Int.reduceLE, Int.reduceSub, Int.reduceAdd]
    rfl
  rw [if_pos (by simp; omega)]
  have h36 := fun x row => c36 la lb lo hi x row hla (by omega) hk1
  unfold shV at *
  refine cOf (by kernel_rfl) rfl ?_
  rw [g46_eq]
  have h0 : 0 < code.length := by omega
  simp (disch := omega) only [g46, decT, decF, h15, crows_len, kA_zero, rA_zero, kA_len, rA_len, Int.toNat_zero, go1, Option.bind_some, eq_self, cond_true, cond_false, Nat.reduceAdd, Int.reduceEq, Int.reduceLT, Int.reduceLE, Int.reduceSub, Int.reduceAdd]
  rw [kA_put [] h0, rA_K0]
  refine checkA_loop ⟨la, lb, lo, hi⟩ code (fun i K => [.sl 4 (crows code), .int .i64 (i : Int), .sl 1 (irows la), .sl 1 (irows lb), .int .i64 lo, .int .i64 hi, .sl 1 (kA code.length K), .sl 1 (rA code.length K)]) hs (fun i K x hx hKO => ?_) (fun K => ?_) code 0 (setK K00 0 []) rfl (Nat.zero_le _) (fun m r hm => ?_)
  · have hlt := (List.getElem?_eq_some_iff.1 hx).1
    have h35 := c35 x
    unfold StepA
    cases hk : K i with
    | none =>
      simp only [go1, Option.bind_some, eq_self, cond_true, cond_false, Nat.reduceAdd, Int.reduceEq, Int.reduceLT, Int.reduceLE, Int.reduceSub, Int.reduceAdd, crows_len, ilt_at hlt, inr_at hlt, crows_at hx, Ins.row, kA_len, Int.toNat_natCast, kA_at hlt, hk, Option.isSome_none]
      rfl
    | some row =>
      have hro := hKO i row hk
      simp only
      unfold insV at *
      cases hr : rightB x with
      | false =>
        rw [hr] at h35
        simp only [go1, Option.bind_some, eq_self, cond_true, cond_false, Nat.reduceAdd, Int.reduceEq, Int.reduceLT, Int.reduceLE, Int.reduceSub, Int.reduceAdd, crows_len, ilt_at hlt, inr_at hlt, crows_at hx, Ins.row, kA_len, Int.toNat_natCast, kA_at hlt, hk, Option.isSome_some, h35]
        rfl
      | true =>
        rw [hr] at h35
        obtain ⟨p, h36, hp⟩ := h36 x row (by have := hro.2; omega) hro.1 hr
        obtain ⟨l, b, rfl, hlb2⟩ := rowR_val hp
        simp only [go1, Option.bind_some, eq_self, cond_true, cond_false, Nat.reduceAdd, Int.reduceEq, Int.reduceLT, Int.reduceLE, Int.reduceSub, Int.reduceAdd, crows_len, ilt_at hlt, inr_at hlt, crows_at hx, Ins.row, kA_len, rA_len, Int.toNat_natCast, kA_at hlt, rA_at hlt, hk, Option.isSome_some, Option.getD_some, h35, h36, if_true]
        cases hn : nextS ⟨la, lb, lo, hi⟩ x row with
        | none => rw [hn] at hlb2; rw [show b = false from hlb2]; rfl
        | some row' =>
          rw [hn] at hlb2
          obtain ⟨rfl, rfl⟩ := hlb2
          have hRow' := nextS_ok hn hro hs hr
          unfold leadsA
          have ha : x.op = 6 ∨ x.op = 7 → 0 ≤ x.a ∧ x.a ≤ 65535 := fun h => by
            have hr2 := hr
            rw [right_eq] at hr2
            simp only [Bool.and_eq_true] at hr2
            have q2 := hr2.1.1.2
            unfold firstB at q2
            rw [if_neg (by omega), if_neg (by omega), if_neg (by omega), if_neg (by omega)] at q2
            exact withinB_iff.1 q2
          by_cases h10 : x.op = 10
          · rw [if_pos h10]
            by_cases hend : i + 1 = code.length
            · rw [if_pos hend]
              simp (disch := omega) only [go1, Option.bind_some, eq_self, cond_true, cond_false, Nat.reduceAdd, Int.reduceEq, Int.reduceLT, Int.reduceLE, Int.reduceSub, Int.reduceAdd, decT, decF, h10, wrap_succ hlt (by omega)]
              have hT0 : ∀ t ∈ ([] : List Int), 0 ≤ t := by simp
              refine (refPut_loop code.length ([] : List Int) l (fun j K => [.sl 4 (crows code), .int .i64 (i : Int), .sl 1 (irows l), .int .i64 (j : Int), .sl 1 (irows la), .sl 1 (irows lb), .int .i64 lo, .int .i64 hi, .sl 1 (kA code.length K), .sl 1 (rA code.length K), .sl 1 (irows ([] : List Int))])
                (fun K => [.sl 4 (crows code), .int .i64 ((i + 1 : Nat) : Int), .sl 1 (irows la), .sl 1 (irows lb), .int .i64 lo, .int .i64 hi, .sl 1 (kA code.length K), .sl 1 (rA code.length K)]) (badR i) (fun j K t ht hKO => ?_) (fun K => ?_) hRow' ([] : List Int) 0 K rfl (Nat.zero_le _) hKO).trans ?_
              · have hjlt := (List.getElem?_eq_some_iff.1 ht).1
                have ht0 := hT0 t (List.mem_of_getElem? ht)
                by_cases htn : (code.length : Int) ≤ t
                · rw [if_pos htn]
                  simp only [go1, Option.bind_some, eq_self, cond_true, cond_false, Nat.reduceAdd, Int.reduceEq, Int.reduceLT, Int.reduceLE, Int.reduceSub, Int.reduceAdd, irows_len, crows_len, Int.toNat_natCast, ilt_at hjlt, inr_at hjlt, irows_rown ht, decT htn]
                  rfl
                · rw [if_neg htn]
                  have h1 : t.toNat < code.length := by omega
                  have h2 : decide (0 ≤ t ∧ t < (code.length : Int)) = true := decT ⟨ht0, by omega⟩
                  cases hq : K t.toNat with
                  | none =>
                    simp only [go1, Option.bind_some, eq_self, cond_true, cond_false, Nat.reduceAdd, Int.reduceEq, Int.reduceLT, Int.reduceLE, Int.reduceSub, Int.reduceAdd, irows_len, crows_len, Int.toNat_natCast, ilt_at hjlt, inr_at hjlt, irows_rown ht, decF htn, kA_len, rA_len, h2, decT h1, kA_at h1, hq, Option.isSome_none, kA_put l h1, rA_put h1, wrap_succ hjlt (by simp)]
                    rfl
                  | some was =>
                    have hw := hKO _ _ hq
                    simp only [go1, Option.bind_some, eq_self, cond_true, cond_false, Nat.reduceAdd, Int.reduceEq, Int.reduceLT, Int.reduceLE, Int.reduceSub, Int.reduceAdd, irows_len, crows_len, Int.toNat_natCast, ilt_at hjlt, inr_at hjlt, irows_rown ht, decF htn, kA_len, rA_len, h2, decT h1, kA_at h1, rA_at h1, hq, Option.isSome_some, Option.getD_some, c37 was l (by have := hw.2; omega), kA_put l h1, rA_put h1, wrap_succ hjlt (by simp)]
                    by_cases he : was = l
                    · rw [if_pos he, show (was == l) = true from by simp [he]]; rfl
                    · rw [if_neg he, show (was == l) = false from by simp [he]]; rfl
              · simp only [go1, Option.bind_some, eq_self, cond_true, cond_false, Nat.reduceAdd, Int.reduceEq, Int.reduceLT, Int.reduceLE, Int.reduceSub, Int.reduceAdd, irows_len, ilt_self, wrap_succ hlt (by omega)]
                rfl
              · cases refPut code.length l ([] : List Int) K <;> rfl
            · rw [if_neg hend]
              simp (disch := omega) only [go1, Option.bind_some, eq_self, cond_true, cond_false, Nat.reduceAdd, Int.reduceEq, Int.reduceLT, Int.reduceLE, Int.reduceSub, Int.reduceAdd, decT, decF, h10, wrap_succ hlt (by omega)]
              rfl
          rw [if_neg h10]
          by_cases hb6 : (x.op = 6 ∨ x.op = 7) ∧ x.a ≤ (i : Int)
          · rw [if_pos hb6]
            rcases hb6.1 with h | h
            · simp (disch := omega) only [go1, Option.bind_some, eq_self, cond_true, cond_false, Nat.reduceAdd, Int.reduceEq, Int.reduceLT, Int.reduceLE, Int.reduceSub, Int.reduceAdd, decT, decF, h, wrap_succ hlt (by omega)]
              rfl
            · simp (disch := omega) only [go1, Option.bind_some, eq_self, cond_true, cond_false, Nat.reduceAdd, Int.reduceEq, Int.reduceLT, Int.reduceLE, Int.reduceSub, Int.reduceAdd, decT, decF, h, wrap_succ hlt (by omega), List.length_nil, List.length_cons]
              rfl
          rw [if_neg hb6]
          unfold leadsL
          by_cases h6 : x.op = 6
          · rw [if_pos h6]
            have hT0 : ∀ t ∈ [x.a], 0 ≤ t := fun t ht => by
              simp only [List.mem_cons, List.not_mem_nil, or_false] at ht
              subst ht
              exact (ha (.inl h6)).1
            simp (disch := omega) only [go1, Option.bind_some, eq_self, cond_true, cond_false, Nat.reduceAdd, Int.reduceEq, Int.reduceLT, Int.reduceLE, Int.reduceSub, Int.reduceAdd, decT, decF, h6, wrap_succ hlt (by omega), List.length_nil, List.length_cons, List.nil_append]
            refine (refPut_loop code.length [x.a] l (fun j K => [.sl 4 (crows code), .int .i64 (i : Int), .sl 1 (irows l), .int .i64 (j : Int), .sl 1 (irows la), .sl 1 (irows lb), .int .i64 lo, .int .i64 hi, .sl 1 (kA code.length K), .sl 1 (rA code.length K), .sl 1 (irows [x.a])])
              (fun K => [.sl 4 (crows code), .int .i64 ((i + 1 : Nat) : Int), .sl 1 (irows la), .sl 1 (irows lb), .int .i64 lo, .int .i64 hi, .sl 1 (kA code.length K), .sl 1 (rA code.length K)]) (badR i) (fun j K t ht hKO => ?_) (fun K => ?_) hRow' [x.a] 0 K rfl (Nat.zero_le _) hKO).trans ?_
            · have hjlt := (List.getElem?_eq_some_iff.1 ht).1
              have ht0 := hT0 t (List.mem_of_getElem? ht)
              by_cases htn : (code.length : Int) ≤ t
              · rw [if_pos htn]
                simp only [go1, Option.bind_some, eq_self, cond_true, cond_false, Nat.reduceAdd, Int.reduceEq, Int.reduceLT, Int.reduceLE, Int.reduceSub, Int.reduceAdd, irows_len, crows_len, Int.toNat_natCast, ilt_at hjlt, inr_at hjlt, irows_rown ht, decT htn]
                rfl
              · rw [if_neg htn]
                have h1 : t.toNat < code.length := by omega
                have h2 : decide (0 ≤ t ∧ t < (code.length : Int)) = true := decT ⟨ht0, by omega⟩
                cases hq : K t.toNat with
                | none =>
                  simp only [go1, Option.bind_some, eq_self, cond_true, cond_false, Nat.reduceAdd, Int.reduceEq, Int.reduceLT, Int.reduceLE, Int.reduceSub, Int.reduceAdd, irows_len, crows_len, Int.toNat_natCast, ilt_at hjlt, inr_at hjlt, irows_rown ht, decF htn, kA_len, rA_len, h2, decT h1, kA_at h1, hq, Option.isSome_none, kA_put l h1, rA_put h1, wrap_succ hjlt (by simp)]
                  rfl
                | some was =>
                  have hw := hKO _ _ hq
                  simp only [go1, Option.bind_some, eq_self, cond_true, cond_false, Nat.reduceAdd, Int.reduceEq, Int.reduceLT, Int.reduceLE, Int.reduceSub, Int.reduceAdd, irows_len, crows_len, Int.toNat_natCast, ilt_at hjlt, inr_at hjlt, irows_rown ht, decF htn, kA_len, rA_len, h2, decT h1, kA_at h1, rA_at h1, hq, Option.isSome_some, Option.getD_some, c37 was l (by have := hw.2; omega), kA_put l h1, rA_put h1, wrap_succ hjlt (by simp)]
                  by_cases he : was = l
                  · rw [if_pos he, show (was == l) = true from by simp [he]]; rfl
                  · rw [if_neg he, show (was == l) = false from by simp [he]]; rfl
            · simp only [go1, Option.bind_some, eq_self, cond_true, cond_false, Nat.reduceAdd, Int.reduceEq, Int.reduceLT, Int.reduceLE, Int.reduceSub, Int.reduceAdd, irows_len, ilt_self, wrap_succ hlt (by omega)]
              rfl
            · cases refPut code.length l [x.a] K <;> rfl
          by_cases h7 : x.op = 7
          · rw [if_neg h6, if_pos h7]
            have hT0 : ∀ t ∈ [(i : Int) + 1, x.a], 0 ≤ t := fun t ht => by
              simp only [List.mem_cons, List.not_mem_nil, or_false] at ht
              rcases ht with rfl | rfl
              · omega
              · exact (ha (.inr h7)).1
            simp (disch := omega) only [go1, Option.bind_some, eq_self, cond_true, cond_false, Nat.reduceAdd, Int.reduceEq, Int.reduceLT, Int.reduceLE, Int.reduceSub, Int.reduceAdd, decT, decF, h7, wrap_succ hlt (by omega), List.length_nil, List.length_cons, List.nil_append, List.cons_append]
            refine (refPut_loop code.length [(i : Int) + 1, x.a] l (fun j K => [.sl 4 (crows code), .int .i64 (i : Int), .sl 1 (irows l), .int .i64 (j : Int), .sl 1 (irows la), .sl 1 (irows lb), .int .i64 lo, .int .i64 hi, .sl 1 (kA code.length K), .sl 1 (rA code.length K), .sl 1 (irows [(i : Int) + 1, x.a])])
              (fun K => [.sl 4 (crows code), .int .i64 ((i + 1 : Nat) : Int), .sl 1 (irows la), .sl 1 (irows lb), .int .i64 lo, .int .i64 hi, .sl 1 (kA code.length K), .sl 1 (rA code.length K)]) (badR i) (fun j K t ht hKO => ?_) (fun K => ?_) hRow' [(i : Int) + 1, x.a] 0 K rfl (Nat.zero_le _) hKO).trans ?_
            · have hjlt := (List.getElem?_eq_some_iff.1 ht).1
              have ht0 := hT0 t (List.mem_of_getElem? ht)
              by_cases htn : (code.length : Int) ≤ t
              · rw [if_pos htn]
                simp only [go1, Option.bind_some, eq_self, cond_true, cond_false, Nat.reduceAdd, Int.reduceEq, Int.reduceLT, Int.reduceLE, Int.reduceSub, Int.reduceAdd, irows_len, crows_len, Int.toNat_natCast, ilt_at hjlt, inr_at hjlt, irows_rown ht, decT htn]
                rfl
              · rw [if_neg htn]
                have h1 : t.toNat < code.length := by omega
                have h2 : decide (0 ≤ t ∧ t < (code.length : Int)) = true := decT ⟨ht0, by omega⟩
                cases hq : K t.toNat with
                | none =>
                  simp only [go1, Option.bind_some, eq_self, cond_true, cond_false, Nat.reduceAdd, Int.reduceEq, Int.reduceLT, Int.reduceLE, Int.reduceSub, Int.reduceAdd, irows_len, crows_len, Int.toNat_natCast, ilt_at hjlt, inr_at hjlt, irows_rown ht, decF htn, kA_len, rA_len, h2, decT h1, kA_at h1, hq, Option.isSome_none, kA_put l h1, rA_put h1, wrap_succ hjlt (by simp)]
                  rfl
                | some was =>
                  have hw := hKO _ _ hq
                  simp only [go1, Option.bind_some, eq_self, cond_true, cond_false, Nat.reduceAdd, Int.reduceEq, Int.reduceLT, Int.reduceLE, Int.reduceSub, Int.reduceAdd, irows_len, crows_len, Int.toNat_natCast, ilt_at hjlt, inr_at hjlt, irows_rown ht, decF htn, kA_len, rA_len, h2, decT h1, kA_at h1, rA_at h1, hq, Option.isSome_some, Option.getD_some, c37 was l (by have := hw.2; omega), kA_put l h1, rA_put h1, wrap_succ hjlt (by simp)]
                  by_cases he : was = l
                  · rw [if_pos he, show (was == l) = true from by simp [he]]; rfl
                  · rw [if_neg he, show (was == l) = false from by simp [he]]; rfl
            · simp only [go1, Option.bind_some, eq_self, cond_true, cond_false, Nat.reduceAdd, Int.reduceEq, Int.reduceLT, Int.reduceLE, Int.reduceSub, Int.reduceAdd, irows_len, ilt_self, wrap_succ hlt (by omega)]
              rfl
            · cases refPut code.length l [(i : Int) + 1, x.a] K <;> rfl
          · rw [if_neg h6, if_neg h7]
            have hT0 : ∀ t ∈ [(i : Int) + 1], 0 ≤ t := fun t ht => by
              simp only [List.mem_cons, List.not_mem_nil, or_false] at ht
              omega
            simp (disch := omega) only [go1, Option.bind_some, eq_self, cond_true, cond_false, Nat.reduceAdd, Int.reduceEq, Int.reduceLT, Int.reduceLE, Int.reduceSub, Int.reduceAdd, decT, decF, wrap_succ hlt (by omega), List.length_nil, List.length_cons, List.nil_append]
            refine (refPut_loop code.length [(i : Int) + 1] l (fun j K => [.sl 4 (crows code), .int .i64 (i : Int), .sl 1 (irows l), .int .i64 (j : Int), .sl 1 (irows la), .sl 1 (irows lb), .int .i64 lo, .int .i64 hi, .sl 1 (kA code.length K), .sl 1 (rA code.length K), .sl 1 (irows [(i : Int) + 1])])
              (fun K => [.sl 4 (crows code), .int .i64 ((i + 1 : Nat) : Int), .sl 1 (irows la), .sl 1 (irows lb), .int .i64 lo, .int .i64 hi, .sl 1 (kA code.length K), .sl 1 (rA code.length K)]) (badR i) (fun j K t ht hKO => ?_) (fun K => ?_) hRow' [(i : Int) + 1] 0 K rfl (Nat.zero_le _) hKO).trans ?_
            · have hjlt := (List.getElem?_eq_some_iff.1 ht).1
              have ht0 := hT0 t (List.mem_of_getElem? ht)
              by_cases htn : (code.length : Int) ≤ t
              · rw [if_pos htn]
                simp only [go1, Option.bind_some, eq_self, cond_true, cond_false, Nat.reduceAdd, Int.reduceEq, Int.reduceLT, Int.reduceLE, Int.reduceSub, Int.reduceAdd, irows_len, crows_len, Int.toNat_natCast, ilt_at hjlt, inr_at hjlt, irows_rown ht, decT htn]
                rfl
              · rw [if_neg htn]
                have h1 : t.toNat < code.length := by omega
                have h2 : decide (0 ≤ t ∧ t < (code.length : Int)) = true := decT ⟨ht0, by omega⟩
                cases hq : K t.toNat with
                | none =>
                  simp only [go1, Option.bind_some, eq_self, cond_true, cond_false, Nat.reduceAdd, Int.reduceEq, Int.reduceLT, Int.reduceLE, Int.reduceSub, Int.reduceAdd, irows_len, crows_len, Int.toNat_natCast, ilt_at hjlt, inr_at hjlt, irows_rown ht, decF htn, kA_len, rA_len, h2, decT h1, kA_at h1, hq, Option.isSome_none, kA_put l h1, rA_put h1, wrap_succ hjlt (by simp)]
                  rfl
                | some was =>
                  have hw := hKO _ _ hq
                  simp only [go1, Option.bind_some, eq_self, cond_true, cond_false, Nat.reduceAdd, Int.reduceEq, Int.reduceLT, Int.reduceLE, Int.reduceSub, Int.reduceAdd, irows_len, crows_len, Int.toNat_natCast, ilt_at hjlt, inr_at hjlt, irows_rown ht, decF htn, kA_len, rA_len, h2, decT h1, kA_at h1, rA_at h1, hq, Option.isSome_some, Option.getD_some, c37 was l (by have := hw.2; omega), kA_put l h1, rA_put h1, wrap_succ hjlt (by simp)]
                  by_cases he : was = l
                  · rw [if_pos he, show (was == l) = true from by simp [he]]; rfl
                  · rw [if_neg he, show (was == l) = false from by simp [he]]; rfl
            · simp only [go1, Option.bind_some, eq_self, cond_true, cond_false, Nat.reduceAdd, Int.reduceEq, Int.reduceLT, Int.reduceLE, Int.reduceSub, Int.reduceAdd, irows_len, ilt_self, wrap_succ hlt (by omega)]
              rfl
            · cases refPut code.length l [(i : Int) + 1] K <;> rfl
  · simp only [go1, Option.bind_some, eq_self, cond_true, cond_false, Nat.reduceAdd, Int.reduceEq, Int.reduceLT, Int.reduceLE, Int.reduceSub, Int.reduceAdd, ilt_self, crows_len]
  · unfold setK at hm
    split at hm
    · cases hm; exact ⟨by simp, by simp⟩
    · cases hm
end Go.Vm
end

section
set_option linter.all false
set_option maxRecDepth 100000
set_option maxHeartbeats 8000000
namespace Go.Vm
open Go.Proofs
/-! ### forms -/
def shapeS (s : Shp) : Bool := shapeB s.ctors s.kinds s.lo s.hi
def formS (x : Img) : Bool := (decide (enumsN x.enums = 0) && ((portsA x && (portsF x && portsO x)) && rightS x.enums x.slots)) && shapeS (shpOf x)
theorem shp_ctors (x : Img) : (shpOf x).ctors.length = x.enums.length := ctorsN_len _
theorem shp_kinds {x : Img} (hx : IB x) : (shpOf x).kinds.length ≤ 5000 := by
  have b2 := hx.pn
  have b3 := hx.sn
  have b4 := hx.ln
  have s1 := kindsT_len (x.slots.map (·.ty))
  have s2 := kindsT_len (x.ins.map (·.ty))
  have s3 := kindsT_len (x.outs.map (·.ty))
  simp only [List.length_map] at s1 s2 s3
  show (((kindsT (x.slots.map (·.ty)) ++ kindsT (x.ins.map (·.ty))) ++ kindsT (x.outs.map (·.ty))) ++ x.locals).length ≤ 5000
  simp only [List.length_append]
  omega
def shpV (s : Shp) : V := shV (irows s.ctors) (irows s.kinds) s.lo s.hi
theorem c_vShape {x : Img} (hx : IB x) : cF 49 [shpV (shpOf x)] = some (.val [.bool (shapeS (shpOf x))]) := c14 _ _ _ _ (by rw [shp_ctors]; have := hx.en; omega) (by have := shp_kinds hx; omega)
theorem c_rShape {x : Img} (hx : IB x) : cF 55 [shpV (shpOf x)] = some (.val [.bool (shapeS (shpOf x))]) := c15 _ _ _ _ (by rw [shp_ctors]; have := hx.en; omega) (by have := shp_kinds hx; omega)
theorem c_vCheck {x : Img} (hx : IB x) : cF 44 [shpV (shpOf x), .d (.sl 4 (crows x.code))] = some (chR (checkS (shpOf x) x.code)) := c12 _ _ _ _ _ (by rw [shp_ctors]; have := hx.en; omega) (by have := shp_kinds hx; omega) (by have := hx.cn; omega)
theorem c_rCheck {x : Img} (hx : IB x) : cF 46 [shpV (shpOf x), .d (.sl 4 (crows x.code))] = some (chR (checkS (shpOf x) x.code)) := c13 _ _ _ _ _ (by rw [shp_ctors]; have := hx.en; omega) (by have := shp_kinds hx; omega) (by have := hx.cn; omega)
theorem c_sForm (x : Img) (hx : IB x) : cF 21 [x.v] = some (.val [.bool (formS x)]) := by
  have h1 := c_tyEnums x.enums (by have := hx.en; omega)
  have h2 := c_sPorts x hx.pn
  have h3 := c_tRight x.enums x.slots hx.slots
  have h4 := c_gShape x hx
  have h5 := c_vShape hx
  unfold formS
  generalize shpOf x = s at h4 h5 ⊢
  generalize hP : (portsA x && (portsF x && portsO x)) = P at h2 ⊢
  unfold shpV shV at h5
  unfold shpR at h4
  unfold Img.v at h2 h4 ⊢
  refine cOf (by kernel_rfl) rfl ?_
  rw [g21_eq]
  simp only [g21, go1, Option.bind_some, eq_self, cond_true, cond_false, Nat.reduceAdd, Int.reduceEq, Int.reduceLT, Int.reduceLE, Int.reduceSub, Int.reduceAdd, h1, h2, h3, h4, h5]
  cases decide (enumsN x.enums = 0) <;> cases P <;> cases rightS x.enums x.slots <;> rfl
theorem c_rsForm (x : Img) (hx : IB x) : cF 22 [x.v] = some (.val [.bool (formS x)]) := by
  have h1 := c_rtyEnums x.enums (by have := hx.en; omega) hx.eb
  have h3 := c_rtRight x.enums x.slots hx.slots
  have h4 := c_rgShape x hx
  have h5 := c_rShape hx
  have hpn := hx.pn
  have hpb := hx.pb
  unfold formS
  generalize shpOf x = s at h4 h5 ⊢
  unfold shpV shV at h5
  unfold shpR at h4
  unfold portsA portsF portsO
  obtain ⟨enums, ins, outs, slots, locals, code⟩ := x
  clear hx
  unfold Img.v at h4 ⊢
  simp only at h1 h3 h4 hpn hpb ⊢
  have hf1 : decide (ins.length * 41 ≤ 140737488355328) = true := decT (by omega)
  have hf2 : decide ((ins.length + outs.length) * 41 ≤ 140737488355328) = true := decT (by omega)
  by_cases hE : enumsN enums = 0
  · by_cases hI : (ins.length : Int) ≤ 6
    · by_cases hO1 : 1 ≤ (outs.length : Int)
      · by_cases hO2 : (outs.length : Int) ≤ 6
        · cases hR : rightS enums slots with
          | false =>
            rw [hR] at h3
            refine cOf (by kernel_rfl) rfl ?_
            rw [g22_eq]
            simp only [g22, go1, Option.bind_some, eq_self, cond_true, cond_false, Nat.reduceAdd, Int.reduceEq, Int.reduceLT, Int.reduceLE, Int.reduceSub, Int.reduceAdd, h1, h3, prows_len, decT hE, decT hI, decT hO1, decT hO2, decF (p := 6 < (ins.length : Int)) (by omega), decF (p := (outs.length : Int) < 1) (by omega), decF (p := 6 < (outs.length : Int)) (by omega)]
          | true =>
            rw [hR] at h3
            refine cOf (by kernel_rfl) rfl ?_
            rw [g22_eq]
            simp only [g22, go1, Option.bind_some, eq_self, cond_true, cond_false, Nat.reduceAdd, Int.reduceEq, Int.reduceLT, Int.reduceLE, Int.reduceSub, Int.reduceAdd, h1, h3, prows_len, decT hE, decT hI, decT hO1, decT hO2, decF (p := 6 < (ins.length : Int)) (by omega), decF (p := (outs.length : Int) < 1) (by omega), decF (p := 6 < (outs.length : Int)) (by omega), List.length_nil, List.nil_append, hf1, hf2, prows_app]
            have hpl : (ins ++ outs).length ≤ 50 := by rw [List.length_append]; omega
            generalize hps : ins ++ outs = ps at hpl hpb
            refine loopF_at (fun i : Nat => [.int .i64 (i : Int), .sl 2 (erows enums), .sl 4 (prows ins), .sl 4 (prows outs), .sl 6 (slrows slots), .sl 1 (irows locals), .sl 4 (crows code), .sl 4 (prows ps), .sl 1 (srows ((ps.take i).map (·.name)))]) (fun i => i ≤ ps.length ∧ (ps.take i).all (portOK enums.length) = true) (fun i => ps.length - i) (fun i hi => ?_) 0 ⟨Nat.zero_le _, by simp⟩
            obtain ⟨hi, hA⟩ := hi
            by_cases hlt : i < ps.length
            · have hx := List.getElem?_eq_getElem hlt
              have hL := c_rLow ps[i].name (by have := hpb _ (List.getElem_mem hlt); omega)
              have hT := rtyRight_u enums ps[i].ty
              have hgd : ps.getD i default = ps[i] := by simp [hlt]
              cases hb : portOK enums.length ps[i] with
              | false =>
                right
                rw [all_false (d := default) hlt (by rw [hgd]; exact hb)]
                unfold portOK at hb
                simp only [go1, Option.bind_some, eq_self, cond_true, cond_false, Nat.reduceAdd, Int.reduceEq, Int.reduceLT, Int.reduceLE, Int.reduceSub, Int.reduceAdd, prows_len, ilt_at hlt, inr_at hlt, Int.toNat_natCast, prown_at hx, hL]
                cases hl : lowN (tb ps[i].name) with
                | false => simp only [go1, Option.bind_some, eq_self, cond_true, cond_false, Nat.reduceAdd, Int.reduceEq, Int.reduceLT, Int.reduceLE, Int.reduceSub, Int.reduceAdd]
                | true =>
                  rw [hl, Bool.true_and] at hb
                  rw [hb] at hT
                  simp only [go1, Option.bind_some, eq_self, cond_true, cond_false, Nat.reduceAdd, Int.reduceEq, Int.reduceLT, Int.reduceLE, Int.reduceSub, Int.reduceAdd, decT hlt, hT]
              | true =>
                left
                refine ⟨i + 1, ?_, ⟨hlt, all_snoc (d := default) hlt hA (by rw [hgd]; exact hb)⟩, by omega⟩
                unfold portOK at hb
                rw [Bool.and_eq_true] at hb
                rw [hb.1] at hL
                rw [hb.2] at hT
                have hf : decide (((ps.take i).length + 1) * 17 ≤ 140737488355328) = true := decT (by rw [List.length_take]; omega)
                rw [pnames_take hx, srows_snoc]
                simp only [go1, Option.bind_some, eq_self, cond_true, cond_false, Nat.reduceAdd, Int.reduceEq, Int.reduceLT, Int.reduceLE, Int.reduceSub, Int.reduceAdd, prows_len, srows_len, List.length_map, ilt_at hlt, inr_at hlt, Int.toNat_natCast, prown_at hx, hL, hT, decT hlt, List.length_cons, List.length_nil, hf, wrap_succ hlt (by omega)]
                rfl
            · have : i = ps.length := by omega
              subst this
              right
              rw [List.take_length] at hA
              have hO := c_rOnce (ps.map (·.name)) (by rw [List.length_map]; omega)
              simp only [go1, Option.bind_some, eq_self, cond_true, cond_false, Nat.reduceAdd, Int.reduceEq, Int.reduceLT, Int.reduceLE, Int.reduceSub, Int.reduceAdd, prows_len, ilt_self, List.take_length, hO, hA, h4, h5]
              cases decide (ps.map (·.name)).Nodup <;> rfl
        · refine cOf (by kernel_rfl) rfl ?_
          rw [g22_eq]
          simp only [g22, go1, Option.bind_some, eq_self, cond_true, cond_false, Nat.reduceAdd, Int.reduceEq, Int.reduceLT, Int.reduceLE, Int.reduceSub, Int.reduceAdd, h1, h3, prows_len, decT hE, decT hI, decT hO1, decF hO2, decF (p := 6 < (ins.length : Int)) (by omega), decF (p := (outs.length : Int) < 1) (by omega), decT (p := 6 < (outs.length : Int)) (by omega)]
      · refine cOf (by kernel_rfl) rfl ?_
        rw [g22_eq]
        simp only [g22, go1, Option.bind_some, eq_self, cond_true, cond_false, Nat.reduceAdd, Int.reduceEq, Int.reduceLT, Int.reduceLE, Int.reduceSub, Int.reduceAdd, h1, h3, prows_len, decT hE, decT hI, decF hO1, decF (p := 6 < (ins.length : Int)) (by omega), decT (p := (outs.length : Int) < 1) (by omega)]
    · refine cOf (by kernel_rfl) rfl ?_
      rw [g22_eq]
      simp only [g22, go1, Option.bind_some, eq_self, cond_true, cond_false, Nat.reduceAdd, Int.reduceEq, Int.reduceLT, Int.reduceLE, Int.reduceSub, Int.reduceAdd, h1, h3, prows_len, decT hE, decF hI, decT (p := 6 < (ins.length : Int)) (by omega)]
  · refine cOf (by kernel_rfl) rfl ?_
    rw [g22_eq]
    simp only [g22, go1, Option.bind_some, eq_self, cond_true, cond_false, Nat.reduceAdd, Int.reduceEq, Int.reduceLT, Int.reduceLE, Int.reduceSub, Int.reduceAdd, h1, h3, prows_len, decF hE]
end Go.Vm
end

section
set_option linter.all false
set_option maxRecDepth 100000
set_option maxHeartbeats 8000000
namespace Go.Vm
open Go.Proofs
/-! ### what is told of an image -/
def soundN (x : Img) : Int := bif formS x then (checkS (shpOf x) x.code).1 else 0
def soundE (x : Img) : Int := bif formS x then (bif (checkS (shpOf x) x.code).2 then 0 else 13) else 11
theorem c_sCheck (x : Img) (hx : IB x) : cF 18 [x.v] = some (.val [.int .i64 (soundN x), .int .i64 (soundE x)]) := by
  have h1 := c_sForm x hx
  have h2 := c_gShape x hx
  have h3 := c_vCheck hx
  unfold soundN soundE
  generalize shpOf x = s at h2 h3 ⊢
  unfold shpV shV at h3
  unfold shpR at h2
  unfold chR at h3
  generalize checkS s x.code = c at h3 ⊢
  obtain ⟨n, ok⟩ := c
  unfold Img.v at h1 h2 ⊢
  cases hF : formS x with
  | false =>
    rw [hF] at h1
    refine cOf (by kernel_rfl) rfl ?_
    rw [g18_eq]
    simp only [g18, go1, Option.bind_some, eq_self, cond_true, cond_false, Nat.reduceAdd, Int.reduceEq, Int.reduceLT, Int.reduceLE, Int.reduceSub, Int.reduceAdd, h1]
  | true =>
    rw [hF] at h1
    refine cOf (by kernel_rfl) rfl ?_
    rw [g18_eq]
    simp only [g18, go1, Option.bind_some, eq_self, cond_true, cond_false, Nat.reduceAdd, Int.reduceEq, Int.reduceLT, Int.reduceLE, Int.reduceSub, Int.reduceAdd, h1, h2, h3]
    cases ok <;> rfl
theorem c_rsCheck (x : Img) (hx : IB x) : cF 19 [x.v] = some (.val [.int .i64 (soundN x), .int .i64 (soundE x)]) := by
  have h1 := c_rsForm x hx
  have h2 := c_rgShape x hx
  have h3 := c_rCheck hx
  unfold soundN soundE
  generalize shpOf x = s at h2 h3 ⊢
  unfold shpV shV at h3
  unfold shpR at h2
  unfold chR at h3
  generalize checkS s x.code = c at h3 ⊢
  obtain ⟨n, ok⟩ := c
  unfold Img.v at h1 h2 ⊢
  cases hF : formS x with
  | false =>
    rw [hF] at h1
    refine cOf (by kernel_rfl) rfl ?_
    rw [g19_eq]
    simp only [g19, go1, Option.bind_some, eq_self, cond_true, cond_false, Nat.reduceAdd, Int.reduceEq, Int.reduceLT, Int.reduceLE, Int.reduceSub, Int.reduceAdd, h1]
  | true =>
    rw [hF] at h1
    refine cOf (by kernel_rfl) rfl ?_
    rw [g19_eq]
    simp only [g19, go1, Option.bind_some, eq_self, cond_true, cond_false, Nat.reduceAdd, Int.reduceEq, Int.reduceLT, Int.reduceLE, Int.reduceSub, Int.reduceAdd, h1, h2, h3]
    cases ok <;> rfl
theorem c_sNum (n : Int) : cF 20 [.d (.int .i64 n)] = some (.val [.int .i64 n]) := by
  refine cOf (by kernel_rfl) rfl ?_
  rw [g20_eq]
  simp only [g20, go1, Option.bind_some, eq_self, cond_true, cond_false, Nat.reduceAdd, Int.reduceEq, Int.reduceLT, Int.reduceLE, Int.reduceSub, Int.reduceAdd]
def noImg : Img := ⟨[], [], [], [], [], []⟩
theorem noImg_ok : IB noImg := by
  refine ⟨by decide, fun e he => ?_, by decide, fun e he => ?_, by decide, fun e he => ?_, by decide, by decide⟩
  · cases he
  · cases he
  · cases he
theorem noImg_form : formS noImg = false := by
  have : portsF noImg = false := by decide
  unfold formS
  rw [this]
  simp
theorem c_sLive : cF 17 [] = some (.val [.bool true]) := by
  have h := c_sCheck noImg noImg_ok
  have e1 : soundN noImg = 0 := by unfold soundN; rw [noImg_form]; rfl
  have e2 : soundE noImg = 11 := by unfold soundE; rw [noImg_form]; rfl
  rw [e1, e2] at h
  have h : cF 18 [V.agg [.d (.sl 2 []), .d (.sl 4 []), .d (.sl 4 []), .d (.sl 6 []), .d (.sl 1 []), .d (.sl 4 [])]] = some (.val [.int .i64 0, .int .i64 11]) := h
  refine cOf (by kernel_rfl) rfl ?_
  rw [g17_eq]
  simp only [g17, go1, Option.bind_some, eq_self, cond_true, cond_false, Nat.reduceAdd, Int.reduceEq, Int.reduceLT, Int.reduceLE, Int.reduceSub, Int.reduceAdd, h, c_sNum]
theorem c_Checks (x : Img) (hp : x.ins.length + x.outs.length ≤ 1000000000000000) : cF 4 [x.v] = some (.val [.bool true]) := by
  obtain ⟨_, hF, bF, rfl, hb⟩ := c_iFew x hp
  have hLv := c_sLive
  cases bF with
  | false =>
    unfold Img.v at hF ⊢
    refine cOf (by kernel_rfl) rfl ?_
    rw [g4_eq]
    simp only [g4, go1, Option.bind_some, eq_self, cond_true, cond_false, Nat.reduceAdd, Int.reduceEq, Int.reduceLT, Int.reduceLE, Int.reduceSub, Int.reduceAdd, hF, hLv]
  | true =>
    have hx := hb rfl
    have h1 := c_sCheck x hx
    have h2 := c_rsCheck x hx
    have h3 := c_sForm x hx
    have h4 := c_rsForm x hx
    unfold Img.v at hF h1 h2 h3 h4 ⊢
    refine cOf (by kernel_rfl) rfl ?_
    rw [g4_eq]
    simp only [g4, go1, Option.bind_some, eq_self, cond_true, cond_false, Nat.reduceAdd, Int.reduceEq, Int.reduceLT, Int.reduceLE, Int.reduceSub, Int.reduceAdd, hF, hLv, h1, h2, h3, h4, c_sNum, beq_self_eq_true]
end Go.Vm
end
