/-
  Part I of the proof. What is proved by the whole: the statement that the claim names, with no condition. This part: lemmas.
-/
import Derived.Test.YtmmcmfcnpfbifaaGreatDoorSH
set_option linter.unusedSimpArgs false
set_option linter.unusedVariables false

section
set_option maxRecDepth 100000
set_option maxHeartbeats 2000000
namespace Go.Vm
open Go.Proofs
theorem c67 (n : Int) : cF 112 [.d (.int .i64 n)] = some (.val [.bool (withinB n 0 65535)]) := by
  refine cOf (by kernel_rfl) rfl ?_
  rw [g112_eq]
  simp only [g112, go1, Option.bind_some, eq_self, cond_true, cond_false, Nat.reduceAdd, Int.reduceEq, Int.reduceLT, Int.reduceLE, Int.reduceSub, Int.reduceAdd]
  rfl
theorem c101 (k : Int) : cF 210 [.d (.int .i64 k)] = some (.val [.int .i64 k, .int .i64 0, .int .i64 0]) := by
  refine cOf (by kernel_rfl) rfl ?_
  rw [g210_eq]
  simp only [g210, go1, Option.bind_some, eq_self, cond_true, cond_false, Nat.reduceAdd, Int.reduceEq, Int.reduceLT, Int.reduceLE, Int.reduceSub, Int.reduceAdd]
theorem c42 (la lb : List Int) (lo hi k : Int) (hl : la.length ≤ 100000) : cF 110 [shV (irows la) (irows lb) lo hi, .d (.int .i64 k)] = some (.val [.bool (kindB (il la) k)]) := by
  unfold shV
  refine cOf (by kernel_rfl) rfl ?_
  rw [g110_eq]
  simp only [g110, go1, Option.bind_some, eq_self, cond_true, cond_false, Nat.reduceAdd, Int.reduceEq, Int.reduceLT, Int.reduceLE, Int.reduceSub, Int.reduceAdd, irows_len]
  rw [wrap_id (by omega) (by omega)]
  unfold kindB il
  by_cases h1 : k = 1
  · subst h1; rfl
  · by_cases h2 : k = 2
    · subst h2; rfl
    · rw [decF h1, decF h2]
      simp [h1, h2]
theorem c49 (la lb : List Int) (lo hi k n : Int) (hl : la.length ≤ 100000) (hk : kindB (il la) k = true) : cF 56 [shV (irows la) (irows lb) lo hi, .d (.int .i64 k), .d (.int .i64 n)] = some (.val [.bool (valueB la k n)]) := by
  unfold shV
  unfold kindB il at hk
  simp only [Bool.or_eq_true, Bool.and_eq_true, decide_eq_true_eq, beq_iff_eq] at hk
  refine cOf (by kernel_rfl) rfl ?_
  rw [g56_eq]
  simp only [g56, go1, Option.bind_some, eq_self, cond_true, cond_false, Nat.reduceAdd, Int.reduceEq, Int.reduceLT, Int.reduceLE, Int.reduceSub, Int.reduceAdd, irows_len]
  unfold valueB
  by_cases h1 : k = 1
  · subst h1; rfl
  · by_cases h2 : k = 2
    · subst h2
      simp only [go1, Option.bind_some, eq_self, cond_true, cond_false, Nat.reduceAdd, Int.reduceEq, Int.reduceLT, Int.reduceLE, Int.reduceSub, Int.reduceAdd]
      have e : ∀ (p q : Int), (p == q) = decide (p = q) := fun p q => by rw [Bool.eq_iff_iff]; simp
      rw [e, e]; simp
    · rw [decF h1, decF h2, if_neg h1, if_neg h2]
      simp only [go1, Option.bind_some, eq_self, cond_true, cond_false, Nat.reduceAdd, Int.reduceEq, Int.reduceLT, Int.reduceLE, Int.reduceSub, Int.reduceAdd]
      have hk2 : 3 ≤ k ∧ k < 3 + (la.length : Int) := by omega
      by_cases h0 : 0 ≤ n
      · rw [decT h0]
        simp only [go1, Option.bind_some, eq_self, cond_true, cond_false, Nat.reduceAdd, Int.reduceEq, Int.reduceLT, Int.reduceLE, Int.reduceSub, Int.reduceAdd]
        rw [wrap_id (by omega) (by omega), decT (p := 0 ≤ k - 3 ∧ k - 3 < (la.length : Int)) (by omega), irows_cell (by omega) (by omega)]
        simp only [go1, Option.bind_some, eq_self, cond_true, cond_false, Nat.reduceAdd, Int.reduceEq, Int.reduceLT, Int.reduceLE, Int.reduceSub, Int.reduceAdd]
      · rw [decF h0]
        simp only [go1, Option.bind_some, eq_self, cond_true, cond_false, Nat.reduceAdd, Int.reduceEq, Int.reduceLT, Int.reduceLE, Int.reduceSub, Int.reduceAdd]
theorem c35 (x : Ins) : cF 58 [insV x] = some (.val [.bool (rightB x)]) := by
  obtain ⟨op, a, b, n⟩ := x
  unfold insV
  refine cOf (by kernel_rfl) rfl ?_
  rw [g58_eq]
  simp only [g58, go1, Option.bind_some, eq_self, cond_true, cond_false, Nat.reduceAdd, Int.reduceEq, Int.reduceLT, Int.reduceLE, Int.reduceSub, Int.reduceAdd, c67]
  unfold rightB
  simp only
  have e : ∀ (p q : Int), (p == q) = decide (p = q) := fun p q => by rw [Bool.eq_iff_iff]; simp
  simp only [e]
  by_cases hop : 1 ≤ op ∧ op ≤ 10
  · have : op = 1 ∨ op = 2 ∨ op = 3 ∨ op = 4 ∨ op = 5 ∨ op = 6 ∨ op = 7 ∨ op = 8 ∨ op = 9 ∨ op = 10 := by omega
    rcases this with rfl | rfl | rfl | rfl | rfl | rfl | rfl | rfl | rfl | rfl <;>
      simp only [go1, Option.bind_some, eq_self, cond_true, cond_false, Nat.reduceAdd, Int.reduceEq, Int.reduceLT, Int.reduceLE, Int.reduceSub, Int.reduceAdd] <;> (try simp) <;> (by_cases hn : n = 0 <;> by_cases hb : b = 0 <;> simp [hn, hb, withinB, Bool.and_assoc])
  · rw [if_neg (by omega), if_neg (by omega), if_neg (by omega), if_neg (by omega), if_neg (by omega), if_neg (by omega), Bool.and_false]
    rw [decF (p := op = 1) (by omega), decF (p := op = 2) (by omega), decF (p := op = 3) (by omega), decF (p := op = 6) (by omega), decF (p := op = 7) (by omega), decF (p := op = 4) (by omega), decF (p := op = 5) (by omega), decF (p := op = 8) (by omega), decF (p := op = 9) (by omega), decF (p := op = 10) (by omega)]
    simp only [go1, Option.bind_some, eq_self, cond_true, cond_false, Nat.reduceAdd, Int.reduceEq, Int.reduceLT, Int.reduceLE, Int.reduceSub, Int.reduceAdd]
    cases (!decide (n = 0) || !decide (b = 0)) <;> rfl
/-- A loop that looks at all of a list and may end early. -/
theorem all_loop {τ α : Type} {b : List D → Option (List D ⊕ α)} {r0 r1 : α} (p : τ → Bool) (l : List τ) (mk : Nat → List D)
    (hb : ∀ i x, l[i]? = some x → b (mk i) = bif p x then some (.inl (mk (i + 1))) else some (.inr r0))
    (hend : l.all p = true → b (mk l.length) = some (.inr r1)) : loopF b (mk 0) = some (bif l.all p then r1 else r0) := by
  suffices ∀ (rest : List τ) (i : Nat), l.drop i = rest → i ≤ l.length → (l.take i).all p = true → loopF b (mk i) = some (bif rest.all p then r1 else r0) from this l 0 rfl (Nat.zero_le _) rfl
  intro rest
  induction rest with
  | nil =>
    intro i hd hi ht
    have : i = l.length := by have := congrArg List.length hd; simp at this; omega
    subst this
    rw [List.take_length] at ht
    rw [loopF_eq, hend ht]
    rfl
  | cons x xs ih =>
    intro i hd hi ht
    have hx : l[i]? = some x := by
      have := congrArg (fun r => r[0]?) hd
      simpa using this
    have hlt : i < l.length := (List.getElem?_eq_some_iff.1 hx).1
    have hxs : l.drop (i + 1) = xs := by
      have := congrArg List.tail hd
      simpa using this
    rw [loopF_eq, hb i x hx]
    cases hp : p x with
    | false => simp [List.all_cons, hp]
    | true =>
      simp only [cond_true, List.all_cons, hp, Bool.true_and]
      refine ih (i + 1) hxs hlt ?_
      rw [List.take_add_one, hx, List.all_append, ht]
      simp [hp]
theorem all_loop' {τ α : Type} {b : List D → Option (List D ⊕ α)} {r0 r1 r : α} (p : τ → Bool) (l : List τ) (mk : Nat → List D)
    (hb : ∀ i x, l[i]? = some x → b (mk i) = bif p x then some (.inl (mk (i + 1))) else some (.inr r0))
    (hend : l.all p = true → b (mk l.length) = some (.inr r1)) (hr : (bif l.all p then r1 else r0) = r) : loopF b (mk 0) = some r := by
  rw [all_loop p l mk hb hend, hr]
theorem c15 (la lb : List Int) (lo hi : Int) (hla : la.length ≤ 1000) (hlb : lb.length ≤ 10000) : cF 55 [shV (irows la) (irows lb) lo hi] = some (.val [.bool (shapeB la lb lo hi)]) := by
  have h42 := fun k => c42 la lb lo hi k (by omega)
  unfold shapeB il
  by_cases hc : (la.length : Int) ≤ 4 ∧ (lb.length : Int) ≤ 1000 ∧ 0 ≤ lo ∧ lo ≤ hi ∧ hi ≤ (lb.length : Int)
  · obtain ⟨h1, h2, h3, h4, h5⟩ := hc
    rw [decT h1, decT h2, decT h3, decT h4, decT h5]
    unfold shV at *
    refine cOf (by kernel_rfl) rfl ?_
    rw [g55_eq]
    simp only [g55, go1, Option.bind_some, eq_self, cond_true, cond_false, Nat.reduceAdd, Int.reduceEq, Int.reduceLT, Int.reduceLE, Int.reduceSub, Int.reduceAdd, irows_len]
    simp (disch := omega) only [wrap_id, decT, decF, go1, Option.bind_some, eq_self, cond_true, cond_false, Nat.reduceAdd, Int.reduceEq, Int.reduceLT, Int.reduceLE, Int.reduceSub, Int.reduceAdd]
    refine all_loop' (r0 := PRes.val [.bool false]) (r1 := PRes.val [.bool (lb.all (kindB (il la)))]) (fun n => decide (1 ≤ n)) la (fun i => [.int .i64 (i : Int), .sl 1 (irows la), .sl 1 (irows lb), .int .i64 lo, .int .i64 hi]) (fun i x hx => ?_) (fun hall => ?_) ?_
    · have hlt := (List.getElem?_eq_some_iff.1 hx).1
      simp only [go1, Option.bind_some, eq_self, cond_true, cond_false, Nat.reduceAdd, Int.reduceEq, Int.reduceLT, Int.reduceLE, Int.reduceSub, Int.reduceAdd, irows_len, ilt_at hlt, inr_at hlt, irows_at hx, wrap_succ hlt (by omega)]
      by_cases h : 1 ≤ x
      · rw [decT h, decF (by omega)]; rfl
      · rw [decF h, decT (by omega)]; rfl
    · simp only [go1, Option.bind_some, eq_self, cond_true, cond_false, Nat.reduceAdd, Int.reduceEq, Int.reduceLT, Int.reduceLE, Int.reduceSub, Int.reduceAdd, ilt_self, irows_len]
      refine all_loop' (α := List D ⊕ PRes) (r0 := .inr (PRes.val [.bool false])) (r1 := .inr (PRes.val [.bool true])) (kindB (il la)) lb (fun i => [.int .i64 (i : Int), .sl 1 (irows la), .sl 1 (irows lb), .int .i64 lo, .int .i64 hi]) (fun i x hx => ?_) (fun _ => ?_) ?_
      · have hlt := (List.getElem?_eq_some_iff.1 hx).1
        simp only [go1, Option.bind_some, eq_self, cond_true, cond_false, Nat.reduceAdd, Int.reduceEq, Int.reduceLT, Int.reduceLE, Int.reduceSub, Int.reduceAdd, irows_len, ilt_at hlt, inr_at hlt, irows_at hx, wrap_succ hlt (by omega), h42]
        cases kindB (il la) x <;> rfl
      · simp only [go1, Option.bind_some, eq_self, cond_true, cond_false, Nat.reduceAdd, Int.reduceEq, Int.reduceLT, Int.reduceLE, Int.reduceSub, Int.reduceAdd, ilt_self, irows_len]
      · cases lb.all (kindB (il la)) <;> rfl
    · show (bif (la.all fun n => decide (1 ≤ n)) then _ else _) = PRes.val [.bool ((la.all fun n => decide (1 ≤ n)) && lb.all (kindB (il la)))]
      cases (la.all fun n => decide (1 ≤ n)) <;> rfl
  · have hz : (decide ((la.length : Int) ≤ 4) && decide ((lb.length : Int) ≤ 1000) && decide (0 ≤ lo) && decide (lo ≤ hi) && decide (hi ≤ (lb.length : Int))) = false := by
      rw [Bool.eq_false_iff]; intro h; simp only [Bool.and_eq_true, decide_eq_true_eq] at h; omega
    rw [hz]
    unfold shV at *
    refine cOf (by kernel_rfl) rfl ?_
    rw [g55_eq]
    simp only [g55, go1, Option.bind_some, eq_self, cond_true, cond_false, Nat.reduceAdd, Int.reduceEq, Int.reduceLT, Int.reduceLE, Int.reduceSub, Int.reduceAdd, irows_len]
    have hq : (decide (4 < (la.length : Int)) || decide (1000 < (lb.length : Int)) || decide (lo < 0) || decide ((lb.length : Int) < hi) || decide (hi < lo)) = true := by
      simp only [Bool.or_eq_true, decide_eq_true_eq]; omega
    rw [hq]
    rfl
end Go.Vm
end

section
set_option maxRecDepth 100000
set_option maxHeartbeats 2000000
namespace Go.Vm
open Go.Proofs
theorem c70 (k : Int) (h : -1000 ≤ k) (h1 : k ≤ 1000000) : cF 153 [.d (.int .i64 k)] = some (.val [.int .i64 (tyOf k).k, .int .i64 (tyOf k).e, .int .i64 (tyOf k).l]) := by
  refine cOf (by kernel_rfl) rfl ?_
  rw [g153_eq]
  simp only [g153, go1, Option.bind_some, eq_self, cond_true, cond_false, Nat.reduceAdd, Int.reduceEq, Int.reduceLT, Int.reduceLE, Int.reduceSub, Int.reduceAdd]
  rw [wrap_id (by omega) (by omega)]
  unfold tyOf
  by_cases h : k < 3
  · rw [decT h, if_pos h]; rfl
  · rw [decF h, if_neg h]; rfl
def topB (row : List Int) (j : Nat) : Int := if row.length ≤ j then 0 else topN row j
theorem c71 (row : List Int) (j : Nat) (hr : row.length ≤ 1000) (hj : j ≤ 10) : cF 154 [.d (.sl 1 (irows row)), .d (.int .i64 (j : Int))] = some (.val [.int .i64 (topB row j)]) := by
  refine cOf (by kernel_rfl) rfl ?_
  rw [g154_eq]
  simp only [g154, go1, Option.bind_some, eq_self, cond_true, cond_false, Nat.reduceAdd, Int.reduceEq, Int.reduceLT, Int.reduceLE, Int.reduceSub, Int.reduceAdd, irows_len]
  unfold topB topN
  by_cases h : row.length ≤ j
  · rw [decT (by omega), if_pos h]; rfl
  · rw [decF (by omega), if_neg h]
    simp only [go1, Option.bind_some, eq_self, cond_true, cond_false, Nat.reduceAdd, Int.reduceEq, Int.reduceLT, Int.reduceLE, Int.reduceSub, Int.reduceAdd]
    rw [wrap_id (n := (row.length : Int) - 1) (by omega) (by omega), wrap_id (by omega) (by omega), decT (p := 0 ≤ (row.length : Int) - 1 - j ∧ (row.length : Int) - 1 - j < (row.length : Int)) (by omega), irows_cell (by omega) (by omega)]
    simp only [go1, Option.bind_some, eq_self, cond_true, cond_false, Nat.reduceAdd, Int.reduceEq, Int.reduceLT, Int.reduceLE, Int.reduceSub, Int.reduceAdd]
    rw [show ((row.length : Int) - 1 - j).toNat = row.length - 1 - j by omega]
theorem c71_0 (row : List Int) (hr : row.length ≤ 1000) : cF 154 [.d (.sl 1 (irows row)), .d (.int .i64 0)] = some (.val [.int .i64 (topB row 0)]) := c71 row 0 hr (by omega)
theorem c71_1 (row : List Int) (hr : row.length ≤ 1000) : cF 154 [.d (.sl 1 (irows row)), .d (.int .i64 1)] = some (.val [.int .i64 (topB row 1)]) := c71 row 1 hr (by omega)
theorem c68_k (row : List Int) (j : Nat) (k : Int) (hr : row.length ≤ 1000) (hj : j ≤ row.length) (hk : k ≠ 0) : cF 151 [.d (.sl 1 (irows row)), .d (.int .i64 (j : Int)), .d (.int .i64 k)] = some (.own 3 1 (irows (dropTop row j ++ [k]))) := by
  refine cOf (by kernel_rfl) rfl ?_
  rw [g151_eq]
  simp only [g151, go1, Option.bind_some, eq_self, cond_true, cond_false, Nat.reduceAdd, Int.reduceEq, Int.reduceLT, Int.reduceLE, Int.reduceSub, Int.reduceAdd, irows_len]
  rw [wrap_id (by omega) (by omega), decT (p := 0 ≤ (row.length : Int) - j ∧ (row.length : Int) - j ≤ (row.length : Int)) (by omega), decF hk]
  have e : List.drop (Int.toNat 0) (List.take ((row.length : Int) - j).toNat (irows row)) = irows (dropTop row j) := by
    show List.drop 0 _ = _
    rw [List.drop_zero, irows_take, show ((row.length : Int) - j).toNat = row.length - j by omega]; rfl
  have hl : (dropTop row j).length ≤ 1000 := by unfold dropTop; rw [List.length_take]; omega
  simp only [go1, Option.bind_some, eq_self, cond_true, cond_false, Nat.reduceAdd, Int.reduceEq, Int.reduceLT, Int.reduceLE, Int.reduceSub, Int.reduceAdd, e, List.nil_append, irows_len, List.length_nil, List.length_cons]
  rw [decT (by omega), decT (by omega)]
  simp only [go1, Option.bind_some, eq_self, cond_true, cond_false, Nat.reduceAdd, Int.reduceEq, Int.reduceLT, Int.reduceLE, Int.reduceSub, Int.reduceAdd]
  rw [show ([[D.int .i64 k]] : List (List D)) = irows [k] from rfl, irows_app]
theorem c68_0 (row : List Int) (j : Nat) (hr : row.length ≤ 1000) (hj : j ≤ row.length) : cF 151 [.d (.sl 1 (irows row)), .d (.int .i64 (j : Int)), .d (.int .i64 0)] = some (.own 3 1 (irows (dropTop row j))) := by
  refine cOf (by kernel_rfl) rfl ?_
  rw [g151_eq]
  simp only [g151, go1, Option.bind_some, eq_self, cond_true, cond_false, Nat.reduceAdd, Int.reduceEq, Int.reduceLT, Int.reduceLE, Int.reduceSub, Int.reduceAdd, irows_len]
  rw [wrap_id (by omega) (by omega), decT (p := 0 ≤ (row.length : Int) - j ∧ (row.length : Int) - j ≤ (row.length : Int)) (by omega)]
  have e : List.drop (Int.toNat 0) (List.take ((row.length : Int) - j).toNat (irows row)) = irows (dropTop row j) := by
    show List.drop 0 _ = _
    rw [List.drop_zero, irows_take, show ((row.length : Int) - j).toNat = row.length - j by omega]; rfl
  have hl : (dropTop row j).length ≤ 1000 := by unfold dropTop; rw [List.length_take]; omega
  simp only [go1, Option.bind_some, eq_self, cond_true, cond_false, Nat.reduceAdd, Int.reduceEq, Int.reduceLT, Int.reduceLE, Int.reduceSub, Int.reduceAdd, e, List.nil_append, irows_len, List.length_nil]
  rw [decT (by omega)]
  simp only [go1, Option.bind_some, eq_self, cond_true, cond_false, Nat.reduceAdd, Int.reduceEq, Int.reduceLT, Int.reduceLE, Int.reduceSub, Int.reduceAdd]
theorem c69 (op : Int) (t : Ty3) : cF 152 [.d (.int .i64 op), t.v] = some (tyR (unTy op t)) := by
  unfold Ty3.v tyV
  refine cOf (by kernel_rfl) rfl ?_
  rw [g152_eq]
  simp only [g152, go1, Option.bind_some, eq_self, cond_true, cond_false, Nat.reduceAdd, Int.reduceEq, Int.reduceLT, Int.reduceLE, Int.reduceSub, Int.reduceAdd, c101]
  unfold unTy
  simp only [ty_ext]
  by_cases h1 : op = 1 <;> by_cases h2 : op = 2 <;> by_cases h3 : t.k = 1 <;> by_cases h4 : t.k = 2 <;> by_cases h5 : t.e = 0 <;> by_cases h6 : t.l = 0 <;> simp [h1, h2, h3, h4, h5, h6, tyR] <;> omega
theorem deq3 (t : Ty3) (a b c : Int) : (decide (t.k = a) && (decide (t.e = b) && decide (t.l = c))) = decide (t = ⟨a, b, c⟩) := by
  rw [Bool.eq_iff_iff]; simp [ty_ext]
theorem deq3' (t u : Ty3) : (decide (t.k = u.k) && (decide (t.e = u.e) && decide (t.l = u.l))) = decide (t = u) := by
  rw [Bool.eq_iff_iff]; simp [ty_ext]
theorem c73 (op : Int) (t u : Ty3) : cF 156 [.d (.int .i64 op), t.v, u.v] = some (tyR (binTy op t u)) := by
  unfold Ty3.v tyV
  refine cOf (by kernel_rfl) rfl ?_
  rw [g156_eq]
  simp only [g156, go1, Option.bind_some, eq_self, cond_true, cond_false, Nat.reduceAdd, Int.reduceEq, Int.reduceLT, Int.reduceLE, Int.reduceSub, Int.reduceAdd, c101]
  simp only [deq3']
  simp only [deq3]
  unfold binTy
  by_cases g1 : 3 ≤ op ∧ op ≤ 7
  · have hg : group op = 1 := if_pos g1
    rw [hg]
    simp (disch := omega) only [wrap_id, decT, decF, go1, Option.bind_some, eq_self, cond_true, cond_false, Nat.reduceAdd, Int.reduceEq, Int.reduceLT, Int.reduceLE, Int.reduceSub, Int.reduceAdd]
    by_cases a1 : t = ⟨1, 0, 0⟩ <;> by_cases a2 : t = ⟨2, 0, 0⟩ <;> by_cases b1 : u = ⟨1, 0, 0⟩ <;> simp_all [tyR]
  by_cases g2 : 8 ≤ op ∧ op ≤ 10
  · have hg : group op = 2 := by unfold group; rw [if_neg g1, if_pos g2]
    rw [hg]
    simp (disch := omega) only [wrap_id, decT, decF, go1, Option.bind_some, eq_self, cond_true, cond_false, Nat.reduceAdd, Int.reduceEq, Int.reduceLT, Int.reduceLE, Int.reduceSub, Int.reduceAdd]
    by_cases a1 : t = ⟨1, 0, 0⟩ <;> by_cases a2 : t = ⟨2, 0, 0⟩ <;> by_cases b1 : u = ⟨2, 0, 0⟩ <;> simp_all [tyR]
  by_cases g4 : op = 11 ∨ op = 12
  · have hg : group op = 4 := by unfold group; rw [if_neg g1, if_neg g2, if_pos g4]
    rw [hg]
    rcases g4 with rfl | rfl
    · simp (disch := omega) only [wrap_id, decT, decF, go1, Option.bind_some, eq_self, cond_true, cond_false, Nat.reduceAdd, Int.reduceEq, Int.reduceLT, Int.reduceLE, Int.reduceSub, Int.reduceAdd]
      by_cases a1 : t = ⟨1, 0, 0⟩ <;> by_cases a2 : t = ⟨2, 0, 0⟩ <;> by_cases b1 : t = u <;> by_cases c1 : t.l = 0 <;> simp_all [tyR]
    · simp (disch := omega) only [wrap_id, decT, decF, go1, Option.bind_some, eq_self, cond_true, cond_false, Nat.reduceAdd, Int.reduceEq, Int.reduceLT, Int.reduceLE, Int.reduceSub, Int.reduceAdd]
      by_cases a1 : t = ⟨1, 0, 0⟩ <;> by_cases a2 : t = ⟨2, 0, 0⟩ <;> by_cases b1 : t = u <;> by_cases c1 : t.l = 0 <;> simp_all [tyR]
  by_cases g3 : 13 ≤ op ∧ op ≤ 16
  · have hg : group op = 3 := by unfold group; rw [if_neg g1, if_neg g2, if_neg g4, if_pos g3]
    rw [hg]
    simp (disch := omega) only [wrap_id, decT, decF, go1, Option.bind_some, eq_self, cond_true, cond_false, Nat.reduceAdd, Int.reduceEq, Int.reduceLT, Int.reduceLE, Int.reduceSub, Int.reduceAdd]
    by_cases a1 : t = ⟨1, 0, 0⟩ <;> by_cases a2 : t = ⟨2, 0, 0⟩ <;> by_cases b1 : u = ⟨1, 0, 0⟩ <;> simp_all [tyR]
  · have hg : group op = 0 := by unfold group; rw [if_neg g1, if_neg g2, if_neg g4, if_neg g3]
    rw [hg]
    have e1 : (decide (3 ≤ op) && decide (op ≤ 7)) = false := by rw [Bool.eq_false_iff]; intro h; simp only [Bool.and_eq_true, decide_eq_true_eq] at h; omega
    have e2 : (decide (8 ≤ op) && decide (op ≤ 10)) = false := by rw [Bool.eq_false_iff]; intro h; simp only [Bool.and_eq_true, decide_eq_true_eq] at h; omega
    have e3 : ∀ p : Bool, (decide (13 ≤ op) && (decide (op ≤ 16) && p)) = false := fun p => by rw [Bool.eq_false_iff]; intro h; simp only [Bool.and_eq_true, decide_eq_true_eq] at h; omega
    simp (disch := omega) only [wrap_id, decT, decF, go1, Option.bind_some, eq_self, cond_true, cond_false, Nat.reduceAdd, Int.reduceEq, Int.reduceLT, Int.reduceLE, Int.reduceSub, Int.reduceAdd, e1, e2, e3]
    by_cases a1 : t = ⟨1, 0, 0⟩ <;> by_cases a2 : t = ⟨2, 0, 0⟩ <;> simp_all [tyR]
theorem c72 (t : Ty3) (h : -1000 ≤ t.e) (h1 : t.e ≤ 1000000) : cF 155 [t.v] = some (.val [.int .i64 (if t.k < 3 then t.k else 3 + t.e)]) := by
  unfold Ty3.v tyV
  refine cOf (by kernel_rfl) rfl ?_
  rw [g155_eq]
  simp only [g155, go1, Option.bind_some, eq_self, cond_true, cond_false, Nat.reduceAdd, Int.reduceEq, Int.reduceLT, Int.reduceLE, Int.reduceSub, Int.reduceAdd]
  rw [wrap_id (by omega) (by omega)]
  by_cases h : t.k < 3
  · rw [decT h, if_pos h]; rfl
  · rw [decF h, if_neg h]; rfl
theorem c37 (la lb : List Int) (hl : la.length ≤ 100000) : cF 93 [.d (.sl 1 (irows la)), .d (.sl 1 (irows lb))] = some (.val [.bool (la == lb)]) := by
  refine cOf (by kernel_rfl) rfl ?_
  rw [g93_eq]
  simp only [g93, go1, Option.bind_some, eq_self, cond_true, cond_false, Nat.reduceAdd, Int.reduceEq, Int.reduceLT, Int.reduceLE, Int.reduceSub, Int.reduceAdd, irows_len]
  by_cases hlen : la.length = lb.length
  · rw [decT (p := (la.length : Int) = (lb.length : Int)) (by omega)]
    simp only [go1, Option.bind_some, eq_self, cond_true, cond_false, Nat.reduceAdd, Int.reduceEq, Int.reduceLT, Int.reduceLE, Int.reduceSub, Int.reduceAdd]
    refine loopF_at (fun i : Nat => [.sl 1 (irows la), .sl 1 (irows lb), .int .i64 (i : Int)]) (fun i => i ≤ la.length ∧ (la == lb) = (la.drop i == lb.drop i)) (fun i => la.length - i) (fun i ⟨hi, he⟩ => ?_) 0 ⟨Nat.zero_le _, rfl⟩
    by_cases hlt : i < la.length
    · have hx : la[i]? = some la[i] := List.getElem?_eq_getElem hlt
      have hy : lb[i]? = some (lb[i]'(by omega)) := List.getElem?_eq_getElem (by omega)
      have hd : (la.drop i == lb.drop i) = (decide (la[i] = lb[i]'(by omega)) && (la.drop (i + 1) == lb.drop (i + 1))) := by
        rw [List.drop_eq_getElem_cons hlt, List.drop_eq_getElem_cons (show i < lb.length by omega), List.cons_beq_cons]
        congr 1
      simp only [go1, Option.bind_some, eq_self, cond_true, cond_false, Nat.reduceAdd, Int.reduceEq, Int.reduceLT, Int.reduceLE, Int.reduceSub, Int.reduceAdd, irows_len, ilt_at hlt, inr_at hlt, inr_at (show i < lb.length by omega), irows_at hx, irows_at hy, wrap_succ hlt (by omega)]
      by_cases hq : la[i] = lb[i]'(by omega)
      · left
        refine ⟨i + 1, by simp [hq], ⟨by omega, ?_⟩, by omega⟩
        rw [he, hd]; simp [hq]
      · right
        rw [he, hd]; simp [hq]
    · right
      have : i = la.length := by omega
      subst this
      simp only [go1, Option.bind_some, eq_self, cond_true, cond_false, Nat.reduceAdd, Int.reduceEq, Int.reduceLT, Int.reduceLE, Int.reduceSub, Int.reduceAdd, irows_len, ilt_self]
      rw [he, List.drop_length, hlen, List.drop_length]
      rfl
  · rw [decF (p := (la.length : Int) = (lb.length : Int)) (by omega)]
    have : (la == lb) = false := by rw [Bool.eq_false_iff]; intro h; exact hlen (by rw [eq_of_beq h])
    rw [this]
    rfl
end Go.Vm
end

section
set_option maxRecDepth 100000
set_option maxHeartbeats 2000000
namespace Go.Vm
open Go.Proofs
theorem all_loop2 {τ α : Type} {b : List D → Option (List D ⊕ α)} {r0 r1 r : α} {ds : List D} (p : τ → Bool) (l : List τ) (mk : Nat → List D) (h0 : mk 0 = ds)
    (hb : ∀ i x, l[i]? = some x → b (mk i) = bif p x then some (.inl (mk (i + 1))) else some (.inr r0))
    (hend : l.all p = true → b (mk l.length) = some (.inr r1)) (hr : (bif l.all p then r1 else r0) = r) : loopF b ds = some r := by
  rw [← h0, all_loop p l mk hb hend, hr]
theorem c102 (a : List (List D)) (lb : List Int) (lo hi at_ n : Int) (h0 : 0 ≤ at_) (h1 : at_ ≤ 100000) (h2 : 1 ≤ n) (h3 : n ≤ 8) (hlb : lb.length ≤ 10000) : cF 211 [shV a (irows lb) lo hi, .d (.int .i64 at_), .d (.int .i64 n)] = some (.val [.int .i64 ((cellsK lb at_ n).getD 0)]) := by
  unfold shV
  by_cases hle : (lb.length : Int) < at_ + n
  · unfold cellsK il
    rw [if_neg (by omega)]
    refine cOf (by kernel_rfl) rfl ?_
    rw [g211_eq]
    simp only [g211, go1, Option.bind_some, eq_self, cond_true, cond_false, Nat.reduceAdd, Int.reduceEq, Int.reduceLT, Int.reduceLE, Int.reduceSub, Int.reduceAdd, irows_len]
    simp (disch := omega) only [wrap_id, decT, decF, go1, Option.bind_some, eq_self, cond_true, cond_false, Nat.reduceAdd, Int.reduceEq, Int.reduceLT, Int.reduceLE, Int.reduceSub, Int.reduceAdd]
    rfl
  · have hc : cellsK lb at_ n = if ((lb.drop at_.toNat).take n.toNat).all (fun k => k == lb.getD at_.toNat 0) then some (lb.getD at_.toNat 0) else none := by
      unfold cellsK il; rw [if_pos (by omega)]
    rw [hc]
    refine cOf (by kernel_rfl) rfl ?_
    rw [g211_eq]
    simp only [g211, go1, Option.bind_some, eq_self, cond_true, cond_false, Nat.reduceAdd, Int.reduceEq, Int.reduceLT, Int.reduceLE, Int.reduceSub, Int.reduceAdd, irows_len]
    simp (disch := omega) only [wrap_id, decT, decF, go1, Option.bind_some, eq_self, cond_true, cond_false, Nat.reduceAdd, Int.reduceEq, Int.reduceLT, Int.reduceLE, Int.reduceSub, Int.reduceAdd]
    refine all_loop2 (r0 := PRes.val [.int .i64 0]) (r1 := PRes.val [.int .i64 (lb.getD at_.toNat 0)]) (fun k => k == lb.getD at_.toNat 0) ((lb.drop at_.toNat).take n.toNat) (fun j => [.int .i64 at_, .int .i64 n, .int .i64 (at_ + (j : Int)), .sl 1 a, .sl 1 (irows lb), .int .i64 lo, .int .i64 hi]) (by simp) (fun i x hx => ?_) (fun _ => ?_) ?_
    · have hlt := (List.getElem?_eq_some_iff.1 hx).1
      rw [List.length_take, List.length_drop] at hlt
      rw [List.getElem?_take, if_pos (by omega), List.getElem?_drop] at hx
      have hcell : sy.cell (sy.row (irows lb) (at_ + (i : Int))) 0 = some (.int .i64 x) := by
        have := irows_at hx
        rwa [show ((at_.toNat + i : Nat) : Int) = at_ + i by omega] at this
      simp (disch := omega) only [wrap_id, decT, decF, go1, Option.bind_some, eq_self, cond_true, cond_false, Nat.reduceAdd, Int.reduceEq, Int.reduceLT, Int.reduceLE, Int.reduceSub, Int.reduceAdd, irows_len, hcell, irows_cell (la := lb) h0 (by omega)]
      by_cases hq : x = lb.getD at_.toNat 0
      · rw [decT hq, show (x == lb.getD at_.toNat 0) = true from by simp [hq], show at_ + (i : Int) + 1 = at_ + ((i + 1 : Nat) : Int) by omega]; rfl
      · rw [decF hq, show (x == lb.getD at_.toNat 0) = false from by rw [beq_eq_false_iff_ne]; exact hq]; rfl
    · have hl : (((lb.drop at_.toNat).take n.toNat).length : Int) = n := by rw [List.length_take, List.length_drop]; omega
      rw [hl]
      simp (disch := omega) only [wrap_id, decT, decF, go1, Option.bind_some, eq_self, cond_true, cond_false, Nat.reduceAdd, Int.reduceEq, Int.reduceLT, Int.reduceLE, Int.reduceSub, Int.reduceAdd, irows_len, irows_cell (la := lb) h0 (by omega)]
    · cases (List.all (List.take n.toNat (List.drop at_.toNat lb)) fun k => k == lb.getD at_.toNat 0) <;> rfl
theorem free_range (lo hi at_ n : Int) (h2 : 1 ≤ n) : ((List.range n.toNat).all fun (j : Nat) => !(decide (lo ≤ at_ + (j : Int)) && decide (at_ + (j : Int) < hi))) = !fixedB lo hi at_ n := by
  unfold fixedB
  rw [Bool.eq_iff_iff, List.all_eq_true]
  simp only [List.mem_range, Bool.not_eq_true', Bool.and_eq_false_iff, decide_eq_false_iff_not]
  constructor
  · intro h
    by_cases h1 : at_ < hi ∧ lo < at_ + n ∧ lo < hi
    · exfalso
      by_cases h4 : at_ ≤ lo
      · have := h (lo - at_).toNat (by omega)
        omega
      · have := h 0 (by omega)
        omega
    · omega
  · intro h j hj
    omega
theorem c103 (a b : List (List D)) (lo hi at_ n : Int) (h0 : 0 ≤ at_) (h1 : at_ ≤ 100000) (h2 : 1 ≤ n) (h3 : n ≤ 1000) : cF 212 [shV a b lo hi, .d (.int .i64 at_), .d (.int .i64 n)] = some (.val [.bool (!fixedB lo hi at_ n)]) := by
  unfold shV
  refine cOf (by kernel_rfl) rfl ?_
  rw [g212_eq]
  simp only [g212, go1, Option.bind_some, eq_self, cond_true, cond_false, Nat.reduceAdd, Int.reduceEq, Int.reduceLT, Int.reduceLE, Int.reduceSub, Int.reduceAdd]
  rw [← free_range lo hi at_ n h2]
  refine all_loop2 (r0 := PRes.val [.bool false]) (r1 := PRes.val [.bool true]) (fun (j : Nat) => !(decide (lo ≤ at_ + (j : Int)) && decide (at_ + (j : Int) < hi))) (List.range n.toNat) (fun j => [.int .i64 at_, .int .i64 n, .int .i64 (at_ + (j : Int)), .sl 1 a, .sl 1 b, .int .i64 lo, .int .i64 hi]) (by simp) (fun i x hx => ?_) (fun _ => ?_) ?_
  · have hlt := (List.getElem?_eq_some_iff.1 hx).1
    rw [List.length_range] at hlt
    rw [List.getElem?_range hlt] at hx
    cases hx
    simp (disch := omega) only [wrap_id, decT, decF, go1, Option.bind_some, eq_self, cond_true, cond_false, Nat.reduceAdd, Int.reduceEq, Int.reduceLT, Int.reduceLE, Int.reduceSub, Int.reduceAdd]
    rw [show at_ + (i : Int) + 1 = at_ + ((i + 1 : Nat) : Int) by omega]
    cases (decide (lo ≤ at_ + (i : Int)) && decide (at_ + (i : Int) < hi)) <;> rfl
  · rw [List.length_range]
    simp (disch := omega) only [wrap_id, decT, decF, go1, Option.bind_some, eq_self, cond_true, cond_false, Nat.reduceAdd, Int.reduceEq, Int.reduceLT, Int.reduceLE, Int.reduceSub, Int.reduceAdd]
  · cases (List.all (List.range n.toNat) _) <;> rfl
end Go.Vm
end

section
set_option maxRecDepth 100000
set_option maxHeartbeats 2000000
namespace Go.Vm
open Go.Proofs
theorem drop_last {row : List Int} (h : 1 ≤ row.length) : row.drop (row.length - 1) = [topN row 0] := by
  rw [List.drop_eq_getElem_cons (by omega), List.drop_eq_nil_of_le (by omega)]
  unfold topN
  rw [List.getD_eq_getElem?_getD, List.getElem?_eq_getElem (by omega)]
  rfl
theorem drop_last2 {row : List Int} (h : 2 ≤ row.length) : row.drop (row.length - 2) = [topN row 1, topN row 0] := by
  rw [List.drop_eq_getElem_cons (by omega), show row.length - 2 + 1 = row.length - 1 by omega, drop_last (by omega)]
  congr 1
  unfold topN
  rw [List.getD_eq_getElem?_getD, List.getElem?_eq_getElem (show row.length - 1 - 1 < row.length by omega)]
  rfl
theorem ends1 (row : List Int) (k : Int) (hk : 1 ≤ k) : endsB row [k] = decide (topB row 0 = k) := by
  unfold endsB topB
  by_cases h : row.length ≤ 0
  · rw [if_pos h, decF (p := (0 : Int) = k) (by omega), decF (p := List.length [k] ≤ row.length) (by simp only [List.length_cons, List.length_nil]; omega), Bool.and_false]
  · rw [if_neg h, decT (p := List.length [k] ≤ row.length) (by simp only [List.length_cons, List.length_nil]; omega), Bool.and_true]
    show (row.drop (row.length - 1) == [k]) = _
    rw [drop_last (by omega), Bool.eq_iff_iff]; simp
theorem ends2 (row : List Int) (k : Int) (hk : 1 ≤ k) : endsB row [k, 1] = (decide (topB row 0 = 1) && decide (topB row 1 = k)) := by
  unfold endsB topB
  by_cases h : row.length ≤ 1
  · rw [if_pos h, decF (p := (0 : Int) = k) (by omega), decF (p := List.length [k, 1] ≤ row.length) (by simp only [List.length_cons, List.length_nil]; omega), Bool.and_false, Bool.and_false]
  · rw [if_neg h, if_neg (by omega), decT (p := List.length [k, 1] ≤ row.length) (by simp only [List.length_cons, List.length_nil]; omega), Bool.and_true]
    show (row.drop (row.length - 2) == [k, 1]) = _
    rw [drop_last2 (by omega), Bool.eq_iff_iff]; simp [and_comm]
theorem c68_k0 (row : List Int) (k : Int) (hr : row.length ≤ 1000) (hk : k ≠ 0) : cF 151 [.d (.sl 1 (irows row)), .d (.int .i64 0), .d (.int .i64 k)] = some (.own 3 1 (irows (row ++ [k]))) := by
  have := c68_k row 0 k hr (by omega) hk
  rwa [show dropTop row 0 = row by unfold dropTop; simp] at this
theorem c68_k1 (row : List Int) (k : Int) (hr : row.length ≤ 1000) (hj : 1 ≤ row.length) (hk : k ≠ 0) : cF 151 [.d (.sl 1 (irows row)), .d (.int .i64 1), .d (.int .i64 k)] = some (.own 3 1 (irows (dropTop row 1 ++ [k]))) := c68_k row 1 k hr hj hk
theorem c68_k2 (row : List Int) (k : Int) (hr : row.length ≤ 1000) (hj : 2 ≤ row.length) (hk : k ≠ 0) : cF 151 [.d (.sl 1 (irows row)), .d (.int .i64 2), .d (.int .i64 k)] = some (.own 3 1 (irows (dropTop row 2 ++ [k]))) := c68_k row 2 k hr hj hk
theorem c68_01 (row : List Int) (hr : row.length ≤ 1000) (hj : 1 ≤ row.length) : cF 151 [.d (.sl 1 (irows row)), .d (.int .i64 1), .d (.int .i64 0)] = some (.own 3 1 (irows (dropTop row 1))) := c68_0 row 1 hr hj
theorem c68_02 (row : List Int) (hr : row.length ≤ 1000) (hj : 2 ≤ row.length) : cF 151 [.d (.sl 1 (irows row)), .d (.int .i64 2), .d (.int .i64 0)] = some (.own 3 1 (irows (dropTop row 2))) := c68_0 row 2 hr hj
theorem topB_len {row : List Int} {j : Nat} {k : Int} (hk : k ≠ 0) (h : topB row j = k) : j + 1 ≤ row.length := by
  unfold topB at h
  by_cases hl : row.length ≤ j
  · rw [if_pos hl] at h; omega
  · omega
theorem c74 (la lb : List Int) (lo hi : Int) (x : Ins) (row : List Int) (hlb : lb.length ≤ 10000) (hk1 : ∀ k ∈ lb, 1 ≤ k) (hr : row.length ≤ 1000) (ha : 0 ≤ x.a) (ha2 : x.a ≤ 65535) (hb0 : 0 ≤ x.b) (hb : x.b ≤ 8) (hop : x.op = 2 ∨ x.op = 3 ∨ x.op = 8 ∨ x.op = 9) :
    ∃ p, cF 157 [shV (irows la) (irows lb) lo hi, insV x, .d (.sl 1 (irows row))] = some p ∧ rowR (memS ⟨la, lb, lo, hi⟩ x row) p := by
  have h102 := c102 (irows la) lb lo hi x.a (max 1 x.b) ha (by omega) (by omega) (by omega) hlb
  have h103 := c103 (irows la) (irows lb) lo hi x.a (max 1 x.b) ha (by omega) (by omega) (by omega)
  have t0 := c71_0 row hr
  have t1 := c71_1 row hr
  unfold shV at h102 h103 ⊢
  unfold insV memS
  simp only
  cases hk : cellsK lb x.a (max 1 x.b) with
  | none =>
    rw [hk] at h102
    simp only [Option.getD_none] at h102
    refine cOfP (by kernel_rfl) rfl ?_
    simp only [g157_eq, g157, some_and, go1, Option.bind_some, eq_self, cond_true, cond_false, Nat.reduceAdd, Int.reduceEq, Int.reduceLT, Int.reduceLE, Int.reduceSub, Int.reduceAdd, h102]
    exact ⟨[], rfl⟩
  | some k =>
    have hkk : 1 ≤ k := hk1 k (cellsK_mem hk ha (by omega))
    have hk0 : k ≠ 0 := by omega
    rw [hk] at h102
    simp only [Option.getD_some] at h102
    have kz := decF hk0
    simp only
    rcases hop with h | h | h | h
    · rw [if_pos h]
      refine cOfP (by kernel_rfl) rfl ?_
      simp only [g157_eq, g157, some_and, go1, Option.bind_some, eq_self, cond_true, cond_false, Nat.reduceAdd, Int.reduceEq, Int.reduceLT, Int.reduceLE, Int.reduceSub, Int.reduceAdd, h102, h, kz, c68_k0 row k hr hk0, irows_len]
      by_cases hl : row.length < 16
      · rw [if_pos hl, decT (by omega)]; rfl
      · rw [if_neg hl, decF (by omega)]; exact ⟨_, rfl⟩
    · rw [if_neg (by omega), if_neg (by omega), if_pos h, ends1 row k hkk]
      by_cases he : topB row 0 = k
      · have hlen := topB_len hk0 he
        cases hf : fixedB lo hi x.a (max 1 x.b) with
        | true =>
          refine cOfP (by kernel_rfl) rfl ?_
          simp only [g157_eq, g157, some_and, go1, Option.bind_some, eq_self, cond_true, cond_false, Nat.reduceAdd, Int.reduceEq, Int.reduceLT, Int.reduceLE, Int.reduceSub, Int.reduceAdd, h102, h, kz, t0, h103, decT he, hf]
          exact ⟨[], rfl⟩
        | false =>
          refine cOfP (by kernel_rfl) rfl ?_
          simp only [g157_eq, g157, some_and, go1, Option.bind_some, eq_self, cond_true, cond_false, Nat.reduceAdd, Int.reduceEq, Int.reduceLT, Int.reduceLE, Int.reduceSub, Int.reduceAdd, h102, h, kz, t0, h103, decT he, hf, c68_01 row hr hlen]
          rfl
      · refine cOfP (by kernel_rfl) rfl ?_
        simp only [g157_eq, g157, some_and, go1, Option.bind_some, eq_self, cond_true, cond_false, Nat.reduceAdd, Int.reduceEq, Int.reduceLT, Int.reduceLE, Int.reduceSub, Int.reduceAdd, h102, h, kz, t0, h103, decF he]
        exact ⟨[], rfl⟩
    · rw [if_neg (by omega), if_pos h, ends1 row 1 (by omega)]
      by_cases he : topB row 0 = 1
      · have hlen := topB_len (by omega) he
        refine cOfP (by kernel_rfl) rfl ?_
        simp only [g157_eq, g157, some_and, go1, Option.bind_some, eq_self, cond_true, cond_false, Nat.reduceAdd, Int.reduceEq, Int.reduceLT, Int.reduceLE, Int.reduceSub, Int.reduceAdd, h102, h, kz, t0, decT he, c68_k1 row k hr hlen hk0]
        rfl
      · refine cOfP (by kernel_rfl) rfl ?_
        simp only [g157_eq, g157, some_and, go1, Option.bind_some, eq_self, cond_true, cond_false, Nat.reduceAdd, Int.reduceEq, Int.reduceLT, Int.reduceLE, Int.reduceSub, Int.reduceAdd, h102, h, kz, t0, decF he]
        exact ⟨[], rfl⟩
    · rw [if_neg (by omega), if_neg (by omega), if_neg (by omega), ends2 row k hkk]
      by_cases he : topB row 0 = 1
      · by_cases he2 : topB row 1 = k
        · have hlen := topB_len hk0 he2
          cases hf : fixedB lo hi x.a (max 1 x.b) with
          | true =>
            refine cOfP (by kernel_rfl) rfl ?_
            simp only [g157_eq, g157, some_and, go1, Option.bind_some, eq_self, cond_true, cond_false, Nat.reduceAdd, Int.reduceEq, Int.reduceLT, Int.reduceLE, Int.reduceSub, Int.reduceAdd, h102, h, kz, t0, t1, h103, decT he, decT he2, hf]
            exact ⟨[], rfl⟩
          | false =>
            refine cOfP (by kernel_rfl) rfl ?_
            simp only [g157_eq, g157, some_and, go1, Option.bind_some, eq_self, cond_true, cond_false, Nat.reduceAdd, Int.reduceEq, Int.reduceLT, Int.reduceLE, Int.reduceSub, Int.reduceAdd, h102, h, kz, t0, t1, h103, decT he, decT he2, hf, c68_02 row hr hlen]
            rfl
        · refine cOfP (by kernel_rfl) rfl ?_
          simp only [g157_eq, g157, some_and, go1, Option.bind_some, eq_self, cond_true, cond_false, Nat.reduceAdd, Int.reduceEq, Int.reduceLT, Int.reduceLE, Int.reduceSub, Int.reduceAdd, h102, h, kz, t0, t1, h103, decT he, decF he2]
          exact ⟨[], rfl⟩
      · refine cOfP (by kernel_rfl) rfl ?_
        simp only [g157_eq, g157, some_and, go1, Option.bind_some, eq_self, cond_true, cond_false, Nat.reduceAdd, Int.reduceEq, Int.reduceLT, Int.reduceLE, Int.reduceSub, Int.reduceAdd, h102, h, kz, t0, t1, h103, decF he]
        exact ⟨[], rfl⟩
end Go.Vm
end

section
set_option maxRecDepth 100000
set_option maxHeartbeats 2000000
namespace Go.Vm
open Go.Proofs
theorem topB_top {row : List Int} {j : Nat} (h : j + 1 ≤ row.length) : topB row j = topN row j := by
  unfold topB; rw [if_neg (by omega)]
theorem rowR_key {o : Option (List Int)} {p : PRes} (hp : rowR o p) : ∃ b l, p = .val [.sl 1 l, .bool b] := by
  unfold rowR at hp
  split at hp
  · exact ⟨_, _, hp⟩
  · obtain ⟨r, hp⟩ := hp; exact ⟨_, _, hp⟩
theorem tops_bd {row : List Int} (hrow : ∀ k ∈ row, 1 ≤ k ∧ k ≤ 100) (j : Nat) : 0 ≤ topB row j ∧ topB row j ≤ 100 := by
  unfold topB topN
  by_cases h : row.length ≤ j
  · rw [if_pos h]; omega
  · rw [if_neg h, List.getD_eq_getElem?_getD, List.getElem?_eq_getElem (by omega)]
    have := hrow _ (List.getElem_mem (show row.length - 1 - j < row.length by omega))
    simp only [Option.getD_some]; omega
theorem c36 (la lb : List Int) (lo hi : Int) (x : Ins) (row : List Int) (hla : la.length ≤ 10) (hlb : lb.length ≤ 10000) (hk1 : ∀ k ∈ lb, 1 ≤ k) (hl : row.length ≤ 100) (hrow : ∀ k ∈ row, 1 ≤ k ∧ k ≤ 100) (hx : rightB x = true) :
    ∃ p, cF 92 [shV (irows la) (irows lb) lo hi, insV x, .d (.sl 1 (irows row))] = some p ∧ rowR (nextS ⟨la, lb, lo, hi⟩ x row) p := by
  have hr : row.length ≤ 1000 := by omega
  have t0 := c71_0 row hr
  have t1 := c71_1 row hr
  have hops : x.op = 1 ∨ x.op = 4 ∨ x.op = 5 ∨ x.op = 7 ∨ x.op = 6 ∨ x.op = 10 ∨ x.op = 2 ∨ x.op = 3 ∨ x.op = 8 ∨ x.op = 9 := by
    rw [right_eq] at hx
    simp only [Bool.and_eq_true] at hx
    have := withinB_iff.1 hx.1.1.1
    omega
  have h42 := c42 la lb lo hi x.a (by omega)
  unfold nextS
  simp only
  by_cases h1 : x.op = 1
  · rw [if_pos h1]
    have ha : x.a ≠ 0 := by
      rw [right_eq] at hx
      simp only [Bool.and_eq_true] at hx
      have q2 := hx.1.1.2
      unfold firstB at q2
      rw [if_pos h1] at q2
      have := withinB_iff.1 q2
      omega
    have h68 := c68_k0 row x.a hr ha
    cases hk : kindB (il la) x.a with
    | false =>
      rw [hk] at h42
      unfold shV insV at *
      refine cOfP (by kernel_rfl) rfl ?_
      simp only [g92_eq, g92, some_and, go1, Option.bind_some, eq_self, cond_true, cond_false, Nat.reduceAdd, Int.reduceEq, Int.reduceLT, Int.reduceLE, Int.reduceSub, Int.reduceAdd, h1, h68, h42]
      exact ⟨_, rfl⟩
    | true =>
      have h49 := c49 la lb lo hi x.a x.n (by omega) hk
      rw [hk] at h42
      unfold shV insV at *
      cases hv : valueB la x.a x.n with
      | false =>
        rw [hv] at h49
        refine cOfP (by kernel_rfl) rfl ?_
        simp only [g92_eq, g92, some_and, go1, Option.bind_some, eq_self, cond_true, cond_false, Nat.reduceAdd, Int.reduceEq, Int.reduceLT, Int.reduceLE, Int.reduceSub, Int.reduceAdd, h1, h68, h42, h49]
        exact ⟨_, rfl⟩
      | true =>
        rw [hv] at h49
        by_cases hl2 : row.length < 16
        · refine cOfP (by kernel_rfl) rfl ?_
          simp only [g92_eq, g92, some_and, go1, Option.bind_some, eq_self, cond_true, cond_false, Nat.reduceAdd, Int.reduceEq, Int.reduceLT, Int.reduceLE, Int.reduceSub, Int.reduceAdd, h1, h68, h42, h49, irows_len]
          rw [decT hl2, decT (by omega)]
          rfl
        · refine cOfP (by kernel_rfl) rfl ?_
          simp only [g92_eq, g92, some_and, go1, Option.bind_some, eq_self, cond_true, cond_false, Nat.reduceAdd, Int.reduceEq, Int.reduceLT, Int.reduceLE, Int.reduceSub, Int.reduceAdd, h1, h68, h42, h49, irows_len]
          rw [decF hl2, decF (by omega)]
          exact ⟨_, rfl⟩
  rw [if_neg h1]
  by_cases h4 : x.op = 4
  · rw [if_pos (.inl h4)]
    have hb0 := tops_bd hrow 0
    have h70 := c70 (topB row 0) (by omega) (by omega)
    have h69 := c69 x.a (tyOf (topB row 0))
    unfold operS
    rw [if_pos h4]
    cases hq : unTy x.a (tyOf (topB row 0)) with
    | none =>
      rw [hq] at h69
      have e : (if row.length < 1 then none else (unTy x.a (tyOf (topN row 0))).map fun t => dropTop row 1 ++ [kindOf t]) = none := by
        by_cases hlen : row.length < 1
        · rw [if_pos hlen]
        · rw [if_neg hlen, ← topB_top (by omega), hq]; rfl
      rw [e]
      unfold shV insV Ty3.v tyV tyR at *
      refine cOfP (by kernel_rfl) rfl ?_
      simp only [g92_eq, g92, some_and, go1, Option.bind_some, eq_self, cond_true, cond_false, Nat.reduceAdd, Int.reduceEq, Int.reduceLT, Int.reduceLE, Int.reduceSub, Int.reduceAdd, h4, t0, h70, h69]
      exact ⟨[], rfl⟩
    | some t =>
      rw [hq] at h69
      have hlen : 1 ≤ row.length := by
        by_cases hlen : row.length ≤ 0
        · exfalso
          have : topB row 0 = 0 := by unfold topB; rw [if_pos hlen]
          rw [this] at hq
          unfold unTy at hq
          rw [show tyOf 0 = ⟨0, 0, 0⟩ from rfl] at hq
          by_cases g1 : x.a = 1 <;> by_cases g2 : x.a = 2 <;> simp [g1, g2] at hq
        · omega
      have hb := unTy_bd hq
      have h72 := c72 t (by rcases hb with rfl | rfl <;> simp) (by rcases hb with rfl | rfl <;> simp)
      have ek : (if t.k < 3 then t.k else 3 + t.e) = kindOf t := by rcases hb with rfl | rfl <;> rfl
      have ek0 : kindOf t ≠ 0 := by rcases hb with rfl | rfl <;> decide
      rw [ek] at h72
      have h68 := c68_k1 row (kindOf t) hr hlen ek0
      rw [if_neg (by omega), ← topB_top (by omega), hq]
      unfold shV insV Ty3.v tyV tyR at *
      refine cOfP (by kernel_rfl) rfl ?_
      simp only [g92_eq, g92, some_and, go1, Option.bind_some, eq_self, cond_true, cond_false, Nat.reduceAdd, Int.reduceEq, Int.reduceLT, Int.reduceLE, Int.reduceSub, Int.reduceAdd, h4, t0, h70, h69, h72, h68]
      rfl
  by_cases h5 : x.op = 5
  · rw [if_pos (.inr h5)]
    unfold operS
    rw [if_neg h4]
    by_cases hlen : row.length < 2
    · rw [if_pos hlen]
      unfold shV insV at *
      refine cOfP (by kernel_rfl) rfl ?_
      simp only [g92_eq, g92, some_and, go1, Option.bind_some, eq_self, cond_true, cond_false, Nat.reduceAdd, Int.reduceEq, Int.reduceLT, Int.reduceLE, Int.reduceSub, Int.reduceAdd, h5, irows_len, decT (p := (row.length : Int) < 2) (by omega)]
      exact ⟨[], rfl⟩
    · rw [if_neg hlen, ← topB_top (by omega), ← topB_top (by omega)]
      have hb0 := tops_bd hrow 0
      have hb1 := tops_bd hrow 1
      have h70 := c70 (topB row 0) (by omega) (by omega)
      have h70' := c70 (topB row 1) (by omega) (by omega)
      have h73 := c73 x.a (tyOf (topB row 1)) (tyOf (topB row 0))
      cases hq : binTy x.a (tyOf (topB row 1)) (tyOf (topB row 0)) with
      | none =>
        rw [hq] at h73
        unfold shV insV Ty3.v tyV tyR at *
        refine cOfP (by kernel_rfl) rfl ?_
        simp only [g92_eq, g92, some_and, go1, Option.bind_some, eq_self, cond_true, cond_false, Nat.reduceAdd, Int.reduceEq, Int.reduceLT, Int.reduceLE, Int.reduceSub, Int.reduceAdd, h5, irows_len, decF (p := (row.length : Int) < 2) (by omega), t0, t1, h70, h70', h73]
        exact ⟨[], rfl⟩
      | some t =>
        rw [hq] at h73
        have hb := binTy_bd hq
        have h72 := c72 t (by rcases hb with rfl | rfl <;> simp) (by rcases hb with rfl | rfl <;> simp)
        have ek : (if t.k < 3 then t.k else 3 + t.e) = kindOf t := by rcases hb with rfl | rfl <;> rfl
        have ek0 : kindOf t ≠ 0 := by rcases hb with rfl | rfl <;> decide
        rw [ek] at h72
        have h68 := c68_k2 row (kindOf t) hr (by omega) ek0
        unfold shV insV Ty3.v tyV tyR at *
        refine cOfP (by kernel_rfl) rfl ?_
        simp only [g92_eq, g92, some_and, go1, Option.bind_some, eq_self, cond_true, cond_false, Nat.reduceAdd, Int.reduceEq, Int.reduceLT, Int.reduceLE, Int.reduceSub, Int.reduceAdd, h5, irows_len, decF (p := (row.length : Int) < 2) (by omega), t0, t1, h70, h70', h73, h72, h68]
        rfl
  rw [if_neg (by omega)]
  by_cases h7 : x.op = 7
  · rw [if_pos h7, ends1 row 2 (by omega)]
    by_cases he : topB row 0 = 2
    · have hlen := topB_len (by omega) he
      unfold shV insV at *
      refine cOfP (by kernel_rfl) rfl ?_
      simp only [g92_eq, g92, some_and, go1, Option.bind_some, eq_self, cond_true, cond_false, Nat.reduceAdd, Int.reduceEq, Int.reduceLT, Int.reduceLE, Int.reduceSub, Int.reduceAdd, h7, t0, decT he, c68_01 row hr hlen]
      rfl
    · unfold shV insV at *
      refine cOfP (by kernel_rfl) rfl ?_
      simp only [g92_eq, g92, some_and, go1, Option.bind_some, eq_self, cond_true, cond_false, Nat.reduceAdd, Int.reduceEq, Int.reduceLT, Int.reduceLE, Int.reduceSub, Int.reduceAdd, h7, t0, decF he]
      exact ⟨[], rfl⟩
  rw [if_neg h7]
  by_cases h6 : x.op = 6
  · rw [if_pos h6]
    unfold shV insV at *
    refine cOfP (by kernel_rfl) rfl ?_
    simp only [g92_eq, g92, some_and, go1, Option.bind_some, eq_self, cond_true, cond_false, Nat.reduceAdd, Int.reduceEq, Int.reduceLT, Int.reduceLE, Int.reduceSub, Int.reduceAdd, h6]
    rfl
  rw [if_neg h6]
  by_cases h10 : x.op = 10
  · rw [if_pos h10]
    unfold shV insV at *
    refine cOfP (by kernel_rfl) rfl ?_
    simp only [g92_eq, g92, some_and, go1, Option.bind_some, eq_self, cond_true, cond_false, Nat.reduceAdd, Int.reduceEq, Int.reduceLT, Int.reduceLE, Int.reduceSub, Int.reduceAdd, h10, irows_len]
    by_cases h0 : row.length = 0
    · rw [if_pos h0, decT (by omega)]; rfl
    · rw [if_neg h0, decF (by omega)]; exact ⟨[], rfl⟩
  rw [if_neg h10]
  have hop : x.op = 2 ∨ x.op = 3 ∨ x.op = 8 ∨ x.op = 9 := by omega
  have hx2 := hx
  rw [right_eq] at hx2
  simp only [Bool.and_eq_true] at hx2
  obtain ⟨⟨⟨_, q2⟩, _⟩, q4⟩ := hx2
  unfold firstB at q2
  rw [if_neg h1, if_neg (by omega), if_neg (by omega), if_neg (by omega)] at q2
  have := withinB_iff.1 q2
  have hb : 0 ≤ x.b ∧ x.b ≤ 8 := by
    split at q4
    · have := withinB_iff.1 q4; omega
    · have := eq_of_beq q4; omega
  obtain ⟨p, h74, hp⟩ := c74 la lb lo hi x row hlb hk1 hr (by omega) (by omega) hb.1 hb.2 hop
  obtain ⟨b, l, rfl⟩ := rowR_key hp
  unfold shV insV at *
  refine cOfP (by kernel_rfl) rfl ?_
  simp only [g92_eq, g92, some_and, go1, Option.bind_some, eq_self, cond_true, cond_false, Nat.reduceAdd, Int.reduceEq, Int.reduceLT, Int.reduceLE, Int.reduceSub, Int.reduceAdd, decF h1, decF h4, decF h5, decF h7, decF h6, decF h10, h74]
  exact hp
end Go.Vm
end

section
set_option maxRecDepth 100000
set_option maxHeartbeats 4000000
namespace Go.Vm
open Go.Proofs
/-! ### the reference's check: arrays of what is known -/
def kA (n : Nat) (K : Known) : List (List D) := (List.range n).map fun m => [.bool (K m).isSome]
def rA (n : Nat) (K : Known) : List (List D) := (List.range n).map fun m => [.sl 1 (irows ((K m).getD []))]
def setK (K : Known) (t : Nat) (row : List Int) : Known := fun m => if m = t then some row else K m
theorem kA_len (n : Nat) (K : Known) : (kA n K).length = n := by simp [kA]
theorem rA_len (n : Nat) (K : Known) : (rA n K).length = n := by simp [rA]
theorem kA_at {n m : Nat} {K : Known} (h : m < n) : sy.cell (sy.rown (kA n K) m) 0 = some (.bool (K m).isSome) := by
  rw [sy_rown, kA, List.getD_eq_getElem?_getD, List.getElem?_map, List.getElem?_range h]; rfl
theorem rA_at {n m : Nat} {K : Known} (h : m < n) : sy.cell (sy.rown (rA n K) m) 0 = some (.sl 1 (irows ((K m).getD []))) := by
  rw [sy_rown, rA, List.getD_eq_getElem?_getD, List.getElem?_map, List.getElem?_range h]; rfl
theorem set_range {α : Type} {n m : Nat} {f g : Nat → α} {y : α} (hy : y = g m) (hg : ∀ i, i ≠ m → g i = f i) : ((List.range n).map f).set m y = (List.range n).map g := by
  apply List.ext_getElem
  · simp
  · intro i h1 h2
    rw [List.getElem_set, List.getElem_map, List.getElem_map]
    by_cases h : m = i
    · subst h; rw [if_pos rfl, hy]; simp
    · rw [if_neg h]; simp only [List.getElem_range]; rw [hg i (fun e => h e.symm)]
theorem kA_put {n m : Nat} {K : Known} (row : List Int) (h : m < n) : sy.rput (kA n K) m 0 [.bool true] = kA n (setK K m row) := by
  show (kA n K).set m (List.take 0 ((kA n K).getD m []) ++ [D.bool true] ++ List.drop (0 + 1) ((kA n K).getD m [])) = _
  have e : (kA n K).getD m [] = [.bool (K m).isSome] := by
    unfold kA; rw [List.getD_eq_getElem?_getD, List.getElem?_map, List.getElem?_range h]; rfl
  rw [e]
  unfold kA setK
  refine set_range ?_ fun i hi => ?_
  · rw [if_pos rfl]; rfl
  · rw [if_neg hi]
theorem rA_put {n m : Nat} {K : Known} {row : List Int} (h : m < n) : sy.rput (rA n K) m 0 [.sl 1 (irows row)] = rA n (setK K m row) := by
  show (rA n K).set m (List.take 0 ((rA n K).getD m []) ++ [D.sl 1 (irows row)] ++ List.drop (0 + 1) ((rA n K).getD m [])) = _
  have e : (rA n K).getD m [] = [.sl 1 (irows ((K m).getD []))] := by
    unfold rA; rw [List.getD_eq_getElem?_getD, List.getElem?_map, List.getElem?_range h]; rfl
  rw [e]
  unfold rA setK
  refine set_range ?_ fun i hi => ?_
  · rw [if_pos rfl]; rfl
  · rw [if_neg hi]
def K00 : Known := fun _ => none
theorem kA_zero (n : Nat) : List.replicate (n : Int).toNat [D.bool false] = kA n K00 := by
  unfold kA K00
  rw [Int.toNat_natCast]
  apply List.ext_getElem
  · simp
  · intro i h1 h2; simp
theorem rA_zero (n : Nat) : List.replicate (n : Int).toNat [D.sl 1 []] = rA n K00 := by
  unfold rA K00
  rw [Int.toNat_natCast]
  apply List.ext_getElem
  · simp
  · intro i h1 h2; simp; rfl
/-- As the reference does it: place by place. -/
def refPut (n : Nat) (row' : List Int) : List Int → Known → Option Known
  | [], K => some K
  | t :: ts, K => if (n : Int) ≤ t then none else match K t.toNat with
    | some was => if was = row' then refPut n row' ts (setK K t.toNat row') else none
    | none => refPut n row' ts (setK K t.toNat row')
theorem refPut_eq (n : Nat) (row' : List Int) : ∀ (T : List Int) (K : Known), refPut n row' T K = if (T.all fun m => decide (m < (n : Int))) then putAll row' T K else none
  | [], K => rfl
  | t :: ts, K => by
    unfold refPut putAll
    by_cases ht : (n : Int) ≤ t
    · rw [if_pos ht, List.all_cons, decF (by omega), Bool.false_and]; rfl
    · rw [if_neg ht, List.all_cons, decT (by omega), Bool.true_and]
      cases hk : K t.toNat with
      | none => exact refPut_eq n row' ts _
      | some was =>
        simp only
        by_cases he : was = row'
        · rw [if_pos he, if_pos he]; exact refPut_eq n row' ts _
        · rw [if_neg he, if_neg he]; split <;> rfl
theorem refPut_loop {b : List D → Option (List D ⊕ (List D ⊕ PRes))} (n : Nat) (T : List Int) (row' : List Int) (mkI : Nat → Known → List D) (mkO : Known → List D) (bad : PRes)
    (hb : ∀ (j : Nat) K t, T[j]? = some t → (∀ m r, K m = some r → RowOK r) → b (mkI j K) = if (n : Int) ≤ t then some (.inr (.inr bad)) else match K t.toNat with
      | some was => if was = row' then some (.inl (mkI (j + 1) (setK K t.toNat row'))) else some (.inr (.inr bad))
      | none => some (.inl (mkI (j + 1) (setK K t.toNat row'))))
    (hend : ∀ K, b (mkI T.length K) = some (.inr (.inl (mkO K)))) (hr : RowOK row') :
    ∀ (rest : List Int) (j : Nat) (K : Known), T.drop j = rest → j ≤ T.length → (∀ m r, K m = some r → RowOK r) →
      loopF b (mkI j K) = match refPut n row' rest K with
        | none => some (.inr bad)
        | some K' => some (.inl (mkO K')) := by
  intro rest
  induction rest with
  | nil =>
    intro j K hd hj hK
    have : j = T.length := by have := congrArg List.length hd; simp at this; omega
    subst this
    rw [loopF_eq, hend]
    rfl
  | cons t ts ih =>
    intro j K hd hj hK
    have hx : T[j]? = some t := by
      have := congrArg (fun r => r[0]?) hd
      simpa using this
    have hlt := (List.getElem?_eq_some_iff.1 hx).1
    have hts : T.drop (j + 1) = ts := by
      have := congrArg List.tail hd
      simpa using this
    have hK2 : ∀ m r, setK K t.toNat row' m = some r → RowOK r := fun m r h => by
      unfold setK at h
      split at h
      · cases h; exact hr
      · exact hK m r h
    unfold refPut
    rw [loopF_eq, hb j K t hx hK]
    by_cases ht : (n : Int) ≤ t
    · rw [if_pos ht, if_pos ht]
    · rw [if_neg ht, if_neg ht]
      cases hq : K t.toNat with
      | none => exact ih (j + 1) _ hts (by omega) hK2
      | some was =>
        simp only
        by_cases he : was = row'
        · rw [if_pos he, if_pos he]
          exact ih (j + 1) _ hts (by omega) hK2
        · rw [if_neg he, if_neg he]
end Go.Vm
end

section
set_option maxRecDepth 100000
set_option maxHeartbeats 4000000
namespace Go.Vm
open Go.Proofs
theorem irows_rown {l : List Int} {i : Nat} {x : Int} (h : l[i]? = some x) : sy.cell (sy.rown (irows l) i) 0 = some (.int .i64 x) := by
  have := irows_at h
  rwa [sy_row, Int.toNat_natCast] at this
def leadsA (n i : Nat) (x : Ins) : Option (List Int) :=
  if x.op = 10 then (if i + 1 = n then some [] else none) else if (x.op = 6 ∨ x.op = 7) ∧ x.a ≤ (i : Int) then none else some (leadsL i x)
theorem leadsA_eq (n i : Nat) (x : Ins) : leadsS n i x = match leadsA n i x with
    | none => none
    | some T => if (T.all fun m => decide (m < (n : Int))) then some T else none := by
  unfold leadsS leadsA
  by_cases h10 : x.op = 10
  · rw [if_pos h10, if_pos h10]
    by_cases h : i + 1 = n
    · rw [if_pos h]; rfl
    · rw [if_neg h]
  · rw [if_neg h10, if_neg h10]
    have e : (if x.op = 6 then [x.a] else if x.op = 7 then [(i : Int) + 1, x.a] else [(i : Int) + 1]) = leadsL i x := rfl
    simp only [e]
    by_cases h : (x.op = 6 ∨ x.op = 7) ∧ x.a ≤ (i : Int)
    · rw [if_pos h]
      have : ((leadsL i x).all fun m => decide ((i : Int) < m) && decide (m < (n : Int))) = false := by
        unfold leadsL
        rcases h.1 with h1 | h1
        · rw [if_pos h1, List.all_cons, decF (by omega)]; rfl
        · rw [if_neg (by omega), if_pos h1, List.all_cons, List.all_cons, decF (p := (i : Int) < x.a) (by omega)]; simp
      rw [this]; rfl
    · rw [if_neg h]
      have : ((leadsL i x).all fun m => decide ((i : Int) < m) && decide (m < (n : Int))) = (leadsL i x).all fun m => decide (m < (n : Int)) := by
        unfold leadsL
        by_cases h6 : x.op = 6
        · rw [if_pos h6]; simp only [List.all_cons, List.all_nil]; rw [decT (p := (i : Int) < x.a) (by omega)]; rfl
        · by_cases h7 : x.op = 7
          · rw [if_neg h6, if_pos h7]; simp only [List.all_cons, List.all_nil]; rw [decT (p := (i : Int) < x.a) (by omega), decT (p := (i : Int) < (i : Int) + 1) (by omega)]; rfl
          · rw [if_neg h6, if_neg h7]; simp only [List.all_cons, List.all_nil]; rw [decT (p := (i : Int) < (i : Int) + 1) (by omega)]; rfl
      rw [this]
def StepA (s : Shp) (n : Nat) (mk : Nat → Known → List D) (r : Option (List D ⊕ PRes)) (i : Nat) (K : Known) (x : Ins) : Prop := match K i with
  | none => r = some (.inr (badR i))
  | some row => if rightB x then (match nextS s x row with
    | none => r = some (.inr (badR i))
    | some row' => match leadsA n i x with
      | none => r = some (.inr (badR i))
      | some T => r = match refPut n row' T K with
        | none => some (.inr (badR i))
        | some K' => some (.inl (mk (i + 1) K'))) else r = some (.inr (badR i))
theorem refPut_ok {n : Nat} {row' : List Int} (hr : RowOK row') : ∀ {T : List Int} {K K' : Known}, (∀ m r, K m = some r → RowOK r) → refPut n row' T K = some K' → ∀ m r, K' m = some r → RowOK r
  | [], K, K', hK, h => by cases h; exact hK
  | t :: ts, K, K', hK, h => by
    have hK2 : ∀ m r, setK K t.toNat row' m = some r → RowOK r := fun m r h => by
      unfold setK at h
      split at h
      · cases h; exact hr
      · exact hK m r h
    unfold refPut at h
    split at h
    · cases h
    · split at h
      · split at h
        · exact refPut_ok hr hK2 h
        · cases h
      · exact refPut_ok hr hK2 h
theorem checkA_loop {b : List D → Option (List D ⊕ PRes)} (s : Shp) (code : List Ins) (mk : Nat → Known → List D) (hs : shapeB s.ctors s.kinds s.lo s.hi = true)
    (hb : ∀ (i : Nat) K x, code[i]? = some x → (∀ m r, K m = some r → RowOK r) → StepA s code.length mk (b (mk i K)) i K x)
    (hend : ∀ K, b (mk code.length K) = some (.inr (.val [.int .i64 (code.length : Int), .bool true]))) :
    ∀ (rest : List Ins) (i : Nat) (K : Known), code.drop i = rest → i ≤ code.length → (∀ m r, K m = some r → RowOK r) → loopF b (mk i K) = some (chR (checkGo s code.length i rest K)) := by
  intro rest
  induction rest with
  | nil =>
    intro i K hd hi hK
    have : i = code.length := by have := congrArg List.length hd; simp at this; omega
    subst this
    rw [loopF_eq, hend]
    rfl
  | cons x xs ih =>
    intro i K hd hi hK
    have hx : code[i]? = some x := by
      have := congrArg (fun r => r[0]?) hd
      simpa using this
    have hlt := (List.getElem?_eq_some_iff.1 hx).1
    have hxs : code.drop (i + 1) = xs := by
      have := congrArg List.tail hd
      simpa using this
    have hs := hb i K x hx hK
    unfold StepA at hs
    unfold checkGo
    rw [loopF_eq]
    cases hq : K i with
    | none => rw [hq] at hs; rw [show b (mk i K) = _ from hs]; rfl
    | some row =>
      rw [hq] at hs
      simp only at hs ⊢
      by_cases hr : rightB x = true
      · rw [if_pos hr] at hs ⊢
        cases hn : nextS s x row with
        | none => rw [hn] at hs; rw [show b (mk i K) = _ from hs]; rfl
        | some row' =>
          rw [hn] at hs
          have hRow' := nextS_ok hn (hK i row hq) (by assumption) hr
          simp only at hs ⊢
          rw [leadsA_eq]
          cases hl : leadsA code.length i x with
          | none => rw [hl] at hs; rw [show b (mk i K) = _ from hs]; rfl
          | some T =>
            rw [hl] at hs
            simp only at hs ⊢
            rw [hs]
            have he := refPut_eq code.length row' T K
            by_cases hall : (T.all fun m => decide (m < (code.length : Int))) = true
            · rw [if_pos hall] at he ⊢
              simp only
              rw [← he]
              cases hp : refPut code.length row' T K with
              | none => rfl
              | some K' => exact ih (i + 1) K' hxs hlt (refPut_ok hRow' hK hp)
            · rw [if_neg hall] at he ⊢
              rw [he]; rfl
      · rw [if_neg hr] at hs ⊢
        rw [hs]; rfl
theorem rA_K0 (n : Nat) : rA n K00 = rA n (setK K00 0 []) := by
  unfold rA setK K00
  refine List.map_congr_left fun m _ => ?_
  by_cases h : m = 0
  · subst h; rfl
  · rw [if_neg h]
theorem kinds_ge {la lb : List Int} {lo hi : Int} (h : shapeB la lb lo hi = true) : ∀ k ∈ lb, 1 ≤ k := fun k hk => by
  unfold shapeB at h
  simp only [Bool.and_eq_true] at h
  have := List.all_eq_true.1 h.2 k hk
  rw [kind_eq] at this
  exact (withinB_iff.1 this).1
end Go.Vm
end

section
set_option maxRecDepth 100000
set_option maxHeartbeats 8000000
namespace Go.Vm
open Go.Proofs
theorem c13 (la lb : List Int) (lo hi : Int) (code : List Ins) (hla : la.length ≤ 10) (hlb : lb.length ≤ 10000) (hcl : code.length ≤ 1000) :
    cF 46 [shV (irows la) (irows lb) lo hi, .d (.sl 4 (crows code))] = some (chR (checkS ⟨la, lb, lo, hi⟩ code)) := by
  have h15 := c15 la lb lo hi (by omega) (by omega)
  unfold checkS
  simp only
  cases hs : shapeB la lb lo hi with
  | false =>
    rw [hs] at h15
    unfold shV at *
    refine cOf (by kernel_rfl) rfl ?_
    rw [g46_eq]
    simp only [g46, go1, Option.bind_some, eq_self, cond_true, cond_false, Nat.reduceAdd, Int.reduceEq, Int.reduceLT, Int.reduceLE, Int.reduceSub, Int.reduceAdd, h15]
    rfl
  | true =>
  rw [hs] at h15
  have hk1 := kinds_ge hs
  by_cases h1 : code.length < 1
  · unfold shV at *
    refine cOf (by kernel_rfl) rfl ?_
    rw [g46_eq]
    simp only [g46, go1, Option.bind_some, eq_self, cond_true, cond_false, Nat.reduceAdd, Int.reduceEq, Int.reduceLT, Int.reduceLE, Int.reduceSub, Int.reduceAdd, h15, crows_len]
    simp (disch := omega) only [wrap_id, decT, decF, go1, Option.bind_some, eq_self, cond_true, cond_false, Nat.reduceAdd, Int.reduceEq, Int.reduceLT, Int.reduceLE, Int.reduceSub, Int.reduceAdd]
    rfl
  rw [if_pos (by simp; omega)]
  have h36 := fun x row => c36 la lb lo hi x row hla (by omega) hk1
  unfold shV at *
  refine cOf (by kernel_rfl) rfl ?_
  rw [g46_eq]
  have h0 : 0 < code.length := by omega
  simp (disch := omega) only [g46, decT, decF, h15, crows_len, kA_zero, rA_zero, kA_len, rA_len, Int.toNat_zero, go1, Option.bind_some, eq_self, cond_true, cond_false, Nat.reduceAdd, Int.reduceEq, Int.reduceLT, Int.reduceLE, Int.reduceSub, Int.reduceAdd]
  rw [kA_put [] h0, rA_K0]
  refine checkA_loop ⟨la, lb, lo, hi⟩ code (fun i K => [.sl 4 (crows code), .int .i64 (i : Int), .sl 1 (irows la), .sl 1 (irows lb), .int .i64 lo, .int .i64 hi, .sl 1 (kA code.length K), .sl 1 (rA code.length K)]) hs (fun i K x hx hKO => ?_) (fun K => ?_) code 0 (setK K00 0 []) rfl (Nat.zero_le _) (fun m r hm => ?_)
  · have hlt := (List.getElem?_eq_some_iff.1 hx).1
    have h35 := c35 x
    unfold StepA
    cases hk : K i with
    | none =>
      simp only [go1, Option.bind_some, eq_self, cond_true, cond_false, Nat.reduceAdd, Int.reduceEq, Int.reduceLT, Int.reduceLE, Int.reduceSub, Int.reduceAdd, crows_len, ilt_at hlt, inr_at hlt, crows_at hx, Ins.row, kA_len, Int.toNat_natCast, kA_at hlt, hk, Option.isSome_none]
      rfl
    | some row =>
      have hro := hKO i row hk
      simp only
      unfold insV at *
      cases hr : rightB x with
      | false =>
        rw [hr] at h35
        simp only [go1, Option.bind_some, eq_self, cond_true, cond_false, Nat.reduceAdd, Int.reduceEq, Int.reduceLT, Int.reduceLE, Int.reduceSub, Int.reduceAdd, crows_len, ilt_at hlt, inr_at hlt, crows_at hx, Ins.row, kA_len, Int.toNat_natCast, kA_at hlt, hk, Option.isSome_some, h35]
        rfl
      | true =>
        rw [hr] at h35
        obtain ⟨p, h36, hp⟩ := h36 x row (by have := hro.2; omega) hro.1 hr
        obtain ⟨l, b, rfl, hlb2⟩ := rowR_val hp
        simp only [go1, Option.bind_some, eq_self, cond_true, cond_false, Nat.reduceAdd, Int.reduceEq, Int.reduceLT, Int.reduceLE, Int.reduceSub, Int.reduceAdd, crows_len, ilt_at hlt, inr_at hlt, crows_at hx, Ins.row, kA_len, rA_len, Int.toNat_natCast, kA_at hlt, rA_at hlt, hk, Option.isSome_some, Option.getD_some, h35, h36, if_true]
        cases hn : nextS ⟨la, lb, lo, hi⟩ x row with
        | none => rw [hn] at hlb2; rw [show b = false from hlb2]; rfl
        | some row' =>
          rw [hn] at hlb2
          obtain ⟨rfl, rfl⟩ := hlb2
          have hRow' := nextS_ok hn hro hs hr
          unfold leadsA
          have ha : x.op = 6 ∨ x.op = 7 → 0 ≤ x.a ∧ x.a ≤ 65535 := fun h => by
            have hr2 := hr
            rw [right_eq] at hr2
            simp only [Bool.and_eq_true] at hr2
            have q2 := hr2.1.1.2
            unfold firstB at q2
            rw [if_neg (by omega), if_neg (by omega), if_neg (by omega), if_neg (by omega)] at q2
            exact withinB_iff.1 q2
          by_cases h10 : x.op = 10
          · rw [if_pos h10]
            by_cases hend : i + 1 = code.length
            · rw [if_pos hend]
              simp (disch := omega) only [go1, Option.bind_some, eq_self, cond_true, cond_false, Nat.reduceAdd, Int.reduceEq, Int.reduceLT, Int.reduceLE, Int.reduceSub, Int.reduceAdd, decT, decF, h10, wrap_succ hlt (by omega)]
              have hT0 : ∀ t ∈ ([] : List Int), 0 ≤ t := by simp
              refine (refPut_loop code.length ([] : List Int) l (fun j K => [.sl 4 (crows code), .int .i64 (i : Int), .sl 1 (irows l), .int .i64 (j : Int), .sl 1 (irows la), .sl 1 (irows lb), .int .i64 lo, .int .i64 hi, .sl 1 (kA code.length K), .sl 1 (rA code.length K), .sl 1 (irows ([] : List Int))])
                (fun K => [.sl 4 (crows code), .int .i64 ((i + 1 : Nat) : Int), .sl 1 (irows la), .sl 1 (irows lb), .int .i64 lo, .int .i64 hi, .sl 1 (kA code.length K), .sl 1 (rA code.length K)]) (badR i) (fun j K t ht hKO => ?_) (fun K => ?_) hRow' ([] : List Int) 0 K rfl (Nat.zero_le _) hKO).trans ?_
              · have hjlt := (List.getElem?_eq_some_iff.1 ht).1
                have ht0 := hT0 t (List.mem_of_getElem? ht)
                by_cases htn : (code.length : Int) ≤ t
                · rw [if_pos htn]
                  simp only [go1, Option.bind_some, eq_self, cond_true, cond_false, Nat.reduceAdd, Int.reduceEq, Int.reduceLT, Int.reduceLE, Int.reduceSub, Int.reduceAdd, irows_len, crows_len, Int.toNat_natCast, ilt_at hjlt, inr_at hjlt, irows_rown ht, decT htn]
                  rfl
                · rw [if_neg htn]
                  have h1 : t.toNat < code.length := by omega
                  have h2 : decide (0 ≤ t ∧ t < (code.length : Int)) = true := decT ⟨ht0, by omega⟩
                  cases hq : K t.toNat with
                  | none =>
                    simp only [go1, Option.bind_some, eq_self, cond_true, cond_false, Nat.reduceAdd, Int.reduceEq, Int.reduceLT, Int.reduceLE, Int.reduceSub, Int.reduceAdd, irows_len, crows_len, Int.toNat_natCast, ilt_at hjlt, inr_at hjlt, irows_rown ht, decF htn, kA_len, rA_len, h2, decT h1, kA_at h1, hq, Option.isSome_none, kA_put l h1, rA_put h1, wrap_succ hjlt (by simp)]
                    rfl
                  | some was =>
                    have hw := hKO _ _ hq
                    simp only [go1, Option.bind_some, eq_self, cond_true, cond_false, Nat.reduceAdd, Int.reduceEq, Int.reduceLT, Int.reduceLE, Int.reduceSub, Int.reduceAdd, irows_len, crows_len, Int.toNat_natCast, ilt_at hjlt, inr_at hjlt, irows_rown ht, decF htn, kA_len, rA_len, h2, decT h1, kA_at h1, rA_at h1, hq, Option.isSome_some, Option.getD_some, c37 was l (by have := hw.2; omega), kA_put l h1, rA_put h1, wrap_succ hjlt (by simp)]
                    by_cases he : was = l
                    · rw [if_pos he, show (was == l) = true from by simp [he]]; rfl
                    · rw [if_neg he, show (was == l) = false from by simp [he]]; rfl
              · simp only [go1, Option.bind_some, eq_self, cond_true, cond_false, Nat.reduceAdd, Int.reduceEq, Int.reduceLT, Int.reduceLE, Int.reduceSub, Int.reduceAdd, irows_len, ilt_self, wrap_succ hlt (by omega)]
                rfl
              · cases refPut code.length l ([] : List Int) K <;> rfl
            · rw [if_neg hend]
              simp (disch := omega) only [go1, Option.bind_some, eq_self, cond_true, cond_false, Nat.reduceAdd, Int.reduceEq, Int.reduceLT, Int.reduceLE, Int.reduceSub, Int.reduceAdd, decT, decF, h10, wrap_succ hlt (by omega)]
              rfl
          rw [if_neg h10]
          by_cases hb6 : (x.op = 6 ∨ x.op = 7) ∧ x.a ≤ (i : Int)
          · rw [if_pos hb6]
            rcases hb6.1 with h | h
            · simp (disch := omega) only [go1, Option.bind_some, eq_self, cond_true, cond_false, Nat.reduceAdd, Int.reduceEq, Int.reduceLT, Int.reduceLE, Int.reduceSub, Int.reduceAdd, decT, decF, h, wrap_succ hlt (by omega)]
              rfl
            · simp (disch := omega) only [go1, Option.bind_some, eq_self, cond_true, cond_false, Nat.reduceAdd, Int.reduceEq, Int.reduceLT, Int.reduceLE, Int.reduceSub, Int.reduceAdd, decT, decF, h, wrap_succ hlt (by omega), List.length_nil, List.length_cons]
              rfl
          rw [if_neg hb6]
          unfold leadsL
          by_cases h6 : x.op = 6
          · rw [if_pos h6]
            have hT0 : ∀ t ∈ [x.a], 0 ≤ t := fun t ht => by
              simp only [List.mem_cons, List.not_mem_nil, or_false] at ht
              subst ht
              exact (ha (.inl h6)).1
            simp (disch := omega) only [go1, Option.bind_some, eq_self, cond_true, cond_false, Nat.reduceAdd, Int.reduceEq, Int.reduceLT, Int.reduceLE, Int.reduceSub, Int.reduceAdd, decT, decF, h6, wrap_succ hlt (by omega), List.length_nil, List.length_cons, List.nil_append]
            refine (refPut_loop code.length [x.a] l (fun j K => [.sl 4 (crows code), .int .i64 (i : Int), .sl 1 (irows l), .int .i64 (j : Int), .sl 1 (irows la), .sl 1 (irows lb), .int .i64 lo, .int .i64 hi, .sl 1 (kA code.length K), .sl 1 (rA code.length K), .sl 1 (irows [x.a])])
              (fun K => [.sl 4 (crows code), .int .i64 ((i + 1 : Nat) : Int), .sl 1 (irows la), .sl 1 (irows lb), .int .i64 lo, .int .i64 hi, .sl 1 (kA code.length K), .sl 1 (rA code.length K)]) (badR i) (fun j K t ht hKO => ?_) (fun K => ?_) hRow' [x.a] 0 K rfl (Nat.zero_le _) hKO).trans ?_
            · have hjlt := (List.getElem?_eq_some_iff.1 ht).1
              have ht0 := hT0 t (List.mem_of_getElem? ht)
              by_cases htn : (code.length : Int) ≤ t
              · rw [if_pos htn]
                simp only [go1, Option.bind_some, eq_self, cond_true, cond_false, Nat.reduceAdd, Int.reduceEq, Int.reduceLT, Int.reduceLE, Int.reduceSub, Int.reduceAdd, irows_len, crows_len, Int.toNat_natCast, ilt_at hjlt, inr_at hjlt, irows_rown ht, decT htn]
                rfl
              · rw [if_neg htn]
                have h1 : t.toNat < code.length := by omega
                have h2 : decide (0 ≤ t ∧ t < (code.length : Int)) = true := decT ⟨ht0, by omega⟩
                cases hq : K t.toNat with
                | none =>
                  simp only [go1, Option.bind_some, eq_self, cond_true, cond_false, Nat.reduceAdd, Int.reduceEq, Int.reduceLT, Int.reduceLE, Int.reduceSub, Int.reduceAdd, irows_len, crows_len, Int.toNat_natCast, ilt_at hjlt, inr_at hjlt, irows_rown ht, decF htn, kA_len, rA_len, h2, decT h1, kA_at h1, hq, Option.isSome_none, kA_put l h1, rA_put h1, wrap_succ hjlt (by simp)]
                  rfl
                | some was =>
                  have hw := hKO _ _ hq
                  simp only [go1, Option.bind_some, eq_self, cond_true, cond_false, Nat.reduceAdd, Int.reduceEq, Int.reduceLT, Int.reduceLE, Int.reduceSub, Int.reduceAdd, irows_len, crows_len, Int.toNat_natCast, ilt_at hjlt, inr_at hjlt, irows_rown ht, decF htn, kA_len, rA_len, h2, decT h1, kA_at h1, rA_at h1, hq, Option.isSome_some, Option.getD_some, c37 was l (by have := hw.2; omega), kA_put l h1, rA_put h1, wrap_succ hjlt (by simp)]
                  by_cases he : was = l
                  · rw [if_pos he, show (was == l) = true from by simp [he]]; rfl
                  · rw [if_neg he, show (was == l) = false from by simp [he]]; rfl
            · simp only [go1, Option.bind_some, eq_self, cond_true, cond_false, Nat.reduceAdd, Int.reduceEq, Int.reduceLT, Int.reduceLE, Int.reduceSub, Int.reduceAdd, irows_len, ilt_self, wrap_succ hlt (by omega)]
              rfl
            · cases refPut code.length l [x.a] K <;> rfl
          by_cases h7 : x.op = 7
          · rw [if_neg h6, if_pos h7]
            have hT0 : ∀ t ∈ [(i : Int) + 1, x.a], 0 ≤ t := fun t ht => by
              simp only [List.mem_cons, List.not_mem_nil, or_false] at ht
              rcases ht with rfl | rfl
              · omega
              · exact (ha (.inr h7)).1
            simp (disch := omega) only [go1, Option.bind_some, eq_self, cond_true, cond_false, Nat.reduceAdd, Int.reduceEq, Int.reduceLT, Int.reduceLE, Int.reduceSub, Int.reduceAdd, decT, decF, h7, wrap_succ hlt (by omega), List.length_nil, List.length_cons, List.nil_append, List.cons_append]
            refine (refPut_loop code.length [(i : Int) + 1, x.a] l (fun j K => [.sl 4 (crows code), .int .i64 (i : Int), .sl 1 (irows l), .int .i64 (j : Int), .sl 1 (irows la), .sl 1 (irows lb), .int .i64 lo, .int .i64 hi, .sl 1 (kA code.length K), .sl 1 (rA code.length K), .sl 1 (irows [(i : Int) + 1, x.a])])
              (fun K => [.sl 4 (crows code), .int .i64 ((i + 1 : Nat) : Int), .sl 1 (irows la), .sl 1 (irows lb), .int .i64 lo, .int .i64 hi, .sl 1 (kA code.length K), .sl 1 (rA code.length K)]) (badR i) (fun j K t ht hKO => ?_) (fun K => ?_) hRow' [(i : Int) + 1, x.a] 0 K rfl (Nat.zero_le _) hKO).trans ?_
            · have hjlt := (List.getElem?_eq_some_iff.1 ht).1
              have ht0 := hT0 t (List.mem_of_getElem? ht)
              by_cases htn : (code.length : Int) ≤ t
              · rw [if_pos htn]
                simp only [go1, Option.bind_some, eq_self, cond_true, cond_false, Nat.reduceAdd, Int.reduceEq, Int.reduceLT, Int.reduceLE, Int.reduceSub, Int.reduceAdd, irows_len, crows_len, Int.toNat_natCast, ilt_at hjlt, inr_at hjlt, irows_rown ht, decT htn]
                rfl
              · rw [if_neg htn]
                have h1 : t.toNat < code.length := by omega
                have h2 : decide (0 ≤ t ∧ t < (code.length : Int)) = true := decT ⟨ht0, by omega⟩
                cases hq : K t.toNat with
                | none =>
                  simp only [go1, Option.bind_some, eq_self, cond_true, cond_false, Nat.reduceAdd, Int.reduceEq, Int.reduceLT, Int.reduceLE, Int.reduceSub, Int.reduceAdd, irows_len, crows_len, Int.toNat_natCast, ilt_at hjlt, inr_at hjlt, irows_rown ht, decF htn, kA_len, rA_len, h2, decT h1, kA_at h1, hq, Option.isSome_none, kA_put l h1, rA_put h1, wrap_succ hjlt (by simp)]
                  rfl
                | some was =>
                  have hw := hKO _ _ hq
                  simp only [go1, Option.bind_some, eq_self, cond_true, cond_false, Nat.reduceAdd, Int.reduceEq, Int.reduceLT, Int.reduceLE, Int.reduceSub, Int.reduceAdd, irows_len, crows_len, Int.toNat_natCast, ilt_at hjlt, inr_at hjlt, irows_rown ht, decF htn, kA_len, rA_len, h2, decT h1, kA_at h1, rA_at h1, hq, Option.isSome_some, Option.getD_some, c37 was l (by have := hw.2; omega), kA_put l h1, rA_put h1, wrap_succ hjlt (by simp)]
                  by_cases he : was = l
                  · rw [if_pos he, show (was == l) = true from by simp [he]]; rfl
                  · rw [if_neg he, show (was == l) = false from by simp [he]]; rfl
            · simp only [go1, Option.bind_some, eq_self, cond_true, cond_false, Nat.reduceAdd, Int.reduceEq, Int.reduceLT, Int.reduceLE, Int.reduceSub, Int.reduceAdd, irows_len, ilt_self, wrap_succ hlt (by omega)]
              rfl
            · cases refPut code.length l [(i : Int) + 1, x.a] K <;> rfl
          · rw [if_neg h6, if_neg h7]
            have hT0 : ∀ t ∈ [(i : Int) + 1], 0 ≤ t := fun t ht => by
              simp only [List.mem_cons, List.not_mem_nil, or_false] at ht
              omega
            simp (disch := omega) only [go1, Option.bind_some, eq_self, cond_true, cond_false, Nat.reduceAdd, Int.reduceEq, Int.reduceLT, Int.reduceLE, Int.reduceSub, Int.reduceAdd, decT, decF, wrap_succ hlt (by omega), List.length_nil, List.length_cons, List.nil_append]
            refine (refPut_loop code.length [(i : Int) + 1] l (fun j K => [.sl 4 (crows code), .int .i64 (i : Int), .sl 1 (irows l), .int .i64 (j : Int), .sl 1 (irows la), .sl 1 (irows lb), .int .i64 lo, .int .i64 hi, .sl 1 (kA code.length K), .sl 1 (rA code.length K), .sl 1 (irows [(i : Int) + 1])])
              (fun K => [.sl 4 (crows code), .int .i64 ((i + 1 : Nat) : Int), .sl 1 (irows la), .sl 1 (irows lb), .int .i64 lo, .int .i64 hi, .sl 1 (kA code.length K), .sl 1 (rA code.length K)]) (badR i) (fun j K t ht hKO => ?_) (fun K => ?_) hRow' [(i : Int) + 1] 0 K rfl (Nat.zero_le _) hKO).trans ?_
            · have hjlt := (List.getElem?_eq_some_iff.1 ht).1
              have ht0 := hT0 t (List.mem_of_getElem? ht)
              by_cases htn : (code.length : Int) ≤ t
              · rw [if_pos htn]
                simp only [go1, Option.bind_some, eq_self, cond_true, cond_false, Nat.reduceAdd, Int.reduceEq, Int.reduceLT, Int.reduceLE, Int.reduceSub, Int.reduceAdd, irows_len, crows_len, Int.toNat_natCast, ilt_at hjlt, inr_at hjlt, irows_rown ht, decT htn]
                rfl
              · rw [if_neg htn]
                have h1 : t.toNat < code.length := by omega
                have h2 : decide (0 ≤ t ∧ t < (code.length : Int)) = true := decT ⟨ht0, by omega⟩
                cases hq : K t.toNat with
                | none =>
                  simp only [go1, Option.bind_some, eq_self, cond_true, cond_false, Nat.reduceAdd, Int.reduceEq, Int.reduceLT, Int.reduceLE, Int.reduceSub, Int.reduceAdd, irows_len, crows_len, Int.toNat_natCast, ilt_at hjlt, inr_at hjlt, irows_rown ht, decF htn, kA_len, rA_len, h2, decT h1, kA_at h1, hq, Option.isSome_none, kA_put l h1, rA_put h1, wrap_succ hjlt (by simp)]
                  rfl
                | some was =>
                  have hw := hKO _ _ hq
                  simp only [go1, Option.bind_some, eq_self, cond_true, cond_false, Nat.reduceAdd, Int.reduceEq, Int.reduceLT, Int.reduceLE, Int.reduceSub, Int.reduceAdd, irows_len, crows_len, Int.toNat_natCast, ilt_at hjlt, inr_at hjlt, irows_rown ht, decF htn, kA_len, rA_len, h2, decT h1, kA_at h1, rA_at h1, hq, Option.isSome_some, Option.getD_some, c37 was l (by have := hw.2; omega), kA_put l h1, rA_put h1, wrap_succ hjlt (by simp)]
                  by_cases he : was = l
                  · rw [if_pos he, show (was == l) = true from by simp [he]]; rfl
                  · rw [if_neg he, show (was == l) = false from by simp [he]]; rfl
            · simp only [go1, Option.bind_some, eq_self, cond_true, cond_false, Nat.reduceAdd, Int.reduceEq, Int.reduceLT, Int.reduceLE, Int.reduceSub, Int.reduceAdd, irows_len, ilt_self, wrap_succ hlt (by omega)]
              rfl
            · cases refPut code.length l [(i : Int) + 1] K <;> rfl
  · simp only [go1, Option.bind_some, eq_self, cond_true, cond_false, Nat.reduceAdd, Int.reduceEq, Int.reduceLT, Int.reduceLE, Int.reduceSub, Int.reduceAdd, ilt_self, crows_len]
  · unfold setK at hm
    split at hm
    · cases hm; exact ⟨by simp, by simp⟩
    · cases hm
end Go.Vm
end

section
set_option linter.all false
set_option maxRecDepth 100000
set_option maxHeartbeats 8000000
namespace Go.Vm
open Go.Proofs
/-! ### forms -/
def shapeS (s : Shp) : Bool := shapeB s.ctors s.kinds s.lo s.hi
def formS (x : Img) : Bool := (decide (enumsN x.enums = 0) && ((portsA x && (portsF x && portsO x)) && rightS x.enums x.slots)) && shapeS (shpOf x)
theorem shp_ctors (x : Img) : (shpOf x).ctors.length = x.enums.length := ctorsN_len _
theorem shp_kinds {x : Img} (hx : IB x) : (shpOf x).kinds.length ≤ 5000 := by
  have b2 := hx.pn
  have b3 := hx.sn
  have b4 := hx.ln
  have s1 := kindsT_len (x.slots.map (·.ty))
  have s2 := kindsT_len (x.ins.map (·.ty))
  have s3 := kindsT_len (x.outs.map (·.ty))
  simp only [List.length_map] at s1 s2 s3
  show (((kindsT (x.slots.map (·.ty)) ++ kindsT (x.ins.map (·.ty))) ++ kindsT (x.outs.map (·.ty))) ++ x.locals).length ≤ 5000
  simp only [List.length_append]
  omega
def shpV (s : Shp) : V := shV (irows s.ctors) (irows s.kinds) s.lo s.hi
theorem c_vShape {x : Img} (hx : IB x) : cF 49 [shpV (shpOf x)] = some (.val [.bool (shapeS (shpOf x))]) := c14 _ _ _ _ (by rw [shp_ctors]; have := hx.en; omega) (by have := shp_kinds hx; omega)
theorem c_rShape {x : Img} (hx : IB x) : cF 55 [shpV (shpOf x)] = some (.val [.bool (shapeS (shpOf x))]) := c15 _ _ _ _ (by rw [shp_ctors]; have := hx.en; omega) (by have := shp_kinds hx; omega)
theorem c_vCheck {x : Img} (hx : IB x) : cF 44 [shpV (shpOf x), .d (.sl 4 (crows x.code))] = some (chR (checkS (shpOf x) x.code)) := c12 _ _ _ _ _ (by rw [shp_ctors]; have := hx.en; omega) (by have := shp_kinds hx; omega) (by have := hx.cn; omega)
theorem c_rCheck {x : Img} (hx : IB x) : cF 46 [shpV (shpOf x), .d (.sl 4 (crows x.code))] = some (chR (checkS (shpOf x) x.code)) := c13 _ _ _ _ _ (by rw [shp_ctors]; have := hx.en; omega) (by have := shp_kinds hx; omega) (by have := hx.cn; omega)
theorem c_sForm (x : Img) (hx : IB x) : cF 21 [x.v] = some (.val [.bool (formS x)]) := by
  have h1 := c_tyEnums x.enums (by have := hx.en; omega)
  have h2 := c_sPorts x hx.pn
  have h3 := c_tRight x.enums x.slots hx.slots
  have h4 := c_gShape x hx
  have h5 := c_vShape hx
  unfold formS
  generalize shpOf x = s at h4 h5 ⊢
  generalize hP : (portsA x && (portsF x && portsO x)) = P at h2 ⊢
  unfold shpV shV at h5
  unfold shpR at h4
  unfold Img.v at h2 h4 ⊢
  refine cOf (by kernel_rfl) rfl ?_
  rw [g21_eq]
  simp only [g21, go1, Option.bind_some, eq_self, cond_true, cond_false, Nat.reduceAdd, Int.reduceEq, Int.reduceLT, Int.reduceLE, Int.reduceSub, Int.reduceAdd, h1, h2, h3, h4, h5]
  cases decide (enumsN x.enums = 0) <;> cases P <;> cases rightS x.enums x.slots <;> rfl
theorem c_rsForm (x : Img) (hx : IB x) : cF 22 [x.v] = some (.val [.bool (formS x)]) := by
  have h1 := c_rtyEnums x.enums (by have := hx.en; omega) hx.eb
  have h3 := c_rtRight x.enums x.slots hx.slots
  have h4 := c_rgShape x hx
  have h5 := c_rShape hx
  have hpn := hx.pn
  have hpb := hx.pb
  unfold formS
  generalize shpOf x = s at h4 h5 ⊢
  unfold shpV shV at h5
  unfold shpR at h4
  unfold portsA portsF portsO
  obtain ⟨enums, ins, outs, slots, locals, code⟩ := x
  clear hx
  unfold Img.v at h4 ⊢
  simp only at h1 h3 h4 hpn hpb ⊢
  have hf1 : decide (ins.length * 41 ≤ 140737488355328) = true := decT (by omega)
  have hf2 : decide ((ins.length + outs.length) * 41 ≤ 140737488355328) = true := decT (by omega)
  by_cases hE : enumsN enums = 0
  · by_cases hI : (ins.length : Int) ≤ 6
    · by_cases hO1 : 1 ≤ (outs.length : Int)
      · by_cases hO2 : (outs.length : Int) ≤ 6
        · cases hR : rightS enums slots with
          | false =>
            rw [hR] at h3
            refine cOf (by kernel_rfl) rfl ?_
            rw [g22_eq]
            simp only [g22, go1, Option.bind_some, eq_self, cond_true, cond_false, Nat.reduceAdd, Int.reduceEq, Int.reduceLT, Int.reduceLE, Int.reduceSub, Int.reduceAdd, h1, h3, prows_len, decT hE, decT hI, decT hO1, decT hO2, decF (p := 6 < (ins.length : Int)) (by omega), decF (p := (outs.length : Int) < 1) (by omega), decF (p := 6 < (outs.length : Int)) (by omega)]
          | true =>
            rw [hR] at h3
            refine cOf (by kernel_rfl) rfl ?_
            rw [g22_eq]
            simp only [g22, go1, Option.bind_some, eq_self, cond_true, cond_false, Nat.reduceAdd, Int.reduceEq, Int.reduceLT, Int.reduceLE, Int.reduceSub, Int.reduceAdd, h1, h3, prows_len, decT hE, decT hI, decT hO1, decT hO2, decF (p := 6 < (ins.length : Int)) (by omega), decF (p := (outs.length : Int) < 1) (by omega), decF (p := 6 < (outs.length : Int)) (by omega), List.length_nil, List.nil_append, hf1, hf2, prows_app]
            have hpl : (ins ++ outs).length ≤ 50 := by rw [List.length_append]; omega
            generalize hps : ins ++ outs = ps at hpl hpb
            refine loopF_at (fun i : Nat => [.int .i64 (i : Int), .sl 2 (erows enums), .sl 4 (prows ins), .sl 4 (prows outs), .sl 6 (slrows slots), .sl 1 (irows locals), .sl 4 (crows code), .sl 4 (prows ps), .sl 1 (srows ((ps.take i).map (·.name)))]) (fun i => i ≤ ps.length ∧ (ps.take i).all (portOK enums.length) = true) (fun i => ps.length - i) (fun i hi => ?_) 0 ⟨Nat.zero_le _, by simp⟩
            obtain ⟨hi, hA⟩ := hi
            by_cases hlt : i < ps.length
            · have hx := List.getElem?_eq_getElem hlt
              have hL := c_rLow ps[i].name (by have := hpb _ (List.getElem_mem hlt); omega)
              have hT := rtyRight_u enums ps[i].ty
              have hgd : ps.getD i default = ps[i] := by simp [hlt]
              cases hb : portOK enums.length ps[i] with
              | false =>
                right
                rw [all_false (d := default) hlt (by rw [hgd]; exact hb)]
                unfold portOK at hb
                simp only [go1, Option.bind_some, eq_self, cond_true, cond_false, Nat.reduceAdd, Int.reduceEq, Int.reduceLT, Int.reduceLE, Int.reduceSub, Int.reduceAdd, prows_len, ilt_at hlt, inr_at hlt, Int.toNat_natCast, prown_at hx, hL]
                cases hl : lowN (tb ps[i].name) with
                | false => simp only [go1, Option.bind_some, eq_self, cond_true, cond_false, Nat.reduceAdd, Int.reduceEq, Int.reduceLT, Int.reduceLE, Int.reduceSub, Int.reduceAdd]
                | true =>
                  rw [hl, Bool.true_and] at hb
                  rw [hb] at hT
                  simp only [go1, Option.bind_some, eq_self, cond_true, cond_false, Nat.reduceAdd, Int.reduceEq, Int.reduceLT, Int.reduceLE, Int.reduceSub, Int.reduceAdd, decT hlt, hT]
              | true =>
                left
                refine ⟨i + 1, ?_, ⟨hlt, all_snoc (d := default) hlt hA (by rw [hgd]; exact hb)⟩, by omega⟩
                unfold portOK at hb
                rw [Bool.and_eq_true] at hb
                rw [hb.1] at hL
                rw [hb.2] at hT
                have hf : decide (((ps.take i).length + 1) * 17 ≤ 140737488355328) = true := decT (by rw [List.length_take]; omega)
                rw [pnames_take hx, srows_snoc]
                simp only [go1, Option.bind_some, eq_self, cond_true, cond_false, Nat.reduceAdd, Int.reduceEq, Int.reduceLT, Int.reduceLE, Int.reduceSub, Int.reduceAdd, prows_len, srows_len, List.length_map, ilt_at hlt, inr_at hlt, Int.toNat_natCast, prown_at hx, hL, hT, decT hlt, List.length_cons, List.length_nil, hf, wrap_succ hlt (by omega)]
                rfl
            · have : i = ps.length := by omega
              subst this
              right
              rw [List.take_length] at hA
              have hO := c_rOnce (ps.map (·.name)) (by rw [List.length_map]; omega)
              simp only [go1, Option.bind_some, eq_self, cond_true, cond_false, Nat.reduceAdd, Int.reduceEq, Int.reduceLT, Int.reduceLE, Int.reduceSub, Int.reduceAdd, prows_len, ilt_self, List.take_length, hO, hA, h4, h5]
              cases decide (ps.map (·.name)).Nodup <;> rfl
        · refine cOf (by kernel_rfl) rfl ?_
          rw [g22_eq]
          simp only [g22, go1, Option.bind_some, eq_self, cond_true, cond_false, Nat.reduceAdd, Int.reduceEq, Int.reduceLT, Int.reduceLE, Int.reduceSub, Int.reduceAdd, h1, h3, prows_len, decT hE, decT hI, decT hO1, decF hO2, decF (p := 6 < (ins.length : Int)) (by omega), decF (p := (outs.length : Int) < 1) (by omega), decT (p := 6 < (outs.length : Int)) (by omega)]
      · refine cOf (by kernel_rfl) rfl ?_
        rw [g22_eq]
        simp only [g22, go1, Option.bind_some, eq_self, cond_true, cond_false, Nat.reduceAdd, Int.reduceEq, Int.reduceLT, Int.reduceLE, Int.reduceSub, Int.reduceAdd, h1, h3, prows_len, decT hE, decT hI, decF hO1, decF (p := 6 < (ins.length : Int)) (by omega), decT (p := (outs.length : Int) < 1) (by omega)]
    · refine cOf (by kernel_rfl) rfl ?_
      rw [g22_eq]
      simp only [g22, go1, Option.bind_some, eq_self, cond_true, cond_false, Nat.reduceAdd, Int.reduceEq, Int.reduceLT, Int.reduceLE, Int.reduceSub, Int.reduceAdd, h1, h3, prows_len, decT hE, decF hI, decT (p := 6 < (ins.length : Int)) (by omega)]
  · refine cOf (by kernel_rfl) rfl ?_
    rw [g22_eq]
    simp only [g22, go1, Option.bind_some, eq_self, cond_true, cond_false, Nat.reduceAdd, Int.reduceEq, Int.reduceLT, Int.reduceLE, Int.reduceSub, Int.reduceAdd, h1, h3, prows_len, decF hE]
end Go.Vm
end

section
set_option linter.all false
set_option maxRecDepth 100000
set_option maxHeartbeats 8000000
namespace Go.Vm
open Go.Proofs
/-! ### what is told of an image -/
def soundN (x : Img) : Int := bif formS x then (checkS (shpOf x) x.code).1 else 0
def soundE (x : Img) : Int := bif formS x then (bif (checkS (shpOf x) x.code).2 then 0 else 13) else 11
theorem c_sCheck (x : Img) (hx : IB x) : cF 18 [x.v] = some (.val [.int .i64 (soundN x), .int .i64 (soundE x)]) := by
  have h1 := c_sForm x hx
  have h2 := c_gShape x hx
  have h3 := c_vCheck hx
  unfold soundN soundE
  generalize shpOf x = s at h2 h3 ⊢
  unfold shpV shV at h3
  unfold shpR at h2
  unfold chR at h3
  generalize checkS s x.code = c at h3 ⊢
  obtain ⟨n, ok⟩ := c
  unfold Img.v at h1 h2 ⊢
  cases hF : formS x with
  | false =>
    rw [hF] at h1
    refine cOf (by kernel_rfl) rfl ?_
    rw [g18_eq]
    simp only [g18, go1, Option.bind_some, eq_self, cond_true, cond_false, Nat.reduceAdd, Int.reduceEq, Int.reduceLT, Int.reduceLE, Int.reduceSub, Int.reduceAdd, h1]
  | true =>
    rw [hF] at h1
    refine cOf (by kernel_rfl) rfl ?_
    rw [g18_eq]
    simp only [g18, go1, Option.bind_some, eq_self, cond_true, cond_false, Nat.reduceAdd, Int.reduceEq, Int.reduceLT, Int.reduceLE, Int.reduceSub, Int.reduceAdd, h1, h2, h3]
    cases ok <;> rfl
theorem c_rsCheck (x : Img) (hx : IB x) : cF 19 [x.v] = some (.val [.int .i64 (soundN x), .int .i64 (soundE x)]) := by
  have h1 := c_rsForm x hx
  have h2 := c_rgShape x hx
  have h3 := c_rCheck hx
  unfold soundN soundE
  generalize shpOf x = s at h2 h3 ⊢
  unfold shpV shV at h3
  unfold shpR at h2
  unfold chR at h3
  generalize checkS s x.code = c at h3 ⊢
  obtain ⟨n, ok⟩ := c
  unfold Img.v at h1 h2 ⊢
  cases hF : formS x with
  | false =>
    rw [hF] at h1
    refine cOf (by kernel_rfl) rfl ?_
    rw [g19_eq]
    simp only [g19, go1, Option.bind_some, eq_self, cond_true, cond_false, Nat.reduceAdd, Int.reduceEq, Int.reduceLT, Int.reduceLE, Int.reduceSub, Int.reduceAdd, h1]
  | true =>
    rw [hF] at h1
    refine cOf (by kernel_rfl) rfl ?_
    rw [g19_eq]
    simp only [g19, go1, Option.bind_some, eq_self, cond_true, cond_false, Nat.reduceAdd, Int.reduceEq, Int.reduceLT, Int.reduceLE, Int.reduceSub, Int.reduceAdd, h1, h2, h3]
    cases ok <;> rfl
theorem c_sNum (n : Int) : cF 20 [.d (.int .i64 n)] = some (.val [.int .i64 n]) := by
  refine cOf (by kernel_rfl) rfl ?_
  rw [g20_eq]
  simp only [g20, go1, Option.bind_some, eq_self, cond_true, cond_false, Nat.reduceAdd, Int.reduceEq, Int.reduceLT, Int.reduceLE, Int.reduceSub, Int.reduceAdd]
def noImg : Img := ⟨[], [], [], [], [], []⟩
theorem noImg_ok : IB noImg := by
  refine ⟨by decide, fun e he => ?_, by decide, fun e he => ?_, by decide, fun e he => ?_, by decide, by decide⟩
  · cases he
  · cases he
  · cases he
theorem noImg_form : formS noImg = false := by
  have : portsF noImg = false := by decide
  unfold formS
  rw [this]
  simp
theorem c_sLive : cF 17 [] = some (.val [.bool true]) := by
  have h := c_sCheck noImg noImg_ok
  have e1 : soundN noImg = 0 := by unfold soundN; rw [noImg_form]; rfl
  have e2 : soundE noImg = 11 := by unfold soundE; rw [noImg_form]; rfl
  rw [e1, e2] at h
  have h : cF 18 [V.agg [.d (.sl 2 []), .d (.sl 4 []), .d (.sl 4 []), .d (.sl 6 []), .d (.sl 1 []), .d (.sl 4 [])]] = some (.val [.int .i64 0, .int .i64 11]) := h
  refine cOf (by kernel_rfl) rfl ?_
  rw [g17_eq]
  simp only [g17, go1, Option.bind_some, eq_self, cond_true, cond_false, Nat.reduceAdd, Int.reduceEq, Int.reduceLT, Int.reduceLE, Int.reduceSub, Int.reduceAdd, h, c_sNum]
theorem c_Checks (x : Img) (hp : x.ins.length + x.outs.length ≤ 1000000000000000) : cF 4 [x.v] = some (.val [.bool true]) := by
  obtain ⟨_, hF, bF, rfl, hb⟩ := c_iFew x hp
  have hLv := c_sLive
  cases bF with
  | false =>
    unfold Img.v at hF ⊢
    refine cOf (by kernel_rfl) rfl ?_
    rw [g4_eq]
    simp only [g4, go1, Option.bind_some, eq_self, cond_true, cond_false, Nat.reduceAdd, Int.reduceEq, Int.reduceLT, Int.reduceLE, Int.reduceSub, Int.reduceAdd, hF, hLv]
  | true =>
    have hx := hb rfl
    have h1 := c_sCheck x hx
    have h2 := c_rsCheck x hx
    have h3 := c_sForm x hx
    have h4 := c_rsForm x hx
    unfold Img.v at hF h1 h2 h3 h4 ⊢
    refine cOf (by kernel_rfl) rfl ?_
    rw [g4_eq]
    simp only [g4, go1, Option.bind_some, eq_self, cond_true, cond_false, Nat.reduceAdd, Int.reduceEq, Int.reduceLT, Int.reduceLE, Int.reduceSub, Int.reduceAdd, hF, hLv, h1, h2, h3, h4, c_sNum, beq_self_eq_true]
end Go.Vm
end

section
set_option linter.all false
set_option maxRecDepth 100000
namespace Go.Vm
/-! ### what a code that may be run keeps on its stack -/
theorem putAll_keep {row : List Int} : ∀ {to : List Int} {K K' : Known}, putAll row to K = some K' → (∀ m r, K m = some r → K' m = some r) ∧ ∀ t ∈ to, K' t.toNat = some row
  | [], K, K', h => by cases h; exact ⟨fun m r h => h, by simp⟩
  | t :: ts, K, K', h => by
    unfold putAll at h
    have go : (∀ w, K t.toNat = some w → w = row) → putAll row ts (fun m => if m = t.toNat then some row else K m) = some K' → (∀ m r, K m = some r → K' m = some r) ∧ ∀ q ∈ t :: ts, K' q.toNat = some row := fun hw h => by
      obtain ⟨h1, h2⟩ := putAll_keep h
      refine ⟨fun m r hm => h1 m r ?_, fun q hq => ?_⟩
      · by_cases e : m = t.toNat
        · subst e; simp only [if_true]; rw [hw r hm]
        · simp only [if_neg e]; exact hm
      · rcases List.mem_cons.1 hq with rfl | hq
        · exact h1 _ _ (by simp)
        · exact h2 q hq
    cases hk : K t.toNat with
    | none => rw [hk] at h; exact go (fun w hw => by rw [hk] at hw; cases hw) h
    | some was =>
      rw [hk] at h
      simp only at h
      by_cases e : was = row
      · rw [if_pos e] at h
        exact go (fun w hw => by rw [hk] at hw; cases hw; exact e) h
      · rw [if_neg e] at h; cases h
/-- What is known of a place in a code that may be run. -/
def PlaceOK (s : Shp) (n : Nat) (R : Nat → List Int) (i : Nat) (x : Ins) : Prop :=
  rightB x = true ∧ ∃ row' to, nextS s x (R i) = some row' ∧ leadsS n i x = some to ∧ ∀ t ∈ to, R t.toNat = row'
theorem checkGo_rows {s : Shp} {n : Nat} : ∀ (rest : List Ins) (i : Nat) (K : Known), (checkGo s n i rest K).2 = true → ∃ R : Nat → List Int, (∀ m row, i ≤ m → K m = some row → R m = row) ∧ ∀ j x, rest[j]? = some x → PlaceOK s n R (i + j) x
  | [], i, K, h => ⟨fun m => (K m).getD [], fun m row _ h => by simp [h], fun j x h => by simp at h⟩
  | x :: xs, i, K, h => by
    unfold checkGo at h
    cases hk : K i with
    | none => rw [hk] at h; cases h
    | some row =>
      rw [hk] at h; simp only at h
      by_cases hr : rightB x = true
      · rw [if_pos hr] at h
        cases hn : nextS s x row with
        | none => rw [hn] at h; cases h
        | some row' =>
          rw [hn] at h; simp only at h
          cases hl : leadsS n i x with
          | none => rw [hl] at h; cases h
          | some to =>
            rw [hl] at h; simp only at h
            cases hp : putAll row' to K with
            | none => rw [hp] at h; cases h
            | some K' =>
              rw [hp] at h; simp only at h
              obtain ⟨R, h1, h2⟩ := checkGo_rows xs (i + 1) K' h
              obtain ⟨k1, k2⟩ := putAll_keep hp
              have hbd := (leadsS_bd hl).1
              refine ⟨fun m => if m = i then row else R m, fun m r hm hKm => ?_, fun j y hy => ?_⟩
              · by_cases e : m = i
                · subst e; simp only [if_true]; rw [hk] at hKm; cases hKm; rfl
                · simp only [if_neg e]; exact h1 m r (by omega) (k1 m r hKm)
              · cases j with
                | zero =>
                  simp only [List.getElem?_cons_zero, Option.some.injEq] at hy; subst hy
                  refine ⟨hr, row', to, by simpa using hn, by simpa using hl, fun t ht => ?_⟩
                  have := hbd t ht
                  simp only
                  rw [if_neg (by omega)]
                  exact h1 _ _ (by omega) (k2 t ht)
                | succ j =>
                  simp only [List.getElem?_cons_succ] at hy
                  obtain ⟨a, r2, t2, b, c, d⟩ := h2 j y hy
                  rw [show i + 1 + j = i + (j + 1) by omega] at b c
                  refine ⟨a, r2, t2, ?_, c, fun t ht => ?_⟩
                  · simp only; rw [if_neg (by omega)]; exact b
                  · have := (leadsS_bd c).1 t ht
                    simp only
                    rw [if_neg (by omega)]; exact d t ht
      · rw [if_neg hr] at h; cases h
theorem checkS_rows {s : Shp} {code : List Ins} (h : (checkS s code).2 = true) : shapeB s.ctors s.kinds s.lo s.hi = true ∧ 1 ≤ code.length ∧ ∃ R : Nat → List Int, R 0 = [] ∧ ∀ i x, code[i]? = some x → PlaceOK s code.length R i x := by
  unfold checkS at h
  split at h
  · rename_i hc
    simp only [Bool.and_eq_true, decide_eq_true_eq] at hc
    obtain ⟨R, h1, h2⟩ := checkGo_rows code 0 _ h
    refine ⟨hc.1.1, hc.1.2, R, h1 0 [] (Nat.le_refl _) (by simp), fun i x hx => ?_⟩
    have := h2 i x hx
    rwa [Nat.zero_add] at this
  · cases h
/-- How many are taken off the stack; how many are laid on it. -/
def popsN (op : Int) : Nat := if op = 3 ∨ op = 4 ∨ op = 7 ∨ op = 8 then 1 else if op = 5 ∨ op = 9 then 2 else 0
def putsN (op : Int) : Nat := if op = 1 ∨ op = 2 ∨ op = 4 ∨ op = 5 ∨ op = 8 then 1 else 0
theorem dropTop_length (row : List Int) (n : Nat) : (dropTop row n).length = row.length - n := by
  unfold dropTop; rw [List.length_take]; omega
theorem next_len {s : Shp} {x : Ins} {row row' : List Int} (h : nextS s x row = some row') (hr : rightB x = true) (h10 : x.op ≠ 10) (hl : row.length ≤ 16) :
    popsN x.op ≤ row.length ∧ row'.length = row.length - popsN x.op + putsN x.op ∧ row'.length ≤ 16 := by
  obtain ⟨op, a, b, n⟩ := x
  simp only at h10 ⊢
  have hop : 1 ≤ op ∧ op ≤ 10 := by
    rw [right_eq] at hr
    simp only [Bool.and_eq_true] at hr
    exact withinB_iff.1 hr.1.1.1
  have : op = 1 ∨ op = 2 ∨ op = 3 ∨ op = 4 ∨ op = 5 ∨ op = 6 ∨ op = 7 ∨ op = 8 ∨ op = 9 := by omega
  unfold nextS at h
  rcases this with rfl | rfl | rfl | rfl | rfl | rfl | rfl | rfl | rfl
  · rw [if_pos rfl] at h
    split at h
    · rename_i hc
      simp only [Bool.and_eq_true, decide_eq_true_eq] at hc
      cases h
      have := hc.2
      simp [popsN, putsN]; omega
    · cases h
  · simp only [memS] at h
    simp at h
    split at h
    · cases h
    · split at h
      · cases h; simp [popsN, putsN]; omega
      · cases h
  · simp only [memS] at h
    simp at h
    split at h
    · cases h
    · split at h
      · rename_i he
        cases h
        have := ends_len he.1
        simp only [il, List.length_singleton] at this
        rw [dropTop_length]; simp [popsN, putsN]; omega
      · cases h
  · simp only [operS] at h
    simp at h
    obtain ⟨hne, t, ht, rfl⟩ := h
    have : row.length ≠ 0 := by
      intro e; exact hne (List.length_eq_zero_iff.1 e)
    rw [List.length_append, dropTop_length]; simp [popsN, putsN]; omega
  · simp only [operS] at h
    simp at h
    obtain ⟨hne, t, ht, rfl⟩ := h
    rw [List.length_append, dropTop_length]; simp [popsN, putsN]; omega
  · simp at h
    subst h
    simp [popsN, putsN]; omega
  · simp at h
    obtain ⟨he, rfl⟩ := h
    have := ends_len he
    simp only [il, List.length_singleton] at this
    rw [dropTop_length]; simp [popsN, putsN]; omega
  · simp only [memS] at h
    simp at h
    split at h
    · cases h
    · split at h
      · rename_i he
        cases h
        have := ends_len he
        simp only [il, List.length_singleton] at this
        rw [List.length_append, dropTop_length]; simp [popsN, putsN]; omega
      · cases h
  · simp only [memS] at h
    simp at h
    split at h
    · cases h
    · split at h
      · rename_i he
        cases h
        have := ends_len he.1
        simp only [il, List.length_cons, List.length_nil] at this
        rw [dropTop_length]; simp [popsN, putsN]; omega
      · cases h
/-- Cells that an instruction has to do with are there. -/
theorem next_there {s : Shp} {x : Ins} {row row' : List Int} (h : nextS s x row = some row') (hm : x.op = 2 ∨ x.op = 3 ∨ x.op = 8 ∨ x.op = 9) : x.a + max 1 x.b ≤ s.kinds.length := by
  unfold nextS at h
  rw [if_neg (by omega), if_neg (by omega), if_neg (by omega), if_neg (by omega), if_neg (by omega)] at h
  unfold memS at h
  have : cellsK s.kinds x.a (max 1 x.b) ≠ none := by
    intro e; rw [e] at h; cases h
  unfold cellsK at this
  split at this
  · rename_i hle
    unfold il at hle
    omega
  · exact absurd rfl this
theorem irows_put (l : List Int) (n : Nat) (v : Int) (h : n < l.length) : sy.rput (irows l) n 0 [.int .i64 v] = irows (l.set n v) := by
  show (irows l).set n _ = _
  rw [irows_get _ _ h]
  unfold irows
  rw [List.map_set]
  rfl
theorem irows_n {l : List Int} {n : Nat} (h : n < l.length) : sy.cell (sy.rown (irows l) n) 0 = some (.int .i64 (l.getD n 0)) := by
  rw [sy_rown, irows_get _ _ h]; rfl
/-- How many places are ahead, with the place itself. -/
def bAt (code : List Ins) (i : Nat) : Int := (code.length : Int) - i
theorem bAt_pos {code : List Ins} {i : Nat} (hi : i < code.length) : 1 ≤ bAt code i := by unfold bAt; omega
theorem bAt_le {code : List Ins} (i : Nat) : bAt code i ≤ code.length := by unfold bAt; omega
theorem adv {code : List Ins} {i : Nat} {x : Ins} {to : List Int} (hx : code[i]? = some x) (h10 : x.op ≠ 10) (hl : leadsS code.length i x = some to) : to = leadsL i x ∧ ∀ t ∈ to, ∃ j : Nat, t = j ∧ i < j ∧ j < code.length ∧ bAt code j + 1 ≤ bAt code i := by
  have hbd := (leadsS_bd hl).1
  have hto : to = leadsL i x := by
    unfold leadsS at hl
    rw [if_neg h10] at hl
    have e : (if x.op = 6 then [x.a] else if x.op = 7 then [(i : Int) + 1, x.a] else [(i : Int) + 1]) = leadsL i x := rfl
    simp only [e] at hl
    split at hl
    · cases hl; rfl
    · cases hl
  refine ⟨hto, fun t ht => ?_⟩
  have hb := hbd t ht
  exact ⟨t.toNat, by omega, by omega, by omega, by unfold bAt; omega⟩
end Go.Vm
end

section
set_option maxRecDepth 1000000
set_option maxHeartbeats 0
namespace Go.Vm
open Go.Proofs
def g172 (A : Sy) (E : Env) (op_ : Int) (a_ : Int) : Option PRes :=
 bif (A.ieq op_ 1) then
 some (.val [(.int .i64 (A.wrap .i64 (A.wrap .u64 (A.sub 0 (A.wrap .u64 a_))))), (.int .i64 0)])
 else
 bif (A.ieq op_ 2) then
 (E.call 215 [(.d (.bool (A.ieq a_ 0)))]).bind fun p1 =>
 (opI (A.cell p1.leaves 0) .i64).bind fun n3 =>
 some (.val [(.int .i64 n3), (.int .i64 0)])
 else
 some (.val [(.int .i64 0), (.int .i64 1)])
theorem g172_eq (A : Sy) (E : Env) (op_ : Int) (a_ : Int) : (funT A Tryz.prog cs 172 [V.d (.int .i64 op_), V.d (.int .i64 a_)]).run E = g172 A E op_ a_ := by kernel_rfl
def g173 (A : Sy) (E : Env) (op_ : Int) (a_ : Int) (b_ : Int) : Option PRes :=
 bif (A.ieq op_ 3) then
 (E.call 216 [(.d (.int .i64 op_)), (.d (.int .i64 a_)), (.d (.int .i64 b_))]).bind fun p1 =>
 (opI (A.cell p1.leaves 0) .i64).bind fun n3 =>
 (opI (A.cell p1.leaves 1) .i64).bind fun n4 =>
 some (.val [(.int .i64 n3), (.int .i64 n4)])
 else
 bif (A.ieq op_ 4) then
 (E.call 216 [(.d (.int .i64 op_)), (.d (.int .i64 a_)), (.d (.int .i64 b_))]).bind fun p5 =>
 (opI (A.cell p5.leaves 0) .i64).bind fun n7 =>
 (opI (A.cell p5.leaves 1) .i64).bind fun n8 =>
 some (.val [(.int .i64 n7), (.int .i64 n8)])
 else
 bif (A.ieq op_ 5) then
 (E.call 216 [(.d (.int .i64 op_)), (.d (.int .i64 a_)), (.d (.int .i64 b_))]).bind fun p9 =>
 (opI (A.cell p9.leaves 0) .i64).bind fun n11 =>
 (opI (A.cell p9.leaves 1) .i64).bind fun n12 =>
 some (.val [(.int .i64 n11), (.int .i64 n12)])
 else
 bif (A.ieq op_ 6) then
 (E.call 216 [(.d (.int .i64 op_)), (.d (.int .i64 a_)), (.d (.int .i64 b_))]).bind fun p13 =>
 (opI (A.cell p13.leaves 0) .i64).bind fun n15 =>
 (opI (A.cell p13.leaves 1) .i64).bind fun n16 =>
 some (.val [(.int .i64 n15), (.int .i64 n16)])
 else
 bif (A.ieq op_ 7) then
 (E.call 216 [(.d (.int .i64 op_)), (.d (.int .i64 a_)), (.d (.int .i64 b_))]).bind fun p17 =>
 (opI (A.cell p17.leaves 0) .i64).bind fun n19 =>
 (opI (A.cell p17.leaves 1) .i64).bind fun n20 =>
 some (.val [(.int .i64 n19), (.int .i64 n20)])
 else
 bif (A.ieq op_ 8) then
 cutO (
 bif (A.bnot (A.ieq a_ 0)) then
 some (.inl [(.bool (A.bnot (A.ieq b_ 0)))])
 else
 some (.inl [(.bool false)])
 ) fun ds21 =>
 (opB (A.cell ds21 0)).bind fun b22 =>
 (E.call 215 [(.d (.bool b22))]).bind fun p23 =>
 (opI (A.cell p23.leaves 0) .i64).bind fun n25 =>
 some (.val [(.int .i64 n25), (.int .i64 0)])
 else
 bif (A.ieq op_ 9) then
 cutO (
 bif (A.bnot (A.ieq a_ 0)) then
 some (.inl [(.bool true)])
 else
 some (.inl [(.bool (A.bnot (A.ieq b_ 0)))])
 ) fun ds26 =>
 (opB (A.cell ds26 0)).bind fun b27 =>
 (E.call 215 [(.d (.bool b27))]).bind fun p28 =>
 (opI (A.cell p28.leaves 0) .i64).bind fun n30 =>
 some (.val [(.int .i64 n30), (.int .i64 0)])
 else
 bif (A.ieq op_ 10) then
 (E.call 215 [(.d (.bool (A.bnot (A.beq (A.bnot (A.ieq a_ 0)) (A.bnot (A.ieq b_ 0))))))]).bind fun p31 =>
 (opI (A.cell p31.leaves 0) .i64).bind fun n33 =>
 some (.val [(.int .i64 n33), (.int .i64 0)])
 else
 bif (A.ieq op_ 11) then
 (E.call 215 [(.d (.bool (A.ieq a_ b_)))]).bind fun p34 =>
 (opI (A.cell p34.leaves 0) .i64).bind fun n36 =>
 some (.val [(.int .i64 n36), (.int .i64 0)])
 else
 bif (A.ieq op_ 12) then
 (E.call 215 [(.d (.bool (A.bnot (A.ieq a_ b_))))]).bind fun p37 =>
 (opI (A.cell p37.leaves 0) .i64).bind fun n39 =>
 some (.val [(.int .i64 n39), (.int .i64 0)])
 else
 bif (A.ieq op_ 13) then
 (E.call 215 [(.d (.bool (A.ilt a_ b_)))]).bind fun p40 =>
 (opI (A.cell p40.leaves 0) .i64).bind fun n42 =>
 some (.val [(.int .i64 n42), (.int .i64 0)])
 else
 bif (A.ieq op_ 14) then
 (E.call 215 [(.d (.bool (A.ile a_ b_)))]).bind fun p43 =>
 (opI (A.cell p43.leaves 0) .i64).bind fun n45 =>
 some (.val [(.int .i64 n45), (.int .i64 0)])
 else
 bif (A.ieq op_ 15) then
 (E.call 215 [(.d (.bool (A.ilt b_ a_)))]).bind fun p46 =>
 (opI (A.cell p46.leaves 0) .i64).bind fun n48 =>
 some (.val [(.int .i64 n48), (.int .i64 0)])
 else
 bif (A.ieq op_ 16) then
 (E.call 215 [(.d (.bool (A.ile b_ a_)))]).bind fun p49 =>
 (opI (A.cell p49.leaves 0) .i64).bind fun n51 =>
 some (.val [(.int .i64 n51), (.int .i64 0)])
 else
 some (.val [(.int .i64 0), (.int .i64 1)])
theorem g173_eq (A : Sy) (E : Env) (op_ : Int) (a_ : Int) (b_ : Int) : (funT A Tryz.prog cs 173 [V.d (.int .i64 op_), V.d (.int .i64 a_), V.d (.int .i64 b_)]).run E = g173 A E op_ a_ b_ := by kernel_rfl
def g215 (A : Sy) (E : Env) (b_ : Bool) : Option PRes :=
 bif b_ then
 some (.val [(.int .i64 1)])
 else
 some (.val [(.int .i64 0)])
theorem g215_eq (A : Sy) (E : Env) (b_ : Bool) : (funT A Tryz.prog cs 215 [V.d (.bool b_)]).run E = g215 A E b_ := by kernel_rfl
def g216 (A : Sy) (E : Env) (op_ : Int) (a_ : Int) (b_ : Int) : Option PRes :=
 bif (A.ieq op_ 3) then
 some (.val [(.int .i64 (A.wrap .i64 (A.wrap .u64 (A.add (A.wrap .u64 a_) (A.wrap .u64 b_))))), (.int .i64 0)])
 else
 bif (A.ieq op_ 4) then
 some (.val [(.int .i64 (A.wrap .i64 (A.wrap .u64 (A.sub (A.wrap .u64 a_) (A.wrap .u64 b_))))), (.int .i64 0)])
 else
 bif (A.ieq op_ 5) then
 some (.val [(.int .i64 (A.wrap .i64 (A.wrap .u64 (A.mul (A.wrap .u64 a_) (A.wrap .u64 b_))))), (.int .i64 0)])
 else
 bif (A.ieq b_ 0) then
 some (.val [(.int .i64 0), (.int .i64 15)])
 else
 (E.call 246 [(.d (.int .i64 a_)), (.d (.int .i64 b_))]).bind fun p1 =>
 (opI (A.cell p1.leaves 0) .i64).bind fun n3 =>
 bif (A.ieq op_ 6) then
 some (.val [(.int .i64 n3), (.int .i64 0)])
 else
 some (.val [(.int .i64 (A.wrap .i64 (A.wrap .u64 (A.sub (A.wrap .u64 a_) (A.wrap .u64 (A.mul (A.wrap .u64 b_) (A.wrap .u64 n3))))))), (.int .i64 0)])
theorem g216_eq (A : Sy) (E : Env) (op_ : Int) (a_ : Int) (b_ : Int) : (funT A Tryz.prog cs 216 [V.d (.int .i64 op_), V.d (.int .i64 a_), V.d (.int .i64 b_)]).run E = g216 A E op_ a_ b_ := by kernel_rfl
def g271 (A : Sy) (E : Env) (a_ : Int) : Option PRes :=
 bif (A.ilt a_ 0) then
 some (.val [(.int .u64 (A.wrap .u64 (A.sub 0 (A.wrap .u64 a_))))])
 else
 some (.val [(.int .u64 (A.wrap .u64 a_))])
theorem g271_eq (A : Sy) (E : Env) (a_ : Int) : (funT A Tryz.prog cs 271 [V.d (.int .i64 a_)]).run E = g271 A E a_ := by kernel_rfl
def g246 (A : Sy) (E : Env) (a_ : Int) (b_ : Int) : Option PRes :=
 (E.call 271 [(.d (.int .i64 a_))]).bind fun p1 =>
 (opI (A.cell p1.leaves 0) .u64).bind fun n3 =>
 (E.call 271 [(.d (.int .i64 b_))]).bind fun p4 =>
 (opI (A.cell p4.leaves 0) .u64).bind fun n6 =>
 bif (A.bnot (A.ieq n6 0)) then
 bif (A.bnot (A.beq (A.ilt a_ 0) (A.ilt b_ 0))) then
 some (.val [(.int .i64 (A.wrap .i64 (A.wrap .u64 (A.sub 0 (A.wrap .u64 (A.quo n3 n6))))))])
 else
 some (.val [(.int .i64 (A.wrap .i64 (A.wrap .u64 (A.quo n3 n6))))])
 else
 none
theorem g246_eq (A : Sy) (E : Env) (a_ : Int) (b_ : Int) : (funT A Tryz.prog cs 246 [V.d (.int .i64 a_), V.d (.int .i64 b_)]).run E = g246 A E a_ b_ := by kernel_rfl
def g23 (A : Sy) (E : Env) (s_0 : List (List D)) (s_1 : List (List D)) (s_2 : Int) (s_3 : Int) (cells_ : List (List D)) : Option PRes :=
 (E.call 55 [(.agg [(.d (.sl 1 s_0)), (.d (.sl 1 s_1)), (.d (.int .i64 s_2)), (.d (.int .i64 s_3))])]).bind fun p1 =>
 (opB (A.cell p1.leaves 0)).bind fun b3 =>
 cutO (
 bif (A.bnot b3) then
 some (.inl [(.bool true)])
 else
 some (.inl [(.bool (A.bnot (A.ieq (A.rlen cells_) (A.rlen s_1))))])
 ) fun ds4 =>
 (opB (A.cell ds4 0)).bind fun b5 =>
 bif b5 then
 some (.val [(.bool false)])
 else
 E.lp (fun ds6 =>
 (opL (A.cell ds6 0) 1).bind fun l7 =>
 (opI (A.cell ds6 1) .i64).bind fun n8 =>
 (opL (A.cell ds6 2) 1).bind fun l9 =>
 (opL (A.cell ds6 3) 1).bind fun l10 =>
 (opI (A.cell ds6 4) .i64).bind fun n11 =>
 (opI (A.cell ds6 5) .i64).bind fun n12 =>
 bif (A.ilt n8 (A.rlen l7)) then
 bif (A.inr n8 (A.rlen l10)) then
 (opI (A.cell (A.row l10 n8) 0) .i64).bind fun n13 =>
 bif (A.inr n8 (A.rlen l7)) then
 (opI (A.cell (A.row l7 n8) 0) .i64).bind fun n14 =>
 (E.call 56 [(.agg [(.d (.sl 1 l9)), (.d (.sl 1 l10)), (.d (.int .i64 n11)), (.d (.int .i64 n12))]), (.d (.int .i64 n13)), (.d (.int .i64 n14))]).bind fun p15 =>
 (opB (A.cell p15.leaves 0)).bind fun b17 =>
 bif (A.bnot b17) then
 some (.inr (.val [(.bool false)]))
 else
 some (.inl [(.sl 1 l7), (.int .i64 (A.wrap .i64 (A.add n8 1))), (.sl 1 l9), (.sl 1 l10), (.int .i64 n11), (.int .i64 n12)])
 else
 none
 else
 none
 else
 some (.inr (.val [(.bool true)]))
 ) [(.sl 1 cells_), (.int .i64 0), (.sl 1 s_0), (.sl 1 s_1), (.int .i64 s_2), (.int .i64 s_3)]
theorem g23_eq (A : Sy) (E : Env) (s_0 : List (List D)) (s_1 : List (List D)) (s_2 : Int) (s_3 : Int) (cells_ : List (List D)) : (funT A Tryz.prog cs 23 [V.agg [V.d (.sl 1 s_0), V.d (.sl 1 s_1), V.d (.int .i64 s_2), V.d (.int .i64 s_3)], V.d (.sl 1 cells_)]).run E = g23 A E s_0 s_1 s_2 s_3 cells_ := by kernel_rfl
def g25 (A : Sy) (E : Env) (code_ : List (List D)) (cells_ : List (List D)) (fuel_ : Int) : Option PRes :=
 bif (A.fits [] cells_ 8) then
 E.lp (fun ds1 =>
 (opL (A.cell ds1 0) 4).bind fun l2 =>
 (opL (A.cell ds1 1) 1).bind fun l3 =>
 (opI (A.cell ds1 2) .i64).bind fun n4 =>
 (opI (A.cell ds1 3) .i64).bind fun n5 =>
 (opL (A.cell ds1 4) 1).bind fun l6 =>
 (opL (A.cell ds1 5) 1).bind fun l7 =>
 (opI (A.cell ds1 6) .i64).bind fun n8 =>
 (opI (A.cell ds1 7) .i64).bind fun n9 =>
 bif (A.ieq n9 0) then
 bif (A.ile (A.rlen l2) n8) then
 some (.inr (.val [(.sl 1 l3), (.int .i64 n5), (.int .i64 13)]))
 else
 bif (A.ile n4 n5) then
 some (.inr (.val [(.sl 1 l3), (.int .i64 n5), (.int .i64 17)]))
 else
 bif (A.inr n8 (A.rlen l2)) then
 (opI (A.cell (A.row l2 n8) 0) .i64).bind fun n10 =>
 (opI (A.cell (A.row l2 n8) 1) .i64).bind fun n11 =>
 (opI (A.cell (A.row l2 n8) 2) .i64).bind fun n12 =>
 (opI (A.cell (A.row l2 n8) 3) .i64).bind fun n13 =>
 (E.call 58 [(.agg [(.d (.int .i64 n10)), (.d (.int .i64 n11)), (.d (.int .i64 n12)), (.d (.int .i64 n13))])]).bind fun p14 =>
 (opB (A.cell p14.leaves 0)).bind fun b16 =>
 bif (A.bnot b16) then
 some (.inr (.val [(.sl 1 l3), (.int .i64 (A.wrap .i64 (A.add n5 1))), (.int .i64 13)]))
 else
 bif (A.inr n8 (A.rlen l2)) then
 (opI (A.cell (A.row l2 n8) 0) .i64).bind fun n17 =>
 (opI (A.cell (A.row l2 n8) 1) .i64).bind fun n18 =>
 (opI (A.cell (A.row l2 n8) 2) .i64).bind fun n19 =>
 (opI (A.cell (A.row l2 n8) 3) .i64).bind fun n20 =>
 bif (A.ieq n17 1) then
 bif (A.ile 16 (A.rlen l7)) then
 some (.inl [(.sl 4 l2), (.sl 1 l3), (.int .i64 n4), (.int .i64 (A.wrap .i64 (A.add n5 1))), (.sl 1 l6), (.sl 1 l7), (.int .i64 (A.wrap .i64 (A.add n8 1))), (.int .i64 13)])
 else
 bif (A.fits [] l7 8) then
 bif (A.fits (A.rapp [] l7) [[(.int .i64 n20)]] 8) then
 some (.inl [(.sl 4 l2), (.sl 1 l3), (.int .i64 n4), (.int .i64 (A.wrap .i64 (A.add n5 1))), (.sl 1 l6), (.sl 1 (A.rapp (A.rapp [] l7) [[(.int .i64 n20)]])), (.int .i64 (A.wrap .i64 (A.add n8 1))), (.int .i64 n9)])
 else
 none
 else
 none
 else
 bif (A.ieq n17 2) then
 bif (A.ilt (A.rlen l6) (A.wrap .i64 (A.add n18 1))) then
 some (.inl [(.sl 4 l2), (.sl 1 l3), (.int .i64 n4), (.int .i64 (A.wrap .i64 (A.add n5 1))), (.sl 1 l6), (.sl 1 l7), (.int .i64 (A.wrap .i64 (A.add n8 1))), (.int .i64 13)])
 else
 bif (A.inr n18 (A.rlen l6)) then
 (opI (A.cell (A.rown l6 (A.nat n18)) 0) .i64).bind fun n21 =>
 bif (A.ile 16 (A.rlen l7)) then
 some (.inl [(.sl 4 l2), (.sl 1 l3), (.int .i64 n4), (.int .i64 (A.wrap .i64 (A.add n5 1))), (.sl 1 l6), (.sl 1 l7), (.int .i64 (A.wrap .i64 (A.add n8 1))), (.int .i64 13)])
 else
 bif (A.fits [] l7 8) then
 bif (A.fits (A.rapp [] l7) [[(.int .i64 n21)]] 8) then
 some (.inl [(.sl 4 l2), (.sl 1 l3), (.int .i64 n4), (.int .i64 (A.wrap .i64 (A.add n5 1))), (.sl 1 l6), (.sl 1 (A.rapp (A.rapp [] l7) [[(.int .i64 n21)]])), (.int .i64 (A.wrap .i64 (A.add n8 1))), (.int .i64 n9)])
 else
 none
 else
 none
 else
 none
 else
 bif (A.ieq n17 3) then
 cutO (
 bif (A.ieq (A.rlen l7) 0) then
 some (.inl [(.int .i64 0), (.bool false), (.sl 1 l6), (.sl 1 l7), (.int .i64 (A.wrap .i64 (A.add n8 1))), (.int .i64 13), (.int .i64 n17), (.int .i64 n18), (.int .i64 n19), (.int .i64 n20)])
 else
 bif (A.inr (A.wrap .i64 (A.sub (A.rlen l7) 1)) (A.rlen l7)) then
 (opI (A.cell (A.row l7 (A.wrap .i64 (A.sub (A.rlen l7) 1))) 0) .i64).bind fun n22 =>
 bif (A.cutok 0 (A.wrap .i64 (A.sub (A.rlen l7) 1)) (A.rlen l7)) then
 some (.inl [(.int .i64 n22), (.bool true), (.sl 1 l6), (.sl 1 (A.cut l7 0 (A.wrap .i64 (A.sub (A.rlen l7) 1)))), (.int .i64 (A.wrap .i64 (A.add n8 1))), (.int .i64 n9), (.int .i64 n17), (.int .i64 n18), (.int .i64 n19), (.int .i64 n20)])
 else
 none
 else
 none
 ) fun ds23 =>
 (opI (A.cell ds23 0) .i64).bind fun n24 =>
 (opB (A.cell ds23 1)).bind fun b25 =>
 (opL (A.cell ds23 2) 1).bind fun l26 =>
 (opL (A.cell ds23 3) 1).bind fun l27 =>
 (opI (A.cell ds23 4) .i64).bind fun n28 =>
 (opI (A.cell ds23 5) .i64).bind fun n29 =>
 (opI (A.cell ds23 6) .i64).bind fun n30 =>
 (opI (A.cell ds23 7) .i64).bind fun n31 =>
 (opI (A.cell ds23 8) .i64).bind fun n32 =>
 (opI (A.cell ds23 9) .i64).bind fun n33 =>
 bif b25 then
 bif (A.ilt (A.rlen l26) (A.wrap .i64 (A.add n31 1))) then
 some (.inl [(.sl 4 l2), (.sl 1 l3), (.int .i64 n4), (.int .i64 (A.wrap .i64 (A.add n5 1))), (.sl 1 l26), (.sl 1 l27), (.int .i64 n28), (.int .i64 13)])
 else
 bif (A.inr n31 (A.rlen l26)) then
 bif (A.inrn (A.nat n31) l26) then
 some (.inl [(.sl 4 l2), (.sl 1 l3), (.int .i64 n4), (.int .i64 (A.wrap .i64 (A.add n5 1))), (.sl 1 (A.rput l26 (A.nat n31) 0 [(.int .i64 n24)])), (.sl 1 l27), (.int .i64 n28), (.int .i64 n29)])
 else
 none
 else
 none
 else
 some (.inl [(.sl 4 l2), (.sl 1 l3), (.int .i64 n4), (.int .i64 (A.wrap .i64 (A.add n5 1))), (.sl 1 l26), (.sl 1 l27), (.int .i64 n28), (.int .i64 n29)])
 else
 bif (A.ieq n17 4) then
 cutO (
 bif (A.ieq (A.rlen l7) 0) then
 some (.inl [(.int .i64 0), (.bool false), (.sl 1 l6), (.sl 1 l7), (.int .i64 (A.wrap .i64 (A.add n8 1))), (.int .i64 13), (.int .i64 n17), (.int .i64 n18), (.int .i64 n19), (.int .i64 n20), (.int .i64 n17), (.int .i64 n18), (.int .i64 n19), (.int .i64 n20)])
 else
 bif (A.inr (A.wrap .i64 (A.sub (A.rlen l7) 1)) (A.rlen l7)) then
 (opI (A.cell (A.row l7 (A.wrap .i64 (A.sub (A.rlen l7) 1))) 0) .i64).bind fun n34 =>
 bif (A.cutok 0 (A.wrap .i64 (A.sub (A.rlen l7) 1)) (A.rlen l7)) then
 some (.inl [(.int .i64 n34), (.bool true), (.sl 1 l6), (.sl 1 (A.cut l7 0 (A.wrap .i64 (A.sub (A.rlen l7) 1)))), (.int .i64 (A.wrap .i64 (A.add n8 1))), (.int .i64 n9), (.int .i64 n17), (.int .i64 n18), (.int .i64 n19), (.int .i64 n20), (.int .i64 n17), (.int .i64 n18), (.int .i64 n19), (.int .i64 n20)])
 else
 none
 else
 none
 ) fun ds35 =>
 (opI (A.cell ds35 0) .i64).bind fun n36 =>
 (opB (A.cell ds35 1)).bind fun b37 =>
 (opL (A.cell ds35 2) 1).bind fun l38 =>
 (opL (A.cell ds35 3) 1).bind fun l39 =>
 (opI (A.cell ds35 4) .i64).bind fun n40 =>
 (opI (A.cell ds35 5) .i64).bind fun n41 =>
 (opI (A.cell ds35 6) .i64).bind fun n42 =>
 (opI (A.cell ds35 7) .i64).bind fun n43 =>
 (opI (A.cell ds35 8) .i64).bind fun n44 =>
 (opI (A.cell ds35 9) .i64).bind fun n45 =>
 (opI (A.cell ds35 10) .i64).bind fun n46 =>
 (opI (A.cell ds35 11) .i64).bind fun n47 =>
 (opI (A.cell ds35 12) .i64).bind fun n48 =>
 (opI (A.cell ds35 13) .i64).bind fun n49 =>
 bif (A.bnot b37) then
 some (.inl [(.sl 4 l2), (.sl 1 l3), (.int .i64 n4), (.int .i64 (A.wrap .i64 (A.add n5 1))), (.sl 1 l38), (.sl 1 l39), (.int .i64 n40), (.int .i64 n41)])
 else
 cutO (
 bif (A.ieq n46 4) then
 (E.call 172 [(.d (.int .i64 n47)), (.d (.int .i64 n36))]).bind fun p50 =>
 (opI (A.cell p50.leaves 0) .i64).bind fun n52 =>
 (opI (A.cell p50.leaves 1) .i64).bind fun n53 =>
 some (.inl [(.int .i64 n52), (.int .i64 n53), (.sl 1 l38), (.sl 1 l39), (.int .i64 n40), (.int .i64 n41), (.int .i64 n42), (.int .i64 n43), (.int .i64 n44), (.int .i64 n45)])
 else
 cutO (
 bif (A.ieq (A.rlen l39) 0) then
 some (.inl [(.int .i64 n36), (.int .i64 0), (.bool false), (.sl 1 l38), (.sl 1 l39), (.int .i64 n40), (.int .i64 13), (.int .i64 n42), (.int .i64 n43), (.int .i64 n44), (.int .i64 n45), (.int .i64 n46), (.int .i64 n47), (.int .i64 n48), (.int .i64 n49)])
 else
 bif (A.inr (A.wrap .i64 (A.sub (A.rlen l39) 1)) (A.rlen l39)) then
 (opI (A.cell (A.row l39 (A.wrap .i64 (A.sub (A.rlen l39) 1))) 0) .i64).bind fun n54 =>
 bif (A.cutok 0 (A.wrap .i64 (A.sub (A.rlen l39) 1)) (A.rlen l39)) then
 some (.inl [(.int .i64 n36), (.int .i64 n54), (.bool true), (.sl 1 l38), (.sl 1 (A.cut l39 0 (A.wrap .i64 (A.sub (A.rlen l39) 1)))), (.int .i64 n40), (.int .i64 n41), (.int .i64 n42), (.int .i64 n43), (.int .i64 n44), (.int .i64 n45), (.int .i64 n46), (.int .i64 n47), (.int .i64 n48), (.int .i64 n49)])
 else
 none
 else
 none
 ) fun ds55 =>
 (opI (A.cell ds55 0) .i64).bind fun n56 =>
 (opI (A.cell ds55 1) .i64).bind fun n57 =>
 (opB (A.cell ds55 2)).bind fun b58 =>
 (opL (A.cell ds55 3) 1).bind fun l59 =>
 (opL (A.cell ds55 4) 1).bind fun l60 =>
 (opI (A.cell ds55 5) .i64).bind fun n61 =>
 (opI (A.cell ds55 6) .i64).bind fun n62 =>
 (opI (A.cell ds55 7) .i64).bind fun n63 =>
 (opI (A.cell ds55 8) .i64).bind fun n64 =>
 (opI (A.cell ds55 9) .i64).bind fun n65 =>
 (opI (A.cell ds55 10) .i64).bind fun n66 =>
 (opI (A.cell ds55 11) .i64).bind fun n67 =>
 (opI (A.cell ds55 12) .i64).bind fun n68 =>
 (opI (A.cell ds55 13) .i64).bind fun n69 =>
 (opI (A.cell ds55 14) .i64).bind fun n70 =>
 bif (A.bnot b58) then
 some (.inr (.inl [(.sl 4 l2), (.sl 1 l3), (.int .i64 n4), (.int .i64 (A.wrap .i64 (A.add n5 1))), (.sl 1 l59), (.sl 1 l60), (.int .i64 n61), (.int .i64 n62)]))
 else
 (E.call 173 [(.d (.int .i64 n68)), (.d (.int .i64 n57)), (.d (.int .i64 n56))]).bind fun p71 =>
 (opI (A.cell p71.leaves 0) .i64).bind fun n73 =>
 (opI (A.cell p71.leaves 1) .i64).bind fun n74 =>
 some (.inl [(.int .i64 n73), (.int .i64 n74), (.sl 1 l59), (.sl 1 l60), (.int .i64 n61), (.int .i64 n62), (.int .i64 n63), (.int .i64 n64), (.int .i64 n65), (.int .i64 n66)])
 ) fun ds75 =>
 (opI (A.cell ds75 0) .i64).bind fun n76 =>
 (opI (A.cell ds75 1) .i64).bind fun n77 =>
 (opL (A.cell ds75 2) 1).bind fun l78 =>
 (opL (A.cell ds75 3) 1).bind fun l79 =>
 (opI (A.cell ds75 4) .i64).bind fun n80 =>
 (opI (A.cell ds75 5) .i64).bind fun n81 =>
 (opI (A.cell ds75 6) .i64).bind fun n82 =>
 (opI (A.cell ds75 7) .i64).bind fun n83 =>
 (opI (A.cell ds75 8) .i64).bind fun n84 =>
 (opI (A.cell ds75 9) .i64).bind fun n85 =>
 bif (A.bnot (A.ieq n77 0)) then
 some (.inl [(.sl 4 l2), (.sl 1 l3), (.int .i64 n4), (.int .i64 (A.wrap .i64 (A.add n5 1))), (.sl 1 l78), (.sl 1 l79), (.int .i64 n80), (.int .i64 n77)])
 else
 bif (A.ile 16 (A.rlen l79)) then
 some (.inl [(.sl 4 l2), (.sl 1 l3), (.int .i64 n4), (.int .i64 (A.wrap .i64 (A.add n5 1))), (.sl 1 l78), (.sl 1 l79), (.int .i64 n80), (.int .i64 13)])
 else
 bif (A.fits [] l79 8) then
 bif (A.fits (A.rapp [] l79) [[(.int .i64 n76)]] 8) then
 some (.inl [(.sl 4 l2), (.sl 1 l3), (.int .i64 n4), (.int .i64 (A.wrap .i64 (A.add n5 1))), (.sl 1 l78), (.sl 1 (A.rapp (A.rapp [] l79) [[(.int .i64 n76)]])), (.int .i64 n80), (.int .i64 n81)])
 else
 none
 else
 none
 else
 bif (A.ieq n17 5) then
 cutO (
 bif (A.ieq (A.rlen l7) 0) then
 some (.inl [(.int .i64 0), (.bool false), (.sl 1 l6), (.sl 1 l7), (.int .i64 (A.wrap .i64 (A.add n8 1))), (.int .i64 13), (.int .i64 n17), (.int .i64 n18), (.int .i64 n19), (.int .i64 n20), (.int .i64 n17), (.int .i64 n18), (.int .i64 n19), (.int .i64 n20)])
 else
 bif (A.inr (A.wrap .i64 (A.sub (A.rlen l7) 1)) (A.rlen l7)) then
 (opI (A.cell (A.row l7 (A.wrap .i64 (A.sub (A.rlen l7) 1))) 0) .i64).bind fun n86 =>
 bif (A.cutok 0 (A.wrap .i64 (A.sub (A.rlen l7) 1)) (A.rlen l7)) then
 some (.inl [(.int .i64 n86), (.bool true), (.sl 1 l6), (.sl 1 (A.cut l7 0 (A.wrap .i64 (A.sub (A.rlen l7) 1)))), (.int .i64 (A.wrap .i64 (A.add n8 1))), (.int .i64 n9), (.int .i64 n17), (.int .i64 n18), (.int .i64 n19), (.int .i64 n20), (.int .i64 n17), (.int .i64 n18), (.int .i64 n19), (.int .i64 n20)])
 else
 none
 else
 none
 ) fun ds87 =>
 (opI (A.cell ds87 0) .i64).bind fun n88 =>
 (opB (A.cell ds87 1)).bind fun b89 =>
 (opL (A.cell ds87 2) 1).bind fun l90 =>
 (opL (A.cell ds87 3) 1).bind fun l91 =>
 (opI (A.cell ds87 4) .i64).bind fun n92 =>
 (opI (A.cell ds87 5) .i64).bind fun n93 =>
 (opI (A.cell ds87 6) .i64).bind fun n94 =>
 (opI (A.cell ds87 7) .i64).bind fun n95 =>
 (opI (A.cell ds87 8) .i64).bind fun n96 =>
 (opI (A.cell ds87 9) .i64).bind fun n97 =>
 (opI (A.cell ds87 10) .i64).bind fun n98 =>
 (opI (A.cell ds87 11) .i64).bind fun n99 =>
 (opI (A.cell ds87 12) .i64).bind fun n100 =>
 (opI (A.cell ds87 13) .i64).bind fun n101 =>
 bif (A.bnot b89) then
 some (.inl [(.sl 4 l2), (.sl 1 l3), (.int .i64 n4), (.int .i64 (A.wrap .i64 (A.add n5 1))), (.sl 1 l90), (.sl 1 l91), (.int .i64 n92), (.int .i64 n93)])
 else
 cutO (
 bif (A.ieq n98 4) then
 (E.call 172 [(.d (.int .i64 n99)), (.d (.int .i64 n88))]).bind fun p102 =>
 (opI (A.cell p102.leaves 0) .i64).bind fun n104 =>
 (opI (A.cell p102.leaves 1) .i64).bind fun n105 =>
 some (.inl [(.int .i64 n104), (.int .i64 n105), (.sl 1 l90), (.sl 1 l91), (.int .i64 n92), (.int .i64 n93), (.int .i64 n94), (.int .i64 n95), (.int .i64 n96), (.int .i64 n97)])
 else
 cutO (
 bif (A.ieq (A.rlen l91) 0) then
 some (.inl [(.int .i64 n88), (.int .i64 0), (.bool false), (.sl 1 l90), (.sl 1 l91), (.int .i64 n92), (.int .i64 13), (.int .i64 n94), (.int .i64 n95), (.int .i64 n96), (.int .i64 n97), (.int .i64 n98), (.int .i64 n99), (.int .i64 n100), (.int .i64 n101)])
 else
 bif (A.inr (A.wrap .i64 (A.sub (A.rlen l91) 1)) (A.rlen l91)) then
 (opI (A.cell (A.row l91 (A.wrap .i64 (A.sub (A.rlen l91) 1))) 0) .i64).bind fun n106 =>
 bif (A.cutok 0 (A.wrap .i64 (A.sub (A.rlen l91) 1)) (A.rlen l91)) then
 some (.inl [(.int .i64 n88), (.int .i64 n106), (.bool true), (.sl 1 l90), (.sl 1 (A.cut l91 0 (A.wrap .i64 (A.sub (A.rlen l91) 1)))), (.int .i64 n92), (.int .i64 n93), (.int .i64 n94), (.int .i64 n95), (.int .i64 n96), (.int .i64 n97), (.int .i64 n98), (.int .i64 n99), (.int .i64 n100), (.int .i64 n101)])
 else
 none
 else
 none
 ) fun ds107 =>
 (opI (A.cell ds107 0) .i64).bind fun n108 =>
 (opI (A.cell ds107 1) .i64).bind fun n109 =>
 (opB (A.cell ds107 2)).bind fun b110 =>
 (opL (A.cell ds107 3) 1).bind fun l111 =>
 (opL (A.cell ds107 4) 1).bind fun l112 =>
 (opI (A.cell ds107 5) .i64).bind fun n113 =>
 (opI (A.cell ds107 6) .i64).bind fun n114 =>
 (opI (A.cell ds107 7) .i64).bind fun n115 =>
 (opI (A.cell ds107 8) .i64).bind fun n116 =>
 (opI (A.cell ds107 9) .i64).bind fun n117 =>
 (opI (A.cell ds107 10) .i64).bind fun n118 =>
 (opI (A.cell ds107 11) .i64).bind fun n119 =>
 (opI (A.cell ds107 12) .i64).bind fun n120 =>
 (opI (A.cell ds107 13) .i64).bind fun n121 =>
 (opI (A.cell ds107 14) .i64).bind fun n122 =>
 bif (A.bnot b110) then
 some (.inr (.inl [(.sl 4 l2), (.sl 1 l3), (.int .i64 n4), (.int .i64 (A.wrap .i64 (A.add n5 1))), (.sl 1 l111), (.sl 1 l112), (.int .i64 n113), (.int .i64 n114)]))
 else
 (E.call 173 [(.d (.int .i64 n120)), (.d (.int .i64 n109)), (.d (.int .i64 n108))]).bind fun p123 =>
 (opI (A.cell p123.leaves 0) .i64).bind fun n125 =>
 (opI (A.cell p123.leaves 1) .i64).bind fun n126 =>
 some (.inl [(.int .i64 n125), (.int .i64 n126), (.sl 1 l111), (.sl 1 l112), (.int .i64 n113), (.int .i64 n114), (.int .i64 n115), (.int .i64 n116), (.int .i64 n117), (.int .i64 n118)])
 ) fun ds127 =>
 (opI (A.cell ds127 0) .i64).bind fun n128 =>
 (opI (A.cell ds127 1) .i64).bind fun n129 =>
 (opL (A.cell ds127 2) 1).bind fun l130 =>
 (opL (A.cell ds127 3) 1).bind fun l131 =>
 (opI (A.cell ds127 4) .i64).bind fun n132 =>
 (opI (A.cell ds127 5) .i64).bind fun n133 =>
 (opI (A.cell ds127 6) .i64).bind fun n134 =>
 (opI (A.cell ds127 7) .i64).bind fun n135 =>
 (opI (A.cell ds127 8) .i64).bind fun n136 =>
 (opI (A.cell ds127 9) .i64).bind fun n137 =>
 bif (A.bnot (A.ieq n129 0)) then
 some (.inl [(.sl 4 l2), (.sl 1 l3), (.int .i64 n4), (.int .i64 (A.wrap .i64 (A.add n5 1))), (.sl 1 l130), (.sl 1 l131), (.int .i64 n132), (.int .i64 n129)])
 else
 bif (A.ile 16 (A.rlen l131)) then
 some (.inl [(.sl 4 l2), (.sl 1 l3), (.int .i64 n4), (.int .i64 (A.wrap .i64 (A.add n5 1))), (.sl 1 l130), (.sl 1 l131), (.int .i64 n132), (.int .i64 13)])
 else
 bif (A.fits [] l131 8) then
 bif (A.fits (A.rapp [] l131) [[(.int .i64 n128)]] 8) then
 some (.inl [(.sl 4 l2), (.sl 1 l3), (.int .i64 n4), (.int .i64 (A.wrap .i64 (A.add n5 1))), (.sl 1 l130), (.sl 1 (A.rapp (A.rapp [] l131) [[(.int .i64 n128)]])), (.int .i64 n132), (.int .i64 n133)])
 else
 none
 else
 none
 else
 bif (A.ieq n17 6) then
 some (.inl [(.sl 4 l2), (.sl 1 l3), (.int .i64 n4), (.int .i64 (A.wrap .i64 (A.add n5 1))), (.sl 1 l6), (.sl 1 l7), (.int .i64 n18), (.int .i64 n9)])
 else
 bif (A.ieq n17 7) then
 cutO (
 bif (A.ieq (A.rlen l7) 0) then
 some (.inl [(.int .i64 0), (.bool false), (.sl 1 l6), (.sl 1 l7), (.int .i64 (A.wrap .i64 (A.add n8 1))), (.int .i64 13), (.int .i64 n17), (.int .i64 n18), (.int .i64 n19), (.int .i64 n20)])
 else
 bif (A.inr (A.wrap .i64 (A.sub (A.rlen l7) 1)) (A.rlen l7)) then
 (opI (A.cell (A.row l7 (A.wrap .i64 (A.sub (A.rlen l7) 1))) 0) .i64).bind fun n138 =>
 bif (A.cutok 0 (A.wrap .i64 (A.sub (A.rlen l7) 1)) (A.rlen l7)) then
 some (.inl [(.int .i64 n138), (.bool true), (.sl 1 l6), (.sl 1 (A.cut l7 0 (A.wrap .i64 (A.sub (A.rlen l7) 1)))), (.int .i64 (A.wrap .i64 (A.add n8 1))), (.int .i64 n9), (.int .i64 n17), (.int .i64 n18), (.int .i64 n19), (.int .i64 n20)])
 else
 none
 else
 none
 ) fun ds139 =>
 (opI (A.cell ds139 0) .i64).bind fun n140 =>
 (opB (A.cell ds139 1)).bind fun b141 =>
 (opL (A.cell ds139 2) 1).bind fun l142 =>
 (opL (A.cell ds139 3) 1).bind fun l143 =>
 (opI (A.cell ds139 4) .i64).bind fun n144 =>
 (opI (A.cell ds139 5) .i64).bind fun n145 =>
 (opI (A.cell ds139 6) .i64).bind fun n146 =>
 (opI (A.cell ds139 7) .i64).bind fun n147 =>
 (opI (A.cell ds139 8) .i64).bind fun n148 =>
 (opI (A.cell ds139 9) .i64).bind fun n149 =>
 cutO (
 bif b141 then
 some (.inl [(.bool (A.ieq n140 0))])
 else
 some (.inl [(.bool false)])
 ) fun ds150 =>
 (opB (A.cell ds150 0)).bind fun b151 =>
 bif b151 then
 some (.inl [(.sl 4 l2), (.sl 1 l3), (.int .i64 n4), (.int .i64 (A.wrap .i64 (A.add n5 1))), (.sl 1 l142), (.sl 1 l143), (.int .i64 n147), (.int .i64 n145)])
 else
 some (.inl [(.sl 4 l2), (.sl 1 l3), (.int .i64 n4), (.int .i64 (A.wrap .i64 (A.add n5 1))), (.sl 1 l142), (.sl 1 l143), (.int .i64 n144), (.int .i64 n145)])
 else
 bif (A.ieq n17 8) then
 cutO (
 bif (A.ieq (A.rlen l7) 0) then
 some (.inl [(.int .i64 0), (.bool false), (.sl 1 l6), (.sl 1 l7), (.int .i64 (A.wrap .i64 (A.add n8 1))), (.int .i64 13), (.int .i64 n17), (.int .i64 n18), (.int .i64 n19), (.int .i64 n20), (.int .i64 n17), (.int .i64 n18), (.int .i64 n19), (.int .i64 n20)])
 else
 bif (A.inr (A.wrap .i64 (A.sub (A.rlen l7) 1)) (A.rlen l7)) then
 (opI (A.cell (A.row l7 (A.wrap .i64 (A.sub (A.rlen l7) 1))) 0) .i64).bind fun n152 =>
 bif (A.cutok 0 (A.wrap .i64 (A.sub (A.rlen l7) 1)) (A.rlen l7)) then
 some (.inl [(.int .i64 n152), (.bool true), (.sl 1 l6), (.sl 1 (A.cut l7 0 (A.wrap .i64 (A.sub (A.rlen l7) 1)))), (.int .i64 (A.wrap .i64 (A.add n8 1))), (.int .i64 n9), (.int .i64 n17), (.int .i64 n18), (.int .i64 n19), (.int .i64 n20), (.int .i64 n17), (.int .i64 n18), (.int .i64 n19), (.int .i64 n20)])
 else
 none
 else
 none
 ) fun ds153 =>
 (opI (A.cell ds153 0) .i64).bind fun n154 =>
 (opB (A.cell ds153 1)).bind fun b155 =>
 (opL (A.cell ds153 2) 1).bind fun l156 =>
 (opL (A.cell ds153 3) 1).bind fun l157 =>
 (opI (A.cell ds153 4) .i64).bind fun n158 =>
 (opI (A.cell ds153 5) .i64).bind fun n159 =>
 (opI (A.cell ds153 6) .i64).bind fun n160 =>
 (opI (A.cell ds153 7) .i64).bind fun n161 =>
 (opI (A.cell ds153 8) .i64).bind fun n162 =>
 (opI (A.cell ds153 9) .i64).bind fun n163 =>
 (opI (A.cell ds153 10) .i64).bind fun n164 =>
 (opI (A.cell ds153 11) .i64).bind fun n165 =>
 (opI (A.cell ds153 12) .i64).bind fun n166 =>
 (opI (A.cell ds153 13) .i64).bind fun n167 =>
 bif (A.bnot b155) then
 some (.inl [(.sl 4 l2), (.sl 1 l3), (.int .i64 n4), (.int .i64 (A.wrap .i64 (A.add n5 1))), (.sl 1 l156), (.sl 1 l157), (.int .i64 n158), (.int .i64 n159)])
 else
 cutO (
 bif (A.ieq n164 9) then
 cutO (
 bif (A.ieq (A.rlen l157) 0) then
 some (.inl [(.int .i64 n154), (.bool false), (.int .i64 0), (.sl 1 l156), (.sl 1 l157), (.int .i64 n158), (.int .i64 13), (.int .i64 n160), (.int .i64 n161), (.int .i64 n162), (.int .i64 n163), (.int .i64 n164), (.int .i64 n165), (.int .i64 n166), (.int .i64 n167)])
 else
 bif (A.inr (A.wrap .i64 (A.sub (A.rlen l157) 1)) (A.rlen l157)) then
 (opI (A.cell (A.row l157 (A.wrap .i64 (A.sub (A.rlen l157) 1))) 0) .i64).bind fun n168 =>
 bif (A.cutok 0 (A.wrap .i64 (A.sub (A.rlen l157) 1)) (A.rlen l157)) then
 some (.inl [(.int .i64 n154), (.bool true), (.int .i64 n168), (.sl 1 l156), (.sl 1 (A.cut l157 0 (A.wrap .i64 (A.sub (A.rlen l157) 1)))), (.int .i64 n158), (.int .i64 n159), (.int .i64 n160), (.int .i64 n161), (.int .i64 n162), (.int .i64 n163), (.int .i64 n164), (.int .i64 n165), (.int .i64 n166), (.int .i64 n167)])
 else
 none
 else
 none
 ) fun ds169 =>
 (opI (A.cell ds169 0) .i64).bind fun n170 =>
 (opB (A.cell ds169 1)).bind fun b171 =>
 (opI (A.cell ds169 2) .i64).bind fun n172 =>
 (opL (A.cell ds169 3) 1).bind fun l173 =>
 (opL (A.cell ds169 4) 1).bind fun l174 =>
 (opI (A.cell ds169 5) .i64).bind fun n175 =>
 (opI (A.cell ds169 6) .i64).bind fun n176 =>
 (opI (A.cell ds169 7) .i64).bind fun n177 =>
 (opI (A.cell ds169 8) .i64).bind fun n178 =>
 (opI (A.cell ds169 9) .i64).bind fun n179 =>
 (opI (A.cell ds169 10) .i64).bind fun n180 =>
 (opI (A.cell ds169 11) .i64).bind fun n181 =>
 (opI (A.cell ds169 12) .i64).bind fun n182 =>
 (opI (A.cell ds169 13) .i64).bind fun n183 =>
 (opI (A.cell ds169 14) .i64).bind fun n184 =>
 bif (A.bnot b171) then
 some (.inr (.inl [(.sl 4 l2), (.sl 1 l3), (.int .i64 n4), (.int .i64 (A.wrap .i64 (A.add n5 1))), (.sl 1 l173), (.sl 1 l174), (.int .i64 n175), (.int .i64 n176)]))
 else
 some (.inl [(.int .i64 n170), (.int .i64 n172), (.sl 1 l173), (.sl 1 l174), (.int .i64 n175), (.int .i64 n176), (.int .i64 n177), (.int .i64 n178), (.int .i64 n179), (.int .i64 n180), (.int .i64 n181), (.int .i64 n182), (.int .i64 n183), (.int .i64 n184)])
 else
 some (.inl [(.int .i64 n154), (.int .i64 0), (.sl 1 l156), (.sl 1 l157), (.int .i64 n158), (.int .i64 n159), (.int .i64 n160), (.int .i64 n161), (.int .i64 n162), (.int .i64 n163), (.int .i64 n164), (.int .i64 n165), (.int .i64 n166), (.int .i64 n167)])
 ) fun ds185 =>
 (opI (A.cell ds185 0) .i64).bind fun n186 =>
 (opI (A.cell ds185 1) .i64).bind fun n187 =>
 (opL (A.cell ds185 2) 1).bind fun l188 =>
 (opL (A.cell ds185 3) 1).bind fun l189 =>
 (opI (A.cell ds185 4) .i64).bind fun n190 =>
 (opI (A.cell ds185 5) .i64).bind fun n191 =>
 (opI (A.cell ds185 6) .i64).bind fun n192 =>
 (opI (A.cell ds185 7) .i64).bind fun n193 =>
 (opI (A.cell ds185 8) .i64).bind fun n194 =>
 (opI (A.cell ds185 9) .i64).bind fun n195 =>
 (opI (A.cell ds185 10) .i64).bind fun n196 =>
 (opI (A.cell ds185 11) .i64).bind fun n197 =>
 (opI (A.cell ds185 12) .i64).bind fun n198 =>
 (opI (A.cell ds185 13) .i64).bind fun n199 =>
 bif (A.ilt (A.rlen l188) (A.wrap .i64 (A.add n197 n198))) then
 bif (A.bnot false) then
 some (.inl [(.sl 4 l2), (.sl 1 l3), (.int .i64 n4), (.int .i64 (A.wrap .i64 (A.add n5 1))), (.sl 1 l188), (.sl 1 l189), (.int .i64 n190), (.int .i64 13)])
 else
 cutO (
 bif (A.ilt n186 0) then
 some (.inl [(.bool true)])
 else
 some (.inl [(.bool (A.ile n198 n186))])
 ) fun ds200 =>
 (opB (A.cell ds200 0)).bind fun b201 =>
 bif b201 then
 some (.inl [(.sl 4 l2), (.sl 1 l3), (.int .i64 n4), (.int .i64 (A.wrap .i64 (A.add n5 1))), (.sl 1 l188), (.sl 1 l189), (.int .i64 n190), (.int .i64 16)])
 else
 bif (A.ieq n196 9) then
 bif (A.inr (A.wrap .i64 (A.add n197 n186)) (A.rlen l188)) then
 bif (A.inrn (A.nat (A.wrap .i64 (A.add n197 n186))) l188) then
 some (.inl [(.sl 4 l2), (.sl 1 l3), (.int .i64 n4), (.int .i64 (A.wrap .i64 (A.add n5 1))), (.sl 1 (A.rput l188 (A.nat (A.wrap .i64 (A.add n197 n186))) 0 [(.int .i64 n187)])), (.sl 1 l189), (.int .i64 n190), (.int .i64 13)])
 else
 none
 else
 none
 else
 bif (A.inr (A.wrap .i64 (A.add n197 n186)) (A.rlen l188)) then
 (opI (A.cell (A.rown l188 (A.nat (A.wrap .i64 (A.add n197 n186)))) 0) .i64).bind fun n202 =>
 bif (A.ile 16 (A.rlen l189)) then
 some (.inl [(.sl 4 l2), (.sl 1 l3), (.int .i64 n4), (.int .i64 (A.wrap .i64 (A.add n5 1))), (.sl 1 l188), (.sl 1 l189), (.int .i64 n190), (.int .i64 13)])
 else
 bif (A.fits [] l189 8) then
 bif (A.fits (A.rapp [] l189) [[(.int .i64 n202)]] 8) then
 some (.inl [(.sl 4 l2), (.sl 1 l3), (.int .i64 n4), (.int .i64 (A.wrap .i64 (A.add n5 1))), (.sl 1 l188), (.sl 1 (A.rapp (A.rapp [] l189) [[(.int .i64 n202)]])), (.int .i64 n190), (.int .i64 13)])
 else
 none
 else
 none
 else
 none
 else
 bif (A.bnot true) then
 some (.inl [(.sl 4 l2), (.sl 1 l3), (.int .i64 n4), (.int .i64 (A.wrap .i64 (A.add n5 1))), (.sl 1 l188), (.sl 1 l189), (.int .i64 n190), (.int .i64 n191)])
 else
 cutO (
 bif (A.ilt n186 0) then
 some (.inl [(.bool true)])
 else
 some (.inl [(.bool (A.ile n198 n186))])
 ) fun ds203 =>
 (opB (A.cell ds203 0)).bind fun b204 =>
 bif b204 then
 some (.inl [(.sl 4 l2), (.sl 1 l3), (.int .i64 n4), (.int .i64 (A.wrap .i64 (A.add n5 1))), (.sl 1 l188), (.sl 1 l189), (.int .i64 n190), (.int .i64 16)])
 else
 bif (A.ieq n196 9) then
 bif (A.inr (A.wrap .i64 (A.add n197 n186)) (A.rlen l188)) then
 bif (A.inrn (A.nat (A.wrap .i64 (A.add n197 n186))) l188) then
 some (.inl [(.sl 4 l2), (.sl 1 l3), (.int .i64 n4), (.int .i64 (A.wrap .i64 (A.add n5 1))), (.sl 1 (A.rput l188 (A.nat (A.wrap .i64 (A.add n197 n186))) 0 [(.int .i64 n187)])), (.sl 1 l189), (.int .i64 n190), (.int .i64 n191)])
 else
 none
 else
 none
 else
 bif (A.inr (A.wrap .i64 (A.add n197 n186)) (A.rlen l188)) then
 (opI (A.cell (A.rown l188 (A.nat (A.wrap .i64 (A.add n197 n186)))) 0) .i64).bind fun n205 =>
 bif (A.ile 16 (A.rlen l189)) then
 some (.inl [(.sl 4 l2), (.sl 1 l3), (.int .i64 n4), (.int .i64 (A.wrap .i64 (A.add n5 1))), (.sl 1 l188), (.sl 1 l189), (.int .i64 n190), (.int .i64 13)])
 else
 bif (A.fits [] l189 8) then
 bif (A.fits (A.rapp [] l189) [[(.int .i64 n205)]] 8) then
 some (.inl [(.sl 4 l2), (.sl 1 l3), (.int .i64 n4), (.int .i64 (A.wrap .i64 (A.add n5 1))), (.sl 1 l188), (.sl 1 (A.rapp (A.rapp [] l189) [[(.int .i64 n205)]])), (.int .i64 n190), (.int .i64 n191)])
 else
 none
 else
 none
 else
 none
 else
 bif (A.ieq n17 9) then
 cutO (
 bif (A.ieq (A.rlen l7) 0) then
 some (.inl [(.int .i64 0), (.bool false), (.sl 1 l6), (.sl 1 l7), (.int .i64 (A.wrap .i64 (A.add n8 1))), (.int .i64 13), (.int .i64 n17), (.int .i64 n18), (.int .i64 n19), (.int .i64 n20), (.int .i64 n17), (.int .i64 n18), (.int .i64 n19), (.int .i64 n20)])
 else
 bif (A.inr (A.wrap .i64 (A.sub (A.rlen l7) 1)) (A.rlen l7)) then
 (opI (A.cell (A.row l7 (A.wrap .i64 (A.sub (A.rlen l7) 1))) 0) .i64).bind fun n206 =>
 bif (A.cutok 0 (A.wrap .i64 (A.sub (A.rlen l7) 1)) (A.rlen l7)) then
 some (.inl [(.int .i64 n206), (.bool true), (.sl 1 l6), (.sl 1 (A.cut l7 0 (A.wrap .i64 (A.sub (A.rlen l7) 1)))), (.int .i64 (A.wrap .i64 (A.add n8 1))), (.int .i64 n9), (.int .i64 n17), (.int .i64 n18), (.int .i64 n19), (.int .i64 n20), (.int .i64 n17), (.int .i64 n18), (.int .i64 n19), (.int .i64 n20)])
 else
 none
 else
 none
 ) fun ds207 =>
 (opI (A.cell ds207 0) .i64).bind fun n208 =>
 (opB (A.cell ds207 1)).bind fun b209 =>
 (opL (A.cell ds207 2) 1).bind fun l210 =>
 (opL (A.cell ds207 3) 1).bind fun l211 =>
 (opI (A.cell ds207 4) .i64).bind fun n212 =>
 (opI (A.cell ds207 5) .i64).bind fun n213 =>
 (opI (A.cell ds207 6) .i64).bind fun n214 =>
 (opI (A.cell ds207 7) .i64).bind fun n215 =>
 (opI (A.cell ds207 8) .i64).bind fun n216 =>
 (opI (A.cell ds207 9) .i64).bind fun n217 =>
 (opI (A.cell ds207 10) .i64).bind fun n218 =>
 (opI (A.cell ds207 11) .i64).bind fun n219 =>
 (opI (A.cell ds207 12) .i64).bind fun n220 =>
 (opI (A.cell ds207 13) .i64).bind fun n221 =>
 bif (A.bnot b209) then
 some (.inl [(.sl 4 l2), (.sl 1 l3), (.int .i64 n4), (.int .i64 (A.wrap .i64 (A.add n5 1))), (.sl 1 l210), (.sl 1 l211), (.int .i64 n212), (.int .i64 n213)])
 else
 cutO (
 bif (A.ieq n218 9) then
 cutO (
 bif (A.ieq (A.rlen l211) 0) then
 some (.inl [(.int .i64 n208), (.bool false), (.int .i64 0), (.sl 1 l210), (.sl 1 l211), (.int .i64 n212), (.int .i64 13), (.int .i64 n214), (.int .i64 n215), (.int .i64 n216), (.int .i64 n217), (.int .i64 n218), (.int .i64 n219), (.int .i64 n220), (.int .i64 n221)])
 else
 bif (A.inr (A.wrap .i64 (A.sub (A.rlen l211) 1)) (A.rlen l211)) then
 (opI (A.cell (A.row l211 (A.wrap .i64 (A.sub (A.rlen l211) 1))) 0) .i64).bind fun n222 =>
 bif (A.cutok 0 (A.wrap .i64 (A.sub (A.rlen l211) 1)) (A.rlen l211)) then
 some (.inl [(.int .i64 n208), (.bool true), (.int .i64 n222), (.sl 1 l210), (.sl 1 (A.cut l211 0 (A.wrap .i64 (A.sub (A.rlen l211) 1)))), (.int .i64 n212), (.int .i64 n213), (.int .i64 n214), (.int .i64 n215), (.int .i64 n216), (.int .i64 n217), (.int .i64 n218), (.int .i64 n219), (.int .i64 n220), (.int .i64 n221)])
 else
 none
 else
 none
 ) fun ds223 =>
 (opI (A.cell ds223 0) .i64).bind fun n224 =>
 (opB (A.cell ds223 1)).bind fun b225 =>
 (opI (A.cell ds223 2) .i64).bind fun n226 =>
 (opL (A.cell ds223 3) 1).bind fun l227 =>
 (opL (A.cell ds223 4) 1).bind fun l228 =>
 (opI (A.cell ds223 5) .i64).bind fun n229 =>
 (opI (A.cell ds223 6) .i64).bind fun n230 =>
 (opI (A.cell ds223 7) .i64).bind fun n231 =>
 (opI (A.cell ds223 8) .i64).bind fun n232 =>
 (opI (A.cell ds223 9) .i64).bind fun n233 =>
 (opI (A.cell ds223 10) .i64).bind fun n234 =>
 (opI (A.cell ds223 11) .i64).bind fun n235 =>
 (opI (A.cell ds223 12) .i64).bind fun n236 =>
 (opI (A.cell ds223 13) .i64).bind fun n237 =>
 (opI (A.cell ds223 14) .i64).bind fun n238 =>
 bif (A.bnot b225) then
 some (.inr (.inl [(.sl 4 l2), (.sl 1 l3), (.int .i64 n4), (.int .i64 (A.wrap .i64 (A.add n5 1))), (.sl 1 l227), (.sl 1 l228), (.int .i64 n229), (.int .i64 n230)]))
 else
 some (.inl [(.int .i64 n224), (.int .i64 n226), (.sl 1 l227), (.sl 1 l228), (.int .i64 n229), (.int .i64 n230), (.int .i64 n231), (.int .i64 n232), (.int .i64 n233), (.int .i64 n234), (.int .i64 n235), (.int .i64 n236), (.int .i64 n237), (.int .i64 n238)])
 else
 some (.inl [(.int .i64 n208), (.int .i64 0), (.sl 1 l210), (.sl 1 l211), (.int .i64 n212), (.int .i64 n213), (.int .i64 n214), (.int .i64 n215), (.int .i64 n216), (.int .i64 n217), (.int .i64 n218), (.int .i64 n219), (.int .i64 n220), (.int .i64 n221)])
 ) fun ds239 =>
 (opI (A.cell ds239 0) .i64).bind fun n240 =>
 (opI (A.cell ds239 1) .i64).bind fun n241 =>
 (opL (A.cell ds239 2) 1).bind fun l242 =>
 (opL (A.cell ds239 3) 1).bind fun l243 =>
 (opI (A.cell ds239 4) .i64).bind fun n244 =>
 (opI (A.cell ds239 5) .i64).bind fun n245 =>
 (opI (A.cell ds239 6) .i64).bind fun n246 =>
 (opI (A.cell ds239 7) .i64).bind fun n247 =>
 (opI (A.cell ds239 8) .i64).bind fun n248 =>
 (opI (A.cell ds239 9) .i64).bind fun n249 =>
 (opI (A.cell ds239 10) .i64).bind fun n250 =>
 (opI (A.cell ds239 11) .i64).bind fun n251 =>
 (opI (A.cell ds239 12) .i64).bind fun n252 =>
 (opI (A.cell ds239 13) .i64).bind fun n253 =>
 bif (A.ilt (A.rlen l242) (A.wrap .i64 (A.add n251 n252))) then
 bif (A.bnot false) then
 some (.inl [(.sl 4 l2), (.sl 1 l3), (.int .i64 n4), (.int .i64 (A.wrap .i64 (A.add n5 1))), (.sl 1 l242), (.sl 1 l243), (.int .i64 n244), (.int .i64 13)])
 else
 cutO (
 bif (A.ilt n240 0) then
 some (.inl [(.bool true)])
 else
 some (.inl [(.bool (A.ile n252 n240))])
 ) fun ds254 =>
 (opB (A.cell ds254 0)).bind fun b255 =>
 bif b255 then
 some (.inl [(.sl 4 l2), (.sl 1 l3), (.int .i64 n4), (.int .i64 (A.wrap .i64 (A.add n5 1))), (.sl 1 l242), (.sl 1 l243), (.int .i64 n244), (.int .i64 16)])
 else
 bif (A.ieq n250 9) then
 bif (A.inr (A.wrap .i64 (A.add n251 n240)) (A.rlen l242)) then
 bif (A.inrn (A.nat (A.wrap .i64 (A.add n251 n240))) l242) then
 some (.inl [(.sl 4 l2), (.sl 1 l3), (.int .i64 n4), (.int .i64 (A.wrap .i64 (A.add n5 1))), (.sl 1 (A.rput l242 (A.nat (A.wrap .i64 (A.add n251 n240))) 0 [(.int .i64 n241)])), (.sl 1 l243), (.int .i64 n244), (.int .i64 13)])
 else
 none
 else
 none
 else
 bif (A.inr (A.wrap .i64 (A.add n251 n240)) (A.rlen l242)) then
 (opI (A.cell (A.rown l242 (A.nat (A.wrap .i64 (A.add n251 n240)))) 0) .i64).bind fun n256 =>
 bif (A.ile 16 (A.rlen l243)) then
 some (.inl [(.sl 4 l2), (.sl 1 l3), (.int .i64 n4), (.int .i64 (A.wrap .i64 (A.add n5 1))), (.sl 1 l242), (.sl 1 l243), (.int .i64 n244), (.int .i64 13)])
 else
 bif (A.fits [] l243 8) then
 bif (A.fits (A.rapp [] l243) [[(.int .i64 n256)]] 8) then
 some (.inl [(.sl 4 l2), (.sl 1 l3), (.int .i64 n4), (.int .i64 (A.wrap .i64 (A.add n5 1))), (.sl 1 l242), (.sl 1 (A.rapp (A.rapp [] l243) [[(.int .i64 n256)]])), (.int .i64 n244), (.int .i64 13)])
 else
 none
 else
 none
 else
 none
 else
 bif (A.bnot true) then
 some (.inl [(.sl 4 l2), (.sl 1 l3), (.int .i64 n4), (.int .i64 (A.wrap .i64 (A.add n5 1))), (.sl 1 l242), (.sl 1 l243), (.int .i64 n244), (.int .i64 n245)])
 else
 cutO (
 bif (A.ilt n240 0) then
 some (.inl [(.bool true)])
 else
 some (.inl [(.bool (A.ile n252 n240))])
 ) fun ds257 =>
 (opB (A.cell ds257 0)).bind fun b258 =>
 bif b258 then
 some (.inl [(.sl 4 l2), (.sl 1 l3), (.int .i64 n4), (.int .i64 (A.wrap .i64 (A.add n5 1))), (.sl 1 l242), (.sl 1 l243), (.int .i64 n244), (.int .i64 16)])
 else
 bif (A.ieq n250 9) then
 bif (A.inr (A.wrap .i64 (A.add n251 n240)) (A.rlen l242)) then
 bif (A.inrn (A.nat (A.wrap .i64 (A.add n251 n240))) l242) then
 some (.inl [(.sl 4 l2), (.sl 1 l3), (.int .i64 n4), (.int .i64 (A.wrap .i64 (A.add n5 1))), (.sl 1 (A.rput l242 (A.nat (A.wrap .i64 (A.add n251 n240))) 0 [(.int .i64 n241)])), (.sl 1 l243), (.int .i64 n244), (.int .i64 n245)])
 else
 none
 else
 none
 else
 bif (A.inr (A.wrap .i64 (A.add n251 n240)) (A.rlen l242)) then
 (opI (A.cell (A.rown l242 (A.nat (A.wrap .i64 (A.add n251 n240)))) 0) .i64).bind fun n259 =>
 bif (A.ile 16 (A.rlen l243)) then
 some (.inl [(.sl 4 l2), (.sl 1 l3), (.int .i64 n4), (.int .i64 (A.wrap .i64 (A.add n5 1))), (.sl 1 l242), (.sl 1 l243), (.int .i64 n244), (.int .i64 13)])
 else
 bif (A.fits [] l243 8) then
 bif (A.fits (A.rapp [] l243) [[(.int .i64 n259)]] 8) then
 some (.inl [(.sl 4 l2), (.sl 1 l3), (.int .i64 n4), (.int .i64 (A.wrap .i64 (A.add n5 1))), (.sl 1 l242), (.sl 1 (A.rapp (A.rapp [] l243) [[(.int .i64 n259)]])), (.int .i64 n244), (.int .i64 n245)])
 else
 none
 else
 none
 else
 none
 else
 bif (A.ieq n17 10) then
 some (.inl [(.sl 4 l2), (.sl 1 l3), (.int .i64 n4), (.int .i64 (A.wrap .i64 (A.add n5 1))), (.sl 1 l6), (.sl 1 l7), (.int .i64 (A.wrap .i64 (A.add n8 1))), (.int .i64 (-1))])
 else
 some (.inl [(.sl 4 l2), (.sl 1 l3), (.int .i64 n4), (.int .i64 (A.wrap .i64 (A.add n5 1))), (.sl 1 l6), (.sl 1 l7), (.int .i64 (A.wrap .i64 (A.add n8 1))), (.int .i64 n9)])
 else
 none
 else
 none
 else
 bif (A.bnot (A.ieq n9 (-1))) then
 some (.inr (.val [(.sl 1 l3), (.int .i64 n5), (.int .i64 n9)]))
 else
 some (.inr (.val [(.sl 1 l6), (.int .i64 n5), (.int .i64 0)]))
 ) [(.sl 4 code_), (.sl 1 cells_), (.int .i64 fuel_), (.int .i64 0), (.sl 1 (A.rapp [] cells_)), (.sl 1 []), (.int .i64 0), (.int .i64 0)]
 else
 none
theorem g25_eq (A : Sy) (E : Env) (code_ : List (List D)) (cells_ : List (List D)) (fuel_ : Int) : (funT A Tryz.prog cs 25 [V.d (.sl 4 code_), V.d (.sl 1 cells_), V.d (.int .i64 fuel_)]).run E = g25 A E code_ cells_ fuel_ := by kernel_rfl
end Go.Vm
end

section
set_option linter.all false
set_option maxRecDepth 100000
set_option maxHeartbeats 4000000
namespace Go.Vm
open Go.Proofs
/-! ### numbers in range -/
def inR (n : Int) : Prop := -9223372036854775808 ≤ n ∧ n ≤ 9223372036854775807
theorem wrap_inR (n : Int) : inR (IntKind.i64.wrap n) := by
  unfold inR
  simp [IntKind.wrap, IntKind.bits, IntKind.signed]
  omega
def IV (n e : Int) : Prop := inR n ∧ (e = 0 ∨ e = 15)
theorem c130 (b : Bool) : ∃ p, cF 215 [.d (.bool b)] = some p ∧ ∃ n, p = .val [.int .i64 n] ∧ inR n := by
  refine cOfP (by kernel_rfl) rfl ?_
  rw [g215_eq]
  unfold g215
  cases b
  · exact ⟨_, rfl, _, rfl, by unfold inR; omega⟩
  · exact ⟨_, rfl, _, rfl, by unfold inR; omega⟩
theorem c172 (a : Int) : ∃ p, cF 271 [.d (.int .i64 a)] = some p ∧ ∃ n, p = .val [.int .u64 n] ∧ (inR a → a ≠ 0 → n ≠ 0) := by
  refine cOfP (by kernel_rfl) rfl ?_
  rw [g271_eq]
  unfold g271
  simp only [go1, Option.bind_some, eq_self, cond_true, cond_false, Nat.reduceAdd, Int.reduceEq, Int.reduceLT, Int.reduceLE, Int.reduceSub, Int.reduceAdd]
  by_cases h : a < 0
  · rw [decT h]
    refine ⟨_, rfl, _, rfl, fun h1 h2 => ?_⟩
    unfold inR at h1
    simp [IntKind.wrap, IntKind.bits, IntKind.signed]
    omega
  · rw [decF h]
    refine ⟨_, rfl, _, rfl, fun h1 h2 => ?_⟩
    unfold inR at h1
    simp [IntKind.wrap, IntKind.bits, IntKind.signed]
    omega
theorem c154 (a b : Int) (hb : inR b) (h0 : b ≠ 0) : ∃ p, cF 246 [.d (.int .i64 a), .d (.int .i64 b)] = some p ∧ ∃ n, p = .val [.int .i64 n] ∧ inR n := by
  obtain ⟨_, hx, x, rfl, _⟩ := c172 a
  obtain ⟨_, hy, y, rfl, hy0⟩ := c172 b
  have hy0 := hy0 hb h0
  refine cOfP (by kernel_rfl) rfl ?_
  rw [g246_eq]
  unfold g246
  simp only [go1, Option.bind_some, eq_self, cond_true, cond_false, Nat.reduceAdd, Int.reduceEq, Int.reduceLT, Int.reduceLE, Int.reduceSub, Int.reduceAdd, hx, hy, decF hy0]
  cases (decide (a < 0) == decide (b < 0))
  · exact ⟨_, rfl, _, rfl, wrap_inR _⟩
  · exact ⟨_, rfl, _, rfl, wrap_inR _⟩
theorem c131 (op a b : Int) (hb : inR b) : ∃ p, cF 216 [.d (.int .i64 op), .d (.int .i64 a), .d (.int .i64 b)] = some p ∧ ∃ n e, p = .val [.int .i64 n, .int .i64 e] ∧ IV n e := by
  refine cOfP (by kernel_rfl) rfl ?_
  rw [g216_eq]
  unfold g216
  simp only [go1, Option.bind_some, eq_self, cond_true, cond_false, Nat.reduceAdd, Int.reduceEq, Int.reduceLT, Int.reduceLE, Int.reduceSub, Int.reduceAdd]
  by_cases h3 : op = 3
  · rw [decT h3]; exact ⟨_, rfl, _, _, rfl, wrap_inR _, .inl rfl⟩
  by_cases h4 : op = 4
  · rw [decF h3, decT h4]; exact ⟨_, rfl, _, _, rfl, wrap_inR _, .inl rfl⟩
  by_cases h5 : op = 5
  · rw [decF h3, decF h4, decT h5]; exact ⟨_, rfl, _, _, rfl, wrap_inR _, .inl rfl⟩
  rw [decF h3, decF h4, decF h5]
  by_cases h0 : b = 0
  · rw [decT h0]; exact ⟨_, rfl, _, _, rfl, by unfold inR; omega, .inr rfl⟩
  obtain ⟨_, hn, n, rfl, hr⟩ := c154 a b hb h0
  simp only [decF h0, hn, go1, Option.bind_some, eq_self, cond_true, cond_false, Nat.reduceAdd, Int.reduceEq, Int.reduceLT, Int.reduceLE, Int.reduceSub, Int.reduceAdd]
  by_cases h6 : op = 6
  · rw [decT h6]; exact ⟨_, rfl, _, _, rfl, hr, .inl rfl⟩
  · rw [decF h6]; exact ⟨_, rfl, _, _, rfl, wrap_inR _, .inl rfl⟩
theorem c107 (op a : Int) (h : op = 1 ∨ op = 2) : ∃ p, cF 172 [.d (.int .i64 op), .d (.int .i64 a)] = some p ∧ ∃ n, p = .val [.int .i64 n, .int .i64 0] ∧ inR n := by
  obtain ⟨_, hn, n, rfl, hr⟩ := c130 (decide (a = 0))
  refine cOfP (by kernel_rfl) rfl ?_
  rw [g172_eq]
  unfold g172
  rcases h with rfl | rfl
  · simp only [go1, Option.bind_some, eq_self, cond_true, cond_false, Nat.reduceAdd, Int.reduceEq, Int.reduceLT, Int.reduceLE, Int.reduceSub, Int.reduceAdd]; exact ⟨_, rfl, _, rfl, wrap_inR _⟩
  · simp only [go1, Option.bind_some, eq_self, cond_true, cond_false, Nat.reduceAdd, Int.reduceEq, Int.reduceLT, Int.reduceLE, Int.reduceSub, Int.reduceAdd, hn]; exact ⟨_, rfl, _, rfl, hr⟩
theorem c108 (op a b : Int) (hb : inR b) (h : 3 ≤ op ∧ op ≤ 16) : ∃ p, cF 173 [.d (.int .i64 op), .d (.int .i64 a), .d (.int .i64 b)] = some p ∧ ∃ n e, p = .val [.int .i64 n, .int .i64 e] ∧ IV n e := by
  have hop : op = 3 ∨ op = 4 ∨ op = 5 ∨ op = 6 ∨ op = 7 ∨ op = 8 ∨ op = 9 ∨ op = 10 ∨ op = 11 ∨ op = 12 ∨ op = 13 ∨ op = 14 ∨ op = 15 ∨ op = 16 := by omega
  obtain ⟨fn, hf⟩ := Classical.axiomOfChoice (fun b : Bool => (show ∃ n, cF 215 [.d (.bool b)] = some (.val [.int .i64 n]) ∧ inR n from by
    obtain ⟨_, h1, n, rfl, h2⟩ := c130 b
    exact ⟨n, h1, h2⟩))
  refine cOfP (by kernel_rfl) rfl ?_
  rw [g173_eq]
  unfold g173
  rcases hop with h | h | h | h | h | h | h | h | h | h | h | h | h | h
  · obtain ⟨_, h1, n, e, rfl, h2⟩ := c131 op a b hb
    subst h; simp only [go1, Option.bind_some, eq_self, cond_true, cond_false, Nat.reduceAdd, Int.reduceEq, Int.reduceLT, Int.reduceLE, Int.reduceSub, Int.reduceAdd, h1]; exact ⟨_, rfl, _, _, rfl, h2⟩
  · obtain ⟨_, h1, n, e, rfl, h2⟩ := c131 op a b hb
    subst h; simp only [go1, Option.bind_some, eq_self, cond_true, cond_false, Nat.reduceAdd, Int.reduceEq, Int.reduceLT, Int.reduceLE, Int.reduceSub, Int.reduceAdd, h1]; exact ⟨_, rfl, _, _, rfl, h2⟩
  · obtain ⟨_, h1, n, e, rfl, h2⟩ := c131 op a b hb
    subst h; simp only [go1, Option.bind_some, eq_self, cond_true, cond_false, Nat.reduceAdd, Int.reduceEq, Int.reduceLT, Int.reduceLE, Int.reduceSub, Int.reduceAdd, h1]; exact ⟨_, rfl, _, _, rfl, h2⟩
  · obtain ⟨_, h1, n, e, rfl, h2⟩ := c131 op a b hb
    subst h; simp only [go1, Option.bind_some, eq_self, cond_true, cond_false, Nat.reduceAdd, Int.reduceEq, Int.reduceLT, Int.reduceLE, Int.reduceSub, Int.reduceAdd, h1]; exact ⟨_, rfl, _, _, rfl, h2⟩
  · obtain ⟨_, h1, n, e, rfl, h2⟩ := c131 op a b hb
    subst h; simp only [go1, Option.bind_some, eq_self, cond_true, cond_false, Nat.reduceAdd, Int.reduceEq, Int.reduceLT, Int.reduceLE, Int.reduceSub, Int.reduceAdd, h1]; exact ⟨_, rfl, _, _, rfl, h2⟩
  all_goals
    subst h
    simp only [go1, Option.bind_some, eq_self, cond_true, cond_false, Nat.reduceAdd, Int.reduceEq, Int.reduceLT, Int.reduceLE, Int.reduceSub, Int.reduceAdd]
    simp only [fun b => (hf b).1, go1, Option.bind_some, eq_self, cond_true, cond_false, Nat.reduceAdd, Int.reduceEq, Int.reduceLT, Int.reduceLE, Int.reduceSub, Int.reduceAdd]
    exact ⟨_, rfl, _, _, rfl, (hf _).2, .inl rfl⟩
end Go.Vm
end

section
set_option linter.all false
set_option maxRecDepth 100000
set_option maxHeartbeats 4000000
namespace Go.Vm
open Go.Proofs
theorem c22 (la lb : List Int) (lo hi : Int) (cells : List Int) (hla : la.length ≤ 10) (hlb : lb.length ≤ 1100) :
    ∃ b, cF 23 [shV (irows la) (irows lb) lo hi, .d (.sl 1 (irows cells))] = some (.val [.bool b]) ∧ (b = true → shapeB la lb lo hi = true ∧ cells.length = lb.length) := by
  have h15 := c15 la lb lo hi (by omega) (by omega)
  have h49 := fun k n hk => c49 la lb lo hi k n (by omega) hk
  unfold shV at *
  cases hs : shapeB la lb lo hi with
  | false =>
    refine ⟨false, ?_, by simp⟩
    rw [hs] at h15
    refine cOf (by kernel_rfl) rfl ?_
    rw [g23_eq]
    simp only [g23, go1, Option.bind_some, eq_self, cond_true, cond_false, Nat.reduceAdd, Int.reduceEq, Int.reduceLT, Int.reduceLE, Int.reduceSub, Int.reduceAdd, h15]
  | true =>
    rw [hs] at h15
    by_cases hl : cells.length = lb.length
    · have hk : ∀ k ∈ lb, kindB (il la) k = true := by
        unfold shapeB at hs
        simp only [Bool.and_eq_true] at hs
        exact fun k hk => List.all_eq_true.1 hs.2 k hk
      suffices ∃ r : PRes, cF 23 [.agg [.d (.sl 1 (irows la)), .d (.sl 1 (irows lb)), .d (.int .i64 lo), .d (.int .i64 hi)], .d (.sl 1 (irows cells))] = some r ∧ ∃ b : Bool, r = .val [.bool b] by
        obtain ⟨_, h1, b, rfl⟩ := this
        exact ⟨b, h1, fun _ => ⟨rfl, hl⟩⟩
      refine cOfP (by kernel_rfl) rfl ?_
      rw [g23_eq]
      simp only [g23, h15, irows_len, hl, go1, Option.bind_some, eq_self, cond_true, cond_false, Nat.reduceAdd, Int.reduceEq, Int.reduceLT, Int.reduceLE, Int.reduceSub, Int.reduceAdd]
      refine loopF_ex (fun i : Nat => [.sl 1 (irows cells), .int .i64 (i : Int), .sl 1 (irows la), .sl 1 (irows lb), .int .i64 lo, .int .i64 hi]) (fun i => i ≤ cells.length) (fun i => cells.length - i) (fun i hi => ?_) 0 (Nat.zero_le _)
      by_cases hlt : i < cells.length
      · have hlt2 : i < lb.length := by omega
        have hkk := hk lb[i] (List.getElem_mem hlt2)
        simp only [go1, Option.bind_some, eq_self, cond_true, cond_false, Nat.reduceAdd, Int.reduceEq, Int.reduceLT, Int.reduceLE, Int.reduceSub, Int.reduceAdd, irows_len, ilt_at hlt, inr_at hlt, inr_at hlt2, irows_at (List.getElem?_eq_getElem hlt), irows_at (List.getElem?_eq_getElem hlt2), h49 _ _ hkk, wrap_succ hlt (by omega)]
        cases valueB la lb[i] cells[i]
        · right; exact ⟨_, rfl, _, rfl⟩
        · left; exact ⟨i + 1, rfl, by omega, by omega⟩
      · right
        have : i = cells.length := by omega
        subst this
        simp only [go1, Option.bind_some, eq_self, cond_true, cond_false, Nat.reduceAdd, Int.reduceEq, Int.reduceLT, Int.reduceLE, Int.reduceSub, Int.reduceAdd, irows_len, ilt_self]
        exact ⟨_, rfl, _, rfl⟩
    · refine ⟨false, ?_, by simp⟩
      refine cOf (by kernel_rfl) rfl ?_
      rw [g23_eq]
      simp only [g23, go1, Option.bind_some, eq_self, cond_true, cond_false, Nat.reduceAdd, Int.reduceEq, Int.reduceLT, Int.reduceLE, Int.reduceSub, Int.reduceAdd, h15, irows_len]
      rw [decF (by omega)]
      rfl
/-! ### a run's steps -/
structure RSt2 where
  m : List (List D)
  s : List (List D)
  u : Int
  a : Int
  e : Int
theorem stepL {σ α : Type} {b : List D → Option (List D ⊕ α)} {mk : σ → List D} {I : σ → Prop} {μ : σ → Nat} {Q : α → Prop} {x : σ} (y : σ) (h : b (mk x) = some (.inl (mk y))) (hI : I y ∧ μ y < μ x) :
    (∃ y, b (mk x) = some (.inl (mk y)) ∧ I y ∧ μ y < μ x) ∨ ∃ r, b (mk x) = some (.inr r) ∧ Q r := .inl ⟨y, h, hI⟩
theorem stepR {σ α : Type} {b : List D → Option (List D ⊕ α)} {mk : σ → List D} {I : σ → Prop} {μ : σ → Nat} {Q : α → Prop} {x : σ} (r : α) (h : b (mk x) = some (.inr r)) (hI : Q r) :
    (∃ y, b (mk x) = some (.inl (mk y)) ∧ I y ∧ μ y < μ x) ∨ ∃ r, b (mk x) = some (.inr r) ∧ Q r := .inr ⟨r, h, hI⟩
/-- The top may be taken off. -/
structure PopF (s : List (List D)) (v : Int) : Prop where
  e0 : sy.ieq (sy.rlen s) 0 = false
  e1 : sy.inr (sy.wrap .i64 (sy.sub (sy.rlen s) 1)) (sy.rlen s) = true
  e2 : sy.cell (sy.row s (sy.wrap .i64 (sy.sub (sy.rlen s) 1))) 0 = some (.int .i64 v)
  e3 : sy.cutok 0 (sy.wrap .i64 (sy.sub (sy.rlen s) 1)) (sy.rlen s) = true
theorem len1 {s : List (List D)} {S : List Int} (h : s = irows S) (h1 : 1 ≤ S.length) (h2 : S.length ≤ 16) : sy.wrap .i64 (sy.sub (sy.rlen s) 1) = (S.length : Int) - 1 := by
  subst h
  show IntKind.i64.wrap (((irows S).length : Int) - 1) = _
  rw [irows_len, wrap_id (by omega) (by omega)]
theorem popF {s : List (List D)} {S : List Int} (h : s = irows S) (h1 : 1 ≤ S.length) (h2 : S.length ≤ 16) : PopF s (S.getD (S.length - 1) 0) := by
  have hl := len1 h h1 h2
  have hr : sy.rlen s = (S.length : Int) := by subst h; show ((irows S).length : Int) = _; rw [irows_len]
  refine ⟨?_, ?_, ?_, ?_⟩
  · rw [hr]; exact decide_eq_false (by omega)
  · rw [hl, hr]; exact decide_eq_true (by omega)
  · rw [hl]; subst h; rw [irows_cell (by omega) (by omega)]
    congr 3; omega
  · rw [hl, hr]; exact decide_eq_true (by omega)
theorem cutE {s : List (List D)} {S : List Int} (h : s = irows S) (h1 : 1 ≤ S.length) (h2 : S.length ≤ 16) : sy.cut s 0 (sy.wrap .i64 (sy.sub (sy.rlen s) 1)) = irows (S.take (S.length - 1)) := by
  rw [len1 h h1 h2]
  subst h
  show ((irows S).take ((S.length : Int) - 1).toNat).drop (0 : Int).toNat = _
  rw [irows_take]
  have : ((S.length : Int) - 1).toNat = S.length - 1 := by omega
  rw [this]; rfl
/-- One may be laid on. -/
structure PushF (s : List (List D)) (n : Int) : Prop where
  e0 : sy.ile 16 (sy.rlen s) = false
  e1 : sy.fits [] s 8 = true
  e2 : sy.fits (sy.rapp [] s) [[.int .i64 n]] 8 = true
theorem pushF {s : List (List D)} {S : List Int} (h : s = irows S) (h2 : S.length < 16) (n : Int) : PushF s n := by
  subst h
  refine ⟨decide_eq_false ?_, decide_eq_true ?_, decide_eq_true ?_⟩
  · show ¬ (16 : Int) ≤ ((irows S).length : Int); rw [irows_len]; omega
  · simp only [irows_len, List.length_nil]; omega
  · show ((([] ++ irows S : List (List D)).length + 1) * (8 + 1) ≤ _)
    simp only [List.nil_append, irows_len]; omega
theorem pushE {s : List (List D)} {S : List Int} (h : s = irows S) (n : Int) : sy.rapp (sy.rapp [] s) [[.int .i64 n]] = irows (S ++ [n]) := by
  subst h
  show ([] ++ irows S) ++ [[.int .i64 n]] = _
  rw [List.nil_append]; simp [irows, irow]
theorem thereF {M : List Int} {a b : Int} (h0 : 0 ≤ a) (h1 : 0 ≤ b) (hb : b ≤ 100) (h : a + b ≤ M.length) (hm : M.length ≤ 10000) : sy.ilt (sy.rlen (irows M)) (sy.wrap .i64 (sy.add a b)) = false := by
  show decide (((irows M).length : Int) < IntKind.i64.wrap (a + b)) = false
  rw [irows_len, wrap_id (by omega) (by omega)]
  exact decide_eq_false (by omega)
def allR (l : List Int) : Prop := ∀ n ∈ l, inR n
theorem allR_getD {l : List Int} (h : allR l) (i : Nat) : inR (l.getD i 0) := by
  rw [List.getD_eq_getElem?_getD]
  cases hq : l[i]? with
  | none => unfold inR; simp
  | some x => exact h x (List.mem_of_getElem? hq)
theorem allR_take {l : List Int} (h : allR l) (i : Nat) : allR (l.take i) := fun n hn => h n (List.mem_of_mem_take hn)
theorem allR_snoc {l : List Int} {n : Int} (h : allR l) (hn : inR n) : allR (l ++ [n]) := fun m hm => by
  rcases List.mem_append.1 hm with hm | hm
  · exact h m hm
  · simp at hm; subst hm; exact hn
theorem allR_set {l : List Int} {i : Nat} {n : Int} (h : allR l) (hn : inR n) : allR (l.set i n) := fun m hm => by
  rcases List.mem_or_eq_of_mem_set hm with hm | hm
  · exact h m hm
  · subst hm; exact hn
end Go.Vm
end

section
set_option linter.all false
set_option maxRecDepth 100000
set_option maxHeartbeats 8000000
namespace Go.Vm
open Go.Proofs
structure HdF (code : List Ins) (fuel u : Int) (i : Nat) (op A B n : Int) : Prop where
  i0 : sy.ile (sy.rlen (crows code)) (i : Int) = false
  i1 : sy.ile fuel u = false
  i2 : sy.inr (i : Int) (sy.rlen (crows code)) = true
  r0 : sy.cell (sy.row (crows code) (i : Int)) 0 = some (.int .i64 op)
  r1 : sy.cell (sy.row (crows code) (i : Int)) 1 = some (.int .i64 A)
  r2 : sy.cell (sy.row (crows code) (i : Int)) 2 = some (.int .i64 B)
  r3 : sy.cell (sy.row (crows code) (i : Int)) 3 = some (.int .i64 n)
  c : eF.call 58 [.agg [.d (.int .i64 op), .d (.int .i64 A), .d (.int .i64 B), .d (.int .i64 n)]] = some (.val [.bool true])
def RInv (code : List Ins) (R : Nat → List Int) (nk : Nat) (fuel : Int) (x : RSt2) : Prop :=
  ∃ M S : List Int, x.m = irows M ∧ x.s = irows S ∧ M.length = nk ∧ allR M ∧ allR S ∧ 0 ≤ x.u ∧
    ((x.e = 0 ∧ ∃ i : Nat, x.a = i ∧ i < code.length ∧ S.length = (R i).length ∧ S.length ≤ 16 ∧ x.u + bAt code i ≤ fuel) ∨ ((x.e = -1 ∨ x.e = 15 ∨ x.e = 16) ∧ x.u ≤ fuel))
def RMu (code : List Ins) (x : RSt2) : Nat := if x.e = 0 then code.length - x.a.toNat + 1 else 0
def RQ (fuel : Int) (p : PRes) : Prop := ∃ m u e, p = .val [.sl 1 m, .int .i64 u, .int .i64 e] ∧ u ≤ fuel ∧ e ≠ 17 ∧ e ≠ 13
theorem go_on {code : List Ins} {R : Nat → List Int} {nk : Nat} {fuel : Int} {m m' s s' : List (List D)} {u u' a a' : Int} {M S : List Int} {i j : Nat} (hm : m' = irows M) (hs : s' = irows S) (hM : M.length = nk) (h1 : allR M) (h2 : allR S) (hu : u' = u + 1) (hu0 : 0 ≤ u) (ha : a' = j) (ha0 : a = i)
    (hj : i < j) (hj2 : j < code.length) (hS : S.length = (R j).length) (hS2 : S.length ≤ 16) (hb : bAt code j + 1 ≤ bAt code i) (hf : u + bAt code i ≤ fuel) : RInv code R nk fuel ⟨m', s', u', a', 0⟩ ∧ RMu code ⟨m', s', u', a', 0⟩ < RMu code ⟨m, s, u, a, 0⟩ := by
  refine ⟨⟨M, S, hm, hs, hM, h1, h2, by simp only; omega, .inl ⟨rfl, j, ha, hj2, hS, hS2, by simp only; omega⟩⟩, ?_⟩
  unfold RMu
  simp only [if_true]
  omega
theorem stop_at {code : List Ins} {R : Nat → List Int} {nk : Nat} {fuel : Int} {m m' s s' : List (List D)} {u u' a a' e' : Int} {M S : List Int} {i : Nat} (hm : m' = irows M) (hs : s' = irows S) (hM : M.length = nk) (h1 : allR M) (h2 : allR S) (hu : u' = u + 1) (hu0 : 0 ≤ u) (he : e' = -1 ∨ e' = 15 ∨ e' = 16)
    (hb : 1 ≤ bAt code i) (hf : u + bAt code i ≤ fuel) : RInv code R nk fuel ⟨m', s', u', a', e'⟩ ∧ RMu code ⟨m', s', u', a', e'⟩ < RMu code ⟨m, s, u, a, 0⟩ := by
  refine ⟨⟨M, S, hm, hs, hM, h1, h2, by simp only; omega, .inr ⟨he, by simp only; omega⟩⟩, ?_⟩
  unfold RMu
  simp only [if_true]
  rw [if_neg (by omega)]
  omega
end Go.Vm
end
