/-
  Part E of the proof. What is proved by the whole: the statement that the claim names, with no condition. This part: lemmas.
-/
import Derived.Test.YtmmcmfcnpfbifaaD
import Derived.Test.YtmmcmfcnpfbifaaChecked
set_option linter.unusedSimpArgs false
set_option linter.unusedVariables false

section
set_option maxHeartbeats 2000000
namespace Go.Vm
theorem bft : (false = true) = False := by simp
theorem btf : (true = false) = False := by simp
def firstB (x : Ins) : Bool := if x.op = 1 then withinB x.a 1 1000 else if x.op = 4 then x.a == 1 || x.a == 2 else if x.op = 5 then withinB x.a 3 16 else if x.op = 10 then x.a == 0 else withinB x.a 0 65535
theorem right_eq (x : Ins) : rightB x = (withinB x.op 1 10 && firstB x && !(!(x.op == 1) && !(x.n == 0)) && (if x.op == 8 || x.op == 9 then withinB x.b 1 8 else x.b == 0)) := by
  obtain ⟨op, a, b, n⟩ := x
  by_cases h : 1 ≤ op ∧ op ≤ 10
  · have : op = 1 ∨ op = 2 ∨ op = 3 ∨ op = 4 ∨ op = 5 ∨ op = 6 ∨ op = 7 ∨ op = 8 ∨ op = 9 ∨ op = 10 := by omega
    rcases this with rfl | rfl | rfl | rfl | rfl | rfl | rfl | rfl | rfl | rfl <;> simp [rightB, firstB, withinB] <;> (try (cases (n == 0) <;> simp)) <;> (try (cases (b == 0) <;> simp))
    all_goals grind
  · have hw : withinB op 1 10 = false := by rw [withinB_false]; omega
    simp only [hw, Bool.false_and, rightB]
    rw [if_neg (by omega), if_neg (by omega), if_neg (by omega), if_neg (by omega), if_neg (by omega), if_neg (by omega)]
    simp
theorem kind_within {la : List Int} {k : Int} : kindB (il la) k = withinB k 1 (2 + il la) ∨ il la < 0 := by
  by_cases h : il la < 0
  · exact .inr h
  · refine .inl ?_
    rw [Bool.eq_iff_iff]; unfold kindB; simp only [↓bft, ↓btf, Bool.and_eq_true, Bool.or_eq_true, Bool.and_eq_false_iff, Bool.or_eq_false_iff, Bool.not_eq_true', Bool.not_eq_false', Bool.not_eq_true, Bool.not_eq_false, decide_eq_true_eq, decide_eq_false_iff_not, beq_iff_eq, beq_eq_false_iff_ne, ne_eq, not_true_eq_false, not_false_eq_true, reduceCtorEq, true_iff, false_iff, iff_true, iff_false, Decidable.not_not, withinB_iff, withinB_false, eq_self]; omega
theorem kind_eq (la : List Int) (k : Int) : kindB (il la) k = withinB k 1 (2 + il la) := kind_within.resolve_right (by have := il_nonneg la; omega)
theorem ends_len {row ks : List Int} (h : endsB row ks = true) : il ks ≤ il row := by
  unfold endsB at h; simp only [Bool.and_eq_true, decide_eq_true_eq] at h; simp only [il]; omega
theorem unTy_bd {op : Int} {t r : Ty3} (h : unTy op t = some r) : r = ⟨1, 0, 0⟩ ∨ r = ⟨2, 0, 0⟩ := by
  unfold unTy at h
  repeat' split at h
  all_goals simp_all
theorem binTy_cases (op : Int) (t u : Ty3) : (binTy op t u = none) ∨ (binTy op t u = some ⟨1, 0, 0⟩) ∨ (binTy op t u = some ⟨2, 0, 0⟩) := by
  unfold binTy; repeat' split
  all_goals simp
theorem binTy_bd {op : Int} {t u r : Ty3} (h : binTy op t u = some r) : r = ⟨1, 0, 0⟩ ∨ r = ⟨2, 0, 0⟩ := by
  rcases binTy_cases op t u with h1 | h1 | h1 <;> rw [h1] at h <;> simp at h <;> subst h <;> simp
def cl (l : List Ins) : Int := l.length
theorem cl_nonneg (l : List Ins) : 0 ≤ cl l := by unfold cl; omega
/-! ### maps from numbers to rows -/
def encM (L : List (Int × List Int)) : List (List D) := L.map fun p => [.int .i64 p.1, .sl 1 (irows p.2)]
def lk : List (Int × List Int) → Int → Option (List Int)
  | [], _ => none
  | (k, v) :: L, m => if k = m then some v else lk L m
def putL : List (Int × List Int) → Int → List Int → List (Int × List Int)
  | [], m, x => [(m, x)]
  | (k, v) :: L, m, x => if k = m then (k, x) :: L else (k, v) :: putL L m x
def delL : List (Int × List Int) → Int → List (Int × List Int)
  | [], _ => []
  | (k, v) :: L, m => if k = m then L else (k, v) :: delL L m
theorem lk_put (x : List Int) (n m : Int) : ∀ L, lk (putL L n x) m = if m = n then some x else lk L m
  | [] => by simp only [putL, lk]; by_cases h : n = m <;> simp [h, eq_comm]
  | (k, v) :: L => by
    unfold putL
    split
    · rename_i h; subst h; simp only [lk]
      by_cases h : k = m
      · rw [if_pos h, if_pos h.symm]
      · rw [if_neg h, if_neg (fun e => h e.symm), if_neg h]
    · rename_i h
      simp only [lk, lk_put x n m L]
      by_cases h1 : k = m
      · subst h1; rw [if_pos rfl, if_neg h]; simp
      · simp only [h1, if_false]
theorem lk_del (n m : Int) (hne : m ≠ n) : ∀ L, lk (delL L n) m = lk L m
  | [] => rfl
  | (k, v) :: L => by
    unfold delL
    split
    · rename_i h; subst h; simp only [lk]; rw [if_neg (fun e => hne e.symm)]
    · simp only [lk, lk_del n m hne L]
theorem midx_ne {k k' : D} {w : List D} {rs : List (List D)} (h : keyIs k k' = false) : midx k ((k' :: w) :: rs) = (midx k rs).map (· + 1) := by
  simp [midx, h]
theorem midx_eq {k k' : D} {w : List D} {rs : List (List D)} (h : keyIs k k' = true) : midx k ((k' :: w) :: rs) = some 0 := by
  simp [midx, h]
theorem mhas_enc (m : Int) : ∀ L, mhas (.int .i64 m) (encM L) = (lk L m).isSome
  | [] => rfl
  | (k, v) :: L => by
    have ih := mhas_enc m L
    unfold mhas at *
    show (midx (.int .i64 m) ((D.int .i64 k :: [.sl 1 (irows v)]) :: encM L)).isSome = _
    unfold lk
    by_cases h : k = m
    · rw [midx_eq (by simp [keyIs, h]), if_pos h]; rfl
    · rw [midx_ne (by simp [keyIs]; omega), if_neg h, ← ih]; cases midx (.int .i64 m) (encM L) <;> rfl
theorem mval_enc (z : D) (m : Int) : ∀ L, mval z (.int .i64 m) (encM L) = (match lk L m with | some v => .sl 1 (irows v) | none => z)
  | [] => rfl
  | (k, v) :: L => by
    have ih := mval_enc z m L
    unfold mval mget at *
    show ((midx (.int .i64 m) ((D.int .i64 k :: [.sl 1 (irows v)]) :: encM L)).bind fun i => (((D.int .i64 k :: [.sl 1 (irows v)]) :: encM L)[i]?).bind (·[1]?)).getD z = _
    unfold lk
    by_cases h : k = m
    · rw [midx_eq (by simp [keyIs, h]), if_pos h]; rfl
    · rw [midx_ne (by simp [keyIs]; omega), if_neg h, ← ih]; cases midx (.int .i64 m) (encM L) <;> rfl
theorem mput_enc (m : Int) (x : List Int) : ∀ L, mput (.int .i64 m) (.sl 1 (irows x)) (encM L) = encM (putL L m x)
  | [] => rfl
  | (k, v) :: L => by
    have ih := mput_enc m x L
    unfold mput at *
    show (match midx (.int .i64 m) ((D.int .i64 k :: [.sl 1 (irows v)]) :: encM L) with | some i => _ | none => _) = _
    unfold putL
    by_cases h : k = m
    · rw [midx_eq (by simp [keyIs, h]), if_pos h, h]; rfl
    · rw [midx_ne (by simp [keyIs]; omega), if_neg h]
      show _ = (D.int .i64 k :: [.sl 1 (irows v)]) :: encM (putL L m x)
      rw [← ih]
      cases midx (.int .i64 m) (encM L) <;> rfl
theorem mdel_enc (m : Int) : ∀ L, mdel (.int .i64 m) (encM L) = encM (delL L m)
  | [] => rfl
  | (k, v) :: L => by
    have ih := mdel_enc m L
    unfold mdel at *
    show (match midx (.int .i64 m) ((D.int .i64 k :: [.sl 1 (irows v)]) :: encM L) with | some i => _ | none => _) = _
    unfold delL
    by_cases h : k = m
    · rw [midx_eq (by simp [keyIs, h]), if_pos h]; rfl
    · rw [midx_ne (by simp [keyIs]; omega), if_neg h]
      show _ = (D.int .i64 k :: [.sl 1 (irows v)]) :: encM (delL L m)
      rw [← ih]
      cases midx (.int .i64 m) (encM L) <;> rfl

/-! ### rows stay right -/
def RowOK (row : List Int) : Prop := (∀ k ∈ row, 1 ≤ k ∧ k ≤ 100) ∧ row.length ≤ 16
theorem RowOK.drop {row : List Int} (h : RowOK row) (n : Nat) : RowOK (dropTop row n) :=
  ⟨fun k hk => h.1 k (List.mem_of_mem_take hk), Nat.le_trans (List.length_take_le _ _) (by have := h.2; omega)⟩
theorem RowOK.snoc {row : List Int} {k : Int} (h : RowOK row) (h1 : 1 ≤ k) (h2 : k ≤ 100) (hl : row.length < 16) : RowOK (row ++ [k]) :=
  ⟨fun q hq => by
    rcases List.mem_append.1 hq with h3 | h3
    · exact h.1 q h3
    · simp at h3; subst h3; exact ⟨h1, h2⟩, by simp; omega⟩
theorem dropTop_len {row : List Int} {n : Nat} (h : n ≤ row.length) (hn : 0 < n) : (dropTop row n).length < row.length := by
  unfold dropTop; rw [List.length_take]; omega
theorem cellsK_mem {kinds : List Int} {a n k : Int} (h : cellsK kinds a n = some k) (h0 : 0 ≤ a) (h1 : 1 ≤ n) : k ∈ kinds := by
  unfold cellsK at h
  split at h
  · rename_i hle
    split at h
    · simp only [Option.some.injEq] at h
      have hlt : a.toNat < kinds.length := by unfold il at hle; omega
      rw [← h, List.getD_eq_getElem?_getD, List.getElem?_eq_getElem hlt]
      exact List.getElem_mem hlt
    · cases h
  · cases h
theorem operS_ok {x : Ins} {row r : List Int} (h : operS x row = some r) (hr : RowOK row) : RowOK r := by
  unfold operS at h
  split at h
  · split at h
    · cases h
    · rename_i hl
      rw [Option.map_eq_some_iff] at h
      obtain ⟨t, ht, rfl⟩ := h
      have hlt := dropTop_len (row := row) (n := 1) (by omega) (by omega)
      have := hr.2
      rcases unTy_bd ht with rfl | rfl <;> exact (hr.drop 1).snoc (by simp [kindOf]) (by simp [kindOf]) (by omega)
  · split at h
    · cases h
    · rename_i hl
      rw [Option.map_eq_some_iff] at h
      obtain ⟨t, ht, rfl⟩ := h
      have hlt := dropTop_len (row := row) (n := 2) (by omega) (by omega)
      have := hr.2
      rcases binTy_bd ht with rfl | rfl <;> exact (hr.drop 2).snoc (by simp [kindOf]) (by simp [kindOf]) (by omega)
theorem nextS_ok {s : Shp} {x : Ins} {row r : List Int} (h : nextS s x row = some r) (hr : RowOK row) (hs : shapeB s.ctors s.kinds s.lo s.hi = true) (ha : rightB x = true) : RowOK r := by
  have hc : il s.ctors ≤ 4 := by unfold shapeB at hs; simp only [Bool.and_eq_true, decide_eq_true_eq] at hs; omega
  have hk : ∀ k ∈ s.kinds, 1 ≤ k ∧ k ≤ 100 := by
    unfold shapeB at hs
    simp only [Bool.and_eq_true] at hs
    intro k hk
    have := List.all_eq_true.1 hs.2 k hk
    rw [kind_eq] at this
    have := withinB_iff.1 this
    omega
  unfold nextS at h
  split at h
  · split at h
    · rename_i h1 h2
      simp only [Bool.and_eq_true, decide_eq_true_eq] at h2
      cases h
      have := h2.1.1
      rw [kind_eq] at this
      have := withinB_iff.1 this
      exact hr.snoc (by omega) (by omega) h2.2
    · cases h
  · split at h
    · exact operS_ok h hr
    · split at h
      · split at h
        · cases h; exact hr.drop 1
        · cases h
      · split at h
        · cases h; exact hr
        · split at h
          · split at h
            · cases h; exact ⟨by simp, by simp⟩
            · cases h
          · rename_i h1 h4 h7 h6 h10
            unfold memS at h
            split at h
            · cases h
            · rename_i k hck
              have hab : 0 ≤ x.a := by
                rw [right_eq] at ha
                simp only [Bool.and_eq_true] at ha
                obtain ⟨⟨⟨_, q2⟩, _⟩, _⟩ := ha
                unfold firstB at q2
                rw [if_neg h1, if_neg (by omega), if_neg (by omega), if_neg h10] at q2
                exact (withinB_iff.1 q2).1
              have hkk := hk k (cellsK_mem hck hab (by omega))
              split at h
              · split at h
                · cases h; exact hr.snoc hkk.1 hkk.2 ‹_›
                · cases h
              · split at h
                · split at h
                  · rename_i he
                    cases h
                    have := ends_len he
                    simp only [il, List.length_singleton] at this
                    have hlt := dropTop_len (row := row) (n := 1) (by omega) (by omega)
                    have := hr.2
                    exact (hr.drop 1).snoc hkk.1 hkk.2 (by omega)
                  · cases h
                · split at h
                  · split at h
                    · cases h; exact hr.drop 1
                    · cases h
                  · split at h
                    · cases h; exact hr.drop 2
                    · cases h


def KR (M : List (List D)) (i : Int) (K : Known) : Prop := ∃ L, M = encM L ∧ (∀ m : Int, i ≤ m → lk L m = K m.toNat) ∧ ∀ m row, K m = some row → RowOK row
def inner (s : Shp) (n i : Nat) (rest : List Ins) (row' : List Int) (to : List Int) (K : Known) : Int × Bool := match putAll row' to K with
  | none => (i, false)
  | some K' => checkGo s n (i + 1) rest K'
theorem leadsS_bd {n i : Nat} {x : Ins} {T : List Int} (h : leadsS n i x = some T) : (∀ t ∈ T, (i : Int) < t ∧ t < n) ∧ T.length ≤ 2 := by
  unfold leadsS at h
  split at h
  · split at h
    · cases h; exact ⟨by simp, by simp⟩
    · cases h
  · have hl : (if x.op = 6 then [x.a] else if x.op = 7 then [(i : Int) + 1, x.a] else [(i : Int) + 1]).length ≤ 2 := by
      repeat' split
      all_goals simp
    generalize (if x.op = 6 then [x.a] else if x.op = 7 then [(i : Int) + 1, x.a] else [(i : Int) + 1]) = to at h hl
    simp only at h
    by_cases hall : (to.all fun m => decide ((i : Int) < m) && decide (m < (n : Int))) = true
    · rw [if_pos hall] at h
      cases h
      refine ⟨fun t ht => ?_, hl⟩
      have := List.all_eq_true.1 hall t ht
      simpa using this
    · rw [if_neg hall] at h; cases h
theorem cdrop {l : List Ins} {i : Nat} (h : i < l.length) : l.drop i = l.getD i default :: l.drop (i + 1) := by
  rw [List.drop_eq_getElem_cons h]; simp [h]
theorem cl_lt {l : List Ins} {i : Int} (h0 : 0 ≤ i) (h : i < cl l) : i.toNat < l.length := by unfold cl at h; omega
theorem KR.put {L : List (Int × List Int)} {i t : Int} {K : Known} {v : List Int} (h : ∀ m : Int, i ≤ m → lk L m = K m.toNat) (h2 : ∀ m row, K m = some row → RowOK row) (ht : i ≤ t) (hi : 0 ≤ i) (hv : RowOK v) : KR (encM (putL L t v)) i (fun m => if m = t.toNat then some v else K m) := by
  refine ⟨_, rfl, fun m hm => ?_, fun m row hm => ?_⟩
  · rw [lk_put]
    by_cases he : m = t
    · subst he; rw [if_pos rfl]; simp
    · rw [if_neg he, h m hm]; simp only; rw [if_neg (by omega)]
  · simp only at hm
    split at hm
    · cases hm; exact hv
    · exact h2 m row hm
/-- What is right of an instruction of a code that may be run. -/
structure AheadOK (s : Shp) (n i : Int) (x : Ins) : Prop where
  last : x.op = 10 ↔ i = n - 1
  jump : x.op = 6 ∨ x.op = 7 → i < x.a ∧ x.a < n
  cell : x.op = 2 ∨ x.op = 3 → 0 ≤ x.a ∧ x.a < il s.kinds
  free : x.op = 3 ∨ x.op = 9 → ¬ (s.lo ≤ x.a ∧ x.a < s.hi)
theorem step_ok {s : Shp} {n i : Nat} {x : Ins} {row row' to : List Int} (hr : rightB x = true) (hn : nextS s x row = some row') (hl : leadsS n i x = some to) : AheadOK s n i x := by
  have hb := leadsS_bd hl
  rw [right_eq] at hr
  simp only [Bool.and_eq_true] at hr
  obtain ⟨⟨⟨hop, hf⟩, _⟩, _⟩ := hr
  have hop := withinB_iff.1 hop
  have hto : x.op ≠ 10 → to = (if x.op = 6 then [x.a] else if x.op = 7 then [(i : Int) + 1, x.a] else [(i : Int) + 1]) := by
    intro h
    unfold leadsS at hl
    rw [if_neg h] at hl
    generalize (if x.op = 6 then [x.a] else if x.op = 7 then [(i : Int) + 1, x.a] else [(i : Int) + 1]) = to2 at hl ⊢
    simp only at hl
    by_cases hall : (to2.all fun m => decide ((i : Int) < m) && decide (m < (n : Int))) = true
    · rw [if_pos hall] at hl; cases hl; rfl
    · rw [if_neg hall] at hl; cases hl
  have ha : ∀ (h : x.op = 2 ∨ x.op = 3 ∨ x.op = 8 ∨ x.op = 9), 0 ≤ x.a ∧ ∃ k, cellsK s.kinds x.a (max 1 x.b) = some k := by
    intro h
    unfold firstB at hf
    rw [if_neg (by omega), if_neg (by omega), if_neg (by omega), if_neg (by omega)] at hf
    refine ⟨(withinB_iff.1 hf).1, ?_⟩
    unfold nextS at hn
    rw [if_neg (by omega), if_neg (by omega), if_neg (by omega), if_neg (by omega), if_neg (by omega)] at hn
    unfold memS at hn
    split at hn
    · cases hn
    · exact ⟨_, ‹_›⟩
  refine ⟨⟨fun h => ?_, fun h => ?_⟩, fun h => ?_, fun h => ?_, fun h => ?_⟩
  · unfold leadsS at hl
    rw [if_pos h] at hl
    split at hl
    · omega
    · cases hl
  · refine Classical.byContradiction fun hne => ?_
    have := hto hne
    have hmem : ∃ t, t ∈ to := by
      rw [this]; repeat' split
      all_goals exact ⟨_, List.mem_cons_self⟩
    obtain ⟨t, ht⟩ := hmem
    have := hb.1 t ht
    omega
  · have := hto (by omega)
    have hm : x.a ∈ to := by
      rw [this]
      rcases h with h | h
      · rw [if_pos h]; simp
      · rw [if_neg (by omega), if_pos h]; simp
    exact hb.1 _ hm
  · obtain ⟨h0, k, hk⟩ := ha (by omega)
    refine ⟨h0, ?_⟩
    unfold cellsK at hk
    split at hk
    · omega
    · cases hk
  · obtain ⟨h0, k, hk⟩ := ha (by omega)
    unfold nextS at hn
    rw [if_neg (by omega), if_neg (by omega), if_neg (by omega), if_neg (by omega), if_neg (by omega)] at hn
    unfold memS at hn
    rw [hk] at hn
    simp only at hn
    rw [if_neg (by omega), if_neg (by omega)] at hn
    have hfx : fixedB s.lo s.hi x.a (max 1 x.b) = false := by
      rcases h with h | h
      · rw [if_pos h] at hn
        split at hn
        · rename_i q; simp only [Bool.and_eq_true, Bool.not_eq_true'] at q; exact q.2
        · cases hn
      · rw [if_neg (by omega)] at hn
        split at hn
        · rename_i q; simp only [Bool.and_eq_true, Bool.not_eq_true'] at q; exact q.2
        · cases hn
    unfold fixedB at hfx
    simp only [Bool.and_eq_false_iff, decide_eq_false_iff_not] at hfx
    omega
theorem go_ok {s : Shp} {n : Nat} : ∀ (rest : List Ins) (i : Nat) (K : Known) (r : Int), checkGo s n i rest K = (r, true) → i + rest.length = n → r = n ∧ ∀ j, j < rest.length → AheadOK s n ((i + j : Nat) : Int) (rest.getD j default)
  | [], i, K, r, h, hl => by unfold checkGo at h; cases h; exact ⟨rfl, by simp⟩
  | x :: rest, i, K, r, h, hl => by
    unfold checkGo at h
    cases hk : K i with
    | none => rw [hk] at h; cases h
    | some row =>
      rw [hk] at h
      simp only at h
      cases hr : rightB x with
      | false => rw [hr] at h; cases h
      | true =>
        rw [hr] at h
        simp only [if_true] at h
        cases hn : nextS s x row with
        | none => rw [hn] at h; cases h
        | some row' =>
          rw [hn] at h
          simp only at h
          cases hq : leadsS n i x with
          | none => rw [hq] at h; cases h
          | some to =>
            rw [hq] at h
            simp only at h
            cases hp : putAll row' to K with
            | none => rw [hp] at h; cases h
            | some K' =>
              rw [hp] at h
              obtain ⟨h1, h2⟩ := go_ok rest (i + 1) K' r h (by simp at hl; omega)
              refine ⟨h1, fun j hj => ?_⟩
              cases j with
              | zero => exact step_ok hr hn hq
              | succ j =>
                have := h2 j (by simpa using hj)
                rw [show i + (j + 1) = i + 1 + j by omega]
                exact this
theorem go_range {s : Shp} {n : Nat} : ∀ (rest : List Ins) (i : Nat) (K : Known), i + rest.length = n → 0 ≤ (checkGo s n i rest K).1 ∧ (checkGo s n i rest K).1 ≤ n
  | [], i, K, hl => by unfold checkGo; exact ⟨by simp, by simp⟩
  | x :: rest, i, K, hl => by
    have hi : 0 ≤ (i : Int) ∧ (i : Int) ≤ n := by simp at hl; omega
    unfold checkGo
    cases hk : K i with
    | none => exact hi
    | some row =>
      simp only
      cases hr : rightB x with
      | false => exact hi
      | true =>
        simp only [if_true]
        cases hn : nextS s x row with
        | none => exact hi
        | some row' =>
          simp only
          cases hq : leadsS n i x with
          | none => exact hi
          | some to =>
            simp only
            cases hp : putAll row' to K with
            | none => exact hi
            | some K' => exact go_range rest (i + 1) K' (by simp at hl; omega)
theorem check_range (s : Shp) (code : List Ins) : 0 ≤ (checkS s code).1 ∧ (checkS s code).1 ≤ cl code := by
  unfold checkS
  split
  · have := go_range (s := s) (n := code.length) code 0 (fun m => if m = 0 then some [] else none) (by simp)
    unfold cl; exact this
  · exact ⟨Int.le_refl _, cl_nonneg _⟩
theorem check_ok {s : Shp} {code : List Ins} (h : (checkS s code).2 = true) : (checkS s code).1 = cl code ∧ ∀ i : Int, 0 ≤ i → i < cl code → AheadOK s (cl code) i (code.getD i.toNat default) := by
  unfold checkS at *
  split at h
  · rename_i hc
    rw [if_pos hc]
    obtain ⟨h1, h2⟩ := go_ok code 0 _ _ (Prod.ext rfl h) (by simp)
    refine ⟨h1, fun i h0 hi => ?_⟩
    have := h2 i.toNat (cl_lt h0 hi)
    rw [Nat.zero_add, Int.toNat_of_nonneg h0] at this
    exact this
  · cases h
end Go.Vm
end

section
namespace Go.Vm
def KOK (L : List (Int × List Int)) (i : Nat) (K : Known) : Prop := (∀ m : Int, (i : Int) ≤ m → lk L m = K m.toNat) ∧ ∀ m row, K m = some row → RowOK row
theorem KOK.row {L : List (Int × List Int)} {i : Nat} {K : Known} (h : KOK L i K) {m : Int} {row : List Int} (hm : (i : Int) ≤ m) (hl : lk L m = some row) : RowOK row := h.2 _ row (by rw [← h.1 m hm]; exact hl)
theorem KOK.put {L : List (Int × List Int)} {i : Nat} {K : Known} (h : KOK L i K) {t : Int} {v : List Int} (ht : (i : Int) ≤ t) (hv : RowOK v) : KOK (putL L t v) i (fun m => if m = t.toNat then some v else K m) := by
  refine ⟨fun m hm => ?_, fun m row hm => ?_⟩
  · rw [lk_put]
    by_cases he : m = t
    · subst he; rw [if_pos rfl]; simp
    · rw [if_neg he, h.1 m hm]; simp only; rw [if_neg (by omega)]
  · simp only at hm
    split at hm
    · cases hm; exact hv
    · exact h.2 m row hm
theorem put_loop {b : List D → Option (List D ⊕ (List D ⊕ PRes))} (T : List Int) (row' : List Int) (mkI : Nat → List (Int × List Int) → List D) (mkO : List (Int × List Int) → List D) (bad : PRes) (i : Nat)
    (hb : ∀ (j : Nat) L t, T[j]? = some t → (∀ was, lk L t = some was → was.length ≤ 16) → b (mkI j L) = match lk L t with
      | some was => if was = row' then some (.inl (mkI (j + 1) (putL L t row'))) else some (.inr (.inr bad))
      | none => some (.inl (mkI (j + 1) (putL L t row'))))
    (hend : ∀ L, b (mkI T.length L) = some (.inr (.inl (mkO L)))) (hT : ∀ t ∈ T, (i : Int) ≤ t) (hr : RowOK row') :
    ∀ (rest : List Int) (j : Nat) (L : List (Int × List Int)) (K : Known), T.drop j = rest → j ≤ T.length → KOK L i K →
      ∃ out, loopF b (mkI j L) = some out ∧ match putAll row' rest K with
        | none => out = .inr bad
        | some K' => ∃ L', out = .inl (mkO L') ∧ KOK L' i K' := by
  intro rest
  induction rest with
  | nil =>
    intro j L K hd hj hK
    have : j = T.length := by have := congrArg List.length hd; simp at this; omega
    subst this
    rw [loopF_eq, hend]
    exact ⟨_, rfl, L, rfl, hK⟩
  | cons t ts ih =>
    intro j L K hd hj hK
    have hx : T[j]? = some t := by
      have := congrArg (fun r => r[0]?) hd
      simpa using this
    have hlt := (List.getElem?_eq_some_iff.1 hx).1
    have hts : T.drop (j + 1) = ts := by
      have := congrArg List.tail hd
      simpa using this
    have hti := hT t (List.mem_of_getElem? hx)
    have h1 := hb j L t hx (fun was hw => (hK.row hti hw).2)
    have hKt := hK.1 t hti
    unfold putAll
    rw [loopF_eq, h1, hKt]
    cases hq : K t.toNat with
    | none => exact ih (j + 1) _ _ hts (by omega) (hK.put hti hr)
    | some was =>
      simp only
      by_cases he : was = row'
      · rw [if_pos he, if_pos he]
        exact ih (j + 1) _ _ hts (by omega) (hK.put hti hr)
      · rw [if_neg he, if_neg he]
        exact ⟨_, rfl, rfl⟩
def badR (i : Nat) : PRes := .val [.int .i64 (i : Int), .bool false]
def StepOK (s : Shp) (n : Nat) (mk : Nat → List (Int × List Int) → List D) (r : Option (List D ⊕ PRes)) (i : Nat) (L : List (Int × List Int)) (x : Ins) : Prop := match lk L i with
  | none => r = some (.inr (badR i))
  | some row => if rightB x then (match nextS s x row with
    | none => r = some (.inr (badR i))
    | some row' => match leadsS n i x with
      | none => r = some (.inr (badR i))
      | some T => ∀ K : Known, KOK L (i + 1) K → ∃ out, r = some out ∧ match putAll row' T K with
        | none => out = .inr (badR i)
        | some K' => ∃ L', out = .inl (mk (i + 1) L') ∧ KOK L' (i + 1) K') else r = some (.inr (badR i))
def chR (p : Int × Bool) : PRes := .val [.int .i64 p.1, .bool p.2]
theorem check_loop {b : List D → Option (List D ⊕ PRes)} (s : Shp) (code : List Ins) (mk : Nat → List (Int × List Int) → List D)
    (hb : ∀ (i : Nat) L x, code[i]? = some x → (∀ row, lk L i = some row → RowOK row) → StepOK s code.length mk (b (mk i L)) i L x)
    (hend : ∀ L, b (mk code.length L) = some (.inr (.val [.int .i64 (code.length : Int), .bool true]))) :
    ∀ (rest : List Ins) (i : Nat) (L : List (Int × List Int)) (K : Known), code.drop i = rest → i ≤ code.length → KOK L i K → loopF b (mk i L) = some (chR (checkGo s code.length i rest K)) := by
  intro rest
  induction rest with
  | nil =>
    intro i L K hd hi hK
    have : i = code.length := by have := congrArg List.length hd; simp at this; omega
    subst this
    rw [loopF_eq, hend]
    rfl
  | cons x xs ih =>
    intro i L K hd hi hK
    have hx : code[i]? = some x := by
      have := congrArg (fun r => r[0]?) hd
      simpa using this
    have hlt := (List.getElem?_eq_some_iff.1 hx).1
    have hxs : code.drop (i + 1) = xs := by
      have := congrArg List.tail hd
      simpa using this
    have hs := hb i L x hx (fun row h => hK.row (Int.le_refl _) h)
    have hKi := hK.1 i (Int.le_refl _)
    rw [Int.toNat_natCast] at hKi
    unfold StepOK at hs
    rw [hKi] at hs
    unfold checkGo
    rw [loopF_eq]
    cases hq : K i with
    | none => rw [hq] at hs; rw [show b (mk i L) = _ from hs]; rfl
    | some row =>
      rw [hq] at hs
      simp only at hs ⊢
      by_cases hr : rightB x = true
      · rw [if_pos hr] at hs ⊢
        cases hn : nextS s x row with
        | none => rw [hn] at hs; rw [show b (mk i L) = _ from hs]; rfl
        | some row' =>
          rw [hn] at hs
          simp only at hs ⊢
          cases hl : leadsS code.length i x with
          | none => rw [hl] at hs; rw [show b (mk i L) = _ from hs]; rfl
          | some T =>
            rw [hl] at hs
            simp only at hs ⊢
            obtain ⟨out, h1, h2⟩ := hs K ⟨fun m hm => hK.1 m (by omega), hK.2⟩
            rw [h1]
            cases hp : putAll row' T K with
            | none => rw [hp] at h2; have h2 : out = _ := h2; subst h2; rfl
            | some K' =>
              rw [hp] at h2
              obtain ⟨L', rfl, hK'⟩ := h2
              exact ih (i + 1) L' K' hxs (by omega) hK'
      · rw [if_neg hr] at hs ⊢
        rw [show b (mk i L) = _ from hs]; rfl
end Go.Vm
end

section
namespace Go.Vm
def look {α : Type} (d : α) : List (Nat × α) → Nat → α
  | [], _ => d
  | (k, x) :: r, n => match Nat.beq k n with
    | true => x
    | false => look d r n
def loopTab : List (Nat × List (Nat × LAn)) := [(4, [(0, { slots := [(1, none), (2, none), (5, none), (7, none)] })]),
  (5, [(0, { slots := [(1, none), (7, none), (9, none), (10, none), (11, none)] })]),
  (8, [(0, { slots := [(0, none), (1, none), (5, none)] })]),
  (12, [(2, { slots := [(1, none), (6, none), (7, none), (8, none), (12, none), (36, none), (37, none), (38, none), (79, none), (80, none), (81, none)] }), (0, { slots := [(1, none), (6, none), (7, none), (36, none), (37, none), (38, none)] })]),
  (13, [(2, { slots := [(1, none), (2, none), (6, none), (7, none), (8, none), (10, none), (12, none), (13, none)] }), (0, { slots := [(1, none), (2, none), (6, none), (7, none), (8, none)] })]),
  (15, [(2, { slots := [(1, none), (4, none)] }), (0, { slots := [(1, none), (3, none)] })]),
  (17, [(2, { slots := [(3, none), (4, none), (19, none), (20, none), (21, none)] })]),
  (18, [(2, { slots := [(0, none), (3, none), (4, none), (5, none), (6, none), (7, none), (8, none)] }), (0, { slots := [(0, none), (3, none), (4, none)] })]),
  (19, [(0, { slots := [(0, none), (1, none), (5, none)] })]),
  (22, [(0, { slots := [(1, none), (2, none), (5, none)] })]),
  (23, [(0, { slots := [(0, none), (1, none), (2, none), (9, none), (10, none)], dat := [(0,1,38),(2,1,38),(1,1,38),(3,1,38)] })]),
  (24, [(0, { slots := [(0, none), (3, none)] })]),
  (25, [(2, { slots := [(0, none), (3, none), (4, none)] }), (0, { slots := [(0, none), (3, none)] })]),
  (26, [(0, { slots := [(0, none), (3, none)] })]),
  (29, [(6, { slots := [(1, none), (2, none), (3, none), (6, none), (63, none), (64, none), (65, none)] }), (4, { slots := [(1, none), (2, none), (3, none), (6, none), (47, none), (48, none), (49, none)] }), (2, { slots := [(1, none), (2, none), (3, none), (6, none), (31, none), (32, none), (33, none)] }), (0, { slots := [(1, none), (2, none), (3, none), (14, none), (15, none), (16, none)] })]),
  (30, [(6, { slots := [(1, none), (2, none), (3, none), (7, none)] }), (4, { slots := [(1, none), (2, none), (3, none), (6, none)] }), (2, { slots := [(1, none), (2, none), (3, none), (5, none)] }), (0, { slots := [(1, none), (2, none), (3, none), (4, none)], own := [(2,0,22),(2,1,22)] })]),
  (34, [(0, { slots := [(0, none), (1, none), (12, none), (13, none)] })]),
  (37, [(0, { slots := [(0, none), (1, none), (5, none)] })]),
  (45, [(2, { slots := [(0, none), (3, none), (4, none), (5, none)] }), (0, { slots := [(0, none), (3, none)] })]),
  (48, [(0, { slots := [(0, none), (1, none), (5, none), (6, none)] })]),
  (51, [(0, { slots := [(1, none), (2, none), (6, none), (8, none), (9, none), (10, none), (54, none), (55, none), (56, none)] })]),
  (53, [(0, { slots := [(0, none), (1, none), (5, none)] })]),
  (54, [(0, { slots := [(1, none), (2, none), (4, none), (5, none)] })]),
  (57, [(0, { slots := [(0, none), (3, none), (5, none)], sole := [0] })]),
  (75, [(0, { slots := [(0, none), (1, none), (7, none), (8, none)] })]),
  (76, [(0, { slots := [(0, none), (1, none), (4, none), (5, none)] })]),
  (79, [(0, { slots := [(0, none), (5, none), (6, none), (7, none)] })]),
  (86, [(0, { slots := [(5, none), (7, none), (8, none), (26, none), (27, none), (28, none)] })]),
  (87, [(0, { slots := [(3, none), (6, none), (7, none), (8, none)] })]),
  (88, [(2, { slots := [(2, none), (5, none), (6, none), (7, none), (8, none), (30, none), (31, none)] }), (0, { slots := [(2, none), (6, none), (7, none), (8, none)] })]),
  (89, [(0, { slots := [(1, none), (7, none), (8, none), (9, none)] })]),
  (91, [(0, { slots := [(3, none), (6, none), (7, none), (8, none)] })]),
  (94, [(2, { slots := [(6, none), (25, none), (26, none), (27, none)] }), (0, { slots := [(0, none), (3, none), (9, none), (10, none), (11, none)] })]),
  (102, [(0, { slots := [(1, none), (2, none), (3, none), (7, none)] })]),
  (103, [(0, { slots := [(1, none), (2, none), (3, none), (7, none)] })]),
  (105, [(0, { slots := [(0, none), (1, none), (2, none), (3, none), (8, none), (9, none)] })]),
  (109, [(0, { slots := [(2, none), (5, none), (20, none), (21, none), (22, none)] })]),
  (112, [(0, { slots := [(2, none), (5, none), (6, none), (7, none), (18, none), (19, none), (20, none)] })]),
  (113, [(0, { slots := [(3, none), (8, none), (9, none), (10, none)] })]),
  (114, [(0, { slots := [(2, none), (3, none), (4, none), (18, none), (19, none), (20, none)] })]),
  (115, [(4, { slots := [(55, none), (56, none), (57, none)] }), (2, { slots := [(2, none), (4, none), (45, none), (46, none), (47, none)] }), (0, { slots := [(2, none), (3, none), (4, none), (12, none), (13, none), (14, none)] })]),
  (119, [(2, { slots := [(0, none), (1, none), (2, none), (6, none), (7, none)] }), (0, { slots := [(0, none), (1, none), (2, none), (6, none)] })]),
  (120, [(2, { slots := [(0, none), (6, none), (7, none), (10, none)] }), (0, { slots := [(0, none), (6, none), (7, none), (8, none), (9, none)] })]),
  (121, [(0, { slots := [(0, none), (1, none), (6, none), (7, none), (8, none), (9, none)] })]),
  (123, [(0, { slots := [(0, none), (6, none), (7, none)] })]),
  (124, [(6, { slots := [(0, none), (1, none), (2, none), (7, none), (8, none), (10, none)] }), (4, { slots := [(0, none), (1, none), (2, none), (7, none), (8, none), (9, none)] }), (2, { slots := [(0, none), (1, none), (2, none), (7, none), (8, none)] }), (0, { slots := [(0, none), (1, none), (2, none), (7, none), (8, none)] })]),
  (126, [(4, { slots := [(0, none), (1, none), (9, none), (10, none)] }), (2, { slots := [(0, none), (1, none), (9, none), (10, none)] }), (0, { slots := [(0, none), (1, none), (9, none), (10, none)] })]),
  (127, [(8, { slots := [(0, none), (1, none), (10, none), (11, none)] }), (6, { slots := [(0, none), (1, none), (10, none), (11, none)] }), (4, { slots := [(0, none), (1, none), (10, none), (11, none)] }), (2, { slots := [(0, none), (1, none), (10, none), (11, none)] }), (0, { slots := [(0, none), (1, none), (10, none), (11, none)] })]),
  (132, [(0, { slots := [(3, none), (6, none), (7, none), (8, none)] })]),
  (134, [(0, { slots := [(1, none), (2, none), (6, none), (22, none), (23, none), (51, none)] })]),
  (139, [(0, { slots := [(0, none), (1, none), (5, none), (6, none), (9, none), (10, none)] })]),
  (141, [(0, { slots := [(1, none), (5, none), (10, none), (11, none)] })]),
  (146, [(1, { slots := [(2, none), (4, none), (5, none), (59, none), (60, none)] })]),
  (148, [(0, { slots := [(0, none), (2, none), (3, none), (8, none)] })]),
  (158, [(2, { slots := [(6, none), (25, none), (26, none), (27, none)] }), (0, { slots := [(0, none), (3, none), (9, none), (10, none), (11, none)] })]),
  (159, [(0, { slots := [(0, none), (1, none), (7, none), (8, none)] })]),
  (161, [(0, { slots := [(0, none), (1, none), (12, none), (13, none)] })]),
  (167, [(2, { slots := [(2, none), (4, none), (72, none), (73, none), (74, none)] }), (0, { slots := [(2, none), (3, none), (4, none), (39, none), (40, none), (41, none)] })]),
  (169, [(0, { slots := [(2, none), (4, none), (5, none), (7, none), (10, none), (11, none)] })]),
  (173, [(0, { slots := [(0, none), (6, none), (7, none), (8, none)] })]),
  (174, [(0, { slots := [(0, none), (2, none), (12, none), (13, none), (14, none)] })]),
  (177, [(0, { slots := [(2, none), (3, none), (4, none), (6, none), (14, none), (15, none), (16, none)] })]),
  (179, [(2, { slots := [(91, none), (92, none), (93, none)] }), (0, { slots := [(2, none), (4, none), (5, none), (7, none), (8, none), (9, none), (10, none), (31, none), (32, none), (33, none)] })]),
  (180, [(1, { slots := [(2, none), (4, none), (8, none), (50, none), (51, none), (52, none)] })]),
  (181, [(2, { slots := [(2, none), (3, none), (6, none), (8, none), (23, none), (24, none), (25, none), (35, none), (36, none), (37, none)] }), (0, { slots := [(2, none), (3, none), (6, none), (23, none), (24, none), (25, none)] })]),
  (182, [(0, { slots := [(0, none), (1, none), (7, none), (8, none)] })]),
  (185, [(1, { slots := [(2, none), (18, none), (19, none), (20, none)] })])]
def inlTab : List (Nat × List Nat) := [(17, [43]), (20, [48, 47, 46, 45]), (23, [50]), (29, [54]), (30, [57]), (46, [77, 78]), (50, [80, 81, 82, 83, 84]), (77, [104]), (78, [105]), (83, [80, 82]), (84, [80, 81, 82]), (94, [116]), (105, [119])]
def mintTab : List (Nat × List Nat) := []
def oslTab : List (Nat × List Nat) := [(45, [28, 56]), (48, [38])]
def stopTab : List (Nat × List Nat) := []
def deadTab : List (Nat × List Nat) := [(105, [120, 121, 122, 123, 124, 126, 127, 105])]
def ownTab : List (Nat × List (Nat × List (Nat × Nat))) := [(29, [(3, [(0, 22), (1, 22)])]), (30, [(3, [(0, 22), (1, 22)])]), (104, [(2, [(0, 22)])])]
def cutTab : List (Nat × List (Nat × Option LAn)) := [(20, [(22, some { slots := [(2, none), (3, none), (5, none), (6, none)], nb := 5 }), (28, some { slots := [(2, none), (3, none), (5, none), (6, none)], nb := 5 })]), (50, [(31, some { slots := [(0, none), (3, none), (4, some (.d (.int .i64))), (5, some (.d .bool))] }), (58, some { slots := [(0, none), (3, none), (6, some (.d (.int .i64))), (7, some (.d .bool))] })]), (83, [(7, some { slots := [(0, none), (3, none), (4, some (.d (.int .i64))), (5, some (.d .bool))] }), (22, some { slots := [(0, none), (3, none), (4, none), (8, some (.d (.int .i64))), (9, some (.d .bool))] }), (28, some { slots := [(0, none), (6, some (.d (.int .i64))), (7, some (.d (.int .i64)))] })]), (84, [(7, some { slots := [(0, none), (3, none), (4, some (.d (.int .i64))), (5, some (.d .bool))] }), (19, some { slots := [(0, none), (3, none), (4, none), (5, some (.d .bool)), (6, some (.d (.int .i64)))] }), (22, some { slots := [(0, none), (3, none), (4, none), (6, some (.d (.int .i64)))] })])]
def rtTab : List (Nat × Option (List Nat)) := [(104, some [2])]
def noTurn : List Nat := [78, 105, 119]
def noLAn : LAn := { slots := [] }
def cs : FuncId → CfgT := fun f => { me := f, o := { inl := look [] inlTab f, mint := look [] mintTab f, osl := look [] oslTab f, dead := look [] deadTab f, own := look [] ownTab f, stop := look [] stopTab f }, loops := look noLAn (look [] loopTab f), cuts := look none (look [] cutTab f), turn := !(noTurn.contains f), rt := look none rtTab f }
end Go.Vm
end

section
namespace Go.Vm
open Go.Proofs
/-- What is known of functions from elsewhere: nothing. -/
def kn : FuncId → List V → Option PRes := fun _ _ => none
theorem kn_good : KGood Try.prog kn := fun _ _ _ _ h => by cases h
end Go.Vm
end

section
namespace Go.Vm
open Go.Proofs
noncomputable def cF (f : FuncId) (args : List V) : Option PRes := callF Try.prog cs kn f args
noncomputable def eF : Env := envF (callF Try.prog cs kn)
theorem eF_call (f : FuncId) (args : List V) : eF.call f args = cF f args := rfl
theorem eF_lp {α : Type} (b : List D → Option (List D ⊕ α)) (ds : List D) : eF.lp b ds = loopF b ds := rfl
theorem cOf {f : FuncId} {args : List V} {p : PRes} (hg : goodF Try.prog f = true) (hk : kn f args = none) (h : (funT sy Try.prog cs f args).run eF = some p) : cF f args = some p := callF_of hg hk h
theorem cOfE {α : Type} {f : FuncId} {args : List V} {p : α → PRes} (hg : goodF Try.prog f = true) (hk : kn f args = none) (h : ∃ x, (funT sy Try.prog cs f args).run eF = some (p x)) : ∃ x, cF f args = some (p x) := h.imp fun _ h => callF_of hg hk h
theorem cOfP {f : FuncId} {args : List V} {Q : PRes → Prop} (hg : goodF Try.prog f = true) (hk : kn f args = none) (h : ∃ p, (funT sy Try.prog cs f args).run eF = some p ∧ Q p) : ∃ p, cF f args = some p ∧ Q p := h.imp fun _ h => ⟨callF_of hg hk h.1, h.2⟩
theorem some_and {α : Type} {a : α} {Q : α → Prop} : (∃ p, some a = some p ∧ Q p) ↔ Q a := by simp
theorem decT {p : Prop} [Decidable p] (h : p) : decide p = true := decide_eq_true h
theorem decF {p : Prop} [Decidable p] (h : ¬ p) : decide p = false := decide_eq_false h
theorem irows_cell {la : List Int} {i : Int} (h0 : 0 ≤ i) (h1 : i < (la.length : Int)) : sy.cell (sy.row (irows la) i) 0 = some (.int .i64 (la.getD i.toNat 0)) := by
  rw [sy_row, irows_get _ _ (by omega)]; rfl
theorem irows_at {la : List Int} {i : Nat} {x : Int} (h : la[i]? = some x) : sy.cell (sy.row (irows la) (i : Int)) 0 = some (.int .i64 x) := by
  obtain ⟨h1, h2⟩ := getElem?_some_getD (d := 0) h
  rw [irows_cell (by omega) (by omega), Int.toNat_natCast, h1]
theorem inr_at {i n : Nat} (h : i < n) : decide (0 ≤ (i : Int) ∧ (i : Int) < (n : Int)) = true := decide_eq_true ⟨by omega, by omega⟩
theorem ilt_at {i n : Nat} (h : i < n) : decide ((i : Int) < (n : Int)) = true := decide_eq_true (by omega)
theorem ilt_self (n : Nat) : decide ((n : Int) < (n : Int)) = false := decide_eq_false (by omega)
theorem wrap_succ {i n : Nat} (h : i < n) (hn : n ≤ 1000000000000) : IntKind.i64.wrap ((i : Int) + 1) = (i : Int) + 1 := wrap_id (by omega) (by omega)
theorem mixedOrders : Try.prog.follows .mixedOrders = true := by kernel_rfl
end Go.Vm
end

section
namespace Go.Vm
/-! ### steps through a printed function whose data have known shapes -/
section
variable {α β : Type}
theorem st_bind {v : Option α} {f : α → Option β} {n : α} {p : β} (h : v = some n) (k : f n = some p) : v.bind f = some p := by rw [h]; exact k
theorem st_cut {X : Option (List D ⊕ α)} {K : List D → Option α} {ds : List D} {p : α} (h : X = some (.inl ds)) (k : K ds = some p) : cutO X K = some p := by rw [h]; exact k
theorem st_t {c : Bool} {a b : Option α} {p : α} (h : c = true) (k : a = some p) : (bif c then a else b) = some p := by rw [h]; exact k
theorem st_f {c : Bool} {a b : Option α} {p : α} (h : c = false) (k : b = some p) : (bif c then a else b) = some p := by rw [h]; exact k
theorem st_opI {v : Option D} {k : IntKind} {n : Int} (h : v = some (.int k n)) : opI v k = some n := by rw [h]; simp [opI]
theorem st_opB {v : Option D} {n : Bool} (h : v = some (.bool n)) : opB v = some n := by rw [h]; rfl
theorem st_opL {v : Option D} {sz : Nat} {n : List (List D)} (h : v = some (.sl sz n)) : opL v sz = some n := by rw [h]; simp [opL]
/-- What a round's answer leads to. -/
noncomputable def lpK (b : List D → Option (List D ⊕ α)) : List D ⊕ α → Option α
  | .inl ds => eF.lp b ds
  | .inr a => some a
theorem st_lp {b : List D → Option (List D ⊕ α)} {ds : List D} {r : List D ⊕ α} {p : α} (h : b ds = some r) (k : lpK b r = some p) : eF.lp b ds = some p := by
  show loopF b ds = some p
  rw [loopF_eq, h]
  cases r with
  | inl d => exact k
  | inr a => exact k
theorem st_inl {b : List D → Option (List D ⊕ α)} {ds : List D} {p : α} (k : eF.lp b ds = some p) : lpK b (.inl ds) = some p := k
theorem st_inr {b : List D → Option (List D ⊕ α)} {a : α} : lpK b (.inr a) = some a := rfl
theorem st_some {a : α} : some a = some a := rfl
end
end Go.Vm
end

section
set_option maxRecDepth 1000000
set_option maxHeartbeats 0
namespace Go.Vm
open Go.Proofs
def g16 (A : Sy) (E : Env) : Option PRes :=
  (E.call 17 [(V.d (D.sl 4 [[(D.int IntKind.i64 1), (D.int IntKind.i64 2), (D.int IntKind.i64 0), (D.int IntKind.i64 0)], [(D.int IntKind.i64 7), (D.int IntKind.i64 3), (D.int IntKind.i64 0), (D.int IntKind.i64 0)], [(D.int IntKind.i64 6), (D.int IntKind.i64 3), (D.int IntKind.i64 0), (D.int IntKind.i64 0)], [(D.int IntKind.i64 10), (D.int IntKind.i64 0), (D.int IntKind.i64 0), (D.int IntKind.i64 0)]]))]).bind fun p1 =>
  (opI (A.cell p1.leaves 0) IntKind.i64).bind fun n3 =>
  some (PRes.val [(D.bool (A.ieq n3 4))])
theorem g16_eq (A : Sy) (E : Env) : (funT A Try.prog cs 16 []).run E = g16 A E  := by kernel_rfl
def g17 (A : Sy) (E : Env) (code_ : List (List D)) : Option PRes :=
  bif (A.ieq (A.rlen code_) 0) then
    some (PRes.val [(D.int IntKind.i64 0)])
  else
    bif (A.mkok (A.rlen code_) (A.rlen code_) 8) then
      E.lp (fun ds1 =>
        (opI (A.cell ds1 0) IntKind.i64).bind fun n2 =>
        (opI (A.cell ds1 1) IntKind.i64).bind fun n3 =>
        (opL (A.cell ds1 2) 4).bind fun l4 =>
        (opL (A.cell ds1 3) 1).bind fun l5 =>
        (opI (A.cell ds1 4) IntKind.i64).bind fun n6 =>
        (opL (A.cell ds1 5) 4).bind fun l7 =>
        (opI (A.cell ds1 6) IntKind.i64).bind fun n8 =>
        (opL (A.cell ds1 7) 4).bind fun l9 =>
        (opI (A.cell ds1 8) IntKind.i64).bind fun n10 =>
        (opB (A.cell ds1 9)).bind fun b11 =>
        (opL (A.cell ds1 10) 4).bind fun l12 =>
        (opI (A.cell ds1 11) IntKind.i64).bind fun n13 =>
        (opL (A.cell ds1 12) 4).bind fun l14 =>
        (opI (A.cell ds1 13) IntKind.i64).bind fun n15 =>
        bif (A.ilt n3 n2) then
          (E.call 20 [(V.d (D.sl 4 l4)), (V.d (D.int IntKind.i64 (A.wrap IntKind.i64 (A.sub (A.wrap IntKind.i64 (A.sub n6 1)) n3))))]).bind fun p16 =>
          (opL (A.cell p16.leaves 0) 1).bind fun l18 =>
          E.lp (fun ds19 =>
            (opI (A.cell ds19 0) IntKind.i64).bind fun n20 =>
            (opL (A.cell ds19 1) 1).bind fun l21 =>
            (opI (A.cell ds19 2) IntKind.i64).bind fun n22 =>
            (opI (A.cell ds19 3) IntKind.i64).bind fun n23 =>
            (opL (A.cell ds19 4) 4).bind fun l24 =>
            (opL (A.cell ds19 5) 1).bind fun l25 =>
            (opI (A.cell ds19 6) IntKind.i64).bind fun n26 =>
            (opL (A.cell ds19 7) 4).bind fun l27 =>
            (opI (A.cell ds19 8) IntKind.i64).bind fun n28 =>
            (opL (A.cell ds19 9) 4).bind fun l29 =>
            (opI (A.cell ds19 10) IntKind.i64).bind fun n30 =>
            (opB (A.cell ds19 11)).bind fun b31 =>
            (opL (A.cell ds19 12) 4).bind fun l32 =>
            (opI (A.cell ds19 13) IntKind.i64).bind fun n33 =>
            (opL (A.cell ds19 14) 4).bind fun l34 =>
            (opI (A.cell ds19 15) IntKind.i64).bind fun n35 =>
            bif (A.ilt n23 n22) then
              bif (A.inr n23 (A.rlen l21)) then
                (opI (A.cell (A.row l21 n23) 0) IntKind.i64).bind fun n36 =>
                bif (A.inr n20 (A.rlen l25)) then
                  (opI (A.cell (A.rown l25 (A.nat n20)) 0) IntKind.i64).bind fun n37 =>
                  bif (A.inr n36 (A.rlen l25)) then
                    (opI (A.cell (A.rown l25 (A.nat n36)) 0) IntKind.i64).bind fun n38 =>
                    bif (A.inr n20 (A.rlen l25)) then
                      bif (A.inrn (A.nat n20) l25) then
                        some (.inl [(D.int IntKind.i64 n20), (D.sl 1 l21), (D.int IntKind.i64 n22), (D.int IntKind.i64 (A.wrap IntKind.i64 (A.add n23 1))), (D.sl 4 l24), (D.sl 1 (A.rput l25 (A.nat n20) 0 [(D.int IntKind.i64 (A.imax n37 n38))])), (D.int IntKind.i64 n26), (D.sl 4 l27), (D.int IntKind.i64 n28), (D.sl 4 l29), (D.int IntKind.i64 n30), (D.bool b31), (D.sl 4 l32), (D.int IntKind.i64 n33), (D.sl 4 l34), (D.int IntKind.i64 n35)])
                      else
                        none
                    else
                      none
                  else
                    none
                else
                  none
              else
                none
            else
              bif (A.inr n20 (A.rlen l25)) then
                (opI (A.cell (A.rown l25 (A.nat n20)) 0) IntKind.i64).bind fun n39 =>
                bif (A.inr n20 (A.rlen l25)) then
                  bif (A.inrn (A.nat n20) l25) then
                    bif (A.bnot true) then
                      bif (A.inr 0 (A.rlen (A.rput l25 (A.nat n20) 0 [(D.int IntKind.i64 (A.wrap IntKind.i64 (A.add n39 1)))]))) then
                        (opI (A.cell (A.rown (A.rput l25 (A.nat n20) 0 [(D.int IntKind.i64 (A.wrap IntKind.i64 (A.add n39 1)))]) (A.nat 0)) 0) IntKind.i64).bind fun n40 =>
                        some (.inr (.inr (PRes.val [(D.int IntKind.i64 n40)])))
                      else
                        none
                    else
                      some (.inr (.inl [(D.int IntKind.i64 n2), (D.int IntKind.i64 (A.wrap IntKind.i64 (A.add n3 1))), (D.sl 4 l24), (D.sl 1 (A.rput l25 (A.nat n20) 0 [(D.int IntKind.i64 (A.wrap IntKind.i64 (A.add n39 1)))])), (D.int IntKind.i64 n26), (D.sl 4 l27), (D.int IntKind.i64 n28), (D.sl 4 l29), (D.int IntKind.i64 n30), (D.bool b31), (D.sl 4 l32), (D.int IntKind.i64 n33), (D.sl 4 l34), (D.int IntKind.i64 n35)]))
                  else
                    none
                else
                  none
              else
                none
          ) [(D.int IntKind.i64 (A.wrap IntKind.i64 (A.sub (A.wrap IntKind.i64 (A.sub n6 1)) n3))), (D.sl 1 l18), (D.int IntKind.i64 (A.rlen l18)), (D.int IntKind.i64 0), (D.sl 4 l4), (D.sl 1 l5), (D.int IntKind.i64 n6), (D.sl 4 l7), (D.int IntKind.i64 n8), (D.sl 4 l9), (D.int IntKind.i64 n10), (D.bool b11), (D.sl 4 l12), (D.int IntKind.i64 n13), (D.sl 4 l14), (D.int IntKind.i64 n15)]
        else
          bif (A.inr 0 (A.rlen l5)) then
            (opI (A.cell (A.rown l5 (A.nat 0)) 0) IntKind.i64).bind fun n41 =>
            some (.inr (PRes.val [(D.int IntKind.i64 n41)]))
          else
            none
      ) [(D.int IntKind.i64 (A.rlen code_)), (D.int IntKind.i64 0), (D.sl 4 code_), (D.sl 1 (A.rep (A.rlen code_) [(D.int IntKind.i64 0)])), (D.int IntKind.i64 (A.rlen code_)), (D.sl 4 code_), (D.int IntKind.i64 0), (D.sl 4 code_), (D.int IntKind.i64 (A.rlen code_)), (D.bool false), (D.sl 4 code_), (D.int IntKind.i64 (A.rlen code_)), (D.sl 4 code_), (D.int IntKind.i64 (A.rlen code_))]
    else
      none
theorem g17_eq (A : Sy) (E : Env) (code_ : List (List D)) : (funT A Try.prog cs 17 [V.d (D.sl 4 code_)]).run E = g17 A E code_ := by kernel_rfl
def g18 (A : Sy) (E : Env) (code_ : List (List D)) : Option PRes :=
  bif (A.mkok (A.rlen code_) (A.rlen code_) 8) then
    E.lp (fun ds1 =>
      (opL (A.cell ds1 0) 4).bind fun l2 =>
      (opI (A.cell ds1 1) IntKind.i64).bind fun n3 =>
      (opL (A.cell ds1 2) 1).bind fun l4 =>
      bif (A.ilt n3 (A.rlen l2)) then
        (E.call 21 [(V.d (D.sl 4 l2)), (V.d (D.int IntKind.i64 (A.wrap IntKind.i64 (A.sub (A.wrap IntKind.i64 (A.sub (A.rlen l2) 1)) n3))))]).bind fun p5 =>
        (opL (A.cell p5.leaves 0) 1).bind fun l7 =>
        E.lp (fun ds8 =>
          (opL (A.cell ds8 0) 4).bind fun l9 =>
          (opI (A.cell ds8 1) IntKind.i64).bind fun n10 =>
          (opI (A.cell ds8 2) IntKind.i64).bind fun n11 =>
          (opL (A.cell ds8 3) 1).bind fun l12 =>
          (opI (A.cell ds8 4) IntKind.i64).bind fun n13 =>
          (opI (A.cell ds8 5) IntKind.i64).bind fun n14 =>
          (opL (A.cell ds8 6) 1).bind fun l15 =>
          bif (A.ilt n14 (A.rlen l12)) then
            bif (A.inr n14 (A.rlen l12)) then
              (opI (A.cell (A.row l12 n14) 0) IntKind.i64).bind fun n16 =>
              bif (A.inr n16 (A.rlen l15)) then
                (opI (A.cell (A.rown l15 (A.nat n16)) 0) IntKind.i64).bind fun n17 =>
                some (.inl [(D.sl 4 l9), (D.int IntKind.i64 n10), (D.int IntKind.i64 n11), (D.sl 1 l12), (D.int IntKind.i64 (A.imax n13 n17)), (D.int IntKind.i64 (A.wrap IntKind.i64 (A.add n14 1))), (D.sl 1 l15)])
              else
                none
            else
              none
          else
            bif (A.inr n11 (A.rlen l15)) then
              bif (A.inrn (A.nat n11) l15) then
                some (.inr (.inl [(D.sl 4 l9), (D.int IntKind.i64 (A.wrap IntKind.i64 (A.add n10 1))), (D.sl 1 (A.rput l15 (A.nat n11) 0 [(D.int IntKind.i64 (A.wrap IntKind.i64 (A.add n13 1)))]))]))
              else
                none
            else
              none
        ) [(D.sl 4 l2), (D.int IntKind.i64 n3), (D.int IntKind.i64 (A.wrap IntKind.i64 (A.sub (A.wrap IntKind.i64 (A.sub (A.rlen l2) 1)) n3))), (D.sl 1 l7), (D.int IntKind.i64 0), (D.int IntKind.i64 0), (D.sl 1 l4)]
      else
        bif (A.ieq (A.rlen l2) 0) then
          some (.inr (PRes.val [(D.int IntKind.i64 0)]))
        else
          bif (A.inr 0 (A.rlen l4)) then
            (opI (A.cell (A.rown l4 (A.nat 0)) 0) IntKind.i64).bind fun n18 =>
            some (.inr (PRes.val [(D.int IntKind.i64 n18)]))
          else
            none
    ) [(D.sl 4 code_), (D.int IntKind.i64 0), (D.sl 1 (A.rep (A.rlen code_) [(D.int IntKind.i64 0)]))]
  else
    none
theorem g18_eq (A : Sy) (E : Env) (code_ : List (List D)) : (funT A Try.prog cs 18 [V.d (D.sl 4 code_)]).run E = g18 A E code_ := by kernel_rfl
def g19 (A : Sy) (E : Env) (a_ : List (List D)) (b_ : List (List D)) : Option PRes :=
  bif (A.bnot (A.ieq (A.rlen a_) (A.rlen b_))) then
    some (PRes.val [(D.bool false)])
  else
    E.lp (fun ds1 =>
      (opL (A.cell ds1 0) 1).bind fun l2 =>
      (opL (A.cell ds1 1) 1).bind fun l3 =>
      (opI (A.cell ds1 2) IntKind.i64).bind fun n4 =>
      bif (A.ilt n4 (A.rlen l2)) then
        bif (A.inr n4 (A.rlen l2)) then
          (opI (A.cell (A.row l2 n4) 0) IntKind.i64).bind fun n5 =>
          bif (A.inr n4 (A.rlen l3)) then
            (opI (A.cell (A.row l3 n4) 0) IntKind.i64).bind fun n6 =>
            bif (A.bnot (A.ieq n5 n6)) then
              some (.inr (PRes.val [(D.bool false)]))
            else
              some (.inl [(D.sl 1 l2), (D.sl 1 l3), (D.int IntKind.i64 (A.wrap IntKind.i64 (A.add n4 1)))])
          else
            none
        else
          none
      else
        some (.inr (PRes.val [(D.bool true)]))
    ) [(D.sl 1 a_), (D.sl 1 b_), (D.int IntKind.i64 0)]
theorem g19_eq (A : Sy) (E : Env) (a_ : List (List D)) (b_ : List (List D)) : (funT A Try.prog cs 19 [V.d (D.sl 1 a_), V.d (D.sl 1 b_)]).run E = g19 A E a_ b_ := by kernel_rfl
def g21 (A : Sy) (E : Env) (code_ : List (List D)) (at_ : Int) : Option PRes :=
  cutO (
    bif (A.ilt at_ 0) then
      some (.inl [(D.bool true)])
    else
      some (.inl [(D.bool (A.ile (A.rlen code_) at_))])
  ) fun ds1 =>
  (opB (A.cell ds1 0)).bind fun b2 =>
  cutO (
    bif b2 then
      some (.inl [(D.bool true)])
    else
      bif (A.inr at_ (A.rlen code_)) then
        (opI (A.cell (A.row code_ at_) 0) IntKind.i64).bind fun n3 =>
        some (.inl [(D.bool (A.ieq n3 10))])
      else
        none
  ) fun ds4 =>
  (opB (A.cell ds4 0)).bind fun b5 =>
  bif b5 then
    some (PRes.own 3 1 [])
  else
    bif (A.inr at_ (A.rlen code_)) then
      (opI (A.cell (A.row code_ at_) 0) IntKind.i64).bind fun n6 =>
      cutO (
        bif (A.bnot (A.ieq n6 6)) then
          some (.inl [(D.bool (A.ilt (A.wrap IntKind.i64 (A.add at_ 1)) (A.rlen code_)))])
        else
          some (.inl [(D.bool false)])
      ) fun ds7 =>
      (opB (A.cell ds7 0)).bind fun b8 =>
      bif b8 then
        bif (A.fits [] [[(D.int IntKind.i64 (A.wrap IntKind.i64 (A.add at_ 1)))]] 8) then
          bif (A.inr at_ (A.rlen code_)) then
            (opI (A.cell (A.skip 1 (A.row code_ at_)) 0) IntKind.i64).bind fun n9 =>
            bif (A.inr at_ (A.rlen code_)) then
              (opI (A.cell (A.row code_ at_) 0) IntKind.i64).bind fun n10 =>
              cutO (
                bif (A.ieq n10 6) then
                  some (.inl [(D.bool true)])
                else
                  bif (A.inr at_ (A.rlen code_)) then
                    (opI (A.cell (A.row code_ at_) 0) IntKind.i64).bind fun n11 =>
                    some (.inl [(D.bool (A.ieq n11 7))])
                  else
                    none
              ) fun ds12 =>
              (opB (A.cell ds12 0)).bind fun b13 =>
              cutO (
                bif b13 then
                  some (.inl [(D.bool (A.ilt at_ n9))])
                else
                  some (.inl [(D.bool false)])
              ) fun ds14 =>
              (opB (A.cell ds14 0)).bind fun b15 =>
              cutO (
                bif b15 then
                  some (.inl [(D.bool (A.ilt n9 (A.rlen code_)))])
                else
                  some (.inl [(D.bool false)])
              ) fun ds16 =>
              (opB (A.cell ds16 0)).bind fun b17 =>
              cutO (
                bif b17 then
                  bif (A.ieq (A.rlen (A.rapp [] [[(D.int IntKind.i64 (A.wrap IntKind.i64 (A.add at_ 1)))]])) 0) then
                    some (.inl [(D.bool true)])
                  else
                    bif (A.inr 0 (A.rlen (A.rapp [] [[(D.int IntKind.i64 (A.wrap IntKind.i64 (A.add at_ 1)))]]))) then
                      (opI (A.cell (A.rown (A.rapp [] [[(D.int IntKind.i64 (A.wrap IntKind.i64 (A.add at_ 1)))]]) (A.nat 0)) 0) IntKind.i64).bind fun n18 =>
                      some (.inl [(D.bool (A.bnot (A.ieq n18 n9)))])
                    else
                      none
                else
                  some (.inl [(D.bool false)])
              ) fun ds19 =>
              (opB (A.cell ds19 0)).bind fun b20 =>
              bif b20 then
                bif (A.fits (A.rapp [] [[(D.int IntKind.i64 (A.wrap IntKind.i64 (A.add at_ 1)))]]) [[(D.int IntKind.i64 n9)]] 8) then
                  some (PRes.own 3 1 (A.rapp (A.rapp [] [[(D.int IntKind.i64 (A.wrap IntKind.i64 (A.add at_ 1)))]]) [[(D.int IntKind.i64 n9)]]))
                else
                  none
              else
                some (PRes.own 3 1 (A.rapp [] [[(D.int IntKind.i64 (A.wrap IntKind.i64 (A.add at_ 1)))]]))
            else
              none
          else
            none
        else
          none
      else
        bif (A.inr at_ (A.rlen code_)) then
          (opI (A.cell (A.skip 1 (A.row code_ at_)) 0) IntKind.i64).bind fun n21 =>
          bif (A.inr at_ (A.rlen code_)) then
            (opI (A.cell (A.row code_ at_) 0) IntKind.i64).bind fun n22 =>
            cutO (
              bif (A.ieq n22 6) then
                some (.inl [(D.bool true)])
              else
                bif (A.inr at_ (A.rlen code_)) then
                  (opI (A.cell (A.row code_ at_) 0) IntKind.i64).bind fun n23 =>
                  some (.inl [(D.bool (A.ieq n23 7))])
                else
                  none
            ) fun ds24 =>
            (opB (A.cell ds24 0)).bind fun b25 =>
            cutO (
              bif b25 then
                some (.inl [(D.bool (A.ilt at_ n21))])
              else
                some (.inl [(D.bool false)])
            ) fun ds26 =>
            (opB (A.cell ds26 0)).bind fun b27 =>
            cutO (
              bif b27 then
                some (.inl [(D.bool (A.ilt n21 (A.rlen code_)))])
              else
                some (.inl [(D.bool false)])
            ) fun ds28 =>
            (opB (A.cell ds28 0)).bind fun b29 =>
            cutO (
              bif b29 then
                bif (A.ieq (A.rlen []) 0) then
                  some (.inl [(D.bool true)])
                else
                  bif (A.inr 0 (A.rlen [])) then
                    (opI (A.cell (A.rown [] (A.nat 0)) 0) IntKind.i64).bind fun n30 =>
                    some (.inl [(D.bool (A.bnot (A.ieq n30 n21)))])
                  else
                    none
              else
                some (.inl [(D.bool false)])
            ) fun ds31 =>
            (opB (A.cell ds31 0)).bind fun b32 =>
            bif b32 then
              bif (A.fits [] [[(D.int IntKind.i64 n21)]] 8) then
                some (PRes.own 3 1 (A.rapp [] [[(D.int IntKind.i64 n21)]]))
              else
                none
            else
              some (PRes.own 3 1 [])
          else
            none
        else
          none
    else
      none
theorem g21_eq (A : Sy) (E : Env) (code_ : List (List D)) (at_ : Int) : (funT A Try.prog cs 21 [V.d (D.sl 4 code_), V.d (D.int IntKind.i64 at_)]).run E = g21 A E code_ at_ := by kernel_rfl
def g24 (A : Sy) (E : Env) (code_ : List (List D)) : Option PRes :=
  E.lp (fun ds1 =>
    (opL (A.cell ds1 0) 4).bind fun l2 =>
    (opI (A.cell ds1 1) IntKind.i64).bind fun n3 =>
    bif (A.ilt n3 (A.rlen l2)) then
      bif (A.inr n3 (A.rlen l2)) then
        (opI (A.cell (A.row l2 n3) 0) IntKind.i64).bind fun n4 =>
        bif (A.ieq n4 10) then
          some (.inr (PRes.val [(D.int IntKind.i64 (A.wrap IntKind.i64 (A.add n3 1)))]))
        else
          some (.inl [(D.sl 4 l2), (D.int IntKind.i64 (A.wrap IntKind.i64 (A.add n3 1)))])
      else
        none
    else
      some (.inr (PRes.val [(D.int IntKind.i64 (A.rlen l2))]))
  ) [(D.sl 4 code_), (D.int IntKind.i64 0)]
theorem g24_eq (A : Sy) (E : Env) (code_ : List (List D)) : (funT A Try.prog cs 24 [V.d (D.sl 4 code_)]).run E = g24 A E code_ := by kernel_rfl
def g6 (A : Sy) (E : Env) (code_ : List (List D)) (at_ : Int) : Option PRes :=
  bif (A.ilt 1000 (A.rlen code_)) then
    (E.call 16 []).bind fun p1 =>
    (opB (A.cell p1.leaves 0)).bind fun b3 =>
    some (PRes.val [(D.bool b3)])
  else
    (E.call 17 [(V.d (D.sl 4 code_))]).bind fun p4 =>
    (opI (A.cell p4.leaves 0) IntKind.i64).bind fun n6 =>
    (E.call 18 [(V.d (D.sl 4 code_))]).bind fun p7 =>
    (opI (A.cell p7.leaves 0) IntKind.i64).bind fun n9 =>
    bif (A.ieq n6 n9) then
      (E.call 20 [(V.d (D.sl 4 code_)), (V.d (D.int IntKind.i64 at_))]).bind fun p10 =>
      (opL (A.cell p10.leaves 0) 1).bind fun l12 =>
      (E.call 21 [(V.d (D.sl 4 code_)), (V.d (D.int IntKind.i64 at_))]).bind fun p13 =>
      (opL (A.cell p13.leaves 0) 1).bind fun l15 =>
      (E.call 19 [(V.d (D.sl 1 l12)), (V.d (D.sl 1 l15))]).bind fun p16 =>
      (opB (A.cell p16.leaves 0)).bind fun b18 =>
      cutO (
        bif b18 then
          (E.call 16 []).bind fun p19 =>
          (opB (A.cell p19.leaves 0)).bind fun b21 =>
          some (.inl [(D.bool b21)])
        else
          some (.inl [(D.bool false)])
      ) fun ds22 =>
      (opB (A.cell ds22 0)).bind fun b23 =>
      some (PRes.val [(D.bool b23)])
    else
      cutO (
        some (.inl [(D.bool false)])
      ) fun ds24 =>
      (opB (A.cell ds24 0)).bind fun b25 =>
      some (PRes.val [(D.bool b25)])
theorem g6_eq (A : Sy) (E : Env) (code_ : List (List D)) (at_ : Int) : (funT A Try.prog cs 6 [V.d (D.sl 4 code_), V.d (D.int IntKind.i64 at_)]).run E = g6 A E code_ at_ := by kernel_rfl
def g8 (A : Sy) (E : Env) (code_ : List (List D)) (skip_ : Int) : Option PRes :=
  cutO (
    bif (A.ilt 300 (A.rlen code_)) then
      some (.inl [(D.bool true)])
    else
      some (.inl [(D.bool (A.ilt skip_ 0))])
  ) fun ds1 =>
  (opB (A.cell ds1 0)).bind fun b2 =>
  cutO (
    bif b2 then
      some (.inl [(D.bool true)])
    else
      some (.inl [(D.bool (A.ile (A.rlen code_) skip_))])
  ) fun ds3 =>
  (opB (A.cell ds3 0)).bind fun b4 =>
  bif b4 then
    (E.call 17 [(V.d (D.sl 4 []))]).bind fun p5 =>
    (opI (A.cell p5.leaves 0) IntKind.i64).bind fun n7 =>
    cutO (
      bif (A.ieq n7 0) then
        (E.call 16 []).bind fun p8 =>
        (opB (A.cell p8.leaves 0)).bind fun b10 =>
        some (.inl [(D.bool b10)])
      else
        some (.inl [(D.bool false)])
    ) fun ds11 =>
    (opB (A.cell ds11 0)).bind fun b12 =>
    some (PRes.val [(D.bool b12)])
  else
    E.lp (fun ds13 =>
      (opL (A.cell ds13 0) 4).bind fun l14 =>
      (opI (A.cell ds13 1) IntKind.i64).bind fun n15 =>
      (opI (A.cell ds13 2) IntKind.i64).bind fun n16 =>
      bif (A.ilt n16 (A.rlen l14)) then
        bif (A.inr n16 (A.rlen l14)) then
          (opI (A.cell (A.row l14 n16) 0) IntKind.i64).bind fun n17 =>
          cutO (
            bif (A.ieq n17 6) then
              some (.inl [(D.bool true)])
            else
              bif (A.inr n16 (A.rlen l14)) then
                (opI (A.cell (A.row l14 n16) 0) IntKind.i64).bind fun n18 =>
                some (.inl [(D.bool (A.ieq n18 7))])
              else
                none
          ) fun ds19 =>
          (opB (A.cell ds19 0)).bind fun b20 =>
          bif b20 then
            (E.call 16 []).bind fun p21 =>
            (opB (A.cell p21.leaves 0)).bind fun b23 =>
            some (.inr (PRes.val [(D.bool b23)]))
          else
            some (.inl [(D.sl 4 l14), (D.int IntKind.i64 n15), (D.int IntKind.i64 (A.wrap IntKind.i64 (A.add n16 1)))])
        else
          none
      else
        bif (A.fits [[(D.int IntKind.i64 6), (D.int IntKind.i64 (A.wrap IntKind.i64 (A.add n15 1))), (D.int IntKind.i64 0), (D.int IntKind.i64 0)]] l14 32) then
          (E.call 17 [(V.d (D.sl 4 l14))]).bind fun p24 =>
          (opI (A.cell p24.leaves 0) IntKind.i64).bind fun n26 =>
          (E.call 24 [(V.d (D.sl 4 l14))]).bind fun p27 =>
          (opI (A.cell p27.leaves 0) IntKind.i64).bind fun n29 =>
          bif (A.ieq n26 n29) then
            (E.call 17 [(V.d (D.sl 4 (A.rapp [[(D.int IntKind.i64 6), (D.int IntKind.i64 (A.wrap IntKind.i64 (A.add n15 1))), (D.int IntKind.i64 0), (D.int IntKind.i64 0)]] l14)))]).bind fun p30 =>
            (opI (A.cell p30.leaves 0) IntKind.i64).bind fun n32 =>
            bif (A.cutok n15 (A.rlen l14) (A.rlen l14)) then
              (E.call 24 [(V.d (D.sl 4 (A.cut l14 n15 (A.rlen l14))))]).bind fun p33 =>
              (opI (A.cell p33.leaves 0) IntKind.i64).bind fun n35 =>
              bif (A.ieq n32 (A.wrap IntKind.i64 (A.add 1 n35))) then
                (E.call 16 []).bind fun p36 =>
                (opB (A.cell p36.leaves 0)).bind fun b38 =>
                some (.inr (PRes.val [(D.bool b38)]))
              else
                some (.inr (PRes.val [(D.bool false)]))
            else
              none
          else
            some (.inr (PRes.val [(D.bool false)]))
        else
          none
    ) [(D.sl 4 code_), (D.int IntKind.i64 skip_), (D.int IntKind.i64 0)]
theorem g8_eq (A : Sy) (E : Env) (code_ : List (List D)) (skip_ : Int) : (funT A Try.prog cs 8 [V.d (D.sl 4 code_), V.d (D.int IntKind.i64 skip_)]).run E = g8 A E code_ skip_ := by kernel_rfl
def g106 (A : Sy) (E : Env) (x_ : Int) : Option PRes :=
  (E.call 129 [(V.d (D.int IntKind.u64 x_))]).bind fun p1 =>
  (opI (A.cell p1.leaves 0) IntKind.i64).bind fun n3 =>
  some (PRes.val [(D.int IntKind.i64 n3)])
theorem g106_eq (A : Sy) (E : Env) (x_ : Int) : (funT A Try.prog cs 106 [V.d (D.int IntKind.u64 x_)]).run E = g106 A E x_ := by kernel_rfl
def g125 (A : Sy) (E : Env) (x_ : Int) (y_ : Int) : Option PRes :=
  (E.call 153 [(V.d (D.int IntKind.i64 x_))]).bind fun p1 =>
  (opB (A.cell p1.leaves 0)).bind fun b3 =>
  cutO (
    bif b3 then
      (E.call 153 [(V.d (D.int IntKind.i64 y_))]).bind fun p4 =>
      (opB (A.cell p4.leaves 0)).bind fun b6 =>
      some (.inl [(D.bool (A.bnot b6))])
    else
      some (.inl [(D.bool false)])
  ) fun ds7 =>
  (opB (A.cell ds7 0)).bind fun b8 =>
  cutO (
    bif b8 then
      some (.inl [(D.bool true)])
    else
      some (.inl [(D.bool (A.ilt x_ y_))])
  ) fun ds9 =>
  (opB (A.cell ds9 0)).bind fun b10 =>
  some (PRes.val [(D.bool b10)])
theorem g125_eq (A : Sy) (E : Env) (x_ : Int) (y_ : Int) : (funT A Try.prog cs 125 [V.d (D.int IntKind.i64 x_), V.d (D.int IntKind.i64 y_)]).run E = g125 A E x_ y_ := by kernel_rfl
def g153 (A : Sy) (E : Env) (x_ : Int) : Option PRes :=
  some (PRes.val [(D.bool (A.bnot (A.ieq x_ x_)))])
theorem g153_eq (A : Sy) (E : Env) (x_ : Int) : (funT A Try.prog cs 153 [V.d (D.int IntKind.i64 x_)]).run E = g153 A E x_ := by kernel_rfl
def g44 (A : Sy) (E : Env)(n : Int) (at0 : Int) (code : List (List D)) : Option PRes :=
  (opI (A.cell [(D.int IntKind.i64 at0)] 0) IntKind.i64).bind fun n1 =>
  cutO (
    bif (A.ile n n1) then
      some (.inl [(D.bool true)])
    else
      (opL (A.cell [(D.sl 4 code)] 0) 4).bind fun l2 =>
      some (.inl [(D.bool (A.ile (A.rlen l2) n))])
  ) fun ds3 =>
  (opB (A.cell ds3 0)).bind fun b4 =>
  some (PRes.val [(D.bool b4)])
theorem g44_eq (A : Sy) (E : Env)(n : Int) (at0 : Int) (code : List (List D)) : (funT A Try.prog cs 44 [V.d (D.int .i64 n), V.pel [D.int .i64 at0], V.pel [D.sl 4 code]]).run E = g44 A E n at0 code := by kernel_rfl
def g75_44 (A : Sy) (E : Env)(s : List (List D)) (at0 : Int) (code : List (List D)) : Option PRes :=
  E.lp (fun ds1 =>
    (opL (A.cell ds1 0) 1).bind fun l2 =>
    (opI (A.cell ds1 1) IntKind.i64).bind fun n3 =>
    (opL (A.cell ds1 2) 4).bind fun l4 =>
    (opI (A.cell ds1 3) IntKind.i64).bind fun n5 =>
    (opI (A.cell ds1 4) IntKind.i64).bind fun n6 =>
    bif (A.ilt n6 n5) then
      bif (A.inr n6 (A.rlen l2)) then
        (opI (A.cell (A.row l2 n6) 0) IntKind.i64).bind fun n7 =>
        (E.call 44 [(V.d (D.int IntKind.i64 n7)), (V.pel [(D.int IntKind.i64 n3)]), (V.pel [(D.sl 4 l4)])]).bind fun p8 =>
        (opB (A.cell p8.leaves 0)).bind fun b10 =>
        bif b10 then
          some (.inr (PRes.val [(D.int IntKind.i64 n6)]))
        else
          some (.inl [(D.sl 1 l2), (D.int IntKind.i64 n3), (D.sl 4 l4), (D.int IntKind.i64 n5), (D.int IntKind.i64 (A.wrap IntKind.i64 (A.add n6 1)))])
      else
        none
    else
      some (.inr (PRes.val [(D.int IntKind.i64 (-1))]))
  ) [(D.sl 1 s), (D.int IntKind.i64 at0), (D.sl 4 code), (D.int IntKind.i64 (A.rlen s)), (D.int IntKind.i64 0)]
theorem g75_44_eq (A : Sy) (E : Env)(s : List (List D)) (at0 : Int) (code : List (List D)) : (funT A Try.prog cs 75 [V.d (D.sl 1 s), V.fn 44 [V.pel [D.int .i64 at0], V.pel [D.sl 4 code]]]).run E = g75_44 A E s at0 code := by kernel_rfl
def g128 (A : Sy) (E : Env) (x_ : Int) : Option PRes :=
  bif (A.ile 65536 x_) then
    bif (A.ile 0 16) then
      bif (A.ile 256 (A.shr IntKind.u32 x_ 16)) then
        bif (A.ile 0 8) then
          bif (A.inr (A.wrap IntKind.u8 (A.shr IntKind.u32 (A.shr IntKind.u32 x_ 16) 8)) (A.slen (bs [0, 1, 2, 2, 3, 3, 3, 3, 4, 4, 4, 4, 4, 4, 4, 4, 5, 5, 5, 5, 5, 5, 5, 5, 5, 5, 5, 5, 5, 5, 5, 5, 6, 6, 6, 6, 6, 6, 6, 6, 6, 6, 6, 6, 6, 6, 6, 6, 6, 6, 6, 6, 6, 6, 6, 6, 6, 6, 6, 6, 6, 6, 6, 6, 7, 7, 7, 7, 7, 7, 7, 7, 7, 7, 7, 7, 7, 7, 7, 7, 7, 7, 7, 7, 7, 7, 7, 7, 7, 7, 7, 7, 7, 7, 7, 7, 7, 7, 7, 7, 7, 7, 7, 7, 7, 7, 7, 7, 7, 7, 7, 7, 7, 7, 7, 7, 7, 7, 7, 7, 7, 7, 7, 7, 7, 7, 7, 7, 8, 8, 8, 8, 8, 8, 8, 8, 8, 8, 8, 8, 8, 8, 8, 8, 8, 8, 8, 8, 8, 8, 8, 8, 8, 8, 8, 8, 8, 8, 8, 8, 8, 8, 8, 8, 8, 8, 8, 8, 8, 8, 8, 8, 8, 8, 8, 8, 8, 8, 8, 8, 8, 8, 8, 8, 8, 8, 8, 8, 8, 8, 8, 8, 8, 8, 8, 8, 8, 8, 8, 8, 8, 8, 8, 8, 8, 8, 8, 8, 8, 8, 8, 8, 8, 8, 8, 8, 8, 8, 8, 8, 8, 8, 8, 8, 8, 8, 8, 8, 8, 8, 8, 8, 8, 8, 8, 8, 8, 8, 8, 8, 8, 8, 8, 8, 8, 8, 8, 8, 8, 8, 8, 8, 8, 8, 8, 8]))) then
            some (PRes.val [(D.int IntKind.i64 (A.wrap IntKind.i64 (A.add (A.wrap IntKind.i64 (A.add 16 8)) (A.wrap IntKind.i64 (A.sbyte (bs [0, 1, 2, 2, 3, 3, 3, 3, 4, 4, 4, 4, 4, 4, 4, 4, 5, 5, 5, 5, 5, 5, 5, 5, 5, 5, 5, 5, 5, 5, 5, 5, 6, 6, 6, 6, 6, 6, 6, 6, 6, 6, 6, 6, 6, 6, 6, 6, 6, 6, 6, 6, 6, 6, 6, 6, 6, 6, 6, 6, 6, 6, 6, 6, 7, 7, 7, 7, 7, 7, 7, 7, 7, 7, 7, 7, 7, 7, 7, 7, 7, 7, 7, 7, 7, 7, 7, 7, 7, 7, 7, 7, 7, 7, 7, 7, 7, 7, 7, 7, 7, 7, 7, 7, 7, 7, 7, 7, 7, 7, 7, 7, 7, 7, 7, 7, 7, 7, 7, 7, 7, 7, 7, 7, 7, 7, 7, 7, 8, 8, 8, 8, 8, 8, 8, 8, 8, 8, 8, 8, 8, 8, 8, 8, 8, 8, 8, 8, 8, 8, 8, 8, 8, 8, 8, 8, 8, 8, 8, 8, 8, 8, 8, 8, 8, 8, 8, 8, 8, 8, 8, 8, 8, 8, 8, 8, 8, 8, 8, 8, 8, 8, 8, 8, 8, 8, 8, 8, 8, 8, 8, 8, 8, 8, 8, 8, 8, 8, 8, 8, 8, 8, 8, 8, 8, 8, 8, 8, 8, 8, 8, 8, 8, 8, 8, 8, 8, 8, 8, 8, 8, 8, 8, 8, 8, 8, 8, 8, 8, 8, 8, 8, 8, 8, 8, 8, 8, 8, 8, 8, 8, 8, 8, 8, 8, 8, 8, 8, 8, 8, 8, 8, 8, 8, 8, 8]) (A.wrap IntKind.u8 (A.shr IntKind.u32 (A.shr IntKind.u32 x_ 16) 8)))))))])
          else
            none
        else
          none
      else
        bif (A.inr (A.wrap IntKind.u8 (A.shr IntKind.u32 x_ 16)) (A.slen (bs [0, 1, 2, 2, 3, 3, 3, 3, 4, 4, 4, 4, 4, 4, 4, 4, 5, 5, 5, 5, 5, 5, 5, 5, 5, 5, 5, 5, 5, 5, 5, 5, 6, 6, 6, 6, 6, 6, 6, 6, 6, 6, 6, 6, 6, 6, 6, 6, 6, 6, 6, 6, 6, 6, 6, 6, 6, 6, 6, 6, 6, 6, 6, 6, 7, 7, 7, 7, 7, 7, 7, 7, 7, 7, 7, 7, 7, 7, 7, 7, 7, 7, 7, 7, 7, 7, 7, 7, 7, 7, 7, 7, 7, 7, 7, 7, 7, 7, 7, 7, 7, 7, 7, 7, 7, 7, 7, 7, 7, 7, 7, 7, 7, 7, 7, 7, 7, 7, 7, 7, 7, 7, 7, 7, 7, 7, 7, 7, 8, 8, 8, 8, 8, 8, 8, 8, 8, 8, 8, 8, 8, 8, 8, 8, 8, 8, 8, 8, 8, 8, 8, 8, 8, 8, 8, 8, 8, 8, 8, 8, 8, 8, 8, 8, 8, 8, 8, 8, 8, 8, 8, 8, 8, 8, 8, 8, 8, 8, 8, 8, 8, 8, 8, 8, 8, 8, 8, 8, 8, 8, 8, 8, 8, 8, 8, 8, 8, 8, 8, 8, 8, 8, 8, 8, 8, 8, 8, 8, 8, 8, 8, 8, 8, 8, 8, 8, 8, 8, 8, 8, 8, 8, 8, 8, 8, 8, 8, 8, 8, 8, 8, 8, 8, 8, 8, 8, 8, 8, 8, 8, 8, 8, 8, 8, 8, 8, 8, 8, 8, 8, 8, 8, 8, 8, 8, 8]))) then
          some (PRes.val [(D.int IntKind.i64 (A.wrap IntKind.i64 (A.add 16 (A.wrap IntKind.i64 (A.sbyte (bs [0, 1, 2, 2, 3, 3, 3, 3, 4, 4, 4, 4, 4, 4, 4, 4, 5, 5, 5, 5, 5, 5, 5, 5, 5, 5, 5, 5, 5, 5, 5, 5, 6, 6, 6, 6, 6, 6, 6, 6, 6, 6, 6, 6, 6, 6, 6, 6, 6, 6, 6, 6, 6, 6, 6, 6, 6, 6, 6, 6, 6, 6, 6, 6, 7, 7, 7, 7, 7, 7, 7, 7, 7, 7, 7, 7, 7, 7, 7, 7, 7, 7, 7, 7, 7, 7, 7, 7, 7, 7, 7, 7, 7, 7, 7, 7, 7, 7, 7, 7, 7, 7, 7, 7, 7, 7, 7, 7, 7, 7, 7, 7, 7, 7, 7, 7, 7, 7, 7, 7, 7, 7, 7, 7, 7, 7, 7, 7, 8, 8, 8, 8, 8, 8, 8, 8, 8, 8, 8, 8, 8, 8, 8, 8, 8, 8, 8, 8, 8, 8, 8, 8, 8, 8, 8, 8, 8, 8, 8, 8, 8, 8, 8, 8, 8, 8, 8, 8, 8, 8, 8, 8, 8, 8, 8, 8, 8, 8, 8, 8, 8, 8, 8, 8, 8, 8, 8, 8, 8, 8, 8, 8, 8, 8, 8, 8, 8, 8, 8, 8, 8, 8, 8, 8, 8, 8, 8, 8, 8, 8, 8, 8, 8, 8, 8, 8, 8, 8, 8, 8, 8, 8, 8, 8, 8, 8, 8, 8, 8, 8, 8, 8, 8, 8, 8, 8, 8, 8, 8, 8, 8, 8, 8, 8, 8, 8, 8, 8, 8, 8, 8, 8, 8, 8, 8, 8]) (A.wrap IntKind.u8 (A.shr IntKind.u32 x_ 16)))))))])
        else
          none
    else
      none
  else
    bif (A.ile 256 x_) then
      bif (A.ile 0 8) then
        bif (A.inr (A.wrap IntKind.u8 (A.shr IntKind.u32 x_ 8)) (A.slen (bs [0, 1, 2, 2, 3, 3, 3, 3, 4, 4, 4, 4, 4, 4, 4, 4, 5, 5, 5, 5, 5, 5, 5, 5, 5, 5, 5, 5, 5, 5, 5, 5, 6, 6, 6, 6, 6, 6, 6, 6, 6, 6, 6, 6, 6, 6, 6, 6, 6, 6, 6, 6, 6, 6, 6, 6, 6, 6, 6, 6, 6, 6, 6, 6, 7, 7, 7, 7, 7, 7, 7, 7, 7, 7, 7, 7, 7, 7, 7, 7, 7, 7, 7, 7, 7, 7, 7, 7, 7, 7, 7, 7, 7, 7, 7, 7, 7, 7, 7, 7, 7, 7, 7, 7, 7, 7, 7, 7, 7, 7, 7, 7, 7, 7, 7, 7, 7, 7, 7, 7, 7, 7, 7, 7, 7, 7, 7, 7, 8, 8, 8, 8, 8, 8, 8, 8, 8, 8, 8, 8, 8, 8, 8, 8, 8, 8, 8, 8, 8, 8, 8, 8, 8, 8, 8, 8, 8, 8, 8, 8, 8, 8, 8, 8, 8, 8, 8, 8, 8, 8, 8, 8, 8, 8, 8, 8, 8, 8, 8, 8, 8, 8, 8, 8, 8, 8, 8, 8, 8, 8, 8, 8, 8, 8, 8, 8, 8, 8, 8, 8, 8, 8, 8, 8, 8, 8, 8, 8, 8, 8, 8, 8, 8, 8, 8, 8, 8, 8, 8, 8, 8, 8, 8, 8, 8, 8, 8, 8, 8, 8, 8, 8, 8, 8, 8, 8, 8, 8, 8, 8, 8, 8, 8, 8, 8, 8, 8, 8, 8, 8, 8, 8, 8, 8, 8, 8]))) then
          some (PRes.val [(D.int IntKind.i64 (A.wrap IntKind.i64 (A.add (A.wrap IntKind.i64 (A.add 0 8)) (A.wrap IntKind.i64 (A.sbyte (bs [0, 1, 2, 2, 3, 3, 3, 3, 4, 4, 4, 4, 4, 4, 4, 4, 5, 5, 5, 5, 5, 5, 5, 5, 5, 5, 5, 5, 5, 5, 5, 5, 6, 6, 6, 6, 6, 6, 6, 6, 6, 6, 6, 6, 6, 6, 6, 6, 6, 6, 6, 6, 6, 6, 6, 6, 6, 6, 6, 6, 6, 6, 6, 6, 7, 7, 7, 7, 7, 7, 7, 7, 7, 7, 7, 7, 7, 7, 7, 7, 7, 7, 7, 7, 7, 7, 7, 7, 7, 7, 7, 7, 7, 7, 7, 7, 7, 7, 7, 7, 7, 7, 7, 7, 7, 7, 7, 7, 7, 7, 7, 7, 7, 7, 7, 7, 7, 7, 7, 7, 7, 7, 7, 7, 7, 7, 7, 7, 8, 8, 8, 8, 8, 8, 8, 8, 8, 8, 8, 8, 8, 8, 8, 8, 8, 8, 8, 8, 8, 8, 8, 8, 8, 8, 8, 8, 8, 8, 8, 8, 8, 8, 8, 8, 8, 8, 8, 8, 8, 8, 8, 8, 8, 8, 8, 8, 8, 8, 8, 8, 8, 8, 8, 8, 8, 8, 8, 8, 8, 8, 8, 8, 8, 8, 8, 8, 8, 8, 8, 8, 8, 8, 8, 8, 8, 8, 8, 8, 8, 8, 8, 8, 8, 8, 8, 8, 8, 8, 8, 8, 8, 8, 8, 8, 8, 8, 8, 8, 8, 8, 8, 8, 8, 8, 8, 8, 8, 8, 8, 8, 8, 8, 8, 8, 8, 8, 8, 8, 8, 8, 8, 8, 8, 8, 8, 8]) (A.wrap IntKind.u8 (A.shr IntKind.u32 x_ 8)))))))])
        else
          none
      else
        none
    else
      bif (A.inr (A.wrap IntKind.u8 x_) (A.slen (bs [0, 1, 2, 2, 3, 3, 3, 3, 4, 4, 4, 4, 4, 4, 4, 4, 5, 5, 5, 5, 5, 5, 5, 5, 5, 5, 5, 5, 5, 5, 5, 5, 6, 6, 6, 6, 6, 6, 6, 6, 6, 6, 6, 6, 6, 6, 6, 6, 6, 6, 6, 6, 6, 6, 6, 6, 6, 6, 6, 6, 6, 6, 6, 6, 7, 7, 7, 7, 7, 7, 7, 7, 7, 7, 7, 7, 7, 7, 7, 7, 7, 7, 7, 7, 7, 7, 7, 7, 7, 7, 7, 7, 7, 7, 7, 7, 7, 7, 7, 7, 7, 7, 7, 7, 7, 7, 7, 7, 7, 7, 7, 7, 7, 7, 7, 7, 7, 7, 7, 7, 7, 7, 7, 7, 7, 7, 7, 7, 8, 8, 8, 8, 8, 8, 8, 8, 8, 8, 8, 8, 8, 8, 8, 8, 8, 8, 8, 8, 8, 8, 8, 8, 8, 8, 8, 8, 8, 8, 8, 8, 8, 8, 8, 8, 8, 8, 8, 8, 8, 8, 8, 8, 8, 8, 8, 8, 8, 8, 8, 8, 8, 8, 8, 8, 8, 8, 8, 8, 8, 8, 8, 8, 8, 8, 8, 8, 8, 8, 8, 8, 8, 8, 8, 8, 8, 8, 8, 8, 8, 8, 8, 8, 8, 8, 8, 8, 8, 8, 8, 8, 8, 8, 8, 8, 8, 8, 8, 8, 8, 8, 8, 8, 8, 8, 8, 8, 8, 8, 8, 8, 8, 8, 8, 8, 8, 8, 8, 8, 8, 8, 8, 8, 8, 8, 8, 8]))) then
        some (PRes.val [(D.int IntKind.i64 (A.wrap IntKind.i64 (A.add 0 (A.wrap IntKind.i64 (A.sbyte (bs [0, 1, 2, 2, 3, 3, 3, 3, 4, 4, 4, 4, 4, 4, 4, 4, 5, 5, 5, 5, 5, 5, 5, 5, 5, 5, 5, 5, 5, 5, 5, 5, 6, 6, 6, 6, 6, 6, 6, 6, 6, 6, 6, 6, 6, 6, 6, 6, 6, 6, 6, 6, 6, 6, 6, 6, 6, 6, 6, 6, 6, 6, 6, 6, 7, 7, 7, 7, 7, 7, 7, 7, 7, 7, 7, 7, 7, 7, 7, 7, 7, 7, 7, 7, 7, 7, 7, 7, 7, 7, 7, 7, 7, 7, 7, 7, 7, 7, 7, 7, 7, 7, 7, 7, 7, 7, 7, 7, 7, 7, 7, 7, 7, 7, 7, 7, 7, 7, 7, 7, 7, 7, 7, 7, 7, 7, 7, 7, 8, 8, 8, 8, 8, 8, 8, 8, 8, 8, 8, 8, 8, 8, 8, 8, 8, 8, 8, 8, 8, 8, 8, 8, 8, 8, 8, 8, 8, 8, 8, 8, 8, 8, 8, 8, 8, 8, 8, 8, 8, 8, 8, 8, 8, 8, 8, 8, 8, 8, 8, 8, 8, 8, 8, 8, 8, 8, 8, 8, 8, 8, 8, 8, 8, 8, 8, 8, 8, 8, 8, 8, 8, 8, 8, 8, 8, 8, 8, 8, 8, 8, 8, 8, 8, 8, 8, 8, 8, 8, 8, 8, 8, 8, 8, 8, 8, 8, 8, 8, 8, 8, 8, 8, 8, 8, 8, 8, 8, 8, 8, 8, 8, 8, 8, 8, 8, 8, 8, 8, 8, 8, 8, 8, 8, 8, 8, 8]) (A.wrap IntKind.u8 x_))))))])
      else
        none
theorem g128_eq (A : Sy) (E : Env) (x_ : Int) : (funT A Try.prog cs 128 [V.d (D.int IntKind.u32 x_)]).run E = g128 A E x_ := by kernel_rfl
def g129 (A : Sy) (E : Env) (x_ : Int) : Option PRes :=
  bif (A.ile 4294967296 x_) then
    bif (A.ile 0 32) then
      bif (A.ile 65536 (A.shr IntKind.u64 x_ 32)) then
        bif (A.ile 0 16) then
          bif (A.ile 256 (A.shr IntKind.u64 (A.shr IntKind.u64 x_ 32) 16)) then
            bif (A.ile 0 8) then
              bif (A.inr (A.wrap IntKind.u8 (A.shr IntKind.u64 (A.shr IntKind.u64 (A.shr IntKind.u64 x_ 32) 16) 8)) (A.slen (bs [0, 1, 2, 2, 3, 3, 3, 3, 4, 4, 4, 4, 4, 4, 4, 4, 5, 5, 5, 5, 5, 5, 5, 5, 5, 5, 5, 5, 5, 5, 5, 5, 6, 6, 6, 6, 6, 6, 6, 6, 6, 6, 6, 6, 6, 6, 6, 6, 6, 6, 6, 6, 6, 6, 6, 6, 6, 6, 6, 6, 6, 6, 6, 6, 7, 7, 7, 7, 7, 7, 7, 7, 7, 7, 7, 7, 7, 7, 7, 7, 7, 7, 7, 7, 7, 7, 7, 7, 7, 7, 7, 7, 7, 7, 7, 7, 7, 7, 7, 7, 7, 7, 7, 7, 7, 7, 7, 7, 7, 7, 7, 7, 7, 7, 7, 7, 7, 7, 7, 7, 7, 7, 7, 7, 7, 7, 7, 7, 8, 8, 8, 8, 8, 8, 8, 8, 8, 8, 8, 8, 8, 8, 8, 8, 8, 8, 8, 8, 8, 8, 8, 8, 8, 8, 8, 8, 8, 8, 8, 8, 8, 8, 8, 8, 8, 8, 8, 8, 8, 8, 8, 8, 8, 8, 8, 8, 8, 8, 8, 8, 8, 8, 8, 8, 8, 8, 8, 8, 8, 8, 8, 8, 8, 8, 8, 8, 8, 8, 8, 8, 8, 8, 8, 8, 8, 8, 8, 8, 8, 8, 8, 8, 8, 8, 8, 8, 8, 8, 8, 8, 8, 8, 8, 8, 8, 8, 8, 8, 8, 8, 8, 8, 8, 8, 8, 8, 8, 8, 8, 8, 8, 8, 8, 8, 8, 8, 8, 8, 8, 8, 8, 8, 8, 8, 8, 8]))) then
                some (PRes.val [(D.int IntKind.i64 (A.wrap IntKind.i64 (A.add (A.wrap IntKind.i64 (A.add (A.wrap IntKind.i64 (A.add 32 16)) 8)) (A.wrap IntKind.i64 (A.sbyte (bs [0, 1, 2, 2, 3, 3, 3, 3, 4, 4, 4, 4, 4, 4, 4, 4, 5, 5, 5, 5, 5, 5, 5, 5, 5, 5, 5, 5, 5, 5, 5, 5, 6, 6, 6, 6, 6, 6, 6, 6, 6, 6, 6, 6, 6, 6, 6, 6, 6, 6, 6, 6, 6, 6, 6, 6, 6, 6, 6, 6, 6, 6, 6, 6, 7, 7, 7, 7, 7, 7, 7, 7, 7, 7, 7, 7, 7, 7, 7, 7, 7, 7, 7, 7, 7, 7, 7, 7, 7, 7, 7, 7, 7, 7, 7, 7, 7, 7, 7, 7, 7, 7, 7, 7, 7, 7, 7, 7, 7, 7, 7, 7, 7, 7, 7, 7, 7, 7, 7, 7, 7, 7, 7, 7, 7, 7, 7, 7, 8, 8, 8, 8, 8, 8, 8, 8, 8, 8, 8, 8, 8, 8, 8, 8, 8, 8, 8, 8, 8, 8, 8, 8, 8, 8, 8, 8, 8, 8, 8, 8, 8, 8, 8, 8, 8, 8, 8, 8, 8, 8, 8, 8, 8, 8, 8, 8, 8, 8, 8, 8, 8, 8, 8, 8, 8, 8, 8, 8, 8, 8, 8, 8, 8, 8, 8, 8, 8, 8, 8, 8, 8, 8, 8, 8, 8, 8, 8, 8, 8, 8, 8, 8, 8, 8, 8, 8, 8, 8, 8, 8, 8, 8, 8, 8, 8, 8, 8, 8, 8, 8, 8, 8, 8, 8, 8, 8, 8, 8, 8, 8, 8, 8, 8, 8, 8, 8, 8, 8, 8, 8, 8, 8, 8, 8, 8, 8]) (A.wrap IntKind.u8 (A.shr IntKind.u64 (A.shr IntKind.u64 (A.shr IntKind.u64 x_ 32) 16) 8)))))))])
              else
                none
            else
              none
          else
            bif (A.inr (A.wrap IntKind.u8 (A.shr IntKind.u64 (A.shr IntKind.u64 x_ 32) 16)) (A.slen (bs [0, 1, 2, 2, 3, 3, 3, 3, 4, 4, 4, 4, 4, 4, 4, 4, 5, 5, 5, 5, 5, 5, 5, 5, 5, 5, 5, 5, 5, 5, 5, 5, 6, 6, 6, 6, 6, 6, 6, 6, 6, 6, 6, 6, 6, 6, 6, 6, 6, 6, 6, 6, 6, 6, 6, 6, 6, 6, 6, 6, 6, 6, 6, 6, 7, 7, 7, 7, 7, 7, 7, 7, 7, 7, 7, 7, 7, 7, 7, 7, 7, 7, 7, 7, 7, 7, 7, 7, 7, 7, 7, 7, 7, 7, 7, 7, 7, 7, 7, 7, 7, 7, 7, 7, 7, 7, 7, 7, 7, 7, 7, 7, 7, 7, 7, 7, 7, 7, 7, 7, 7, 7, 7, 7, 7, 7, 7, 7, 8, 8, 8, 8, 8, 8, 8, 8, 8, 8, 8, 8, 8, 8, 8, 8, 8, 8, 8, 8, 8, 8, 8, 8, 8, 8, 8, 8, 8, 8, 8, 8, 8, 8, 8, 8, 8, 8, 8, 8, 8, 8, 8, 8, 8, 8, 8, 8, 8, 8, 8, 8, 8, 8, 8, 8, 8, 8, 8, 8, 8, 8, 8, 8, 8, 8, 8, 8, 8, 8, 8, 8, 8, 8, 8, 8, 8, 8, 8, 8, 8, 8, 8, 8, 8, 8, 8, 8, 8, 8, 8, 8, 8, 8, 8, 8, 8, 8, 8, 8, 8, 8, 8, 8, 8, 8, 8, 8, 8, 8, 8, 8, 8, 8, 8, 8, 8, 8, 8, 8, 8, 8, 8, 8, 8, 8, 8, 8]))) then
              some (PRes.val [(D.int IntKind.i64 (A.wrap IntKind.i64 (A.add (A.wrap IntKind.i64 (A.add 32 16)) (A.wrap IntKind.i64 (A.sbyte (bs [0, 1, 2, 2, 3, 3, 3, 3, 4, 4, 4, 4, 4, 4, 4, 4, 5, 5, 5, 5, 5, 5, 5, 5, 5, 5, 5, 5, 5, 5, 5, 5, 6, 6, 6, 6, 6, 6, 6, 6, 6, 6, 6, 6, 6, 6, 6, 6, 6, 6, 6, 6, 6, 6, 6, 6, 6, 6, 6, 6, 6, 6, 6, 6, 7, 7, 7, 7, 7, 7, 7, 7, 7, 7, 7, 7, 7, 7, 7, 7, 7, 7, 7, 7, 7, 7, 7, 7, 7, 7, 7, 7, 7, 7, 7, 7, 7, 7, 7, 7, 7, 7, 7, 7, 7, 7, 7, 7, 7, 7, 7, 7, 7, 7, 7, 7, 7, 7, 7, 7, 7, 7, 7, 7, 7, 7, 7, 7, 8, 8, 8, 8, 8, 8, 8, 8, 8, 8, 8, 8, 8, 8, 8, 8, 8, 8, 8, 8, 8, 8, 8, 8, 8, 8, 8, 8, 8, 8, 8, 8, 8, 8, 8, 8, 8, 8, 8, 8, 8, 8, 8, 8, 8, 8, 8, 8, 8, 8, 8, 8, 8, 8, 8, 8, 8, 8, 8, 8, 8, 8, 8, 8, 8, 8, 8, 8, 8, 8, 8, 8, 8, 8, 8, 8, 8, 8, 8, 8, 8, 8, 8, 8, 8, 8, 8, 8, 8, 8, 8, 8, 8, 8, 8, 8, 8, 8, 8, 8, 8, 8, 8, 8, 8, 8, 8, 8, 8, 8, 8, 8, 8, 8, 8, 8, 8, 8, 8, 8, 8, 8, 8, 8, 8, 8, 8, 8]) (A.wrap IntKind.u8 (A.shr IntKind.u64 (A.shr IntKind.u64 x_ 32) 16)))))))])
            else
              none
        else
          none
      else
        bif (A.ile 256 (A.shr IntKind.u64 x_ 32)) then
          bif (A.ile 0 8) then
            bif (A.inr (A.wrap IntKind.u8 (A.shr IntKind.u64 (A.shr IntKind.u64 x_ 32) 8)) (A.slen (bs [0, 1, 2, 2, 3, 3, 3, 3, 4, 4, 4, 4, 4, 4, 4, 4, 5, 5, 5, 5, 5, 5, 5, 5, 5, 5, 5, 5, 5, 5, 5, 5, 6, 6, 6, 6, 6, 6, 6, 6, 6, 6, 6, 6, 6, 6, 6, 6, 6, 6, 6, 6, 6, 6, 6, 6, 6, 6, 6, 6, 6, 6, 6, 6, 7, 7, 7, 7, 7, 7, 7, 7, 7, 7, 7, 7, 7, 7, 7, 7, 7, 7, 7, 7, 7, 7, 7, 7, 7, 7, 7, 7, 7, 7, 7, 7, 7, 7, 7, 7, 7, 7, 7, 7, 7, 7, 7, 7, 7, 7, 7, 7, 7, 7, 7, 7, 7, 7, 7, 7, 7, 7, 7, 7, 7, 7, 7, 7, 8, 8, 8, 8, 8, 8, 8, 8, 8, 8, 8, 8, 8, 8, 8, 8, 8, 8, 8, 8, 8, 8, 8, 8, 8, 8, 8, 8, 8, 8, 8, 8, 8, 8, 8, 8, 8, 8, 8, 8, 8, 8, 8, 8, 8, 8, 8, 8, 8, 8, 8, 8, 8, 8, 8, 8, 8, 8, 8, 8, 8, 8, 8, 8, 8, 8, 8, 8, 8, 8, 8, 8, 8, 8, 8, 8, 8, 8, 8, 8, 8, 8, 8, 8, 8, 8, 8, 8, 8, 8, 8, 8, 8, 8, 8, 8, 8, 8, 8, 8, 8, 8, 8, 8, 8, 8, 8, 8, 8, 8, 8, 8, 8, 8, 8, 8, 8, 8, 8, 8, 8, 8, 8, 8, 8, 8, 8, 8]))) then
              some (PRes.val [(D.int IntKind.i64 (A.wrap IntKind.i64 (A.add (A.wrap IntKind.i64 (A.add 32 8)) (A.wrap IntKind.i64 (A.sbyte (bs [0, 1, 2, 2, 3, 3, 3, 3, 4, 4, 4, 4, 4, 4, 4, 4, 5, 5, 5, 5, 5, 5, 5, 5, 5, 5, 5, 5, 5, 5, 5, 5, 6, 6, 6, 6, 6, 6, 6, 6, 6, 6, 6, 6, 6, 6, 6, 6, 6, 6, 6, 6, 6, 6, 6, 6, 6, 6, 6, 6, 6, 6, 6, 6, 7, 7, 7, 7, 7, 7, 7, 7, 7, 7, 7, 7, 7, 7, 7, 7, 7, 7, 7, 7, 7, 7, 7, 7, 7, 7, 7, 7, 7, 7, 7, 7, 7, 7, 7, 7, 7, 7, 7, 7, 7, 7, 7, 7, 7, 7, 7, 7, 7, 7, 7, 7, 7, 7, 7, 7, 7, 7, 7, 7, 7, 7, 7, 7, 8, 8, 8, 8, 8, 8, 8, 8, 8, 8, 8, 8, 8, 8, 8, 8, 8, 8, 8, 8, 8, 8, 8, 8, 8, 8, 8, 8, 8, 8, 8, 8, 8, 8, 8, 8, 8, 8, 8, 8, 8, 8, 8, 8, 8, 8, 8, 8, 8, 8, 8, 8, 8, 8, 8, 8, 8, 8, 8, 8, 8, 8, 8, 8, 8, 8, 8, 8, 8, 8, 8, 8, 8, 8, 8, 8, 8, 8, 8, 8, 8, 8, 8, 8, 8, 8, 8, 8, 8, 8, 8, 8, 8, 8, 8, 8, 8, 8, 8, 8, 8, 8, 8, 8, 8, 8, 8, 8, 8, 8, 8, 8, 8, 8, 8, 8, 8, 8, 8, 8, 8, 8, 8, 8, 8, 8, 8, 8]) (A.wrap IntKind.u8 (A.shr IntKind.u64 (A.shr IntKind.u64 x_ 32) 8)))))))])
            else
              none
          else
            none
        else
          bif (A.inr (A.wrap IntKind.u8 (A.shr IntKind.u64 x_ 32)) (A.slen (bs [0, 1, 2, 2, 3, 3, 3, 3, 4, 4, 4, 4, 4, 4, 4, 4, 5, 5, 5, 5, 5, 5, 5, 5, 5, 5, 5, 5, 5, 5, 5, 5, 6, 6, 6, 6, 6, 6, 6, 6, 6, 6, 6, 6, 6, 6, 6, 6, 6, 6, 6, 6, 6, 6, 6, 6, 6, 6, 6, 6, 6, 6, 6, 6, 7, 7, 7, 7, 7, 7, 7, 7, 7, 7, 7, 7, 7, 7, 7, 7, 7, 7, 7, 7, 7, 7, 7, 7, 7, 7, 7, 7, 7, 7, 7, 7, 7, 7, 7, 7, 7, 7, 7, 7, 7, 7, 7, 7, 7, 7, 7, 7, 7, 7, 7, 7, 7, 7, 7, 7, 7, 7, 7, 7, 7, 7, 7, 7, 8, 8, 8, 8, 8, 8, 8, 8, 8, 8, 8, 8, 8, 8, 8, 8, 8, 8, 8, 8, 8, 8, 8, 8, 8, 8, 8, 8, 8, 8, 8, 8, 8, 8, 8, 8, 8, 8, 8, 8, 8, 8, 8, 8, 8, 8, 8, 8, 8, 8, 8, 8, 8, 8, 8, 8, 8, 8, 8, 8, 8, 8, 8, 8, 8, 8, 8, 8, 8, 8, 8, 8, 8, 8, 8, 8, 8, 8, 8, 8, 8, 8, 8, 8, 8, 8, 8, 8, 8, 8, 8, 8, 8, 8, 8, 8, 8, 8, 8, 8, 8, 8, 8, 8, 8, 8, 8, 8, 8, 8, 8, 8, 8, 8, 8, 8, 8, 8, 8, 8, 8, 8, 8, 8, 8, 8, 8, 8]))) then
            some (PRes.val [(D.int IntKind.i64 (A.wrap IntKind.i64 (A.add 32 (A.wrap IntKind.i64 (A.sbyte (bs [0, 1, 2, 2, 3, 3, 3, 3, 4, 4, 4, 4, 4, 4, 4, 4, 5, 5, 5, 5, 5, 5, 5, 5, 5, 5, 5, 5, 5, 5, 5, 5, 6, 6, 6, 6, 6, 6, 6, 6, 6, 6, 6, 6, 6, 6, 6, 6, 6, 6, 6, 6, 6, 6, 6, 6, 6, 6, 6, 6, 6, 6, 6, 6, 7, 7, 7, 7, 7, 7, 7, 7, 7, 7, 7, 7, 7, 7, 7, 7, 7, 7, 7, 7, 7, 7, 7, 7, 7, 7, 7, 7, 7, 7, 7, 7, 7, 7, 7, 7, 7, 7, 7, 7, 7, 7, 7, 7, 7, 7, 7, 7, 7, 7, 7, 7, 7, 7, 7, 7, 7, 7, 7, 7, 7, 7, 7, 7, 8, 8, 8, 8, 8, 8, 8, 8, 8, 8, 8, 8, 8, 8, 8, 8, 8, 8, 8, 8, 8, 8, 8, 8, 8, 8, 8, 8, 8, 8, 8, 8, 8, 8, 8, 8, 8, 8, 8, 8, 8, 8, 8, 8, 8, 8, 8, 8, 8, 8, 8, 8, 8, 8, 8, 8, 8, 8, 8, 8, 8, 8, 8, 8, 8, 8, 8, 8, 8, 8, 8, 8, 8, 8, 8, 8, 8, 8, 8, 8, 8, 8, 8, 8, 8, 8, 8, 8, 8, 8, 8, 8, 8, 8, 8, 8, 8, 8, 8, 8, 8, 8, 8, 8, 8, 8, 8, 8, 8, 8, 8, 8, 8, 8, 8, 8, 8, 8, 8, 8, 8, 8, 8, 8, 8, 8, 8, 8]) (A.wrap IntKind.u8 (A.shr IntKind.u64 x_ 32)))))))])
          else
            none
    else
      none
  else
    bif (A.ile 65536 x_) then
      bif (A.ile 0 16) then
        bif (A.ile 256 (A.shr IntKind.u64 x_ 16)) then
          bif (A.ile 0 8) then
            bif (A.inr (A.wrap IntKind.u8 (A.shr IntKind.u64 (A.shr IntKind.u64 x_ 16) 8)) (A.slen (bs [0, 1, 2, 2, 3, 3, 3, 3, 4, 4, 4, 4, 4, 4, 4, 4, 5, 5, 5, 5, 5, 5, 5, 5, 5, 5, 5, 5, 5, 5, 5, 5, 6, 6, 6, 6, 6, 6, 6, 6, 6, 6, 6, 6, 6, 6, 6, 6, 6, 6, 6, 6, 6, 6, 6, 6, 6, 6, 6, 6, 6, 6, 6, 6, 7, 7, 7, 7, 7, 7, 7, 7, 7, 7, 7, 7, 7, 7, 7, 7, 7, 7, 7, 7, 7, 7, 7, 7, 7, 7, 7, 7, 7, 7, 7, 7, 7, 7, 7, 7, 7, 7, 7, 7, 7, 7, 7, 7, 7, 7, 7, 7, 7, 7, 7, 7, 7, 7, 7, 7, 7, 7, 7, 7, 7, 7, 7, 7, 8, 8, 8, 8, 8, 8, 8, 8, 8, 8, 8, 8, 8, 8, 8, 8, 8, 8, 8, 8, 8, 8, 8, 8, 8, 8, 8, 8, 8, 8, 8, 8, 8, 8, 8, 8, 8, 8, 8, 8, 8, 8, 8, 8, 8, 8, 8, 8, 8, 8, 8, 8, 8, 8, 8, 8, 8, 8, 8, 8, 8, 8, 8, 8, 8, 8, 8, 8, 8, 8, 8, 8, 8, 8, 8, 8, 8, 8, 8, 8, 8, 8, 8, 8, 8, 8, 8, 8, 8, 8, 8, 8, 8, 8, 8, 8, 8, 8, 8, 8, 8, 8, 8, 8, 8, 8, 8, 8, 8, 8, 8, 8, 8, 8, 8, 8, 8, 8, 8, 8, 8, 8, 8, 8, 8, 8, 8, 8]))) then
              some (PRes.val [(D.int IntKind.i64 (A.wrap IntKind.i64 (A.add (A.wrap IntKind.i64 (A.add (A.wrap IntKind.i64 (A.add 0 16)) 8)) (A.wrap IntKind.i64 (A.sbyte (bs [0, 1, 2, 2, 3, 3, 3, 3, 4, 4, 4, 4, 4, 4, 4, 4, 5, 5, 5, 5, 5, 5, 5, 5, 5, 5, 5, 5, 5, 5, 5, 5, 6, 6, 6, 6, 6, 6, 6, 6, 6, 6, 6, 6, 6, 6, 6, 6, 6, 6, 6, 6, 6, 6, 6, 6, 6, 6, 6, 6, 6, 6, 6, 6, 7, 7, 7, 7, 7, 7, 7, 7, 7, 7, 7, 7, 7, 7, 7, 7, 7, 7, 7, 7, 7, 7, 7, 7, 7, 7, 7, 7, 7, 7, 7, 7, 7, 7, 7, 7, 7, 7, 7, 7, 7, 7, 7, 7, 7, 7, 7, 7, 7, 7, 7, 7, 7, 7, 7, 7, 7, 7, 7, 7, 7, 7, 7, 7, 8, 8, 8, 8, 8, 8, 8, 8, 8, 8, 8, 8, 8, 8, 8, 8, 8, 8, 8, 8, 8, 8, 8, 8, 8, 8, 8, 8, 8, 8, 8, 8, 8, 8, 8, 8, 8, 8, 8, 8, 8, 8, 8, 8, 8, 8, 8, 8, 8, 8, 8, 8, 8, 8, 8, 8, 8, 8, 8, 8, 8, 8, 8, 8, 8, 8, 8, 8, 8, 8, 8, 8, 8, 8, 8, 8, 8, 8, 8, 8, 8, 8, 8, 8, 8, 8, 8, 8, 8, 8, 8, 8, 8, 8, 8, 8, 8, 8, 8, 8, 8, 8, 8, 8, 8, 8, 8, 8, 8, 8, 8, 8, 8, 8, 8, 8, 8, 8, 8, 8, 8, 8, 8, 8, 8, 8, 8, 8]) (A.wrap IntKind.u8 (A.shr IntKind.u64 (A.shr IntKind.u64 x_ 16) 8)))))))])
            else
              none
          else
            none
        else
          bif (A.inr (A.wrap IntKind.u8 (A.shr IntKind.u64 x_ 16)) (A.slen (bs [0, 1, 2, 2, 3, 3, 3, 3, 4, 4, 4, 4, 4, 4, 4, 4, 5, 5, 5, 5, 5, 5, 5, 5, 5, 5, 5, 5, 5, 5, 5, 5, 6, 6, 6, 6, 6, 6, 6, 6, 6, 6, 6, 6, 6, 6, 6, 6, 6, 6, 6, 6, 6, 6, 6, 6, 6, 6, 6, 6, 6, 6, 6, 6, 7, 7, 7, 7, 7, 7, 7, 7, 7, 7, 7, 7, 7, 7, 7, 7, 7, 7, 7, 7, 7, 7, 7, 7, 7, 7, 7, 7, 7, 7, 7, 7, 7, 7, 7, 7, 7, 7, 7, 7, 7, 7, 7, 7, 7, 7, 7, 7, 7, 7, 7, 7, 7, 7, 7, 7, 7, 7, 7, 7, 7, 7, 7, 7, 8, 8, 8, 8, 8, 8, 8, 8, 8, 8, 8, 8, 8, 8, 8, 8, 8, 8, 8, 8, 8, 8, 8, 8, 8, 8, 8, 8, 8, 8, 8, 8, 8, 8, 8, 8, 8, 8, 8, 8, 8, 8, 8, 8, 8, 8, 8, 8, 8, 8, 8, 8, 8, 8, 8, 8, 8, 8, 8, 8, 8, 8, 8, 8, 8, 8, 8, 8, 8, 8, 8, 8, 8, 8, 8, 8, 8, 8, 8, 8, 8, 8, 8, 8, 8, 8, 8, 8, 8, 8, 8, 8, 8, 8, 8, 8, 8, 8, 8, 8, 8, 8, 8, 8, 8, 8, 8, 8, 8, 8, 8, 8, 8, 8, 8, 8, 8, 8, 8, 8, 8, 8, 8, 8, 8, 8, 8, 8]))) then
            some (PRes.val [(D.int IntKind.i64 (A.wrap IntKind.i64 (A.add (A.wrap IntKind.i64 (A.add 0 16)) (A.wrap IntKind.i64 (A.sbyte (bs [0, 1, 2, 2, 3, 3, 3, 3, 4, 4, 4, 4, 4, 4, 4, 4, 5, 5, 5, 5, 5, 5, 5, 5, 5, 5, 5, 5, 5, 5, 5, 5, 6, 6, 6, 6, 6, 6, 6, 6, 6, 6, 6, 6, 6, 6, 6, 6, 6, 6, 6, 6, 6, 6, 6, 6, 6, 6, 6, 6, 6, 6, 6, 6, 7, 7, 7, 7, 7, 7, 7, 7, 7, 7, 7, 7, 7, 7, 7, 7, 7, 7, 7, 7, 7, 7, 7, 7, 7, 7, 7, 7, 7, 7, 7, 7, 7, 7, 7, 7, 7, 7, 7, 7, 7, 7, 7, 7, 7, 7, 7, 7, 7, 7, 7, 7, 7, 7, 7, 7, 7, 7, 7, 7, 7, 7, 7, 7, 8, 8, 8, 8, 8, 8, 8, 8, 8, 8, 8, 8, 8, 8, 8, 8, 8, 8, 8, 8, 8, 8, 8, 8, 8, 8, 8, 8, 8, 8, 8, 8, 8, 8, 8, 8, 8, 8, 8, 8, 8, 8, 8, 8, 8, 8, 8, 8, 8, 8, 8, 8, 8, 8, 8, 8, 8, 8, 8, 8, 8, 8, 8, 8, 8, 8, 8, 8, 8, 8, 8, 8, 8, 8, 8, 8, 8, 8, 8, 8, 8, 8, 8, 8, 8, 8, 8, 8, 8, 8, 8, 8, 8, 8, 8, 8, 8, 8, 8, 8, 8, 8, 8, 8, 8, 8, 8, 8, 8, 8, 8, 8, 8, 8, 8, 8, 8, 8, 8, 8, 8, 8, 8, 8, 8, 8, 8, 8]) (A.wrap IntKind.u8 (A.shr IntKind.u64 x_ 16)))))))])
          else
            none
      else
        none
    else
      bif (A.ile 256 x_) then
        bif (A.ile 0 8) then
          bif (A.inr (A.wrap IntKind.u8 (A.shr IntKind.u64 x_ 8)) (A.slen (bs [0, 1, 2, 2, 3, 3, 3, 3, 4, 4, 4, 4, 4, 4, 4, 4, 5, 5, 5, 5, 5, 5, 5, 5, 5, 5, 5, 5, 5, 5, 5, 5, 6, 6, 6, 6, 6, 6, 6, 6, 6, 6, 6, 6, 6, 6, 6, 6, 6, 6, 6, 6, 6, 6, 6, 6, 6, 6, 6, 6, 6, 6, 6, 6, 7, 7, 7, 7, 7, 7, 7, 7, 7, 7, 7, 7, 7, 7, 7, 7, 7, 7, 7, 7, 7, 7, 7, 7, 7, 7, 7, 7, 7, 7, 7, 7, 7, 7, 7, 7, 7, 7, 7, 7, 7, 7, 7, 7, 7, 7, 7, 7, 7, 7, 7, 7, 7, 7, 7, 7, 7, 7, 7, 7, 7, 7, 7, 7, 8, 8, 8, 8, 8, 8, 8, 8, 8, 8, 8, 8, 8, 8, 8, 8, 8, 8, 8, 8, 8, 8, 8, 8, 8, 8, 8, 8, 8, 8, 8, 8, 8, 8, 8, 8, 8, 8, 8, 8, 8, 8, 8, 8, 8, 8, 8, 8, 8, 8, 8, 8, 8, 8, 8, 8, 8, 8, 8, 8, 8, 8, 8, 8, 8, 8, 8, 8, 8, 8, 8, 8, 8, 8, 8, 8, 8, 8, 8, 8, 8, 8, 8, 8, 8, 8, 8, 8, 8, 8, 8, 8, 8, 8, 8, 8, 8, 8, 8, 8, 8, 8, 8, 8, 8, 8, 8, 8, 8, 8, 8, 8, 8, 8, 8, 8, 8, 8, 8, 8, 8, 8, 8, 8, 8, 8, 8, 8]))) then
            some (PRes.val [(D.int IntKind.i64 (A.wrap IntKind.i64 (A.add (A.wrap IntKind.i64 (A.add 0 8)) (A.wrap IntKind.i64 (A.sbyte (bs [0, 1, 2, 2, 3, 3, 3, 3, 4, 4, 4, 4, 4, 4, 4, 4, 5, 5, 5, 5, 5, 5, 5, 5, 5, 5, 5, 5, 5, 5, 5, 5, 6, 6, 6, 6, 6, 6, 6, 6, 6, 6, 6, 6, 6, 6, 6, 6, 6, 6, 6, 6, 6, 6, 6, 6, 6, 6, 6, 6, 6, 6, 6, 6, 7, 7, 7, 7, 7, 7, 7, 7, 7, 7, 7, 7, 7, 7, 7, 7, 7, 7, 7, 7, 7, 7, 7, 7, 7, 7, 7, 7, 7, 7, 7, 7, 7, 7, 7, 7, 7, 7, 7, 7, 7, 7, 7, 7, 7, 7, 7, 7, 7, 7, 7, 7, 7, 7, 7, 7, 7, 7, 7, 7, 7, 7, 7, 7, 8, 8, 8, 8, 8, 8, 8, 8, 8, 8, 8, 8, 8, 8, 8, 8, 8, 8, 8, 8, 8, 8, 8, 8, 8, 8, 8, 8, 8, 8, 8, 8, 8, 8, 8, 8, 8, 8, 8, 8, 8, 8, 8, 8, 8, 8, 8, 8, 8, 8, 8, 8, 8, 8, 8, 8, 8, 8, 8, 8, 8, 8, 8, 8, 8, 8, 8, 8, 8, 8, 8, 8, 8, 8, 8, 8, 8, 8, 8, 8, 8, 8, 8, 8, 8, 8, 8, 8, 8, 8, 8, 8, 8, 8, 8, 8, 8, 8, 8, 8, 8, 8, 8, 8, 8, 8, 8, 8, 8, 8, 8, 8, 8, 8, 8, 8, 8, 8, 8, 8, 8, 8, 8, 8, 8, 8, 8, 8]) (A.wrap IntKind.u8 (A.shr IntKind.u64 x_ 8)))))))])
          else
            none
        else
          none
      else
        bif (A.inr (A.wrap IntKind.u8 x_) (A.slen (bs [0, 1, 2, 2, 3, 3, 3, 3, 4, 4, 4, 4, 4, 4, 4, 4, 5, 5, 5, 5, 5, 5, 5, 5, 5, 5, 5, 5, 5, 5, 5, 5, 6, 6, 6, 6, 6, 6, 6, 6, 6, 6, 6, 6, 6, 6, 6, 6, 6, 6, 6, 6, 6, 6, 6, 6, 6, 6, 6, 6, 6, 6, 6, 6, 7, 7, 7, 7, 7, 7, 7, 7, 7, 7, 7, 7, 7, 7, 7, 7, 7, 7, 7, 7, 7, 7, 7, 7, 7, 7, 7, 7, 7, 7, 7, 7, 7, 7, 7, 7, 7, 7, 7, 7, 7, 7, 7, 7, 7, 7, 7, 7, 7, 7, 7, 7, 7, 7, 7, 7, 7, 7, 7, 7, 7, 7, 7, 7, 8, 8, 8, 8, 8, 8, 8, 8, 8, 8, 8, 8, 8, 8, 8, 8, 8, 8, 8, 8, 8, 8, 8, 8, 8, 8, 8, 8, 8, 8, 8, 8, 8, 8, 8, 8, 8, 8, 8, 8, 8, 8, 8, 8, 8, 8, 8, 8, 8, 8, 8, 8, 8, 8, 8, 8, 8, 8, 8, 8, 8, 8, 8, 8, 8, 8, 8, 8, 8, 8, 8, 8, 8, 8, 8, 8, 8, 8, 8, 8, 8, 8, 8, 8, 8, 8, 8, 8, 8, 8, 8, 8, 8, 8, 8, 8, 8, 8, 8, 8, 8, 8, 8, 8, 8, 8, 8, 8, 8, 8, 8, 8, 8, 8, 8, 8, 8, 8, 8, 8, 8, 8, 8, 8, 8, 8, 8, 8]))) then
          some (PRes.val [(D.int IntKind.i64 (A.wrap IntKind.i64 (A.add 0 (A.wrap IntKind.i64 (A.sbyte (bs [0, 1, 2, 2, 3, 3, 3, 3, 4, 4, 4, 4, 4, 4, 4, 4, 5, 5, 5, 5, 5, 5, 5, 5, 5, 5, 5, 5, 5, 5, 5, 5, 6, 6, 6, 6, 6, 6, 6, 6, 6, 6, 6, 6, 6, 6, 6, 6, 6, 6, 6, 6, 6, 6, 6, 6, 6, 6, 6, 6, 6, 6, 6, 6, 7, 7, 7, 7, 7, 7, 7, 7, 7, 7, 7, 7, 7, 7, 7, 7, 7, 7, 7, 7, 7, 7, 7, 7, 7, 7, 7, 7, 7, 7, 7, 7, 7, 7, 7, 7, 7, 7, 7, 7, 7, 7, 7, 7, 7, 7, 7, 7, 7, 7, 7, 7, 7, 7, 7, 7, 7, 7, 7, 7, 7, 7, 7, 7, 8, 8, 8, 8, 8, 8, 8, 8, 8, 8, 8, 8, 8, 8, 8, 8, 8, 8, 8, 8, 8, 8, 8, 8, 8, 8, 8, 8, 8, 8, 8, 8, 8, 8, 8, 8, 8, 8, 8, 8, 8, 8, 8, 8, 8, 8, 8, 8, 8, 8, 8, 8, 8, 8, 8, 8, 8, 8, 8, 8, 8, 8, 8, 8, 8, 8, 8, 8, 8, 8, 8, 8, 8, 8, 8, 8, 8, 8, 8, 8, 8, 8, 8, 8, 8, 8, 8, 8, 8, 8, 8, 8, 8, 8, 8, 8, 8, 8, 8, 8, 8, 8, 8, 8, 8, 8, 8, 8, 8, 8, 8, 8, 8, 8, 8, 8, 8, 8, 8, 8, 8, 8, 8, 8, 8, 8, 8, 8]) (A.wrap IntKind.u8 x_))))))])
        else
          none
theorem g129_eq (A : Sy) (E : Env) (x_ : Int) : (funT A Try.prog cs 129 [V.d (D.int IntKind.u64 x_)]).run E = g129 A E x_ := by kernel_rfl

end Go.Vm
end

section
set_option linter.all false
namespace Go.Vm
open Go.Proofs
theorem c153 (x : Int) : cF 153 [.d (.int .i64 x)] = some (.val [.bool false]) := by
  refine cOf (by kernel_rfl) rfl ?_
  rw [g153_eq]
  simp only [g153, sy_wrap, sy_add, sy_sub, sy_mul, sy_ieq, sy_ilt, sy_ile, sy_seq, sy_beq, sy_bor, sy_bnot, sy_imax, sy_imin, sy_rlen, sy_slen, sy_sapp, sy_inr, sy_nat, sy_cell0, sy_cellS, sy_skip0, sy_inrn, sy_rapp, sy_fits, sy_cutok, sy_cut, sy_scut, sy_sbyte, sy_mkok, sy_mkok0, sy_mkz, sy_rep, sy_head, sy_deq, eqDs_int, eqDs_nil, opI_int, opB_bool, opS_str, opL_sl, opM_own, leaves_val, leaves_own, Option.bind_some, cutO_bool, bif_bool, cutO_inl, cutO_inr, eF_call, eF_lp, Nat.zero_add, Nat.reduceAdd, Bool.cond_false_right, Bool.cond_true_left, Bool.cond_false_left, Bool.cond_true_right, Bool.not_true, Bool.not_false, Bool.not_not, eq_self, decide_true, decide_false, cond_true, cond_false, Int.reduceEq, Int.reduceLT, Int.reduceLE, Int.reduceSub, Int.reduceAdd, Bool.true_and, Bool.and_true, Bool.false_and, Bool.and_false, Bool.or_false, Bool.false_or, Bool.true_or, Bool.or_true, true_and, and_true]
theorem c125 (x y : Int) : cF 125 [.d (.int .i64 x), .d (.int .i64 y)] = some (.val [.bool (decide (x < y))]) := by
  refine cOf (by kernel_rfl) rfl ?_
  rw [g125_eq]
  simp only [g125, sy_wrap, sy_add, sy_sub, sy_mul, sy_ieq, sy_ilt, sy_ile, sy_seq, sy_beq, sy_bor, sy_bnot, sy_imax, sy_imin, sy_rlen, sy_slen, sy_sapp, sy_inr, sy_nat, sy_cell0, sy_cellS, sy_skip0, sy_inrn, sy_rapp, sy_fits, sy_cutok, sy_cut, sy_scut, sy_sbyte, sy_mkok, sy_mkok0, sy_mkz, sy_rep, sy_head, sy_deq, eqDs_int, eqDs_nil, opI_int, opB_bool, opS_str, opL_sl, opM_own, leaves_val, leaves_own, Option.bind_some, cutO_bool, bif_bool, cutO_inl, cutO_inr, eF_call, eF_lp, Nat.zero_add, Nat.reduceAdd, Bool.cond_false_right, Bool.cond_true_left, Bool.cond_false_left, Bool.cond_true_right, Bool.not_true, Bool.not_false, Bool.not_not, eq_self, decide_true, decide_false, cond_true, cond_false, Int.reduceEq, Int.reduceLT, Int.reduceLE, Int.reduceSub, Int.reduceAdd, Bool.true_and, Bool.and_true, Bool.false_and, Bool.and_false, Bool.or_false, Bool.false_or, Bool.true_or, Bool.or_true, true_and, and_true, c153]
/-- Is n no place that at leads to in a code of so many? -/
def deadI (at_ len n : Int) : Bool := decide (n ≤ at_) || decide (len ≤ n)
theorem c44 (n at_ : Int) (code : List (List D)) : cF 44 [.d (.int .i64 n), .pel [.int .i64 at_], .pel [.sl 4 code]] = some (.val [.bool (deadI at_ code.length n)]) := by
  refine cOf (by kernel_rfl) rfl ?_
  rw [g44_eq]
  simp only [g44, sy_wrap, sy_add, sy_sub, sy_mul, sy_ieq, sy_ilt, sy_ile, sy_seq, sy_beq, sy_bor, sy_bnot, sy_imax, sy_imin, sy_rlen, sy_slen, sy_sapp, sy_inr, sy_nat, sy_cell0, sy_cellS, sy_skip0, sy_inrn, sy_rapp, sy_fits, sy_cutok, sy_cut, sy_scut, sy_sbyte, sy_mkok, sy_mkok0, sy_mkz, sy_rep, sy_head, sy_deq, eqDs_int, eqDs_nil, opI_int, opB_bool, opS_str, opL_sl, opM_own, leaves_val, leaves_own, Option.bind_some, cutO_bool, bif_bool, cutO_inl, cutO_inr, eF_call, eF_lp, Nat.zero_add, Nat.reduceAdd, Bool.cond_false_right, Bool.cond_true_left, Bool.cond_false_left, Bool.cond_true_right, Bool.not_true, Bool.not_false, Bool.not_not, eq_self, decide_true, decide_false, cond_true, cond_false, Int.reduceEq, Int.reduceLT, Int.reduceLE, Int.reduceSub, Int.reduceAdd, Bool.true_and, Bool.and_true, Bool.false_and, Bool.and_false, Bool.or_false, Bool.false_or, Bool.true_or, Bool.or_true, true_and, and_true]
  unfold deadI
  by_cases h : n ≤ at_ <;> simp [h]
theorem c75_44 (l : List Int) (at_ : Int) (code : List (List D)) (hl : l.length ≤ 100000) : cF 75 [.d (.sl 1 (irows l)), .fn 44 [.pel [.int .i64 at_], .pel [.sl 4 code]]] = some (.val [.int .i64 (idxI (deadI at_ code.length) l 0)]) := by
  refine cOf (by kernel_rfl) rfl ?_
  rw [g75_44_eq]
  simp only [g75_44, sy_wrap, sy_add, sy_sub, sy_mul, sy_ieq, sy_ilt, sy_ile, sy_seq, sy_beq, sy_bor, sy_bnot, sy_imax, sy_imin, sy_rlen, sy_slen, sy_sapp, sy_inr, sy_nat, sy_cell0, sy_cellS, sy_skip0, sy_inrn, sy_rapp, sy_fits, sy_cutok, sy_cut, sy_scut, sy_sbyte, sy_mkok, sy_mkok0, sy_mkz, sy_rep, sy_head, sy_deq, eqDs_int, eqDs_nil, opI_int, opB_bool, opS_str, opL_sl, opM_own, leaves_val, leaves_own, Option.bind_some, cutO_bool, bif_bool, cutO_inl, cutO_inr, eF_call, eF_lp, Nat.zero_add, Nat.reduceAdd, Bool.cond_false_right, Bool.cond_true_left, Bool.cond_false_left, Bool.cond_true_right, Bool.not_true, Bool.not_false, Bool.not_not, eq_self, decide_true, decide_false, cond_true, cond_false, Int.reduceEq, Int.reduceLT, Int.reduceLE, Int.reduceSub, Int.reduceAdd, Bool.true_and, Bool.and_true, Bool.false_and, Bool.and_false, Bool.or_false, Bool.false_or, Bool.true_or, Bool.or_true, true_and, and_true]
  refine idx_loop (deadI at_ code.length) l (fun i => [.sl 1 (irows l), .int .i64 at_, .sl 4 code, .int .i64 ((irows l).length : Int), .int .i64 i]) (fun i x hx => ?_) ?_
  · have hlt := (List.getElem?_eq_some_iff.1 hx).1
    simp only [sy_wrap, sy_add, sy_sub, sy_mul, sy_ieq, sy_ilt, sy_ile, sy_seq, sy_beq, sy_bor, sy_bnot, sy_imax, sy_imin, sy_rlen, sy_slen, sy_sapp, sy_inr, sy_nat, sy_cell0, sy_cellS, sy_skip0, sy_inrn, sy_rapp, sy_fits, sy_cutok, sy_cut, sy_scut, sy_sbyte, sy_mkok, sy_mkok0, sy_mkz, sy_rep, sy_head, sy_deq, eqDs_int, eqDs_nil, opI_int, opB_bool, opS_str, opL_sl, opM_own, leaves_val, leaves_own, Option.bind_some, cutO_bool, bif_bool, cutO_inl, cutO_inr, eF_call, eF_lp, Nat.zero_add, Nat.reduceAdd, Bool.cond_false_right, Bool.cond_true_left, Bool.cond_false_left, Bool.cond_true_right, Bool.not_true, Bool.not_false, Bool.not_not, eq_self, decide_true, decide_false, cond_true, cond_false, Int.reduceEq, Int.reduceLT, Int.reduceLE, Int.reduceSub, Int.reduceAdd, Bool.true_and, Bool.and_true, Bool.false_and, Bool.and_false, Bool.or_false, Bool.false_or, Bool.true_or, Bool.or_true, true_and, and_true, irows_len, ilt_at hlt, inr_at hlt, irows_at hx, c44, wrap_succ hlt (by omega)]
  · simp only [sy_wrap, sy_add, sy_sub, sy_mul, sy_ieq, sy_ilt, sy_ile, sy_seq, sy_beq, sy_bor, sy_bnot, sy_imax, sy_imin, sy_rlen, sy_slen, sy_sapp, sy_inr, sy_nat, sy_cell0, sy_cellS, sy_skip0, sy_inrn, sy_rapp, sy_fits, sy_cutok, sy_cut, sy_scut, sy_sbyte, sy_mkok, sy_mkok0, sy_mkz, sy_rep, sy_head, sy_deq, eqDs_int, eqDs_nil, opI_int, opB_bool, opS_str, opL_sl, opM_own, leaves_val, leaves_own, Option.bind_some, cutO_bool, bif_bool, cutO_inl, cutO_inr, eF_call, eF_lp, Nat.zero_add, Nat.reduceAdd, Bool.cond_false_right, Bool.cond_true_left, Bool.cond_false_left, Bool.cond_true_right, Bool.not_true, Bool.not_false, Bool.not_not, eq_self, decide_true, decide_false, cond_true, cond_false, Int.reduceEq, Int.reduceLT, Int.reduceLE, Int.reduceSub, Int.reduceAdd, Bool.true_and, Bool.and_true, Bool.false_and, Bool.and_false, Bool.or_false, Bool.false_or, Bool.true_or, Bool.or_true, true_and, and_true, irows_len, ilt_self]
theorem c129_0 : cF 129 [.d (.int .u64 0)] = some (.val [.int .i64 0]) := by
  refine cOf (by kernel_rfl) rfl ?_
  rw [g129_eq]
  kernel_rfl
theorem c129_1 : cF 129 [.d (.int .u64 1)] = some (.val [.int .i64 1]) := by
  refine cOf (by kernel_rfl) rfl ?_
  rw [g129_eq]
  kernel_rfl
theorem c129_2 : cF 129 [.d (.int .u64 2)] = some (.val [.int .i64 2]) := by
  refine cOf (by kernel_rfl) rfl ?_
  rw [g129_eq]
  kernel_rfl
theorem c106_0 : cF 106 [.d (.int .u64 0)] = some (.val [.int .i64 0]) := by
  refine cOf (by kernel_rfl) rfl ?_
  rw [g106_eq]
  simp only [g106, sy_wrap, sy_add, sy_sub, sy_mul, sy_ieq, sy_ilt, sy_ile, sy_seq, sy_beq, sy_bor, sy_bnot, sy_imax, sy_imin, sy_rlen, sy_slen, sy_sapp, sy_inr, sy_nat, sy_cell0, sy_cellS, sy_skip0, sy_inrn, sy_rapp, sy_fits, sy_cutok, sy_cut, sy_scut, sy_sbyte, sy_mkok, sy_mkok0, sy_mkz, sy_rep, sy_head, sy_deq, eqDs_int, eqDs_nil, opI_int, opB_bool, opS_str, opL_sl, opM_own, leaves_val, leaves_own, Option.bind_some, cutO_bool, bif_bool, cutO_inl, cutO_inr, eF_call, eF_lp, Nat.zero_add, Nat.reduceAdd, Bool.cond_false_right, Bool.cond_true_left, Bool.cond_false_left, Bool.cond_true_right, Bool.not_true, Bool.not_false, Bool.not_not, eq_self, decide_true, decide_false, cond_true, cond_false, Int.reduceEq, Int.reduceLT, Int.reduceLE, Int.reduceSub, Int.reduceAdd, Bool.true_and, Bool.and_true, Bool.false_and, Bool.and_false, Bool.or_false, Bool.false_or, Bool.true_or, Bool.or_true, true_and, and_true, c129_0]
theorem c106_1 : cF 106 [.d (.int .u64 1)] = some (.val [.int .i64 1]) := by
  refine cOf (by kernel_rfl) rfl ?_
  rw [g106_eq]
  simp only [g106, sy_wrap, sy_add, sy_sub, sy_mul, sy_ieq, sy_ilt, sy_ile, sy_seq, sy_beq, sy_bor, sy_bnot, sy_imax, sy_imin, sy_rlen, sy_slen, sy_sapp, sy_inr, sy_nat, sy_cell0, sy_cellS, sy_skip0, sy_inrn, sy_rapp, sy_fits, sy_cutok, sy_cut, sy_scut, sy_sbyte, sy_mkok, sy_mkok0, sy_mkz, sy_rep, sy_head, sy_deq, eqDs_int, eqDs_nil, opI_int, opB_bool, opS_str, opL_sl, opM_own, leaves_val, leaves_own, Option.bind_some, cutO_bool, bif_bool, cutO_inl, cutO_inr, eF_call, eF_lp, Nat.zero_add, Nat.reduceAdd, Bool.cond_false_right, Bool.cond_true_left, Bool.cond_false_left, Bool.cond_true_right, Bool.not_true, Bool.not_false, Bool.not_not, eq_self, decide_true, decide_false, cond_true, cond_false, Int.reduceEq, Int.reduceLT, Int.reduceLE, Int.reduceSub, Int.reduceAdd, Bool.true_and, Bool.and_true, Bool.false_and, Bool.and_false, Bool.or_false, Bool.false_or, Bool.true_or, Bool.or_true, true_and, and_true, c129_1]
theorem c106_2 : cF 106 [.d (.int .u64 2)] = some (.val [.int .i64 2]) := by
  refine cOf (by kernel_rfl) rfl ?_
  rw [g106_eq]
  simp only [g106, sy_wrap, sy_add, sy_sub, sy_mul, sy_ieq, sy_ilt, sy_ile, sy_seq, sy_beq, sy_bor, sy_bnot, sy_imax, sy_imin, sy_rlen, sy_slen, sy_sapp, sy_inr, sy_nat, sy_cell0, sy_cellS, sy_skip0, sy_inrn, sy_rapp, sy_fits, sy_cutok, sy_cut, sy_scut, sy_sbyte, sy_mkok, sy_mkok0, sy_mkz, sy_rep, sy_head, sy_deq, eqDs_int, eqDs_nil, opI_int, opB_bool, opS_str, opL_sl, opM_own, leaves_val, leaves_own, Option.bind_some, cutO_bool, bif_bool, cutO_inl, cutO_inr, eF_call, eF_lp, Nat.zero_add, Nat.reduceAdd, Bool.cond_false_right, Bool.cond_true_left, Bool.cond_false_left, Bool.cond_true_right, Bool.not_true, Bool.not_false, Bool.not_not, eq_self, decide_true, decide_false, cond_true, cond_false, Int.reduceEq, Int.reduceLT, Int.reduceLE, Int.reduceSub, Int.reduceAdd, Bool.true_and, Bool.and_true, Bool.false_and, Bool.and_false, Bool.or_false, Bool.false_or, Bool.true_or, Bool.or_true, true_and, and_true, c129_2]
end Go.Vm
end
