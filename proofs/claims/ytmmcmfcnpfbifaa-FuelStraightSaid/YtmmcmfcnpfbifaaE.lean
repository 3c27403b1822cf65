/-
  Part E of the proof. What is proved by the whole: the statement that the claim names, with no condition. This part: lemmas.
-/
import Derived.Test.YtmmcmfcnpfbifaaD
import Derived.Test.YtmmcmfcnpfbifaaChecked
set_option linter.unusedSimpArgs false
set_option linter.unusedVariables false

section
set_option maxHeartbeats 2000000
namespace Go.Vm
theorem bft : (false = true) = False := by simp
theorem btf : (true = false) = False := by simp
def firstB (x : Ins) : Bool := if x.op = 1 then withinB x.a 1 1000 else if x.op = 4 then x.a == 1 || x.a == 2 else if x.op = 5 then withinB x.a 3 16 else if x.op = 10 then x.a == 0 else withinB x.a 0 65535
theorem right_eq (x : Ins) : rightB x = (withinB x.op 1 10 && firstB x && !(!(x.op == 1) && !(x.n == 0)) && (if x.op == 8 || x.op == 9 then withinB x.b 1 8 else x.b == 0)) := by
  obtain ⟨op, a, b, n⟩ := x
  by_cases h : 1 ≤ op ∧ op ≤ 10
  · have : op = 1 ∨ op = 2 ∨ op = 3 ∨ op = 4 ∨ op = 5 ∨ op = 6 ∨ op = 7 ∨ op = 8 ∨ op = 9 ∨ op = 10 := by omega
    rcases this with rfl | rfl | rfl | rfl | rfl | rfl | rfl | rfl | rfl | rfl <;> simp [rightB, firstB, withinB] <;> (try (cases (n == 0) <;> simp)) <;> (try (cases (b == 0) <;> simp))
    all_goals grind
  · have hw : withinB op 1 10 = false := by rw [withinB_false]; omega
    simp only [hw, Bool.false_and, rightB]
    rw [if_neg (by omega), if_neg (by omega), if_neg (by omega), if_neg (by omega), if_neg (by omega), if_neg (by omega)]
    simp
theorem kind_within {la : List Int} {k : Int} : kindB (il la) k = withinB k 1 (2 + il la) ∨ il la < 0 := by
  by_cases h : il la < 0
  · exact .inr h
  · refine .inl ?_
    rw [Bool.eq_iff_iff]; unfold kindB; simp only [↓bft, ↓btf, Bool.and_eq_true, Bool.or_eq_true, Bool.and_eq_false_iff, Bool.or_eq_false_iff, Bool.not_eq_true', Bool.not_eq_false', Bool.not_eq_true, Bool.not_eq_false, decide_eq_true_eq, decide_eq_false_iff_not, beq_iff_eq, beq_eq_false_iff_ne, ne_eq, not_true_eq_false, not_false_eq_true, reduceCtorEq, true_iff, false_iff, iff_true, iff_false, Decidable.not_not, withinB_iff, withinB_false, eq_self]; omega
theorem kind_eq (la : List Int) (k : Int) : kindB (il la) k = withinB k 1 (2 + il la) := kind_within.resolve_right (by have := il_nonneg la; omega)
theorem ends_len {row ks : List Int} (h : endsB row ks = true) : il ks ≤ il row := by
  unfold endsB at h; simp only [Bool.and_eq_true, decide_eq_true_eq] at h; simp only [il]; omega
theorem unTy_bd {op : Int} {t r : Ty3} (h : unTy op t = some r) : r = ⟨1, 0, 0⟩ ∨ r = ⟨2, 0, 0⟩ := by
  unfold unTy at h
  repeat' split at h
  all_goals simp_all
theorem binTy_cases (op : Int) (t u : Ty3) : (binTy op t u = none) ∨ (binTy op t u = some ⟨1, 0, 0⟩) ∨ (binTy op t u = some ⟨2, 0, 0⟩) := by
  unfold binTy; repeat' split
  all_goals simp
theorem binTy_bd {op : Int} {t u r : Ty3} (h : binTy op t u = some r) : r = ⟨1, 0, 0⟩ ∨ r = ⟨2, 0, 0⟩ := by
  rcases binTy_cases op t u with h1 | h1 | h1 <;> rw [h1] at h <;> simp at h <;> subst h <;> simp
def cl (l : List Ins) : Int := l.length
theorem cl_nonneg (l : List Ins) : 0 ≤ cl l := by unfold cl; omega
/-! ### maps from numbers to rows -/
def encM (L : List (Int × List Int)) : List (List D) := L.map fun p => [.int .i64 p.1, .sl 1 (irows p.2)]
def lk : List (Int × List Int) → Int → Option (List Int)
  | [], _ => none
  | (k, v) :: L, m => if k = m then some v else lk L m
def putL : List (Int × List Int) → Int → List Int → List (Int × List Int)
  | [], m, x => [(m, x)]
  | (k, v) :: L, m, x => if k = m then (k, x) :: L else (k, v) :: putL L m x
def delL : List (Int × List Int) → Int → List (Int × List Int)
  | [], _ => []
  | (k, v) :: L, m => if k = m then L else (k, v) :: delL L m
theorem lk_put (x : List Int) (n m : Int) : ∀ L, lk (putL L n x) m = if m = n then some x else lk L m
  | [] => by simp only [putL, lk]; by_cases h : n = m <;> simp [h, eq_comm]
  | (k, v) :: L => by
    unfold putL
    split
    · rename_i h; subst h; simp only [lk]
      by_cases h : k = m
      · rw [if_pos h, if_pos h.symm]
      · rw [if_neg h, if_neg (fun e => h e.symm), if_neg h]
    · rename_i h
      simp only [lk, lk_put x n m L]
      by_cases h1 : k = m
      · subst h1; rw [if_pos rfl, if_neg h]; simp
      · simp only [h1, if_false]
theorem lk_del (n m : Int) (hne : m ≠ n) : ∀ L, lk (delL L n) m = lk L m
  | [] => rfl
  | (k, v) :: L => by
    unfold delL
    split
    · rename_i h; subst h; simp only [lk]; rw [if_neg (fun e => hne e.symm)]
    · simp only [lk, lk_del n m hne L]
theorem midx_ne {k k' : D} {w : List D} {rs : List (List D)} (h : keyIs k k' = false) : midx k ((k' :: w) :: rs) = (midx k rs).map (· + 1) := by
  simp [midx, h]
theorem midx_eq {k k' : D} {w : List D} {rs : List (List D)} (h : keyIs k k' = true) : midx k ((k' :: w) :: rs) = some 0 := by
  simp [midx, h]
theorem mhas_enc (m : Int) : ∀ L, mhas (.int .i64 m) (encM L) = (lk L m).isSome
  | [] => rfl
  | (k, v) :: L => by
    have ih := mhas_enc m L
    unfold mhas at *
    show (midx (.int .i64 m) ((D.int .i64 k :: [.sl 1 (irows v)]) :: encM L)).isSome = _
    unfold lk
    by_cases h : k = m
    · rw [midx_eq (by simp [keyIs, h]), if_pos h]; rfl
    · rw [midx_ne (by simp [keyIs]; omega), if_neg h, ← ih]; cases midx (.int .i64 m) (encM L) <;> rfl
theorem mval_enc (z : D) (m : Int) : ∀ L, mval z (.int .i64 m) (encM L) = (match lk L m with | some v => .sl 1 (irows v) | none => z)
  | [] => rfl
  | (k, v) :: L => by
    have ih := mval_enc z m L
    unfold mval mget at *
    show ((midx (.int .i64 m) ((D.int .i64 k :: [.sl 1 (irows v)]) :: encM L)).bind fun i => (((D.int .i64 k :: [.sl 1 (irows v)]) :: encM L)[i]?).bind (·[1]?)).getD z = _
    unfold lk
    by_cases h : k = m
    · rw [midx_eq (by simp [keyIs, h]), if_pos h]; rfl
    · rw [midx_ne (by simp [keyIs]; omega), if_neg h, ← ih]; cases midx (.int .i64 m) (encM L) <;> rfl
theorem mput_enc (m : Int) (x : List Int) : ∀ L, mput (.int .i64 m) (.sl 1 (irows x)) (encM L) = encM (putL L m x)
  | [] => rfl
  | (k, v) :: L => by
    have ih := mput_enc m x L
    unfold mput at *
    show (match midx (.int .i64 m) ((D.int .i64 k :: [.sl 1 (irows v)]) :: encM L) with | some i => _ | none => _) = _
    unfold putL
    by_cases h : k = m
    · rw [midx_eq (by simp [keyIs, h]), if_pos h, h]; rfl
    · rw [midx_ne (by simp [keyIs]; omega), if_neg h]
      show _ = (D.int .i64 k :: [.sl 1 (irows v)]) :: encM (putL L m x)
      rw [← ih]
      cases midx (.int .i64 m) (encM L) <;> rfl
theorem mdel_enc (m : Int) : ∀ L, mdel (.int .i64 m) (encM L) = encM (delL L m)
  | [] => rfl
  | (k, v) :: L => by
    have ih := mdel_enc m L
    unfold mdel at *
    show (match midx (.int .i64 m) ((D.int .i64 k :: [.sl 1 (irows v)]) :: encM L) with | some i => _ | none => _) = _
    unfold delL
    by_cases h : k = m
    · rw [midx_eq (by simp [keyIs, h]), if_pos h]; rfl
    · rw [midx_ne (by simp [keyIs]; omega), if_neg h]
      show _ = (D.int .i64 k :: [.sl 1 (irows v)]) :: encM (delL L m)
      rw [← ih]
      cases midx (.int .i64 m) (encM L) <;> rfl

/-! ### rows stay right -/
def RowOK (row : List Int) : Prop := (∀ k ∈ row, 1 ≤ k ∧ k ≤ 100) ∧ row.length ≤ 16
theorem RowOK.drop {row : List Int} (h : RowOK row) (n : Nat) : RowOK (dropTop row n) :=
  ⟨fun k hk => h.1 k (List.mem_of_mem_take hk), Nat.le_trans (List.length_take_le _ _) (by have := h.2; omega)⟩
theorem RowOK.snoc {row : List Int} {k : Int} (h : RowOK row) (h1 : 1 ≤ k) (h2 : k ≤ 100) (hl : row.length < 16) : RowOK (row ++ [k]) :=
  ⟨fun q hq => by
    rcases List.mem_append.1 hq with h3 | h3
    · exact h.1 q h3
    · simp at h3; subst h3; exact ⟨h1, h2⟩, by simp; omega⟩
theorem dropTop_len {row : List Int} {n : Nat} (h : n ≤ row.length) (hn : 0 < n) : (dropTop row n).length < row.length := by
  unfold dropTop; rw [List.length_take]; omega
theorem cellsK_mem {kinds : List Int} {a n k : Int} (h : cellsK kinds a n = some k) (h0 : 0 ≤ a) (h1 : 1 ≤ n) : k ∈ kinds := by
  unfold cellsK at h
  split at h
  · rename_i hle
    split at h
    · simp only [Option.some.injEq] at h
      have hlt : a.toNat < kinds.length := by unfold il at hle; omega
      rw [← h, List.getD_eq_getElem?_getD, List.getElem?_eq_getElem hlt]
      exact List.getElem_mem hlt
    · cases h
  · cases h
theorem operS_ok {x : Ins} {row r : List Int} (h : operS x row = some r) (hr : RowOK row) : RowOK r := by
  unfold operS at h
  split at h
  · split at h
    · cases h
    · rename_i hl
      rw [Option.map_eq_some_iff] at h
      obtain ⟨t, ht, rfl⟩ := h
      have hlt := dropTop_len (row := row) (n := 1) (by omega) (by omega)
      have := hr.2
      rcases unTy_bd ht with rfl | rfl <;> exact (hr.drop 1).snoc (by simp [kindOf]) (by simp [kindOf]) (by omega)
  · split at h
    · cases h
    · rename_i hl
      rw [Option.map_eq_some_iff] at h
      obtain ⟨t, ht, rfl⟩ := h
      have hlt := dropTop_len (row := row) (n := 2) (by omega) (by omega)
      have := hr.2
      rcases binTy_bd ht with rfl | rfl <;> exact (hr.drop 2).snoc (by simp [kindOf]) (by simp [kindOf]) (by omega)
theorem nextS_ok {s : Shp} {x : Ins} {row r : List Int} (h : nextS s x row = some r) (hr : RowOK row) (hs : shapeB s.ctors s.kinds s.lo s.hi = true) (ha : rightB x = true) : RowOK r := by
  have hc : il s.ctors ≤ 4 := by unfold shapeB at hs; simp only [Bool.and_eq_true, decide_eq_true_eq] at hs; omega
  have hk : ∀ k ∈ s.kinds, 1 ≤ k ∧ k ≤ 100 := by
    unfold shapeB at hs
    simp only [Bool.and_eq_true] at hs
    intro k hk
    have := List.all_eq_true.1 hs.2 k hk
    rw [kind_eq] at this
    have := withinB_iff.1 this
    omega
  unfold nextS at h
  split at h
  · split at h
    · rename_i h1 h2
      simp only [Bool.and_eq_true, decide_eq_true_eq] at h2
      cases h
      have := h2.1.1
      rw [kind_eq] at this
      have := withinB_iff.1 this
      exact hr.snoc (by omega) (by omega) h2.2
    · cases h
  · split at h
    · exact operS_ok h hr
    · split at h
      · split at h
        · cases h; exact hr.drop 1
        · cases h
      · split at h
        · cases h; exact hr
        · split at h
          · split at h
            · cases h; exact ⟨by simp, by simp⟩
            · cases h
          · rename_i h1 h4 h7 h6 h10
            unfold memS at h
            split at h
            · cases h
            · rename_i k hck
              have hab : 0 ≤ x.a := by
                rw [right_eq] at ha
                simp only [Bool.and_eq_true] at ha
                obtain ⟨⟨⟨_, q2⟩, _⟩, _⟩ := ha
                unfold firstB at q2
                rw [if_neg h1, if_neg (by omega), if_neg (by omega), if_neg h10] at q2
                exact (withinB_iff.1 q2).1
              have hkk := hk k (cellsK_mem hck hab (by omega))
              split at h
              · split at h
                · cases h; exact hr.snoc hkk.1 hkk.2 ‹_›
                · cases h
              · split at h
                · split at h
                  · rename_i he
                    cases h
                    have := ends_len he
                    simp only [il, List.length_singleton] at this
                    have hlt := dropTop_len (row := row) (n := 1) (by omega) (by omega)
                    have := hr.2
                    exact (hr.drop 1).snoc hkk.1 hkk.2 (by omega)
                  · cases h
                · split at h
                  · split at h
                    · cases h; exact hr.drop 1
                    · cases h
                  · split at h
                    · cases h; exact hr.drop 2
                    · cases h


def KR (M : List (List D)) (i : Int) (K : Known) : Prop := ∃ L, M = encM L ∧ (∀ m : Int, i ≤ m → lk L m = K m.toNat) ∧ ∀ m row, K m = some row → RowOK row
def inner (s : Shp) (n i : Nat) (rest : List Ins) (row' : List Int) (to : List Int) (K : Known) : Int × Bool := match putAll row' to K with
  | none => (i, false)
  | some K' => checkGo s n (i + 1) rest K'
theorem leadsS_bd {n i : Nat} {x : Ins} {T : List Int} (h : leadsS n i x = some T) : (∀ t ∈ T, (i : Int) < t ∧ t < n) ∧ T.length ≤ 2 := by
  unfold leadsS at h
  split at h
  · split at h
    · cases h; exact ⟨by simp, by simp⟩
    · cases h
  · have hl : (if x.op = 6 then [x.a] else if x.op = 7 then [(i : Int) + 1, x.a] else [(i : Int) + 1]).length ≤ 2 := by
      repeat' split
      all_goals simp
    generalize (if x.op = 6 then [x.a] else if x.op = 7 then [(i : Int) + 1, x.a] else [(i : Int) + 1]) = to at h hl
    simp only at h
    by_cases hall : (to.all fun m => decide ((i : Int) < m) && decide (m < (n : Int))) = true
    · rw [if_pos hall] at h
      cases h
      refine ⟨fun t ht => ?_, hl⟩
      have := List.all_eq_true.1 hall t ht
      simpa using this
    · rw [if_neg hall] at h; cases h
theorem cdrop {l : List Ins} {i : Nat} (h : i < l.length) : l.drop i = l.getD i default :: l.drop (i + 1) := by
  rw [List.drop_eq_getElem_cons h]; simp [h]
theorem cl_lt {l : List Ins} {i : Int} (h0 : 0 ≤ i) (h : i < cl l) : i.toNat < l.length := by unfold cl at h; omega
theorem KR.put {L : List (Int × List Int)} {i t : Int} {K : Known} {v : List Int} (h : ∀ m : Int, i ≤ m → lk L m = K m.toNat) (h2 : ∀ m row, K m = some row → RowOK row) (ht : i ≤ t) (hi : 0 ≤ i) (hv : RowOK v) : KR (encM (putL L t v)) i (fun m => if m = t.toNat then some v else K m) := by
  refine ⟨_, rfl, fun m hm => ?_, fun m row hm => ?_⟩
  · rw [lk_put]
    by_cases he : m = t
    · subst he; rw [if_pos rfl]; simp
    · rw [if_neg he, h m hm]; simp only; rw [if_neg (by omega)]
  · simp only at hm
    split at hm
    · cases hm; exact hv
    · exact h2 m row hm
/-- What is right of an instruction of a code that may be run. -/
structure AheadOK (s : Shp) (n i : Int) (x : Ins) : Prop where
  last : x.op = 10 ↔ i = n - 1
  jump : x.op = 6 ∨ x.op = 7 → i < x.a ∧ x.a < n
  cell : x.op = 2 ∨ x.op = 3 → 0 ≤ x.a ∧ x.a < il s.kinds
  free : x.op = 3 ∨ x.op = 9 → ¬ (s.lo ≤ x.a ∧ x.a < s.hi)
theorem step_ok {s : Shp} {n i : Nat} {x : Ins} {row row' to : List Int} (hr : rightB x = true) (hn : nextS s x row = some row') (hl : leadsS n i x = some to) : AheadOK s n i x := by
  have hb := leadsS_bd hl
  rw [right_eq] at hr
  simp only [Bool.and_eq_true] at hr
  obtain ⟨⟨⟨hop, hf⟩, _⟩, _⟩ := hr
  have hop := withinB_iff.1 hop
  have hto : x.op ≠ 10 → to = (if x.op = 6 then [x.a] else if x.op = 7 then [(i : Int) + 1, x.a] else [(i : Int) + 1]) := by
    intro h
    unfold leadsS at hl
    rw [if_neg h] at hl
    generalize (if x.op = 6 then [x.a] else if x.op = 7 then [(i : Int) + 1, x.a] else [(i : Int) + 1]) = to2 at hl ⊢
    simp only at hl
    by_cases hall : (to2.all fun m => decide ((i : Int) < m) && decide (m < (n : Int))) = true
    · rw [if_pos hall] at hl; cases hl; rfl
    · rw [if_neg hall] at hl; cases hl
  have ha : ∀ (h : x.op = 2 ∨ x.op = 3 ∨ x.op = 8 ∨ x.op = 9), 0 ≤ x.a ∧ ∃ k, cellsK s.kinds x.a (max 1 x.b) = some k := by
    intro h
    unfold firstB at hf
    rw [if_neg (by omega), if_neg (by omega), if_neg (by omega), if_neg (by omega)] at hf
    refine ⟨(withinB_iff.1 hf).1, ?_⟩
    unfold nextS at hn
    rw [if_neg (by omega), if_neg (by omega), if_neg (by omega), if_neg (by omega), if_neg (by omega)] at hn
    unfold memS at hn
    split at hn
    · cases hn
    · exact ⟨_, ‹_›⟩
  refine ⟨⟨fun h => ?_, fun h => ?_⟩, fun h => ?_, fun h => ?_, fun h => ?_⟩
  · unfold leadsS at hl
    rw [if_pos h] at hl
    split at hl
    · omega
    · cases hl
  · refine Classical.byContradiction fun hne => ?_
    have := hto hne
    have hmem : ∃ t, t ∈ to := by
      rw [this]; repeat' split
      all_goals exact ⟨_, List.mem_cons_self⟩
    obtain ⟨t, ht⟩ := hmem
    have := hb.1 t ht
    omega
  · have := hto (by omega)
    have hm : x.a ∈ to := by
      rw [this]
      rcases h with h | h
      · rw [if_pos h]; simp
      · rw [if_neg (by omega), if_pos h]; simp
    exact hb.1 _ hm
  · obtain ⟨h0, k, hk⟩ := ha (by omega)
    refine ⟨h0, ?_⟩
    unfold cellsK at hk
    split at hk
    · omega
    · cases hk
  · obtain ⟨h0, k, hk⟩ := ha (by omega)
    unfold nextS at hn
    rw [if_neg (by omega), if_neg (by omega), if_neg (by omega), if_neg (by omega), if_neg (by omega)] at hn
    unfold memS at hn
    rw [hk] at hn
    simp only at hn
    rw [if_neg (by omega), if_neg (by omega)] at hn
    have hfx : fixedB s.lo s.hi x.a (max 1 x.b) = false := by
      rcases h with h | h
      · rw [if_pos h] at hn
        split at hn
        · rename_i q; simp only [Bool.and_eq_true, Bool.not_eq_true'] at q; exact q.2
        · cases hn
      · rw [if_neg (by omega)] at hn
        split at hn
        · rename_i q; simp only [Bool.and_eq_true, Bool.not_eq_true'] at q; exact q.2
        · cases hn
    unfold fixedB at hfx
    simp only [Bool.and_eq_false_iff, decide_eq_false_iff_not] at hfx
    omega
theorem go_ok {s : Shp} {n : Nat} : ∀ (rest : List Ins) (i : Nat) (K : Known) (r : Int), checkGo s n i rest K = (r, true) → i + rest.length = n → r = n ∧ ∀ j, j < rest.length → AheadOK s n ((i + j : Nat) : Int) (rest.getD j default)
  | [], i, K, r, h, hl => by unfold checkGo at h; cases h; exact ⟨rfl, by simp⟩
  | x :: rest, i, K, r, h, hl => by
    unfold checkGo at h
    cases hk : K i with
    | none => rw [hk] at h; cases h
    | some row =>
      rw [hk] at h
      simp only at h
      cases hr : rightB x with
      | false => rw [hr] at h; cases h
      | true =>
        rw [hr] at h
        simp only [if_true] at h
        cases hn : nextS s x row with
        | none => rw [hn] at h; cases h
        | some row' =>
          rw [hn] at h
          simp only at h
          cases hq : leadsS n i x with
          | none => rw [hq] at h; cases h
          | some to =>
            rw [hq] at h
            simp only at h
            cases hp : putAll row' to K with
            | none => rw [hp] at h; cases h
            | some K' =>
              rw [hp] at h
              obtain ⟨h1, h2⟩ := go_ok rest (i + 1) K' r h (by simp at hl; omega)
              refine ⟨h1, fun j hj => ?_⟩
              cases j with
              | zero => exact step_ok hr hn hq
              | succ j =>
                have := h2 j (by simpa using hj)
                rw [show i + (j + 1) = i + 1 + j by omega]
                exact this
theorem go_range {s : Shp} {n : Nat} : ∀ (rest : List Ins) (i : Nat) (K : Known), i + rest.length = n → 0 ≤ (checkGo s n i rest K).1 ∧ (checkGo s n i rest K).1 ≤ n
  | [], i, K, hl => by unfold checkGo; exact ⟨by simp, by simp⟩
  | x :: rest, i, K, hl => by
    have hi : 0 ≤ (i : Int) ∧ (i : Int) ≤ n := by simp at hl; omega
    unfold checkGo
    cases hk : K i with
    | none => exact hi
    | some row =>
      simp only
      cases hr : rightB x with
      | false => exact hi
      | true =>
        simp only [if_true]
        cases hn : nextS s x row with
        | none => exact hi
        | some row' =>
          simp only
          cases hq : leadsS n i x with
          | none => exact hi
          | some to =>
            simp only
            cases hp : putAll row' to K with
            | none => exact hi
            | some K' => exact go_range rest (i + 1) K' (by simp at hl; omega)
theorem check_range (s : Shp) (code : List Ins) : 0 ≤ (checkS s code).1 ∧ (checkS s code).1 ≤ cl code := by
  unfold checkS
  split
  · have := go_range (s := s) (n := code.length) code 0 (fun m => if m = 0 then some [] else none) (by simp)
    unfold cl; exact this
  · exact ⟨Int.le_refl _, cl_nonneg _⟩
theorem check_ok {s : Shp} {code : List Ins} (h : (checkS s code).2 = true) : (checkS s code).1 = cl code ∧ ∀ i : Int, 0 ≤ i → i < cl code → AheadOK s (cl code) i (code.getD i.toNat default) := by
  unfold checkS at *
  split at h
  · rename_i hc
    rw [if_pos hc]
    obtain ⟨h1, h2⟩ := go_ok code 0 _ _ (Prod.ext rfl h) (by simp)
    refine ⟨h1, fun i h0 hi => ?_⟩
    have := h2 i.toNat (cl_lt h0 hi)
    rw [Nat.zero_add, Int.toNat_of_nonneg h0] at this
    exact this
  · cases h
end Go.Vm
end

section
namespace Go.Vm
def KOK (L : List (Int × List Int)) (i : Nat) (K : Known) : Prop := (∀ m : Int, (i : Int) ≤ m → lk L m = K m.toNat) ∧ ∀ m row, K m = some row → RowOK row
theorem KOK.row {L : List (Int × List Int)} {i : Nat} {K : Known} (h : KOK L i K) {m : Int} {row : List Int} (hm : (i : Int) ≤ m) (hl : lk L m = some row) : RowOK row := h.2 _ row (by rw [← h.1 m hm]; exact hl)
theorem KOK.put {L : List (Int × List Int)} {i : Nat} {K : Known} (h : KOK L i K) {t : Int} {v : List Int} (ht : (i : Int) ≤ t) (hv : RowOK v) : KOK (putL L t v) i (fun m => if m = t.toNat then some v else K m) := by
  refine ⟨fun m hm => ?_, fun m row hm => ?_⟩
  · rw [lk_put]
    by_cases he : m = t
    · subst he; rw [if_pos rfl]; simp
    · rw [if_neg he, h.1 m hm]; simp only; rw [if_neg (by omega)]
  · simp only at hm
    split at hm
    · cases hm; exact hv
    · exact h.2 m row hm
theorem put_loop {b : List D → Option (List D ⊕ (List D ⊕ PRes))} (T : List Int) (row' : List Int) (mkI : Nat → List (Int × List Int) → List D) (mkO : List (Int × List Int) → List D) (bad : PRes) (i : Nat)
    (hb : ∀ (j : Nat) L t, T[j]? = some t → (∀ was, lk L t = some was → was.length ≤ 16) → b (mkI j L) = match lk L t with
      | some was => if was = row' then some (.inl (mkI (j + 1) (putL L t row'))) else some (.inr (.inr bad))
      | none => some (.inl (mkI (j + 1) (putL L t row'))))
    (hend : ∀ L, b (mkI T.length L) = some (.inr (.inl (mkO L)))) (hT : ∀ t ∈ T, (i : Int) ≤ t) (hr : RowOK row') :
    ∀ (rest : List Int) (j : Nat) (L : List (Int × List Int)) (K : Known), T.drop j = rest → j ≤ T.length → KOK L i K →
      ∃ out, loopF b (mkI j L) = some out ∧ match putAll row' rest K with
        | none => out = .inr bad
        | some K' => ∃ L', out = .inl (mkO L') ∧ KOK L' i K' := by
  intro rest
  induction rest with
  | nil =>
    intro j L K hd hj hK
    have : j = T.length := by have := congrArg List.length hd; simp at this; omega
    subst this
    rw [loopF_eq, hend]
    exact ⟨_, rfl, L, rfl, hK⟩
  | cons t ts ih =>
    intro j L K hd hj hK
    have hx : T[j]? = some t := by
      have := congrArg (fun r => r[0]?) hd
      simpa using this
    have hlt := (List.getElem?_eq_some_iff.1 hx).1
    have hts : T.drop (j + 1) = ts := by
      have := congrArg List.tail hd
      simpa using this
    have hti := hT t (List.mem_of_getElem? hx)
    have h1 := hb j L t hx (fun was hw => (hK.row hti hw).2)
    have hKt := hK.1 t hti
    unfold putAll
    rw [loopF_eq, h1, hKt]
    cases hq : K t.toNat with
    | none => exact ih (j + 1) _ _ hts (by omega) (hK.put hti hr)
    | some was =>
      simp only
      by_cases he : was = row'
      · rw [if_pos he, if_pos he]
        exact ih (j + 1) _ _ hts (by omega) (hK.put hti hr)
      · rw [if_neg he, if_neg he]
        exact ⟨_, rfl, rfl⟩
def badR (i : Nat) : PRes := .val [.int .i64 (i : Int), .bool false]
def StepOK (s : Shp) (n : Nat) (mk : Nat → List (Int × List Int) → List D) (r : Option (List D ⊕ PRes)) (i : Nat) (L : List (Int × List Int)) (x : Ins) : Prop := match lk L i with
  | none => r = some (.inr (badR i))
  | some row => if rightB x then (match nextS s x row with
    | none => r = some (.inr (badR i))
    | some row' => match leadsS n i x with
      | none => r = some (.inr (badR i))
      | some T => ∀ K : Known, KOK L (i + 1) K → ∃ out, r = some out ∧ match putAll row' T K with
        | none => out = .inr (badR i)
        | some K' => ∃ L', out = .inl (mk (i + 1) L') ∧ KOK L' (i + 1) K') else r = some (.inr (badR i))
def chR (p : Int × Bool) : PRes := .val [.int .i64 p.1, .bool p.2]
theorem check_loop {b : List D → Option (List D ⊕ PRes)} (s : Shp) (code : List Ins) (mk : Nat → List (Int × List Int) → List D)
    (hb : ∀ (i : Nat) L x, code[i]? = some x → (∀ row, lk L i = some row → RowOK row) → StepOK s code.length mk (b (mk i L)) i L x)
    (hend : ∀ L, b (mk code.length L) = some (.inr (.val [.int .i64 (code.length : Int), .bool true]))) :
    ∀ (rest : List Ins) (i : Nat) (L : List (Int × List Int)) (K : Known), code.drop i = rest → i ≤ code.length → KOK L i K → loopF b (mk i L) = some (chR (checkGo s code.length i rest K)) := by
  intro rest
  induction rest with
  | nil =>
    intro i L K hd hi hK
    have : i = code.length := by have := congrArg List.length hd; simp at this; omega
    subst this
    rw [loopF_eq, hend]
    rfl
  | cons x xs ih =>
    intro i L K hd hi hK
    have hx : code[i]? = some x := by
      have := congrArg (fun r => r[0]?) hd
      simpa using this
    have hlt := (List.getElem?_eq_some_iff.1 hx).1
    have hxs : code.drop (i + 1) = xs := by
      have := congrArg List.tail hd
      simpa using this
    have hs := hb i L x hx (fun row h => hK.row (Int.le_refl _) h)
    have hKi := hK.1 i (Int.le_refl _)
    rw [Int.toNat_natCast] at hKi
    unfold StepOK at hs
    rw [hKi] at hs
    unfold checkGo
    rw [loopF_eq]
    cases hq : K i with
    | none => rw [hq] at hs; rw [show b (mk i L) = _ from hs]; rfl
    | some row =>
      rw [hq] at hs
      simp only at hs ⊢
      by_cases hr : rightB x = true
      · rw [if_pos hr] at hs ⊢
        cases hn : nextS s x row with
        | none => rw [hn] at hs; rw [show b (mk i L) = _ from hs]; rfl
        | some row' =>
          rw [hn] at hs
          simp only at hs ⊢
          cases hl : leadsS code.length i x with
          | none => rw [hl] at hs; rw [show b (mk i L) = _ from hs]; rfl
          | some T =>
            rw [hl] at hs
            simp only at hs ⊢
            obtain ⟨out, h1, h2⟩ := hs K ⟨fun m hm => hK.1 m (by omega), hK.2⟩
            rw [h1]
            cases hp : putAll row' T K with
            | none => rw [hp] at h2; have h2 : out = _ := h2; subst h2; rfl
            | some K' =>
              rw [hp] at h2
              obtain ⟨L', rfl, hK'⟩ := h2
              exact ih (i + 1) L' K' hxs (by omega) hK'
      · rw [if_neg hr] at hs ⊢
        rw [show b (mk i L) = _ from hs]; rfl
end Go.Vm
end

section
namespace Go.Vm
def look {α : Type} (d : α) : List (Nat × α) → Nat → α
  | [], _ => d
  | (k, x) :: r, n => match Nat.beq k n with
    | true => x
    | false => look d r n
def loopTab : List (Nat × List (Nat × LAn)) := [(4, [(0, { slots := [(1, none), (2, none), (5, none), (7, none)] })]),
  (5, [(0, { slots := [(1, none), (7, none), (9, none), (10, none), (11, none)] })]),
  (8, [(0, { slots := [(0, none), (1, none), (5, none)] })]),
  (12, [(2, { slots := [(1, none), (6, none), (7, none), (8, none), (12, none), (36, none), (37, none), (38, none), (79, none), (80, none), (81, none)] }), (0, { slots := [(1, none), (6, none), (7, none), (36, none), (37, none), (38, none)] })]),
  (13, [(2, { slots := [(1, none), (2, none), (6, none), (7, none), (8, none), (10, none), (12, none), (13, none)] }), (0, { slots := [(1, none), (2, none), (6, none), (7, none), (8, none)] })]),
  (15, [(2, { slots := [(1, none), (4, none)] }), (0, { slots := [(1, none), (3, none)] })]),
  (17, [(2, { slots := [(3, none), (4, none), (19, none), (20, none), (21, none)] })]),
  (18, [(2, { slots := [(0, none), (3, none), (4, none), (5, none), (6, none), (7, none), (8, none)] }), (0, { slots := [(0, none), (3, none), (4, none)] })]),
  (19, [(0, { slots := [(0, none), (1, none), (5, none)] })]),
  (22, [(0, { slots := [(1, none), (2, none), (5, none)] })]),
  (23, [(0, { slots := [(0, none), (1, none), (2, none), (9, none), (10, none)] })]),
  (24, [(0, { slots := [(0, none), (3, none)] })]),
  (25, [(2, { slots := [(0, none), (3, none), (4, none)] }), (0, { slots := [(0, none), (3, none)] })]),
  (26, [(0, { slots := [(0, none), (3, none)] })]),
  (29, [(6, { slots := [(1, none), (2, none), (3, none), (6, none), (63, none), (64, none), (65, none)] }), (4, { slots := [(1, none), (2, none), (3, none), (6, none), (47, none), (48, none), (49, none)] }), (2, { slots := [(1, none), (2, none), (3, none), (6, none), (31, none), (32, none), (33, none)] }), (0, { slots := [(1, none), (2, none), (3, none), (14, none), (15, none), (16, none)] })]),
  (30, [(6, { slots := [(1, none), (2, none), (3, none), (7, none)] }), (4, { slots := [(1, none), (2, none), (3, none), (6, none)] }), (2, { slots := [(1, none), (2, none), (3, none), (5, none)] }), (0, { slots := [(1, none), (2, none), (3, none), (4, none)], own := [(2,0,22),(2,1,22)] })]),
  (34, [(0, { slots := [(0, none), (1, none), (12, none), (13, none)] })]),
  (37, [(0, { slots := [(0, none), (1, none), (5, none)] })]),
  (45, [(2, { slots := [(0, none), (3, none), (4, none), (5, none)] }), (0, { slots := [(0, none), (3, none)] })]),
  (48, [(0, { slots := [(0, none), (1, none), (5, none), (6, none)] })]),
  (51, [(0, { slots := [(1, none), (2, none), (6, none), (8, none), (9, none), (10, none), (54, none), (55, none), (56, none)] })]),
  (53, [(0, { slots := [(0, none), (1, none), (5, none)] })]),
  (54, [(0, { slots := [(1, none), (2, none), (4, none), (5, none)] })]),
  (57, [(0, { slots := [(0, none), (3, none), (5, none)], sole := [0] })]),
  (75, [(0, { slots := [(0, none), (1, none), (7, none), (8, none)] })]),
  (76, [(0, { slots := [(0, none), (1, none), (4, none), (5, none)] })]),
  (79, [(0, { slots := [(0, none), (5, none), (6, none), (7, none)] })]),
  (86, [(0, { slots := [(5, none), (7, none), (8, none), (26, none), (27, none), (28, none)] })]),
  (87, [(0, { slots := [(3, none), (6, none), (7, none), (8, none)] })]),
  (88, [(2, { slots := [(2, none), (5, none), (6, none), (7, none), (8, none), (30, none), (31, none)] }), (0, { slots := [(2, none), (6, none), (7, none), (8, none)] })]),
  (89, [(0, { slots := [(1, none), (7, none), (8, none), (9, none)] })]),
  (91, [(0, { slots := [(3, none), (6, none), (7, none), (8, none)] })]),
  (94, [(2, { slots := [(6, none), (25, none), (26, none), (27, none)] }), (0, { slots := [(0, none), (3, none), (9, none), (10, none), (11, none)] })]),
  (102, [(0, { slots := [(1, none), (2, none), (3, none), (7, none)] })]),
  (103, [(0, { slots := [(1, none), (2, none), (3, none), (7, none)] })]),
  (105, [(0, { slots := [(0, none), (1, none), (2, none), (3, none), (8, none), (9, none)] })]),
  (109, [(0, { slots := [(2, none), (5, none), (20, none), (21, none), (22, none)] })]),
  (112, [(0, { slots := [(2, none), (5, none), (6, none), (7, none), (18, none), (19, none), (20, none)] })]),
  (113, [(0, { slots := [(3, none), (8, none), (9, none), (10, none)] })]),
  (114, [(0, { slots := [(2, none), (3, none), (4, none), (18, none), (19, none), (20, none)] })]),
  (115, [(4, { slots := [(55, none), (56, none), (57, none)] }), (2, { slots := [(2, none), (4, none), (45, none), (46, none), (47, none)] }), (0, { slots := [(2, none), (3, none), (4, none), (12, none), (13, none), (14, none)] })]),
  (119, [(2, { slots := [(0, none), (1, none), (2, none), (6, none), (7, none)] }), (0, { slots := [(0, none), (1, none), (2, none), (6, none)] })]),
  (120, [(2, { slots := [(0, none), (6, none), (7, none), (10, none)] }), (0, { slots := [(0, none), (6, none), (7, none), (8, none), (9, none)] })]),
  (121, [(0, { slots := [(0, none), (1, none), (6, none), (7, none), (8, none), (9, none)] })]),
  (123, [(0, { slots := [(0, none), (6, none), (7, none)] })]),
  (124, [(6, { slots := [(0, none), (1, none), (2, none), (7, none), (8, none), (10, none)] }), (4, { slots := [(0, none), (1, none), (2, none), (7, none), (8, none), (9, none)] }), (2, { slots := [(0, none), (1, none), (2, none), (7, none), (8, none)] }), (0, { slots := [(0, none), (1, none), (2, none), (7, none), (8, none)] })]),
  (126, [(4, { slots := [(0, none), (1, none), (9, none), (10, none)] }), (2, { slots := [(0, none), (1, none), (9, none), (10, none)] }), (0, { slots := [(0, none), (1, none), (9, none), (10, none)] })]),
  (127, [(8, { slots := [(0, none), (1, none), (10, none), (11, none)] }), (6, { slots := [(0, none), (1, none), (10, none), (11, none)] }), (4, { slots := [(0, none), (1, none), (10, none), (11, none)] }), (2, { slots := [(0, none), (1, none), (10, none), (11, none)] }), (0, { slots := [(0, none), (1, none), (10, none), (11, none)] })]),
  (132, [(0, { slots := [(3, none), (6, none), (7, none), (8, none)] })]),
  (134, [(0, { slots := [(1, none), (2, none), (6, none), (22, none), (23, none), (51, none)] })]),
  (139, [(0, { slots := [(0, none), (1, none), (5, none), (6, none), (9, none), (10, none)] })]),
  (141, [(0, { slots := [(1, none), (5, none), (10, none), (11, none)] })]),
  (146, [(1, { slots := [(2, none), (4, none), (5, none), (59, none), (60, none)] })]),
  (148, [(0, { slots := [(0, none), (2, none), (3, none), (8, none)] })]),
  (158, [(2, { slots := [(6, none), (25, none), (26, none), (27, none)] }), (0, { slots := [(0, none), (3, none), (9, none), (10, none), (11, none)] })]),
  (159, [(0, { slots := [(0, none), (1, none), (7, none), (8, none)] })]),
  (161, [(0, { slots := [(0, none), (1, none), (12, none), (13, none)] })]),
  (167, [(2, { slots := [(2, none), (4, none), (72, none), (73, none), (74, none)] }), (0, { slots := [(2, none), (3, none), (4, none), (39, none), (40, none), (41, none)] })]),
  (169, [(0, { slots := [(2, none), (4, none), (5, none), (7, none), (10, none), (11, none)] })]),
  (173, [(0, { slots := [(0, none), (6, none), (7, none), (8, none)] })]),
  (174, [(0, { slots := [(0, none), (2, none), (12, none), (13, none), (14, none)] })]),
  (177, [(0, { slots := [(2, none), (3, none), (4, none), (6, none), (14, none), (15, none), (16, none)] })]),
  (179, [(2, { slots := [(91, none), (92, none), (93, none)] }), (0, { slots := [(2, none), (4, none), (5, none), (7, none), (8, none), (9, none), (10, none), (31, none), (32, none), (33, none)] })]),
  (180, [(1, { slots := [(2, none), (4, none), (8, none), (50, none), (51, none), (52, none)] })]),
  (181, [(2, { slots := [(2, none), (3, none), (6, none), (8, none), (23, none), (24, none), (25, none), (35, none), (36, none), (37, none)] }), (0, { slots := [(2, none), (3, none), (6, none), (23, none), (24, none), (25, none)] })]),
  (182, [(0, { slots := [(0, none), (1, none), (7, none), (8, none)] })]),
  (185, [(1, { slots := [(2, none), (18, none), (19, none), (20, none)] })])]
def inlTab : List (Nat × List Nat) := [(17, [43]), (20, [48, 47, 46, 45]), (29, [54]), (30, [57]), (46, [77, 78]), (77, [104]), (78, [105]), (94, [116]), (105, [119])]
def mintTab : List (Nat × List Nat) := []
def oslTab : List (Nat × List Nat) := [(45, [28, 56]), (48, [38])]
def stopTab : List (Nat × List Nat) := []
def deadTab : List (Nat × List Nat) := [(105, [120, 121, 122, 123, 124, 126, 127, 105])]
def ownTab : List (Nat × List (Nat × List (Nat × Nat))) := [(29, [(3, [(0, 22), (1, 22)])]), (30, [(3, [(0, 22), (1, 22)])]), (104, [(2, [(0, 22)])])]
def cutTab : List (Nat × List (Nat × Option LAn)) := [(20, [(22, some { slots := [(2, none), (3, none), (5, none), (6, none)], nb := 5 }), (28, some { slots := [(2, none), (3, none), (5, none), (6, none)], nb := 5 })])]
def rtTab : List (Nat × Option (List Nat)) := [(104, some [2])]
def noTurn : List Nat := [78, 105, 119]
def noLAn : LAn := { slots := [] }
def cs : FuncId → CfgT := fun f => { me := f, o := { inl := look [] inlTab f, mint := look [] mintTab f, osl := look [] oslTab f, dead := look [] deadTab f, own := look [] ownTab f, stop := look [] stopTab f }, loops := look noLAn (look [] loopTab f), cuts := look none (look [] cutTab f), turn := !(noTurn.contains f), rt := look none rtTab f }
end Go.Vm
end

section
namespace Go.Vm
open Go.Proofs
/-- What is known of functions from elsewhere: nothing. -/
def kn : FuncId → List V → Option PRes := fun _ _ => none
theorem kn_good : KGood Try.prog kn := fun _ _ _ _ h => by cases h
end Go.Vm
end

section
namespace Go.Vm
open Go.Proofs
noncomputable def cF (f : FuncId) (args : List V) : Option PRes := callF Try.prog cs kn f args
noncomputable def eF : Env := envF (callF Try.prog cs kn)
theorem eF_call (f : FuncId) (args : List V) : eF.call f args = cF f args := rfl
theorem eF_lp {α : Type} (b : List D → Option (List D ⊕ α)) (ds : List D) : eF.lp b ds = loopF b ds := rfl
theorem cOf {f : FuncId} {args : List V} {p : PRes} (hg : goodF Try.prog f = true) (hk : kn f args = none) (h : (funT sy Try.prog cs f args).run eF = some p) : cF f args = some p := callF_of hg hk h
theorem cOfE {α : Type} {f : FuncId} {args : List V} {p : α → PRes} (hg : goodF Try.prog f = true) (hk : kn f args = none) (h : ∃ x, (funT sy Try.prog cs f args).run eF = some (p x)) : ∃ x, cF f args = some (p x) := h.imp fun _ h => callF_of hg hk h
theorem cOfP {f : FuncId} {args : List V} {Q : PRes → Prop} (hg : goodF Try.prog f = true) (hk : kn f args = none) (h : ∃ p, (funT sy Try.prog cs f args).run eF = some p ∧ Q p) : ∃ p, cF f args = some p ∧ Q p := h.imp fun _ h => ⟨callF_of hg hk h.1, h.2⟩
theorem some_and {α : Type} {a : α} {Q : α → Prop} : (∃ p, some a = some p ∧ Q p) ↔ Q a := by simp
theorem decT {p : Prop} [Decidable p] (h : p) : decide p = true := decide_eq_true h
theorem decF {p : Prop} [Decidable p] (h : ¬ p) : decide p = false := decide_eq_false h
theorem irows_cell {la : List Int} {i : Int} (h0 : 0 ≤ i) (h1 : i < (la.length : Int)) : sy.cell (sy.row (irows la) i) 0 = some (.int .i64 (la.getD i.toNat 0)) := by
  rw [sy_row, irows_get _ _ (by omega)]; rfl
theorem irows_at {la : List Int} {i : Nat} {x : Int} (h : la[i]? = some x) : sy.cell (sy.row (irows la) (i : Int)) 0 = some (.int .i64 x) := by
  obtain ⟨h1, h2⟩ := getElem?_some_getD (d := 0) h
  rw [irows_cell (by omega) (by omega), Int.toNat_natCast, h1]
theorem inr_at {i n : Nat} (h : i < n) : decide (0 ≤ (i : Int) ∧ (i : Int) < (n : Int)) = true := decide_eq_true ⟨by omega, by omega⟩
theorem ilt_at {i n : Nat} (h : i < n) : decide ((i : Int) < (n : Int)) = true := decide_eq_true (by omega)
theorem ilt_self (n : Nat) : decide ((n : Int) < (n : Int)) = false := decide_eq_false (by omega)
theorem wrap_succ {i n : Nat} (h : i < n) (hn : n ≤ 1000000000000) : IntKind.i64.wrap ((i : Int) + 1) = (i : Int) + 1 := wrap_id (by omega) (by omega)
theorem mixedOrders : Try.prog.follows .mixedOrders = true := by kernel_rfl
end Go.Vm
end

section
namespace Go.Vm
/-! ### steps through a printed function whose data have known shapes -/
section
variable {α β : Type}
theorem st_bind {v : Option α} {f : α → Option β} {n : α} {p : β} (h : v = some n) (k : f n = some p) : v.bind f = some p := by rw [h]; exact k
theorem st_cut {X : Option (List D ⊕ α)} {K : List D → Option α} {ds : List D} {p : α} (h : X = some (.inl ds)) (k : K ds = some p) : cutO X K = some p := by rw [h]; exact k
theorem st_t {c : Bool} {a b : Option α} {p : α} (h : c = true) (k : a = some p) : (bif c then a else b) = some p := by rw [h]; exact k
theorem st_f {c : Bool} {a b : Option α} {p : α} (h : c = false) (k : b = some p) : (bif c then a else b) = some p := by rw [h]; exact k
theorem st_opI {v : Option D} {k : IntKind} {n : Int} (h : v = some (.int k n)) : opI v k = some n := by rw [h]; simp [opI]
theorem st_opB {v : Option D} {n : Bool} (h : v = some (.bool n)) : opB v = some n := by rw [h]; rfl
theorem st_opL {v : Option D} {sz : Nat} {n : List (List D)} (h : v = some (.sl sz n)) : opL v sz = some n := by rw [h]; simp [opL]
/-- What a round's answer leads to. -/
noncomputable def lpK (b : List D → Option (List D ⊕ α)) : List D ⊕ α → Option α
  | .inl ds => eF.lp b ds
  | .inr a => some a
theorem st_lp {b : List D → Option (List D ⊕ α)} {ds : List D} {r : List D ⊕ α} {p : α} (h : b ds = some r) (k : lpK b r = some p) : eF.lp b ds = some p := by
  show loopF b ds = some p
  rw [loopF_eq, h]
  cases r with
  | inl d => exact k
  | inr a => exact k
theorem st_inl {b : List D → Option (List D ⊕ α)} {ds : List D} {p : α} (k : eF.lp b ds = some p) : lpK b (.inl ds) = some p := k
theorem st_inr {b : List D → Option (List D ⊕ α)} {a : α} : lpK b (.inr a) = some a := rfl
theorem st_some {a : α} : some a = some a := rfl
end
end Go.Vm
end

section
set_option maxRecDepth 1000000
set_option maxHeartbeats 0
namespace Go.Vm
open Go.Proofs
def g16 (A : Sy) (E : Env) : Option PRes :=
  (E.call 17 [(V.d (D.sl 4 [[(D.int IntKind.i64 1), (D.int IntKind.i64 2), (D.int IntKind.i64 0), (D.int IntKind.i64 0)], [(D.int IntKind.i64 7), (D.int IntKind.i64 3), (D.int IntKind.i64 0), (D.int IntKind.i64 0)], [(D.int IntKind.i64 6), (D.int IntKind.i64 3), (D.int IntKind.i64 0), (D.int IntKind.i64 0)], [(D.int IntKind.i64 10), (D.int IntKind.i64 0), (D.int IntKind.i64 0), (D.int IntKind.i64 0)]]))]).bind fun p1 =>
  (opI (A.cell p1.leaves 0) IntKind.i64).bind fun n3 =>
  some (PRes.val [(D.bool (A.ieq n3 4))])
theorem g16_eq (A : Sy) (E : Env) : (funT A Try.prog cs 16 []).run E = g16 A E  := by kernel_rfl
def g17 (A : Sy) (E : Env) (code_ : List (List D)) : Option PRes :=
  bif (A.ieq (A.rlen code_) 0) then
    some (PRes.val [(D.int IntKind.i64 0)])
  else
    bif (A.mkok (A.rlen code_) (A.rlen code_) 8) then
      E.lp (fun ds1 =>
        (opI (A.cell ds1 0) IntKind.i64).bind fun n2 =>
        (opI (A.cell ds1 1) IntKind.i64).bind fun n3 =>
        (opL (A.cell ds1 2) 4).bind fun l4 =>
        (opL (A.cell ds1 3) 1).bind fun l5 =>
        (opI (A.cell ds1 4) IntKind.i64).bind fun n6 =>
        (opL (A.cell ds1 5) 4).bind fun l7 =>
        (opI (A.cell ds1 6) IntKind.i64).bind fun n8 =>
        (opL (A.cell ds1 7) 4).bind fun l9 =>
        (opI (A.cell ds1 8) IntKind.i64).bind fun n10 =>
        (opB (A.cell ds1 9)).bind fun b11 =>
        (opL (A.cell ds1 10) 4).bind fun l12 =>
        (opI (A.cell ds1 11) IntKind.i64).bind fun n13 =>
        (opL (A.cell ds1 12) 4).bind fun l14 =>
        (opI (A.cell ds1 13) IntKind.i64).bind fun n15 =>
        bif (A.ilt n3 n2) then
          (E.call 20 [(V.d (D.sl 4 l4)), (V.d (D.int IntKind.i64 (A.wrap IntKind.i64 (A.sub (A.wrap IntKind.i64 (A.sub n6 1)) n3))))]).bind fun p16 =>
          (opL (A.cell p16.leaves 0) 1).bind fun l18 =>
          E.lp (fun ds19 =>
            (opI (A.cell ds19 0) IntKind.i64).bind fun n20 =>
            (opL (A.cell ds19 1) 1).bind fun l21 =>
            (opI (A.cell ds19 2) IntKind.i64).bind fun n22 =>
            (opI (A.cell ds19 3) IntKind.i64).bind fun n23 =>
            (opL (A.cell ds19 4) 4).bind fun l24 =>
            (opL (A.cell ds19 5) 1).bind fun l25 =>
            (opI (A.cell ds19 6) IntKind.i64).bind fun n26 =>
            (opL (A.cell ds19 7) 4).bind fun l27 =>
            (opI (A.cell ds19 8) IntKind.i64).bind fun n28 =>
            (opL (A.cell ds19 9) 4).bind fun l29 =>
            (opI (A.cell ds19 10) IntKind.i64).bind fun n30 =>
            (opB (A.cell ds19 11)).bind fun b31 =>
            (opL (A.cell ds19 12) 4).bind fun l32 =>
            (opI (A.cell ds19 13) IntKind.i64).bind fun n33 =>
            (opL (A.cell ds19 14) 4).bind fun l34 =>
            (opI (A.cell ds19 15) IntKind.i64).bind fun n35 =>
            bif (A.ilt n23 n22) then
              bif (A.inr n23 (A.rlen l21)) then
                (opI (A.cell (A.row l21 n23) 0) IntKind.i64).bind fun n36 =>
                bif (A.inr n20 (A.rlen l25)) then
                  (opI (A.cell (A.rown l25 (A.nat n20)) 0) IntKind.i64).bind fun n37 =>
                  bif (A.inr n36 (A.rlen l25)) then
                    (opI (A.cell (A.rown l25 (A.nat n36)) 0) IntKind.i64).bind fun n38 =>
                    bif (A.inr n20 (A.rlen l25)) then
                      bif (A.inrn (A.nat n20) l25) then
                        some (.inl [(D.int IntKind.i64 n20), (D.sl 1 l21), (D.int IntKind.i64 n22), (D.int IntKind.i64 (A.wrap IntKind.i64 (A.add n23 1))), (D.sl 4 l24), (D.sl 1 (A.rput l25 (A.nat n20) 0 [(D.int IntKind.i64 (A.imax n37 n38))])), (D.int IntKind.i64 n26), (D.sl 4 l27), (D.int IntKind.i64 n28), (D.sl 4 l29), (D.int IntKind.i64 n30), (D.bool b31), (D.sl 4 l32), (D.int IntKind.i64 n33), (D.sl 4 l34), (D.int IntKind.i64 n35)])
                      else
                        none
                    else
                      none
                  else
                    none
                else
                  none
              else
                none
            else
              bif (A.inr n20 (A.rlen l25)) then
                (opI (A.cell (A.rown l25 (A.nat n20)) 0) IntKind.i64).bind fun n39 =>
                bif (A.inr n20 (A.rlen l25)) then
                  bif (A.inrn (A.nat n20) l25) then
                    bif (A.bnot true) then
                      bif (A.inr 0 (A.rlen (A.rput l25 (A.nat n20) 0 [(D.int IntKind.i64 (A.wrap IntKind.i64 (A.add n39 1)))]))) then
                        (opI (A.cell (A.rown (A.rput l25 (A.nat n20) 0 [(D.int IntKind.i64 (A.wrap IntKind.i64 (A.add n39 1)))]) (A.nat 0)) 0) IntKind.i64).bind fun n40 =>
                        some (.inr (.inr (PRes.val [(D.int IntKind.i64 n40)])))
                      else
                        none
                    else
                      some (.inr (.inl [(D.int IntKind.i64 n2), (D.int IntKind.i64 (A.wrap IntKind.i64 (A.add n3 1))), (D.sl 4 l24), (D.sl 1 (A.rput l25 (A.nat n20) 0 [(D.int IntKind.i64 (A.wrap IntKind.i64 (A.add n39 1)))])), (D.int IntKind.i64 n26), (D.sl 4 l27), (D.int IntKind.i64 n28), (D.sl 4 l29), (D.int IntKind.i64 n30), (D.bool b31), (D.sl 4 l32), (D.int IntKind.i64 n33), (D.sl 4 l34), (D.int IntKind.i64 n35)]))
                  else
                    none
                else
                  none
              else
                none
          ) [(D.int IntKind.i64 (A.wrap IntKind.i64 (A.sub (A.wrap IntKind.i64 (A.sub n6 1)) n3))), (D.sl 1 l18), (D.int IntKind.i64 (A.rlen l18)), (D.int IntKind.i64 0), (D.sl 4 l4), (D.sl 1 l5), (D.int IntKind.i64 n6), (D.sl 4 l7), (D.int IntKind.i64 n8), (D.sl 4 l9), (D.int IntKind.i64 n10), (D.bool b11), (D.sl 4 l12), (D.int IntKind.i64 n13), (D.sl 4 l14), (D.int IntKind.i64 n15)]
        else
          bif (A.inr 0 (A.rlen l5)) then
            (opI (A.cell (A.rown l5 (A.nat 0)) 0) IntKind.i64).bind fun n41 =>
            some (.inr (PRes.val [(D.int IntKind.i64 n41)]))
          else
            none
      ) [(D.int IntKind.i64 (A.rlen code_)), (D.int IntKind.i64 0), (D.sl 4 code_), (D.sl 1 (A.rep (A.rlen code_) [(D.int IntKind.i64 0)])), (D.int IntKind.i64 (A.rlen code_)), (D.sl 4 code_), (D.int IntKind.i64 0), (D.sl 4 code_), (D.int IntKind.i64 (A.rlen code_)), (D.bool false), (D.sl 4 code_), (D.int IntKind.i64 (A.rlen code_)), (D.sl 4 code_), (D.int IntKind.i64 (A.rlen code_))]
    else
      none
theorem g17_eq (A : Sy) (E : Env) (code_ : List (List D)) : (funT A Try.prog cs 17 [V.d (D.sl 4 code_)]).run E = g17 A E code_ := by kernel_rfl
def g18 (A : Sy) (E : Env) (code_ : List (List D)) : Option PRes :=
  bif (A.mkok (A.rlen code_) (A.rlen code_) 8) then
    E.lp (fun ds1 =>
      (opL (A.cell ds1 0) 4).bind fun l2 =>
      (opI (A.cell ds1 1) IntKind.i64).bind fun n3 =>
      (opL (A.cell ds1 2) 1).bind fun l4 =>
      bif (A.ilt n3 (A.rlen l2)) then
        (E.call 21 [(V.d (D.sl 4 l2)), (V.d (D.int IntKind.i64 (A.wrap IntKind.i64 (A.sub (A.wrap IntKind.i64 (A.sub (A.rlen l2) 1)) n3))))]).bind fun p5 =>
        (opL (A.cell p5.leaves 0) 1).bind fun l7 =>
        E.lp (fun ds8 =>
          (opL (A.cell ds8 0) 4).bind fun l9 =>
          (opI (A.cell ds8 1) IntKind.i64).bind fun n10 =>
          (opI (A.cell ds8 2) IntKind.i64).bind fun n11 =>
          (opL (A.cell ds8 3) 1).bind fun l12 =>
          (opI (A.cell ds8 4) IntKind.i64).bind fun n13 =>
          (opI (A.cell ds8 5) IntKind.i64).bind fun n14 =>
          (opL (A.cell ds8 6) 1).bind fun l15 =>
          bif (A.ilt n14 (A.rlen l12)) then
            bif (A.inr n14 (A.rlen l12)) then
              (opI (A.cell (A.row l12 n14) 0) IntKind.i64).bind fun n16 =>
              bif (A.inr n16 (A.rlen l15)) then
                (opI (A.cell (A.rown l15 (A.nat n16)) 0) IntKind.i64).bind fun n17 =>
                some (.inl [(D.sl 4 l9), (D.int IntKind.i64 n10), (D.int IntKind.i64 n11), (D.sl 1 l12), (D.int IntKind.i64 (A.imax n13 n17)), (D.int IntKind.i64 (A.wrap IntKind.i64 (A.add n14 1))), (D.sl 1 l15)])
              else
                none
            else
              none
          else
            bif (A.inr n11 (A.rlen l15)) then
              bif (A.inrn (A.nat n11) l15) then
                some (.inr (.inl [(D.sl 4 l9), (D.int IntKind.i64 (A.wrap IntKind.i64 (A.add n10 1))), (D.sl 1 (A.rput l15 (A.nat n11) 0 [(D.int IntKind.i64 (A.wrap IntKind.i64 (A.add n13 1)))]))]))
              else
                none
            else
              none
        ) [(D.sl 4 l2), (D.int IntKind.i64 n3), (D.int IntKind.i64 (A.wrap IntKind.i64 (A.sub (A.wrap IntKind.i64 (A.sub (A.rlen l2) 1)) n3))), (D.sl 1 l7), (D.int IntKind.i64 0), (D.int IntKind.i64 0), (D.sl 1 l4)]
      else
        bif (A.ieq (A.rlen l2) 0) then
          some (.inr (PRes.val [(D.int IntKind.i64 0)]))
        else
          bif (A.inr 0 (A.rlen l4)) then
            (opI (A.cell (A.rown l4 (A.nat 0)) 0) IntKind.i64).bind fun n18 =>
            some (.inr (PRes.val [(D.int IntKind.i64 n18)]))
          else
            none
    ) [(D.sl 4 code_), (D.int IntKind.i64 0), (D.sl 1 (A.rep (A.rlen code_) [(D.int IntKind.i64 0)]))]
  else
    none
theorem g18_eq (A : Sy) (E : Env) (code_ : List (List D)) : (funT A Try.prog cs 18 [V.d (D.sl 4 code_)]).run E = g18 A E code_ := by kernel_rfl
def g19 (A : Sy) (E : Env) (a_ : List (List D)) (b_ : List (List D)) : Option PRes :=
  bif (A.bnot (A.ieq (A.rlen a_) (A.rlen b_))) then
    some (PRes.val [(D.bool false)])
  else
    E.lp (fun ds1 =>
      (opL (A.cell ds1 0) 1).bind fun l2 =>
      (opL (A.cell ds1 1) 1).bind fun l3 =>
      (opI (A.cell ds1 2) IntKind.i64).bind fun n4 =>
      bif (A.ilt n4 (A.rlen l2)) then
        bif (A.inr n4 (A.rlen l2)) then
          (opI (A.cell (A.row l2 n4) 0) IntKind.i64).bind fun n5 =>
          bif (A.inr n4 (A.rlen l3)) then
            (opI (A.cell (A.row l3 n4) 0) IntKind.i64).bind fun n6 =>
            bif (A.bnot (A.ieq n5 n6)) then
              some (.inr (PRes.val [(D.bool false)]))
            else
              some (.inl [(D.sl 1 l2), (D.sl 1 l3), (D.int IntKind.i64 (A.wrap IntKind.i64 (A.add n4 1)))])
          else
            none
        else
          none
      else
        some (.inr (PRes.val [(D.bool true)]))
    ) [(D.sl 1 a_), (D.sl 1 b_), (D.int IntKind.i64 0)]
theorem g19_eq (A : Sy) (E : Env) (a_ : List (List D)) (b_ : List (List D)) : (funT A Try.prog cs 19 [V.d (D.sl 1 a_), V.d (D.sl 1 b_)]).run E = g19 A E a_ b_ := by kernel_rfl
def g21 (A : Sy) (E : Env) (code_ : List (List D)) (at_ : Int) : Option PRes :=
  cutO (
    bif (A.ilt at_ 0) then
      some (.inl [(D.bool true)])
    else
      some (.inl [(D.bool (A.ile (A.rlen code_) at_))])
  ) fun ds1 =>
  (opB (A.cell ds1 0)).bind fun b2 =>
  cutO (
    bif b2 then
      some (.inl [(D.bool true)])
    else
      bif (A.inr at_ (A.rlen code_)) then
        (opI (A.cell (A.row code_ at_) 0) IntKind.i64).bind fun n3 =>
        some (.inl [(D.bool (A.ieq n3 10))])
      else
        none
  ) fun ds4 =>
  (opB (A.cell ds4 0)).bind fun b5 =>
  bif b5 then
    some (PRes.own 3 1 [])
  else
    bif (A.inr at_ (A.rlen code_)) then
      (opI (A.cell (A.row code_ at_) 0) IntKind.i64).bind fun n6 =>
      cutO (
        bif (A.bnot (A.ieq n6 6)) then
          some (.inl [(D.bool (A.ilt (A.wrap IntKind.i64 (A.add at_ 1)) (A.rlen code_)))])
        else
          some (.inl [(D.bool false)])
      ) fun ds7 =>
      (opB (A.cell ds7 0)).bind fun b8 =>
      bif b8 then
        bif (A.fits [] [[(D.int IntKind.i64 (A.wrap IntKind.i64 (A.add at_ 1)))]] 8) then
          bif (A.inr at_ (A.rlen code_)) then
            (opI (A.cell (A.skip 1 (A.row code_ at_)) 0) IntKind.i64).bind fun n9 =>
            bif (A.inr at_ (A.rlen code_)) then
              (opI (A.cell (A.row code_ at_) 0) IntKind.i64).bind fun n10 =>
              cutO (
                bif (A.ieq n10 6) then
                  some (.inl [(D.bool true)])
                else
                  bif (A.inr at_ (A.rlen code_)) then
                    (opI (A.cell (A.row code_ at_) 0) IntKind.i64).bind fun n11 =>
                    some (.inl [(D.bool (A.ieq n11 7))])
                  else
                    none
              ) fun ds12 =>
              (opB (A.cell ds12 0)).bind fun b13 =>
              cutO (
                bif b13 then
                  some (.inl [(D.bool (A.ilt at_ n9))])
                else
                  some (.inl [(D.bool false)])
              ) fun ds14 =>
              (opB (A.cell ds14 0)).bind fun b15 =>
              cutO (
                bif b15 then
                  some (.inl [(D.bool (A.ilt n9 (A.rlen code_)))])
                else
                  some (.inl [(D.bool false)])
              ) fun ds16 =>
              (opB (A.cell ds16 0)).bind fun b17 =>
              cutO (
                bif b17 then
                  bif (A.ieq (A.rlen (A.rapp [] [[(D.int IntKind.i64 (A.wrap IntKind.i64 (A.add at_ 1)))]])) 0) then
                    some (.inl [(D.bool true)])
                  else
                    bif (A.inr 0 (A.rlen (A.rapp [] [[(D.int IntKind.i64 (A.wrap IntKind.i64 (A.add at_ 1)))]]))) then
                      (opI (A.cell (A.rown (A.rapp [] [[(D.int IntKind.i64 (A.wrap IntKind.i64 (A.add at_ 1)))]]) (A.nat 0)) 0) IntKind.i64).bind fun n18 =>
                      some (.inl [(D.bool (A.bnot (A.ieq n18 n9)))])
                    else
                      none
                else
                  some (.inl [(D.bool false)])
              ) fun ds19 =>
              (opB (A.cell ds19 0)).bind fun b20 =>
              bif b20 then
                bif (A.fits (A.rapp [] [[(D.int IntKind.i64 (A.wrap IntKind.i64 (A.add at_ 1)))]]) [[(D.int IntKind.i64 n9)]] 8) then
                  some (PRes.own 3 1 (A.rapp (A.rapp [] [[(D.int IntKind.i64 (A.wrap IntKind.i64 (A.add at_ 1)))]]) [[(D.int IntKind.i64 n9)]]))
                else
                  none
              else
                some (PRes.own 3 1 (A.rapp [] [[(D.int IntKind.i64 (A.wrap IntKind.i64 (A.add at_ 1)))]]))
            else
              none
          else
            none
        else
          none
      else
        bif (A.inr at_ (A.rlen code_)) then
          (opI (A.cell (A.skip 1 (A.row code_ at_)) 0) IntKind.i64).bind fun n21 =>
          bif (A.inr at_ (A.rlen code_)) then
            (opI (A.cell (A.row code_ at_) 0) IntKind.i64).bind fun n22 =>
            cutO (
              bif (A.ieq n22 6) then
                some (.inl [(D.bool true)])
              else
                bif (A.inr at_ (A.rlen code_)) then
                  (opI (A.cell (A.row code_ at_) 0) IntKind.i64).bind fun n23 =>
                  some (.inl [(D.bool (A.ieq n23 7))])
                else
                  none
            ) fun ds24 =>
            (opB (A.cell ds24 0)).bind fun b25 =>
            cutO (
              bif b25 then
                some (.inl [(D.bool (A.ilt at_ n21))])
              else
                some (.inl [(D.bool false)])
            ) fun ds26 =>
            (opB (A.cell ds26 0)).bind fun b27 =>
            cutO (
              bif b27 then
                some (.inl [(D.bool (A.ilt n21 (A.rlen code_)))])
              else
                some (.inl [(D.bool false)])
            ) fun ds28 =>
            (opB (A.cell ds28 0)).bind fun b29 =>
            cutO (
              bif b29 then
                bif (A.ieq (A.rlen []) 0) then
                  some (.inl [(D.bool true)])
                else
                  bif (A.inr 0 (A.rlen [])) then
                    (opI (A.cell (A.rown [] (A.nat 0)) 0) IntKind.i64).bind fun n30 =>
                    some (.inl [(D.bool (A.bnot (A.ieq n30 n21)))])
                  else
                    none
              else
                some (.inl [(D.bool false)])
            ) fun ds31 =>
            (opB (A.cell ds31 0)).bind fun b32 =>
            bif b32 then
              bif (A.fits [] [[(D.int IntKind.i64 n21)]] 8) then
                some (PRes.own 3 1 (A.rapp [] [[(D.int IntKind.i64 n21)]]))
              else
                none
            else
              some (PRes.own 3 1 [])
          else
            none
        else
          none
    else
      none
theorem g21_eq (A : Sy) (E : Env) (code_ : List (List D)) (at_ : Int) : (funT A Try.prog cs 21 [V.d (D.sl 4 code_), V.d (D.int IntKind.i64 at_)]).run E = g21 A E code_ at_ := by kernel_rfl
def g24 (A : Sy) (E : Env) (code_ : List (List D)) : Option PRes :=
  E.lp (fun ds1 =>
    (opL (A.cell ds1 0) 4).bind fun l2 =>
    (opI (A.cell ds1 1) IntKind.i64).bind fun n3 =>
    bif (A.ilt n3 (A.rlen l2)) then
      bif (A.inr n3 (A.rlen l2)) then
        (opI (A.cell (A.row l2 n3) 0) IntKind.i64).bind fun n4 =>
        bif (A.ieq n4 10) then
          some (.inr (PRes.val [(D.int IntKind.i64 (A.wrap IntKind.i64 (A.add n3 1)))]))
        else
          some (.inl [(D.sl 4 l2), (D.int IntKind.i64 (A.wrap IntKind.i64 (A.add n3 1)))])
      else
        none
    else
      some (.inr (PRes.val [(D.int IntKind.i64 (A.rlen l2))]))
  ) [(D.sl 4 code_), (D.int IntKind.i64 0)]
theorem g24_eq (A : Sy) (E : Env) (code_ : List (List D)) : (funT A Try.prog cs 24 [V.d (D.sl 4 code_)]).run E = g24 A E code_ := by kernel_rfl
def g6 (A : Sy) (E : Env) (code_ : List (List D)) (at_ : Int) : Option PRes :=
  bif (A.ilt 1000 (A.rlen code_)) then
    (E.call 16 []).bind fun p1 =>
    (opB (A.cell p1.leaves 0)).bind fun b3 =>
    some (PRes.val [(D.bool b3)])
  else
    (E.call 17 [(V.d (D.sl 4 code_))]).bind fun p4 =>
    (opI (A.cell p4.leaves 0) IntKind.i64).bind fun n6 =>
    (E.call 18 [(V.d (D.sl 4 code_))]).bind fun p7 =>
    (opI (A.cell p7.leaves 0) IntKind.i64).bind fun n9 =>
    bif (A.ieq n6 n9) then
      (E.call 20 [(V.d (D.sl 4 code_)), (V.d (D.int IntKind.i64 at_))]).bind fun p10 =>
      (opL (A.cell p10.leaves 0) 1).bind fun l12 =>
      (E.call 21 [(V.d (D.sl 4 code_)), (V.d (D.int IntKind.i64 at_))]).bind fun p13 =>
      (opL (A.cell p13.leaves 0) 1).bind fun l15 =>
      (E.call 19 [(V.d (D.sl 1 l12)), (V.d (D.sl 1 l15))]).bind fun p16 =>
      (opB (A.cell p16.leaves 0)).bind fun b18 =>
      cutO (
        bif b18 then
          (E.call 16 []).bind fun p19 =>
          (opB (A.cell p19.leaves 0)).bind fun b21 =>
          some (.inl [(D.bool b21)])
        else
          some (.inl [(D.bool false)])
      ) fun ds22 =>
      (opB (A.cell ds22 0)).bind fun b23 =>
      some (PRes.val [(D.bool b23)])
    else
      cutO (
        some (.inl [(D.bool false)])
      ) fun ds24 =>
      (opB (A.cell ds24 0)).bind fun b25 =>
      some (PRes.val [(D.bool b25)])
theorem g6_eq (A : Sy) (E : Env) (code_ : List (List D)) (at_ : Int) : (funT A Try.prog cs 6 [V.d (D.sl 4 code_), V.d (D.int IntKind.i64 at_)]).run E = g6 A E code_ at_ := by kernel_rfl
def g8 (A : Sy) (E : Env) (code_ : List (List D)) (skip_ : Int) : Option PRes :=
  cutO (
    bif (A.ilt 300 (A.rlen code_)) then
      some (.inl [(D.bool true)])
    else
      some (.inl [(D.bool (A.ilt skip_ 0))])
  ) fun ds1 =>
  (opB (A.cell ds1 0)).bind fun b2 =>
  cutO (
    bif b2 then
      some (.inl [(D.bool true)])
    else
      some (.inl [(D.bool (A.ile (A.rlen code_) skip_))])
  ) fun ds3 =>
  (opB (A.cell ds3 0)).bind fun b4 =>
  bif b4 then
    (E.call 17 [(V.d (D.sl 4 []))]).bind fun p5 =>
    (opI (A.cell p5.leaves 0) IntKind.i64).bind fun n7 =>
    cutO (
      bif (A.ieq n7 0) then
        (E.call 16 []).bind fun p8 =>
        (opB (A.cell p8.leaves 0)).bind fun b10 =>
        some (.inl [(D.bool b10)])
      else
        some (.inl [(D.bool false)])
    ) fun ds11 =>
    (opB (A.cell ds11 0)).bind fun b12 =>
    some (PRes.val [(D.bool b12)])
  else
    E.lp (fun ds13 =>
      (opL (A.cell ds13 0) 4).bind fun l14 =>
      (opI (A.cell ds13 1) IntKind.i64).bind fun n15 =>
      (opI (A.cell ds13 2) IntKind.i64).bind fun n16 =>
      bif (A.ilt n16 (A.rlen l14)) then
        bif (A.inr n16 (A.rlen l14)) then
          (opI (A.cell (A.row l14 n16) 0) IntKind.i64).bind fun n17 =>
          cutO (
            bif (A.ieq n17 6) then
              some (.inl [(D.bool true)])
            else
              bif (A.inr n16 (A.rlen l14)) then
                (opI (A.cell (A.row l14 n16) 0) IntKind.i64).bind fun n18 =>
                some (.inl [(D.bool (A.ieq n18 7))])
              else
                none
          ) fun ds19 =>
          (opB (A.cell ds19 0)).bind fun b20 =>
          bif b20 then
            (E.call 16 []).bind fun p21 =>
            (opB (A.cell p21.leaves 0)).bind fun b23 =>
            some (.inr (PRes.val [(D.bool b23)]))
          else
            some (.inl [(D.sl 4 l14), (D.int IntKind.i64 n15), (D.int IntKind.i64 (A.wrap IntKind.i64 (A.add n16 1)))])
        else
          none
      else
        bif (A.fits [[(D.int IntKind.i64 6), (D.int IntKind.i64 (A.wrap IntKind.i64 (A.add n15 1))), (D.int IntKind.i64 0), (D.int IntKind.i64 0)]] l14 32) then
          (E.call 17 [(V.d (D.sl 4 l14))]).bind fun p24 =>
          (opI (A.cell p24.leaves 0) IntKind.i64).bind fun n26 =>
          (E.call 24 [(V.d (D.sl 4 l14))]).bind fun p27 =>
          (opI (A.cell p27.leaves 0) IntKind.i64).bind fun n29 =>
          bif (A.ieq n26 n29) then
            (E.call 17 [(V.d (D.sl 4 (A.rapp [[(D.int IntKind.i64 6), (D.int IntKind.i64 (A.wrap IntKind.i64 (A.add n15 1))), (D.int IntKind.i64 0), (D.int IntKind.i64 0)]] l14)))]).bind fun p30 =>
            (opI (A.cell p30.leaves 0) IntKind.i64).bind fun n32 =>
            bif (A.cutok n15 (A.rlen l14) (A.rlen l14)) then
              (E.call 24 [(V.d (D.sl 4 (A.cut l14 n15 (A.rlen l14))))]).bind fun p33 =>
              (opI (A.cell p33.leaves 0) IntKind.i64).bind fun n35 =>
              bif (A.ieq n32 (A.wrap IntKind.i64 (A.add 1 n35))) then
                (E.call 16 []).bind fun p36 =>
                (opB (A.cell p36.leaves 0)).bind fun b38 =>
                some (.inr (PRes.val [(D.bool b38)]))
              else
                some (.inr (PRes.val [(D.bool false)]))
            else
              none
          else
            some (.inr (PRes.val [(D.bool false)]))
        else
          none
    ) [(D.sl 4 code_), (D.int IntKind.i64 skip_), (D.int IntKind.i64 0)]
theorem g8_eq (A : Sy) (E : Env) (code_ : List (List D)) (skip_ : Int) : (funT A Try.prog cs 8 [V.d (D.sl 4 code_), V.d (D.int IntKind.i64 skip_)]).run E = g8 A E code_ skip_ := by kernel_rfl
def g128 (A : Sy) (E : Env) (x_ : Int) : Option PRes :=
  bif (A.ile 65536 x_) then
    none
  else
    bif (A.ile 256 x_) then
      none
    else
      bif (A.inr (A.wrap IntKind.u8 x_) (A.slen (bs [0, 1, 2, 2, 3, 3, 3, 3, 4, 4, 4, 4, 4, 4, 4, 4, 5, 5, 5, 5, 5, 5, 5, 5, 5, 5, 5, 5, 5, 5, 5, 5, 6, 6, 6, 6, 6, 6, 6, 6, 6, 6, 6, 6, 6, 6, 6, 6, 6, 6, 6, 6, 6, 6, 6, 6, 6, 6, 6, 6, 6, 6, 6, 6, 7, 7, 7, 7, 7, 7, 7, 7, 7, 7, 7, 7, 7, 7, 7, 7, 7, 7, 7, 7, 7, 7, 7, 7, 7, 7, 7, 7, 7, 7, 7, 7, 7, 7, 7, 7, 7, 7, 7, 7, 7, 7, 7, 7, 7, 7, 7, 7, 7, 7, 7, 7, 7, 7, 7, 7, 7, 7, 7, 7, 7, 7, 7, 7, 8, 8, 8, 8, 8, 8, 8, 8, 8, 8, 8, 8, 8, 8, 8, 8, 8, 8, 8, 8, 8, 8, 8, 8, 8, 8, 8, 8, 8, 8, 8, 8, 8, 8, 8, 8, 8, 8, 8, 8, 8, 8, 8, 8, 8, 8, 8, 8, 8, 8, 8, 8, 8, 8, 8, 8, 8, 8, 8, 8, 8, 8, 8, 8, 8, 8, 8, 8, 8, 8, 8, 8, 8, 8, 8, 8, 8, 8, 8, 8, 8, 8, 8, 8, 8, 8, 8, 8, 8, 8, 8, 8, 8, 8, 8, 8, 8, 8, 8, 8, 8, 8, 8, 8, 8, 8, 8, 8, 8, 8, 8, 8, 8, 8, 8, 8, 8, 8, 8, 8, 8, 8, 8, 8, 8, 8, 8, 8]))) then
        some (PRes.val [(D.int IntKind.i64 (A.wrap IntKind.i64 (A.add 0 (A.wrap IntKind.i64 (A.sbyte (bs [0, 1, 2, 2, 3, 3, 3, 3, 4, 4, 4, 4, 4, 4, 4, 4, 5, 5, 5, 5, 5, 5, 5, 5, 5, 5, 5, 5, 5, 5, 5, 5, 6, 6, 6, 6, 6, 6, 6, 6, 6, 6, 6, 6, 6, 6, 6, 6, 6, 6, 6, 6, 6, 6, 6, 6, 6, 6, 6, 6, 6, 6, 6, 6, 7, 7, 7, 7, 7, 7, 7, 7, 7, 7, 7, 7, 7, 7, 7, 7, 7, 7, 7, 7, 7, 7, 7, 7, 7, 7, 7, 7, 7, 7, 7, 7, 7, 7, 7, 7, 7, 7, 7, 7, 7, 7, 7, 7, 7, 7, 7, 7, 7, 7, 7, 7, 7, 7, 7, 7, 7, 7, 7, 7, 7, 7, 7, 7, 8, 8, 8, 8, 8, 8, 8, 8, 8, 8, 8, 8, 8, 8, 8, 8, 8, 8, 8, 8, 8, 8, 8, 8, 8, 8, 8, 8, 8, 8, 8, 8, 8, 8, 8, 8, 8, 8, 8, 8, 8, 8, 8, 8, 8, 8, 8, 8, 8, 8, 8, 8, 8, 8, 8, 8, 8, 8, 8, 8, 8, 8, 8, 8, 8, 8, 8, 8, 8, 8, 8, 8, 8, 8, 8, 8, 8, 8, 8, 8, 8, 8, 8, 8, 8, 8, 8, 8, 8, 8, 8, 8, 8, 8, 8, 8, 8, 8, 8, 8, 8, 8, 8, 8, 8, 8, 8, 8, 8, 8, 8, 8, 8, 8, 8, 8, 8, 8, 8, 8, 8, 8, 8, 8, 8, 8, 8, 8]) (A.wrap IntKind.u8 x_))))))])
      else
        none
theorem g128_eq (A : Sy) (E : Env) (x_ : Int) : (funT A Try.prog cs 128 [V.d (D.int IntKind.u32 x_)]).run E = g128 A E x_ := by kernel_rfl
def g106 (A : Sy) (E : Env) (x_ : Int) : Option PRes :=
  (E.call 129 [(V.d (D.int IntKind.u64 x_))]).bind fun p1 =>
  (opI (A.cell p1.leaves 0) IntKind.i64).bind fun n3 =>
  some (PRes.val [(D.int IntKind.i64 n3)])
theorem g106_eq (A : Sy) (E : Env) (x_ : Int) : (funT A Try.prog cs 106 [V.d (D.int IntKind.u64 x_)]).run E = g106 A E x_ := by kernel_rfl
def g129 (A : Sy) (E : Env) (x_ : Int) : Option PRes :=
  bif (A.ile 4294967296 x_) then
    none
  else
    bif (A.ile 65536 x_) then
      none
    else
      bif (A.ile 256 x_) then
        none
      else
        bif (A.inr (A.wrap IntKind.u8 x_) (A.slen (bs [0, 1, 2, 2, 3, 3, 3, 3, 4, 4, 4, 4, 4, 4, 4, 4, 5, 5, 5, 5, 5, 5, 5, 5, 5, 5, 5, 5, 5, 5, 5, 5, 6, 6, 6, 6, 6, 6, 6, 6, 6, 6, 6, 6, 6, 6, 6, 6, 6, 6, 6, 6, 6, 6, 6, 6, 6, 6, 6, 6, 6, 6, 6, 6, 7, 7, 7, 7, 7, 7, 7, 7, 7, 7, 7, 7, 7, 7, 7, 7, 7, 7, 7, 7, 7, 7, 7, 7, 7, 7, 7, 7, 7, 7, 7, 7, 7, 7, 7, 7, 7, 7, 7, 7, 7, 7, 7, 7, 7, 7, 7, 7, 7, 7, 7, 7, 7, 7, 7, 7, 7, 7, 7, 7, 7, 7, 7, 7, 8, 8, 8, 8, 8, 8, 8, 8, 8, 8, 8, 8, 8, 8, 8, 8, 8, 8, 8, 8, 8, 8, 8, 8, 8, 8, 8, 8, 8, 8, 8, 8, 8, 8, 8, 8, 8, 8, 8, 8, 8, 8, 8, 8, 8, 8, 8, 8, 8, 8, 8, 8, 8, 8, 8, 8, 8, 8, 8, 8, 8, 8, 8, 8, 8, 8, 8, 8, 8, 8, 8, 8, 8, 8, 8, 8, 8, 8, 8, 8, 8, 8, 8, 8, 8, 8, 8, 8, 8, 8, 8, 8, 8, 8, 8, 8, 8, 8, 8, 8, 8, 8, 8, 8, 8, 8, 8, 8, 8, 8, 8, 8, 8, 8, 8, 8, 8, 8, 8, 8, 8, 8, 8, 8, 8, 8, 8, 8]))) then
          some (PRes.val [(D.int IntKind.i64 (A.wrap IntKind.i64 (A.add 0 (A.wrap IntKind.i64 (A.sbyte (bs [0, 1, 2, 2, 3, 3, 3, 3, 4, 4, 4, 4, 4, 4, 4, 4, 5, 5, 5, 5, 5, 5, 5, 5, 5, 5, 5, 5, 5, 5, 5, 5, 6, 6, 6, 6, 6, 6, 6, 6, 6, 6, 6, 6, 6, 6, 6, 6, 6, 6, 6, 6, 6, 6, 6, 6, 6, 6, 6, 6, 6, 6, 6, 6, 7, 7, 7, 7, 7, 7, 7, 7, 7, 7, 7, 7, 7, 7, 7, 7, 7, 7, 7, 7, 7, 7, 7, 7, 7, 7, 7, 7, 7, 7, 7, 7, 7, 7, 7, 7, 7, 7, 7, 7, 7, 7, 7, 7, 7, 7, 7, 7, 7, 7, 7, 7, 7, 7, 7, 7, 7, 7, 7, 7, 7, 7, 7, 7, 8, 8, 8, 8, 8, 8, 8, 8, 8, 8, 8, 8, 8, 8, 8, 8, 8, 8, 8, 8, 8, 8, 8, 8, 8, 8, 8, 8, 8, 8, 8, 8, 8, 8, 8, 8, 8, 8, 8, 8, 8, 8, 8, 8, 8, 8, 8, 8, 8, 8, 8, 8, 8, 8, 8, 8, 8, 8, 8, 8, 8, 8, 8, 8, 8, 8, 8, 8, 8, 8, 8, 8, 8, 8, 8, 8, 8, 8, 8, 8, 8, 8, 8, 8, 8, 8, 8, 8, 8, 8, 8, 8, 8, 8, 8, 8, 8, 8, 8, 8, 8, 8, 8, 8, 8, 8, 8, 8, 8, 8, 8, 8, 8, 8, 8, 8, 8, 8, 8, 8, 8, 8, 8, 8, 8, 8, 8, 8]) (A.wrap IntKind.u8 x_))))))])
        else
          none
theorem g129_eq (A : Sy) (E : Env) (x_ : Int) : (funT A Try.prog cs 129 [V.d (D.int IntKind.u64 x_)]).run E = g129 A E x_ := by kernel_rfl
def g125 (A : Sy) (E : Env) (x_ : Int) (y_ : Int) : Option PRes :=
  (E.call 153 [(V.d (D.int IntKind.i64 x_))]).bind fun p1 =>
  (opB (A.cell p1.leaves 0)).bind fun b3 =>
  cutO (
    bif b3 then
      (E.call 153 [(V.d (D.int IntKind.i64 y_))]).bind fun p4 =>
      (opB (A.cell p4.leaves 0)).bind fun b6 =>
      some (.inl [(D.bool (A.bnot b6))])
    else
      some (.inl [(D.bool false)])
  ) fun ds7 =>
  (opB (A.cell ds7 0)).bind fun b8 =>
  cutO (
    bif b8 then
      some (.inl [(D.bool true)])
    else
      some (.inl [(D.bool (A.ilt x_ y_))])
  ) fun ds9 =>
  (opB (A.cell ds9 0)).bind fun b10 =>
  some (PRes.val [(D.bool b10)])
theorem g125_eq (A : Sy) (E : Env) (x_ : Int) (y_ : Int) : (funT A Try.prog cs 125 [V.d (D.int IntKind.i64 x_), V.d (D.int IntKind.i64 y_)]).run E = g125 A E x_ y_ := by kernel_rfl
def g153 (A : Sy) (E : Env) (x_ : Int) : Option PRes :=
  some (PRes.val [(D.bool (A.bnot (A.ieq x_ x_)))])
theorem g153_eq (A : Sy) (E : Env) (x_ : Int) : (funT A Try.prog cs 153 [V.d (D.int IntKind.i64 x_)]).run E = g153 A E x_ := by kernel_rfl
def g44 (A : Sy) (E : Env)(n : Int) (at0 : Int) (code : List (List D)) : Option PRes :=
  (opI (A.cell [(D.int IntKind.i64 at0)] 0) IntKind.i64).bind fun n1 =>
  cutO (
    bif (A.ile n n1) then
      some (.inl [(D.bool true)])
    else
      (opL (A.cell [(D.sl 4 code)] 0) 4).bind fun l2 =>
      some (.inl [(D.bool (A.ile (A.rlen l2) n))])
  ) fun ds3 =>
  (opB (A.cell ds3 0)).bind fun b4 =>
  some (PRes.val [(D.bool b4)])
theorem g44_eq (A : Sy) (E : Env)(n : Int) (at0 : Int) (code : List (List D)) : (funT A Try.prog cs 44 [V.d (D.int .i64 n), V.pel [D.int .i64 at0], V.pel [D.sl 4 code]]).run E = g44 A E n at0 code := by kernel_rfl
def g75_44 (A : Sy) (E : Env)(s : List (List D)) (at0 : Int) (code : List (List D)) : Option PRes :=
  E.lp (fun ds1 =>
    (opL (A.cell ds1 0) 1).bind fun l2 =>
    (opI (A.cell ds1 1) IntKind.i64).bind fun n3 =>
    (opL (A.cell ds1 2) 4).bind fun l4 =>
    (opI (A.cell ds1 3) IntKind.i64).bind fun n5 =>
    (opI (A.cell ds1 4) IntKind.i64).bind fun n6 =>
    bif (A.ilt n6 n5) then
      bif (A.inr n6 (A.rlen l2)) then
        (opI (A.cell (A.row l2 n6) 0) IntKind.i64).bind fun n7 =>
        (E.call 44 [(V.d (D.int IntKind.i64 n7)), (V.pel [(D.int IntKind.i64 n3)]), (V.pel [(D.sl 4 l4)])]).bind fun p8 =>
        (opB (A.cell p8.leaves 0)).bind fun b10 =>
        bif b10 then
          some (.inr (PRes.val [(D.int IntKind.i64 n6)]))
        else
          some (.inl [(D.sl 1 l2), (D.int IntKind.i64 n3), (D.sl 4 l4), (D.int IntKind.i64 n5), (D.int IntKind.i64 (A.wrap IntKind.i64 (A.add n6 1)))])
      else
        none
    else
      some (.inr (PRes.val [(D.int IntKind.i64 (-1))]))
  ) [(D.sl 1 s), (D.int IntKind.i64 at0), (D.sl 4 code), (D.int IntKind.i64 (A.rlen s)), (D.int IntKind.i64 0)]
theorem g75_44_eq (A : Sy) (E : Env)(s : List (List D)) (at0 : Int) (code : List (List D)) : (funT A Try.prog cs 75 [V.d (D.sl 1 s), V.fn 44 [V.pel [D.int .i64 at0], V.pel [D.sl 4 code]]]).run E = g75_44 A E s at0 code := by kernel_rfl
end Go.Vm
end

section
set_option linter.all false
namespace Go.Vm
open Go.Proofs
theorem c153 (x : Int) : cF 153 [.d (.int .i64 x)] = some (.val [.bool false]) := by
  refine cOf (by kernel_rfl) rfl ?_
  rw [g153_eq]
  simp only [g153, sy_wrap, sy_add, sy_sub, sy_mul, sy_ieq, sy_ilt, sy_ile, sy_seq, sy_beq, sy_bor, sy_bnot, sy_imax, sy_imin, sy_rlen, sy_slen, sy_sapp, sy_inr, sy_nat, sy_cell0, sy_cellS, sy_skip0, sy_inrn, sy_rapp, sy_fits, sy_cutok, sy_cut, sy_scut, sy_sbyte, sy_mkok, sy_mkok0, sy_mkz, sy_rep, sy_head, sy_deq, eqDs_int, eqDs_nil, opI_int, opB_bool, opS_str, opL_sl, opM_own, leaves_val, leaves_own, Option.bind_some, cutO_bool, bif_bool, cutO_inl, cutO_inr, eF_call, eF_lp, Nat.zero_add, Nat.reduceAdd, Bool.cond_false_right, Bool.cond_true_left, Bool.cond_false_left, Bool.cond_true_right, Bool.not_true, Bool.not_false, Bool.not_not, eq_self, decide_true, decide_false, cond_true, cond_false, Int.reduceEq, Int.reduceLT, Int.reduceLE, Int.reduceSub, Int.reduceAdd, Bool.true_and, Bool.and_true, Bool.false_and, Bool.and_false, Bool.or_false, Bool.false_or, Bool.true_or, Bool.or_true, true_and, and_true]
theorem c125 (x y : Int) : cF 125 [.d (.int .i64 x), .d (.int .i64 y)] = some (.val [.bool (decide (x < y))]) := by
  refine cOf (by kernel_rfl) rfl ?_
  rw [g125_eq]
  simp only [g125, sy_wrap, sy_add, sy_sub, sy_mul, sy_ieq, sy_ilt, sy_ile, sy_seq, sy_beq, sy_bor, sy_bnot, sy_imax, sy_imin, sy_rlen, sy_slen, sy_sapp, sy_inr, sy_nat, sy_cell0, sy_cellS, sy_skip0, sy_inrn, sy_rapp, sy_fits, sy_cutok, sy_cut, sy_scut, sy_sbyte, sy_mkok, sy_mkok0, sy_mkz, sy_rep, sy_head, sy_deq, eqDs_int, eqDs_nil, opI_int, opB_bool, opS_str, opL_sl, opM_own, leaves_val, leaves_own, Option.bind_some, cutO_bool, bif_bool, cutO_inl, cutO_inr, eF_call, eF_lp, Nat.zero_add, Nat.reduceAdd, Bool.cond_false_right, Bool.cond_true_left, Bool.cond_false_left, Bool.cond_true_right, Bool.not_true, Bool.not_false, Bool.not_not, eq_self, decide_true, decide_false, cond_true, cond_false, Int.reduceEq, Int.reduceLT, Int.reduceLE, Int.reduceSub, Int.reduceAdd, Bool.true_and, Bool.and_true, Bool.false_and, Bool.and_false, Bool.or_false, Bool.false_or, Bool.true_or, Bool.or_true, true_and, and_true, c153]
/-- Is n no place that at leads to in a code of so many? -/
def deadI (at_ len n : Int) : Bool := decide (n ≤ at_) || decide (len ≤ n)
theorem c44 (n at_ : Int) (code : List (List D)) : cF 44 [.d (.int .i64 n), .pel [.int .i64 at_], .pel [.sl 4 code]] = some (.val [.bool (deadI at_ code.length n)]) := by
  refine cOf (by kernel_rfl) rfl ?_
  rw [g44_eq]
  simp only [g44, sy_wrap, sy_add, sy_sub, sy_mul, sy_ieq, sy_ilt, sy_ile, sy_seq, sy_beq, sy_bor, sy_bnot, sy_imax, sy_imin, sy_rlen, sy_slen, sy_sapp, sy_inr, sy_nat, sy_cell0, sy_cellS, sy_skip0, sy_inrn, sy_rapp, sy_fits, sy_cutok, sy_cut, sy_scut, sy_sbyte, sy_mkok, sy_mkok0, sy_mkz, sy_rep, sy_head, sy_deq, eqDs_int, eqDs_nil, opI_int, opB_bool, opS_str, opL_sl, opM_own, leaves_val, leaves_own, Option.bind_some, cutO_bool, bif_bool, cutO_inl, cutO_inr, eF_call, eF_lp, Nat.zero_add, Nat.reduceAdd, Bool.cond_false_right, Bool.cond_true_left, Bool.cond_false_left, Bool.cond_true_right, Bool.not_true, Bool.not_false, Bool.not_not, eq_self, decide_true, decide_false, cond_true, cond_false, Int.reduceEq, Int.reduceLT, Int.reduceLE, Int.reduceSub, Int.reduceAdd, Bool.true_and, Bool.and_true, Bool.false_and, Bool.and_false, Bool.or_false, Bool.false_or, Bool.true_or, Bool.or_true, true_and, and_true]
  unfold deadI
  by_cases h : n ≤ at_ <;> simp [h]
theorem c75_44 (l : List Int) (at_ : Int) (code : List (List D)) (hl : l.length ≤ 100000) : cF 75 [.d (.sl 1 (irows l)), .fn 44 [.pel [.int .i64 at_], .pel [.sl 4 code]]] = some (.val [.int .i64 (idxI (deadI at_ code.length) l 0)]) := by
  refine cOf (by kernel_rfl) rfl ?_
  rw [g75_44_eq]
  simp only [g75_44, sy_wrap, sy_add, sy_sub, sy_mul, sy_ieq, sy_ilt, sy_ile, sy_seq, sy_beq, sy_bor, sy_bnot, sy_imax, sy_imin, sy_rlen, sy_slen, sy_sapp, sy_inr, sy_nat, sy_cell0, sy_cellS, sy_skip0, sy_inrn, sy_rapp, sy_fits, sy_cutok, sy_cut, sy_scut, sy_sbyte, sy_mkok, sy_mkok0, sy_mkz, sy_rep, sy_head, sy_deq, eqDs_int, eqDs_nil, opI_int, opB_bool, opS_str, opL_sl, opM_own, leaves_val, leaves_own, Option.bind_some, cutO_bool, bif_bool, cutO_inl, cutO_inr, eF_call, eF_lp, Nat.zero_add, Nat.reduceAdd, Bool.cond_false_right, Bool.cond_true_left, Bool.cond_false_left, Bool.cond_true_right, Bool.not_true, Bool.not_false, Bool.not_not, eq_self, decide_true, decide_false, cond_true, cond_false, Int.reduceEq, Int.reduceLT, Int.reduceLE, Int.reduceSub, Int.reduceAdd, Bool.true_and, Bool.and_true, Bool.false_and, Bool.and_false, Bool.or_false, Bool.false_or, Bool.true_or, Bool.or_true, true_and, and_true]
  refine idx_loop (deadI at_ code.length) l (fun i => [.sl 1 (irows l), .int .i64 at_, .sl 4 code, .int .i64 ((irows l).length : Int), .int .i64 i]) (fun i x hx => ?_) ?_
  · have hlt := (List.getElem?_eq_some_iff.1 hx).1
    simp only [sy_wrap, sy_add, sy_sub, sy_mul, sy_ieq, sy_ilt, sy_ile, sy_seq, sy_beq, sy_bor, sy_bnot, sy_imax, sy_imin, sy_rlen, sy_slen, sy_sapp, sy_inr, sy_nat, sy_cell0, sy_cellS, sy_skip0, sy_inrn, sy_rapp, sy_fits, sy_cutok, sy_cut, sy_scut, sy_sbyte, sy_mkok, sy_mkok0, sy_mkz, sy_rep, sy_head, sy_deq, eqDs_int, eqDs_nil, opI_int, opB_bool, opS_str, opL_sl, opM_own, leaves_val, leaves_own, Option.bind_some, cutO_bool, bif_bool, cutO_inl, cutO_inr, eF_call, eF_lp, Nat.zero_add, Nat.reduceAdd, Bool.cond_false_right, Bool.cond_true_left, Bool.cond_false_left, Bool.cond_true_right, Bool.not_true, Bool.not_false, Bool.not_not, eq_self, decide_true, decide_false, cond_true, cond_false, Int.reduceEq, Int.reduceLT, Int.reduceLE, Int.reduceSub, Int.reduceAdd, Bool.true_and, Bool.and_true, Bool.false_and, Bool.and_false, Bool.or_false, Bool.false_or, Bool.true_or, Bool.or_true, true_and, and_true, irows_len, ilt_at hlt, inr_at hlt, irows_at hx, c44, wrap_succ hlt (by omega)]
  · simp only [sy_wrap, sy_add, sy_sub, sy_mul, sy_ieq, sy_ilt, sy_ile, sy_seq, sy_beq, sy_bor, sy_bnot, sy_imax, sy_imin, sy_rlen, sy_slen, sy_sapp, sy_inr, sy_nat, sy_cell0, sy_cellS, sy_skip0, sy_inrn, sy_rapp, sy_fits, sy_cutok, sy_cut, sy_scut, sy_sbyte, sy_mkok, sy_mkok0, sy_mkz, sy_rep, sy_head, sy_deq, eqDs_int, eqDs_nil, opI_int, opB_bool, opS_str, opL_sl, opM_own, leaves_val, leaves_own, Option.bind_some, cutO_bool, bif_bool, cutO_inl, cutO_inr, eF_call, eF_lp, Nat.zero_add, Nat.reduceAdd, Bool.cond_false_right, Bool.cond_true_left, Bool.cond_false_left, Bool.cond_true_right, Bool.not_true, Bool.not_false, Bool.not_not, eq_self, decide_true, decide_false, cond_true, cond_false, Int.reduceEq, Int.reduceLT, Int.reduceLE, Int.reduceSub, Int.reduceAdd, Bool.true_and, Bool.and_true, Bool.false_and, Bool.and_false, Bool.or_false, Bool.false_or, Bool.true_or, Bool.or_true, true_and, and_true, irows_len, ilt_self]
theorem c129_0 : cF 129 [.d (.int .u64 0)] = some (.val [.int .i64 0]) := by
  refine cOf (by kernel_rfl) rfl ?_
  rw [g129_eq]
  kernel_rfl
theorem c129_1 : cF 129 [.d (.int .u64 1)] = some (.val [.int .i64 1]) := by
  refine cOf (by kernel_rfl) rfl ?_
  rw [g129_eq]
  kernel_rfl
theorem c129_2 : cF 129 [.d (.int .u64 2)] = some (.val [.int .i64 2]) := by
  refine cOf (by kernel_rfl) rfl ?_
  rw [g129_eq]
  kernel_rfl
theorem c106_0 : cF 106 [.d (.int .u64 0)] = some (.val [.int .i64 0]) := by
  refine cOf (by kernel_rfl) rfl ?_
  rw [g106_eq]
  simp only [g106, sy_wrap, sy_add, sy_sub, sy_mul, sy_ieq, sy_ilt, sy_ile, sy_seq, sy_beq, sy_bor, sy_bnot, sy_imax, sy_imin, sy_rlen, sy_slen, sy_sapp, sy_inr, sy_nat, sy_cell0, sy_cellS, sy_skip0, sy_inrn, sy_rapp, sy_fits, sy_cutok, sy_cut, sy_scut, sy_sbyte, sy_mkok, sy_mkok0, sy_mkz, sy_rep, sy_head, sy_deq, eqDs_int, eqDs_nil, opI_int, opB_bool, opS_str, opL_sl, opM_own, leaves_val, leaves_own, Option.bind_some, cutO_bool, bif_bool, cutO_inl, cutO_inr, eF_call, eF_lp, Nat.zero_add, Nat.reduceAdd, Bool.cond_false_right, Bool.cond_true_left, Bool.cond_false_left, Bool.cond_true_right, Bool.not_true, Bool.not_false, Bool.not_not, eq_self, decide_true, decide_false, cond_true, cond_false, Int.reduceEq, Int.reduceLT, Int.reduceLE, Int.reduceSub, Int.reduceAdd, Bool.true_and, Bool.and_true, Bool.false_and, Bool.and_false, Bool.or_false, Bool.false_or, Bool.true_or, Bool.or_true, true_and, and_true, c129_0]
theorem c106_1 : cF 106 [.d (.int .u64 1)] = some (.val [.int .i64 1]) := by
  refine cOf (by kernel_rfl) rfl ?_
  rw [g106_eq]
  simp only [g106, sy_wrap, sy_add, sy_sub, sy_mul, sy_ieq, sy_ilt, sy_ile, sy_seq, sy_beq, sy_bor, sy_bnot, sy_imax, sy_imin, sy_rlen, sy_slen, sy_sapp, sy_inr, sy_nat, sy_cell0, sy_cellS, sy_skip0, sy_inrn, sy_rapp, sy_fits, sy_cutok, sy_cut, sy_scut, sy_sbyte, sy_mkok, sy_mkok0, sy_mkz, sy_rep, sy_head, sy_deq, eqDs_int, eqDs_nil, opI_int, opB_bool, opS_str, opL_sl, opM_own, leaves_val, leaves_own, Option.bind_some, cutO_bool, bif_bool, cutO_inl, cutO_inr, eF_call, eF_lp, Nat.zero_add, Nat.reduceAdd, Bool.cond_false_right, Bool.cond_true_left, Bool.cond_false_left, Bool.cond_true_right, Bool.not_true, Bool.not_false, Bool.not_not, eq_self, decide_true, decide_false, cond_true, cond_false, Int.reduceEq, Int.reduceLT, Int.reduceLE, Int.reduceSub, Int.reduceAdd, Bool.true_and, Bool.and_true, Bool.false_and, Bool.and_false, Bool.or_false, Bool.false_or, Bool.true_or, Bool.or_true, true_and, and_true, c129_1]
theorem c106_2 : cF 106 [.d (.int .u64 2)] = some (.val [.int .i64 2]) := by
  refine cOf (by kernel_rfl) rfl ?_
  rw [g106_eq]
  simp only [g106, sy_wrap, sy_add, sy_sub, sy_mul, sy_ieq, sy_ilt, sy_ile, sy_seq, sy_beq, sy_bor, sy_bnot, sy_imax, sy_imin, sy_rlen, sy_slen, sy_sapp, sy_inr, sy_nat, sy_cell0, sy_cellS, sy_skip0, sy_inrn, sy_rapp, sy_fits, sy_cutok, sy_cut, sy_scut, sy_sbyte, sy_mkok, sy_mkok0, sy_mkz, sy_rep, sy_head, sy_deq, eqDs_int, eqDs_nil, opI_int, opB_bool, opS_str, opL_sl, opM_own, leaves_val, leaves_own, Option.bind_some, cutO_bool, bif_bool, cutO_inl, cutO_inr, eF_call, eF_lp, Nat.zero_add, Nat.reduceAdd, Bool.cond_false_right, Bool.cond_true_left, Bool.cond_false_left, Bool.cond_true_right, Bool.not_true, Bool.not_false, Bool.not_not, eq_self, decide_true, decide_false, cond_true, cond_false, Int.reduceEq, Int.reduceLT, Int.reduceLE, Int.reduceSub, Int.reduceAdd, Bool.true_and, Bool.and_true, Bool.false_and, Bool.and_false, Bool.or_false, Bool.false_or, Bool.true_or, Bool.or_true, true_and, and_true, c129_2]
end Go.Vm
end

section
set_option maxRecDepth 1000000
set_option maxHeartbeats 0
namespace Go.Vm
open Go.Proofs
def g20 (A : Sy) (E : Env) (code_ : List (List D)) (at_ : Int) : Option PRes :=
  cutO (
    bif (A.ilt at_ 0) then
      some (.inl [(D.bool true)])
    else
      some (.inl [(D.bool (A.ile (A.rlen code_) at_))])
  ) fun ds1 =>
  (opB (A.cell ds1 0)).bind fun b2 =>
  bif b2 then
    some (PRes.own 3 1 [])
  else
    bif (A.inr at_ (A.rlen code_)) then
      (opI (A.cell (A.row code_ at_) 0) IntKind.i64).bind fun n3 =>
      (opI (A.cell (A.row code_ at_) 1) IntKind.i64).bind fun n4 =>
      (opI (A.cell (A.row code_ at_) 2) IntKind.i64).bind fun n5 =>
      (opI (A.cell (A.row code_ at_) 3) IntKind.i64).bind fun n6 =>
      cutO (
        cutO (
          bif (A.bnot (A.ieq n3 10)) then
            some (.inl [(D.bool (A.bnot (A.ieq n3 6)))])
          else
            some (.inl [(D.bool false)])
        ) fun ds7 =>
        (opB (A.cell ds7 0)).bind fun b8 =>
        bif b8 then
          bif (A.fits [] [[(D.int IntKind.i64 (A.wrap IntKind.i64 (A.add at_ 1)))]] 8) then
            some (.inl [(D.sl 4 code_), (D.int IntKind.i64 at_), (D.int IntKind.i64 n3), (D.int IntKind.i64 n4), (D.int IntKind.i64 n5), (D.int IntKind.i64 n6), (D.sl 1 (A.rapp [] [[(D.int IntKind.i64 (A.wrap IntKind.i64 (A.add at_ 1)))]]))])
          else
            none
        else
          some (.inl [(D.sl 4 code_), (D.int IntKind.i64 at_), (D.int IntKind.i64 n3), (D.int IntKind.i64 n4), (D.int IntKind.i64 n5), (D.int IntKind.i64 n6), (D.sl 1 [])])
      ) fun ds9 =>
      (opL (A.cell ds9 0) 4).bind fun l10 =>
      (opI (A.cell ds9 1) IntKind.i64).bind fun n11 =>
      (opI (A.cell ds9 2) IntKind.i64).bind fun n12 =>
      (opI (A.cell ds9 3) IntKind.i64).bind fun n13 =>
      (opI (A.cell ds9 4) IntKind.i64).bind fun n14 =>
      (opI (A.cell ds9 5) IntKind.i64).bind fun n15 =>
      (opL (A.cell ds9 6) 1).bind fun l16 =>
      cutO (
        cutO (
          bif (A.ieq n12 6) then
            some (.inl [(D.bool true)])
          else
            some (.inl [(D.bool (A.ieq n12 7))])
        ) fun ds17 =>
        (opB (A.cell ds17 0)).bind fun b18 =>
        bif b18 then
          bif (A.fits l16 [[(D.int IntKind.i64 n13)]] 8) then
            some (.inl [(D.sl 4 l10), (D.int IntKind.i64 n11), (D.int IntKind.i64 n12), (D.int IntKind.i64 n13), (D.int IntKind.i64 n14), (D.int IntKind.i64 n15), (D.sl 1 (A.rapp l16 [[(D.int IntKind.i64 n13)]]))])
          else
            none
        else
          some (.inl [(D.sl 4 l10), (D.int IntKind.i64 n11), (D.int IntKind.i64 n12), (D.int IntKind.i64 n13), (D.int IntKind.i64 n14), (D.int IntKind.i64 n15), (D.sl 1 l16)])
      ) fun ds19 =>
      (opL (A.cell ds19 0) 4).bind fun l20 =>
      (opI (A.cell ds19 1) IntKind.i64).bind fun n21 =>
      (opI (A.cell ds19 2) IntKind.i64).bind fun n22 =>
      (opI (A.cell ds19 3) IntKind.i64).bind fun n23 =>
      (opI (A.cell ds19 4) IntKind.i64).bind fun n24 =>
      (opI (A.cell ds19 5) IntKind.i64).bind fun n25 =>
      (opL (A.cell ds19 6) 1).bind fun l26 =>
      (E.call 75 [(V.d (D.sl 1 l26)), (V.fn 44 [(V.pel [(D.int IntKind.i64 n21)]), (V.pel [(D.sl 4 l20)])])]).bind fun p27 =>
      (opI (A.cell p27.leaves 0) IntKind.i64).bind fun n29 =>
      bif (A.ieq n29 (-1)) then
        E.lp (fun ds30 =>
          (opI (A.cell ds30 0) IntKind.i64).bind fun n31 =>
          (opI (A.cell ds30 1) IntKind.i64).bind fun n32 =>
          (opL (A.cell ds30 2) 4).bind fun l33 =>
          (opI (A.cell ds30 3) IntKind.i64).bind fun n34 =>
          (opI (A.cell ds30 4) IntKind.i64).bind fun n35 =>
          (opI (A.cell ds30 5) IntKind.i64).bind fun n36 =>
          (opI (A.cell ds30 6) IntKind.i64).bind fun n37 =>
          (opI (A.cell ds30 7) IntKind.i64).bind fun n38 =>
          (opL (A.cell ds30 8) 1).bind fun l39 =>
          (opL (A.cell ds30 9) 1).bind fun l40 =>
          (opL (A.cell ds30 10) 1).bind fun l41 =>
          (opL (A.cell ds30 11) 1).bind fun l42 =>
          (opL (A.cell ds30 12) 1).bind fun l43 =>
          bif (A.ilt n32 n31) then
            bif (A.inr n32 (A.rlen l39)) then
              (opI (A.cell (A.rown l39 (A.nat n32)) 0) IntKind.i64).bind fun n44 =>
              bif (A.fits l42 [[(D.int IntKind.i64 n44)]] 8) then
                bif (A.bnot true) then
                  (E.call 106 [(V.d (D.int IntKind.u64 (A.wrap IntKind.u64 (A.rlen (A.rapp l42 [[(D.int IntKind.i64 n44)]])))))]).bind fun p45 =>
                  (opI (A.cell p45.leaves 0) IntKind.i64).bind fun n47 =>
                  E.lp (fun ds48 =>
                    (opI (A.cell ds48 0) IntKind.i64).bind fun n49 =>
                    (opI (A.cell ds48 1) IntKind.i64).bind fun n50 =>
                    (opI (A.cell ds48 2) IntKind.i64).bind fun n51 =>
                    (opB (A.cell ds48 3)).bind fun b52 =>
                    (opB (A.cell ds48 4)).bind fun b53 =>
                    (opL (A.cell ds48 5) 4).bind fun l54 =>
                    (opI (A.cell ds48 6) IntKind.i64).bind fun n55 =>
                    (opI (A.cell ds48 7) IntKind.i64).bind fun n56 =>
                    (opI (A.cell ds48 8) IntKind.i64).bind fun n57 =>
                    (opI (A.cell ds48 9) IntKind.i64).bind fun n58 =>
                    (opI (A.cell ds48 10) IntKind.i64).bind fun n59 =>
                    (opL (A.cell ds48 11) 1).bind fun l60 =>
                    (opL (A.cell ds48 12) 1).bind fun l61 =>
                    (opL (A.cell ds48 13) 1).bind fun l62 =>
                    (opL (A.cell ds48 14) 1).bind fun l63 =>
                    (opL (A.cell ds48 15) 1).bind fun l64 =>
                    bif (A.ile (A.wrap IntKind.i64 (A.sub n50 n49)) 12) then
                      E.lp (fun ds65 =>
                        (opI (A.cell ds65 0) IntKind.i64).bind fun n66 =>
                        (opI (A.cell ds65 1) IntKind.i64).bind fun n67 =>
                        (opI (A.cell ds65 2) IntKind.i64).bind fun n68 =>
                        (opL (A.cell ds65 3) 4).bind fun l69 =>
                        (opI (A.cell ds65 4) IntKind.i64).bind fun n70 =>
                        (opI (A.cell ds65 5) IntKind.i64).bind fun n71 =>
                        (opI (A.cell ds65 6) IntKind.i64).bind fun n72 =>
                        (opI (A.cell ds65 7) IntKind.i64).bind fun n73 =>
                        (opI (A.cell ds65 8) IntKind.i64).bind fun n74 =>
                        (opL (A.cell ds65 9) 1).bind fun l75 =>
                        (opL (A.cell ds65 10) 1).bind fun l76 =>
                        (opL (A.cell ds65 11) 1).bind fun l77 =>
                        (opL (A.cell ds65 12) 1).bind fun l78 =>
                        (opL (A.cell ds65 13) 1).bind fun l79 =>
                        bif (A.ilt n68 n67) then
                          E.lp (fun ds80 =>
                            (opI (A.cell ds80 0) IntKind.i64).bind fun n81 =>
                            (opI (A.cell ds80 1) IntKind.i64).bind fun n82 =>
                            (opI (A.cell ds80 2) IntKind.i64).bind fun n83 =>
                            (opI (A.cell ds80 3) IntKind.i64).bind fun n84 =>
                            (opL (A.cell ds80 4) 4).bind fun l85 =>
                            (opI (A.cell ds80 5) IntKind.i64).bind fun n86 =>
                            (opI (A.cell ds80 6) IntKind.i64).bind fun n87 =>
                            (opI (A.cell ds80 7) IntKind.i64).bind fun n88 =>
                            (opI (A.cell ds80 8) IntKind.i64).bind fun n89 =>
                            (opI (A.cell ds80 9) IntKind.i64).bind fun n90 =>
                            (opL (A.cell ds80 10) 1).bind fun l91 =>
                            (opL (A.cell ds80 11) 1).bind fun l92 =>
                            (opL (A.cell ds80 12) 1).bind fun l93 =>
                            (opL (A.cell ds80 13) 1).bind fun l94 =>
                            (opL (A.cell ds80 14) 1).bind fun l95 =>
                            bif (A.ilt n81 n84) then
                              bif (A.inr n84 (A.rlen l94)) then
                                (opI (A.cell (A.rown l94 (A.nat n84)) 0) IntKind.i64).bind fun n96 =>
                                bif (A.inr (A.wrap IntKind.i64 (A.sub n84 1)) (A.rlen l94)) then
                                  (opI (A.cell (A.rown l94 (A.nat (A.wrap IntKind.i64 (A.sub n84 1)))) 0) IntKind.i64).bind fun n97 =>
                                  (E.call 125 [(V.d (D.int IntKind.i64 n96)), (V.d (D.int IntKind.i64 n97))]).bind fun p98 =>
                                  (opB (A.cell p98.leaves 0)).bind fun b100 =>
                                  bif b100 then
                                    bif (A.inr (A.wrap IntKind.i64 (A.sub n84 1)) (A.rlen l94)) then
                                      (opI (A.cell (A.rown l94 (A.nat (A.wrap IntKind.i64 (A.sub n84 1)))) 0) IntKind.i64).bind fun n101 =>
                                      bif (A.inr n84 (A.rlen l94)) then
                                        (opI (A.cell (A.rown l94 (A.nat n84)) 0) IntKind.i64).bind fun n102 =>
                                        bif (A.inr n84 (A.rlen l94)) then
                                          bif (A.inrn (A.nat n84) l94) then
                                            bif (A.inr (A.wrap IntKind.i64 (A.sub n84 1)) (A.rlen (A.rput l94 (A.nat n84) 0 [(D.int IntKind.i64 n101)]))) then
                                              bif (A.inrn (A.nat (A.wrap IntKind.i64 (A.sub n84 1))) (A.rput l94 (A.nat n84) 0 [(D.int IntKind.i64 n101)])) then
                                                some (.inl [(D.int IntKind.i64 n81), (D.int IntKind.i64 n82), (D.int IntKind.i64 n83), (D.int IntKind.i64 (A.wrap IntKind.i64 (A.sub n84 1))), (D.sl 4 l85), (D.int IntKind.i64 n86), (D.int IntKind.i64 n87), (D.int IntKind.i64 n88), (D.int IntKind.i64 n89), (D.int IntKind.i64 n90), (D.sl 1 l91), (D.sl 1 l92), (D.sl 1 l93), (D.sl 1 (A.rput (A.rput l94 (A.nat n84) 0 [(D.int IntKind.i64 n101)]) (A.nat (A.wrap IntKind.i64 (A.sub n84 1))) 0 [(D.int IntKind.i64 n102)])), (D.sl 1 l95)])
                                              else
                                                none
                                            else
                                              none
                                          else
                                            none
                                        else
                                          none
                                      else
                                        none
                                    else
                                      none
                                  else
                                    some (.inr (.inl [(D.int IntKind.i64 n81), (D.int IntKind.i64 n82), (D.int IntKind.i64 (A.wrap IntKind.i64 (A.add n83 1))), (D.sl 4 l85), (D.int IntKind.i64 n86), (D.int IntKind.i64 n87), (D.int IntKind.i64 n88), (D.int IntKind.i64 n89), (D.int IntKind.i64 n90), (D.sl 1 l91), (D.sl 1 l92), (D.sl 1 l93), (D.sl 1 l94), (D.sl 1 l95)]))
                                else
                                  none
                              else
                                none
                            else
                              some (.inr (.inl [(D.int IntKind.i64 n81), (D.int IntKind.i64 n82), (D.int IntKind.i64 (A.wrap IntKind.i64 (A.add n83 1))), (D.sl 4 l85), (D.int IntKind.i64 n86), (D.int IntKind.i64 n87), (D.int IntKind.i64 n88), (D.int IntKind.i64 n89), (D.int IntKind.i64 n90), (D.sl 1 l91), (D.sl 1 l92), (D.sl 1 l93), (D.sl 1 l94), (D.sl 1 l95)]))
                          ) [(D.int IntKind.i64 n66), (D.int IntKind.i64 n67), (D.int IntKind.i64 n68), (D.int IntKind.i64 n68), (D.sl 4 l69), (D.int IntKind.i64 n70), (D.int IntKind.i64 n71), (D.int IntKind.i64 n72), (D.int IntKind.i64 n73), (D.int IntKind.i64 n74), (D.sl 1 l75), (D.sl 1 l76), (D.sl 1 l77), (D.sl 1 l78), (D.sl 1 l79)]
                        else
                          bif (A.ilt (A.rlen l78) 2) then
                            some (.inr (.inr (.inr (PRes.own 3 1 l78))))
                          else
                            E.lp (fun ds103 =>
                              (opI (A.cell ds103 0) IntKind.i64).bind fun n104 =>
                              (opL (A.cell ds103 1) 4).bind fun l105 =>
                              (opI (A.cell ds103 2) IntKind.i64).bind fun n106 =>
                              (opI (A.cell ds103 3) IntKind.i64).bind fun n107 =>
                              (opI (A.cell ds103 4) IntKind.i64).bind fun n108 =>
                              (opI (A.cell ds103 5) IntKind.i64).bind fun n109 =>
                              (opI (A.cell ds103 6) IntKind.i64).bind fun n110 =>
                              (opL (A.cell ds103 7) 1).bind fun l111 =>
                              (opL (A.cell ds103 8) 1).bind fun l112 =>
                              (opL (A.cell ds103 9) 1).bind fun l113 =>
                              (opL (A.cell ds103 10) 1).bind fun l114 =>
                              (opL (A.cell ds103 11) 1).bind fun l115 =>
                              bif (A.ilt n104 (A.rlen l114)) then
                                bif (A.inr n104 (A.rlen l114)) then
                                  (opI (A.cell (A.rown l114 (A.nat n104)) 0) IntKind.i64).bind fun n116 =>
                                  bif (A.inr (A.wrap IntKind.i64 (A.sub n104 1)) (A.rlen l114)) then
                                    (opI (A.cell (A.rown l114 (A.nat (A.wrap IntKind.i64 (A.sub n104 1)))) 0) IntKind.i64).bind fun n117 =>
                                    bif (A.ieq n116 n117) then
                                      bif (A.cutok n104 (A.rlen l114) (A.rlen l114)) then
                                        E.lp (fun ds118 =>
                                          (opI (A.cell ds118 0) IntKind.i64).bind fun n119 =>
                                          (opI (A.cell ds118 1) IntKind.i64).bind fun n120 =>
                                          (opI (A.cell ds118 2) IntKind.i64).bind fun n121 =>
                                          (opI (A.cell ds118 3) IntKind.i64).bind fun n122 =>
                                          (opL (A.cell ds118 4) 4).bind fun l123 =>
                                          (opI (A.cell ds118 5) IntKind.i64).bind fun n124 =>
                                          (opI (A.cell ds118 6) IntKind.i64).bind fun n125 =>
                                          (opI (A.cell ds118 7) IntKind.i64).bind fun n126 =>
                                          (opI (A.cell ds118 8) IntKind.i64).bind fun n127 =>
                                          (opI (A.cell ds118 9) IntKind.i64).bind fun n128 =>
                                          (opL (A.cell ds118 10) 1).bind fun l129 =>
                                          (opL (A.cell ds118 11) 1).bind fun l130 =>
                                          (opL (A.cell ds118 12) 1).bind fun l131 =>
                                          (opL (A.cell ds118 13) 1).bind fun l132 =>
                                          (opL (A.cell ds118 14) 1).bind fun l133 =>
                                          bif (A.ilt n122 n121) then
                                            bif (A.inr n122 n121) then
                                              (opI (A.cell (A.rown l132 (A.nat (A.add n120 n122))) 0) IntKind.i64).bind fun n134 =>
                                              bif (A.inr (A.wrap IntKind.i64 (A.sub n122 1)) n121) then
                                                (opI (A.cell (A.rown l132 (A.nat (A.add n120 (A.wrap IntKind.i64 (A.sub n122 1))))) 0) IntKind.i64).bind fun n135 =>
                                                bif (A.bnot (A.ieq n134 n135)) then
                                                  bif (A.inr n122 n121) then
                                                    (opI (A.cell (A.rown l132 (A.nat (A.add n120 n122))) 0) IntKind.i64).bind fun n136 =>
                                                    bif (A.inr n119 (A.rlen l132)) then
                                                      bif (A.inrn (A.nat n119) l132) then
                                                        some (.inl [(D.int IntKind.i64 (A.wrap IntKind.i64 (A.add n119 1))), (D.int IntKind.i64 n120), (D.int IntKind.i64 n121), (D.int IntKind.i64 (A.wrap IntKind.i64 (A.add n122 1))), (D.sl 4 l123), (D.int IntKind.i64 n124), (D.int IntKind.i64 n125), (D.int IntKind.i64 n126), (D.int IntKind.i64 n127), (D.int IntKind.i64 n128), (D.sl 1 l129), (D.sl 1 l130), (D.sl 1 l131), (D.sl 1 (A.rput l132 (A.nat n119) 0 [(D.int IntKind.i64 n136)])), (D.sl 1 l133)])
                                                      else
                                                        none
                                                    else
                                                      none
                                                  else
                                                    none
                                                else
                                                  some (.inl [(D.int IntKind.i64 n119), (D.int IntKind.i64 n120), (D.int IntKind.i64 n121), (D.int IntKind.i64 (A.wrap IntKind.i64 (A.add n122 1))), (D.sl 4 l123), (D.int IntKind.i64 n124), (D.int IntKind.i64 n125), (D.int IntKind.i64 n126), (D.int IntKind.i64 n127), (D.int IntKind.i64 n128), (D.sl 1 l129), (D.sl 1 l130), (D.sl 1 l131), (D.sl 1 l132), (D.sl 1 l133)])
                                              else
                                                none
                                            else
                                              none
                                          else
                                            bif (A.cutok n119 (A.rlen l132) (A.rlen l132)) then
                                              bif (A.cutok n119 (A.add n119 (A.sub (A.rlen l132) n119)) (A.rlen l132)) then
                                                bif (A.cutok 0 n119 (A.rlen (A.rcopy l132 n119 (A.sub (A.rlen l132) n119) (A.rep (A.sub (A.rlen l132) n119) [(D.int IntKind.i64 0)])))) then
                                                  some (.inr (.inr (.inr (.inr (.inr (PRes.own 3 1 (A.head (A.rcopy l132 n119 (A.sub (A.rlen l132) n119) (A.rep (A.sub (A.rlen l132) n119) [(D.int IntKind.i64 0)])) n119)))))))
                                                else
                                                  none
                                              else
                                                none
                                            else
                                              none
                                        ) [(D.int IntKind.i64 n104), (D.int IntKind.i64 n104), (D.int IntKind.i64 (A.sub (A.rlen l114) n104)), (D.int IntKind.i64 1), (D.sl 4 l105), (D.int IntKind.i64 n106), (D.int IntKind.i64 n107), (D.int IntKind.i64 n108), (D.int IntKind.i64 n109), (D.int IntKind.i64 n110), (D.sl 1 l111), (D.sl 1 l112), (D.sl 1 l113), (D.sl 1 l114), (D.sl 1 l115)]
                                      else
                                        none
                                    else
                                      some (.inl [(D.int IntKind.i64 (A.wrap IntKind.i64 (A.add n104 1))), (D.sl 4 l105), (D.int IntKind.i64 n106), (D.int IntKind.i64 n107), (D.int IntKind.i64 n108), (D.int IntKind.i64 n109), (D.int IntKind.i64 n110), (D.sl 1 l111), (D.sl 1 l112), (D.sl 1 l113), (D.sl 1 l114), (D.sl 1 l115)])
                                  else
                                    none
                                else
                                  none
                              else
                                some (.inr (.inr (.inr (.inr (PRes.own 3 1 l114)))))
                            ) [(D.int IntKind.i64 1), (D.sl 4 l69), (D.int IntKind.i64 n70), (D.int IntKind.i64 n71), (D.int IntKind.i64 n72), (D.int IntKind.i64 n73), (D.int IntKind.i64 n74), (D.sl 1 l75), (D.sl 1 l76), (D.sl 1 l77), (D.sl 1 l78), (D.sl 1 l79)]
                      ) [(D.int IntKind.i64 n49), (D.int IntKind.i64 n50), (D.int IntKind.i64 (A.wrap IntKind.i64 (A.add n49 1))), (D.sl 4 l54), (D.int IntKind.i64 n55), (D.int IntKind.i64 n56), (D.int IntKind.i64 n57), (D.int IntKind.i64 n58), (D.int IntKind.i64 n59), (D.sl 1 l60), (D.sl 1 l61), (D.sl 1 l62), (D.sl 1 l63), (D.sl 1 l64)]
                    else
                      bif (A.ieq n51 0) then
                        none
                      else
                        bif (A.bnot b52) then
                          none
                        else
                          none
                  ) [(D.int IntKind.i64 0), (D.int IntKind.i64 (A.rlen (A.rapp l42 [[(D.int IntKind.i64 n44)]]))), (D.int IntKind.i64 n47), (D.bool true), (D.bool true), (D.sl 4 l33), (D.int IntKind.i64 n34), (D.int IntKind.i64 n35), (D.int IntKind.i64 n36), (D.int IntKind.i64 n37), (D.int IntKind.i64 n38), (D.sl 1 l39), (D.sl 1 l40), (D.sl 1 l41), (D.sl 1 (A.rapp l42 [[(D.int IntKind.i64 n44)]])), (D.sl 1 l43)]
                else
                  some (.inl [(D.int IntKind.i64 n31), (D.int IntKind.i64 (A.wrap IntKind.i64 (A.add n32 1))), (D.sl 4 l33), (D.int IntKind.i64 n34), (D.int IntKind.i64 n35), (D.int IntKind.i64 n36), (D.int IntKind.i64 n37), (D.int IntKind.i64 n38), (D.sl 1 l39), (D.sl 1 l40), (D.sl 1 l41), (D.sl 1 (A.rapp l42 [[(D.int IntKind.i64 n44)]])), (D.sl 1 l43)])
              else
                none
            else
              none
          else
            (E.call 106 [(V.d (D.int IntKind.u64 (A.wrap IntKind.u64 (A.rlen l42))))]).bind fun p137 =>
            (opI (A.cell p137.leaves 0) IntKind.i64).bind fun n139 =>
            E.lp (fun ds140 =>
              (opI (A.cell ds140 0) IntKind.i64).bind fun n141 =>
              (opI (A.cell ds140 1) IntKind.i64).bind fun n142 =>
              (opI (A.cell ds140 2) IntKind.i64).bind fun n143 =>
              (opB (A.cell ds140 3)).bind fun b144 =>
              (opB (A.cell ds140 4)).bind fun b145 =>
              (opL (A.cell ds140 5) 4).bind fun l146 =>
              (opI (A.cell ds140 6) IntKind.i64).bind fun n147 =>
              (opI (A.cell ds140 7) IntKind.i64).bind fun n148 =>
              (opI (A.cell ds140 8) IntKind.i64).bind fun n149 =>
              (opI (A.cell ds140 9) IntKind.i64).bind fun n150 =>
              (opI (A.cell ds140 10) IntKind.i64).bind fun n151 =>
              (opL (A.cell ds140 11) 1).bind fun l152 =>
              (opL (A.cell ds140 12) 1).bind fun l153 =>
              (opL (A.cell ds140 13) 1).bind fun l154 =>
              (opL (A.cell ds140 14) 1).bind fun l155 =>
              (opL (A.cell ds140 15) 1).bind fun l156 =>
              bif (A.ile (A.wrap IntKind.i64 (A.sub n142 n141)) 12) then
                E.lp (fun ds157 =>
                  (opI (A.cell ds157 0) IntKind.i64).bind fun n158 =>
                  (opI (A.cell ds157 1) IntKind.i64).bind fun n159 =>
                  (opI (A.cell ds157 2) IntKind.i64).bind fun n160 =>
                  (opL (A.cell ds157 3) 4).bind fun l161 =>
                  (opI (A.cell ds157 4) IntKind.i64).bind fun n162 =>
                  (opI (A.cell ds157 5) IntKind.i64).bind fun n163 =>
                  (opI (A.cell ds157 6) IntKind.i64).bind fun n164 =>
                  (opI (A.cell ds157 7) IntKind.i64).bind fun n165 =>
                  (opI (A.cell ds157 8) IntKind.i64).bind fun n166 =>
                  (opL (A.cell ds157 9) 1).bind fun l167 =>
                  (opL (A.cell ds157 10) 1).bind fun l168 =>
                  (opL (A.cell ds157 11) 1).bind fun l169 =>
                  (opL (A.cell ds157 12) 1).bind fun l170 =>
                  (opL (A.cell ds157 13) 1).bind fun l171 =>
                  bif (A.ilt n160 n159) then
                    E.lp (fun ds172 =>
                      (opI (A.cell ds172 0) IntKind.i64).bind fun n173 =>
                      (opI (A.cell ds172 1) IntKind.i64).bind fun n174 =>
                      (opI (A.cell ds172 2) IntKind.i64).bind fun n175 =>
                      (opI (A.cell ds172 3) IntKind.i64).bind fun n176 =>
                      (opL (A.cell ds172 4) 4).bind fun l177 =>
                      (opI (A.cell ds172 5) IntKind.i64).bind fun n178 =>
                      (opI (A.cell ds172 6) IntKind.i64).bind fun n179 =>
                      (opI (A.cell ds172 7) IntKind.i64).bind fun n180 =>
                      (opI (A.cell ds172 8) IntKind.i64).bind fun n181 =>
                      (opI (A.cell ds172 9) IntKind.i64).bind fun n182 =>
                      (opL (A.cell ds172 10) 1).bind fun l183 =>
                      (opL (A.cell ds172 11) 1).bind fun l184 =>
                      (opL (A.cell ds172 12) 1).bind fun l185 =>
                      (opL (A.cell ds172 13) 1).bind fun l186 =>
                      (opL (A.cell ds172 14) 1).bind fun l187 =>
                      bif (A.ilt n173 n176) then
                        bif (A.inr n176 (A.rlen l186)) then
                          (opI (A.cell (A.rown l186 (A.nat n176)) 0) IntKind.i64).bind fun n188 =>
                          bif (A.inr (A.wrap IntKind.i64 (A.sub n176 1)) (A.rlen l186)) then
                            (opI (A.cell (A.rown l186 (A.nat (A.wrap IntKind.i64 (A.sub n176 1)))) 0) IntKind.i64).bind fun n189 =>
                            (E.call 125 [(V.d (D.int IntKind.i64 n188)), (V.d (D.int IntKind.i64 n189))]).bind fun p190 =>
                            (opB (A.cell p190.leaves 0)).bind fun b192 =>
                            bif b192 then
                              bif (A.inr (A.wrap IntKind.i64 (A.sub n176 1)) (A.rlen l186)) then
                                (opI (A.cell (A.rown l186 (A.nat (A.wrap IntKind.i64 (A.sub n176 1)))) 0) IntKind.i64).bind fun n193 =>
                                bif (A.inr n176 (A.rlen l186)) then
                                  (opI (A.cell (A.rown l186 (A.nat n176)) 0) IntKind.i64).bind fun n194 =>
                                  bif (A.inr n176 (A.rlen l186)) then
                                    bif (A.inrn (A.nat n176) l186) then
                                      bif (A.inr (A.wrap IntKind.i64 (A.sub n176 1)) (A.rlen (A.rput l186 (A.nat n176) 0 [(D.int IntKind.i64 n193)]))) then
                                        bif (A.inrn (A.nat (A.wrap IntKind.i64 (A.sub n176 1))) (A.rput l186 (A.nat n176) 0 [(D.int IntKind.i64 n193)])) then
                                          some (.inl [(D.int IntKind.i64 n173), (D.int IntKind.i64 n174), (D.int IntKind.i64 n175), (D.int IntKind.i64 (A.wrap IntKind.i64 (A.sub n176 1))), (D.sl 4 l177), (D.int IntKind.i64 n178), (D.int IntKind.i64 n179), (D.int IntKind.i64 n180), (D.int IntKind.i64 n181), (D.int IntKind.i64 n182), (D.sl 1 l183), (D.sl 1 l184), (D.sl 1 l185), (D.sl 1 (A.rput (A.rput l186 (A.nat n176) 0 [(D.int IntKind.i64 n193)]) (A.nat (A.wrap IntKind.i64 (A.sub n176 1))) 0 [(D.int IntKind.i64 n194)])), (D.sl 1 l187)])
                                        else
                                          none
                                      else
                                        none
                                    else
                                      none
                                  else
                                    none
                                else
                                  none
                              else
                                none
                            else
                              some (.inr (.inl [(D.int IntKind.i64 n173), (D.int IntKind.i64 n174), (D.int IntKind.i64 (A.wrap IntKind.i64 (A.add n175 1))), (D.sl 4 l177), (D.int IntKind.i64 n178), (D.int IntKind.i64 n179), (D.int IntKind.i64 n180), (D.int IntKind.i64 n181), (D.int IntKind.i64 n182), (D.sl 1 l183), (D.sl 1 l184), (D.sl 1 l185), (D.sl 1 l186), (D.sl 1 l187)]))
                          else
                            none
                        else
                          none
                      else
                        some (.inr (.inl [(D.int IntKind.i64 n173), (D.int IntKind.i64 n174), (D.int IntKind.i64 (A.wrap IntKind.i64 (A.add n175 1))), (D.sl 4 l177), (D.int IntKind.i64 n178), (D.int IntKind.i64 n179), (D.int IntKind.i64 n180), (D.int IntKind.i64 n181), (D.int IntKind.i64 n182), (D.sl 1 l183), (D.sl 1 l184), (D.sl 1 l185), (D.sl 1 l186), (D.sl 1 l187)]))
                    ) [(D.int IntKind.i64 n158), (D.int IntKind.i64 n159), (D.int IntKind.i64 n160), (D.int IntKind.i64 n160), (D.sl 4 l161), (D.int IntKind.i64 n162), (D.int IntKind.i64 n163), (D.int IntKind.i64 n164), (D.int IntKind.i64 n165), (D.int IntKind.i64 n166), (D.sl 1 l167), (D.sl 1 l168), (D.sl 1 l169), (D.sl 1 l170), (D.sl 1 l171)]
                  else
                    bif (A.ilt (A.rlen l170) 2) then
                      some (.inr (.inr (.inr (PRes.own 3 1 l170))))
                    else
                      E.lp (fun ds195 =>
                        (opI (A.cell ds195 0) IntKind.i64).bind fun n196 =>
                        (opL (A.cell ds195 1) 4).bind fun l197 =>
                        (opI (A.cell ds195 2) IntKind.i64).bind fun n198 =>
                        (opI (A.cell ds195 3) IntKind.i64).bind fun n199 =>
                        (opI (A.cell ds195 4) IntKind.i64).bind fun n200 =>
                        (opI (A.cell ds195 5) IntKind.i64).bind fun n201 =>
                        (opI (A.cell ds195 6) IntKind.i64).bind fun n202 =>
                        (opL (A.cell ds195 7) 1).bind fun l203 =>
                        (opL (A.cell ds195 8) 1).bind fun l204 =>
                        (opL (A.cell ds195 9) 1).bind fun l205 =>
                        (opL (A.cell ds195 10) 1).bind fun l206 =>
                        (opL (A.cell ds195 11) 1).bind fun l207 =>
                        bif (A.ilt n196 (A.rlen l206)) then
                          bif (A.inr n196 (A.rlen l206)) then
                            (opI (A.cell (A.rown l206 (A.nat n196)) 0) IntKind.i64).bind fun n208 =>
                            bif (A.inr (A.wrap IntKind.i64 (A.sub n196 1)) (A.rlen l206)) then
                              (opI (A.cell (A.rown l206 (A.nat (A.wrap IntKind.i64 (A.sub n196 1)))) 0) IntKind.i64).bind fun n209 =>
                              bif (A.ieq n208 n209) then
                                bif (A.cutok n196 (A.rlen l206) (A.rlen l206)) then
                                  E.lp (fun ds210 =>
                                    (opI (A.cell ds210 0) IntKind.i64).bind fun n211 =>
                                    (opI (A.cell ds210 1) IntKind.i64).bind fun n212 =>
                                    (opI (A.cell ds210 2) IntKind.i64).bind fun n213 =>
                                    (opI (A.cell ds210 3) IntKind.i64).bind fun n214 =>
                                    (opL (A.cell ds210 4) 4).bind fun l215 =>
                                    (opI (A.cell ds210 5) IntKind.i64).bind fun n216 =>
                                    (opI (A.cell ds210 6) IntKind.i64).bind fun n217 =>
                                    (opI (A.cell ds210 7) IntKind.i64).bind fun n218 =>
                                    (opI (A.cell ds210 8) IntKind.i64).bind fun n219 =>
                                    (opI (A.cell ds210 9) IntKind.i64).bind fun n220 =>
                                    (opL (A.cell ds210 10) 1).bind fun l221 =>
                                    (opL (A.cell ds210 11) 1).bind fun l222 =>
                                    (opL (A.cell ds210 12) 1).bind fun l223 =>
                                    (opL (A.cell ds210 13) 1).bind fun l224 =>
                                    (opL (A.cell ds210 14) 1).bind fun l225 =>
                                    bif (A.ilt n214 n213) then
                                      bif (A.inr n214 n213) then
                                        (opI (A.cell (A.rown l224 (A.nat (A.add n212 n214))) 0) IntKind.i64).bind fun n226 =>
                                        bif (A.inr (A.wrap IntKind.i64 (A.sub n214 1)) n213) then
                                          (opI (A.cell (A.rown l224 (A.nat (A.add n212 (A.wrap IntKind.i64 (A.sub n214 1))))) 0) IntKind.i64).bind fun n227 =>
                                          bif (A.bnot (A.ieq n226 n227)) then
                                            bif (A.inr n214 n213) then
                                              (opI (A.cell (A.rown l224 (A.nat (A.add n212 n214))) 0) IntKind.i64).bind fun n228 =>
                                              bif (A.inr n211 (A.rlen l224)) then
                                                bif (A.inrn (A.nat n211) l224) then
                                                  some (.inl [(D.int IntKind.i64 (A.wrap IntKind.i64 (A.add n211 1))), (D.int IntKind.i64 n212), (D.int IntKind.i64 n213), (D.int IntKind.i64 (A.wrap IntKind.i64 (A.add n214 1))), (D.sl 4 l215), (D.int IntKind.i64 n216), (D.int IntKind.i64 n217), (D.int IntKind.i64 n218), (D.int IntKind.i64 n219), (D.int IntKind.i64 n220), (D.sl 1 l221), (D.sl 1 l222), (D.sl 1 l223), (D.sl 1 (A.rput l224 (A.nat n211) 0 [(D.int IntKind.i64 n228)])), (D.sl 1 l225)])
                                                else
                                                  none
                                              else
                                                none
                                            else
                                              none
                                          else
                                            some (.inl [(D.int IntKind.i64 n211), (D.int IntKind.i64 n212), (D.int IntKind.i64 n213), (D.int IntKind.i64 (A.wrap IntKind.i64 (A.add n214 1))), (D.sl 4 l215), (D.int IntKind.i64 n216), (D.int IntKind.i64 n217), (D.int IntKind.i64 n218), (D.int IntKind.i64 n219), (D.int IntKind.i64 n220), (D.sl 1 l221), (D.sl 1 l222), (D.sl 1 l223), (D.sl 1 l224), (D.sl 1 l225)])
                                        else
                                          none
                                      else
                                        none
                                    else
                                      bif (A.cutok n211 (A.rlen l224) (A.rlen l224)) then
                                        bif (A.cutok n211 (A.add n211 (A.sub (A.rlen l224) n211)) (A.rlen l224)) then
                                          bif (A.cutok 0 n211 (A.rlen (A.rcopy l224 n211 (A.sub (A.rlen l224) n211) (A.rep (A.sub (A.rlen l224) n211) [(D.int IntKind.i64 0)])))) then
                                            some (.inr (.inr (.inr (.inr (.inr (PRes.own 3 1 (A.head (A.rcopy l224 n211 (A.sub (A.rlen l224) n211) (A.rep (A.sub (A.rlen l224) n211) [(D.int IntKind.i64 0)])) n211)))))))
                                          else
                                            none
                                        else
                                          none
                                      else
                                        none
                                  ) [(D.int IntKind.i64 n196), (D.int IntKind.i64 n196), (D.int IntKind.i64 (A.sub (A.rlen l206) n196)), (D.int IntKind.i64 1), (D.sl 4 l197), (D.int IntKind.i64 n198), (D.int IntKind.i64 n199), (D.int IntKind.i64 n200), (D.int IntKind.i64 n201), (D.int IntKind.i64 n202), (D.sl 1 l203), (D.sl 1 l204), (D.sl 1 l205), (D.sl 1 l206), (D.sl 1 l207)]
                                else
                                  none
                              else
                                some (.inl [(D.int IntKind.i64 (A.wrap IntKind.i64 (A.add n196 1))), (D.sl 4 l197), (D.int IntKind.i64 n198), (D.int IntKind.i64 n199), (D.int IntKind.i64 n200), (D.int IntKind.i64 n201), (D.int IntKind.i64 n202), (D.sl 1 l203), (D.sl 1 l204), (D.sl 1 l205), (D.sl 1 l206), (D.sl 1 l207)])
                            else
                              none
                          else
                            none
                        else
                          some (.inr (.inr (.inr (.inr (PRes.own 3 1 l206)))))
                      ) [(D.int IntKind.i64 1), (D.sl 4 l161), (D.int IntKind.i64 n162), (D.int IntKind.i64 n163), (D.int IntKind.i64 n164), (D.int IntKind.i64 n165), (D.int IntKind.i64 n166), (D.sl 1 l167), (D.sl 1 l168), (D.sl 1 l169), (D.sl 1 l170), (D.sl 1 l171)]
                ) [(D.int IntKind.i64 n141), (D.int IntKind.i64 n142), (D.int IntKind.i64 (A.wrap IntKind.i64 (A.add n141 1))), (D.sl 4 l146), (D.int IntKind.i64 n147), (D.int IntKind.i64 n148), (D.int IntKind.i64 n149), (D.int IntKind.i64 n150), (D.int IntKind.i64 n151), (D.sl 1 l152), (D.sl 1 l153), (D.sl 1 l154), (D.sl 1 l155), (D.sl 1 l156)]
              else
                bif (A.ieq n143 0) then
                  none
                else
                  bif (A.bnot b144) then
                    none
                  else
                    none
            ) [(D.int IntKind.i64 0), (D.int IntKind.i64 (A.rlen l42)), (D.int IntKind.i64 n139), (D.bool true), (D.bool true), (D.sl 4 l33), (D.int IntKind.i64 n34), (D.int IntKind.i64 n35), (D.int IntKind.i64 n36), (D.int IntKind.i64 n37), (D.int IntKind.i64 n38), (D.sl 1 l39), (D.sl 1 l40), (D.sl 1 l41), (D.sl 1 l42), (D.sl 1 l43)]
        ) [(D.int IntKind.i64 (A.rlen l26)), (D.int IntKind.i64 0), (D.sl 4 l20), (D.int IntKind.i64 n21), (D.int IntKind.i64 n22), (D.int IntKind.i64 n23), (D.int IntKind.i64 n24), (D.int IntKind.i64 n25), (D.sl 1 l26), (D.sl 1 []), (D.sl 1 []), (D.sl 1 []), (D.sl 1 [])]
      else
        E.lp (fun ds229 =>
          (opI (A.cell ds229 0) IntKind.i64).bind fun n230 =>
          (opI (A.cell ds229 1) IntKind.i64).bind fun n231 =>
          (opL (A.cell ds229 2) 4).bind fun l232 =>
          (opI (A.cell ds229 3) IntKind.i64).bind fun n233 =>
          (opI (A.cell ds229 4) IntKind.i64).bind fun n234 =>
          (opI (A.cell ds229 5) IntKind.i64).bind fun n235 =>
          (opI (A.cell ds229 6) IntKind.i64).bind fun n236 =>
          (opI (A.cell ds229 7) IntKind.i64).bind fun n237 =>
          (opL (A.cell ds229 8) 1).bind fun l238 =>
          bif (A.ilt n231 (A.rlen l238)) then
            bif (A.inr n231 (A.rlen l238)) then
              (opI (A.cell (A.rown l238 (A.nat n231)) 0) IntKind.i64).bind fun n239 =>
              (E.call 44 [(V.d (D.int IntKind.i64 n239)), (V.pel [(D.int IntKind.i64 n233)]), (V.pel [(D.sl 4 l232)])]).bind fun p240 =>
              (opB (A.cell p240.leaves 0)).bind fun b242 =>
              bif (A.bnot b242) then
                bif (A.inr n230 (A.rlen l238)) then
                  bif (A.inrn (A.nat n230) l238) then
                    some (.inl [(D.int IntKind.i64 (A.wrap IntKind.i64 (A.add n230 1))), (D.int IntKind.i64 (A.wrap IntKind.i64 (A.add n231 1))), (D.sl 4 l232), (D.int IntKind.i64 n233), (D.int IntKind.i64 n234), (D.int IntKind.i64 n235), (D.int IntKind.i64 n236), (D.int IntKind.i64 n237), (D.sl 1 (A.rput l238 (A.nat n230) 0 [(D.int IntKind.i64 n239)]))])
                  else
                    none
                else
                  none
              else
                some (.inl [(D.int IntKind.i64 n230), (D.int IntKind.i64 (A.wrap IntKind.i64 (A.add n231 1))), (D.sl 4 l232), (D.int IntKind.i64 n233), (D.int IntKind.i64 n234), (D.int IntKind.i64 n235), (D.int IntKind.i64 n236), (D.int IntKind.i64 n237), (D.sl 1 l238)])
            else
              none
          else
            bif (A.cutok n230 (A.rlen l238) (A.rlen l238)) then
              bif (A.cutok n230 (A.add n230 (A.sub (A.rlen l238) n230)) (A.rlen l238)) then
                bif (A.cutok 0 n230 (A.rlen (A.rcopy l238 n230 (A.sub (A.rlen l238) n230) (A.rep (A.sub (A.rlen l238) n230) [(D.int IntKind.i64 0)])))) then
                  E.lp (fun ds243 =>
                    (opI (A.cell ds243 0) IntKind.i64).bind fun n244 =>
                    (opI (A.cell ds243 1) IntKind.i64).bind fun n245 =>
                    (opL (A.cell ds243 2) 4).bind fun l246 =>
                    (opI (A.cell ds243 3) IntKind.i64).bind fun n247 =>
                    (opI (A.cell ds243 4) IntKind.i64).bind fun n248 =>
                    (opI (A.cell ds243 5) IntKind.i64).bind fun n249 =>
                    (opI (A.cell ds243 6) IntKind.i64).bind fun n250 =>
                    (opI (A.cell ds243 7) IntKind.i64).bind fun n251 =>
                    (opL (A.cell ds243 8) 1).bind fun l252 =>
                    (opL (A.cell ds243 9) 1).bind fun l253 =>
                    (opL (A.cell ds243 10) 1).bind fun l254 =>
                    (opL (A.cell ds243 11) 1).bind fun l255 =>
                    (opL (A.cell ds243 12) 1).bind fun l256 =>
                    bif (A.ilt n245 n244) then
                      bif (A.inr n245 (A.rlen l252)) then
                        (opI (A.cell (A.rown l252 (A.nat n245)) 0) IntKind.i64).bind fun n257 =>
                        bif (A.fits l255 [[(D.int IntKind.i64 n257)]] 8) then
                          bif (A.bnot true) then
                            (E.call 106 [(V.d (D.int IntKind.u64 (A.wrap IntKind.u64 (A.rlen (A.rapp l255 [[(D.int IntKind.i64 n257)]])))))]).bind fun p258 =>
                            (opI (A.cell p258.leaves 0) IntKind.i64).bind fun n260 =>
                            E.lp (fun ds261 =>
                              (opI (A.cell ds261 0) IntKind.i64).bind fun n262 =>
                              (opI (A.cell ds261 1) IntKind.i64).bind fun n263 =>
                              (opI (A.cell ds261 2) IntKind.i64).bind fun n264 =>
                              (opB (A.cell ds261 3)).bind fun b265 =>
                              (opB (A.cell ds261 4)).bind fun b266 =>
                              (opL (A.cell ds261 5) 4).bind fun l267 =>
                              (opI (A.cell ds261 6) IntKind.i64).bind fun n268 =>
                              (opI (A.cell ds261 7) IntKind.i64).bind fun n269 =>
                              (opI (A.cell ds261 8) IntKind.i64).bind fun n270 =>
                              (opI (A.cell ds261 9) IntKind.i64).bind fun n271 =>
                              (opI (A.cell ds261 10) IntKind.i64).bind fun n272 =>
                              (opL (A.cell ds261 11) 1).bind fun l273 =>
                              (opL (A.cell ds261 12) 1).bind fun l274 =>
                              (opL (A.cell ds261 13) 1).bind fun l275 =>
                              (opL (A.cell ds261 14) 1).bind fun l276 =>
                              (opL (A.cell ds261 15) 1).bind fun l277 =>
                              bif (A.ile (A.wrap IntKind.i64 (A.sub n263 n262)) 12) then
                                E.lp (fun ds278 =>
                                  (opI (A.cell ds278 0) IntKind.i64).bind fun n279 =>
                                  (opI (A.cell ds278 1) IntKind.i64).bind fun n280 =>
                                  (opI (A.cell ds278 2) IntKind.i64).bind fun n281 =>
                                  (opL (A.cell ds278 3) 4).bind fun l282 =>
                                  (opI (A.cell ds278 4) IntKind.i64).bind fun n283 =>
                                  (opI (A.cell ds278 5) IntKind.i64).bind fun n284 =>
                                  (opI (A.cell ds278 6) IntKind.i64).bind fun n285 =>
                                  (opI (A.cell ds278 7) IntKind.i64).bind fun n286 =>
                                  (opI (A.cell ds278 8) IntKind.i64).bind fun n287 =>
                                  (opL (A.cell ds278 9) 1).bind fun l288 =>
                                  (opL (A.cell ds278 10) 1).bind fun l289 =>
                                  (opL (A.cell ds278 11) 1).bind fun l290 =>
                                  (opL (A.cell ds278 12) 1).bind fun l291 =>
                                  (opL (A.cell ds278 13) 1).bind fun l292 =>
                                  bif (A.ilt n281 n280) then
                                    E.lp (fun ds293 =>
                                      (opI (A.cell ds293 0) IntKind.i64).bind fun n294 =>
                                      (opI (A.cell ds293 1) IntKind.i64).bind fun n295 =>
                                      (opI (A.cell ds293 2) IntKind.i64).bind fun n296 =>
                                      (opI (A.cell ds293 3) IntKind.i64).bind fun n297 =>
                                      (opL (A.cell ds293 4) 4).bind fun l298 =>
                                      (opI (A.cell ds293 5) IntKind.i64).bind fun n299 =>
                                      (opI (A.cell ds293 6) IntKind.i64).bind fun n300 =>
                                      (opI (A.cell ds293 7) IntKind.i64).bind fun n301 =>
                                      (opI (A.cell ds293 8) IntKind.i64).bind fun n302 =>
                                      (opI (A.cell ds293 9) IntKind.i64).bind fun n303 =>
                                      (opL (A.cell ds293 10) 1).bind fun l304 =>
                                      (opL (A.cell ds293 11) 1).bind fun l305 =>
                                      (opL (A.cell ds293 12) 1).bind fun l306 =>
                                      (opL (A.cell ds293 13) 1).bind fun l307 =>
                                      (opL (A.cell ds293 14) 1).bind fun l308 =>
                                      bif (A.ilt n294 n297) then
                                        bif (A.inr n297 (A.rlen l307)) then
                                          (opI (A.cell (A.rown l307 (A.nat n297)) 0) IntKind.i64).bind fun n309 =>
                                          bif (A.inr (A.wrap IntKind.i64 (A.sub n297 1)) (A.rlen l307)) then
                                            (opI (A.cell (A.rown l307 (A.nat (A.wrap IntKind.i64 (A.sub n297 1)))) 0) IntKind.i64).bind fun n310 =>
                                            (E.call 125 [(V.d (D.int IntKind.i64 n309)), (V.d (D.int IntKind.i64 n310))]).bind fun p311 =>
                                            (opB (A.cell p311.leaves 0)).bind fun b313 =>
                                            bif b313 then
                                              bif (A.inr (A.wrap IntKind.i64 (A.sub n297 1)) (A.rlen l307)) then
                                                (opI (A.cell (A.rown l307 (A.nat (A.wrap IntKind.i64 (A.sub n297 1)))) 0) IntKind.i64).bind fun n314 =>
                                                bif (A.inr n297 (A.rlen l307)) then
                                                  (opI (A.cell (A.rown l307 (A.nat n297)) 0) IntKind.i64).bind fun n315 =>
                                                  bif (A.inr n297 (A.rlen l307)) then
                                                    bif (A.inrn (A.nat n297) l307) then
                                                      bif (A.inr (A.wrap IntKind.i64 (A.sub n297 1)) (A.rlen (A.rput l307 (A.nat n297) 0 [(D.int IntKind.i64 n314)]))) then
                                                        bif (A.inrn (A.nat (A.wrap IntKind.i64 (A.sub n297 1))) (A.rput l307 (A.nat n297) 0 [(D.int IntKind.i64 n314)])) then
                                                          some (.inl [(D.int IntKind.i64 n294), (D.int IntKind.i64 n295), (D.int IntKind.i64 n296), (D.int IntKind.i64 (A.wrap IntKind.i64 (A.sub n297 1))), (D.sl 4 l298), (D.int IntKind.i64 n299), (D.int IntKind.i64 n300), (D.int IntKind.i64 n301), (D.int IntKind.i64 n302), (D.int IntKind.i64 n303), (D.sl 1 l304), (D.sl 1 l305), (D.sl 1 l306), (D.sl 1 (A.rput (A.rput l307 (A.nat n297) 0 [(D.int IntKind.i64 n314)]) (A.nat (A.wrap IntKind.i64 (A.sub n297 1))) 0 [(D.int IntKind.i64 n315)])), (D.sl 1 l308)])
                                                        else
                                                          none
                                                      else
                                                        none
                                                    else
                                                      none
                                                  else
                                                    none
                                                else
                                                  none
                                              else
                                                none
                                            else
                                              some (.inr (.inl [(D.int IntKind.i64 n294), (D.int IntKind.i64 n295), (D.int IntKind.i64 (A.wrap IntKind.i64 (A.add n296 1))), (D.sl 4 l298), (D.int IntKind.i64 n299), (D.int IntKind.i64 n300), (D.int IntKind.i64 n301), (D.int IntKind.i64 n302), (D.int IntKind.i64 n303), (D.sl 1 l304), (D.sl 1 l305), (D.sl 1 l306), (D.sl 1 l307), (D.sl 1 l308)]))
                                          else
                                            none
                                        else
                                          none
                                      else
                                        some (.inr (.inl [(D.int IntKind.i64 n294), (D.int IntKind.i64 n295), (D.int IntKind.i64 (A.wrap IntKind.i64 (A.add n296 1))), (D.sl 4 l298), (D.int IntKind.i64 n299), (D.int IntKind.i64 n300), (D.int IntKind.i64 n301), (D.int IntKind.i64 n302), (D.int IntKind.i64 n303), (D.sl 1 l304), (D.sl 1 l305), (D.sl 1 l306), (D.sl 1 l307), (D.sl 1 l308)]))
                                    ) [(D.int IntKind.i64 n279), (D.int IntKind.i64 n280), (D.int IntKind.i64 n281), (D.int IntKind.i64 n281), (D.sl 4 l282), (D.int IntKind.i64 n283), (D.int IntKind.i64 n284), (D.int IntKind.i64 n285), (D.int IntKind.i64 n286), (D.int IntKind.i64 n287), (D.sl 1 l288), (D.sl 1 l289), (D.sl 1 l290), (D.sl 1 l291), (D.sl 1 l292)]
                                  else
                                    bif (A.ilt (A.rlen l291) 2) then
                                      some (.inr (.inr (.inr (.inr (PRes.own 3 1 l291)))))
                                    else
                                      E.lp (fun ds316 =>
                                        (opI (A.cell ds316 0) IntKind.i64).bind fun n317 =>
                                        (opL (A.cell ds316 1) 4).bind fun l318 =>
                                        (opI (A.cell ds316 2) IntKind.i64).bind fun n319 =>
                                        (opI (A.cell ds316 3) IntKind.i64).bind fun n320 =>
                                        (opI (A.cell ds316 4) IntKind.i64).bind fun n321 =>
                                        (opI (A.cell ds316 5) IntKind.i64).bind fun n322 =>
                                        (opI (A.cell ds316 6) IntKind.i64).bind fun n323 =>
                                        (opL (A.cell ds316 7) 1).bind fun l324 =>
                                        (opL (A.cell ds316 8) 1).bind fun l325 =>
                                        (opL (A.cell ds316 9) 1).bind fun l326 =>
                                        (opL (A.cell ds316 10) 1).bind fun l327 =>
                                        (opL (A.cell ds316 11) 1).bind fun l328 =>
                                        bif (A.ilt n317 (A.rlen l327)) then
                                          bif (A.inr n317 (A.rlen l327)) then
                                            (opI (A.cell (A.rown l327 (A.nat n317)) 0) IntKind.i64).bind fun n329 =>
                                            bif (A.inr (A.wrap IntKind.i64 (A.sub n317 1)) (A.rlen l327)) then
                                              (opI (A.cell (A.rown l327 (A.nat (A.wrap IntKind.i64 (A.sub n317 1)))) 0) IntKind.i64).bind fun n330 =>
                                              bif (A.ieq n329 n330) then
                                                bif (A.cutok n317 (A.rlen l327) (A.rlen l327)) then
                                                  E.lp (fun ds331 =>
                                                    (opI (A.cell ds331 0) IntKind.i64).bind fun n332 =>
                                                    (opI (A.cell ds331 1) IntKind.i64).bind fun n333 =>
                                                    (opI (A.cell ds331 2) IntKind.i64).bind fun n334 =>
                                                    (opI (A.cell ds331 3) IntKind.i64).bind fun n335 =>
                                                    (opL (A.cell ds331 4) 4).bind fun l336 =>
                                                    (opI (A.cell ds331 5) IntKind.i64).bind fun n337 =>
                                                    (opI (A.cell ds331 6) IntKind.i64).bind fun n338 =>
                                                    (opI (A.cell ds331 7) IntKind.i64).bind fun n339 =>
                                                    (opI (A.cell ds331 8) IntKind.i64).bind fun n340 =>
                                                    (opI (A.cell ds331 9) IntKind.i64).bind fun n341 =>
                                                    (opL (A.cell ds331 10) 1).bind fun l342 =>
                                                    (opL (A.cell ds331 11) 1).bind fun l343 =>
                                                    (opL (A.cell ds331 12) 1).bind fun l344 =>
                                                    (opL (A.cell ds331 13) 1).bind fun l345 =>
                                                    (opL (A.cell ds331 14) 1).bind fun l346 =>
                                                    bif (A.ilt n335 n334) then
                                                      bif (A.inr n335 n334) then
                                                        (opI (A.cell (A.rown l345 (A.nat (A.add n333 n335))) 0) IntKind.i64).bind fun n347 =>
                                                        bif (A.inr (A.wrap IntKind.i64 (A.sub n335 1)) n334) then
                                                          (opI (A.cell (A.rown l345 (A.nat (A.add n333 (A.wrap IntKind.i64 (A.sub n335 1))))) 0) IntKind.i64).bind fun n348 =>
                                                          bif (A.bnot (A.ieq n347 n348)) then
                                                            bif (A.inr n335 n334) then
                                                              (opI (A.cell (A.rown l345 (A.nat (A.add n333 n335))) 0) IntKind.i64).bind fun n349 =>
                                                              bif (A.inr n332 (A.rlen l345)) then
                                                                bif (A.inrn (A.nat n332) l345) then
                                                                  some (.inl [(D.int IntKind.i64 (A.wrap IntKind.i64 (A.add n332 1))), (D.int IntKind.i64 n333), (D.int IntKind.i64 n334), (D.int IntKind.i64 (A.wrap IntKind.i64 (A.add n335 1))), (D.sl 4 l336), (D.int IntKind.i64 n337), (D.int IntKind.i64 n338), (D.int IntKind.i64 n339), (D.int IntKind.i64 n340), (D.int IntKind.i64 n341), (D.sl 1 l342), (D.sl 1 l343), (D.sl 1 l344), (D.sl 1 (A.rput l345 (A.nat n332) 0 [(D.int IntKind.i64 n349)])), (D.sl 1 l346)])
                                                                else
                                                                  none
                                                              else
                                                                none
                                                            else
                                                              none
                                                          else
                                                            some (.inl [(D.int IntKind.i64 n332), (D.int IntKind.i64 n333), (D.int IntKind.i64 n334), (D.int IntKind.i64 (A.wrap IntKind.i64 (A.add n335 1))), (D.sl 4 l336), (D.int IntKind.i64 n337), (D.int IntKind.i64 n338), (D.int IntKind.i64 n339), (D.int IntKind.i64 n340), (D.int IntKind.i64 n341), (D.sl 1 l342), (D.sl 1 l343), (D.sl 1 l344), (D.sl 1 l345), (D.sl 1 l346)])
                                                        else
                                                          none
                                                      else
                                                        none
                                                    else
                                                      bif (A.cutok n332 (A.rlen l345) (A.rlen l345)) then
                                                        bif (A.cutok n332 (A.add n332 (A.sub (A.rlen l345) n332)) (A.rlen l345)) then
                                                          bif (A.cutok 0 n332 (A.rlen (A.rcopy l345 n332 (A.sub (A.rlen l345) n332) (A.rep (A.sub (A.rlen l345) n332) [(D.int IntKind.i64 0)])))) then
                                                            some (.inr (.inr (.inr (.inr (.inr (.inr (PRes.own 3 1 (A.head (A.rcopy l345 n332 (A.sub (A.rlen l345) n332) (A.rep (A.sub (A.rlen l345) n332) [(D.int IntKind.i64 0)])) n332))))))))
                                                          else
                                                            none
                                                        else
                                                          none
                                                      else
                                                        none
                                                  ) [(D.int IntKind.i64 n317), (D.int IntKind.i64 n317), (D.int IntKind.i64 (A.sub (A.rlen l327) n317)), (D.int IntKind.i64 1), (D.sl 4 l318), (D.int IntKind.i64 n319), (D.int IntKind.i64 n320), (D.int IntKind.i64 n321), (D.int IntKind.i64 n322), (D.int IntKind.i64 n323), (D.sl 1 l324), (D.sl 1 l325), (D.sl 1 l326), (D.sl 1 l327), (D.sl 1 l328)]
                                                else
                                                  none
                                              else
                                                some (.inl [(D.int IntKind.i64 (A.wrap IntKind.i64 (A.add n317 1))), (D.sl 4 l318), (D.int IntKind.i64 n319), (D.int IntKind.i64 n320), (D.int IntKind.i64 n321), (D.int IntKind.i64 n322), (D.int IntKind.i64 n323), (D.sl 1 l324), (D.sl 1 l325), (D.sl 1 l326), (D.sl 1 l327), (D.sl 1 l328)])
                                            else
                                              none
                                          else
                                            none
                                        else
                                          some (.inr (.inr (.inr (.inr (.inr (PRes.own 3 1 l327))))))
                                      ) [(D.int IntKind.i64 1), (D.sl 4 l282), (D.int IntKind.i64 n283), (D.int IntKind.i64 n284), (D.int IntKind.i64 n285), (D.int IntKind.i64 n286), (D.int IntKind.i64 n287), (D.sl 1 l288), (D.sl 1 l289), (D.sl 1 l290), (D.sl 1 l291), (D.sl 1 l292)]
                                ) [(D.int IntKind.i64 n262), (D.int IntKind.i64 n263), (D.int IntKind.i64 (A.wrap IntKind.i64 (A.add n262 1))), (D.sl 4 l267), (D.int IntKind.i64 n268), (D.int IntKind.i64 n269), (D.int IntKind.i64 n270), (D.int IntKind.i64 n271), (D.int IntKind.i64 n272), (D.sl 1 l273), (D.sl 1 l274), (D.sl 1 l275), (D.sl 1 l276), (D.sl 1 l277)]
                              else
                                bif (A.ieq n264 0) then
                                  none
                                else
                                  bif (A.bnot b265) then
                                    none
                                  else
                                    none
                            ) [(D.int IntKind.i64 0), (D.int IntKind.i64 (A.rlen (A.rapp l255 [[(D.int IntKind.i64 n257)]]))), (D.int IntKind.i64 n260), (D.bool true), (D.bool true), (D.sl 4 l246), (D.int IntKind.i64 n247), (D.int IntKind.i64 n248), (D.int IntKind.i64 n249), (D.int IntKind.i64 n250), (D.int IntKind.i64 n251), (D.sl 1 l252), (D.sl 1 l253), (D.sl 1 l254), (D.sl 1 (A.rapp l255 [[(D.int IntKind.i64 n257)]])), (D.sl 1 l256)]
                          else
                            some (.inl [(D.int IntKind.i64 n244), (D.int IntKind.i64 (A.wrap IntKind.i64 (A.add n245 1))), (D.sl 4 l246), (D.int IntKind.i64 n247), (D.int IntKind.i64 n248), (D.int IntKind.i64 n249), (D.int IntKind.i64 n250), (D.int IntKind.i64 n251), (D.sl 1 l252), (D.sl 1 l253), (D.sl 1 l254), (D.sl 1 (A.rapp l255 [[(D.int IntKind.i64 n257)]])), (D.sl 1 l256)])
                        else
                          none
                      else
                        none
                    else
                      (E.call 106 [(V.d (D.int IntKind.u64 (A.wrap IntKind.u64 (A.rlen l255))))]).bind fun p350 =>
                      (opI (A.cell p350.leaves 0) IntKind.i64).bind fun n352 =>
                      E.lp (fun ds353 =>
                        (opI (A.cell ds353 0) IntKind.i64).bind fun n354 =>
                        (opI (A.cell ds353 1) IntKind.i64).bind fun n355 =>
                        (opI (A.cell ds353 2) IntKind.i64).bind fun n356 =>
                        (opB (A.cell ds353 3)).bind fun b357 =>
                        (opB (A.cell ds353 4)).bind fun b358 =>
                        (opL (A.cell ds353 5) 4).bind fun l359 =>
                        (opI (A.cell ds353 6) IntKind.i64).bind fun n360 =>
                        (opI (A.cell ds353 7) IntKind.i64).bind fun n361 =>
                        (opI (A.cell ds353 8) IntKind.i64).bind fun n362 =>
                        (opI (A.cell ds353 9) IntKind.i64).bind fun n363 =>
                        (opI (A.cell ds353 10) IntKind.i64).bind fun n364 =>
                        (opL (A.cell ds353 11) 1).bind fun l365 =>
                        (opL (A.cell ds353 12) 1).bind fun l366 =>
                        (opL (A.cell ds353 13) 1).bind fun l367 =>
                        (opL (A.cell ds353 14) 1).bind fun l368 =>
                        (opL (A.cell ds353 15) 1).bind fun l369 =>
                        bif (A.ile (A.wrap IntKind.i64 (A.sub n355 n354)) 12) then
                          E.lp (fun ds370 =>
                            (opI (A.cell ds370 0) IntKind.i64).bind fun n371 =>
                            (opI (A.cell ds370 1) IntKind.i64).bind fun n372 =>
                            (opI (A.cell ds370 2) IntKind.i64).bind fun n373 =>
                            (opL (A.cell ds370 3) 4).bind fun l374 =>
                            (opI (A.cell ds370 4) IntKind.i64).bind fun n375 =>
                            (opI (A.cell ds370 5) IntKind.i64).bind fun n376 =>
                            (opI (A.cell ds370 6) IntKind.i64).bind fun n377 =>
                            (opI (A.cell ds370 7) IntKind.i64).bind fun n378 =>
                            (opI (A.cell ds370 8) IntKind.i64).bind fun n379 =>
                            (opL (A.cell ds370 9) 1).bind fun l380 =>
                            (opL (A.cell ds370 10) 1).bind fun l381 =>
                            (opL (A.cell ds370 11) 1).bind fun l382 =>
                            (opL (A.cell ds370 12) 1).bind fun l383 =>
                            (opL (A.cell ds370 13) 1).bind fun l384 =>
                            bif (A.ilt n373 n372) then
                              E.lp (fun ds385 =>
                                (opI (A.cell ds385 0) IntKind.i64).bind fun n386 =>
                                (opI (A.cell ds385 1) IntKind.i64).bind fun n387 =>
                                (opI (A.cell ds385 2) IntKind.i64).bind fun n388 =>
                                (opI (A.cell ds385 3) IntKind.i64).bind fun n389 =>
                                (opL (A.cell ds385 4) 4).bind fun l390 =>
                                (opI (A.cell ds385 5) IntKind.i64).bind fun n391 =>
                                (opI (A.cell ds385 6) IntKind.i64).bind fun n392 =>
                                (opI (A.cell ds385 7) IntKind.i64).bind fun n393 =>
                                (opI (A.cell ds385 8) IntKind.i64).bind fun n394 =>
                                (opI (A.cell ds385 9) IntKind.i64).bind fun n395 =>
                                (opL (A.cell ds385 10) 1).bind fun l396 =>
                                (opL (A.cell ds385 11) 1).bind fun l397 =>
                                (opL (A.cell ds385 12) 1).bind fun l398 =>
                                (opL (A.cell ds385 13) 1).bind fun l399 =>
                                (opL (A.cell ds385 14) 1).bind fun l400 =>
                                bif (A.ilt n386 n389) then
                                  bif (A.inr n389 (A.rlen l399)) then
                                    (opI (A.cell (A.rown l399 (A.nat n389)) 0) IntKind.i64).bind fun n401 =>
                                    bif (A.inr (A.wrap IntKind.i64 (A.sub n389 1)) (A.rlen l399)) then
                                      (opI (A.cell (A.rown l399 (A.nat (A.wrap IntKind.i64 (A.sub n389 1)))) 0) IntKind.i64).bind fun n402 =>
                                      (E.call 125 [(V.d (D.int IntKind.i64 n401)), (V.d (D.int IntKind.i64 n402))]).bind fun p403 =>
                                      (opB (A.cell p403.leaves 0)).bind fun b405 =>
                                      bif b405 then
                                        bif (A.inr (A.wrap IntKind.i64 (A.sub n389 1)) (A.rlen l399)) then
                                          (opI (A.cell (A.rown l399 (A.nat (A.wrap IntKind.i64 (A.sub n389 1)))) 0) IntKind.i64).bind fun n406 =>
                                          bif (A.inr n389 (A.rlen l399)) then
                                            (opI (A.cell (A.rown l399 (A.nat n389)) 0) IntKind.i64).bind fun n407 =>
                                            bif (A.inr n389 (A.rlen l399)) then
                                              bif (A.inrn (A.nat n389) l399) then
                                                bif (A.inr (A.wrap IntKind.i64 (A.sub n389 1)) (A.rlen (A.rput l399 (A.nat n389) 0 [(D.int IntKind.i64 n406)]))) then
                                                  bif (A.inrn (A.nat (A.wrap IntKind.i64 (A.sub n389 1))) (A.rput l399 (A.nat n389) 0 [(D.int IntKind.i64 n406)])) then
                                                    some (.inl [(D.int IntKind.i64 n386), (D.int IntKind.i64 n387), (D.int IntKind.i64 n388), (D.int IntKind.i64 (A.wrap IntKind.i64 (A.sub n389 1))), (D.sl 4 l390), (D.int IntKind.i64 n391), (D.int IntKind.i64 n392), (D.int IntKind.i64 n393), (D.int IntKind.i64 n394), (D.int IntKind.i64 n395), (D.sl 1 l396), (D.sl 1 l397), (D.sl 1 l398), (D.sl 1 (A.rput (A.rput l399 (A.nat n389) 0 [(D.int IntKind.i64 n406)]) (A.nat (A.wrap IntKind.i64 (A.sub n389 1))) 0 [(D.int IntKind.i64 n407)])), (D.sl 1 l400)])
                                                  else
                                                    none
                                                else
                                                  none
                                              else
                                                none
                                            else
                                              none
                                          else
                                            none
                                        else
                                          none
                                      else
                                        some (.inr (.inl [(D.int IntKind.i64 n386), (D.int IntKind.i64 n387), (D.int IntKind.i64 (A.wrap IntKind.i64 (A.add n388 1))), (D.sl 4 l390), (D.int IntKind.i64 n391), (D.int IntKind.i64 n392), (D.int IntKind.i64 n393), (D.int IntKind.i64 n394), (D.int IntKind.i64 n395), (D.sl 1 l396), (D.sl 1 l397), (D.sl 1 l398), (D.sl 1 l399), (D.sl 1 l400)]))
                                    else
                                      none
                                  else
                                    none
                                else
                                  some (.inr (.inl [(D.int IntKind.i64 n386), (D.int IntKind.i64 n387), (D.int IntKind.i64 (A.wrap IntKind.i64 (A.add n388 1))), (D.sl 4 l390), (D.int IntKind.i64 n391), (D.int IntKind.i64 n392), (D.int IntKind.i64 n393), (D.int IntKind.i64 n394), (D.int IntKind.i64 n395), (D.sl 1 l396), (D.sl 1 l397), (D.sl 1 l398), (D.sl 1 l399), (D.sl 1 l400)]))
                              ) [(D.int IntKind.i64 n371), (D.int IntKind.i64 n372), (D.int IntKind.i64 n373), (D.int IntKind.i64 n373), (D.sl 4 l374), (D.int IntKind.i64 n375), (D.int IntKind.i64 n376), (D.int IntKind.i64 n377), (D.int IntKind.i64 n378), (D.int IntKind.i64 n379), (D.sl 1 l380), (D.sl 1 l381), (D.sl 1 l382), (D.sl 1 l383), (D.sl 1 l384)]
                            else
                              bif (A.ilt (A.rlen l383) 2) then
                                some (.inr (.inr (.inr (.inr (PRes.own 3 1 l383)))))
                              else
                                E.lp (fun ds408 =>
                                  (opI (A.cell ds408 0) IntKind.i64).bind fun n409 =>
                                  (opL (A.cell ds408 1) 4).bind fun l410 =>
                                  (opI (A.cell ds408 2) IntKind.i64).bind fun n411 =>
                                  (opI (A.cell ds408 3) IntKind.i64).bind fun n412 =>
                                  (opI (A.cell ds408 4) IntKind.i64).bind fun n413 =>
                                  (opI (A.cell ds408 5) IntKind.i64).bind fun n414 =>
                                  (opI (A.cell ds408 6) IntKind.i64).bind fun n415 =>
                                  (opL (A.cell ds408 7) 1).bind fun l416 =>
                                  (opL (A.cell ds408 8) 1).bind fun l417 =>
                                  (opL (A.cell ds408 9) 1).bind fun l418 =>
                                  (opL (A.cell ds408 10) 1).bind fun l419 =>
                                  (opL (A.cell ds408 11) 1).bind fun l420 =>
                                  bif (A.ilt n409 (A.rlen l419)) then
                                    bif (A.inr n409 (A.rlen l419)) then
                                      (opI (A.cell (A.rown l419 (A.nat n409)) 0) IntKind.i64).bind fun n421 =>
                                      bif (A.inr (A.wrap IntKind.i64 (A.sub n409 1)) (A.rlen l419)) then
                                        (opI (A.cell (A.rown l419 (A.nat (A.wrap IntKind.i64 (A.sub n409 1)))) 0) IntKind.i64).bind fun n422 =>
                                        bif (A.ieq n421 n422) then
                                          bif (A.cutok n409 (A.rlen l419) (A.rlen l419)) then
                                            E.lp (fun ds423 =>
                                              (opI (A.cell ds423 0) IntKind.i64).bind fun n424 =>
                                              (opI (A.cell ds423 1) IntKind.i64).bind fun n425 =>
                                              (opI (A.cell ds423 2) IntKind.i64).bind fun n426 =>
                                              (opI (A.cell ds423 3) IntKind.i64).bind fun n427 =>
                                              (opL (A.cell ds423 4) 4).bind fun l428 =>
                                              (opI (A.cell ds423 5) IntKind.i64).bind fun n429 =>
                                              (opI (A.cell ds423 6) IntKind.i64).bind fun n430 =>
                                              (opI (A.cell ds423 7) IntKind.i64).bind fun n431 =>
                                              (opI (A.cell ds423 8) IntKind.i64).bind fun n432 =>
                                              (opI (A.cell ds423 9) IntKind.i64).bind fun n433 =>
                                              (opL (A.cell ds423 10) 1).bind fun l434 =>
                                              (opL (A.cell ds423 11) 1).bind fun l435 =>
                                              (opL (A.cell ds423 12) 1).bind fun l436 =>
                                              (opL (A.cell ds423 13) 1).bind fun l437 =>
                                              (opL (A.cell ds423 14) 1).bind fun l438 =>
                                              bif (A.ilt n427 n426) then
                                                bif (A.inr n427 n426) then
                                                  (opI (A.cell (A.rown l437 (A.nat (A.add n425 n427))) 0) IntKind.i64).bind fun n439 =>
                                                  bif (A.inr (A.wrap IntKind.i64 (A.sub n427 1)) n426) then
                                                    (opI (A.cell (A.rown l437 (A.nat (A.add n425 (A.wrap IntKind.i64 (A.sub n427 1))))) 0) IntKind.i64).bind fun n440 =>
                                                    bif (A.bnot (A.ieq n439 n440)) then
                                                      bif (A.inr n427 n426) then
                                                        (opI (A.cell (A.rown l437 (A.nat (A.add n425 n427))) 0) IntKind.i64).bind fun n441 =>
                                                        bif (A.inr n424 (A.rlen l437)) then
                                                          bif (A.inrn (A.nat n424) l437) then
                                                            some (.inl [(D.int IntKind.i64 (A.wrap IntKind.i64 (A.add n424 1))), (D.int IntKind.i64 n425), (D.int IntKind.i64 n426), (D.int IntKind.i64 (A.wrap IntKind.i64 (A.add n427 1))), (D.sl 4 l428), (D.int IntKind.i64 n429), (D.int IntKind.i64 n430), (D.int IntKind.i64 n431), (D.int IntKind.i64 n432), (D.int IntKind.i64 n433), (D.sl 1 l434), (D.sl 1 l435), (D.sl 1 l436), (D.sl 1 (A.rput l437 (A.nat n424) 0 [(D.int IntKind.i64 n441)])), (D.sl 1 l438)])
                                                          else
                                                            none
                                                        else
                                                          none
                                                      else
                                                        none
                                                    else
                                                      some (.inl [(D.int IntKind.i64 n424), (D.int IntKind.i64 n425), (D.int IntKind.i64 n426), (D.int IntKind.i64 (A.wrap IntKind.i64 (A.add n427 1))), (D.sl 4 l428), (D.int IntKind.i64 n429), (D.int IntKind.i64 n430), (D.int IntKind.i64 n431), (D.int IntKind.i64 n432), (D.int IntKind.i64 n433), (D.sl 1 l434), (D.sl 1 l435), (D.sl 1 l436), (D.sl 1 l437), (D.sl 1 l438)])
                                                  else
                                                    none
                                                else
                                                  none
                                              else
                                                bif (A.cutok n424 (A.rlen l437) (A.rlen l437)) then
                                                  bif (A.cutok n424 (A.add n424 (A.sub (A.rlen l437) n424)) (A.rlen l437)) then
                                                    bif (A.cutok 0 n424 (A.rlen (A.rcopy l437 n424 (A.sub (A.rlen l437) n424) (A.rep (A.sub (A.rlen l437) n424) [(D.int IntKind.i64 0)])))) then
                                                      some (.inr (.inr (.inr (.inr (.inr (.inr (PRes.own 3 1 (A.head (A.rcopy l437 n424 (A.sub (A.rlen l437) n424) (A.rep (A.sub (A.rlen l437) n424) [(D.int IntKind.i64 0)])) n424))))))))
                                                    else
                                                      none
                                                  else
                                                    none
                                                else
                                                  none
                                            ) [(D.int IntKind.i64 n409), (D.int IntKind.i64 n409), (D.int IntKind.i64 (A.sub (A.rlen l419) n409)), (D.int IntKind.i64 1), (D.sl 4 l410), (D.int IntKind.i64 n411), (D.int IntKind.i64 n412), (D.int IntKind.i64 n413), (D.int IntKind.i64 n414), (D.int IntKind.i64 n415), (D.sl 1 l416), (D.sl 1 l417), (D.sl 1 l418), (D.sl 1 l419), (D.sl 1 l420)]
                                          else
                                            none
                                        else
                                          some (.inl [(D.int IntKind.i64 (A.wrap IntKind.i64 (A.add n409 1))), (D.sl 4 l410), (D.int IntKind.i64 n411), (D.int IntKind.i64 n412), (D.int IntKind.i64 n413), (D.int IntKind.i64 n414), (D.int IntKind.i64 n415), (D.sl 1 l416), (D.sl 1 l417), (D.sl 1 l418), (D.sl 1 l419), (D.sl 1 l420)])
                                      else
                                        none
                                    else
                                      none
                                  else
                                    some (.inr (.inr (.inr (.inr (.inr (PRes.own 3 1 l419))))))
                                ) [(D.int IntKind.i64 1), (D.sl 4 l374), (D.int IntKind.i64 n375), (D.int IntKind.i64 n376), (D.int IntKind.i64 n377), (D.int IntKind.i64 n378), (D.int IntKind.i64 n379), (D.sl 1 l380), (D.sl 1 l381), (D.sl 1 l382), (D.sl 1 l383), (D.sl 1 l384)]
                          ) [(D.int IntKind.i64 n354), (D.int IntKind.i64 n355), (D.int IntKind.i64 (A.wrap IntKind.i64 (A.add n354 1))), (D.sl 4 l359), (D.int IntKind.i64 n360), (D.int IntKind.i64 n361), (D.int IntKind.i64 n362), (D.int IntKind.i64 n363), (D.int IntKind.i64 n364), (D.sl 1 l365), (D.sl 1 l366), (D.sl 1 l367), (D.sl 1 l368), (D.sl 1 l369)]
                        else
                          bif (A.ieq n356 0) then
                            none
                          else
                            bif (A.bnot b357) then
                              none
                            else
                              none
                      ) [(D.int IntKind.i64 0), (D.int IntKind.i64 (A.rlen l255)), (D.int IntKind.i64 n352), (D.bool true), (D.bool true), (D.sl 4 l246), (D.int IntKind.i64 n247), (D.int IntKind.i64 n248), (D.int IntKind.i64 n249), (D.int IntKind.i64 n250), (D.int IntKind.i64 n251), (D.sl 1 l252), (D.sl 1 l253), (D.sl 1 l254), (D.sl 1 l255), (D.sl 1 l256)]
                  ) [(D.int IntKind.i64 (A.rlen (A.head (A.rcopy l238 n230 (A.sub (A.rlen l238) n230) (A.rep (A.sub (A.rlen l238) n230) [(D.int IntKind.i64 0)])) n230))), (D.int IntKind.i64 0), (D.sl 4 l232), (D.int IntKind.i64 n233), (D.int IntKind.i64 n234), (D.int IntKind.i64 n235), (D.int IntKind.i64 n236), (D.int IntKind.i64 n237), (D.sl 1 (A.head (A.rcopy l238 n230 (A.sub (A.rlen l238) n230) (A.rep (A.sub (A.rlen l238) n230) [(D.int IntKind.i64 0)])) n230)), (D.sl 1 []), (D.sl 1 []), (D.sl 1 []), (D.sl 1 [])]
                else
                  none
              else
                none
            else
              none
        ) [(D.int IntKind.i64 n29), (D.int IntKind.i64 (A.wrap IntKind.i64 (A.add n29 1))), (D.sl 4 l20), (D.int IntKind.i64 n21), (D.int IntKind.i64 n22), (D.int IntKind.i64 n23), (D.int IntKind.i64 n24), (D.int IntKind.i64 n25), (D.sl 1 l26)]
    else
      none
theorem g20_eq (A : Sy) (E : Env) (code_ : List (List D)) (at_ : Int) : (funT A Try.prog cs 20 [V.d (D.sl 4 code_), V.d (D.int IntKind.i64 at_)]).run E = g20 A E code_ at_ := by kernel_rfl
end Go.Vm
end
