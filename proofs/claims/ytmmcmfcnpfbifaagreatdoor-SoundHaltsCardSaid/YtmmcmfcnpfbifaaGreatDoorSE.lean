/-
  Part E of the proof. What is proved by the whole: the statement that the claim names, with no condition. This part: lemmas.
-/
import Derived.Test.YtmmcmfcnpfbifaaGreatDoorD
import Derived.Test.YtmmcmfcnpfbifaaGreatDoorChecked
set_option linter.unusedSimpArgs false
set_option linter.unusedVariables false

section
set_option maxHeartbeats 2000000
namespace Go.Vm
theorem bft : (false = true) = False := by simp
theorem btf : (true = false) = False := by simp
def firstB (x : Ins) : Bool := if x.op = 1 then withinB x.a 1 1000 else if x.op = 4 then x.a == 1 || x.a == 2 else if x.op = 5 then withinB x.a 3 16 else if x.op = 10 then x.a == 0 else withinB x.a 0 65535
theorem right_eq (x : Ins) : rightB x = (withinB x.op 1 10 && firstB x && !(!(x.op == 1) && !(x.n == 0)) && (if x.op == 8 || x.op == 9 then withinB x.b 1 8 else x.b == 0)) := by
  obtain ⟨op, a, b, n⟩ := x
  by_cases h : 1 ≤ op ∧ op ≤ 10
  · have : op = 1 ∨ op = 2 ∨ op = 3 ∨ op = 4 ∨ op = 5 ∨ op = 6 ∨ op = 7 ∨ op = 8 ∨ op = 9 ∨ op = 10 := by omega
    rcases this with rfl | rfl | rfl | rfl | rfl | rfl | rfl | rfl | rfl | rfl <;> simp [rightB, firstB, withinB] <;> (try (cases (n == 0) <;> simp)) <;> (try (cases (b == 0) <;> simp))
    all_goals grind
  · have hw : withinB op 1 10 = false := by rw [withinB_false]; omega
    simp only [hw, Bool.false_and, rightB]
    rw [if_neg (by omega), if_neg (by omega), if_neg (by omega), if_neg (by omega), if_neg (by omega), if_neg (by omega)]
    simp
theorem kind_within {la : List Int} {k : Int} : kindB (il la) k = withinB k 1 (2 + il la) ∨ il la < 0 := by
  by_cases h : il la < 0
  · exact .inr h
  · refine .inl ?_
    rw [Bool.eq_iff_iff]; unfold kindB; simp only [↓bft, ↓btf, Bool.and_eq_true, Bool.or_eq_true, Bool.and_eq_false_iff, Bool.or_eq_false_iff, Bool.not_eq_true', Bool.not_eq_false', Bool.not_eq_true, Bool.not_eq_false, decide_eq_true_eq, decide_eq_false_iff_not, beq_iff_eq, beq_eq_false_iff_ne, ne_eq, not_true_eq_false, not_false_eq_true, reduceCtorEq, true_iff, false_iff, iff_true, iff_false, Decidable.not_not, withinB_iff, withinB_false, eq_self]; omega
theorem kind_eq (la : List Int) (k : Int) : kindB (il la) k = withinB k 1 (2 + il la) := kind_within.resolve_right (by have := il_nonneg la; omega)
theorem ends_len {row ks : List Int} (h : endsB row ks = true) : il ks ≤ il row := by
  unfold endsB at h; simp only [Bool.and_eq_true, decide_eq_true_eq] at h; simp only [il]; omega
theorem unTy_bd {op : Int} {t r : Ty3} (h : unTy op t = some r) : r = ⟨1, 0, 0⟩ ∨ r = ⟨2, 0, 0⟩ := by
  unfold unTy at h
  repeat' split at h
  all_goals simp_all
theorem binTy_cases (op : Int) (t u : Ty3) : (binTy op t u = none) ∨ (binTy op t u = some ⟨1, 0, 0⟩) ∨ (binTy op t u = some ⟨2, 0, 0⟩) := by
  unfold binTy; repeat' split
  all_goals simp
theorem binTy_bd {op : Int} {t u r : Ty3} (h : binTy op t u = some r) : r = ⟨1, 0, 0⟩ ∨ r = ⟨2, 0, 0⟩ := by
  rcases binTy_cases op t u with h1 | h1 | h1 <;> rw [h1] at h <;> simp at h <;> subst h <;> simp
def cl (l : List Ins) : Int := l.length
theorem cl_nonneg (l : List Ins) : 0 ≤ cl l := by unfold cl; omega
/-! ### maps from numbers to rows -/
def encM (L : List (Int × List Int)) : List (List D) := L.map fun p => [.int .i64 p.1, .sl 1 (irows p.2)]
def lk : List (Int × List Int) → Int → Option (List Int)
  | [], _ => none
  | (k, v) :: L, m => if k = m then some v else lk L m
def putL : List (Int × List Int) → Int → List Int → List (Int × List Int)
  | [], m, x => [(m, x)]
  | (k, v) :: L, m, x => if k = m then (k, x) :: L else (k, v) :: putL L m x
def delL : List (Int × List Int) → Int → List (Int × List Int)
  | [], _ => []
  | (k, v) :: L, m => if k = m then L else (k, v) :: delL L m
theorem lk_put (x : List Int) (n m : Int) : ∀ L, lk (putL L n x) m = if m = n then some x else lk L m
  | [] => by simp only [putL, lk]; by_cases h : n = m <;> simp [h, eq_comm]
  | (k, v) :: L => by
    unfold putL
    split
    · rename_i h; subst h; simp only [lk]
      by_cases h : k = m
      · rw [if_pos h, if_pos h.symm]
      · rw [if_neg h, if_neg (fun e => h e.symm), if_neg h]
    · rename_i h
      simp only [lk, lk_put x n m L]
      by_cases h1 : k = m
      · subst h1; rw [if_pos rfl, if_neg h]; simp
      · simp only [h1, if_false]
theorem lk_del (n m : Int) (hne : m ≠ n) : ∀ L, lk (delL L n) m = lk L m
  | [] => rfl
  | (k, v) :: L => by
    unfold delL
    split
    · rename_i h; subst h; simp only [lk]; rw [if_neg (fun e => hne e.symm)]
    · simp only [lk, lk_del n m hne L]
theorem midx_ne {k k' : D} {w : List D} {rs : List (List D)} (h : keyIs k k' = false) : midx k ((k' :: w) :: rs) = (midx k rs).map (· + 1) := by
  simp [midx, h]
theorem midx_eq {k k' : D} {w : List D} {rs : List (List D)} (h : keyIs k k' = true) : midx k ((k' :: w) :: rs) = some 0 := by
  simp [midx, h]
theorem mhas_enc (m : Int) : ∀ L, mhas (.int .i64 m) (encM L) = (lk L m).isSome
  | [] => rfl
  | (k, v) :: L => by
    have ih := mhas_enc m L
    unfold mhas at *
    show (midx (.int .i64 m) ((D.int .i64 k :: [.sl 1 (irows v)]) :: encM L)).isSome = _
    unfold lk
    by_cases h : k = m
    · rw [midx_eq (by simp [keyIs, h]), if_pos h]; rfl
    · rw [midx_ne (by simp [keyIs]; omega), if_neg h, ← ih]; cases midx (.int .i64 m) (encM L) <;> rfl
theorem mval_enc (z : D) (m : Int) : ∀ L, mval z (.int .i64 m) (encM L) = (match lk L m with | some v => .sl 1 (irows v) | none => z)
  | [] => rfl
  | (k, v) :: L => by
    have ih := mval_enc z m L
    unfold mval mget at *
    show ((midx (.int .i64 m) ((D.int .i64 k :: [.sl 1 (irows v)]) :: encM L)).bind fun i => (((D.int .i64 k :: [.sl 1 (irows v)]) :: encM L)[i]?).bind (·[1]?)).getD z = _
    unfold lk
    by_cases h : k = m
    · rw [midx_eq (by simp [keyIs, h]), if_pos h]; rfl
    · rw [midx_ne (by simp [keyIs]; omega), if_neg h, ← ih]; cases midx (.int .i64 m) (encM L) <;> rfl
theorem mput_enc (m : Int) (x : List Int) : ∀ L, mput (.int .i64 m) (.sl 1 (irows x)) (encM L) = encM (putL L m x)
  | [] => rfl
  | (k, v) :: L => by
    have ih := mput_enc m x L
    unfold mput at *
    show (match midx (.int .i64 m) ((D.int .i64 k :: [.sl 1 (irows v)]) :: encM L) with | some i => _ | none => _) = _
    unfold putL
    by_cases h : k = m
    · rw [midx_eq (by simp [keyIs, h]), if_pos h, h]; rfl
    · rw [midx_ne (by simp [keyIs]; omega), if_neg h]
      show _ = (D.int .i64 k :: [.sl 1 (irows v)]) :: encM (putL L m x)
      rw [← ih]
      cases midx (.int .i64 m) (encM L) <;> rfl
theorem mdel_enc (m : Int) : ∀ L, mdel (.int .i64 m) (encM L) = encM (delL L m)
  | [] => rfl
  | (k, v) :: L => by
    have ih := mdel_enc m L
    unfold mdel at *
    show (match midx (.int .i64 m) ((D.int .i64 k :: [.sl 1 (irows v)]) :: encM L) with | some i => _ | none => _) = _
    unfold delL
    by_cases h : k = m
    · rw [midx_eq (by simp [keyIs, h]), if_pos h]; rfl
    · rw [midx_ne (by simp [keyIs]; omega), if_neg h]
      show _ = (D.int .i64 k :: [.sl 1 (irows v)]) :: encM (delL L m)
      rw [← ih]
      cases midx (.int .i64 m) (encM L) <;> rfl

/-! ### rows stay right -/
def RowOK (row : List Int) : Prop := (∀ k ∈ row, 1 ≤ k ∧ k ≤ 100) ∧ row.length ≤ 16
theorem RowOK.drop {row : List Int} (h : RowOK row) (n : Nat) : RowOK (dropTop row n) :=
  ⟨fun k hk => h.1 k (List.mem_of_mem_take hk), Nat.le_trans (List.length_take_le _ _) (by have := h.2; omega)⟩
theorem RowOK.snoc {row : List Int} {k : Int} (h : RowOK row) (h1 : 1 ≤ k) (h2 : k ≤ 100) (hl : row.length < 16) : RowOK (row ++ [k]) :=
  ⟨fun q hq => by
    rcases List.mem_append.1 hq with h3 | h3
    · exact h.1 q h3
    · simp at h3; subst h3; exact ⟨h1, h2⟩, by simp; omega⟩
theorem dropTop_len {row : List Int} {n : Nat} (h : n ≤ row.length) (hn : 0 < n) : (dropTop row n).length < row.length := by
  unfold dropTop; rw [List.length_take]; omega
theorem cellsK_mem {kinds : List Int} {a n k : Int} (h : cellsK kinds a n = some k) (h0 : 0 ≤ a) (h1 : 1 ≤ n) : k ∈ kinds := by
  unfold cellsK at h
  split at h
  · rename_i hle
    split at h
    · simp only [Option.some.injEq] at h
      have hlt : a.toNat < kinds.length := by unfold il at hle; omega
      rw [← h, List.getD_eq_getElem?_getD, List.getElem?_eq_getElem hlt]
      exact List.getElem_mem hlt
    · cases h
  · cases h
theorem operS_ok {x : Ins} {row r : List Int} (h : operS x row = some r) (hr : RowOK row) : RowOK r := by
  unfold operS at h
  split at h
  · split at h
    · cases h
    · rename_i hl
      rw [Option.map_eq_some_iff] at h
      obtain ⟨t, ht, rfl⟩ := h
      have hlt := dropTop_len (row := row) (n := 1) (by omega) (by omega)
      have := hr.2
      rcases unTy_bd ht with rfl | rfl <;> exact (hr.drop 1).snoc (by simp [kindOf]) (by simp [kindOf]) (by omega)
  · split at h
    · cases h
    · rename_i hl
      rw [Option.map_eq_some_iff] at h
      obtain ⟨t, ht, rfl⟩ := h
      have hlt := dropTop_len (row := row) (n := 2) (by omega) (by omega)
      have := hr.2
      rcases binTy_bd ht with rfl | rfl <;> exact (hr.drop 2).snoc (by simp [kindOf]) (by simp [kindOf]) (by omega)
theorem nextS_ok {s : Shp} {x : Ins} {row r : List Int} (h : nextS s x row = some r) (hr : RowOK row) (hs : shapeB s.ctors s.kinds s.lo s.hi = true) (ha : rightB x = true) : RowOK r := by
  have hc : il s.ctors ≤ 4 := by unfold shapeB at hs; simp only [Bool.and_eq_true, decide_eq_true_eq] at hs; omega
  have hk : ∀ k ∈ s.kinds, 1 ≤ k ∧ k ≤ 100 := by
    unfold shapeB at hs
    simp only [Bool.and_eq_true] at hs
    intro k hk
    have := List.all_eq_true.1 hs.2 k hk
    rw [kind_eq] at this
    have := withinB_iff.1 this
    omega
  unfold nextS at h
  split at h
  · split at h
    · rename_i h1 h2
      simp only [Bool.and_eq_true, decide_eq_true_eq] at h2
      cases h
      have := h2.1.1
      rw [kind_eq] at this
      have := withinB_iff.1 this
      exact hr.snoc (by omega) (by omega) h2.2
    · cases h
  · split at h
    · exact operS_ok h hr
    · split at h
      · split at h
        · cases h; exact hr.drop 1
        · cases h
      · split at h
        · cases h; exact hr
        · split at h
          · split at h
            · cases h; exact ⟨by simp, by simp⟩
            · cases h
          · rename_i h1 h4 h7 h6 h10
            unfold memS at h
            split at h
            · cases h
            · rename_i k hck
              have hab : 0 ≤ x.a := by
                rw [right_eq] at ha
                simp only [Bool.and_eq_true] at ha
                obtain ⟨⟨⟨_, q2⟩, _⟩, _⟩ := ha
                unfold firstB at q2
                rw [if_neg h1, if_neg (by omega), if_neg (by omega), if_neg h10] at q2
                exact (withinB_iff.1 q2).1
              have hkk := hk k (cellsK_mem hck hab (by omega))
              split at h
              · split at h
                · cases h; exact hr.snoc hkk.1 hkk.2 ‹_›
                · cases h
              · split at h
                · split at h
                  · rename_i he
                    cases h
                    have := ends_len he
                    simp only [il, List.length_singleton] at this
                    have hlt := dropTop_len (row := row) (n := 1) (by omega) (by omega)
                    have := hr.2
                    exact (hr.drop 1).snoc hkk.1 hkk.2 (by omega)
                  · cases h
                · split at h
                  · split at h
                    · cases h; exact hr.drop 1
                    · cases h
                  · split at h
                    · cases h; exact hr.drop 2
                    · cases h


def KR (M : List (List D)) (i : Int) (K : Known) : Prop := ∃ L, M = encM L ∧ (∀ m : Int, i ≤ m → lk L m = K m.toNat) ∧ ∀ m row, K m = some row → RowOK row
def inner (s : Shp) (n i : Nat) (rest : List Ins) (row' : List Int) (to : List Int) (K : Known) : Int × Bool := match putAll row' to K with
  | none => (i, false)
  | some K' => checkGo s n (i + 1) rest K'
theorem leadsS_bd {n i : Nat} {x : Ins} {T : List Int} (h : leadsS n i x = some T) : (∀ t ∈ T, (i : Int) < t ∧ t < n) ∧ T.length ≤ 2 := by
  unfold leadsS at h
  split at h
  · split at h
    · cases h; exact ⟨by simp, by simp⟩
    · cases h
  · have hl : (if x.op = 6 then [x.a] else if x.op = 7 then [(i : Int) + 1, x.a] else [(i : Int) + 1]).length ≤ 2 := by
      repeat' split
      all_goals simp
    generalize (if x.op = 6 then [x.a] else if x.op = 7 then [(i : Int) + 1, x.a] else [(i : Int) + 1]) = to at h hl
    simp only at h
    by_cases hall : (to.all fun m => decide ((i : Int) < m) && decide (m < (n : Int))) = true
    · rw [if_pos hall] at h
      cases h
      refine ⟨fun t ht => ?_, hl⟩
      have := List.all_eq_true.1 hall t ht
      simpa using this
    · rw [if_neg hall] at h; cases h
theorem cdrop {l : List Ins} {i : Nat} (h : i < l.length) : l.drop i = l.getD i default :: l.drop (i + 1) := by
  rw [List.drop_eq_getElem_cons h]; simp [h]
theorem cl_lt {l : List Ins} {i : Int} (h0 : 0 ≤ i) (h : i < cl l) : i.toNat < l.length := by unfold cl at h; omega
theorem KR.put {L : List (Int × List Int)} {i t : Int} {K : Known} {v : List Int} (h : ∀ m : Int, i ≤ m → lk L m = K m.toNat) (h2 : ∀ m row, K m = some row → RowOK row) (ht : i ≤ t) (hi : 0 ≤ i) (hv : RowOK v) : KR (encM (putL L t v)) i (fun m => if m = t.toNat then some v else K m) := by
  refine ⟨_, rfl, fun m hm => ?_, fun m row hm => ?_⟩
  · rw [lk_put]
    by_cases he : m = t
    · subst he; rw [if_pos rfl]; simp
    · rw [if_neg he, h m hm]; simp only; rw [if_neg (by omega)]
  · simp only at hm
    split at hm
    · cases hm; exact hv
    · exact h2 m row hm
/-- What is right of an instruction of a code that may be run. -/
structure AheadOK (s : Shp) (n i : Int) (x : Ins) : Prop where
  last : x.op = 10 ↔ i = n - 1
  jump : x.op = 6 ∨ x.op = 7 → i < x.a ∧ x.a < n
  cell : x.op = 2 ∨ x.op = 3 → 0 ≤ x.a ∧ x.a < il s.kinds
  free : x.op = 3 ∨ x.op = 9 → ¬ (s.lo ≤ x.a ∧ x.a < s.hi)
theorem step_ok {s : Shp} {n i : Nat} {x : Ins} {row row' to : List Int} (hr : rightB x = true) (hn : nextS s x row = some row') (hl : leadsS n i x = some to) : AheadOK s n i x := by
  have hb := leadsS_bd hl
  rw [right_eq] at hr
  simp only [Bool.and_eq_true] at hr
  obtain ⟨⟨⟨hop, hf⟩, _⟩, _⟩ := hr
  have hop := withinB_iff.1 hop
  have hto : x.op ≠ 10 → to = (if x.op = 6 then [x.a] else if x.op = 7 then [(i : Int) + 1, x.a] else [(i : Int) + 1]) := by
    intro h
    unfold leadsS at hl
    rw [if_neg h] at hl
    generalize (if x.op = 6 then [x.a] else if x.op = 7 then [(i : Int) + 1, x.a] else [(i : Int) + 1]) = to2 at hl ⊢
    simp only at hl
    by_cases hall : (to2.all fun m => decide ((i : Int) < m) && decide (m < (n : Int))) = true
    · rw [if_pos hall] at hl; cases hl; rfl
    · rw [if_neg hall] at hl; cases hl
  have ha : ∀ (h : x.op = 2 ∨ x.op = 3 ∨ x.op = 8 ∨ x.op = 9), 0 ≤ x.a ∧ ∃ k, cellsK s.kinds x.a (max 1 x.b) = some k := by
    intro h
    unfold firstB at hf
    rw [if_neg (by omega), if_neg (by omega), if_neg (by omega), if_neg (by omega)] at hf
    refine ⟨(withinB_iff.1 hf).1, ?_⟩
    unfold nextS at hn
    rw [if_neg (by omega), if_neg (by omega), if_neg (by omega), if_neg (by omega), if_neg (by omega)] at hn
    unfold memS at hn
    split at hn
    · cases hn
    · exact ⟨_, ‹_›⟩
  refine ⟨⟨fun h => ?_, fun h => ?_⟩, fun h => ?_, fun h => ?_, fun h => ?_⟩
  · unfold leadsS at hl
    rw [if_pos h] at hl
    split at hl
    · omega
    · cases hl
  · refine Classical.byContradiction fun hne => ?_
    have := hto hne
    have hmem : ∃ t, t ∈ to := by
      rw [this]; repeat' split
      all_goals exact ⟨_, List.mem_cons_self⟩
    obtain ⟨t, ht⟩ := hmem
    have := hb.1 t ht
    omega
  · have := hto (by omega)
    have hm : x.a ∈ to := by
      rw [this]
      rcases h with h | h
      · rw [if_pos h]; simp
      · rw [if_neg (by omega), if_pos h]; simp
    exact hb.1 _ hm
  · obtain ⟨h0, k, hk⟩ := ha (by omega)
    refine ⟨h0, ?_⟩
    unfold cellsK at hk
    split at hk
    · omega
    · cases hk
  · obtain ⟨h0, k, hk⟩ := ha (by omega)
    unfold nextS at hn
    rw [if_neg (by omega), if_neg (by omega), if_neg (by omega), if_neg (by omega), if_neg (by omega)] at hn
    unfold memS at hn
    rw [hk] at hn
    simp only at hn
    rw [if_neg (by omega), if_neg (by omega)] at hn
    have hfx : fixedB s.lo s.hi x.a (max 1 x.b) = false := by
      rcases h with h | h
      · rw [if_pos h] at hn
        split at hn
        · rename_i q; simp only [Bool.and_eq_true, Bool.not_eq_true'] at q; exact q.2
        · cases hn
      · rw [if_neg (by omega)] at hn
        split at hn
        · rename_i q; simp only [Bool.and_eq_true, Bool.not_eq_true'] at q; exact q.2
        · cases hn
    unfold fixedB at hfx
    simp only [Bool.and_eq_false_iff, decide_eq_false_iff_not] at hfx
    omega
theorem go_ok {s : Shp} {n : Nat} : ∀ (rest : List Ins) (i : Nat) (K : Known) (r : Int), checkGo s n i rest K = (r, true) → i + rest.length = n → r = n ∧ ∀ j, j < rest.length → AheadOK s n ((i + j : Nat) : Int) (rest.getD j default)
  | [], i, K, r, h, hl => by unfold checkGo at h; cases h; exact ⟨rfl, by simp⟩
  | x :: rest, i, K, r, h, hl => by
    unfold checkGo at h
    cases hk : K i with
    | none => rw [hk] at h; cases h
    | some row =>
      rw [hk] at h
      simp only at h
      cases hr : rightB x with
      | false => rw [hr] at h; cases h
      | true =>
        rw [hr] at h
        simp only [if_true] at h
        cases hn : nextS s x row with
        | none => rw [hn] at h; cases h
        | some row' =>
          rw [hn] at h
          simp only at h
          cases hq : leadsS n i x with
          | none => rw [hq] at h; cases h
          | some to =>
            rw [hq] at h
            simp only at h
            cases hp : putAll row' to K with
            | none => rw [hp] at h; cases h
            | some K' =>
              rw [hp] at h
              obtain ⟨h1, h2⟩ := go_ok rest (i + 1) K' r h (by simp at hl; omega)
              refine ⟨h1, fun j hj => ?_⟩
              cases j with
              | zero => exact step_ok hr hn hq
              | succ j =>
                have := h2 j (by simpa using hj)
                rw [show i + (j + 1) = i + 1 + j by omega]
                exact this
theorem go_range {s : Shp} {n : Nat} : ∀ (rest : List Ins) (i : Nat) (K : Known), i + rest.length = n → 0 ≤ (checkGo s n i rest K).1 ∧ (checkGo s n i rest K).1 ≤ n
  | [], i, K, hl => by unfold checkGo; exact ⟨by simp, by simp⟩
  | x :: rest, i, K, hl => by
    have hi : 0 ≤ (i : Int) ∧ (i : Int) ≤ n := by simp at hl; omega
    unfold checkGo
    cases hk : K i with
    | none => exact hi
    | some row =>
      simp only
      cases hr : rightB x with
      | false => exact hi
      | true =>
        simp only [if_true]
        cases hn : nextS s x row with
        | none => exact hi
        | some row' =>
          simp only
          cases hq : leadsS n i x with
          | none => exact hi
          | some to =>
            simp only
            cases hp : putAll row' to K with
            | none => exact hi
            | some K' => exact go_range rest (i + 1) K' (by simp at hl; omega)
theorem check_range (s : Shp) (code : List Ins) : 0 ≤ (checkS s code).1 ∧ (checkS s code).1 ≤ cl code := by
  unfold checkS
  split
  · have := go_range (s := s) (n := code.length) code 0 (fun m => if m = 0 then some [] else none) (by simp)
    unfold cl; exact this
  · exact ⟨Int.le_refl _, cl_nonneg _⟩
theorem check_ok {s : Shp} {code : List Ins} (h : (checkS s code).2 = true) : (checkS s code).1 = cl code ∧ ∀ i : Int, 0 ≤ i → i < cl code → AheadOK s (cl code) i (code.getD i.toNat default) := by
  unfold checkS at *
  split at h
  · rename_i hc
    rw [if_pos hc]
    obtain ⟨h1, h2⟩ := go_ok code 0 _ _ (Prod.ext rfl h) (by simp)
    refine ⟨h1, fun i h0 hi => ?_⟩
    have := h2 i.toNat (cl_lt h0 hi)
    rw [Nat.zero_add, Int.toNat_of_nonneg h0] at this
    exact this
  · cases h
end Go.Vm
end

section
namespace Go.Vm
def KOK (L : List (Int × List Int)) (i : Nat) (K : Known) : Prop := (∀ m : Int, (i : Int) ≤ m → lk L m = K m.toNat) ∧ ∀ m row, K m = some row → RowOK row
theorem KOK.row {L : List (Int × List Int)} {i : Nat} {K : Known} (h : KOK L i K) {m : Int} {row : List Int} (hm : (i : Int) ≤ m) (hl : lk L m = some row) : RowOK row := h.2 _ row (by rw [← h.1 m hm]; exact hl)
theorem KOK.put {L : List (Int × List Int)} {i : Nat} {K : Known} (h : KOK L i K) {t : Int} {v : List Int} (ht : (i : Int) ≤ t) (hv : RowOK v) : KOK (putL L t v) i (fun m => if m = t.toNat then some v else K m) := by
  refine ⟨fun m hm => ?_, fun m row hm => ?_⟩
  · rw [lk_put]
    by_cases he : m = t
    · subst he; rw [if_pos rfl]; simp
    · rw [if_neg he, h.1 m hm]; simp only; rw [if_neg (by omega)]
  · simp only at hm
    split at hm
    · cases hm; exact hv
    · exact h.2 m row hm
theorem put_loop {b : List D → Option (List D ⊕ (List D ⊕ PRes))} (T : List Int) (row' : List Int) (mkI : Nat → List (Int × List Int) → List D) (mkO : List (Int × List Int) → List D) (bad : PRes) (i : Nat)
    (hb : ∀ (j : Nat) L t, T[j]? = some t → (∀ was, lk L t = some was → was.length ≤ 16) → b (mkI j L) = match lk L t with
      | some was => if was = row' then some (.inl (mkI (j + 1) (putL L t row'))) else some (.inr (.inr bad))
      | none => some (.inl (mkI (j + 1) (putL L t row'))))
    (hend : ∀ L, b (mkI T.length L) = some (.inr (.inl (mkO L)))) (hT : ∀ t ∈ T, (i : Int) ≤ t) (hr : RowOK row') :
    ∀ (rest : List Int) (j : Nat) (L : List (Int × List Int)) (K : Known), T.drop j = rest → j ≤ T.length → KOK L i K →
      ∃ out, loopF b (mkI j L) = some out ∧ match putAll row' rest K with
        | none => out = .inr bad
        | some K' => ∃ L', out = .inl (mkO L') ∧ KOK L' i K' := by
  intro rest
  induction rest with
  | nil =>
    intro j L K hd hj hK
    have : j = T.length := by have := congrArg List.length hd; simp at this; omega
    subst this
    rw [loopF_eq, hend]
    exact ⟨_, rfl, L, rfl, hK⟩
  | cons t ts ih =>
    intro j L K hd hj hK
    have hx : T[j]? = some t := by
      have := congrArg (fun r => r[0]?) hd
      simpa using this
    have hlt := (List.getElem?_eq_some_iff.1 hx).1
    have hts : T.drop (j + 1) = ts := by
      have := congrArg List.tail hd
      simpa using this
    have hti := hT t (List.mem_of_getElem? hx)
    have h1 := hb j L t hx (fun was hw => (hK.row hti hw).2)
    have hKt := hK.1 t hti
    unfold putAll
    rw [loopF_eq, h1, hKt]
    cases hq : K t.toNat with
    | none => exact ih (j + 1) _ _ hts (by omega) (hK.put hti hr)
    | some was =>
      simp only
      by_cases he : was = row'
      · rw [if_pos he, if_pos he]
        exact ih (j + 1) _ _ hts (by omega) (hK.put hti hr)
      · rw [if_neg he, if_neg he]
        exact ⟨_, rfl, rfl⟩
def badR (i : Nat) : PRes := .val [.int .i64 (i : Int), .bool false]
def StepOK (s : Shp) (n : Nat) (mk : Nat → List (Int × List Int) → List D) (r : Option (List D ⊕ PRes)) (i : Nat) (L : List (Int × List Int)) (x : Ins) : Prop := match lk L i with
  | none => r = some (.inr (badR i))
  | some row => if rightB x then (match nextS s x row with
    | none => r = some (.inr (badR i))
    | some row' => match leadsS n i x with
      | none => r = some (.inr (badR i))
      | some T => ∀ K : Known, KOK L (i + 1) K → ∃ out, r = some out ∧ match putAll row' T K with
        | none => out = .inr (badR i)
        | some K' => ∃ L', out = .inl (mk (i + 1) L') ∧ KOK L' (i + 1) K') else r = some (.inr (badR i))
def chR (p : Int × Bool) : PRes := .val [.int .i64 p.1, .bool p.2]
theorem check_loop {b : List D → Option (List D ⊕ PRes)} (s : Shp) (code : List Ins) (mk : Nat → List (Int × List Int) → List D)
    (hb : ∀ (i : Nat) L x, code[i]? = some x → (∀ row, lk L i = some row → RowOK row) → StepOK s code.length mk (b (mk i L)) i L x)
    (hend : ∀ L, b (mk code.length L) = some (.inr (.val [.int .i64 (code.length : Int), .bool true]))) :
    ∀ (rest : List Ins) (i : Nat) (L : List (Int × List Int)) (K : Known), code.drop i = rest → i ≤ code.length → KOK L i K → loopF b (mk i L) = some (chR (checkGo s code.length i rest K)) := by
  intro rest
  induction rest with
  | nil =>
    intro i L K hd hi hK
    have : i = code.length := by have := congrArg List.length hd; simp at this; omega
    subst this
    rw [loopF_eq, hend]
    rfl
  | cons x xs ih =>
    intro i L K hd hi hK
    have hx : code[i]? = some x := by
      have := congrArg (fun r => r[0]?) hd
      simpa using this
    have hlt := (List.getElem?_eq_some_iff.1 hx).1
    have hxs : code.drop (i + 1) = xs := by
      have := congrArg List.tail hd
      simpa using this
    have hs := hb i L x hx (fun row h => hK.row (Int.le_refl _) h)
    have hKi := hK.1 i (Int.le_refl _)
    rw [Int.toNat_natCast] at hKi
    unfold StepOK at hs
    rw [hKi] at hs
    unfold checkGo
    rw [loopF_eq]
    cases hq : K i with
    | none => rw [hq] at hs; rw [show b (mk i L) = _ from hs]; rfl
    | some row =>
      rw [hq] at hs
      simp only at hs ⊢
      by_cases hr : rightB x = true
      · rw [if_pos hr] at hs ⊢
        cases hn : nextS s x row with
        | none => rw [hn] at hs; rw [show b (mk i L) = _ from hs]; rfl
        | some row' =>
          rw [hn] at hs
          simp only at hs ⊢
          cases hl : leadsS code.length i x with
          | none => rw [hl] at hs; rw [show b (mk i L) = _ from hs]; rfl
          | some T =>
            rw [hl] at hs
            simp only at hs ⊢
            obtain ⟨out, h1, h2⟩ := hs K ⟨fun m hm => hK.1 m (by omega), hK.2⟩
            rw [h1]
            cases hp : putAll row' T K with
            | none => rw [hp] at h2; have h2 : out = _ := h2; subst h2; rfl
            | some K' =>
              rw [hp] at h2
              obtain ⟨L', rfl, hK'⟩ := h2
              exact ih (i + 1) L' K' hxs (by omega) hK'
      · rw [if_neg hr] at hs ⊢
        rw [show b (mk i L) = _ from hs]; rfl
end Go.Vm
end

section
namespace Go.Vm
def look {α : Type} (d : α) : List (Nat × α) → Nat → α
  | [], _ => d
  | (k, x) :: r, n => match Nat.beq k n with
    | true => x
    | false => look d r n
def loopTab : List (Nat × List (Nat × LAn)) := [(9, [(0, { slots := [(5, none), (7, none), (8, none), (26, none), (27, none), (28, none)] })]),
  (10, [(0, { slots := [(4, none), (5, none), (7, none), (8, none), (9, none)] })]),
  (11, [(0, { slots := [(0, none), (1, none), (5, none)] })]),
  (12, [(0, { slots := [(3, none), (6, none), (7, none), (8, none)] })]),
  (13, [(0, { slots := [(0, none), (3, none), (4, none)] })]),
  (14, [(0, { slots := [(0, none), (5, none), (6, none), (18, none), (19, none), (20, none)], own := [(1000,6,81)] })]),
  (16, [(2, { slots := [(1, none), (5, none)] }), (0, { slots := [(1, none), (3, none), (4, none)] })]),
  (22, [(0, { slots := [(1, none), (3, none), (4, none), (5, none)] })]),
  (23, [(0, { slots := [(1, none), (2, none), (5, none)] })]),
  (24, [(6, { slots := [(1, none), (2, none), (3, none), (7, none)] }), (4, { slots := [(1, none), (2, none), (3, none), (6, none)] }), (2, { slots := [(1, none), (2, none), (3, none), (5, none)] }), (0, { slots := [(1, none), (2, none), (3, none), (4, none)], own := [(2,0,40),(2,1,40)] })]),
  (25, [(0, { slots := [(0, none), (1, none), (2, none), (9, none), (10, none)], dat := [(0,1,51),(2,1,51),(1,1,51),(3,1,51)] })]),
  (26, [(0, { slots := [(1, none), (2, none), (6, none), (8, none), (9, none), (10, none), (54, none), (55, none), (56, none)] })]),
  (27, [(4, { slots := [(1, none), (3, none), (4, none), (5, none), (6, none), (7, none)] }), (2, { slots := [(1, none), (3, none), (4, none), (5, none)] }), (0, { slots := [(1, none), (3, none)] })]),
  (28, [(0, { slots := [(2, none), (4, none), (6, none), (7, none)] })]),
  (33, [(0, { slots := [(2, none), (5, none), (6, none), (7, none), (18, none), (19, none), (20, none)] })]),
  (36, [(0, { slots := [(0, none), (1, none), (5, none)] })]),
  (38, [(0, { slots := [(6, none), (7, none), (8, none)] })]),
  (40, [(0, { slots := [(3, none), (7, none), (8, none), (9, none)] })]),
  (41, [(0, { slots := [(1, none), (2, none), (15, none), (16, none), (17, none)] })]),
  (43, [(2, { slots := [(0, none), (3, none), (4, none)] }), (0, { slots := [(0, none), (3, none)] })]),
  (44, [(2, { slots := [(1, none), (6, none), (7, none), (8, none), (12, none), (36, none), (37, none), (38, none), (79, none), (80, none), (81, none)] }), (0, { slots := [(1, none), (6, none), (7, none), (36, none), (37, none), (38, none)] })]),
  (45, [(6, { slots := [(1, none), (2, none), (3, none), (6, none), (63, none), (64, none), (65, none)] }), (4, { slots := [(1, none), (2, none), (3, none), (6, none), (47, none), (48, none), (49, none)] }), (2, { slots := [(1, none), (2, none), (3, none), (6, none), (31, none), (32, none), (33, none)] }), (0, { slots := [(1, none), (2, none), (3, none), (14, none), (15, none), (16, none)] })]),
  (46, [(2, { slots := [(1, none), (2, none), (6, none), (7, none), (8, none), (10, none), (12, none), (13, none)] }), (0, { slots := [(1, none), (2, none), (6, none), (7, none), (8, none)] })]),
  (47, [(0, { slots := [(0, none), (3, none), (4, none), (5, none), (12, none), (13, none), (14, none)], own := [(1000,3,81),(0,0,81)] })]),
  (48, [(0, { slots := [(1, none), (3, none), (12, none), (13, none), (14, none)], own := [(1000,3,81)] })]),
  (50, [(4, { slots := [(3, none), (4, none), (7, none)] }), (2, { slots := [(0, none), (3, none), (4, none), (6, none)] }), (0, { slots := [(0, none), (3, none), (4, none), (5, none)] })]),
  (51, [(0, { slots := [(0, none), (1, none), (5, none)] })]),
  (54, [(2, { slots := [(0, none), (3, none), (4, none)] }), (0, { slots := [(0, none), (3, none)] })]),
  (55, [(2, { slots := [(1, none), (4, none)] }), (0, { slots := [(1, none), (3, none)] })]),
  (57, [(0, { slots := [(0, none), (3, none), (5, none)], sole := [0] })]),
  (61, [(2, { slots := [(2, none), (5, none), (6, none), (7, none), (8, none), (30, none), (31, none)] }), (0, { slots := [(2, none), (6, none), (7, none), (8, none)] })]),
  (62, [(0, { slots := [(1, none), (7, none), (8, none), (9, none)] })]),
  (64, [(0, { slots := [(3, none), (6, none), (7, none), (8, none)] })]),
  (65, [(0, { slots := [(0, none), (3, none)] })]),
  (67, [(2, { slots := [(1, none), (2, none), (4, none), (5, none), (6, none), (7, none), (8, none)] }), (0, { slots := [(1, none), (2, none), (4, none), (5, none)] })]),
  (68, [(0, { slots := [(1, none), (2, none), (4, none), (6, none), (7, none)] })]),
  (69, [(2, { slots := [(1, none), (2, none), (6, none), (7, none), (8, none), (9, none), (10, none), (11, none)] }), (0, { slots := [(1, none), (2, none), (6, none), (7, none), (8, none)] })]),
  (70, [(4, { slots := [(1, none), (2, none), (5, none), (6, none), (10, none), (13, none), (14, none)] }), (2, { slots := [(1, none), (2, none), (5, none), (6, none), (10, none)] }), (0, { slots := [(1, none), (2, none), (5, none), (6, none), (7, none)] })]),
  (71, [(0, { slots := [(0, none), (1, none), (7, none), (8, none)] })]),
  (73, [(0, { slots := [(1, none), (2, none), (6, none), (22, none), (23, none), (51, none)] })]),
  (78, [(2, { slots := [(2, none), (5, none), (6, none), (10, none)] }), (0, { slots := [(2, none), (5, none), (6, none), (7, none)] })]),
  (85, [(0, { slots := [(0, none), (1, none), (12, none), (13, none)] })]),
  (89, [(0, { slots := [(0, none), (1, none), (12, none), (13, none)] })]),
  (90, [(0, { slots := [(1, none), (2, none), (4, none), (5, none)] })]),
  (93, [(0, { slots := [(0, none), (1, none), (5, none)] })]),
  (98, [(2, { slots := [(6, none), (25, none), (26, none), (27, none)] }), (0, { slots := [(0, none), (3, none), (9, none), (10, none), (11, none)] })]),
  (105, [(2, { slots := [(3, none), (4, none), (6, none), (7, none)] }), (0, { slots := [(3, none), (4, none)] })]),
  (106, [(0, { slots := [(0, none), (2, none), (4, none), (7, none)] })]),
  (107, [(0, { slots := [(0, none), (1, none), (5, none)] })]),
  (108, [(0, { slots := [(0, none), (7, none)] })]),
  (109, [(0, { slots := [(0, none), (3, none), (4, none)] })]),
  (118, [(0, { slots := [(2, none), (5, none), (20, none), (21, none), (22, none)] })]),
  (119, [(0, { slots := [(3, none), (8, none), (9, none), (10, none)] })]),
  (120, [(0, { slots := [(2, none), (3, none), (4, none), (18, none), (19, none), (20, none)] })]),
  (121, [(4, { slots := [(55, none), (56, none), (57, none)] }), (2, { slots := [(2, none), (4, none), (45, none), (46, none), (47, none)] }), (0, { slots := [(2, none), (3, none), (4, none), (12, none), (13, none), (14, none)] })]),
  (122, [(0, { slots := [(1, none), (2, none), (5, none)] })]),
  (123, [(2, { slots := [(3, none), (4, none), (5, none)] }), (0, { slots := [(3, none), (4, none)] })]),
  (124, [(2, { slots := [(1, none), (2, none), (4, none), (5, none)] }), (0, { slots := [(1, none), (2, none), (4, none)] })]),
  (125, [(0, { slots := [(0, none), (1, none), (5, none), (6, none)] })]),
  (126, [(0, { slots := [(3, none), (8, none), (10, none), (11, none)] })]),
  (128, [(2, { slots := [(1, none), (4, none), (5, none), (6, none), (7, none)] }), (0, { slots := [(1, none), (4, none), (5, none)] })]),
  (134, [(2, { slots := [(6, none), (25, none), (26, none), (27, none)] }), (0, { slots := [(0, none), (3, none), (9, none), (10, none), (11, none)] })]),
  (135, [(0, { slots := [(0, none), (1, none), (7, none), (8, none)] })]),
  (137, [(0, { slots := [(1, none), (4, none), (6, none), (7, none)] })]),
  (138, [(0, { slots := [(0, none), (1, none), (2, none), (3, none), (9, none), (10, none)] })]),
  (140, [(0, { slots := [(0, none), (6, none)] })]),
  (141, [(0, { slots := [(0, none), (1, none), (7, none), (8, none)] })]),
  (160, [(0, { slots := [(0, none), (1, none), (8, none)] })]),
  (163, [(2, { slots := [(0, none), (3, none), (7, none), (8, none), (9, none), (15, none), (16, none), (17, none)] }), (0, { slots := [(0, none), (7, none), (8, none), (9, none)] })]),
  (167, [(0, { slots := [(0, none), (1, none), (7, none), (8, none)] })]),
  (168, [(0, { slots := [(0, none), (1, none), (5, none), (6, none), (7, none)] })]),
  (174, [(0, { slots := [(3, none), (6, none), (7, none), (8, none)] })]),
  (176, [(0, { slots := [(0, none), (1, none), (5, none), (6, none), (9, none), (10, none)] })]),
  (178, [(0, { slots := [(1, none), (5, none), (10, none), (11, none)] })]),
  (183, [(1, { slots := [(2, none), (4, none), (5, none), (59, none), (60, none)] })]),
  (184, [(0, { slots := [(1, none), (3, none), (4, none)] })]),
  (185, [(4, { slots := [(1, none), (2, none), (4, none), (5, none), (7, none), (8, none), (9, none)] }), (2, { slots := [(1, none), (2, none), (4, none), (5, none), (7, none)] }), (0, { slots := [(1, none), (2, none), (4, none)] })]),
  (188, [(0, { slots := [(1, none), (2, none), (6, none), (7, none)] })]),
  (193, [(0, { slots := [(1, none), (2, none), (3, none), (7, none), (8, none)] })]),
  (194, [(0, { slots := [(0, none), (6, none), (7, none), (8, none)] })]),
  (195, [(0, { slots := [(0, none), (2, none), (12, none), (13, none), (14, none)] })]),
  (198, [(0, { slots := [(0, none), (1, none), (6, none), (7, none)] })]),
  (199, [(0, { slots := [(0, none), (1, none), (5, none)] })]),
  (203, [(2, { slots := [(6, none), (25, none), (26, none), (27, none)] }), (0, { slots := [(0, none), (3, none), (9, none), (10, none), (11, none)] })]),
  (211, [(0, { slots := [(1, none), (2, none), (3, none), (7, none)] })]),
  (212, [(0, { slots := [(1, none), (2, none), (3, none), (7, none)] })]),
  (213, [(0, { slots := [(0, none), (1, none), (7, none), (8, none)] })]),
  (214, [(0, { slots := [(0, none), (1, none), (7, none), (8, none)] })]),
  (217, [(0, { slots := [(0, none), (1, none), (12, none), (13, none)] })]),
  (223, [(2, { slots := [(2, none), (4, none), (72, none), (73, none), (74, none)] }), (0, { slots := [(2, none), (3, none), (4, none), (39, none), (40, none), (41, none)] })]),
  (224, [(0, { slots := [(2, none), (4, none), (5, none), (7, none), (10, none), (11, none)] })]),
  (226, [(4, { slots := [(1, none), (2, none), (4, none), (9, none)] }), (2, { slots := [(1, none), (2, none), (4, none), (5, none), (6, none)] }), (0, { slots := [(1, none), (2, none), (4, none)] })]),
  (227, [(2, { slots := [(1, none), (4, none), (5, none), (6, none), (7, none)] }), (0, { slots := [(1, none), (4, none), (5, none)] })]),
  (228, [(0, { slots := [(0, none), (4, none), (5, none), (6, none)] })]),
  (229, [(0, { slots := [(1, none), (4, none), (6, none), (7, none)] })]),
  (230, [(2, { slots := [(0, none), (1, none), (7, none), (8, none)] }), (0, { slots := [(0, none), (1, none), (7, none)] })]),
  (231, [(0, { slots := [(0, none), (1, none), (2, none), (7, none), (8, none)] })]),
  (233, [(1, { slots := [(0, none), (2, none), (4, none), (6, none), (13, none), (14, none)] })]),
  (236, [(0, { slots := [(0, none), (3, none), (4, none)] })]),
  (237, [(4, { slots := [(3, none), (6, none), (7, none)] }), (2, { slots := [(1, none), (3, none), (5, none)] }), (0, { slots := [(1, none), (3, none), (4, none)] })]),
  (238, [(2, { slots := [(1, none), (2, none), (3, none), (7, none), (8, none)] }), (0, { slots := [(1, none), (2, none), (3, none), (7, none)] })]),
  (239, [(0, { slots := [(2, none), (4, none)] })]),
  (242, [(1, { slots := [(0, none), (1, none), (5, none), (6, none), (7, none), (8, none), (9, none), (10, none)] })]),
  (248, [(0, { slots := [(2, none), (3, none), (4, none), (6, none), (14, none), (15, none), (16, none)] })]),
  (250, [(2, { slots := [(91, none), (92, none), (93, none)] }), (0, { slots := [(2, none), (4, none), (5, none), (7, none), (8, none), (9, none), (10, none), (31, none), (32, none), (33, none)] })]),
  (251, [(1, { slots := [(2, none), (4, none), (8, none), (50, none), (51, none), (52, none)] })]),
  (252, [(2, { slots := [(2, none), (3, none), (6, none), (8, none), (23, none), (24, none), (25, none), (35, none), (36, none), (37, none)] }), (0, { slots := [(2, none), (3, none), (6, none), (23, none), (24, none), (25, none)] })]),
  (254, [(4, { slots := [(1, none), (2, none), (4, none), (12, none)] }), (2, { slots := [(1, none), (2, none), (4, none), (5, none), (6, none)] }), (0, { slots := [(1, none), (2, none), (4, none)] })]),
  (256, [(0, { slots := [(1, none), (3, none), (5, none), (7, none), (9, none)] })]),
  (257, [(0, { slots := [(1, none), (2, none), (3, none), (7, none), (8, none)] })]),
  (258, [(0, { slots := [(1, none), (2, none), (5, none)] })]),
  (259, [(0, { slots := [(0, none), (3, none), (5, none), (10, none), (11, none), (12, none)] })]),
  (260, [(0, { slots := [(1, none), (3, none), (4, none)] })]),
  (262, [(0, { slots := [(1, none), (3, none), (5, none), (8, none), (9, none)] })]),
  (269, [(2, { slots := [(0, none), (1, none), (5, none), (6, none), (7, none), (8, none), (10, none)] }), (0, { slots := [(0, none), (1, none), (5, none), (6, none), (7, none), (8, none), (9, none)] })]),
  (272, [(1, { slots := [(2, none), (18, none), (19, none), (20, none)] })]),
  (275, [(0, { slots := [(1, none), (2, none), (4, none)] })]),
  (276, [(2, { slots := [(1, none), (3, none), (5, none), (7, none), (15, none)] }), (0, { slots := [(1, none), (3, none), (5, none), (7, none), (10, none), (12, none)] })]),
  (277, [(0, { slots := [(0, none), (1, none), (5, none)] })]),
  (278, [(1, { slots := [(1, none), (3, none), (4, none), (6, none), (11, none)] })]),
  (279, [(0, { slots := [(6, none), (7, none), (9, none)] })]),
  (280, [(2, { slots := [(1, none), (2, none), (3, none), (7, none), (8, none)] }), (0, { slots := [(1, none), (2, none), (3, none), (7, none)] })]),
  (281, [(0, { slots := [(3, none), (4, none)] })]),
  (282, [(0, { slots := [(1, none), (3, none)] })]),
  (284, [(0, { slots := [(0, none), (3, none)] })]),
  (285, [(0, { slots := [(0, none), (2, none), (4, none), (7, none)] })]),
  (286, [(0, { slots := [(2, none), (3, none), (8, none), (9, none), (10, none)] })]),
  (291, [(2, { slots := [(4, none), (6, none), (7, none), (8, none)] }), (0, { slots := [(0, none), (4, none), (5, none)] })]),
  (293, [(0, { slots := [(1, none), (4, none), (5, none), (6, none), (7, none)] })]),
  (294, [(4, { slots := [(1, none), (4, none), (5, none), (6, none), (10, none)] }), (2, { slots := [(1, none), (2, none), (4, none), (5, none), (6, none), (8, none)] }), (0, { slots := [(1, none), (2, none), (4, none), (5, none), (6, none), (7, none)] })]),
  (296, [(0, { slots := [(1, none), (3, none), (4, none), (6, none), (11, none)] })]),
  (297, [(0, { slots := [(1, none), (3, none), (4, none)] })]),
  (298, [(0, { slots := [(1, none), (3, none), (4, none)] })]),
  (299, [(0, { slots := [(1, none), (3, none), (4, none)] })]),
  (302, [(2, { slots := [(3, none), (7, none)] }), (0, { slots := [(0, none), (3, none), (5, none), (6, none)] })]),
  (303, [(0, { slots := [(0, none), (3, none), (4, none)] })]),
  (306, [(4, { slots := [(1, none), (3, none), (11, none), (12, none)] }), (2, { slots := [(1, none), (2, none), (3, none), (7, none), (8, none), (9, none), (10, none)] }), (0, { slots := [(1, none), (2, none), (3, none), (7, none), (8, none), (9, none)] })]),
  (307, [(2, { slots := [(1, none), (2, none), (3, none), (7, none), (8, none), (9, none)] }), (0, { slots := [(1, none), (2, none), (3, none), (7, none), (8, none)] })]),
  (310, [(0, { slots := [(1, none), (3, none)] })]),
  (313, [(0, { slots := [(1, none), (3, none)] })]),
  (314, [(0, { slots := [(1, none), (2, none), (5, none)] })]),
  (315, [(0, { slots := [(1, none), (3, none), (5, none), (8, none)] })])]
def inlTab : List (Nat × List Nat) := [(14, [32, 76]), (24, [57]), (25, [59]), (45, [90]), (47, [96, 163]), (59, [113, 114, 115, 116, 117]), (98, [165]), (116, [113, 115]), (117, [113, 114, 115]), (203, [243])]
def mintTab : List (Nat × List Nat) := []
def oslTab : List (Nat × List Nat) := []
def stopTab : List (Nat × List Nat) := [(14, [31])]
def deadTab : List (Nat × List Nat) := []
def ownTab : List (Nat × List (Nat × List (Nat × Nat))) := [(24, [(3, [(0, 40), (1, 40)])]), (45, [(3, [(0, 40), (1, 40)])]), (47, [(4, [(0, 81)])])]
def cutTab : List (Nat × List (Nat × Option LAn)) := [(59, [(31, some { slots := [(0, none), (3, none), (4, some (.d (.int .i64))), (5, some (.d .bool))] }), (58, some { slots := [(0, none), (3, none), (6, some (.d (.int .i64))), (7, some (.d .bool))] })]), (116, [(7, some { slots := [(0, none), (3, none), (4, some (.d (.int .i64))), (5, some (.d .bool))] }), (22, some { slots := [(0, none), (3, none), (4, none), (8, some (.d (.int .i64))), (9, some (.d .bool))] }), (28, some { slots := [(0, none), (6, some (.d (.int .i64))), (7, some (.d (.int .i64)))] })]), (117, [(7, some { slots := [(0, none), (3, none), (4, some (.d (.int .i64))), (5, some (.d .bool))] }), (19, some { slots := [(0, none), (3, none), (4, none), (5, some (.d .bool)), (6, some (.d (.int .i64)))] }), (22, some { slots := [(0, none), (3, none), (4, none), (6, some (.d (.int .i64)))] })])]
def rtTab : List (Nat × Option (List Nat)) := []
def noTurn : List Nat := []
def noLAn : LAn := { slots := [] }
def cs : FuncId → CfgT := fun f => { me := f, o := { inl := look [] inlTab f, mint := look [] mintTab f, osl := look [] oslTab f, dead := look [] deadTab f, own := look [] ownTab f, stop := look [] stopTab f }, loops := look noLAn (look [] loopTab f), cuts := look none (look [] cutTab f), turn := !(noTurn.contains f), rt := look none rtTab f }
end Go.Vm
end

section
namespace Go.Vm
open Go.Proofs
/-- What is known of functions from elsewhere: nothing. -/
def kn : FuncId → List V → Option PRes := fun _ _ => none
theorem kn_good : KGood Tryz.prog kn := fun _ _ _ _ h => by cases h
end Go.Vm
end

section
namespace Go.Vm
open Go.Proofs
noncomputable def cF (f : FuncId) (args : List V) : Option PRes := callF Tryz.prog cs kn f args
noncomputable def eF : Env := envF (callF Tryz.prog cs kn)
theorem eF_call (f : FuncId) (args : List V) : eF.call f args = cF f args := rfl
theorem eF_lp {α : Type} (b : List D → Option (List D ⊕ α)) (ds : List D) : eF.lp b ds = loopF b ds := rfl
theorem cOf {f : FuncId} {args : List V} {p : PRes} (hg : goodF Tryz.prog f = true) (hk : kn f args = none) (h : (funT sy Tryz.prog cs f args).run eF = some p) : cF f args = some p := callF_of hg hk h
theorem cOfE {α : Type} {f : FuncId} {args : List V} {p : α → PRes} (hg : goodF Tryz.prog f = true) (hk : kn f args = none) (h : ∃ x, (funT sy Tryz.prog cs f args).run eF = some (p x)) : ∃ x, cF f args = some (p x) := h.imp fun _ h => callF_of hg hk h
theorem cOfP {f : FuncId} {args : List V} {Q : PRes → Prop} (hg : goodF Tryz.prog f = true) (hk : kn f args = none) (h : ∃ p, (funT sy Tryz.prog cs f args).run eF = some p ∧ Q p) : ∃ p, cF f args = some p ∧ Q p := h.imp fun _ h => ⟨callF_of hg hk h.1, h.2⟩
theorem some_and {α : Type} {a : α} {Q : α → Prop} : (∃ p, some a = some p ∧ Q p) ↔ Q a := by simp
theorem decT {p : Prop} [Decidable p] (h : p) : decide p = true := decide_eq_true h
theorem decF {p : Prop} [Decidable p] (h : ¬ p) : decide p = false := decide_eq_false h
theorem irows_cell {la : List Int} {i : Int} (h0 : 0 ≤ i) (h1 : i < (la.length : Int)) : sy.cell (sy.row (irows la) i) 0 = some (.int .i64 (la.getD i.toNat 0)) := by
  rw [sy_row, irows_get _ _ (by omega)]; rfl
theorem irows_at {la : List Int} {i : Nat} {x : Int} (h : la[i]? = some x) : sy.cell (sy.row (irows la) (i : Int)) 0 = some (.int .i64 x) := by
  obtain ⟨h1, h2⟩ := getElem?_some_getD (d := 0) h
  rw [irows_cell (by omega) (by omega), Int.toNat_natCast, h1]
theorem inr_at {i n : Nat} (h : i < n) : decide (0 ≤ (i : Int) ∧ (i : Int) < (n : Int)) = true := decide_eq_true ⟨by omega, by omega⟩
theorem ilt_at {i n : Nat} (h : i < n) : decide ((i : Int) < (n : Int)) = true := decide_eq_true (by omega)
theorem ilt_self (n : Nat) : decide ((n : Int) < (n : Int)) = false := decide_eq_false (by omega)
theorem wrap_succ {i n : Nat} (h : i < n) (hn : n ≤ 1000000000000) : IntKind.i64.wrap ((i : Int) + 1) = (i : Int) + 1 := wrap_id (by omega) (by omega)
theorem mixedOrders : Tryz.prog.follows .mixedOrders = true := by kernel_rfl
end Go.Vm
end

section
set_option maxRecDepth 10000
namespace Go.Vm
/-- What steps are, in one. -/
theorem go1 : type_of% (And.intro @sy_wrap (And.intro @sy_add (And.intro @sy_sub (And.intro @sy_mul (And.intro @sy_ieq (And.intro @sy_ilt (And.intro @sy_ile (And.intro @sy_seq (And.intro @sy_beq (And.intro @sy_bor (And.intro @sy_bnot (And.intro @sy_imax (And.intro @sy_imin (And.intro @sy_rlen (And.intro @sy_slen (And.intro @sy_sapp (And.intro @sy_inr (And.intro @sy_nat (And.intro @sy_cell0 (And.intro @sy_cellS (And.intro @sy_skip0 (And.intro @sy_inrn (And.intro @sy_rapp (And.intro @sy_fits (And.intro @sy_cutok (And.intro @sy_cut (And.intro @sy_scut (And.intro @sy_sbyte (And.intro @sy_mkok (And.intro @sy_mkok0 (And.intro @sy_mkz (And.intro @sy_rep (And.intro @sy_head (And.intro @sy_deq (And.intro @eqDs_int (And.intro @eqDs_nil (And.intro @opI_int (And.intro @opB_bool (And.intro @opS_str (And.intro @opL_sl (And.intro @opM_own (And.intro @leaves_val (And.intro @leaves_own (And.intro @cutO_bool (And.intro @bif_bool (And.intro @cutO_inl (And.intro @cutO_inr (And.intro @eF_call (And.intro @eF_lp (And.intro @Nat.zero_add (And.intro @Bool.cond_false_right (And.intro @Bool.cond_true_left (And.intro @Bool.cond_false_left (And.intro @Bool.cond_true_right (And.intro @Bool.not_true (And.intro @Bool.not_false (And.intro @Bool.not_not (And.intro @decide_true (And.intro @decide_false (And.intro @Bool.true_and (And.intro @Bool.and_true (And.intro @Bool.false_and (And.intro @Bool.and_false (And.intro @Bool.or_false (And.intro @Bool.false_or (And.intro @Bool.true_or (And.intro @Bool.or_true (And.intro @true_and (@and_true))))))))))))))))))))))))))))))))))))))))))))))))))))))))))))))))))))) := And.intro @sy_wrap (And.intro @sy_add (And.intro @sy_sub (And.intro @sy_mul (And.intro @sy_ieq (And.intro @sy_ilt (And.intro @sy_ile (And.intro @sy_seq (And.intro @sy_beq (And.intro @sy_bor (And.intro @sy_bnot (And.intro @sy_imax (And.intro @sy_imin (And.intro @sy_rlen (And.intro @sy_slen (And.intro @sy_sapp (And.intro @sy_inr (And.intro @sy_nat (And.intro @sy_cell0 (And.intro @sy_cellS (And.intro @sy_skip0 (And.intro @sy_inrn (And.intro @sy_rapp (And.intro @sy_fits (And.intro @sy_cutok (And.intro @sy_cut (And.intro @sy_scut (And.intro @sy_sbyte (And.intro @sy_mkok (And.intro @sy_mkok0 (And.intro @sy_mkz (And.intro @sy_rep (And.intro @sy_head (And.intro @sy_deq (And.intro @eqDs_int (And.intro @eqDs_nil (And.intro @opI_int (And.intro @opB_bool (And.intro @opS_str (And.intro @opL_sl (And.intro @opM_own (And.intro @leaves_val (And.intro @leaves_own (And.intro @cutO_bool (And.intro @bif_bool (And.intro @cutO_inl (And.intro @cutO_inr (And.intro @eF_call (And.intro @eF_lp (And.intro @Nat.zero_add (And.intro @Bool.cond_false_right (And.intro @Bool.cond_true_left (And.intro @Bool.cond_false_left (And.intro @Bool.cond_true_right (And.intro @Bool.not_true (And.intro @Bool.not_false (And.intro @Bool.not_not (And.intro @decide_true (And.intro @decide_false (And.intro @Bool.true_and (And.intro @Bool.and_true (And.intro @Bool.false_and (And.intro @Bool.and_false (And.intro @Bool.or_false (And.intro @Bool.false_or (And.intro @Bool.true_or (And.intro @Bool.or_true (And.intro @true_and (@and_true))))))))))))))))))))))))))))))))))))))))))))))))))))))))))))))))))))
end Go.Vm
end

section
namespace Go.Vm
/-! ### steps through a printed function whose data have known shapes -/
section
variable {α β : Type}
theorem st_bind {v : Option α} {f : α → Option β} {n : α} {p : β} (h : v = some n) (k : f n = some p) : v.bind f = some p := by rw [h]; exact k
theorem st_cut {X : Option (List D ⊕ α)} {K : List D → Option α} {ds : List D} {p : α} (h : X = some (.inl ds)) (k : K ds = some p) : cutO X K = some p := by rw [h]; exact k
theorem st_t {c : Bool} {a b : Option α} {p : α} (h : c = true) (k : a = some p) : (bif c then a else b) = some p := by rw [h]; exact k
theorem st_f {c : Bool} {a b : Option α} {p : α} (h : c = false) (k : b = some p) : (bif c then a else b) = some p := by rw [h]; exact k
theorem st_opI {v : Option D} {k : IntKind} {n : Int} (h : v = some (.int k n)) : opI v k = some n := by rw [h]; simp [opI]
theorem st_opB {v : Option D} {n : Bool} (h : v = some (.bool n)) : opB v = some n := by rw [h]; rfl
theorem st_opL {v : Option D} {sz : Nat} {n : List (List D)} (h : v = some (.sl sz n)) : opL v sz = some n := by rw [h]; simp [opL]
/-- What a round's answer leads to. -/
noncomputable def lpK (b : List D → Option (List D ⊕ α)) : List D ⊕ α → Option α
  | .inl ds => eF.lp b ds
  | .inr a => some a
theorem st_lp {b : List D → Option (List D ⊕ α)} {ds : List D} {r : List D ⊕ α} {p : α} (h : b ds = some r) (k : lpK b r = some p) : eF.lp b ds = some p := by
  show loopF b ds = some p
  rw [loopF_eq, h]
  cases r with
  | inl d => exact k
  | inr a => exact k
theorem st_inl {b : List D → Option (List D ⊕ α)} {ds : List D} {p : α} (k : eF.lp b ds = some p) : lpK b (.inl ds) = some p := k
theorem st_inr {b : List D → Option (List D ⊕ α)} {a : α} : lpK b (.inr a) = some a := rfl
theorem st_some {a : α} : some a = some a := rfl
end
end Go.Vm
end

section
set_option maxRecDepth 1000000
set_option maxHeartbeats 0
namespace Go.Vm
open Go.Proofs
def g12 (A : Sy) (E : Env) (s_ : List (List D)) : Option PRes :=
 E.lp (fun ds1 =>
 (opI (A.cell ds1 0) .i64).bind fun n2 =>
 (opL (A.cell ds1 1) 6).bind fun l3 =>
 (opI (A.cell ds1 2) .i64).bind fun n4 =>
 (opI (A.cell ds1 3) .i64).bind fun n5 =>
 bif (A.ilt n5 n4) then
 bif (A.inr n5 (A.rlen l3)) then
 (opS (A.cell (A.row l3 n5) 0)).bind fun s6 =>
 (opI (A.cell (A.row l3 n5) 1) .i64).bind fun n7 =>
 (opI (A.cell (A.row l3 n5) 2) .i64).bind fun n8 =>
 (opI (A.cell (A.row l3 n5) 3) .i64).bind fun n9 =>
 (opI (A.cell (A.row l3 n5) 4) .i64).bind fun n10 =>
 (opL (A.cell (A.row l3 n5) 5) 1).bind fun l11 =>
 (E.call 37 [(.agg [(.d (.int .i64 n7)), (.d (.int .i64 n8)), (.d (.int .i64 n9))])]).bind fun p12 =>
 (opI (A.cell p12.leaves 0) .i64).bind fun n14 =>
 some (.inl [(.int .i64 (A.wrap .i64 (A.add n2 n14))), (.sl 6 l3), (.int .i64 n4), (.int .i64 (A.wrap .i64 (A.add n5 1)))])
 else
 none
 else
 some (.inr (.val [(.int .i64 n2)]))
 ) [(.int .i64 0), (.sl 6 s_), (.int .i64 (A.rlen s_)), (.int .i64 0)]
theorem g12_eq (A : Sy) (E : Env) (s_ : List (List D)) : (funT A Tryz.prog cs 12 [V.d (.sl 6 s_)]).run E = g12 A E s_ := by kernel_rfl
def g13 (A : Sy) (E : Env) (s_ : List (List D)) : Option PRes :=
 E.lp (fun ds1 =>
 (opL (A.cell ds1 0) 6).bind fun l2 =>
 (opI (A.cell ds1 1) .i64).bind fun n3 =>
 (opI (A.cell ds1 2) .i64).bind fun n4 =>
 bif (A.ilt n4 (A.rlen l2)) then
 bif (A.inr n4 (A.rlen l2)) then
 (opI (A.cell (A.skip 1 (A.row l2 n4)) 0) .i64).bind fun n5 =>
 (opI (A.cell (A.skip 1 (A.row l2 n4)) 1) .i64).bind fun n6 =>
 (opI (A.cell (A.skip 1 (A.row l2 n4)) 2) .i64).bind fun n7 =>
 (E.call 35 [(.agg [(.d (.int .i64 n5)), (.d (.int .i64 n6)), (.d (.int .i64 n7))])]).bind fun p8 =>
 (opI (A.cell p8.leaves 0) .i64).bind fun n10 =>
 some (.inl [(.sl 6 l2), (.int .i64 (A.wrap .i64 (A.add n3 n10))), (.int .i64 (A.wrap .i64 (A.add n4 1)))])
 else
 none
 else
 some (.inr (.val [(.int .i64 n3)]))
 ) [(.sl 6 s_), (.int .i64 0), (.int .i64 0)]
theorem g13_eq (A : Sy) (E : Env) (s_ : List (List D)) : (funT A Tryz.prog cs 13 [V.d (.sl 6 s_)]).run E = g13 A E s_ := by kernel_rfl
def g14 (A : Sy) (E : Env) (l_ : List (List D)) (s_ : List (List D)) : Option PRes :=
 cutO (
 bif (A.ilt 120 (A.rlen s_)) then
 some (.inl [(.bool true)])
 else
 (E.call 12 [(.d (.sl 6 s_))]).bind fun p1 =>
 (opI (A.cell p1.leaves 0) .i64).bind fun n3 =>
 some (.inl [(.bool (A.ilt 1000 n3))])
 ) fun ds4 =>
 (opB (A.cell ds4 0)).bind fun b5 =>
 bif b5 then
 some (.val [(.bool false)])
 else
 E.lp (fun ds6 =>
 (opL (A.cell ds6 0) 2).bind fun l7 =>
 (opL (A.cell ds6 1) 6).bind fun l8 =>
 (opI (A.cell ds6 2) .i64).bind fun n9 =>
 (opI (A.cell ds6 3) .i64).bind fun n10 =>
 (opI (A.cell ds6 4) .i64).bind fun n11 =>
 (opL (A.cell ds6 5) 1).bind fun l12 =>
 bif (A.ilt n10 n9) then
 bif (A.inr n10 (A.rlen l8)) then
 (opS (A.cell (A.row l8 n10) 0)).bind fun s13 =>
 (opI (A.cell (A.row l8 n10) 1) .i64).bind fun n14 =>
 (opI (A.cell (A.row l8 n10) 2) .i64).bind fun n15 =>
 (opI (A.cell (A.row l8 n10) 3) .i64).bind fun n16 =>
 (opI (A.cell (A.row l8 n10) 4) .i64).bind fun n17 =>
 (opL (A.cell (A.row l8 n10) 5) 1).bind fun l18 =>
 (E.call 37 [(.agg [(.d (.int .i64 n14)), (.d (.int .i64 n15)), (.d (.int .i64 n16))])]).bind fun p19 =>
 (opI (A.cell p19.leaves 0) .i64).bind fun n21 =>
 bif (A.bnot (A.ieq n11 n17)) then
 some (.inr (.val [(.bool false)]))
 else
 (E.call 38 [(.d (.str s13))]).bind fun p22 =>
 (opB (A.cell p22.leaves 0)).bind fun b24 =>
 bif (A.bnot b24) then
 some (.inr (.val [(.bool false)]))
 else
 (E.call 39 [(.d (.sl 2 l7)), (.agg [(.d (.int .i64 n14)), (.d (.int .i64 n15)), (.d (.int .i64 n16))]), (.d (.sl 1 l18))]).bind fun p25 =>
 (opB (A.cell p25.leaves 0)).bind fun b27 =>
 bif (A.bnot b27) then
 some (.inr (.val [(.bool false)]))
 else
 bif (A.fits l12 [[(.str s13)]] 16) then
 some (.inl [(.sl 2 l7), (.sl 6 l8), (.int .i64 n9), (.int .i64 (A.wrap .i64 (A.add n10 1))), (.int .i64 (A.wrap .i64 (A.add n11 n21))), (.sl 1 (A.rapp l12 [[(.str s13)]]))])
 else
 none
 else
 none
 else
 (E.call 40 [(.d (.sl 1 l12))]).bind fun p28 =>
 (opB (A.cell p28.leaves 0)).bind fun b30 =>
 some (.inr (.val [(.bool b30)]))
 ) [(.sl 2 l_), (.sl 6 s_), (.int .i64 (A.rlen s_)), (.int .i64 0), (.int .i64 0), (.sl 1 [])]
theorem g14_eq (A : Sy) (E : Env) (l_ : List (List D)) (s_ : List (List D)) : (funT A Tryz.prog cs 14 [V.d (.sl 2 l_), V.d (.sl 6 s_)]).run E = g14 A E l_ s_ := by kernel_rfl
def g51 (A : Sy) (E : Env) (l_ : List (List D)) (s_ : List (List D)) : Option PRes :=
 cutO (
 bif (A.ilt 120 (A.rlen s_)) then
 some (.inl [(.bool true)])
 else
 (E.call 13 [(.d (.sl 6 s_))]).bind fun p1 =>
 (opI (A.cell p1.leaves 0) .i64).bind fun n3 =>
 some (.inl [(.bool (A.ilt 1000 n3))])
 ) fun ds4 =>
 (opB (A.cell ds4 0)).bind fun b5 =>
 bif b5 then
 some (.val [(.bool false)])
 else
 E.lp (fun ds6 =>
 (opL (A.cell ds6 0) 2).bind fun l7 =>
 (opL (A.cell ds6 1) 6).bind fun l8 =>
 (opI (A.cell ds6 2) .i64).bind fun n9 =>
 bif (A.ilt n9 (A.rlen l8)) then
 bif (A.inr n9 (A.rlen l8)) then
 (opS (A.cell (A.row l8 n9) 0)).bind fun s10 =>
 (E.call 105 [(.d (.str s10))]).bind fun p11 =>
 (opB (A.cell p11.leaves 0)).bind fun b13 =>
 bif (A.bnot b13) then
 some (.inr (.val [(.bool false)]))
 else
 bif (A.inr n9 (A.rlen l8)) then
 (opI (A.cell (A.skip 1 (A.row l8 n9)) 0) .i64).bind fun n14 =>
 (opI (A.cell (A.skip 1 (A.row l8 n9)) 1) .i64).bind fun n15 =>
 (opI (A.cell (A.skip 1 (A.row l8 n9)) 2) .i64).bind fun n16 =>
 bif (A.inr n9 (A.rlen l8)) then
 (opL (A.cell (A.skip 5 (A.row l8 n9)) 0) 1).bind fun l17 =>
 (E.call 106 [(.d (.sl 2 l7)), (.agg [(.d (.int .i64 n14)), (.d (.int .i64 n15)), (.d (.int .i64 n16))]), (.d (.sl 1 l17))]).bind fun p18 =>
 (opB (A.cell p18.leaves 0)).bind fun b20 =>
 bif (A.bnot b20) then
 some (.inr (.val [(.bool false)]))
 else
 bif (A.inr n9 (A.rlen l8)) then
 (opI (A.cell (A.skip 4 (A.row l8 n9)) 0) .i64).bind fun n21 =>
 bif (A.cutok 0 n9 (A.rlen l8)) then
 (E.call 13 [(.d (.sl 6 (A.cut l8 0 n9)))]).bind fun p22 =>
 (opI (A.cell p22.leaves 0) .i64).bind fun n24 =>
 bif (A.bnot (A.ieq n21 n24)) then
 some (.inr (.val [(.bool false)]))
 else
 bif (A.inr n9 (A.rlen l8)) then
 (opS (A.cell (A.row l8 n9) 0)).bind fun s25 =>
 (E.call 107 [(.d (.sl 6 l8)), (.d (.str s25))]).bind fun p26 =>
 (opI (A.cell p26.leaves 0) .i64).bind fun n28 =>
 bif (A.bnot (A.ieq n28 n9)) then
 some (.inr (.val [(.bool false)]))
 else
 some (.inl [(.sl 2 l7), (.sl 6 l8), (.int .i64 (A.wrap .i64 (A.add n9 1)))])
 else
 none
 else
 none
 else
 none
 else
 none
 else
 none
 else
 none
 else
 some (.inr (.val [(.bool true)]))
 ) [(.sl 2 l_), (.sl 6 s_), (.int .i64 0)]
theorem g51_eq (A : Sy) (E : Env) (l_ : List (List D)) (s_ : List (List D)) : (funT A Tryz.prog cs 51 [V.d (.sl 2 l_), V.d (.sl 6 s_)]).run E = g51 A E l_ s_ := by kernel_rfl
def g107 (A : Sy) (E : Env) (s_ : List (List D)) (path_ : ByteArray) : Option PRes :=
 E.lp (fun ds1 =>
 (opL (A.cell ds1 0) 6).bind fun l2 =>
 (opS (A.cell ds1 1)).bind fun s3 =>
 (opI (A.cell ds1 2) .i64).bind fun n4 =>
 bif (A.ilt n4 (A.rlen l2)) then
 bif (A.inr n4 (A.rlen l2)) then
 (opS (A.cell (A.row l2 n4) 0)).bind fun s5 =>
 bif (A.seq s5 s3) then
 some (.inr (.val [(.int .i64 n4)]))
 else
 some (.inl [(.sl 6 l2), (.str s3), (.int .i64 (A.wrap .i64 (A.add n4 1)))])
 else
 none
 else
 some (.inr (.val [(.int .i64 (-1))]))
 ) [(.sl 6 s_), (.str path_), (.int .i64 0)]
theorem g107_eq (A : Sy) (E : Env) (s_ : List (List D)) (path_ : ByteArray) : (funT A Tryz.prog cs 107 [V.d (.sl 6 s_), V.d (.str path_)]).run E = g107 A E s_ path_ := by kernel_rfl
def g37 (A : Sy) (E : Env) (t_0 : Int) (t_1 : Int) (t_2 : Int) : Option PRes :=
 some (.val [(.int .i64 (A.imin (A.imax t_2 1) 8))])
theorem g37_eq (A : Sy) (E : Env) (t_0 : Int) (t_1 : Int) (t_2 : Int) : (funT A Tryz.prog cs 37 [V.agg [V.d (.int .i64 t_0), V.d (.int .i64 t_1), V.d (.int .i64 t_2)]]).run E = g37 A E t_0 t_1 t_2 := by kernel_rfl
def g35 (A : Sy) (E : Env) (t_0 : Int) (t_1 : Int) (t_2 : Int) : Option PRes :=
 bif (A.ilt t_2 1) then
 some (.val [(.int .i64 1)])
 else
 bif (A.ilt 8 t_2) then
 some (.val [(.int .i64 8)])
 else
 some (.val [(.int .i64 t_2)])
theorem g35_eq (A : Sy) (E : Env) (t_0 : Int) (t_1 : Int) (t_2 : Int) : (funT A Tryz.prog cs 35 [V.agg [V.d (.int .i64 t_0), V.d (.int .i64 t_1), V.d (.int .i64 t_2)]]).run E = g35 A E t_0 t_1 t_2 := by kernel_rfl
def g40 (A : Sy) (E : Env) (l_ : List (List D)) : Option PRes :=
 E.lp (fun ds1 =>
 (opL (A.cell ds1 0) 1).bind fun l2 =>
 (opI (A.cell ds1 1) .i64).bind fun n3 =>
 (opI (A.cell ds1 2) .i64).bind fun n4 =>
 (opL (A.cell ds1 3) 2).bind fun l5 =>
 bif (A.ilt n4 n3) then
 bif (A.inr n4 (A.rlen l2)) then
 (opS (A.cell (A.row l2 n4) 0)).bind fun s6 =>
 (opI (some (A.mval (.int .i64 0) (.str s6) l5)) .i64).bind fun n7 =>
 bif (A.ilt 0 n7) then
 some (.inr (.val [(.bool false)]))
 else
 (opI (some (A.mval (.int .i64 0) (.str s6) l5)) .i64).bind fun n8 =>
 some (.inl [(.sl 1 l2), (.int .i64 n3), (.int .i64 (A.wrap .i64 (A.add n4 1))), (.sl 2 (A.mput (.str s6) (.int .i64 (A.wrap .i64 (A.add n8 1))) l5))])
 else
 none
 else
 some (.inr (.val [(.bool true)]))
 ) [(.sl 1 l_), (.int .i64 (A.rlen l_)), (.int .i64 0), (.sl 2 [])]
theorem g40_eq (A : Sy) (E : Env) (l_ : List (List D)) : (funT A Tryz.prog cs 40 [V.d (.sl 1 l_)]).run E = g40 A E l_ := by kernel_rfl
def g38 (A : Sy) (E : Env) (s_ : ByteArray) : Option PRes :=
 (E.call 79 [(.d (.str s_)), (.d (.str (bs [47])))]).bind fun p1 =>
 (opL (A.cell p1.leaves 0) 1).bind fun l3 =>
 E.lp (fun ds4 =>
 (opL (A.cell ds4 0) 1).bind fun l5 =>
 (opI (A.cell ds4 1) .i64).bind fun n6 =>
 (opI (A.cell ds4 2) .i64).bind fun n7 =>
 bif (A.ilt n7 n6) then
 bif (A.inr n7 (A.rlen l5)) then
 (opS (A.cell (A.row l5 n7) 0)).bind fun s8 =>
 (E.call 80 [(.d (.str s8))]).bind fun p9 =>
 (opB (A.cell p9.leaves 0)).bind fun b11 =>
 bif (A.bnot b11) then
 some (.inr (.val [(.bool false)]))
 else
 some (.inl [(.sl 1 l5), (.int .i64 n6), (.int .i64 (A.wrap .i64 (A.add n7 1)))])
 else
 none
 else
 some (.inr (.val [(.bool true)]))
 ) [(.sl 1 l3), (.int .i64 (A.rlen l3)), (.int .i64 0)]
theorem g38_eq (A : Sy) (E : Env) (s_ : ByteArray) : (funT A Tryz.prog cs 38 [V.d (.str s_)]).run E = g38 A E s_ := by kernel_rfl
def g39 (A : Sy) (E : Env) (l_ : List (List D)) (t_0 : Int) (t_1 : Int) (t_2 : Int) (v_ : List (List D)) : Option PRes :=
 (E.call 83 [(.d (.sl 2 l_)), (.agg [(.d (.int .i64 t_0)), (.d (.int .i64 t_1)), (.d (.int .i64 t_2))])]).bind fun p1 =>
 (opB (A.cell p1.leaves 0)).bind fun b3 =>
 cutO (
 bif b3 then
 (E.call 37 [(.agg [(.d (.int .i64 t_0)), (.d (.int .i64 t_1)), (.d (.int .i64 t_2))])]).bind fun p4 =>
 (opI (A.cell p4.leaves 0) .i64).bind fun n6 =>
 some (.inl [(.bool (A.ieq (A.rlen v_) n6))])
 else
 some (.inl [(.bool false)])
 ) fun ds7 =>
 (opB (A.cell ds7 0)).bind fun b8 =>
 cutO (
 bif b8 then
 (E.call 84 [(.d (.sl 1 v_)), (.fn 81 [(.pel [(.sl 2 l_)]), (.pel [(.int .i64 t_0), (.int .i64 t_1), (.int .i64 t_2)])])]).bind fun p9 =>
 (opB (A.cell p9.leaves 0)).bind fun b11 =>
 some (.inl [(.bool (A.bnot b11))])
 else
 some (.inl [(.bool false)])
 ) fun ds12 =>
 (opB (A.cell ds12 0)).bind fun b13 =>
 some (.val [(.bool b13)])
theorem g39_eq (A : Sy) (E : Env) (l_ : List (List D)) (t_0 : Int) (t_1 : Int) (t_2 : Int) (v_ : List (List D)) : (funT A Tryz.prog cs 39 [V.d (.sl 2 l_), V.agg [V.d (.int .i64 t_0), V.d (.int .i64 t_1), V.d (.int .i64 t_2)], V.d (.sl 1 v_)]).run E = g39 A E l_ t_0 t_1 t_2 v_ := by kernel_rfl
def g82 (A : Sy) (E : Env) (l_ : List (List D)) (t_0 : Int) (t_1 : Int) (t_2 : Int) (n_ : Int) : Option PRes :=
 (E.call 83 [(.d (.sl 2 l_)), (.agg [(.d (.int .i64 t_0)), (.d (.int .i64 t_1)), (.d (.int .i64 t_2))])]).bind fun p1 =>
 (opB (A.cell p1.leaves 0)).bind fun b3 =>
 bif (A.bnot b3) then
 some (.val [(.bool false)])
 else
 bif (A.ieq t_0 2) then
 cutO (
 bif (A.ieq n_ 0) then
 some (.inl [(.bool true)])
 else
 some (.inl [(.bool (A.ieq n_ 1))])
 ) fun ds4 =>
 (opB (A.cell ds4 0)).bind fun b5 =>
 some (.val [(.bool b5)])
 else
 bif (A.ieq t_0 3) then
 cutO (
 bif (A.ile 0 n_) then
 bif (A.inr t_1 (A.rlen l_)) then
 (opL (A.cell (A.skip 1 (A.row l_ t_1)) 0) 1).bind fun l6 =>
 some (.inl [(.bool (A.ilt n_ (A.rlen l6)))])
 else
 none
 else
 some (.inl [(.bool false)])
 ) fun ds7 =>
 (opB (A.cell ds7 0)).bind fun b8 =>
 some (.val [(.bool b8)])
 else
 some (.val [(.bool true)])
theorem g82_eq (A : Sy) (E : Env) (l_ : List (List D)) (t_0 : Int) (t_1 : Int) (t_2 : Int) (n_ : Int) : (funT A Tryz.prog cs 82 [V.d (.sl 2 l_), V.agg [V.d (.int .i64 t_0), V.d (.int .i64 t_1), V.d (.int .i64 t_2)], V.d (.int .i64 n_)]).run E = g82 A E l_ t_0 t_1 t_2 n_ := by kernel_rfl
def g83 (A : Sy) (E : Env) (l_ : List (List D)) (t_0 : Int) (t_1 : Int) (t_2 : Int) : Option PRes :=
 cutO (
 bif (A.ilt t_2 0) then
 some (.inl [(.bool true)])
 else
 some (.inl [(.bool (A.ilt 8 t_2))])
 ) fun ds1 =>
 (opB (A.cell ds1 0)).bind fun b2 =>
 bif b2 then
 some (.val [(.bool false)])
 else
 bif (A.ieq t_0 1) then
 some (.val [(.bool (A.ieq t_1 0))])
 else
 bif (A.ieq t_0 2) then
 some (.val [(.bool (A.ieq t_1 0))])
 else
 bif (A.ieq t_0 3) then
 cutO (
 bif (A.ile 0 t_1) then
 some (.inl [(.bool (A.ilt t_1 (A.rlen l_)))])
 else
 some (.inl [(.bool false)])
 ) fun ds3 =>
 (opB (A.cell ds3 0)).bind fun b4 =>
 some (.val [(.bool b4)])
 else
 some (.val [(.bool false)])
theorem g83_eq (A : Sy) (E : Env) (l_ : List (List D)) (t_0 : Int) (t_1 : Int) (t_2 : Int) : (funT A Tryz.prog cs 83 [V.d (.sl 2 l_), V.agg [V.d (.int .i64 t_0), V.d (.int .i64 t_1), V.d (.int .i64 t_2)]]).run E = g83 A E l_ t_0 t_1 t_2 := by kernel_rfl
def g53 (A : Sy) (E : Env) (l_ : List (List D)) (t_0 : Int) (t_1 : Int) (t_2 : Int) : Option PRes :=
 cutO (
 bif (A.ilt t_0 1) then
 some (.inl [(.bool true)])
 else
 some (.inl [(.bool (A.ilt 3 t_0))])
 ) fun ds1 =>
 (opB (A.cell ds1 0)).bind fun b2 =>
 cutO (
 bif b2 then
 some (.inl [(.bool true)])
 else
 some (.inl [(.bool (A.ilt t_2 0))])
 ) fun ds3 =>
 (opB (A.cell ds3 0)).bind fun b4 =>
 cutO (
 bif b4 then
 some (.inl [(.bool true)])
 else
 some (.inl [(.bool (A.ilt 8 t_2))])
 ) fun ds5 =>
 (opB (A.cell ds5 0)).bind fun b6 =>
 bif b6 then
 some (.val [(.bool false)])
 else
 bif (A.ieq t_0 3) then
 cutO (
 bif (A.ile 0 t_1) then
 some (.inl [(.bool (A.ilt t_1 (A.rlen l_)))])
 else
 some (.inl [(.bool false)])
 ) fun ds7 =>
 (opB (A.cell ds7 0)).bind fun b8 =>
 some (.val [(.bool b8)])
 else
 some (.val [(.bool (A.ieq t_1 0))])
theorem g53_eq (A : Sy) (E : Env) (l_ : List (List D)) (t_0 : Int) (t_1 : Int) (t_2 : Int) : (funT A Tryz.prog cs 53 [V.d (.sl 2 l_), V.agg [V.d (.int .i64 t_0), V.d (.int .i64 t_1), V.d (.int .i64 t_2)]]).run E = g53 A E l_ t_0 t_1 t_2 := by kernel_rfl
def g106 (A : Sy) (E : Env) (l_ : List (List D)) (t_0 : Int) (t_1 : Int) (t_2 : Int) (v_ : List (List D)) : Option PRes :=
 (E.call 53 [(.d (.sl 2 l_)), (.agg [(.d (.int .i64 t_0)), (.d (.int .i64 t_1)), (.d (.int .i64 t_2))])]).bind fun p1 =>
 (opB (A.cell p1.leaves 0)).bind fun b3 =>
 cutO (
 bif (A.bnot b3) then
 some (.inl [(.bool true)])
 else
 (E.call 35 [(.agg [(.d (.int .i64 t_0)), (.d (.int .i64 t_1)), (.d (.int .i64 t_2))])]).bind fun p4 =>
 (opI (A.cell p4.leaves 0) .i64).bind fun n6 =>
 some (.inl [(.bool (A.bnot (A.ieq (A.rlen v_) n6)))])
 ) fun ds7 =>
 (opB (A.cell ds7 0)).bind fun b8 =>
 bif b8 then
 some (.val [(.bool false)])
 else
 E.lp (fun ds9 =>
 (opL (A.cell ds9 0) 2).bind fun l10 =>
 (opL (A.cell ds9 1) 1).bind fun l11 =>
 (opI (A.cell ds9 2) .i64).bind fun n12 =>
 (opI (A.cell ds9 3) .i64).bind fun n13 =>
 (opI (A.cell ds9 4) .i64).bind fun n14 =>
 (opI (A.cell ds9 5) .i64).bind fun n15 =>
 bif (A.ilt n12 (A.rlen l11)) then
 bif (A.inr n12 (A.rlen l11)) then
 (opI (A.cell (A.row l11 n12) 0) .i64).bind fun n16 =>
 (E.call 170 [(.d (.sl 2 l10)), (.agg [(.d (.int .i64 n13)), (.d (.int .i64 n14)), (.d (.int .i64 n15))]), (.d (.int .i64 n16))]).bind fun p17 =>
 (opB (A.cell p17.leaves 0)).bind fun b19 =>
 bif (A.bnot b19) then
 some (.inr (.val [(.bool false)]))
 else
 some (.inl [(.sl 2 l10), (.sl 1 l11), (.int .i64 (A.wrap .i64 (A.add n12 1))), (.int .i64 n13), (.int .i64 n14), (.int .i64 n15)])
 else
 none
 else
 some (.inr (.val [(.bool true)]))
 ) [(.sl 2 l_), (.sl 1 v_), (.int .i64 0), (.int .i64 t_0), (.int .i64 t_1), (.int .i64 t_2)]
theorem g106_eq (A : Sy) (E : Env) (l_ : List (List D)) (t_0 : Int) (t_1 : Int) (t_2 : Int) (v_ : List (List D)) : (funT A Tryz.prog cs 106 [V.d (.sl 2 l_), V.agg [V.d (.int .i64 t_0), V.d (.int .i64 t_1), V.d (.int .i64 t_2)], V.d (.sl 1 v_)]).run E = g106 A E l_ t_0 t_1 t_2 v_ := by kernel_rfl
def g170 (A : Sy) (E : Env) (l_ : List (List D)) (t_0 : Int) (t_1 : Int) (t_2 : Int) (n_ : Int) : Option PRes :=
 (E.call 53 [(.d (.sl 2 l_)), (.agg [(.d (.int .i64 t_0)), (.d (.int .i64 t_1)), (.d (.int .i64 t_2))])]).bind fun p1 =>
 (opB (A.cell p1.leaves 0)).bind fun b3 =>
 bif (A.bnot b3) then
 some (.val [(.bool false)])
 else
 bif (A.ieq t_0 2) then
 cutO (
 bif (A.ieq n_ 0) then
 some (.inl [(.bool true)])
 else
 some (.inl [(.bool (A.ieq n_ 1))])
 ) fun ds4 =>
 (opB (A.cell ds4 0)).bind fun b5 =>
 some (.val [(.bool b5)])
 else
 cutO (
 bif (A.ieq t_0 1) then
 some (.inl [(.bool true)])
 else
 bif (A.ile 0 n_) then
 bif (A.inr t_1 (A.rlen l_)) then
 (opL (A.cell (A.skip 1 (A.row l_ t_1)) 0) 1).bind fun l6 =>
 some (.inl [(.bool (A.ilt n_ (A.rlen l6)))])
 else
 none
 else
 some (.inl [(.bool false)])
 ) fun ds7 =>
 (opB (A.cell ds7 0)).bind fun b8 =>
 some (.val [(.bool b8)])
theorem g170_eq (A : Sy) (E : Env) (l_ : List (List D)) (t_0 : Int) (t_1 : Int) (t_2 : Int) (n_ : Int) : (funT A Tryz.prog cs 170 [V.d (.sl 2 l_), V.agg [V.d (.int .i64 t_0), V.d (.int .i64 t_1), V.d (.int .i64 t_2)], V.d (.int .i64 n_)]).run E = g170 A E l_ t_0 t_1 t_2 n_ := by kernel_rfl
def g43 (A : Sy) (E : Env) (l_ : List (List D)) : Option PRes :=
 bif (A.ilt 8 (A.rlen l_)) then
 some (.val [(.bool false)])
 else
 E.lp (fun ds1 =>
 (opL (A.cell ds1 0) 2).bind fun l2 =>
 (opI (A.cell ds1 1) .i64).bind fun n3 =>
 bif (A.ilt n3 (A.rlen l2)) then
 bif (A.inr n3 (A.rlen l2)) then
 (opL (A.cell (A.skip 1 (A.row l2 n3)) 0) 1).bind fun l4 =>
 cutO (
 bif (A.ilt 12 (A.rlen l4)) then
 some (.inl [(.bool true)])
 else
 bif (A.inr n3 (A.rlen l2)) then
 (opS (A.cell (A.row l2 n3) 0)).bind fun s5 =>
 some (.inl [(.bool (A.ilt 100 (A.slen s5)))])
 else
 none
 ) fun ds6 =>
 (opB (A.cell ds6 0)).bind fun b7 =>
 bif b7 then
 some (.inr (.val [(.bool false)]))
 else
 E.lp (fun ds8 =>
 (opL (A.cell ds8 0) 2).bind fun l9 =>
 (opI (A.cell ds8 1) .i64).bind fun n10 =>
 (opI (A.cell ds8 2) .i64).bind fun n11 =>
 bif (A.inr n10 (A.rlen l9)) then
 (opL (A.cell (A.skip 1 (A.row l9 n10)) 0) 1).bind fun l12 =>
 bif (A.ilt n11 (A.rlen l12)) then
 bif (A.inr n10 (A.rlen l9)) then
 (opL (A.cell (A.skip 1 (A.row l9 n10)) 0) 1).bind fun l13 =>
 bif (A.inr n11 (A.rlen l13)) then
 (opS (A.cell (A.row l13 n11) 0)).bind fun s14 =>
 bif (A.ilt 100 (A.slen s14)) then
 some (.inr (.inr (.val [(.bool false)])))
 else
 some (.inl [(.sl 2 l9), (.int .i64 n10), (.int .i64 (A.wrap .i64 (A.add n11 1)))])
 else
 none
 else
 none
 else
 some (.inr (.inl [(.sl 2 l9), (.int .i64 (A.wrap .i64 (A.add n10 1)))]))
 else
 none
 ) [(.sl 2 l2), (.int .i64 n3), (.int .i64 0)]
 else
 none
 else
 some (.inr (.val [(.bool true)]))
 ) [(.sl 2 l_), (.int .i64 0)]
theorem g43_eq (A : Sy) (E : Env) (l_ : List (List D)) : (funT A Tryz.prog cs 43 [V.d (.sl 2 l_)]).run E = g43 A E l_ := by kernel_rfl
def g80 (A : Sy) (E : Env) (s_ : ByteArray) : Option PRes :=
 (E.call 139 [(.d (.str s_)), (.d (.str (bs [46])))]).bind fun p1 =>
 (opS (A.cell p1.leaves 0)).bind fun s3 =>
 (opS (A.cell p1.leaves 1)).bind fun s4 =>
 (opB (A.cell p1.leaves 2)).bind fun b5 =>
 (E.call 95 [(.d (.str s3))]).bind fun p6 =>
 (opB (A.cell p6.leaves 0)).bind fun b8 =>
 cutO (
 bif b8 then
 bif (A.bnot b5) then
 some (.inl [(.bool true)])
 else
 (E.call 140 [(.d (.str s4))]).bind fun p9 =>
 (opB (A.cell p9.leaves 0)).bind fun b11 =>
 some (.inl [(.bool b11)])
 else
 some (.inl [(.bool false)])
 ) fun ds12 =>
 (opB (A.cell ds12 0)).bind fun b13 =>
 some (.val [(.bool b13)])
theorem g80_eq (A : Sy) (E : Env) (s_ : ByteArray) : (funT A Tryz.prog cs 80 [V.d (.str s_)]).run E = g80 A E s_ := by kernel_rfl
def g140 (A : Sy) (E : Env) (s_ : ByteArray) : Option PRes :=
 E.lp (fun ds1 =>
 (opS (A.cell ds1 0)).bind fun s2 =>
 (opS (A.cell ds1 1)).bind fun s3 =>
 (opI (A.cell ds1 2) .i64).bind fun n4 =>
 bif (A.ilt n4 (A.slen s3)) then
 (E.call 202 [(.d (.int .i32 (A.rdec s3 n4)))]).bind fun p5 =>
 (opB (A.cell p5.leaves 0)).bind fun b7 =>
 cutO (
 bif (A.bnot b7) then
 some (.inl [(.bool true)])
 else
 bif (A.ieq n4 0) then
 some (.inl [(.bool (A.ieq (A.rdec s3 n4) 48))])
 else
 some (.inl [(.bool false)])
 ) fun ds8 =>
 (opB (A.cell ds8 0)).bind fun b9 =>
 bif b9 then
 some (.inr (.val [(.bool false)]))
 else
 some (.inl [(.str s2), (.str s3), (.int .i64 (A.add n4 (A.rwid s3 n4)))])
 else
 cutO (
 bif (A.ile 1 (A.slen s2)) then
 some (.inl [(.bool (A.ile (A.slen s2) 3))])
 else
 some (.inl [(.bool false)])
 ) fun ds10 =>
 (opB (A.cell ds10 0)).bind fun b11 =>
 some (.inr (.val [(.bool b11)]))
 ) [(.str s_), (.str s_), (.int .i64 0)]
theorem g140_eq (A : Sy) (E : Env) (s_ : ByteArray) : (funT A Tryz.prog cs 140 [V.d (.str s_)]).run E = g140 A E s_ := by kernel_rfl
def g95 (A : Sy) (E : Env) (s_ : ByteArray) : Option PRes :=
 (E.call 160 [(.d (.str s_)), (.fn 161 [])]).bind fun p1 =>
 (opB (A.cell p1.leaves 0)).bind fun b3 =>
 cutO (
 bif b3 then
 (E.call 162 [(.d (.str s_))]).bind fun p4 =>
 (opB (A.cell p4.leaves 0)).bind fun b6 =>
 some (.inl [(.bool (A.bnot b6))])
 else
 some (.inl [(.bool false)])
 ) fun ds7 =>
 (opB (A.cell ds7 0)).bind fun b8 =>
 some (.val [(.bool b8)])
theorem g95_eq (A : Sy) (E : Env) (s_ : ByteArray) : (funT A Tryz.prog cs 95 [V.d (.str s_)]).run E = g95 A E s_ := by kernel_rfl
def g97 (A : Sy) (E : Env) (s_ : ByteArray) : Option PRes :=
 (E.call 160 [(.d (.str s_)), (.fn 164 [])]).bind fun p1 =>
 (opB (A.cell p1.leaves 0)).bind fun b3 =>
 some (.val [(.bool b3)])
theorem g97_eq (A : Sy) (E : Env) (s_ : ByteArray) : (funT A Tryz.prog cs 97 [V.d (.str s_)]).run E = g97 A E s_ := by kernel_rfl
def g162 (A : Sy) (E : Env) (s_ : ByteArray) : Option PRes :=
 bif (A.seq s_ (bs [110, 111, 100, 101])) then
 some (.val [(.bool true)])
 else
 bif (A.seq s_ (bs [114, 101, 116, 117, 114, 110, 115])) then
 some (.val [(.bool true)])
 else
 bif (A.seq s_ (bs [118, 97, 114])) then
 some (.val [(.bool true)])
 else
 bif (A.seq s_ (bs [108, 101, 116])) then
 some (.val [(.bool true)])
 else
 bif (A.seq s_ (bs [116, 101, 108])) then
 some (.val [(.bool true)])
 else
 bif (A.seq s_ (bs [101, 110, 117, 109])) then
 some (.val [(.bool true)])
 else
 bif (A.seq s_ (bs [105, 102])) then
 some (.val [(.bool true)])
 else
 bif (A.seq s_ (bs [116, 104, 101, 110])) then
 some (.val [(.bool true)])
 else
 bif (A.seq s_ (bs [101, 108, 115, 101])) then
 some (.val [(.bool true)])
 else
 bif (A.seq s_ (bs [102, 98, 121])) then
 some (.val [(.bool true)])
 else
 bif (A.seq s_ (bs [112, 114, 101])) then
 some (.val [(.bool true)])
 else
 bif (A.seq s_ (bs [119, 104, 101, 110])) then
 some (.val [(.bool true)])
 else
 bif (A.seq s_ (bs [109, 101, 114, 103, 101])) then
 some (.val [(.bool true)])
 else
 bif (A.seq s_ (bs [101, 118, 101, 114, 121])) then
 some (.val [(.bool true)])
 else
 bif (A.seq s_ (bs [110, 111, 116])) then
 some (.val [(.bool true)])
 else
 bif (A.seq s_ (bs [97, 110, 100])) then
 some (.val [(.bool true)])
 else
 bif (A.seq s_ (bs [111, 114])) then
 some (.val [(.bool true)])
 else
 bif (A.seq s_ (bs [120, 111, 114])) then
 some (.val [(.bool true)])
 else
 bif (A.seq s_ (bs [109, 111, 100])) then
 some (.val [(.bool true)])
 else
 bif (A.seq s_ (bs [116, 114, 117, 101])) then
 some (.val [(.bool true)])
 else
 bif (A.seq s_ (bs [102, 97, 108, 115, 101])) then
 some (.val [(.bool true)])
 else
 bif (A.seq s_ (bs [105, 110, 116])) then
 some (.val [(.bool true)])
 else
 bif (A.seq s_ (bs [98, 111, 111, 108])) then
 some (.val [(.bool true)])
 else
 bif (A.seq s_ (bs [119, 105, 116, 104])) then
 some (.val [(.bool true)])
 else
 some (.val [(.bool false)])
theorem g162_eq (A : Sy) (E : Env) (s_ : ByteArray) : (funT A Tryz.prog cs 162 [V.d (.str s_)]).run E = g162 A E s_ := by kernel_rfl
def g161 (A : Sy) (E : Env) (c_ : Int) : Option PRes :=
 cutO (
 bif (A.ile 97 c_) then
 some (.inl [(.bool (A.ile c_ 122))])
 else
 some (.inl [(.bool false)])
 ) fun ds1 =>
 (opB (A.cell ds1 0)).bind fun b2 =>
 some (.val [(.bool b2)])
theorem g161_eq (A : Sy) (E : Env) (c_ : Int) : (funT A Tryz.prog cs 161 [V.d (.int .i32 c_)]).run E = g161 A E c_ := by kernel_rfl
def g164 (A : Sy) (E : Env) (c_ : Int) : Option PRes :=
 cutO (
 bif (A.ile 65 c_) then
 some (.inl [(.bool (A.ile c_ 90))])
 else
 some (.inl [(.bool false)])
 ) fun ds1 =>
 (opB (A.cell ds1 0)).bind fun b2 =>
 some (.val [(.bool b2)])
theorem g164_eq (A : Sy) (E : Env) (c_ : Int) : (funT A Tryz.prog cs 164 [V.d (.int .i32 c_)]).run E = g164 A E c_ := by kernel_rfl
def g202 (A : Sy) (E : Env) (c_ : Int) : Option PRes :=
 cutO (
 bif (A.ile 48 c_) then
 some (.inl [(.bool (A.ile c_ 57))])
 else
 some (.inl [(.bool false)])
 ) fun ds1 =>
 (opB (A.cell ds1 0)).bind fun b2 =>
 some (.val [(.bool b2)])
theorem g202_eq (A : Sy) (E : Env) (c_ : Int) : (funT A Tryz.prog cs 202 [V.d (.int .i32 c_)]).run E = g202 A E c_ := by kernel_rfl
def g79 (A : Sy) (E : Env) (s_ : ByteArray) (sep_ : ByteArray) : Option PRes :=
 (E.call 138 [(.d (.str s_)), (.d (.str sep_)), (.d (.int .i64 0)), (.d (.int .i64 (-1)))]).bind fun p1 =>
 (opL (A.cell p1.leaves 0) 1).bind fun l3 =>
 some (.val [(.sl 1 l3)])
theorem g79_eq (A : Sy) (E : Env) (s_ : ByteArray) (sep_ : ByteArray) : (funT A Tryz.prog cs 79 [V.d (.str s_), V.d (.str sep_)]).run E = g79 A E s_ sep_ := by kernel_rfl
def g138 (A : Sy) (E : Env) (s_ : ByteArray) (sep_ : ByteArray) (sepSave_ : Int) (n_ : Int) : Option PRes :=
 bif (A.ieq n_ 0) then
 some (.own 9 1 [])
 else
 bif (A.seq sep_ (bs [])) then
 (E.call 198 [(.d (.str s_)), (.d (.int .i64 n_))]).bind fun p1 =>
 (opL (A.cell p1.leaves 0) 1).bind fun l3 =>
 some (.val [(.sl 1 l3)])
 else
 bif (A.ilt n_ 0) then
 (E.call 199 [(.d (.str s_)), (.d (.str sep_))]).bind fun p4 =>
 (opI (A.cell p4.leaves 0) .i64).bind fun n6 =>
 bif (A.mkok (A.imin (A.wrap .i64 (A.add n6 1)) (A.wrap .i64 (A.add (A.slen s_) 1))) (A.imin (A.wrap .i64 (A.add n6 1)) (A.wrap .i64 (A.add (A.slen s_) 1))) 16) then
 E.lp (fun ds7 =>
 (opS (A.cell ds7 0)).bind fun s8 =>
 (opS (A.cell ds7 1)).bind fun s9 =>
 (opI (A.cell ds7 2) .i64).bind fun n10 =>
 (opI (A.cell ds7 3) .i64).bind fun n11 =>
 (opI (A.cell ds7 4) .i64).bind fun n12 =>
 (opL (A.cell ds7 5) 1).bind fun l13 =>
 bif (A.ilt n12 n11) then
 (E.call 200 [(.d (.str s8)), (.d (.str s9))]).bind fun p14 =>
 (opI (A.cell p14.leaves 0) .i64).bind fun n16 =>
 bif (A.ilt n16 0) then
 bif (A.inr n12 (A.rlen l13)) then
 bif (A.inrn (A.nat n12) l13) then
 bif (A.cutok 0 (A.wrap .i64 (A.add n12 1)) (A.rlen (A.rput l13 (A.nat n12) 0 [(.str s8)]))) then
 some (.inr (.own 9 1 (A.head (A.rput l13 (A.nat n12) 0 [(.str s8)]) (A.wrap .i64 (A.add n12 1)))))
 else
 none
 else
 none
 else
 none
 else
 bif (A.cutok 0 (A.wrap .i64 (A.add n16 n10)) (A.slen s8)) then
 bif (A.inr n12 (A.rlen l13)) then
 bif (A.inrn (A.nat n12) l13) then
 bif (A.cutok (A.wrap .i64 (A.add n16 (A.slen s9))) (A.slen s8) (A.slen s8)) then
 some (.inl [(.str (A.scut s8 (A.wrap .i64 (A.add n16 (A.slen s9))) (A.slen s8))), (.str s9), (.int .i64 n10), (.int .i64 n11), (.int .i64 (A.wrap .i64 (A.add n12 1))), (.sl 1 (A.rput l13 (A.nat n12) 0 [(.str (A.scut s8 0 (A.wrap .i64 (A.add n16 n10))))]))])
 else
 none
 else
 none
 else
 none
 else
 none
 else
 bif (A.inr n12 (A.rlen l13)) then
 bif (A.inrn (A.nat n12) l13) then
 bif (A.cutok 0 (A.wrap .i64 (A.add n12 1)) (A.rlen (A.rput l13 (A.nat n12) 0 [(.str s8)]))) then
 some (.inr (.own 9 1 (A.head (A.rput l13 (A.nat n12) 0 [(.str s8)]) (A.wrap .i64 (A.add n12 1)))))
 else
 none
 else
 none
 else
 none
 ) [(.str s_), (.str sep_), (.int .i64 sepSave_), (.int .i64 (A.wrap .i64 (A.sub (A.imin (A.wrap .i64 (A.add n6 1)) (A.wrap .i64 (A.add (A.slen s_) 1))) 1))), (.int .i64 0), (.sl 1 (A.rep (A.imin (A.wrap .i64 (A.add n6 1)) (A.wrap .i64 (A.add (A.slen s_) 1))) [(.str (bs []))]))]
 else
 none
 else
 bif (A.mkok (A.imin n_ (A.wrap .i64 (A.add (A.slen s_) 1))) (A.imin n_ (A.wrap .i64 (A.add (A.slen s_) 1))) 16) then
 E.lp (fun ds17 =>
 (opS (A.cell ds17 0)).bind fun s18 =>
 (opS (A.cell ds17 1)).bind fun s19 =>
 (opI (A.cell ds17 2) .i64).bind fun n20 =>
 (opI (A.cell ds17 3) .i64).bind fun n21 =>
 (opI (A.cell ds17 4) .i64).bind fun n22 =>
 (opL (A.cell ds17 5) 1).bind fun l23 =>
 bif (A.ilt n22 n21) then
 (E.call 200 [(.d (.str s18)), (.d (.str s19))]).bind fun p24 =>
 (opI (A.cell p24.leaves 0) .i64).bind fun n26 =>
 bif (A.ilt n26 0) then
 bif (A.inr n22 (A.rlen l23)) then
 bif (A.inrn (A.nat n22) l23) then
 bif (A.cutok 0 (A.wrap .i64 (A.add n22 1)) (A.rlen (A.rput l23 (A.nat n22) 0 [(.str s18)]))) then
 some (.inr (.own 9 1 (A.head (A.rput l23 (A.nat n22) 0 [(.str s18)]) (A.wrap .i64 (A.add n22 1)))))
 else
 none
 else
 none
 else
 none
 else
 bif (A.cutok 0 (A.wrap .i64 (A.add n26 n20)) (A.slen s18)) then
 bif (A.inr n22 (A.rlen l23)) then
 bif (A.inrn (A.nat n22) l23) then
 bif (A.cutok (A.wrap .i64 (A.add n26 (A.slen s19))) (A.slen s18) (A.slen s18)) then
 some (.inl [(.str (A.scut s18 (A.wrap .i64 (A.add n26 (A.slen s19))) (A.slen s18))), (.str s19), (.int .i64 n20), (.int .i64 n21), (.int .i64 (A.wrap .i64 (A.add n22 1))), (.sl 1 (A.rput l23 (A.nat n22) 0 [(.str (A.scut s18 0 (A.wrap .i64 (A.add n26 n20))))]))])
 else
 none
 else
 none
 else
 none
 else
 none
 else
 bif (A.inr n22 (A.rlen l23)) then
 bif (A.inrn (A.nat n22) l23) then
 bif (A.cutok 0 (A.wrap .i64 (A.add n22 1)) (A.rlen (A.rput l23 (A.nat n22) 0 [(.str s18)]))) then
 some (.inr (.own 9 1 (A.head (A.rput l23 (A.nat n22) 0 [(.str s18)]) (A.wrap .i64 (A.add n22 1)))))
 else
 none
 else
 none
 else
 none
 ) [(.str s_), (.str sep_), (.int .i64 sepSave_), (.int .i64 (A.wrap .i64 (A.sub (A.imin n_ (A.wrap .i64 (A.add (A.slen s_) 1))) 1))), (.int .i64 0), (.sl 1 (A.rep (A.imin n_ (A.wrap .i64 (A.add (A.slen s_) 1))) [(.str (bs []))]))]
 else
 none
theorem g138_eq (A : Sy) (E : Env) (s_ : ByteArray) (sep_ : ByteArray) (sepSave_ : Int) (n_ : Int) : (funT A Tryz.prog cs 138 [V.d (.str s_), V.d (.str sep_), V.d (.int .i64 sepSave_), V.d (.int .i64 n_)]).run E = g138 A E s_ sep_ sepSave_ n_ := by kernel_rfl
def g199 (A : Sy) (E : Env) (s_ : ByteArray) (substr_ : ByteArray) : Option PRes :=
 bif (A.ieq (A.slen substr_) 0) then
 (E.call 239 [(.d (.str s_))]).bind fun p1 =>
 (opI (A.cell p1.leaves 0) .i64).bind fun n3 =>
 some (.val [(.int .i64 (A.wrap .i64 (A.add n3 1)))])
 else
 bif (A.ieq (A.slen substr_) 1) then
 bif (A.inr 0 (A.slen substr_)) then
 some (.val [(.int .i64 (A.scnt s_ (A.sbyte substr_ 0)))])
 else
 none
 else
 E.lp (fun ds4 =>
 (opS (A.cell ds4 0)).bind fun s5 =>
 (opS (A.cell ds4 1)).bind fun s6 =>
 (opI (A.cell ds4 2) .i64).bind fun n7 =>
 (E.call 200 [(.d (.str s5)), (.d (.str s6))]).bind fun p8 =>
 (opI (A.cell p8.leaves 0) .i64).bind fun n10 =>
 bif (A.ieq n10 (-1)) then
 some (.inr (.val [(.int .i64 n7)]))
 else
 bif (A.cutok (A.wrap .i64 (A.add n10 (A.slen s6))) (A.slen s5) (A.slen s5)) then
 some (.inl [(.str (A.scut s5 (A.wrap .i64 (A.add n10 (A.slen s6))) (A.slen s5))), (.str s6), (.int .i64 (A.wrap .i64 (A.add n7 1)))])
 else
 none
 ) [(.str s_), (.str substr_), (.int .i64 0)]
theorem g199_eq (A : Sy) (E : Env) (s_ : ByteArray) (substr_ : ByteArray) : (funT A Tryz.prog cs 199 [V.d (.str s_), V.d (.str substr_)]).run E = g199 A E s_ substr_ := by kernel_rfl
def g200 (A : Sy) (E : Env) (s_ : ByteArray) (substr_ : ByteArray) : Option PRes :=
 (E.call 242 [(.d (.str s_)), (.d (.str substr_))]).bind fun p1 =>
 (opI (A.cell p1.leaves 0) .i64).bind fun n3 =>
 some (.val [(.int .i64 n3)])
theorem g200_eq (A : Sy) (E : Env) (s_ : ByteArray) (substr_ : ByteArray) : (funT A Tryz.prog cs 200 [V.d (.str s_), V.d (.str substr_)]).run E = g200 A E s_ substr_ := by kernel_rfl
def g139 (A : Sy) (E : Env) (s_ : ByteArray) (sep_ : ByteArray) : Option PRes :=
 (E.call 201 [(.d (.str s_)), (.d (.str sep_))]).bind fun p1 =>
 (opS (A.cell p1.leaves 0)).bind fun s3 =>
 (opS (A.cell p1.leaves 1)).bind fun s4 =>
 (opB (A.cell p1.leaves 2)).bind fun b5 =>
 some (.val [(.str s3), (.str s4), (.bool b5)])
theorem g139_eq (A : Sy) (E : Env) (s_ : ByteArray) (sep_ : ByteArray) : (funT A Tryz.prog cs 139 [V.d (.str s_), V.d (.str sep_)]).run E = g139 A E s_ sep_ := by kernel_rfl
def g242 (A : Sy) (E : Env) (s_ : ByteArray) (substr_ : ByteArray) : Option PRes :=
 cutO (
 bif (A.ieq (A.slen substr_) 0) then
 some (.inl [(.bool true)])
 else
 some (.inl [(.bool (A.seq substr_ s_))])
 ) fun ds1 =>
 (opB (A.cell ds1 0)).bind fun b2 =>
 bif b2 then
 some (.val [(.int .i64 0)])
 else
 bif (A.ieq (A.slen substr_) 1) then
 bif (A.inr 0 (A.slen substr_)) then
 (E.call 266 [(.d (.str s_)), (.d (.int .u8 (A.sbyte substr_ 0)))]).bind fun p3 =>
 (opI (A.cell p3.leaves 0) .i64).bind fun n5 =>
 some (.val [(.int .i64 n5)])
 else
 none
 else
 bif (A.ile (A.slen s_) (A.slen substr_)) then
 some (.val [(.int .i64 (-1))])
 else
 none
theorem g242_eq (A : Sy) (E : Env) (s_ : ByteArray) (substr_ : ByteArray) : (funT A Tryz.prog cs 242 [V.d (.str s_), V.d (.str substr_)]).run E = g242 A E s_ substr_ := by kernel_rfl
def g266 (A : Sy) (E : Env) (s_ : ByteArray) (c_ : Int) : Option PRes :=
 some (.val [(.int .i64 (A.sidx s_ c_))])
theorem g266_eq (A : Sy) (E : Env) (s_ : ByteArray) (c_ : Int) : (funT A Tryz.prog cs 266 [V.d (.str s_), V.d (.int .u8 c_)]).run E = g266 A E s_ c_ := by kernel_rfl
def g201 (A : Sy) (E : Env) (s_ : ByteArray) (sep_ : ByteArray) : Option PRes :=
 (E.call 242 [(.d (.str s_)), (.d (.str sep_))]).bind fun p1 =>
 (opI (A.cell p1.leaves 0) .i64).bind fun n3 =>
 bif (A.ile 0 n3) then
 bif (A.cutok 0 n3 (A.slen s_)) then
 bif (A.cutok (A.wrap .i64 (A.add n3 (A.slen sep_))) (A.slen s_) (A.slen s_)) then
 some (.val [(.str (A.scut s_ 0 n3)), (.str (A.scut s_ (A.wrap .i64 (A.add n3 (A.slen sep_))) (A.slen s_))), (.bool true)])
 else
 none
 else
 none
 else
 some (.val [(.str s_), (.str (bs [])), (.bool false)])
theorem g201_eq (A : Sy) (E : Env) (s_ : ByteArray) (sep_ : ByteArray) : (funT A Tryz.prog cs 201 [V.d (.str s_), V.d (.str sep_)]).run E = g201 A E s_ sep_ := by kernel_rfl
def g105 (A : Sy) (E : Env) (s_ : ByteArray) : Option PRes :=
 (E.call 168 [(.d (.str s_)), (.d (.int .u8 47))]).bind fun p1 =>
 (opL (A.cell p1.leaves 0) 1).bind fun l3 =>
 E.lp (fun ds4 =>
 (opL (A.cell ds4 0) 1).bind fun l5 =>
 (opI (A.cell ds4 1) .i64).bind fun n6 =>
 bif (A.ilt n6 (A.rlen l5)) then
 bif (A.inr n6 (A.rlen l5)) then
 (opS (A.cell (A.row l5 n6) 0)).bind fun s7 =>
 (E.call 168 [(.d (.str s7)), (.d (.int .u8 46))]).bind fun p8 =>
 (opL (A.cell p8.leaves 0) 1).bind fun l10 =>
 cutO (
 bif (A.ilt 2 (A.rlen l10)) then
 some (.inl [(.bool true)])
 else
 bif (A.inr 0 (A.rlen l10)) then
 (opS (A.cell (A.row l10 0) 0)).bind fun s11 =>
 (E.call 52 [(.d (.str s11))]).bind fun p12 =>
 (opB (A.cell p12.leaves 0)).bind fun b14 =>
 some (.inl [(.bool (A.bnot b14))])
 else
 none
 ) fun ds15 =>
 (opB (A.cell ds15 0)).bind fun b16 =>
 bif b16 then
 some (.inr (.val [(.bool false)]))
 else
 bif (A.ilt (A.rlen l10) 2) then
 some (.inl [(.sl 1 l5), (.int .i64 (A.wrap .i64 (A.add n6 1)))])
 else
 bif (A.inr 1 (A.rlen l10)) then
 (opS (A.cell (A.row l10 1) 0)).bind fun s17 =>
 cutO (
 bif (A.ilt (A.slen s17) 1) then
 some (.inl [(.bool true)])
 else
 some (.inl [(.bool (A.ilt 3 (A.slen s17)))])
 ) fun ds18 =>
 (opB (A.cell ds18 0)).bind fun b19 =>
 cutO (
 bif b19 then
 some (.inl [(.bool true)])
 else
 bif (A.inr 0 (A.slen s17)) then
 some (.inl [(.bool (A.ieq (A.sbyte s17 0) 48))])
 else
 none
 ) fun ds20 =>
 (opB (A.cell ds20 0)).bind fun b21 =>
 bif b21 then
 some (.inr (.val [(.bool false)]))
 else
 E.lp (fun ds22 =>
 (opL (A.cell ds22 0) 1).bind fun l23 =>
 (opI (A.cell ds22 1) .i64).bind fun n24 =>
 (opS (A.cell ds22 2)).bind fun s25 =>
 (opI (A.cell ds22 3) .i64).bind fun n26 =>
 bif (A.ilt n26 (A.slen s25)) then
 bif (A.inr n26 (A.slen s25)) then
 (E.call 169 [(.d (.int .u8 (A.sbyte s25 n26))), (.d (.int .u8 48)), (.d (.int .u8 57))]).bind fun p27 =>
 (opB (A.cell p27.leaves 0)).bind fun b29 =>
 bif (A.bnot b29) then
 some (.inr (.inr (.val [(.bool false)])))
 else
 some (.inl [(.sl 1 l23), (.int .i64 n24), (.str s25), (.int .i64 (A.wrap .i64 (A.add n26 1)))])
 else
 none
 else
 some (.inr (.inl [(.sl 1 l23), (.int .i64 (A.wrap .i64 (A.add n24 1)))]))
 ) [(.sl 1 l5), (.int .i64 n6), (.str s17), (.int .i64 0)]
 else
 none
 else
 none
 else
 some (.inr (.val [(.bool true)]))
 ) [(.sl 1 l3), (.int .i64 0)]
theorem g105_eq (A : Sy) (E : Env) (s_ : ByteArray) : (funT A Tryz.prog cs 105 [V.d (.str s_)]).run E = g105 A E s_ := by kernel_rfl
def g168 (A : Sy) (E : Env) (s_ : ByteArray) (c_ : Int) : Option PRes :=
 E.lp (fun ds1 =>
 (opS (A.cell ds1 0)).bind fun s2 =>
 (opI (A.cell ds1 1) .u8).bind fun n3 =>
 (opI (A.cell ds1 2) .i64).bind fun n4 =>
 (opI (A.cell ds1 3) .i64).bind fun n5 =>
 (opL (A.cell ds1 4) 1).bind fun l6 =>
 bif (A.ile n5 (A.slen s2)) then
 cutO (
 bif (A.ieq n5 (A.slen s2)) then
 some (.inl [(.bool true)])
 else
 bif (A.inr n5 (A.slen s2)) then
 some (.inl [(.bool (A.ieq (A.sbyte s2 n5) n3))])
 else
 none
 ) fun ds7 =>
 (opB (A.cell ds7 0)).bind fun b8 =>
 bif b8 then
 bif (A.cutok n4 n5 (A.slen s2)) then
 bif (A.fits l6 [[(.str (A.scut s2 n4 n5))]] 16) then
 some (.inl [(.str s2), (.int .u8 n3), (.int .i64 (A.wrap .i64 (A.add n5 1))), (.int .i64 (A.wrap .i64 (A.add n5 1))), (.sl 1 (A.rapp l6 [[(.str (A.scut s2 n4 n5))]]))])
 else
 none
 else
 none
 else
 some (.inl [(.str s2), (.int .u8 n3), (.int .i64 n4), (.int .i64 (A.wrap .i64 (A.add n5 1))), (.sl 1 l6)])
 else
 some (.inr (.own 9 1 l6))
 ) [(.str s_), (.int .u8 c_), (.int .i64 0), (.int .i64 0), (.sl 1 [])]
theorem g168_eq (A : Sy) (E : Env) (s_ : ByteArray) (c_ : Int) : (funT A Tryz.prog cs 168 [V.d (.str s_), V.d (.int .u8 c_)]).run E = g168 A E s_ c_ := by kernel_rfl
def g52 (A : Sy) (E : Env) (s_ : ByteArray) : Option PRes :=
 (E.call 108 [(.d (.str s_)), (.d (.int .u8 97)), (.d (.int .u8 122))]).bind fun p1 =>
 (opB (A.cell p1.leaves 0)).bind fun b3 =>
 cutO (
 bif b3 then
 (E.call 109 [(.d (.str s_))]).bind fun p4 =>
 (opB (A.cell p4.leaves 0)).bind fun b6 =>
 some (.inl [(.bool (A.bnot b6))])
 else
 some (.inl [(.bool false)])
 ) fun ds7 =>
 (opB (A.cell ds7 0)).bind fun b8 =>
 some (.val [(.bool b8)])
theorem g52_eq (A : Sy) (E : Env) (s_ : ByteArray) : (funT A Tryz.prog cs 52 [V.d (.str s_)]).run E = g52 A E s_ := by kernel_rfl
def g104 (A : Sy) (E : Env) (s_ : ByteArray) : Option PRes :=
 (E.call 108 [(.d (.str s_)), (.d (.int .u8 65)), (.d (.int .u8 90))]).bind fun p1 =>
 (opB (A.cell p1.leaves 0)).bind fun b3 =>
 some (.val [(.bool b3)])
theorem g104_eq (A : Sy) (E : Env) (s_ : ByteArray) : (funT A Tryz.prog cs 104 [V.d (.str s_)]).run E = g104 A E s_ := by kernel_rfl
def g109 (A : Sy) (E : Env) (s_ : ByteArray) : Option PRes :=
 (E.call 171 []).bind fun p1 =>
 (opL (A.cell p1.leaves 0) 1).bind fun l3 =>
 E.lp (fun ds4 =>
 (opS (A.cell ds4 0)).bind fun s5 =>
 (opL (A.cell ds4 1) 1).bind fun l6 =>
 (opI (A.cell ds4 2) .i64).bind fun n7 =>
 bif (A.ilt n7 (A.rlen l6)) then
 bif (A.inr n7 (A.rlen l6)) then
 (opS (A.cell (A.row l6 n7) 0)).bind fun s8 =>
 bif (A.seq s8 s5) then
 some (.inr (.val [(.bool true)]))
 else
 some (.inl [(.str s5), (.sl 1 l6), (.int .i64 (A.wrap .i64 (A.add n7 1)))])
 else
 none
 else
 some (.inr (.val [(.bool false)]))
 ) [(.str s_), (.sl 1 l3), (.int .i64 0)]
theorem g109_eq (A : Sy) (E : Env) (s_ : ByteArray) : (funT A Tryz.prog cs 109 [V.d (.str s_)]).run E = g109 A E s_ := by kernel_rfl
def g171 (A : Sy) (E : Env) : Option PRes :=
 some (.own 9 1 [[(.str (bs [110, 111, 100, 101]))], [(.str (bs [114, 101, 116, 117, 114, 110, 115]))], [(.str (bs [118, 97, 114]))], [(.str (bs [108, 101, 116]))], [(.str (bs [116, 101, 108]))], [(.str (bs [101, 110, 117, 109]))], [(.str (bs [105, 102]))], [(.str (bs [116, 104, 101, 110]))], [(.str (bs [101, 108, 115, 101]))], [(.str (bs [102, 98, 121]))], [(.str (bs [112, 114, 101]))], [(.str (bs [119, 104, 101, 110]))], [(.str (bs [109, 101, 114, 103, 101]))], [(.str (bs [101, 118, 101, 114, 121]))], [(.str (bs [110, 111, 116]))], [(.str (bs [97, 110, 100]))], [(.str (bs [111, 114]))], [(.str (bs [120, 111, 114]))], [(.str (bs [109, 111, 100]))], [(.str (bs [116, 114, 117, 101]))], [(.str (bs [102, 97, 108, 115, 101]))], [(.str (bs [105, 110, 116]))], [(.str (bs [98, 111, 111, 108]))], [(.str (bs [119, 105, 116, 104]))]])
theorem g171_eq (A : Sy) (E : Env) : (funT A Tryz.prog cs 171 []).run E = g171 A E  := by kernel_rfl
def g108 (A : Sy) (E : Env) (s_ : ByteArray) (a_ : Int) (b_ : Int) : Option PRes :=
 cutO (
 bif (A.ilt (A.slen s_) 1) then
 some (.inl [(.bool true)])
 else
 some (.inl [(.bool (A.ilt 12 (A.slen s_)))])
 ) fun ds1 =>
 (opB (A.cell ds1 0)).bind fun b2 =>
 cutO (
 bif b2 then
 some (.inl [(.bool true)])
 else
 bif (A.inr 0 (A.slen s_)) then
 (E.call 169 [(.d (.int .u8 (A.sbyte s_ 0))), (.d (.int .u8 a_)), (.d (.int .u8 b_))]).bind fun p3 =>
 (opB (A.cell p3.leaves 0)).bind fun b5 =>
 some (.inl [(.bool (A.bnot b5))])
 else
 none
 ) fun ds6 =>
 (opB (A.cell ds6 0)).bind fun b7 =>
 bif b7 then
 some (.val [(.bool false)])
 else
 E.lp (fun ds8 =>
 (opS (A.cell ds8 0)).bind fun s9 =>
 (opI (A.cell ds8 1) .i64).bind fun n10 =>
 bif (A.ilt n10 (A.slen s9)) then
 bif (A.inr n10 (A.slen s9)) then
 (E.call 169 [(.d (.int .u8 (A.sbyte s9 n10))), (.d (.int .u8 97)), (.d (.int .u8 122))]).bind fun p11 =>
 (opB (A.cell p11.leaves 0)).bind fun b13 =>
 cutO (
 bif (A.bnot b13) then
 bif (A.inr n10 (A.slen s9)) then
 (E.call 169 [(.d (.int .u8 (A.sbyte s9 n10))), (.d (.int .u8 65)), (.d (.int .u8 90))]).bind fun p14 =>
 (opB (A.cell p14.leaves 0)).bind fun b16 =>
 some (.inl [(.bool (A.bnot b16))])
 else
 none
 else
 some (.inl [(.bool false)])
 ) fun ds17 =>
 (opB (A.cell ds17 0)).bind fun b18 =>
 cutO (
 bif b18 then
 bif (A.inr n10 (A.slen s9)) then
 (E.call 169 [(.d (.int .u8 (A.sbyte s9 n10))), (.d (.int .u8 48)), (.d (.int .u8 57))]).bind fun p19 =>
 (opB (A.cell p19.leaves 0)).bind fun b21 =>
 some (.inl [(.bool (A.bnot b21))])
 else
 none
 else
 some (.inl [(.bool false)])
 ) fun ds22 =>
 (opB (A.cell ds22 0)).bind fun b23 =>
 cutO (
 bif b23 then
 bif (A.inr n10 (A.slen s9)) then
 some (.inl [(.bool (A.bnot (A.ieq (A.sbyte s9 n10) 95)))])
 else
 none
 else
 some (.inl [(.bool false)])
 ) fun ds24 =>
 (opB (A.cell ds24 0)).bind fun b25 =>
 bif b25 then
 some (.inr (.val [(.bool false)]))
 else
 some (.inl [(.str s9), (.int .i64 (A.wrap .i64 (A.add n10 1)))])
 else
 none
 else
 some (.inr (.val [(.bool true)]))
 ) [(.str s_), (.int .i64 0)]
theorem g108_eq (A : Sy) (E : Env) (s_ : ByteArray) (a_ : Int) (b_ : Int) : (funT A Tryz.prog cs 108 [V.d (.str s_), V.d (.int .u8 a_), V.d (.int .u8 b_)]).run E = g108 A E s_ a_ b_ := by kernel_rfl
def g169 (A : Sy) (E : Env) (c_ : Int) (a_ : Int) (b_ : Int) : Option PRes :=
 cutO (
 bif (A.ile a_ c_) then
 some (.inl [(.bool (A.ile c_ b_))])
 else
 some (.inl [(.bool false)])
 ) fun ds1 =>
 (opB (A.cell ds1 0)).bind fun b2 =>
 some (.val [(.bool b2)])
theorem g169_eq (A : Sy) (E : Env) (c_ : Int) (a_ : Int) (b_ : Int) : (funT A Tryz.prog cs 169 [V.d (.int .u8 c_), V.d (.int .u8 a_), V.d (.int .u8 b_)]).run E = g169 A E c_ a_ b_ := by kernel_rfl
def g54 (A : Sy) (E : Env) (l_ : List (List D)) : Option PRes :=
 E.lp (fun ds1 =>
 (opL (A.cell ds1 0) 1).bind fun l2 =>
 (opI (A.cell ds1 1) .i64).bind fun n3 =>
 bif (A.ilt n3 (A.rlen l2)) then
 E.lp (fun ds4 =>
 (opL (A.cell ds4 0) 1).bind fun l5 =>
 (opI (A.cell ds4 1) .i64).bind fun n6 =>
 (opI (A.cell ds4 2) .i64).bind fun n7 =>
 bif (A.ilt n7 n6) then
 bif (A.inr n7 (A.rlen l5)) then
 (opS (A.cell (A.row l5 n7) 0)).bind fun s8 =>
 bif (A.inr n6 (A.rlen l5)) then
 (opS (A.cell (A.row l5 n6) 0)).bind fun s9 =>
 bif (A.seq s8 s9) then
 some (.inr (.inr (.val [(.bool false)])))
 else
 some (.inl [(.sl 1 l5), (.int .i64 n6), (.int .i64 (A.wrap .i64 (A.add n7 1)))])
 else
 none
 else
 none
 else
 some (.inr (.inl [(.sl 1 l5), (.int .i64 (A.wrap .i64 (A.add n6 1)))]))
 ) [(.sl 1 l2), (.int .i64 n3), (.int .i64 0)]
 else
 some (.inr (.val [(.bool true)]))
 ) [(.sl 1 l_), (.int .i64 0)]
theorem g54_eq (A : Sy) (E : Env) (l_ : List (List D)) : (funT A Tryz.prog cs 54 [V.d (.sl 1 l_)]).run E = g54 A E l_ := by kernel_rfl
def g160_161 (A : Sy) (E : Env)(s_ : ByteArray) : Option PRes :=
 E.lp (fun ds1 =>
 (opS (A.cell ds1 0)).bind fun s2 =>
 (opS (A.cell ds1 1)).bind fun s3 =>
 (opI (A.cell ds1 2) .i64).bind fun n4 =>
 bif (A.ilt n4 (A.slen s3)) then
 bif (A.ieq n4 0) then
 (E.call 161 [(.d (.int .i32 (A.rdec s3 n4)))]).bind fun p5 =>
 (opB (A.cell p5.leaves 0)).bind fun b7 =>
 cutO (
 bif (A.bnot b7) then
 some (.inl [(.bool true)])
 else
 (E.call 161 [(.d (.int .i32 (A.rdec s3 n4)))]).bind fun p8 =>
 (opB (A.cell p8.leaves 0)).bind fun b10 =>
 bif (A.bnot b10) then
 (E.call 164 [(.d (.int .i32 (A.rdec s3 n4)))]).bind fun p11 =>
 (opB (A.cell p11.leaves 0)).bind fun b13 =>
 bif (A.bnot b13) then
 (E.call 202 [(.d (.int .i32 (A.rdec s3 n4)))]).bind fun p14 =>
 (opB (A.cell p14.leaves 0)).bind fun b16 =>
 bif (A.bnot b16) then
 some (.inl [(.bool (A.bnot (A.ieq (A.rdec s3 n4) 95)))])
 else
 some (.inl [(.bool false)])
 else
 some (.inl [(.bool false)])
 else
 some (.inl [(.bool false)])
 ) fun ds17 =>
 (opB (A.cell ds17 0)).bind fun b18 =>
 bif b18 then
 some (.inr (.val [(.bool false)]))
 else
 some (.inl [(.str s2), (.str s3), (.int .i64 (A.add n4 (A.rwid s3 n4)))])
 else
 cutO (
 (E.call 161 [(.d (.int .i32 (A.rdec s3 n4)))]).bind fun p19 =>
 (opB (A.cell p19.leaves 0)).bind fun b21 =>
 bif (A.bnot b21) then
 (E.call 164 [(.d (.int .i32 (A.rdec s3 n4)))]).bind fun p22 =>
 (opB (A.cell p22.leaves 0)).bind fun b24 =>
 bif (A.bnot b24) then
 (E.call 202 [(.d (.int .i32 (A.rdec s3 n4)))]).bind fun p25 =>
 (opB (A.cell p25.leaves 0)).bind fun b27 =>
 bif (A.bnot b27) then
 some (.inl [(.bool (A.bnot (A.ieq (A.rdec s3 n4) 95)))])
 else
 some (.inl [(.bool false)])
 else
 some (.inl [(.bool false)])
 else
 some (.inl [(.bool false)])
 ) fun ds28 =>
 (opB (A.cell ds28 0)).bind fun b29 =>
 bif b29 then
 some (.inr (.val [(.bool false)]))
 else
 some (.inl [(.str s2), (.str s3), (.int .i64 (A.add n4 (A.rwid s3 n4)))])
 else
 cutO (
 bif (A.ile 1 (A.slen s2)) then
 some (.inl [(.bool (A.ile (A.slen s2) 12))])
 else
 some (.inl [(.bool false)])
 ) fun ds30 =>
 (opB (A.cell ds30 0)).bind fun b31 =>
 some (.inr (.val [(.bool b31)]))
 ) [(.str s_), (.str s_), (.int .i64 0)]
theorem g160_161_eq (A : Sy) (E : Env)(s_ : ByteArray) : (funT A Tryz.prog cs 160 [V.d (.str s_), V.fn 161 []]).run E = g160_161 A E s_ := by kernel_rfl
def g160_164 (A : Sy) (E : Env)(s_ : ByteArray) : Option PRes :=
 E.lp (fun ds1 =>
 (opS (A.cell ds1 0)).bind fun s2 =>
 (opS (A.cell ds1 1)).bind fun s3 =>
 (opI (A.cell ds1 2) .i64).bind fun n4 =>
 bif (A.ilt n4 (A.slen s3)) then
 bif (A.ieq n4 0) then
 (E.call 164 [(.d (.int .i32 (A.rdec s3 n4)))]).bind fun p5 =>
 (opB (A.cell p5.leaves 0)).bind fun b7 =>
 cutO (
 bif (A.bnot b7) then
 some (.inl [(.bool true)])
 else
 (E.call 161 [(.d (.int .i32 (A.rdec s3 n4)))]).bind fun p8 =>
 (opB (A.cell p8.leaves 0)).bind fun b10 =>
 bif (A.bnot b10) then
 (E.call 164 [(.d (.int .i32 (A.rdec s3 n4)))]).bind fun p11 =>
 (opB (A.cell p11.leaves 0)).bind fun b13 =>
 bif (A.bnot b13) then
 (E.call 202 [(.d (.int .i32 (A.rdec s3 n4)))]).bind fun p14 =>
 (opB (A.cell p14.leaves 0)).bind fun b16 =>
 bif (A.bnot b16) then
 some (.inl [(.bool (A.bnot (A.ieq (A.rdec s3 n4) 95)))])
 else
 some (.inl [(.bool false)])
 else
 some (.inl [(.bool false)])
 else
 some (.inl [(.bool false)])
 ) fun ds17 =>
 (opB (A.cell ds17 0)).bind fun b18 =>
 bif b18 then
 some (.inr (.val [(.bool false)]))
 else
 some (.inl [(.str s2), (.str s3), (.int .i64 (A.add n4 (A.rwid s3 n4)))])
 else
 cutO (
 (E.call 161 [(.d (.int .i32 (A.rdec s3 n4)))]).bind fun p19 =>
 (opB (A.cell p19.leaves 0)).bind fun b21 =>
 bif (A.bnot b21) then
 (E.call 164 [(.d (.int .i32 (A.rdec s3 n4)))]).bind fun p22 =>
 (opB (A.cell p22.leaves 0)).bind fun b24 =>
 bif (A.bnot b24) then
 (E.call 202 [(.d (.int .i32 (A.rdec s3 n4)))]).bind fun p25 =>
 (opB (A.cell p25.leaves 0)).bind fun b27 =>
 bif (A.bnot b27) then
 some (.inl [(.bool (A.bnot (A.ieq (A.rdec s3 n4) 95)))])
 else
 some (.inl [(.bool false)])
 else
 some (.inl [(.bool false)])
 else
 some (.inl [(.bool false)])
 ) fun ds28 =>
 (opB (A.cell ds28 0)).bind fun b29 =>
 bif b29 then
 some (.inr (.val [(.bool false)]))
 else
 some (.inl [(.str s2), (.str s3), (.int .i64 (A.add n4 (A.rwid s3 n4)))])
 else
 cutO (
 bif (A.ile 1 (A.slen s2)) then
 some (.inl [(.bool (A.ile (A.slen s2) 12))])
 else
 some (.inl [(.bool false)])
 ) fun ds30 =>
 (opB (A.cell ds30 0)).bind fun b31 =>
 some (.inr (.val [(.bool b31)]))
 ) [(.str s_), (.str s_), (.int .i64 0)]
theorem g160_164_eq (A : Sy) (E : Env)(s_ : ByteArray) : (funT A Tryz.prog cs 160 [V.d (.str s_), V.fn 164 []]).run E = g160_164 A E s_ := by kernel_rfl
def g81c (A : Sy) (E : Env)(n : Int) (l : List (List D)) (t0 t1 t2 : Int) : Option PRes :=
 (opL (A.cell [(.sl 2 l)] 0) 2).bind fun l1 =>
 (opI (A.cell [(.int .i64 t0), (.int .i64 t1), (.int .i64 t2)] 0) .i64).bind fun n2 =>
 (opI (A.cell [(.int .i64 t0), (.int .i64 t1), (.int .i64 t2)] 1) .i64).bind fun n3 =>
 (opI (A.cell [(.int .i64 t0), (.int .i64 t1), (.int .i64 t2)] 2) .i64).bind fun n4 =>
 (E.call 82 [(.d (.sl 2 l1)), (.agg [(.d (.int .i64 n2)), (.d (.int .i64 n3)), (.d (.int .i64 n4))]), (.d (.int .i64 n))]).bind fun p5 =>
 (opB (A.cell p5.leaves 0)).bind fun b7 =>
 some (.val [(.bool (A.bnot b7))])
theorem g81c_eq (A : Sy) (E : Env)(n : Int) (l : List (List D)) (t0 t1 t2 : Int) : (funT A Tryz.prog cs 81 [V.d (.int .i64 n), V.pel [D.sl 2 l], V.pel [D.int .i64 t0, D.int .i64 t1, D.int .i64 t2]]).run E = g81c A E n l t0 t1 t2 := by kernel_rfl
def g84_81 (A : Sy) (E : Env)(v : List (List D)) (l : List (List D)) (t0 t1 t2 : Int) : Option PRes :=
 (E.call 141 [(.d (.sl 1 v)), (.fn 81 [(.pel [(.sl 2 l)]), (.pel [(.int .i64 t0), (.int .i64 t1), (.int .i64 t2)])])]).bind fun p1 =>
 (opI (A.cell p1.leaves 0) .i64).bind fun n3 =>
 some (.val [(.bool (A.ile 0 n3))])
theorem g84_81_eq (A : Sy) (E : Env)(v : List (List D)) (l : List (List D)) (t0 t1 t2 : Int) : (funT A Tryz.prog cs 84 [V.d (.sl 1 v), V.fn 81 [V.pel [D.sl 2 l], V.pel [D.int .i64 t0, D.int .i64 t1, D.int .i64 t2]]]).run E = g84_81 A E v l t0 t1 t2 := by kernel_rfl
def g141_81 (A : Sy) (E : Env)(v : List (List D)) (l : List (List D)) (t0 t1 t2 : Int) : Option PRes :=
 E.lp (fun ds1 =>
 (opL (A.cell ds1 0) 1).bind fun l2 =>
 (opL (A.cell ds1 1) 2).bind fun l3 =>
 (opI (A.cell ds1 2) .i64).bind fun n4 =>
 (opI (A.cell ds1 3) .i64).bind fun n5 =>
 (opI (A.cell ds1 4) .i64).bind fun n6 =>
 (opI (A.cell ds1 5) .i64).bind fun n7 =>
 (opI (A.cell ds1 6) .i64).bind fun n8 =>
 bif (A.ilt n8 n7) then
 bif (A.inr n8 (A.rlen l2)) then
 (opI (A.cell (A.row l2 n8) 0) .i64).bind fun n9 =>
 (E.call 81 [(.d (.int .i64 n9)), (.pel [(.sl 2 l3)]), (.pel [(.int .i64 n4), (.int .i64 n5), (.int .i64 n6)])]).bind fun p10 =>
 (opB (A.cell p10.leaves 0)).bind fun b12 =>
 bif b12 then
 some (.inr (.val [(.int .i64 n8)]))
 else
 some (.inl [(.sl 1 l2), (.sl 2 l3), (.int .i64 n4), (.int .i64 n5), (.int .i64 n6), (.int .i64 n7), (.int .i64 (A.wrap .i64 (A.add n8 1)))])
 else
 none
 else
 some (.inr (.val [(.int .i64 (-1))]))
 ) [(.sl 1 v), (.sl 2 l), (.int .i64 t0), (.int .i64 t1), (.int .i64 t2), (.int .i64 (A.rlen v)), (.int .i64 0)]
theorem g141_81_eq (A : Sy) (E : Env)(v : List (List D)) (l : List (List D)) (t0 t1 t2 : Int) : (funT A Tryz.prog cs 141 [V.d (.sl 1 v), V.fn 81 [V.pel [D.sl 2 l], V.pel [D.int .i64 t0, D.int .i64 t1, D.int .i64 t2]]]).run E = g141_81 A E v l t0 t1 t2 := by kernel_rfl
end Go.Vm
end
