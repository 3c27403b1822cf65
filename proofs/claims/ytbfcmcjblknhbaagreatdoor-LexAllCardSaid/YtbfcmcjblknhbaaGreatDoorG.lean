/-
  Part G of the proof. What is proved by the whole: the statement that the claim names, with no condition. This part: lemmas.
-/
import Derived.Test.YtbfcmcjblknhbaaGreatDoorF
import Derived.Laws.Strings
set_option linter.unusedSimpArgs false
set_option linter.unusedVariables false

section
set_option linter.all false
namespace Go.Vm
/-! ### texts as rows of numbers -/
def tb (s : ByteArray) : List Nat := s.data.toList.map UInt8.toNat
theorem tb_len (s : ByteArray) : (tb s).length = s.size := by
  unfold tb
  rw [List.length_map, Array.length_toList]; rfl
theorem map_u8_inj : ∀ {a b : List UInt8}, a.map UInt8.toNat = b.map UInt8.toNat → a = b
  | [], [], _ => rfl
  | [], _ :: _, h => by simp at h
  | _ :: _, [], h => by simp at h
  | x :: a, y :: b, h => by
    simp only [List.map_cons, List.cons.injEq] at h
    rw [UInt8.toNat_inj.1 h.1, map_u8_inj h.2]
theorem tb_inj {s u : ByteArray} (h : tb s = tb u) : s = u := by
  have h1 : s.data.toList = u.data.toList := by
    unfold tb at h
    exact map_u8_inj h
  cases s; cases u
  simp only [ByteArray.mk.injEq]
  exact Array.toList_inj.1 h1
theorem tb_iff {s u : ByteArray} : tb s = tb u ↔ s = u := ⟨tb_inj, fun h => by rw [h]⟩
theorem toList_inj' {s u : ByteArray} (h : s.toList = u.toList) : s = u := by
  have e : ∀ t : ByteArray, t.toList = t.data.toList := fun t => ByteArray.toList_eq t
  rw [e, e] at h
  cases s; cases u
  simp only [ByteArray.mk.injEq]
  exact Array.toList_inj.1 h
theorem seq_tb (s u : ByteArray) : (s.toList == u.toList) = decide (tb s = tb u) := by
  rw [Bool.eq_iff_iff, beq_iff_eq, decide_eq_true_eq, tb_iff]
  exact ⟨toList_inj', fun h => by rw [h]⟩
theorem tb_getD (s : ByteArray) (i : Nat) : (tb s).getD i 0 = (s.data.getD i 0).toNat := by
  unfold tb
  rw [List.getD_eq_getElem?_getD, List.getElem?_map, Array.getElem?_toList]
  by_cases h : i < s.data.size
  · rw [Array.getElem?_eq_getElem h]; simp [Array.getD, show i < s.size from h]
  · rw [Array.getElem?_eq_none (by omega)]; simp [Array.getD, show ¬ i < s.size from h]
theorem sbyte_tb (s : ByteArray) (i : Nat) : sy.sbyte s (i : Int) = (((tb s).getD i 0 : Nat) : Int) := by
  rw [sy_sbyte, tb_getD, Int.toNat_natCast]
theorem tb_lt (s : ByteArray) (i : Nat) : (tb s).getD i 0 < 256 := by
  rw [tb_getD]; exact UInt8.toNat_lt _
theorem tb_app (s u : ByteArray) : tb (s ++ u) = tb s ++ tb u := by
  unfold tb
  rw [ByteArray.data_append, Array.toList_append, List.map_append]
theorem tb_scut (s : ByteArray) (a b : Int) : tb (s.extract a.toNat b.toNat) = ((tb s).take b.toNat).drop a.toNat := by
  unfold tb
  rw [ByteArray.data_extract, Array.toList_extract]
  simp [List.extract_eq_take_drop, List.map_take, List.map_drop, List.drop_take]
theorem tb_bs (l : List UInt8) : tb (bs l) = l.map UInt8.toNat := by simp [tb, bs]
theorem get_tb (s : ByteArray) (i : Nat) : (s.get! i).toNat = (tb s).getD i 0 := by
  rw [tb_getD]
  show (s.data[i]!).toNat = _
  by_cases h : i < s.data.size
  · simp [Array.getD, h, show i < s.size from h]
  · simp only [Array.getD, h, dite_false]
    rw [getElem!_neg s.data i h]; rfl
theorem dec_small {s : ByteArray} {i : Nat} (hb : (tb s).getD i 0 < 128) : decR s (i : Int) = (((tb s).getD i 0 : Nat) : Int) ∧ decW s (i : Int) = 1 := by
  unfold decR decW Utf8.decode
  rw [Int.toNat_natCast]
  simp only [Nat.add_zero, get_tb]
  rw [if_pos hb]
  exact ⟨rfl, rfl⟩
theorem dec_big {s : ByteArray} {i : Nat} (hb : 128 ≤ (tb s).getD i 0) : 128 ≤ decR s (i : Int) ∧ 1 ≤ decW s (i : Int) := by
  unfold decR decW Utf8.decode
  rw [Int.toNat_natCast]
  simp only [Nat.add_zero, get_tb]
  rw [if_neg (by omega)]
  have hr : 128 ≤ Utf8.runeError := by decide
  repeat' split
  all_goals first | omega | (simp only [ge_iff_le, Bool.and_eq_true, decide_eq_true_eq] at *; omega)
/-! ### names and paths -/
def smallN (c : Nat) : Bool := decide (97 ≤ c) && decide (c ≤ 122)
def greatN (c : Nat) : Bool := decide (65 ≤ c) && decide (c ≤ 90)
def digitN (c : Nat) : Bool := decide (48 ≤ c) && decide (c ≤ 57)
def innerN (c : Nat) : Bool := smallN c || greatN c || digitN c || decide (c = 95)
def nameN (first : Nat → Bool) (l : List Nat) : Bool := decide (1 ≤ l.length) && decide (l.length ≤ 12) && first (l.getD 0 0) && l.all innerN
def splitN (c : Nat) : List Nat → List (List Nat)
  | [] => [[]]
  | x :: xs => if x = c then [] :: splitN c xs else match splitN c xs with
    | [] => [[x]]
    | p :: ps => (x :: p) :: ps
theorem splitN_ne (c : Nat) : ∀ l, splitN c l ≠ []
  | [] => by simp [splitN]
  | x :: xs => by
    unfold splitN
    split
    · simp
    · split <;> simp
/-- A piece without the mark, ahead of the rest. -/
theorem splitN_app (c : Nat) : ∀ (p l : List Nat), (∀ x ∈ p, x ≠ c) → splitN c (p ++ l) = match splitN c l with
    | [] => [p]
    | q :: qs => (p ++ q) :: qs
  | [], l, _ => by
    simp only [List.nil_append]
    cases h : splitN c l with
    | nil => exact absurd h (splitN_ne c l)
    | cons q qs => rfl
  | x :: p, l, hp => by
    rw [List.cons_append, splitN, if_neg (hp x List.mem_cons_self), splitN_app c p l fun y hy => hp y (List.mem_cons_of_mem _ hy)]
    cases h : splitN c l with
    | nil => exact absurd h (splitN_ne c l)
    | cons q qs => rfl
theorem splitN_none (c : Nat) (p : List Nat) (hp : ∀ x ∈ p, x ≠ c) : splitN c p = [p] := by
  have := splitN_app c p [] hp
  rw [List.append_nil] at this
  rw [this]; simp [splitN]
theorem splitN_mark (c : Nat) (p l : List Nat) (hp : ∀ x ∈ p, x ≠ c) : splitN c (p ++ c :: l) = p :: splitN c l := by
  rw [splitN_app c p _ hp]
  simp [splitN]
end Go.Vm
end

section
set_option linter.all false
namespace Go.Vm
def wordsB : List (List Nat) := ["node", "returns", "var", "let", "tel", "enum", "if", "then", "else", "fby", "pre", "when", "merge", "every", "not", "and", "or", "xor", "mod", "true", "false", "int", "bool", "with"].map fun s => s.toUTF8.data.toList.map UInt8.toNat
def wordN (l : List Nat) : Bool := wordsB.contains l
def lowN (l : List Nat) : Bool := nameN smallN l && !wordN l
def highN (l : List Nat) : Bool := nameN greatN l
def numN (l : List Nat) : Bool := decide (1 ≤ l.length) && decide (l.length ≤ 3) && !decide (l.getD 0 0 = 48) && l.all digitN
def partN (l : List Nat) : Bool := match splitN 46 l with
  | [a] => lowN a
  | [a, b] => lowN a && numN b
  | _ => false
def pathN (l : List Nat) : Bool := (splitN 47 l).all partN
/-- Where a mark stands first. -/
def idxN (c : Nat) : List Nat → Option Nat
  | [] => none
  | x :: xs => if x = c then some 0 else (idxN c xs).map (· + 1)
theorem idxN_none {c : Nat} : ∀ {l : List Nat}, idxN c l = none → ∀ x ∈ l, x ≠ c
  | [], _, x, hx => by simp at hx
  | y :: ys, h, x, hx => by
    unfold idxN at h
    split at h
    · cases h
    · rw [Option.map_eq_none_iff] at h
      rcases List.mem_cons.1 hx with rfl | hx
      · assumption
      · exact idxN_none h x hx
theorem idxN_some {c : Nat} : ∀ {l : List Nat} {i : Nat}, idxN c l = some i → i < l.length ∧ l = l.take i ++ c :: l.drop (i + 1) ∧ ∀ x ∈ l.take i, x ≠ c
  | [], i, h => by cases h
  | y :: ys, i, h => by
    unfold idxN at h
    split at h
    · cases h; rename_i e; subst e; exact ⟨by simp, by simp, by simp⟩
    · rename_i hne
      rw [Option.map_eq_some_iff] at h
      obtain ⟨j, hj, rfl⟩ := h
      obtain ⟨h1, h2, h3⟩ := idxN_some hj
      refine ⟨by simp; omega, ?_, fun x hx => ?_⟩
      · simp only [List.take_succ_cons, List.drop_succ_cons, List.cons_append]
        rw [← h2]
      · rw [List.take_succ_cons] at hx
        rcases List.mem_cons.1 hx with rfl | hx
        · exact hne
        · exact h3 x hx
/-- A part, by where its point stands. -/
theorem partN_cut (l : List Nat) : partN l = match idxN 46 l with
    | none => lowN l
    | some i => lowN (l.take i) && numN (l.drop (i + 1)) := by
  cases h : idxN 46 l with
  | none =>
    unfold partN
    rw [splitN_none 46 l (idxN_none h)]
  | some i =>
    obtain ⟨h1, h2, h3⟩ := idxN_some h
    simp only
    generalize hb : l.take i = b at h2 h3 ⊢
    generalize ha : l.drop (i + 1) = a at h2 ⊢
    subst h2
    unfold partN
    rw [splitN_mark 46 b a h3]
    cases hq : idxN 46 a with
    | none => rw [splitN_none 46 a (idxN_none hq)]
    | some j =>
      obtain ⟨q1, q2, q3⟩ := idxN_some hq
      have e : numN a = false := by
        unfold numN
        have : a.all digitN = false := by
          rw [q2, List.all_append, List.all_cons]
          have : digitN 46 = false := by decide
          rw [this]; simp
        rw [this]; simp
      have hs : splitN 46 a = a.take j :: splitN 46 (a.drop (j + 1)) := by
        conv => lhs; rw [q2]
        exact splitN_mark 46 _ _ q3
      rw [hs, e, Bool.and_false]
      cases hz : splitN 46 (a.drop (j + 1)) with
      | nil => exact absurd hz (splitN_ne _ _)
      | cons z zs => rfl
end Go.Vm
end

section
set_option linter.all false
set_option maxRecDepth 100000
set_option maxHeartbeats 2000000
namespace Go.Vm
open Go.Proofs
/-! ### bytes, and runes -/
def inI (a b n : Int) : Bool := decide (a ≤ n) && decide (n ≤ b)
theorem inI_small (c : Nat) : inI 97 122 (c : Int) = smallN c := by
  unfold inI smallN
  rw [Bool.eq_iff_iff]
  simp only [Bool.and_eq_true, decide_eq_true_eq]
  omega
theorem inI_great (c : Nat) : inI 65 90 (c : Int) = greatN c := by
  unfold inI greatN
  rw [Bool.eq_iff_iff]
  simp only [Bool.and_eq_true, decide_eq_true_eq]
  omega
theorem inI_digit (c : Nat) : inI 48 57 (c : Int) = digitN c := by
  unfold inI digitN
  rw [Bool.eq_iff_iff]
  simp only [Bool.and_eq_true, decide_eq_true_eq]
  omega
theorem inI_big {a b n : Int} (h : b < n) : inI a b n = false := by
  unfold inI
  rw [decF (p := n ≤ b) (by omega), Bool.and_false]
theorem c_small (n : Int) : cF 127 [.d (.int .i32 n)] = some (.val [.bool (inI 97 122 n)]) := by
  refine cOf (by kernel_rfl) rfl ?_
  rw [g127_eq]
  simp only [g127, go1, Option.bind_some, eq_self, cond_true, cond_false, Nat.reduceAdd, Int.reduceEq, Int.reduceLT, Int.reduceLE, Int.reduceSub, Int.reduceAdd]
  rfl
theorem c_great (n : Int) : cF 126 [.d (.int .i32 n)] = some (.val [.bool (inI 65 90 n)]) := by
  refine cOf (by kernel_rfl) rfl ?_
  rw [g126_eq]
  simp only [g126, go1, Option.bind_some, eq_self, cond_true, cond_false, Nat.reduceAdd, Int.reduceEq, Int.reduceLT, Int.reduceLE, Int.reduceSub, Int.reduceAdd]
  rfl
theorem c_digit (n : Int) : cF 137 [.d (.int .i32 n)] = some (.val [.bool (inI 48 57 n)]) := by
  refine cOf (by kernel_rfl) rfl ?_
  rw [g137_eq]
  simp only [g137, go1, Option.bind_some, eq_self, cond_true, cond_false, Nat.reduceAdd, Int.reduceEq, Int.reduceLT, Int.reduceLE, Int.reduceSub, Int.reduceAdd]
  rfl
theorem all_snoc {α : Type} {l : List α} {p : Nat} {f : α → Bool} {d : α} (hp : p < l.length) (h : (l.take p).all f = true) (hx : f (l.getD p d) = true) : (l.take (p + 1)).all f = true := by
  rw [List.take_add_one, List.all_append, h, List.getElem?_eq_getElem hp]
  rw [List.getD_eq_getElem?_getD, List.getElem?_eq_getElem hp] at hx
  simpa using hx
theorem all_false {α : Type} {l : List α} {p : Nat} {f : α → Bool} {d : α} (hp : p < l.length) (hx : f (l.getD p d) = false) : l.all f = false := by
  rw [List.getD_eq_getElem?_getD, List.getElem?_eq_getElem hp] at hx
  rw [Bool.eq_false_iff]
  intro hh
  have := List.all_eq_true.1 hh _ (List.getElem_mem hp)
  simp at hx
  rw [hx] at this; cases this
theorem nameN_bad {first : Nat → Bool} {l : List Nat} {p : Nat} (hp : p < l.length) (hx : innerN (l.getD p 0) = false) : nameN first l = false := by
  unfold nameN; rw [all_false hp hx, Bool.and_false]
theorem nameN_first {first : Nat → Bool} {l : List Nat} (hx : first (l.getD 0 0) = false) : nameN first l = false := by
  unfold nameN; rw [hx, Bool.and_false, Bool.false_and]
theorem size_tb (s : ByteArray) : (s.size : Int) = ((tb s).length : Int) := by rw [tb_len]
theorem inner_def (c : Nat) : innerN c = (smallN c || greatN c || digitN c || decide (c = 95)) := rfl
theorem inner_big {c : Nat} (h : 128 ≤ c) : innerN c = false := by
  unfold innerN smallN greatN digitN
  simp; omega
theorem c_name (s : ByteArray) : cF 125 [.d (.str s), .fn 127 []] = some (.val [.bool (nameN smallN (tb s))]) := by
  refine cOf (by kernel_rfl) rfl ?_
  rw [g125_127_eq]
  simp only [g125_127, go1, Option.bind_some, eq_self, cond_true, cond_false, Nat.reduceAdd, Int.reduceEq, Int.reduceLT, Int.reduceLE, Int.reduceSub, Int.reduceAdd]
  refine loopF_at (fun p : Nat => [.str s, .str s, .int .i64 (p : Int)]) (fun p => p ≤ (tb s).length ∧ ((tb s).take p).all innerN = true ∧ (0 < p → smallN ((tb s).getD 0 0) = true)) (fun p => (tb s).length - p) (fun p hp => ?_) 0 ⟨Nat.zero_le _, by simp, by omega⟩
  obtain ⟨hle, hall, hfst⟩ := hp
  by_cases hlt : p < (tb s).length
  · by_cases hc : (tb s).getD p 0 < 128
    · obtain ⟨e1, e2⟩ := dec_small hc
      simp only [go1, Option.bind_some, eq_self, cond_true, cond_false, Nat.reduceAdd, Int.reduceEq, Int.reduceLT, Int.reduceLE, Int.reduceSub, Int.reduceAdd, size_tb, ilt_at hlt, sy_rdec, sy_rwid, e1, e2, c_small, c_great, c_digit, inI_small, inI_great, inI_digit]
      have hi := inner_def ((tb s).getD p 0)
      by_cases h0 : p = 0
      · subst h0
        cases hs : smallN ((tb s).getD 0 0) with
        | false =>
          right
          rw [nameN_first hs]
          simp only [go1, Option.bind_some, eq_self, cond_true, cond_false, Nat.reduceAdd, Int.reduceEq, Int.reduceLT, Int.reduceLE, Int.reduceSub, Int.reduceAdd]; rfl
        | true =>
          left
          rw [hs] at hi
          refine ⟨0 + 1, ?_, ⟨hlt, all_snoc hlt hall (by rw [hi]; rfl), fun _ => (by first | rfl | exact hs)⟩, by omega⟩
          simp only [go1, Option.bind_some, eq_self, cond_true, cond_false, Nat.reduceAdd, Int.reduceEq, Int.reduceLT, Int.reduceLE, Int.reduceSub, Int.reduceAdd]; rfl
      · rw [decF (p := (p : Int) = 0) (by omega)]
        cases hin : innerN ((tb s).getD p 0) with
        | false =>
          right
          rw [nameN_bad hlt hin]
          rw [hin] at hi
          have hi := hi.symm
          simp only [Bool.or_eq_false_iff] at hi
          obtain ⟨⟨⟨i1, i2⟩, i3⟩, i4⟩ := hi
          have i4' : ¬ (((tb s).getD p 0 : Nat) : Int) = 95 := by
            have := of_decide_eq_false i4; omega
          rw [decF i4']
          simp only [i1, i2, i3, go1, Option.bind_some, eq_self, cond_true, cond_false, Nat.reduceAdd, Int.reduceEq, Int.reduceLT, Int.reduceLE, Int.reduceSub, Int.reduceAdd]
        | true =>
          left
          refine ⟨p + 1, ?_, ⟨hlt, all_snoc hlt hall hin, fun _ => hfst (by omega)⟩, by omega⟩
          rw [hin] at hi
          cases i1 : smallN ((tb s).getD p 0) <;> cases i2 : greatN ((tb s).getD p 0) <;> cases i3 : digitN ((tb s).getD p 0) <;> rw [i1, i2, i3] at hi <;> simp only [go1, Option.bind_some, eq_self, cond_true, cond_false, Nat.reduceAdd, Int.reduceEq, Int.reduceLT, Int.reduceLE, Int.reduceSub, Int.reduceAdd] <;> (try rfl)
          all_goals
            simp only [Bool.or_self, Bool.false_or] at hi
            have i4 := of_decide_eq_true hi.symm
            rw [decT (p := (((tb s).getD p 0 : Nat) : Int) = 95) (by omega)]
            rfl
    · have hb := dec_big (s := s) (i := p) (by omega)
      right
      have hin : innerN ((tb s).getD p 0) = false := by
        exact inner_big (by omega)
      rw [nameN_bad hlt hin]
      have hz : ¬ decR s (p : Int) = 95 := by omega
      simp only [go1, Option.bind_some, eq_self, cond_true, cond_false, Nat.reduceAdd, Int.reduceEq, Int.reduceLT, Int.reduceLE, Int.reduceSub, Int.reduceAdd, size_tb, ilt_at hlt, sy_rdec, sy_rwid, c_small, c_great, c_digit, inI_big (a := 97) (b := 122) (n := decR s (p : Int)) (by omega), inI_big (a := 65) (b := 90) (n := decR s (p : Int)) (by omega), inI_big (a := 48) (b := 57) (n := decR s (p : Int)) (by omega), decF hz]
      cases decide ((p : Int) = 0) 
      · simp only [cond_true, cond_false, Bool.not_false, go1, Option.bind_some, eq_self, cond_true, cond_false, Nat.reduceAdd, Int.reduceEq, Int.reduceLT, Int.reduceLE, Int.reduceSub, Int.reduceAdd]; simp [hz]
      · rfl
  · right
    have : p = (tb s).length := by omega
    subst this
    simp only [go1, Option.bind_some, eq_self, cond_true, cond_false, Nat.reduceAdd, Int.reduceEq, Int.reduceLT, Int.reduceLE, Int.reduceSub, Int.reduceAdd, size_tb, ilt_self]
    rw [List.take_length] at hall
    unfold nameN
    rw [hall, Bool.and_true]
    by_cases h0 : 0 < (tb s).length
    · rw [hfst h0, Bool.and_true]
      by_cases h12 : (tb s).length ≤ 12
      · rw [decT (p := 1 ≤ ((tb s).length : Int)) (by omega), decT (p := ((tb s).length : Int) ≤ 12) (by omega), decT (p := 1 ≤ (tb s).length) (by omega), decT h12]
        first | done | rfl
      · rw [decT (p := 1 ≤ ((tb s).length : Int)) (by omega), decF (p := ((tb s).length : Int) ≤ 12) (by omega), decF h12]
        first | done | rfl | simp
    · rw [decF (p := 1 ≤ ((tb s).length : Int)) (by omega), decF (p := 1 ≤ (tb s).length) (by omega)]
      first | done | rfl | simp
end Go.Vm
end

section
set_option linter.all false
set_option maxRecDepth 100000
set_option maxHeartbeats 2000000
namespace Go.Vm
open Go.Proofs
/-! ### rows of texts -/
def srow (s : ByteArray) : List D := [.str s]
def srows (l : List ByteArray) : List (List D) := l.map srow
theorem srows_len (l : List ByteArray) : (srows l).length = l.length := by simp [srows]
theorem srows_app (a b : List ByteArray) : srows a ++ srows b = srows (a ++ b) := by simp [srows]
theorem srows_row {l : List ByteArray} {i : Nat} {x : ByteArray} (h : l[i]? = some x) : sy.row (srows l) (i : Int) = [.str x] := by
  rw [sy_row, Int.toNat_natCast, List.getD_eq_getElem?_getD]
  unfold srows
  rw [List.getElem?_map, h]; rfl
theorem srows_at {l : List ByteArray} {i : Nat} {x : ByteArray} (h : l[i]? = some x) : sy.cell (sy.row (srows l) (i : Int)) 0 = some (.str x) := by rw [srows_row h]; rfl
/-! ### where a byte stands -/
def idxZ (c : Nat) (l : List Nat) : Int := match idxN c l with
  | none => -1
  | some i => i
theorem idxZ_lib (c : UInt8) : ∀ l : List UInt8, Lib.indexByte l c = idxZ c.toNat (l.map UInt8.toNat)
  | [] => rfl
  | b :: l => by
    unfold Lib.indexByte idxZ
    rw [List.map_cons, idxN]
    have ih := idxZ_lib c l
    by_cases h : b = c
    · subst h; simp
    · have h1 : ¬ b.toNat = c.toNat := fun e => h (UInt8.toNat_inj.1 e)
      have h2 : (b == c) = false := by simp [h]
      rw [h2, if_neg h1, ih]
      unfold idxZ
      cases idxN c.toNat (l.map UInt8.toNat) with
      | none => rfl
      | some i =>
        have : ((i : Int) == -1) = false := by rw [beq_eq_false_iff_ne]; omega
        simp [this]
theorem sidx_tb (s : ByteArray) (m : UInt8) : sy.sidx s ((m.toNat : Nat) : Int) = idxZ m.toNat (tb s) := by
  rw [sy_sidx, Int.toNat_natCast, idxZ_lib]
  have : m.toNat.toUInt8 = m := by simp
  rw [this]; rfl
theorem sbyte_bs (m : UInt8) : sy.sbyte (bs [m]) 0 = ((m.toNat : Nat) : Int) := rfl
theorem slen_bs (l : List UInt8) : ((bs l).size : Int) = l.length := by
  show ((l.toArray.size : Nat) : Int) = _
  simp
theorem c_liteIndex (s : ByteArray) (m : UInt8) : cF 130 [.d (.str s), .d (.str (bs [m]))] = some (.val [.int .i64 (idxZ m.toNat (tb s))]) := by
  have h72 : cF 133 [.d (.str s), .d (.int .u8 (sy.sbyte (bs [m]) 0))] = some (.val [.int .i64 (idxZ m.toNat (tb s))]) := by
    refine cOf (by kernel_rfl) rfl ?_
    rw [g133_eq]
    simp only [g133, go1, Option.bind_some, eq_self, cond_true, cond_false, Nat.reduceAdd, Int.reduceEq, Int.reduceLT, Int.reduceLE, Int.reduceSub, Int.reduceAdd]
    show some (PRes.val [D.int .i64 (sy.sidx s ((m.toNat : Nat) : Int))]) = _
    rw [sidx_tb]
  refine cOf (by kernel_rfl) rfl ?_
  rw [g130_eq]
  unfold g130
  have e1 : sy.ieq (sy.slen (bs [m])) 0 = false := rfl
  have e2 : sy.ieq (sy.slen (bs [m])) 1 = true := rfl
  have e3 : sy.inr 0 (sy.slen (bs [m])) = true := rfl
  rw [← eF_call] at h72
  cases h : sy.seq (bs [m]) s with
  | true =>
    have : tb (bs [m]) = tb s := by
      rw [sy_seq, seq_tb] at h; exact of_decide_eq_true h
    have hz : idxZ m.toNat (tb s) = 0 := by
      rw [← this]
      unfold idxZ tb bs
      simp [idxN]
    rw [hz]
    repeat' (first | with_reducible exact st_some | with_reducible apply st_cut | with_reducible apply st_bind | ((with_reducible apply st_t); (first | with_reducible exact e1 | with_reducible exact h | rfl)) | ((with_reducible apply st_f); (first | with_reducible exact e1 | with_reducible exact h | rfl)) | with_reducible apply st_lp | with_reducible apply st_inl | with_reducible exact st_inr | with_reducible apply st_opI | with_reducible apply st_opB | with_reducible apply st_opL | rfl)
  | false =>
    repeat' (first | with_reducible exact st_some | with_reducible apply st_cut | with_reducible apply st_bind | ((with_reducible apply st_t); (first | with_reducible exact e1 | with_reducible exact e2 | with_reducible exact e3 | with_reducible exact h | rfl)) | ((with_reducible apply st_f); (first | with_reducible exact e1 | with_reducible exact e2 | with_reducible exact e3 | with_reducible exact h | rfl)) | with_reducible apply st_lp | with_reducible apply st_inl | with_reducible exact st_inr | with_reducible apply st_opI | with_reducible apply st_opB | with_reducible apply st_opL | exact h72 | rfl)
theorem c_Index (s : ByteArray) (m : UInt8) : cF 98 [.d (.str s), .d (.str (bs [m]))] = some (.val [.int .i64 (idxZ m.toNat (tb s))]) := by
  have := c_liteIndex s m
  refine cOf (by kernel_rfl) rfl ?_
  rw [g98_eq]
  simp only [g98, go1, Option.bind_some, eq_self, cond_true, cond_false, Nat.reduceAdd, Int.reduceEq, Int.reduceLT, Int.reduceLE, Int.reduceSub, Int.reduceAdd, this]
theorem idxZ_bd (c : Nat) (l : List Nat) : idxZ c l = -1 ∧ idxN c l = none ∨ ∃ i : Nat, idxZ c l = i ∧ idxN c l = some i ∧ i < l.length := by
  unfold idxZ
  cases h : idxN c l with
  | none => exact .inl ⟨rfl, rfl⟩
  | some i => exact .inr ⟨i, rfl, rfl, (idxN_some h).1⟩
/-- What stands ahead of a byte, and behind it. -/
theorem c_Cut (s : ByteArray) (m : UInt8) (hs : s.size ≤ 100000) : ∃ a b f, cF 104 [.d (.str s), .d (.str (bs [m]))] = some (.val [.str a, .str b, .bool f]) ∧
    ((f = false ∧ idxN m.toNat (tb s) = none ∧ tb a = tb s) ∨ (f = true ∧ ∃ i, idxN m.toNat (tb s) = some i ∧ tb a = (tb s).take i ∧ tb b = (tb s).drop (i + 1))) := by
  have hI := c_liteIndex s m
  have hl := tb_len s
  rcases idxZ_bd m.toNat (tb s) with ⟨hz, hn⟩ | ⟨i, hz, hn, hi⟩
  · refine ⟨s, bs [], false, ?_, .inl ⟨rfl, hn, rfl⟩⟩
    rw [hz] at hI
    have h60 : cF 136 [.d (.str s), .d (.str (bs [m]))] = some (.val [.str s, .str (bs []), .bool false]) := by
      refine cOf (by kernel_rfl) rfl ?_
      rw [g136_eq]
      simp only [g136, go1, Option.bind_some, eq_self, cond_true, cond_false, Nat.reduceAdd, Int.reduceEq, Int.reduceLT, Int.reduceLE, Int.reduceSub, Int.reduceAdd, hI]
    refine cOf (by kernel_rfl) rfl ?_
    rw [g104_eq]
    simp only [g104, go1, Option.bind_some, eq_self, cond_true, cond_false, Nat.reduceAdd, Int.reduceEq, Int.reduceLT, Int.reduceLE, Int.reduceSub, Int.reduceAdd, h60]
  · rw [hz] at hI
    have h60 : cF 136 [.d (.str s), .d (.str (bs [m]))] = some (.val [.str (s.extract (0 : Int).toNat ((i : Nat) : Int).toNat), .str (s.extract ((i : Int) + 1).toNat ((s.size : Nat) : Int).toNat), .bool true]) := by
      refine cOf (by kernel_rfl) rfl ?_
      rw [g136_eq]
      simp only [g136, go1, Option.bind_some, eq_self, cond_true, cond_false, Nat.reduceAdd, Int.reduceEq, Int.reduceLT, Int.reduceLE, Int.reduceSub, Int.reduceAdd, hI, slen_bs]
      rw [decT (p := 0 ≤ (i : Int)) (by omega), decT (p := 0 ≤ (i : Int) ∧ (i : Int) ≤ (s.size : Int)) (by omega)]
      have hw : IntKind.i64.wrap ((i : Int) + ((([m] : List UInt8).length : Nat) : Int)) = (i : Int) + 1 := by
        rw [show ((([m] : List UInt8).length : Nat) : Int) = 1 from rfl, wrap_id (by omega) (by omega)]
      rw [hw, decT (p := 0 ≤ (i : Int) + 1 ∧ (i : Int) + 1 ≤ (s.size : Int) ∧ (s.size : Int) ≤ (s.size : Int)) (by omega)]
      rfl
    refine ⟨s.extract (0 : Int).toNat ((i : Nat) : Int).toNat, s.extract ((i : Int) + 1).toNat ((s.size : Nat) : Int).toNat, true, ?_, .inr ⟨rfl, i, hn, ?_, ?_⟩⟩
    · refine cOf (by kernel_rfl) rfl ?_
      rw [g104_eq]
      simp only [g104, go1, Option.bind_some, eq_self, cond_true, cond_false, Nat.reduceAdd, Int.reduceEq, Int.reduceLT, Int.reduceLE, Int.reduceSub, Int.reduceAdd, h60]
    · rw [tb_scut]; simp
    · rw [tb_scut]
      have e1 : ((i : Int) + 1).toNat = i + 1 := by omega
      rw [e1, Int.toNat_natCast, ← hl, List.take_length]
end Go.Vm
end

section
set_option linter.all false
set_option maxRecDepth 100000
set_option maxHeartbeats 4000000
namespace Go.Vm
open Go.Proofs
def wordsL : List ByteArray := [bs [110, 111, 100, 101], bs [114, 101, 116, 117, 114, 110, 115], bs [118, 97, 114], bs [108, 101, 116], bs [116, 101, 108], bs [101, 110, 117, 109], bs [105, 102], bs [116, 104, 101, 110], bs [101, 108, 115, 101], bs [102, 98, 121], bs [112, 114, 101], bs [119, 104, 101, 110], bs [109, 101, 114, 103, 101], bs [101, 118, 101, 114, 121], bs [110, 111, 116], bs [97, 110, 100], bs [111, 114], bs [120, 111, 114], bs [109, 111, 100], bs [116, 114, 117, 101], bs [102, 97, 108, 115, 101], bs [105, 110, 116], bs [98, 111, 111, 108], bs [119, 105, 116, 104]]
theorem wordsL_tb : wordsL.map tb = wordsB := by decide +kernel
theorem wordN_any (s : ByteArray) : wordN (tb s) = wordsL.any fun w => decide (tb s = tb w) := by
  unfold wordN
  rw [← wordsL_tb, List.contains_eq_any_beq, List.any_map]
  congr 1
  funext w
  rw [Bool.eq_iff_iff]; simp
theorem c_Word (s : ByteArray) : cF 96 [.d (.str s)] = some (.val [.bool (wordN (tb s))]) := by
  rw [wordN_any]
  refine cOf (by kernel_rfl) rfl ?_
  rw [g96_eq]
  simp only [g96, go1, Option.bind_some, eq_self, cond_true, cond_false, Nat.reduceAdd, Int.reduceEq, Int.reduceLT, Int.reduceLE, Int.reduceSub, Int.reduceAdd]
  unfold wordsL
  simp only [seq_tb, List.any_cons, List.any_nil, Bool.or_false]
  cases decide (tb s = tb (bs [110, 111, 100, 101])) <;> simp only [cond_true, cond_false, Bool.true_or, Bool.false_or]
  cases decide (tb s = tb (bs [114, 101, 116, 117, 114, 110, 115])) <;> simp only [cond_true, cond_false, Bool.true_or, Bool.false_or]
  cases decide (tb s = tb (bs [118, 97, 114])) <;> simp only [cond_true, cond_false, Bool.true_or, Bool.false_or]
  cases decide (tb s = tb (bs [108, 101, 116])) <;> simp only [cond_true, cond_false, Bool.true_or, Bool.false_or]
  cases decide (tb s = tb (bs [116, 101, 108])) <;> simp only [cond_true, cond_false, Bool.true_or, Bool.false_or]
  cases decide (tb s = tb (bs [101, 110, 117, 109])) <;> simp only [cond_true, cond_false, Bool.true_or, Bool.false_or]
  cases decide (tb s = tb (bs [105, 102])) <;> simp only [cond_true, cond_false, Bool.true_or, Bool.false_or]
  cases decide (tb s = tb (bs [116, 104, 101, 110])) <;> simp only [cond_true, cond_false, Bool.true_or, Bool.false_or]
  cases decide (tb s = tb (bs [101, 108, 115, 101])) <;> simp only [cond_true, cond_false, Bool.true_or, Bool.false_or]
  cases decide (tb s = tb (bs [102, 98, 121])) <;> simp only [cond_true, cond_false, Bool.true_or, Bool.false_or]
  cases decide (tb s = tb (bs [112, 114, 101])) <;> simp only [cond_true, cond_false, Bool.true_or, Bool.false_or]
  cases decide (tb s = tb (bs [119, 104, 101, 110])) <;> simp only [cond_true, cond_false, Bool.true_or, Bool.false_or]
  cases decide (tb s = tb (bs [109, 101, 114, 103, 101])) <;> simp only [cond_true, cond_false, Bool.true_or, Bool.false_or]
  cases decide (tb s = tb (bs [101, 118, 101, 114, 121])) <;> simp only [cond_true, cond_false, Bool.true_or, Bool.false_or]
  cases decide (tb s = tb (bs [110, 111, 116])) <;> simp only [cond_true, cond_false, Bool.true_or, Bool.false_or]
  cases decide (tb s = tb (bs [97, 110, 100])) <;> simp only [cond_true, cond_false, Bool.true_or, Bool.false_or]
  cases decide (tb s = tb (bs [111, 114])) <;> simp only [cond_true, cond_false, Bool.true_or, Bool.false_or]
  cases decide (tb s = tb (bs [120, 111, 114])) <;> simp only [cond_true, cond_false, Bool.true_or, Bool.false_or]
  cases decide (tb s = tb (bs [109, 111, 100])) <;> simp only [cond_true, cond_false, Bool.true_or, Bool.false_or]
  cases decide (tb s = tb (bs [116, 114, 117, 101])) <;> simp only [cond_true, cond_false, Bool.true_or, Bool.false_or]
  cases decide (tb s = tb (bs [102, 97, 108, 115, 101])) <;> simp only [cond_true, cond_false, Bool.true_or, Bool.false_or]
  cases decide (tb s = tb (bs [105, 110, 116])) <;> simp only [cond_true, cond_false, Bool.true_or, Bool.false_or]
  cases decide (tb s = tb (bs [98, 111, 111, 108])) <;> simp only [cond_true, cond_false, Bool.true_or, Bool.false_or]
  cases decide (tb s = tb (bs [119, 105, 116, 104])) <;> simp only [cond_true, cond_false, Bool.true_or, Bool.false_or]
theorem c_Low (s : ByteArray) : cF 95 [.d (.str s)] = some (.val [.bool (lowN (tb s))]) := by
  have h1 := c_name s
  have h2 := c_Word s
  refine cOf (by kernel_rfl) rfl ?_
  rw [g95_eq]
  simp only [g95, go1, Option.bind_some, eq_self, cond_true, cond_false, Nat.reduceAdd, Int.reduceEq, Int.reduceLT, Int.reduceLE, Int.reduceSub, Int.reduceAdd, h1, h2]
  rfl
theorem numN_bad {l : List Nat} {p : Nat} (hp : p < l.length) (hx : digitN (l.getD p 0) = false) : numN l = false := by
  unfold numN; rw [all_false hp hx, Bool.and_false]
theorem c_number (s : ByteArray) : cF 105 [.d (.str s)] = some (.val [.bool (numN (tb s))]) := by
  refine cOf (by kernel_rfl) rfl ?_
  rw [g105_eq]
  simp only [g105, go1, Option.bind_some, eq_self, cond_true, cond_false, Nat.reduceAdd, Int.reduceEq, Int.reduceLT, Int.reduceLE, Int.reduceSub, Int.reduceAdd]
  refine loopF_at (fun p : Nat => [.str s, .str s, .int .i64 (p : Int)]) (fun p => p ≤ (tb s).length ∧ ((tb s).take p).all digitN = true ∧ (0 < p → (tb s).getD 0 0 ≠ 48)) (fun p => (tb s).length - p) (fun p hp => ?_) 0 ⟨Nat.zero_le _, by simp, by omega⟩
  obtain ⟨hle, hall, hfst⟩ := hp
  by_cases hlt : p < (tb s).length
  · by_cases hc : (tb s).getD p 0 < 128
    · obtain ⟨e1, e2⟩ := dec_small hc
      simp only [go1, Option.bind_some, eq_self, cond_true, cond_false, Nat.reduceAdd, Int.reduceEq, Int.reduceLT, Int.reduceLE, Int.reduceSub, Int.reduceAdd, size_tb, ilt_at hlt, sy_rdec, sy_rwid, e1, e2, c_digit, inI_digit]
      cases hin : digitN ((tb s).getD p 0) with
      | false =>
        right
        rw [numN_bad hlt hin]
        simp only [go1, Option.bind_some, eq_self, cond_true, cond_false, Nat.reduceAdd, Int.reduceEq, Int.reduceLT, Int.reduceLE, Int.reduceSub, Int.reduceAdd]
      | true =>
        by_cases h0 : p = 0
        · subst h0
          by_cases h48 : (tb s).getD 0 0 = 48
          · right
            have : numN (tb s) = false := by unfold numN; rw [decT h48]; simp
            rw [this, decT (p := (((tb s).getD 0 0 : Nat) : Int) = 48) (by omega)]
            simp only [go1, Option.bind_some, eq_self, cond_true, cond_false, Nat.reduceAdd, Int.reduceEq, Int.reduceLT, Int.reduceLE, Int.reduceSub, Int.reduceAdd]; rfl
          · left
            refine ⟨0 + 1, ?_, ⟨hlt, all_snoc hlt hall hin, fun _ => h48⟩, by omega⟩
            rw [decF (p := (((tb s).getD 0 0 : Nat) : Int) = 48) (by omega)]
            simp only [go1, Option.bind_some, eq_self, cond_true, cond_false, Nat.reduceAdd, Int.reduceEq, Int.reduceLT, Int.reduceLE, Int.reduceSub, Int.reduceAdd]; rfl
        · left
          refine ⟨p + 1, ?_, ⟨hlt, all_snoc hlt hall hin, fun _ => hfst (by omega)⟩, by omega⟩
          rw [decF (p := (p : Int) = 0) (by omega)]
          simp only [go1, Option.bind_some, eq_self, cond_true, cond_false, Nat.reduceAdd, Int.reduceEq, Int.reduceLT, Int.reduceLE, Int.reduceSub, Int.reduceAdd]; rfl
    · have hb := dec_big (s := s) (i := p) (by omega)
      right
      have hin : digitN ((tb s).getD p 0) = false := by
        have : 128 ≤ (tb s).getD p 0 := by omega
        generalize (tb s).getD p 0 = c at this
        unfold digitN; simp; omega
      rw [numN_bad hlt hin]
      simp only [go1, Option.bind_some, eq_self, cond_true, cond_false, Nat.reduceAdd, Int.reduceEq, Int.reduceLT, Int.reduceLE, Int.reduceSub, Int.reduceAdd, size_tb, ilt_at hlt, sy_rdec, sy_rwid, c_digit, inI_big (a := 48) (b := 57) (n := decR s (p : Int)) (by omega)]
  · right
    have : p = (tb s).length := by omega
    subst this
    simp only [go1, Option.bind_some, eq_self, cond_true, cond_false, Nat.reduceAdd, Int.reduceEq, Int.reduceLT, Int.reduceLE, Int.reduceSub, Int.reduceAdd, size_tb, ilt_self]
    rw [List.take_length] at hall
    unfold numN
    rw [hall, Bool.and_true]
    by_cases h0 : 0 < (tb s).length
    · rw [decF (hfst h0), decT (p := 1 ≤ ((tb s).length : Int)) (by omega), decT (p := 1 ≤ (tb s).length) (by omega)]
      by_cases h3 : (tb s).length ≤ 3
      · rw [decT (p := ((tb s).length : Int) ≤ 3) (by omega), decT h3]; rfl
      · rw [decF (p := ((tb s).length : Int) ≤ 3) (by omega), decF h3]; rfl
    · rw [decF (p := 1 ≤ ((tb s).length : Int)) (by omega), decF (p := 1 ≤ (tb s).length) (by omega)]
      rfl
theorem c_part (s : ByteArray) (hs : s.size ≤ 100000) : cF 68 [.d (.str s)] = some (.val [.bool (partN (tb s))]) := by
  obtain ⟨a, b, f, h1, h2⟩ := c_Cut s 46 hs
  have h3 := c_Low a
  have h4 := c_number b
  rw [partN_cut]
  rcases h2 with ⟨rfl, hn, ha⟩ | ⟨rfl, i, hn, ha, hb⟩
  · rw [ha] at h3
    have hn : idxN 46 (tb s) = none := hn
    rw [hn]
    refine cOf (by kernel_rfl) rfl ?_
    rw [g68_eq]
    simp only [g68, go1, Option.bind_some, eq_self, cond_true, cond_false, Nat.reduceAdd, Int.reduceEq, Int.reduceLT, Int.reduceLE, Int.reduceSub, Int.reduceAdd, h1, h3]
    try (cases lowN (tb s) <;> rfl)
  · rw [ha] at h3
    rw [hb] at h4
    have hn : idxN 46 (tb s) = some i := hn
    rw [hn]
    refine cOf (by kernel_rfl) rfl ?_
    rw [g68_eq]
    simp only [g68, go1, Option.bind_some, eq_self, cond_true, cond_false, Nat.reduceAdd, Int.reduceEq, Int.reduceLT, Int.reduceLE, Int.reduceSub, Int.reduceAdd, h1, h3, h4]
    try (cases lowN ((tb s).take i) <;> rfl)
end Go.Vm
end

section
namespace Go.Vm
theorem loopF_ex {σ α : Type} {b : List D → Option (List D ⊕ α)} {Q : α → Prop} (mk : σ → List D) (I : σ → Prop) (μ : σ → Nat)
    (h : ∀ x, I x → (∃ y, b (mk x) = some (.inl (mk y)) ∧ I y ∧ μ y < μ x) ∨ ∃ r, b (mk x) = some (.inr r) ∧ Q r) (x : σ) (h0 : I x) : ∃ r, loopF b (mk x) = some r ∧ Q r := by
  suffices ∀ n x, μ x < n → I x → ∃ r, loopF b (mk x) = some r ∧ Q r from this _ x (Nat.lt_succ_self _) h0
  intro n
  induction n with
  | zero => intro x h; omega
  | succ n ih =>
    intro x hlt hi
    rw [loopF_eq]
    rcases h x hi with ⟨d, h1, h2, h3⟩ | ⟨r, h1, h2⟩
    · rw [h1]; exact ih d (by omega) h2
    · rw [h1]; exact ⟨r, rfl, h2⟩
theorem ex_t {α : Type} {c : Bool} {a b : Option α} {Q : α → Prop} (h : c = true) (k : ∃ p, a = some p ∧ Q p) : ∃ p, (bif c then a else b) = some p ∧ Q p := by rw [h]; exact k
theorem viaL {α : Type} {X : Option (List D ⊕ α)} {L L' : List D} (h : X = some (.inl L)) (e : L = L') : X = some (.inl L') := by rw [h, e]
theorem viaR {α : Type} {X : Option (List D ⊕ α)} {Q : α → Prop} {r : α} (h : X = some (.inr r)) (e : Q r) : ∃ r, X = some (.inr r) ∧ Q r := ⟨r, h, e⟩
end Go.Vm
end

section
set_option linter.all false
set_option maxRecDepth 100000
set_option maxHeartbeats 4000000
namespace Go.Vm
open Go.Proofs
theorem cnt_map (c : UInt8) : ∀ l : List UInt8, (l.map UInt8.toNat).count c.toNat = l.count c
  | [] => rfl
  | b :: l => by
    rw [List.map_cons, List.count_cons, List.count_cons, cnt_map c l]
    by_cases h : b = c
    · subst h; simp
    · have h1 : (b.toNat == c.toNat) = false := by
        rw [beq_eq_false_iff_ne]; exact fun e => h (UInt8.toNat_inj.1 e)
      have h2 : (b == c) = false := by simp [h]
      rw [h1, h2]
theorem scnt_tb (s : ByteArray) (m : UInt8) : sy.scnt s ((m.toNat : Nat) : Int) = (((tb s).count m.toNat : Nat) : Int) := by
  rw [sy_scnt, Int.toNat_natCast]
  have : m.toNat.toUInt8 = m := by simp
  rw [this]
  unfold Lib.countByte tb
  rw [cnt_map]
theorem c_Count (s : ByteArray) (m : UInt8) : cF 135 [.d (.str s), .d (.str (bs [m]))] = some (.val [.int .i64 (((tb s).count m.toNat : Nat) : Int)]) := by
  refine cOf (by kernel_rfl) rfl ?_
  rw [g135_eq]
  unfold g135
  have e1 : sy.ieq (sy.slen (bs [m])) 0 = false := rfl
  have e2 : sy.ieq (sy.slen (bs [m])) 1 = true := rfl
  have e3 : sy.inr 0 (sy.slen (bs [m])) = true := rfl
  rw [← scnt_tb]
  repeat' (first | with_reducible exact st_some | with_reducible apply st_cut | with_reducible apply st_bind | ((with_reducible apply st_t); (first | with_reducible exact e1 | with_reducible exact e2 | with_reducible exact e3 | rfl)) | ((with_reducible apply st_f); (first | with_reducible exact e1 | with_reducible exact e2 | with_reducible exact e3 | rfl)) | with_reducible apply st_lp | with_reducible apply st_inl | with_reducible exact st_inr | with_reducible apply st_opI | with_reducible apply st_opB | with_reducible apply st_opL | rfl)
theorem splitN_len (c : Nat) : ∀ l : List Nat, (splitN c l).length = l.count c + 1
  | [] => rfl
  | x :: xs => by
    unfold splitN
    have ih := splitN_len c xs
    rw [List.count_cons]
    by_cases h : x = c
    · subst h; simp [ih]
    · rw [if_neg h]
      have h2 : (x == c) = false := by simp [h]
      rw [h2]
      cases hq : splitN c xs with
      | nil => exact absurd hq (splitN_ne c xs)
      | cons p ps => rw [hq] at ih; simpa using ih
theorem cnt_idx {c : Nat} {l : List Nat} {j : Nat} (h : idxN c l = some j) : l.count c = (l.drop (j + 1)).count c + 1 := by
  obtain ⟨h1, h2, h3⟩ := idxN_some h
  conv => lhs; rw [h2]
  rw [List.count_append, List.count_cons, List.count_eq_zero.2 (fun hm => h3 c hm rfl)]
  simp
theorem cnt_none {c : Nat} {l : List Nat} (h : idxN c l = none) : l.count c = 0 := List.count_eq_zero.2 fun hm => idxN_none h c hm rfl
def zrow : List D := [.str (bs [])]
theorem rows_put (d : List ByteArray) (k : Nat) (x : ByteArray) : sy.rput (srows d ++ List.replicate (k + 1) zrow) d.length 0 [.str x] = srows (d ++ [x]) ++ List.replicate k zrow := by
  have hg : (srows d ++ List.replicate (k + 1) zrow).getD d.length [] = zrow := by
    rw [List.getD_eq_getElem?_getD, List.getElem?_append_right (by rw [srows_len]; exact Nat.le_refl _), srows_len, Nat.sub_self]
    simp
  show (srows d ++ List.replicate (k + 1) zrow).set d.length (((srows d ++ List.replicate (k + 1) zrow).getD d.length []).take 0 ++ [.str x] ++ ((srows d ++ List.replicate (k + 1) zrow).getD d.length []).drop (0 + 1)) = _
  rw [hg, List.set_append_right _ _ (by rw [srows_len]; exact Nat.le_refl _), srows_len, Nat.sub_self, List.replicate_succ]
  rw [show (zrow.take 0 ++ [D.str x] ++ zrow.drop (0 + 1)) = [D.str x] from rfl]
  simp [srows, srow]
theorem c_genSplit (s : ByteArray) (hs : s.size ≤ 100000) : ∃ p, cF 103 [.d (.str s), .d (.str (bs [47])), .d (.int .i64 0), .d (.int .i64 (-1))] = some p ∧ ∃ l : List ByteArray, p = .own 9 1 (srows l) ∧ l.map tb = splitN 47 (tb s) := by
  have hc := c_Count s 47
  have hI := fun r => c_Index r 47
  have hl := tb_len s
  have h47 : (47 : UInt8).toNat = 47 := rfl
  rw [h47] at hc
  have hcl : (tb s).count 47 ≤ (tb s).length := List.count_le_length
  refine cOfP (by kernel_rfl) rfl ?_
  rw [g103_eq]
  unfold g103
  generalize hN : (tb s).count 47 = N at hc hcl
  have hw : sy.imin (sy.wrap .i64 (sy.add ((N : Nat) : Int) 1)) (sy.wrap .i64 (sy.add (sy.slen s) 1)) = ((N + 1 : Nat) : Int) := by
    show min (IntKind.i64.wrap ((N : Int) + 1)) (IntKind.i64.wrap ((s.size : Int) + 1)) = _
    rw [wrap_id (by omega) (by omega), wrap_id (by omega) (by omega)]
    omega
  have z1 : sy.ieq (-1) 0 = false := rfl
  have z2 : sy.seq (bs [47]) (bs []) = false := by rw [sy_seq, seq_tb]; rfl
  have z3 : sy.ilt (-1) 0 = true := rfl
  simp only [z1, z2, z3, cond_true, cond_false, eF_call, hc, Option.bind_some, leaves_val, sy_cell0, opI_int, hw]
  have z4 : sy.mkok ((N + 1 : Nat) : Int) ((N + 1 : Nat) : Int) 16 = true := decide_eq_true ⟨rfl, by omega, by omega⟩
  rw [z4, cond_true, eF_lp]
  have z5 : sy.wrap .i64 (sy.sub ((N + 1 : Nat) : Int) 1) = (N : Int) := by
    show IntKind.i64.wrap (((N + 1 : Nat) : Int) - 1) = _
    rw [wrap_id (by omega) (by omega)]; omega
  rw [z5]
  have z6 : sy.rep ((N + 1 : Nat) : Int) [D.str (bs [])] = srows [] ++ List.replicate (N + 1) zrow := by
    rw [sy_rep, Int.toNat_natCast]; rfl
  rw [z6]
  refine loopF_ex (fun x : List ByteArray × ByteArray × Nat => [.str x.2.1, .str (bs [47]), .int .i64 0, .int .i64 (N : Int), .int .i64 (x.1.length : Int), .sl 1 (srows x.1 ++ List.replicate (x.2.2 + 1) zrow)])
    (fun x => splitN 47 (tb s) = x.1.map tb ++ splitN 47 (tb x.2.1) ∧ x.2.2 = (tb x.2.1).count 47 ∧ x.1.length + x.2.2 = N ∧ x.2.1.size ≤ 100000) (fun x => (tb x.2.1).length) (fun x hx => ?_) ([], s, N) ⟨rfl, hN.symm, by simp, hs⟩
  obtain ⟨done, rest, k⟩ := x
  obtain ⟨h1, hk, h2, h3⟩ := hx
  simp only at h1 hk h2 h3
  have hr := tb_len rest
  have hIr := hI rest
  rw [h47] at hIr
  have hput := rows_put done k
  have f2 : sy.inr (done.length : Int) (sy.rlen (srows done ++ List.replicate (k + 1) zrow)) = true := decide_eq_true (by
    rw [sy_rlen, List.length_append, srows_len, List.length_replicate]; omega)
  have f3 : sy.inrn (sy.nat (done.length : Int)) (srows done ++ List.replicate (k + 1) zrow) = true := decide_eq_true (by
    rw [List.length_append, srows_len, List.length_replicate]; show (done.length : Int).toNat < _; omega)
  have hw1 : sy.wrap .i64 (sy.add (done.length : Int) 1) = ((done.length + 1 : Nat) : Int) := by
    show IntKind.i64.wrap ((done.length : Int) + 1) = _
    rw [wrap_id (by omega) (by omega)]; rfl
  have hnat : sy.nat (done.length : Int) = done.length := Int.toNat_natCast _
  rcases idxZ_bd 47 (tb rest) with ⟨hz, hn⟩ | ⟨j, hz, hn, hj⟩
  · right
    have hk0 := cnt_none hn
    rw [hk0] at hk
    subst hk
    have f1 : sy.ilt (done.length : Int) (N : Int) = false := decide_eq_false (by omega)
    have f4 : sy.cutok 0 (sy.wrap .i64 (sy.add (done.length : Int) 1)) (sy.rlen (sy.rput (srows done ++ List.replicate (0 + 1) zrow) (sy.nat (done.length : Int)) 0 [.str rest])) = true := by
      rw [hw1, hnat, hput]
      exact decide_eq_true (by rw [sy_rlen, List.length_append, srows_len, List.length_append]; simp; omega)
    apply viaR
    · repeat' (first | with_reducible exact st_some | with_reducible apply st_cut | with_reducible apply st_bind | ((with_reducible apply st_t); (first | with_reducible exact f1 | with_reducible exact f2 | with_reducible exact f3 | with_reducible exact f4 | rfl)) | ((with_reducible apply st_f); (first | with_reducible exact f1 | with_reducible exact f2 | with_reducible exact f3 | with_reducible exact f4 | rfl)) | with_reducible apply st_lp | with_reducible apply st_inl | with_reducible exact st_inr | with_reducible apply st_opI | with_reducible apply st_opB | with_reducible apply st_opL | rfl)
    · refine ⟨done ++ [rest], ?_, ?_⟩
      · rw [hw1, hnat, hput]
        show PRes.own 9 1 ((srows (done ++ [rest]) ++ List.replicate 0 zrow).take ((done.length + 1 : Nat) : Int).toNat) = _
        rw [List.replicate_zero, List.append_nil, Int.toNat_natCast, List.take_of_length_le (by rw [srows_len]; simp)]
      · rw [h1, splitN_none 47 _ (idxN_none hn)]; simp
  · left
    have hc2 := cnt_idx hn
    have hd := tb_scut rest ((j : Int) + 1) (rest.size : Int)
    have hd0 := tb_scut rest 0 (j : Int)
    have e1 : ((j : Int) + 1).toNat = j + 1 := by omega
    rw [e1, Int.toNat_natCast, ← hr, List.take_length] at hd
    rw [Int.toNat_natCast] at hd0
    have hw2 : sy.wrap .i64 (sy.add (j : Int) 0) = (j : Int) := by
      show IntKind.i64.wrap ((j : Int) + 0) = _
      rw [wrap_id (by omega) (by omega)]; omega
    have hw3 : sy.wrap .i64 (sy.add (j : Int) (sy.slen (bs [47]))) = (j : Int) + 1 := by
      show IntKind.i64.wrap ((j : Int) + 1) = _
      rw [wrap_id (by omega) (by omega)]
    have f1 : sy.ilt (done.length : Int) (N : Int) = true := decide_eq_true (by omega)
    have g1 : sy.ilt (j : Int) 0 = false := decide_eq_false (show ¬ (j : Int) < 0 by omega)
    have g2 : sy.cutok 0 (sy.wrap .i64 (sy.add (j : Int) 0)) (sy.slen rest) = true := by
      rw [hw2]; exact decide_eq_true (by rw [sy_slen]; omega)
    have g3 : sy.cutok (sy.wrap .i64 (sy.add (j : Int) (sy.slen (bs [47])))) (sy.slen rest) (sy.slen rest) = true := by
      rw [hw3]; exact decide_eq_true (by rw [sy_slen]; omega)
    rw [hz] at hIr
    obtain ⟨k', rfl⟩ : ∃ k', k = k' + 1 := ⟨k - 1, by omega⟩
    refine ⟨(done ++ [rest.extract (0 : Int).toNat (j : Int).toNat], rest.extract (j + 1) (tb rest).length, k'), ?_, ⟨?_, ?_, ?_, ?_⟩, ?_⟩
    · apply viaL
      · repeat' (first | with_reducible exact st_some | with_reducible apply st_cut | with_reducible apply st_bind | ((with_reducible apply st_t); (first | with_reducible exact f1 | with_reducible exact f2 | with_reducible exact f3 | with_reducible exact g1 | with_reducible exact g2 | with_reducible exact g3 | rfl)) | ((with_reducible apply st_f); (first | with_reducible exact f1 | with_reducible exact f2 | with_reducible exact f3 | with_reducible exact g1 | with_reducible exact g2 | with_reducible exact g3 | rfl)) | with_reducible apply st_lp | with_reducible apply st_inl | with_reducible exact st_inr | with_reducible apply st_opI | with_reducible apply st_opB | with_reducible apply st_opL | exact hIr | rfl)
      · rw [hw1, hw2, hw3, hnat, hput]
        simp only [sy_scut, sy_slen, e1, Int.toNat_natCast, hr, List.length_append, List.length_singleton]
    · rw [h1]
      simp only [List.map_append, List.map_cons, List.map_nil]
      rw [show (j : Int).toNat = j from Int.toNat_natCast j] at *
      rw [hd0, hd]
      obtain ⟨i1, i2, i3⟩ := idxN_some hn
      conv => lhs; rw [i2, splitN_mark 47 _ _ i3]
      simp
    · simp only; rw [hd]; omega
    · simp; omega
    · simp only
      have := tb_len (rest.extract (j + 1) (tb rest).length)
      rw [← this, hd, List.length_drop]; omega
    · simp only
      rw [hd, List.length_drop]; omega
theorem c_Split (s : ByteArray) (hs : s.size ≤ 100000) : ∃ l : List ByteArray, cF 67 [.d (.str s), .d (.str (bs [47]))] = some (.val [.sl 1 (srows l)]) ∧ l.map tb = splitN 47 (tb s) := by
  obtain ⟨_, h, l, rfl, hl⟩ := c_genSplit s hs
  refine ⟨l, ?_, hl⟩
  refine cOf (by kernel_rfl) rfl ?_
  rw [g67_eq]
  simp only [g67, go1, Option.bind_some, eq_self, cond_true, cond_false, Nat.reduceAdd, Int.reduceEq, Int.reduceLT, Int.reduceLE, Int.reduceSub, Int.reduceAdd, h]
theorem mem_size {s : ByteArray} {l : List ByteArray} (hl : l.map tb = splitN 47 (tb s)) : ∀ x ∈ l, x.size ≤ s.size := by
  have key : ∀ (c : Nat) (t : List Nat), ∀ p ∈ splitN c t, p.length ≤ t.length := by
    intro c t
    induction t with
    | nil => intro p hp; simp [splitN] at hp; simp [hp]
    | cons x xs ih =>
      intro p hp
      unfold splitN at hp
      split at hp
      · rcases List.mem_cons.1 hp with rfl | hp
        · simp
        · have := ih p hp; simp; omega
      · split at hp
        · simp at hp; simp [hp]
        · rename_i q qs hq
          rcases List.mem_cons.1 hp with rfl | hp
          · have := ih q (by rw [hq]; exact List.mem_cons_self); simp; omega
          · have := ih p (by rw [hq]; exact List.mem_cons_of_mem _ hp); simp; omega
  intro x hx
  have := key 47 (tb s) (tb x) (by rw [← hl]; exact List.mem_map_of_mem hx)
  rw [tb_len, tb_len] at this
  exact this
theorem c_Path (s : ByteArray) (hs : s.size ≤ 100000) : cF 30 [.d (.str s)] = some (.val [.bool (pathN (tb s))]) := by
  obtain ⟨l, h, hl⟩ := c_Split s hs
  have hsz := mem_size hl
  have hll : l.length ≤ 100001 := by
    have := congrArg List.length hl
    rw [List.length_map, splitN_len] at this
    have h2 : (tb s).count 47 ≤ (tb s).length := List.count_le_length
    rw [tb_len] at h2
    omega
  unfold pathN
  rw [← hl, List.all_map]
  refine cOf (by kernel_rfl) rfl ?_
  rw [g30_eq]
  simp only [g30, go1, Option.bind_some, eq_self, cond_true, cond_false, Nat.reduceAdd, Int.reduceEq, Int.reduceLT, Int.reduceLE, Int.reduceSub, Int.reduceAdd, h, srows_len]
  refine loopF_at (fun i : Nat => [.sl 1 (srows l), .int .i64 (l.length : Int), .int .i64 (i : Int)]) (fun i => i ≤ l.length ∧ (l.take i).all (partN ∘ tb) = true) (fun i => l.length - i) (fun i hi => ?_) 0 ⟨Nat.zero_le _, by simp⟩
  by_cases hlt : i < l.length
  · have hx := List.getElem?_eq_getElem hlt
    have hp := c_part l[i] (Nat.le_trans (hsz _ (List.getElem_mem hlt)) hs)
    have hgd : l.getD i ByteArray.empty = l[i] := by rw [List.getD_eq_getElem?_getD, hx]; rfl
    simp only [go1, Option.bind_some, eq_self, cond_true, cond_false, Nat.reduceAdd, Int.reduceEq, Int.reduceLT, Int.reduceLE, Int.reduceSub, Int.reduceAdd, srows_len, ilt_at hlt, inr_at hlt, srows_at hx, hp, wrap_succ hlt (by omega)]
    cases hb : partN (tb l[i]) with
    | false =>
      right
      rw [all_false (d := ByteArray.empty) hlt (by rw [hgd]; exact hb)]
      simp only [go1, Option.bind_some, eq_self, cond_true, cond_false, Nat.reduceAdd, Int.reduceEq, Int.reduceLT, Int.reduceLE, Int.reduceSub, Int.reduceAdd]
    | true =>
      left
      refine ⟨i + 1, ?_, ⟨hlt, all_snoc (d := ByteArray.empty) hlt hi.2 (by rw [hgd]; exact hb)⟩, by omega⟩
      simp only [go1, Option.bind_some, eq_self, cond_true, cond_false, Nat.reduceAdd, Int.reduceEq, Int.reduceLT, Int.reduceLE, Int.reduceSub, Int.reduceAdd]; rfl
  · right
    have : i = l.length := by omega
    subst this
    simp only [go1, Option.bind_some, eq_self, cond_true, cond_false, Nat.reduceAdd, Int.reduceEq, Int.reduceLT, Int.reduceLE, Int.reduceSub, Int.reduceAdd, ilt_self]
    rw [List.take_length] at hi
    rw [hi.2]
end Go.Vm
end

section
set_option linter.all false
set_option maxRecDepth 100000
set_option maxHeartbeats 4000000
namespace Go.Vm
open Go.Proofs
/-! ### high names, and each one once -/
theorem c_nameG (s : ByteArray) : cF 125 [.d (.str s), .fn 126 []] = some (.val [.bool (nameN greatN (tb s))]) := by
  refine cOf (by kernel_rfl) rfl ?_
  rw [g125_126_eq]
  simp only [g125_126, go1, Option.bind_some, eq_self, cond_true, cond_false, Nat.reduceAdd, Int.reduceEq, Int.reduceLT, Int.reduceLE, Int.reduceSub, Int.reduceAdd]
  refine loopF_at (fun p : Nat => [.str s, .str s, .int .i64 (p : Int)]) (fun p => p ≤ (tb s).length ∧ ((tb s).take p).all innerN = true ∧ (0 < p → greatN ((tb s).getD 0 0) = true)) (fun p => (tb s).length - p) (fun p hp => ?_) 0 ⟨Nat.zero_le _, by simp, by omega⟩
  obtain ⟨hle, hall, hfst⟩ := hp
  by_cases hlt : p < (tb s).length
  · by_cases hc : (tb s).getD p 0 < 128
    · obtain ⟨e1, e2⟩ := dec_small hc
      simp only [go1, Option.bind_some, eq_self, cond_true, cond_false, Nat.reduceAdd, Int.reduceEq, Int.reduceLT, Int.reduceLE, Int.reduceSub, Int.reduceAdd, size_tb, ilt_at hlt, sy_rdec, sy_rwid, e1, e2, c_small, c_great, c_digit, inI_small, inI_great, inI_digit]
      have hi := inner_def ((tb s).getD p 0)
      by_cases h0 : p = 0
      · subst h0
        cases hs : greatN ((tb s).getD 0 0) with
        | false =>
          right
          rw [nameN_first hs]
          simp only [go1, Option.bind_some, eq_self, cond_true, cond_false, Nat.reduceAdd, Int.reduceEq, Int.reduceLT, Int.reduceLE, Int.reduceSub, Int.reduceAdd]; rfl
        | true =>
          left
          rw [hs] at hi
          refine ⟨0 + 1, ?_, ⟨hlt, all_snoc hlt hall (by rw [hi]; simp), fun _ => (by first | rfl | exact hs)⟩, by omega⟩
          cases smallN ((tb s).getD 0 0) <;> simp only [go1, Option.bind_some, eq_self, cond_true, cond_false, Nat.reduceAdd, Int.reduceEq, Int.reduceLT, Int.reduceLE, Int.reduceSub, Int.reduceAdd] <;> rfl
      · rw [decF (p := (p : Int) = 0) (by omega)]
        cases hin : innerN ((tb s).getD p 0) with
        | false =>
          right
          rw [nameN_bad hlt hin]
          rw [hin] at hi
          have hi := hi.symm
          simp only [Bool.or_eq_false_iff] at hi
          obtain ⟨⟨⟨i1, i2⟩, i3⟩, i4⟩ := hi
          have i4' : ¬ (((tb s).getD p 0 : Nat) : Int) = 95 := by
            have := of_decide_eq_false i4; omega
          rw [decF i4']
          simp only [i1, i2, i3, go1, Option.bind_some, eq_self, cond_true, cond_false, Nat.reduceAdd, Int.reduceEq, Int.reduceLT, Int.reduceLE, Int.reduceSub, Int.reduceAdd]
        | true =>
          left
          refine ⟨p + 1, ?_, ⟨hlt, all_snoc hlt hall hin, fun _ => hfst (by omega)⟩, by omega⟩
          rw [hin] at hi
          cases i1 : smallN ((tb s).getD p 0) <;> cases i2 : greatN ((tb s).getD p 0) <;> cases i3 : digitN ((tb s).getD p 0) <;> rw [i1, i2, i3] at hi <;> simp only [go1, Option.bind_some, eq_self, cond_true, cond_false, Nat.reduceAdd, Int.reduceEq, Int.reduceLT, Int.reduceLE, Int.reduceSub, Int.reduceAdd] <;> (try rfl)
          all_goals
            simp only [Bool.or_self, Bool.false_or] at hi
            have i4 := of_decide_eq_true hi.symm
            rw [decT (p := (((tb s).getD p 0 : Nat) : Int) = 95) (by omega)]
            rfl
    · have hb := dec_big (s := s) (i := p) (by omega)
      right
      have hin : innerN ((tb s).getD p 0) = false := by
        exact inner_big (by omega)
      rw [nameN_bad hlt hin]
      have hz : ¬ decR s (p : Int) = 95 := by omega
      simp only [go1, Option.bind_some, eq_self, cond_true, cond_false, Nat.reduceAdd, Int.reduceEq, Int.reduceLT, Int.reduceLE, Int.reduceSub, Int.reduceAdd, size_tb, ilt_at hlt, sy_rdec, sy_rwid, c_small, c_great, c_digit, inI_big (a := 97) (b := 122) (n := decR s (p : Int)) (by omega), inI_big (a := 65) (b := 90) (n := decR s (p : Int)) (by omega), inI_big (a := 48) (b := 57) (n := decR s (p : Int)) (by omega), decF hz]
      cases decide ((p : Int) = 0) 
      · simp only [cond_true, cond_false, Bool.not_false, go1, Option.bind_some, eq_self, cond_true, cond_false, Nat.reduceAdd, Int.reduceEq, Int.reduceLT, Int.reduceLE, Int.reduceSub, Int.reduceAdd]; simp [hz]
      · rfl
  · right
    have : p = (tb s).length := by omega
    subst this
    simp only [go1, Option.bind_some, eq_self, cond_true, cond_false, Nat.reduceAdd, Int.reduceEq, Int.reduceLT, Int.reduceLE, Int.reduceSub, Int.reduceAdd, size_tb, ilt_self]
    rw [List.take_length] at hall
    unfold nameN
    rw [hall, Bool.and_true]
    by_cases h0 : 0 < (tb s).length
    · rw [hfst h0, Bool.and_true]
      by_cases h12 : (tb s).length ≤ 12
      · rw [decT (p := 1 ≤ ((tb s).length : Int)) (by omega), decT (p := ((tb s).length : Int) ≤ 12) (by omega), decT (p := 1 ≤ (tb s).length) (by omega), decT h12]
        first | done | rfl
      · rw [decT (p := 1 ≤ ((tb s).length : Int)) (by omega), decF (p := ((tb s).length : Int) ≤ 12) (by omega), decF h12]
        first | done | rfl | simp
    · rw [decF (p := 1 ≤ ((tb s).length : Int)) (by omega), decF (p := 1 ≤ (tb s).length) (by omega)]
      first | done | rfl | simp
theorem c_High (s : ByteArray) : cF 94 [.d (.str s)] = some (.val [.bool (highN (tb s))]) := by
  have := c_nameG s
  refine cOf (by kernel_rfl) rfl ?_
  rw [g94_eq]
  simp only [g94, go1, Option.bind_some, eq_self, cond_true, cond_false, Nat.reduceAdd, Int.reduceEq, Int.reduceLT, Int.reduceLE, Int.reduceSub, Int.reduceAdd, this]
  rfl
/-! ### bytes of texts -/
def blankN (c : Nat) : Bool := decide (c = 32) || decide (c = 9) || decide (c = 10) || decide (c = 13)
def nlineN (c : Nat) : Bool := !decide (c = 10)
theorem c_xsmall (n : Nat) : cF 52 [.d (.int .u8 (n : Int))] = some (.val [.bool (smallN n)]) := by
  refine cOf (by kernel_rfl) rfl ?_
  rw [g52_eq]
  simp only [g52, go1, Option.bind_some, eq_self, cond_true, cond_false, Nat.reduceAdd, Int.reduceEq, Int.reduceLT, Int.reduceLE, Int.reduceSub, Int.reduceAdd]
  rw [← inI_small]; try rfl
theorem c_xgreat (n : Nat) : cF 53 [.d (.int .u8 (n : Int))] = some (.val [.bool (greatN n)]) := by
  refine cOf (by kernel_rfl) rfl ?_
  rw [g53_eq]
  simp only [g53, go1, Option.bind_some, eq_self, cond_true, cond_false, Nat.reduceAdd, Int.reduceEq, Int.reduceLT, Int.reduceLE, Int.reduceSub, Int.reduceAdd]
  rw [← inI_great]; try rfl
theorem c_xdigit (n : Nat) : cF 55 [.d (.int .u8 (n : Int))] = some (.val [.bool (digitN n)]) := by
  refine cOf (by kernel_rfl) rfl ?_
  rw [g55_eq]
  simp only [g55, go1, Option.bind_some, eq_self, cond_true, cond_false, Nat.reduceAdd, Int.reduceEq, Int.reduceLT, Int.reduceLE, Int.reduceSub, Int.reduceAdd]
  rw [← inI_digit]; try rfl
theorem dec_iff {p q : Prop} [Decidable p] [Decidable q] (h : p ↔ q) : decide p = decide q := by
  by_cases hq : q
  · rw [decT hq, decT (h.2 hq)]
  · rw [decF hq, decF (fun hp => hq (h.1 hp))]
theorem c_xblank (n : Nat) : cF 49 [.d (.int .u8 (n : Int))] = some (.val [.bool (blankN n)]) := by
  refine cOf (by kernel_rfl) rfl ?_
  rw [g49_eq]
  simp only [g49, go1, Option.bind_some, eq_self, cond_true, cond_false, Nat.reduceAdd, Int.reduceEq, Int.reduceLT, Int.reduceLE, Int.reduceSub, Int.reduceAdd]
  unfold blankN
  rw [dec_iff (show (n : Int) = 32 ↔ n = 32 by omega), dec_iff (show (n : Int) = 9 ↔ n = 9 by omega), dec_iff (show (n : Int) = 10 ↔ n = 10 by omega), dec_iff (show (n : Int) = 13 ↔ n = 13 by omega)]
  (try (cases decide (n = 32) <;> cases decide (n = 9) <;> cases decide (n = 10) <;> cases decide (n = 13) <;> rfl))
theorem c_xgap1 (n : Nat) : cF 51 [.d (.int .u8 (n : Int))] = some (.val [.bool (nlineN n)]) := by
  refine cOf (by kernel_rfl) rfl ?_
  rw [g51_eq]
  simp only [g51, go1, Option.bind_some, eq_self, cond_true, cond_false, Nat.reduceAdd, Int.reduceEq, Int.reduceLT, Int.reduceLE, Int.reduceSub, Int.reduceAdd]
  rw [dec_iff (show (n : Int) = 10 ↔ n = 10 by omega)]; try rfl
theorem c_xinner (n : Nat) : cF 93 [.d (.int .u8 (n : Int))] = some (.val [.bool (innerN n)]) := by
  refine cOf (by kernel_rfl) rfl ?_
  rw [g93_eq]
  simp only [g93, go1, Option.bind_some, eq_self, cond_true, cond_false, Nat.reduceAdd, Int.reduceEq, Int.reduceLT, Int.reduceLE, Int.reduceSub, Int.reduceAdd, c_xsmall, c_xgreat, c_xdigit]
  rw [dec_iff (show (n : Int) = 95 ↔ n = 95 by omega)]
  unfold innerN
  cases smallN n <;> cases greatN n <;> cases digitN n <;> cases decide (n = 95) <;> rfl
/-! ### how far bytes of a kind go -/
def spanN (p : Nat → Bool) (l : List Nat) : Nat := (l.takeWhile p).length
theorem spanN_le (p : Nat → Bool) (l : List Nat) : spanN p l ≤ l.length := (List.takeWhile_prefix p).length_le
theorem spanN_stop {p : Nat → Bool} {l : List Nat} {n : Nat} (hn : n ≤ l.length) (h : (l.take n).all p = true) (hx : n < l.length → p (l.getD n 0) = false) : spanN p l = n := by
  unfold spanN
  have e : l = l.take n ++ l.drop n := (List.take_append_drop n l).symm
  have h1 : (l.take n ++ l.drop n).takeWhile p = l.take n ++ (l.drop n).takeWhile p := List.takeWhile_append_of_pos (fun x hx => List.all_eq_true.1 h x hx)
  have h2 : (l.drop n).takeWhile p = [] := by
    by_cases hlt : n < l.length
    · rw [List.drop_eq_getElem_cons hlt, List.takeWhile_cons]
      have := hx hlt
      rw [List.getD_eq_getElem?_getD, List.getElem?_eq_getElem hlt] at this
      simp only [Option.getD_some] at this
      rw [this]; rfl
    · rw [List.drop_of_length_le (by omega)]; rfl
  rw [← e] at h1
  rw [h1, h2]; simp; omega
theorem c_span {f k : Nat} (p : Nat → Bool) (G : ByteArray → Option PRes)
    (hc : ∀ n : Nat, cF k [.d (.int .u8 (n : Int))] = some (.val [.bool (p n)])) (s : ByteArray) (hs : s.size ≤ 1000000)
    (hG : G s = loopF (fun ds1 =>
      (opS (sy.cell ds1 0)).bind fun s2 =>
      (opI (sy.cell ds1 1) .i64).bind fun n3 =>
      bif sy.ilt n3 (sy.slen s2) then
        bif sy.inr n3 (sy.slen s2) then
          (cF k [V.d (D.int .u8 (sy.sbyte s2 n3))]).bind fun p4 =>
          (opB (sy.cell p4.leaves 0)).bind fun b6 =>
          bif b6 then
            some (.inl [(D.str s2), (D.int .i64 (sy.wrap .i64 (sy.add n3 1)))])
          else
            some (.inr (PRes.val [(D.int .i64 n3)]))
        else none
      else
        some (.inr (PRes.val [(D.int .i64 n3)]))) [(D.str s), (D.int .i64 0)]) : G s = some (.val [.int .i64 ((spanN p (tb s) : Nat) : Int)]) := by
  rw [hG]
  refine loopF_at (fun n : Nat => [.str s, .int .i64 (n : Int)]) (fun n => n ≤ (tb s).length ∧ ((tb s).take n).all p = true) (fun n => (tb s).length - n) (fun n hn => ?_) 0 ⟨Nat.zero_le _, by simp⟩
  obtain ⟨hle, hall⟩ := hn
  have hlen : (tb s).length ≤ 1000000 := by rw [tb_len]; exact hs
  by_cases hlt : n < (tb s).length
  · have hq : (s.data.getD (n : Int).toNat 0).toNat = (tb s).getD n 0 := by rw [Int.toNat_natCast, tb_getD]
    simp only [go1, Option.bind_some, eq_self, cond_true, cond_false, Nat.reduceAdd, Int.reduceEq, Int.reduceLT, Int.reduceLE, Int.reduceSub, Int.reduceAdd, size_tb, ilt_at hlt, inr_at hlt, hc, hq]
    cases hp : p ((tb s).getD n 0) with
    | true =>
      left
      refine ⟨n + 1, ?_, ⟨hlt, all_snoc hlt hall hp⟩, by omega⟩
      (try simp only [go1, Option.bind_some, eq_self, cond_true, cond_false, Nat.reduceAdd, Int.reduceEq, Int.reduceLT, Int.reduceLE, Int.reduceSub, Int.reduceAdd])
      rw [wrap_succ hlt (by omega)]
      try rfl
    | false =>
      right
      rw [spanN_stop hle hall (fun _ => hp)]
      (try simp only [go1, Option.bind_some, eq_self, cond_true, cond_false, Nat.reduceAdd, Int.reduceEq, Int.reduceLT, Int.reduceLE, Int.reduceSub, Int.reduceAdd])
  · right
    have : n = (tb s).length := by omega
    subst this
    simp only [go1, Option.bind_some, eq_self, cond_true, cond_false, Nat.reduceAdd, Int.reduceEq, Int.reduceLT, Int.reduceLE, Int.reduceSub, Int.reduceAdd, size_tb, ilt_self]
    rw [spanN_stop (Nat.le_refl _) hall (fun h => absurd h (Nat.lt_irrefl _))]
end Go.Vm
end

section
set_option linter.all false
set_option maxRecDepth 100000
set_option maxHeartbeats 4000000
namespace Go.Vm
open Go.Proofs
theorem c_sblank (s : ByteArray) (hs : s.size ≤ 1000000) : cF 48 [.d (.str s), .fn 49 []] = some (.val [.int .i64 ((spanN blankN (tb s) : Nat) : Int)]) :=
  cOf (by kernel_rfl) rfl ((g48_49_eq sy eF s).trans (c_span (f := 0) blankN (fun s => g48_49 sy eF s) c_xblank s hs rfl))
theorem c_sline (s : ByteArray) (hs : s.size ≤ 1000000) : cF 48 [.d (.str s), .fn 51 []] = some (.val [.int .i64 ((spanN nlineN (tb s) : Nat) : Int)]) :=
  cOf (by kernel_rfl) rfl ((g48_51_eq sy eF s).trans (c_span (f := 0) nlineN (fun s => g48_51 sy eF s) c_xgap1 s hs rfl))
theorem c_sinner (s : ByteArray) (hs : s.size ≤ 1000000) : cF 48 [.d (.str s), .fn 93 []] = some (.val [.int .i64 ((spanN innerN (tb s) : Nat) : Int)]) :=
  cOf (by kernel_rfl) rfl ((g48_93_eq sy eF s).trans (c_span (f := 0) innerN (fun s => g48_93 sy eF s) c_xinner s hs rfl))
theorem c_sdigit (s : ByteArray) (hs : s.size ≤ 1000000) : cF 48 [.d (.str s), .fn 55 []] = some (.val [.int .i64 ((spanN digitN (tb s) : Nat) : Int)]) :=
  cOf (by kernel_rfl) rfl ((g48_55_eq sy eF s).trans (c_span (f := 0) digitN (fun s => g48_55 sy eF s) c_xdigit s hs rfl))
/-! ### prefixes, places of bytes -/
def hasN (m l : List Nat) : Bool := decide (l.take m.length = m)
theorem tb_ext (s : ByteArray) (a b : Nat) : tb (s.extract a b) = ((tb s).take b).drop a := by
  have := tb_scut s (a : Int) (b : Int)
  rwa [Int.toNat_natCast, Int.toNat_natCast] at this
theorem c_lHas (s m : ByteArray) : cF 92 [.d (.str s), .d (.str m)] = some (.val [.bool (hasN (tb m) (tb s))]) := by
  refine cOf (by kernel_rfl) rfl ?_
  rw [g92_eq]
  simp only [g92, go1, Option.bind_some, eq_self, cond_true, cond_false, Nat.reduceAdd, Int.reduceEq, Int.reduceLT, Int.reduceLE, Int.reduceSub, Int.reduceAdd]
  by_cases h : (tb m).length ≤ (tb s).length
  · have e : ((s.extract (0 : Int).toNat ((tb m).length : Int).toNat).toList == m.toList) = hasN (tb m) (tb s) := by
      rw [seq_tb, tb_scut]
      unfold hasN
      rw [Int.toNat_natCast]; rfl
    simp (disch := omega) only [wrap_id, decT, decF, go1, Option.bind_some, eq_self, cond_true, cond_false, Nat.reduceAdd, Int.reduceEq, Int.reduceLT, Int.reduceLE, Int.reduceSub, Int.reduceAdd, size_tb, e]
  · have e : hasN (tb m) (tb s) = false := by
      unfold hasN
      refine decF fun he => h ?_
      rw [← he, List.length_take]; omega
    rw [e]
    simp (disch := omega) only [wrap_id, decT, decF, go1, Option.bind_some, eq_self, cond_true, cond_false, Nat.reduceAdd, Int.reduceEq, Int.reduceLT, Int.reduceLE, Int.reduceSub, Int.reduceAdd, size_tb]
theorem c_Has (s m : ByteArray) : cF 50 [.d (.str s), .d (.str m)] = some (.val [.bool (hasN (tb m) (tb s))]) := by
  have := c_lHas s m
  refine cOf (by kernel_rfl) rfl ?_
  rw [g50_eq]
  simp only [g50, go1, Option.bind_some, eq_self, cond_true, cond_false, Nat.reduceAdd, Int.reduceEq, Int.reduceLT, Int.reduceLE, Int.reduceSub, Int.reduceAdd, this]
theorem c_IndexByte (s : ByteArray) (m : UInt8) : cF 100 [.d (.str s), .d (.int .u8 ((m.toNat : Nat) : Int))] = some (.val [.int .i64 (idxZ m.toNat (tb s))]) := by
  have h72 : cF 133 [.d (.str s), .d (.int .u8 ((m.toNat : Nat) : Int))] = some (.val [.int .i64 (idxZ m.toNat (tb s))]) := by
    refine cOf (by kernel_rfl) rfl ?_
    rw [g133_eq]
    simp only [g133, go1, Option.bind_some, eq_self, cond_true, cond_false, Nat.reduceAdd, Int.reduceEq, Int.reduceLT, Int.reduceLE, Int.reduceSub, Int.reduceAdd]
    show some (PRes.val [D.int .i64 (sy.sidx s ((m.toNat : Nat) : Int))]) = _
    rw [sidx_tb]
  refine cOf (by kernel_rfl) rfl ?_
  rw [g100_eq]
  simp only [g100, go1, Option.bind_some, eq_self, cond_true, cond_false, Nat.reduceAdd, Int.reduceEq, Int.reduceLT, Int.reduceLE, Int.reduceSub, Int.reduceAdd, h72]
/-! ### blanks and remarks -/
def remN : List Nat := [45, 45]
theorem rem_span {l : List Nat} (h : hasN remN l = true) : 2 ≤ spanN nlineN l := by
  have := of_decide_eq_true h
  match l, this with
  | a :: b :: r, h =>
    simp [remN] at h
    obtain ⟨rfl, rfl⟩ := h
    simp [spanN, List.takeWhile_cons, nlineN]
  | [a], h => simp [remN] at h
  | [], h => simp [remN] at h
/-- How many bytes are blanks and remarks. -/
def gapN (l : List Nat) : Nat :=
  if h : hasN remN (l.drop (spanN blankN l)) = true then spanN blankN l + spanN nlineN (l.drop (spanN blankN l)) + gapN (l.drop (spanN blankN l + spanN nlineN (l.drop (spanN blankN l)))) else spanN blankN l
  termination_by l.length
  decreasing_by
    have h1 := rem_span h
    have h2 := spanN_le nlineN (l.drop (spanN blankN l))
    have h3 := spanN_le blankN l
    simp only [List.length_drop] at h2 ⊢
    omega
theorem gapN_le : ∀ (n : Nat) (l : List Nat), l.length ≤ n → gapN l ≤ l.length
  | n, l, hn => by
    unfold gapN
    split
    · rename_i h
      have h1 := rem_span h
      have h2 := spanN_le nlineN (l.drop (spanN blankN l))
      have h3 := spanN_le blankN l
      simp only [List.length_drop] at h2
      cases n with
      | zero => omega
      | succ n =>
        have := gapN_le n (l.drop (spanN blankN l + spanN nlineN (l.drop (spanN blankN l)))) (by simp only [List.length_drop]; omega)
        simp only [List.length_drop] at this
        omega
    · exact spanN_le _ _
theorem ext_drop (s : ByteArray) (n : Nat) (hn : n ≤ (tb s).length) : tb (s.extract (n : Int).toNat ((tb s).length : Int).toNat) = (tb s).drop n := by
  rw [tb_scut, Int.toNat_natCast, Int.toNat_natCast, List.take_length]
theorem c_gap (s : ByteArray) (hs : s.size ≤ 1000000) : cF 26 [.d (.str s)] = some (.val [.int .i64 ((gapN (tb s) : Nat) : Int)]) := by
  refine cOf (by kernel_rfl) rfl ?_
  rw [g26_eq]
  simp only [g26, go1, Option.bind_some, eq_self, cond_true, cond_false, Nat.reduceAdd, Int.reduceEq, Int.reduceLT, Int.reduceLE, Int.reduceSub, Int.reduceAdd]
  have hlen : (tb s).length ≤ 1000000 := by rw [tb_len]; exact hs
  refine loopF_at (fun n : Nat => [.str s, .int .i64 (n : Int)]) (fun n => n ≤ (tb s).length ∧ n + gapN ((tb s).drop n) = gapN (tb s)) (fun n => (tb s).length - n) (fun n hn => ?_) 0 ⟨Nat.zero_le _, by simp⟩
  obtain ⟨hle, hg⟩ := hn
  have e1 := ext_drop s n hle
  have z1 : (s.extract (n : Int).toNat ((tb s).length : Int).toNat).size ≤ 1000000 := by rw [← tb_len, e1]; simp; omega
  have k1 := c_sblank _ z1
  rw [e1] at k1
  generalize hm : spanN blankN ((tb s).drop n) = m at k1
  have hmle : m ≤ (tb s).length - n := by have := spanN_le blankN ((tb s).drop n); simp only [List.length_drop] at this; omega
  have w1 : IntKind.i64.wrap ((n : Int) + (m : Int)) = ((n + m : Nat) : Int) := by rw [wrap_id (by omega) (by omega)]; omega
  have e2 := ext_drop s (n + m) (by omega)
  have z2 : (s.extract ((n + m : Nat) : Int).toNat ((tb s).length : Int).toNat).size ≤ 1000000 := by rw [← tb_len, e2]; simp; omega
  have k2 := c_Has (s.extract ((n + m : Nat) : Int).toNat ((tb s).length : Int).toNat) (bs [45, 45])
  rw [e2] at k2
  have k3 := c_sline _ z2
  rw [e2] at k3
  have hd : ((tb s).drop n).drop m = (tb s).drop (n + m) := by rw [List.drop_drop]
  have hgn := gapN.eq_def ((tb s).drop n)
  rw [hm, hd] at hgn
  have hb : hasN (tb (bs [45, 45])) ((tb s).drop (n + m)) = hasN remN ((tb s).drop (n + m)) := rfl
  rw [hb] at k2
  simp (disch := omega) only [wrap_id, decT, decF, go1, Option.bind_some, eq_self, cond_true, cond_false, Nat.reduceAdd, Int.reduceEq, Int.reduceLT, Int.reduceLE, Int.reduceSub, Int.reduceAdd, size_tb, k1]
  cases hr : hasN remN ((tb s).drop (n + m)) with
  | false =>
    right
    rw [hr] at hgn
    simp only [Bool.false_eq_true, dite_false] at hgn
    rw [← hg, hgn]
    rw [Int.natCast_add] at k2
    simp (disch := omega) only [wrap_id, decT, decF, go1, Option.bind_some, eq_self, cond_true, cond_false, Nat.reduceAdd, Int.reduceEq, Int.reduceLT, Int.reduceLE, Int.reduceSub, Int.reduceAdd, k2, hr, Int.natCast_add]
  | true =>
    left
    rw [hr] at hgn
    simp only [dite_true] at hgn
    have h2 := rem_span hr
    have hk := spanN_le nlineN ((tb s).drop (n + m))
    simp only [List.length_drop] at hk
    generalize hkk : spanN nlineN ((tb s).drop (n + m)) = k at k3 hgn h2 hk
    have w2 : IntKind.i64.wrap (((n + m : Nat) : Int) + (k : Int)) = ((n + m + k : Nat) : Int) := by rw [wrap_id (by omega) (by omega)]; omega
    refine ⟨n + m + k, ?_, ⟨by omega, ?_⟩, by omega⟩
    · rw [Int.natCast_add] at k2 k3
      simp (disch := omega) only [wrap_id, decT, decF, go1, Option.bind_some, eq_self, cond_true, cond_false, Nat.reduceAdd, Int.reduceEq, Int.reduceLT, Int.reduceLE, Int.reduceSub, Int.reduceAdd, k2, hr, k3, Int.natCast_add]
    · rw [← hg, hgn, List.drop_drop]
      have : n + (m + k) = n + m + k := by omega
      rw [this]; omega
end Go.Vm
end

section
set_option linter.all false
set_option maxRecDepth 100000
set_option maxHeartbeats 4000000
namespace Go.Vm
open Go.Proofs
/-! ### the token at a text's beginning -/
/-- kind, text, number, how many bytes, is it one? -/
structure Tok where
  k : Int
  s : ByteArray
  n : Int
  w : Nat
  ok : Bool
def Tok.r (t : Tok) : PRes := .val [.int .i64 t.k, .str t.s, .int .i64 t.n, .int .i64 0, .int .i64 (t.w : Int), .bool t.ok]
def noTok : Tok := ⟨0, bs [], 0, 0, false⟩
def wordT (s : ByteArray) : Tok :=
  let n := spanN innerN (tb s)
  let w := s.extract 0 n
  match greatN ((tb s).getD 0 0) with
  | true => ⟨2, w, 0, n, highN (tb w)⟩
  | false => ⟨1, w, 0, n, lowN (tb w) || wordN (tb w)⟩
def numberT (s : ByteArray) : Tok :=
  let n := spanN digitN (tb s)
  let w := s.extract 0 n
  ⟨3, w, pnumI w, n, pokB w && (!decide ((tb s).getD 0 0 = 48) || decide (n = 1))⟩
def pathT (s : ByteArray) : Tok := match idxN 39 ((tb s).drop 1) with
  | none => noTok
  | some i => ⟨4, s.extract 1 (i + 1), 0, i + 2, pathN (tb (s.extract 1 (i + 1)))⟩
def twoB : List ByteArray := [bs [58, 61], bs [45, 62], bs [60, 61], bs [62, 61], bs [60, 62]]
def twoN : List (List Nat) := [[58, 61], [45, 62], [60, 61], [62, 61], [60, 62]]
def oneL : List UInt8 := [40, 41, 123, 125, 91, 93, 44, 59, 58, 61, 60, 62, 43, 45, 42, 47]
def oneN : List Nat := [40, 41, 123, 125, 91, 93, 44, 59, 58, 61, 60, 62, 43, 45, 42, 47]
def markT (s : ByteArray) : Tok := match twoN.contains ((tb s).take 2), oneN.contains ((tb s).getD 0 0) with
  | true, _ => ⟨5, s.extract 0 2, 0, 2, true⟩
  | false, true => ⟨5, s.extract 0 1, 0, 1, true⟩
  | false, false => noTok
def nextT0 (s : ByteArray) : Tok :=
  let c := (tb s).getD 0 0
  match smallN c || greatN c, digitN c, decide (c = 39) with
  | true, _, _ => wordT s
  | false, true, _ => numberT s
  | false, false, true => pathT s
  | false, false, false => markT s
theorem ext_len (s : ByteArray) (a b : Nat) (hb : b ≤ (tb s).length) (hab : a ≤ b) : (tb (s.extract a b)).length = b - a := by rw [tb_ext]; simp; omega
theorem ext_at (s : ByteArray) (b i : Nat) (hi : i < b) : (tb (s.extract 0 b)).getD i 0 = (tb s).getD i 0 := by
  rw [tb_ext, List.drop_zero, List.getD_eq_getElem?_getD, List.getElem?_take, if_pos hi, List.getD_eq_getElem?_getD]
theorem toNat0 : (0 : Int).toNat = 0 := rfl
theorem toNat1 : (1 : Int).toNat = 1 := rfl
theorem span_pos {p : Nat → Bool} {l : List Nat} (h : p (l.getD 0 0) = true) (hl : 0 < l.length) : 0 < spanN p l := by
  match l, hl with
  | c :: r, _ =>
    have h : p c = true := h
    unfold spanN
    rw [List.takeWhile_cons, h]; simp
theorem c_word (s : ByteArray) (hs : s.size ≤ 100000) (h0 : 0 < (tb s).length) (hc : innerN ((tb s).getD 0 0) = true) : cF 54 [.d (.str s)] = some (wordT s).r := by
  have k1 := c_sinner s (by omega)
  have hp := span_pos hc h0
  have hle := spanN_le innerN (tb s)
  have hlen : (tb s).length ≤ 100000 := by rw [tb_len]; exact hs
  unfold wordT
  simp only
  generalize hn : spanN innerN (tb s) = n at k1 hp hle
  have hsz := ext_len s 0 n hle (Nat.zero_le _)
  rw [Nat.sub_zero] at hsz
  have z : (s.extract 0 n).size ≤ 100000 := by rw [← tb_len, hsz]; omega
  have hat := ext_at s n 0 hp
  have hq : ((s.extract 0 n).data.getD (0 : Int).toNat 0).toNat = (tb s).getD 0 0 := by rw [toNat0, ← tb_getD, hat]
  have k2 := c_xgreat ((tb s).getD 0 0)
  have k3 := c_High (s.extract 0 n)
  have k4 := c_Low (s.extract 0 n)
  have k5 := c_Word (s.extract 0 n)
  refine cOf (by kernel_rfl) rfl ?_
  rw [g54_eq]
  simp only [g54, go1, Option.bind_some, eq_self, cond_true, cond_false, Nat.reduceAdd, Int.reduceEq, Int.reduceLT, Int.reduceLE, Int.reduceSub, Int.reduceAdd, k1]
  simp (disch := omega) only [wrap_id, decT, decF, go1, Option.bind_some, eq_self, cond_true, cond_false, Nat.reduceAdd, Int.reduceEq, Int.reduceLT, Int.reduceLE, Int.reduceSub, Int.reduceAdd, size_tb, toNat0, Int.toNat_natCast, hsz]
  rw [toNat0] at hq
  simp (disch := omega) only [wrap_id, decT, decF, go1, Option.bind_some, eq_self, cond_true, cond_false, Nat.reduceAdd, Int.reduceEq, Int.reduceLT, Int.reduceLE, Int.reduceSub, Int.reduceAdd, hq, k2]
  cases greatN ((tb s).getD 0 0) with
  | true =>
    simp (disch := omega) only [wrap_id, decT, decF, go1, Option.bind_some, eq_self, cond_true, cond_false, Nat.reduceAdd, Int.reduceEq, Int.reduceLT, Int.reduceLE, Int.reduceSub, Int.reduceAdd, k3, Tok.r]
  | false =>
    simp only [go1, Option.bind_some, eq_self, cond_true, cond_false, Nat.reduceAdd, Int.reduceEq, Int.reduceLT, Int.reduceLE, Int.reduceSub, Int.reduceAdd, k4, Tok.r]
    cases lowN (tb (s.extract 0 n)) with
    | true => simp only [go1, Option.bind_some, eq_self, cond_true, cond_false, Nat.reduceAdd, Int.reduceEq, Int.reduceLT, Int.reduceLE, Int.reduceSub, Int.reduceAdd]; try rfl
    | false => simp only [go1, Option.bind_some, eq_self, cond_true, cond_false, Nat.reduceAdd, Int.reduceEq, Int.reduceLT, Int.reduceLE, Int.reduceSub, Int.reduceAdd, k5]; try rfl
theorem c_number0 (s : ByteArray) (hs : s.size ≤ 100000) (h0 : 0 < (tb s).length) (hc : digitN ((tb s).getD 0 0) = true) : cF 56 [.d (.str s)] = some (numberT s).r := by
  have k1 := c_sdigit s (by omega)
  have hp := span_pos hc h0
  have hle := spanN_le digitN (tb s)
  have hlen : (tb s).length ≤ 100000 := by rw [tb_len]; exact hs
  unfold numberT
  simp only
  generalize hn : spanN digitN (tb s) = n at k1 hp hle
  have hsz := ext_len s 0 n hle (Nat.zero_le _)
  rw [Nat.sub_zero] at hsz
  have hat := ext_at s n 0 hp
  have hq : ((s.extract 0 n).data.getD (0 : Int).toNat 0).toNat = (tb s).getD 0 0 := by rw [toNat0, ← tb_getD, hat]
  rw [toNat0] at hq
  refine cOf (by kernel_rfl) rfl ?_
  rw [g56_eq]
  simp only [g56, go1, Option.bind_some, eq_self, cond_true, cond_false, Nat.reduceAdd, Int.reduceEq, Int.reduceLT, Int.reduceLE, Int.reduceSub, Int.reduceAdd, k1]
  simp (disch := omega) only [wrap_id, decT, decF, go1, Option.bind_some, eq_self, cond_true, cond_false, Nat.reduceAdd, Int.reduceEq, Int.reduceLT, Int.reduceLE, Int.reduceSub, Int.reduceAdd, size_tb, toNat0, Int.toNat_natCast, hsz]
  rw [dec_iff (show ((((s.extract 0 n).data.getD 0 0).toNat : Nat) : Int) = 48 ↔ (tb s).getD 0 0 = 48 by omega), dec_iff (show (n : Int) = 1 ↔ n = 1 by omega)]
  rfl
theorem c_path0 (s : ByteArray) (hs : s.size ≤ 100000) (h0 : 0 < (tb s).length) : cF 57 [.d (.str s)] = some (pathT s).r := by
  have hlen : (tb s).length ≤ 100000 := by rw [tb_len]; exact hs
  have e1 : tb (s.extract 1 (tb s).length) = (tb s).drop 1 := by rw [tb_ext, List.take_length]
  have k1 := c_Index (s.extract 1 (tb s).length) 39
  rw [e1] at k1
  have h39 : (39 : UInt8).toNat = 39 := rfl
  rw [h39] at k1
  refine cOf (by kernel_rfl) rfl ?_
  rw [g57_eq]
  simp only [g57, go1, Option.bind_some, eq_self, cond_true, cond_false, Nat.reduceAdd, Int.reduceEq, Int.reduceLT, Int.reduceLE, Int.reduceSub, Int.reduceAdd]
  simp (disch := omega) only [wrap_id, decT, decF, go1, Option.bind_some, eq_self, cond_true, cond_false, Nat.reduceAdd, Int.reduceEq, Int.reduceLT, Int.reduceLE, Int.reduceSub, Int.reduceAdd, size_tb, toNat1, Int.toNat_natCast, k1]
  unfold pathT idxZ
  cases hi : idxN 39 ((tb s).drop 1) with
  | none => simp only [go1, Option.bind_some, eq_self, cond_true, cond_false, Nat.reduceAdd, Int.reduceEq, Int.reduceLT, Int.reduceLE, Int.reduceSub, Int.reduceAdd]; rfl
  | some i =>
    have hlt := (idxN_some hi).1
    simp only [List.length_drop] at hlt
    have e2 : ((i : Int) + 1).toNat = i + 1 := by omega
    have z : (s.extract 1 (i + 1)).size ≤ 100000 := by rw [← tb_len, ext_len _ _ _ (by omega) (by omega)]; omega
    have k2 := c_Path (s.extract 1 (i + 1)) z
    simp (disch := omega) only [wrap_id, decT, decF, go1, Option.bind_some, eq_self, cond_true, cond_false, Nat.reduceAdd, Int.reduceEq, Int.reduceLT, Int.reduceLE, Int.reduceSub, Int.reduceAdd, e2, k2, Tok.r]
    first | rfl | (simp only [Int.natCast_add]; rfl)
end Go.Vm
end

section
set_option linter.all false
set_option maxRecDepth 100000
set_option maxHeartbeats 4000000
namespace Go.Vm
open Go.Proofs
theorem c_Fields : cF 99 [.d (.str (bs [58, 61, 32, 45, 62, 32, 60, 61, 32, 62, 61, 32, 60, 62]))] = some (.val [.sl 1 (srows twoB)]) := callF_known rfl
theorem two_at (i : Nat) (hi : i < 5) : ∃ m, twoB[i]? = some m ∧ tb m = twoN.getD i [] ∧ (twoN.getD i []).length = 2 := by
  match i, hi with
  | 0, _ | 1, _ | 2, _ | 3, _ | 4, _ => exact ⟨_, rfl, rfl, rfl⟩
theorem two_in {x : List Nat} : twoN.contains x = true ↔ ∃ i, i < 5 ∧ x = twoN.getD i [] := by
  constructor
  · intro h
    rw [List.contains_iff_mem] at h
    obtain ⟨i, hi, he⟩ := List.mem_iff_getElem.1 h
    exact ⟨i, hi, by rw [List.getD_eq_getElem?_getD, List.getElem?_eq_getElem hi]; exact he.symm⟩
  · rintro ⟨i, hi, rfl⟩
    match i, hi with
    | 0, _ | 1, _ | 2, _ | 3, _ | 4, _ => rfl
theorem idxZ_neg (c : Nat) (l : List Nat) : decide (idxZ c l < 0) = !l.contains c := by
  rcases idxZ_bd c l with ⟨h, hn⟩ | ⟨i, h, hs, _⟩
  · rw [h]
    have : ¬ c ∈ l := fun hm => idxN_none hn c hm rfl
    simp [this]
  · rw [h]
    have : c ∈ l := by
      have e := (idxN_some hs).2.1
      rw [e]; simp
    simp [this]
theorem hd_tb (s : ByteArray) : (s.data.getD 0 0).toNat = (tb s).getD 0 0 := (tb_getD s 0).symm
theorem c_mark0 (s : ByteArray) (hs : s.size ≤ 100000) (h0 : 0 < (tb s).length) : cF 58 [.d (.str s)] = some (markT s).r := by
  have hlen : (tb s).length ≤ 100000 := by rw [tb_len]; exact hs
  have k0 := c_Fields
  refine cOf (by kernel_rfl) rfl ?_
  rw [g58_eq]
  simp only [g58, go1, Option.bind_some, eq_self, cond_true, cond_false, Nat.reduceAdd, Int.reduceEq, Int.reduceLT, Int.reduceLE, Int.reduceSub, Int.reduceAdd, k0]
  refine loopF_at (fun i : Nat => [.str s, .sl 1 (srows twoB), .int .i64 (5 : Int), .int .i64 (i : Int), .int .i64 0, .str (bs []), .int .i64 0, .int .i64 0]) (fun i => i ≤ 5 ∧ ∀ j, j < i → (tb s).take 2 ≠ twoN.getD j []) (fun i => 5 - i) (fun i hi => ?_) 0 ⟨by omega, fun j hj => by omega⟩
  obtain ⟨hle, hno⟩ := hi
  by_cases hlt : i < 5
  · obtain ⟨m, hm, htm, hl2⟩ := two_at i hlt
    have k1 := c_Has s m
    rw [htm] at k1
    have hrl : ((srows twoB).length : Int) = 5 := rfl
    have hcell := srows_at hm
    have hsm : (tb m).length = 2 := by rw [htm]; exact hl2
    simp only [go1, Option.bind_some, eq_self, cond_true, cond_false, Nat.reduceAdd, Int.reduceEq, Int.reduceLT, Int.reduceLE, Int.reduceSub, Int.reduceAdd, srows_row hm]
    simp (disch := omega) only [wrap_id, decT, decF, go1, Option.bind_some, eq_self, cond_true, cond_false, Nat.reduceAdd, Int.reduceEq, Int.reduceLT, Int.reduceLE, Int.reduceSub, Int.reduceAdd, k1, hrl, size_tb, hsm]
    cases hh : hasN (twoN.getD i []) (tb s) with
    | true =>
      right
      have he := of_decide_eq_true hh
      rw [hl2] at he
      have hc : twoN.contains ((tb s).take 2) = true := two_in.2 ⟨i, hlt, he⟩
      have hx : m = s.extract 0 2 := tb_inj (by rw [tb_ext, List.drop_zero, he, htm])
      unfold markT
      rw [hc, ← hx]
      rfl
    | false =>
      left
      have he := of_decide_eq_false hh
      rw [hl2] at he
      exact ⟨i + 1, by rw [Int.natCast_add]; rfl, ⟨by omega, fun j hj => by
        by_cases e : j = i
        · subst e; exact he
        · exact hno j (by omega)⟩, by omega⟩
  · right
    have : i = 5 := by omega
    subst this
    have hc : twoN.contains ((tb s).take 2) = false := by
      rw [Bool.eq_false_iff]
      intro h
      obtain ⟨j, hj, he⟩ := two_in.1 h
      exact hno j hj he
    have k2 := c_IndexByte (bs oneL) (s.data.getD 0 0)
    have e1 : tb (bs oneL) = oneN := rfl
    rw [e1] at k2
    have e2 : bs oneL = bs [40, 41, 123, 125, 91, 93, 44, 59, 58, 61, 60, 62, 43, 45, 42, 47] := rfl
    rw [e2] at k2
    have hx := idxZ_neg (s.data.getD 0 0).toNat oneN
    unfold markT
    rw [hc]
    simp (disch := omega) only [wrap_id, decT, decF, go1, Option.bind_some, eq_self, cond_true, cond_false, Nat.reduceAdd, Int.reduceEq, Int.reduceLT, Int.reduceLE, Int.reduceSub, Int.reduceAdd, size_tb, k2, hx, toNat0, toNat1]
    rw [hd_tb]
    cases oneN.contains ((tb s).getD 0 0) <;> rfl
theorem c_next (s : ByteArray) (hs : s.size ≤ 100000) (h0 : 0 < (tb s).length) : cF 27 [.d (.str s)] = some (nextT0 s).r := by
  have hlen : (tb s).length ≤ 100000 := by rw [tb_len]; exact hs
  have hq : ((s.data.getD (0 : Int).toNat 0).toNat : Int) = (((tb s).getD 0 0 : Nat) : Int) := by rw [toNat0, hd_tb]
  have k1 := c_xsmall ((tb s).getD 0 0)
  have k2 := c_xgreat ((tb s).getD 0 0)
  have k3 := c_xdigit ((tb s).getD 0 0)
  have e39 : ((s.extract (0 : Int).toNat (1 : Int).toNat).toList == (bs [39]).toList) = decide ((tb s).getD 0 0 = 39) := by
    rw [seq_tb, tb_scut, toNat0, toNat1]
    refine dec_iff ?_
    match hl : tb s, h0 with
    | c :: r, _ => simp [tb_bs]
  refine cOf (by kernel_rfl) rfl ?_
  rw [g27_eq]
  simp only [g27, go1, Option.bind_some, eq_self, cond_true, cond_false, Nat.reduceAdd, Int.reduceEq, Int.reduceLT, Int.reduceLE, Int.reduceSub, Int.reduceAdd]
  simp (disch := omega) only [wrap_id, decT, decF, go1, Option.bind_some, eq_self, cond_true, cond_false, Nat.reduceAdd, Int.reduceEq, Int.reduceLT, Int.reduceLE, Int.reduceSub, Int.reduceAdd, size_tb, hq, k1, k2, k3, e39]
  have wd : innerN ((tb s).getD 0 0) = true → cF 54 [.d (.str s)] = some (wordT s).r := fun h => c_word s hs h0 h
  have nd : digitN ((tb s).getD 0 0) = true → cF 56 [.d (.str s)] = some (numberT s).r := fun h => c_number0 s hs h0 h
  have pd := c_path0 s hs h0
  have md := c_mark0 s hs h0
  cases h1 : smallN ((tb s).getD 0 0) with
  | true =>
    have := wd (by unfold innerN; rw [h1]; rfl)
    have e : nextT0 s = wordT s := by unfold nextT0; simp only [h1, Bool.true_or]
    rw [e]
    simp only [go1, Option.bind_some, eq_self, cond_true, cond_false, Nat.reduceAdd, Int.reduceEq, Int.reduceLT, Int.reduceLE, Int.reduceSub, Int.reduceAdd, this, Tok.r]
  | false =>
    cases h2 : greatN ((tb s).getD 0 0) with
    | true =>
      have := wd (by unfold innerN; rw [h2]; simp)
      have e : nextT0 s = wordT s := by unfold nextT0; simp only [h1, h2, Bool.false_or]
      rw [e]
      simp only [go1, Option.bind_some, eq_self, cond_true, cond_false, Nat.reduceAdd, Int.reduceEq, Int.reduceLT, Int.reduceLE, Int.reduceSub, Int.reduceAdd, this, Tok.r]
    | false =>
      cases h3 : digitN ((tb s).getD 0 0) with
      | true =>
        have := nd h3
        have e : nextT0 s = numberT s := by unfold nextT0; simp only [h1, h2, h3, Bool.false_or]
        rw [e]
        simp only [go1, Option.bind_some, eq_self, cond_true, cond_false, Nat.reduceAdd, Int.reduceEq, Int.reduceLT, Int.reduceLE, Int.reduceSub, Int.reduceAdd, this, Tok.r]
      | false =>
        cases h4 : decide ((tb s).getD 0 0 = 39) with
        | true =>
          have e : nextT0 s = pathT s := by unfold nextT0; simp only [h1, h2, h3, h4, Bool.false_or]
          rw [e]
          simp only [go1, Option.bind_some, eq_self, cond_true, cond_false, Nat.reduceAdd, Int.reduceEq, Int.reduceLT, Int.reduceLE, Int.reduceSub, Int.reduceAdd, pd, Tok.r]
        | false =>
          have e : nextT0 s = markT s := by unfold nextT0; simp only [h1, h2, h3, h4, Bool.false_or]
          rw [e]
          simp only [go1, Option.bind_some, eq_self, cond_true, cond_false, Nat.reduceAdd, Int.reduceEq, Int.reduceLT, Int.reduceLE, Int.reduceSub, Int.reduceAdd, md, Tok.r]
end Go.Vm
end

section
set_option linter.all false
set_option maxRecDepth 100000
set_option maxHeartbeats 4000000
namespace Go.Vm
open Go.Proofs
/-! ### what a token is -/
theorem take_span (p : Nat → Bool) (l : List Nat) : l.take (spanN p l) = l.takeWhile p := by
  unfold spanN
  exact (List.prefix_iff_eq_take.1 (List.takeWhile_prefix p)).symm
/-- What is known of a token. -/
def TokOK (l : List Nat) (t : Tok) : Prop := t.ok = true → 1 ≤ t.w ∧ t.w ≤ l.length ∧ t.k ≠ 6 ∧ (t.k = 4 → (tb t.s).length + 2 = t.w) ∧ (t.k ≠ 4 → tb t.s = l.take t.w)
theorem wordT_ok (s : ByteArray) (h0 : 0 < (tb s).length) (hc : innerN ((tb s).getD 0 0) = true) : TokOK (tb s) (wordT s) := by
  have hp := span_pos hc h0
  have hle := spanN_le innerN (tb s)
  intro _
  unfold wordT
  simp only
  split
  · exact ⟨hp, hle, (by decide : (2 : Int) ≠ 6), fun h => absurd (show (2 : Int) = 4 from h) (by decide), fun _ => by rw [tb_ext, List.drop_zero]⟩
  · exact ⟨hp, hle, (by decide : (1 : Int) ≠ 6), fun h => absurd (show (1 : Int) = 4 from h) (by decide), fun _ => by rw [tb_ext, List.drop_zero]⟩
theorem numberT_ok (s : ByteArray) (h0 : 0 < (tb s).length) (hc : digitN ((tb s).getD 0 0) = true) : TokOK (tb s) (numberT s) := by
  have hp := span_pos hc h0
  have hle := spanN_le digitN (tb s)
  intro _
  exact ⟨hp, hle, (by decide : (3 : Int) ≠ 6), fun h => absurd (show (3 : Int) = 4 from h) (by decide), fun _ => by show tb (s.extract 0 _) = _; rw [tb_ext, List.drop_zero]; rfl⟩
theorem pathT_ok (s : ByteArray) (h0 : 0 < (tb s).length) : TokOK (tb s) (pathT s) := by
  intro h
  unfold pathT at h ⊢
  cases hi : idxN 39 ((tb s).drop 1) with
  | none => rw [hi] at h; cases h
  | some i =>
    have hlt := (idxN_some hi).1
    simp only [List.length_drop] at hlt
    refine ⟨by show 1 ≤ i + 2; omega, by show i + 2 ≤ _; omega, (by decide : (4 : Int) ≠ 6), fun _ => ?_, fun h => absurd rfl h⟩
    show (tb (s.extract 1 (i + 1))).length + 2 = i + 2
    rw [ext_len _ _ _ (by omega) (by omega)]; omega
theorem markT_ok (s : ByteArray) (h0 : 0 < (tb s).length) : TokOK (tb s) (markT s) := by
  intro h
  unfold markT at h ⊢
  cases h1 : twoN.contains ((tb s).take 2) with
  | true =>
    obtain ⟨i, hi, he⟩ := two_in.1 h1
    have hl : ((tb s).take 2).length = 2 := by
      obtain ⟨m, _, _, h2⟩ := two_at i hi
      rw [he, h2]
    rw [List.length_take] at hl
    exact ⟨by show 1 ≤ 2; decide, by show 2 ≤ _; omega, (by decide : (5 : Int) ≠ 6), fun h => absurd (show (5 : Int) = 4 from h) (by decide), fun _ => by show tb (s.extract 0 2) = _; rw [tb_ext, List.drop_zero]⟩
  | false =>
    cases h2 : oneN.contains ((tb s).getD 0 0) with
    | true => exact ⟨by show 1 ≤ 1; decide, by show 1 ≤ _; omega, (by decide : (5 : Int) ≠ 6), fun h => absurd (show (5 : Int) = 4 from h) (by decide), fun _ => by show tb (s.extract 0 1) = _; rw [tb_ext, List.drop_zero]⟩
    | false => rw [h1, h2] at h; cases h
theorem nextT0_cases (s : ByteArray) : (nextT0 s = wordT s ∧ innerN ((tb s).getD 0 0) = true) ∨ (nextT0 s = numberT s ∧ digitN ((tb s).getD 0 0) = true) ∨ nextT0 s = pathT s ∨ nextT0 s = markT s := by
  cases h1 : smallN ((tb s).getD 0 0) with
  | true => exact .inl ⟨by unfold nextT0; simp only [h1, Bool.true_or], by unfold innerN; rw [h1]; rfl⟩
  | false =>
    cases h2 : greatN ((tb s).getD 0 0) with
    | true => exact .inl ⟨by unfold nextT0; simp only [h1, h2, Bool.false_or], by unfold innerN; rw [h2]; simp⟩
    | false =>
      cases h3 : digitN ((tb s).getD 0 0) with
      | true => exact .inr (.inl ⟨by unfold nextT0; simp only [h1, h2, h3, Bool.false_or], rfl⟩)
      | false =>
        cases h4 : decide ((tb s).getD 0 0 = 39) with
        | true => exact .inr (.inr (.inl (by unfold nextT0; simp only [h1, h2, h3, h4, Bool.false_or])))
        | false => exact .inr (.inr (.inr (by unfold nextT0; simp only [h1, h2, h3, h4, Bool.false_or])))
theorem nextT0_ok (s : ByteArray) (h0 : 0 < (tb s).length) : TokOK (tb s) (nextT0 s) := by
  rcases nextT0_cases s with ⟨h, hc⟩ | ⟨h, hc⟩ | h | h <;> rw [h]
  · exact wordT_ok s h0 hc
  · exact numberT_ok s h0 hc
  · exact pathT_ok s h0
  · exact markT_ok s h0
/-! ### all tokens -/
structure Tk where
  k : Int
  s : ByteArray
  n : Int
  a : Nat
def tkrow (t : Tk) : List D := [.int .i64 t.k, .str t.s, .int .i64 t.n, .int .i64 (t.a : Int)]
def trows (l : List Tk) : List (List D) := l.map tkrow
theorem trows_app (a b : List Tk) : trows a ++ trows b = trows (a ++ b) := by simp [trows]
theorem trows_len (l : List Tk) : (trows l).length = l.length := by simp [trows]
def lexS (s : ByteArray) (a : Nat) : List Tk × Nat × Bool :=
  if hp : a + gapN ((tb s).drop a) < (tb s).length then
    if h : (nextT0 (s.extract (a + gapN ((tb s).drop a)) (tb s).length)).ok = true ∧ 1 ≤ (nextT0 (s.extract (a + gapN ((tb s).drop a)) (tb s).length)).w then
      (⟨(nextT0 (s.extract (a + gapN ((tb s).drop a)) (tb s).length)).k, (nextT0 (s.extract (a + gapN ((tb s).drop a)) (tb s).length)).s, (nextT0 (s.extract (a + gapN ((tb s).drop a)) (tb s).length)).n, a + gapN ((tb s).drop a)⟩ ::
        (lexS s (a + gapN ((tb s).drop a) + (nextT0 (s.extract (a + gapN ((tb s).drop a)) (tb s).length)).w)).1, (lexS s (a + gapN ((tb s).drop a) + (nextT0 (s.extract (a + gapN ((tb s).drop a)) (tb s).length)).w)).2)
    else ([], a + gapN ((tb s).drop a), false)
  else ([], a + gapN ((tb s).drop a), true)
  termination_by (tb s).length - a
  decreasing_by all_goals omega
def endT (s : ByteArray) : Tk := ⟨6, bs [], 0, (tb s).length⟩
def allR (s : ByteArray) (most : Int) : PRes := match decide (most < ((tb s).length : Int)), (lexS s 0).2.2 with
  | true, _ => .val [.sl 4 [], .int .i64 most, .int .i64 3]
  | false, true => .val [.sl 4 (trows ((lexS s 0).1 ++ [endT s])), .int .i64 ((tb s).length : Int), .int .i64 0]
  | false, false => .val [.sl 4 [], .int .i64 ((lexS s 0).2.1 : Int), .int .i64 2]
theorem c_All (s : ByteArray) (most : Int) (hs : s.size ≤ 100000) : cF 8 [.d (.str s), .d (.int .i64 most)] = some (allR s most) := by
  have hlen : (tb s).length ≤ 100000 := by rw [tb_len]; exact hs
  refine cOf (by kernel_rfl) rfl ?_
  rw [g8_eq]
  simp only [g8, go1, Option.bind_some, eq_self, cond_true, cond_false, Nat.reduceAdd, Int.reduceEq, Int.reduceLT, Int.reduceLE, Int.reduceSub, Int.reduceAdd]
  unfold allR
  rw [size_tb]
  cases hm : decide (most < ((tb s).length : Int)) with
  | true => simp only [go1, Option.bind_some, eq_self, cond_true, cond_false, Nat.reduceAdd, Int.reduceEq, Int.reduceLT, Int.reduceLE, Int.reduceSub, Int.reduceAdd]
  | false =>
    simp only [go1, Option.bind_some, eq_self, cond_true, cond_false, Nat.reduceAdd, Int.reduceEq, Int.reduceLT, Int.reduceLE, Int.reduceSub, Int.reduceAdd]
    refine loopF_at (fun x : Nat × List Tk => [.str s, .int .i64 (x.1 : Int), .sl 4 (trows x.2)]) (fun x => x.1 ≤ (tb s).length ∧ x.2.length ≤ x.1 ∧ lexS s 0 = (x.2 ++ (lexS s x.1).1, (lexS s x.1).2)) (fun x => (tb s).length - x.1) (fun x hx => ?_) (0, []) ⟨Nat.zero_le _, Nat.le_refl _, by simp⟩
    obtain ⟨a, acc⟩ := x
    obtain ⟨h1, h2, h3⟩ := hx
    simp only at h1 h2 h3
    have e1 := ext_drop s a h1
    have z1 : (s.extract (a : Int).toNat ((tb s).length : Int).toNat).size ≤ 1000000 := by rw [← tb_len, e1]; simp; omega
    have k1 := c_gap _ z1
    rw [e1] at k1
    have hg := gapN_le _ _ (Nat.le_refl ((tb s).drop a).length)
    simp only [List.length_drop] at hg
    have heq := lexS.eq_def s a
    generalize gapN ((tb s).drop a) = g at k1 hg heq
    have w1 : IntKind.i64.wrap ((a : Int) + (g : Int)) = ((a + g : Nat) : Int) := by rw [wrap_id (by omega) (by omega)]; omega
    have e2 := ext_drop s (a + g) (by omega)
    rw [Int.toNat_natCast, Int.toNat_natCast] at e2
    have z2 : (s.extract (a + g) (tb s).length).size ≤ 100000 := by rw [← tb_len, e2]; simp; omega
    have hal : (trows acc).length = acc.length := trows_len acc
    simp only [go1, Option.bind_some, eq_self, cond_true, cond_false, Nat.reduceAdd, Int.reduceEq, Int.reduceLT, Int.reduceLE, Int.reduceSub, Int.reduceAdd, size_tb]
    simp (disch := omega) only [wrap_id, decT, decF, go1, Option.bind_some, eq_self, cond_true, cond_false, Nat.reduceAdd, Int.reduceEq, Int.reduceLT, Int.reduceLE, Int.reduceSub, Int.reduceAdd, k1, w1]
    by_cases hp : a + g < (tb s).length
    · rw [dif_pos hp] at heq
      have hpos : 0 < (tb (s.extract (a + g) (tb s).length)).length := by rw [e2]; simp; omega
      have k2 := c_next (s.extract (a + g) (tb s).length) z2 hpos
      have hok := nextT0_ok (s.extract (a + g) (tb s).length) hpos
      generalize nextT0 (s.extract (a + g) (tb s).length) = t at k2 hok heq
      rw [e2] at hok
      have i1 : ((a : Int) + (g : Int)).toNat = a + g := by omega
      simp (disch := omega) only [wrap_id, decT, decF, go1, Option.bind_some, eq_self, cond_true, cond_false, Nat.reduceAdd, Int.reduceEq, Int.reduceLT, Int.reduceLE, Int.reduceSub, Int.reduceAdd, i1, Int.toNat_natCast, k2, Tok.r]
      cases hb : t.ok with
      | false =>
        right
        rw [dif_neg (by rw [hb]; simp)] at heq
        rw [h3, heq]
        simp only [go1, Option.bind_some, eq_self, cond_true, cond_false, Nat.reduceAdd, Int.reduceEq, Int.reduceLT, Int.reduceLE, Int.reduceSub, Int.reduceAdd, Int.natCast_add]
      | true =>
        left
        obtain ⟨q1, q2, _⟩ := hok hb
        simp only [List.length_drop] at q2
        rw [dif_pos ⟨hb, q1⟩] at heq
        have w2 : IntKind.i64.wrap ((a : Int) + (g : Int) + (t.w : Int)) = ((a + g + t.w : Nat) : Int) := by rw [wrap_id (by omega) (by omega)]; omega
        refine ⟨(a + g + t.w, acc ++ [⟨t.k, t.s, t.n, a + g⟩]), ?_, ⟨by simp only; omega, by simp; omega, ?_⟩, by simp only; omega⟩
        · simp (disch := omega) only [wrap_id, decT, decF, go1, Option.bind_some, eq_self, cond_true, cond_false, Nat.reduceAdd, Int.reduceEq, Int.reduceLT, Int.reduceLE, Int.reduceSub, Int.reduceAdd, hal, List.length_singleton, w2]
          rw [← trows_app]
          simp only [go1, Option.bind_some, eq_self, cond_true, cond_false, Nat.reduceAdd, Int.reduceEq, Int.reduceLT, Int.reduceLE, Int.reduceSub, Int.reduceAdd, Int.natCast_add]
          rfl
        · rw [h3, heq]; simp
    · right
      rw [dif_neg hp] at heq
      have hpe : a + g = (tb s).length := by omega
      rw [h3, heq, ← trows_app, ← trows_app]
      simp (disch := omega) only [wrap_id, decT, decF, go1, Option.bind_some, eq_self, cond_true, cond_false, Nat.reduceAdd, Int.reduceEq, Int.reduceLT, Int.reduceLE, Int.reduceSub, Int.reduceAdd, hal, List.length_singleton]
      rw [show trows ([] : List Tk) = [] from rfl, List.append_nil]
      rfl
end Go.Vm
end

section
set_option linter.all false
set_option maxRecDepth 100000
set_option maxHeartbeats 4000000
namespace Go.Vm
open Go.Proofs
theorem c_live : cF 7 [] = some (.val [.bool true]) := callF_run 40 fun n => by
  rw [Nat.add_comm]
  kernel_rfl
theorem c_xnum (n : Int) : cF 11 [.d (.int .i64 n)] = some (.val [.int .i64 n]) := by
  refine cOf (by kernel_rfl) rfl ?_
  rw [g11_eq]
  simp only [g11, go1, Option.bind_some, eq_self, cond_true, cond_false, Nat.reduceAdd, Int.reduceEq, Int.reduceLT, Int.reduceLE, Int.reduceSub, Int.reduceAdd]
end Go.Vm
end

section
set_option linter.all false
set_option maxRecDepth 100000
set_option maxHeartbeats 4000000
namespace Go.Vm
open Go.Proofs
/-! ### two texts, a line feed between -/
theorem span_app1 {p : Nat → Bool} {l r : List Nat} (h : spanN p l < l.length) : spanN p (l ++ r) = spanN p l := by
  unfold spanN at h ⊢
  rw [List.takeWhile_append]
  rw [if_neg (by omega)]
theorem span_app2 {p : Nat → Bool} {l r : List Nat} (h : spanN p l = l.length) : spanN p (l ++ r) = l.length + spanN p r := by
  unfold spanN at h ⊢
  rw [List.takeWhile_append, if_pos h, List.length_append]
theorem span_cons1 {p : Nat → Bool} {c : Nat} {r : List Nat} (h : p c = true) : spanN p (c :: r) = 1 + spanN p r := by
  unfold spanN; rw [List.takeWhile_cons, if_pos h, List.length_cons]; omega
theorem span_cons0 {p : Nat → Bool} {c : Nat} {r : List Nat} (h : p c = false) : spanN p (c :: r) = 0 := by
  unfold spanN; rw [List.takeWhile_cons, h]; rfl
theorem rem_app (x r : List Nat) : hasN remN (x ++ 10 :: r) = hasN remN x := by
  unfold hasN remN
  match x with
  | [] => simp
  | [c] => simp
  | a :: b :: t => simp
theorem gap_ten (r : List Nat) : gapN (10 :: r) = 1 + gapN r := by
  have h1 := gapN.eq_def (10 :: r)
  have h2 := gapN.eq_def r
  have hs : spanN blankN (10 :: r) = 1 + spanN blankN r := span_cons1 rfl
  rw [hs] at h1
  have hd : (10 :: r).drop (1 + spanN blankN r) = r.drop (spanN blankN r) := by rw [Nat.add_comm, List.drop_succ_cons]
  have hd2 : ∀ k, (10 :: r).drop (1 + spanN blankN r + k) = r.drop (spanN blankN r + k) := fun k => by
    rw [show 1 + spanN blankN r + k = (spanN blankN r + k) + 1 by omega, List.drop_succ_cons]
  rw [hd, hd2] at h1
  rw [h1, h2]
  split <;> omega
theorem gap_app : ∀ (n : Nat) (l r : List Nat), l.length ≤ n → (gapN l < l.length → gapN (l ++ 10 :: r) = gapN l) ∧ (gapN l = l.length → gapN (l ++ 10 :: r) = l.length + 1 + gapN r)
  | n, l, r, hn => by
    have h1 := gapN.eq_def l
    have h2 := gapN.eq_def (l ++ 10 :: r)
    have hle := spanN_le blankN l
    by_cases hb : spanN blankN l < l.length
    · rw [span_app1 hb] at h2
      have hda : (l ++ 10 :: r).drop (spanN blankN l) = l.drop (spanN blankN l) ++ 10 :: r := List.drop_append_of_le_length (by omega)
      rw [hda, rem_app] at h2
      cases hr : hasN remN (l.drop (spanN blankN l)) with
      | false =>
        rw [hr] at h1 h2
        simp only [Bool.false_eq_true, dite_false] at h1 h2
        exact ⟨fun _ => by rw [h1, h2], fun h => by omega⟩
      | true =>
        rw [hr] at h1 h2
        simp only [dite_true] at h1 h2
        have hrs := rem_span hr
        have hkl := spanN_le nlineN (l.drop (spanN blankN l))
        by_cases hk : spanN nlineN (l.drop (spanN blankN l)) < (l.drop (spanN blankN l)).length
        · rw [span_app1 hk] at h2
          generalize spanN nlineN (l.drop (spanN blankN l)) = k at *
          generalize spanN blankN l = m at *
          simp only [List.length_drop] at hk hkl
          rw [List.drop_append_of_le_length (by omega)] at h2
          cases n with
          | zero => omega
          | succ n =>
            have ih := gap_app n (l.drop (m + k)) r (by simp only [List.length_drop]; omega)
            simp only [List.length_drop] at ih
            exact ⟨fun h => by rw [h1, h2, ih.1 (by omega)], fun h => by rw [h2, ih.2 (by omega)]; omega⟩
        · have hk : spanN nlineN (l.drop (spanN blankN l)) = (l.drop (spanN blankN l)).length := by omega
          rw [span_app2 hk, span_cons0 (c := 10) rfl] at h2
          rw [hk] at h1
          generalize spanN blankN l = m at *
          simp only [List.length_drop] at h1 h2 hk hkl
          have e1 : m + (l.length - m) = l.length := by omega
          rw [e1, List.drop_length] at h1
          have e2 : m + (l.length - m + 0) = l.length := by omega
          rw [e2, List.drop_left, gap_ten] at h2
          have e3 : gapN [] = 0 := by
            have := gapN_le _ [] (Nat.le_refl _)
            simpa using this
          rw [e3] at h1
          exact ⟨fun h => by omega, fun h => by omega⟩
    · have hb : spanN blankN l = l.length := by omega
      rw [span_app2 hb, span_cons1 (c := 10) rfl] at h2
      have h3 := gapN.eq_def r
      have hd : (l ++ 10 :: r).drop (l.length + (1 + spanN blankN r)) = r.drop (spanN blankN r) := by
        rw [← List.drop_drop, List.drop_left, Nat.add_comm, List.drop_succ_cons]
      have hd2 : ∀ k, (l ++ 10 :: r).drop (l.length + (1 + spanN blankN r) + k) = r.drop (spanN blankN r + k) := fun k => by
        rw [← List.drop_drop, hd, List.drop_drop]
      rw [hd, hd2] at h2
      have e : gapN (l ++ 10 :: r) = l.length + 1 + gapN r := by
        rw [h2, h3]
        split <;> omega
      refine ⟨fun h => ?_, fun _ => e⟩
      rw [h1, hb, List.drop_length] at h
      have : hasN remN [] = false := rfl
      rw [this] at h
      simp at h
theorem idxN_app {c : Nat} : ∀ {l r : List Nat} {i : Nat}, idxN c l = some i → idxN c (l ++ r) = some i
  | [], _, _, h => by cases h
  | x :: l, r, i, h => by
    rw [List.cons_append]
    rw [idxN] at h ⊢
    split at h
    · rename_i hc; rw [if_pos hc]; exact h
    · rename_i hc
      rw [if_neg hc]
      cases hq : idxN c l with
      | none => rw [hq] at h; cases h
      | some j => rw [hq] at h; rw [idxN_app hq]; exact h
theorem ext_same {x y : ByteArray} {r : List Nat} (h : tb y = tb x ++ 10 :: r) (a b : Nat) (hb : b ≤ (tb x).length) : y.extract a b = x.extract a b := by
  apply tb_inj
  rw [tb_ext, tb_ext, h, List.take_append_of_le_length hb]
theorem span_same {p : Nat → Bool} (hp : p 10 = false) (l r : List Nat) : spanN p (l ++ 10 :: r) = spanN p l := by
  by_cases h : spanN p l < l.length
  · exact span_app1 h
  · have := spanN_le p l
    have h : spanN p l = l.length := by omega
    rw [span_app2 h, span_cons0 hp]; omega
theorem next_app {x y : ByteArray} {r : List Nat} (h : tb y = tb x ++ 10 :: r) (h0 : 0 < (tb x).length) (hok : (nextT0 x).ok = true) : nextT0 y = nextT0 x := by
  have hhd : (tb y).getD 0 0 = (tb x).getD 0 0 := by
    rw [h]
    match tb x, h0 with
    | c :: t, _ => rfl
  have hw : wordT y = wordT x := by
    unfold wordT
    have hs : spanN innerN (tb y) = spanN innerN (tb x) := by rw [h]; exact span_same rfl _ _
    simp only [hs, hhd, ext_same h 0 _ (spanN_le innerN (tb x))]
  have hn : numberT y = numberT x := by
    unfold numberT
    have hs : spanN digitN (tb y) = spanN digitN (tb x) := by rw [h]; exact span_same rfl _ _
    simp only [hs, hhd, ext_same h 0 _ (spanN_le digitN (tb x))]
  have hp : (pathT x).ok = true → pathT y = pathT x := fun hok => by
    unfold pathT at hok ⊢
    cases hi : idxN 39 ((tb x).drop 1) with
    | none => rw [hi] at hok; cases hok
    | some i =>
      have hlt := (idxN_some hi).1
      simp only [List.length_drop] at hlt
      have hd : (tb y).drop 1 = (tb x).drop 1 ++ 10 :: r := by rw [h, List.drop_append_of_le_length h0]
      rw [hd, idxN_app hi]
      simp only [ext_same h 1 (i + 1) (by omega)]
  have hm : markT y = markT x := by
    unfold markT
    rw [hhd]
    by_cases h2 : 2 ≤ (tb x).length
    · have : (tb y).take 2 = (tb x).take 2 := by rw [h, List.take_append_of_le_length h2]
      rw [this, ext_same h 0 2 h2, ext_same h 0 1 (by omega)]
    · obtain ⟨c, hc⟩ : ∃ c, tb x = [c] := by
        match hx : tb x, h0, h2 with
        | [c], _, _ => exact ⟨c, rfl⟩
        | _ :: _ :: _, _, h2 => simp at h2
      have e1 : twoN.contains ((tb x).take 2) = false := by
        rw [hc, Bool.eq_false_iff]
        intro hh
        obtain ⟨i, hi, he⟩ := two_in.1 hh
        obtain ⟨_, _, _, hl⟩ := two_at i hi
        rw [← he] at hl; simp at hl
      have e2 : twoN.contains ((tb y).take 2) = false := by
        rw [h, hc, Bool.eq_false_iff]
        intro hh
        obtain ⟨i, hi, he⟩ := two_in.1 hh
        match i, hi with
        | 0, _ | 1, _ | 2, _ | 3, _ | 4, _ => simp [twoN] at he
      rw [e1, e2, ext_same h 0 1 (by omega)]
      cases oneN.contains ((tb x).getD 0 0) <;> rfl
  have hx := nextT0_cases x
  unfold nextT0 at hok hx ⊢
  simp only [hhd] at hok hx ⊢
  rw [hw, hn, hm]
  split at hok
  · rfl
  · rfl
  · rw [hp hok]
  · rfl
end Go.Vm
end

section
set_option linter.all false
set_option maxRecDepth 100000
set_option maxHeartbeats 4000000
namespace Go.Vm
open Go.Proofs
theorem byte_tb (s : ByteArray) (i : Nat) : (s.data.getD ((i : Nat) : Int).toNat 0).toNat = (tb s).getD i 0 := by rw [tb_getD, Int.toNat_natCast]
theorem byte_tb0 (s : ByteArray) : (s.data.getD (Int.toNat 0) 0).toNat = (tb s).getD 0 0 := by rw [tb_getD]; rfl
theorem c_in (n a b : Int) : cF 70 [.d (.int .u8 n), .d (.int .u8 a), .d (.int .u8 b)] = some (.val [.bool (inI a b n)]) := by
  refine cOf (by kernel_rfl) rfl ?_
  rw [g70_eq]
  simp only [g70, go1, Option.bind_some, eq_self, cond_true, cond_false, Nat.reduceAdd, Int.reduceEq, Int.reduceLT, Int.reduceLE, Int.reduceSub, Int.reduceAdd]
  rfl
theorem c_rWord (s : ByteArray) : cF 65 [.d (.str s)] = some (.val [.bool (wordN (tb s))]) := by
  have h65 : cF 102 [] = some (.own 9 1 (srows wordsL)) := by
    refine cOf (by kernel_rfl) rfl ?_
    rw [g102_eq]
    simp only [g102, go1, Option.bind_some, eq_self, cond_true, cond_false, Nat.reduceAdd, Int.reduceEq, Int.reduceLT, Int.reduceLE, Int.reduceSub, Int.reduceAdd]
    rfl
  rw [wordN_any]
  refine cOf (by kernel_rfl) rfl ?_
  rw [g65_eq]
  simp only [g65, go1, Option.bind_some, eq_self, cond_true, cond_false, Nat.reduceAdd, Int.reduceEq, Int.reduceLT, Int.reduceLE, Int.reduceSub, Int.reduceAdd, h65]
  refine loopF_at (fun i : Nat => [.str s, .sl 1 (srows wordsL), .int .i64 (i : Int)]) (fun i => i ≤ wordsL.length ∧ (wordsL.take i).any (fun w => decide (tb s = tb w)) = false) (fun i => wordsL.length - i) (fun i hi => ?_) 0 ⟨Nat.zero_le _, by simp⟩
  have hwl : wordsL.length = 24 := rfl
  by_cases hlt : i < wordsL.length
  · have hx := List.getElem?_eq_getElem hlt
    simp only [go1, Option.bind_some, eq_self, cond_true, cond_false, Nat.reduceAdd, Int.reduceEq, Int.reduceLT, Int.reduceLE, Int.reduceSub, Int.reduceAdd, srows_len, ilt_at hlt, inr_at hlt, srows_at hx, seq_tb, wrap_succ hlt (by omega)]
    by_cases he : tb wordsL[i] = tb s
    · right
      rw [decT he, List.any_eq_true.2 ⟨wordsL[i], List.getElem_mem hlt, decT he.symm⟩]
      rfl
    · left
      refine ⟨i + 1, ?_, ⟨hlt, ?_⟩, by omega⟩
      · rw [decF he]; rfl
      · rw [List.take_add_one, List.any_append, hi.2, hx]
        simp; exact fun e => he e.symm
  · right
    have : i = wordsL.length := by omega
    subst this
    simp only [go1, Option.bind_some, eq_self, cond_true, cond_false, Nat.reduceAdd, Int.reduceEq, Int.reduceLT, Int.reduceLE, Int.reduceSub, Int.reduceAdd, srows_len, ilt_self]
    rw [List.take_length] at hi
    rw [hi.2]
theorem c_rname (s : ByteArray) (hs : s.size ≤ 100000) : cF 101 [.d (.str s), .d (.int .u8 97), .d (.int .u8 122)] = some (.val [.bool (nameN smallN (tb s))]) := by
  have hl := tb_len s
  by_cases h1 : 1 ≤ (tb s).length ∧ (tb s).length ≤ 12
  · have hc := c_in (((tb s).getD 0 0 : Nat) : Int) 97 122
    rw [inI_small] at hc
    refine cOf (by kernel_rfl) rfl ?_
    rw [g101_eq]
    simp only [g101, go1, Option.bind_some, eq_self, cond_true, cond_false, Nat.reduceAdd, Int.reduceEq, Int.reduceLT, Int.reduceLE, Int.reduceSub, Int.reduceAdd, size_tb, byte_tb0, hc]
    rw [decF (p := ((tb s).length : Int) < 1) (by omega), decF (p := 12 < ((tb s).length : Int)) (by omega), decT (p := 0 < ((tb s).length : Int)) (by omega)]
    cases hs0 : smallN ((tb s).getD 0 0) with
    | false => rw [nameN_first hs0]; rfl
    | true =>
      simp only [go1, Option.bind_some, eq_self, cond_true, cond_false, Nat.reduceAdd, Int.reduceEq, Int.reduceLT, Int.reduceLE, Int.reduceSub, Int.reduceAdd]
      refine loopF_at (fun p : Nat => [.str s, .int .i64 (p : Int)]) (fun p => p ≤ (tb s).length ∧ ((tb s).take p).all innerN = true) (fun p => (tb s).length - p) (fun p hp => ?_) 0 ⟨Nat.zero_le _, by simp⟩
      by_cases hlt : p < (tb s).length
      · have hi := inner_def ((tb s).getD p 0)
        simp only [go1, Option.bind_some, eq_self, cond_true, cond_false, Nat.reduceAdd, Int.reduceEq, Int.reduceLT, Int.reduceLE, Int.reduceSub, Int.reduceAdd, size_tb, ilt_at hlt, inr_at hlt, byte_tb, c_in, inI_small, inI_great, inI_digit, wrap_succ hlt (by omega)]
        cases hin : innerN ((tb s).getD p 0) with
        | false =>
          right
          rw [nameN_bad hlt hin]
          rw [hin] at hi
          have hi := hi.symm
          simp only [Bool.or_eq_false_iff] at hi
          obtain ⟨⟨⟨i1, i2⟩, i3⟩, i4⟩ := hi
          have i4' : ¬ (((tb s).getD p 0 : Nat) : Int) = 95 := by
            have := of_decide_eq_false i4; omega
          rw [decF i4']
          simp only [i1, i2, i3, go1, Option.bind_some, eq_self, cond_true, cond_false, Nat.reduceAdd, Int.reduceEq, Int.reduceLT, Int.reduceLE, Int.reduceSub, Int.reduceAdd]
          try rfl
        | true =>
          left
          refine ⟨p + 1, ?_, ⟨hlt, all_snoc hlt hp.2 hin⟩, by omega⟩
          rw [hin] at hi
          cases i1 : smallN ((tb s).getD p 0) <;> cases i2 : greatN ((tb s).getD p 0) <;> cases i3 : digitN ((tb s).getD p 0) <;> rw [i1, i2, i3] at hi <;> simp only [go1, Option.bind_some, eq_self, cond_true, cond_false, Nat.reduceAdd, Int.reduceEq, Int.reduceLT, Int.reduceLE, Int.reduceSub, Int.reduceAdd] <;> (try rfl)
          all_goals
            simp only [Bool.or_self, Bool.false_or] at hi
            have i4 := of_decide_eq_true hi.symm
            rw [decT (p := (((tb s).getD p 0 : Nat) : Int) = 95) (by omega)]
            rfl
      · right
        have : p = (tb s).length := by omega
        subst this
        simp only [go1, Option.bind_some, eq_self, cond_true, cond_false, Nat.reduceAdd, Int.reduceEq, Int.reduceLT, Int.reduceLE, Int.reduceSub, Int.reduceAdd, size_tb, ilt_self]
        rw [List.take_length] at hp
        unfold nameN
        rw [hp.2, hs0, decT h1.1, decT h1.2]
        rfl
  · have hn : nameN smallN (tb s) = false := by
      unfold nameN
      by_cases h : 1 ≤ (tb s).length
      · rw [decF (p := (tb s).length ≤ 12) (by omega)]; simp
      · rw [decF h]; simp
    rw [hn]
    refine cOf (by kernel_rfl) rfl ?_
    rw [g101_eq]
    simp only [g101, go1, Option.bind_some, eq_self, cond_true, cond_false, Nat.reduceAdd, Int.reduceEq, Int.reduceLT, Int.reduceLE, Int.reduceSub, Int.reduceAdd, size_tb]
    by_cases h : 1 ≤ (tb s).length
    · rw [decT (p := 12 < ((tb s).length : Int)) (by omega)]; simp only [go1, Option.bind_some, eq_self, cond_true, cond_false, Nat.reduceAdd, Int.reduceEq, Int.reduceLT, Int.reduceLE, Int.reduceSub, Int.reduceAdd]; try rfl
    · rw [decT (p := ((tb s).length : Int) < 1) (by omega)]; simp only [go1, Option.bind_some, eq_self, cond_true, cond_false, Nat.reduceAdd, Int.reduceEq, Int.reduceLT, Int.reduceLE, Int.reduceSub, Int.reduceAdd]; try rfl
theorem c_rLow (s : ByteArray) (hs : s.size ≤ 100000) : cF 64 [.d (.str s)] = some (.val [.bool (lowN (tb s))]) := by
  have h1 := c_rname s hs
  have h2 := c_rWord s
  refine cOf (by kernel_rfl) rfl ?_
  rw [g64_eq]
  simp only [g64, go1, Option.bind_some, eq_self, cond_true, cond_false, Nat.reduceAdd, Int.reduceEq, Int.reduceLT, Int.reduceLE, Int.reduceSub, Int.reduceAdd, h1, h2]
  rfl
end Go.Vm
end

section
set_option linter.all false
set_option maxRecDepth 100000
set_option maxHeartbeats 4000000
namespace Go.Vm
open Go.Proofs
theorem drop_at {l : List Nat} {f i : Nat} (hf : f ≤ i) (hi : i < l.length) : l.drop f = (l.take i).drop f ++ l.getD i 0 :: l.drop (i + 1) := by
  have h1 : l = l.take i ++ l.getD i 0 :: l.drop (i + 1) := by
    rw [List.getD_eq_getElem?_getD, List.getElem?_eq_getElem hi]
    simp only [Option.getD_some]
    rw [List.getElem_cons_drop hi, List.take_append_drop]
  conv => lhs; rw [h1]
  rw [List.drop_append_of_le_length (by rw [List.length_take]; omega)]
theorem take_drop_snoc {l : List Nat} {f i : Nat} (hf : f ≤ i) (hi : i < l.length) : (l.take (i + 1)).drop f = (l.take i).drop f ++ [l.getD i 0] := by
  rw [List.take_add_one, List.getElem?_eq_getElem hi, List.getD_eq_getElem?_getD, List.getElem?_eq_getElem hi]
  simp only [Option.toList_some, Option.getD_some]
  rw [List.drop_append_of_le_length (by rw [List.length_take]; omega)]
theorem c_rcut (s : ByteArray) (c : Nat) (hs : s.size ≤ 100000) : ∃ l : List ByteArray, cF 69 [.d (.str s), .d (.int .u8 (c : Int))] = some (.own 9 1 (srows l)) ∧ l.map tb = splitN c (tb s) := by
  have hl := tb_len s
  suffices ∃ p, cF 69 [.d (.str s), .d (.int .u8 (c : Int))] = some p ∧ ∃ l : List ByteArray, p = .own 9 1 (srows l) ∧ l.map tb = splitN c (tb s) by
    obtain ⟨_, h, l, rfl, hl⟩ := this
    exact ⟨l, h, hl⟩
  refine cOfP (by kernel_rfl) rfl ?_
  rw [g69_eq]
  simp only [g69, go1, Option.bind_some, eq_self, cond_true, cond_false, Nat.reduceAdd, Int.reduceEq, Int.reduceLT, Int.reduceLE, Int.reduceSub, Int.reduceAdd]
  refine loopF_ex (fun x : List ByteArray × Nat × Nat => [.str s, .int .u8 (c : Int), .int .i64 (x.2.1 : Int), .int .i64 (x.2.2 : Int), .sl 1 (srows x.1)])
    (fun x => x.1.length ≤ x.2.2 ∧ ((x.2.2 ≤ (tb s).length ∧ x.2.1 ≤ x.2.2 ∧ splitN c (tb s) = x.1.map tb ++ splitN c ((tb s).drop x.2.1) ∧ ∀ y ∈ ((tb s).take x.2.2).drop x.2.1, y ≠ c) ∨ (x.2.2 = (tb s).length + 1 ∧ x.1.map tb = splitN c (tb s)))) (fun x => (tb s).length + 1 - x.2.2) (fun x hx => ?_) ([], 0, 0) ⟨Nat.le_refl _, .inl ⟨Nat.zero_le _, Nat.le_refl _, rfl, by simp⟩⟩
  obtain ⟨done, f, i⟩ := x
  obtain ⟨hd, hx⟩ := hx
  simp only at hd hx
  rcases hx with ⟨hi, hf, h1, h2⟩ | ⟨hi, h1⟩
  · have hw : IntKind.i64.wrap ((i : Int) + 1) = ((i + 1 : Nat) : Int) := by rw [wrap_id (by omega) (by omega)]; rfl
    have hfit : decide ((done.length + 1) * (16 + 1) ≤ 140737488355328) = true := decT (by omega)
    by_cases hlt : i < (tb s).length
    · simp only [go1, Option.bind_some, eq_self, cond_true, cond_false, Nat.reduceAdd, Int.reduceEq, Int.reduceLT, Int.reduceLE, Int.reduceSub, Int.reduceAdd, size_tb, byte_tb, srows_len, hw]
      rw [decT (p := (i : Int) ≤ ((tb s).length : Int)) (by omega), decF (p := (i : Int) = ((tb s).length : Int)) (by omega), decT (p := 0 ≤ (i : Int) ∧ (i : Int) < ((tb s).length : Int)) (by omega)]
      by_cases hc : (tb s).getD i 0 = c
      · left
        refine ⟨(done ++ [s.extract (f : Int).toNat (i : Int).toNat], i + 1, i + 1), ?_, ⟨?_, .inl ⟨hlt, Nat.le_refl _, ?_, ?_⟩⟩, (by show (tb s).length + 1 - (i + 1) < (tb s).length + 1 - i; omega)⟩
        · rw [decT (p := (((tb s).getD i 0 : Nat) : Int) = (c : Int)) (by omega), decT (p := 0 ≤ (f : Int) ∧ (f : Int) ≤ (i : Int) ∧ (i : Int) ≤ ((tb s).length : Int)) (by omega)]
          simp only [go1, Option.bind_some, eq_self, cond_true, cond_false, Nat.reduceAdd, Int.reduceEq, Int.reduceLT, Int.reduceLE, Int.reduceSub, Int.reduceAdd, List.length_singleton, hfit, srows, List.map_append, List.map_cons, List.map_nil, srow]
        · simp; omega
        · simp only
          rw [h1, drop_at hf hlt, hc, splitN_mark c _ _ h2, List.map_append, List.map_cons, List.map_nil, tb_scut, Int.toNat_natCast, Int.toNat_natCast]
          simp
        · intro y hy
          simp only at hy
          rw [List.drop_of_length_le (by rw [List.length_take]; omega)] at hy
          simp at hy
      · left
        refine ⟨(done, f, i + 1), ?_, ⟨(by show done.length ≤ i + 1; omega), .inl ⟨hlt, (by show f ≤ i + 1; omega), h1, ?_⟩⟩, (by show (tb s).length + 1 - (i + 1) < (tb s).length + 1 - i; omega)⟩
        · rw [decF (p := (((tb s).getD i 0 : Nat) : Int) = (c : Int)) (by omega)]
          simp only [go1, Option.bind_some, eq_self, cond_true, cond_false, Nat.reduceAdd, Int.reduceEq, Int.reduceLT, Int.reduceLE, Int.reduceSub, Int.reduceAdd]; try rfl
        · intro y hy
          simp only at hy
          rw [take_drop_snoc hf hlt] at hy
          rcases List.mem_append.1 hy with hy | hy
          · exact h2 y hy
          · simp at hy; rw [hy]; simpa using hc
    · have hie : i = (tb s).length := by omega
      left
      refine ⟨(done ++ [s.extract (f : Int).toNat (i : Int).toNat], i + 1, i + 1), ?_, ⟨(by simp; omega), .inr ⟨(by show i + 1 = (tb s).length + 1; omega), ?_⟩⟩, (by show (tb s).length + 1 - (i + 1) < (tb s).length + 1 - i; omega)⟩
      · simp only [go1, Option.bind_some, eq_self, cond_true, cond_false, Nat.reduceAdd, Int.reduceEq, Int.reduceLT, Int.reduceLE, Int.reduceSub, Int.reduceAdd, size_tb, srows_len, hw]
        rw [decT (p := (i : Int) ≤ ((tb s).length : Int)) (by omega), decT (p := (i : Int) = ((tb s).length : Int)) (by omega), decT (p := 0 ≤ (f : Int) ∧ (f : Int) ≤ (i : Int) ∧ (i : Int) ≤ ((tb s).length : Int)) (by omega)]
        simp only [go1, Option.bind_some, eq_self, cond_true, cond_false, Nat.reduceAdd, Int.reduceEq, Int.reduceLT, Int.reduceLE, Int.reduceSub, Int.reduceAdd, List.length_singleton, hfit, srows, List.map_append, List.map_cons, List.map_nil, srow]
      · simp only
        rw [hie, List.take_length] at h2
        rw [h1, splitN_none c _ h2, List.map_append, List.map_cons, List.map_nil, tb_scut, Int.toNat_natCast, Int.toNat_natCast, hie, List.take_length]
  · right
    simp only [go1, Option.bind_some, eq_self, cond_true, cond_false, Nat.reduceAdd, Int.reduceEq, Int.reduceLT, Int.reduceLE, Int.reduceSub, Int.reduceAdd, size_tb]
    rw [decF (p := (i : Int) ≤ ((tb s).length : Int)) (by omega)]
    exact ⟨_, rfl, done, rfl, h1⟩
theorem num_split (l : List Nat) : numN l = (!(decide (l.length < 1) || decide (3 < l.length) || decide (l.getD 0 0 = 48)) && l.all digitN) := by
  unfold numN
  by_cases h1 : 1 ≤ l.length
  · by_cases h3 : l.length ≤ 3
    · rw [decT h1, decT h3, decF (p := l.length < 1) (by omega), decF (p := 3 < l.length) (by omega)]; simp
    · rw [decT h1, decF h3, decF (p := l.length < 1) (by omega), decT (p := 3 < l.length) (by omega)]; simp
  · rw [decF h1, decT (p := l.length < 1) (by omega)]; simp
theorem c_rPath (s : ByteArray) (hs : s.size ≤ 100000) : cF 31 [.d (.str s)] = some (.val [.bool (pathN (tb s))]) := by
  obtain ⟨l, h, hl⟩ := c_rcut s 47 hs
  have hsz := mem_size hl
  have hll : l.length ≤ 100001 := by
    have := congrArg List.length hl
    rw [List.length_map, splitN_len] at this
    have h2 : (tb s).count 47 ≤ (tb s).length := List.count_le_length
    rw [tb_len] at h2
    omega
  unfold pathN
  rw [← hl, List.all_map]
  have h : cF 69 [.d (.str s), .d (.int .u8 47)] = _ := h
  refine cOf (by kernel_rfl) rfl ?_
  rw [g31_eq]
  simp only [g31, go1, Option.bind_some, eq_self, cond_true, cond_false, Nat.reduceAdd, Int.reduceEq, Int.reduceLT, Int.reduceLE, Int.reduceSub, Int.reduceAdd, h]
  refine loopF_at (fun i : Nat => [.sl 1 (srows l), .int .i64 (i : Int)]) (fun i => i ≤ l.length ∧ (l.take i).all (partN ∘ tb) = true) (fun i => l.length - i) (fun i hi => ?_) 0 ⟨Nat.zero_le _, by simp⟩
  by_cases hlt : i < l.length
  · have hx := List.getElem?_eq_getElem hlt
    have hgd : l.getD i ByteArray.empty = l[i] := by rw [List.getD_eq_getElem?_getD, hx]; rfl
    have hxs := Nat.le_trans (hsz _ (List.getElem_mem hlt)) hs
    generalize hxe : l[i] = x at hx hgd hxs
    obtain ⟨ps, hp, hps⟩ := c_rcut x 46 hxs
    have hp : cF 69 [.d (.str x), .d (.int .u8 46)] = _ := hp
    have hbad : partN (tb x) = false → l.all (partN ∘ tb) = false := fun hb => all_false (d := ByteArray.empty) hlt (by rw [hgd]; exact hb)
    have hgood : partN (tb x) = true → (i + 1 ≤ l.length ∧ (l.take (i + 1)).all (partN ∘ tb) = true) := fun hb => ⟨hlt, all_snoc (d := ByteArray.empty) hlt hi.2 (by rw [hgd]; exact hb)⟩
    have hpe : partN (tb x) = match ps.map tb with
      | [a] => lowN a
      | [a, b] => lowN a && numN b
      | _ => false := by rw [hps]; rfl
    have hpl := splitN_len 46 (tb x)
    rw [← hps, List.length_map] at hpl
    have hsub : ∀ y ∈ ps, y.size ≤ 100000 := by
      have key : ∀ (t : List Nat), ∀ p ∈ splitN 46 t, p.length ≤ t.length := by
        intro t
        induction t with
        | nil => intro p hp; simp [splitN] at hp; simp [hp]
        | cons x xs ih =>
          intro p hp
          unfold splitN at hp
          split at hp
          · rcases List.mem_cons.1 hp with rfl | hp
            · simp
            · have := ih p hp; simp; omega
          · split at hp
            · simp at hp; simp [hp]
            · rename_i q qs hq
              rcases List.mem_cons.1 hp with rfl | hp
              · have := ih q (by rw [hq]; exact List.mem_cons_self); simp; omega
              · have := ih p (by rw [hq]; exact List.mem_cons_of_mem _ hp); simp; omega
      intro y hy
      have := key (tb x) (tb y) (by rw [← hps]; exact List.mem_map_of_mem hy)
      rw [tb_len, tb_len] at this
      omega
    simp only [go1, Option.bind_some, eq_self, cond_true, cond_false, Nat.reduceAdd, Int.reduceEq, Int.reduceLT, Int.reduceLE, Int.reduceSub, Int.reduceAdd, srows_len, ilt_at hlt, inr_at hlt, srows_at hx, hp]
    match ps, hpe, hpl, hsub with
    | [], _, hpl, _ => simp at hpl
    | [a], hpe, _, hsub =>
      have ha := c_rLow a (hsub a List.mem_cons_self)
      simp only [List.map_cons, List.map_nil] at hpe
      simp only [List.length_singleton, srows, List.map_cons, List.map_nil, srow, sy_row, go1, Option.bind_some, eq_self, cond_true, cond_false, Nat.reduceAdd, Int.reduceEq, Int.reduceLT, Int.reduceLE, Int.reduceSub, Int.reduceAdd, List.getD_cons_zero, Int.toNat_zero, ha, hpe.symm]
      cases hb : partN (tb x) with
      | false =>
        right
        rw [hbad hb]; rfl
      | true =>
        left
        refine ⟨i + 1, ?_, hgood hb, by omega⟩
        rw [wrap_succ hlt (by omega)]; rfl
    | [a, b], hpe, _, hsub =>
      have ha := c_rLow a (hsub a List.mem_cons_self)
      have hbl := tb_len b
      have hbs := hsub b (by simp)
      simp only [List.map_cons, List.map_nil] at hpe
      rw [num_split] at hpe
      have hr1 : sy.row (srows [a, b]) 1 = [.str b] := rfl
      have hr0 : sy.row (srows [a, b]) 0 = [.str a] := rfl
      simp only [List.length_cons, List.length_nil, hr0, hr1, go1, Option.bind_some, eq_self, cond_true, cond_false, Nat.reduceAdd, Int.reduceEq, Int.reduceLT, Int.reduceLE, Int.reduceSub, Int.reduceAdd, ha, size_tb, byte_tb0]
      cases hla : lowN (tb a) with
      | false =>
        right
        rw [hla, Bool.false_and] at hpe
        rw [hbad hpe]; rfl
      | true =>
        rw [hla, Bool.true_and] at hpe
        have e1 : decide (((tb b).length : Int) < 1) = decide ((tb b).length < 1) := by rw [Bool.eq_iff_iff]; simp only [decide_eq_true_eq]; omega
        have e3 : decide (3 < ((tb b).length : Int)) = decide (3 < (tb b).length) := by rw [Bool.eq_iff_iff]; simp only [decide_eq_true_eq]; omega
        have e4 : decide ((((tb b).getD 0 0 : Nat) : Int) = 48) = decide ((tb b).getD 0 0 = 48) := by rw [Bool.eq_iff_iff]; simp only [decide_eq_true_eq]; omega
        simp only [go1, Option.bind_some, eq_self, cond_true, cond_false, Nat.reduceAdd, Int.reduceEq, Int.reduceLT, Int.reduceLE, Int.reduceSub, Int.reduceAdd, e1, e3, e4]
        by_cases q1 : (tb b).length < 1
        · right
          rw [decT q1] at hpe ⊢
          rw [hbad (by rw [hpe]; simp)]; rfl
        by_cases q3 : 3 < (tb b).length
        · right
          rw [decF q1, decT q3] at hpe ⊢
          rw [hbad (by rw [hpe]; simp)]; rfl
        rw [decF q1, decF q3] at hpe ⊢
        rw [decT (p := 0 < ((tb b).length : Int)) (by omega)]
        by_cases q4 : (tb b).getD 0 0 = 48
        · right
          rw [decT q4] at hpe ⊢
          rw [hbad (by rw [hpe]; simp)]; rfl
        rw [decF q4] at hpe ⊢
        simp only [go1, Option.bind_some, eq_self, cond_true, cond_false, Nat.reduceAdd, Int.reduceEq, Int.reduceLT, Int.reduceLE, Int.reduceSub, Int.reduceAdd] at hpe ⊢
        cases had : (tb b).all digitN with
        | true =>
          left
          rw [had] at hpe
          refine ⟨i + 1, ?_, hgood hpe, by omega⟩
          refine loopF_at (r := Sum.inl [D.sl 1 (srows l), D.int .i64 ((i + 1 : Nat) : Int)]) (fun k : Nat => [.sl 1 (srows l), .int .i64 (i : Int), .str b, .int .i64 (k : Int)]) (fun k => k ≤ (tb b).length) (fun k => (tb b).length - k) (fun k hk => ?_) 0 (Nat.zero_le _)
          by_cases hkl : k < (tb b).length
          · left
            refine ⟨k + 1, ?_, hkl, by omega⟩
            have hdg : digitN ((tb b).getD k 0) = true := by
              rw [List.getD_eq_getElem?_getD, List.getElem?_eq_getElem hkl]
              exact List.all_eq_true.1 had _ (List.getElem_mem hkl)
            simp only [go1, Option.bind_some, eq_self, cond_true, cond_false, Nat.reduceAdd, Int.reduceEq, Int.reduceLT, Int.reduceLE, Int.reduceSub, Int.reduceAdd, size_tb, ilt_at hkl, inr_at hkl, byte_tb, c_in, inI_digit, hdg, wrap_succ hkl (by omega)]
            try rfl
          · right
            have : k = (tb b).length := by omega
            subst this
            simp only [go1, Option.bind_some, eq_self, cond_true, cond_false, Nat.reduceAdd, Int.reduceEq, Int.reduceLT, Int.reduceLE, Int.reduceSub, Int.reduceAdd, size_tb, ilt_self, wrap_succ hlt (by omega)]
            try rfl
        | false =>
          right
          rw [had] at hpe
          rw [hbad hpe]
          refine loopF_at (r := Sum.inr (PRes.val [D.bool false])) (fun k : Nat => [.sl 1 (srows l), .int .i64 (i : Int), .str b, .int .i64 (k : Int)]) (fun k => k ≤ (tb b).length ∧ ((tb b).take k).all digitN = true) (fun k => (tb b).length - k) (fun k hk => ?_) 0 ⟨Nat.zero_le _, by simp⟩
          by_cases hkl : k < (tb b).length
          · cases hdg : digitN ((tb b).getD k 0) with
            | true =>
              left
              refine ⟨k + 1, ?_, ⟨hkl, all_snoc hkl hk.2 hdg⟩, by omega⟩
              simp only [go1, Option.bind_some, eq_self, cond_true, cond_false, Nat.reduceAdd, Int.reduceEq, Int.reduceLT, Int.reduceLE, Int.reduceSub, Int.reduceAdd, size_tb, ilt_at hkl, inr_at hkl, byte_tb, c_in, inI_digit, hdg, wrap_succ hkl (by omega)]
              try rfl
            | false =>
              right
              simp only [go1, Option.bind_some, eq_self, cond_true, cond_false, Nat.reduceAdd, Int.reduceEq, Int.reduceLT, Int.reduceLE, Int.reduceSub, Int.reduceAdd, size_tb, ilt_at hkl, inr_at hkl, byte_tb, c_in, inI_digit, hdg]
              try rfl
          · exfalso
            have : k = (tb b).length := by omega
            rw [this, List.take_length, had] at hk
            exact absurd hk.2 (by simp)
    | _ :: _ :: _ :: r, hpe, _, _ =>
      right
      have : partN (tb x) = false := hpe
      rw [hbad this]
      rw [decT (p := 2 < (((_ :: _ :: _ :: r : List ByteArray).length : Nat) : Int)) (by simp; omega)]
      rfl
  · right
    have : i = l.length := by omega
    subst this
    simp only [go1, Option.bind_some, eq_self, cond_true, cond_false, Nat.reduceAdd, Int.reduceEq, Int.reduceLT, Int.reduceLE, Int.reduceSub, Int.reduceAdd, srows_len, ilt_self]
    rw [List.take_length] at hi
    rw [hi.2]
theorem c_rnameG (s : ByteArray) (hs : s.size ≤ 100000) : cF 101 [.d (.str s), .d (.int .u8 65), .d (.int .u8 90)] = some (.val [.bool (nameN greatN (tb s))]) := by
  have hl := tb_len s
  by_cases h1 : 1 ≤ (tb s).length ∧ (tb s).length ≤ 12
  · have hc := c_in (((tb s).getD 0 0 : Nat) : Int) 65 90
    rw [inI_great] at hc
    refine cOf (by kernel_rfl) rfl ?_
    rw [g101_eq]
    simp only [g101, go1, Option.bind_some, eq_self, cond_true, cond_false, Nat.reduceAdd, Int.reduceEq, Int.reduceLT, Int.reduceLE, Int.reduceSub, Int.reduceAdd, size_tb, byte_tb0, hc]
    rw [decF (p := ((tb s).length : Int) < 1) (by omega), decF (p := 12 < ((tb s).length : Int)) (by omega), decT (p := 0 < ((tb s).length : Int)) (by omega)]
    cases hs0 : greatN ((tb s).getD 0 0) with
    | false => rw [nameN_first hs0]; rfl
    | true =>
      simp only [go1, Option.bind_some, eq_self, cond_true, cond_false, Nat.reduceAdd, Int.reduceEq, Int.reduceLT, Int.reduceLE, Int.reduceSub, Int.reduceAdd]
      refine loopF_at (fun p : Nat => [.str s, .int .i64 (p : Int)]) (fun p => p ≤ (tb s).length ∧ ((tb s).take p).all innerN = true) (fun p => (tb s).length - p) (fun p hp => ?_) 0 ⟨Nat.zero_le _, by simp⟩
      by_cases hlt : p < (tb s).length
      · have hi := inner_def ((tb s).getD p 0)
        simp only [go1, Option.bind_some, eq_self, cond_true, cond_false, Nat.reduceAdd, Int.reduceEq, Int.reduceLT, Int.reduceLE, Int.reduceSub, Int.reduceAdd, size_tb, ilt_at hlt, inr_at hlt, byte_tb, c_in, inI_small, inI_great, inI_digit, wrap_succ hlt (by omega)]
        cases hin : innerN ((tb s).getD p 0) with
        | false =>
          right
          rw [nameN_bad hlt hin]
          rw [hin] at hi
          have hi := hi.symm
          simp only [Bool.or_eq_false_iff] at hi
          obtain ⟨⟨⟨i1, i2⟩, i3⟩, i4⟩ := hi
          have i4' : ¬ (((tb s).getD p 0 : Nat) : Int) = 95 := by
            have := of_decide_eq_false i4; omega
          rw [decF i4']
          simp only [i1, i2, i3, go1, Option.bind_some, eq_self, cond_true, cond_false, Nat.reduceAdd, Int.reduceEq, Int.reduceLT, Int.reduceLE, Int.reduceSub, Int.reduceAdd]
          try rfl
        | true =>
          left
          refine ⟨p + 1, ?_, ⟨hlt, all_snoc hlt hp.2 hin⟩, by omega⟩
          rw [hin] at hi
          cases i1 : smallN ((tb s).getD p 0) <;> cases i2 : greatN ((tb s).getD p 0) <;> cases i3 : digitN ((tb s).getD p 0) <;> rw [i1, i2, i3] at hi <;> simp only [go1, Option.bind_some, eq_self, cond_true, cond_false, Nat.reduceAdd, Int.reduceEq, Int.reduceLT, Int.reduceLE, Int.reduceSub, Int.reduceAdd] <;> (try rfl)
          all_goals
            simp only [Bool.or_self, Bool.false_or] at hi
            have i4 := of_decide_eq_true hi.symm
            rw [decT (p := (((tb s).getD p 0 : Nat) : Int) = 95) (by omega)]
            rfl
      · right
        have : p = (tb s).length := by omega
        subst this
        simp only [go1, Option.bind_some, eq_self, cond_true, cond_false, Nat.reduceAdd, Int.reduceEq, Int.reduceLT, Int.reduceLE, Int.reduceSub, Int.reduceAdd, size_tb, ilt_self]
        rw [List.take_length] at hp
        unfold nameN
        rw [hp.2, hs0, decT h1.1, decT h1.2]
        rfl
  · have hn : nameN greatN (tb s) = false := by
      unfold nameN
      by_cases h : 1 ≤ (tb s).length
      · rw [decF (p := (tb s).length ≤ 12) (by omega)]; simp
      · rw [decF h]; simp
    rw [hn]
    refine cOf (by kernel_rfl) rfl ?_
    rw [g101_eq]
    simp only [g101, go1, Option.bind_some, eq_self, cond_true, cond_false, Nat.reduceAdd, Int.reduceEq, Int.reduceLT, Int.reduceLE, Int.reduceSub, Int.reduceAdd, size_tb]
    by_cases h : 1 ≤ (tb s).length
    · rw [decT (p := 12 < ((tb s).length : Int)) (by omega)]; simp only [go1, Option.bind_some, eq_self, cond_true, cond_false, Nat.reduceAdd, Int.reduceEq, Int.reduceLT, Int.reduceLE, Int.reduceSub, Int.reduceAdd]; try rfl
    · rw [decT (p := ((tb s).length : Int) < 1) (by omega)]; simp only [go1, Option.bind_some, eq_self, cond_true, cond_false, Nat.reduceAdd, Int.reduceEq, Int.reduceLT, Int.reduceLE, Int.reduceSub, Int.reduceAdd]; try rfl
theorem c_rHigh (s : ByteArray) (hs : s.size ≤ 100000) : cF 63 [.d (.str s)] = some (.val [.bool (highN (tb s))]) := by
  have := c_rnameG s hs
  refine cOf (by kernel_rfl) rfl ?_
  rw [g63_eq]
  simp only [g63, go1, Option.bind_some, eq_self, cond_true, cond_false, Nat.reduceAdd, Int.reduceEq, Int.reduceLT, Int.reduceLE, Int.reduceSub, Int.reduceAdd, this]
  rfl
end Go.Vm
end

section
set_option linter.all false
set_option maxRecDepth 100000
set_option maxHeartbeats 4000000
namespace Go.Vm
open Go.Proofs
/-! ### blanks, one by one -/
theorem gap_blank {c : Nat} (r : List Nat) (hc : blankN c = true) : gapN (c :: r) = 1 + gapN r := by
  have h1 := gapN.eq_def (c :: r)
  have h2 := gapN.eq_def r
  have hs : spanN blankN (c :: r) = 1 + spanN blankN r := span_cons1 hc
  rw [hs] at h1
  have hd : (c :: r).drop (1 + spanN blankN r) = r.drop (spanN blankN r) := by rw [Nat.add_comm, List.drop_succ_cons]
  have hd2 : ∀ k, (c :: r).drop (1 + spanN blankN r + k) = r.drop (spanN blankN r + k) := fun k => by
    rw [show 1 + spanN blankN r + k = (spanN blankN r + k) + 1 by omega, List.drop_succ_cons]
  rw [hd, hd2] at h1
  rw [h1, h2]
  split <;> omega
theorem span0 {p : Nat → Bool} {l : List Nat} (h : p (l.getD 0 0) = false) : spanN p l = 0 := by
  match l, h with
  | [], _ => rfl
  | c :: r, h => exact span_cons0 h
theorem gap_stop {l : List Nat} (hc : blankN (l.getD 0 0) = false) (hr : hasN remN l = false) : gapN l = 0 := by
  have h1 := gapN.eq_def l
  rw [span0 hc, List.drop_zero, hr] at h1
  simpa using h1
theorem gap_rem {l : List Nat} (hr : hasN remN l = true) : gapN l = spanN nlineN l + gapN (l.drop (spanN nlineN l)) := by
  have h1 := gapN.eq_def l
  have hc : blankN (l.getD 0 0) = false := by
    have := of_decide_eq_true hr
    match l, this with
    | a :: b :: r, h => simp [remN] at h; obtain ⟨rfl, rfl⟩ := h; rfl
    | [a], h => simp [remN] at h
    | [], h => simp [remN] at h
  rw [span0 hc, List.drop_zero, hr] at h1
  simpa using h1
theorem rem_iff (l : List Nat) : hasN remN l = (decide (l.getD 0 0 = 45) && (decide (1 < l.length) && decide (l.getD 1 0 = 45))) := by
  match l with
  | [] => rfl
  | [a] => simp [hasN, remN]
  | a :: b :: r => simp [hasN, remN]
/-! ### numbers -/
def valN : Nat → List Nat → Nat
  | n, [] => n
  | n, c :: r => valN (n * 10 + (c - 48)) r
theorem valN_ge : ∀ (l : List Nat) (n : Nat), n ≤ valN n l
  | [], n => Nat.le_refl _
  | c :: r, n => by
    have := valN_ge r (n * 10 + (c - 48))
    show n ≤ valN (n * 10 + (c - 48)) r
    omega
theorem parseM : ∀ (l : List UInt8) (acc : Nat), (l.map UInt8.toNat).all digitN = true → acc ≤ 18446744073709551615 →
    Lib.parseUintM 18446744073709551615 acc l = if valN acc (l.map UInt8.toNat) ≤ 18446744073709551615 then .ok (valN acc (l.map UInt8.toNat)) else .range
  | [], acc, _, h => by
    rw [Lib.parseUintM, List.map_nil]
    show _ = if acc ≤ _ then _ else _
    rw [if_pos h]; rfl
  | c :: r, acc, hd, h => by
    rw [List.map_cons, List.all_cons, Bool.and_eq_true] at hd
    obtain ⟨h1, h2⟩ := hd
    have hc : 48 ≤ c.toNat ∧ c.toNat ≤ 57 := by
      unfold digitN at h1
      simpa using h1
    rw [Lib.parseUintM, if_pos hc, List.map_cons]
    show _ = if valN (acc * 10 + (c.toNat - 48)) (r.map UInt8.toNat) ≤ _ then Lib.NumEnd.ok (valN (acc * 10 + (c.toNat - 48)) (r.map UInt8.toNat)) else _
    have hg := valN_ge (r.map UInt8.toNat) (acc * 10 + (c.toNat - 48))
    by_cases h3 : 1844674407370955162 ≤ acc
    · rw [if_pos h3, if_neg (by omega)]
    · rw [if_neg h3]
      by_cases h4 : 18446744073709551615 < acc * 10 + (c.toNat - 48)
      · rw [if_pos h4, if_neg (by omega)]
      · rw [if_neg h4]
        exact parseM r _ h2 (by omega)
theorem parse_digits (s : ByteArray) (hd : (tb s).all digitN = true) (hne : 0 < (tb s).length) :
    pokB s = decide (valN 0 (tb s) < 9223372036854775808) ∧ (valN 0 (tb s) < 9223372036854775808 → pnumI s = (valN 0 (tb s) : Int)) := by
  unfold pokB pnumI
  unfold tb at hd hne ⊢
  generalize s.data.toList = l at hd hne ⊢
  match l, hne with
  | c :: r, _ =>
    have hp := parseM (c :: r) 0 hd (by omega)
    rw [List.map_cons, List.all_cons, Bool.and_eq_true] at hd
    have hc : 48 ≤ c.toNat ∧ c.toNat ≤ 57 := by
      have := hd.1
      unfold digitN at this
      simpa using this
    have e1 : ¬ (c.toNat = 43 ∨ c.toNat = 45) := by omega
    have e2 : ¬ c.toNat = 45 := by omega
    generalize valN 0 ((c :: r).map UInt8.toNat) = v at hp ⊢
    have hp2 : Lib.parseUintB 64 (c :: r) = if v ≤ 18446744073709551615 then .ok v else .range := by
      unfold Lib.parseUintB
      rw [if_neg (by simp)]
      exact hp
    unfold Lib.parseIntB
    simp only [if_neg e1, hp2]
    by_cases hv : v ≤ 18446744073709551615
    · rw [if_pos hv]
      simp only [e2, not_false_eq_true, true_and, if_false, false_and]
      by_cases hv2 : 9223372036854775808 ≤ v
      · have : (2 : Nat) ^ (64 - 1) ≤ v := hv2
        simp only [this, if_true]
        exact ⟨by rw [decF (by omega)], fun h => by omega⟩
      · have : ¬ (2 : Nat) ^ (64 - 1) ≤ v := hv2
        simp only [this, if_false]
        exact ⟨by rw [decT (by omega)], fun _ => trivial⟩
    · rw [if_neg hv]
      exact ⟨by rw [decF (by omega)], fun h => by omega⟩
end Go.Vm
end

section
set_option linter.all false
set_option maxRecDepth 100000
set_option maxHeartbeats 4000000
namespace Go.Vm
open Go.Proofs
/-! ### the reference: blanks -/
theorem sb_at (s : ByteArray) (n : Nat) : sy.sbyte s (n : Int) = (((tb s).getD n 0 : Nat) : Int) := sbyte_tb s n
theorem getD_drop0 (l : List Nat) (n : Nat) : (l.drop n).getD 0 0 = l.getD n 0 := by
  rw [List.getD_eq_getElem?_getD, List.getElem?_drop, Nat.add_zero, List.getD_eq_getElem?_getD]
theorem getD_drop1 (l : List Nat) (n : Nat) : (l.drop n).getD 1 0 = l.getD (n + 1) 0 := by
  rw [List.getD_eq_getElem?_getD, List.getElem?_drop, List.getD_eq_getElem?_getD]
theorem drop_cons {l : List Nat} {n : Nat} (h : n < l.length) : l.drop n = l.getD n 0 :: l.drop (n + 1) := by
  rw [List.drop_eq_getElem_cons h, List.getD_eq_getElem?_getD, List.getElem?_eq_getElem h]; rfl
theorem c_inner (s : ByteArray) (hs : s.size ≤ 100000) (a : Nat) (ha : a ≤ (tb s).length) : loopF (α := List D ⊕ PRes) (fun ds14 =>
      (opS (sy.cell ds14 0)).bind fun s15 =>
        (opI (sy.cell ds14 1) IntKind.i64).bind fun n16 =>
          cutO
            (bif decide (n16 < ((tb s15).length : Int)) then
              bif decide (0 ≤ n16 ∧ n16 < ((tb s15).length : Int)) then
                some (Sum.inl [D.bool !decide (((s15.data.getD n16.toNat 0).toNat : Int) = 10)])
              else none
            else some (Sum.inl [D.bool false]))
            fun ds17 =>
            (opB (sy.cell ds17 0)).bind fun b18 =>
              bif b18 then some (Sum.inl [D.str s15, D.int IntKind.i64 (IntKind.i64.wrap (n16 + 1))])
              else some (Sum.inr (Sum.inl [D.str s15, D.int IntKind.i64 n16])))
    [D.str s, D.int IntKind.i64 (a : Int)] = some (.inl [D.str s, D.int IntKind.i64 ((a + spanN nlineN ((tb s).drop a) : Nat) : Int)]) := by
  have hlen : (tb s).length ≤ 100000 := by rw [tb_len]; exact hs
  refine loopF_at (fun n : Nat => [.str s, .int .i64 (n : Int)]) (fun n => n ≤ (tb s).length ∧ n + spanN nlineN ((tb s).drop n) = a + spanN nlineN ((tb s).drop a)) (fun n => (tb s).length - n) (fun n hn => ?_) a ⟨ha, rfl⟩
  obtain ⟨hle, hg⟩ := hn
  by_cases hlt : n < (tb s).length
  · have hq : ((s.data.getD (n : Int).toNat 0).toNat : Int) = (((tb s).getD n 0 : Nat) : Int) := by rw [Int.toNat_natCast, tb_getD]
    have hd := drop_cons hlt
    simp only [go1, Option.bind_some, eq_self, cond_true, cond_false, Nat.reduceAdd, Int.reduceEq, Int.reduceLT, Int.reduceLE, Int.reduceSub, Int.reduceAdd]
    simp (disch := omega) only [wrap_id, decT, decF, go1, Option.bind_some, eq_self, cond_true, cond_false, Nat.reduceAdd, Int.reduceEq, Int.reduceLT, Int.reduceLE, Int.reduceSub, Int.reduceAdd, hq]
    rw [dec_iff (show (((tb s).getD n 0 : Nat) : Int) = 10 ↔ (tb s).getD n 0 = 10 by omega)]
    cases h10 : decide ((tb s).getD n 0 = 10) with
    | false =>
      left
      have : nlineN ((tb s).getD n 0) = true := by unfold nlineN; rw [h10]; rfl
      rw [hd, span_cons1 this] at hg
      exact ⟨n + 1, by rw [Int.natCast_add]; rfl, ⟨hlt, by omega⟩, by omega⟩
    | true =>
      right
      have : nlineN ((tb s).getD n 0) = false := by unfold nlineN; rw [h10]; rfl
      rw [hd, span_cons0 this] at hg
      rw [← hg]; rfl
  · right
    have : n = (tb s).length := by omega
    subst this
    rw [List.drop_length] at hg
    rw [← hg]
    simp only [go1, Option.bind_some, eq_self, cond_true, cond_false, Nat.reduceAdd, Int.reduceEq, Int.reduceLT, Int.reduceLE, Int.reduceSub, Int.reduceAdd]
    simp (disch := omega) only [wrap_id, decT, decF, go1, Option.bind_some, eq_self, cond_true, cond_false, Nat.reduceAdd, Int.reduceEq, Int.reduceLT, Int.reduceLE, Int.reduceSub, Int.reduceAdd]
    rfl
theorem c_rskip (s : ByteArray) (hs : s.size ≤ 100000) (a : Nat) (ha : a ≤ (tb s).length) : cF 28 [.d (.str s), .d (.int .i64 (a : Int))] = some (.val [.int .i64 ((a + gapN ((tb s).drop a) : Nat) : Int)]) := by
  have hlen : (tb s).length ≤ 100000 := by rw [tb_len]; exact hs
  refine cOf (by kernel_rfl) rfl ?_
  rw [g28_eq]
  simp only [g28, go1, Option.bind_some, eq_self, cond_true, cond_false, Nat.reduceAdd, Int.reduceEq, Int.reduceLT, Int.reduceLE, Int.reduceSub, Int.reduceAdd]
  refine loopF_at (fun n : Nat => [.str s, .int .i64 (n : Int)]) (fun n => n ≤ (tb s).length ∧ n + gapN ((tb s).drop n) = a + gapN ((tb s).drop a)) (fun n => (tb s).length - n) (fun n hn => ?_) a ⟨ha, rfl⟩
  obtain ⟨hle, hg⟩ := hn
  by_cases hlt : n < (tb s).length
  · have hq : ((s.data.getD (n : Int).toNat 0).toNat : Int) = (((tb s).getD n 0 : Nat) : Int) := by rw [Int.toNat_natCast, tb_getD]
    have hd := drop_cons hlt
    simp only [go1, Option.bind_some, eq_self, cond_true, cond_false, Nat.reduceAdd, Int.reduceEq, Int.reduceLT, Int.reduceLE, Int.reduceSub, Int.reduceAdd]
    simp (disch := omega) only [wrap_id, decT, decF, go1, Option.bind_some, eq_self, cond_true, cond_false, Nat.reduceAdd, Int.reduceEq, Int.reduceLT, Int.reduceLE, Int.reduceSub, Int.reduceAdd, size_tb, hq]
    rw [dec_iff (show (((tb s).getD n 0 : Nat) : Int) = 9 ↔ (tb s).getD n 0 = 9 by omega), dec_iff (show (((tb s).getD n 0 : Nat) : Int) = 10 ↔ (tb s).getD n 0 = 10 by omega), dec_iff (show (((tb s).getD n 0 : Nat) : Int) = 13 ↔ (tb s).getD n 0 = 13 by omega), dec_iff (show (((tb s).getD n 0 : Nat) : Int) = 32 ↔ (tb s).getD n 0 = 32 by omega), dec_iff (show (((tb s).getD n 0 : Nat) : Int) = 45 ↔ (tb s).getD n 0 = 45 by omega)]
    have hb : (decide ((tb s).getD n 0 = 9) || decide ((tb s).getD n 0 = 10) || decide ((tb s).getD n 0 = 13) || decide ((tb s).getD n 0 = 32)) = blankN ((tb s).getD n 0) := by
      unfold blankN
      cases decide ((tb s).getD n 0 = 9) <;> cases decide ((tb s).getD n 0 = 10) <;> cases decide ((tb s).getD n 0 = 13) <;> cases decide ((tb s).getD n 0 = 32) <;> rfl
    rw [hb]
    cases h0 : blankN ((tb s).getD n 0) with
    | true =>
      left
      rw [hd, gap_blank _ h0] at hg
      exact ⟨n + 1, by rw [Int.natCast_add]; rfl, ⟨hlt, by omega⟩, by omega⟩
    | false =>
      have hr := rem_iff ((tb s).drop n)
      rw [getD_drop0, getD_drop1, List.length_drop] at hr
      have stop : hasN remN ((tb s).drop n) = false → n = a + gapN ((tb s).drop a) := fun h => by
        rw [gap_stop (by rw [getD_drop0]; exact h0) h] at hg
        omega
      cases h45 : decide ((tb s).getD n 0 = 45) with
      | false =>
        right
        rw [← stop (by rw [hr, h45]; rfl)]
        rfl
      | true =>
        by_cases h1 : n + 1 < (tb s).length
        · have hq1 : ((s.data.getD ((n : Int) + 1).toNat 0).toNat : Int) = (((tb s).getD (n + 1) 0 : Nat) : Int) := by
            have : ((n : Int) + 1).toNat = n + 1 := by omega
            rw [this, tb_getD]
          rw [h45, decT (p := 1 < (tb s).length - n) (by omega)] at hr
          simp (disch := omega) only [wrap_id, decT, decF, go1, Option.bind_some, eq_self, cond_true, cond_false, Nat.reduceAdd, Int.reduceEq, Int.reduceLT, Int.reduceLE, Int.reduceSub, Int.reduceAdd, hq1]
          rw [dec_iff (show (((tb s).getD (n + 1) 0 : Nat) : Int) = 45 ↔ (tb s).getD (n + 1) 0 = 45 by omega)]
          cases h46 : decide ((tb s).getD (n + 1) 0 = 45) with
          | false =>
            right
            rw [← stop (by rw [hr, h46]; rfl)]
            rfl
          | true =>
            left
            have hrt : hasN remN ((tb s).drop n) = true := by rw [hr, h46]; rfl
            have h2 := rem_span hrt
            have hk := spanN_le nlineN ((tb s).drop n)
            rw [List.length_drop] at hk
            rw [gap_rem hrt, List.drop_drop] at hg
            refine ⟨n + spanN nlineN ((tb s).drop n), ?_, ⟨by omega, by omega⟩, by omega⟩
            simp only [go1, Option.bind_some, eq_self, cond_true, cond_false, Nat.reduceAdd, Int.reduceEq, Int.reduceLT, Int.reduceLE, Int.reduceSub, Int.reduceAdd]
            rw [c_inner s hs n hle]
        · right
          rw [← stop (by rw [hr, h45, decF (p := 1 < (tb s).length - n) (by omega)]; rfl)]
          simp (disch := omega) only [wrap_id, decT, decF, go1, Option.bind_some, eq_self, cond_true, cond_false, Nat.reduceAdd, Int.reduceEq, Int.reduceLT, Int.reduceLE, Int.reduceSub, Int.reduceAdd]
          try rfl
  · right
    have : n = (tb s).length := by omega
    subst this
    have e0 : gapN [] = 0 := by
      have := gapN_le _ [] (Nat.le_refl _)
      simpa using this
    rw [List.drop_length, e0] at hg
    rw [← hg]
    simp only [go1, Option.bind_some, eq_self, cond_true, cond_false, Nat.reduceAdd, Int.reduceEq, Int.reduceLT, Int.reduceLE, Int.reduceSub, Int.reduceAdd]
    simp (disch := omega) only [wrap_id, decT, decF, go1, Option.bind_some, eq_self, cond_true, cond_false, Nat.reduceAdd, Int.reduceEq, Int.reduceLT, Int.reduceLE, Int.reduceSub, Int.reduceAdd, size_tb]
    rfl
end Go.Vm
end

section
set_option linter.all false
set_option maxRecDepth 100000
set_option maxHeartbeats 4000000
namespace Go.Vm
open Go.Proofs
theorem wrap_u8 {n : Int} (h1 : 0 ≤ n) (h2 : n ≤ 255) : IntKind.u8.wrap n = n := by
  unfold IntKind.wrap
  simp only [IntKind.bits, IntKind.signed]
  simp
  omega
theorem wrap_u64 {n : Int} (h1 : 0 ≤ n) (h2 : n ≤ 18446744073709551615) : IntKind.u64.wrap n = n := by
  unfold IntKind.wrap
  simp only [IntKind.bits, IntKind.signed]
  simp
  omega
/-! ### the reference: numbers -/
theorem valN_snoc : ∀ (l : List Nat) (n c : Nat), valN n (l ++ [c]) = valN n l * 10 + (c - 48)
  | [], _, _ => rfl
  | x :: r, n, c => valN_snoc r (n * 10 + (x - 48)) c
theorem valN_app : ∀ (l r : List Nat) (n : Nat), valN n (l ++ r) = valN (valN n l) r
  | [], _, _ => rfl
  | x :: l, r, n => valN_app l r (n * 10 + (x - 48))
def numR (s : ByteArray) (a : Nat) : PRes :=
  let m := spanN digitN ((tb s).drop a)
  match decide (valN 0 (((tb s).drop a).take m) < 9223372036854775808) && (!decide ((tb s).getD a 0 = 48) || decide (m = 1)) with
  | true => .val [.int .i64 3, .str (s.extract a (a + m)), .int .i64 (valN 0 (((tb s).drop a).take m) : Int), .int .i64 (a : Int), .bool true]
  | false => .val [.int .i64 0, .str (bs []), .int .i64 0, .int .i64 0, .bool false]
theorem c_rxin (n a b : Nat) : cF 60 [.d (.int .u8 (n : Int)), .d (.int .u8 (a : Int)), .d (.int .u8 (b : Int))] = some (.val [.bool (decide (a ≤ n) && decide (n ≤ b))]) := by
  refine cOf (by kernel_rfl) rfl ?_
  rw [g60_eq]
  simp only [g60, go1, Option.bind_some, eq_self, cond_true, cond_false, Nat.reduceAdd, Int.reduceEq, Int.reduceLT, Int.reduceLE, Int.reduceSub, Int.reduceAdd]
  rw [dec_iff (show (a : Int) ≤ (n : Int) ↔ a ≤ n by omega), dec_iff (show (n : Int) ≤ (b : Int) ↔ n ≤ b by omega)]
def mkN (s : ByteArray) (a x : Nat) : List D := [.str s, .int .i64 (a : Int), .int .u64 ((valN 0 (((tb s).drop a).take x) : Nat) : Int), .int .i64 ((a + x : Nat) : Int), .int .i64 0, .str (bs []), .int .i64 0, .int .i64 0]
theorem span_at {p : Nat → Bool} : ∀ (l : List Nat) (i : Nat), i < spanN p l → p (l.getD i 0) = true
  | [], i, h => by simp [spanN] at h
  | c :: r, i, h => by
    cases hc : p c with
    | false => rw [span_cons0 hc] at h; omega
    | true =>
      rw [span_cons1 hc] at h
      cases i with
      | zero => exact hc
      | succ i => exact span_at r i (by omega)
theorem span_end {p : Nat → Bool} : ∀ (l : List Nat), spanN p l < l.length → p (l.getD (spanN p l) 0) = false
  | [], h => by simp at h
  | c :: r, h => by
    cases hc : p c with
    | false => rw [span_cons0 hc]; exact hc
    | true =>
      rw [span_cons1 hc] at h ⊢
      have := span_end (p := p) r (by simp at h; omega)
      rw [Nat.add_comm]
      exact this
theorem getD_drop (l : List Nat) (a i : Nat) : (l.drop a).getD i 0 = l.getD (a + i) 0 := by
  rw [List.getD_eq_getElem?_getD, List.getElem?_drop, List.getD_eq_getElem?_getD]
theorem take_snoc (l : List Nat) (x : Nat) (h : x < l.length) : l.take (x + 1) = l.take x ++ [l.getD x 0] := by
  rw [List.take_add_one, List.getElem?_eq_getElem h, List.getD_eq_getElem?_getD, List.getElem?_eq_getElem h]; rfl
theorem big_pos : 0 < 9223372036854775808 := by decide
theorem c_rnumber (s : ByteArray) (hs : s.size ≤ 100000) (a : Nat) (ha : a < (tb s).length) (hda : digitN ((tb s).getD a 0) = true) : cF 61 [.d (.str s), .d (.int .i64 (a : Int))] = some (numR s a) := by
  have hlen : (tb s).length ≤ 100000 := by rw [tb_len]; exact hs
  have hmle := spanN_le digitN ((tb s).drop a)
  have hpos : 0 < spanN digitN ((tb s).drop a) := span_pos (by rw [getD_drop]; exact hda) (by rw [List.length_drop]; omega)
  have hdg := span_at (p := digitN) ((tb s).drop a)
  have hnd := span_end (p := digitN) ((tb s).drop a)
  rw [List.length_drop] at hmle hnd
  simp only [getD_drop] at hdg hnd
  refine cOf (by kernel_rfl) rfl ?_
  rw [g61_eq]
  simp only [g61, go1, Option.bind_some, eq_self, cond_true, cond_false, Nat.reduceAdd, Int.reduceEq, Int.reduceLT, Int.reduceLE, Int.reduceSub, Int.reduceAdd]
  unfold numR
  simp only
  generalize spanN digitN ((tb s).drop a) = m at *
  have em : ([D.str s, D.int .i64 (a : Int), D.int .u64 0, D.int .i64 (a : Int), D.int .i64 0, D.str (bs []), D.int .i64 0, D.int .i64 0] : List D) = mkN s a 0 := by
    unfold mkN
    rw [List.take_zero, show valN 0 [] = 0 from rfl, Nat.add_zero]; rfl
  rw [em]
  refine loopF_at (mkN s a) (fun x => x ≤ m ∧ valN 0 (((tb s).drop a).take x) < 9223372036854775808 ∧ (2 ≤ x → (tb s).getD a 0 ≠ 48)) (fun x => m - x) (fun x hx => ?_) 0 ?h0
  case h0 =>
    have e0 : valN 0 (((tb s).drop a).take 0) = 0 := rfl
    exact And.intro (Nat.zero_le m) (And.intro (Nat.lt_of_le_of_lt (Nat.le_of_eq e0) big_pos) (fun h => absurd h (by decide)))
  obtain ⟨hxm, hv, hz⟩ := hx
  have hqa : ((s.data.getD ((a : Int)).toNat 0).toNat : Int) = (((tb s).getD a 0 : Nat) : Int) := by rw [Int.toNat_natCast, tb_getD]
  have hq : ((s.data.getD (((a + x : Nat) : Int)).toNat 0).toNat : Int) = (((tb s).getD (a + x) 0 : Nat) : Int) := by rw [Int.toNat_natCast, tb_getD]
  have hc := c_rxin ((tb s).getD (a + x) 0) 48 57
  have e48 : ((48 : Nat) : Int) = 48 := rfl
  have e57 : ((57 : Nat) : Int) = 57 := rfl
  rw [e48, e57] at hc
  by_cases hlt : x < m
  · have hdx := hdg x hlt
    have hbd : 48 ≤ (tb s).getD (a + x) 0 ∧ (tb s).getD (a + x) 0 ≤ 57 := by
      unfold digitN at hdx
      simpa using hdx
    have hsn : valN 0 (((tb s).drop a).take (x + 1)) = valN 0 (((tb s).drop a).take x) * 10 + ((tb s).getD (a + x) 0 - 48) := by
      rw [take_snoc _ _ (by rw [List.length_drop]; omega), valN_snoc, getD_drop]
    have hge : valN 0 (((tb s).drop a).take (x + 1)) ≤ valN 0 (((tb s).drop a).take m) := by
      have e : ((tb s).drop a).take m = ((tb s).drop a).take (x + 1) ++ (((tb s).drop a).drop (x + 1)).take (m - (x + 1)) := by
        rw [← List.take_add]; congr 1; omega
      rw [e, valN_app]
      exact valN_ge _ _
    unfold mkN
    generalize hvv : valN 0 (((tb s).drop a).take x) = v at *
    generalize hcc : (tb s).getD (a + x) 0 = c at *
    have q1 : IntKind.u8.wrap ((c : Int) - 48) = (c : Int) - 48 := wrap_u8 (by omega) (by omega)
    have q2 : IntKind.u64.wrap ((c : Int) - 48) = (c : Int) - 48 := wrap_u64 (by omega) (by omega)
    have q3 : IntKind.u64.wrap (9223372036854775807 - ((c : Int) - 48)) = 9223372036854775807 - ((c : Int) - 48) := wrap_u64 (by omega) (by omega)
    have q4 : sy.quo (9223372036854775807 - ((c : Int) - 48)) 10 = (9223372036854775807 - ((c : Int) - 48)) / 10 := by
      rw [sy_quo]; exact Int.tdiv_eq_ediv_of_nonneg (by omega)
    have q5 : IntKind.u64.wrap ((9223372036854775807 - ((c : Int) - 48)) / 10) = (9223372036854775807 - ((c : Int) - 48)) / 10 := wrap_u64 (by omega) (by omega)
    have hc2 : (decide (48 ≤ c) && decide (c ≤ 57)) = true := by rw [decT hbd.1, decT hbd.2]; rfl
    rw [hc2] at hc
    simp only [go1, Option.bind_some, eq_self, cond_true, cond_false, Nat.reduceAdd, Int.reduceEq, Int.reduceLT, Int.reduceLE, Int.reduceSub, Int.reduceAdd]
    simp (disch := omega) only [wrap_id, decT, decF, go1, Option.bind_some, eq_self, cond_true, cond_false, Nat.reduceAdd, Int.reduceEq, Int.reduceLT, Int.reduceLE, Int.reduceSub, Int.reduceAdd, size_tb, hq, hqa, hc, q1, q2, q3, q4, q5]
    rw [dec_iff (show (((tb s).getD a 0 : Nat) : Int) = 48 ↔ (tb s).getD a 0 = 48 by omega), dec_iff (show (a : Int) < ((a + x : Nat) : Int) ↔ 0 < x by omega)]
    by_cases h1 : v * 10 + (c - 48) < 9223372036854775808
    · rw [decF (p := (9223372036854775807 - ((c : Int) - 48)) / 10 < (v : Int)) (by omega)]
      by_cases h2 : 0 < x ∧ (tb s).getD a 0 = 48
      · right
        rw [decT h2.1, decT h2.2, decF (p := m = 1) (by omega)]
        cases decide (valN 0 (((tb s).drop a).take m) < 9223372036854775808) <;> rfl
      · left
        have hb : (false || decide (0 < x) && decide ((tb s).getD a 0 = 48)) = false := by
          rw [Bool.false_or, Bool.eq_false_iff]
          intro h
          rw [Bool.and_eq_true, decide_eq_true_eq, decide_eq_true_eq] at h
          exact h2 h
        rw [hb]
        have w1 : IntKind.u64.wrap ((v : Int) * 10) = (v : Int) * 10 := wrap_u64 (by omega) (by omega)
        have w2 : IntKind.u64.wrap ((v : Int) * 10 + ((c : Int) - 48)) = ((v * 10 + (c - 48) : Nat) : Int) := by rw [wrap_u64 (by omega) (by omega)]; omega
        refine ⟨x + 1, ?_, ⟨by omega, by rw [hsn]; exact h1, fun h h48 => h2 ⟨by omega, h48⟩⟩, by omega⟩
        have e9 : ((a + x : Nat) : Int) + 1 = ((a + (x + 1) : Nat) : Int) := by omega
        rw [w1, w2, hsn, e9]
        rfl
    · right
      rw [decT (p := (9223372036854775807 - ((c : Int) - 48)) / 10 < (v : Int)) (by omega)]
      rw [decF (p := valN 0 (((tb s).drop a).take m) < 9223372036854775808) (by omega)]
      rfl
  · right
    have : x = m := by omega
    subst this
    have e9 : (((a + x : Nat) : Int)).toNat = a + x := Int.toNat_natCast _
    have e8 : ((a : Int)).toNat = a := Int.toNat_natCast _
    have hsp : (decide (valN 0 (((tb s).drop a).take x) < 9223372036854775808) && (!decide ((tb s).getD a 0 = 48) || decide (x = 1))) = true := by
      rw [decT hv, Bool.true_and]
      by_cases h : (tb s).getD a 0 = 48
      · rw [decT (p := x = 1) (by
          by_cases h2 : 2 ≤ x
          · exact absurd h (hz h2)
          · omega)]; simp
      · rw [decF h]; rfl
    rw [hsp]
    unfold mkN
    generalize valN 0 (((tb s).drop a).take x) = v at *
    by_cases hend : a + x < (tb s).length
    · have hnd' := hnd (by omega)
      have hc2 : (decide (48 ≤ (tb s).getD (a + x) 0) && decide ((tb s).getD (a + x) 0 ≤ 57)) = false := by
        unfold digitN at hnd'; exact hnd'
      rw [hc2] at hc
      have hq2 : ((s.data.getD (a + x) 0).toNat : Int) = (((tb s).getD (a + x) 0 : Nat) : Int) := by rw [tb_getD]
      simp only [go1, Option.bind_some, eq_self, cond_true, cond_false, Nat.reduceAdd, Int.reduceEq, Int.reduceLT, Int.reduceLE, Int.reduceSub, Int.reduceAdd]
      simp (disch := omega) only [wrap_id, decT, decF, go1, Option.bind_some, eq_self, cond_true, cond_false, Nat.reduceAdd, Int.reduceEq, Int.reduceLT, Int.reduceLE, Int.reduceSub, Int.reduceAdd, size_tb, hq2, hc, e9, e8]
    · simp only [go1, Option.bind_some, eq_self, cond_true, cond_false, Nat.reduceAdd, Int.reduceEq, Int.reduceLT, Int.reduceLE, Int.reduceSub, Int.reduceAdd]
      simp (disch := omega) only [wrap_id, decT, decF, go1, Option.bind_some, eq_self, cond_true, cond_false, Nat.reduceAdd, Int.reduceEq, Int.reduceLT, Int.reduceLE, Int.reduceSub, Int.reduceAdd, size_tb, e9, e8]
end Go.Vm
end

section
set_option linter.all false
set_option maxRecDepth 100000
set_option maxHeartbeats 4000000
namespace Go.Vm
open Go.Proofs
/-! ### the reference: paths, marks, words -/
def rtok (k : Int) (s : ByteArray) (n p w : Int) (ok : Bool) : PRes := .val [.int .i64 k, .str s, .int .i64 n, .int .i64 p, .int .i64 w, .bool ok]
theorem tb_tail (s : ByteArray) (a : Nat) : tb (s.extract a (tb s).length) = (tb s).drop a := by rw [tb_ext, List.take_length]
theorem ext_ext (s : ByteArray) (a i j : Nat) (h : a + j ≤ (tb s).length) : (s.extract a (tb s).length).extract i j = s.extract (a + i) (a + j) := by
  apply tb_inj
  rw [tb_ext, tb_tail, tb_ext, ← List.drop_drop, List.take_drop]
theorem idx_step {c x : Nat} {r : List Nat} (h : x ≠ c) : idxN c (x :: r) = (idxN c r).map (· + 1) := by
  rw [idxN, if_neg h]
  try (cases idxN c r <;> rfl)
theorem c_rpath (s : ByteArray) (hs : s.size ≤ 100000) (a : Nat) (ha : a < (tb s).length) : cF 59 [.d (.str s), .d (.int .i64 (a : Int))] = some (match idxN 39 ((tb s).drop (a + 1)) with
    | none => rtok 0 (bs []) 0 0 (a : Int) false
    | some j => rtok 4 (s.extract (a + 1) (a + 1 + j)) 0 (a : Int) ((a + 1 + j + 1 : Nat) : Int) (pathN (tb (s.extract (a + 1) (a + 1 + j))))) := by
  have hlen : (tb s).length ≤ 100000 := by rw [tb_len]; exact hs
  have e1 : IntKind.i64.wrap ((a : Int) + 1) = ((a + 1 + 0 : Nat) : Int) := by rw [wrap_id (by omega) (by omega)]; omega
  refine cOf (by kernel_rfl) rfl ?_
  rw [g59_eq]
  simp only [g59, go1, Option.bind_some, eq_self, cond_true, cond_false, Nat.reduceAdd, Int.reduceEq, Int.reduceLT, Int.reduceLE, Int.reduceSub, Int.reduceAdd, e1]
  refine loopF_at (fun x : Nat => [.str s, .int .i64 (a : Int), .int .i64 ((a + 1 + x : Nat) : Int), .int .i64 0, .str (bs []), .int .i64 0, .int .i64 0])
    (fun x => a + 1 + x ≤ (tb s).length ∧ idxN 39 ((tb s).drop (a + 1)) = (idxN 39 ((tb s).drop (a + 1 + x))).map (· + x)) (fun x => (tb s).length - x) (fun x hx => ?_) 0 ⟨by omega, by rw [Nat.add_zero]; cases idxN 39 ((tb s).drop (a + 1)) <;> rfl⟩
  obtain ⟨hle, hi⟩ := hx
  by_cases hlt : a + 1 + x < (tb s).length
  · have hq : ((s.data.getD (((a + 1 + x : Nat) : Int)).toNat 0).toNat : Int) = (((tb s).getD (a + 1 + x) 0 : Nat) : Int) := by rw [Int.toNat_natCast, tb_getD]
    have hd := drop_cons hlt
    simp only [go1, Option.bind_some, eq_self, cond_true, cond_false, Nat.reduceAdd, Int.reduceEq, Int.reduceLT, Int.reduceLE, Int.reduceSub, Int.reduceAdd]
    simp (disch := omega) only [wrap_id, decT, decF, go1, Option.bind_some, eq_self, cond_true, cond_false, Nat.reduceAdd, Int.reduceEq, Int.reduceLT, Int.reduceLE, Int.reduceSub, Int.reduceAdd, size_tb, hq]
    rw [dec_iff (show (((tb s).getD (a + 1 + x) 0 : Nat) : Int) = 39 ↔ (tb s).getD (a + 1 + x) 0 = 39 by omega)]
    by_cases h39 : (tb s).getD (a + 1 + x) 0 = 39
    · right
      rw [decT h39]
      have hj : idxN 39 ((tb s).drop (a + 1)) = some x := by
        rw [hi, hd, h39, idxN, if_pos rfl]; simp
      have e2 : ((a : Int) + 1).toNat = a + 1 := by omega
      have e3 : (((a + 1 + x : Nat) : Int)).toNat = a + 1 + x := Int.toNat_natCast _
      have z : (s.extract (a + 1) (a + 1 + x)).size ≤ 100000 := by rw [← tb_len, ext_len _ _ _ (by omega) (by omega)]; omega
      have k := c_rPath _ z
      rw [hj]
      simp (disch := omega) only [wrap_id, decT, decF, go1, Option.bind_some, eq_self, cond_true, cond_false, Nat.reduceAdd, Int.reduceEq, Int.reduceLT, Int.reduceLE, Int.reduceSub, Int.reduceAdd, e2, e3, k]
      rw [Int.natCast_add (a + 1 + x) 1]; rfl
    · left
      rw [decF h39]
      refine ⟨x + 1, ?_, ⟨by omega, ?_⟩, by omega⟩
      · have : ((a + 1 + x : Nat) : Int) + 1 = ((a + 1 + (x + 1) : Nat) : Int) := by omega
        rw [this]; rfl
      · rw [hi, hd, idx_step h39]
        have : a + 1 + x + 1 = a + 1 + (x + 1) := by omega
        rw [this]
        cases idxN 39 ((tb s).drop (a + 1 + (x + 1))) with
        | none => rfl
        | some j => simp; omega
  · right
    have : (tb s).length = a + 1 + x := by omega
    have ed : (tb s).drop (a + 1 + x) = [] := List.drop_of_length_le (by omega)
    rw [ed] at hi
    rw [hi, show idxN 39 [] = none from rfl]
    simp only [go1, Option.bind_some, eq_self, cond_true, cond_false, Nat.reduceAdd, Int.reduceEq, Int.reduceLT, Int.reduceLE, Int.reduceSub, Int.reduceAdd]
    simp (disch := omega) only [wrap_id, decT, decF, go1, Option.bind_some, eq_self, cond_true, cond_false, Nat.reduceAdd, Int.reduceEq, Int.reduceLT, Int.reduceLE, Int.reduceSub, Int.reduceAdd, size_tb]
    rfl
theorem c_rmark (t : ByteArray) (hs : t.size ≤ 100000) (h0 : 0 < (tb t).length) : cF 66 [.d (.str t)] = some (.val [.str (match (markT t).ok with
    | true => (markT t).s
    | false => bs [])]) := by
  have hlen : (tb t).length ≤ 100000 := by rw [tb_len]; exact hs
  refine cOf (by kernel_rfl) rfl ?_
  rw [g66_eq]
  simp only [g66, go1, Option.bind_some, eq_self, cond_true, cond_false, Nat.reduceAdd, Int.reduceEq, Int.reduceLT, Int.reduceLE, Int.reduceSub, Int.reduceAdd]
  refine loopF_at (fun i : Nat => [.str t, .int .i64 (i : Int), .sl 1 (srows twoB)]) (fun i => i ≤ 5 ∧ ∀ j, j < i → (tb t).take 2 ≠ twoN.getD j []) (fun i => 5 - i) (fun i hi => ?_) 0 ⟨by omega, fun j hj => by omega⟩
  obtain ⟨hle, hno⟩ := hi
  have hrl : ((srows twoB).length : Int) = 5 := rfl
  by_cases hlt : i < 5
  · obtain ⟨m, hm, htm, hl2⟩ := two_at i hlt
    have hrow : sy.rown (srows twoB) i = [.str m] := by
      rw [sy_rown, List.getD_eq_getElem?_getD]
      unfold srows
      rw [List.getElem?_map, hm]; rfl
    by_cases h2 : 2 ≤ (tb t).length
    · have e : ((t.extract (0 : Int).toNat (2 : Int).toNat).toList == m.toList) = decide ((tb t).take 2 = twoN.getD i []) := by
        rw [seq_tb, tb_scut, htm]; rfl
      simp only [go1, Option.bind_some, eq_self, cond_true, cond_false, Nat.reduceAdd, Int.reduceEq, Int.reduceLT, Int.reduceLE, Int.reduceSub, Int.reduceAdd]
      simp (disch := omega) only [wrap_id, decT, decF, go1, Option.bind_some, eq_self, cond_true, cond_false, Nat.reduceAdd, Int.reduceEq, Int.reduceLT, Int.reduceLE, Int.reduceSub, Int.reduceAdd, size_tb, hrl, Int.toNat_natCast, hrow, e]
      cases hh : decide ((tb t).take 2 = twoN.getD i []) with
      | true =>
        right
        have he := of_decide_eq_true hh
        have hc : twoN.contains ((tb t).take 2) = true := two_in.2 ⟨i, hlt, he⟩
        have hx : m = t.extract 0 2 := tb_inj (by rw [tb_ext, List.drop_zero, he, htm])
        unfold markT
        rw [hc, ← hx]
        rfl
      | false =>
        left
        have he := of_decide_eq_false hh
        exact ⟨i + 1, by rw [Int.natCast_add]; rfl, ⟨by omega, fun j hj => by
          by_cases e : j = i
          · subst e; exact he
          · exact hno j (by omega)⟩, by omega⟩
    · left
      simp only [go1, Option.bind_some, eq_self, cond_true, cond_false, Nat.reduceAdd, Int.reduceEq, Int.reduceLT, Int.reduceLE, Int.reduceSub, Int.reduceAdd]
      simp (disch := omega) only [wrap_id, decT, decF, go1, Option.bind_some, eq_self, cond_true, cond_false, Nat.reduceAdd, Int.reduceEq, Int.reduceLT, Int.reduceLE, Int.reduceSub, Int.reduceAdd, size_tb, hrl]
      have he : (tb t).take 2 ≠ twoN.getD i [] := fun h => by
        have := congrArg List.length h
        rw [hl2, List.length_take] at this
        omega
      exact ⟨i + 1, by rw [Int.natCast_add]; rfl, ⟨by omega, fun j hj => by
        by_cases e : j = i
        · subst e; exact he
        · exact hno j (by omega)⟩, by omega⟩
  · right
    have : i = 5 := by omega
    subst this
    have hc : twoN.contains ((tb t).take 2) = false := by
      rw [Bool.eq_false_iff]
      intro h
      obtain ⟨j, hj, he⟩ := two_in.1 h
      exact hno j hj he
    simp only [go1, Option.bind_some, eq_self, cond_true, cond_false, Nat.reduceAdd, Int.reduceEq, Int.reduceLT, Int.reduceLE, Int.reduceSub, Int.reduceAdd]
    simp (disch := omega) only [wrap_id, decT, decF, go1, Option.bind_some, eq_self, cond_true, cond_false, Nat.reduceAdd, Int.reduceEq, Int.reduceLT, Int.reduceLE, Int.reduceSub, Int.reduceAdd, hrl]
    have ho : bs [40, 41, 123, 125, 91, 93, 44, 59, 58, 61, 60, 62, 43, 45, 42, 47] = bs oneL := rfl
    rw [ho]
    have hol : ((tb (bs oneL)).length : Int) = 16 := rfl
    have htb : tb (bs oneL) = oneN := rfl
    refine loopF_at (fun i : Nat => [.str t, .str (bs oneL), .int .i64 (i : Int)]) (fun i => i ≤ 16 ∧ ∀ j, j < i → (tb t).getD 0 0 ≠ oneN.getD j 0) (fun i => 16 - i) (fun i hi => ?_) 0 ⟨by omega, fun j hj => by omega⟩
    obtain ⟨hle, hno⟩ := hi
    by_cases hlt : i < 16
    · have hq : ((t.data.getD (0 : Int).toNat 0).toNat : Int) = (((tb t).getD 0 0 : Nat) : Int) := by rw [toNat0, hd_tb]
      have hq2 : (((bs oneL).data.getD ((i : Nat) : Int).toNat 0).toNat : Int) = ((oneN.getD i 0 : Nat) : Int) := by rw [Int.toNat_natCast, ← htb, tb_getD]
      simp only [go1, Option.bind_some, eq_self, cond_true, cond_false, Nat.reduceAdd, Int.reduceEq, Int.reduceLT, Int.reduceLE, Int.reduceSub, Int.reduceAdd]
      simp (disch := omega) only [wrap_id, decT, decF, go1, Option.bind_some, eq_self, cond_true, cond_false, Nat.reduceAdd, Int.reduceEq, Int.reduceLT, Int.reduceLE, Int.reduceSub, Int.reduceAdd, size_tb, hol, hq, hq2]
      rw [dec_iff (show (((tb t).getD 0 0 : Nat) : Int) = ((oneN.getD i 0 : Nat) : Int) ↔ (tb t).getD 0 0 = oneN.getD i 0 by omega)]
      by_cases he : (tb t).getD 0 0 = oneN.getD i 0
      · right
        rw [decT he]
        have hin : oneN.contains ((tb t).getD 0 0) = true := by
          rw [he, List.contains_iff_mem, List.getD_eq_getElem?_getD, List.getElem?_eq_getElem (show i < oneN.length from hlt)]
          exact List.getElem_mem _
        have hx : (bs oneL).extract i (i + 1) = t.extract 0 1 := tb_inj (by
          rw [tb_ext, tb_ext, htb, List.drop_zero, take_snoc _ _ (show i < oneN.length from hlt), List.drop_append_of_le_length (by simp [oneN]; omega), List.drop_of_length_le (by rw [List.length_take]; omega), ← he, List.nil_append]
          match tb t, h0 with
          | c :: r, _ => rfl)
        unfold markT
        rw [hc, hin]
        have e4 : (((i : Nat) : Int)).toNat = i := Int.toNat_natCast _
        have e5 : ((((i : Nat) : Int)) + 1).toNat = i + 1 := by omega
        simp (disch := omega) only [wrap_id, decT, decF, go1, Option.bind_some, eq_self, cond_true, cond_false, Nat.reduceAdd, Int.reduceEq, Int.reduceLT, Int.reduceLE, Int.reduceSub, Int.reduceAdd, e4, e5, hx]
        try rfl
      · left
        rw [decF he]
        exact ⟨i + 1, by rw [Int.natCast_add]; rfl, ⟨by omega, fun j hj => by
          by_cases e : j = i
          · subst e; exact he
          · exact hno j (by omega)⟩, by omega⟩
    · right
      have : i = 16 := by omega
      subst this
      have hin : oneN.contains ((tb t).getD 0 0) = false := by
        rw [Bool.eq_false_iff]
        intro h
        rw [List.contains_iff_mem] at h
        obtain ⟨j, hj, he⟩ := List.mem_iff_getElem.1 h
        refine hno j hj ?_
        rw [List.getD_eq_getElem?_getD (l := oneN), List.getElem?_eq_getElem hj]; exact he.symm
      unfold markT
      rw [hc, hin]
      simp only [go1, Option.bind_some, eq_self, cond_true, cond_false, Nat.reduceAdd, Int.reduceEq, Int.reduceLT, Int.reduceLE, Int.reduceSub, Int.reduceAdd]
      simp (disch := omega) only [wrap_id, decT, decF, go1, Option.bind_some, eq_self, cond_true, cond_false, Nat.reduceAdd, Int.reduceEq, Int.reduceLT, Int.reduceLE, Int.reduceSub, Int.reduceAdd, size_tb, hol]
      rfl
end Go.Vm
end
