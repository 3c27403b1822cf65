/-
  Part F of the proof. What is proved by the whole: the statement that the claim names, with no condition. This part: lemmas.
-/
import Derived.Test.YtmmcmfcnpfbifaaGreatDoorSE
import Derived.Laws.Strings
set_option linter.unusedSimpArgs false
set_option linter.unusedVariables false

section
set_option linter.all false
namespace Go.Vm
/-! ### texts as rows of numbers -/
def tb (s : ByteArray) : List Nat := s.data.toList.map UInt8.toNat
theorem tb_len (s : ByteArray) : (tb s).length = s.size := by
  unfold tb
  rw [List.length_map, Array.length_toList]; rfl
theorem map_u8_inj : ∀ {a b : List UInt8}, a.map UInt8.toNat = b.map UInt8.toNat → a = b
  | [], [], _ => rfl
  | [], _ :: _, h => by simp at h
  | _ :: _, [], h => by simp at h
  | x :: a, y :: b, h => by
    simp only [List.map_cons, List.cons.injEq] at h
    rw [UInt8.toNat_inj.1 h.1, map_u8_inj h.2]
theorem tb_inj {s u : ByteArray} (h : tb s = tb u) : s = u := by
  have h1 : s.data.toList = u.data.toList := by
    unfold tb at h
    exact map_u8_inj h
  cases s; cases u
  simp only [ByteArray.mk.injEq]
  exact Array.toList_inj.1 h1
theorem tb_iff {s u : ByteArray} : tb s = tb u ↔ s = u := ⟨tb_inj, fun h => by rw [h]⟩
theorem toList_inj' {s u : ByteArray} (h : s.toList = u.toList) : s = u := by
  have e : ∀ t : ByteArray, t.toList = t.data.toList := fun t => ByteArray.toList_eq t
  rw [e, e] at h
  cases s; cases u
  simp only [ByteArray.mk.injEq]
  exact Array.toList_inj.1 h
theorem seq_tb (s u : ByteArray) : (s.toList == u.toList) = decide (tb s = tb u) := by
  rw [Bool.eq_iff_iff, beq_iff_eq, decide_eq_true_eq, tb_iff]
  exact ⟨toList_inj', fun h => by rw [h]⟩
theorem tb_getD (s : ByteArray) (i : Nat) : (tb s).getD i 0 = (s.data.getD i 0).toNat := by
  unfold tb
  rw [List.getD_eq_getElem?_getD, List.getElem?_map, Array.getElem?_toList]
  by_cases h : i < s.data.size
  · rw [Array.getElem?_eq_getElem h]; simp [Array.getD, show i < s.size from h]
  · rw [Array.getElem?_eq_none (by omega)]; simp [Array.getD, show ¬ i < s.size from h]
theorem sbyte_tb (s : ByteArray) (i : Nat) : sy.sbyte s (i : Int) = (((tb s).getD i 0 : Nat) : Int) := by
  rw [sy_sbyte, tb_getD, Int.toNat_natCast]
theorem tb_lt (s : ByteArray) (i : Nat) : (tb s).getD i 0 < 256 := by
  rw [tb_getD]; exact UInt8.toNat_lt _
theorem tb_app (s u : ByteArray) : tb (s ++ u) = tb s ++ tb u := by
  unfold tb
  rw [ByteArray.data_append, Array.toList_append, List.map_append]
theorem tb_scut (s : ByteArray) (a b : Int) : tb (s.extract a.toNat b.toNat) = ((tb s).take b.toNat).drop a.toNat := by
  unfold tb
  rw [ByteArray.data_extract, Array.toList_extract]
  simp [List.extract_eq_take_drop, List.map_take, List.map_drop, List.drop_take]
theorem tb_bs (l : List UInt8) : tb (bs l) = l.map UInt8.toNat := by simp [tb, bs]
theorem get_tb (s : ByteArray) (i : Nat) : (s.get! i).toNat = (tb s).getD i 0 := by
  rw [tb_getD]
  show (s.data[i]!).toNat = _
  by_cases h : i < s.data.size
  · simp [Array.getD, h, show i < s.size from h]
  · simp only [Array.getD, h, dite_false]
    rw [getElem!_neg s.data i h]; rfl
theorem dec_small {s : ByteArray} {i : Nat} (hb : (tb s).getD i 0 < 128) : decR s (i : Int) = (((tb s).getD i 0 : Nat) : Int) ∧ decW s (i : Int) = 1 := by
  unfold decR decW Utf8.decode
  rw [Int.toNat_natCast]
  simp only [Nat.add_zero, get_tb]
  rw [if_pos hb]
  exact ⟨rfl, rfl⟩
theorem dec_big {s : ByteArray} {i : Nat} (hb : 128 ≤ (tb s).getD i 0) : 128 ≤ decR s (i : Int) ∧ 1 ≤ decW s (i : Int) := by
  unfold decR decW Utf8.decode
  rw [Int.toNat_natCast]
  simp only [Nat.add_zero, get_tb]
  rw [if_neg (by omega)]
  have hr : 128 ≤ Utf8.runeError := by decide
  repeat' split
  all_goals first | omega | (simp only [ge_iff_le, Bool.and_eq_true, decide_eq_true_eq] at *; omega)
/-! ### names and paths -/
def smallN (c : Nat) : Bool := decide (97 ≤ c) && decide (c ≤ 122)
def greatN (c : Nat) : Bool := decide (65 ≤ c) && decide (c ≤ 90)
def digitN (c : Nat) : Bool := decide (48 ≤ c) && decide (c ≤ 57)
def innerN (c : Nat) : Bool := smallN c || greatN c || digitN c || decide (c = 95)
def nameN (first : Nat → Bool) (l : List Nat) : Bool := decide (1 ≤ l.length) && decide (l.length ≤ 12) && first (l.getD 0 0) && l.all innerN
def splitN (c : Nat) : List Nat → List (List Nat)
  | [] => [[]]
  | x :: xs => if x = c then [] :: splitN c xs else match splitN c xs with
    | [] => [[x]]
    | p :: ps => (x :: p) :: ps
theorem splitN_ne (c : Nat) : ∀ l, splitN c l ≠ []
  | [] => by simp [splitN]
  | x :: xs => by
    unfold splitN
    split
    · simp
    · split <;> simp
/-- A piece without the mark, ahead of the rest. -/
theorem splitN_app (c : Nat) : ∀ (p l : List Nat), (∀ x ∈ p, x ≠ c) → splitN c (p ++ l) = match splitN c l with
    | [] => [p]
    | q :: qs => (p ++ q) :: qs
  | [], l, _ => by
    simp only [List.nil_append]
    cases h : splitN c l with
    | nil => exact absurd h (splitN_ne c l)
    | cons q qs => rfl
  | x :: p, l, hp => by
    rw [List.cons_append, splitN, if_neg (hp x List.mem_cons_self), splitN_app c p l fun y hy => hp y (List.mem_cons_of_mem _ hy)]
    cases h : splitN c l with
    | nil => exact absurd h (splitN_ne c l)
    | cons q qs => rfl
theorem splitN_none (c : Nat) (p : List Nat) (hp : ∀ x ∈ p, x ≠ c) : splitN c p = [p] := by
  have := splitN_app c p [] hp
  rw [List.append_nil] at this
  rw [this]; simp [splitN]
theorem splitN_mark (c : Nat) (p l : List Nat) (hp : ∀ x ∈ p, x ≠ c) : splitN c (p ++ c :: l) = p :: splitN c l := by
  rw [splitN_app c p _ hp]
  simp [splitN]
end Go.Vm
end

section
set_option linter.all false
namespace Go.Vm
def wordsB : List (List Nat) := ["node", "returns", "var", "let", "tel", "enum", "if", "then", "else", "fby", "pre", "when", "merge", "every", "not", "and", "or", "xor", "mod", "true", "false", "int", "bool", "with"].map fun s => s.toUTF8.data.toList.map UInt8.toNat
def wordN (l : List Nat) : Bool := wordsB.contains l
def lowN (l : List Nat) : Bool := nameN smallN l && !wordN l
def highN (l : List Nat) : Bool := nameN greatN l
def numN (l : List Nat) : Bool := decide (1 ≤ l.length) && decide (l.length ≤ 3) && !decide (l.getD 0 0 = 48) && l.all digitN
def partN (l : List Nat) : Bool := match splitN 46 l with
  | [a] => lowN a
  | [a, b] => lowN a && numN b
  | _ => false
def pathN (l : List Nat) : Bool := (splitN 47 l).all partN
/-- Where a mark stands first. -/
def idxN (c : Nat) : List Nat → Option Nat
  | [] => none
  | x :: xs => if x = c then some 0 else (idxN c xs).map (· + 1)
theorem idxN_none {c : Nat} : ∀ {l : List Nat}, idxN c l = none → ∀ x ∈ l, x ≠ c
  | [], _, x, hx => by simp at hx
  | y :: ys, h, x, hx => by
    unfold idxN at h
    split at h
    · cases h
    · rw [Option.map_eq_none_iff] at h
      rcases List.mem_cons.1 hx with rfl | hx
      · assumption
      · exact idxN_none h x hx
theorem idxN_some {c : Nat} : ∀ {l : List Nat} {i : Nat}, idxN c l = some i → i < l.length ∧ l = l.take i ++ c :: l.drop (i + 1) ∧ ∀ x ∈ l.take i, x ≠ c
  | [], i, h => by cases h
  | y :: ys, i, h => by
    unfold idxN at h
    split at h
    · cases h; rename_i e; subst e; exact ⟨by simp, by simp, by simp⟩
    · rename_i hne
      rw [Option.map_eq_some_iff] at h
      obtain ⟨j, hj, rfl⟩ := h
      obtain ⟨h1, h2, h3⟩ := idxN_some hj
      refine ⟨by simp; omega, ?_, fun x hx => ?_⟩
      · simp only [List.take_succ_cons, List.drop_succ_cons, List.cons_append]
        rw [← h2]
      · rw [List.take_succ_cons] at hx
        rcases List.mem_cons.1 hx with rfl | hx
        · exact hne
        · exact h3 x hx
/-- A part, by where its point stands. -/
theorem partN_cut (l : List Nat) : partN l = match idxN 46 l with
    | none => lowN l
    | some i => lowN (l.take i) && numN (l.drop (i + 1)) := by
  cases h : idxN 46 l with
  | none =>
    unfold partN
    rw [splitN_none 46 l (idxN_none h)]
  | some i =>
    obtain ⟨h1, h2, h3⟩ := idxN_some h
    simp only
    generalize hb : l.take i = b at h2 h3 ⊢
    generalize ha : l.drop (i + 1) = a at h2 ⊢
    subst h2
    unfold partN
    rw [splitN_mark 46 b a h3]
    cases hq : idxN 46 a with
    | none => rw [splitN_none 46 a (idxN_none hq)]
    | some j =>
      obtain ⟨q1, q2, q3⟩ := idxN_some hq
      have e : numN a = false := by
        unfold numN
        have : a.all digitN = false := by
          rw [q2, List.all_append, List.all_cons]
          have : digitN 46 = false := by decide
          rw [this]; simp
        rw [this]; simp
      have hs : splitN 46 a = a.take j :: splitN 46 (a.drop (j + 1)) := by
        conv => lhs; rw [q2]
        exact splitN_mark 46 _ _ q3
      rw [hs, e, Bool.and_false]
      cases hz : splitN 46 (a.drop (j + 1)) with
      | nil => exact absurd hz (splitN_ne _ _)
      | cons z zs => rfl
end Go.Vm
end

section
set_option linter.all false
set_option maxRecDepth 100000
set_option maxHeartbeats 2000000
namespace Go.Vm
open Go.Proofs
/-! ### bytes, and runes -/
def inI (a b n : Int) : Bool := decide (a ≤ n) && decide (n ≤ b)
theorem inI_small (c : Nat) : inI 97 122 (c : Int) = smallN c := by
  unfold inI smallN
  rw [Bool.eq_iff_iff]
  simp only [Bool.and_eq_true, decide_eq_true_eq]
  omega
theorem inI_great (c : Nat) : inI 65 90 (c : Int) = greatN c := by
  unfold inI greatN
  rw [Bool.eq_iff_iff]
  simp only [Bool.and_eq_true, decide_eq_true_eq]
  omega
theorem inI_digit (c : Nat) : inI 48 57 (c : Int) = digitN c := by
  unfold inI digitN
  rw [Bool.eq_iff_iff]
  simp only [Bool.and_eq_true, decide_eq_true_eq]
  omega
theorem inI_big {a b n : Int} (h : b < n) : inI a b n = false := by
  unfold inI
  rw [decF (p := n ≤ b) (by omega), Bool.and_false]
theorem c_small (n : Int) : cF 161 [.d (.int .i32 n)] = some (.val [.bool (inI 97 122 n)]) := by
  refine cOf (by kernel_rfl) rfl ?_
  rw [g161_eq]
  simp only [g161, go1, Option.bind_some, eq_self, cond_true, cond_false, Nat.reduceAdd, Int.reduceEq, Int.reduceLT, Int.reduceLE, Int.reduceSub, Int.reduceAdd]
  rfl
theorem c_great (n : Int) : cF 164 [.d (.int .i32 n)] = some (.val [.bool (inI 65 90 n)]) := by
  refine cOf (by kernel_rfl) rfl ?_
  rw [g164_eq]
  simp only [g164, go1, Option.bind_some, eq_self, cond_true, cond_false, Nat.reduceAdd, Int.reduceEq, Int.reduceLT, Int.reduceLE, Int.reduceSub, Int.reduceAdd]
  rfl
theorem c_digit (n : Int) : cF 202 [.d (.int .i32 n)] = some (.val [.bool (inI 48 57 n)]) := by
  refine cOf (by kernel_rfl) rfl ?_
  rw [g202_eq]
  simp only [g202, go1, Option.bind_some, eq_self, cond_true, cond_false, Nat.reduceAdd, Int.reduceEq, Int.reduceLT, Int.reduceLE, Int.reduceSub, Int.reduceAdd]
  rfl
theorem c_in (n a b : Int) : cF 169 [.d (.int .u8 n), .d (.int .u8 a), .d (.int .u8 b)] = some (.val [.bool (inI a b n)]) := by
  refine cOf (by kernel_rfl) rfl ?_
  rw [g169_eq]
  simp only [g169, go1, Option.bind_some, eq_self, cond_true, cond_false, Nat.reduceAdd, Int.reduceEq, Int.reduceLT, Int.reduceLE, Int.reduceSub, Int.reduceAdd]
  rfl
theorem all_snoc {α : Type} {l : List α} {p : Nat} {f : α → Bool} {d : α} (hp : p < l.length) (h : (l.take p).all f = true) (hx : f (l.getD p d) = true) : (l.take (p + 1)).all f = true := by
  rw [List.take_add_one, List.all_append, h, List.getElem?_eq_getElem hp]
  rw [List.getD_eq_getElem?_getD, List.getElem?_eq_getElem hp] at hx
  simpa using hx
theorem all_false {α : Type} {l : List α} {p : Nat} {f : α → Bool} {d : α} (hp : p < l.length) (hx : f (l.getD p d) = false) : l.all f = false := by
  rw [List.getD_eq_getElem?_getD, List.getElem?_eq_getElem hp] at hx
  rw [Bool.eq_false_iff]
  intro hh
  have := List.all_eq_true.1 hh _ (List.getElem_mem hp)
  simp at hx
  rw [hx] at this; cases this
theorem nameN_bad {first : Nat → Bool} {l : List Nat} {p : Nat} (hp : p < l.length) (hx : innerN (l.getD p 0) = false) : nameN first l = false := by
  unfold nameN; rw [all_false hp hx, Bool.and_false]
theorem nameN_first {first : Nat → Bool} {l : List Nat} (hx : first (l.getD 0 0) = false) : nameN first l = false := by
  unfold nameN; rw [hx, Bool.and_false, Bool.false_and]
theorem size_tb (s : ByteArray) : (s.size : Int) = ((tb s).length : Int) := by rw [tb_len]
theorem inner_def (c : Nat) : innerN c = (smallN c || greatN c || digitN c || decide (c = 95)) := rfl
theorem inner_big {c : Nat} (h : 128 ≤ c) : innerN c = false := by
  unfold innerN smallN greatN digitN
  simp; omega
theorem c_name (s : ByteArray) : cF 160 [.d (.str s), .fn 161 []] = some (.val [.bool (nameN smallN (tb s))]) := by
  refine cOf (by kernel_rfl) rfl ?_
  rw [g160_161_eq]
  simp only [g160_161, go1, Option.bind_some, eq_self, cond_true, cond_false, Nat.reduceAdd, Int.reduceEq, Int.reduceLT, Int.reduceLE, Int.reduceSub, Int.reduceAdd]
  refine loopF_at (fun p : Nat => [.str s, .str s, .int .i64 (p : Int)]) (fun p => p ≤ (tb s).length ∧ ((tb s).take p).all innerN = true ∧ (0 < p → smallN ((tb s).getD 0 0) = true)) (fun p => (tb s).length - p) (fun p hp => ?_) 0 ⟨Nat.zero_le _, by simp, by omega⟩
  obtain ⟨hle, hall, hfst⟩ := hp
  by_cases hlt : p < (tb s).length
  · by_cases hc : (tb s).getD p 0 < 128
    · obtain ⟨e1, e2⟩ := dec_small hc
      simp only [go1, Option.bind_some, eq_self, cond_true, cond_false, Nat.reduceAdd, Int.reduceEq, Int.reduceLT, Int.reduceLE, Int.reduceSub, Int.reduceAdd, size_tb, ilt_at hlt, sy_rdec, sy_rwid, e1, e2, c_small, c_great, c_digit, inI_small, inI_great, inI_digit]
      have hi := inner_def ((tb s).getD p 0)
      by_cases h0 : p = 0
      · subst h0
        cases hs : smallN ((tb s).getD 0 0) with
        | false =>
          right
          rw [nameN_first hs]
          simp only [go1, Option.bind_some, eq_self, cond_true, cond_false, Nat.reduceAdd, Int.reduceEq, Int.reduceLT, Int.reduceLE, Int.reduceSub, Int.reduceAdd]; rfl
        | true =>
          left
          rw [hs] at hi
          refine ⟨0 + 1, ?_, ⟨hlt, all_snoc hlt hall (by rw [hi]; rfl), fun _ => (by first | rfl | exact hs)⟩, by omega⟩
          simp only [go1, Option.bind_some, eq_self, cond_true, cond_false, Nat.reduceAdd, Int.reduceEq, Int.reduceLT, Int.reduceLE, Int.reduceSub, Int.reduceAdd]; rfl
      · rw [decF (p := (p : Int) = 0) (by omega)]
        cases hin : innerN ((tb s).getD p 0) with
        | false =>
          right
          rw [nameN_bad hlt hin]
          rw [hin] at hi
          have hi := hi.symm
          simp only [Bool.or_eq_false_iff] at hi
          obtain ⟨⟨⟨i1, i2⟩, i3⟩, i4⟩ := hi
          have i4' : ¬ (((tb s).getD p 0 : Nat) : Int) = 95 := by
            have := of_decide_eq_false i4; omega
          rw [decF i4']
          simp only [i1, i2, i3, go1, Option.bind_some, eq_self, cond_true, cond_false, Nat.reduceAdd, Int.reduceEq, Int.reduceLT, Int.reduceLE, Int.reduceSub, Int.reduceAdd]
        | true =>
          left
          refine ⟨p + 1, ?_, ⟨hlt, all_snoc hlt hall hin, fun _ => hfst (by omega)⟩, by omega⟩
          rw [hin] at hi
          cases i1 : smallN ((tb s).getD p 0) <;> cases i2 : greatN ((tb s).getD p 0) <;> cases i3 : digitN ((tb s).getD p 0) <;> rw [i1, i2, i3] at hi <;> simp only [go1, Option.bind_some, eq_self, cond_true, cond_false, Nat.reduceAdd, Int.reduceEq, Int.reduceLT, Int.reduceLE, Int.reduceSub, Int.reduceAdd] <;> (try rfl)
          all_goals
            simp only [Bool.or_self, Bool.false_or] at hi
            have i4 := of_decide_eq_true hi.symm
            rw [decT (p := (((tb s).getD p 0 : Nat) : Int) = 95) (by omega)]
            rfl
    · have hb := dec_big (s := s) (i := p) (by omega)
      right
      have hin : innerN ((tb s).getD p 0) = false := by
        exact inner_big (by omega)
      rw [nameN_bad hlt hin]
      have hz : ¬ decR s (p : Int) = 95 := by omega
      simp only [go1, Option.bind_some, eq_self, cond_true, cond_false, Nat.reduceAdd, Int.reduceEq, Int.reduceLT, Int.reduceLE, Int.reduceSub, Int.reduceAdd, size_tb, ilt_at hlt, sy_rdec, sy_rwid, c_small, c_great, c_digit, inI_big (a := 97) (b := 122) (n := decR s (p : Int)) (by omega), inI_big (a := 65) (b := 90) (n := decR s (p : Int)) (by omega), inI_big (a := 48) (b := 57) (n := decR s (p : Int)) (by omega), decF hz]
      cases decide ((p : Int) = 0) 
      · simp only [cond_true, cond_false, Bool.not_false, go1, Option.bind_some, eq_self, cond_true, cond_false, Nat.reduceAdd, Int.reduceEq, Int.reduceLT, Int.reduceLE, Int.reduceSub, Int.reduceAdd]; simp [hz]
      · rfl
  · right
    have : p = (tb s).length := by omega
    subst this
    simp only [go1, Option.bind_some, eq_self, cond_true, cond_false, Nat.reduceAdd, Int.reduceEq, Int.reduceLT, Int.reduceLE, Int.reduceSub, Int.reduceAdd, size_tb, ilt_self]
    rw [List.take_length] at hall
    unfold nameN
    rw [hall, Bool.and_true]
    by_cases h0 : 0 < (tb s).length
    · rw [hfst h0, Bool.and_true]
      by_cases h12 : (tb s).length ≤ 12
      · rw [decT (p := 1 ≤ ((tb s).length : Int)) (by omega), decT (p := ((tb s).length : Int) ≤ 12) (by omega), decT (p := 1 ≤ (tb s).length) (by omega), decT h12]
        first | done | rfl
      · rw [decT (p := 1 ≤ ((tb s).length : Int)) (by omega), decF (p := ((tb s).length : Int) ≤ 12) (by omega), decF h12]
        first | done | rfl | simp
    · rw [decF (p := 1 ≤ ((tb s).length : Int)) (by omega), decF (p := 1 ≤ (tb s).length) (by omega)]
      first | done | rfl | simp
end Go.Vm
end

section
set_option linter.all false
set_option maxRecDepth 100000
set_option maxHeartbeats 2000000
namespace Go.Vm
open Go.Proofs
/-! ### rows of texts -/
def srow (s : ByteArray) : List D := [.str s]
def srows (l : List ByteArray) : List (List D) := l.map srow
theorem srows_len (l : List ByteArray) : (srows l).length = l.length := by simp [srows]
theorem srows_app (a b : List ByteArray) : srows a ++ srows b = srows (a ++ b) := by simp [srows]
theorem srows_row {l : List ByteArray} {i : Nat} {x : ByteArray} (h : l[i]? = some x) : sy.row (srows l) (i : Int) = [.str x] := by
  rw [sy_row, Int.toNat_natCast, List.getD_eq_getElem?_getD]
  unfold srows
  rw [List.getElem?_map, h]; rfl
theorem srows_at {l : List ByteArray} {i : Nat} {x : ByteArray} (h : l[i]? = some x) : sy.cell (sy.row (srows l) (i : Int)) 0 = some (.str x) := by rw [srows_row h]; rfl
/-! ### where a byte stands -/
def idxZ (c : Nat) (l : List Nat) : Int := match idxN c l with
  | none => -1
  | some i => i
theorem idxZ_lib (c : UInt8) : ∀ l : List UInt8, Lib.indexByte l c = idxZ c.toNat (l.map UInt8.toNat)
  | [] => rfl
  | b :: l => by
    unfold Lib.indexByte idxZ
    rw [List.map_cons, idxN]
    have ih := idxZ_lib c l
    by_cases h : b = c
    · subst h; simp
    · have h1 : ¬ b.toNat = c.toNat := fun e => h (UInt8.toNat_inj.1 e)
      have h2 : (b == c) = false := by simp [h]
      rw [h2, if_neg h1, ih]
      unfold idxZ
      cases idxN c.toNat (l.map UInt8.toNat) with
      | none => rfl
      | some i =>
        have : ((i : Int) == -1) = false := by rw [beq_eq_false_iff_ne]; omega
        simp [this]
theorem sidx_tb (s : ByteArray) (m : UInt8) : sy.sidx s ((m.toNat : Nat) : Int) = idxZ m.toNat (tb s) := by
  rw [sy_sidx, Int.toNat_natCast, idxZ_lib]
  have : m.toNat.toUInt8 = m := by simp
  rw [this]; rfl
theorem sbyte_bs (m : UInt8) : sy.sbyte (bs [m]) 0 = ((m.toNat : Nat) : Int) := rfl
theorem slen_bs (l : List UInt8) : ((bs l).size : Int) = l.length := by
  show ((l.toArray.size : Nat) : Int) = _
  simp
theorem c_liteIndex (s : ByteArray) (m : UInt8) : cF 242 [.d (.str s), .d (.str (bs [m]))] = some (.val [.int .i64 (idxZ m.toNat (tb s))]) := by
  have h72 : cF 266 [.d (.str s), .d (.int .u8 (sy.sbyte (bs [m]) 0))] = some (.val [.int .i64 (idxZ m.toNat (tb s))]) := by
    refine cOf (by kernel_rfl) rfl ?_
    rw [g266_eq]
    simp only [g266, go1, Option.bind_some, eq_self, cond_true, cond_false, Nat.reduceAdd, Int.reduceEq, Int.reduceLT, Int.reduceLE, Int.reduceSub, Int.reduceAdd]
    show some (PRes.val [D.int .i64 (sy.sidx s ((m.toNat : Nat) : Int))]) = _
    rw [sidx_tb]
  refine cOf (by kernel_rfl) rfl ?_
  rw [g242_eq]
  unfold g242
  have e1 : sy.ieq (sy.slen (bs [m])) 0 = false := rfl
  have e2 : sy.ieq (sy.slen (bs [m])) 1 = true := rfl
  have e3 : sy.inr 0 (sy.slen (bs [m])) = true := rfl
  rw [← eF_call] at h72
  cases h : sy.seq (bs [m]) s with
  | true =>
    have : tb (bs [m]) = tb s := by
      rw [sy_seq, seq_tb] at h; exact of_decide_eq_true h
    have hz : idxZ m.toNat (tb s) = 0 := by
      rw [← this]
      unfold idxZ tb bs
      simp [idxN]
    rw [hz]
    repeat' (first | with_reducible exact st_some | with_reducible apply st_cut | with_reducible apply st_bind | ((with_reducible apply st_t); (first | with_reducible exact e1 | with_reducible exact h | rfl)) | ((with_reducible apply st_f); (first | with_reducible exact e1 | with_reducible exact h | rfl)) | with_reducible apply st_lp | with_reducible apply st_inl | with_reducible exact st_inr | with_reducible apply st_opI | with_reducible apply st_opB | with_reducible apply st_opL | rfl)
  | false =>
    repeat' (first | with_reducible exact st_some | with_reducible apply st_cut | with_reducible apply st_bind | ((with_reducible apply st_t); (first | with_reducible exact e1 | with_reducible exact e2 | with_reducible exact e3 | with_reducible exact h | rfl)) | ((with_reducible apply st_f); (first | with_reducible exact e1 | with_reducible exact e2 | with_reducible exact e3 | with_reducible exact h | rfl)) | with_reducible apply st_lp | with_reducible apply st_inl | with_reducible exact st_inr | with_reducible apply st_opI | with_reducible apply st_opB | with_reducible apply st_opL | exact h72 | rfl)
theorem c_Index (s : ByteArray) (m : UInt8) : cF 200 [.d (.str s), .d (.str (bs [m]))] = some (.val [.int .i64 (idxZ m.toNat (tb s))]) := by
  have := c_liteIndex s m
  refine cOf (by kernel_rfl) rfl ?_
  rw [g200_eq]
  simp only [g200, go1, Option.bind_some, eq_self, cond_true, cond_false, Nat.reduceAdd, Int.reduceEq, Int.reduceLT, Int.reduceLE, Int.reduceSub, Int.reduceAdd, this]
theorem idxZ_bd (c : Nat) (l : List Nat) : idxZ c l = -1 ∧ idxN c l = none ∨ ∃ i : Nat, idxZ c l = i ∧ idxN c l = some i ∧ i < l.length := by
  unfold idxZ
  cases h : idxN c l with
  | none => exact .inl ⟨rfl, rfl⟩
  | some i => exact .inr ⟨i, rfl, rfl, (idxN_some h).1⟩
/-- What stands ahead of a byte, and behind it. -/
theorem c_Cut (s : ByteArray) (m : UInt8) (hs : s.size ≤ 100000) : ∃ a b f, cF 139 [.d (.str s), .d (.str (bs [m]))] = some (.val [.str a, .str b, .bool f]) ∧
    ((f = false ∧ idxN m.toNat (tb s) = none ∧ tb a = tb s) ∨ (f = true ∧ ∃ i, idxN m.toNat (tb s) = some i ∧ tb a = (tb s).take i ∧ tb b = (tb s).drop (i + 1))) := by
  have hI := c_liteIndex s m
  have hl := tb_len s
  rcases idxZ_bd m.toNat (tb s) with ⟨hz, hn⟩ | ⟨i, hz, hn, hi⟩
  · refine ⟨s, bs [], false, ?_, .inl ⟨rfl, hn, rfl⟩⟩
    rw [hz] at hI
    have h60 : cF 201 [.d (.str s), .d (.str (bs [m]))] = some (.val [.str s, .str (bs []), .bool false]) := by
      refine cOf (by kernel_rfl) rfl ?_
      rw [g201_eq]
      simp only [g201, go1, Option.bind_some, eq_self, cond_true, cond_false, Nat.reduceAdd, Int.reduceEq, Int.reduceLT, Int.reduceLE, Int.reduceSub, Int.reduceAdd, hI]
    refine cOf (by kernel_rfl) rfl ?_
    rw [g139_eq]
    simp only [g139, go1, Option.bind_some, eq_self, cond_true, cond_false, Nat.reduceAdd, Int.reduceEq, Int.reduceLT, Int.reduceLE, Int.reduceSub, Int.reduceAdd, h60]
  · rw [hz] at hI
    have h60 : cF 201 [.d (.str s), .d (.str (bs [m]))] = some (.val [.str (s.extract (0 : Int).toNat ((i : Nat) : Int).toNat), .str (s.extract ((i : Int) + 1).toNat ((s.size : Nat) : Int).toNat), .bool true]) := by
      refine cOf (by kernel_rfl) rfl ?_
      rw [g201_eq]
      simp only [g201, go1, Option.bind_some, eq_self, cond_true, cond_false, Nat.reduceAdd, Int.reduceEq, Int.reduceLT, Int.reduceLE, Int.reduceSub, Int.reduceAdd, hI, slen_bs]
      rw [decT (p := 0 ≤ (i : Int)) (by omega), decT (p := 0 ≤ (i : Int) ∧ (i : Int) ≤ (s.size : Int)) (by omega)]
      have hw : IntKind.i64.wrap ((i : Int) + ((([m] : List UInt8).length : Nat) : Int)) = (i : Int) + 1 := by
        rw [show ((([m] : List UInt8).length : Nat) : Int) = 1 from rfl, wrap_id (by omega) (by omega)]
      rw [hw, decT (p := 0 ≤ (i : Int) + 1 ∧ (i : Int) + 1 ≤ (s.size : Int) ∧ (s.size : Int) ≤ (s.size : Int)) (by omega)]
      rfl
    refine ⟨s.extract (0 : Int).toNat ((i : Nat) : Int).toNat, s.extract ((i : Int) + 1).toNat ((s.size : Nat) : Int).toNat, true, ?_, .inr ⟨rfl, i, hn, ?_, ?_⟩⟩
    · refine cOf (by kernel_rfl) rfl ?_
      rw [g139_eq]
      simp only [g139, go1, Option.bind_some, eq_self, cond_true, cond_false, Nat.reduceAdd, Int.reduceEq, Int.reduceLT, Int.reduceLE, Int.reduceSub, Int.reduceAdd, h60]
    · rw [tb_scut]; simp
    · rw [tb_scut]
      have e1 : ((i : Int) + 1).toNat = i + 1 := by omega
      rw [e1, Int.toNat_natCast, ← hl, List.take_length]
end Go.Vm
end

section
set_option linter.all false
set_option maxRecDepth 100000
set_option maxHeartbeats 4000000
namespace Go.Vm
open Go.Proofs
def wordsL : List ByteArray := [bs [110, 111, 100, 101], bs [114, 101, 116, 117, 114, 110, 115], bs [118, 97, 114], bs [108, 101, 116], bs [116, 101, 108], bs [101, 110, 117, 109], bs [105, 102], bs [116, 104, 101, 110], bs [101, 108, 115, 101], bs [102, 98, 121], bs [112, 114, 101], bs [119, 104, 101, 110], bs [109, 101, 114, 103, 101], bs [101, 118, 101, 114, 121], bs [110, 111, 116], bs [97, 110, 100], bs [111, 114], bs [120, 111, 114], bs [109, 111, 100], bs [116, 114, 117, 101], bs [102, 97, 108, 115, 101], bs [105, 110, 116], bs [98, 111, 111, 108], bs [119, 105, 116, 104]]
theorem wordsL_tb : wordsL.map tb = wordsB := by decide +kernel
theorem wordN_any (s : ByteArray) : wordN (tb s) = wordsL.any fun w => decide (tb s = tb w) := by
  unfold wordN
  rw [← wordsL_tb, List.contains_eq_any_beq, List.any_map]
  congr 1
  funext w
  rw [Bool.eq_iff_iff]; simp
theorem c_Word (s : ByteArray) : cF 162 [.d (.str s)] = some (.val [.bool (wordN (tb s))]) := by
  rw [wordN_any]
  refine cOf (by kernel_rfl) rfl ?_
  rw [g162_eq]
  simp only [g162, go1, Option.bind_some, eq_self, cond_true, cond_false, Nat.reduceAdd, Int.reduceEq, Int.reduceLT, Int.reduceLE, Int.reduceSub, Int.reduceAdd]
  unfold wordsL
  simp only [seq_tb, List.any_cons, List.any_nil, Bool.or_false]
  cases decide (tb s = tb (bs [110, 111, 100, 101])) <;> simp only [cond_true, cond_false, Bool.true_or, Bool.false_or]
  cases decide (tb s = tb (bs [114, 101, 116, 117, 114, 110, 115])) <;> simp only [cond_true, cond_false, Bool.true_or, Bool.false_or]
  cases decide (tb s = tb (bs [118, 97, 114])) <;> simp only [cond_true, cond_false, Bool.true_or, Bool.false_or]
  cases decide (tb s = tb (bs [108, 101, 116])) <;> simp only [cond_true, cond_false, Bool.true_or, Bool.false_or]
  cases decide (tb s = tb (bs [116, 101, 108])) <;> simp only [cond_true, cond_false, Bool.true_or, Bool.false_or]
  cases decide (tb s = tb (bs [101, 110, 117, 109])) <;> simp only [cond_true, cond_false, Bool.true_or, Bool.false_or]
  cases decide (tb s = tb (bs [105, 102])) <;> simp only [cond_true, cond_false, Bool.true_or, Bool.false_or]
  cases decide (tb s = tb (bs [116, 104, 101, 110])) <;> simp only [cond_true, cond_false, Bool.true_or, Bool.false_or]
  cases decide (tb s = tb (bs [101, 108, 115, 101])) <;> simp only [cond_true, cond_false, Bool.true_or, Bool.false_or]
  cases decide (tb s = tb (bs [102, 98, 121])) <;> simp only [cond_true, cond_false, Bool.true_or, Bool.false_or]
  cases decide (tb s = tb (bs [112, 114, 101])) <;> simp only [cond_true, cond_false, Bool.true_or, Bool.false_or]
  cases decide (tb s = tb (bs [119, 104, 101, 110])) <;> simp only [cond_true, cond_false, Bool.true_or, Bool.false_or]
  cases decide (tb s = tb (bs [109, 101, 114, 103, 101])) <;> simp only [cond_true, cond_false, Bool.true_or, Bool.false_or]
  cases decide (tb s = tb (bs [101, 118, 101, 114, 121])) <;> simp only [cond_true, cond_false, Bool.true_or, Bool.false_or]
  cases decide (tb s = tb (bs [110, 111, 116])) <;> simp only [cond_true, cond_false, Bool.true_or, Bool.false_or]
  cases decide (tb s = tb (bs [97, 110, 100])) <;> simp only [cond_true, cond_false, Bool.true_or, Bool.false_or]
  cases decide (tb s = tb (bs [111, 114])) <;> simp only [cond_true, cond_false, Bool.true_or, Bool.false_or]
  cases decide (tb s = tb (bs [120, 111, 114])) <;> simp only [cond_true, cond_false, Bool.true_or, Bool.false_or]
  cases decide (tb s = tb (bs [109, 111, 100])) <;> simp only [cond_true, cond_false, Bool.true_or, Bool.false_or]
  cases decide (tb s = tb (bs [116, 114, 117, 101])) <;> simp only [cond_true, cond_false, Bool.true_or, Bool.false_or]
  cases decide (tb s = tb (bs [102, 97, 108, 115, 101])) <;> simp only [cond_true, cond_false, Bool.true_or, Bool.false_or]
  cases decide (tb s = tb (bs [105, 110, 116])) <;> simp only [cond_true, cond_false, Bool.true_or, Bool.false_or]
  cases decide (tb s = tb (bs [98, 111, 111, 108])) <;> simp only [cond_true, cond_false, Bool.true_or, Bool.false_or]
  cases decide (tb s = tb (bs [119, 105, 116, 104])) <;> simp only [cond_true, cond_false, Bool.true_or, Bool.false_or]
theorem c_Low (s : ByteArray) : cF 95 [.d (.str s)] = some (.val [.bool (lowN (tb s))]) := by
  have h1 := c_name s
  have h2 := c_Word s
  refine cOf (by kernel_rfl) rfl ?_
  rw [g95_eq]
  simp only [g95, go1, Option.bind_some, eq_self, cond_true, cond_false, Nat.reduceAdd, Int.reduceEq, Int.reduceLT, Int.reduceLE, Int.reduceSub, Int.reduceAdd, h1, h2]
  rfl
theorem numN_bad {l : List Nat} {p : Nat} (hp : p < l.length) (hx : digitN (l.getD p 0) = false) : numN l = false := by
  unfold numN; rw [all_false hp hx, Bool.and_false]
theorem c_number (s : ByteArray) : cF 140 [.d (.str s)] = some (.val [.bool (numN (tb s))]) := by
  refine cOf (by kernel_rfl) rfl ?_
  rw [g140_eq]
  simp only [g140, go1, Option.bind_some, eq_self, cond_true, cond_false, Nat.reduceAdd, Int.reduceEq, Int.reduceLT, Int.reduceLE, Int.reduceSub, Int.reduceAdd]
  refine loopF_at (fun p : Nat => [.str s, .str s, .int .i64 (p : Int)]) (fun p => p ≤ (tb s).length ∧ ((tb s).take p).all digitN = true ∧ (0 < p → (tb s).getD 0 0 ≠ 48)) (fun p => (tb s).length - p) (fun p hp => ?_) 0 ⟨Nat.zero_le _, by simp, by omega⟩
  obtain ⟨hle, hall, hfst⟩ := hp
  by_cases hlt : p < (tb s).length
  · by_cases hc : (tb s).getD p 0 < 128
    · obtain ⟨e1, e2⟩ := dec_small hc
      simp only [go1, Option.bind_some, eq_self, cond_true, cond_false, Nat.reduceAdd, Int.reduceEq, Int.reduceLT, Int.reduceLE, Int.reduceSub, Int.reduceAdd, size_tb, ilt_at hlt, sy_rdec, sy_rwid, e1, e2, c_digit, inI_digit]
      cases hin : digitN ((tb s).getD p 0) with
      | false =>
        right
        rw [numN_bad hlt hin]
        simp only [go1, Option.bind_some, eq_self, cond_true, cond_false, Nat.reduceAdd, Int.reduceEq, Int.reduceLT, Int.reduceLE, Int.reduceSub, Int.reduceAdd]
      | true =>
        by_cases h0 : p = 0
        · subst h0
          by_cases h48 : (tb s).getD 0 0 = 48
          · right
            have : numN (tb s) = false := by unfold numN; rw [decT h48]; simp
            rw [this, decT (p := (((tb s).getD 0 0 : Nat) : Int) = 48) (by omega)]
            simp only [go1, Option.bind_some, eq_self, cond_true, cond_false, Nat.reduceAdd, Int.reduceEq, Int.reduceLT, Int.reduceLE, Int.reduceSub, Int.reduceAdd]; rfl
          · left
            refine ⟨0 + 1, ?_, ⟨hlt, all_snoc hlt hall hin, fun _ => h48⟩, by omega⟩
            rw [decF (p := (((tb s).getD 0 0 : Nat) : Int) = 48) (by omega)]
            simp only [go1, Option.bind_some, eq_self, cond_true, cond_false, Nat.reduceAdd, Int.reduceEq, Int.reduceLT, Int.reduceLE, Int.reduceSub, Int.reduceAdd]; rfl
        · left
          refine ⟨p + 1, ?_, ⟨hlt, all_snoc hlt hall hin, fun _ => hfst (by omega)⟩, by omega⟩
          rw [decF (p := (p : Int) = 0) (by omega)]
          simp only [go1, Option.bind_some, eq_self, cond_true, cond_false, Nat.reduceAdd, Int.reduceEq, Int.reduceLT, Int.reduceLE, Int.reduceSub, Int.reduceAdd]; rfl
    · have hb := dec_big (s := s) (i := p) (by omega)
      right
      have hin : digitN ((tb s).getD p 0) = false := by
        have : 128 ≤ (tb s).getD p 0 := by omega
        generalize (tb s).getD p 0 = c at this
        unfold digitN; simp; omega
      rw [numN_bad hlt hin]
      simp only [go1, Option.bind_some, eq_self, cond_true, cond_false, Nat.reduceAdd, Int.reduceEq, Int.reduceLT, Int.reduceLE, Int.reduceSub, Int.reduceAdd, size_tb, ilt_at hlt, sy_rdec, sy_rwid, c_digit, inI_big (a := 48) (b := 57) (n := decR s (p : Int)) (by omega)]
  · right
    have : p = (tb s).length := by omega
    subst this
    simp only [go1, Option.bind_some, eq_self, cond_true, cond_false, Nat.reduceAdd, Int.reduceEq, Int.reduceLT, Int.reduceLE, Int.reduceSub, Int.reduceAdd, size_tb, ilt_self]
    rw [List.take_length] at hall
    unfold numN
    rw [hall, Bool.and_true]
    by_cases h0 : 0 < (tb s).length
    · rw [decF (hfst h0), decT (p := 1 ≤ ((tb s).length : Int)) (by omega), decT (p := 1 ≤ (tb s).length) (by omega)]
      by_cases h3 : (tb s).length ≤ 3
      · rw [decT (p := ((tb s).length : Int) ≤ 3) (by omega), decT h3]; rfl
      · rw [decF (p := ((tb s).length : Int) ≤ 3) (by omega), decF h3]; rfl
    · rw [decF (p := 1 ≤ ((tb s).length : Int)) (by omega), decF (p := 1 ≤ (tb s).length) (by omega)]
      rfl
theorem c_part (s : ByteArray) (hs : s.size ≤ 100000) : cF 80 [.d (.str s)] = some (.val [.bool (partN (tb s))]) := by
  obtain ⟨a, b, f, h1, h2⟩ := c_Cut s 46 hs
  have h3 := c_Low a
  have h4 := c_number b
  rw [partN_cut]
  rcases h2 with ⟨rfl, hn, ha⟩ | ⟨rfl, i, hn, ha, hb⟩
  · rw [ha] at h3
    have hn : idxN 46 (tb s) = none := hn
    rw [hn]
    refine cOf (by kernel_rfl) rfl ?_
    rw [g80_eq]
    simp only [g80, go1, Option.bind_some, eq_self, cond_true, cond_false, Nat.reduceAdd, Int.reduceEq, Int.reduceLT, Int.reduceLE, Int.reduceSub, Int.reduceAdd, h1, h3]
    try (cases lowN (tb s) <;> rfl)
  · rw [ha] at h3
    rw [hb] at h4
    have hn : idxN 46 (tb s) = some i := hn
    rw [hn]
    refine cOf (by kernel_rfl) rfl ?_
    rw [g80_eq]
    simp only [g80, go1, Option.bind_some, eq_self, cond_true, cond_false, Nat.reduceAdd, Int.reduceEq, Int.reduceLT, Int.reduceLE, Int.reduceSub, Int.reduceAdd, h1, h3, h4]
    try (cases lowN ((tb s).take i) <;> rfl)
end Go.Vm
end

section
namespace Go.Vm
theorem loopF_ex {σ α : Type} {b : List D → Option (List D ⊕ α)} {Q : α → Prop} (mk : σ → List D) (I : σ → Prop) (μ : σ → Nat)
    (h : ∀ x, I x → (∃ y, b (mk x) = some (.inl (mk y)) ∧ I y ∧ μ y < μ x) ∨ ∃ r, b (mk x) = some (.inr r) ∧ Q r) (x : σ) (h0 : I x) : ∃ r, loopF b (mk x) = some r ∧ Q r := by
  suffices ∀ n x, μ x < n → I x → ∃ r, loopF b (mk x) = some r ∧ Q r from this _ x (Nat.lt_succ_self _) h0
  intro n
  induction n with
  | zero => intro x h; omega
  | succ n ih =>
    intro x hlt hi
    rw [loopF_eq]
    rcases h x hi with ⟨d, h1, h2, h3⟩ | ⟨r, h1, h2⟩
    · rw [h1]; exact ih d (by omega) h2
    · rw [h1]; exact ⟨r, rfl, h2⟩
theorem ex_t {α : Type} {c : Bool} {a b : Option α} {Q : α → Prop} (h : c = true) (k : ∃ p, a = some p ∧ Q p) : ∃ p, (bif c then a else b) = some p ∧ Q p := by rw [h]; exact k
theorem viaL {α : Type} {X : Option (List D ⊕ α)} {L L' : List D} (h : X = some (.inl L)) (e : L = L') : X = some (.inl L') := by rw [h, e]
theorem viaR {α : Type} {X : Option (List D ⊕ α)} {Q : α → Prop} {r : α} (h : X = some (.inr r)) (e : Q r) : ∃ r, X = some (.inr r) ∧ Q r := ⟨r, h, e⟩
end Go.Vm
end

section
set_option linter.all false
set_option maxRecDepth 100000
set_option maxHeartbeats 4000000
namespace Go.Vm
open Go.Proofs
theorem cnt_map (c : UInt8) : ∀ l : List UInt8, (l.map UInt8.toNat).count c.toNat = l.count c
  | [] => rfl
  | b :: l => by
    rw [List.map_cons, List.count_cons, List.count_cons, cnt_map c l]
    by_cases h : b = c
    · subst h; simp
    · have h1 : (b.toNat == c.toNat) = false := by
        rw [beq_eq_false_iff_ne]; exact fun e => h (UInt8.toNat_inj.1 e)
      have h2 : (b == c) = false := by simp [h]
      rw [h1, h2]
theorem scnt_tb (s : ByteArray) (m : UInt8) : sy.scnt s ((m.toNat : Nat) : Int) = (((tb s).count m.toNat : Nat) : Int) := by
  rw [sy_scnt, Int.toNat_natCast]
  have : m.toNat.toUInt8 = m := by simp
  rw [this]
  unfold Lib.countByte tb
  rw [cnt_map]
theorem c_Count (s : ByteArray) (m : UInt8) : cF 199 [.d (.str s), .d (.str (bs [m]))] = some (.val [.int .i64 (((tb s).count m.toNat : Nat) : Int)]) := by
  refine cOf (by kernel_rfl) rfl ?_
  rw [g199_eq]
  unfold g199
  have e1 : sy.ieq (sy.slen (bs [m])) 0 = false := rfl
  have e2 : sy.ieq (sy.slen (bs [m])) 1 = true := rfl
  have e3 : sy.inr 0 (sy.slen (bs [m])) = true := rfl
  rw [← scnt_tb]
  repeat' (first | with_reducible exact st_some | with_reducible apply st_cut | with_reducible apply st_bind | ((with_reducible apply st_t); (first | with_reducible exact e1 | with_reducible exact e2 | with_reducible exact e3 | rfl)) | ((with_reducible apply st_f); (first | with_reducible exact e1 | with_reducible exact e2 | with_reducible exact e3 | rfl)) | with_reducible apply st_lp | with_reducible apply st_inl | with_reducible exact st_inr | with_reducible apply st_opI | with_reducible apply st_opB | with_reducible apply st_opL | rfl)
theorem splitN_len (c : Nat) : ∀ l : List Nat, (splitN c l).length = l.count c + 1
  | [] => rfl
  | x :: xs => by
    unfold splitN
    have ih := splitN_len c xs
    rw [List.count_cons]
    by_cases h : x = c
    · subst h; simp [ih]
    · rw [if_neg h]
      have h2 : (x == c) = false := by simp [h]
      rw [h2]
      cases hq : splitN c xs with
      | nil => exact absurd hq (splitN_ne c xs)
      | cons p ps => rw [hq] at ih; simpa using ih
theorem cnt_idx {c : Nat} {l : List Nat} {j : Nat} (h : idxN c l = some j) : l.count c = (l.drop (j + 1)).count c + 1 := by
  obtain ⟨h1, h2, h3⟩ := idxN_some h
  conv => lhs; rw [h2]
  rw [List.count_append, List.count_cons, List.count_eq_zero.2 (fun hm => h3 c hm rfl)]
  simp
theorem cnt_none {c : Nat} {l : List Nat} (h : idxN c l = none) : l.count c = 0 := List.count_eq_zero.2 fun hm => idxN_none h c hm rfl
def zrow : List D := [.str (bs [])]
theorem rows_put (d : List ByteArray) (k : Nat) (x : ByteArray) : sy.rput (srows d ++ List.replicate (k + 1) zrow) d.length 0 [.str x] = srows (d ++ [x]) ++ List.replicate k zrow := by
  have hg : (srows d ++ List.replicate (k + 1) zrow).getD d.length [] = zrow := by
    rw [List.getD_eq_getElem?_getD, List.getElem?_append_right (by rw [srows_len]; exact Nat.le_refl _), srows_len, Nat.sub_self]
    simp
  show (srows d ++ List.replicate (k + 1) zrow).set d.length (((srows d ++ List.replicate (k + 1) zrow).getD d.length []).take 0 ++ [.str x] ++ ((srows d ++ List.replicate (k + 1) zrow).getD d.length []).drop (0 + 1)) = _
  rw [hg, List.set_append_right _ _ (by rw [srows_len]; exact Nat.le_refl _), srows_len, Nat.sub_self, List.replicate_succ]
  rw [show (zrow.take 0 ++ [D.str x] ++ zrow.drop (0 + 1)) = [D.str x] from rfl]
  simp [srows, srow]
theorem c_genSplit (s : ByteArray) (hs : s.size ≤ 100000) : ∃ p, cF 138 [.d (.str s), .d (.str (bs [47])), .d (.int .i64 0), .d (.int .i64 (-1))] = some p ∧ ∃ l : List ByteArray, p = .own 9 1 (srows l) ∧ l.map tb = splitN 47 (tb s) := by
  have hc := c_Count s 47
  have hI := fun r => c_Index r 47
  have hl := tb_len s
  have h47 : (47 : UInt8).toNat = 47 := rfl
  rw [h47] at hc
  have hcl : (tb s).count 47 ≤ (tb s).length := List.count_le_length
  refine cOfP (by kernel_rfl) rfl ?_
  rw [g138_eq]
  unfold g138
  generalize hN : (tb s).count 47 = N at hc hcl
  have hw : sy.imin (sy.wrap .i64 (sy.add ((N : Nat) : Int) 1)) (sy.wrap .i64 (sy.add (sy.slen s) 1)) = ((N + 1 : Nat) : Int) := by
    show min (IntKind.i64.wrap ((N : Int) + 1)) (IntKind.i64.wrap ((s.size : Int) + 1)) = _
    rw [wrap_id (by omega) (by omega), wrap_id (by omega) (by omega)]
    omega
  have z1 : sy.ieq (-1) 0 = false := rfl
  have z2 : sy.seq (bs [47]) (bs []) = false := by rw [sy_seq, seq_tb]; rfl
  have z3 : sy.ilt (-1) 0 = true := rfl
  simp only [z1, z2, z3, cond_true, cond_false, eF_call, hc, Option.bind_some, leaves_val, sy_cell0, opI_int, hw]
  have z4 : sy.mkok ((N + 1 : Nat) : Int) ((N + 1 : Nat) : Int) 16 = true := decide_eq_true ⟨rfl, by omega, by omega⟩
  rw [z4, cond_true, eF_lp]
  have z5 : sy.wrap .i64 (sy.sub ((N + 1 : Nat) : Int) 1) = (N : Int) := by
    show IntKind.i64.wrap (((N + 1 : Nat) : Int) - 1) = _
    rw [wrap_id (by omega) (by omega)]; omega
  rw [z5]
  have z6 : sy.rep ((N + 1 : Nat) : Int) [D.str (bs [])] = srows [] ++ List.replicate (N + 1) zrow := by
    rw [sy_rep, Int.toNat_natCast]; rfl
  rw [z6]
  refine loopF_ex (fun x : List ByteArray × ByteArray × Nat => [.str x.2.1, .str (bs [47]), .int .i64 0, .int .i64 (N : Int), .int .i64 (x.1.length : Int), .sl 1 (srows x.1 ++ List.replicate (x.2.2 + 1) zrow)])
    (fun x => splitN 47 (tb s) = x.1.map tb ++ splitN 47 (tb x.2.1) ∧ x.2.2 = (tb x.2.1).count 47 ∧ x.1.length + x.2.2 = N ∧ x.2.1.size ≤ 100000) (fun x => (tb x.2.1).length) (fun x hx => ?_) ([], s, N) ⟨rfl, hN.symm, by simp, hs⟩
  obtain ⟨done, rest, k⟩ := x
  obtain ⟨h1, hk, h2, h3⟩ := hx
  simp only at h1 hk h2 h3
  have hr := tb_len rest
  have hIr := hI rest
  rw [h47] at hIr
  have hput := rows_put done k
  have f2 : sy.inr (done.length : Int) (sy.rlen (srows done ++ List.replicate (k + 1) zrow)) = true := decide_eq_true (by
    rw [sy_rlen, List.length_append, srows_len, List.length_replicate]; omega)
  have f3 : sy.inrn (sy.nat (done.length : Int)) (srows done ++ List.replicate (k + 1) zrow) = true := decide_eq_true (by
    rw [List.length_append, srows_len, List.length_replicate]; show (done.length : Int).toNat < _; omega)
  have hw1 : sy.wrap .i64 (sy.add (done.length : Int) 1) = ((done.length + 1 : Nat) : Int) := by
    show IntKind.i64.wrap ((done.length : Int) + 1) = _
    rw [wrap_id (by omega) (by omega)]; rfl
  have hnat : sy.nat (done.length : Int) = done.length := Int.toNat_natCast _
  rcases idxZ_bd 47 (tb rest) with ⟨hz, hn⟩ | ⟨j, hz, hn, hj⟩
  · right
    have hk0 := cnt_none hn
    rw [hk0] at hk
    subst hk
    have f1 : sy.ilt (done.length : Int) (N : Int) = false := decide_eq_false (by omega)
    have f4 : sy.cutok 0 (sy.wrap .i64 (sy.add (done.length : Int) 1)) (sy.rlen (sy.rput (srows done ++ List.replicate (0 + 1) zrow) (sy.nat (done.length : Int)) 0 [.str rest])) = true := by
      rw [hw1, hnat, hput]
      exact decide_eq_true (by rw [sy_rlen, List.length_append, srows_len, List.length_append]; simp; omega)
    apply viaR
    · repeat' (first | with_reducible exact st_some | with_reducible apply st_cut | with_reducible apply st_bind | ((with_reducible apply st_t); (first | with_reducible exact f1 | with_reducible exact f2 | with_reducible exact f3 | with_reducible exact f4 | rfl)) | ((with_reducible apply st_f); (first | with_reducible exact f1 | with_reducible exact f2 | with_reducible exact f3 | with_reducible exact f4 | rfl)) | with_reducible apply st_lp | with_reducible apply st_inl | with_reducible exact st_inr | with_reducible apply st_opI | with_reducible apply st_opB | with_reducible apply st_opL | rfl)
    · refine ⟨done ++ [rest], ?_, ?_⟩
      · rw [hw1, hnat, hput]
        show PRes.own 9 1 ((srows (done ++ [rest]) ++ List.replicate 0 zrow).take ((done.length + 1 : Nat) : Int).toNat) = _
        rw [List.replicate_zero, List.append_nil, Int.toNat_natCast, List.take_of_length_le (by rw [srows_len]; simp)]
      · rw [h1, splitN_none 47 _ (idxN_none hn)]; simp
  · left
    have hc2 := cnt_idx hn
    have hd := tb_scut rest ((j : Int) + 1) (rest.size : Int)
    have hd0 := tb_scut rest 0 (j : Int)
    have e1 : ((j : Int) + 1).toNat = j + 1 := by omega
    rw [e1, Int.toNat_natCast, ← hr, List.take_length] at hd
    rw [Int.toNat_natCast] at hd0
    have hw2 : sy.wrap .i64 (sy.add (j : Int) 0) = (j : Int) := by
      show IntKind.i64.wrap ((j : Int) + 0) = _
      rw [wrap_id (by omega) (by omega)]; omega
    have hw3 : sy.wrap .i64 (sy.add (j : Int) (sy.slen (bs [47]))) = (j : Int) + 1 := by
      show IntKind.i64.wrap ((j : Int) + 1) = _
      rw [wrap_id (by omega) (by omega)]
    have f1 : sy.ilt (done.length : Int) (N : Int) = true := decide_eq_true (by omega)
    have g1 : sy.ilt (j : Int) 0 = false := decide_eq_false (show ¬ (j : Int) < 0 by omega)
    have g2 : sy.cutok 0 (sy.wrap .i64 (sy.add (j : Int) 0)) (sy.slen rest) = true := by
      rw [hw2]; exact decide_eq_true (by rw [sy_slen]; omega)
    have g3 : sy.cutok (sy.wrap .i64 (sy.add (j : Int) (sy.slen (bs [47])))) (sy.slen rest) (sy.slen rest) = true := by
      rw [hw3]; exact decide_eq_true (by rw [sy_slen]; omega)
    rw [hz] at hIr
    obtain ⟨k', rfl⟩ : ∃ k', k = k' + 1 := ⟨k - 1, by omega⟩
    refine ⟨(done ++ [rest.extract (0 : Int).toNat (j : Int).toNat], rest.extract (j + 1) (tb rest).length, k'), ?_, ⟨?_, ?_, ?_, ?_⟩, ?_⟩
    · apply viaL
      · repeat' (first | with_reducible exact st_some | with_reducible apply st_cut | with_reducible apply st_bind | ((with_reducible apply st_t); (first | with_reducible exact f1 | with_reducible exact f2 | with_reducible exact f3 | with_reducible exact g1 | with_reducible exact g2 | with_reducible exact g3 | rfl)) | ((with_reducible apply st_f); (first | with_reducible exact f1 | with_reducible exact f2 | with_reducible exact f3 | with_reducible exact g1 | with_reducible exact g2 | with_reducible exact g3 | rfl)) | with_reducible apply st_lp | with_reducible apply st_inl | with_reducible exact st_inr | with_reducible apply st_opI | with_reducible apply st_opB | with_reducible apply st_opL | exact hIr | rfl)
      · rw [hw1, hw2, hw3, hnat, hput]
        simp only [sy_scut, sy_slen, e1, Int.toNat_natCast, hr, List.length_append, List.length_singleton]
    · rw [h1]
      simp only [List.map_append, List.map_cons, List.map_nil]
      rw [show (j : Int).toNat = j from Int.toNat_natCast j] at *
      rw [hd0, hd]
      obtain ⟨i1, i2, i3⟩ := idxN_some hn
      conv => lhs; rw [i2, splitN_mark 47 _ _ i3]
      simp
    · simp only; rw [hd]; omega
    · simp; omega
    · simp only
      have := tb_len (rest.extract (j + 1) (tb rest).length)
      rw [← this, hd, List.length_drop]; omega
    · simp only
      rw [hd, List.length_drop]; omega
theorem c_Split (s : ByteArray) (hs : s.size ≤ 100000) : ∃ l : List ByteArray, cF 79 [.d (.str s), .d (.str (bs [47]))] = some (.val [.sl 1 (srows l)]) ∧ l.map tb = splitN 47 (tb s) := by
  obtain ⟨_, h, l, rfl, hl⟩ := c_genSplit s hs
  refine ⟨l, ?_, hl⟩
  refine cOf (by kernel_rfl) rfl ?_
  rw [g79_eq]
  simp only [g79, go1, Option.bind_some, eq_self, cond_true, cond_false, Nat.reduceAdd, Int.reduceEq, Int.reduceLT, Int.reduceLE, Int.reduceSub, Int.reduceAdd, h]
theorem mem_size {s : ByteArray} {l : List ByteArray} (hl : l.map tb = splitN 47 (tb s)) : ∀ x ∈ l, x.size ≤ s.size := by
  have key : ∀ (c : Nat) (t : List Nat), ∀ p ∈ splitN c t, p.length ≤ t.length := by
    intro c t
    induction t with
    | nil => intro p hp; simp [splitN] at hp; simp [hp]
    | cons x xs ih =>
      intro p hp
      unfold splitN at hp
      split at hp
      · rcases List.mem_cons.1 hp with rfl | hp
        · simp
        · have := ih p hp; simp; omega
      · split at hp
        · simp at hp; simp [hp]
        · rename_i q qs hq
          rcases List.mem_cons.1 hp with rfl | hp
          · have := ih q (by rw [hq]; exact List.mem_cons_self); simp; omega
          · have := ih p (by rw [hq]; exact List.mem_cons_of_mem _ hp); simp; omega
  intro x hx
  have := key 47 (tb s) (tb x) (by rw [← hl]; exact List.mem_map_of_mem hx)
  rw [tb_len, tb_len] at this
  exact this
theorem c_Path (s : ByteArray) (hs : s.size ≤ 100000) : cF 38 [.d (.str s)] = some (.val [.bool (pathN (tb s))]) := by
  obtain ⟨l, h, hl⟩ := c_Split s hs
  have hsz := mem_size hl
  have hll : l.length ≤ 100001 := by
    have := congrArg List.length hl
    rw [List.length_map, splitN_len] at this
    have h2 : (tb s).count 47 ≤ (tb s).length := List.count_le_length
    rw [tb_len] at h2
    omega
  unfold pathN
  rw [← hl, List.all_map]
  refine cOf (by kernel_rfl) rfl ?_
  rw [g38_eq]
  simp only [g38, go1, Option.bind_some, eq_self, cond_true, cond_false, Nat.reduceAdd, Int.reduceEq, Int.reduceLT, Int.reduceLE, Int.reduceSub, Int.reduceAdd, h, srows_len]
  refine loopF_at (fun i : Nat => [.sl 1 (srows l), .int .i64 (l.length : Int), .int .i64 (i : Int)]) (fun i => i ≤ l.length ∧ (l.take i).all (partN ∘ tb) = true) (fun i => l.length - i) (fun i hi => ?_) 0 ⟨Nat.zero_le _, by simp⟩
  by_cases hlt : i < l.length
  · have hx := List.getElem?_eq_getElem hlt
    have hp := c_part l[i] (Nat.le_trans (hsz _ (List.getElem_mem hlt)) hs)
    have hgd : l.getD i ByteArray.empty = l[i] := by rw [List.getD_eq_getElem?_getD, hx]; rfl
    simp only [go1, Option.bind_some, eq_self, cond_true, cond_false, Nat.reduceAdd, Int.reduceEq, Int.reduceLT, Int.reduceLE, Int.reduceSub, Int.reduceAdd, srows_len, ilt_at hlt, inr_at hlt, srows_at hx, hp, wrap_succ hlt (by omega)]
    cases hb : partN (tb l[i]) with
    | false =>
      right
      rw [all_false (d := ByteArray.empty) hlt (by rw [hgd]; exact hb)]
      simp only [go1, Option.bind_some, eq_self, cond_true, cond_false, Nat.reduceAdd, Int.reduceEq, Int.reduceLT, Int.reduceLE, Int.reduceSub, Int.reduceAdd]
    | true =>
      left
      refine ⟨i + 1, ?_, ⟨hlt, all_snoc (d := ByteArray.empty) hlt hi.2 (by rw [hgd]; exact hb)⟩, by omega⟩
      simp only [go1, Option.bind_some, eq_self, cond_true, cond_false, Nat.reduceAdd, Int.reduceEq, Int.reduceLT, Int.reduceLE, Int.reduceSub, Int.reduceAdd]; rfl
  · right
    have : i = l.length := by omega
    subst this
    simp only [go1, Option.bind_some, eq_self, cond_true, cond_false, Nat.reduceAdd, Int.reduceEq, Int.reduceLT, Int.reduceLE, Int.reduceSub, Int.reduceAdd, ilt_self]
    rw [List.take_length] at hi
    rw [hi.2]
end Go.Vm
end

section
set_option linter.all false
set_option maxRecDepth 100000
set_option maxHeartbeats 4000000
namespace Go.Vm
open Go.Proofs
theorem byte_tb (s : ByteArray) (i : Nat) : (s.data.getD ((i : Nat) : Int).toNat 0).toNat = (tb s).getD i 0 := by rw [tb_getD, Int.toNat_natCast]
theorem byte_tb0 (s : ByteArray) : (s.data.getD (Int.toNat 0) 0).toNat = (tb s).getD 0 0 := by rw [tb_getD]; rfl
theorem c_rWord (s : ByteArray) : cF 109 [.d (.str s)] = some (.val [.bool (wordN (tb s))]) := by
  have h65 : cF 171 [] = some (.own 9 1 (srows wordsL)) := by
    refine cOf (by kernel_rfl) rfl ?_
    rw [g171_eq]
    simp only [g171, go1, Option.bind_some, eq_self, cond_true, cond_false, Nat.reduceAdd, Int.reduceEq, Int.reduceLT, Int.reduceLE, Int.reduceSub, Int.reduceAdd]
    rfl
  rw [wordN_any]
  refine cOf (by kernel_rfl) rfl ?_
  rw [g109_eq]
  simp only [g109, go1, Option.bind_some, eq_self, cond_true, cond_false, Nat.reduceAdd, Int.reduceEq, Int.reduceLT, Int.reduceLE, Int.reduceSub, Int.reduceAdd, h65]
  refine loopF_at (fun i : Nat => [.str s, .sl 1 (srows wordsL), .int .i64 (i : Int)]) (fun i => i ≤ wordsL.length ∧ (wordsL.take i).any (fun w => decide (tb s = tb w)) = false) (fun i => wordsL.length - i) (fun i hi => ?_) 0 ⟨Nat.zero_le _, by simp⟩
  have hwl : wordsL.length = 24 := rfl
  by_cases hlt : i < wordsL.length
  · have hx := List.getElem?_eq_getElem hlt
    simp only [go1, Option.bind_some, eq_self, cond_true, cond_false, Nat.reduceAdd, Int.reduceEq, Int.reduceLT, Int.reduceLE, Int.reduceSub, Int.reduceAdd, srows_len, ilt_at hlt, inr_at hlt, srows_at hx, seq_tb, wrap_succ hlt (by omega)]
    by_cases he : tb wordsL[i] = tb s
    · right
      rw [decT he, List.any_eq_true.2 ⟨wordsL[i], List.getElem_mem hlt, decT he.symm⟩]
      rfl
    · left
      refine ⟨i + 1, ?_, ⟨hlt, ?_⟩, by omega⟩
      · rw [decF he]; rfl
      · rw [List.take_add_one, List.any_append, hi.2, hx]
        simp; exact fun e => he e.symm
  · right
    have : i = wordsL.length := by omega
    subst this
    simp only [go1, Option.bind_some, eq_self, cond_true, cond_false, Nat.reduceAdd, Int.reduceEq, Int.reduceLT, Int.reduceLE, Int.reduceSub, Int.reduceAdd, srows_len, ilt_self]
    rw [List.take_length] at hi
    rw [hi.2]
theorem c_rname (s : ByteArray) (hs : s.size ≤ 100000) : cF 108 [.d (.str s), .d (.int .u8 97), .d (.int .u8 122)] = some (.val [.bool (nameN smallN (tb s))]) := by
  have hl := tb_len s
  by_cases h1 : 1 ≤ (tb s).length ∧ (tb s).length ≤ 12
  · have hc := c_in (((tb s).getD 0 0 : Nat) : Int) 97 122
    rw [inI_small] at hc
    refine cOf (by kernel_rfl) rfl ?_
    rw [g108_eq]
    simp only [g108, go1, Option.bind_some, eq_self, cond_true, cond_false, Nat.reduceAdd, Int.reduceEq, Int.reduceLT, Int.reduceLE, Int.reduceSub, Int.reduceAdd, size_tb, byte_tb0, hc]
    rw [decF (p := ((tb s).length : Int) < 1) (by omega), decF (p := 12 < ((tb s).length : Int)) (by omega), decT (p := 0 < ((tb s).length : Int)) (by omega)]
    cases hs0 : smallN ((tb s).getD 0 0) with
    | false => rw [nameN_first hs0]; rfl
    | true =>
      simp only [go1, Option.bind_some, eq_self, cond_true, cond_false, Nat.reduceAdd, Int.reduceEq, Int.reduceLT, Int.reduceLE, Int.reduceSub, Int.reduceAdd]
      refine loopF_at (fun p : Nat => [.str s, .int .i64 (p : Int)]) (fun p => p ≤ (tb s).length ∧ ((tb s).take p).all innerN = true) (fun p => (tb s).length - p) (fun p hp => ?_) 0 ⟨Nat.zero_le _, by simp⟩
      by_cases hlt : p < (tb s).length
      · have hi := inner_def ((tb s).getD p 0)
        simp only [go1, Option.bind_some, eq_self, cond_true, cond_false, Nat.reduceAdd, Int.reduceEq, Int.reduceLT, Int.reduceLE, Int.reduceSub, Int.reduceAdd, size_tb, ilt_at hlt, inr_at hlt, byte_tb, c_in, inI_small, inI_great, inI_digit, wrap_succ hlt (by omega)]
        cases hin : innerN ((tb s).getD p 0) with
        | false =>
          right
          rw [nameN_bad hlt hin]
          rw [hin] at hi
          have hi := hi.symm
          simp only [Bool.or_eq_false_iff] at hi
          obtain ⟨⟨⟨i1, i2⟩, i3⟩, i4⟩ := hi
          have i4' : ¬ (((tb s).getD p 0 : Nat) : Int) = 95 := by
            have := of_decide_eq_false i4; omega
          rw [decF i4']
          simp only [i1, i2, i3, go1, Option.bind_some, eq_self, cond_true, cond_false, Nat.reduceAdd, Int.reduceEq, Int.reduceLT, Int.reduceLE, Int.reduceSub, Int.reduceAdd]
          try rfl
        | true =>
          left
          refine ⟨p + 1, ?_, ⟨hlt, all_snoc hlt hp.2 hin⟩, by omega⟩
          rw [hin] at hi
          cases i1 : smallN ((tb s).getD p 0) <;> cases i2 : greatN ((tb s).getD p 0) <;> cases i3 : digitN ((tb s).getD p 0) <;> rw [i1, i2, i3] at hi <;> simp only [go1, Option.bind_some, eq_self, cond_true, cond_false, Nat.reduceAdd, Int.reduceEq, Int.reduceLT, Int.reduceLE, Int.reduceSub, Int.reduceAdd] <;> (try rfl)
          all_goals
            simp only [Bool.or_self, Bool.false_or] at hi
            have i4 := of_decide_eq_true hi.symm
            rw [decT (p := (((tb s).getD p 0 : Nat) : Int) = 95) (by omega)]
            rfl
      · right
        have : p = (tb s).length := by omega
        subst this
        simp only [go1, Option.bind_some, eq_self, cond_true, cond_false, Nat.reduceAdd, Int.reduceEq, Int.reduceLT, Int.reduceLE, Int.reduceSub, Int.reduceAdd, size_tb, ilt_self]
        rw [List.take_length] at hp
        unfold nameN
        rw [hp.2, hs0, decT h1.1, decT h1.2]
        rfl
  · have hn : nameN smallN (tb s) = false := by
      unfold nameN
      by_cases h : 1 ≤ (tb s).length
      · rw [decF (p := (tb s).length ≤ 12) (by omega)]; simp
      · rw [decF h]; simp
    rw [hn]
    refine cOf (by kernel_rfl) rfl ?_
    rw [g108_eq]
    simp only [g108, go1, Option.bind_some, eq_self, cond_true, cond_false, Nat.reduceAdd, Int.reduceEq, Int.reduceLT, Int.reduceLE, Int.reduceSub, Int.reduceAdd, size_tb]
    by_cases h : 1 ≤ (tb s).length
    · rw [decT (p := 12 < ((tb s).length : Int)) (by omega)]; simp only [go1, Option.bind_some, eq_self, cond_true, cond_false, Nat.reduceAdd, Int.reduceEq, Int.reduceLT, Int.reduceLE, Int.reduceSub, Int.reduceAdd]; try rfl
    · rw [decT (p := ((tb s).length : Int) < 1) (by omega)]; simp only [go1, Option.bind_some, eq_self, cond_true, cond_false, Nat.reduceAdd, Int.reduceEq, Int.reduceLT, Int.reduceLE, Int.reduceSub, Int.reduceAdd]; try rfl
theorem c_rLow (s : ByteArray) (hs : s.size ≤ 100000) : cF 52 [.d (.str s)] = some (.val [.bool (lowN (tb s))]) := by
  have h1 := c_rname s hs
  have h2 := c_rWord s
  refine cOf (by kernel_rfl) rfl ?_
  rw [g52_eq]
  simp only [g52, go1, Option.bind_some, eq_self, cond_true, cond_false, Nat.reduceAdd, Int.reduceEq, Int.reduceLT, Int.reduceLE, Int.reduceSub, Int.reduceAdd, h1, h2]
  rfl
end Go.Vm
end

section
set_option linter.all false
set_option maxRecDepth 100000
set_option maxHeartbeats 4000000
namespace Go.Vm
open Go.Proofs
theorem drop_at {l : List Nat} {f i : Nat} (hf : f ≤ i) (hi : i < l.length) : l.drop f = (l.take i).drop f ++ l.getD i 0 :: l.drop (i + 1) := by
  have h1 : l = l.take i ++ l.getD i 0 :: l.drop (i + 1) := by
    rw [List.getD_eq_getElem?_getD, List.getElem?_eq_getElem hi]
    simp only [Option.getD_some]
    rw [List.getElem_cons_drop hi, List.take_append_drop]
  conv => lhs; rw [h1]
  rw [List.drop_append_of_le_length (by rw [List.length_take]; omega)]
theorem take_drop_snoc {l : List Nat} {f i : Nat} (hf : f ≤ i) (hi : i < l.length) : (l.take (i + 1)).drop f = (l.take i).drop f ++ [l.getD i 0] := by
  rw [List.take_add_one, List.getElem?_eq_getElem hi, List.getD_eq_getElem?_getD, List.getElem?_eq_getElem hi]
  simp only [Option.toList_some, Option.getD_some]
  rw [List.drop_append_of_le_length (by rw [List.length_take]; omega)]
theorem c_rcut (s : ByteArray) (c : Nat) (hs : s.size ≤ 100000) : ∃ l : List ByteArray, cF 168 [.d (.str s), .d (.int .u8 (c : Int))] = some (.own 9 1 (srows l)) ∧ l.map tb = splitN c (tb s) := by
  have hl := tb_len s
  suffices ∃ p, cF 168 [.d (.str s), .d (.int .u8 (c : Int))] = some p ∧ ∃ l : List ByteArray, p = .own 9 1 (srows l) ∧ l.map tb = splitN c (tb s) by
    obtain ⟨_, h, l, rfl, hl⟩ := this
    exact ⟨l, h, hl⟩
  refine cOfP (by kernel_rfl) rfl ?_
  rw [g168_eq]
  simp only [g168, go1, Option.bind_some, eq_self, cond_true, cond_false, Nat.reduceAdd, Int.reduceEq, Int.reduceLT, Int.reduceLE, Int.reduceSub, Int.reduceAdd]
  refine loopF_ex (fun x : List ByteArray × Nat × Nat => [.str s, .int .u8 (c : Int), .int .i64 (x.2.1 : Int), .int .i64 (x.2.2 : Int), .sl 1 (srows x.1)])
    (fun x => x.1.length ≤ x.2.2 ∧ ((x.2.2 ≤ (tb s).length ∧ x.2.1 ≤ x.2.2 ∧ splitN c (tb s) = x.1.map tb ++ splitN c ((tb s).drop x.2.1) ∧ ∀ y ∈ ((tb s).take x.2.2).drop x.2.1, y ≠ c) ∨ (x.2.2 = (tb s).length + 1 ∧ x.1.map tb = splitN c (tb s)))) (fun x => (tb s).length + 1 - x.2.2) (fun x hx => ?_) ([], 0, 0) ⟨Nat.le_refl _, .inl ⟨Nat.zero_le _, Nat.le_refl _, rfl, by simp⟩⟩
  obtain ⟨done, f, i⟩ := x
  obtain ⟨hd, hx⟩ := hx
  simp only at hd hx
  rcases hx with ⟨hi, hf, h1, h2⟩ | ⟨hi, h1⟩
  · have hw : IntKind.i64.wrap ((i : Int) + 1) = ((i + 1 : Nat) : Int) := by rw [wrap_id (by omega) (by omega)]; rfl
    have hfit : decide ((done.length + 1) * (16 + 1) ≤ 140737488355328) = true := decT (by omega)
    by_cases hlt : i < (tb s).length
    · simp only [go1, Option.bind_some, eq_self, cond_true, cond_false, Nat.reduceAdd, Int.reduceEq, Int.reduceLT, Int.reduceLE, Int.reduceSub, Int.reduceAdd, size_tb, byte_tb, srows_len, hw]
      rw [decT (p := (i : Int) ≤ ((tb s).length : Int)) (by omega), decF (p := (i : Int) = ((tb s).length : Int)) (by omega), decT (p := 0 ≤ (i : Int) ∧ (i : Int) < ((tb s).length : Int)) (by omega)]
      by_cases hc : (tb s).getD i 0 = c
      · left
        refine ⟨(done ++ [s.extract (f : Int).toNat (i : Int).toNat], i + 1, i + 1), ?_, ⟨?_, .inl ⟨hlt, Nat.le_refl _, ?_, ?_⟩⟩, (by show (tb s).length + 1 - (i + 1) < (tb s).length + 1 - i; omega)⟩
        · rw [decT (p := (((tb s).getD i 0 : Nat) : Int) = (c : Int)) (by omega), decT (p := 0 ≤ (f : Int) ∧ (f : Int) ≤ (i : Int) ∧ (i : Int) ≤ ((tb s).length : Int)) (by omega)]
          simp only [go1, Option.bind_some, eq_self, cond_true, cond_false, Nat.reduceAdd, Int.reduceEq, Int.reduceLT, Int.reduceLE, Int.reduceSub, Int.reduceAdd, List.length_singleton, hfit, srows, List.map_append, List.map_cons, List.map_nil, srow]
        · simp; omega
        · simp only
          rw [h1, drop_at hf hlt, hc, splitN_mark c _ _ h2, List.map_append, List.map_cons, List.map_nil, tb_scut, Int.toNat_natCast, Int.toNat_natCast]
          simp
        · intro y hy
          simp only at hy
          rw [List.drop_of_length_le (by rw [List.length_take]; omega)] at hy
          simp at hy
      · left
        refine ⟨(done, f, i + 1), ?_, ⟨(by show done.length ≤ i + 1; omega), .inl ⟨hlt, (by show f ≤ i + 1; omega), h1, ?_⟩⟩, (by show (tb s).length + 1 - (i + 1) < (tb s).length + 1 - i; omega)⟩
        · rw [decF (p := (((tb s).getD i 0 : Nat) : Int) = (c : Int)) (by omega)]
          simp only [go1, Option.bind_some, eq_self, cond_true, cond_false, Nat.reduceAdd, Int.reduceEq, Int.reduceLT, Int.reduceLE, Int.reduceSub, Int.reduceAdd]; try rfl
        · intro y hy
          simp only at hy
          rw [take_drop_snoc hf hlt] at hy
          rcases List.mem_append.1 hy with hy | hy
          · exact h2 y hy
          · simp at hy; rw [hy]; simpa using hc
    · have hie : i = (tb s).length := by omega
      left
      refine ⟨(done ++ [s.extract (f : Int).toNat (i : Int).toNat], i + 1, i + 1), ?_, ⟨(by simp; omega), .inr ⟨(by show i + 1 = (tb s).length + 1; omega), ?_⟩⟩, (by show (tb s).length + 1 - (i + 1) < (tb s).length + 1 - i; omega)⟩
      · simp only [go1, Option.bind_some, eq_self, cond_true, cond_false, Nat.reduceAdd, Int.reduceEq, Int.reduceLT, Int.reduceLE, Int.reduceSub, Int.reduceAdd, size_tb, srows_len, hw]
        rw [decT (p := (i : Int) ≤ ((tb s).length : Int)) (by omega), decT (p := (i : Int) = ((tb s).length : Int)) (by omega), decT (p := 0 ≤ (f : Int) ∧ (f : Int) ≤ (i : Int) ∧ (i : Int) ≤ ((tb s).length : Int)) (by omega)]
        simp only [go1, Option.bind_some, eq_self, cond_true, cond_false, Nat.reduceAdd, Int.reduceEq, Int.reduceLT, Int.reduceLE, Int.reduceSub, Int.reduceAdd, List.length_singleton, hfit, srows, List.map_append, List.map_cons, List.map_nil, srow]
      · simp only
        rw [hie, List.take_length] at h2
        rw [h1, splitN_none c _ h2, List.map_append, List.map_cons, List.map_nil, tb_scut, Int.toNat_natCast, Int.toNat_natCast, hie, List.take_length]
  · right
    simp only [go1, Option.bind_some, eq_self, cond_true, cond_false, Nat.reduceAdd, Int.reduceEq, Int.reduceLT, Int.reduceLE, Int.reduceSub, Int.reduceAdd, size_tb]
    rw [decF (p := (i : Int) ≤ ((tb s).length : Int)) (by omega)]
    exact ⟨_, rfl, done, rfl, h1⟩
theorem num_split (l : List Nat) : numN l = (!(decide (l.length < 1) || decide (3 < l.length) || decide (l.getD 0 0 = 48)) && l.all digitN) := by
  unfold numN
  by_cases h1 : 1 ≤ l.length
  · by_cases h3 : l.length ≤ 3
    · rw [decT h1, decT h3, decF (p := l.length < 1) (by omega), decF (p := 3 < l.length) (by omega)]; simp
    · rw [decT h1, decF h3, decF (p := l.length < 1) (by omega), decT (p := 3 < l.length) (by omega)]; simp
  · rw [decF h1, decT (p := l.length < 1) (by omega)]; simp
theorem c_rPath (s : ByteArray) (hs : s.size ≤ 100000) : cF 105 [.d (.str s)] = some (.val [.bool (pathN (tb s))]) := by
  obtain ⟨l, h, hl⟩ := c_rcut s 47 hs
  have hsz := mem_size hl
  have hll : l.length ≤ 100001 := by
    have := congrArg List.length hl
    rw [List.length_map, splitN_len] at this
    have h2 : (tb s).count 47 ≤ (tb s).length := List.count_le_length
    rw [tb_len] at h2
    omega
  unfold pathN
  rw [← hl, List.all_map]
  have h : cF 168 [.d (.str s), .d (.int .u8 47)] = _ := h
  refine cOf (by kernel_rfl) rfl ?_
  rw [g105_eq]
  simp only [g105, go1, Option.bind_some, eq_self, cond_true, cond_false, Nat.reduceAdd, Int.reduceEq, Int.reduceLT, Int.reduceLE, Int.reduceSub, Int.reduceAdd, h]
  refine loopF_at (fun i : Nat => [.sl 1 (srows l), .int .i64 (i : Int)]) (fun i => i ≤ l.length ∧ (l.take i).all (partN ∘ tb) = true) (fun i => l.length - i) (fun i hi => ?_) 0 ⟨Nat.zero_le _, by simp⟩
  by_cases hlt : i < l.length
  · have hx := List.getElem?_eq_getElem hlt
    have hgd : l.getD i ByteArray.empty = l[i] := by rw [List.getD_eq_getElem?_getD, hx]; rfl
    have hxs := Nat.le_trans (hsz _ (List.getElem_mem hlt)) hs
    generalize hxe : l[i] = x at hx hgd hxs
    obtain ⟨ps, hp, hps⟩ := c_rcut x 46 hxs
    have hp : cF 168 [.d (.str x), .d (.int .u8 46)] = _ := hp
    have hbad : partN (tb x) = false → l.all (partN ∘ tb) = false := fun hb => all_false (d := ByteArray.empty) hlt (by rw [hgd]; exact hb)
    have hgood : partN (tb x) = true → (i + 1 ≤ l.length ∧ (l.take (i + 1)).all (partN ∘ tb) = true) := fun hb => ⟨hlt, all_snoc (d := ByteArray.empty) hlt hi.2 (by rw [hgd]; exact hb)⟩
    have hpe : partN (tb x) = match ps.map tb with
      | [a] => lowN a
      | [a, b] => lowN a && numN b
      | _ => false := by rw [hps]; rfl
    have hpl := splitN_len 46 (tb x)
    rw [← hps, List.length_map] at hpl
    have hsub : ∀ y ∈ ps, y.size ≤ 100000 := by
      have key : ∀ (t : List Nat), ∀ p ∈ splitN 46 t, p.length ≤ t.length := by
        intro t
        induction t with
        | nil => intro p hp; simp [splitN] at hp; simp [hp]
        | cons x xs ih =>
          intro p hp
          unfold splitN at hp
          split at hp
          · rcases List.mem_cons.1 hp with rfl | hp
            · simp
            · have := ih p hp; simp; omega
          · split at hp
            · simp at hp; simp [hp]
            · rename_i q qs hq
              rcases List.mem_cons.1 hp with rfl | hp
              · have := ih q (by rw [hq]; exact List.mem_cons_self); simp; omega
              · have := ih p (by rw [hq]; exact List.mem_cons_of_mem _ hp); simp; omega
      intro y hy
      have := key (tb x) (tb y) (by rw [← hps]; exact List.mem_map_of_mem hy)
      rw [tb_len, tb_len] at this
      omega
    simp only [go1, Option.bind_some, eq_self, cond_true, cond_false, Nat.reduceAdd, Int.reduceEq, Int.reduceLT, Int.reduceLE, Int.reduceSub, Int.reduceAdd, srows_len, ilt_at hlt, inr_at hlt, srows_at hx, hp]
    match ps, hpe, hpl, hsub with
    | [], _, hpl, _ => simp at hpl
    | [a], hpe, _, hsub =>
      have ha := c_rLow a (hsub a List.mem_cons_self)
      simp only [List.map_cons, List.map_nil] at hpe
      simp only [List.length_singleton, srows, List.map_cons, List.map_nil, srow, sy_row, go1, Option.bind_some, eq_self, cond_true, cond_false, Nat.reduceAdd, Int.reduceEq, Int.reduceLT, Int.reduceLE, Int.reduceSub, Int.reduceAdd, List.getD_cons_zero, Int.toNat_zero, ha, hpe.symm]
      cases hb : partN (tb x) with
      | false =>
        right
        rw [hbad hb]; rfl
      | true =>
        left
        refine ⟨i + 1, ?_, hgood hb, by omega⟩
        rw [wrap_succ hlt (by omega)]; rfl
    | [a, b], hpe, _, hsub =>
      have ha := c_rLow a (hsub a List.mem_cons_self)
      have hbl := tb_len b
      have hbs := hsub b (by simp)
      simp only [List.map_cons, List.map_nil] at hpe
      rw [num_split] at hpe
      have hr1 : sy.row (srows [a, b]) 1 = [.str b] := rfl
      have hr0 : sy.row (srows [a, b]) 0 = [.str a] := rfl
      simp only [List.length_cons, List.length_nil, hr0, hr1, go1, Option.bind_some, eq_self, cond_true, cond_false, Nat.reduceAdd, Int.reduceEq, Int.reduceLT, Int.reduceLE, Int.reduceSub, Int.reduceAdd, ha, size_tb, byte_tb0]
      cases hla : lowN (tb a) with
      | false =>
        right
        rw [hla, Bool.false_and] at hpe
        rw [hbad hpe]; rfl
      | true =>
        rw [hla, Bool.true_and] at hpe
        have e1 : decide (((tb b).length : Int) < 1) = decide ((tb b).length < 1) := by rw [Bool.eq_iff_iff]; simp only [decide_eq_true_eq]; omega
        have e3 : decide (3 < ((tb b).length : Int)) = decide (3 < (tb b).length) := by rw [Bool.eq_iff_iff]; simp only [decide_eq_true_eq]; omega
        have e4 : decide ((((tb b).getD 0 0 : Nat) : Int) = 48) = decide ((tb b).getD 0 0 = 48) := by rw [Bool.eq_iff_iff]; simp only [decide_eq_true_eq]; omega
        simp only [go1, Option.bind_some, eq_self, cond_true, cond_false, Nat.reduceAdd, Int.reduceEq, Int.reduceLT, Int.reduceLE, Int.reduceSub, Int.reduceAdd, e1, e3, e4]
        by_cases q1 : (tb b).length < 1
        · right
          rw [decT q1] at hpe ⊢
          rw [hbad (by rw [hpe]; simp)]; rfl
        by_cases q3 : 3 < (tb b).length
        · right
          rw [decF q1, decT q3] at hpe ⊢
          rw [hbad (by rw [hpe]; simp)]; rfl
        rw [decF q1, decF q3] at hpe ⊢
        rw [decT (p := 0 < ((tb b).length : Int)) (by omega)]
        by_cases q4 : (tb b).getD 0 0 = 48
        · right
          rw [decT q4] at hpe ⊢
          rw [hbad (by rw [hpe]; simp)]; rfl
        rw [decF q4] at hpe ⊢
        simp only [go1, Option.bind_some, eq_self, cond_true, cond_false, Nat.reduceAdd, Int.reduceEq, Int.reduceLT, Int.reduceLE, Int.reduceSub, Int.reduceAdd] at hpe ⊢
        cases had : (tb b).all digitN with
        | true =>
          left
          rw [had] at hpe
          refine ⟨i + 1, ?_, hgood hpe, by omega⟩
          refine loopF_at (r := Sum.inl [D.sl 1 (srows l), D.int .i64 ((i + 1 : Nat) : Int)]) (fun k : Nat => [.sl 1 (srows l), .int .i64 (i : Int), .str b, .int .i64 (k : Int)]) (fun k => k ≤ (tb b).length) (fun k => (tb b).length - k) (fun k hk => ?_) 0 (Nat.zero_le _)
          by_cases hkl : k < (tb b).length
          · left
            refine ⟨k + 1, ?_, hkl, by omega⟩
            have hdg : digitN ((tb b).getD k 0) = true := by
              rw [List.getD_eq_getElem?_getD, List.getElem?_eq_getElem hkl]
              exact List.all_eq_true.1 had _ (List.getElem_mem hkl)
            simp only [go1, Option.bind_some, eq_self, cond_true, cond_false, Nat.reduceAdd, Int.reduceEq, Int.reduceLT, Int.reduceLE, Int.reduceSub, Int.reduceAdd, size_tb, ilt_at hkl, inr_at hkl, byte_tb, c_in, inI_digit, hdg, wrap_succ hkl (by omega)]
            try rfl
          · right
            have : k = (tb b).length := by omega
            subst this
            simp only [go1, Option.bind_some, eq_self, cond_true, cond_false, Nat.reduceAdd, Int.reduceEq, Int.reduceLT, Int.reduceLE, Int.reduceSub, Int.reduceAdd, size_tb, ilt_self, wrap_succ hlt (by omega)]
            try rfl
        | false =>
          right
          rw [had] at hpe
          rw [hbad hpe]
          refine loopF_at (r := Sum.inr (PRes.val [D.bool false])) (fun k : Nat => [.sl 1 (srows l), .int .i64 (i : Int), .str b, .int .i64 (k : Int)]) (fun k => k ≤ (tb b).length ∧ ((tb b).take k).all digitN = true) (fun k => (tb b).length - k) (fun k hk => ?_) 0 ⟨Nat.zero_le _, by simp⟩
          by_cases hkl : k < (tb b).length
          · cases hdg : digitN ((tb b).getD k 0) with
            | true =>
              left
              refine ⟨k + 1, ?_, ⟨hkl, all_snoc hkl hk.2 hdg⟩, by omega⟩
              simp only [go1, Option.bind_some, eq_self, cond_true, cond_false, Nat.reduceAdd, Int.reduceEq, Int.reduceLT, Int.reduceLE, Int.reduceSub, Int.reduceAdd, size_tb, ilt_at hkl, inr_at hkl, byte_tb, c_in, inI_digit, hdg, wrap_succ hkl (by omega)]
              try rfl
            | false =>
              right
              simp only [go1, Option.bind_some, eq_self, cond_true, cond_false, Nat.reduceAdd, Int.reduceEq, Int.reduceLT, Int.reduceLE, Int.reduceSub, Int.reduceAdd, size_tb, ilt_at hkl, inr_at hkl, byte_tb, c_in, inI_digit, hdg]
              try rfl
          · exfalso
            have : k = (tb b).length := by omega
            rw [this, List.take_length, had] at hk
            exact absurd hk.2 (by simp)
    | _ :: _ :: _ :: r, hpe, _, _ =>
      right
      have : partN (tb x) = false := hpe
      rw [hbad this]
      rw [decT (p := 2 < (((_ :: _ :: _ :: r : List ByteArray).length : Nat) : Int)) (by simp; omega)]
      rfl
  · right
    have : i = l.length := by omega
    subst this
    simp only [go1, Option.bind_some, eq_self, cond_true, cond_false, Nat.reduceAdd, Int.reduceEq, Int.reduceLT, Int.reduceLE, Int.reduceSub, Int.reduceAdd, srows_len, ilt_self]
    rw [List.take_length] at hi
    rw [hi.2]
end Go.Vm
end

section
set_option linter.all false
set_option maxRecDepth 100000
set_option maxHeartbeats 4000000
namespace Go.Vm
open Go.Proofs
/-! ### enums, types, values -/
structure Enm where
  name : ByteArray
  ctors : List ByteArray
instance : Inhabited Enm := ⟨⟨ByteArray.empty, []⟩⟩
def Enm.row (x : Enm) : List D := [.str x.name, .sl 1 (srows x.ctors)]
def erows (l : List Enm) : List (List D) := l.map Enm.row
theorem erows_len (l : List Enm) : (erows l).length = l.length := by simp [erows]
theorem erows_at {l : List Enm} {i : Nat} {x : Enm} (h : l[i]? = some x) : sy.row (erows l) (i : Int) = x.row := by
  rw [sy_row, Int.toNat_natCast, List.getD_eq_getElem?_getD]
  unfold erows
  rw [List.getElem?_map, h]; rfl
structure Tyy where
  k : Int
  e : Int
  n : Int
  deriving DecidableEq
instance : Inhabited Tyy := ⟨⟨0, 0, 0⟩⟩
def Tyy.v (t : Tyy) : V := .agg [.d (.int .i64 t.k), .d (.int .i64 t.e), .d (.int .i64 t.n)]
def Tyy.c (t : Tyy) : Int := min (max t.n 1) 8
def tyOK (ne : Int) (t : Tyy) : Bool := !(decide (t.n < 0) || decide (8 < t.n)) && (bif decide (t.k = 1) then decide (t.e = 0) else bif decide (t.k = 2) then decide (t.e = 0) else bif decide (t.k = 3) then decide (0 ≤ t.e) && decide (t.e < ne) else false)
def oneOK (l : List Enm) (t : Tyy) (v : Int) : Bool := tyOK l.length t && (bif decide (t.k = 2) then decide (v = 0) || decide (v = 1) else bif decide (t.k = 3) then decide (0 ≤ v) && decide (v < (((l.getD t.e.toNat default).ctors.length : Nat) : Int)) else true)
def valOK (l : List Enm) (t : Tyy) (vs : List Int) : Bool := tyOK l.length t && decide ((vs.length : Int) = t.c) && vs.all (oneOK l t)
theorem c_cells (t : Tyy) : cF 37 [t.v] = some (.val [.int .i64 t.c]) := by
  unfold Tyy.v
  refine cOf (by kernel_rfl) rfl ?_
  rw [g37_eq]
  simp only [g37, go1, Option.bind_some, eq_self, cond_true, cond_false, Nat.reduceAdd, Int.reduceEq, Int.reduceLT, Int.reduceLE, Int.reduceSub, Int.reduceAdd]
  rfl
theorem c_rcells (t : Tyy) : cF 35 [t.v] = some (.val [.int .i64 t.c]) := by
  unfold Tyy.v
  refine cOf (by kernel_rfl) rfl ?_
  rw [g35_eq]
  simp only [g35, go1, Option.bind_some, eq_self, cond_true, cond_false, Nat.reduceAdd, Int.reduceEq, Int.reduceLT, Int.reduceLE, Int.reduceSub, Int.reduceAdd]
  unfold Tyy.c
  by_cases h1 : t.n < 1
  · rw [decT h1, show min (max t.n 1) 8 = 1 by omega]; rfl
  · by_cases h8 : 8 < t.n
    · rw [decF h1, decT h8, show min (max t.n 1) 8 = 8 by omega]; rfl
    · rw [decF h1, decF h8, show min (max t.n 1) 8 = t.n by omega]; rfl
theorem c_tyRight (l : List Enm) (t : Tyy) : cF 83 [.d (.sl 2 (erows l)), t.v] = some (.val [.bool (tyOK l.length t)]) := by
  unfold Tyy.v
  refine cOf (by kernel_rfl) rfl ?_
  rw [g83_eq]
  simp only [g83, go1, Option.bind_some, eq_self, cond_true, cond_false, Nat.reduceAdd, Int.reduceEq, Int.reduceLT, Int.reduceLE, Int.reduceSub, Int.reduceAdd, erows_len]
  unfold tyOK
  cases decide (t.n < 0) <;> cases decide (8 < t.n) <;> cases decide (t.k = 1) <;> cases decide (t.k = 2) <;> cases decide (t.k = 3) <;> rfl
theorem c_rtyRight (l : List Enm) (t : Tyy) : cF 53 [.d (.sl 2 (erows l)), t.v] = some (.val [.bool (tyOK l.length t)]) := by
  unfold Tyy.v
  refine cOf (by kernel_rfl) rfl ?_
  rw [g53_eq]
  simp only [g53, go1, Option.bind_some, eq_self, cond_true, cond_false, Nat.reduceAdd, Int.reduceEq, Int.reduceLT, Int.reduceLE, Int.reduceSub, Int.reduceAdd, erows_len]
  unfold tyOK
  by_cases h3 : t.k = 3
  · rw [h3]
    cases decide (t.n < 0) <;> cases decide (8 < t.n) <;> rfl
  by_cases h1 : t.k = 1
  · rw [h1]
    cases decide (t.n < 0) <;> cases decide (8 < t.n) <;> rfl
  by_cases h2 : t.k = 2
  · rw [h2]
    cases decide (t.n < 0) <;> cases decide (8 < t.n) <;> rfl
  rw [decF h1, decF h2, decF h3]
  by_cases hk : t.k < 1
  · rw [decT hk]
    cases decide (t.n < 0) <;> cases decide (8 < t.n) <;> rfl
  · rw [decF hk, decT (p := 3 < t.k) (by omega)]
    cases decide (t.n < 0) <;> cases decide (8 < t.n) <;> rfl
theorem tyOK_enum {ne : Int} {t : Tyy} (h : tyOK ne t = true) (h3 : t.k = 3) : 0 ≤ t.e ∧ t.e < ne := by
  unfold tyOK at h
  rw [h3] at h
  simp only [Bool.and_eq_true] at h
  have := h.2
  simp at this
  exact this
theorem e_at {l : List Enm} {e : Int} (h0 : 0 ≤ e) (h1 : e < l.length) : sy.cell (sy.skip 1 (sy.row (erows l) e)) 0 = some (.sl 1 (srows (l.getD e.toNat default).ctors)) := by
  obtain ⟨i, rfl⟩ : ∃ i : Nat, e = i := ⟨e.toNat, by omega⟩
  have hi : i < l.length := by omega
  rw [erows_at (List.getElem?_eq_getElem hi), Int.toNat_natCast, List.getD_eq_getElem?_getD, List.getElem?_eq_getElem hi]
  rfl
theorem c_one (l : List Enm) (t : Tyy) (v : Int) : cF 82 [.d (.sl 2 (erows l)), t.v, .d (.int .i64 v)] = some (.val [.bool (oneOK l t v)]) := by
  have h1 := c_tyRight l t
  unfold oneOK
  unfold Tyy.v at *
  cases ht : tyOK l.length t with
  | false =>
    rw [ht] at h1
    refine cOf (by kernel_rfl) rfl ?_
    rw [g82_eq]
    simp only [g82, go1, Option.bind_some, eq_self, cond_true, cond_false, Nat.reduceAdd, Int.reduceEq, Int.reduceLT, Int.reduceLE, Int.reduceSub, Int.reduceAdd, h1]
  | true =>
    rw [ht] at h1
    by_cases h3 : t.k = 3
    · obtain ⟨e0, e1⟩ := tyOK_enum ht h3
      have he := e_at e0 e1
      obtain ⟨k, e, n⟩ := t
      obtain rfl : k = 3 := h3
      dsimp only at *
      refine cOf (by kernel_rfl) rfl ?_
      rw [g82_eq]
      simp only [g82, go1, Option.bind_some, eq_self, cond_true, cond_false, Nat.reduceAdd, Int.reduceEq, Int.reduceLT, Int.reduceLE, Int.reduceSub, Int.reduceAdd, h1, erows_len, he, srows_len]
      rw [decT (p := 0 ≤ e ∧ e < (l.length : Int)) ⟨e0, e1⟩]
      cases decide (0 ≤ v) <;> rfl
    · by_cases h2 : t.k = 2
      · obtain ⟨k, e, n⟩ := t
        obtain rfl : k = 2 := h2
        dsimp only at *
        refine cOf (by kernel_rfl) rfl ?_
        rw [g82_eq]
        simp only [g82, go1, Option.bind_some, eq_self, cond_true, cond_false, Nat.reduceAdd, Int.reduceEq, Int.reduceLT, Int.reduceLE, Int.reduceSub, Int.reduceAdd, h1]
        try (cases decide (v = 0) <;> rfl)
      · refine cOf (by kernel_rfl) rfl ?_
        rw [g82_eq]
        simp only [g82, go1, Option.bind_some, eq_self, cond_true, cond_false, Nat.reduceAdd, Int.reduceEq, Int.reduceLT, Int.reduceLE, Int.reduceSub, Int.reduceAdd, h1]
        rw [decF h2, decF h3]
        rfl
theorem c_rone (l : List Enm) (t : Tyy) (v : Int) : cF 170 [.d (.sl 2 (erows l)), t.v, .d (.int .i64 v)] = some (.val [.bool (oneOK l t v)]) := by
  have h1 := c_rtyRight l t
  unfold oneOK
  unfold Tyy.v at *
  cases ht : tyOK l.length t with
  | false =>
    rw [ht] at h1
    refine cOf (by kernel_rfl) rfl ?_
    rw [g170_eq]
    simp only [g170, go1, Option.bind_some, eq_self, cond_true, cond_false, Nat.reduceAdd, Int.reduceEq, Int.reduceLT, Int.reduceLE, Int.reduceSub, Int.reduceAdd, h1]
  | true =>
    rw [ht] at h1
    by_cases h3 : t.k = 3
    · obtain ⟨e0, e1⟩ := tyOK_enum ht h3
      have he := e_at e0 e1
      obtain ⟨k, e, n⟩ := t
      obtain rfl : k = 3 := h3
      dsimp only at *
      refine cOf (by kernel_rfl) rfl ?_
      rw [g170_eq]
      simp only [g170, go1, Option.bind_some, eq_self, cond_true, cond_false, Nat.reduceAdd, Int.reduceEq, Int.reduceLT, Int.reduceLE, Int.reduceSub, Int.reduceAdd, h1, erows_len, he, srows_len]
      rw [decT (p := 0 ≤ e ∧ e < (l.length : Int)) ⟨e0, e1⟩]
      cases decide (0 ≤ v) <;> rfl
    · by_cases h2 : t.k = 2
      · obtain ⟨k, e, n⟩ := t
        obtain rfl : k = 2 := h2
        dsimp only at *
        refine cOf (by kernel_rfl) rfl ?_
        rw [g170_eq]
        simp only [g170, go1, Option.bind_some, eq_self, cond_true, cond_false, Nat.reduceAdd, Int.reduceEq, Int.reduceLT, Int.reduceLE, Int.reduceSub, Int.reduceAdd, h1]
        try (cases decide (v = 0) <;> rfl)
      · have h11 : t.k = 1 := by
          unfold tyOK at ht
          rw [decF h2, decF h3] at ht
          by_cases h : t.k = 1
          · exact h
          · rw [decF h] at ht; simp at ht
        obtain ⟨k, e, n⟩ := t
        obtain rfl : k = 1 := h11
        dsimp only at *
        refine cOf (by kernel_rfl) rfl ?_
        rw [g170_eq]
        simp only [g170, go1, Option.bind_some, eq_self, cond_true, cond_false, Nat.reduceAdd, Int.reduceEq, Int.reduceLT, Int.reduceLE, Int.reduceSub, Int.reduceAdd, h1]
        try rfl
theorem c_vRight (l : List Enm) (t : Tyy) (vs : List Int) (hl : vs.length ≤ 1000000) : cF 39 [.d (.sl 2 (erows l)), t.v, .d (.sl 1 (irows vs))] = some (.val [.bool (valOK l t vs)]) := by
  have h1 := c_tyRight l t
  have h2 := c_cells t
  have h3 := fun v => c_one l t v
  unfold valOK
  unfold Tyy.v at *
  have h40 : ∀ v, cF 81 [.d (.int .i64 v), .pel [.sl 2 (erows l)], .pel [.int .i64 t.k, .int .i64 t.e, .int .i64 t.n]] = some (.val [.bool (!oneOK l t v)]) := fun v => by
    refine cOf (by kernel_rfl) rfl ?_
    rw [g81c_eq]
    simp only [g81c, go1, Option.bind_some, eq_self, cond_true, cond_false, Nat.reduceAdd, Int.reduceEq, Int.reduceLT, Int.reduceLE, Int.reduceSub, Int.reduceAdd, h3]
  have h54 : cF 141 [.d (.sl 1 (irows vs)), .fn 81 [.pel [.sl 2 (erows l)], .pel [.int .i64 t.k, .int .i64 t.e, .int .i64 t.n]]] = some (.val [.int .i64 (idxI (fun v => !oneOK l t v) vs 0)]) := by
    refine cOf (by kernel_rfl) rfl ?_
    rw [g141_81_eq]
    simp only [g141_81, go1, Option.bind_some, eq_self, cond_true, cond_false, Nat.reduceAdd, Int.reduceEq, Int.reduceLT, Int.reduceLE, Int.reduceSub, Int.reduceAdd, irows_len]
    refine idx_loop (fun v => !oneOK l t v) vs (fun i => [.sl 1 (irows vs), .sl 2 (erows l), .int .i64 t.k, .int .i64 t.e, .int .i64 t.n, .int .i64 (vs.length : Int), .int .i64 i]) (fun i x hx => ?_) ?_
    · have hlt := (List.getElem?_eq_some_iff.1 hx).1
      simp only [go1, Option.bind_some, eq_self, cond_true, cond_false, Nat.reduceAdd, Int.reduceEq, Int.reduceLT, Int.reduceLE, Int.reduceSub, Int.reduceAdd, irows_len, ilt_at hlt, inr_at hlt, irows_at hx, h40, wrap_succ hlt (by omega)]
    · simp only [go1, Option.bind_some, eq_self, cond_true, cond_false, Nat.reduceAdd, Int.reduceEq, Int.reduceLT, Int.reduceLE, Int.reduceSub, Int.reduceAdd, ilt_self]
  have h43 : cF 84 [.d (.sl 1 (irows vs)), .fn 81 [.pel [.sl 2 (erows l)], .pel [.int .i64 t.k, .int .i64 t.e, .int .i64 t.n]]] = some (.val [.bool (vs.any fun v => !oneOK l t v)]) := by
    refine cOf (by kernel_rfl) rfl ?_
    rw [g84_81_eq]
    simp only [g84_81, go1, Option.bind_some, eq_self, cond_true, cond_false, Nat.reduceAdd, Int.reduceEq, Int.reduceLT, Int.reduceLE, Int.reduceSub, Int.reduceAdd, h54]
    rw [idxI_any _ _ _ (by omega)]
  have hall : (!(vs.any fun v => !oneOK l t v)) = vs.all (oneOK l t) := by
    rw [List.not_any_eq_all_not]; congr 1; funext v; simp
  refine cOf (by kernel_rfl) rfl ?_
  rw [g39_eq]
  simp only [g39, go1, Option.bind_some, eq_self, cond_true, cond_false, Nat.reduceAdd, Int.reduceEq, Int.reduceLT, Int.reduceLE, Int.reduceSub, Int.reduceAdd, h1, h2, h43, irows_len, hall]
  try (cases tyOK l.length t <;> cases decide ((vs.length : Int) = t.c) <;> rfl)
theorem c_rvRight (l : List Enm) (t : Tyy) (vs : List Int) (hl : vs.length ≤ 1000000) : cF 106 [.d (.sl 2 (erows l)), t.v, .d (.sl 1 (irows vs))] = some (.val [.bool (valOK l t vs)]) := by
  have h1 := c_rtyRight l t
  have h2 := c_rcells t
  have h3 := fun v => c_rone l t v
  unfold valOK
  unfold Tyy.v at *
  by_cases hc : tyOK l.length t = true ∧ (vs.length : Int) = t.c
  · obtain ⟨hc1, hc2⟩ := hc
    rw [hc1] at h1
    rw [hc1, decT hc2]
    refine cOf (by kernel_rfl) rfl ?_
    rw [g106_eq]
    simp only [g106, go1, Option.bind_some, eq_self, cond_true, cond_false, Nat.reduceAdd, Int.reduceEq, Int.reduceLT, Int.reduceLE, Int.reduceSub, Int.reduceAdd, h1, h2, irows_len, hc2]
    refine loopF_at (fun i : Nat => [.sl 2 (erows l), .sl 1 (irows vs), .int .i64 (i : Int), .int .i64 t.k, .int .i64 t.e, .int .i64 t.n]) (fun i => i ≤ vs.length ∧ (vs.take i).all (oneOK l t) = true) (fun i => vs.length - i) (fun i hi => ?_) 0 ⟨Nat.zero_le _, by simp⟩
    by_cases hlt : i < vs.length
    · have hx := List.getElem?_eq_getElem hlt
      have hgd : vs.getD i 0 = vs[i] := by rw [List.getD_eq_getElem?_getD, hx]; rfl
      simp only [go1, Option.bind_some, eq_self, cond_true, cond_false, Nat.reduceAdd, Int.reduceEq, Int.reduceLT, Int.reduceLE, Int.reduceSub, Int.reduceAdd, irows_len, ilt_at hlt, inr_at hlt, irows_at hx, h3, wrap_succ hlt (by omega)]
      cases hb : oneOK l t vs[i] with
      | false =>
        right
        rw [all_false (d := 0) hlt (by rw [hgd]; exact hb)]
        try rfl
      | true =>
        left
        refine ⟨i + 1, ?_, ⟨hlt, all_snoc (d := 0) hlt hi.2 (by rw [hgd]; exact hb)⟩, by omega⟩
        simp only [go1, Option.bind_some, eq_self, cond_true, cond_false, Nat.reduceAdd, Int.reduceEq, Int.reduceLT, Int.reduceLE, Int.reduceSub, Int.reduceAdd]; try rfl
    · right
      have : i = vs.length := by omega
      subst this
      simp only [go1, Option.bind_some, eq_self, cond_true, cond_false, Nat.reduceAdd, Int.reduceEq, Int.reduceLT, Int.reduceLE, Int.reduceSub, Int.reduceAdd, irows_len, ilt_self]
      rw [List.take_length] at hi
      rw [hi.2]
  · refine cOf (by kernel_rfl) rfl ?_
    rw [g106_eq]
    simp only [g106, go1, Option.bind_some, eq_self, cond_true, cond_false, Nat.reduceAdd, Int.reduceEq, Int.reduceLT, Int.reduceLE, Int.reduceSub, Int.reduceAdd, h1, h2, irows_len]
    cases ht : tyOK l.length t with
    | false => simp only [go1, Option.bind_some, eq_self, cond_true, cond_false, Nat.reduceAdd, Int.reduceEq, Int.reduceLT, Int.reduceLE, Int.reduceSub, Int.reduceAdd]; try rfl
    | true =>
      rw [decF (p := (vs.length : Int) = t.c) (fun e => hc ⟨ht, e⟩)]
      simp only [go1, Option.bind_some, eq_self, cond_true, cond_false, Nat.reduceAdd, Int.reduceEq, Int.reduceLT, Int.reduceLE, Int.reduceSub, Int.reduceAdd]; try rfl
end Go.Vm
end

section
set_option linter.all false
set_option maxRecDepth 100000
set_option maxHeartbeats 4000000
namespace Go.Vm
open Go.Proofs
/-! ### slots and cells -/
structure Slt where
  path : ByteArray
  ty : Tyy
  at_ : Int
  init : List Int
instance : Inhabited Slt := ⟨⟨ByteArray.empty, default, 0, []⟩⟩
def Slt.row (x : Slt) : List D := [.str x.path, .int .i64 x.ty.k, .int .i64 x.ty.e, .int .i64 x.ty.n, .int .i64 x.at_, .sl 1 (irows x.init)]
def slrows (l : List Slt) : List (List D) := l.map Slt.row
structure Cll where
  path : ByteArray
  vals : List Int
instance : Inhabited Cll := ⟨⟨ByteArray.empty, []⟩⟩
def Cll.row (x : Cll) : List D := [.str x.path, .sl 1 (irows x.vals)]
def clrows (l : List Cll) : List (List D) := l.map Cll.row
theorem slrows_len (l : List Slt) : (slrows l).length = l.length := by simp [slrows]
theorem clrows_len (l : List Cll) : (clrows l).length = l.length := by simp [clrows]
theorem slt_at {l : List Slt} {i : Nat} {x : Slt} (h : l[i]? = some x) : sy.row (slrows l) (i : Int) = [.str x.path, .int .i64 x.ty.k, .int .i64 x.ty.e, .int .i64 x.ty.n, .int .i64 x.at_, .sl 1 (irows x.init)] := by
  rw [sy_row, Int.toNat_natCast, List.getD_eq_getElem?_getD]
  unfold slrows
  rw [List.getElem?_map, h]; rfl
theorem cll_at {l : List Cll} {i : Nat} {x : Cll} (h : l[i]? = some x) : sy.row (clrows l) (i : Int) = [.str x.path, .sl 1 (irows x.vals)] := by
  rw [sy_row, Int.toNat_natCast, List.getD_eq_getElem?_getD]
  unfold clrows
  rw [List.getElem?_map, h]; rfl
theorem skip1 (a : D) (l : List D) : sy.skip 1 (a :: l) = l := rfl
theorem skip4 (a b c d : D) (l : List D) : sy.skip 4 (a :: b :: c :: d :: l) = l := rfl
theorem skip5 (a b c d e : D) (l : List D) : sy.skip 5 (a :: b :: c :: d :: e :: l) = l := rfl
def cellsN (l : List Slt) : Int := (l.map fun x => x.ty.c).sum
theorem c_pos (t : Tyy) : 1 ≤ t.c ∧ t.c ≤ 8 := by unfold Tyy.c; omega
theorem cellsN_bd : ∀ l : List Slt, 0 ≤ cellsN l ∧ cellsN l ≤ 8 * l.length
  | [] => by simp [cellsN]
  | x :: l => by
    have := cellsN_bd l
    have := c_pos x.ty
    unfold cellsN at *
    simp only [List.map_cons, List.sum_cons, List.length_cons]
    omega
theorem cellsN_app (a b : List Slt) : cellsN (a ++ b) = cellsN a + cellsN b := by simp [cellsN]
theorem cellsN_take {l : List Slt} {i : Nat} {x : Slt} (h : l[i]? = some x) : cellsN (l.take (i + 1)) = cellsN (l.take i) + x.ty.c := by
  rw [List.take_add_one, h, cellsN_app]; simp [cellsN]
theorem cellsN_tbd (l : List Slt) (i : Nat) : 0 ≤ cellsN (l.take i) ∧ cellsN (l.take i) ≤ 8 * l.length := by
  have := cellsN_bd (l.take i)
  have : (l.take i).length ≤ l.length := by simp; omega
  omega
theorem cells_u (t : Tyy) : cF 37 [V.agg [.d (.int .i64 t.k), .d (.int .i64 t.e), .d (.int .i64 t.n)]] = some (.val [.int .i64 t.c]) := c_cells t
theorem rcells_u (t : Tyy) : cF 35 [V.agg [.d (.int .i64 t.k), .d (.int .i64 t.e), .d (.int .i64 t.n)]] = some (.val [.int .i64 t.c]) := c_rcells t
theorem c_tCells (s : List Slt) (hs : s.length ≤ 1000000) : cF 12 [.d (.sl 6 (slrows s))] = some (.val [.int .i64 (cellsN s)]) := by
  refine cOf (by kernel_rfl) rfl ?_
  rw [g12_eq]
  simp only [g12, go1, Option.bind_some, eq_self, cond_true, cond_false, Nat.reduceAdd, Int.reduceEq, Int.reduceLT, Int.reduceLE, Int.reduceSub, Int.reduceAdd, slrows_len]
  refine loopF_at (fun i : Nat => [.int .i64 (cellsN (s.take i)), .sl 6 (slrows s), .int .i64 (s.length : Int), .int .i64 (i : Int)]) (fun i => i ≤ s.length) (fun i => s.length - i) (fun i hi => ?_) 0 (Nat.zero_le _)
  have hb := cellsN_tbd s i
  by_cases hlt : i < s.length
  · left
    have hx := List.getElem?_eq_getElem hlt
    refine ⟨i + 1, ?_, hlt, by omega⟩
    have hc := c_pos s[i].ty
    have hw : IntKind.i64.wrap (cellsN (s.take i) + s[i].ty.c) = cellsN (s.take i) + s[i].ty.c := wrap_id (by omega) (by omega)
    simp only [go1, Option.bind_some, eq_self, cond_true, cond_false, Nat.reduceAdd, Int.reduceEq, Int.reduceLT, Int.reduceLE, Int.reduceSub, Int.reduceAdd, slrows_len, ilt_at hlt, inr_at hlt, slt_at hx, cells_u, wrap_succ hlt (by omega), cellsN_take hx, hw]
    rfl
  · right
    have : i = s.length := by omega
    subst this
    simp only [go1, Option.bind_some, eq_self, cond_true, cond_false, Nat.reduceAdd, Int.reduceEq, Int.reduceLT, Int.reduceLE, Int.reduceSub, Int.reduceAdd, slrows_len, ilt_self, List.take_length]
theorem c_rtCells (s : List Slt) (hs : s.length ≤ 1000000) : cF 13 [.d (.sl 6 (slrows s))] = some (.val [.int .i64 (cellsN s)]) := by
  refine cOf (by kernel_rfl) rfl ?_
  rw [g13_eq]
  simp only [g13, go1, Option.bind_some, eq_self, cond_true, cond_false, Nat.reduceAdd, Int.reduceEq, Int.reduceLT, Int.reduceLE, Int.reduceSub, Int.reduceAdd, slrows_len]
  refine loopF_at (fun i : Nat => [.sl 6 (slrows s), .int .i64 (cellsN (s.take i)), .int .i64 (i : Int)]) (fun i => i ≤ s.length) (fun i => s.length - i) (fun i hi => ?_) 0 (Nat.zero_le _)
  have hb := cellsN_tbd s i
  by_cases hlt : i < s.length
  · left
    have hx := List.getElem?_eq_getElem hlt
    refine ⟨i + 1, ?_, hlt, by omega⟩
    have hc := c_pos s[i].ty
    have hw : IntKind.i64.wrap (cellsN (s.take i) + s[i].ty.c) = cellsN (s.take i) + s[i].ty.c := wrap_id (by omega) (by omega)
    simp only [go1, Option.bind_some, eq_self, cond_true, cond_false, Nat.reduceAdd, Int.reduceEq, Int.reduceLT, Int.reduceLE, Int.reduceSub, Int.reduceAdd, slrows_len, ilt_at hlt, inr_at hlt, slt_at hx, skip1, rcells_u, wrap_succ hlt (by omega), cellsN_take hx, hw]
    rfl
  · right
    have : i = s.length := by omega
    subst this
    simp only [go1, Option.bind_some, eq_self, cond_true, cond_false, Nat.reduceAdd, Int.reduceEq, Int.reduceLT, Int.reduceLE, Int.reduceSub, Int.reduceAdd, slrows_len, ilt_self, List.take_length]
/-! ### where a path is -/
def pathIs (p : ByteArray) (x : Slt) : Bool := decide (tb x.path = tb p)
def findS (s : List Slt) (p : ByteArray) : Int := idxI (pathIs p) s 0
theorem c_rtFind (s : List Slt) (p : ByteArray) (hs : s.length ≤ 1000000) : cF 107 [.d (.sl 6 (slrows s)), .d (.str p)] = some (.val [.int .i64 (findS s p)]) := by
  refine cOf (by kernel_rfl) rfl ?_
  rw [g107_eq]
  simp only [g107, go1, Option.bind_some, eq_self, cond_true, cond_false, Nat.reduceAdd, Int.reduceEq, Int.reduceLT, Int.reduceLE, Int.reduceSub, Int.reduceAdd, slrows_len]
  refine idx_loop (pathIs p) s (fun i => [.sl 6 (slrows s), .str p, .int .i64 i]) (fun i x hx => ?_) ?_
  · have hlt := (List.getElem?_eq_some_iff.1 hx).1
    unfold pathIs
    simp only [go1, Option.bind_some, eq_self, cond_true, cond_false, Nat.reduceAdd, Int.reduceEq, Int.reduceLT, Int.reduceLE, Int.reduceSub, Int.reduceAdd, slrows_len, ilt_at hlt, inr_at hlt, slt_at hx, seq_tb, wrap_succ hlt (by omega)]
  · simp only [go1, Option.bind_some, eq_self, cond_true, cond_false, Nat.reduceAdd, Int.reduceEq, Int.reduceLT, Int.reduceLE, Int.reduceSub, Int.reduceAdd, slrows_len, ilt_self]
end Go.Vm
end

section
set_option linter.all false
set_option maxRecDepth 100000
set_option maxHeartbeats 4000000
namespace Go.Vm
open Go.Proofs
/-! ### each one once -/
theorem sy_mval (z k : D) (l : List (List D)) : sy.mval z k l = mval z k l := rfl
theorem sy_mput (k x : D) (l : List (List D)) : sy.mput k x l = mput k x l := rfl
def encT (l : List ByteArray) : List (List D) := l.map fun s => [.str s, .int .i64 1]
theorem key_str (a b : ByteArray) : keyIs (.str a) (.str b) = decide (a = b) := by
  show (a == b) = _
  have h : (a == b) = (a.data == b.data) := rfl
  rw [h, Bool.eq_iff_iff, beq_iff_eq, decide_eq_true_eq]
  exact ⟨fun h => by cases a; cases b; simp_all, fun h => by rw [h]⟩
theorem midxT {x : ByteArray} : ∀ {l : List ByteArray}, x ∉ l → midx (.str x) (encT l) = none
  | [], _ => rfl
  | y :: l, h => by
    have h1 : ¬ x = y := fun e => h (by rw [e]; exact List.mem_cons_self)
    have h2 : x ∉ l := fun e => h (List.mem_cons_of_mem _ e)
    show midx (.str x) ((D.str y :: [.int .i64 1]) :: encT l) = none
    have hk : keyIs (.str x) (.str y) = false := by rw [key_str]; exact decF h1
    simp only [midx, hk, midxT h2]; rfl
theorem mvalT {x : ByteArray} : ∀ {l : List ByteArray}, x ∈ l → mval (.int .i64 0) (.str x) (encT l) = .int .i64 1
  | y :: l, h => by
    show mval (.int .i64 0) (.str x) ((D.str y :: [.int .i64 1]) :: encT l) = _
    by_cases he : x = y
    · have hk : keyIs (.str x) (.str y) = true := by rw [key_str]; exact decT he
      simp only [mval, mget, midx, hk]; rfl
    · have hm : x ∈ l := by
        rcases List.mem_cons.1 h with e | e
        · exact absurd e he
        · exact e
      have ih := mvalT hm
      have hk : keyIs (.str x) (.str y) = false := by rw [key_str]; exact decF he
      simp only [mval, mget, midx, hk] at ih ⊢
      rw [← ih]
      cases midx (.str x) (encT l) <;> rfl
theorem mvalT0 {x : ByteArray} {l : List ByteArray} (h : x ∉ l) : mval (.int .i64 0) (.str x) (encT l) = .int .i64 0 := by
  unfold mval mget; rw [midxT h]; rfl
theorem mputT {x : ByteArray} {l : List ByteArray} (h : x ∉ l) : mput (.str x) (.int .i64 1) (encT l) = encT (l ++ [x]) := by
  unfold mput; rw [midxT h]; simp [encT]
theorem nodup_snoc {l : List ByteArray} {i : Nat} {x : ByteArray} (h : l[i]? = some x) (hn : (l.take i).Nodup) (hx : x ∉ l.take i) : (l.take (i + 1)).Nodup := by
  rw [List.take_add_one, h, Option.toList_some, List.nodup_append]
  exact ⟨hn, by simp, fun a ha b hb => by simp at hb; rw [hb]; exact fun e => hx (e ▸ ha)⟩
theorem nodup_not {l : List ByteArray} {i : Nat} {x : ByteArray} (h : l[i]? = some x) (hx : x ∈ l.take i) : ¬ l.Nodup := by
  intro hn
  have hd : l = l.take i ++ l.drop i := (List.take_append_drop i l).symm
  rw [hd, List.nodup_append] at hn
  refine hn.2.2 x hx x ?_ rfl
  have : (l.drop i)[0]? = some x := by simpa using h
  exact List.mem_of_getElem? this
theorem c_iOnce (l : List ByteArray) (hl : l.length ≤ 1000000) : cF 40 [.d (.sl 1 (srows l))] = some (.val [.bool (decide l.Nodup)]) := by
  refine cOf (by kernel_rfl) rfl ?_
  rw [g40_eq]
  simp only [g40, go1, Option.bind_some, eq_self, cond_true, cond_false, Nat.reduceAdd, Int.reduceEq, Int.reduceLT, Int.reduceLE, Int.reduceSub, Int.reduceAdd, srows_len]
  refine loopF_at (fun i : Nat => [.sl 1 (srows l), .int .i64 (l.length : Int), .int .i64 (i : Int), .sl 2 (encT (l.take i))]) (fun i => i ≤ l.length ∧ (l.take i).Nodup) (fun i => l.length - i) (fun i hi => ?_) 0 ⟨Nat.zero_le _, by simp⟩
  by_cases hlt : i < l.length
  · have hx := List.getElem?_eq_getElem hlt
    by_cases hm : l[i] ∈ l.take i
    · right
      rw [decF (nodup_not hx hm)]
      simp only [go1, Option.bind_some, eq_self, cond_true, cond_false, Nat.reduceAdd, Int.reduceEq, Int.reduceLT, Int.reduceLE, Int.reduceSub, Int.reduceAdd, srows_len, ilt_at hlt, inr_at hlt, srows_at hx, sy_mval, mvalT hm]
    · left
      refine ⟨i + 1, ?_, ⟨hlt, nodup_snoc hx hi.2 hm⟩, by omega⟩
      have hw : IntKind.i64.wrap 1 = 1 := rfl
      simp only [go1, Option.bind_some, eq_self, cond_true, cond_false, Nat.reduceAdd, Int.reduceEq, Int.reduceLT, Int.reduceLE, Int.reduceSub, Int.reduceAdd, srows_len, ilt_at hlt, inr_at hlt, srows_at hx, sy_mval, sy_mput, mvalT0 hm, hw, mputT hm, wrap_succ hlt (by omega)]
      rw [List.take_add_one, hx]; rfl
  · right
    have : i = l.length := by omega
    subst this
    simp only [go1, Option.bind_some, eq_self, cond_true, cond_false, Nat.reduceAdd, Int.reduceEq, Int.reduceLT, Int.reduceLE, Int.reduceSub, Int.reduceAdd, srows_len, ilt_self]
    rw [List.take_length] at hi
    rw [decT hi.2]
/-! ### which slots may be -/
def okAt (l : List Enm) (s : List Slt) (i : Nat) : Bool := decide (cellsN (s.take i) = (s.getD i default).at_) && (pathN (tb (s.getD i default).path) && valOK l (s.getD i default).ty (s.getD i default).init)
def rightS (l : List Enm) (s : List Slt) : Bool := !(decide (120 < (s.length : Int)) || decide (1000 < cellsN s)) && ((List.range s.length).all (okAt l s) && decide (s.map (·.path)).Nodup)
structure SB (s : List Slt) : Prop where
  len : s.length ≤ 1000000
  path : ∀ x ∈ s, x.path.size ≤ 100000
  init : ∀ x ∈ s, x.init.length ≤ 1000000
theorem vRight_u (l : List Enm) (t : Tyy) (vs : List Int) (hl : vs.length ≤ 1000000) : cF 39 [.d (.sl 2 (erows l)), V.agg [.d (.int .i64 t.k), .d (.int .i64 t.e), .d (.int .i64 t.n)], .d (.sl 1 (irows vs))] = some (.val [.bool (valOK l t vs)]) := c_vRight l t vs hl
theorem rvRight_u (l : List Enm) (t : Tyy) (vs : List Int) (hl : vs.length ≤ 1000000) : cF 106 [.d (.sl 2 (erows l)), V.agg [.d (.int .i64 t.k), .d (.int .i64 t.e), .d (.int .i64 t.n)], .d (.sl 1 (irows vs))] = some (.val [.bool (valOK l t vs)]) := c_rvRight l t vs hl
theorem rng_at {n i : Nat} (h : i < n) : (List.range n).getD i 0 = i := by simp [h]
theorem rng_take (n : Nat) : (List.range n).take n = List.range n := List.take_of_length_le (by simp)
theorem c_tRight (l : List Enm) (s : List Slt) (hs : SB s) : cF 14 [.d (.sl 2 (erows l)), .d (.sl 6 (slrows s))] = some (.val [.bool (rightS l s)]) := by
  have hC := c_tCells s hs.len
  have hL := hs.len
  unfold rightS
  refine cOf (by kernel_rfl) rfl ?_
  rw [g14_eq]
  simp only [g14, go1, Option.bind_some, eq_self, cond_true, cond_false, Nat.reduceAdd, Int.reduceEq, Int.reduceLT, Int.reduceLE, Int.reduceSub, Int.reduceAdd, slrows_len, hC]
  cases hh : (decide (120 < (s.length : Int)) || decide (1000 < cellsN s)) with
  | true => simp only [go1, Option.bind_some, eq_self, cond_true, cond_false, Nat.reduceAdd, Int.reduceEq, Int.reduceLT, Int.reduceLE, Int.reduceSub, Int.reduceAdd]
  | false =>
    simp only [go1, Option.bind_some, eq_self, cond_true, cond_false, Nat.reduceAdd, Int.reduceEq, Int.reduceLT, Int.reduceLE, Int.reduceSub, Int.reduceAdd]
    refine loopF_at (fun i : Nat => [.sl 2 (erows l), .sl 6 (slrows s), .int .i64 (s.length : Int), .int .i64 (i : Int), .int .i64 (cellsN (s.take i)), .sl 1 (srows ((s.take i).map (·.path)))]) (fun i => i ≤ s.length ∧ ((List.range s.length).take i).all (okAt l s) = true) (fun i => s.length - i) (fun i hi => ?_) 0 ⟨Nat.zero_le _, by simp⟩
    have hb := cellsN_tbd s i
    by_cases hlt : i < s.length
    · have hx := List.getElem?_eq_getElem hlt
      have hm := List.getElem_mem hlt
      have hp := c_Path s[i].path (hs.path _ hm)
      have hv := vRight_u l s[i].ty s[i].init (hs.init _ hm)
      have hc := c_pos s[i].ty
      have hw : IntKind.i64.wrap (cellsN (s.take i) + s[i].ty.c) = cellsN (s.take i) + s[i].ty.c := wrap_id (by omega) (by omega)
      have hr : i < (List.range s.length).length := by simpa using hlt
      have hgd : s.getD i default = s[i] := by simp [hlt]
      have hok : okAt l s i = (decide (cellsN (s.take i) = s[i].at_) && (pathN (tb s[i].path) && valOK l s[i].ty s[i].init)) := by unfold okAt; rw [hgd]
      cases ho : okAt l s i with
      | false =>
        right
        rw [all_false (d := 0) hr (by rw [rng_at hlt]; exact ho)]
        rw [hok] at ho
        simp only [go1, Option.bind_some, eq_self, cond_true, cond_false, Nat.reduceAdd, Int.reduceEq, Int.reduceLT, Int.reduceLE, Int.reduceSub, Int.reduceAdd, slrows_len, ilt_at hlt, inr_at hlt, slt_at hx, cells_u, hp, hv]
        cases h1 : decide (cellsN (s.take i) = s[i].at_) with
        | false => simp only [go1, Option.bind_some, eq_self, cond_true, cond_false, Nat.reduceAdd, Int.reduceEq, Int.reduceLT, Int.reduceLE, Int.reduceSub, Int.reduceAdd]
        | true =>
          cases h2 : pathN (tb s[i].path) with
          | false => simp only [go1, Option.bind_some, eq_self, cond_true, cond_false, Nat.reduceAdd, Int.reduceEq, Int.reduceLT, Int.reduceLE, Int.reduceSub, Int.reduceAdd]
          | true =>
            rw [h1, h2] at ho
            rw [show valOK l s[i].ty s[i].init = false from ho]
            simp only [go1, Option.bind_some, eq_self, cond_true, cond_false, Nat.reduceAdd, Int.reduceEq, Int.reduceLT, Int.reduceLE, Int.reduceSub, Int.reduceAdd]
      | true =>
        left
        refine ⟨i + 1, ?_, ⟨hlt, all_snoc (d := 0) hr hi.2 (by rw [rng_at hlt]; exact ho)⟩, by omega⟩
        rw [hok] at ho
        simp only [Bool.and_eq_true] at ho
        obtain ⟨h1, h2, h3⟩ := ho
        have hf : sy.fits (srows ((s.take i).map (·.path))) [[D.str s[i].path]] 16 = true := decide_eq_true (by
          rw [srows_len, List.length_map, List.length_take]
          show (min i s.length + 1) * 17 ≤ _
          omega)
        simp only [go1, Option.bind_some, eq_self, cond_true, cond_false, Nat.reduceAdd, Int.reduceEq, Int.reduceLT, Int.reduceLE, Int.reduceSub, Int.reduceAdd, slrows_len, ilt_at hlt, inr_at hlt, slt_at hx, cells_u, hp, hv, h1, h2, h3, hw, wrap_succ hlt (by omega)] at hf ⊢
        rw [hf, cellsN_take hx]
        rw [show (s.take (i + 1)).map (·.path) = (s.take i).map (·.path) ++ [s[i].path] by rw [List.take_add_one, hx, List.map_append]; rfl]
        rw [← srows_app]
        rfl
    · right
      have : i = s.length := by omega
      subst this
      have hi := hi.2
      rw [rng_take] at hi
      have hO := c_iOnce (s.map (·.path)) (by simp; exact hs.len)
      simp only [go1, Option.bind_some, eq_self, cond_true, cond_false, Nat.reduceAdd, Int.reduceEq, Int.reduceLT, Int.reduceLE, Int.reduceSub, Int.reduceAdd, ilt_self, List.take_length, hO, hi]
theorem idxI_spec {τ : Type} (p : τ → Bool) : ∀ (l : List τ) (i : Int), (idxI p l i = -1 ∧ ∀ x ∈ l, p x = false) ∨ ∃ (k : Nat) (x : τ), idxI p l i = i + k ∧ l[k]? = some x ∧ p x = true ∧ ∀ (j : Nat) y, j < k → l[j]? = some y → p y = false
  | [], i => .inl ⟨rfl, by simp⟩
  | x :: l, i => by
    unfold idxI
    by_cases hp : p x = true
    · exact .inr ⟨0, x, by simp [hp], rfl, hp, fun j y hj => by omega⟩
    · have hp : p x = false := by simpa using hp
      rcases idxI_spec p l (i + 1) with ⟨h1, h2⟩ | ⟨k, y, h1, h2, h3, h4⟩
      · exact .inl ⟨by simp [hp, h1], fun z hz => by
          rcases List.mem_cons.1 hz with rfl | hz
          · exact hp
          · exact h2 z hz⟩
      · refine .inr ⟨k + 1, y, by simp [hp, h1]; omega, h2, h3, fun j z hj hz => ?_⟩
        cases j with
        | zero => simp at hz; rw [← hz]; exact hp
        | succ j => exact h4 j z (by omega) (by simpa using hz)
theorem find_once (s : List Slt) : (∀ i (h : i < s.length), findS s s[i].path = i) ↔ (s.map (·.path)).Nodup := by
  rw [List.nodup_iff_pairwise_ne, List.pairwise_iff_getElem]
  simp only [List.length_map, List.getElem_map]
  unfold findS
  constructor
  · intro h i j hi hj hij e
    have h2 := h j hj
    rcases idxI_spec (pathIs s[j].path) s 0 with ⟨h3, h4⟩ | ⟨k, x, h3, h4, h5, h6⟩
    · omega
    · have hk : k = j := by omega
      have := h6 i s[i] (by omega) (List.getElem?_eq_getElem hi)
      unfold pathIs at this
      rw [e] at this
      simp at this
  · intro h i hi
    rcases idxI_spec (pathIs s[i].path) s 0 with ⟨h3, h4⟩ | ⟨k, x, h3, h4, h5, h6⟩
    · have := h4 _ (List.getElem_mem hi)
      simp [pathIs] at this
    · obtain ⟨hk, rfl⟩ := List.getElem?_eq_some_iff.1 h4
      have h5 := tb_inj (of_decide_eq_true h5)
      rcases Nat.lt_trichotomy k i with hlt | heq | hgt
      · exact absurd h5 (h k i hk hi hlt)
      · omega
      · have := h6 i s[i] hgt (List.getElem?_eq_getElem hi)
        simp [pathIs] at this
theorem c_rtRight (l : List Enm) (s : List Slt) (hs : SB s) : cF 51 [.d (.sl 2 (erows l)), .d (.sl 6 (slrows s))] = some (.val [.bool (rightS l s)]) := by
  have hC := c_rtCells s hs.len
  have hL := hs.len
  unfold rightS
  refine cOf (by kernel_rfl) rfl ?_
  rw [g51_eq]
  simp only [g51, go1, Option.bind_some, eq_self, cond_true, cond_false, Nat.reduceAdd, Int.reduceEq, Int.reduceLT, Int.reduceLE, Int.reduceSub, Int.reduceAdd, slrows_len, hC]
  cases hh : (decide (120 < (s.length : Int)) || decide (1000 < cellsN s)) with
  | true => simp only [go1, Option.bind_some, eq_self, cond_true, cond_false, Nat.reduceAdd, Int.reduceEq, Int.reduceLT, Int.reduceLE, Int.reduceSub, Int.reduceAdd]
  | false =>
    simp only [go1, Option.bind_some, eq_self, cond_true, cond_false, Nat.reduceAdd, Int.reduceEq, Int.reduceLT, Int.reduceLE, Int.reduceSub, Int.reduceAdd]
    refine loopF_at (fun i : Nat => [.sl 2 (erows l), .sl 6 (slrows s), .int .i64 (i : Int)]) (fun i => i ≤ s.length ∧ ((List.range s.length).take i).all (okAt l s) = true ∧ ∀ j (h : j < s.length), j < i → findS s s[j].path = j) (fun i => s.length - i) (fun i hi => ?_) 0 ⟨Nat.zero_le _, by simp, by omega⟩
    obtain ⟨hi, hia, hif⟩ := hi
    by_cases hlt : i < s.length
    · have hx := List.getElem?_eq_getElem hlt
      have hm := List.getElem_mem hlt
      have hp := c_rPath s[i].path (hs.path _ hm)
      have hv := rvRight_u l s[i].ty s[i].init (hs.init _ hm)
      have hF := c_rtFind s s[i].path hs.len
      have hr : i < (List.range s.length).length := by simpa using hlt
      have hgd : s.getD i default = s[i] := by simp [hlt]
      have hok : okAt l s i = (decide (cellsN (s.take i) = s[i].at_) && (pathN (tb s[i].path) && valOK l s[i].ty s[i].init)) := by unfold okAt; rw [hgd]
      have hcut : sy.cut (slrows s) 0 (i : Int) = slrows (s.take i) := by
        rw [sy_cut, Int.toNat_natCast]; simp [slrows]
      have hck : decide (0 ≤ (i : Int) ∧ (i : Int) ≤ (s.length : Int)) = true := decT ⟨by omega, by omega⟩
      have hCi := c_rtCells (s.take i) (by simp; omega)
      rw [← hcut] at hCi
      simp only [sy_cut] at hCi
      cases ho : okAt l s i with
      | false =>
        right
        rw [all_false (d := 0) hr (by rw [rng_at hlt]; exact ho)]
        rw [hok] at ho
        simp only [go1, Option.bind_some, eq_self, cond_true, cond_false, Nat.reduceAdd, Int.reduceEq, Int.reduceLT, Int.reduceLE, Int.reduceSub, Int.reduceAdd, slrows_len, ilt_at hlt, inr_at hlt, slt_at hx, skip1, skip4, skip5, hp, hv, hck, hCi]
        cases h2 : pathN (tb s[i].path) with
        | false => simp only [go1, Option.bind_some, eq_self, cond_true, cond_false, Nat.reduceAdd, Int.reduceEq, Int.reduceLT, Int.reduceLE, Int.reduceSub, Int.reduceAdd]
        | true =>
          cases h3 : valOK l s[i].ty s[i].init with
          | false => simp only [go1, Option.bind_some, eq_self, cond_true, cond_false, Nat.reduceAdd, Int.reduceEq, Int.reduceLT, Int.reduceLE, Int.reduceSub, Int.reduceAdd]
          | true =>
            rw [h2, h3] at ho
            have : ¬ s[i].at_ = cellsN (s.take i) := by
              simp at ho; exact fun e => ho e.symm
            rw [decF this]
            simp only [go1, Option.bind_some, eq_self, cond_true, cond_false, Nat.reduceAdd, Int.reduceEq, Int.reduceLT, Int.reduceLE, Int.reduceSub, Int.reduceAdd]
      | true =>
        rw [hok] at ho
        have ho' := ho
        simp only [Bool.and_eq_true, decide_eq_true_eq] at ho
        obtain ⟨h1, h2, h3⟩ := ho
        by_cases hf : findS s s[i].path = i
        · left
          refine ⟨i + 1, ?_, ⟨hlt, all_snoc (d := 0) hr hia (by rw [rng_at hlt, hok]; exact ho'), fun j hj hji => ?_⟩, by omega⟩
          · simp only [go1, Option.bind_some, eq_self, cond_true, cond_false, Nat.reduceAdd, Int.reduceEq, Int.reduceLT, Int.reduceLE, Int.reduceSub, Int.reduceAdd, slrows_len, ilt_at hlt, inr_at hlt, slt_at hx, skip1, skip4, skip5, hp, hv, h1, h2, h3, hck, hCi, hF, hf, wrap_succ hlt (by omega)]
            rfl
          · by_cases hji2 : j = i
            · subst hji2; exact hf
            · exact hif j hj (by omega)
        · right
          have hn : ¬ (s.map (·.path)).Nodup := fun hn => hf ((find_once s).2 hn i hlt)
          rw [decF hn]
          simp only [go1, Option.bind_some, eq_self, cond_true, cond_false, Nat.reduceAdd, Int.reduceEq, Int.reduceLT, Int.reduceLE, Int.reduceSub, Int.reduceAdd, slrows_len, ilt_at hlt, inr_at hlt, slt_at hx, skip1, skip4, skip5, hp, hv, h1, h2, h3, hck, hCi, hF, decF hf]
    · right
      have : i = s.length := by omega
      subst this
      rw [rng_take] at hia
      have hn : (s.map (·.path)).Nodup := (find_once s).1 fun i h => hif i h h
      rw [decT hn, hia]
      simp only [go1, Option.bind_some, eq_self, cond_true, cond_false, Nat.reduceAdd, Int.reduceEq, Int.reduceLT, Int.reduceLE, Int.reduceSub, Int.reduceAdd, slrows_len, ilt_self]
end Go.Vm
end
