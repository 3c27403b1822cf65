/-
  Part E of the proof. What is proved by the whole: the statement that the claim names, with no condition. This part: lemmas.
-/
import Derived.Test.YtdckoceiokaelaaDoorD
set_option linter.unusedSimpArgs false
set_option linter.unusedVariables false

section
namespace Go.Vm
/-- A walk along a list, which may end early. -/
def foldE {σ τ α : Type} (step : τ → σ → σ ⊕ α) (fin : σ → α) : List τ → σ → α
  | [], s => fin s
  | x :: xs, s => match step x s with
    | .inl s' => foldE step fin xs s'
    | .inr r => r
theorem loop_list {σ τ α : Type} {b : List D → Option (List D ⊕ α)} (l : List τ) (mk : Nat → σ → List D) (J : Nat → σ → Prop) (step : τ → σ → σ ⊕ α) (fin : σ → α)
    (hb : ∀ i s x, l[i]? = some x → J i s → b (mk i s) = (match step x s with | .inl s' => some (.inl (mk (i + 1) s')) | .inr r => some (.inr r)) ∧ ∀ s', step x s = .inl s' → J (i + 1) s')
    (hend : ∀ s, J l.length s → b (mk l.length s) = some (.inr (fin s))) (s0 : σ) (h0 : J 0 s0) : loopF b (mk 0 s0) = some (foldE step fin l s0) := by
  suffices ∀ (rest : List τ) (i : Nat) (s : σ), l.drop i = rest → i ≤ l.length → J i s → loopF b (mk i s) = some (foldE step fin rest s) from this l 0 s0 rfl (Nat.zero_le _) h0
  intro rest
  induction rest with
  | nil =>
    intro i s hd hi hj
    have : i = l.length := by have := congrArg List.length hd; simp at this; omega
    subst this
    rw [loopF_eq, hend s hj]
    rfl
  | cons x xs ih =>
    intro i s hd hi hj
    have hx : l[i]? = some x := by
      have := congrArg (fun r => r[0]?) hd
      simpa using this
    have hlt : i < l.length := (List.getElem?_eq_some_iff.1 hx).1
    have hxs : l.drop (i + 1) = xs := by
      have := congrArg List.tail hd
      simpa using this
    obtain ⟨h1, h2⟩ := hb i s x hx hj
    rw [loopF_eq, h1]
    unfold foldE
    cases hs : step x s with
    | inl s' => exact ih (i + 1) s' hxs (by omega) (h2 s' hs)
    | inr r => rfl
/-- Where the first one stands. -/
def idxI {τ : Type} (p : τ → Bool) : List τ → Int → Int
  | [], _ => -1
  | x :: l, i => if p x then i else idxI p l (i + 1)
theorem idxI_any {τ : Type} (p : τ → Bool) : ∀ (l : List τ) (i : Int), 0 ≤ i → decide (0 ≤ idxI p l i) = l.any p
  | [], i, h => rfl
  | x :: l, i, h => by
    unfold idxI
    by_cases hp : p x = true
    · simp [hp, h]
    · have hp : p x = false := by simpa using hp
      simp only [hp, Bool.false_eq_true, if_false, List.any_cons, Bool.false_or]
      exact idxI_any p l (i + 1) (by omega)
theorem foldE_idx {τ : Type} (p : τ → Bool) : ∀ (l : List τ) (i : Int), foldE (fun x (i : Int) => if p x then .inr (PRes.val [.int .i64 i]) else .inl (i + 1)) (fun _ => PRes.val [.int .i64 (-1)]) l i = .val [.int .i64 (idxI p l i)]
  | [], i => rfl
  | x :: l, i => by
    unfold foldE idxI
    by_cases hp : p x = true
    · simp [hp]
    · have hp : p x = false := by simpa using hp
      simp only [hp, Bool.false_eq_true, if_false]
      exact foldE_idx p l (i + 1)
/-- slices.IndexFunc. -/
theorem idx_loop {τ : Type} {b : List D → Option (List D ⊕ PRes)} (p : τ → Bool) (l : List τ) (mk : Int → List D)
    (hb : ∀ (i : Nat) x, l[i]? = some x → b (mk i) = bif p x then some (.inr (.val [.int .i64 (i : Int)])) else some (.inl (mk ((i : Int) + 1))))
    (hend : b (mk (l.length : Int)) = some (.inr (.val [.int .i64 (-1)]))) : loopF b (mk 0) = some (.val [.int .i64 (idxI p l 0)]) := by
  have := loop_list (b := b) l (fun i (_ : Int) => mk (i : Int)) (fun i s => s = (i : Int)) (fun x (i : Int) => if p x then .inr (PRes.val [.int .i64 i]) else .inl (i + 1)) (fun _ => PRes.val [.int .i64 (-1)]) (fun i s x hx hs => by
    subst hs
    rw [hb i x hx]
    cases p x with
    | true => exact ⟨rfl, fun s' h => by simp at h⟩
    | false => exact ⟨by simp, fun s' h => by simp at h; rw [← h]; simp⟩) (fun s _ => hend) 0 rfl
  rw [foldE_idx] at this
  exact this
theorem getElem?_some_getD {τ : Type} {l : List τ} {i : Nat} {x d : τ} (h : l[i]? = some x) : l.getD i d = x ∧ i < l.length := by
  refine ⟨by rw [List.getD_eq_getElem?_getD, h]; rfl, (List.getElem?_eq_some_iff.1 h).1⟩
end Go.Vm
end

section
namespace Go.Vm
def look {α : Type} (d : α) : List (Nat × α) → Nat → α
  | [], _ => d
  | (k, x) :: r, n => match Nat.beq k n with
    | true => x
    | false => look d r n
def loopTab : List (Nat × List (Nat × LAn)) := [(3, [(0, { slots := [(0, none), (3, none), (4, none), (6, none), (7, none)] })]),
  (4, [(0, { slots := [(0, none), (5, none), (8, none), (11, none), (14, none)] })]),
  (6, [(0, { slots := [(0, none), (7, none), (8, none)], own := [(1000,7,23)] })]),
  (10, [(0, { slots := [(0, none), (1, none), (5, none)] })]),
  (20, [(0, { slots := [(0, none), (2, none), (7, none), (8, none), (9, none)] })]),
  (28, [(0, { slots := [(6, none), (7, none), (8, none)] })]),
  (29, [(6, { slots := [(0, none), (9, none), (10, none), (12, none)] }), (4, { slots := [(0, none), (9, none), (10, none), (11, none), (12, none)] }), (2, { slots := [(0, none), (9, none), (10, none), (12, none)] }), (0, { slots := [(0, none), (3, none), (4, none), (5, none), (6, none)] })]),
  (31, [(0, { slots := [(0, none), (1, none), (8, none)] })]),
  (36, [(1, { slots := [(0, none), (1, none), (5, none), (6, none), (7, none), (8, none), (9, none), (10, none)] })]),
  (39, [(2, { slots := [(0, none), (9, none), (47, none), (48, none), (49, none)] }), (0, { slots := [(0, none), (1, none), (5, none), (6, none), (14, none)] })]),
  (43, [(3, { slots := [(1, none), (8, none), (9, none), (10, none), (11, none), (12, none), (13, none), (99, none), (100, none), (101, none)] })]),
  (50, [(2, { slots := [(0, none), (1, none), (5, none), (6, none), (7, none), (8, none), (10, none)] }), (0, { slots := [(0, none), (1, none), (5, none), (6, none), (7, none), (8, none), (9, none)] })]),
  (51, [(0, { slots := [(0, none), (1, none), (2, none), (3, none), (9, none), (10, none)] })]),
  (53, [(0, { slots := [(0, none), (6, none)] })]),
  (57, [(0, { slots := [(0, none), (3, none), (4, none), (5, none)] })]),
  (61, [(2, { slots := [(4, none), (6, none), (7, none), (8, none)] }), (0, { slots := [(0, none), (4, none), (5, none)] })]),
  (62, [(0, { slots := [(0, none), (1, none), (6, none), (7, none)] })]),
  (63, [(0, { slots := [(0, none), (1, none), (5, none)] })]),
  (65, [(2, { slots := [(0, none), (1, none), (7, none), (8, none)] }), (0, { slots := [(0, none), (1, none), (19, none), (20, none)] })]),
  (66, [(2, { slots := [(0, none), (1, none), (7, none), (8, none)] }), (0, { slots := [(0, none), (1, none), (15, none), (16, none)] })]),
  (68, [(0, { slots := [(2, none), (4, none)] })]),
  (75, [(0, { slots := [(0, none), (1, none), (4, none)] })]),
  (76, [(0, { slots := [(0, none), (1, none), (3, none), (4, none), (10, none), (11, none), (12, none), (13, none), (14, none), (15, none), (16, none)] }), (2, { slots := [(0, none), (1, none), (3, none), (4, none), (10, none), (11, none), (12, none), (13, none), (17, none)] })])]
def inlTab : List (Nat × List Nat) := []
def mintTab : List (Nat × List Nat) := []
def oslTab : List (Nat × List Nat) := []
def stopTab : List (Nat × List Nat) := []
def deadTab : List (Nat × List Nat) := []
def ownTab : List (Nat × List (Nat × List (Nat × Nat))) := []
def cutTab : List (Nat × List (Nat × Option LAn)) := []
def rtTab : List (Nat × Option (List Nat)) := []
def labTab : List (Nat × List (Nat × Option LAn)) := [(8, [(0, some { slots := [(0, none), (3, none)] })])]
def noTurn : List Nat := []
def noLAn : LAn := { slots := [] }
def cs : FuncId → CfgT := fun f => { me := f, o := { inl := look [] inlTab f, mint := look [] mintTab f, osl := look [] oslTab f, dead := look [] deadTab f, own := look [] ownTab f, stop := look [] stopTab f }, loops := look noLAn (look [] loopTab f), cuts := look none (look [] cutTab f), turn := !(noTurn.contains f), rt := look none rtTab f, labs := look none (look [] labTab f) }
end Go.Vm
end
