/-
  Part B of the proof. What is proved by the whole: the statement that the claim names, with no condition. This part: lemmas.
-/
import Derived.Test.YtmmcmfcnpfbifaaA
import Derived.Laws.StructEq
import Derived.Still
set_option linter.unusedSimpArgs false
set_option linter.unusedVariables false

section
namespace Go.Vm
section
variable {P : Program} {M : List Nat} {h h' : List Box} {ρ : Operand → V} {o : Oper} {x : V}

/-! ### structs that are compared -/
def D.shE : D → Option Sh
  | .int k _ => some (.int k)
  | .bool _ => some .bool
  | .str _ => some .str
  | .sl _ _ => none
def shD : List D → Option (List Sh)
  | [] => some []
  | x :: xs => match x.shE, shD xs with
    | some s, some ss => some (s :: ss)
    | _, _ => none
def leafB (P : Program) (t : TypeId) (s : Sh) : Bool := match P.underlying t, s with
  | some (.int _), .int _ => true
  | some .bool, .bool => true
  | some .string, .str => true
  | _, _ => false
def okF (P : Program) : Nat → List Field → List Sh → Bool
  | _, [], [] => true
  | i, f :: fs, s :: ss => f.name != "_" && decide (f.offset = i) && leafB P f.type s && okF P (i + 1) fs ss
  | _, _, _ => false
/-- May two structs of these cells be compared? -/
def stokB (P : Program) (t : TypeId) (ss : List Sh) : Bool := match P.underlying t with
  | some (.struct fs) => !P.stoodInHeld t && !P.eqGuardType P.depth t && okF P 0 fs.toList ss
  | _ => false
def eqD : D → D → Bool
  | .int _ a, .int _ b => a == b
  | .bool a, .bool b => a == b
  | .str a, .str b => a.toList == b.toList
  | _, _ => false
def eqDs : List D → List D → Bool
  | x :: xs, y :: ys => eqD x y && eqDs xs ys
  | _, _ => true

theorem run_leaf_eq {w : World} {Z : Nat → Nat → Prop} {t : TypeId} {s : Sh} {c e : D} {u v : Value} (d : Nat) (hl : leafB P t s = true) (hc : c.shE = some s) (he : e.shE = some s) (hu : RepD w Z u c) (hv : RepD w Z v e) :
    (Op.equalIn (d + 1) t u v).run P w = .ok (eqD c e) w := by
  cases hu with
  | int k n =>
    cases hc
    cases hv with
    | int k' n' =>
      simp only [D.shE, Option.some.injEq, Sh.int.injEq] at he
      subst he
      unfold leafB at hl
      split at hl
      · rw [run_equalIn_int w d t _ _ _ _ ‹_›]; rfl
      · rename_i h1 h2; cases h2
      · rename_i h1 h2; cases h2
      · cases hl
    | _ => cases he
  | bool b =>
    cases hc
    cases hv with
    | bool b' =>
      unfold leafB at hl
      split at hl
      · rename_i h1 h2; cases h2
      · rw [run_equalIn_bool' w d t _ _ ‹_›]; rfl
      · rename_i h1 h2; cases h2
      · cases hl
    | _ => cases he
  | str b =>
    cases hc
    cases hv with
    | str b' =>
      unfold leafB at hl
      split at hl
      · rename_i h1 h2; cases h2
      · rename_i h1 h2; cases h2
      · rw [run_equalIn_string w d t _ _ ‹_›]; rfl
      · cases hl
    | _ => cases he
  | _ => cases hc

theorem leaf_agg {t : TypeId} {s : Sh} (hl : leafB P t s = true) : (P.underlying t).isSome = true ∧ aggB P t = false := by
  unfold leafB at hl
  unfold aggB
  split at hl <;> simp_all

theorem shD_drop : ∀ (cs : List D) (i : Nat) {s : Sh} {ss : List Sh}, shD (cs.drop i) = some (s :: ss) → ∃ c, cs[i]? = some c ∧ c.shE = some s ∧ shD (cs.drop (i + 1)) = some ss ∧ cs.drop i = c :: cs.drop (i + 1) := by
  intro cs i s ss h
  cases hd : cs.drop i with
  | nil => rw [hd] at h; simp [shD] at h
  | cons c r =>
    rw [hd] at h
    have hr : r = cs.drop (i + 1) := by rw [← List.drop_drop, hd]; rfl
    have hi : cs[i]? = some c := by
      have := congrArg (·[0]?) hd
      simpa using this
    unfold shD at h
    split at h
    · rename_i s' ss' h1 h2
      simp only [Option.some.injEq, List.cons.injEq] at h
      obtain ⟨rfl, rfl⟩ := h
      exact ⟨c, hi, h1, hr ▸ h2, by rw [hr]⟩
    · cases h

theorem run_eqFields {w : World} {Z : Nat → Nat → Prop} {xs ys : Array Value} {cs ds : List D} (d : Nat) (hx : ∀ (j : Nat) c, cs[j]? = some c → ∃ u, xs[j]? = some u ∧ RepD w Z u c)
    (hy : ∀ (j : Nat) c, ds[j]? = some c → ∃ u, ys[j]? = some u ∧ RepD w Z u c) : ∀ (fs : List Field) (ss : List Sh) (i : Nat), okF P i fs ss = true → shD (cs.drop i) = some ss → shD (ds.drop i) = some ss →
    (Op.eqFields (d + 1) xs ys fs).run P w = .ok (eqDs (cs.drop i) (ds.drop i)) w
  | [], ss, i, ho, h1, h2 => by
    cases ss with
    | cons s ss => simp [okF] at ho
    | nil =>
      have : cs.drop i = [] := by
        cases hd : cs.drop i with
        | nil => rfl
        | cons c r => rw [hd] at h1; unfold shD at h1; split at h1 <;> simp at h1
      rw [this]
      simp [Op.eqFields, eqDs]
  | f :: fs, [], i, ho, h1, h2 => by simp [okF] at ho
  | f :: fs, s :: ss, i, ho, h1, h2 => by
    obtain ⟨c, hc, hcs, h1', e1⟩ := shD_drop cs i h1
    obtain ⟨e, he, hes, h2', e2⟩ := shD_drop ds i h2
    obtain ⟨u, hu, ru⟩ := hx i c hc
    obtain ⟨v, hv, rv⟩ := hy i e he
    unfold okF at ho
    simp only [Bool.and_eq_true, bne_iff_ne, decide_eq_true_eq] at ho
    obtain ⟨⟨⟨hn, hoff⟩, hl⟩, ho⟩ := ho
    obtain ⟨ha1, ha2⟩ := leaf_agg hl
    have ih := run_eqFields d hx hy fs ss (i + 1) ho h1' h2'
    have p1 : (part f.type xs f.offset).run P w = .ok u w := by
      simp only [part, Sem.run_bind, run_isAgg_of ha1 ha2, Result.andThen_ok, hoff, hu]
      simp
    have p2 : (part f.type ys f.offset).run P w = .ok v w := by
      simp only [part, Sem.run_bind, run_isAgg_of ha1 ha2, Result.andThen_ok, hoff, hv]
      simp
    rw [e1, e2]
    unfold Op.eqFields eqDs
    rw [if_pos hn]
    simp only [Sem.run_bind, p1, p2, Result.andThen_ok, run_leaf_eq d hl hcs hes ru rv]
    cases hq : eqD c e with
    | false => simp
    | true => simpa using ih

theorem rep_aggD {w : World} {g : Gh} {u : Value} {cs : List D} (hr : Rep w g u (.agg (cs.map .d))) : ∃ us, u = .agg us ∧ ∀ (j : Nat) c, cs[j]? = some c → ∃ u, us[j]? = some u ∧ RepD w g.Z u c := by
  cases hr with
  | agg us cs' hl h =>
    refine ⟨us, rfl, fun j c hc => ?_⟩
    have hj : j < us.size := by rw [hl]; simp; exact (List.getElem?_eq_some_iff.1 hc).1
    have hu : us[j]? = some us[j] := Array.getElem?_eq_getElem hj
    exact ⟨_, hu, rep_d_inv (h j _ (.d c) hu (by simp [hc]))⟩

theorem gives_binE {op : BinOp} {t u : TypeId} {y z : Operand} {cs ds : List D} {ss : List Sh} {c : Bool} (hop : o.op = .binOp op t y z u) (hy1 : ρ y = .agg (cs.map .d)) (hz1 : ρ z = .agg (ds.map .d))
    (hs : stokB P t ss = true) (h1 : shD cs = some ss) (h2 : shD ds = some ss) (hd : (match op with | .eql => some (eqDs cs ds) | .neq => some (!eqDs cs ds) | _ => none) = some c) : Gives P [] h h ρ o (.d (.bool c)) :=
  .pure fun g ρ' w _ hy => by
    obtain ⟨xs, e1, hx⟩ := rep_aggD (hy1 ▸ hy y)
    obtain ⟨ys, e2, hyy⟩ := rep_aggD (hz1 ▸ hy z)
    unfold stokB at hs
    split at hs
    · rename_i fs hu
      simp only [Bool.and_eq_true, Bool.not_eq_true'] at hs
      obtain ⟨⟨s1, s2⟩, s3⟩ := hs
      have hf : P.fieldsOf t = fs := by unfold Program.fieldsOf; rw [hu]
      have key : (Op.equalIn 10000 t (.agg xs) (.agg ys)).run P w = .ok (eqDs cs ds) w := by
        rw [run_equalIn_struct w 9999 t xs ys (by rw [hf]; exact hu) s1, hf]
        exact run_eqFields 9998 hx hyy fs.toList ss 0 s3 h1 h2
      refine ⟨.bool c, ?_, .d (.bool _)⟩
      cases op <;> cases hd <;>
        simp only [execOp, hop, e1, e2, Sem.run_bind, run_eqGuard_agg _ _ _ _ _ _ _ s2, Result.andThen_ok, run_eql_struct, run_neq_struct, key, Sem.run_pure]
    · cases hs
end
end Go.Vm
end

section
namespace Go.Vm
section
variable {P : Program} {M : List Nat} {h h' : List Box} {ρ : Operand → V} {o : Oper} {x : V}

/-- Are the values, one by one, as the evaluator says? -/
def Reps (w : World) (g : Gh) (us : List Value) (vs : List V) : Prop := us.length = vs.length ∧ ∀ (i : Nat) u v, us[i]? = some u → vs[i]? = some v → Rep w g u v

/-- Function f, called with args on the boxes h, answers r, and leaves the boxes h'; of the boxes of M others' values may be others. -/
def HCall (P : Program) (M : List Nat) (f : FuncId) (args : List V) (h : List Box) (r : V) (h' : List Box) : Prop :=
  ∀ (g : Gh) (w : World) (us : List Value), SimH g h w → Reps w g us args →
    Calls P f us.toArray w fun e w' => ∃ u g', e = .returned u ∧ Rep w' g' u r ∧ Keep M g h w g' h' w'

def g0 (Z : Nat → Nat → Prop) : Gh := { Z := Z, n := 0, blk := fun _ => 0, val := fun _ => undef }

/-- Function f, called with args (plain data), answers r (plain data), and turns nothing that was there. -/
def PCall (P : Program) (f : FuncId) (args : List V) (r : V) : Prop := HCall P [] f args [] r []

def V.pureC : V → Bool
  | .any | .nils | .d _ | .pel _ | .nilp | .nilf => true
  | _ => false
def V.pureB : V → Bool
  | .agg cs => cs.all V.pureC
  | .tup cs => cs.all V.pureC
  | .fn _ cs => cs.all V.pureC
  | v => v.pureC
/-- A tuple of such. -/
def V.pureT : V → Bool
  | .tup cs => cs.all V.pureB
  | v => v.pureB

theorem pureC_rep {w : World} {g g' : Gh} (hz : g'.Z = g.Z) {u : Value} {v : V} (hp : v.pureC = true) (hr : Rep w g u v) : Rep w g' u v := by
  cases hr with
  | any u => exact .any u
  | nils => exact .nils
  | d h => exact .d (by rwa [hz])
  | pel blk off cs U hZ hc hr => exact .pel blk off cs U (by rwa [hz]) hc (by rwa [hz])
  | nilp => exact .nilp
  | nilf => exact .nilf
  | _ => simp [V.pureC] at hp

theorem pureB_rep {w : World} {g g' : Gh} (hz : g'.Z = g.Z) {u : Value} {v : V} (hp : v.pureB = true) (hr : Rep w g u v) : Rep w g' u v := by
  have aux : ∀ (us : Array Value) (cs : List V), (∀ (i : Nat) u c, us[i]? = some u → cs[i]? = some c → Rep w g u c) → cs.all V.pureC = true →
      ∀ (i : Nat) u c, us[i]? = some u → cs[i]? = some c → Rep w g' u c := fun us cs h ha i u c hu hc =>
    pureC_rep hz (List.all_eq_true.1 ha c (List.mem_of_getElem? hc)) (h i u c hu hc)
  cases hr with
  | agg us cs hl h => exact .agg us cs hl (aux us cs h hp)
  | tup us cs hl h => exact .tup us cs hl (aux us cs h hp)
  | fn f us cs hl h => exact .fn f us cs hl (aux us cs h hp)
  | any u => exact .any u
  | nils => exact .nils
  | d h => exact .d (by rwa [hz])
  | pel blk off cs U hZ hc hr => exact .pel blk off cs U (by rwa [hz]) hc (by rwa [hz])
  | nilp => exact .nilp
  | nilf => exact .nilf
  | own b hb => simp [V.pureB, V.pureC] at hp
  | ptr b off hb => simp [V.pureB, V.pureC] at hp
  | pml b sz i off hb => simp [V.pureB, V.pureC] at hp
  | map b hb => simp [V.pureB, V.pureC] at hp

theorem pureT_rep {w : World} {g g' : Gh} (hz : g'.Z = g.Z) {u : Value} {v : V} (hp : v.pureT = true) (hr : Rep w g u v) : Rep w g' u v := by
  cases hr with
  | tup us cs hl h => exact .tup us cs hl fun i u c hu hc => pureB_rep hz (List.all_eq_true.1 hp c (List.mem_of_getElem? hc)) (h i u c hu hc)
  | agg us cs hl h => exact pureB_rep hz hp (.agg us cs hl h)
  | fn f us cs hl h => exact pureB_rep hz hp (.fn f us cs hl h)
  | any u => exact .any u
  | nils => exact .nils
  | d h => exact .d (by rwa [hz])
  | pel blk off cs U hZ hc hr => exact .pel blk off cs U (by rwa [hz]) hc (by rwa [hz])
  | nilp => exact .nilp
  | nilf => exact .nilf
  | own b hb => simp [V.pureT, V.pureB, V.pureC] at hp
  | ptr b off hb => simp [V.pureT, V.pureB, V.pureC] at hp
  | pml b sz i off hb => simp [V.pureT, V.pureB, V.pureC] at hp
  | map b hb => simp [V.pureT, V.pureB, V.pureC] at hp

theorem simH_nil {Z : Nat → Nat → Prop} {w : World} (hz : ∀ b o, Z b o → b < w.heap.size) : SimH (g0 Z) [] w :=
  ⟨rfl, by simp, by simp, by rintro k o ⟨b, x, hx, _⟩; simp at hx, hz⟩

/-- A call on plain data leaves every boxes alone. -/
theorem PCall.hcall {f : FuncId} {args : List V} {r : V} (hp : PCall P f args r) (ha : args.all V.pureB = true) (hr : r.pureT = true) (h : List Box) : HCall P [] f args h r h := by
  intro g w us hs hu
  refine (hp (g0 g.Z) w us (simH_nil hs.zlt) ⟨hu.1, fun i u v h1 h2 => pureB_rep (g := g) (g' := g0 g.Z) rfl (List.all_eq_true.1 ha v (List.mem_of_getElem? h2)) (hu.2 i u v h1 h2)⟩).mono ?_
  rintro e w' ⟨u, g', rfl, hru, hk⟩
  have hfr : Fr (fun _ => False) w w' := hk.fr.mono fun k hk => by obtain ⟨b, x, hx, _⟩ := hk; simp at hx
  let g2 : Gh := { g with Z := g'.Z }
  have hle : g.Le (· ∈ ([] : List Nat)) g2 := ⟨hk.le.Z, Nat.le_refl _, fun _ _ _ => rfl, fun _ _ _ => rfl⟩
  have ho : Over [] w g w' g2 := ⟨hle, fun b o hz => hfr.cell (hs.zlt b o hz) (fun h => h)⟩
  have hzn : ∀ b o, g'.Z b o → g.Z b o ∨ w.heap.size ≤ b := fun b o hz => by
    rcases hk.znew b o hz with h1 | h1 | h1
    · exact .inl h1
    · exact .inr h1
    · obtain ⟨c, x, hx, _⟩ := h1; simp at hx
  have hat : ∀ (b : Nat) (x : Box), x.at? g2 b = x.at? g b := fun b x => by cases x <;> rfl
  have hown : ∀ k, Owned g2 h k ↔ Owned g h k := fun k => ⟨fun ⟨b, x, h1, h2⟩ => ⟨b, x, h1, by rwa [hat] at h2⟩, fun ⟨b, x, h1, h2⟩ => ⟨b, x, h1, by rwa [hat]⟩⟩
  refine ⟨u, g2, rfl, pureT_rep (g := g') (g' := g2) rfl hr hru, ⟨⟨hs.n, ?_, ?_, ?_, hk.heap.zlt⟩, hle, hfr.mono (fun _ h => h.elim), fun b o hz => ?_, fun k hk => .inl ((hown k).1 hk)⟩⟩
  · intro b x hx
    have := BoxRep.over ho (by rw [hs.n]; exact (List.getElem?_eq_some_iff.1 hx).1) (by simp) (fun k hk => hfr.block k ((hs.rep b x hx).lt hk) (fun h => h)) (hs.rep b x hx)
    rwa [Box.kill_nil] at this
  · intro b c x y k h1 h2 h3 h4
    rw [hat] at h3 h4
    exact hs.sep b c x y k h1 h2 h3 h4
  · intro k o hk hz
    rw [hown] at hk
    rcases hzn k o hz with h1 | h1
    · exact hs.zsep k o hk h1
    · have := hs.owned_lt hk; omega
  · rcases hzn b o hz with h1 | h1
    · exact .inl h1
    · exact .inr (.inl h1)

/-- Function f, called with args (plain data), answers a slice of its own. -/
def MCall (P : Program) (f : FuncId) (args : List V) (e : TypeId) (sz : Nat) (rows : List (List D)) : Prop := HCall P [] f args [] (.own 0) [.arr e sz rows]

theorem MCall.hcall {f : FuncId} {args : List V} {e : TypeId} {sz : Nat} {rows : List (List D)} (hp : MCall P f args e sz rows) (ha : args.all V.pureB = true) (h : List Box) : HCall P [] f args h (.own h.length) (h ++ [.arr e sz rows]) := by
  intro g w us hs hu
  refine (hp (g0 g.Z) w us (simH_nil hs.zlt) ⟨hu.1, fun i u v h1 h2 => pureB_rep (g := g) (g' := g0 g.Z) rfl (List.all_eq_true.1 ha v (List.mem_of_getElem? h2)) (hu.2 i u v h1 h2)⟩).mono ?_
  rintro _ w' ⟨u, g', rfl, hru, hk⟩
  have hfr : Fr (fun _ => False) w w' := hk.fr.mono fun k hk => by obtain ⟨b, x, hx, _⟩ := hk; simp at hx
  let g3 : Gh := { Z := g'.Z, n := g.n + 1, blk := fun b => if b = g.n then g'.blk 0 else g.blk b, val := fun b => if b = g.n then g'.val 0 else g.val b }
  have hb3 : ∀ b, b < g.n → g3.blk b = g.blk b ∧ g3.val b = g.val b := fun b hb => by simp [g3, Nat.ne_of_lt hb]
  have hn3 : g3.blk g.n = g'.blk 0 ∧ g3.val g.n = g'.val 0 := by simp [g3]
  have hle : g.Le (· ∈ ([] : List Nat)) g3 := ⟨hk.le.Z, Nat.le_succ _, fun b hb _ => (hb3 b hb).1, fun b hb _ => (hb3 b hb).2⟩
  have ho : Over [] w g w' g3 := ⟨hle, fun b o hz => hfr.cell (hs.zlt b o hz) (fun h => h)⟩
  have hzn : ∀ b o, g'.Z b o → g.Z b o ∨ w.heap.size ≤ b := fun b o hz => by
    rcases hk.znew b o hz with h1 | h1 | h1
    · exact .inl h1
    · exact .inr h1
    · obtain ⟨c, x, hx, _⟩ := h1; simp at hx
  have hat : ∀ (b : Nat) (x : Box), b < g.n → x.at? g3 b = x.at? g b := fun b x hb => Box.at?_congr (hb3 b hb).1 (hb3 b hb).2 x
  have hat0 : (Box.arr e sz rows).at? g3 g.n = (Box.arr e sz rows).at? g' 0 := by simp only [Box.at?, hn3.2]
  have hnew : ∀ k, (Box.arr e sz rows).at? g3 g.n = some k → w.heap.size ≤ k ∧ Owned g' [.arr e sz rows] k := fun k hk' => by
    rw [hat0] at hk'
    have hO : Owned g' [.arr e sz rows] k := ⟨0, _, rfl, hk'⟩
    rcases hk.own k hO with h1 | h1
    · obtain ⟨c, x, hx, _⟩ := h1; simp at hx
    · exact ⟨h1, hO⟩
  have hget : ∀ (b : Nat) y, (h ++ [Box.arr e sz rows])[b]? = some y → (b < g.n ∧ h[b]? = some y) ∨ (b = g.n ∧ y = .arr e sz rows) := by
    intro b y hy
    rw [List.getElem?_append] at hy
    split at hy
    · rename_i hb; exact .inl ⟨by rw [hs.n]; exact hb, hy⟩
    · rename_i hb
      have h0 : b - h.length = 0 := by
        rcases Nat.eq_zero_or_pos (b - h.length) with h0 | h0
        · exact h0
        · rw [List.getElem?_eq_none (by simp; omega)] at hy; cases hy
      rw [h0] at hy
      simp at hy
      exact .inr ⟨by rw [hs.n]; omega, hy.symm⟩
  have hown : ∀ k, Owned g3 (h ++ [.arr e sz rows]) k → Owned g h k ∨ (w.heap.size ≤ k ∧ Owned g' [.arr e sz rows] k) := by
    rintro k ⟨b, y, hy, hk'⟩
    rcases hget b y hy with ⟨hb, hy⟩ | ⟨rfl, rfl⟩
    · rw [hat b y hb] at hk'; exact .inl ⟨b, y, hy, hk'⟩
    · exact .inr (hnew k hk')
  refine ⟨u, g3, rfl, ?_, ⟨⟨by simp [g3, hs.n], ?_, ?_, ?_, hk.heap.zlt⟩, hle, hfr.mono (fun _ h => h.elim), fun b o hz => ?_, fun k hk => ?_⟩⟩
  · obtain ⟨e1, _⟩ := rep_own_inv hru
    have := Rep.own (w := w') (g := g3) g.n (by simp [g3])
    rw [hn3.2, ← e1, hs.n] at this
    exact this
  · intro b x hx
    rcases hget b x hx with ⟨hb, hx⟩ | ⟨rfl, rfl⟩
    · have := BoxRep.over ho hb (by simp) (fun k hk => hfr.block k ((hs.rep b x hx).lt hk) (fun h => h)) (hs.rep b x hx)
      rwa [Box.kill_nil] at this
    · have := hk.heap.rep 0 _ rfl
      simp only [BoxRep, hn3.1, hn3.2] at this ⊢
      exact this
  · intro b c x y k h1 h2 h3 h4
    rcases hget b x h1 with ⟨hb, h1'⟩ | ⟨hb, hx⟩ <;> rcases hget c y h2 with ⟨hc, h2'⟩ | ⟨hc, hy⟩
    · rw [hat b x hb] at h3; rw [hat c y hc] at h4
      exact hs.sep b c x y k h1' h2' h3 h4
    · rw [hat b x hb] at h3
      have := (hs.rep b x h1').lt h3
      subst hc; subst hy
      have := (hnew k h4).1
      omega
    · rw [hat c y hc] at h4
      have := (hs.rep c y h2').lt h4
      subst hb; subst hx
      have := (hnew k h3).1
      omega
    · rw [hb, hc]
  · intro k o hk' hz
    rcases hown k hk' with h1 | ⟨h1, h2⟩
    · rcases hzn k o hz with h3 | h3
      · exact hs.zsep k o h1 h3
      · have := hs.owned_lt h1; omega
    · exact hk.heap.zsep k o h2 hz
  · rcases hzn b o hz with h1 | h1
    · exact .inl h1
    · exact .inr (.inl h1)
  · rcases hown k hk with h1 | ⟨h1, _⟩
    · exact .inl h1
    · exact .inr h1

def goodF (P : Program) (f : FuncId) : Bool := match P.funcs[f]? with
  | some fn => !(fn.name == "runtime.NumGoroutine") && fn.body.isSome
  | none => false

/-- What a function answers, that may be called. -/
def sigP (P : Program) (f : FuncId) : Option (List TypeId) := match goodF P f, P.funcs[f]? with
  | true, some fn => some fn.resultTypes.toList
  | _, _ => none

theorem sigP_some {f : FuncId} {ts : List TypeId} (h : sigP P f = some ts) : goodF P f = true := by
  unfold sigP at h
  split at h
  · assumption
  · cases h
theorem sigP_none {f : FuncId} (h : sigP P f = none) : goodF P f = false := by
  cases hg : goodF P f with
  | false => rfl
  | true =>
    unfold sigP at h
    rw [hg] at h
    unfold goodF at hg
    split at hg
    · rename_i fn hfn; rw [hfn] at h; cases h
    · cases hg

theorem run_callFunc {f : FuncId} (hf : goodF P f = true) (args : Array Value) (w : World) : (callFunc f args).run P w = .ok (.enter f args) w := by
  unfold goodF at hf
  split at hf
  · rename_i fn hfn
    simp only [Bool.and_eq_true, Bool.not_eq_true'] at hf
    obtain ⟨h1, h2⟩ := hf
    have h3 : fn.body.isNone = false := by cases hb : fn.body <;> simp_all
    unfold callFunc
    simp only [Sem.run_bind, run_program, Result.andThen_ok, hfn, h1, h3, Bool.false_eq_true, if_false, Sem.run_pure]
  · cases hf

theorem gives_call {f : FuncId} {args : Array Operand} {ts : Array TypeId} {r : V} (hop : o.op = .call { callee := .value (.func f), args := args, argTypes := ts }) (hf : goodF P f = true)
    (hc : HCall P M f (args.toList.map ρ) h r h') : Gives P M h h' ρ o r := by
  intro g a w hs hy K Q hK
  have hargs : Reps w g (args.toList.map a.eval) (args.toList.map ρ) := ⟨by simp, fun i u v h1 h2 => by
    rw [List.getElem?_map, Option.map_eq_some_iff] at h1 h2
    obtain ⟨q, hq, rfl⟩ := h1
    obtain ⟨q', hq', rfl⟩ := h2
    rw [hq] at hq'; cases hq'
    exact hy q⟩
  have hcall := hc g w _ hs hargs
  have hrun : (execOp a.eval o).run P w = .ok (.enter f (args.toList.map a.eval).toArray) w := by
    have : (args.toList.map a.eval).toArray = args.map a.eval := by apply Array.ext'; simp
    rw [this]
    simp [execOp, hop, resolve, Act.eval, Deferred.ofValue, invoke, run_callFunc hf]
  unfold Oper.wp
  rw [hrun, Oper.upon_enter]
  refine hcall.mono ?_
  rintro e w' ⟨u, g', rfl, hr, hk⟩
  exact hK u w' g' hr hk

/-- A function value is called. -/
theorem gives_callV {y : Operand} {f : FuncId} {caps : List V} {args : Array Operand} {ts : Array TypeId} {r : V} (hop : o.op = .call { callee := .value y, args := args, argTypes := ts }) (hy1 : ρ y = .fn f caps) (hf : goodF P f = true)
    (hc : HCall P M f (args.toList.map ρ ++ caps) h r h') : Gives P M h h' ρ o r := by
  intro g a w hs hy K Q hK
  have hr := hy y
  rw [hy1] at hr
  generalize hu0 : a.eval y = u0 at hr
  cases hr with
  | fn _ us _ hl hcap =>
    have hargs : Reps w g (args.toList.map a.eval ++ us.toList) (args.toList.map ρ ++ caps) := ⟨by simp [hl], fun i u v h1 h2 => by
      rw [List.getElem?_append] at h1 h2
      simp only [List.length_map] at h1 h2
      split at h1
      · rename_i hi
        rw [if_pos hi] at h2
        rw [List.getElem?_map, Option.map_eq_some_iff] at h1 h2
        obtain ⟨q, hq, rfl⟩ := h1
        obtain ⟨q', hq', rfl⟩ := h2
        rw [hq] at hq'; cases hq'
        exact hy q
      · rename_i hi
        rw [if_neg hi] at h2
        exact hcap _ u v (by rwa [Array.getElem?_toList] at h1) h2⟩
    have hcall := hc g w _ hs hargs
    have hrun : (execOp a.eval o).run P w = .ok (.enter f (args.toList.map a.eval ++ us.toList).toArray) w := by
      have : (args.toList.map a.eval ++ us.toList).toArray = (#[] ++ args.map a.eval) ++ us := by
        apply Array.ext'; simp
      rw [this]
      simp [execOp, hop, resolve, hu0, Deferred.ofValue, invoke, run_callFunc hf]
    unfold Oper.wp
    rw [hrun, Oper.upon_enter]
    refine hcall.mono ?_
    rintro e w' ⟨u, g', rfl, hr, hk⟩
    exact hK u w' g' hr hk

/-! ### the frame of a function -/
structure Ent where
  w : World
  g : Gh
  h : List Box
  M : List Nat
  len : Nat

structure Sim (E : Ent) (s : VSt) (a : Act) (w : World) (g : Gh) : Prop where
  heap : SimH g s.h w
  size : a.tmps.size = s.t.length
  tmps : ∀ (i : Nat) u v, a.tmps[i]? = some u → s.t[i]? = some v → Rep w g u v
  defers : a.defers = []
  keep : E.g.Le (· ∈ E.M) g ∧ Fr (Owned E.g E.h) E.w w ∧ (∀ b o, g.Z b o → E.g.Z b o ∨ E.w.heap.size ≤ b ∨ Owned E.g E.h b) ∧ (∀ k, Owned g s.h k → Owned E.g E.h k ∨ E.w.heap.size ≤ k)
  len : s.t.length = E.len

def SimE (E : Ent) (s : VSt) (a : Act) (w : World) : Prop := ∃ g, Sim E s a w g

/-- May the boxes of M be turned, seen from the entry? -/
def okM (n : Nat) (ME M : List Nat) : Bool := M.all fun b => ME.contains b || decide (n ≤ b)

theorem Sim.step {E : Ent} {s : VSt} {a : Act} {w w' : World} {g g' : Gh} (hs : Sim E s a w g) (hk : Keep M g s.h w g' h' w') (hM : okM E.g.n E.M M = true) :
    E.g.Le (· ∈ E.M) g' ∧ Fr (Owned E.g E.h) E.w w' ∧ (∀ b o, g'.Z b o → E.g.Z b o ∨ E.w.heap.size ≤ b ∨ Owned E.g E.h b) ∧ (∀ k, Owned g' h' k → Owned E.g E.h k ∨ E.w.heap.size ≤ k) := by
  obtain ⟨k1, k2, k3, k4⟩ := hs.keep
  have hM' : ∀ b, b < E.g.n → b ∈ M → b ∈ E.M := fun b hb hm => by
    have := List.all_eq_true.1 hM b hm
    simp at this
    rcases this with h1 | h1
    · exact h1
    · omega
  refine ⟨⟨fun b o hz => hk.le.Z b o (k1.Z b o hz), Nat.le_trans k1.n hk.le.n, fun b hb hm => ?_, fun b hb hm => ?_⟩, k2.trans' hk.fr k4, fun b o hz => ?_, fun k hk' => ?_⟩
  · exact (hk.le.blk b (Nat.lt_of_lt_of_le hb k1.n) (fun h => hm (hM' b hb h))).trans (k1.blk b hb hm)
  · exact (hk.le.val b (Nat.lt_of_lt_of_le hb k1.n) (fun h => hm (hM' b hb h))).trans (k1.val b hb hm)
  · rcases hk.znew b o hz with h1 | h1 | h1
    · exact k3 b o h1
    · exact .inr (.inl (Nat.le_trans k2.size h1))
    · rcases k4 b h1 with h2 | h2
      · exact .inr (.inr h2)
      · exact .inr (.inl h2)
  · rcases hk.own k hk' with h1 | h1
    · exact k4 k h1
    · exact .inr (Nat.le_trans k2.size h1)

def VSt.next (s : VSt) (M : List Nat) (h' : List Box) (dst : Option Tmp) (x : V) : VSt :=
  let t := match M with
    | [] => s.t
    | _ => s.t.map (V.kill M)
  { t := match dst with | some d => t.set d x | none => t, h := h' }

theorem next_t (s : VSt) (M : List Nat) (h' : List Box) (dst : Option Tmp) (x : V) :
    (s.next M h' dst x).t = match dst with | some d => (s.t.map (V.kill M)).set d x | none => s.t.map (V.kill M) := by
  have : (match M with | [] => s.t | _ => s.t.map (V.kill M)) = s.t.map (V.kill M) := by
    cases M with
    | nil => rw [show V.kill [] = id from funext V.kill_nil]; simp
    | cons => rfl
  unfold VSt.next
  simp only [this]

theorem Sim.next {E : Ent} {s : VSt} {a : Act} {w w' : World} {g g' : Gh} (hs : Sim E s a w g) (hk : Keep M g s.h w g' h' w') (hM : okM E.g.n E.M M = true) {u : Value} (hu : Rep w' g' u x) (dst : Option Tmp) :
    Sim E (s.next M h' dst x) (a.put dst u) w' g' := by
  have ho := hk.over hs.heap
  have hput : (a.put dst u).tmps = match dst with | some d => a.tmps.setIfInBounds d u | none => a.tmps := by cases dst <;> rfl
  refine ⟨hk.heap, ?_, ?_, by cases dst <;> exact hs.defers, hs.step hk hM, by rw [next_t, ← hs.len]; cases dst <;> simp⟩
  · rw [next_t, hput]; cases dst <;> simp [hs.size]
  · intro i u' v' h1 h2
    rw [next_t] at h2
    rw [hput] at h1
    have old : ∀ {u' v'}, a.tmps[i]? = some u' → (s.t.map (V.kill M))[i]? = some v' → Rep w' g' u' v' := by
      intro u' v' h1 h2
      rw [List.getElem?_map, Option.map_eq_some_iff] at h2
      obtain ⟨v0, h0, rfl⟩ := h2
      exact ho.kill (hs.tmps i u' v0 h1 h0)
    cases dst with
    | none => exact old h1 h2
    | some d =>
      simp only at h1 h2
      rw [Array.getElem?_setIfInBounds] at h1
      rw [List.getElem?_set] at h2
      by_cases hd : d = i
      · subst hd
        rw [if_pos rfl] at h1 h2
        split at h1
        · split at h2
          · cases h1; cases h2; exact hu
          · cases h2
        · cases h1
      · rw [if_neg hd] at h1 h2
        exact old h1 h2

theorem Sim.get {E : Ent} {s : VSt} {a : Act} {w : World} {g : Gh} (hs : Sim E s a w g) (y : Operand) : Rep w g (a.eval y) (s.get y) := by
  cases y with
  | tmp t =>
    simp only [Act.eval, VSt.get]
    by_cases ht : t < s.t.length
    · have h1 : t < a.tmps.size := by rw [hs.size]; exact ht
      exact hs.tmps t (a.tmps.getD t undef) (s.t.getD t .any) (by simp [h1]) (by simp [ht])
    · have : s.t.getD t .any = .any := by simp [List.getElem?_eq_none (Nat.le_of_not_lt ht)]
      rw [this]; exact .any _
  | const v => exact rep_ofConst w g v
  | func f => exact .fn f #[] [] rfl (by simp)
  | global k => exact .any _

theorem Gives.sim {E : Ent} {s : VSt} {a : Act} {w : World} (hg : Gives P M s.h h' s.get o x) (hs : SimE E s a w) (hM : okM E.g.n E.M M = true) {K : Act → World → Prop} {Q : Exit → Act → World → Prop}
    (hK : ∀ a' w', SimE E (s.next M h' o.dst x) a' w' → K a' w') : o.wp P a w K Q := by
  obtain ⟨g, hs⟩ := hs
  exact hg g a w hs.heap hs.get K Q fun u w' g' hu hk => hK _ _ ⟨g', hs.next hk hM hu o.dst⟩

/-- A ghost step. -/
theorem SimE.frz {E : Ent} {s : VSt} {a : Act} {w : World} {b : Nat} {e : TypeId} {sz : Nat} {rows : List (List D)} (hs : SimE E s a w) (hb : s.h[b]? = some (.arr e sz rows)) :
    SimE E { t := s.t.map (V.frz b (.sl sz rows)), h := (s.h.map (Box.frz b (.sl sz rows))).set b .gone } a w := by
  obtain ⟨g, hs⟩ := hs
  obtain ⟨g', hk, hr⟩ := freeze_step hs.heap hb
  refine ⟨g', hk.heap, by simpa using hs.size, fun i u v h1 h2 => ?_, hs.defers, hs.step hk (by simp [okM]), by simpa using hs.len⟩
  rw [List.getElem?_map, Option.map_eq_some_iff] at h2
  obtain ⟨v0, h0, rfl⟩ := h2
  exact hr _ _ (hs.tmps i u v0 h1 h0)

theorem SimE.frp {E : Ent} {s : VSt} {a : Act} {w : World} {b : Nat} {t : TypeId} {vs : List V} {cs : List D} (hs : SimE E s a w) (hb : s.h[b]? = some (.cells t vs)) (hc : allDs vs = some cs) :
    SimE E { t := s.t.map (V.frp b cs), h := (s.h.map (Box.frp b cs)).set b .gone } a w := by
  obtain ⟨g, hs⟩ := hs
  rw [allDs_spec hc] at hb
  obtain ⟨g', hk, hr⟩ := freezeP_step hs.heap hb
  refine ⟨g', hk.heap, by simpa using hs.size, fun i u v h1 h2 => ?_, hs.defers, hs.step hk (by simp [okM]), by simpa using hs.len⟩
  rw [List.getElem?_map, Option.map_eq_some_iff] at h2
  obtain ⟨v0, h0, rfl⟩ := h2
  exact hr _ _ (hs.tmps i u v0 h1 h0)

def VSt.frz (s : VSt) : List Nat → VSt
  | [] => s
  | b :: bs => match s.h[b]? with
    | some (.arr _ sz rows) => VSt.frz { t := s.t.map (V.frz b (.sl sz rows)), h := (s.h.map (Box.frz b (.sl sz rows))).set b .gone } bs
    | some (.cells _ vs) => match allDs vs with
      | some cs => VSt.frz { t := s.t.map (V.frp b cs), h := (s.h.map (Box.frp b cs)).set b .gone } bs
      | none => VSt.frz s bs
    | _ => VSt.frz s bs

theorem SimE.frzs {E : Ent} {a : Act} {w : World} : ∀ {bs : List Nat} {s : VSt}, SimE E s a w → SimE E (s.frz bs) a w
  | [], _, h => h
  | b :: bs, s, h => by
    unfold VSt.frz
    split
    · rename_i e sz rows hb; exact SimE.frzs (h.frz hb)
    · rename_i t vs hb
      split
      · rename_i cs hc; exact SimE.frzs (h.frp hb hc)
      · exact SimE.frzs h
    · exact SimE.frzs h

/-- A slot is known to hold something. -/
theorem SimE.setT {E : Ent} {s : VSt} {a : Act} {w : World} (hs : SimE E s a w) {t : Tmp} {v : V} (hv : ∀ u g, a.tmps[t]? = some u → Rep w g u v) : SimE E { s with t := s.t.set t v } a w := by
  obtain ⟨g, hs⟩ := hs
  refine ⟨g, hs.heap, by simpa using hs.size, fun i u v' h1 h2 => ?_, hs.defers, hs.keep, by simpa using hs.len⟩
  simp only at h2
  rw [List.getElem?_set] at h2
  by_cases hd : t = i
  · subst hd
    rw [if_pos rfl] at h2
    split at h2
    · cases h2; exact hv u g h1
    · cases h2
  · rw [if_neg hd] at h2; exact hs.tmps i u v' h1 h2

end
end Go.Vm
end

section
namespace Go.Vm
section
variable {P : Program} {M : List Nat} {h h' : List Box} {ρ : Operand → V} {o : Oper} {x : V}

/-! ### other names for boxes -/
mutual
def V.ren (σ : Nat → Nat) : V → V
  | .own b => .own (σ b)
  | .ptr b o => .ptr (σ b) o
  | .pml b s i o => .pml (σ b) s i o
  | .map b => .map (σ b)
  | .agg cs => .agg (V.renL σ cs)
  | .tup cs => .tup (V.renL σ cs)
  | .fn f cs => .fn f (V.renL σ cs)
  | .any => .any
  | .nils => .nils
  | .d x => .d x
  | .pel cs => .pel cs
  | .nilp => .nilp
  | .nilf => .nilf
def V.renL (σ : Nat → Nat) : List V → List V
  | [] => []
  | c :: cs => c.ren σ :: V.renL σ cs
end
mutual
/-- Does v name boxes below n alone? -/
def V.scB (n : Nat) : V → Bool
  | .own b => decide (b < n)
  | .ptr b _ => decide (b < n)
  | .pml b _ _ _ => decide (b < n)
  | .map b => decide (b < n)
  | .agg cs => V.scL n cs
  | .tup cs => V.scL n cs
  | .fn _ cs => V.scL n cs
  | _ => true
def V.scL (n : Nat) : List V → Bool
  | [] => true
  | c :: cs => c.scB n && V.scL n cs
end
def Box.ren (σ : Nat → Nat) : Box → Box
  | .cells t vs => .cells t (V.renL σ vs)
  | x => x
def Box.scB (n : Nat) : Box → Bool
  | .cells _ vs => V.scL n vs
  | _ => true

theorem renL_map (σ : Nat → Nat) : ∀ cs : List V, V.renL σ cs = cs.map (V.ren σ)
  | [] => rfl
  | c :: cs => by unfold V.renL; rw [renL_map σ cs]; rfl
theorem scL_all (n : Nat) : ∀ cs : List V, V.scL n cs = cs.all (V.scB n)
  | [] => rfl
  | c :: cs => by unfold V.scL; rw [scL_all n cs]; rfl

/-- Forth: a reading under few names is one under many. -/
theorem ren_rep {w : World} {g g' : Gh} {σ : Nat → Nat} (hz : ∀ b o, g.Z b o → g'.Z b o) (hσ : ∀ b, b < g.n → g'.blk (σ b) = g.blk b ∧ g'.val (σ b) = g.val b ∧ σ b < g'.n) {u : Value} {v : V} (hr : Rep w g u v) : Rep w g' u (v.ren σ) := by
  have aux : ∀ (us : Array Value) (cs : List V), (∀ (i : Nat) u c, us[i]? = some u → cs[i]? = some c → Rep w g' u (c.ren σ)) →
      ∀ (i : Nat) u c, us[i]? = some u → (V.renL σ cs)[i]? = some c → Rep w g' u c := by
    intro us cs h i u c hu hc
    rw [renL_map, List.getElem?_map, Option.map_eq_some_iff] at hc
    obtain ⟨c', hc', rfl⟩ := hc
    exact h i u c' hu hc'
  induction hr with
  | any u => exact .any u
  | nils => exact .nils
  | d h => exact .d (h.mono hz (fun _ _ _ => rfl))
  | agg us cs hl h ih => exact .agg us _ (by rw [renL_map, List.length_map]; exact hl) (aux us cs ih)
  | tup us cs hl h ih => exact .tup us _ (by rw [renL_map, List.length_map]; exact hl) (aux us cs ih)
  | fn f us cs hl h ih => exact .fn f us _ (by rw [renL_map, List.length_map]; exact hl) (aux us cs ih)
  | own b hb => rw [← (hσ b hb).2.1]; exact .own (σ b) (hσ b hb).2.2
  | map b hb => rw [← (hσ b hb).2.1]; exact .map (σ b) (hσ b hb).2.2
  | ptr b off hb => rw [← (hσ b hb).1]; exact .ptr (σ b) off (hσ b hb).2.2
  | pml b sz i off hb => rw [← (hσ b hb).1]; exact .pml (σ b) sz i off (hσ b hb).2.2
  | pel blk off cs U hZ hc hr => exact .pel blk off cs U (fun j c h => hz _ _ (hZ j c h)) hc (fun j c h => (hr j c h).mono hz (fun _ _ _ => rfl))
  | nilp => exact .nilp
  | nilf => exact .nilf

/-- Back. -/
theorem ren_back {w : World} {g g0 : Gh} {σ : Nat → Nat} (hz : g0.Z = g.Z) (hσ : ∀ b, b < g0.n → g0.blk b = g.blk (σ b) ∧ g0.val b = g.val (σ b)) {u : Value} {v' : V} (hr : Rep w g u v') :
    ∀ {v : V}, v' = v.ren σ → v.scB g0.n = true → Rep w g0 u v := by
  have aux : ∀ (us : Array Value) (cs' cs : List V), (∀ (i : Nat) u c, us[i]? = some u → cs'[i]? = some c → ∀ {v : V}, c = v.ren σ → v.scB g0.n = true → Rep w g0 u v) → cs' = V.renL σ cs → V.scL g0.n cs = true →
      ∀ (i : Nat) u c, us[i]? = some u → cs[i]? = some c → Rep w g0 u c := by
    intro us cs' cs h he hs i u c hu hc
    rw [scL_all] at hs
    refine h i u (c.ren σ) hu ?_ rfl (List.all_eq_true.1 hs c (List.mem_of_getElem? hc))
    rw [he, renL_map, List.getElem?_map, hc]; rfl
  induction hr with
  | any u => intro v he hs; cases v <;> simp [V.ren] at he; exact .any u
  | nils => intro v he hs; cases v <;> simp [V.ren] at he; exact .nils
  | d h => intro v he hs; cases v <;> simp [V.ren] at he; subst he; exact .d (by rwa [hz])
  | agg us cs hl h ih =>
    intro v he hs; cases v <;> simp [V.ren] at he
    rename_i cs0
    exact .agg us cs0 (by rw [hl, he, renL_map, List.length_map]) (aux us cs cs0 ih he (by simpa [V.scB] using hs))
  | tup us cs hl h ih =>
    intro v he hs; cases v <;> simp [V.ren] at he
    rename_i cs0
    exact .tup us cs0 (by rw [hl, he, renL_map, List.length_map]) (aux us cs cs0 ih he (by simpa [V.scB] using hs))
  | fn f us cs hl h ih =>
    intro v he hs; cases v <;> simp [V.ren] at he
    rename_i f0 cs0
    obtain ⟨rfl, he⟩ := he
    exact .fn f us cs0 (by rw [hl, he, renL_map, List.length_map]) (aux us cs cs0 ih he (by simpa [V.scB] using hs))
  | own b hb =>
    intro v he hs; cases v <;> simp [V.ren] at he
    rename_i b0
    have hb0 : b0 < g0.n := by simpa [V.scB] using hs
    subst he
    rw [← (hσ b0 hb0).2]; exact .own b0 hb0
  | map b hb =>
    intro v he hs; cases v <;> simp [V.ren] at he
    rename_i b0
    have hb0 : b0 < g0.n := by simpa [V.scB] using hs
    subst he
    rw [← (hσ b0 hb0).2]; exact .map b0 hb0
  | ptr b off hb =>
    intro v he hs; cases v <;> simp [V.ren] at he
    rename_i b0 off0
    have hb0 : b0 < g0.n := by simpa [V.scB] using hs
    obtain ⟨rfl, rfl⟩ := he
    rw [← (hσ b0 hb0).1]; exact .ptr b0 _ hb0
  | pml b sz i off hb =>
    intro v he hs; cases v <;> simp [V.ren] at he
    rename_i b0 sz0 i0 off0
    have hb0 : b0 < g0.n := by simpa [V.scB] using hs
    obtain ⟨rfl, rfl, rfl, rfl⟩ := he
    rw [← (hσ b0 hb0).1]; exact .pml b0 _ _ _ hb0
  | pel blk off cs U hZ hc hr => intro v he hs; cases v <;> simp [V.ren] at he; subst he; exact .pel blk off cs U (by rwa [hz]) hc (by rwa [hz])
  | nilp => intro v he hs; cases v <;> simp [V.ren] at he; exact .nilp
  | nilf => intro v he hs; cases v <;> simp [V.ren] at he; exact .nilf

theorem ren_box {w : World} {g g' : Gh} {σ : Nat → Nat} (hz : ∀ b o, g.Z b o → g'.Z b o) (hσ : ∀ b, b < g.n → g'.blk (σ b) = g.blk b ∧ g'.val (σ b) = g.val b ∧ σ b < g'.n) {b : Nat} (hb : b < g.n) {x : Box} (hr : BoxRep w g b x) : BoxRep w g' (σ b) (x.ren σ) := by
  obtain ⟨e1, e2, _⟩ := hσ b hb
  cases x with
  | gone => trivial
  | mp kk rows =>
    obtain ⟨ens, clock, h1, h2, h3, h4⟩ := hr
    refine ⟨ens, clock, by rw [e1]; exact h1, by rw [e2, e1]; exact h2, h3, fun i e r he hr => ?_⟩
    obtain ⟨k, v, p1, p2, p3, p4⟩ := h4 i e r he hr
    exact ⟨k, v, p1, p2, p3.mono hz (fun _ _ _ => rfl), p4.mono hz (fun _ _ _ => rfl)⟩
  | cells t vs =>
    obtain ⟨us, h1, h2, h3⟩ := hr
    refine ⟨us, by rw [e1]; exact h1, by rw [renL_map, List.length_map]; exact h2, fun i u v hu hv => ?_⟩
    rw [renL_map, List.getElem?_map, Option.map_eq_some_iff] at hv
    obtain ⟨v', hv', rfl⟩ := hv
    exact ren_rep hz hσ (h3 i u v' hu hv')
  | arr e sz rows =>
    obtain ⟨hl, hr⟩ := hr
    refine ⟨hl, ?_⟩
    rcases hr with ⟨h1, h2⟩ | ⟨us, cap, h1, h2, h2', h3, h4, h5⟩
    · exact .inl ⟨e2.trans h1, h2⟩
    · refine .inr ⟨us, cap, by rw [e1, e2]; exact h1, h2, h2', by rw [e1]; exact h3, h4, fun i r j c hi hj => ?_⟩
      obtain ⟨u, hu, hd⟩ := h5 i r j c hi hj
      exact ⟨u, hu, hd.mono hz (fun _ _ _ => rfl)⟩

theorem back_box {w : World} {g g0 : Gh} {σ : Nat → Nat} (hz : g0.Z = g.Z) (hσ : ∀ b, b < g0.n → g0.blk b = g.blk (σ b) ∧ g0.val b = g.val (σ b)) {b : Nat} (hb : b < g0.n) {x : Box} (hsc : x.scB g0.n = true) (hr : BoxRep w g (σ b) (x.ren σ)) : BoxRep w g0 b x := by
  obtain ⟨e1, e2⟩ := hσ b hb
  cases x with
  | gone => trivial
  | mp kk rows =>
    obtain ⟨ens, clock, h1, h2, h3, h4⟩ := hr
    exact ⟨ens, clock, by rw [e1]; exact h1, by rw [e2, e1]; exact h2, h3, by rw [hz]; exact h4⟩
  | cells t vs =>
    obtain ⟨us, h1, h2, h3⟩ := hr
    refine ⟨us, by rw [e1]; exact h1, by rw [renL_map, List.length_map] at h2; exact h2, fun i u v hu hv => ?_⟩
    refine ren_back hz hσ (h3 i u (v.ren σ) hu (by rw [renL_map, List.getElem?_map, hv]; rfl)) rfl ?_
    have : vs.all (V.scB g0.n) = true := by rw [← scL_all]; exact hsc
    exact List.all_eq_true.1 this v (List.mem_of_getElem? hv)
  | arr e sz rows =>
    obtain ⟨hl, hr⟩ := hr
    refine ⟨hl, ?_⟩
    rcases hr with ⟨h1, h2⟩ | ⟨us, cap, h1, h2, h2', h3, h4, h5⟩
    · exact .inl ⟨e2.trans h1, h2⟩
    · exact .inr ⟨us, cap, by rw [e1, e2]; exact h1, h2, h2', by rw [e1]; exact h3, h4, by rw [hz]; exact h5⟩

theorem ren_at (σ : Nat → Nat) {g g' : Gh} {b : Nat} (e1 : g'.blk (σ b) = g.blk b) (e2 : g'.val (σ b) = g.val b) (x : Box) : (x.ren σ).at? g' (σ b) = x.at? g b := by
  cases x <;> simp [Box.ren, Box.at?, e1, e2]

/-! ### a call among other boxes -/
/-- The caller's name of the callee's box i. -/
def ext (L : List Nat) (n : Nat) (i : Nat) : Nat := match L[i]? with
  | some b => b
  | none => n + (i - L.length)
/-- The caller's boxes behind the call. -/
def framed (L : List Nat) (M' : List Nat) (h h1 : List Box) : List Box :=
  (h.zipIdx.map fun xb => match L.idxOf? xb.2 with
    | some i => (h1.getD i .gone).ren (ext L h.length)
    | none => xb.1.kill M') ++ (h1.drop L.length).map (Box.ren (ext L h.length))

theorem idxOf_some {L : List Nat} {b i : Nat} (h : L.idxOf? b = some i) : L[i]? = some b := by
  rw [List.idxOf?, List.findIdx?_eq_some_iff_getElem] at h
  obtain ⟨hi, h1, _⟩ := h
  rw [List.getElem?_eq_getElem hi, eq_of_beq h1]
theorem idxOf_none {L : List Nat} {b : Nat} (h : L.idxOf? b = none) : b ∉ L := by
  rw [List.idxOf?, List.findIdx?_eq_none_iff] at h
  intro hb
  have := h b hb
  simp at this
theorem idxOf_at {L : List Nat} (hnd : L.Nodup) {b i : Nat} (h : L[i]? = some b) : L.idxOf? b = some i := by
  cases hq : L.idxOf? b with
  | none => exact absurd (List.mem_of_getElem? h) (idxOf_none hq)
  | some j =>
    have hj := idxOf_some hq
    obtain ⟨hi', e1⟩ := List.getElem?_eq_some_iff.1 h
    obtain ⟨hj', e2⟩ := List.getElem?_eq_some_iff.1 hj
    have hpw := List.pairwise_iff_getElem.1 hnd
    rcases Nat.lt_trichotomy i j with hlt | heq | hgt
    · exact absurd (e1.trans e2.symm) (hpw i j hi' hj' hlt)
    · rw [heq]
    · exact absurd (e2.trans e1.symm) (hpw j i hj' hi' hgt)

theorem framed_at {L M' : List Nat} {h h1 : List Box} {b : Nat} {y : Box} (_hl : L.length ≤ h1.length) (hy : (framed L M' h h1)[b]? = some y) :
    (∃ i, L[i]? = some b ∧ b < h.length ∧ L.idxOf? b = some i ∧ y = (h1.getD i .gone).ren (ext L h.length)) ∨
    (∃ x, b ∉ L ∧ h[b]? = some x ∧ y = x.kill M') ∨ (∃ i x, h1[i]? = some x ∧ L.length ≤ i ∧ b = h.length + (i - L.length) ∧ y = x.ren (ext L h.length)) := by
  unfold framed at hy
  rw [List.getElem?_append] at hy
  split at hy
  · rename_i hb
    simp at hb
    rw [List.getElem?_map, List.getElem?_zipIdx] at hy
    rw [List.getElem?_eq_getElem hb] at hy
    simp only [Option.map_some, Nat.zero_add, Option.some.injEq] at hy
    split at hy
    · rename_i i hi
      exact .inl ⟨i, idxOf_some hi, hb, hi, hy.symm⟩
    · rename_i hi
      exact .inr (.inl ⟨_, idxOf_none hi, List.getElem?_eq_getElem hb, hy.symm⟩)
  · rename_i hb
    simp only [List.length_map, List.length_zipIdx] at hb hy
    rw [List.getElem?_map, List.getElem?_drop, Option.map_eq_some_iff] at hy
    obtain ⟨x, hx, rfl⟩ := hy
    exact .inr (.inr ⟨_, x, hx, by omega, by omega, rfl⟩)

theorem framed_len {L M' : List Nat} {h h1 : List Box} : (framed L M' h h1).length = h.length + (h1.length - L.length) := by
  simp [framed]

/-- What a call does to few boxes it does to them among many. -/
theorem HCall.frame {f : FuncId} {args : List V} {r : V} {h0 h1 : List Box} {M0 : List Nat} (hc : HCall P M0 f args h0 r h1) (L : List Nat) (h : List Box) (hlen : L.length = h0.length) (hnd : L.Nodup) (hlt : ∀ b ∈ L, b < h.length)
    (hbox : ∀ (i : Nat) b x, L[i]? = some b → h0[i]? = some x → h[b]? = some (x.ren (ext L h.length))) (hsa : V.scL h0.length args = true) (hsb : h0.all (Box.scB h0.length) = true) (hl1 : h0.length ≤ h1.length) (hM0 : ∀ b ∈ M0, b < h0.length) :
    HCall P (M0.map (ext L h.length)) f (V.renL (ext L h.length) args) h (r.ren (ext L h.length)) (framed L (M0.map (ext L h.length)) h h1) := by
  intro g w us hs hu
  let σ := ext L h.length
  have hσ0 : ∀ i, i < h0.length → ∃ b, L[i]? = some b ∧ σ i = b ∧ b < g.n := by
    intro i hi
    have hi' : i < L.length := by omega
    refine ⟨L[i], List.getElem?_eq_getElem hi', ?_, ?_⟩
    · simp [σ, ext, List.getElem?_eq_getElem hi']
    · rw [hs.n]; exact hlt _ (List.getElem_mem hi')
  have hσn : ∀ i, h0.length ≤ i → σ i = h.length + (i - h0.length) := by
    intro i hi
    simp only [σ, ext]
    rw [List.getElem?_eq_none (by omega), hlen]
  have hinj : ∀ i j, i < h0.length → j < h0.length → σ i = σ j → i = j := by
    intro i j hi hj he
    obtain ⟨b, hb, e1, _⟩ := hσ0 i hi
    obtain ⟨c, hc', e2, _⟩ := hσ0 j hj
    rw [e1, e2] at he; subst he
    have a1 := idxOf_at hnd hb
    have a2 := idxOf_at hnd hc'
    rw [a1] at a2; exact Option.some.inj a2
  let gs : Gh := { Z := g.Z, n := h0.length, blk := fun i => g.blk (σ i), val := fun i => g.val (σ i) }
  have hback : ∀ b, b < gs.n → gs.blk b = g.blk (σ b) ∧ gs.val b = g.val (σ b) := fun b _ => ⟨rfl, rfl⟩
  have hboxS : ∀ (i : Nat) x, h0[i]? = some x → i < h0.length ∧ h[σ i]? = some (x.ren σ) := by
    intro i x hx
    have hi := (List.getElem?_eq_some_iff.1 hx).1
    obtain ⟨b, hb, e1, _⟩ := hσ0 i hi
    refine ⟨hi, ?_⟩
    rw [e1]; exact hbox i b x hb hx
  have hatS : ∀ (i : Nat) (x : Box), (x.ren σ).at? g (σ i) = x.at? gs i := fun i x => ren_at σ rfl rfl x
  have hownS : ∀ k, Owned gs h0 k → Owned g h k := by
    rintro k ⟨i, x, hx, hk⟩
    exact ⟨σ i, _, (hboxS i x hx).2, by rw [hatS]; exact hk⟩
  have hsS : SimH gs h0 w := by
    refine ⟨rfl, fun i x hx => ?_, fun i j x y k hx hy hkx hky => ?_, fun k o hk hz => hs.zsep k o (hownS k hk) hz, hs.zlt⟩
    · obtain ⟨hi, hx'⟩ := hboxS i x hx
      exact back_box (g := g) (g0 := gs) rfl hback hi (List.all_eq_true.1 hsb x (List.mem_of_getElem? hx)) (hs.rep _ _ hx')
    · obtain ⟨hi, hx'⟩ := hboxS i x hx
      obtain ⟨hj, hy'⟩ := hboxS j y hy
      exact hinj i j hi hj (hs.sep (σ i) (σ j) _ _ k hx' hy' (by rw [hatS]; exact hkx) (by rw [hatS]; exact hky))
  have hscA : ∀ v ∈ args, v.scB h0.length = true := by rw [scL_all] at hsa; exact List.all_eq_true.1 hsa
  refine (hc gs w us hsS ⟨by rw [hu.1, renL_map, List.length_map], fun i u v h1 h2 => ?_⟩).mono ?_
  · refine ren_back (g := g) (g0 := gs) rfl hback (hu.2 i u (v.ren σ) h1 ?_) rfl (hscA v (List.mem_of_getElem? h2))
    rw [renL_map, List.getElem?_map, h2]; rfl
  rintro _ w' ⟨u, gs', rfl, hru, hk⟩
  have hn1 : gs'.n = h1.length := hk.heap.n
  let bk : Nat → Nat := fun b => match L.idxOf? b with
    | some i => gs'.blk i
    | none => if b < h.length then g.blk b else gs'.blk (b - h.length + L.length)
  let vl : Nat → Value := fun b => match L.idxOf? b with
    | some i => gs'.val i
    | none => if b < h.length then g.val b else gs'.val (b - h.length + L.length)
  let g2 : Gh := { Z := gs'.Z, n := h.length + (h1.length - L.length), blk := bk, val := vl }
  have hin : ∀ b i, L.idxOf? b = some i → g2.blk b = gs'.blk i ∧ g2.val b = gs'.val i := by
    intro b i hi; simp [g2, bk, vl, hi]
  have hout : ∀ b, b ∉ L → b < h.length → g2.blk b = g.blk b ∧ g2.val b = g.val b := by
    intro b hb hlt'
    cases hq : L.idxOf? b with
    | some i => exact absurd (List.mem_of_getElem? (idxOf_some hq)) hb
    | none => simp [g2, bk, vl, hq, hlt']
  have hnew : ∀ i, h0.length ≤ i → g2.blk (σ i) = gs'.blk i ∧ g2.val (σ i) = gs'.val i := by
    intro i hi
    have e := hσn i hi
    have hnot : σ i ∉ L := fun hm => by have := hlt _ hm; omega
    cases hq : L.idxOf? (σ i) with
    | some j => exact absurd (List.mem_of_getElem? (idxOf_some hq)) hnot
    | none =>
      have hge : ¬ σ i < h.length := by omega
      have hidx : σ i - h.length + L.length = i := by omega
      simp only [g2, bk, vl, hq, if_neg hge, hidx, and_self]
  have hold : ∀ i, i < h0.length → g2.blk (σ i) = gs'.blk i ∧ g2.val (σ i) = gs'.val i := by
    intro i hi
    obtain ⟨b, hb, e1, _⟩ := hσ0 i hi
    rw [e1]; exact hin b i (idxOf_at hnd hb)
  have hσ2 : ∀ i, i < gs'.n → g2.blk (σ i) = gs'.blk i ∧ g2.val (σ i) = gs'.val i ∧ σ i < g2.n := by
    intro i hi
    rw [hn1] at hi
    rcases Nat.lt_or_ge i h0.length with hi0 | hi0
    · obtain ⟨b, _, e1, hbn⟩ := hσ0 i hi0
      obtain ⟨q1, q2⟩ := hold i hi0
      refine ⟨q1, q2, ?_⟩
      show σ i < h.length + (h1.length - L.length)
      rw [e1]; rw [hs.n] at hbn; omega
    · obtain ⟨q1, q2⟩ := hnew i hi0
      refine ⟨q1, q2, ?_⟩
      show σ i < h.length + (h1.length - L.length)
      rw [hσn i hi0]; omega
  have hnh : g.n = h.length := hs.n
  have hle : g.Le (· ∈ M0.map σ) g2 := by
    refine ⟨hk.le.Z, by show g.n ≤ h.length + (h1.length - L.length); omega, fun b hb hm => ?_, fun b hb hm => ?_⟩
    · by_cases hbL : b ∈ L
      · obtain ⟨i, hi⟩ := List.mem_iff_getElem?.1 hbL
        have hi0 : i < h0.length := by rw [← hlen]; exact (List.getElem?_eq_some_iff.1 hi).1
        obtain ⟨b', hb', e1, _⟩ := hσ0 i hi0
        rw [hi] at hb'; cases hb'
        rw [← e1, (hold i hi0).1, hk.le.blk i hi0 (fun hmi => hm (List.mem_map.2 ⟨i, hmi, e1⟩))]
      · exact (hout b hbL (by omega)).1
    · by_cases hbL : b ∈ L
      · obtain ⟨i, hi⟩ := List.mem_iff_getElem?.1 hbL
        have hi0 : i < h0.length := by rw [← hlen]; exact (List.getElem?_eq_some_iff.1 hi).1
        obtain ⟨b', hb', e1, _⟩ := hσ0 i hi0
        rw [hi] at hb'; cases hb'
        rw [← e1, (hold i hi0).2, hk.le.val i hi0 (fun hmi => hm (List.mem_map.2 ⟨i, hmi, e1⟩))]
      · exact (hout b hbL (by omega)).2
  have hfr : Fr (Owned g h) w w' := hk.fr.mono hownS
  have ho : Over (M0.map σ) w g w' g2 := ⟨hle, fun b o hz => hfr.cell (hs.zlt b o hz) (fun hw => hs.zsep b o hw hz)⟩
  have hzn : ∀ b o, gs'.Z b o → g.Z b o ∨ w.heap.size ≤ b ∨ Owned gs h0 b := fun b o hz => hk.znew b o hz
  have hat2 : ∀ (i : Nat) (x : Box), i < gs'.n → (x.ren σ).at? g2 (σ i) = x.at? gs' i := fun i x hi => ren_at σ (hσ2 i hi).1 (hσ2 i hi).2.1 x
  -- the boxes behind, one by one
  have hget : ∀ (b : Nat) y, (framed L (M0.map σ) h h1)[b]? = some y →
      (∃ i x, h1[i]? = some x ∧ b = σ i ∧ y = x.ren σ) ∨ (∃ x, b ∉ L ∧ b < h.length ∧ h[b]? = some x ∧ y = x.kill (M0.map σ)) := by
    intro b y hy
    rcases framed_at (by omega) hy with ⟨i, hi, hb, hix, rfl⟩ | ⟨x, hb, hx, rfl⟩ | ⟨i, x, hx, hi, rfl, rfl⟩
    · have hi0 : i < h0.length := by rw [← hlen]; exact (List.getElem?_eq_some_iff.1 hi).1
      have hi1 : i < h1.length := by omega
      obtain ⟨b', hb', e1, _⟩ := hσ0 i hi0
      rw [hi] at hb'; cases hb'
      refine .inl ⟨i, h1[i], List.getElem?_eq_getElem hi1, e1.symm, ?_⟩
      rw [List.getD_eq_getElem?_getD, List.getElem?_eq_getElem hi1]; rfl
    · exact .inr ⟨x, hb, (List.getElem?_eq_some_iff.1 hx).1, hx, rfl⟩
    · refine .inl ⟨i, x, hx, ?_, rfl⟩
      rw [hσn i (by omega), hlen]
  have hatO : ∀ (b : Nat) (x : Box), b ∉ L → b < h.length → (x.kill (M0.map σ)).at? g2 b = x.at? g b := fun b x hb hb' => by
    rw [Box.at?_kill]; exact Box.at?_congr (hout b hb hb').1 (hout b hb hb').2 x
  have hown : ∀ k, Owned g2 (framed L (M0.map σ) h h1) k → Owned gs' h1 k ∨ (∃ b x, b ∉ L ∧ h[b]? = some x ∧ x.at? g b = some k) := by
    rintro k ⟨b, y, hy, hk'⟩
    rcases hget b y hy with ⟨i, x, hx, rfl, rfl⟩ | ⟨x, hb, hb', hx, rfl⟩
    · rw [hat2 i x (by rw [hn1]; exact (List.getElem?_eq_some_iff.1 hx).1)] at hk'
      exact .inl ⟨i, x, hx, hk'⟩
    · rw [hatO b x hb hb'] at hk'
      exact .inr ⟨b, x, hb, hx, hk'⟩
  -- a box that is none of the callee's shares no block with the callee's
  have hapart : ∀ (b : Nat) x k, b ∉ L → h[b]? = some x → x.at? g b = some k → ¬ Owned gs h0 k := by
    rintro b x k hb hx hk' ⟨i, y, hy, hky⟩
    obtain ⟨hi, hy'⟩ := hboxS i y hy
    have := hs.sep b (σ i) x _ k hx hy' hk' (by rw [hatS]; exact hky)
    obtain ⟨b', hb', e1, _⟩ := hσ0 i hi
    rw [e1] at this
    exact hb (this ▸ List.mem_of_getElem? hb')
  have hapart' : ∀ (b : Nat) x k, b ∉ L → h[b]? = some x → x.at? g b = some k → ¬ Owned gs' h1 k := by
    intro b x k hb hx hk' hO
    rcases hk.own k hO with h2 | h2
    · exact hapart b x k hb hx hk' h2
    · have := (hs.rep b x hx).lt hk'; omega
  refine ⟨u, g2, rfl, ren_rep (g := gs') (g' := g2) (fun _ _ h => h) hσ2 hru, ⟨⟨by rw [framed_len], ?_, ?_, ?_, hk.heap.zlt⟩, hle, hfr, fun b o hz => ?_, fun k hk' => ?_⟩⟩
  · intro b y hy
    rcases hget b y hy with ⟨i, x, hx, rfl, rfl⟩ | ⟨x, hb, hb', hx, rfl⟩
    · exact ren_box (g := gs') (g' := g2) (fun _ _ h => h) hσ2 (by rw [hn1]; exact (List.getElem?_eq_some_iff.1 hx).1) (hk.heap.rep i x hx)
    · refine BoxRep.over ho (by rw [hnh]; exact hb') (fun hm => ?_) (fun k hk' => hk.fr.block k ((hs.rep b x hx).lt hk') (hapart b x k hb hx hk')) (hs.rep b x hx)
      obtain ⟨i, hi, e⟩ := List.mem_map.1 hm
      obtain ⟨b', hb'', e1, _⟩ := hσ0 i (hM0 i hi)
      rw [e1] at e; subst e
      exact hb (List.mem_of_getElem? hb'')
  · intro b c y z k hy hz hky hkz
    rcases hget b y hy with ⟨i, x, hx, rfl, rfl⟩ | ⟨x, hb, hb', hx, rfl⟩ <;> rcases hget c z hz with ⟨j, x', hx', rfl, rfl⟩ | ⟨x', hc', hc'', hx', rfl⟩
    · rw [hat2 i x (by rw [hn1]; exact (List.getElem?_eq_some_iff.1 hx).1)] at hky
      rw [hat2 j x' (by rw [hn1]; exact (List.getElem?_eq_some_iff.1 hx').1)] at hkz
      rw [hk.heap.sep i j x x' k hx hx' hky hkz]
    · rw [hat2 i x (by rw [hn1]; exact (List.getElem?_eq_some_iff.1 hx).1)] at hky
      rw [hatO c x' hc' hc''] at hkz
      exact absurd ⟨i, x, hx, hky⟩ (hapart' c x' k hc' hx' hkz)
    · rw [hat2 j x' (by rw [hn1]; exact (List.getElem?_eq_some_iff.1 hx').1)] at hkz
      rw [hatO b x hb hb'] at hky
      exact absurd ⟨j, x', hx', hkz⟩ (hapart' b x k hb hx hky)
    · rw [hatO b x hb hb'] at hky; rw [hatO c x' hc' hc''] at hkz
      exact hs.sep b c x x' k hx hx' hky hkz
  · intro k o hk' hz
    rcases hown k hk' with h2 | ⟨b, x, hb, hx, h2⟩
    · exact hk.heap.zsep k o h2 hz
    · rcases hzn k o hz with h3 | h3 | h3
      · exact hs.zsep k o ⟨b, x, hx, h2⟩ h3
      · have := (hs.rep b x hx).lt h2; omega
      · exact hapart b x k hb hx h2 h3
  · rcases hzn b o hz with h3 | h3 | h3
    · exact .inl h3
    · exact .inr (.inl h3)
    · exact .inr (.inr (hownS b h3))
  · rcases hown k hk' with h2 | ⟨b, x, hb, hx, h2⟩
    · rcases hk.own k h2 with h3 | h3
      · exact .inl (hownS k h3)
      · exact .inr h3
    · exact .inl ⟨b, x, hx, h2⟩

/-! ### which boxes are led to -/
mutual
def V.refs : V → List Nat
  | .own b => [b]
  | .ptr b _ => [b]
  | .pml b _ _ _ => [b]
  | .map b => [b]
  | .agg cs => V.refsL cs
  | .tup cs => V.refsL cs
  | .fn _ cs => V.refsL cs
  | _ => []
def V.refsL : List V → List Nat
  | [] => []
  | c :: cs => c.refs ++ V.refsL cs
end
mutual
def V.inB (L : List Nat) : V → Bool
  | .own b => L.contains b
  | .ptr b _ => L.contains b
  | .pml b _ _ _ => L.contains b
  | .map b => L.contains b
  | .agg cs => V.inLs L cs
  | .tup cs => V.inLs L cs
  | .fn _ cs => V.inLs L cs
  | _ => true
def V.inLs (L : List Nat) : List V → Bool
  | [] => true
  | c :: cs => c.inB L && V.inLs L cs
end
def Box.refs : Box → List Nat
  | .cells _ vs => V.refsL vs
  | _ => []
def Box.inB (L : List Nat) : Box → Bool
  | .cells _ vs => V.inLs L vs
  | _ => true
def addAll (L : List Nat) : List Nat → List Nat
  | [] => L
  | b :: bs => match L.contains b with
    | true => addAll L bs
    | false => addAll (L ++ [b]) bs
def close (h : List Box) : Nat → List Nat → List Nat
  | 0, L => L
  | n + 1, L =>
    let L' := addAll L (L.flatMap fun b => (h.getD b .gone).refs)
    match decide (L'.length = L.length) with
    | true => L
    | false => close h n L'
/-- The callee's name of the caller's box b. -/
def tau (L : List Nat) (b : Nat) : Nat := match L.idxOf? b with
  | some i => i
  | none => 0
def nodupB : List Nat → Bool
  | [] => true
  | b :: bs => !bs.contains b && nodupB bs
theorem nodupB_spec : ∀ {L : List Nat}, nodupB L = true → L.Nodup
  | [], _ => List.nodup_nil
  | b :: bs, h => by
    unfold nodupB at h
    simp only [Bool.and_eq_true, Bool.not_eq_true', List.contains_eq_mem, decide_eq_false_iff_not] at h
    exact List.nodup_cons.2 ⟨h.1, nodupB_spec h.2⟩
theorem tau_spec {L : List Nat} {b : Nat} (h : L.contains b = true) : L[tau L b]? = some b ∧ tau L b < L.length := by
  have hb : b ∈ L := by simpa using h
  unfold tau
  cases hq : L.idxOf? b with
  | none => exact absurd hb (idxOf_none hq)
  | some i => exact ⟨idxOf_some hq, (List.getElem?_eq_some_iff.1 (idxOf_some hq)).1⟩
theorem ext_tau {L : List Nat} {n b : Nat} (h : L.contains b = true) : ext L n (tau L b) = b := by
  unfold ext
  rw [(tau_spec h).1]
mutual
theorem V.ren_ren {L : List Nat} {n : Nat} : ∀ {v : V}, v.inB L = true → (v.ren (tau L)).ren (ext L n) = v
  | .own b, h => by simp only [V.ren]; rw [ext_tau h]
  | .ptr b o, h => by simp only [V.ren]; rw [ext_tau h]
  | .pml b s i o, h => by simp only [V.ren]; rw [ext_tau h]
  | .map b, h => by simp only [V.ren]; rw [ext_tau h]
  | .agg cs, h => by simp only [V.ren]; rw [V.renL_renL h]
  | .tup cs, h => by simp only [V.ren]; rw [V.renL_renL h]
  | .fn f cs, h => by simp only [V.ren]; rw [V.renL_renL h]
  | .any, _ => rfl
  | .nils, _ => rfl
  | .d _, _ => rfl
  | .pel _, _ => rfl
  | .nilp, _ => rfl
  | .nilf, _ => rfl
theorem V.renL_renL {L : List Nat} {n : Nat} : ∀ {cs : List V}, V.inLs L cs = true → V.renL (ext L n) (V.renL (tau L) cs) = cs
  | [], _ => rfl
  | c :: cs, h => by
    have h' : (c.inB L && V.inLs L cs) = true := h
    rw [Bool.and_eq_true] at h'
    simp only [V.renL]
    rw [V.ren_ren h'.1, V.renL_renL h'.2]
end
mutual
theorem V.ren_sc {L : List Nat} : ∀ {v : V}, v.inB L = true → (v.ren (tau L)).scB L.length = true
  | .own b, h => by simp only [V.ren, V.scB]; exact decide_eq_true (tau_spec h).2
  | .ptr b o, h => by simp only [V.ren, V.scB]; exact decide_eq_true (tau_spec h).2
  | .pml b s i o, h => by simp only [V.ren, V.scB]; exact decide_eq_true (tau_spec h).2
  | .map b, h => by simp only [V.ren, V.scB]; exact decide_eq_true (tau_spec h).2
  | .agg cs, h => by simp only [V.ren, V.scB]; exact V.renL_sc h
  | .tup cs, h => by simp only [V.ren, V.scB]; exact V.renL_sc h
  | .fn f cs, h => by simp only [V.ren, V.scB]; exact V.renL_sc h
  | .any, _ => rfl
  | .nils, _ => rfl
  | .d _, _ => rfl
  | .pel _, _ => rfl
  | .nilp, _ => rfl
  | .nilf, _ => rfl
theorem V.renL_sc {L : List Nat} : ∀ {cs : List V}, V.inLs L cs = true → V.scL L.length (V.renL (tau L) cs) = true
  | [], _ => rfl
  | c :: cs, h => by
    have h' : (c.inB L && V.inLs L cs) = true := h
    rw [Bool.and_eq_true] at h'
    simp only [V.renL, V.scL]
    rw [V.ren_sc h'.1, V.renL_sc h'.2]; rfl
end
theorem Box.ren_ren {L : List Nat} {n : Nat} {x : Box} (h : x.inB L = true) : (x.ren (tau L)).ren (ext L n) = x := by
  cases x with
  | cells t vs => simp only [Box.ren]; rw [V.renL_renL h]
  | _ => rfl
theorem Box.ren_sc {L : List Nat} {x : Box} (h : x.inB L = true) : (x.ren (tau L)).scB L.length = true := by
  cases x with
  | cells t vs => exact V.renL_sc h
  | _ => rfl

/-- The boxes that values lead to. -/
def reachV (h : List Box) (L0 : List Nat) (vs : List V) : List Nat := close h h.length (addAll L0 (V.refsL vs))
def smallH (h : List Box) (L : List Nat) : List Box := L.map fun b => (h.getD b .gone).ren (tau L)
def reachOK (h : List Box) (L : List Nat) (vs : List V) : Bool := nodupB L && L.all (fun b => decide (b < h.length)) && V.inLs L vs && L.all fun b => (h.getD b .gone).inB L
structure ReachOK (h : List Box) (L : List Nat) (vs : List V) : Prop where
  nd : L.Nodup
  lt : ∀ b ∈ L, b < h.length
  vs : V.inLs L vs = true
  bx : ∀ b ∈ L, (h.getD b .gone).inB L = true
theorem reachOK_spec {h : List Box} {L : List Nat} {vs : List V} (hr : reachOK h L vs = true) : ReachOK h L vs := by
  unfold reachOK at hr
  simp only [Bool.and_eq_true] at hr
  obtain ⟨⟨⟨h1, h2⟩, h3⟩, h4⟩ := hr
  exact ⟨nodupB_spec h1, fun b hb => of_decide_eq_true (List.all_eq_true.1 h2 b hb), h3, fun b hb => List.all_eq_true.1 h4 b hb⟩

/-- A call that may turn what its arguments lead to. -/
theorem HCall.among {f : FuncId} {vs : List V} {r : V} {h1 : List Box} {M0 : List Nat} {L : List Nat} (hL : reachOK h L vs = true) (hc : HCall P M0 f (V.renL (tau L) vs) (smallH h L) r h1) (hl1 : L.length ≤ h1.length) (hM0 : ∀ b ∈ M0, b < L.length) :
    HCall P (M0.map (ext L h.length)) f vs h (r.ren (ext L h.length)) (framed L (M0.map (ext L h.length)) h h1) := by
  obtain ⟨q1, q2, q3, q4⟩ := reachOK_spec hL
  have hlen : L.length = (smallH h L).length := by simp [smallH]
  have := hc.frame L h hlen q1 q2 (fun i b x hi hx => ?_) (by rw [← hlen]; exact V.renL_sc q3) ?_ (by rw [← hlen]; exact hl1) (by rw [← hlen]; exact hM0)
  · rwa [V.renL_renL q3] at this
  · simp only [smallH, List.getElem?_map, hi, Option.map_some, Option.some.injEq] at hx
    have hb := q2 b (List.mem_of_getElem? hi)
    subst hx
    rw [Box.ren_ren (q4 b (List.mem_of_getElem? hi)), List.getD_eq_getElem?_getD, List.getElem?_eq_getElem hb]; rfl
  · rw [List.all_eq_true]
    intro x hx
    simp only [smallH, List.mem_map] at hx
    obtain ⟨b, hb, rfl⟩ := hx
    rw [← hlen]
    exact Box.ren_sc (q4 b hb)

/-- Only the boxes of L are told. -/
theorem Keep.tell {g g' : Gh} {w w' : World} {hs : List Box} (hk : Keep M g h w g' hs w') (hg : g.n = h.length) {L : List Nat} {vs : List V} (hL : reachOK hs L vs = true) (hid : ∀ i, i < h.length → L[i]? = some i) :
    ∃ g'', Keep M g h w g'' (smallH hs L) w' ∧ ∀ u v, Rep w' g' u v → v.inB L = true → Rep w' g'' u (v.ren (tau L)) := by
  obtain ⟨q1, q2, q3, q4⟩ := reachOK_spec hL
  let σ := ext L hs.length
  let g2 : Gh := { Z := g'.Z, n := L.length, blk := fun i => g'.blk (σ i), val := fun i => g'.val (σ i) }
  have hσ : ∀ b, b < g2.n → g2.blk b = g'.blk (σ b) ∧ g2.val b = g'.val (σ b) := fun b _ => ⟨rfl, rfl⟩
  have hrep : ∀ u v, Rep w' g' u v → v.inB L = true → Rep w' g2 u (v.ren (tau L)) := fun u v hr hv =>
    ren_back (g := g') (g0 := g2) (σ := σ) rfl hσ hr (V.ren_ren hv).symm (V.ren_sc hv)
  have hbox : ∀ (i : Nat) x, (smallH hs L)[i]? = some x → ∃ b y, L[i]? = some b ∧ σ i = b ∧ hs[b]? = some y ∧ y.inB L = true ∧ x = y.ren (tau L) ∧ i < L.length := by
    intro i x hx
    simp only [smallH, List.getElem?_map, Option.map_eq_some_iff] at hx
    obtain ⟨b, hb, rfl⟩ := hx
    have hlt := q2 b (List.mem_of_getElem? hb)
    refine ⟨b, hs[b], hb, by simp [σ, ext, hb], List.getElem?_eq_getElem hlt, ?_, ?_, (List.getElem?_eq_some_iff.1 hb).1⟩
    · have := q4 b (List.mem_of_getElem? hb)
      rwa [List.getD_eq_getElem?_getD, List.getElem?_eq_getElem hlt] at this
    · rw [List.getD_eq_getElem?_getD, List.getElem?_eq_getElem hlt]; rfl
  have hat : ∀ (i : Nat) (y : Box), (y.ren (tau L)).at? g2 i = y.at? g' (σ i) := fun i y => by cases y <;> rfl
  have hown : ∀ k, Owned g2 (smallH hs L) k → Owned g' hs k := by
    rintro k ⟨i, x, hx, hk'⟩
    obtain ⟨b, y, hb, e, hy, _, rfl, _⟩ := hbox i x hx
    rw [hat, e] at hk'
    exact ⟨b, y, hy, hk'⟩
  refine ⟨g2, ⟨⟨by simp [smallH, g2], fun i x hx => ?_, fun i j x y k hx hy hkx hky => ?_, fun k o hk' hz => hk.heap.zsep k o (hown k hk') hz, hk.heap.zlt⟩,
    ⟨hk.le.Z, ?_, fun b hb hm => ?_, fun b hb hm => ?_⟩, hk.fr, hk.znew, fun k hk' => hk.own k (hown k hk')⟩, hrep⟩
  · obtain ⟨b, y, hb, e, hy, hin, rfl, hi⟩ := hbox i x hx
    refine back_box (g := g') (g0 := g2) (σ := σ) rfl hσ hi (Box.ren_sc hin) ?_
    rw [Box.ren_ren hin, e]
    exact hk.heap.rep b y hy
  · obtain ⟨b, y', hb, e, hy', _, rfl, _⟩ := hbox i x hx
    obtain ⟨c, z', hc, e', hz', _, rfl, _⟩ := hbox j y hy
    rw [hat, e] at hkx; rw [hat, e'] at hky
    have := hk.heap.sep b c y' z' k hy' hz' hkx hky
    subst this
    have a1 := idxOf_at q1 hb
    have a2 := idxOf_at q1 hc
    rw [a1] at a2; exact Option.some.inj a2
  · show g.n ≤ L.length
    rcases Nat.eq_zero_or_pos h.length with h0 | h0
    · omega
    · have := (List.getElem?_eq_some_iff.1 (hid (h.length - 1) (by omega))).1
      omega
  · have hi := hid b (by omega)
    show g'.blk (σ b) = g.blk b
    rw [show σ b = b by simp [σ, ext, hi]]
    exact hk.le.blk b hb hm
  · have hi := hid b (by omega)
    show g'.val (σ b) = g.val b
    rw [show σ b = b by simp [σ, ext, hi]]
    exact hk.le.val b hb hm
end
end Go.Vm
end

section
namespace Go.Vm
section
variable {P : Program} {M : List Nat} {h h' h2 : List Box} {ρ : Operand → V} {o : Oper} {x : V}

/-! ### the evaluator, operation by operation -/

/-- The cells of a type, by kind. -/
def shOf (P : Program) : Nat → TypeId → Option (List Sh)
  | 0, _ => none
  | n + 1, t => match P.underlying t with
    | some (.int k) => some [.int k]
    | some .bool => some [.bool]
    | some .string => some [.str]
    | some (.slice e) => (szO P e).map fun sz => [.sl sz]
    | some (.struct fs) => fs.toList.foldr (fun f acc => match shOf P n f.type, acc with
      | some a, some b => some (a ++ b)
      | _, _ => none) (some [])
    | some (.array m e) => (shOf P n e).map fun l => (List.replicate m l).flatten
    | _ => none

def exD (s : Sh) (K : D → Prop) : Prop := match s with
  | .int k => ∃ n, K (.int k n)
  | .bool => ∃ b, K (.bool b)
  | .str => ∃ t, K (.str t)
  | .sl sz => ∃ rows, K (.sl sz rows)
theorem exD_sound {s : Sh} {K : D → Prop} (hk : exD s K) : ∃ x, K x := by cases s <;> (obtain ⟨x, hx⟩ := hk; exact ⟨_, hx⟩)
def exDs : List Sh → (List D → Prop) → Prop
  | [], K => K []
  | s :: ss, K => exD s fun x => exDs ss fun xs => K (x :: xs)
theorem exDs_sound : ∀ {ss : List Sh} {K : List D → Prop}, exDs ss K → ∃ xs, K xs
  | [], _, hk => ⟨[], hk⟩
  | _ :: _, _, hk => by
    obtain ⟨x, hx⟩ := exD_sound hk
    obtain ⟨xs, hxs⟩ := exDs_sound hx
    exact ⟨_, hxs⟩
def exV (P : Program) (t : TypeId) (K : V → Prop) : Prop := match shOf P 9 t, aggB P t with
  | some ss, true => exDs ss fun xs => K (.agg (xs.map .d))
  | some [s], false => exD s fun x => K (.d x)
  | _, _ => False
theorem exV_sound {t : TypeId} {K : V → Prop} (hk : exV P t K) : ∃ v : V, v.pureB = true ∧ K v := by
  unfold exV at hk
  split at hk
  · obtain ⟨xs, hx⟩ := exDs_sound hk
    exact ⟨_, by simp [V.pureB, V.pureC], hx⟩
  · obtain ⟨x, hx⟩ := exD_sound hk
    exact ⟨_, rfl, hx⟩
  · exact hk.elim
def exVs (P : Program) : List TypeId → (List V → Prop) → Prop
  | [], K => K []
  | t :: ts, K => exV P t fun v => exVs P ts fun vs => K (v :: vs)
theorem exVs_sound : ∀ {ts : List TypeId} {K : List V → Prop}, exVs P ts K → ∃ vs : List V, vs.all V.pureB = true ∧ K vs
  | [], _, hk => ⟨[], rfl, hk⟩
  | _ :: _, _, hk => by
    obtain ⟨v, hv, hx⟩ := exV_sound hk
    obtain ⟨vs, hvs, hxs⟩ := exVs_sound hx
    exact ⟨_, by simp [hv] at hvs ⊢; exact hvs, hxs⟩
def exRes (P : Program) (f : FuncId) (K : V → Prop) : Prop := match P.funcs[f]? with
  | some fn => match fn.resultTypes.toList with
    | [t] => exV P t K
    | ts => exVs P ts fun vs => K (.tup vs)
  | none => False
theorem exRes_sound {f : FuncId} {K : V → Prop} (hk : exRes P f K) : ∃ v : V, v.pureT = true ∧ K v := by
  unfold exRes at hk
  split at hk
  · split at hk
    · obtain ⟨v, hv, hx⟩ := exV_sound hk
      refine ⟨v, ?_, hx⟩
      cases v <;> first | exact hv | (simp [V.pureT]; simp [V.pureB] at hv; intro c hc; have := hv c hc; cases c <;> simp_all [V.pureB, V.pureC])
    · obtain ⟨vs, hv, hx⟩ := exVs_sound hk
      exact ⟨.tup vs, hv, hx⟩
  · exact hk.elim

def vload (P : Program) (h : List Box) (t : TypeId) (v : V) (K : V → Prop) : Prop :=
  match shOf P 9 t, szO P t, (P.underlying t).isSome, aggB P t with
  | sh, some n, true, ag => match v with
    | .ptr b off => match h[b]? with
      | some (.cells _ vs) => match ag with
        | true => match decide (off + n ≤ vs.length) with
          | true => K (.agg ((vs.drop off).take n))
          | false => False
        | false => match vs[off]? with
          | some v => K v
          | none => False
      | _ => False
    | .pel cs => match sh, ag with
      | some ss, true => match decide (ss.length = n) with
        | true => openR ss cs 0 fun xs => K (.agg (xs.map .d))
        | false => False
      | some [s], false => openC s cs[0]? fun x => K (.d x)
      | _, _ => False
    | .pml b sz i off => match h[b]? with
      | some (.arr _ sz' rows) => match decide (sz' = sz), sh, ag with
        | true, some ss, true => match decide (ss.length = n) with
          | true => i < rows.length ∧ openR ss (rows.getD i []) off fun xs => K (.agg (xs.map .d))
          | false => False
        | true, some [s], false => openC s (rows.getD i [])[off]? fun x => K (.d x)
        | _, _, _ => False
      | _ => False
    | _ => False
  | _, _, _, _ => False

def Pre (h h2 : List Box) : Prop := ∀ (b : Nat) x, h[b]? = some x → x = .gone ∨ h2[b]? = some x
theorem Pre.at (hp : Pre h h2) {b : Nat} {x : Box} (hb : h[b]? = some x) (hx : x ≠ .gone) : h2[b]? = some x := (hp b x hb).resolve_left hx
theorem Pre.refl (h : List Box) : Pre h h := fun _ _ h => .inr h

theorem vload_sound {t : TypeId} {y : Operand} {K : V → Prop} (hop : o.op = .load t y) (hk : vload P h t (ρ y) K) : ∃ x, (∀ h2, Pre h h2 → Gives P [] h2 h2 ρ o x) ∧ K x := by
  unfold vload at hk
  split at hk
  · have hn := ‹szO P t = some _›
    have hu := ‹(P.underlying t).isSome = true›
    split at hk
    · rename_i b off hy
      split at hk
      · rename_i bt vs hb
        split at hk
        · split at hk
          · rename_i hle
            exact ⟨_, fun h2 hp => gives_load_boxN hop hy (hp.at hb nofun) hn (by simpa using hle) hu ‹aggB P t = _›, hk⟩
          · exact hk.elim
        · split at hk
          · rename_i v hv
            exact ⟨_, fun h2 hp => gives_load_box1 hop hy (hp.at hb nofun) hv hu ‹aggB P t = _›, hk⟩
          · exact hk.elim
      · exact hk.elim
    · rename_i cs hy
      split at hk
      · split at hk
        · rename_i hl
          obtain ⟨xs, h1, h3, h4⟩ := openR_sound hk
          exact ⟨_, fun h2 hp => gives_load_pelN hop hy (fun i x hx => by have := h3 i x hx; rwa [Nat.zero_add] at this) (by rw [hn, h1]; simpa using (of_decide_eq_true hl).symm) hu ‹aggB P t = _›, h4⟩
        · exact hk.elim
      · obtain ⟨x, h1, h3⟩ := openC_sound hk
        exact ⟨_, fun h2 hp => gives_load_pel1 hop hy h1 hu ‹aggB P t = _›, h3⟩
      · exact hk.elim
    · rename_i b sz i off hy
      split at hk
      · rename_i e sz' rows hb
        split at hk
        · rename_i hsz _ _
          have hsz := of_decide_eq_true hsz
          subst hsz
          split at hk
          · rename_i hl
            obtain ⟨hi, hk⟩ := hk
            obtain ⟨xs, h1, h3, h4⟩ := openR_sound hk
            exact ⟨_, fun h2 hp => gives_load_pmlN hop hy (hp.at hb nofun) h3 (by rw [hn, h1]; simpa using (of_decide_eq_true hl).symm) hu ‹aggB P t = _› hi, h4⟩
          · exact hk.elim
        · rename_i hsz _ _
          have hsz := of_decide_eq_true hsz
          subst hsz
          obtain ⟨x, h1, h3⟩ := openC_sound hk
          exact ⟨_, fun h2 hp => gives_load_pml1 hop hy (hp.at hb nofun) h1 hu ‹aggB P t = _›, h3⟩
        · exact hk.elim
      · exact hk.elim
    · exact hk.elim
  · exact hk.elim

def vindex (P : Program) (h : List Box) (t : TypeId) (v i : V) (K : V → Prop) : Prop :=
  match elO P t, i with
  | some (_, sz), .d (.int _ i) => match v with
    | .d (.sl sz' rows) => match decide (sz' = sz) with
      | true => (0 ≤ i ∧ i < rows.length) ∧ K (.pel (rows.getD i.toNat []))
      | false => False
    | .own b => match h[b]? with
      | some (.arr _ sz' rows) => match decide (sz' = sz) with
        | true => (0 ≤ i ∧ i < rows.length) ∧ K (.pml b sz i.toNat 0)
        | false => False
      | _ => False
    | _ => False
  | _, _ => False
theorem vindex_sound {t : TypeId} {y z : Operand} {K : V → Prop} (hop : o.op = .indexAddr t y z) (hk : vindex P h t (ρ y) (ρ z) K) : ∃ x, (∀ h2, Pre h h2 → Gives P [] h2 h2 ρ o x) ∧ K x := by
  unfold vindex at hk
  split at hk
  · rename_i e sz kd i hel hz
    split at hk
    · rename_i sz' rows hy
      split at hk
      · rename_i hsz
        have hsz := of_decide_eq_true hsz
        subst hsz
        exact ⟨_, fun h2 hp => gives_index_sl hop hel hy hz hk.1.1 hk.1.2, hk.2⟩
      · exact hk.elim
    · rename_i b hy
      split at hk
      · rename_i e' sz' rows hb
        split at hk
        · rename_i hsz
          have hsz := of_decide_eq_true hsz
          subst hsz
          exact ⟨_, fun h2 hp => gives_index_own hop hel hy (hp.at hb nofun) hz hk.1.1 hk.1.2, hk.2⟩
        · exact hk.elim
      · exact hk.elim
    · exact hk.elim
  · exact hk.elim

def vbin (P : Program) (op : BinOp) (t : TypeId) (a b : V) (K : V → Prop) : Prop :=
  match a, b with
  | .d (.int k n), .d (.int k' m) => match decide (k' = k), binI op k n m with
    | true, some d => K (.d d)
    | _, _ => False
  | .d (.str s), .d (.str u) => match op with
    | .add => s.size + u.size ≤ 9223372036854775807 ∧ K (.d (.str (s ++ u)))
    | _ => match binStr op s u with
      | some c => K (.d (.bool c))
      | none => False
  | .d (.bool c), .d (.bool d) => match P.underlying t, op with
    | some .bool, .eql => K (.d (.bool (c == d)))
    | some .bool, .neq => K (.d (.bool !(c == d)))
    | _, _ => False
  | .agg xs, .agg ys => match allDs xs, allDs ys with
    | some cs, some ds => match shD cs, shD ds with
      | some ss, some ss' => match decide (ss' = ss), op with
        | true, .eql => stokB P t ss = true ∧ K (.d (.bool (eqDs cs ds)))
        | true, .neq => stokB P t ss = true ∧ K (.d (.bool !(eqDs cs ds)))
        | _, _ => False
      | _, _ => False
    | _, _ => False
  | _, _ => False
theorem vbin_sound {op : BinOp} {t u : TypeId} {y z : Operand} {K : V → Prop} (hop : o.op = .binOp op t y z u) (hk : vbin P op t (ρ y) (ρ z) K) : ∃ x, (∀ h2, Pre h h2 → Gives P [] h2 h2 ρ o x) ∧ K x := by
  unfold vbin at hk
  split at hk
  · rename_i k n k' m hy hz
    split at hk
    · rename_i d hkk hd
      have := of_decide_eq_true hkk
      subst this
      exact ⟨_, fun h2 hp => gives_binI hop hy hz hd, hk⟩
    · exact hk.elim
  · rename_i s u' hy hz
    split at hk
    · exact ⟨_, fun h2 hp => gives_addS hop hy hz hk.1, hk.2⟩
    · split at hk
      · rename_i c hc
        exact ⟨_, fun h2 hp => gives_binS hop hy hz hc, hk⟩
      · exact hk.elim
  · rename_i c d hy hz
    split at hk
    · exact ⟨_, fun h2 hp => gives_binB hop hy hz ‹_› rfl, hk⟩
    · exact ⟨_, fun h2 hp => gives_binB hop hy hz ‹_› rfl, hk⟩
    · exact hk.elim
  · rename_i xs ys hy hz
    split at hk
    · rename_i cs ds h1 h2
      split at hk
      · rename_i ss ss' h3 h4
        split at hk
        · have he := of_decide_eq_true ‹decide (ss' = ss) = true›
          subst he
          exact ⟨_, fun h2' hp => gives_binE hop (by rw [hy, allDs_spec h1]) (by rw [hz, allDs_spec h2]) hk.1 h3 h4 rfl, hk.2⟩
        · have he := of_decide_eq_true ‹decide (ss' = ss) = true›
          subst he
          exact ⟨_, fun h2' hp => gives_binE hop (by rw [hy, allDs_spec h1]) (by rw [hz, allDs_spec h2]) hk.1 h3 h4 rfl, hk.2⟩
        · exact hk.elim
      · exact hk.elim
    · exact hk.elim
  · exact hk.elim

def addF (v : V) (k : Nat) : Option V := match v with
  | .ptr b off => some (.ptr b (off + k))
  | .pel cs => some (.pel (cs.drop k))
  | .pml b sz i off => some (.pml b sz i (off + k))
  | _ => none

/-- The callee of a call, if it is a function that is named, or a function value without boxes. -/
def calleeV (ρ : Operand → V) : Operand → Option (FuncId × List V)
  | .func f => some (f, [])
  | y => match ρ y with
    | .fn f caps => some (f, caps)
    | _ => none

def vcall (P : Program) (ρ : Operand → V) (y : Operand) (args : List Operand) (K : V → Prop) : Prop :=
  match calleeV ρ y with
  | some (f, caps) => match goodF P f, (args.map ρ ++ caps).all V.pureB with
    | true, true => exRes P f fun r => PCall P f (args.map ρ ++ caps) r ∧ K r
    | _, _ => False
  | none => False
theorem vcall_sound {y : Operand} {args : Array Operand} {ts : Array TypeId} {K : V → Prop} (hop : o.op = .call { callee := .value y, args := args, argTypes := ts }) (hk : vcall P ρ y args.toList K) (hf : ∀ f, ρ (.func f) = .fn f []) : ∃ x, (∀ h2, Pre h h2 → Gives P [] h2 h2 ρ o x) ∧ K x := by
  unfold vcall at hk
  split at hk
  · rename_i f caps hc
    split at hk
    · rename_i hg hp
      obtain ⟨r, hr, hcall, hk⟩ := exRes_sound hk
      have hv : ρ y = .fn f caps := by
        unfold calleeV at hc
        split at hc
        · cases hc; exact hf _
        · split at hc
          · rename_i heq; cases hc; exact heq
          · cases hc
      exact ⟨r, fun h2 _ => gives_callV hop hv hg (hcall.hcall hp hr h2), hk⟩
    · exact hk.elim
  · exact hk.elim

theorem lenV_pre {v : V} {n : Int} (hp : Pre h h2) (hn : lenV h v = some n) : lenV h2 v = some n := by
  unfold lenV at hn ⊢
  split <;> simp_all
  split at hn
  · rename_i heq; rw [hp.at heq nofun]; simpa using hn
  · cases hn
theorem liveC_pre {v : V} (hp : Pre h h2) (hn : v.liveC h = true) : v.liveC h2 = true := by
  unfold V.liveC at hn ⊢
  split <;> simp_all
  split at hn
  · rename_i heq; rw [hp.at heq nofun]
  · cases hn

def vlen (P : Program) (h : List Box) (t : TypeId) (v : V) (K : V → Prop) : Prop :=
  match v, P.underlying t, lenV h v with
  | .d (.str _), some .string, some n => K (.d (.int .i64 n))
  | .d (.str _), _, _ => False
  | _, some (.slice _), some n => K (.d (.int .i64 n))
  | .map b, some (.map _ _), _ => match h[b]?, mapO P t with
    | some (.mp _ rows), some _ => K (.d (.int .i64 rows.length))
    | _, _ => False
  | _, _, _ => False
theorem vlen_sound {y : Operand} {t : TypeId} {ts : Array TypeId} {K : V → Prop} (hop : o.op = .call { callee := .builtin .len, args := #[y], argTypes := ts }) (ht : ts[0]? = some t) (hk : vlen P h t (ρ y) K) :
    ∃ x, (∀ h2, Pre h h2 → Gives P [] h2 h2 ρ o x) ∧ K x := by
  unfold vlen at hk
  split at hk
  · rename_i s n hv hu hn
    exact ⟨_, fun h2 hp => gives_len hop ht (lenV_pre hp hn) (fun _ _ => hu) (fun hh => (hh s hv).elim), hk⟩
  · exact hk.elim
  · rename_i hno
    exact ⟨_, fun h2 hp => gives_len hop ht (lenV_pre hp ‹lenV h (ρ y) = some _›) (fun s hs => (hno s hs).elim) (fun _ => ⟨_, ‹P.underlying t = some (.slice _)›⟩), hk⟩
  · rename_i b _ _ hv _ _
    split at hk
    · exact ⟨_, fun h2 hp => gives_lenM hop ht ‹mapO P t = some _› ‹ρ y = .map _› (hp.at ‹h[_]? = some _› nofun), hk⟩
    · exact hk.elim
  · exact hk.elim

def vslice (P : Program) (t : TypeId) (v : V) (lo hi : Option V) (K : V → Prop) : Prop :=
  match v with
  | .d (.sl sz' rows) => match elO P t, bndV 0 lo, bndV rows.length hi with
    | some (_, sz), some l, some r => match decide (sz' = sz) with
      | true => (0 ≤ l ∧ l ≤ r ∧ r ≤ rows.length) ∧ K (.d (.sl sz ((rows.take r.toNat).drop l.toNat)))
      | false => False
    | _, _, _ => False
  | .d (.str s) => match P.underlying t, bndV 0 lo, bndV s.size hi with
    | some .string, some l, some r => (0 ≤ l ∧ l ≤ r ∧ r ≤ s.size) ∧ K (.d (.str (s.extract l.toNat r.toNat)))
    | _, _, _ => False
  | .nils => match elO P t, bndV 0 lo, bndV 0 hi with
    | some _, some l, some r => (l = 0 ∧ r = 0) ∧ K .nils
    | _, _, _ => False
  | _ => False
theorem vslice_sound {t : TypeId} {y : Operand} {lo hi : Option Operand} {K : V → Prop} (hop : o.op = .slice t y lo hi none) (hk : vslice P t (ρ y) (lo.map ρ) (hi.map ρ) K) : ∃ x, (∀ h2, Pre h h2 → Gives P [] h2 h2 ρ o x) ∧ K x := by
  unfold vslice at hk
  split at hk
  · rename_i sz' rows hy
    split at hk
    · rename_i e sz l r hel hl hr
      split at hk
      · rename_i hsz
        have := of_decide_eq_true hsz
        subst this
        exact ⟨_, fun h2 hp => gives_slice hop hel hy hl hr hk.1.1 hk.1.2.1 hk.1.2.2, hk.2⟩
      · exact hk.elim
    · exact hk.elim
  · rename_i s hy
    split at hk
    · rename_i l r hu hl hr
      exact ⟨_, fun h2 hp => gives_sliceS hop hu hy hl hr hk.1.1 hk.1.2.1 hk.1.2.2, hk.2⟩
    · exact hk.elim
  · rename_i hy
    split at hk
    · rename_i z l r hel hl hr
      obtain ⟨e, sz⟩ := z
      exact ⟨_, fun h2 hp => gives_sliceNil hop hel hy hl hr hk.1.1 hk.1.2, hk.2⟩
    · exact hk.elim
  · exact hk.elim

def vlookup (P : Program) (h : List Box) (t : TypeId) (v q : V) (c : Bool) (K : V → Prop) : Prop :=
  match mapO P t, v, q with
  | some (e, kk), .map b, .d k => match h[b]?, zeroO P e, shOf P 9 e, kk.fitsB k with
    | some (.mp kk' rows), some z, some [s], true => match decide (kk' = kk), zeroOK [s] [z] with
      | true, true => openC s (some (mval (zeroD s) k rows)) fun x => match c with
        | true => K (.tup [.d x, .d (.bool (mhas k rows))])
        | false => K (.d x)
      | _, _ => False
    | _, _, _, _ => False
  | _, _, _ => False
theorem vlookup_sound {t : TypeId} {y z : Operand} {c : Bool} {K : V → Prop} (hop : o.op = .lookup t y z c) (hk : vlookup P h t (ρ y) (ρ z) c K) : ∃ x, (∀ h2, Pre h h2 → Gives P [] h2 h2 ρ o x) ∧ K x := by
  unfold vlookup at hk
  split at hk
  · rename_i e kk b k hm hy hz
    split at hk
    · rename_i kk' rows zv s hb hze hsh hf
      split at hk
      · rename_i hkk hzk
        have := of_decide_eq_true hkk
        subst this
        obtain ⟨x, h1, h2⟩ := openC_sound hk
        cases h1
        refine ⟨_, fun h2 hp => gives_lookup hop hy (hp.at hb nofun) hm hze hzk hz (fits_of hf), ?_⟩
        cases c <;> exact h2
      · exact hk.elim
    · exact hk.elim
  · exact hk.elim

/-- Operations that leave the boxes as they are. -/
def vopP (P : Program) (h : List Box) (ρ : Operand → V) (o : Oper) (K : V → Prop) : Prop :=
  match o.op with
  | .move y => K (ρ y)
  | .assign y => K (ρ y)
  | .pick c a b => match ρ c with
    | .d (.bool t) => cond t (K (ρ a)) (K (ρ b))
    | _ => False
  | .load t y => vload P h t (ρ y) K
  | .fieldAddr s y f => match fldO P s f with
    | some k => match addF (ρ y) k with
      | some v => K v
      | none => False
    | none => False
  | .indexAddr t y z => vindex P h t (ρ y) (ρ z) K
  | .index t y z => match P.underlying t, ρ y, ρ z with
    | some .string, .d (.str s), .d (.int _ i) => (0 ≤ i ∧ i < s.size) ∧ K (.d (.int .u8 ((s.data.getD i.toNat 0).toNat : Int)))
    | _, _, _ => False
  | .binOp op t y z _ => vbin P op t (ρ y) (ρ z) K
  | .unOp op _ y => match op, ρ y with
    | .not, .d (.bool b) => K (.d (.bool !b))
    | .neg, .d (.int k n) => K (.d (.int k (k.wrap (0 - n))))
    | _, _ => False
  | .convert s t y => match P.underlying t, (P.underlying s).isSome, ρ y with
    | some (.int k'), true, .d (.int _ n) => K (.d (.int k' (k'.wrap n)))
    | _, _, _ => False
  | .extract y i => match ρ y with
    | .tup cs => match cs[i]? with
      | some v => K v
      | none => False
    | _ => False
  | .nilCheck y => match (ρ y).solid with
    | true => K (ρ y)
    | false => False
  | .build t parts => match placesO P t with
    | some (zs, place) => match fillV place zs (parts.toList.map fun q => (q.1, ρ q.2)), (parts.toList.all fun q => (ρ q.2).liveC h) with
      | some vs, true => K (.agg vs)
      | _, _ => False
    | none => False
  | .lookup t y z c => vlookup P h t (ρ y) (ρ z) c K
  | .slice t y lo hi mx => match mx with
    | none => vslice P t (ρ y) (lo.map ρ) (hi.map ρ) K
    | some _ => False
  | .makeFunc fn first caps => match fn, first with
    | .func f, ⟨[]⟩ => K (.fn f (caps.toList.map ρ))
    | _, _ => False
  | .buildSlice t n parts => match litV P t n (parts.toList.map fun q => (q.1, ρ q.2)), (parts.toList.all fun q => (ρ q.2).liveC h) with
    | some (e, sz, vs), true => match shOf P 9 e with
      | some ss => match rowsOf ss sz n vs with
        | some rows => K (.d (.sl sz rows))
        | none => False
      | none => False
    | _, _ => False
  | .call c => match c with
    | ⟨.value y, args, _⟩ => vcall P ρ y args.toList K
    | ⟨.builtin .len, ⟨[y]⟩, ts⟩ => match ts[0]? with
      | some t => vlen P h t (ρ y) K
      | none => False
    | ⟨.builtin .cap, ⟨[y]⟩, ts⟩ => match ts[0]?, ρ y with
      | some t, .nils => match P.underlying t with
        | some (.slice _) => K (.d (.int .i64 0))
        | _ => False
      | _, _ => False
    | ⟨.builtin .max, ⟨[y, z]⟩, _⟩ => match ρ y, ρ z with
      | .d (.int k a), .d (.int k' b) => match decide (k' = k) with
        | true => K (.d (.int k (max a b)))
        | false => False
      | _, _ => False
    | ⟨.builtin .min, ⟨[y, z]⟩, _⟩ => match ρ y, ρ z with
      | .d (.int k a), .d (.int k' b) => match decide (k' = k) with
        | true => K (.d (.int k (min a b)))
        | false => False
      | _, _ => False
    | _ => False
  | _ => False

theorem vopP_sound {K : V → Prop} (hk : vopP P h ρ o K) (hf : ∀ f, ρ (.func f) = .fn f []) : ∃ x, (∀ h2, Pre h h2 → Gives P [] h2 h2 ρ o x) ∧ K x := by
  unfold vopP at hk
  split at hk
  · rename_i y hop; exact ⟨_, fun h2 hp => gives_copy (.inl hop), hk⟩
  · rename_i y hop; exact ⟨_, fun h2 hp => gives_copy (.inr hop), hk⟩
  · rename_i c a b hop
    split at hk
    · rename_i t ht
      refine ⟨_, fun h2 hp => gives_pick hop ht, ?_⟩
      cases t <;> exact hk
    · exact hk.elim
  · rename_i t y hop; exact vload_sound hop hk
  · rename_i s y f hop
    split at hk
    · rename_i k hfk
      split at hk
      · rename_i v hv; exact ⟨_, fun h2 hp => gives_fieldAddr hop hfk hv, hk⟩
      · exact hk.elim
    · exact hk.elim
  · rename_i t y z hop; exact vindex_sound hop hk
  · rename_i t y z hop
    split at hk
    · rename_i s kd i hu hy hz
      exact ⟨_, fun h2 hp => gives_indexS hop hu hy hz hk.1.1 hk.1.2, hk.2⟩
    · exact hk.elim
  · rename_i op t y z u hop; exact vbin_sound hop hk
  · rename_i op t y hop
    split at hk
    · rename_i b hy; exact ⟨_, fun h2 hp => gives_not hop hy, hk⟩
    · rename_i k n hy; exact ⟨_, fun h2 hp => gives_neg hop hy, hk⟩
    · exact hk.elim
  · rename_i s t y hop
    split at hk
    · rename_i k' k n hu hs hy; exact ⟨_, fun h2 hp => gives_convI hop hy hu hs, hk⟩
    · exact hk.elim
  · rename_i y i hop
    split at hk
    · rename_i cs hy
      split at hk
      · rename_i v hv; exact ⟨_, fun h2 hp => gives_extract hop hy hv, hk⟩
      · exact hk.elim
    · exact hk.elim
  · rename_i y hop
    split at hk
    · rename_i hs; exact ⟨_, fun h2 hp => gives_nilCheck hop hs, hk⟩
    · exact hk.elim
  · rename_i t parts hop
    split at hk
    · rename_i zs place hpl
      split at hk
      · rename_i vs hfv hlv
        refine ⟨_, fun h2 hp => gives_build hop hpl hfv ?_, hk⟩
        rw [List.all_eq_true] at hlv ⊢
        exact fun q hq => liveC_pre hp (hlv q hq)
      · exact hk.elim
    · exact hk.elim
  · rename_i t y z c hop; exact vlookup_sound hop hk
  · rename_i t y lo hi mx hop
    split at hk
    · exact vslice_sound hop hk
    · exact hk.elim
  · rename_i fn first caps hop
    split at hk
    · exact ⟨_, fun h2 hp => gives_makeFunc hop, hk⟩
    · exact hk.elim
  · rename_i t n parts hop
    split at hk
    · rename_i e sz vs hlit hl
      split at hk
      · rename_i ss hss
        split at hk
        · rename_i rows hr
          refine ⟨_, fun h2 hp => gives_buildSliceD hop hlit ?_ hr, hk⟩
          rw [List.all_eq_true] at hl ⊢
          exact fun q hq => liveC_pre hp (hl q hq)
        · exact hk.elim
      · exact hk.elim
    · exact hk.elim
  · rename_i c hop
    split at hk
    · exact vcall_sound hop hk hf
    · rename_i y ts
      split at hk
      · rename_i t ht; exact vlen_sound hop ht hk
      · exact hk.elim
    · rename_i y ts
      split at hk
      · rename_i t ht hy
        split at hk
        · rename_i e hu
          exact ⟨_, fun h2 hp => gives_capNil hop ht hu hy, hk⟩
        · exact hk.elim
      · exact hk.elim
    · rename_i y z ts
      split at hk
      · rename_i k a k' b hy hz
        split at hk
        · rename_i hkk
          have := of_decide_eq_true hkk
          subst this
          exact ⟨_, fun h2 hp => gives_max hop hy hz, hk⟩
        · exact hk.elim
      · exact hk.elim
    · rename_i y z ts
      split at hk
      · rename_i k a k' b hy hz
        split at hk
        · rename_i hkk
          have := of_decide_eq_true hkk
          subst this
          exact ⟨_, fun h2 hp => gives_min hop hy hz, hk⟩
        · exact hk.elim
      · exact hk.elim
    · exact hk.elim
  · exact hk.elim

end
end Go.Vm
end

section
namespace Go.Vm
section
variable {P : Program} {M : List Nat} {h h' h2 : List Box} {ρ : Operand → V} {o : Oper} {x : V}

/-- append on a nil slice. -/
theorem gives_appendNil {y z : Operand} {ts : Array TypeId} {t e : TypeId} {sz by_ : Nat} {zv : Value} {news : List (List D)}
    (hop : o.op = .call { callee := .builtin .append, args := #[y, z], argTypes := ts }) (hts : ts = #[t, t]) (ht : elT P t = some (e, sz, by_, zv)) (hzs : zv.cells.size = sz) (hsz : 0 < sz)
    (hy1 : ρ y = .nils) (hz : rowsV h sz (ρ z) = some news)
    (h63 : news.length ≤ maxLen) (hby : news.length * by_ ≤ 140737488355328) :
    Gives P [] h (h ++ [.arr e sz news]) ρ o (.own h.length) :=
  .of_run fun g ρ' w hs hy => by
    obtain ⟨hu, i, hi, hz0, hz1, hz2⟩ := elT_spec ht
    have hr := hy y
    rw [hy1] at hr
    have e1 : ρ' y = .slice none 0 0 := by
      generalize hu0 : ρ' y = u0 at hr
      cases hr; rfl
    obtain ⟨hnl, hsrc⟩ := rows_cells hs (hy z) hz
    have hown0 : w.ownsRow 0 e sz (.slice none 0 0) 0 [] := ⟨by simp, .inl ⟨rfl, rfl⟩⟩
    rcases hsrc with ⟨e2, rfl⟩ | ⟨ad, cap, nl, e2, hnlen, hnc, hn1, hnr⟩
    · obtain ⟨hkk, hrr⟩ := keep_own (e := e) (sz := sz) (rows := []) hs (.slice none 0 0) w.heap.size (w' := w) ⟨rfl, rfl, rfl, Nat.le_refl _, fun _ _ _ => rfl⟩ (.inl rfl) (Nat.le_refl _) ⟨by simp, .inl ⟨by simp [Gh.push], rfl⟩⟩
      refine ⟨_, w, _, ?_, hrr, hkk⟩
      have hrun := run_append_owned_none (P := P) w 0 t o.type e i sz hu hi _ _ [] hown0
      simp [execOp, hop, resolve, invoke, builtin, hts, e1, e2, hrun]
    · obtain ⟨v', w', hrun, h2, h3, hnil, h5⟩ := run_append_own_at (P := P) w 0 t o.type e i zv sz by_ hu hi hz0 hz1 hz2 hzs hsz _ _ [] hown0 ad news.length cap nl hnlen hnc hn1 (by omega) (by rwa [Nat.zero_add]) (Nat.zero_le _)
      have hfr : Fr (fun _ => False) w w' := ⟨h3.os, h3.tape, h3.output, h3.size, fun k hk _ => h3.block k hk (by simp [Value.ownBlock])⟩
      have hcz : ∀ k o, g.Z k o → w'.cell? ⟨k, o, none⟩ = w.cell? ⟨k, o, none⟩ := fun k o hz => hfr.cell (hs.zlt k o hz) (fun h => h)
      have hv : (g.push w.heap.size v').val g.n = v' := by simp [Gh.push]
      have hbk : (g.push w.heap.size v').blk g.n = w.heap.size := by simp [Gh.push]
      simp only [Nat.zero_add, List.nil_append] at h2
      have hform : v' = .slice none 0 0 ∨ ∃ n c, v' = .slice (some ⟨w.heap.size, 0, none⟩) n c := by
        rcases h2.2 with ⟨q, _⟩ | ⟨k, cap', cur, q, _⟩
        · exact .inl q
        · right
          subst q
          simp only [Value.ownBlock, reduceCtorEq, false_or, Option.some.injEq] at h5
          subst h5
          exact ⟨_, _, rfl⟩
      have hb : BoxRep w' (g.push w.heap.size v') g.n (.arr e sz news) := by
        refine own_arr (base := 0) (xs := nl) (by rw [hv]; exact h2) hnl (fun i' r j c hi' hj => ?_) (fun k hk => ?_)
        · obtain ⟨u, hu', hd⟩ := hnr i' r j c hi' hj
          exact ⟨u, hu', hd.mono (fun _ _ h => h) hcz⟩
        · rw [hv] at hk; rw [hbk]
          rcases hform with rfl | ⟨n, c, rfl⟩
          · simp [Value.ownBlock] at hk
          · simpa [Value.ownBlock] using hk
      obtain ⟨hkk, hrr⟩ := keep_own (w' := w') hs v' w.heap.size ⟨h3.os, h3.tape, h3.output, h3.size, fun k hk _ => h3.block k hk (by simp [Value.ownBlock])⟩ hform (Nat.le_refl _) hb
      refine ⟨_, w', _, ?_, hrr, hkk⟩
      simp [execOp, hop, resolve, invoke, builtin, hts, e1, e2, hrun]

def vappend (P : Program) (h : List Box) (t : TypeId) (a b : V) (K : List Nat → List Box → V → Prop) : Prop :=
  match elT P t with
  | some (e, sz, by_, z) => match decide (z.cells.size = sz), decide (0 < sz), rowsV h sz b with
    | true, true, some news => match a with
      | .own c => match h[c]? with
        | some (.arr e' sz' rows) => match decide (e' = e), decide (sz' = sz) with
          | true, true => (rows.length + news.length) * (by_ + 1) ≤ 140737488355328 ∧ K [c] ((h.map (Box.kill [c])).set c (.arr e sz (rows ++ news))) (.own c)
          | _, _ => False
        | _ => False
      | .nils => news.length * (by_ + 1) ≤ 140737488355328 ∧ K [] (h ++ [.arr e sz news]) (.own h.length)
      | _ => False
    | _, _, _ => False
  | none => False

theorem vappend_sound {y z : Operand} {ts : Array TypeId} {t : TypeId} {K : List Nat → List Box → V → Prop} (hop : o.op = .call { callee := .builtin .append, args := #[y, z], argTypes := ts }) (hts : ts = #[t, t])
    (hk : vappend P h t (ρ y) (ρ z) K) : ∃ M h' x, Gives P M h h' ρ o x ∧ K M h' x := by
  have big : ∀ a b : Nat, a * (b + 1) ≤ 140737488355328 → a ≤ maxLen ∧ a * b ≤ 140737488355328 := fun a b hab => by
    have h1 : a * b ≤ a * (b + 1) := Nat.mul_le_mul_left _ (by omega)
    have h2 : a ≤ a * (b + 1) := Nat.le_mul_of_pos_right _ (by omega)
    exact ⟨by simp only [maxLen]; omega, by omega⟩
  unfold vappend at hk
  split at hk
  · rename_i e sz by_ zv hel
    split at hk
    · rename_i news hc1 hc2 hrows
      have hc1 := of_decide_eq_true hc1
      have hc2 := of_decide_eq_true hc2
      split at hk
      · rename_i c hy
        split at hk
        · rename_i e' sz' rows hb
          split at hk
          · rename_i q1 q2
            have q1 := of_decide_eq_true q1
            have q2 := of_decide_eq_true q2
            subst q1; subst q2
            obtain ⟨b1, b2⟩ := big _ _ hk.1
            exact ⟨_, _, _, gives_append hop hts hel hc1 hc2 hy hb hrows b1 b2, hk.2⟩
          · exact hk.elim
        · exact hk.elim
      · rename_i hy
        obtain ⟨b1, b2⟩ := big _ _ hk.1
        exact ⟨_, _, _, gives_appendNil hop hts hel hc1 hc2 hy hrows b1 b2, hk.2⟩
      · exact hk.elim
    · exact hk.elim
  · exact hk.elim

def vstore (P : Program) (h : List Box) (t : TypeId) (a v : V) (K : List Nat → List Box → V → Prop) : Prop :=
  match v.cellsV, v.liveC h with
  | some ns, true => match a with
    | .ptr b off => match h[b]? with
      | some (.cells bt vs) => match ns.all (V.oneB h), decide (szO P t = some ns.length), decide (off + ns.length ≤ vs.length) with
        | true, true, true => K [] (h.set b (.cells bt (vs.take off ++ ns ++ vs.drop (off + ns.length)))) .any
        | _, _, _ => False
      | _ => False
    | .pml b sz i off => match h[b]?, shOf P 9 t with
      | some (.arr e sz' rows), some ss => match decide (sz' = sz), toDs ss ns with
        | true, some ds => match decide (szO P t = some ds.length), decide (off + ds.length ≤ sz) with
          | true, true => i < rows.length ∧ K [] (h.set b (.arr e sz (rows.set i ((rows.getD i []).take off ++ ds ++ (rows.getD i []).drop (off + ds.length))))) .any
          | _, _ => False
        | _, _ => False
      | _, _ => False
    | _ => False
  | _, _ => False
theorem vstore_sound {t : TypeId} {y z : Operand} {K : List Nat → List Box → V → Prop} (hop : o.op = .store t y z) (hk : vstore P h t (ρ y) (ρ z) K) : ∃ M h' x, Gives P M h h' ρ o x ∧ K M h' x := by
  unfold vstore at hk
  split at hk
  · rename_i ns hn hl
    split at hk
    · rename_i b off hy
      split at hk
      · rename_i bt vs hb
        split at hk
        · rename_i c1 c2 c3
          exact ⟨_, _, _, gives_store_box hop hy hb hn c1 (of_decide_eq_true c2) (of_decide_eq_true c3) hl, hk⟩
        · exact hk.elim
      · exact hk.elim
    · rename_i b sz i off hy
      split at hk
      · rename_i e sz' rows ss hb hss
        split at hk
        · rename_i ds c1 hd
          have c1 := of_decide_eq_true c1
          subst c1
          split at hk
          · rename_i c2 c3
            exact ⟨_, _, _, gives_store_pml hop hy hb hk.1 hn hd (of_decide_eq_true c2) (of_decide_eq_true c3) hl, hk.2⟩
          · exact hk.elim
        · exact hk.elim
      · exact hk.elim
    · exact hk.elim
  · exact hk.elim

def vmake (P : Program) (h : List Box) (t : TypeId) (a b : V) (K : List Nat → List Box → V → Prop) : Prop :=
  match elT P t, a, b with
  | some (e, sz, by_, z), .d (.int _ n), .d (.int _ m) => match decide (n = 0) with
    | true => (0 ≤ m ∧ m * (by_ + 1) ≤ 140737488355328) ∧ K [] (h ++ [.arr e sz []]) (.own h.length)
    | false => match shOf P 9 e with
      | some ss => match zeroOK ss z.cells.toList, decide (ss.length = sz) with
        | true, true => (n = m ∧ 0 ≤ n ∧ n * (by_ + 1) ≤ 140737488355328) ∧ K [] (h ++ [.arr e sz (List.replicate n.toNat (ss.map zeroD))]) (.own h.length)
        | _, _ => False
      | none => False
  | _, _, _ => False

def vput (P : Program) (h : List Box) (t : TypeId) (a q v : V) (K : List Nat → List Box → V → Prop) : Prop :=
  match mapO P t, a, q with
  | some (e, kk), .map b, .d k => match h[b]?, shOf P 9 e, kk.fitsB k with
    | some (.mp kk' rows), some [s], true => match decide (kk' = kk), v.toD s with
      | true, some x => K [] (h.set b (.mp kk (mput k x rows))) .any
      | _, _ => False
    | _, _, _ => False
  | _, _, _ => False
theorem vput_sound {t : TypeId} {y z r : Operand} {K : List Nat → List Box → V → Prop} (hop : o.op = .mapUpdate t y z r ∨ o.op = .insert t y z r) (hk : vput P h t (ρ y) (ρ z) (ρ r) K) : ∃ M h' x, Gives P M h h' ρ o x ∧ K M h' x := by
  unfold vput at hk
  split at hk
  · rename_i e kk b k hm hy hz
    split at hk
    · rename_i kk' rows s hb hsh hf
      split at hk
      · rename_i x hkk hx
        have := of_decide_eq_true hkk
        subst this
        exact ⟨_, _, _, gives_mapUpdate hop hy hb hm hz (fits_of hf) hx, hk⟩
      · exact hk.elim
    · exact hk.elim
  · exact hk.elim
def vdel (P : Program) (h : List Box) (t : TypeId) (a q : V) (K : List Nat → List Box → V → Prop) : Prop :=
  match mapO P t, a, q with
  | some (_, kk), .map b, .d k => match h[b]?, kk.fitsB k with
    | some (.mp kk' rows), true => match decide (kk' = kk) with
      | true => K [] (h.set b (.mp kk (mdel k rows))) .any
      | _ => False
    | _, _ => False
  | _, _, _ => False
theorem vdel_sound {t t' : TypeId} {y z : Operand} {K : List Nat → List Box → V → Prop} (hop : o.op = .call { callee := .builtin .delete, args := #[y, z], argTypes := #[t, t'] }) (hk : vdel P h t (ρ y) (ρ z) K) : ∃ M h' x, Gives P M h h' ρ o x ∧ K M h' x := by
  unfold vdel at hk
  split at hk
  · rename_i e kk b k hm hy hz
    split at hk
    · rename_i kk' rows hb hf
      split at hk
      · rename_i hkk
        have := of_decide_eq_true hkk
        subst this
        exact ⟨_, _, _, gives_delete hop hy hb hm hz (fits_of hf), hk⟩
      · exact hk.elim
    · exact hk.elim
  · exact hk.elim

/-- append(nil, make([]T, n)...). -/
def vappz (P : Program) (h : List Box) (t tn : TypeId) (a b : V) (K : List Nat → List Box → V → Prop) : Prop :=
  match elT P t, P.underlying tn, a, b with
  | some (e, sz, by_, z), some (.int _), .nils, .d (.int _ n) => match shOf P 9 e with
    | some ss => match zeroOK ss z.cells.toList, decide (ss.length = sz), decide (0 < sz) with
      | true, true, true => (0 < n ∧ n * (by_ + 1) ≤ 140737488355328) ∧ K [] (h ++ [.arr e sz (List.replicate n.toNat (ss.map zeroD))]) (.own h.length)
      | _, _, _ => False
    | none => False
  | _, _, _, _ => False
theorem vappz_sound {y z : Operand} {t tn : TypeId} {K : List Nat → List Box → V → Prop} (hop : o.op = .call { callee := .builtin .append, args := #[y, z], argTypes := #[t, tn] }) (hk : vappz P h t tn (ρ y) (ρ z) K) :
    ∃ M h' x, Gives P M h h' ρ o x ∧ K M h' x := by
  unfold vappz at hk
  split at hk
  · rename_i e sz by_ zv kn k n hel htn hy hz
    split at hk
    · rename_i ss hss
      split at hk
      · rename_i q1 q2 q3
        obtain ⟨⟨h0, hb⟩, hk⟩ := hk
        obtain ⟨c, rfl⟩ := Int.eq_ofNat_of_zero_le (Int.le_of_lt h0)
        have hab' : c * (by_ + 1) ≤ 140737488355328 := Int.ofNat_le.1 (by rw [Int.natCast_mul, Int.natCast_add]; exact hb)
        have h1 : c * by_ ≤ c * (by_ + 1) := Nat.mul_le_mul_left _ (by omega)
        have h2 : c ≤ c * (by_ + 1) := Nat.le_mul_of_pos_right _ (by omega)
        exact ⟨_, _, _, gives_appendZeros hop hel htn q1 (of_decide_eq_true q2) (of_decide_eq_true q3) hy hz h0 (by rw [Int.toNat_natCast]; omega) (by rw [Int.toNat_natCast]; simp only [maxLen]; omega), hk⟩
      · exact hk.elim
    · exact hk.elim
  · exact hk.elim

/-- The head of an own slice. -/
def vhead (P : Program) (h : List Box) (t : TypeId) (a : V) (hi : Option V) (K : List Nat → List Box → V → Prop) : Prop :=
  match a with
  | .own b => match h[b]? with
    | some (.arr e' sz rows) => match elO P t, bndV rows.length hi with
      | some (_, sz'), some r => match decide (sz' = sz) with
        | true => (0 ≤ r ∧ r ≤ rows.length) ∧ K [b] ((h.map (Box.kill [b])).set b (.arr e' sz (rows.take r.toNat))) (.own b)
        | false => False
      | _, _ => False
    | _ => False
  | _ => False
theorem vhead_sound {t : TypeId} {y : Operand} {hi : Option Operand} {K : List Nat → List Box → V → Prop} (hop : o.op = .slice t y none hi none) (hk : vhead P h t (ρ y) (hi.map ρ) K) : ∃ M h' x, Gives P M h h' ρ o x ∧ K M h' x := by
  unfold vhead at hk
  split at hk
  · rename_i b hy
    split at hk
    · rename_i e' sz rows hb
      split at hk
      · rename_i e sz' r hel hr
        split at hk
        · rename_i hsz
          have := of_decide_eq_true hsz
          subst this
          exact ⟨_, _, _, gives_sliceOwn hop hel hy hb rfl hr rfl hk.1.1 hk.1.2, hk.2⟩
        · exact hk.elim
      · exact hk.elim
    · exact hk.elim
  · exact hk.elim

/-- Does a function answer one slice? -/
def sliceRes (P : Program) (f : FuncId) : Option (TypeId × Nat) := match sigP P f with
  | some [t] => elO P t
  | _ => none

/-- A call that answers a slice of its own. -/
def vmint (P : Program) (h : List Box) (f : FuncId) (e : TypeId) (sz : Nat) (args : List V) (K : List Nat → List Box → V → Prop) : Prop :=
  match args.all V.pureB with
  | true => ∃ rows, MCall P f args e sz rows ∧ K [] (h ++ [.arr e sz rows]) (.own h.length)
  | _ => False

/-- Operations, boxes and all. -/
def vop (P : Program) (h : List Box) (ρ : Operand → V) (o : Oper) (K : List Nat → List Box → V → Prop) : Prop :=
  match o.op with
  | .assign y => match ρ y with
    | .nils => match elO P o.type with
      | some (e, sz) => K [] (h ++ [.arr e sz []]) (.own h.length)
      | none => K [] h .nils
    | v => K [] h v
  | .box t y => match (ρ y).cellsV, (ρ y).liveC h with
    | some vs, true => K [] (h ++ [.cells t vs]) (.ptr h.length 0)
    | _, _ => False
  | .alloc t => match zeroO P t with
    | some z => match (ofConst z).cellsV with
      | some vs => K [] (h ++ [.cells t vs]) (.ptr h.length 0)
      | none => False
    | none => False
  | .store t y z => vstore P h t (ρ y) (ρ z) K
  | .makeSlice t y z => vmake P h t (ρ y) (ρ z) K
  | .makeMap t r => match r, mapO P t with
    | none, some (_, kk) => K [] (h ++ [.mp kk []]) (.map h.length)
    | _, _ => False
  | .mapUpdate t y z r => vput P h t (ρ y) (ρ z) (ρ r) K
  | .insert t y z r => vput P h t (ρ y) (ρ z) (ρ r) K
  | .buildSlice t n parts => match litV P t n (parts.toList.map fun q => (q.1, ρ q.2)), (parts.toList.all fun q => (ρ q.2).liveC h) with
    | some (e, sz, vs), true => match shOf P 9 e with
      | some ss => match rowsOf ss sz n vs, decide (n ≤ 16777216) with
        | some rows, true => K [] (h ++ [.arr e sz rows]) (.own h.length)
        | _, _ => False
      | none => False
    | _, _ => False
  | .call c => match c with
    | ⟨.builtin .append, ⟨[y, z]⟩, ⟨[t, t']⟩⟩ => match decide (t' = t) with
      | true => vappend P h t (ρ y) (ρ z) K
      | false => vappz P h t t' (ρ y) (ρ z) K
    | ⟨.builtin .delete, ⟨[y, z]⟩, ⟨[t, _]⟩⟩ => vdel P h t (ρ y) (ρ z) K
    | ⟨.value (.func f), args, _⟩ => match sliceRes P f with
      | some (e, sz) => ∃ fresh : Bool, match fresh with
        | true => vmint P h f e sz (args.toList.map ρ) K
        | false => vopP P h ρ o (K [] h)
      | none => vopP P h ρ o (K [] h)
    | _ => vopP P h ρ o (K [] h)
  | .slice t y lo hi mx => match ρ y, lo, mx with
    | .own _, none, none => vhead P h t (ρ y) (hi.map ρ) K
    | _, _, _ => vopP P h ρ o (K [] h)
  | _ => vopP P h ρ o (K [] h)

theorem vop_sound {K : List Nat → List Box → V → Prop} (hk : vop P h ρ o K) (hf : ∀ f, ρ (.func f) = .fn f []) : ∃ M h' x, Gives P M h h' ρ o x ∧ K M h' x := by
  have plain : vopP P h ρ o (K [] h) → ∃ M h' x, Gives P M h h' ρ o x ∧ K M h' x := fun hk =>
    let ⟨x, h1, h2⟩ := vopP_sound hk hf; ⟨[], h, x, h1 h (Pre.refl h), h2⟩
  unfold vop at hk
  split at hk
  · rename_i y hop
    split at hk
    · rename_i hy
      split at hk
      · exact ⟨_, _, _, gives_mint (.inr hop) hy, hk⟩
      · rw [← hy] at hk; exact ⟨_, _, _, gives_copy (.inr hop), hk⟩
    · exact ⟨_, _, _, gives_copy (.inr hop), hk⟩
  · rename_i t y hop
    split at hk
    · rename_i vs hv hl; exact ⟨_, _, _, gives_box hop hv hl, hk⟩
    · exact hk.elim
  · rename_i t hop
    split at hk
    · rename_i z hz
      split at hk
      · rename_i vs hv; exact ⟨_, _, _, gives_alloc hop hz hv, hk⟩
      · exact hk.elim
    · exact hk.elim
  · rename_i t y z hop; exact vstore_sound hop hk
  · rename_i t y z hop
    unfold vmake at hk
    have big : ∀ (a : Int) (b : Nat), 0 ≤ a → a * (b + 1) ≤ 140737488355328 → b * a.toNat ≤ 281474976710656 ∧ a.toNat ≤ maxLen := fun a b h0 hab => by
      obtain ⟨n, rfl⟩ := Int.eq_ofNat_of_zero_le h0
      have hab' : n * (b + 1) ≤ 140737488355328 := Int.ofNat_le.1 (by rw [Int.natCast_mul, Int.natCast_add]; exact hab)
      have h1 : n * b ≤ n * (b + 1) := Nat.mul_le_mul_left _ (by omega)
      have h2 : n ≤ n * (b + 1) := Nat.le_mul_of_pos_right _ (by omega)
      rw [Int.toNat_natCast, Nat.mul_comm]
      exact ⟨by omega, by simp only [maxLen]; omega⟩
    split at hk
    · rename_i e sz by_ zv k1 n k2 m hel hy hz
      split at hk
      · rename_i hn
        have hn := of_decide_eq_true hn
        subst hn
        obtain ⟨b1, b2⟩ := big _ _ hk.1.1 hk.1.2
        exact ⟨_, _, _, gives_makeCap hop hel hy hz hk.1.1 b1 b2, hk.2⟩
      · split at hk
        · rename_i ss hss
          split at hk
          · rename_i q1 q2
            obtain ⟨b1, b2⟩ := big _ _ hk.1.2.1 hk.1.2.2
            exact ⟨_, _, _, gives_makeFull hop hel q1 (of_decide_eq_true q2) hy hz hk.1.1 hk.1.2.1 b1 b2, hk.2⟩
          · exact hk.elim
        · exact hk.elim
    · exact hk.elim
  · rename_i t r hop
    split at hk
    · exact ⟨_, _, _, gives_makeMap hop, hk⟩
    · exact hk.elim
  · rename_i t y z r hop; exact vput_sound (.inl hop) hk
  · rename_i t y z r hop; exact vput_sound (.inr hop) hk
  · rename_i t n parts hop
    split at hk
    · rename_i e sz vs hlit hl
      split at hk
      · rename_i ss hss
        split at hk
        · rename_i rows hr hn
          exact ⟨_, _, _, gives_buildSlice hop hlit hl hr (by have := of_decide_eq_true hn; simp only [maxLen]; omega), hk⟩
        · exact hk.elim
      · exact hk.elim
    · exact hk.elim
  · rename_i c hop
    split at hk
    · rename_i y z t t'
      split at hk
      · rename_i ht
        have ht := of_decide_eq_true ht
        subst ht
        exact vappend_sound hop rfl hk
      · exact vappz_sound hop hk
    · exact vdel_sound hop hk
    · rename_i f args ts
      split at hk
      · rename_i e sz hsr
        obtain ⟨fresh, hk⟩ := hk
        split at hk
        · unfold vmint at hk
          split at hk
          · rename_i hp
            obtain ⟨rows, hc, hk⟩ := hk
            have hg : goodF P f = true := by
              unfold sliceRes at hsr
              split at hsr
              · rename_i hs; exact sigP_some hs
              · cases hsr
            exact ⟨_, _, _, gives_call hop hg (hc.hcall hp h), hk⟩
          · exact hk.elim
        · exact plain hk
      · exact plain hk
    · exact plain hk
  · rename_i t y lo hi mx hop
    split at hk
    · exact vhead_sound hop hk
    · exact plain hk
  · exact plain hk

/-! ### a list of operations -/
def V.owns : V → List Nat
  | .own b => [b]
  | .agg cs => cs.filterMap fun | .own b => some b | _ => none
  | _ => []

/-- The boxes that a function value leads to. -/
def V.fnPts (h : List Box) : V → List Nat
  | .fn _ cs => cs.flatMap fun v => match v with
    | .ptr b _ => (match h[b]? with
      | some (.cells _ vs) => vs.flatMap V.owns
      | _ => []) ++ [b]
    | v => v.owns
  | _ => []

/-- The own slices that an operation makes plain data of. -/
def fzl (s : VSt) (o : Oper) : List Nat := match o.op with
  | .call ⟨.value f, args, _⟩ => (args.toList.flatMap fun y => (s.get y).owns ++ (s.get y).fnPts s.h) ++ (s.get f).fnPts s.h
  | .store _ a z => match s.get a with
    | .pml .. => (s.get z).owns
    | _ => []
  | .buildSlice _ _ parts => parts.toList.flatMap fun q => (s.get q.2).owns
  | .mapUpdate _ _ _ z => (s.get z).owns
  | .slice _ y lo _ _ => match lo with
    | some _ => (s.get y).owns
    | none => []
  | _ => []

def VSt.setT (s : VSt) (t : Nat) (b : Bool) : VSt := { s with t := s.t.set t (.d (.bool b)) }

/-- A call that may turn what its arguments lead to: the callee, and all that it is given. -/
def turnOf (T : FuncId → Bool) (ρ : Operand → V) (o : Oper) : Option (FuncId × List V) := match o.op with
  | .call ⟨.value y, args, _⟩ => match calleeV ρ y with
    | some (f, caps) => match T f with
      | true => some (f, args.toList.map ρ ++ caps)
      | false => none
    | none => none
  | _ => none
def vturnK (h : List Box) (L M0 : List Nat) (r : V) (h1 : List Box) (K : List Nat → List Box → V → Prop) : Prop :=
  match decide (L.length ≤ h1.length), M0.all (fun b => decide (b < L.length)) with
  | true, true => K (M0.map (ext L h.length)) (framed L (M0.map (ext L h.length)) h h1) (r.ren (ext L h.length))
  | _, _ => False
def vturnL (h : List Box) (vs : List V) (L : List Nat) (X : List V → List Box → Prop) : Prop := match reachOK h L vs with
  | true => X (V.renL (tau L) vs) (smallH h L)
  | false => False
def vturn (P : Program) (h : List Box) (f : FuncId) (vs : List V) (K : List Nat → List Box → V → Prop) : Prop := match sigP P f with
  | some _ => vturnL h vs (reachV h [] vs) fun args h0 => ∃ M0 r h1, HCall P M0 f args h0 r h1 ∧ vturnK h (reachV h [] vs) M0 r h1 K
  | none => False
theorem vturn_sound {T : FuncId → Bool} {f : FuncId} {vs : List V} {K : List Nat → List Box → V → Prop} (ht : turnOf T ρ o = some (f, vs)) (hk : vturn P h f vs K) (hf : ∀ f, ρ (.func f) = .fn f []) : ∃ M h' x, Gives P M h h' ρ o x ∧ K M h' x := by
  unfold turnOf at ht
  split at ht
  · rename_i y args ts hop
    split at ht
    · rename_i f' caps hc
      split at ht
      · cases ht
        unfold vturn at hk
        split at hk
        · rename_i tys hsig
          unfold vturnL at hk
          split at hk
          · rename_i hL
            obtain ⟨M0, r, h1, hcall, hk⟩ := hk
            unfold vturnK at hk
            split at hk
            · rename_i c1 c2
              have c1 := of_decide_eq_true c1
              have c2 : ∀ b ∈ M0, b < (reachV h [] (args.toList.map ρ ++ caps)).length := fun b hb => of_decide_eq_true (List.all_eq_true.1 c2 b hb)
              have hv : ρ y = .fn f caps := by
                unfold calleeV at hc
                split at hc
                · cases hc; exact hf _
                · split at hc
                  · rename_i heq; cases hc; exact heq
                  · cases hc
              exact ⟨_, _, _, gives_callV hop hv (sigP_some hsig) (HCall.among hL hcall c1 c2), hk⟩
            · exact hk.elim
          · exact hk.elim
        · exact hk.elim
      · cases ht
    · cases ht
  · cases ht

def vops (P : Program) (T : FuncId → Bool) (n0 : Nat) (M0 : List Nat) (ops : Array Oper) : List Oper → VSt → (VSt → Prop) → Prop
  | [], s, K => K s
  | o :: os, s, K =>
    let exec : VSt → Prop := fun s =>
      match turnOf T s.get o with
      | some (f, vs) => vturn P s.h f vs fun M h' x => match okM n0 M0 M with
        | true => vops P T n0 M0 ops os (s.next M h' o.dst x) K
        | false => False
      | none =>
        let s1 := s.frz (fzl s o)
        vop P s1.h s1.get o fun M h' x => match okM n0 M0 M with
          | true => vops P T n0 M0 ops os (s1.next M h' o.dst x) K
          | false => False
    let pass : VSt → Prop := fun s => vops P T n0 M0 ops os (s.next [] s.h o.dst (.tup [])) K
    match o.guard with
    | none => exec s
    | some (j, want) => match (ops[j]?).bind (·.dst) with
      | some t => match s.t[t]? with
        | some (.d (.bool c)) => match want with
          | true => cond c (exec (s.setT t true)) (pass (s.setT t false))
          | false => cond c (pass (s.setT t true)) (exec (s.setT t false))
        | some (.tup []) => pass s
        | _ => False
      | none => False

theorem setT_sim {E : Ent} {s : VSt} {a : Act} {w : World} {t : Nat} {c : Bool} (hs : SimE E s a w) (ht : s.t[t]? = some (.d (.bool c))) : SimE E (s.setT t c) a w ∧ a.tmps[t]? = some (.bool c) := by
  have hlt : t < s.t.length := (List.getElem?_eq_some_iff.1 ht).1
  obtain ⟨g, hs'⟩ := hs
  have hlt' : t < a.tmps.size := by rw [hs'.size]; exact hlt
  have hu := hs'.tmps t _ _ (Array.getElem?_eq_getElem hlt') ht
  have e := rep_bool_inv hu
  refine ⟨SimE.setT ⟨g, hs'⟩ (fun u g' hu' => ?_), by rw [Array.getElem?_eq_getElem hlt', e]⟩
  rw [Array.getElem?_eq_getElem hlt', e] at hu'
  cases hu'
  exact .d (.bool c)

theorem vops_sound {T : FuncId → Bool} {E : Ent} {ops : Array Oper} {Q : Exit → Act → World → Prop} : ∀ {os : List Oper} {s : VSt} {K : VSt → Prop} {a : Act} {w : World}, vops P T E.g.n E.M ops os s K → SimE E s a w →
    (∀ s' a' w', K s' → SimE E s' a' w' → Q .normal a' w') → wpList P ops Q os a w
  | [], s, K, a, w, hk, hs, hq => hq s a w hk hs
  | o :: os, s, K, a, w, hk, hs, hq => by
    have exec : ∀ s, SimE E s a w → (match turnOf T s.get o with
      | some (f, vs) => vturn P s.h f vs fun M h' x => match okM E.g.n E.M M with
        | true => vops P T E.g.n E.M ops os (s.next M h' o.dst x) K
        | false => False
      | none =>
        let s1 := s.frz (fzl s o)
        vop P s1.h s1.get o fun M h' x => match okM E.g.n E.M M with
          | true => vops P T E.g.n E.M ops os (s1.next M h' o.dst x) K
          | false => False) → o.wp P a w (wpList P ops Q os) Q := by
      intro s hs hk
      split at hk
      · rename_i f vs ht
        obtain ⟨M, h', x, hg, hk⟩ := vturn_sound ht hk (fun f => rfl)
        split at hk
        · rename_i hM
          exact hg.sim hs hM fun a' w' hs' => vops_sound hk hs' hq
        · exact hk.elim
      simp only at hk
      obtain ⟨M, h', x, hg, hk⟩ := vop_sound hk (fun f => rfl)
      split at hk
      · rename_i hM
        exact hg.sim hs.frzs hM fun a' w' hs' => vops_sound hk hs' hq
      · exact hk.elim
    have pass : ∀ s, SimE E s a w → vops P T E.g.n E.M ops os (s.next [] s.h o.dst (.tup [])) K → wpList P ops Q os (a.put o.dst undef) w := by
      intro s hs hk
      obtain ⟨g, hs'⟩ := hs
      exact vops_sound hk ⟨g, hs'.next (.refl hs'.heap) (by simp [okM]) (.tup #[] [] rfl (by simp)) o.dst⟩ hq
    unfold vops at hk
    simp only at hk
    split at hk
    · rename_i hg
      refine wpList_step fun K' hK => ?_
      simp only [Region.wanted, hg, if_true]
      exact Oper.wp_mono hK (exec s hs hk)
    · rename_i j want hg
      split at hk
      · rename_i t ht
        split at hk
        · rename_i c hc
          obtain ⟨hs1, ha⟩ := setT_sim hs hc
          have hy : yielded ops a.tmps j = some c := by simp [yielded, ht, ha]
          refine wpList_step fun K' hK => ?_
          simp only [Region.wanted, hg, hy]
          split at hk <;> cases c
          · rw [if_neg (by simp)]
            exact hK _ _ (pass _ hs1 hk)
          · rw [if_pos (by simp)]
            exact Oper.wp_mono hK (exec _ hs1 hk)
          · rw [if_pos (by simp)]
            exact Oper.wp_mono hK (exec _ hs1 hk)
          · rw [if_neg (by simp)]
            exact hK _ _ (pass _ hs1 hk)
        · rename_i hc
          have hy : yielded ops a.tmps j = none := by
            have hlt : t < s.t.length := (List.getElem?_eq_some_iff.1 hc).1
            obtain ⟨g, hs'⟩ := hs
            have hlt' : t < a.tmps.size := by rw [hs'.size]; exact hlt
            have hu := hs'.tmps t _ _ (Array.getElem?_eq_getElem hlt') hc
            have ha : a.tmps[t]? = some a.tmps[t] := Array.getElem?_eq_getElem hlt'
            generalize a.tmps[t] = u at hu ha
            cases hu with
            | tup us cs hl h => simp [yielded, ht, ha]
          refine wpList_step fun K' hK => ?_
          simp only [Region.wanted, hg, hy]
          rw [if_neg (by simp)]
          exact hK _ _ (pass _ hs hk)
        · exact hk.elim
      · exact hk.elim

end
end Go.Vm
end

section
namespace Go.Vm
section
variable {P : Program} {M : List Nat} {h h' h2 : List Box} {ρ : Operand → V} {o : Oper} {x : V}

/-! ### what a loop keeps -/
/-- A slot at a loop's head: plain data of a kind, or what it held when the loop began. -/
inductive SL where
  | leaf (s : Sh)
  | same
/-- A box at a loop's head. -/
inductive BL where
  | gone
  | same
  | rows (sz : Nat)
  | maps
  | cells (cs : List (Option SL))

structure LAnn where
  slots : List (Nat × SL)
  boxes : List BL
  ice : List Nat := []

/-- Plain data that the slots hold; K of them. -/
def leafOf (s : Sh) (v : V) (K : D → Prop) : Prop := match s, v with
  | .int k, .d (.int k' n) => match decide (k' = k) with
    | true => K (.int k n)
    | false => False
  | .bool, .d (.bool b) => K (.bool b)
  | .str, .d (.str b) => K (.str b)
  | .sl sz, .d (.sl sz' rows) => match decide (sz' = sz) with
    | true => K (.sl sz rows)
    | false => False
  | .sl sz, .nils => K (.sl sz [])
  | _, _ => False

theorem leafOf_sound {s : Sh} {v : V} {K : D → Prop} (hk : leafOf s v K) : ∃ x, K x ∧ ∀ (w : World) (g : Gh) (u : Value), Rep w g u v → Rep w g u (.d x) := by
  unfold leafOf at hk
  split at hk
  · split at hk
    · rename_i hd
      have := of_decide_eq_true hd
      subst this
      exact ⟨_, hk, fun _ _ _ h => h⟩
    · exact hk.elim
  · exact ⟨_, hk, fun _ _ _ h => h⟩
  · exact ⟨_, hk, fun _ _ _ h => h⟩
  · split at hk
    · rename_i hd
      have := of_decide_eq_true hd
      subst this
      exact ⟨_, hk, fun _ _ _ h => h⟩
    · exact hk.elim
  · refine ⟨_, hk, fun w g u h => ?_⟩
    generalize hu : u = u0 at h
    cases h
    exact .d (.slnil _)
  · exact hk.elim

/-- Does v name boxes below n alone? -/
def V.belowC (n : Nat) : V → Bool
  | .own b | .map b => decide (b < n)
  | .pml b _ _ _ => decide (b < n)
  | .ptr b _ => decide (b < n)
  | .agg _ | .tup _ | .fn _ _ => false
  | _ => true
def V.belowB (n : Nat) : V → Bool
  | .agg cs => cs.all (V.belowC n)
  | .tup cs => cs.all (V.belowC n)
  | .fn _ cs => cs.all (V.belowC n)
  | v => v.belowC n

def Gh.cut (g : Gh) (n : Nat) : Gh := { g with n := n }

theorem belowC_rep {w : World} {g : Gh} {n : Nat} {u : Value} {v : V} (hv : v.belowC n = true) (hr : Rep w g u v) : Rep w (g.cut n) u v := by
  cases hr with
  | any u => exact .any u
  | nils => exact .nils
  | d h => exact .d h
  | pel blk off cs U hZ hc hr => exact .pel blk off cs U hZ hc hr
  | nilp => exact .nilp
  | nilf => exact .nilf
  | own b hb => exact .own (g := g.cut n) b (of_decide_eq_true hv)
  | ptr b off hb => exact .ptr (g := g.cut n) b off (of_decide_eq_true hv)
  | pml b sz i off hb => exact .pml (g := g.cut n) b sz i off (of_decide_eq_true hv)
  | map b hb => exact .map (g := g.cut n) b (of_decide_eq_true hv)
  | _ => simp [V.belowC] at hv

theorem belowB_rep {w : World} {g : Gh} {n : Nat} {u : Value} {v : V} (hv : v.belowB n = true) (hr : Rep w g u v) : Rep w (g.cut n) u v := by
  have aux : ∀ (us : Array Value) (cs : List V), (∀ (i : Nat) u c, us[i]? = some u → cs[i]? = some c → Rep w g u c) → cs.all (V.belowC n) = true →
      ∀ (i : Nat) u c, us[i]? = some u → cs[i]? = some c → Rep w (g.cut n) u c := fun us cs h ha i u c hu hc =>
    belowC_rep (List.all_eq_true.1 ha c (List.mem_of_getElem? hc)) (h i u c hu hc)
  cases hr with
  | agg us cs hl h => exact .agg us cs hl (aux us cs h hv)
  | tup us cs hl h => exact .tup us cs hl (aux us cs h hv)
  | fn f us cs hl h => exact .fn f us cs hl (aux us cs h hv)
  | any u => exact .any u
  | nils => exact .nils
  | d h => exact .d h
  | pel blk off cs U hZ hc hr => exact .pel blk off cs U hZ hc hr
  | nilp => exact .nilp
  | nilf => exact .nilf
  | own b hb => exact belowC_rep hv (.own b hb)
  | ptr b off hb => exact belowC_rep hv (.ptr b off hb)
  | pml b sz i off hb => exact belowC_rep hv (.pml b sz i off hb)
  | map b hb => exact belowC_rep hv (.map b hb)

/-- v says no more than v' did. -/
def Wk (n : Nat) (v' v : V) : Prop := ∀ (w : World) (g : Gh) (u : Value), Rep w g u v' → Rep w (g.cut n) u v
theorem Wk.any (n : Nat) (v' : V) : Wk n v' .any := fun _ _ u _ => .any u

/-- One slot: what it held at the loop's beginning (v0), what it holds now (v): K of the plain data, and of what the head then holds. -/
def fitS (n : Nat) (l : SL) (v0 v : V) (K : List D → V → Prop) : Prop := match l with
  | .leaf s => leafOf s v fun x => K [x] (.d x)
  | .same => match v0.belowB n with
    | true => v = v0 ∧ K [] v0
    | false => False

theorem fitS_sound {n : Nat} {l : SL} {v0 v : V} {K : List D → V → Prop} (hk : fitS n l v0 v K) : ∃ ds v', K ds v' ∧ Wk n v v' := by
  unfold fitS at hk
  split at hk
  · obtain ⟨x, h1, h2⟩ := leafOf_sound hk
    refine ⟨_, _, h1, fun w g u hr => ?_⟩
    have := h2 w g u hr
    cases this with | d h => exact .d h
  · split at hk
    · rename_i hb
      obtain ⟨rfl, hk⟩ := hk
      exact ⟨_, _, hk, fun w g u hr => belowB_rep hb hr⟩
    · exact hk.elim

/-- The slots, one by one; t0: at the beginning; t: now; acc: the head. -/
def fitT (n : Nat) (t0 t : List V) : List (Nat × SL) → List V → (List D → List V → Prop) → Prop
  | [], acc, K => K [] acc
  | (k, l) :: ls, acc, K => fitS n l (t0.getD k .any) (t.getD k .any) fun ds v => fitT n t0 t ls (acc.set k v) fun ds' acc' => K (ds ++ ds') acc'

theorem fitT_sound {n : Nat} {t0 t : List V} : ∀ {ls : List (Nat × SL)} {acc : List V} {K : List D → List V → Prop}, fitT n t0 t ls acc K → acc.length = t.length →
    (∀ (k : Nat) v', acc[k]? = some v' → Wk n (t.getD k .any) v') → ∃ ds acc', K ds acc' ∧ acc'.length = t.length ∧ ∀ (k : Nat) v', acc'[k]? = some v' → Wk n (t.getD k .any) v'
  | [], acc, K, hk, hl, hw => ⟨_, _, hk, hl, hw⟩
  | (k, l) :: ls, acc, K, hk, hl, hw => by
    obtain ⟨ds, v, hk, h1⟩ := fitS_sound hk
    obtain ⟨ds', acc', hk, h2, h3⟩ := fitT_sound hk (by simpa using hl) (fun i v' hv => by
      rw [List.getElem?_set] at hv
      by_cases hi : k = i
      · subst hi
        rw [if_pos rfl] at hv
        split at hv
        · cases hv; exact h1
        · cases hv
      · rw [if_neg hi] at hv; exact hw i v' hv)
    exact ⟨_, _, hk, h2, h3⟩

/-- The cells of a box. -/
def fitCs (n : Nat) : List (Option SL) → List V → List V → (List D → List V → Prop) → Prop
  | [], [], [], K => K [] []
  | none :: ls, _ :: vs0, _ :: vs, K => fitCs n ls vs0 vs fun ds acc => K ds (.any :: acc)
  | some l :: ls, v0 :: vs0, v :: vs, K => fitS n l v0 v fun ds v' => fitCs n ls vs0 vs fun ds' acc => K (ds ++ ds') (v' :: acc)
  | _, _, _, _ => False

theorem fitCs_sound {n : Nat} : ∀ {ls : List (Option SL)} {vs0 vs : List V} {K : List D → List V → Prop}, fitCs n ls vs0 vs K →
    ∃ ds acc, K ds acc ∧ acc.length = vs.length ∧ ∀ (i : Nat) v v', vs[i]? = some v → acc[i]? = some v' → Wk n v v'
  | [], [], [], K, hk => ⟨_, _, hk, rfl, by simp⟩
  | none :: ls, _ :: vs0, v :: vs, K, hk => by
    obtain ⟨ds, acc, hk, h1, h2⟩ := fitCs_sound (ls := ls) (vs0 := vs0) (vs := vs) hk
    refine ⟨_, _, hk, by simp [h1], fun i v1 v2 hv1 hv2 => ?_⟩
    cases i with
    | zero => simp at hv2; subst hv2; exact Wk.any _ _
    | succ i => exact h2 i v1 v2 (by simpa using hv1) (by simpa using hv2)
  | some l :: ls, v0 :: vs0, v :: vs, K, hk => by
    obtain ⟨ds, v', hk, h0⟩ := fitS_sound hk
    obtain ⟨ds', acc, hk, h1, h2⟩ := fitCs_sound (ls := ls) (vs0 := vs0) (vs := vs) hk
    refine ⟨_, _, hk, by simp [h1], fun i v1 v2 hv1 hv2 => ?_⟩
    cases i with
    | zero => simp at hv1 hv2; subst hv1; subst hv2; exact h0
    | succ i => exact h2 i v1 v2 (by simpa using hv1) (by simpa using hv2)
  | [], _ :: _, _, _, hk => by simp [fitCs] at hk
  | [], [], _ :: _, _, hk => by simp [fitCs] at hk
  | none :: _, [], _, _, hk => by simp [fitCs] at hk
  | none :: _, _ :: _, [], _, hk => by simp [fitCs] at hk
  | some _ :: _, [], _, _, hk => by simp [fitCs] at hk
  | some _ :: _, _ :: _, [], _, hk => by simp [fitCs] at hk

def Box.belowB (n : Nat) : Box → Bool
  | .cells _ vs => vs.all (V.belowB n)
  | _ => true

def fitBox (n : Nat) (l : BL) (x0 x : Box) (K : List D → Box → Prop) : Prop := match l with
  | .gone => K [] .gone
  | .same => match x0.belowB n with
    | true => x = x0 ∧ K [] x0
    | false => False
  | .rows sz => match x with
    | .arr e sz' rows => match decide (sz' = sz) with
      | true => K [.sl sz rows] (.arr e sz rows)
      | false => False
    | _ => False
  | .maps => match x with
    | .mp kk rows => K [.sl 2 rows] (.mp kk rows)
    | _ => False
  | .cells cs => match x0, x with
    | .cells _ vs0, .cells t vs => fitCs n cs vs0 vs fun ds vs' => K ds (.cells t vs')
    | _, _ => False

/-- The box y says no more than x did. -/
def WkB (n : Nat) (x y : Box) : Prop := (∀ (w : World) (g : Gh) (b : Nat), BoxRep w g b x → BoxRep w (g.cut n) b y) ∧ ∀ (g : Gh) (b k : Nat), y.at? (g.cut n) b = some k → x.at? g b = some k

end
end Go.Vm
end

section
namespace Go.Vm
section
variable {P : Program} {M : List Nat} {h h' h2 h0 : List Box} {ρ ρ2 : Operand → V} {o : Oper} {x : V} {ops : Array Oper}

/-! ### regions whose order is drawn -/
open Classical in
/-- What the operation knows of the slots, and nothing more. -/
noncomputable def restr (o : Oper) (ρ : Operand → V) : Operand → V := fun y => match y with
  | .func f => .fn f []
  | y => if y ∈ o.op.operands.toList then ρ y else .any

theorem restr_func (o : Oper) (ρ : Operand → V) (f : FuncId) : restr o ρ (.func f) = .fn f [] := rfl
theorem restr_at (hf : ∀ f, ρ (.func f) = .fn f []) {y : Operand} (hy : y ∈ o.op.operands.toList) : restr o ρ y = ρ y := by
  cases y <;> simp only [restr, hf] <;> rw [if_pos hy]

theorem restr_rep {w : World} {g : Gh} {a : Act} (hy : ∀ y, y ∈ o.op.operands.toList → Rep w g (a.eval y) (ρ y)) : ∀ y, Rep w g (a.eval y) (restr o ρ y) := by
  intro y
  cases y with
  | func f => exact .fn f #[] [] rfl (by simp)
  | _ => simp only [restr]; split <;> first | exact hy _ ‹_› | exact .any _

theorem vopP_congr {K : V → Prop} (he : ∀ y, y ∈ o.op.operands.toList → ρ y = ρ2 y) (hk : vopP P h ρ o K) : vopP P h ρ2 o K := by
  unfold vopP at hk ⊢
  cases hop : o.op <;> simp only [hop] at hk ⊢ <;> (try exact hk.elim)
  case move y => rw [← he y (by simp [hop, Op.operands])]; exact hk
  case assign y => rw [← he y (by simp [hop, Op.operands])]; exact hk
  case pick c a b => rw [← he c (by simp [hop, Op.operands]), ← he a (by simp [hop, Op.operands]), ← he b (by simp [hop, Op.operands])]; exact hk
  case build t parts =>
    have e1 : (parts.toList.map fun q => (q.1, ρ q.2)) = parts.toList.map fun q => (q.1, ρ2 q.2) := List.map_congr_left fun q hq => by
      rw [he q.2 (by simp only [hop, Op.operands]; exact List.mem_map.2 ⟨q, hq, rfl⟩)]
    have e2 : (parts.toList.all fun q => (ρ q.2).liveC h) = parts.toList.all fun q => (ρ2 q.2).liveC h := by
      rw [Bool.eq_iff_iff, List.all_eq_true, List.all_eq_true]
      refine ⟨fun hh q hq => ?_, fun hh q hq => ?_⟩
      · rw [← he q.2 (by simp only [hop, Op.operands]; exact List.mem_map.2 ⟨q, hq, rfl⟩)]; exact hh q hq
      · rw [he q.2 (by simp only [hop, Op.operands]; exact List.mem_map.2 ⟨q, hq, rfl⟩)]; exact hh q hq
    rw [← e1, ← e2]; exact hk
  case buildSlice t n parts =>
    have e1 : (parts.toList.map fun q => (q.1, ρ q.2)) = parts.toList.map fun q => (q.1, ρ2 q.2) := List.map_congr_left fun q hq => by
      rw [he q.2 (by simp only [hop, Op.operands]; exact List.mem_map.2 ⟨q, hq, rfl⟩)]
    have e2 : (parts.toList.all fun q => (ρ q.2).liveC h) = parts.toList.all fun q => (ρ2 q.2).liveC h := by
      rw [Bool.eq_iff_iff, List.all_eq_true, List.all_eq_true]
      refine ⟨fun hh q hq => ?_, fun hh q hq => ?_⟩
      · rw [← he q.2 (by simp only [hop, Op.operands]; exact List.mem_map.2 ⟨q, hq, rfl⟩)]; exact hh q hq
      · rw [he q.2 (by simp only [hop, Op.operands]; exact List.mem_map.2 ⟨q, hq, rfl⟩)]; exact hh q hq
    rw [← e1, ← e2]; exact hk
  case load t y => rw [← he y (by simp [hop, Op.operands])]; exact hk
  case nilCheck y => rw [← he y (by simp [hop, Op.operands])]; exact hk
  case binOp op t y z u => rw [← he y (by simp [hop, Op.operands]), ← he z (by simp [hop, Op.operands])]; exact hk
  case unOp op t y => rw [← he y (by simp [hop, Op.operands])]; exact hk
  case convert s t y => rw [← he y (by simp [hop, Op.operands])]; exact hk
  case makeFunc fn first caps =>
    have e1 : caps.toList.map ρ = caps.toList.map ρ2 := List.map_congr_left fun q hq => he q (by simp [hop, Op.operands]; right; simpa using hq)
    rw [← e1]; exact hk
  case slice t y lo hi mx =>
    have e1 : lo.map ρ = lo.map ρ2 := by cases lo with
      | none => rfl
      | some q => simp [he q (by simp [hop, Op.operands])]
    have e2 : hi.map ρ = hi.map ρ2 := by cases hi with
      | none => rfl
      | some q => simp [he q (by simp [hop, Op.operands])]
    rw [← he y (by simp [hop, Op.operands]), ← e1, ← e2]; exact hk
  case fieldAddr s y f => rw [← he y (by simp [hop, Op.operands])]; exact hk
  case lookup t y z c => rw [← he y (by simp [hop, Op.operands]), ← he z (by simp [hop, Op.operands])]; exact hk
  case indexAddr t y z => rw [← he y (by simp [hop, Op.operands]), ← he z (by simp [hop, Op.operands])]; exact hk
  case index t y z => rw [← he y (by simp [hop, Op.operands]), ← he z (by simp [hop, Op.operands])]; exact hk
  case extract y i => rw [← he y (by simp [hop, Op.operands])]; exact hk
  case call c =>
    obtain ⟨cal, args, ts⟩ := c
    have hargs : args.toList.map ρ = args.toList.map ρ2 := List.map_congr_left fun q hq => he q (by
      simp only [hop, Op.operands, Call.operands, Array.toList_append, List.mem_append]; right; exact hq)
    cases cal with
    | value y =>
      have hy : ρ y = ρ2 y := he y (by simp [hop, Op.operands, Call.operands])
      have hc : calleeV ρ y = calleeV ρ2 y := by unfold calleeV; cases y <;> simp only [hy]
      simp only [vcall] at hk ⊢
      rw [← hc, ← hargs]; exact hk
    | invoke r m => exact hk.elim
    | builtin b =>
      have hmem : ∀ q, q ∈ args.toList → ρ q = ρ2 q := fun q hq => he q (by
        simp only [hop, Op.operands, Call.operands, Array.toList_append, List.mem_append]; right; exact hq)
      obtain ⟨l⟩ := args
      cases b <;> (try exact hk.elim)
      case len =>
        match l, hk, hmem with
        | [y], hk, hmem => simp only at hk ⊢; rw [← hmem y (by simp)]; exact hk
      case cap =>
        match l, hk, hmem with
        | [y], hk, hmem => simp only at hk ⊢; rw [← hmem y (by simp)]; exact hk
      case max =>
        match l, hk, hmem with
        | [y, z], hk, hmem => simp only at hk ⊢; rw [← hmem y (by simp), ← hmem z (by simp)]; exact hk
      case min =>
        match l, hk, hmem with
        | [y, z], hk, hmem => simp only at hk ⊢; rw [← hmem y (by simp), ← hmem z (by simp)]; exact hk

/-- What the guard says. -/
def wantV (ops : Array Oper) (o : Oper) (t : List V) : Option Bool := match o.guard with
  | none => some true
  | some (j, want) => match (ops[j]?).bind (·.dst) with
    | some k => match t[k]? with
      | some (.d (.bool c)) => some (c == want)
      | some (.tup []) => some false
      | _ => none
    | none => none

theorem wantV_sim {E : Ent} {s : VSt} {a : Act} {w : World} (hs : SimE E s a w) {c : Bool} (hw : wantV ops o s.t = some c) : Region.wanted o (yielded ops a.tmps) = c := by
  unfold wantV at hw
  split at hw
  · rename_i hg; cases hw; simp [Region.wanted, hg]
  · rename_i j want hg
    split at hw
    · rename_i k hk
      split at hw
      · rename_i c' hc
        cases hw
        have hy : yielded ops a.tmps j = some c' := by simp [yielded, hk, (setT_sim hs hc).2]
        simp only [Region.wanted, hg, hy]
        cases c' <;> cases want <;> rfl
      · rename_i hc
        cases hw
        have hy : yielded ops a.tmps j = none := by
          have hlt : k < s.t.length := (List.getElem?_eq_some_iff.1 hc).1
          obtain ⟨g, hs'⟩ := hs
          have hlt' : k < a.tmps.size := by rw [hs'.size]; exact hlt
          have hu := hs'.tmps k _ _ (Array.getElem?_eq_getElem hlt') hc
          have ha : a.tmps[k]? = some a.tmps[k] := Array.getElem?_eq_getElem hlt'
          generalize a.tmps[k] = u at hu ha
          cases hu with
          | tup us cs hl h => simp [yielded, hk, ha]
        simp [Region.wanted, hg, hy]
      · cases hw
    · cases hw

def putV (t : List V) (dst : Option Tmp) (x : V) : List V := match dst with
  | some d => t.set d x
  | none => t

/-- What an operation gives on whatever boxes behind those of h0. -/
def Val (P : Program) (h0 : List Box) (o : Oper) (t : List V) (x : V) : Prop := ∀ h2, Pre h0 h2 → Gives P [] h2 h2 (restr o (VSt.get ⟨t, h0⟩)) o x
def allocV (P : Program) (o : Oper) : Option Box := match o.op with
  | .alloc t => match zeroO P t with
    | some z => match (ofConst z).cellsV with
      | some vs => some (.cells t vs)
      | none => none
    | none => none
  | _ => none

/-- One operation, at t on h0 and the boxes hb behind: it gives x and the boxes hb'. -/
def Out (P : Program) (ops : Array Oper) (h0 : List Box) (o : Oper) (t : List V) (hb : List Box) (x : V) (hb' : List Box) : Prop :=
  (wantV ops o t = some true ∧ ((hb' = hb ∧ Val P h0 o t x) ∨ (hb = [] ∧ x = .ptr h0.length 0 ∧ ∃ b, allocV P o = some b ∧ hb' = [b]))) ∨ (wantV ops o t = some false ∧ x = .tup [] ∧ hb' = hb)

theorem pre_append (h0 hb : List Box) : Pre h0 (h0 ++ hb) := fun b x hx => .inr <| by
  rw [List.getElem?_append, if_pos (List.getElem?_eq_some_iff.1 hx).1]; exact hx

theorem get_h (t : List V) (h h' : List Box) : VSt.get ⟨t, h⟩ = VSt.get ⟨t, h'⟩ := by funext y; cases y <;> rfl

theorem Gives.of_restr (hg : Gives P M h h' (restr o ρ) o x) : Gives P M h h' ρ o x :=
  fun g a w hs hy K Q hK => hg g a w hs (restr_rep fun y _ => hy y) K Q hK

theorem Out.wp {E : Ent} {t : List V} {hb hb' : List Box} {a : Act} {w : World} (ho : Out P ops h0 o t hb x hb') (hs : SimE E ⟨t, h0 ++ hb⟩ a w) {K : Act → World → Prop} {Q : Exit → Act → World → Prop}
    (hK : ∀ a' w', SimE E ⟨putV t o.dst x, h0 ++ hb'⟩ a' w' → K a' w') : if Region.wanted o (yielded ops a.tmps) then o.wp P a w K Q else K (a.put o.dst undef) w := by
  have hnext : ∀ h' x, VSt.next ⟨t, h0 ++ hb⟩ [] h' o.dst x = ⟨putV t o.dst x, h'⟩ := fun h' x => by first | (simp only [VSt.next, putV]; done) | (simp only [VSt.next, putV]; cases o.dst <;> rfl)
  rcases ho with ⟨hw, hv⟩ | ⟨hw, rfl, rfl⟩
  · rw [if_pos (wantV_sim hs hw)]
    rcases hv with ⟨rfl, hv⟩ | ⟨rfl, rfl, b, hb, rfl⟩
    · have hg := hv (h0 ++ hb') (pre_append _ _)
      rw [get_h t h0 (h0 ++ hb')] at hg
      refine Gives.sim (s := ⟨t, h0 ++ hb'⟩) hg.of_restr hs (by simp [okM]) fun a' w' hs' => hK a' w' ?_
      rwa [hnext] at hs'
    · unfold allocV at hb
      split at hb
      · rename_i ty hop
        split at hb
        · rename_i z hz
          split at hb
          · rename_i vs hvs
            cases hb
            have hg : Gives P [] (h0 ++ []) ((h0 ++ []) ++ [.cells ty vs]) (VSt.get ⟨t, h0 ++ []⟩) o (.ptr (h0 ++ []).length 0) := gives_alloc hop hz hvs
            refine Gives.sim (s := ⟨t, h0 ++ []⟩) hg hs (by simp [okM]) fun a' w' hs' => hK a' w' ?_
            rw [hnext] at hs'
            simpa using hs'
          · cases hb
        · cases hb
      · cases hb
  · rw [if_neg (by rw [wantV_sim hs hw]; simp)]
    refine hK _ _ ?_
    obtain ⟨g, hs⟩ := hs
    have := hs.next (.refl hs.heap) (by simp [okM]) (.tup (w := w) (g := g) #[] [] rfl (by simp)) o.dst
    rw [hnext] at this
    exact ⟨g, this⟩

/-- Two operations that do not look at one another. -/
theorem wantV_put {d : Option Tmp} (hd : ∀ k, d = some k → k ∉ o.looksAt ops) (t : List V) : wantV ops o (putV t d x) = wantV ops o t := by
  cases d with
  | none => rfl
  | some k =>
    unfold wantV
    split
    · rfl
    · rename_i j want hg
      split
      · rename_i q hq
        have hne : k ≠ q := fun e => hd k rfl (by subst e; simp [Oper.looksAt, hg, hq])
        simp only [putV, List.getElem?_set, if_neg hne]
      · rfl

theorem restr_put {d : Option Tmp} (hd : ∀ k, d = some k → k ∉ o.looksAt ops) (t : List V) (h : List Box) : restr o (VSt.get ⟨putV t d x, h⟩) = restr o (VSt.get ⟨t, h⟩) := by
  funext y
  cases y with
  | tmp q =>
    simp only [restr]
    split
    · rename_i hy
      cases d with
      | none => rfl
      | some k =>
        have hne : k ≠ q := fun e => hd k rfl (by
          subst e
          exact List.mem_append_left _ (List.mem_filterMap.2 ⟨.tmp k, hy, rfl⟩))
        simp [VSt.get, putV, hne]
    · rfl
  | const v => simp only [restr]; rfl
  | func f => rfl
  | global k => simp only [restr]; rfl

theorem putV_comm {d e : Option Tmp} (hde : ∀ k, d = some k → e ≠ some k) (t : List V) (u v : V) : putV (putV t d u) e v = putV (putV t e v) d u := by
  cases d with
  | none => rfl
  | some k => cases e with
    | none => rfl
    | some q => exact List.set_comm _ _ (fun hh => hde k rfl (by rw [hh]))

theorem Out.put {oi oj : Oper} {t : List V} {hb hbi hbj : List Box} {xi xj : V} (hap : oi.apart ops oj = true)
    (hi : Out P ops h0 oi t hb xi hbi) (hj : Out P ops h0 oj (putV t oi.dst xi) hbi xj hbj) :
    ∃ hb1, Out P ops h0 oj t hb xj hb1 ∧ Out P ops h0 oi (putV t oj.dst xj) hb1 xi hbj ∧ putV (putV t oj.dst xj) oi.dst xi = putV (putV t oi.dst xi) oj.dst xj := by
  obtain ⟨a1, a2, a3⟩ := Oper.apart_spec hap
  have hcomm := putV_comm a2 t xi xj
  have toj : ∀ {x}, Val P h0 oj (putV t oi.dst xi) x ↔ Val P h0 oj t x := fun {x} => by simp only [Val, restr_put a1]
  have toi : ∀ {x}, Val P h0 oi (putV t oj.dst xj) x ↔ Val P h0 oi t x := fun {x} => by simp only [Val, restr_put a3]
  have wj := wantV_put (o := oj) (x := xi) a1 t
  have wi := wantV_put (o := oi) (x := xj) a3 t
  simp only [Out, wj, toj] at hj
  rcases hi with ⟨hw, (⟨rfl, hv⟩ | ⟨rfl, rfl, b, hb1, rfl⟩)⟩ | ⟨hw, rfl, rfl⟩
  · refine ⟨hbj, hj, .inl ⟨by rw [wi]; exact hw, .inl ⟨rfl, toi.2 hv⟩⟩, hcomm.symm⟩
  · rcases hj with ⟨hw', (⟨rfl, hv'⟩ | ⟨hne, _⟩)⟩ | ⟨hw', rfl, rfl⟩
    · exact ⟨[], .inl ⟨hw', .inl ⟨rfl, hv'⟩⟩, .inl ⟨by rw [wi]; exact hw, .inr ⟨rfl, rfl, b, hb1, rfl⟩⟩, hcomm.symm⟩
    · cases hne
    · exact ⟨[], .inr ⟨hw', rfl, rfl⟩, .inl ⟨by rw [wi]; exact hw, .inr ⟨rfl, rfl, b, hb1, rfl⟩⟩, hcomm.symm⟩
  · exact ⟨hbj, hj, .inr ⟨by rw [wi]; exact hw, rfl, rfl⟩, hcomm.symm⟩

end
end Go.Vm
end

section
namespace Go.Vm
section
variable {P : Program} {M : List Nat} {h h' h2 h0 : List Box} {ρ ρ2 : Operand → V} {o : Oper} {x : V} {ops : Array Oper}

/-- Every order of the first operations, from here on: K of what they leave. -/
def vAny (P : Program) (ops : Array Oper) (h0 : List Box) (m : Nat) (K : List V → List Box → Prop) : Nat → Array Bool → List V → List Box → Prop
  | 0, listed, t, hb => (∀ j ∈ Region.ready .any ops listed, m ≤ j) ∧ K t hb
  | fuel + 1, listed, t, hb => Region.ready .any ops listed ≠ [] ∧ ∀ i ∈ Region.ready .any ops listed, i < m ∧ ∃ o x hb', ops[i]? = some o ∧ Out P ops h0 o t hb x hb' ∧ vAny P ops h0 m K fuel (listed.setIfInBounds i true) (putV t o.dst x) hb'

/-- Do the operations behind wait for all of the first ones? -/
def sufOK (ops : Array Oper) (m : Nat) : Bool := (List.range ops.size).all fun j => decide (j < m) || match ops[j]? with
  | some oj => (List.range m).all fun i => oj.after.any fun e => Region.binds .any e && e.on == i
  | none => true

theorem sufOK_spec {m : Nat} (hs : sufOK ops m = true) {i : Nat} (hi : i < m) {listed : Array Bool} (hun : listed.getD i false = false) {j : Nat} (hj : j ∈ Region.ready .any ops listed) : j < m := by
  obtain ⟨_, oj, hoj, hall⟩ := mem_ready.1 hj
  rcases Nat.lt_or_ge j m with h1 | h1
  · exact h1
  · have := List.all_eq_true.1 hs j (List.mem_range.2 (Array.getElem?_eq_some_iff.1 hoj).1)
    simp only [hoj, Bool.or_eq_true, decide_eq_true_eq] at this
    rcases this with h2 | h2
    · omega
    · have := List.all_eq_true.1 h2 i (List.mem_range.2 hi)
      obtain ⟨e, he, hb⟩ := Array.any_eq_true'.1 this
      simp only [Bool.and_eq_true, beq_iff_eq] at hb
      have := hall e he hb.1
      rw [hb.2, hun] at this
      cases this

theorem not_listed {i : Nat} {listed : Array Bool} (hi : i ∈ Region.ready .any ops listed) : listed.getD i false = false := by
  have h0 := (mem_ready.1 hi).1
  rcases Nat.lt_or_ge i listed.size with h' | h'
  · simp [h'] at h0 ⊢; exact h0
  · simp [Array.getElem?_eq_none h']

theorem vAny_first {m : Nat} {K : List V → List Box → Prop} (hsuf : sufOK ops m = true) {i : Nat} {oi : Oper} {xi : V} (hi : ops[i]? = some oi) (him : i < m) :
    ∀ (fuel : Nat) (listed : Array Bool) (t : List V) (hb hbi : List Box),
      (∀ j oj, ops[j]? = some oj → j ≠ i → listed.getD j true = false → (∀ e ∈ oj.after, Region.binds .any e = true → e.on ≠ i) → oi.apart ops oj = true) →
      i ∈ Region.ready .any ops listed → Out P ops h0 oi t hb xi hbi →
      vAny P ops h0 m K fuel (listed.setIfInBounds i true) (putV t oi.dst xi) hbi → vAny P ops h0 m K (fuel + 1) listed t hb := by
  intro fuel
  induction fuel with
  | zero =>
    intro listed t hb hbi _ hr ho H
    refine ⟨fun h => (by rw [h] at hr; cases hr), fun j hj => ?_⟩
    have hjm := sufOK_spec hsuf him (not_listed hr) hj
    by_cases hji : j = i
    · subst hji; exact ⟨him, oi, xi, hbi, hi, ho, H⟩
    · have := H.1 j (ready_mono hj hji)
      omega
  | succ fuel ih =>
    intro listed t hb hbi hfree hr ho H
    refine ⟨fun h => (by rw [h] at hr; cases hr), fun j hj => ?_⟩
    have hjm := sufOK_spec hsuf him (not_listed hr) hj
    by_cases hji : j = i
    · subst hji; exact ⟨him, oi, xi, hbi, hi, ho, H⟩
    · obtain ⟨_, oj, xj, hbj, hoj, hout, hrest⟩ := H.2 j (ready_mono hj hji)
      obtain ⟨hjun, oj', hoj', hall⟩ := mem_ready.1 hj
      rw [hoj] at hoj'; cases hoj'
      have hnot : ∀ e ∈ oj.after, Region.binds .any e = true → e.on ≠ i := fun e he hb heq => by
        have h1 := hall e he hb
        rw [heq, not_listed hr] at h1
        cases h1
      obtain ⟨hb1, o1, o2, e1⟩ := Out.put (hfree j oj hoj hji hjun hnot) ho hout
      refine ⟨hjm, oj, xj, hb1, hoj, o1, ih (listed.setIfInBounds j true) _ hb1 hbj (fun k ok hk hki hun hno => ?_) (ready_mono hr (Ne.symm hji)) o2 ?_⟩
      · refine hfree k ok hk hki ?_ hno
        by_cases hjk : j = k
        · subst hjk; exact hjun
        · rw [getD_set_ne true hjk] at hun; exact hun
      · rw [Array.setIfInBounds_comm _ _ hji, e1]
        exact hrest

/-- The first operations, in the text's order. -/
def vLex (P : Program) (ops : Array Oper) (h0 : List Box) (K : List V → List Box → Prop) : List Oper → List V → List Box → Prop
  | [], t, hb => K t hb
  | o :: os, t, hb => ∃ x hb', Out P ops h0 o t hb x hb' ∧ vLex P ops h0 K os (putV t o.dst x) hb'

def lexOK (ops : Array Oper) (m : Nat) : Nat → Nat → Array Bool → Bool
  | 0, _, listed => (Region.ready .any ops listed).all fun j => decide (m ≤ j)
  | n + 1, k, listed => (Region.ready .any ops listed).contains k && decide (k < m) && Region.free .any ops listed k && lexOK ops m n (k + 1) (listed.setIfInBounds k true)

theorem vAny_lex {m : Nat} {K : List V → List Box → Prop} (hsuf : sufOK ops m = true) : ∀ (l : List Oper) (k : Nat) (listed : Array Bool) (t : List V) (hb : List Box), (∀ j, j < l.length → l[j]? = ops[k + j]?) →
    lexOK ops m l.length k listed = true → vLex P ops h0 K l t hb → vAny P ops h0 m K l.length listed t hb
  | [], _, _, _, _, _, hB, h => ⟨by simpa [lexOK] using hB, h⟩
  | o :: l, k, listed, t, hb, hl, hB, ⟨x, hb', ho, h⟩ => by
    have h0 : ops[k]? = some o := by simpa using (hl 0 (by simp)).symm
    simp only [List.length_cons, lexOK, Bool.and_eq_true, decide_eq_true_eq] at hB
    obtain ⟨⟨⟨hr, hkm⟩, hf⟩, hB'⟩ := hB
    exact vAny_first hsuf h0 hkm l.length listed t hb hb' (Region.free_spec h0 hf) (by simpa using hr) ho
      (vAny_lex hsuf l (k + 1) _ _ _ (fun j hj => by have := hl (j + 1) (by simpa using hj); simpa [Nat.add_assoc, Nat.add_comm 1 j] using this) hB' h)

/-- What is listed when the first m are done. -/
def listedTo (n m : Nat) : Array Bool := ((List.range n).map fun i => decide (i < m)).toArray

/-- Do the first ones wait for earlier ones alone? -/
def backOK (ops : Array Oper) (m : Nat) : Bool := decide (m ≤ ops.size) && (List.range m).all fun i => match ops[i]? with
  | some o => o.after.all fun e => !Region.binds .any e || decide (e.on < i)
  | none => false

theorem back_ready {m : Nat} (hb : backOK ops m = true) {listed : Array Bool} (hsz : listed.size = ops.size) (hno : ∀ j ∈ Region.ready .any ops listed, m ≤ j) : ∀ i, i < m → listed.getD i false = true := by
  simp only [backOK, Bool.and_eq_true, decide_eq_true_eq] at hb
  intro i
  induction i using Nat.strongRecOn with
  | _ i ih =>
    intro him
    have hi : i < listed.size := by omega
    cases hc : listed.getD i false with
    | true => rfl
    | false =>
      exfalso
      have hlt : i < ops.size := by omega
      have hoi : ops[i]? = some ops[i] := Array.getElem?_eq_getElem hlt
      have h1 := List.all_eq_true.1 hb.2 i (List.mem_range.2 him)
      simp only [hoi] at h1
      have : i ∈ Region.ready .any ops listed := mem_ready.2 ⟨by simp [hi] at hc ⊢; exact hc, _, hoi, fun e he hbd => by
        have := Array.all_eq_true_iff_forall_mem.1 h1 e he
        simp only [hbd, Bool.not_true, Bool.false_or, decide_eq_true_eq] at this
        exact ih e.on this (by omega)⟩
      have := hno i this
      omega

theorem vAny_sound {E : Ent} {m : Nat} {K : List V → List Box → Prop} {Q : Exit → Act → World → Prop} (hback : backOK ops m = true) {rest : Nat}
    (hK : ∀ t hb a w, K t hb → SimE E ⟨t, h0 ++ hb⟩ a w → wpAny P .any ops Q rest (listedTo ops.size m) a w) :
    ∀ (fuel : Nat) (listed : Array Bool) (t : List V) (hb : List Box) (a : Act) (w : World), vAny P ops h0 m K fuel listed t hb → listed.size = ops.size → (∀ k, m ≤ k → listed.getD k false = false) →
      SimE E ⟨t, h0 ++ hb⟩ a w → wpAny P .any ops Q (rest + fuel) listed a w
  | 0, listed, t, hb, a, w, ⟨hno, hk⟩, hsz, hun, hs => by
    have hl : listed = listedTo ops.size m := by
      apply Array.ext
      · simp [listedTo, hsz]
      · intro i h1 h2
        have e : listed.getD i false = listed[i] := by simp [h1]
        rcases Nat.lt_or_ge i m with hi | hi
        · have := back_ready hback hsz hno i hi
          rw [e] at this
          rw [this]; simp [listedTo, hi]
        · have := hun i hi
          rw [e] at this
          rw [this]; simp [listedTo]; omega
    rw [hl]
    exact hK t hb a w hk hs
  | fuel + 1, listed, t, hb, a, w, ⟨hne, hall⟩, hsz, hun, hs => by
    refine ⟨fun h => (hne h).elim, fun i hi => ?_⟩
    obtain ⟨him, o, x, hb', ho, hout, hrest⟩ := hall i hi
    unfold wpOp
    simp only [ho]
    have h1 := hout.wp (Q := Q) hs (K := wpAny P .any ops Q (rest + fuel) (listed.setIfInBounds i true)) fun a' w' hs' =>
      vAny_sound hback hK fuel _ _ _ a' w' hrest (by simpa using hsz) (fun k hk => by
        rw [getD_set_ne false (by omega)]; exact hun k hk) hs'
    split
    · rename_i hw; rw [if_pos hw] at h1; exact .inl h1
    · rename_i hw; rw [if_neg hw] at h1; exact h1

/-- Behind the first ones each waits for all ahead. -/
def seqOK (ops : Array Oper) : Nat → Nat → Array Bool → Bool
  | 0, _, listed => (Region.ready .any ops listed).isEmpty
  | n + 1, k, listed => (Region.ready .any ops listed == [k]) && seqOK ops n (k + 1) (listed.setIfInBounds k true)

theorem seq_any {Q : Exit → Act → World → Prop} : ∀ (l : List Oper) (k : Nat) (listed : Array Bool) (a : Act) (w : World), (∀ j, l[j]? = ops[k + j]?) → seqOK ops l.length k listed = true →
    wpList P ops Q l a w → wpAny P .any ops Q l.length listed a w
  | [], k, listed, a, w, _, hB, h => ⟨by simpa [seqOK] using hB, h⟩
  | o :: l, k, listed, a, w, hl, hB, h => by
    have h0 : ops[k]? = some o := by simpa using (hl 0).symm
    simp only [List.length_cons, seqOK, Bool.and_eq_true, beq_iff_eq] at hB
    obtain ⟨hr, hB'⟩ := hB
    have ih := fun a w => seq_any (Q := Q) l (k + 1) (listed.setIfInBounds k true) a w (fun j => by have := hl (j + 1); simpa [Nat.add_assoc, Nat.add_comm 1 j] using this) hB'
    refine ⟨fun h => (by rw [hr] at h; cases h), fun i hi => ?_⟩
    rw [hr, List.mem_singleton] at hi
    subst hi
    unfold wpOp
    simp only [h0]
    unfold wpList at h
    split
    · rename_i hw
      rw [if_pos hw] at h
      exact h.imp (Oper.wp_mono ih) id
    · rename_i hw
      rw [if_neg hw] at h
      exact ih _ _ h

/-- Operations that may come in any order. -/
def calm (o : Oper) : Bool := match o.op with
  | .store .. | .mapUpdate .. | .insert .. | .makeMap .. | .makeSlice .. | .box .. | .panic .. => false
  | .call ⟨.builtin .append, _, _⟩ | .call ⟨.builtin .copy, _, _⟩ | .call ⟨.builtin .delete, _, _⟩ => false
  | _ => true

def drawM (ops : Array Oper) : Nat := (ops.toList.takeWhile calm).length
def drawOK (ops : Array Oper) : Bool := sufOK ops (drawM ops) && backOK ops (drawM ops) && lexOK ops (drawM ops) (drawM ops) 0 (Array.replicate ops.size false) && seqOK ops (ops.size - drawM ops) (drawM ops) (listedTo ops.size (drawM ops))

/-- The first operations by the evaluator: t: the slots; hb: the new boxes. -/
def vpre (P : Program) (ops : Array Oper) (h0 : List Box) : List Oper → List V → List Box → (List V → List Box → Prop) → Prop
  | [], t, hb, K => K t hb
  | o :: os, t, hb, K =>
    let exec : List V → Prop := fun t => match allocV P o, hb with
      | some b, [] => vpre P ops h0 os (putV t o.dst (.ptr h0.length 0)) [b] K
      | some _, _ => False
      | none, _ => vopP P h0 (VSt.get ⟨t, h0⟩) o fun x => vpre P ops h0 os (putV t o.dst x) hb K
    let pass : List V → Prop := fun t => vpre P ops h0 os (putV t o.dst (.tup [])) hb K
    match o.guard with
    | none => exec t
    | some (j, want) => match (ops[j]?).bind (·.dst) with
      | some k => match t[k]? with
        | some (.d (.bool c)) => match want with
          | true => cond c (exec (t.set k (.d (.bool true)))) (pass (t.set k (.d (.bool false))))
          | false => cond c (pass (t.set k (.d (.bool true)))) (exec (t.set k (.d (.bool false))))
        | some (.tup []) => pass t
        | _ => False
      | none => False

theorem set_self {α : Type} {l : List α} {k : Nat} {v : α} (hv : l[k]? = some v) : l.set k v = l := by
  apply List.ext_getElem?
  intro i
  rw [List.getElem?_set]
  by_cases hi : k = i
  · subst hi
    rw [if_pos rfl, if_pos (List.getElem?_eq_some_iff.1 hv).1, hv]
  · rw [if_neg hi]

theorem vpre_lex : ∀ {os : List Oper} {t : List V} {hb : List Box} {K : List V → List Box → Prop}, vpre P ops h0 os t hb K → vLex P ops h0 K os t hb
  | [], _, _, _, hk => hk
  | o :: os, t, hb, K, hk => by
    have exec : wantV ops o t = some true → (match (generalizing := false) allocV P o, hb with
      | some b, [] => vpre P ops h0 os (putV t o.dst (.ptr h0.length 0)) [b] K
      | some _, _ => False
      | none, _ => vopP P h0 (VSt.get ⟨t, h0⟩) o fun x => vpre P ops h0 os (putV t o.dst x) hb K) → vLex P ops h0 K (o :: os) t hb := by
      intro hw hk
      cases hal : allocV P o with
      | some b =>
        simp only [hal] at hk
        cases hb with
        | nil => exact ⟨_, _, .inl ⟨hw, .inr ⟨rfl, rfl, b, hal, rfl⟩⟩, vpre_lex hk⟩
        | cons => exact hk.elim
      | none =>
        simp only [hal] at hk
        have hk2 := vopP_congr (ρ2 := restr o (VSt.get ⟨t, h0⟩)) (fun y hy => (restr_at (fun f => rfl) hy).symm) hk
        obtain ⟨x, h1, h2⟩ := vopP_sound hk2 (fun f => rfl)
        exact ⟨x, hb, .inl ⟨hw, .inl ⟨rfl, h1⟩⟩, vpre_lex h2⟩
    have pass : wantV ops o t = some false → vpre P ops h0 os (putV t o.dst (.tup [])) hb K → vLex P ops h0 K (o :: os) t hb := fun hw hk =>
      ⟨.tup [], hb, .inr ⟨hw, rfl, rfl⟩, vpre_lex hk⟩
    unfold vpre at hk
    simp only at hk
    split at hk
    · rename_i hg
      exact exec (by simp [wantV, hg]) hk
    · rename_i j want hg
      split at hk
      · rename_i k hjk
        split at hk
        · rename_i c hc
          have hw : wantV ops o t = some (c == want) := by simp [wantV, hg, hjk, hc]
          split at hk <;> cases c
          · have hk' : vpre P ops h0 os (putV (t.set k (.d (.bool false))) o.dst (.tup [])) hb K := hk
            rw [set_self hc] at hk'; exact pass (by rw [hw]; rfl) hk'
          · simp only [cond_true, set_self hc] at hk
            exact exec (by rw [hw]; rfl) hk
          · simp only [cond_false, set_self hc] at hk
            exact exec (by rw [hw]; rfl) hk
          · have hk' : vpre P ops h0 os (putV (t.set k (.d (.bool true))) o.dst (.tup [])) hb K := hk
            rw [set_self hc] at hk'; exact pass (by rw [hw]; rfl) hk'
        · rename_i hc
          exact pass (by simp [wantV, hg, hjk, hc]) hk
        · exact hk.elim
      · exact hk.elim

/-- A region whose order is drawn. -/
def vdraw (P : Program) (T : FuncId → Bool) (n0 : Nat) (M0 : List Nat) (ops : Array Oper) (s : VSt) (K : VSt → Prop) : Prop := match drawOK ops with
  | true => vpre P ops s.h (ops.toList.take (drawM ops)) s.t [] fun t hb => vops P T n0 M0 ops (ops.toList.drop (drawM ops)) ⟨t, s.h ++ hb⟩ K
  | false => False

theorem SimE.drew {E : Ent} {s : VSt} {a : Act} {w : World} (hs : SimE E s a w) : SimE E s a w.drew := by
  obtain ⟨g, hs⟩ := hs
  have ho : Over [] w g w.drew g := ⟨Gh.Le.refl _ _, fun _ _ _ => rfl⟩
  have hk : Keep [] g s.h w g s.h w.drew := ⟨⟨hs.heap.n, fun b x hx => by
    have := BoxRep.over ho (by rw [hs.heap.n]; exact (List.getElem?_eq_some_iff.1 hx).1) (by simp) (fun k _ => rfl) (hs.heap.rep b x hx)
    rwa [Box.kill_nil] at this, hs.heap.sep, hs.heap.zsep, hs.heap.zlt⟩, Gh.Le.refl _ _, Fr.drew _ _, fun _ _ h => .inl h, fun _ h => .inl h⟩
  exact ⟨g, hk.heap, hs.size, fun i u v h1 h2 => ho.repC_nil (hs.tmps i u v h1 h2), hs.defers, hs.step hk (by simp [okM]), hs.len⟩

theorem vdraw_sound {T : FuncId → Bool} {E : Ent} {id : Nat} {Q : Exit → Act → World → Prop} {s : VSt} {K : VSt → Prop} {a : Act} {w : World} (hm : P.follows .mixedOrders = true) (hk : vdraw P T E.g.n E.M ops s K) (hs : SimE E s a w)
    (hq : ∀ s' a' w', K s' → SimE E s' a' w' → Q .normal a' w') : (Code.region id ops true).wp P Q a w := by
  unfold vdraw at hk
  split at hk
  · rename_i hB
    simp only [drawOK, Bool.and_eq_true] at hB
    obtain ⟨⟨⟨h1, h2⟩, h3⟩, h4⟩ := hB
    have hml : drawM ops ≤ ops.size := by simp only [backOK, Bool.and_eq_true, decide_eq_true_eq] at h2; exact h2.1
    have hlen : (ops.toList.take (drawM ops)).length = drawM ops := by simp [hml]
    have hany := vAny_lex (P := P) (h0 := s.h) h1 (ops.toList.take (drawM ops)) 0 (Array.replicate ops.size false) s.t [] (fun j hj => by
      rw [hlen] at hj
      rw [List.getElem?_take, if_pos hj, Nat.zero_add]; simp) (by rw [hlen]; exact h3) (vpre_lex hk)
    rw [hlen] at hany
    refine wp_region_any hm ?_
    have := vAny_sound (Q := Q) (E := E) h2 (rest := ops.size - drawM ops) (fun t hb a w hk hs => ?_) (drawM ops) _ s.t [] a w.drew hany (by simp) (fun k hk => by simp [Array.getElem?_replicate]; split <;> rfl) (by rw [List.append_nil]; exact hs.drew)
    · rw [Nat.sub_add_cancel hml] at this; exact this
    · have hl2 : (ops.toList.drop (drawM ops)).length = ops.size - drawM ops := by simp
      have := seq_any (P := P) (Q := Q) (ops.toList.drop (drawM ops)) (drawM ops) (listedTo ops.size (drawM ops)) a w (fun j => by simp) (by rw [hl2]; exact h4) (vops_sound hk hs hq)
      rwa [hl2] at this
  · exact hk.elim

end
end Go.Vm
end
