/-
  Part D of the proof. What is proved by the whole: the statement that the claim names, with no condition. This part: lemmas.
-/
import Derived.Test.YtdckoceiokaelaaDoorC
import Derived.ScopeJumps
import Derived.KernelRfl
set_option linter.unusedSimpArgs false
set_option linter.unusedVariables false

section
namespace Go.Vm
/-! ### drawn regions whose heavy operations are in order -/
section
variable {P : Program} {h h' h2 h0 hh hx hx' : List Box} {ρ ρ2 : Operand → V} {o : Oper} {x : V} {ops : Array Oper} {W Z M : List Nat} {t t2 : List V} {En : Ent} {E : Env}

def bigI (o : Oper) : Bool := match o.op with
  | .store .. => true
  | .alloc _ => true
  | .buildSlice .. => true
  | .call ⟨.builtin .append, _, _⟩ => true
  | .call ⟨.value (.tmp _), _, _⟩ => true
  | .call ⟨.builtin .copy, _, _⟩ => true
  | _ => false
/-- Are the heavy ones in order? -/
def bigOK (ops : Array Oper) : Bool := (List.range ops.size).all fun j => match ops[j]? with
  | some oj => !bigI oj || (List.range j).all fun i => match ops[i]? with
    | some oi => !bigI oi || edgeR ops 5 oj i
    | none => true
  | none => true
/-- Is operation i in order with all heavy ones? -/
def pinI (ops : Array Oper) (i : Nat) : Bool := (List.range ops.size).all fun j => match ops[j]? with
  | some oj => !bigI oj || edgeR ops 5 oj i || (match ops[i]? with
    | some oi => edgeR ops 5 oi j
    | none => false)
  | none => true

/-- A heavy one that lays a new box and nothing else. -/
def mkI (o : Oper) : Bool := match o.op with
  | .alloc _ => true
  | .buildSlice .. => true
  | _ => false
/-- Is operation i in order with all heavy ones that turn a box? -/
def midI (ops : Array Oper) (i : Nat) : Bool := (List.range ops.size).all fun j => match ops[j]? with
  | some oj => !bigI oj || mkI oj || edgeR ops 5 oj i || (match ops[i]? with
    | some oi => edgeR ops 5 oi j
    | none => false)
  | none => true

def killT (M : List Nat) (t : List V) : List V := match M with
  | [] => t
  | _ => t.map (V.kill M)
theorem killT_eq (M : List Nat) (t : List V) : killT M t = t.map (V.kill M) := by
  cases M with
  | nil => rw [show V.kill [] = id from funext V.kill_nil]; simp [killT]
  | cons => rfl
theorem next_kill (s : VSt) (M : List Nat) (h' : List Box) (d : Option Tmp) (x : V) : s.next M h' d x = ⟨putV (killT M s.t) d x, h'⟩ := by
  unfold VSt.next putV killT
  cases M <;> cases d <;> rfl

def calmC (Z : List Nat) : V → Bool
  | .d _ => true
  | .nils => true
  | .nilp => true
  | .nilf => true
  | .ifn _ => true
  | .pel _ => true
  | .own b => !Z.contains b
  | .map b => !Z.contains b
  | .ptr b _ => !Z.contains b
  | .pml b _ _ _ => !Z.contains b
  | .yld b _ => !Z.contains b
  | .osl b _ _ _ => !Z.contains b
  | _ => false
/-- Does it name none of Z? -/
def calmB (Z : List Nat) : V → Bool
  | .agg cs => cs.all (calmC Z)
  | .tup cs => cs.all (calmC Z)
  | v => calmC Z v
theorem notin {b : Nat} (hM : ∀ b ∈ M, b ∈ Z) (h : (!Z.contains b) = true) : (!M.contains b) = true := by
  simp only [Bool.not_eq_true', List.contains_eq_mem, decide_eq_false_iff_not] at h ⊢
  exact fun hb => h (hM b hb)
theorem calmC_kill {v : V} (hM : ∀ b ∈ M, b ∈ Z) (h : calmC Z v = true) : v.killC M = v := by
  cases v with
  | any => cases h
  | agg cs => cases h
  | tup cs => cases h
  | fn f cs => cases h
  | own b => exact congrArg (fun q => bif q then V.own b else .any) (notin hM h)
  | map b => exact congrArg (fun q => bif q then V.map b else .any) (notin hM h)
  | ptr b off => exact congrArg (fun q => bif q then V.ptr b off else .any) (notin hM h)
  | pml b sz i off => exact congrArg (fun q => bif q then V.pml b sz i off else .any) (notin hM h)
  | yld b R => exact congrArg (fun q => bif q then V.yld b R else .any) (notin hM h)
  | osl b s l n => exact congrArg (fun q => bif q then V.osl b s l n else .any) (notin hM h)
  | _ => rfl
theorem calmC_of {v : V} (h : calmC Z (v.killC M) = true) : v.killC M = v := by
  unfold V.killC at h ⊢
  cases hf : v.freeC M with
  | true => rfl
  | false => rw [hf] at h; cases h
theorem calm_kill {v : V} (hM : ∀ b ∈ M, b ∈ Z) (h : calmB Z v = true) : v.kill M = v := by
  have aux : ∀ cs : List V, cs.all (calmC Z) = true → cs.map (V.killC M) = cs := fun cs hc => by
    have : cs.map (V.killC M) = cs.map id := List.map_congr_left fun v hv => calmC_kill hM (List.all_eq_true.1 hc v hv)
    simpa using this
  cases v with
  | agg cs => exact congrArg V.agg (aux cs h)
  | tup cs => exact congrArg V.tup (aux cs h)
  | fn f cs => cases h
  | _ => exact calmC_kill hM h
theorem calm_of {v : V} (h : calmB Z (v.kill M) = true) : v.kill M = v := by
  have aux : ∀ cs : List V, (cs.map (V.killC M)).all (calmC Z) = true → cs.map (V.killC M) = cs := fun cs hc => by
    have : cs.map (V.killC M) = cs.map id := List.map_congr_left fun v hv => calmC_of (List.all_eq_true.1 hc _ (List.mem_map_of_mem hv))
    simpa using this
  have aux2 : ∀ v : V, calmB Z (bif V.freeC M v then v else .any) = true → (bif V.freeC M v then v else .any) = v := fun v h => by
    cases hf : v.freeC M with
    | true => rfl
    | false => rw [hf] at h; cases h
  cases v with
  | agg cs => exact congrArg V.agg (aux cs h)
  | tup cs => exact congrArg V.tup (aux cs h)
  | fn f cs => cases h
  | any => cases h
  | own b => exact aux2 (.own b) h
  | map b => exact aux2 (.map b) h
  | ptr b off => exact aux2 (.ptr b off) h
  | pml b sz i off => exact aux2 (.pml b sz i off) h
  | yld b R => exact aux2 (.yld b R) h
  | osl b s l n => exact aux2 (.osl b s l n) h
  | _ => rfl

theorem get_at_kill (M : List Nat) (t : List V) (h : List Box) (y : Operand) : VSt.get ⟨killT M t, h⟩ y = VSt.get ⟨t, h⟩ y ∨ VSt.get ⟨killT M t, h⟩ y = (VSt.get ⟨t, h⟩ y).kill M := by
  rw [killT_eq]
  cases y with
  | tmp k =>
    right
    show (t.map (V.kill M)).getD k .any = (t.getD k .any).kill M
    rw [List.getD_eq_getElem?_getD, List.getD_eq_getElem?_getD, List.getElem?_map]
    cases t[k]? <;> rfl
  | const v => left; rfl
  | func f => left; rfl
  | global k => left; rfl
theorem get_calm {y : Operand} (hM : ∀ b ∈ M, b ∈ Z) (hc : calmB Z (VSt.get ⟨t, h⟩ y) = true) : VSt.get ⟨killT M t, h⟩ y = VSt.get ⟨t, h⟩ y := by
  rcases get_at_kill M t h y with h1 | h1
  · exact h1
  · rw [h1, calm_kill hM hc]
theorem get_calm_of {y : Operand} (hc : calmB Z (VSt.get ⟨killT M t, h⟩ y) = true) : VSt.get ⟨killT M t, h⟩ y = VSt.get ⟨t, h⟩ y := by
  rcases get_at_kill M t h y with h1 | h1
  · exact h1
  · rw [h1] at hc ⊢; exact calm_of hc
theorem restr_of {y : Operand} (he : restr o (VSt.get ⟨t2, h⟩) = restr o (VSt.get ⟨t, h⟩)) (hy : y ∈ o.op.operands.toList) : VSt.get ⟨t2, h⟩ y = VSt.get ⟨t, h⟩ y := by
  have := congrFun he y
  rwa [restr_at (fun _ => rfl) hy, restr_at (fun _ => rfl) hy] at this
theorem restr_eq (he : ∀ y ∈ o.op.operands.toList, VSt.get ⟨t2, h⟩ y = VSt.get ⟨t, h⟩ y) : restr o (VSt.get ⟨t2, h⟩) = restr o (VSt.get ⟨t, h⟩) := by
  funext y
  cases y with
  | func f => rfl
  | tmp k => simp only [restr]; split <;> first | exact he _ ‹_› | rfl
  | const v => simp only [restr]; split <;> first | exact he _ ‹_› | rfl
  | global k => simp only [restr]; split <;> first | exact he _ ‹_› | rfl
theorem wantV_kill {b : Bool} : wantV ops o (killT M t) = some b ↔ wantV ops o t = some b := by
  rw [killT_eq]
  unfold wantV
  split
  · rfl
  · rename_i j want hg
    split
    · rename_i k hk
      rw [List.getElem?_map]
      cases hv : t[k]? with
      | none => rfl
      | some v =>
        cases v with
        | d x => rfl
        | tup cs =>
          cases cs with
          | nil => rfl
          | cons c cs => rfl
        | agg cs => rfl
        | fn f cs => rfl
        | _ =>
          simp only [Option.map_some, V.kill, V.killC]
          cases V.freeC M _ <;> rfl
    · rfl
theorem killT_put (hc : x.kill M = x) (d : Option Tmp) : killT M (putV t d x) = putV (killT M t) d x := by
  rw [killT_eq, killT_eq]
  cases d with
  | none => rfl
  | some k => show (t.set k x).map _ = (t.map _).set k x; rw [List.map_set, hc]

/-! ### what an operation does -/
inductive Eff3 where
  | no
  | late
  | pin (hx : List Box)
  | mid (hb : List Box)
  | big (hx hx' : List Box) (M : List Nat)
def Eff3.ok (W : List Nat) (h0 hh : List Box) : Eff3 → Prop
  | .no => True
  | .late => PreW W h0 hh
  | .pin hx => hh = hx
  | .mid hb => Pre hb hh
  | .big hx _ _ => hh = hx
def Eff3.run (hh : List Box) : Eff3 → List Box
  | .big _ hx' _ => hx'
  | _ => hh
def Eff3.km : Eff3 → List Nat
  | .big _ _ M => M
  | _ => []
/-- The step, whatever the other slots hold. -/
def SStep (P : Program) (En : Ent) (o : Oper) (t : List V) (hx : List Box) (M : List Nat) (x : V) (hx' : List Box) : Prop :=
  ∀ t2, restr o (VSt.get ⟨t2, []⟩) = restr o (VSt.get ⟨t, []⟩) → ∀ (a : Act) (w : World) (K : Act → World → Prop) (Q : Exit → Act → World → Prop), SimE En ⟨t2, hx⟩ a w →
    (∀ a' w', SimE En ⟨putV (killT M t2) o.dst x, hx'⟩ a' w' → K a' w') → o.wp P a w K Q
def Fact3 (P : Program) (En : Ent) (ops : Array Oper) (W Z : List Nat) (h0 : List Box) (i : Nat) (o : Oper) (t : List V) (x : V) : Eff3 → Prop
  | .no => wantV ops o t = some false ∧ x = .tup []
  | .late => wantV ops o t = some true ∧ (Z = [] ∨ (calmB Z x = true ∧ ∀ y ∈ o.op.operands.toList, calmB Z (VSt.get ⟨t, []⟩ y) = true)) ∧ ∀ h2, PreW W h0 h2 → Gives P [] h2 h2 (restr o (VSt.get ⟨t, []⟩)) o x
  | .pin hx => wantV ops o t = some true ∧ pinI ops i = true ∧ SStep P En o t hx [] x hx
  | .mid hb => wantV ops o t = some true ∧ midI ops i = true ∧ hb.length ≤ h0.length ∧ ∀ h2, Pre hb h2 → Gives P [] h2 h2 (restr o (VSt.get ⟨t, []⟩)) o x
  | .big hx hx' M => wantV ops o t = some true ∧ bigI o = true ∧ (∀ b ∈ M, b ∈ Z) ∧ PreW W h0 hx ∧ PreW W h0 hx' ∧ SStep P En o t hx M x hx' ∧ h0.length ≤ hx.length ∧ (mkI o = true → M = [] ∧ ∃ l, hx' = hx ++ l)
theorem SStep.put {d : Option Tmp} {y : V} (hd : ∀ k, d = some k → k ∉ o.looksAt ops) : SStep P En o (putV t d y) hx M x hx' ↔ SStep P En o t hx M x hx' := by
  unfold SStep
  rw [restr_put hd]
theorem SStep.congr (he : restr o (VSt.get ⟨t2, []⟩) = restr o (VSt.get ⟨t, []⟩)) (hs : SStep P En o t hx M x hx') : SStep P En o t2 hx M x hx' := by
  unfold SStep
  rw [he]
  exact hs
theorem calm_put {d : Option Tmp} {y : V} (hd : ∀ k, d = some k → k ∉ o.looksAt ops) : (∀ q ∈ o.op.operands.toList, calmB Z (VSt.get ⟨putV t d y, []⟩ q) = true) ↔ ∀ q ∈ o.op.operands.toList, calmB Z (VSt.get ⟨t, []⟩ q) = true := by
  have := restr_put (x := y) hd t []
  constructor <;> intro hh q hq <;> have := restr_of this hq
  · rw [← this]; exact hh q hq
  · rw [this]; exact hh q hq
theorem Fact3.put {i : Nat} {d : Option Tmp} {y : V} (hd : ∀ k, d = some k → k ∉ o.looksAt ops) (e : Eff3) : Fact3 P En ops W Z h0 i o (putV t d y) x e ↔ Fact3 P En ops W Z h0 i o t x e := by
  cases e <;> simp only [Fact3, wantV_put hd, restr_put hd, SStep.put hd, calm_put hd]
/-- What is not heavy does not look at what a heavy one turns. -/
theorem Fact3.kill {i : Nat} {e : Eff3} (hM : ∀ b ∈ M, b ∈ Z) (he : e = .no ∨ e = .late) : Fact3 P En ops W Z h0 i o (killT M t) x e ↔ Fact3 P En ops W Z h0 i o t x e := by
  rcases he with rfl | rfl
  · simp only [Fact3, wantV_kill]
  · simp only [Fact3, wantV_kill]
    cases Z with
    | nil =>
      have hM : M = [] := List.eq_nil_iff_forall_not_mem.2 fun b hb => by simpa using hM b hb
      subst hM
      rfl
    | cons z zs =>
      constructor
      · rintro ⟨h1, h2, h3⟩
        rcases h2 with h2 | ⟨h2, h4⟩
        · cases h2
        · have e := fun q hq => get_calm_of (h4 q hq)
          refine ⟨h1, .inr ⟨h2, fun q hq => by rw [← e q hq]; exact h4 q hq⟩, ?_⟩
          rw [restr_eq e] at h3
          exact h3
      · rintro ⟨h1, h2, h3⟩
        rcases h2 with h2 | ⟨h2, h4⟩
        · cases h2
        · have e := fun q hq => get_calm hM (h4 q hq)
          refine ⟨h1, .inr ⟨h2, fun q hq => by rw [e q hq]; exact h4 q hq⟩, ?_⟩
          rw [restr_eq e]
          exact h3
theorem Fact3.calm {i : Nat} {e : Eff3} (hM : ∀ b ∈ M, b ∈ Z) (he : e = .no ∨ e = .late) (hf : Fact3 P En ops W Z h0 i o t x e) : x.kill M = x := by
  rcases he with rfl | rfl
  · rw [hf.2]; rfl
  · rcases hf.2.1 with h | h
    · subst h
      have hM : M = [] := List.eq_nil_iff_forall_not_mem.2 fun b hb => by simpa using hM b hb
      subst hM
      exact V.kill_nil x
    · exact calm_kill hM h.1

def Out3 (P : Program) (En : Ent) (ops : Array Oper) (W Z : List Nat) (h0 : List Box) (i : Nat) (o : Oper) (t : List V) (hh : List Box) (x : V) (t' : List V) (hh' : List Box) : Prop :=
  ∃ e, Fact3 P En ops W Z h0 i o t x e ∧ Eff3.ok W h0 hh e ∧ t' = putV (killT e.km t) o.dst x ∧ hh' = e.run hh

theorem swap_light {i j : Nat} {oi oj : Oper} {xi xj : V} {e1 e2 : Eff3} (hap : oi.apart ops oj = true) (m1 : e1.km = []) (m2 : e2.km = []) (r1 : ∀ hh, e1.run hh = hh) (r2 : ∀ hh, e2.run hh = hh)
    (f1 : Fact3 P En ops W Z h0 i oi t xi e1) (k1 : Eff3.ok W h0 hh e1) (f2 : Fact3 P En ops W Z h0 j oj (putV (killT e1.km t) oi.dst xi) xj e2) (k2 : Eff3.ok W h0 (e1.run hh) e2) :
    ∃ t1 hh1, Out3 P En ops W Z h0 j oj t hh xj t1 hh1 ∧ Out3 P En ops W Z h0 i oi t1 hh1 xi (putV (killT e2.km (putV (killT e1.km t) oi.dst xi)) oj.dst xj) (e2.run (e1.run hh)) := by
  obtain ⟨a1, a2, a3⟩ := Oper.apart_spec hap
  rw [m1] at f2 ⊢
  rw [m2]
  have k : ∀ t : List V, killT [] t = t := fun _ => rfl
  rw [k] at f2
  rw [Fact3.put a1] at f2
  rw [r1] at k2 ⊢
  refine ⟨_, _, ⟨e2, f2, k2, rfl, rfl⟩, ⟨e1, (by rw [m2, k]; exact (Fact3.put a3 e1).2 f1), by rw [r2]; exact k1, ?_, by rw [r1]⟩⟩
  rw [m1, m2, k, k, k]
  exact (putV_comm a2 t xi xj)

theorem swap_big1 {i j : Nat} {oi oj : Oper} {xi xj : V} {e2 : Eff3} (hap : oi.apart ops oj = true) (he : e2 = .no ∨ e2 = .late)
    (f1 : Fact3 P En ops W Z h0 i oi t xi (.big hx hx' M)) (k1 : hh = hx) (f2 : Fact3 P En ops W Z h0 j oj (putV (killT M t) oi.dst xi) xj e2) :
    ∃ t1 hh1, Out3 P En ops W Z h0 j oj t hh xj t1 hh1 ∧ Out3 P En ops W Z h0 i oi t1 hh1 xi (putV (putV (killT M t) oi.dst xi) oj.dst xj) hx' := by
  obtain ⟨a1, a2, a3⟩ := Oper.apart_spec hap
  rw [Fact3.put a1, Fact3.kill f1.2.2.1 he] at f2
  subst k1
  have m2 : e2.km = [] := by rcases he with rfl | rfl <;> rfl
  refine ⟨_, _, ⟨e2, f2, by rcases he with rfl | rfl <;> first | exact f1.2.2.2.1 | exact trivial, rfl, rfl⟩, ⟨.big hh hx' M, (by rw [m2]; exact (Fact3.put a3 _).2 f1), by rcases he with rfl | rfl <;> rfl, ?_, rfl⟩⟩
  rw [m2]
  show _ = putV (killT M (putV t oj.dst xj)) oi.dst xi
  rw [killT_put (Fact3.calm f1.2.2.1 he f2)]
  exact putV_comm a2 _ xi xj

theorem swap_big2 {i j : Nat} {oi oj : Oper} {xi xj : V} {e1 : Eff3} (hap : oi.apart ops oj = true) (he : e1 = .no ∨ e1 = .late)
    (f1 : Fact3 P En ops W Z h0 i oi t xi e1) (f2 : Fact3 P En ops W Z h0 j oj (putV t oi.dst xi) xj (.big hx hx' M)) (k2 : hh = hx) :
    ∃ t1 hh1, Out3 P En ops W Z h0 j oj t hh xj t1 hh1 ∧ Out3 P En ops W Z h0 i oi t1 hh1 xi (putV (killT M (putV t oi.dst xi)) oj.dst xj) hx' := by
  obtain ⟨a1, a2, a3⟩ := Oper.apart_spec hap
  rw [Fact3.put a1] at f2
  subst k2
  have m1 : e1.km = [] := by rcases he with rfl | rfl <;> rfl
  refine ⟨_, _, ⟨.big hh hx' M, f2, rfl, rfl, rfl⟩, ⟨e1, ((Fact3.put a3 e1).2 ((Fact3.kill f2.2.2.1 he).2 f1)), by rcases he with rfl | rfl <;> first | exact f2.2.2.2.2.1 | exact trivial, ?_, by rcases he with rfl | rfl <;> rfl⟩⟩
  rw [m1, killT_put (Fact3.calm f2.2.2.1 he f1)]
  exact putV_comm a2 _ xi xj

theorem pre_left {hb hx l : List Box} (hp : Pre hb (hx ++ l)) (hl : hb.length ≤ hx.length) : Pre hb hx := fun k x hk => by
  rcases hp k x hk with h1 | h1
  · exact .inl h1
  · have hlt := (List.getElem?_eq_some_iff.1 hk).1
    rw [List.getElem?_append, if_pos (by omega)] at h1
    exact .inr h1
theorem pre_right {hb hx l : List Box} (hp : Pre hb hx) : Pre hb (hx ++ l) := fun k x hk => by
  rcases hp k x hk with h1 | h1
  · exact .inl h1
  · have hlt := (List.getElem?_eq_some_iff.1 h1).1
    right
    rw [List.getElem?_append, if_pos (by omega)]
    exact h1
theorem swap_big1m {i j : Nat} {oi oj : Oper} {xi xj : V} {hb : List Box} (hap : oi.apart ops oj = true) (hmk : mkI oi = true)
    (f1 : Fact3 P En ops W Z h0 i oi t xi (.big hx hx' M)) (k1 : hh = hx) (f2 : Fact3 P En ops W Z h0 j oj (putV (killT M t) oi.dst xi) xj (.mid hb)) (k2 : Pre hb hx') :
    ∃ t1 hh1, Out3 P En ops W Z h0 j oj t hh xj t1 hh1 ∧ Out3 P En ops W Z h0 i oi t1 hh1 xi (putV (putV (killT M t) oi.dst xi) oj.dst xj) hx' := by
  obtain ⟨a1, a2, a3⟩ := Oper.apart_spec hap
  obtain ⟨rfl, l, rfl⟩ := f1.2.2.2.2.2.2.2 hmk
  have k : ∀ t : List V, killT [] t = t := fun _ => rfl
  rw [k] at f2 ⊢
  rw [Fact3.put a1] at f2
  subst k1
  refine ⟨_, _, ⟨.mid hb, f2, pre_left k2 (Nat.le_trans f2.2.2.1 f1.2.2.2.2.2.2.1), rfl, rfl⟩, ⟨.big hh _ [], (Fact3.put a3 _).2 f1, rfl, ?_, rfl⟩⟩
  exact putV_comm a2 t xi xj
theorem swap_big2m {i j : Nat} {oi oj : Oper} {xi xj : V} {hb : List Box} (hap : oi.apart ops oj = true) (hmk : mkI oj = true)
    (f1 : Fact3 P En ops W Z h0 i oi t xi (.mid hb)) (k1 : Pre hb hh) (f2 : Fact3 P En ops W Z h0 j oj (putV t oi.dst xi) xj (.big hx hx' M)) (k2 : hh = hx) :
    ∃ t1 hh1, Out3 P En ops W Z h0 j oj t hh xj t1 hh1 ∧ Out3 P En ops W Z h0 i oi t1 hh1 xi (putV (killT M (putV t oi.dst xi)) oj.dst xj) hx' := by
  obtain ⟨a1, a2, a3⟩ := Oper.apart_spec hap
  rw [Fact3.put a1] at f2
  obtain ⟨rfl, l, rfl⟩ := f2.2.2.2.2.2.2.2 hmk
  subst k2
  exact ⟨_, _, ⟨.big hh _ [], f2, rfl, rfl, rfl⟩, ⟨.mid hb, (Fact3.put a3 _).2 f1, pre_right k1, putV_comm a2 t xi xj, rfl⟩⟩
theorem Out3.swap {i j : Nat} {oi oj : Oper} {xi xj : V} {ti tj : List V} {hi' hj' : List Box} (hap : oi.apart ops oj = true) (hbb : bigI oi = true → bigI oj = true → False) (hbp : bigI oi = true → pinI ops j = true → False) (hpb : pinI ops i = true → bigI oj = true → False) (hbm : bigI oi = true → mkI oi = false → midI ops j = true → False) (hmb : midI ops i = true → bigI oj = true → mkI oj = false → False)
    (hi : Out3 P En ops W Z h0 i oi t hh xi ti hi') (hj : Out3 P En ops W Z h0 j oj ti hi' xj tj hj') :
    ∃ t1 hh1, Out3 P En ops W Z h0 j oj t hh xj t1 hh1 ∧ Out3 P En ops W Z h0 i oi t1 hh1 xi tj hj' := by
  obtain ⟨e1, f1, k1, rfl, rfl⟩ := hi
  obtain ⟨e2, f2, k2, rfl, rfl⟩ := hj
  cases e1 with
  | big hx hx' M => cases e2 with
    | big => exact (hbb f1.2.1 f2.2.1).elim
    | pin => exact (hbp f1.2.1 f2.2.1).elim
    | mid hb => cases hm : mkI oi with
      | true => exact swap_big1m hap hm f1 k1 f2 k2
      | false => exact (hbm f1.2.1 hm f2.2.1).elim
    | no => exact swap_big1 hap (.inl rfl) f1 k1 f2
    | late => exact swap_big1 hap (.inr rfl) f1 k1 f2
  | no => cases e2 with
    | big => exact swap_big2 hap (.inl rfl) f1 f2 k2
    | _ => exact swap_light hap rfl rfl (fun _ => rfl) (fun _ => rfl) f1 k1 f2 k2
  | late => cases e2 with
    | big => exact swap_big2 hap (.inr rfl) f1 f2 k2
    | _ => exact swap_light hap rfl rfl (fun _ => rfl) (fun _ => rfl) f1 k1 f2 k2
  | pin => cases e2 with
    | big => exact (hpb f1.2.1 f2.2.1).elim
    | _ => exact swap_light hap rfl rfl (fun _ => rfl) (fun _ => rfl) f1 k1 f2 k2
  | mid hb => cases e2 with
    | big => cases hm : mkI oj with
      | true => exact swap_big2m hap hm f1 k1 f2 k2
      | false => exact (hmb f1.2.1 f2.2.1 hm).elim
    | _ => exact swap_light hap rfl rfl (fun _ => rfl) (fun _ => rfl) f1 k1 f2 k2

theorem Out3.wp {i : Nat} {t' : List V} {hh' : List Box} {a : Act} {w : World} (ho : Out3 P En ops W Z h0 i o t hh x t' hh') (hs : SimE En ⟨t, hh⟩ a w) {K : Act → World → Prop} {Q : Exit → Act → World → Prop}
    (hK : ∀ a' w', SimE En ⟨t', hh'⟩ a' w' → K a' w') : if Region.wanted o (yielded ops a.tmps) then o.wp P a w K Q else K (a.put o.dst undef) w := by
  obtain ⟨e, hf, hok, rfl, rfl⟩ := ho
  cases e with
  | no =>
    obtain ⟨hw, rfl⟩ := hf
    rw [if_neg (by rw [wantV_sim hs hw]; simp)]
    refine hK _ _ ?_
    obtain ⟨g, hs⟩ := hs
    have := hs.next (.refl hs.heap) (by simp [okM]) (.tup (w := w) (g := g) #[] [] rfl (by simp)) o.dst
    rw [next_kill] at this
    exact ⟨g, this⟩
  | late =>
    rw [if_pos (wantV_sim hs hf.1)]
    have hg := hf.2.2 hh hok
    rw [get_h t [] hh] at hg
    refine Gives.sim (s := ⟨t, hh⟩) hg.of_restr hs (by simp [okM]) fun a' w' hs' => hK a' w' ?_
    rwa [next_kill] at hs'
  | pin hx =>
    have hok : hh = hx := hok
    subst hok
    rw [if_pos (wantV_sim hs hf.1)]
    exact hf.2.2 t rfl a w K Q hs hK
  | mid hb =>
    rw [if_pos (wantV_sim hs hf.1)]
    have hg := hf.2.2.2 hh hok
    rw [get_h t [] hh] at hg
    refine Gives.sim (s := ⟨t, hh⟩) hg.of_restr hs (by simp [okM]) fun a' w' hs' => hK a' w' ?_
    rwa [next_kill] at hs'
  | big hx hx' M =>
    have hok : hh = hx := hok
    subst hok
    rw [if_pos (wantV_sim hs hf.1)]
    exact hf.2.2.2.2.2.1 t rfl a w K Q hs hK

theorem big_spec (h : bigOK ops = true) {i j : Nat} {oi oj : Oper} (hi : ops[i]? = some oi) (hj : ops[j]? = some oj) (hij : i < j) (s1 : bigI oi = true) (s2 : bigI oj = true) : edgeR ops 5 oj i = true := by
  have := List.all_eq_true.1 h j (List.mem_range.2 (Array.getElem?_eq_some_iff.1 hj).1)
  rw [hj] at this
  simp only [s2, Bool.not_true, Bool.false_or] at this
  have := List.all_eq_true.1 this i (List.mem_range.2 hij)
  rw [hi] at this
  simpa [s1] using this
theorem pin_spec {i j : Nat} {oi oj : Oper} (h : pinI ops i = true) (hi : ops[i]? = some oi) (hj : ops[j]? = some oj) (s2 : bigI oj = true) : edgeR ops 5 oj i = true ∨ edgeR ops 5 oi j = true := by
  have := List.all_eq_true.1 h j (List.mem_range.2 (Array.getElem?_eq_some_iff.1 hj).1)
  rw [hj, hi] at this
  simpa [s2] using this

theorem mid_spec {i j : Nat} {oi oj : Oper} (h : midI ops i = true) (hi : ops[i]? = some oi) (hj : ops[j]? = some oj) (s2 : bigI oj = true) (s3 : mkI oj = false) : edgeR ops 5 oj i = true ∨ edgeR ops 5 oi j = true := by
  have := List.all_eq_true.1 h j (List.mem_range.2 (Array.getElem?_eq_some_iff.1 hj).1)
  rw [hj, hi] at this
  simpa [s2, s3] using this
/-- Every order. -/
def vAny3 (P : Program) (En : Ent) (ops : Array Oper) (W Z : List Nat) (h0 : List Box) (K : List V → List Box → Prop) : Nat → Array Bool → List V → List Box → Prop
  | 0, listed, t, hh => Region.ready .any ops listed = [] ∧ K t hh
  | fuel + 1, listed, t, hh => Region.ready .any ops listed ≠ [] ∧ ∀ i ∈ Region.ready .any ops listed, ∃ o x t' hh', ops[i]? = some o ∧ Out3 P En ops W Z h0 i o t hh x t' hh' ∧ vAny3 P En ops W Z h0 K fuel (listed.setIfInBounds i true) t' hh'

theorem vAny3_first {K : List V → List Box → Prop} (hst : bigOK ops = true) {i : Nat} {oi : Oper} {xi : V} (hi : ops[i]? = some oi) :
    ∀ (fuel : Nat) (listed : Array Bool) (t ti : List V) (hh hhi : List Box), ClosedL ops listed →
      (∀ j oj, ops[j]? = some oj → j ≠ i → listed.getD j true = false → (∀ e ∈ oj.after, Region.binds .any e = true → e.on ≠ i) → oi.apart ops oj = true) →
      i ∈ Region.ready .any ops listed → Out3 P En ops W Z h0 i oi t hh xi ti hhi →
      vAny3 P En ops W Z h0 K fuel (listed.setIfInBounds i true) ti hhi → vAny3 P En ops W Z h0 K (fuel + 1) listed t hh := by
  intro fuel
  induction fuel with
  | zero =>
    intro listed t ti hh hhi _ _ hr ho H
    refine ⟨fun h => (by rw [h] at hr; cases hr), fun j hj => ?_⟩
    by_cases hji : j = i
    · subst hji; exact ⟨oi, xi, ti, hhi, hi, ho, H⟩
    · have := ready_mono hj hji
      rw [H.1] at this; cases this
  | succ fuel ih =>
    intro listed t ti hh hhi hcl hfree hr ho H
    refine ⟨fun h => (by rw [h] at hr; cases hr), fun j hj => ?_⟩
    by_cases hji : j = i
    · subst hji; exact ⟨oi, xi, ti, hhi, hi, ho, H⟩
    · obtain ⟨oj, xj, tj, hbj, hoj, hout, hrest⟩ := H.2 j (ready_mono hj hji)
      obtain ⟨hjun, oj', hoj', hall⟩ := mem_ready.1 hj
      rw [hoj] at hoj'; cases hoj'
      obtain ⟨hiun, oi', hoi', halli⟩ := mem_ready.1 hr
      rw [hi] at hoi'; cases hoi'
      have hnot : ∀ e ∈ oj.after, Region.binds .any e = true → e.on ≠ i := fun e he hb heq => by
        have h1 := hall e he hb
        rw [heq, not_listed hr] at h1
        cases h1
      have hnoti : ∀ e ∈ oi.after, Region.binds .any e = true → e.on ≠ j := fun e he hb heq => by
        have h1 := halli e he hb
        rw [heq, not_listed hj] at h1
        cases h1
      have no1 : edgeR ops 5 oj i = true → False := fun h => by
        have := edgeR_listed hcl 5 hall h
        rw [not_listed hr] at this; cases this
      have no2 : edgeR ops 5 oi j = true → False := fun h => by
        have := edgeR_listed hcl 5 halli h
        rw [not_listed hj] at this; cases this
      obtain ⟨t1, hb1, o1, o2⟩ := Out3.swap (hfree j oj hoj hji hjun hnot)
        (fun s1 s2 => by
          rcases Nat.lt_or_gt_of_ne hji with hlt | hgt
          · exact no2 (big_spec hst hoj hi hlt s2 s1)
          · exact no1 (big_spec hst hi hoj hgt s1 s2))
        (fun s1 he => (pin_spec he hoj hi s1).elim no2 no1) (fun he s2 => (pin_spec he hi hoj s2).elim no1 no2)
        (fun s1 s3 he => (mid_spec he hoj hi s1 s3).elim no2 no1) (fun he s2 s3 => (mid_spec he hi hoj s2 s3).elim no1 no2) ho hout
      refine ⟨oj, xj, t1, hb1, hoj, o1, ih (listed.setIfInBounds j true) _ tj hb1 hbj (hcl.step hj) (fun k ok hk hki hun hno => ?_) (ready_mono hr (Ne.symm hji)) o2 ?_⟩
      · refine hfree k ok hk hki ?_ hno
        by_cases hjk : j = k
        · subst hjk; exact hjun
        · rw [getD_set_ne true hjk] at hun; exact hun
      · rw [Array.setIfInBounds_comm _ _ hji]
        exact hrest

/-- In the text's order. -/
def vLex3 (P : Program) (En : Ent) (ops : Array Oper) (W Z : List Nat) (h0 : List Box) (K : List V → List Box → Prop) : Nat → List Oper → List V → List Box → Prop
  | _, [], t, hh => K t hh
  | k, o :: os, t, hh => ∃ x t' hh', Out3 P En ops W Z h0 k o t hh x t' hh' ∧ vLex3 P En ops W Z h0 K (k + 1) os t' hh'
theorem vAny3_lex {K : List V → List Box → Prop} (hst : bigOK ops = true) : ∀ (l : List Oper) (k : Nat) (listed : Array Bool) (t : List V) (hh : List Box), ClosedL ops listed → (∀ j, l[j]? = ops[k + j]?) →
    lexOK2 ops l.length k listed = true → vLex3 P En ops W Z h0 K k l t hh → vAny3 P En ops W Z h0 K l.length listed t hh
  | [], _, _, _, _, _, _, hB, h => ⟨by simpa [lexOK2] using hB, h⟩
  | o :: l, k, listed, t, hh, hcl, hl, hB, ⟨x, t', hh', ho, h⟩ => by
    have h0 : ops[k]? = some o := by simpa using (hl 0).symm
    simp only [List.length_cons, lexOK2, Bool.and_eq_true] at hB
    obtain ⟨⟨hr, hf⟩, hB'⟩ := hB
    exact vAny3_first hst h0 l.length listed t t' hh hh' hcl (Region.free_spec h0 hf) (by simpa using hr) ho
      (vAny3_lex hst l (k + 1) _ _ _ (hcl.step (by simpa using hr)) (fun j => by have := hl (j + 1); simpa [Nat.add_assoc, Nat.add_comm 1 j] using this) hB' h)

theorem vAny3_sound {ro : Option Nat} {K : List V → List Box → Prop} {Q : Exit → Act → World → Prop} (hnd : ∀ (i : Nat) o, ops[i]? = some o → noDef o = true) (hK : ∀ t hh a w, K t hh → SimE En ⟨t, hh⟩ a w → Q .normal a w) :
    ∀ (fuel : Nat) (listed : Array Bool) (t : List V) (hh : List Box) (a : Act) (w : World), vAny3 P En ops W Z h0 K fuel listed t hh → SimE En ⟨t, hh⟩ a w → wpAnyIn (Fw ro) 0 P .any ops Q fuel listed a w
  | 0, listed, t, hh, a, w, ⟨hno, hk⟩, hs => ⟨hno, hK t hh a w hk hs⟩
  | fuel + 1, listed, t, hh, a, w, ⟨hne, hall⟩, hs => by
    refine ⟨fun h => (hne h).elim, fun i hi => ?_⟩
    obtain ⟨o, x, t', hh', ho, hout, hrest⟩ := hall i hi
    unfold wpOpIn
    simp only [ho]
    have h1 := hout.wp (Q := Q) hs (K := wpAnyIn (Fw ro) 0 P .any ops Q fuel (listed.setIfInBounds i true)) fun a' w' hs' =>
      vAny3_sound hnd hK fuel _ _ _ a' w' hrest hs'
    split
    · rename_i hw; rw [if_pos hw] at h1; exact wpIn_of_wp (hnd i o ho) h1
    · rename_i hw; rw [if_neg hw] at h1; exact ⟨fun _ _ => trivial, h1⟩

theorem SStep.of_gives (hM : okM En.g.n En.M M = true) (hg : Gives P M hx hx' (restr o (VSt.get ⟨t, []⟩)) o x) : SStep P En o t hx M x hx' := by
  intro t2 he a w K Q hs hK
  rw [← he, get_h t2 [] hx] at hg
  refine Gives.sim (s := ⟨t2, hx⟩) hg.of_restr hs hM fun a' w' hs' => hK a' w' ?_
  rwa [next_kill] at hs'

/-- What a ghost step makes of a slot. -/
def frzF : List Box → List Nat → V → V
  | _, [], v => v
  | h, b :: bs, v => match h[b]? with
    | some (.arr _ sz rows) => frzF ((h.map (Box.frz b (.sl sz rows))).set b .gone) bs (V.frz b (.sl sz rows) v)
    | some (.cells (.ty _) vs) => match allDs vs with
      | some cs => frzF ((h.map (Box.frp b cs)).set b .gone) bs (V.frp b cs v)
      | none => frzF h bs v
    | _ => frzF h bs v
theorem frz_t : ∀ {bs : List Nat} {h : List Box} {t : List V}, (VSt.frz ⟨t, h⟩ bs).t = t.map (frzF h bs)
  | [], h, t => by show t = _; rw [show frzF h [] = id from rfl]; simp
  | b :: bs, h, t => by
    have e : frzF h (b :: bs) = fun v => match h[b]? with
      | some (.arr _ sz rows) => frzF ((h.map (Box.frz b (.sl sz rows))).set b .gone) bs (V.frz b (.sl sz rows) v)
      | some (.cells (.ty _) vs) => match allDs vs with
        | some cs => frzF ((h.map (Box.frp b cs)).set b .gone) bs (V.frp b cs v)
        | none => frzF h bs v
      | _ => frzF h bs v := rfl
    rw [e]
    unfold VSt.frz
    simp only
    cases hb : h[b]? with
    | none => simp only [frz_t]
    | some bx => cases bx with
      | arr e sz rows => simp only [frz_t, List.map_map]; rfl
      | cells t vs => cases t with
        | ty t => cases hc : allDs vs with
          | none => simp only [hc, frz_t]
          | some cs => simp only [hc, frz_t, List.map_map]; rfl
        | _ => simp only [frz_t]
      | _ => simp only [frz_t]
theorem frzF_any : ∀ {bs : List Nat} {h : List Box}, frzF h bs .any = .any
  | [], h => rfl
  | b :: bs, h => by
    unfold frzF
    split
    · exact frzF_any
    · split <;> exact frzF_any
    · exact frzF_any
theorem frz_get {bs : List Nat} {y : Operand} (he : VSt.get ⟨t2, h⟩ y = VSt.get ⟨t, h⟩ y) : (VSt.frz ⟨t2, h⟩ bs).get y = (VSt.frz ⟨t, h⟩ bs).get y := by
  cases y with
  | tmp k =>
    have he : t2.getD k .any = t.getD k .any := he
    show (VSt.frz ⟨t2, h⟩ bs).t.getD k .any = (VSt.frz ⟨t, h⟩ bs).t.getD k .any
    rw [frz_t, frz_t]
    have aux : ∀ t : List V, (t.map (frzF h bs)).getD k .any = frzF h bs (t.getD k .any) := fun t => by
      rw [List.getD_eq_getElem?_getD, List.getD_eq_getElem?_getD, List.getElem?_map]
      cases t[k]? with
      | none => exact frzF_any.symm
      | some v => rfl
    rw [aux, aux, he]
  | const v => rfl
  | func f => rfl
  | global k => rfl
end

section
variable (A : Sy) (P : Program) (C : CfgO)
/-- A call that reads boxes and leaves them as they are. -/
def borrowT (hh : List Box) (t : List V) (o : Oper) : Tree V := match callOf P (VSt.frz ⟨t, hh⟩ (fzl ⟨t, hh⟩ o)).get o with
  | some (f, vs0) => match C.inl.contains f, sigP P f with
    | false, some ts => match canL P (parP P f) vs0 with
      | vs => match vs.all V.pureB, shR P ts with
        | true, some ss => match ss.all Sh.flat with
          | true => callT A P f vs ts
          | false => .fail
        | _, _ => .fail
    | _, _ => .fail
  | none => .fail
def pinXT0 (hh : List Box) (t : List V) (o : Oper) : Tree V := match callOf P (VSt.get ⟨t, hh⟩) o with
  | some (f, vs0) => match (canL P (parP P f) vs0).all V.pureB with
    | true => opXT A P C hh (VSt.get ⟨t, hh⟩) o
    | false => borrowT A P C hh t o
  | none => opXT A P C hh (VSt.get ⟨t, hh⟩) o
def pinXT (hh : List Box) (t : List V) (o : Oper) : Tree V := match o.op, o.dst with
  | .slice st y lo hi none, some d => match C.osl.contains d with
    | true => oslT A P hh st (VSt.get ⟨t, hh⟩ y) (lo.map (VSt.get ⟨t, hh⟩)) (hi.map (VSt.get ⟨t, hh⟩))
    | false => pinXT0 A P C hh t o
  | _, _ => pinXT0 A P C hh t o

def Box.fitK (c : Nat) : Box → Bool
  | .cells _ vs => vs.all fun v => v.freeB [c]
  | _ => true
def V.isAt (b : Nat) : V → Prop
  | .ptr c _ => c = b
  | .pml c _ _ _ => c = b
  | _ => False
def bigW (W : List Nat) (n0 : Nat) (hh : List Box) (o : Oper) (ρ : Operand → V) : Bool := match o.op with
  | .store _ y _ => match ρ y with
    | .ptr b _ => W.contains b || decide (n0 ≤ b)
    | .pml b _ _ _ => W.contains b || decide (n0 ≤ b)
    | _ => false
  | .alloc _ => true
  | .buildSlice .. => true
  | .call c => match c with
    | ⟨.builtin .append, ⟨[y, _]⟩, ⟨[t, t']⟩⟩ => decide (t' = t) && match ρ y with
      | .own c => (W.contains c || decide (n0 ≤ c)) && hh.zipIdx.all fun xk => W.contains xk.2 || decide (n0 ≤ xk.2) || xk.1.fitK c
      | .nils => true
      | _ => false
    | ⟨.builtin .copy, ⟨[y, _]⟩, ⟨[_, _]⟩⟩ => match ρ y with
      | .own b => W.contains b || decide (n0 ≤ b)
      | .osl b _ _ _ => W.contains b || decide (n0 ≤ b)
      | _ => false
    | _ => false
  | _ => false
end

section
variable {P : Program} {h h' h2 h0 hh hx hx' : List Box} {ρ ρ2 : Operand → V} {o : Oper} {x : V} {ops : Array Oper} {W Z M : List Nat} {t t2 : List V} {En : Ent} {E : Env} {C : CfgO}
theorem borrowT_sound (hE : E.Ok) (hG : EnvGood P E) (hk : (borrowT sy P C hh t o).run E = some x) : SStep P En o t hh [] x hh := by
  intro t2 he a w K Q hs hK
  unfold borrowT at hk
  generalize hL : fzl ⟨t, hh⟩ o = L at hk
  have hs1 : SimE En (VSt.frz ⟨t2, hh⟩ L) a w := hs.frzs
  rw [get_h t2 [] hh, get_h t [] hh] at he
  have hco : callOf P (VSt.frz ⟨t2, hh⟩ L).get o = callOf P (VSt.frz ⟨t, hh⟩ L).get o := callOf_congr fun y hy => frz_get (restr_of he hy)
  rw [← hco] at hk
  split at hk
  · rename_i f vs hc1
    split at hk
    · rename_i ts _ hsig
      simp only at hk
      generalize hcan : canL P (parP P f) vs = vc at hk
      split at hk
      · rename_i ss hp hss
        split at hk
        · rename_i hfl
          obtain ⟨y, args, tys, caps, hop, hy, rfl⟩ := callOf_some hc1 (fun f => rfl)
          have hg := sigP_some hsig
          obtain ⟨q1, q2, q3⟩ := callT_sound hE hG hp hsig hk
          refine call_borrow hs hs1 hop hy (by rw [hcan]; exact hp) hg (by rw [hcan]; exact q1) (q3 ss hss hfl) fun a' w' hs' => hK a' w' ?_
          rwa [next_kill] at hs'
        · cases hk
      · cases hk
    · cases hk
  · cases hk
theorem pinXT0_sound (hE : E.Ok) (hG : EnvGood P E) (hk : (pinXT0 sy P C hh t o).run E = some x) : SStep P En o t hh [] x hh := by
  have aux : (opXT sy P C hh (VSt.get ⟨t, hh⟩) o).run E = some x → SStep P En o t hh [] x hh := fun h => by
    have := opXT_sound hE hG (fun f => rfl) h hh (Pre.refl hh)
    rw [get_h t hh []] at this
    exact SStep.of_gives (by simp [okM]) this
  unfold pinXT0 at hk
  split at hk
  · split at hk
    · exact aux hk
    · exact borrowT_sound hE hG hk
  · exact aux hk

theorem pinXT_sound (hE : E.Ok) (hG : EnvGood P E) (hk : (pinXT sy P C hh t o).run E = some x) : SStep P En o t hh [] x hh := by
  unfold pinXT at hk
  split at hk
  · rename_i st y lo hi d hop hd
    split at hk
    · have e : ∀ q, q ∈ o.op.operands.toList → VSt.get ⟨t, hh⟩ q = restr o (VSt.get ⟨t, hh⟩) q := fun q hq => (restr_at (fun f => rfl) hq).symm
      have e1 : lo.map (VSt.get ⟨t, hh⟩) = lo.map (restr o (VSt.get ⟨t, hh⟩)) := by cases lo with
        | none => rfl
        | some q => simp [e q (by simp [hop, Op.operands])]
      have e2 : hi.map (VSt.get ⟨t, hh⟩) = hi.map (restr o (VSt.get ⟨t, hh⟩)) := by cases hi with
        | none => rfl
        | some q => simp [e q (by simp [hop, Op.operands])]
      rw [e y (by simp [hop, Op.operands]), e1, e2] at hk
      have := oslT_sound (E := E) hop hk
      rw [get_h t hh []] at this
      exact SStep.of_gives (by simp [okM]) this
    · exact pinXT0_sound hE hG hk
  · exact pinXT0_sound hE hG hk

theorem storeT_set {t : TypeId} {a v : V} {r : List Box} (hk : (storeT sy P h t a v).run E = some r) : ∃ b c, V.isAt b a ∧ r = h.set b c := by
  unfold storeT at hk
  split at hk
  · split at hk
    · split at hk
      · split at hk
        · cases hk; exact ⟨_, _, rfl, rfl⟩
        · cases hk
      · cases hk
    · split at hk
      · split at hk
        · split at hk
          · obtain ⟨hi, hk⟩ := chk_some hk; cases hk; exact ⟨_, _, rfl, rfl⟩
          · cases hk
        · cases hk
      · cases hk
    · cases hk
  · cases hk
theorem preW_app2 (hp : PreW W h0 hh) (l : List Box) : PreW W h0 (hh ++ l) := fun k x hk hx => by
  have := hp k x hk hx
  rw [List.getElem?_append, if_pos (List.getElem?_eq_some_iff.1 this).1]; exact this
theorem preW_set2 {b : Nat} (hb : (W.contains b || decide (h0.length ≤ b)) = true) (hp : PreW W h0 hh) (c : Box) : PreW W h0 (hh.set b c) := fun k x hk hx => by
  have hlt := (List.getElem?_eq_some_iff.1 hx).1
  have hne : b ≠ k := fun e => by
    subst e
    simp only [Bool.or_eq_true, List.contains_eq_mem, decide_eq_true_eq] at hb
    rcases hb with h1 | h1
    · exact hk h1
    · omega
  rw [List.getElem?_set, if_neg hne]; exact hp k x hk hx
theorem fitK_kill {c : Nat} {b : Box} (h : b.fitK c = true) : b.kill [c] = b := by
  cases b with
  | cells t vs =>
    show Box.cells t (vs.map _) = _
    have : vs.map (V.kill [c]) = vs.map id := List.map_congr_left fun v hv => by
      have hf := List.all_eq_true.1 h v hv
      have aux : ∀ cs : List V, cs.all (V.freeC [c]) = true → cs.map (V.killC [c]) = cs := fun cs hc => by
        have : cs.map (V.killC [c]) = cs.map id := List.map_congr_left fun u hu => by
          have := List.all_eq_true.1 hc u hu
          simp [V.killC, this]
        simpa using this
      cases v with
      | agg cs => exact congrArg V.agg (aux cs hf)
      | tup cs => exact congrArg V.tup (aux cs hf)
      | fn f cs => exact congrArg (V.fn f) (aux cs hf)
      | any => rfl
      | nils => rfl
      | d x => rfl
      | pel cs => rfl
      | nilp => rfl
      | nilf => rfl
      | ifn b => rfl
      | own b => exact congrArg (fun q => bif q then V.own b else .any) hf
      | map b => exact congrArg (fun q => bif q then V.map b else .any) hf
      | ptr b off => exact congrArg (fun q => bif q then V.ptr b off else .any) hf
      | pml b sz i off => exact congrArg (fun q => bif q then V.pml b sz i off else .any) hf
      | yld b R => exact congrArg (fun q => bif q then V.yld b R else .any) hf
      | osl b s l n => exact congrArg (fun q => bif q then V.osl b s l n else .any) hf
    rw [this]; simp
  | _ => rfl
end

section
variable (A : Sy) (P : Program) (C : CfgO)
def bigT (h : List Box) (ρ : Operand → V) (o : Oper) : Tree (List Nat × List Box × V) := match o.op with
  | .alloc t => match zeroO P t with
    | some z => match (ofConst z).cellsV with
      | some vs => .ret ([], h ++ [.cells (.ty t) vs], .ptr h.length 0)
      | none => .fail
    | none => .fail
  | .store t y z => (storeT A P h t (ρ y) (ρ z)).bind fun h' => .ret ([], h', .any)
  | .buildSlice t n parts => match litV P t n (parts.toList.map fun q => (q.1, ρ q.2)), (parts.toList.all fun q => (ρ q.2).liveC h) with
    | some (e, sz, vs), true => match shOf P 9 e with
      | some ss => match rowsOf ss sz n vs, decide (n ≤ 16777216) with
        | some rows, true => .ret ([], h ++ [.arr e sz rows], .own h.length)
        | _, _ => .fail
      | none => .fail
    | _, _ => .fail
  | .call c => match c with
    | ⟨.builtin .append, ⟨[y, z]⟩, ⟨[t, t']⟩⟩ => match decide (t' = t) with
      | true => appendT A P h t (ρ y) (ρ z)
      | false => .fail
    | ⟨.builtin .copy, ⟨[y, z]⟩, ⟨[t, _]⟩⟩ => (copyT A P h t (ρ y) (ρ z)).bind fun r => .ret ([], r.1, r.2)
    | _ => .fail
  | _ => .fail
end

section
variable {P : Program} {h h' h2 h0 hh hx hx' : List Box} {ρ ρ2 : Operand → V} {o : Oper} {x : V} {ops : Array Oper} {W Z M : List Nat} {t t2 : List V} {En : Ent} {E : Env} {C : CfgO} {r : List Nat × List Box × V}
theorem copyT_set {t : TypeId} {v w : V} {r : List Box × V} (hk : (copyT sy P h t v w).run E = some r) : ∃ b c, ((v = .own b) ∨ ∃ sz lo n, v = .osl b sz lo n) ∧ r.1 = h.set b c := by
  unfold copyT at hk
  split at hk
  · rename_i e b lo n news hel hd hz
    split at hk
    · obtain ⟨hf, hk⟩ := chk_some hk
      cases hk
      refine ⟨b, _, ?_, rfl⟩
      unfold dstT at hd
      split at hd
      · split at hd
        · cases hd; exact .inl rfl
        · cases hd
      · cases hd; exact .inr ⟨_, _, _, rfl⟩
      · cases hd
    · cases hk
  · cases hk
theorem bigT_sound (hE : E.Ok) (he : ∀ y, y ∈ o.op.operands.toList → ρ y = ρ2 y) (hk : (bigT sy P h ρ o).run E = some r) : Gives P r.1 h r.2.1 ρ2 o r.2.2 := by
  unfold bigT at hk
  split at hk
  · rename_i t hop
    split at hk
    · rename_i z hz
      split at hk
      · rename_i vs hv; cases hk; exact gives_alloc hop hz hv
      · cases hk
    · cases hk
  · rename_i t y z hop
    rw [he y (by simp [hop, Op.operands]), he z (by simp [hop, Op.operands])] at hk
    obtain ⟨h1, q1, hk⟩ := run_bind_some hE hk
    cases hk
    exact storeT_sound hop q1
  · rename_i t n parts hop
    have e1 : (parts.toList.map fun q => (q.1, ρ q.2)) = parts.toList.map fun q => (q.1, ρ2 q.2) := List.map_congr_left fun q hq => by
      rw [he q.2 (by simp only [hop, Op.operands]; exact List.mem_map.2 ⟨q, hq, rfl⟩)]
    have e2 : (parts.toList.all fun q => (ρ q.2).liveC h) = parts.toList.all fun q => (ρ2 q.2).liveC h := by
      rw [Bool.eq_iff_iff, List.all_eq_true, List.all_eq_true]
      refine ⟨fun hh q hq => ?_, fun hh q hq => ?_⟩
      · rw [← he q.2 (by simp only [hop, Op.operands]; exact List.mem_map.2 ⟨q, hq, rfl⟩)]; exact hh q hq
      · rw [he q.2 (by simp only [hop, Op.operands]; exact List.mem_map.2 ⟨q, hq, rfl⟩)]; exact hh q hq
    rw [e1, e2] at hk
    split at hk
    · rename_i e sz vs hlit hl
      split at hk
      · rename_i ss hss
        split at hk
        · rename_i rows hr hn
          cases hk
          exact gives_buildSlice hop hlit hl hr (by have := of_decide_eq_true hn; simp only [maxLen]; omega)
        · cases hk
      · cases hk
    · cases hk
  · rename_i c hop
    split at hk
    · rename_i y z t t'
      rw [he y (by simp [hop, Op.operands, Call.operands]), he z (by simp [hop, Op.operands, Call.operands])] at hk
      split at hk
      · rename_i ht
        have ht := of_decide_eq_true ht
        subst ht
        exact appendT_sound hop rfl hk
      · cases hk
    · rename_i y z t t'
      rw [he y (by simp [hop, Op.operands, Call.operands]), he z (by simp [hop, Op.operands, Call.operands])] at hk
      obtain ⟨q, q1, hk⟩ := run_bind_some hE hk
      cases hk
      exact copyT_sound hop q1
    · cases hk
  · cases hk
theorem bigT_pre (hE : E.Ok) (hk : (bigT sy P hh ρ o).run E = some r) (hw : bigW W h0.length hh o ρ = true) (hp : PreW W h0 hh) : PreW W h0 r.2.1 := by
  unfold bigT at hk
  split at hk
  · split at hk
    · split at hk
      · cases hk; exact preW_app2 hp _
      · cases hk
    · cases hk
  · rename_i t y z hop
    obtain ⟨h1, q1, hk⟩ := run_bind_some hE hk
    cases hk
    obtain ⟨b, c, hb, rfl⟩ := storeT_set q1
    unfold bigW at hw
    rw [hop] at hw
    simp only at hw
    split at hw
    · rename_i b' off hy
      rw [hy] at hb
      have hb : b' = b := hb
      subst hb
      exact preW_set2 hw hp c
    · rename_i b' sz i off hy
      rw [hy] at hb
      have hb : b' = b := hb
      subst hb
      exact preW_set2 hw hp c
    · cases hw
  · split at hk
    · split at hk
      · split at hk
        · cases hk; exact preW_app2 hp _
        · cases hk
      · cases hk
    · cases hk
  · rename_i c hop
    split at hk
    · rename_i y z t t'
      unfold bigW at hw
      rw [hop] at hw
      simp only [Bool.and_eq_true] at hw
      obtain ⟨ht, hw⟩ := hw
      rw [ht] at hk
      simp only at hk
      unfold appendT at hk
      split at hk
      · split at hk
        · split at hk
          · rename_i c hy
            rw [hy] at hw
            simp only [Bool.and_eq_true] at hw
            split at hk
            · split at hk
              · obtain ⟨hf, hk⟩ := chk_some hk
                cases hk
                show PreW W h0 ((hh.map (Box.kill [c])).set c _)
                refine preW_set2 hw.1 (fun k x hk hx => ?_) _
                have h1 := hp k x hk hx
                have hlt := (List.getElem?_eq_some_iff.1 hx).1
                have h2 := List.all_eq_true.1 hw.2 (x, k) (by
                  rw [List.mem_zipIdx_iff_getElem?]; exact h1)
                simp only [Bool.or_eq_true, List.contains_eq_mem, decide_eq_true_eq] at h2
                have hf : x.fitK c = true := by
                  rcases h2 with (h2 | h2) | h2
                  · exact absurd h2 hk
                  · omega
                  · exact h2
                rw [List.getElem?_map, h1, Option.map_some, fitK_kill hf]
              · cases hk
            · cases hk
          · obtain ⟨hf, hk⟩ := chk_some hk
            cases hk
            exact preW_app2 hp _
          · cases hk
        · cases hk
      · cases hk
    · rename_i y z t t'
      obtain ⟨q, q1, hk⟩ := run_bind_some hE hk
      cases hk
      obtain ⟨b, c, hb, hq⟩ := copyT_set q1
      unfold bigW at hw
      rw [hop] at hw
      simp only at hw
      show PreW W h0 q.1
      rw [hq]
      rcases hb with hb | ⟨_, _, _, hb⟩
      · rw [hb] at hw; exact preW_set2 hw hp c
      · rw [hb] at hw; exact preW_set2 hw hp c
    · cases hk
  · cases hk
end

section
variable (A : Sy) (P : Program) (C : CfgO)
/-- Is it a call of a function value? -/
def isCallT (o : Oper) : Bool := match o.op with
  | .call ⟨.value (.tmp _), _, _⟩ => true
  | _ => false
/-- Such a call, of a function that is gone through in place: only the boxes that it is led to may turn. -/
def callBT (ent : Callee → List V → List Box → Tree (List Nat × V × List Box)) (W : List Nat) (n1 : Nat) (t : List V) (hh : List Box) (o : Oper) : Tree (List Box × V) := match callOf P (VSt.get ⟨t, hh⟩) o with
  | some (f, vs) => match C.inl.contains f, sigP P f with
    | true, some _ => forceSp (reachV hh [] vs) fun L => match reachOK hh L vs && L.all (fun b => W.contains b || decide (n1 ≤ b)) with
      | true => (ent (.fn f) (vs.map (V.ren (tau L))) (smallH hh L)).bind fun r => match r.1 with
        | [] => .ret (amongH hh L [] r.2.2, r.2.1.ren (ext L hh.length))
        | _ => .fail
      | false => .fail
    | _, _ => (pinXT A P C hh t o).bind fun x => .ret (hh, x)
  | none => .fail
/-- The boxes that such a call is led to. -/
def callBox (ops : Array Oper) (s : VSt) (o : Oper) : List Nat := match o.op with
  | .call ⟨.value (.tmp y), args, _⟩ => reachV s.h [] ((addrV P ops s 12 (.tmp y)).toList ++ args.toList.filterMap (addrV P ops s 12))
  | _ => []
def isApp (o : Oper) : Bool := match o.op with
  | .call ⟨.builtin .append, _, _⟩ => true
  | _ => false
def isMint (o : Oper) : Bool := match o.op with
  | .buildSlice .. => true
  | _ => isApp o
/-- The operations ahead of one. -/
def pref (ops : Array Oper) (k : Nat) : Array Oper := (ops.toList.take k).toArray
def copyBox (ops : Array Oper) (s : VSt) (o : Oper) : List Nat := match o.op with
  | .call ⟨.builtin .copy, ⟨[.tmp y, _]⟩, _⟩ => match ops.toList.find? fun q => q.dst == some y with
    | some q => match q.op with
      | .slice _ z _ _ _ => match addrV P ops s 12 z with
        | some (.own b) => [b]
        | _ => []
      | .move z => match addrV P ops s 12 z with
        | some (.own b) => [b]
        | some (.osl b _ _ _) => [b]
        | _ => []
      | _ => []
    | none => []
  | _ => []
def isCopy (o : Oper) : Bool := match o.op with
  | .call ⟨.builtin .copy, _, _⟩ => true
  | _ => false
/-- The own slice that is appended to. -/
def appBox (ops : Array Oper) (s : VSt) (o : Oper) : List Nat := match o.op with
  | .call ⟨.builtin .append, ⟨[y, _]⟩, _⟩ => match addrV P ops s 12 y with
    | some (.own b) => [b]
    | _ => []
  | _ => []
/-- The boxes that may be turned: new ones, and those that are appended to. -/
def bigZ (ops : Array Oper) (s : VSt) : List Nat := match ops.any isApp with
  | true => (List.range ops.size).map (s.h.length + ·) ++ ops.toList.zipIdx.flatMap fun ok => appBox P (pref ops ok.2) s ok.1
  | false => []
def calmO (Z : List Nat) (o : Oper) (t : List V) (x : V) : Bool := Z.isEmpty || (calmB Z x && o.op.operands.toList.all fun y => calmB Z (VSt.get ⟨t, []⟩ y))
def pre3T (ent : Callee → List V → List Box → Tree (List Nat × V × List Box)) (ops : Array Oper) (W Z : List Nat) (h0 : List Box) (n0 : Nat) (M0 : List Nat) : Nat → List Oper → List V → List Box → Tree (List V × List Box)
  | _, [], t, hh => .ret (t, hh)
  | k, o :: os, t, hh => guardT ops o t (fun t => match bigI o with
      | true => match isCallT o with
        | true => (callBT A P C ent W h0.length t hh o).bind fun r => forceL (putV t o.dst r.2) fun t => forceH r.1 fun hh => pre3T ent ops W Z h0 n0 M0 (k + 1) os t hh
        | false => (bigT A P hh (VSt.get ⟨t, hh⟩) o).bind fun r => match okM n0 M0 r.1 && r.1.all Z.contains && bigW W h0.length hh o (VSt.get ⟨t, hh⟩) with
          | true => forceL (putV (killT r.1 t) o.dst r.2.2) fun t => forceH r.2.1 fun hh => pre3T ent ops W Z h0 n0 M0 (k + 1) os t hh
          | false => .fail
      | false => match pinI ops k, midI ops k with
        | true, _ => (pinXT A P C hh t o).bind fun x => forceL (putV t o.dst x) fun t => pre3T ent ops W Z h0 n0 M0 (k + 1) os t hh
        | false, true => (opXT A P C (hh.take h0.length) (VSt.get ⟨t, []⟩) o).bind fun x => forceL (putV t o.dst x) fun t => pre3T ent ops W Z h0 n0 M0 (k + 1) os t hh
        | false, false => (opXT A P C (hideB h0 W) (VSt.get ⟨t, []⟩) o).bind fun x => match calmO Z o t x with
          | true => forceL (putV t o.dst x) fun t => pre3T ent ops W Z h0 n0 M0 (k + 1) os t hh
          | false => .fail)
    (fun t => forceL (putV t o.dst (.tup [])) fun t => pre3T ent ops W Z h0 n0 M0 (k + 1) os t hh)
/-- Is the region one whose heavy operations are in order, two of them at least? -/
def drawOK3 (ops : Array Oper) : Bool := (decide (2 ≤ (ops.toList.filter bigI).length) || ops.any isCallT || ops.any isCopy) && bigOK ops && lexOK2 ops ops.size 0 (Array.replicate ops.size false)
variable (ent : Callee → List V → List Box → Tree (List Nat × V × List Box)) (n0 : Nat) (M0 : List Nat)
def drawT1 (ops : Array Oper) (s : VSt) : Tree VSt := match (!drawOKs C ops || ops.any isMint) && drawOK3 ops with
  | true => forceS (iceT P C ops s) fun s => forceSp (ops.toList.zipIdx.flatMap fun ok => stBox P (pref ops ok.2) s ok.1 ++ appBox P (pref ops ok.2) s ok.1 ++ callBox P (pref ops ok.2) s ok.1 ++ copyBox P (pref ops ok.2) s ok.1) fun W => forceSp (bigZ P ops s) fun Z => (pre3T A P C ent ops W Z s.h n0 M0 0 ops.toList s.t s.h).bind fun r => .ret ⟨r.1, r.2⟩
  | false => drawT0 A P C ent n0 M0 ops s
def drawT (ops : Array Oper) (s : VSt) : Tree VSt := match ops.toList.all noDef with
  | true => drawT1 A P C ent n0 M0 ops s
  | false => .fail
end

section
variable {P : Program} {h h' h2 h0 hh hx hx' : List Box} {ρ ρ2 : Operand → V} {o : Oper} {x : V} {ops : Array Oper} {W Z M : List Nat} {t t2 : List V} {En : Ent} {E : Env} {C : CfgO}
theorem calmO_spec (h : calmO Z o t x = true) : Z = [] ∨ (calmB Z x = true ∧ ∀ y ∈ o.op.operands.toList, calmB Z (VSt.get ⟨t, []⟩ y) = true) := by
  unfold calmO at h
  rw [Bool.or_eq_true, Bool.and_eq_true] at h
  rcases h with h | ⟨h1, h2⟩
  · exact .inl (by simpa using h)
  · exact .inr ⟨h1, fun y hy => List.all_eq_true.1 h2 y hy⟩
theorem bigT_mk {r : List Nat × List Box × V} (hE : E.Ok) (hk : (bigT sy P h ρ o).run E = some r) (hm : mkI o = true) : r.1 = [] ∧ ∃ l, r.2.1 = h ++ l := by
  unfold bigT at hk
  split at hk
  · split at hk
    · split at hk
      · cases hk; exact ⟨rfl, _, rfl⟩
      · cases hk
    · cases hk
  · rename_i hop; simp [mkI, hop] at hm
  · split at hk
    · split at hk
      · split at hk
        · cases hk; exact ⟨rfl, _, rfl⟩
        · cases hk
      · cases hk
    · cases hk
  · rename_i hop; simp [mkI, hop] at hm
  · cases hk
theorem bigT_len {r : List Nat × List Box × V} (hE : E.Ok) (hk : (bigT sy P h ρ o).run E = some r) : h.length ≤ r.2.1.length := by
  unfold bigT at hk
  split at hk
  · split at hk
    · split at hk
      · cases hk; simp
      · cases hk
    · cases hk
  · obtain ⟨h1, q1, hk⟩ := run_bind_some hE hk
    cases hk
    obtain ⟨b, c, hb, rfl⟩ := storeT_set q1
    simp
  · split at hk
    · split at hk
      · split at hk
        · cases hk; simp
        · cases hk
      · cases hk
    · cases hk
  · split at hk
    · split at hk
      · unfold appendT at hk
        split at hk
        · split at hk
          · split at hk
            · split at hk
              · split at hk
                · obtain ⟨hf, hk⟩ := chk_some hk; cases hk; simp
                · cases hk
              · cases hk
            · obtain ⟨hf, hk⟩ := chk_some hk; cases hk; simp
            · cases hk
          · cases hk
        · cases hk
      · cases hk
    · obtain ⟨q, q1, hk⟩ := run_bind_some hE hk
      cases hk
      obtain ⟨b, c, _, hq⟩ := copyT_set q1
      show h.length ≤ q.1.length
      rw [hq]; simp
    · cases hk
  · cases hk
theorem among_get {L M' : List Nat} {h h' : List Box} {k : Nat} {x : Box} (hx : h[k]? = some x) (hL : k ∉ L) : (amongH h L M' h')[k]? = some (x.kill M') := by
  have hk := (List.getElem?_eq_some_iff.1 hx).1
  unfold amongH
  rw [List.getElem?_append_left (by simpa using hk), List.getElem?_map, List.getElem?_zipIdx, hx]
  simp only [Option.map_some, Nat.zero_add]
  cases hq : L.idxOf? k with
  | none => rfl
  | some i => exact absurd (List.mem_of_getElem? (idxOf_some hq)) hL
theorem callBT_sound (hE : E.Ok) (hG : EnvGood P E) {ent : Callee → List V → List Box → Tree (List Nat × V × List Box)} (hent : EntGood P E ent) {r : List Box × V} (hpw : PreW W h0 hh) (hl0 : h0.length ≤ hh.length) (hk : (callBT sy P C ent W h0.length t hh o).run E = some r) :
    SStep P En o t hh [] r.2 r.1 ∧ PreW W h0 r.1 ∧ h0.length ≤ r.1.length := by
  unfold callBT at hk
  split at hk
  · rename_i f vs hc
    split at hk
    · rename_i hi hsig
      rw [forceSp_eq] at hk
      generalize reachV hh [] vs = L at hk
      split at hk
      · rename_i hL
        simp only [Bool.and_eq_true] at hL
        obtain ⟨hL, hW⟩ := hL
        obtain ⟨q, h1, hk⟩ := run_bind_some hE hk
        split at hk
        · rename_i hq
          cases hk
          have hcall := hent.1 _ _ _ _ h1
          rw [hq] at hcall
          have hA := HCall.among hL hcall
          rw [List.map_nil] at hA
          have hc2 : callOf P (restr o (VSt.get ⟨t, hh⟩)) o = some (f, vs) := by
            rw [← hc]
            exact callOf_congr fun y hy => restr_at (fun f => rfl) hy
          obtain ⟨y, args, tys, caps, hop, hy, rfl⟩ := callOf_some hc2 (restr_func o _)
          refine ⟨?_, fun k x hkW hx => ?_, ?_⟩
          · have := gives_callV hop hy (sigP_some hsig) hA
            rw [get_h t hh []] at this
            exact SStep.of_gives (by simp [okM]) this
          · have hkL : k ∉ L := fun hm => by
              have := List.all_eq_true.1 hW k hm
              simp only [Bool.or_eq_true, List.contains_eq_mem, decide_eq_true_eq] at this
              rcases this with h2 | h2
              · exact hkW h2
              · have := (List.getElem?_eq_some_iff.1 hx).1; omega
            show (amongH hh L [] q.2.2)[k]? = some x
            rw [among_get (hpw k x hkW hx) hkL, Box.kill_nil]
          · show h0.length ≤ (amongH hh L [] q.2.2).length
            unfold amongH
            simp only [List.length_append, List.length_map, List.length_zipIdx]
            omega
        · cases hk
      · cases hk
    · obtain ⟨x, q1, hk⟩ := run_bind_some hE hk
      cases hk
      exact ⟨pinXT_sound hE hG q1, hpw, hl0⟩
  · cases hk
theorem pre3T_lex (hE : E.Ok) (hG : EnvGood P E) {ent : Callee → List V → List Box → Tree (List Nat × V × List Box)} (hent : EntGood P E ent) {r : List V × List Box} : ∀ {os : List Oper} {k : Nat} {t : List V} {hh : List Box}, PreW W h0 hh → h0.length ≤ hh.length → (pre3T sy P C ent ops W Z h0 En.g.n En.M k os t hh).run E = some r → vLex3 P En ops W Z h0 (fun t hh => (t, hh) = r) k os t hh
  | [], _, _, _, _, _, hk => by cases hk; rfl
  | o :: os, k, t, hh, hpw, hl0, hk => by
    unfold pre3T at hk
    rcases guardT_run hk with ⟨hw, hk⟩ | ⟨hw, hk⟩
    · split at hk
      · rename_i hbig
        split at hk
        · rename_i hct
          obtain ⟨r1, q1, hk⟩ := run_bind_some hE hk
          rw [forceL_eq, forceH_eq] at hk
          obtain ⟨k1, k2, k3⟩ := callBT_sound (En := En) hE hG hent hpw hl0 q1
          exact ⟨r1.2, _, r1.1, ⟨.big hh r1.1 [], ⟨hw, hbig, fun b hb => by simp at hb, hpw, k2, k1, hl0, fun hm => by
            unfold mkI at hm
            unfold isCallT at hct
            split at hm <;> simp_all⟩, rfl, rfl, rfl⟩, pre3T_lex hE hG hent k2 k3 hk⟩
        obtain ⟨r1, q1, hk⟩ := run_bind_some hE hk
        split at hk
        · rename_i hc
          simp only [Bool.and_eq_true] at hc
          obtain ⟨⟨c1, c2⟩, c3⟩ := hc
          rw [forceL_eq, forceH_eq] at hk
          have hg := bigT_sound (ρ2 := restr o (VSt.get ⟨t, hh⟩)) hE (fun y hy => (restr_at (fun f => rfl) hy).symm) q1
          have hp2 := bigT_pre hE q1 c3 hpw
          rw [get_h t hh []] at hg
          exact ⟨r1.2.2, _, r1.2.1, ⟨.big hh r1.2.1 r1.1, ⟨hw, hbig, fun b hb => by have := List.all_eq_true.1 c2 b hb; simpa using this, hpw, hp2, SStep.of_gives c1 hg, hl0, fun hm => bigT_mk hE q1 hm⟩, rfl, rfl, rfl⟩, pre3T_lex hE hG hent hp2 (Nat.le_trans hl0 (bigT_len hE q1)) hk⟩
        · cases hk
      · split at hk
        · rename_i hpin
          obtain ⟨x, q1, hk⟩ := run_bind_some hE hk
          rw [forceL_eq] at hk
          exact ⟨x, _, hh, ⟨.pin hh, ⟨hw, hpin, pinXT_sound hE hG q1⟩, rfl, rfl, rfl⟩, pre3T_lex hE hG hent hpw hl0 hk⟩
        · rename_i hmid
          obtain ⟨x, q1, hk⟩ := run_bind_some hE hk
          rw [forceL_eq] at hk
          have q2 := opXT_sound hE hG (fun f => rfl) q1
          exact ⟨x, _, hh, ⟨.mid (hh.take h0.length), ⟨hw, hmid, by simp; omega, q2⟩, fun b y hy => .inr (by
            rw [List.getElem?_take] at hy
            split at hy
            · exact hy
            · cases hy), rfl, rfl⟩, pre3T_lex hE hG hent hpw hl0 hk⟩
        · obtain ⟨x, q1, hk⟩ := run_bind_some hE hk
          split at hk
          · rename_i hc
            rw [forceL_eq] at hk
            exact ⟨x, _, hh, ⟨.late, ⟨hw, calmO_spec hc, fun h2 hp => opXT_sound hE hG (fun f => rfl) q1 h2 hp.pre⟩, hpw, rfl, rfl⟩, pre3T_lex hE hG hent hpw hl0 hk⟩
          · cases hk
    · rw [forceL_eq] at hk
      exact ⟨.tup [], _, hh, ⟨.no, ⟨hw, rfl⟩, trivial, rfl, rfl⟩, pre3T_lex hE hG hent hpw hl0 hk⟩

theorem drawT1_sound (hnd : ∀ (i : Nat) o, ops[i]? = some o → noDef o = true) {ro : Option Nat} (hE : E.Ok) (hG : EnvGood P E) {ent : Callee → List V → List Box → Tree (List Nat × V × List Box)} (hent : EntGood P E ent) {En : Ent} {id : Nat} {Q : Exit → Act → World → Prop} {s s' : VSt} {a : Act} {w : World} (hm : P.follows .mixedOrders = true)
    (hk : (drawT1 sy P C ent En.g.n En.M ops s).run E = some s') (hs : SimE En s a w) (hq : ∀ a' w', SimE En s' a' w' → Q .normal a' w') : (Code.region id ops true).wpIn (Fw ro) 0 P Q a w := by
  unfold drawT1 at hk
  split at hk
  · rename_i hB
    rw [forceS_eq, forceSp_eq, forceSp_eq] at hk
    have hs : SimE En (iceT P C ops s) a w := hs.frzs
    generalize iceT P C ops s = s at hk hs
    obtain ⟨r, h1, hk⟩ := run_bind_some hE hk
    cases hk
    simp only [drawOK3, Bool.and_eq_true] at hB
    have hlex := pre3T_lex hE hG hent (fun b x _ h => h) (Nat.le_refl _) h1
    have hany := vAny3_lex hB.2.1.2 ops.toList 0 (Array.replicate ops.size false) s.t s.h (fun k ok hok hk => by have hlt := (Array.getElem?_eq_some_iff.1 hok).1; simp [Array.getElem?_replicate, hlt] at hk) (fun j => by simp) (by simpa using hB.2.2) hlex
    refine wpIn_region_any hm ?_
    have := vAny3_sound (ro := ro) (Q := Q) (En := En) hnd (fun t hh a w hk' hs => by subst hk'; exact hq a w hs) ops.toList.length _ s.t s.h a w.drew hany hs.drew
    simpa using this
  · exact drawT0_sound hnd hE hG hent hm hk hs hq
theorem drawT_sound {ro : Option Nat} (hE : E.Ok) (hG : EnvGood P E) {ent : Callee → List V → List Box → Tree (List Nat × V × List Box)} (hent : EntGood P E ent) {En : Ent} {id : Nat} {Q : Exit → Act → World → Prop} {s s' : VSt} {a : Act} {w : World} (hm : P.follows .mixedOrders = true)
    (hk : (drawT sy P C ent En.g.n En.M ops s).run E = some s') (hs : SimE En s a w) (hq : ∀ a' w', SimE En s' a' w' → Q .normal a' w') : (Code.region id ops true).wpIn (Fw ro) 0 P Q a w := by
  unfold drawT at hk
  split at hk
  · rename_i hd
    exact drawT1_sound (fun i o ho => List.all_eq_true.1 hd o (by rw [← Array.getElem?_toList] at ho; exact List.mem_of_getElem? ho)) hE hG hent hm hk hs hq
  · cases hk
end
end Go.Vm
end

section
namespace Go.Vm

/-! ### what a state is made of, and what is known of it -/
inductive Sk where
  | any
  | nils
  | d (s : Sh)
  | agg (l : List Sk)
  | tup (l : List Sk)
  | own (b : Nat)
  | ptr (b off : Nat)
  | pel (l : List Sh)
  | pml (b sz i off : Nat)
  | nilp
  | fn (f : FuncId) (l : List Sk)
  | nilf
  | ifn
  | map (b : Nat)
  | yld (b : Nat) (R : RecI)
  | osl (b sz : Nat)
def D.sh : D → Sh
  | .int k _ => .int k
  | .bool _ => .bool
  | .str _ => .str
  | .sl sz _ => .sl sz
mutual
def V.sk : V → Sk
  | .any => .any
  | .nils => .nils
  | .d x => .d x.sh
  | .agg cs => .agg (V.skL cs)
  | .tup cs => .tup (V.skL cs)
  | .own b => .own b
  | .ptr b off => .ptr b off
  | .pel cs => .pel (cs.map D.sh)
  | .pml b sz i off => .pml b sz i off
  | .nilp => .nilp
  | .fn f cs => .fn f (V.skL cs)
  | .nilf => .nilf
  | .ifn _ => .ifn
  | .map b => .map b
  | .yld b R => .yld b R
  | .osl b sz _ _ => .osl b sz
def V.skL : List V → List Sk
  | [] => []
  | c :: cs => c.sk :: V.skL cs
end
def fitDs : List Sh → List D → Option (List D)
  | [], [] => some []
  | s :: ss, x :: xs => match decide (x.sh = s), fitDs ss xs with
    | true, some ds => some (x :: ds)
    | _, _ => none
  | _, _ => none
mutual
def Sk.fit (n : Nat) : Sk → V → Option (List D)
  | .any, _ => some []
  | .nils, .nils => some []
  | .d s, .d x => match decide (x.sh = s) with
    | true => some [x]
    | false => none
  | .d (.sl sz), .nils => some [.sl sz []]
  | .agg l, .agg cs => Sk.fitL n l cs
  | .tup l, .tup cs => Sk.fitL n l cs
  | .own b, .own b' => match decide (b' = b ∧ b < n) with
    | true => some []
    | false => none
  | .ptr b off, .ptr b' off' => match decide (b' = b ∧ off' = off ∧ b < n) with
    | true => some []
    | false => none
  | .pel l, .pel cs => fitDs l cs
  | .pml b sz i off, .pml b' sz' i' off' => match decide (b' = b ∧ sz' = sz ∧ i' = i ∧ off' = off ∧ b < n) with
    | true => some []
    | false => none
  | .nilp, .nilp => some []
  | .fn f l, .fn f' cs => match decide (f' = f) with
    | true => Sk.fitL n l cs
    | false => none
  | .nilf, .nilf => some []
  | .ifn, .ifn b => some [.bool b]
  | .map b, .map b' => match decide (b' = b ∧ b < n) with
    | true => some []
    | false => none
  | .yld b _, .yld b' _ => match decide (b' = b ∧ b < n) with
    | true => some []
    | false => none
  | .osl b sz, .osl b' sz' lo k => match decide (b' = b ∧ sz' = sz ∧ b < n) with
    | true => some [.int .i64 lo, .int .i64 k]
    | false => none
  | _, _ => none
def Sk.fitL (n : Nat) : List Sk → List V → Option (List D)
  | [], [] => some []
  | k :: ks, v :: vs => match Sk.fit n k v, Sk.fitL n ks vs with
    | some a, some b => some (a ++ b)
    | _, _ => none
  | _, _ => none
end

section
variable (A : Sy)
mutual
def openSk : Sk → List D → Nat → Tree (V × Nat)
  | .any, _, j => .ret (.any, j)
  | .nils, _, j => .ret (.nils, j)
  | .d s, ds, j => (openT s (A.cell ds j)).bind fun x => .ret (.d x, j + 1)
  | .agg l, ds, j => (openSkL l ds j).bind fun r => .ret (.agg r.1, r.2)
  | .tup l, ds, j => (openSkL l ds j).bind fun r => .ret (.tup r.1, r.2)
  | .own b, _, j => .ret (.own b, j)
  | .ptr b off, _, j => .ret (.ptr b off, j)
  | .pel l, ds, j => (openRT A l ds j).bind fun xs => .ret (.pel xs, j + l.length)
  | .pml b sz i off, _, j => .ret (.pml b sz i off, j)
  | .nilp, _, j => .ret (.nilp, j)
  | .fn f l, ds, j => (openSkL l ds j).bind fun r => .ret (.fn f r.1, r.2)
  | .nilf, _, j => .ret (.nilf, j)
  | .ifn, ds, j => .cB (A.cell ds j) fun b => .ret (.ifn b, j + 1)
  | .map b, _, j => .ret (.map b, j)
  | .yld b R, _, j => .ret (.yld b R, j)
  | .osl b sz, ds, j => .cI (A.cell ds j) .i64 fun lo => .cI (A.cell ds (j + 1)) .i64 fun k => .ret (.osl b sz lo k, j + 2)
def openSkL : List Sk → List D → Nat → Tree (List V × Nat)
  | [], _, j => .ret ([], j)
  | k :: ks, ds, j => (openSk k ds j).bind fun r => (openSkL ks ds r.2).bind fun q => .ret (r.1 :: q.1, q.2)
end
end

mutual
/-- Are the codes of the rounds that are named those that are known? -/
def Sk.okY (c : Nat → Option RecI) : Sk → Prop
  | .yld b R => c b = some R
  | .agg l => Sk.okYL c l
  | .tup l => Sk.okYL c l
  | .fn _ l => Sk.okYL c l
  | _ => True
def Sk.okYL (c : Nat → Option RecI) : List Sk → Prop
  | [] => True
  | k :: ks => k.okY c ∧ Sk.okYL c ks
end
mutual
/-- Do the rounds that are named have names below n? -/
def Sk.yB (n : Nat) : Sk → Bool
  | .yld b _ => decide (b < n)
  | .agg l => Sk.yBL n l
  | .tup l => Sk.yBL n l
  | .fn _ l => Sk.yBL n l
  | _ => true
def Sk.yBL (n : Nat) : List Sk → Bool
  | [] => true
  | k :: ks => k.yB n && Sk.yBL n ks
end
def CK.fitB : CK → CK → Bool
  | .ty t, .ty t' => decide (t' = t)
  | .rcd .ready, .rcd .ready => true
  | .rcd .busy, .rcd .busy => true
  | .sit, .sit => true
  | _, _ => false
theorem CK.fitB_spec {k k' : CK} (h : CK.fitB k k' = true) : k' = k := by
  cases k <;> cases k' <;> simp only [CK.fitB] at h <;> first | (cases h; done) | skip
  · rw [of_decide_eq_true h]
  · rename_i s s'; cases s <;> cases s' <;> first | rfl | cases h
  · rfl
inductive BSk where
  | gone
  | mp (kk : KK)
  | cells (k : CK) (l : List Sk)
  | arr (e : TypeId) (sz : Nat)
def Box.sk : Box → BSk
  | .gone => .gone
  | .mp kk _ => .mp kk
  | .cells t vs => .cells t (V.skL vs)
  | .arr e sz _ => .arr e sz
def BSk.fit (n : Nat) : BSk → Box → Option (List D)
  | .gone, _ => some []
  | .mp kk, .mp kk' rows => match decide (kk' = kk) with
    | true => some [.sl 2 rows]
    | false => none
  | .cells t l, .cells t' vs => match CK.fitB t t' with
    | true => Sk.fitL n l vs
    | false => none
  | .arr e sz, .arr e' sz' rows => match decide (e' = e ∧ sz' = sz) with
    | true => some [.sl sz rows]
    | false => none
  | _, _ => none
def BSk.fitL (n : Nat) : List BSk → List Box → Option (List D)
  | [], _ => some []
  | k :: ks, x :: xs => match BSk.fit n k x, BSk.fitL n ks xs with
    | some a, some b => some (a ++ b)
    | _, _ => none
  | _ :: _, [] => none
section
variable (A : Sy)
def openBSk : BSk → List D → Nat → Tree (Box × Nat)
  | .gone, _, j => .ret (.gone, j)
  | .mp kk, ds, j => .cL (A.cell ds j) 2 fun rows => .ret (.mp kk rows, j + 1)
  | .cells t l, ds, j => (openSkL A l ds j).bind fun r => .ret (.cells t r.1, r.2)
  | .arr e sz, ds, j => .cL (A.cell ds j) sz fun rows => .ret (.arr e sz rows, j + 1)
def openBL : List BSk → List D → Nat → Tree (List Box × Nat)
  | [], _, j => .ret ([], j)
  | k :: ks, ds, j => (openBSk A k ds j).bind fun r => (openBL ks ds r.2).bind fun q => .ret (r.1 :: q.1, q.2)
end

/-- The head of a loop: which slots are kept (of which kind, if it is told), how many boxes (but for some), which boxes are plain data from now on. -/
structure LAn where
  slots : List (Nat × Option Sk)
  nb : Nat := 1000
  gone : List Nat := []
  ice : List Nat := []
  own : List (Nat × Nat × TypeId) := []
  sole : List Nat := []
  dat : List (Nat × Nat × TypeId) := []
/-- The own slices of these slots are no longer named by boxes. -/
def soleS (ks : List Nat) (s : VSt) : VSt := match ks with
  | [] => s
  | _ => ⟨s.t, s.h.map (Box.kill (ks.flatMap fun k => (s.t.getD k .any).owns))⟩
theorem SimE.soleS {En : Ent} {a : Act} {w : World} {s : VSt} (ks : List Nat) (hs : SimE En s a w) : SimE En (Go.Vm.soleS ks s) a w := by
  cases ks with
  | nil => exact hs
  | cons k ks =>
    unfold Go.Vm.soleS
    simp only
    generalize (List.flatMap (fun k => (s.t.getD k .any).owns) (k :: ks)) = M
    obtain ⟨g, hs⟩ := hs
    have ho : Over M w g w g := ⟨Gh.Le.refl _ _, fun _ _ _ => rfl⟩
    have hown : ∀ k, Owned g (s.h.map (Box.kill M)) k → Owned g s.h k := by
      rintro k ⟨b, x, hb, hx⟩
      rw [List.getElem?_map, Option.map_eq_some_iff] at hb
      obtain ⟨x0, h0, rfl⟩ := hb
      exact ⟨b, x0, h0, by rwa [Box.at?_kill] at hx⟩
    obtain ⟨k1, k2, k3, k4⟩ := hs.keep
    refine ⟨g, ⟨by simpa using hs.heap.n, fun b x hb => ?_, fun b c x y k hb hc hx hy => ?_, fun k o hk => hs.heap.zsep k o (hown k hk), hs.heap.zlt, hs.heap.tab⟩, hs.size, hs.tmps, hs.defers.less hown rfl, ⟨k1, k2, k3, fun k hk => k4 k (hown k hk)⟩, hs.len⟩
    · simp only at hb
      rw [List.getElem?_map, Option.map_eq_some_iff] at hb
      obtain ⟨x0, h0, rfl⟩ := hb
      have hr := hs.heap.rep b x0 h0
      cases x0 with
      | cells t vs =>
        obtain ⟨us, o, h1, h0, h2, h3⟩ := hr
        refine ⟨us, o, h1, h0, by simpa using h2, fun i u v hu hv => ?_⟩
        rw [List.getElem?_map, Option.map_eq_some_iff] at hv
        obtain ⟨v', hv', rfl⟩ := hv
        exact ho.kill (h3 i u v' hu hv')
      | _ => exact hr
    · simp only at hb hc
      rw [List.getElem?_map, Option.map_eq_some_iff] at hb hc
      obtain ⟨x0, h0, rfl⟩ := hb
      obtain ⟨y0, h1, rfl⟩ := hc
      rw [Box.at?_kill] at hx hy
      exact hs.heap.sep b c x0 y0 k h0 h1 hx hy
structure Hd where
  slots : List (Nat × Sk)
  boxes : List BSk
def headS (n0 : Nat) (an : LAn) (s : VSt) : Hd :=
  let live := reachV s.h (List.range n0) (an.slots.map fun q => s.t.getD q.1 .any)
  { slots := an.slots.map fun q => (q.1, match q.2 with
      | some sk => sk
      | none => (s.t.getD q.1 .any).sk)
    boxes := ((s.h.take an.nb).zipIdx.map fun xb => match live.contains xb.2 && !an.gone.contains xb.2 with
      | true => xb.1.sk
      | false => .gone) }
def BSk.okY (c : Nat → Option RecI) : BSk → Prop
  | .cells _ l => Sk.okYL c l
  | _ => True
def BSk.yB (n : Nat) : BSk → Bool
  | .cells _ l => Sk.yBL n l
  | _ => true
def Hd.okY (c : Nat → Option RecI) (hd : Hd) : Prop := (∀ q ∈ hd.slots, q.2.okY c) ∧ ∀ x ∈ hd.boxes, x.okY c
/-- Is each round of a loop over a function that is named one of the boxes at the entry? -/
def Hd.yB (n : Nat) (hd : Hd) : Bool := (hd.slots.all fun q => q.2.yB n) && hd.boxes.all (BSk.yB n)
def fitS' (n : Nat) (t : List V) : List (Nat × Sk) → Option (List D)
  | [] => some []
  | (k, sk) :: ls => match Sk.fit n sk (t.getD k .any), fitS' n t ls with
    | some a, some b => some (a ++ b)
    | _, _ => none
def fitHd (hd : Hd) (s : VSt) : Option (List D) := match fitS' hd.boxes.length s.t hd.slots, BSk.fitL hd.boxes.length hd.boxes s.h with
  | some a, some b => some (a ++ b)
  | _, _ => none
section
variable (A : Sy)
def openS : List (Nat × Sk) → List D → Nat → List V → Tree (List V × Nat)
  | [], _, j, acc => .ret (acc, j)
  | (k, sk) :: ls, ds, j, acc => (openSk A sk ds j).bind fun r => openS ls ds r.2 (acc.set k r.1)
def openHd (hd : Hd) (len : Nat) (ds : List D) : Tree VSt :=
  (openS A hd.slots ds 0 (List.replicate len .any)).bind fun r => (openBL A hd.boxes ds r.2).bind fun q => .ret ⟨r.1, q.1⟩
end

structure CfgT where
  me : FuncId := 0
  o : CfgO
  loops : Nat → LAn
  cuts : Nat → Option LAn
  turn : Bool := true
  rt : Option (List Nat) := none
  labs : Nat → Option LAn := fun _ => none

section
variable (A : Sy) (P : Program) (inR : Bool) (C : CfgT) (ent : Callee → List V → List Box → Tree (List Nat × V × List Box)) (n0 : Nat) (M0 : List Nat)

def inBl (id : Nat) (r : Exit × VSt) : Exit × VSt := match r.1 with
  | .exit id' => match decide (id' = id) with
    | true => (.normal, r.2)
    | false => r
  | _ => r

/-- Where a round, or a part of code, ends. -/
def endR (hd : Hd) (r : Exit × VSt) : Tree (List D ⊕ (Exit × VSt)) := match r.1 with
  | .normal => match fitHd hd r.2 with
    | some ds => .ret (.inl ds)
    | none => .fail
  | _ => .ret (.inr r)

/-- Where the code behind a label that is jumped back to ends. -/
def endG (l : Nat) (hd : Hd) (r : Exit × VSt) : Tree (List D ⊕ (Exit × VSt)) := match r.1 with
  | .goto l' => match decide (l' = l), fitHd hd r.2 with
    | true, some ds => .ret (.inl ds)
    | _, _ => .fail
  | _ => .ret (.inr r)
def labX : Code → Option (Nat × LAn)
  | .label l => match C.labs l with
    | some an => some (l, an)
    | none => none
  | _ => none
def labS : Bool → Code → Option (Nat × LAn)
  | true, x => labX C x
  | false, _ => none
def flatX : Code → Bool
  | .seq .. => false
  | .label _ => false
  | _ => true

def codeT : Bool → Nat → Code → VSt → Tree (Exit × VSt)
  | _, _, .skip, s => .ret (.normal, s)
  | _, _, .region _ ops draw, s => match draw with
    | false => (opsT A P ent C.o n0 M0 ops 0 ops.toList s).bind fun s' => .ret (.normal, s')
    | true => (drawT A P C.o ent n0 M0 ops s).bind fun s' => .ret (.normal, s')
  | sc, b, .seq x y, s => match labS C sc x with
    | some (l, an) =>
      let hd := headS n0 an s
      match decide (n0 ≤ hd.boxes.length) && hd.yB n0 && an.slots.all (fun q => match q.2 with
        | some sk => sk.yB 0
        | none => true), fitHd hd s with
      | true, some ds0 => .loop (fun ds => (openHd A hd s.t.length ds).bind fun s1 => forceL s1.t fun t => (codeT false b y ⟨t, s1.h⟩).bind (endG l hd)) ds0
      | _, _ => .fail
    | none => match C.cuts (leadKey y) with
      | none => (codeT false b x s).bind fun r => match r.1 with
        | .normal => codeT (sc && flatX x) b y r.2
        | _ => .ret r
      | some an =>
        let hd := headS n0 an s
        match decide (n0 ≤ hd.boxes.length) && hd.yB n0 && an.slots.all (fun q => match q.2 with
          | some sk => sk.yB 0
          | none => true) with
        | true => .cut ((codeT false b x s).bind (endR hd)) fun ds => (openHd A hd s.t.length ds).bind fun s1 => forceL s1.t fun t => codeT (sc && flatX x) b y ⟨t, s1.h⟩
        | false => .fail
  | _, b, .cond c x y, s => match s.get c with
    | .d (.bool t) => .ite t (codeT false b x (s.setC c true)) (codeT false b y (s.setC c false))
    | _ => .fail
  | _, _, .block id c, s => (codeT false id c s).bind fun r => .ret (inBl id r)
  | _, b, .loop c, s =>
    let s0 := datB P (soleS (C.loops b).sole (mintB P (s.frz (C.loops b).ice) (C.loops b).own)) (C.loops b).dat
    let hd := headS n0 (C.loops b) s0
    match decide (n0 ≤ hd.boxes.length) && hd.yB n0 && (C.loops b).slots.all (fun q => match q.2 with
      | some sk => sk.yB 0
      | none => true), fitHd hd s0 with
    | true, some ds0 => .loop (fun ds => (openHd A hd s0.t.length ds).bind fun s1 => forceL s1.t fun t => (codeT false b c ⟨t, s1.h⟩).bind fun r => endR hd (r.1, datB P r.2 (C.loops b).dat)) ds0
    | _, _ => .fail
  | _, _, .exit id, s => .ret (.exit id, s)
  | _, _, .ret, s => .ret (.ret, s)
  | _, _, .label _, s => .ret (.normal, s)
  | _, _, .goto l, s => .ret (.goto l, s)
  | _, b, .scope c, s => match inR with
    | true => .fail
    | false => (codeT true b c s).bind fun r => match r.1 with
      | .goto _ => .fail
      | _ => .ret r
  | _, _, .rangeFunc y ps assign body, s => match inR, s.get y with
    | false, .fn f caps => match sigP P f with
      | some _ => (ent (.fn f) (.yld s.h.length ⟨C.me, ps, assign, body⟩ :: caps) (s.h ++ [.cells (.rcd .ready) s.t])).bind fun r => match okM n0 M0 r.1 && !r.1.contains s.h.length, r.2.2[s.h.length]? with
        | true, some (.cells (.rcd .ready) vs) => .ret (.normal, ⟨vs, r.2.2.set s.h.length .gone⟩)
        | true, some (.cells (.rcd (.done .ret)) vs) => .ret (.ret, ⟨vs, r.2.2.set s.h.length .gone⟩)
        | true, some (.cells (.rcd (.done (.exit id))) vs) => .ret (.exit id, ⟨vs, r.2.2.set s.h.length .gone⟩)
        | _, _ => .fail
      | none => .fail
    | _, _ => .fail
  | _, _, _, _ => .fail
end

section
variable {P : Program} {E : Env}

theorem fitDs_same : ∀ {ss : List Sh} {xs ds : List D}, fitDs ss xs = some ds → ds = xs ∧ xs.length = ss.length ∧ ∀ (i : Nat) x s, xs[i]? = some x → ss[i]? = some s → x.sh = s
  | [], [], ds, h => by cases h; simp
  | [], _ :: _, ds, h => by cases h
  | _ :: _, [], ds, h => by cases h
  | s :: ss, x :: xs, ds, h => by
    unfold fitDs at h
    split at h
    · rename_i ds' hd h2
      cases h
      obtain ⟨rfl, h3, h4⟩ := fitDs_same h2
      refine ⟨rfl, by simp [h3], fun i y s' hy hs => ?_⟩
      cases i with
      | zero => simp at hy hs; subst hy; subst hs; exact of_decide_eq_true hd
      | succ i => exact h4 i y s' (by simpa using hy) (by simpa using hs)
    · cases h

theorem openT_at {x : D} {v : Option D} {s : Sh} (h : v = some x) (hs : x.sh = s) : (openT s v).run E = some x := by
  subst h; subst hs
  cases x <;> simp [D.sh, openT, Tree.run, opI, opB, opS, opL]

def At (full : List D) (j : Nat) (ds : List D) : Prop := ∀ (i : Nat) x, ds[i]? = some x → full[j + i]? = some x
theorem At.left {full : List D} {j : Nat} {a b : List D} (h : At full j (a ++ b)) : At full j a := fun i x hx => h i x (by
  rw [List.getElem?_append, if_pos (List.getElem?_eq_some_iff.1 hx).1]; exact hx)
theorem At.right {full : List D} {j : Nat} {a b : List D} (h : At full j (a ++ b)) : At full (j + a.length) b := fun i x hx => by
  have := h (a.length + i) x (by rw [List.getElem?_append_right (by omega), Nat.add_sub_cancel_left]; exact hx)
  rwa [← Nat.add_assoc] at this

theorem At.head {full : List D} {j : Nat} {x : D} {b : List D} (h : At full j (x :: b)) : sy.cell full j = some x := h 0 x rfl

theorem openRT_at (hE : E.Ok) : ∀ {ss : List Sh} {full : List D} {j : Nat} {xs : List D}, xs.length = ss.length → (∀ (i : Nat) x s, xs[i]? = some x → ss[i]? = some s → x.sh = s) → At full j xs → (openRT sy ss full j).run E = some xs
  | [], full, j, xs, hl, _, _ => by
    have : xs = [] := by simpa using hl
    subst this; rfl
  | s :: ss, full, j, [], hl, _, _ => by simp at hl
  | s :: ss, full, j, x :: xs, hl, hs, ha => by
    unfold openRT
    have h1 : (openT s (sy.cell full j)).run E = some x := openT_at ha.head (hs 0 x s rfl rfl)
    have h2 := openRT_at hE (ss := ss) (full := full) (j := j + 1) (xs := xs) (by simpa using hl) (fun i y s' hy hs' => hs (i + 1) y s' (by simpa using hy) (by simpa using hs')) (fun i y hy => by
      have := ha (i + 1) y (by simpa using hy)
      rwa [show j + 1 + i = j + (i + 1) by omega])
    rw [run_bind hE, h1]
    simp only [Option.bind_some]
    rw [run_bind hE, h2]
    rfl

/-- v says no more than v' did, if the codes of c are known. -/
def WkY (n : Nat) (c : Nat → Option RecI) (v' v : V) : Prop := ∀ (w : World) (g : Gh) (u : Value), (∀ b x, c b = some x → g.rc b = some x) → Rep w g u v' → Rep w (g.cut n) u v
def WkBY (n : Nat) (c : Nat → Option RecI) (x y : Box) : Prop := (∀ (w : World) (g : Gh) (b : Nat), (∀ b x, c b = some x → g.rc b = some x) → BoxRep w g b x → BoxRep w (g.cut n) b y) ∧ ∀ (g : Gh) (b k : Nat), y.at? (g.cut n) b = some k → x.at? g b = some k
theorem okYL_of {c : Nat → Option RecI} : ∀ {cs : List V}, (∀ (i : Nat) v, cs[i]? = some v → v.sk.okY c) → Sk.okYL c (V.skL cs)
  | [], _ => trivial
  | v :: cs, h => ⟨h 0 v rfl, okYL_of fun i v hv => h (i + 1) v (by simpa using hv)⟩
theorem rep_okY {w : World} {g : Gh} {u : Value} {v : V} (hr : Rep w g u v) : v.sk.okY g.rc := by
  have aux : ∀ (us : Array Value) (cs : List V), us.size = cs.length → (∀ (i : Nat) u c, us[i]? = some u → cs[i]? = some c → c.sk.okY g.rc) → Sk.okYL g.rc (V.skL cs) := fun us cs hl h =>
    okYL_of fun i v hv => by
      have hi : i < us.size := by rw [hl]; exact (List.getElem?_eq_some_iff.1 hv).1
      exact h i _ v (Array.getElem?_eq_getElem hi) hv
  induction hr with
  | agg us cs hl h ih => exact aux us cs hl ih
  | tup us cs hl h ih => exact aux us cs hl ih
  | fn f us cs hl h ih => exact aux us cs hl ih
  | yld b R hb hc => exact hc
  | _ => exact trivial
mutual
theorem okY_below {c c' : Nat → Option RecI} {n : Nat} (hc : ∀ b, b < n → c' b = c b) : ∀ (sk : Sk), sk.okY c → sk.yB n = true → sk.okY c'
  | .yld b R, h, hb => by
    have h : c b = some R := h
    have hb : b < n := of_decide_eq_true hb
    show c' b = some R
    rw [hc b hb, h]
  | .agg l, h, hb => okYL_below hc l h hb
  | .tup l, h, hb => okYL_below hc l h hb
  | .fn _ l, h, hb => okYL_below hc l h hb
  | .any, _, _ => trivial
  | .nils, _, _ => trivial
  | .d _, _, _ => trivial
  | .own _, _, _ => trivial
  | .ptr _ _, _, _ => trivial
  | .pel _, _, _ => trivial
  | .pml .., _, _ => trivial
  | .nilp, _, _ => trivial
  | .nilf, _, _ => trivial
  | .ifn, _, _ => trivial
  | .map _, _, _ => trivial
  | .osl .., _, _ => trivial
theorem okYL_below {c c' : Nat → Option RecI} {n : Nat} (hc : ∀ b, b < n → c' b = c b) : ∀ (l : List Sk), Sk.okYL c l → Sk.yBL n l = true → Sk.okYL c' l
  | [], _, _ => trivial
  | k :: ks, h, hb => by
    have hb : (k.yB n && Sk.yBL n ks) = true := hb
    rw [Bool.and_eq_true] at hb
    exact ⟨okY_below hc k h.1 hb.1, okYL_below hc ks h.2 hb.2⟩
end
mutual
theorem okY_none {c : Nat → Option RecI} : ∀ (sk : Sk), sk.yB 0 = true → sk.okY c
  | .yld b R, hb => by
    have hb : b < 0 := of_decide_eq_true hb
    omega
  | .agg l, hb => okYL_none l hb
  | .tup l, hb => okYL_none l hb
  | .fn _ l, hb => okYL_none l hb
  | .any, _ => trivial
  | .nils, _ => trivial
  | .d _, _ => trivial
  | .own _, _ => trivial
  | .ptr _ _, _ => trivial
  | .pel _, _ => trivial
  | .pml .., _ => trivial
  | .nilp, _ => trivial
  | .nilf, _ => trivial
  | .ifn, _ => trivial
  | .map _, _ => trivial
  | .osl .., _ => trivial
theorem okYL_none {c : Nat → Option RecI} : ∀ (l : List Sk), Sk.yBL 0 l = true → Sk.okYL c l
  | [], _ => trivial
  | k :: ks, hb => by
    have hb : (k.yB 0 && Sk.yBL 0 ks) = true := hb
    rw [Bool.and_eq_true] at hb
    exact ⟨okY_none k hb.1, okYL_none ks hb.2⟩
end
theorem boxRep_okY {w : World} {g : Gh} {b : Nat} {x : Box} (hr : BoxRep w g b x) : x.sk.okY g.rc := by
  cases x with
  | cells k vs =>
    obtain ⟨us, o, h1, h0, h2, h3⟩ := hr
    exact okYL_of fun i v hv => by
      have hi : i < us.size := by rw [h2]; exact (List.getElem?_eq_some_iff.1 hv).1
      exact rep_okY (h3 i _ v (Array.getElem?_eq_getElem hi) hv)
  | _ => exact trivial
def cdE (En : Ent) : Nat → Option RecI := fun b => if b < En.g.n then En.g.rc b else none
theorem cdE_spec {En : Ent} {s : VSt} {a : Act} {w : World} {g : Gh} (hs : Sim En s a w g) {b : Nat} {x : RecI} (h : cdE En b = some x) : g.rc b = some x := by
  unfold cdE at h
  split at h
  · rename_i hb; exact rc_eq (hs.keep.1.cd b hb) h
  · cases h
theorem headS_okY {En : Ent} {s : VSt} {a : Act} {w : World} {an : LAn} (hs : SimE En s a w) (hb : (headS En.g.n an s).yB En.g.n = true) (ha : an.slots.all (fun q => match q.2 with
      | some sk => sk.yB 0
      | none => true) = true) : (headS En.g.n an s).okY (cdE En) := by
  obtain ⟨g, hs⟩ := hs
  have hc : ∀ b, b < En.g.n → cdE En b = g.rc b := fun b hb => by unfold cdE Gh.rc; rw [if_pos hb, hs.keep.1.cd b hb]
  unfold Hd.yB at hb
  rw [Bool.and_eq_true] at hb
  obtain ⟨b1, b2⟩ := hb
  constructor
  · intro q hq
    have y1 := List.all_eq_true.1 b1 q hq
    simp only [headS, List.mem_map] at hq
    obtain ⟨q0, hq0, rfl⟩ := hq
    have y2 := List.all_eq_true.1 ha q0 hq0
    cases h2 : q0.2 with
    | some sk => simp only [h2] at y2 ⊢; exact okY_none sk y2
    | none =>
      simp only [h2] at y1 ⊢
      exact okY_below hc _ (rep_okY (hs.get (.tmp q0.1))) y1
  · intro x hx
    have y1 := List.all_eq_true.1 b2 x hx
    simp only [headS, List.mem_map] at hx
    obtain ⟨⟨y, i⟩, hy, rfl⟩ := hx
    simp only at y1 ⊢
    split
    · rename_i hl
      simp only [hl] at y1
      have hyi : s.h[i]? = some y := by
        have := List.mem_zipIdx hy
        obtain ⟨h1, h2, h3⟩ := this
        simp only [Nat.sub_zero, Nat.zero_add] at h2 h3
        have h4 : (s.h.take an.nb)[i]? = some y := by rw [h3]; exact List.getElem?_eq_getElem _
        rw [List.getElem?_take] at h4
        split at h4
        · exact h4
        · cases h4
      have hr := boxRep_okY (hs.heap.rep i y hyi)
      cases y with
      | cells k vs => exact okYL_below hc _ hr y1
      | _ => exact trivial
    · exact trivial
mutual
theorem fit_open (hE : E.Ok) {n : Nat} {c : Nat → Option RecI} {full : List D} : ∀ (sk : Sk) {v : V} {ds : List D} {j : Nat}, Sk.fit n sk v = some ds → sk.okY c → At full j ds → ∃ v', (openSk sy sk full j).run E = some (v', j + ds.length) ∧ WkY n c v v'
  | .any, v, ds, j, h, hy, _ => by
    have : ds = [] := by cases v <;> (unfold Sk.fit at h; cases h; rfl)
    subst this
    exact ⟨.any, rfl, fun _ _ u _ _ => .any u⟩
  | .nils, v, ds, j, h, hy, _ => by
    cases v <;> unfold Sk.fit at h <;> first | (cases h; done) | skip
    cases h
    exact ⟨.nils, rfl, fun w g u hcd hr => belowB_rep (n := n) rfl hr⟩
  | .d s, v, ds, j, h, hy, ha => by
    cases v with
    | d x =>
      have h : (match decide (x.sh = s) with | true => some [x] | false => none) = some ds := by unfold Sk.fit at h; exact h
      split at h
      · rename_i hd
        cases h
        refine ⟨.d x, ?_, fun w g u hcd hr => belowB_rep (n := n) rfl hr⟩
        unfold openSk
        rw [run_bind hE, openT_at ha.head (of_decide_eq_true hd)]
        rfl
      · cases h
    | nils =>
      cases s <;> unfold Sk.fit at h <;> first | (cases h; done) | skip
      cases h
      rename_i sz
      refine ⟨.d (.sl sz []), ?_, fun w g u hcd hr => by cases hr; exact .d (.slnil sz)⟩
      unfold openSk
      have q : (openT (.sl sz) (sy.cell full j)).run E = some (.sl sz []) := openT_at ha.head rfl
      rw [run_bind hE, q]
      rfl
    | _ => cases s <;> (unfold Sk.fit at h; cases h)
  | .agg l, v, ds, j, h, hy, ha => by
    cases v <;> unfold Sk.fit at h <;> first | (cases h; done) | skip
    obtain ⟨vs, h1, h2, h3⟩ := fit_openL hE l h hy ha
    refine ⟨.agg vs, by unfold openSk; rw [run_bind hE, h1]; rfl, fun w g u hcd hr => ?_⟩
    cases hr with
    | agg us _ hl hr =>
      refine .agg us vs (by rw [hl, h2]) fun i u c hu hc => ?_
      have hi := (Array.getElem?_eq_some_iff.1 hu).1
      exact h3 i _ c (List.getElem?_eq_getElem (by omega)) hc w g u hcd (hr i u _ hu (List.getElem?_eq_getElem (by omega)))
  | .tup l, v, ds, j, h, hy, ha => by
    cases v <;> unfold Sk.fit at h <;> first | (cases h; done) | skip
    obtain ⟨vs, h1, h2, h3⟩ := fit_openL hE l h hy ha
    refine ⟨.tup vs, by unfold openSk; rw [run_bind hE, h1]; rfl, fun w g u hcd hr => ?_⟩
    cases hr with
    | tup us _ hl hr =>
      refine .tup us vs (by rw [hl, h2]) fun i u c hu hc => ?_
      have hi := (Array.getElem?_eq_some_iff.1 hu).1
      exact h3 i _ c (List.getElem?_eq_getElem (by omega)) hc w g u hcd (hr i u _ hu (List.getElem?_eq_getElem (by omega)))
  | .own b, v, ds, j, h, hy, _ => by
    cases v <;> unfold Sk.fit at h <;> first | (cases h; done) | skip
    split at h
    · rename_i hd
      obtain ⟨rfl, hd⟩ := of_decide_eq_true hd
      cases h
      exact ⟨.own _, rfl, fun w g u hcd hr => scB_rep hr (by simpa [V.scB] using hd)⟩
    · cases h
  | .ptr b off, v, ds, j, h, hy, _ => by
    cases v <;> unfold Sk.fit at h <;> first | (cases h; done) | skip
    split at h
    · rename_i hd
      obtain ⟨rfl, rfl, hd⟩ := of_decide_eq_true hd
      cases h
      exact ⟨.ptr _ _, rfl, fun w g u hcd hr => scB_rep hr (by simpa [V.scB] using hd)⟩
    · cases h
  | .pel l, v, ds, j, h, hy, ha => by
    cases v <;> unfold Sk.fit at h <;> first | (cases h; done) | skip
    obtain ⟨rfl, h2, h3⟩ := fitDs_same h
    refine ⟨.pel _, ?_, fun w g u hcd hr => belowB_rep (n := n) rfl hr⟩
    unfold openSk
    rw [run_bind hE, openRT_at hE h2 h3 ha, ← h2]
    rfl
  | .pml b sz i off, v, ds, j, h, hy, _ => by
    cases v <;> unfold Sk.fit at h <;> first | (cases h; done) | skip
    split at h
    · rename_i hd
      obtain ⟨rfl, rfl, rfl, rfl, hd⟩ := of_decide_eq_true hd
      cases h
      exact ⟨.pml _ _ _ _, rfl, fun w g u hcd hr => scB_rep hr (by simpa [V.scB] using hd)⟩
    · cases h
  | .nilp, v, ds, j, h, hy, _ => by
    cases v <;> unfold Sk.fit at h <;> first | (cases h; done) | skip
    cases h
    exact ⟨.nilp, rfl, fun w g u hcd hr => belowB_rep (n := n) rfl hr⟩
  | .fn f l, v, ds, j, h, hy, ha => by
    cases v <;> unfold Sk.fit at h <;> first | (cases h; done) | skip
    split at h
    · rename_i hd
      have hd := of_decide_eq_true hd
      subst hd
      obtain ⟨vs, h1, h2, h3⟩ := fit_openL hE l h hy ha
      refine ⟨.fn _ vs, by unfold openSk; rw [run_bind hE, h1]; rfl, fun w g u hcd hr => ?_⟩
      cases hr with
      | fn _ us _ hl hr =>
        refine .fn _ us vs (by rw [hl, h2]) fun i u c hu hc => ?_
        have hi := (Array.getElem?_eq_some_iff.1 hu).1
        exact h3 i _ c (List.getElem?_eq_getElem (by omega)) hc w g u hcd (hr i u _ hu (List.getElem?_eq_getElem (by omega)))
    · cases h
  | .ifn, v, ds, j, h, hy, ha => by
    cases v <;> unfold Sk.fit at h <;> first | (cases h; done) | skip
    rename_i b
    cases h
    refine ⟨.ifn b, ?_, fun w g u hcd hr => belowB_rep (n := n) rfl hr⟩
    unfold openSk
    simp only [Tree.run]
    rw [ha.head]; rfl
  | .nilf, v, ds, j, h, hy, _ => by
    cases v <;> unfold Sk.fit at h <;> first | (cases h; done) | skip
    cases h
    exact ⟨.nilf, rfl, fun w g u hcd hr => belowB_rep (n := n) rfl hr⟩
  | .map b, v, ds, j, h, hy, _ => by
    cases v <;> unfold Sk.fit at h <;> first | (cases h; done) | skip
    split at h
    · rename_i hd
      obtain ⟨rfl, hd⟩ := of_decide_eq_true hd
      cases h
      exact ⟨.map _, rfl, fun w g u hcd hr => scB_rep hr (by simpa [V.scB] using hd)⟩
    · cases h
  | .yld b R, v, ds, j, h, hy, _ => by
    cases v <;> unfold Sk.fit at h <;> first | (cases h; done) | skip
    split at h
    · rename_i hd
      obtain ⟨rfl, hd⟩ := of_decide_eq_true hd
      cases h
      have hy : c _ = some R := hy
      exact ⟨.yld _ R, rfl, fun w g u hcd hr => by cases hr with | yld _ R' hb hc => exact .yld (g := g.cut n) _ R hd (hcd _ _ hy)⟩
    · cases h
  | .osl b sz, v, ds, j, h, _, ha => by
    cases v <;> unfold Sk.fit at h <;> first | (cases h; done) | skip
    rename_i lo k
    split at h
    · rename_i hd
      obtain ⟨rfl, rfl, hd⟩ := of_decide_eq_true hd
      cases h
      refine ⟨.osl _ _ lo k, ?_, fun w g u hcd hr => scB_rep hr (by simpa [V.scB] using hd)⟩
      have e0 : sy.cell full j = some (.int .i64 lo) := ha 0 _ rfl
      have e1 : sy.cell full (j + 1) = some (.int .i64 k) := ha 1 _ rfl
      simp only [openSk, Tree.run, e0, e1, opI, decide_true, Option.bind_some]
      rfl
    · cases h
theorem fit_openL (hE : E.Ok) {n : Nat} {c : Nat → Option RecI} {full : List D} : ∀ (l : List Sk) {vs : List V} {ds : List D} {j : Nat}, Sk.fitL n l vs = some ds → Sk.okYL c l → At full j ds →
    ∃ vs', (openSkL sy l full j).run E = some (vs', j + ds.length) ∧ vs'.length = vs.length ∧ ∀ (i : Nat) v v', vs[i]? = some v → vs'[i]? = some v' → WkY n c v v'
  | [], [], ds, j, h, hy, _ => by
    unfold Sk.fitL at h
    cases h
    exact ⟨[], rfl, rfl, by simp⟩
  | [], _ :: _, ds, j, h, hy, _ => by unfold Sk.fitL at h; cases h
  | _ :: _, [], ds, j, h, hy, _ => by unfold Sk.fitL at h; cases h
  | k :: ks, v :: vs, ds, j, h, hy, ha => by
    unfold Sk.fitL at h
    split at h
    · rename_i a b h1 h2
      cases h
      obtain ⟨v', e1, w1⟩ := fit_open hE k h1 hy.1 ha.left
      obtain ⟨vs', e2, l2, w2⟩ := fit_openL hE ks h2 hy.2 ha.right
      refine ⟨v' :: vs', ?_, by simp [l2], fun i x x' hx hx' => ?_⟩
      · unfold openSkL
        rw [run_bind hE, e1]
        simp only [Option.bind_some]
        rw [run_bind hE, e2]
        simp only [Option.bind_some, Tree.run, List.length_append, Nat.add_assoc]
      · cases i with
        | zero => simp at hx hx'; subst hx; subst hx'; exact w1
        | succ i => exact w2 i x x' (by simpa using hx) (by simpa using hx')
    · cases h
end

theorem bfit_open (hE : E.Ok) {n : Nat} {c : Nat → Option RecI} {full : List D} (sk : BSk) {x : Box} {ds : List D} {j : Nat} (h : BSk.fit n sk x = some ds) (hok : sk.okY c) (ha : At full j ds) : ∃ y, (openBSk sy sk full j).run E = some (y, j + ds.length) ∧ WkBY n c x y := by
  cases sk with
  | gone =>
    have : ds = [] := by cases x <;> (simp only [BSk.fit] at h; cases h; rfl)
    subst this
    exact ⟨.gone, rfl, fun _ _ _ _ _ => trivial, fun g b k hy => by simp [Box.at?] at hy⟩
  | mp kk =>
    cases x <;> simp only [BSk.fit] at h <;> first | (cases h; done) | skip
    split at h
    · rename_i rows _ hd
      have := of_decide_eq_true hd
      subst this
      cases h
      refine ⟨.mp _ rows, ?_, fun w g b _ hr => hr, fun g b k hy => hy⟩
      simp only [openBSk, Tree.run]
      rw [ha.head]
      simp [opL]
    · cases h
  | cells t l =>
    cases x <;> simp only [BSk.fit] at h <;> first | (cases h; done) | skip
    split at h
    · rename_i vs _ hd
      have := CK.fitB_spec hd
      subst this
      obtain ⟨vs', e1, l1, w1⟩ := fit_openL hE l h hok ha
      refine ⟨.cells _ vs', by unfold openBSk; rw [run_bind hE, e1]; rfl, fun w g b hcd hr => ?_, fun g b k hy => hy⟩
      obtain ⟨us, o, q1, q0, q2, q3⟩ := hr
      refine ⟨us, o, q1, q0, by rw [q2, l1], fun i u v hu hv => ?_⟩
      have hi : i < vs.length := by rw [← l1]; exact (List.getElem?_eq_some_iff.1 hv).1
      exact w1 i vs[i] v (List.getElem?_eq_getElem hi) hv w g u hcd (q3 i u _ hu (List.getElem?_eq_getElem hi))
    · cases h
  | arr e sz =>
    cases x <;> simp only [BSk.fit] at h <;> first | (cases h; done) | skip
    split at h
    · rename_i rows _ hd
      obtain ⟨rfl, rfl⟩ := of_decide_eq_true hd
      cases h
      refine ⟨.arr _ _ rows, ?_, fun w g b _ hr => hr, fun g b k hy => hy⟩
      simp only [openBSk, Tree.run]
      rw [ha.head]
      simp [opL]
    · cases h
theorem bfit_openL (hE : E.Ok) {n : Nat} {c : Nat → Option RecI} {full : List D} : ∀ (l : List BSk) {xs : List Box} {ds : List D} {j : Nat}, BSk.fitL n l xs = some ds → (∀ x ∈ l, x.okY c) → At full j ds →
    ∃ ys, (openBL sy l full j).run E = some (ys, j + ds.length) ∧ ys.length = l.length ∧ l.length ≤ xs.length ∧ ∀ (i : Nat) y, ys[i]? = some y → ∃ x, xs[i]? = some x ∧ WkBY n c x y
  | [], xs, ds, j, h, _, _ => by
    have : ds = [] := by cases xs <;> (unfold BSk.fitL at h; cases h; rfl)
    subst this
    exact ⟨[], rfl, rfl, Nat.zero_le _, by simp⟩
  | _ :: _, [], ds, j, h, _, _ => by unfold BSk.fitL at h; cases h
  | k :: ks, x :: xs, ds, j, h, hok, ha => by
    unfold BSk.fitL at h
    split at h
    · rename_i a b h1 h2
      cases h
      obtain ⟨y, e1, w1⟩ := bfit_open hE k h1 (hok k List.mem_cons_self) ha.left
      obtain ⟨ys, e2, l2, l3, w2⟩ := bfit_openL hE ks h2 (fun x hx => hok x (List.mem_cons_of_mem _ hx)) ha.right
      refine ⟨y :: ys, ?_, by simp [l2], by simp; exact l3, fun i y' hy' => ?_⟩
      · unfold openBL
        rw [run_bind hE, e1]
        simp only [Option.bind_some]
        rw [run_bind hE, e2]
        simp only [Option.bind_some, Tree.run, List.length_append, Nat.add_assoc]
      · cases i with
        | zero => simp at hy'; subst hy'; exact ⟨x, rfl, w1⟩
        | succ i => obtain ⟨x', hx, hw⟩ := w2 i y' (by simpa using hy'); exact ⟨x', by simpa using hx, hw⟩
    · cases h

theorem openS_at (hE : E.Ok) {n : Nat} {c : Nat → Option RecI} {full : List D} {t : List V} : ∀ {ls : List (Nat × Sk)} {ds : List D} {j : Nat} {acc : List V}, fitS' n t ls = some ds → (∀ q ∈ ls, q.2.okY c) → At full j ds → acc.length = t.length →
    (∀ (k : Nat) v', acc[k]? = some v' → WkY n c (t.getD k .any) v') → ∃ acc', (openS sy ls full j acc).run E = some (acc', j + ds.length) ∧ acc'.length = t.length ∧ ∀ (k : Nat) v', acc'[k]? = some v' → WkY n c (t.getD k .any) v'
  | [], ds, j, acc, h, _, _, hl, hw => by cases h; exact ⟨acc, rfl, hl, hw⟩
  | (k, sk) :: ls, ds, j, acc, h, hok, ha, hl, hw => by
    unfold fitS' at h
    split at h
    · rename_i a b h1 h2
      cases h
      obtain ⟨v', e1, w1⟩ := fit_open hE sk h1 (hok _ List.mem_cons_self) ha.left
      obtain ⟨acc', e2, l2, w2⟩ := openS_at hE (acc := acc.set k v') h2 (fun q hq => hok q (List.mem_cons_of_mem _ hq)) ha.right (by simpa using hl) (fun i v hv => by
        rw [List.getElem?_set] at hv
        by_cases hi : k = i
        · subst hi
          rw [if_pos rfl] at hv
          split at hv
          · cases hv; exact w1
          · cases hv
        · rw [if_neg hi] at hv; exact hw i v hv)
      refine ⟨acc', ?_, l2, w2⟩
      unfold openS
      rw [run_bind hE, e1]
      simp only [Option.bind_some, e2, List.length_append, Nat.add_assoc]
    · cases h

/-- A state, seen as a head. -/
theorem open_sim (hE : E.Ok) {En : Ent} {hd : Hd} {s : VSt} {ds : List D} {a : Act} {w : World} {len : Nat} (hf : fitHd hd s = some ds) (hok : hd.okY (cdE En)) (hn : En.g.n ≤ hd.boxes.length) (hlen : s.t.length = len) (hs : SimE En s a w) :
    ∃ s1, (openHd sy hd len ds).run E = some s1 ∧ SimE En s1 a w := by
  unfold fitHd at hf
  split at hf
  · rename_i d1 d2 f1 f2
    cases hf
    have hat : At (d1 ++ d2) 0 (d1 ++ d2) := fun i x hx => by rwa [Nat.zero_add]
    obtain ⟨ts, e1, l1, w1⟩ := openS_at hE (acc := List.replicate len .any) f1 hok.1 hat.left (by simp [hlen]) (fun k v' hv => by
      have := List.eq_of_mem_replicate (List.mem_of_getElem? hv); subst this; exact fun _ _ u _ _ => .any u)
    obtain ⟨ys, e2, l2, l3, w2⟩ := bfit_openL hE hd.boxes f2 hok.2 hat.right
    refine ⟨⟨ts, ys⟩, ?_, ?_⟩
    · unfold openHd
      rw [run_bind hE, e1]
      simp only [Option.bind_some]
      rw [run_bind hE, e2]
      rfl
    · obtain ⟨g, hs⟩ := hs
      have hcd : ∀ b x, cdE En b = some x → g.rc b = some x := fun b x => cdE_spec hs
      have hown : ∀ k, Owned (g.cut hd.boxes.length) ys k → Owned g s.h k := by
        rintro k ⟨b, y, hy, hat⟩
        obtain ⟨x, hx, hw⟩ := w2 b y hy
        exact ⟨b, x, hx, hw.2 g b k hat⟩
      refine ⟨g.cut hd.boxes.length, ⟨by simp [Gh.cut, l2], fun b y hy => ?_, fun b c y z k hb hc hat hat' => ?_, fun k o hk hz => hs.heap.zsep k o (hown k hk) hz, hs.heap.zlt, hs.heap.tab⟩, by rw [hs.size, l1], fun i u v hu hv => ?_, hs.defers.less hown rfl, ?_, by rw [l1]; exact hs.len⟩
      · obtain ⟨x, hx, hw⟩ := w2 b y hy
        exact hw.1 w g b hcd (hs.heap.rep b x hx)
      · obtain ⟨x, hx, hw⟩ := w2 b y hb
        obtain ⟨x', hx', hw'⟩ := w2 c z hc
        exact hs.heap.sep b c x x' k hx hx' (hw.2 g b k hat) (hw'.2 g c k hat')
      · have hi : i < s.t.length := by rw [← l1]; exact (List.getElem?_eq_some_iff.1 hv).1
        exact w1 i v hv w g u hcd (hs.tmps i u _ hu (by rw [List.getD_eq_getElem?_getD, List.getElem?_eq_getElem hi]; rfl))
      · obtain ⟨k1, k2, k3, k4⟩ := hs.keep
        exact ⟨⟨k1.Z, hn, k1.blk, k1.val, k1.cd⟩, k2, k3, fun k hk => k4 k (hown k hk)⟩
  · cases hf

def EnvN (E : Env) : Prop := ∃ n, ∀ {α : Type} (b : List D → Option (List D ⊕ α)) (ds : List D), E.lp b ds = iterN n b ds

theorem map_inj' {α β : Type} {f : α → β} (hf : ∀ x y, f x = f y → x = y) : ∀ {l m : List α}, l.map f = m.map f → l = m
  | [], [], _ => rfl
  | [], _ :: _, h => by cases h
  | _ :: _, [], h => by cases h
  | x :: l, y :: m, h => by
    simp only [List.map_cons, List.cons.injEq] at h
    rw [hf x y h.1, map_inj' hf h.2]
/-- A loop over a function whose rounds are told. -/
theorem range_sound {En : Ent} {s : VSt} {a : Act} {w : World} {g : Gh} {y : Operand} {f : FuncId} {caps : List V} {ps : Array Tmp} {assign body : Code} {me : FuncId} {r1 : List Nat × V × List Box} {r : Exit × VSt}
    (hs : Sim En s a w g) (hy : s.get y = .fn f caps) (hg : goodF P f = true)
    (hcall : HCall P r1.1 f (.yld s.h.length ⟨me, ps, assign, body⟩ :: caps) (s.h ++ [.cells (.rcd .ready) s.t]) r1.2.1 r1.2.2)
    (hk : Tree.run E (match okM En.g.n En.M r1.1 && !r1.1.contains s.h.length, r1.2.2[s.h.length]? with
        | true, some (.cells (.rcd .ready) vs) => .ret (.normal, ⟨vs, r1.2.2.set s.h.length .gone⟩)
        | true, some (.cells (.rcd (.done .ret)) vs) => .ret (.ret, ⟨vs, r1.2.2.set s.h.length .gone⟩)
        | true, some (.cells (.rcd (.done (.exit id))) vs) => .ret (.exit id, ⟨vs, r1.2.2.set s.h.length .gone⟩)
        | _, _ => .fail) = some r) :
    (Code.rangeFunc y ps assign body).wpIn (Fw none) 0 P (fun e a' w' => e = r.1 ∧ SimE En r.2 a' w') a w := by
  refine wpIn_rangeFunc fun fn _ => ?_
  have hn : g.n = s.h.length := hs.heap.n
  let rec0 : Loop := { state := .ready, pending := none, fn := fn, tmps := a.tmps, params := ps, assign := assign, body := body, defers := w.heap.size }
  let w1 : World := (w.alloc (.deferred (some []))).alloc (.loop rec0)
  let R : RecI := ⟨me, ps, assign, body⟩
  let G : RecG := ⟨R, a.tmps⟩
  let g1 : Gh := g.push (w.heap.size + 1) undef (some G)
  have hr := hs.get y
  rw [hy] at hr
  generalize hu0 : a.eval y = u0 at hr
  cases hr with
  | fn _ us _ hl hcap =>
  have hsz1 : w1.heap.size = w.heap.size + 2 := by show ((w.heap.push _).push _).size = _; simp
  have hD1 : w1.heap[w.heap.size]? = some (.deferred (some [])) := by show ((w.heap.push _).push _)[w.heap.size]? = _; rw [Array.getElem?_push, if_neg (by simp), Array.getElem?_push, if_pos rfl]
  have hL1 : w1.heap[w.heap.size + 1]? = some (.loop rec0) := by show ((w.heap.push _).push _)[w.heap.size + 1]? = _; rw [Array.getElem?_push, if_pos (by simp)]
  have hfr1 : Fr (fun _ => False) w w1 := ⟨rfl, rfl, rfl, by omega, fun k hk _ => by show ((w.heap.push _).push _)[k]? = _; rw [Array.getElem?_push, if_neg (by simp; omega), Array.getElem?_push, if_neg (by omega)]⟩
  have hb1 : g1.blk g.n = w.heap.size + 1 := by simp [g1, Gh.push]
  have hc1 : g1.cd g.n = some G := by simp [g1, Gh.push]
  have ho1 : Over [] w g w1 g1 := ⟨g.push_le _ _ _, fun b o hz => hfr1.cell (hs.heap.zlt b o hz) (fun h => h)⟩
  have hk1 : Keep [] g s.h w g1 (s.h ++ [.cells (.rcd .ready) s.t]) w1 :=
    Keep.push hs.heap _ _ _ hfr1 ⟨a.tmps, _, by rw [show (g.push (w.heap.size + 1) undef (some G)).blk g.n = _ from hb1]; exact hL1, ⟨fn, w.heap.size, G, hc1, rfl, rfl⟩, hs.size, fun i u v hu hv => ho1.repC_nil (hs.tmps i u v hu hv)⟩
      (fun k' hk' => by simp only [Box.at?, Option.some.injEq] at hk'; rw [show (g.push (w.heap.size + 1) undef (some G)).blk g.n = _ from hb1] at hk'; omega)
  have hDo : ¬ Owned g1 (s.h ++ [.cells (.rcd .ready) s.t]) w.heap.size := by
    rintro ⟨b, x, hx, hat⟩
    rcases hk1.own _ ⟨b, x, hx, hat⟩ with q | q
    · have := hs.heap.owned_lt q; omega
    · rw [List.getElem?_append] at hx
      split at hx
      · rename_i hlt
        have hbn : b < g.n := by omega
        rw [Box.at?_congr ((g.push_le _ _ _).blk b hbn (by simp)) ((g.push_le _ _ _).val b hbn (by simp))] at hat
        have := (hs.heap.rep b x hx).lt hat
        omega
      · rename_i hlt
        have hb0 : b - s.h.length = 0 := by
          rcases Nat.eq_zero_or_pos (b - s.h.length) with h0 | h0
          · exact h0
          · rw [List.getElem?_eq_none (by simp; omega)] at hx; cases hx
        rw [hb0] at hx
        simp at hx
        subst hx
        have hbn : b = g.n := by omega
        subst hbn
        simp only [Box.at?, Option.some.injEq, hb1] at hat
        omega
  refine ⟨w.heap.size + 1, [{ target := .collected w.heap.size, args := #[] }], w1, { target := .fn (.func f) us, args := #[.func (.yield (w.heap.size + 1)) #[] #[]] }, w1, f,
    #[.func (.yield (w.heap.size + 1)) #[] #[]] ++ us, w1, run_enterLoop_outer _ _ _ _ _, ?_, fun _ _ => trivial, ?_, fun h => by simp [Fw, Fence.wide] at h, ?_⟩
  · simp only [resolve, hu0]
    simp [go_sem]
  · simp [invoke, go_sem, run_callFunc hg]
  · refine callsIn_Fw.2 ?_
    have hargs : Reps w1 g1 (.func (.yield (w.heap.size + 1)) #[] #[] :: us.toList) (.yld s.h.length R :: caps) := by
      refine ⟨by simp [hl], fun i u v h1 h2 => ?_⟩
      cases i with
      | zero =>
        simp at h1 h2; subst h1; subst h2
        have := Rep.yld (w := w1) (g := g1) g.n R (by simp [g1, Gh.push]) (by unfold Gh.rc; rw [hc1]; rfl)
        rwa [hb1, hn] at this
      | succ i => simp at h1 h2; exact ho1.repC_nil (hcap i u v h1 h2)
    have hc := hcall g1 w1 _ hk1.heap hargs
    have e0 : (Value.func (.yield (w.heap.size + 1)) #[] #[] :: us.toList).toArray = #[.func (.yield (w.heap.size + 1)) #[] #[]] ++ us := by apply Array.ext'; simp
    rw [e0] at hc
    refine hc.mono ?_
    rintro _ w2 ⟨u, g2, rfl, hru, hk2⟩
    -- the frame, with the mark
    let a' : Act := { a with defers := [{ target := .collected w.heap.size, args := #[] }] ++ a.defers }
    have hs1 : Sim En ⟨s.t, s.h ++ [.cells (.rcd .ready) s.t]⟩ a' w1 g1 := by
      refine ⟨hk1.heap, hs.size, fun i u v hu hv => ho1.repC_nil (hs.tmps i u v hu hv), ?_, hs.step hk1 (by simp [okM]), hs.len⟩
      obtain ⟨Ds, d1, d2, d3⟩ := hs.defers.keep hk1
      refine ⟨w.heap.size :: Ds, by simp [a', d1], List.nodup_cons.2 ⟨fun hm => ?_, d2⟩, fun D hD => ?_⟩
      · obtain ⟨Ds', e1, _, e3⟩ := hs.defers
        have : Ds' = Ds := by
          have := e1.symm.trans d1
          exact map_inj' (fun x y h => by simpa using h) this
        subst this
        have := (Array.getElem?_eq_some_iff.1 (e3 _ hm).2.1).1
        omega
      · rcases List.mem_cons.1 hD with rfl | hD
        · refine ⟨hs.keep.2.1.size, hD1, hDo, fun o hz => ?_⟩
          have := hs.heap.zlt _ o hz
          omega
        · exact d3 D hD
    have fin : ∀ (st : RSt) (vs : List V), (okM En.g.n En.M r1.1 && !r1.1.contains s.h.length) = true → r1.2.2[s.h.length]? = some (.cells (.rcd st) vs) → st.state ≠ .busy →
        ∃ w4, (Instr.endLoop (w.heap.size + 1)).run P w2 = .ok st.pend w4 ∧ SimE En ⟨vs, r1.2.2.set s.h.length .gone⟩ a' w4 := by
      intro st vs hM hbx hst
      simp only [Bool.and_eq_true, Bool.not_eq_true', List.contains_eq_mem, decide_eq_false_iff_not] at hM
      have hgn : g1.n = g.n + 1 := rfl
      have hb2 : g2.blk s.h.length = w.heap.size + 1 := by rw [hk2.le.blk _ (by omega) hM.2, ← hn, hb1]
      obtain ⟨us2, o2, q1, ⟨fn2, D2, x2, q2, q2', rfl⟩, q3, q4⟩ := hk2.heap.rep _ _ hbx
      have hx2 : x2 = G := by
        have h1 := hk2.le.cd s.h.length (by omega)
        rw [← hn] at h1 q2
        rw [h1, hc1] at q2
        exact (Option.some.inj q2).symm
      subst hx2
      subst q2'
      have q1' := q1
      rw [hb2] at q1
      have hs2 := hs1.next hk2 hM.1 hru none
      refine ⟨_, run_endLoop q1 hst, ?_⟩
      generalize hw4 : w2.putObj (w.heap.size + 1) _ = w4
      have hfr : Fr (fun k => (Box.cells (.rcd st) vs).at? g2 s.h.length = some k) w2 w4 := by
        rw [← hw4]
        refine ⟨rfl, rfl, rfl, by simp, fun k hk hnk => World.putObj_heap_other fun e => hnk ?_⟩
        simp only [Box.at?, hb2, e]
      have hk3 := Keep.turn (y := .gone) hk2.heap hbx [] (.inl ⟨rfl, rfl⟩) rfl rfl rfl (fun _ _ => ⟨rfl, rfl⟩) hfr trivial (fun k hk => by simp [Box.at?] at hk)
      rw [map_kill_nil] at hk3
      have ho3 := hk3.over hk2.heap
      refine ⟨g2, hk3.heap, by rw [← q3], fun i u v hu hv => ho3.repC_nil (q4 i u v hu hv), hs2.defers.keep hk3, hs2.step hk3 (by simp [okM]), ?_⟩
      rw [← hs.len]
      show vs.length = s.t.length
      rw [← q3, ← hs.size]
    show rangePost _ _ _ _ _ _ _ _
    split at hk
    · rename_i vs hM hbx
      obtain ⟨w4, e1, hs4⟩ := fin _ _ hM hbx (by simp [RSt.state])
      cases hk
      exact ⟨none, w4, e1, rfl, hs4⟩
    · rename_i vs hM hbx
      obtain ⟨w4, e1, hs4⟩ := fin _ _ hM hbx (by simp [RSt.state])
      cases hk
      exact ⟨some .ret, w4, e1, wpIn_ret ⟨rfl, hs4⟩⟩
    · rename_i id vs hM hbx
      obtain ⟨w4, e1, hs4⟩ := fin _ _ hM hbx (by simp [RSt.state])
      cases hk
      exact ⟨some (.exit id), w4, e1, wpIn_exit ⟨rfl, hs4⟩⟩
    · cases hk

/-- THE EVALUATOR IS SOUND. -/
theorem least {p : Nat → Prop} (h : ∃ n, p n) : ∃ n, p n ∧ ∀ m, m < n → ¬ p m := by
  obtain ⟨n, hn⟩ := h
  induction n using Nat.strongRecOn with
  | _ n ih =>
    by_cases hx : ∃ m, m < n ∧ p m
    · obtain ⟨m, hm, hp⟩ := hx
      exact ih m hm hp
    · exact ⟨n, hn, fun m hm hp => hx ⟨m, hm, hp⟩⟩
theorem jump_mono {l : Nat} {J J' : Act → World → Prop} {Q : Exit → Act → World → Prop} (h : ∀ a w, J a w → J' a w) : ∀ e a w, Exit.jump l J Q e a w → Exit.jump l J' Q e a w := by
  intro e a w hq
  cases e <;> first | exact hq | exact ⟨hq.1, h _ _ hq.2⟩
theorem wp_scope_rounds {c rest : Code} {a : Act} {w : World} {Q : Exit → Act → World → Prop} (l : Nat) (J : Nat → Act → World → Prop) (hf : findLabel c l = some rest)
    (first : c.wp P (Exit.jump l (fun a w => ∃ n, J n a w) Q) a w)
    (pass : ∀ n a w, J n a w → rest.wp P (Exit.jump l (fun a' w' => ∃ m, m < n ∧ J m a' w') Q) a w) : (Code.scope c).wp P Q a w := by
  have hl : ∀ a w, ∃ k, (∃ n, J n a w) → J k a w ∧ ∀ m, m < k → ¬ J m a w := fun a w => by
    by_cases h : ∃ n, J n a w
    · obtain ⟨k, h1, h2⟩ := least h
      exact ⟨k, fun _ => ⟨h1, h2⟩⟩
    · exact ⟨0, fun h' => (h h').elim⟩
  refine wp_scope_jumps l (fun a w => ∃ n, J n a w) (fun a w => Classical.choose (hl a w)) hf first fun a w hJ => ?_
  have hs := Classical.choose_spec (hl a w) hJ
  refine wp_mono (pass _ a w hs.1) (jump_mono fun a' w' ⟨m, hm, hj⟩ => ⟨⟨m, hj⟩, ?_⟩)
  have hs' := Classical.choose_spec (hl a' w') ⟨m, hj⟩
  have : ¬ m < Classical.choose (hl a' w') := fun h => hs'.2 m h hj
  show Classical.choose (hl a' w') < Classical.choose (hl a w)
  omega
def spineOf (C : CfgT) : Code → Option (Nat × Code)
  | .seq x y => match labX C x with
    | some (l, _) => some (l, y)
    | none => match flatX x with
      | true => spineOf C y
      | false => none
  | _ => none
theorem labX_some {C : CfgT} {x : Code} {l : Nat} {an : LAn} (h : labX C x = some (l, an)) : x = .label l ∧ C.labs l = some an := by
  unfold labX at h
  split at h
  · split at h
    · cases h; exact ⟨rfl, by assumption⟩
    · cases h
  · cases h
theorem spine_label {C : CfgT} : ∀ {c : Code} {l : Nat} {y : Code}, spineOf C c = some (l, y) → findLabel c l = some (.seq .skip y) := by
  intro c
  induction c with
  | seq x z ihx ihz =>
    intro l y h
    unfold spineOf at h
    split at h
    · rename_i l' an hx
      cases h
      obtain ⟨rfl, _⟩ := labX_some hx
      simp [findLabel]
    · split at h
      · rename_i hfx
        have : findLabel x l = none := by cases x <;> simp [flatX] at hfx <;> rfl
        simp only [findLabel, this]
        exact ihz h
      · cases h
  | _ => intro l y h; cases h
/-- What holds where a label is jumped back to. -/
def JumpAt (P : Program) (E : Env) (inR : Bool) (C : CfgT) (ent : Callee → List V → List Box → Tree (List Nat × V × List Box)) (En : Ent) (b l : Nat) (y : Code) (r : Exit × VSt) (k : Nat) (a : Act) (w : World) : Prop :=
  ∃ hd, En.g.n ≤ hd.boxes.length ∧ hd.okY (cdE En) ∧ ∃ ds s1, iterN k (fun ds : List D => Tree.run E ((openHd sy hd En.len ds).bind fun s1 => forceL s1.t fun t => (codeT sy P inR C ent En.g.n En.M false b y ⟨t, s1.h⟩).bind (endG l hd))) ds = some r ∧ fitHd hd s1 = some ds ∧ SimE En s1 a w
theorem jump_pass {inR : Bool} {ro : Option Nat} (hE : E.Ok) {C : CfgT} {ent : Callee → List V → List Box → Tree (List Nat × V × List Box)} {En : Ent} {y : Code} {b l : Nat} {r : Exit × VSt}
    (ih : ∀ (b : Nat) (s : VSt) (a : Act) (w : World) (r : Exit × VSt), (codeT sy P inR C ent En.g.n En.M false b y s).run E = some r → SimE En s a w → y.wpIn (Fw ro) 0 P (fun e a' w' => e = r.1 ∧ SimE En r.2 a' w') a w)
    (k : Nat) (a : Act) (w : World) (hJ : JumpAt P E inR C ent En b l y r k a w) :
    y.wpIn (Fw ro) 0 P (fun e a' w' => (e = r.1 ∧ SimE En r.2 a' w') ∨ (e = .goto l ∧ ∃ m, m < k ∧ JumpAt P E inR C ent En b l y r m a' w')) a w := by
  obtain ⟨hd, hd0, hok, ds, s1, hi, hf, hs1⟩ := hJ
  generalize hbody : (fun ds : List D => Tree.run E ((openHd sy hd En.len ds).bind fun s1 => forceL s1.t fun t => (codeT sy P inR C ent En.g.n En.M false b y ⟨t, s1.h⟩).bind (endG l hd))) = body at hi
  cases k with
  | zero => cases hi
  | succ k =>
    simp only [iterN] at hi
    obtain ⟨s2, e1, hs2⟩ := open_sim (len := En.len) hE hf hok hd0 hs1.len hs1
    have hb : body ds = Tree.run E ((codeT sy P inR C ent En.g.n En.M false b y s2).bind (endG l hd)) := by
      rw [← hbody]
      simp only
      rw [run_bind hE, e1]
      simp only [Option.bind_some, forceL_eq]
    rw [hb] at hi
    cases hq : Tree.run E ((codeT sy P inR C ent En.g.n En.M false b y s2).bind (endG l hd)) with
    | none => rw [hq] at hi; cases hi
    | some q =>
      rw [hq] at hi
      obtain ⟨r1, h1, h2⟩ := run_bind_some hE hq
      refine wpIn_mono (ih b s2 a w r1 h1 hs2) fun e a' w' ⟨he, hs'⟩ => ?_
      subst he
      obtain ⟨e, s'⟩ := r1
      cases e with
      | goto l' =>
        simp only [endG] at h2
        split at h2
        · rename_i ds' hl hf'
          have hl := of_decide_eq_true hl
          subst hl
          cases h2
          refine .inr ⟨rfl, k, Nat.lt_succ_self k, hd, hd0, hok, ds', _, ?_, hf', hs'⟩
          rw [hbody]; exact hi
        · cases h2
      | _ => cases h2; cases hi; exact .inl ⟨rfl, hs'⟩
theorem codeT_soundJ {inR : Bool} {ro : Option Nat} (hro : inR = false → ro = none) (hE : E.Ok) (hN : EnvN E) (hG : EnvGood P E) {C : CfgT} {ent : Callee → List V → List Box → Tree (List Nat × V × List Box)} (hent : EntGood P E ent) {En : Ent} (hm : P.follows .mixedOrders = true) :
    ∀ (c : Code), (∀ (sc : Bool) (b : Nat) (s : VSt) (a : Act) (w : World) (r : Exit × VSt), (codeT sy P inR C ent En.g.n En.M sc b c s).run E = some r → SimE En s a w →
    c.wpIn (Fw ro) 0 P (fun e a' w' => (e = r.1 ∧ SimE En r.2 a' w') ∨ (sc = true ∧ ∃ l y, spineOf C c = some (l, y) ∧ e = .goto l ∧ ∃ k, JumpAt P E inR C ent En b l y r k a' w')) a w) ∧
    (∀ l y, spineOf C c = some (l, y) → ∀ (b : Nat) (s : VSt) (a : Act) (w : World) (r : Exit × VSt), (codeT sy P inR C ent En.g.n En.M false b y s).run E = some r → SimE En s a w → y.wpIn (Fw ro) 0 P (fun e a' w' => e = r.1 ∧ SimE En r.2 a' w') a w) := by
  have noJ : ∀ {sc : Bool} {e : Exit} {X Y : Prop}, sc = false → (X ∨ (sc = true ∧ Y)) → X := fun h hx => by
    rcases hx with hx | ⟨h1, _⟩
    · exact hx
    · rw [h] at h1; cases h1
  intro c
  induction c with
  | skip => exact ⟨fun sc b s a w r hk hs => by cases hk; exact wpIn_skip (.inl ⟨rfl, hs⟩), fun l y h => by cases h⟩
  | region id ops draw =>
    refine ⟨fun sc b s a w r hk hs => ?_, fun l y h => by cases h⟩
    unfold codeT at hk
    cases draw with
    | false =>
      obtain ⟨s', h1, hk⟩ := run_bind_some hE hk
      cases hk
      exact wpIn_region_list (opsT_sound hE hG hent _ (Nat.le_refl _) h1 hs fun a' w' hs' => .inl ⟨rfl, hs'⟩)
    | true =>
      obtain ⟨s', h1, hk⟩ := run_bind_some hE hk
      cases hk
      exact drawT_sound hE hG hent hm h1 hs fun a' w' hs' => .inl ⟨rfl, hs'⟩
  | seq x y ihx ihy =>
    have ihx0 : ∀ (b : Nat) (s : VSt) (a : Act) (w : World) (r : Exit × VSt), (codeT sy P inR C ent En.g.n En.M false b x s).run E = some r → SimE En s a w → x.wpIn (Fw ro) 0 P (fun e a' w' => e = r.1 ∧ SimE En r.2 a' w') a w :=
      fun b s a w r hk hs => wpIn_mono (ihx.1 false b s a w r hk hs) fun e a' w' h => noJ (e := e) rfl h
    have ihy0 : ∀ (b : Nat) (s : VSt) (a : Act) (w : World) (r : Exit × VSt), (codeT sy P inR C ent En.g.n En.M false b y s).run E = some r → SimE En s a w → y.wpIn (Fw ro) 0 P (fun e a' w' => e = r.1 ∧ SimE En r.2 a' w') a w :=
      fun b s a w r hk hs => wpIn_mono (ihy.1 false b s a w r hk hs) fun e a' w' h => noJ (e := e) rfl h
    refine ⟨fun sc b s a w r hk hs => ?_, fun l z h => ?_⟩
    · unfold codeT at hk
      split at hk
      · rename_i l an hlab
        have hsc : sc = true ∧ labX C x = some (l, an) := by cases sc <;> simp [labS] at hlab <;> simp [hlab]
        obtain ⟨rfl, hx⟩ := hsc
        have hsp : spineOf C (.seq x y) = some (l, y) := by unfold spineOf; rw [hx]
        obtain ⟨rfl, _⟩ := labX_some hx
        simp only at hk
        generalize hhd : headS En.g.n an s = hd at hk
        split at hk
        · rename_i ds0 hd0 hf0
          simp only [Bool.and_eq_true, decide_eq_true_eq] at hd0
          obtain ⟨⟨hd0, hyB⟩, hann⟩ := hd0
          have hok : hd.okY (cdE En) := by rw [← hhd] at hyB ⊢; exact headS_okY hs hyB hann
          simp only [Tree.run] at hk
          obtain ⟨n, hn⟩ := hN
          rw [hn, hs.len] at hk
          refine wpIn_seq (wpIn_label ?_)
          have hJ : JumpAt P E inR C ent En b l y r n a w := ⟨hd, hd0, hok, ds0, s, hk, hf0, hs⟩
          refine wpIn_mono (jump_pass hE ihy0 n a w hJ) fun e a' w' h => ?_
          rcases h with h | ⟨he, m, _, hJ⟩
          · exact .inl h
          · exact .inr ⟨rfl, l, y, hsp, he, m, hJ⟩
        · cases hk
      · rename_i hlab
        have key : ∀ (s' : VSt) (a' : Act) (w' : World), (codeT sy P inR C ent En.g.n En.M (sc && flatX x) b y s').run E = some r → SimE En s' a' w' →
            y.wpIn (Fw ro) 0 P (fun e a' w' => (e = r.1 ∧ SimE En r.2 a' w') ∨ (sc = true ∧ ∃ l z, spineOf C (.seq x y) = some (l, z) ∧ e = .goto l ∧ ∃ k, JumpAt P E inR C ent En b l z r k a' w')) a' w' := by
          intro s' a' w' hk hs'
          refine wpIn_mono (ihy.1 _ b s' a' w' r hk hs') fun e a2 w2 h => ?_
          rcases h with h | ⟨hsc, l, z, hsp, he⟩
          · exact .inl h
          · simp only [Bool.and_eq_true] at hsc
            refine .inr ⟨hsc.1, l, z, ?_, he⟩
            have hl : labX C x = none := by rw [hsc.1] at hlab; exact hlab
            unfold spineOf
            rw [hl, hsc.2]; exact hsp
        split at hk
        · obtain ⟨r1, h1, hk⟩ := run_bind_some hE hk
          refine wpIn_seq (wpIn_mono (ihx0 b s a w r1 h1 hs) fun e a' w' ⟨he, hs'⟩ => ?_)
          subst he
          obtain ⟨e, s'⟩ := r1
          cases e with
          | normal => exact key s' a' w' hk hs'
          | _ => cases hk; exact .inl ⟨rfl, hs'⟩
        · rename_i an _
          simp only at hk
          split at hk
          · rename_i hd
            simp only [Bool.and_eq_true, decide_eq_true_eq] at hd
            obtain ⟨⟨hd, hyB⟩, hann⟩ := hd
            have hok := headS_okY hs hyB hann
            simp only [Tree.run] at hk
            obtain ⟨q, h1, hk⟩ := Option.bind_eq_some_iff.1 hk
            obtain ⟨r1, h1, h2⟩ := run_bind_some hE h1
            refine wpIn_seq (wpIn_mono (ihx0 b s a w r1 h1 hs) fun e a' w' ⟨he, hs'⟩ => ?_)
            subst he
            obtain ⟨e, s'⟩ := r1
            cases e with
            | normal =>
              simp only [endR] at h2
              split at h2
              · rename_i ds hf
                cases h2
                simp only at hk
                have hlen : s'.t.length = s.t.length := by rw [hs'.len, hs.len]
                obtain ⟨s1, e1, hs1⟩ := open_sim hE hf hok hd hlen hs'
                obtain ⟨s2, e2, hk⟩ := run_bind_some hE hk
                rw [e1] at e2; cases e2
                rw [forceL_eq] at hk
                exact key s1 a' w' hk hs1
              · cases h2
            | _ => cases h2; cases hk; exact .inl ⟨rfl, hs'⟩
          · cases hk
    · unfold spineOf at h
      split at h
      · cases h; exact ihy0
      · split at h
        · exact ihy.2 l z h
        · cases h
  | cond c x y ihx ihy =>
    refine ⟨fun sc b s a w r hk hs => ?_, fun l y h => by cases h⟩
    unfold codeT at hk
    split at hk
    · rename_i t ht
      obtain ⟨g, hs'⟩ := hs
      have e1 := rep_bool_inv (ht ▸ hs'.get c)
      cases t with
      | true => exact wpIn_cond_true e1 (wpIn_mono (ihx.1 false b _ a w r hk (setC_sim ⟨g, hs'⟩ ht)) fun e a' w' h => .inl (noJ (e := e) rfl h))
      | false => exact wpIn_cond_false e1 (wpIn_mono (ihy.1 false b _ a w r hk (setC_sim ⟨g, hs'⟩ ht)) fun e a' w' h => .inl (noJ (e := e) rfl h))
    · cases hk
  | block id c ih0 =>
    have ih := fun b s a w r hk hs => wpIn_mono (ih0.1 false b s a w r hk hs) fun e a' w' h => noJ (e := e) rfl h
    refine ⟨fun sc b s a w r hk hs => ?_, fun l y h => by cases h⟩
    unfold codeT at hk
    obtain ⟨r1, h1, hk⟩ := run_bind_some hE hk
    cases hk
    refine wpIn_block (wpIn_mono (ih id s a w r1 h1 hs) fun e a' w' ⟨he, hs'⟩ => ?_)
    subst he
    obtain ⟨e, s'⟩ := r1
    cases e with
    | exit id' =>
      simp only [Exit.inBlock, inBl]
      split
      · rename_i hd; rw [decide_eq_true hd]; exact .inl ⟨rfl, hs'⟩
      · rename_i hd; rw [decide_eq_false hd]; exact .inl ⟨rfl, hs'⟩
    | _ => exact .inl ⟨rfl, hs'⟩
  | loop c ih0 =>
    have ih := fun b s a w r hk hs => wpIn_mono (ih0.1 false b s a w r hk hs) fun e a' w' h => noJ (e := e) rfl h
    refine ⟨fun sc b s a w r hk hs => ?_, fun l y h => by cases h⟩
    unfold codeT at hk
    simp only at hk
    have hs := (((hs.frzs (bs := (C.loops b).ice)).mintB (P := P) (C.loops b).own).soleS (C.loops b).sole).datB (P := P) (C.loops b).dat
    generalize datB P (soleS (C.loops b).sole (mintB P (s.frz (C.loops b).ice) (C.loops b).own)) (C.loops b).dat = s0 at hk hs
    generalize hhd : headS En.g.n (C.loops b) s0 = hd at hk
    split at hk
    · rename_i ds0 hd0 hf0
      simp only [Bool.and_eq_true, decide_eq_true_eq] at hd0
      obtain ⟨⟨hd0, hyB⟩, hann⟩ := hd0
      have hok : hd.okY (cdE En) := by rw [← hhd] at hyB ⊢; exact headS_okY hs hyB hann
      simp only [Tree.run] at hk
      obtain ⟨n, hn⟩ := hN
      rw [hn] at hk
      generalize hbody : (fun ds : List D => Tree.run E ((openHd sy hd s0.t.length ds).bind fun s1 => forceL s1.t fun t => (codeT sy P inR C ent En.g.n En.M false b c ⟨t, s1.h⟩).bind fun r => endR hd (r.1, datB P r.2 (C.loops b).dat))) = body at hk
      have hlen := hs.len
      refine wpIn_rounds (fun k a w => ∃ ds s1, iterN k body ds = some r ∧ fitHd hd s1 = some ds ∧ SimE En s1 a w) n ⟨ds0, s0, hk, hf0, hs⟩ ?_
      rintro k a w ⟨ds, s1, hi, hf, hs1⟩
      cases k with
      | zero => cases hi
      | succ k =>
        simp only [iterN] at hi
        obtain ⟨s2, e1, hs2⟩ := open_sim (len := s0.t.length) hE hf hok hd0 (by rw [hs1.len, hlen]) hs1
        have hb : body ds = Tree.run E ((codeT sy P inR C ent En.g.n En.M false b c s2).bind fun r => endR hd (r.1, datB P r.2 (C.loops b).dat)) := by
          rw [← hbody]
          simp only
          rw [run_bind hE, e1]
          simp only [Option.bind_some, forceL_eq]
        rw [hb] at hi
        cases hq : Tree.run E ((codeT sy P inR C ent En.g.n En.M false b c s2).bind fun r => endR hd (r.1, datB P r.2 (C.loops b).dat)) with
        | none => rw [hq] at hi; cases hi
        | some q =>
          rw [hq] at hi
          obtain ⟨r1, h1, h2⟩ := run_bind_some hE hq
          refine wpIn_mono (ih b s2 a w r1 h1 hs2) fun e a' w' ⟨he, hs'⟩ => ?_
          subst he
          obtain ⟨e, s'⟩ := r1
          cases e with
          | normal =>
            simp only [endR] at h2
            split at h2
            · rename_i ds' hf'
              cases h2
              exact ⟨k, Nat.lt_succ_self k, ds', _, hi, hf', hs'.datB (P := P) (C.loops b).dat⟩
            · cases h2
          | _ => cases h2; cases hi; exact .inl ⟨rfl, hs'.datB (P := P) (C.loops b).dat⟩
    · cases hk
  | exit id => exact ⟨fun sc b s a w r hk hs => by cases hk; exact wpIn_exit (.inl ⟨rfl, hs⟩), fun l y h => by cases h⟩
  | ret => exact ⟨fun sc b s a w r hk hs => by cases hk; exact wpIn_ret (.inl ⟨rfl, hs⟩), fun l y h => by cases h⟩
  | label l => exact ⟨fun sc b s a w r hk hs => by cases hk; exact wpIn_label (.inl ⟨rfl, hs⟩), fun l y h => by cases h⟩
  | goto l => exact ⟨fun sc b s a w r hk hs => by cases hk; exact wpIn_goto (.inl ⟨rfl, hs⟩), fun l y h => by cases h⟩
  | scope c ih =>
    refine ⟨fun sc b s a w r hk hs => ?_, fun l y h => by cases h⟩
    unfold codeT at hk
    cases inR with
    | true => cases hk
    | false =>
      have hro := hro rfl
      subst hro
      obtain ⟨r1, h1, hk⟩ := run_bind_some hE hk
      have h0 := ih.1 true b s a w r1 h1 hs
      obtain ⟨e0, s0⟩ := r1
      have hr : r = (e0, s0) ∧ ∀ l, e0 ≠ .goto l := by cases e0 <;> first | (cases hk; exact ⟨rfl, by simp⟩) | cases hk
      obtain ⟨rfl, hng⟩ := hr
      cases hsp : spineOf C c with
      | none =>
        refine wpIn_wide.2 (wp_scope_straight (wpIn_wide.1 (wpIn_mono h0 fun e a' w' h => ?_)))
        rcases h with ⟨he, hs'⟩ | ⟨_, l, y, h, _⟩
        · subst he
          cases e <;> first | exact .inl ⟨rfl, hs'⟩ | exact (hng _ rfl).elim
        · rw [hsp] at h; cases h
      | some ly =>
        obtain ⟨l, y⟩ := ly
        refine wpIn_wide.2 (wp_scope_rounds l (JumpAt P E false C ent En b l y (e0, s0)) (spine_label hsp) (wpIn_wide.1 (wpIn_mono h0 fun e a' w' h => ?_)) fun k a' w' hJ => ?_)
        · rcases h with ⟨he, hs'⟩ | ⟨_, l', y', h, he, hJ⟩
          · subst he
            cases e <;> first | exact .inl ⟨rfl, hs'⟩ | exact (hng _ rfl).elim
          · rw [hsp] at h; cases h
            subst he
            exact ⟨rfl, hJ⟩
        · refine wpIn_wide.1 (wpIn_seq (wpIn_skip (wpIn_mono (jump_pass (ro := none) hE (ih.2 l y hsp) k a' w' hJ) fun e a2 w2 h => ?_)))
          rcases h with ⟨he, hs'⟩ | ⟨he, hJ⟩
          · simp only at he
            subst he
            cases e <;> first | exact .inl ⟨rfl, hs'⟩ | exact (hng _ rfl).elim
          · subst he
            exact ⟨rfl, hJ⟩
  | rangeFunc y ps assign body iha ihb =>
    refine ⟨fun sc b s a w r hk hs => ?_, fun l y h => by cases h⟩
    unfold codeT at hk
    cases inR with
    | true => cases hk
    | false =>
      have hro := hro rfl
      subst hro
      cases hy : s.get y <;> simp only [hy] at hk <;> first | (cases hk; done) | skip
      rename_i f caps
      cases hsig : sigP P f <;> simp only [hsig] at hk <;> first | (cases hk; done) | skip
      rename_i ts
      obtain ⟨r1, h1, hk⟩ := run_bind_some hE hk
      have hcall := hent.1 _ _ _ _ h1
      obtain ⟨g, hs⟩ := hs
      exact wpIn_mono (range_sound hs hy (sigP_some hsig) hcall hk) fun e a' w' h => .inl h
  | _ => refine ⟨fun sc b s a w r hk hs => ?_, fun l y h => ?_⟩ <;> first | cases hk | cases h
theorem codeT_sound {inR : Bool} {ro : Option Nat} (hro : inR = false → ro = none) (hE : E.Ok) (hN : EnvN E) (hG : EnvGood P E) {C : CfgT} {ent : Callee → List V → List Box → Tree (List Nat × V × List Box)} (hent : EntGood P E ent) {En : Ent} (hm : P.follows .mixedOrders = true) (c : Code) (b : Nat) (s : VSt) (a : Act) (w : World) (r : Exit × VSt)
    (hk : (codeT sy P inR C ent En.g.n En.M false b c s).run E = some r) (hs : SimE En s a w) : c.wpIn (Fw ro) 0 P (fun e a' w' => e = r.1 ∧ SimE En r.2 a' w') a w :=
  wpIn_mono ((codeT_soundJ hro hE hN hG hent hm c).1 false b s a w r hk hs) fun e a' w' h => by
    rcases h with h | ⟨h, _⟩
    · exact h
    · cases h
end
end Go.Vm
end

section
namespace Go.Vm

section
variable (A : Sy) (P : Program) (Cs : FuncId → CfgT)

def isArr : Box → Bool
  | .arr .. => true
  | _ => false
/-- The own slices that a call may turn. -/
def turnL (h : List Box) (vs : List V) : List Nat := (reachV h [] vs).filter fun b => isArr (h.getD b .gone)
def turnF (C : CfgT) (h : List Box) (vs : List V) : List Nat := match C.turn with
  | true => turnL h vs
  | false => []
/-- Those that a round may turn. -/
def turnR (C : CfgT) (h : List Box) (b : Nat) (R : RecI) (vs t0 : List V) : List Nat := match C.rt with
  | none => turnL h (.yld b R :: vs)
  | some ks => turnL h (ks.map fun k => t0.getD k .any)
/-- A call on the caller's own boxes. -/
def endE (fn : Func) (n0 : Nat) (M0 : List Nat) (r : Exit × VSt) : Tree (List Nat × V × List Box) :=
  let fin : Tree (List Nat × V × List Box) := match resV P r.2 fn.results.toList with
    | some v => match decide (n0 ≤ r.2.h.length) && v.scB n0 && (r.2.h.take n0).all (Box.scB n0) with
      | true => .ret (M0, v, r.2.h.take n0)
      | false => .ret (M0, v, r.2.h)
    | none => .fail
  match r.1 with
  | .normal => fin
  | .ret => fin
  | _ => .fail
/-- What a call hands back: its new boxes are forgotten, if nothing names them. -/
def endN (n0 : Nat) (M0 : List Nat) (v : V) (h : List Box) : List Nat × V × List Box := match decide (n0 ≤ h.length) && v.scB n0 && (h.take n0).all (Box.scB n0) with
  | true => (M0, v, h.take n0)
  | false => (M0, v, h)
def putPs (t : List V) (l : List (Tmp × V)) : List V := l.foldl (fun t q => t.set q.1 q.2) t
/-- A round of a loop over a function. -/
def rndT (ent : Callee → List V → List Box → Tree (List Nat × V × List Box)) (b : Nat) (R : RecI) (vs : List V) (h : List Box) : Tree (List Nat × V × List Box) := match h[b]?, decide (vs.length = R.ps.size) with
  | some (.cells (.rcd .ready) t0), true => forceL (putPs t0 (R.ps.toList.zip vs)) fun t =>
    (codeT A P true (Cs R.me) ent h.length (turnR (Cs R.me) h b R vs t0) false 0 R.assign ⟨t, h⟩).bind fun r1 => match r1.1, r1.2.h[b]? with
      | .normal, some (.cells (.rcd .ready) t1) => forceH (r1.2.h.set b (.cells (.rcd .busy) t1)) fun h1 =>
        (codeT A P true (Cs R.me) ent h.length (turnR (Cs R.me) h b R vs t0) false 0 R.body ⟨r1.2.t, h1⟩).bind fun r2 => match r2.1, r2.2.h[b]? with
          | .normal, some (.cells (.rcd .busy) t2) => .ret (endN h.length (turnR (Cs R.me) h b R vs t0) (.d (.bool true)) (r2.2.h.set b (.cells (.rcd .ready) t2)))
          | .ret, some (.cells (.rcd .busy) t2) => .ret (endN h.length (turnR (Cs R.me) h b R vs t0) (.d (.bool false)) (r2.2.h.set b (.cells (.rcd (.done .ret)) t2)))
          | .exit id, some (.cells (.rcd .busy) t2) => .ret (endN h.length (turnR (Cs R.me) h b R vs t0) (.d (.bool false)) (r2.2.h.set b (.cells (.rcd (.done (.exit id))) t2)))
          | _, _ => .fail
      | _, _ => .fail
  | _, _ => .fail
def entT : Nat → Callee → List V → List Box → Tree (List Nat × V × List Box)
  | 0, _, _, _ => .fail
  | n + 1, .fn f, vs, h => match P.funcs[f]? with
    | some fn => match fn.body with
      | some c => forceL (entryS fn vs h).t fun t => (codeT A P false (Cs f) (entT n) h.length (turnF (Cs f) h vs) false 0 c ⟨t, h⟩).bind (endE P fn h.length (turnF (Cs f) h vs))
      | none => .fail
    | none => .fail
  | n + 1, .yld b R, vs, h => rndT A P Cs (entT n) b R vs h

def outL : List TypeId → List V → Option (List D)
  | [], [] => some []
  | t :: ts, v :: vs => match out1 P t v, outL ts vs with
    | some a, some b => some (a ++ b)
    | _, _ => none
  | _, _ => none
def outDs (ts : List TypeId) (v : V) : Option (List D) := match ts, v with
  | [t], v => outL P [t] [v]
  | ts, .tup vs => outL P ts vs
  | _, _ => none
def endP (fn : Func) (r : Exit × VSt) : Tree PRes :=
  let fin : Tree PRes := match resV P r.2 fn.results.toList with
    | some v => match v, fn.resultTypes.toList with
      | .own b, [t] => match r.2.h[b]?, elO P t with
        | some (.arr e sz rows), some (e', sz') => match decide (e' = e ∧ sz' = sz) with
          | true => .ret (.own e sz rows)
          | false => .fail
        | _, _ => .fail
      | v, ts => match resV P (r.2.frz v.ownsT) fn.results.toList with
        | some v' => match outDs P ts v' with
          | some ds => .ret (.val ds)
          | none => .fail
        | none => .fail
    | none => .fail
  match r.1 with
  | .normal => fin
  | .ret => fin
  | _ => .fail
/-- A function on plain data. -/
def funT (f : FuncId) (args : List V) : Tree PRes := match P.funcs[f]? with
  | some fn => match fn.body with
    | some c => forceL (entryS fn args []).t fun t => (codeT A P false (Cs f) (entT A P Cs 8) 0 [] false 0 c ⟨t, []⟩).bind (endP P fn)
    | none => .fail
  | none => .fail
end

section
variable {P : Program} {E : Env} {Cs : FuncId → CfgT}

theorem results_of {En : Ent} {s : VSt} {a : Act} {w : World} {g : Gh} (hs : Sim En s a w g) {fn : Func} {v : V} (hr : resV P s fn.results.toList = some v) :
    ∃ u, (results fn a.tmps).run P w = .ok u w ∧ Rep w g u v := resV_run hs hr

theorem Sim.shut {En : Ent} {s : VSt} {tmps : Array Value} {D : Nat} {Ds : List Nat} {w : World} {g : Gh} (hs : Sim En s ⟨tmps, (D :: Ds).map fun D => { target := .collected D, args := #[] }⟩ w g) :
    w.heap[D]? = some (.deferred (some [])) ∧ Sim En s ⟨tmps, Ds.map fun D => { target := .collected D, args := #[] }⟩ (w.putObj D (.deferred none)) g := by
  obtain ⟨Ds', d1, d2, d3⟩ := hs.defers
  have : Ds' = D :: Ds := (map_inj' (fun x y h => by simpa using h) d1).symm
  subst this
  obtain ⟨k1, k2, k3, k4⟩ := d3 D List.mem_cons_self
  have hoth : ∀ k, k ≠ D → (w.putObj D (.deferred none)).heap[k]? = w.heap[k]? := fun k hk => World.putObj_heap_other hk
  have hcell : ∀ b o, g.Z b o → (w.putObj D (.deferred none)).cell? ⟨b, o, none⟩ = w.cell? ⟨b, o, none⟩ := fun b o hz => by
    have : b ≠ D := fun e => k4 o (e ▸ hz)
    simp only [World.cell?, hoth b this]
  have ho : Over [] w g (w.putObj D (.deferred none)) g := ⟨Gh.Le.refl _ _, hcell⟩
  have hsz : (w.putObj D (.deferred none)).heap.size = w.heap.size := World.putObj_size
  obtain ⟨p1, p2, p3, p4⟩ := hs.keep
  refine ⟨k2, ⟨hs.heap.n, fun b x hx => ?_, hs.heap.sep, hs.heap.zsep, fun b o hz => by rw [hsz]; exact hs.heap.zlt b o hz, hs.heap.tab.mono (fun _ _ h => h) hcell⟩, hs.size, fun i u v hu hv => ho.repC_nil (hs.tmps i u v hu hv), ⟨Ds, rfl, (List.nodup_cons.1 d2).2, fun D' hD' => ?_⟩,
    ⟨p1, ⟨p2.os, p2.tape, p2.output, by rw [hsz]; exact p2.size, fun k hk hn => (hoth k (by omega)).trans (p2.block k hk hn)⟩, p3, p4⟩, hs.len⟩
  · have := BoxRep.over ho (by rw [hs.heap.n]; exact (List.getElem?_eq_some_iff.1 hx).1) (by simp) (fun k hk => hoth k fun e => k3 ⟨b, x, hx, e ▸ hk⟩) (hs.heap.rep b x hx)
    rwa [Box.kill_nil] at this
  · obtain ⟨q1, q2, q3, q4⟩ := d3 D' (List.mem_cons_of_mem _ hD')
    exact ⟨q1, (hoth D' fun e => (List.nodup_cons.1 d2).1 (e ▸ hD')).trans q2, q3, q4⟩
theorem leaves_marks {fn : Func} {Rp : Ending → World → Prop} {En : Ent} {s : VSt} {tmps : Array Value} {g : Gh} : ∀ (Ds : List Nat) (w : World), Sim En s ⟨tmps, Ds.map fun D => { target := .collected D, args := #[] }⟩ w g →
    (∀ w', Sim En s ⟨tmps, []⟩ w' g → ∃ v, (results fn tmps).run P w' = .ok v w' ∧ Rp (.returned v) w') → LeavesInM Fence.wide 0 P fn tmps Rp (Ds.map fun D => { target := .collected D, args := #[] }) .returning w
  | [], w, hs, h => h w hs
  | D :: Ds, w, hs, h => by
    obtain ⟨h1, h2⟩ := hs.shut
    exact ⟨by simp, .inl ⟨D, _, rfl, run_takeDeferred h1, leaves_marks Ds _ h2 h⟩⟩
theorem leaves_sim {fn : Func} {Rp : Ending → World → Prop} {En : Ent} {s : VSt} {a : Act} {w : World} {g : Gh} (hs : Sim En s a w g)
    (h : ∀ a' w', a'.tmps = a.tmps → Sim En s a' w' g → ∃ v, (results fn a.tmps).run P w' = .ok v w' ∧ Rp (.returned v) w') : LeavesInM Fence.wide 0 P fn a.tmps Rp a.defers .returning w := by
  obtain ⟨Ds, d1, d2, d3⟩ := hs.defers
  rw [d1]
  have e : a = ⟨a.tmps, Ds.map fun D => { target := .collected D, args := #[] }⟩ := by rw [← d1]
  rw [e] at hs
  exact leaves_marks Ds w hs fun w' hs' => h ⟨a.tmps, []⟩ w' rfl hs'

theorem rec_turn {g : Gh} {h : List Box} {w : World} {b : Nat} {st : RSt} {t : List V} (hs : SimH g h w) (hb : h[b]? = some (.cells (.rcd st) t)) :
    ∃ rc : Loop, w.heap[g.blk b]? = some (.loop rc) ∧ rc.state = st.state ∧ rc.pending = st.pend ∧ ∀ st' : RSt, Keep [] g h w g (h.set b (.cells (.rcd st') t)) (w.putObj (g.blk b) (.loop { rc with state := st'.state, pending := st'.pend })) := by
  obtain ⟨us, o, q1, ⟨fn, D, x, q2, q3, rfl⟩, q4, q5⟩ := hs.rep b _ hb
  refine ⟨_, q1, rfl, rfl, fun st' => ?_⟩
  generalize hw' : w.putObj (g.blk b) _ = w'
  have hfr : Fr (fun k => (Box.cells (.rcd st) t).at? g b = some k) w w' := by
    rw [← hw']
    refine ⟨rfl, rfl, rfl, by simp, fun k hk hnk => World.putObj_heap_other fun e => hnk ?_⟩
    simp only [Box.at?, e]
  have hcell : ∀ k o, g.Z k o → w'.cell? ⟨k, o, none⟩ = w.cell? ⟨k, o, none⟩ := fun k o hz => hfr.cell (hs.zlt k o hz) (fun hk => hs.zsep k o ⟨b, _, hb, hk⟩ hz)
  have ho : Over [] w g w' g := ⟨Gh.Le.refl _ _, hcell⟩
  have := Keep.turn (g' := g) (y := .cells (.rcd st') t) hs hb [] (.inl ⟨rfl, rfl⟩) rfl rfl rfl (fun _ _ => ⟨rfl, rfl⟩) hfr
    ⟨us, _, by rw [← hw']; exact World.putObj_heap_same (Array.getElem?_eq_some_iff.1 q1).1, ⟨fn, D, x, q2, q3, rfl⟩, q4, fun i u v hu hv => ho.repC_nil (q5 i u v hu hv)⟩ (fun k hk => .inl hk)
  rwa [map_kill_nil] at this
theorem turnL_arr {h : List Box} {vs : List V} {b : Nat} (hb : b ∈ turnL h vs) : isArr (h.getD b .gone) = true := (List.mem_filter.1 hb).2
theorem turnR_arr {C : CfgT} {h : List Box} {c : Nat} {R : RecI} {vs t0 : List V} {b : Nat} (hb : b ∈ turnR C h c R vs t0) : isArr (h.getD b .gone) = true := by
  unfold turnR at hb
  split at hb <;> exact turnL_arr hb
theorem putPs_sim {w : World} {g : Gh} : ∀ (ps : List Tmp) (vs : List V) (us : List Value) (t : List V) (ts : Array Value), ts.size = t.length → (∀ (i : Nat) u v, ts[i]? = some u → t[i]? = some v → Rep w g u v) → Reps w g us vs →
    ((ps.zip us).foldl (fun tm q => tm.setIfInBounds q.1 q.2) ts).size = (putPs t (ps.zip vs)).length ∧ ∀ (i : Nat) u v, ((ps.zip us).foldl (fun tm q => tm.setIfInBounds q.1 q.2) ts)[i]? = some u → (putPs t (ps.zip vs))[i]? = some v → Rep w g u v
  | [], _, _, t, ts, hl, hr, _ => ⟨hl, hr⟩
  | _ :: _, [], us, t, ts, hl, hr, hu => by
    have : us = [] := by have := hu.1; simpa using this
    subst this
    exact ⟨hl, hr⟩
  | q :: ps, v :: vs, us, t, ts, hl, hr, hu => by
    cases us with
    | nil => have := hu.1; simp at this
    | cons u us =>
      refine putPs_sim ps vs us (t.set q v) (ts.setIfInBounds q u) (by simpa using hl) (fun i u' v' h1 h2 => ?_) ⟨by have := hu.1; simpa using this, fun i u' v' h1 h2 => hu.2 (i + 1) u' v' (by simpa using h1) (by simpa using h2)⟩
      rw [Array.getElem?_setIfInBounds] at h1
      rw [List.getElem?_set] at h2
      by_cases hi : q = i
      · subst hi
        rw [if_pos rfl] at h1 h2
        split at h1
        · split at h2
          · cases h1; cases h2; exact hu.2 0 _ _ rfl rfl
          · cases h2
        · cases h1
      · rw [if_neg hi] at h1 h2; exact hr i u' v' h1 h2
theorem endN_keep {g g' : Gh} {h h' : List Box} {w w' : World} {M0 : List Nat} {v : V} {u : Value} (hn : g.n = h.length) (hk : Keep M0 g h w g' h' w') (hr : Rep w' g' u v) :
    ∃ g2, Rep w' g2 u (endN h.length M0 v h').2.1 ∧ Keep (endN h.length M0 v h').1 g h w g2 (endN h.length M0 v h').2.2 w' := by
  unfold endN
  split
  · rename_i hc
    simp only [Bool.and_eq_true, decide_eq_true_eq] at hc
    exact ⟨g'.cut h.length, scB_rep hr hc.1.2, hk.cutN (by rw [hn]; exact Nat.le_refl _) hc.1.1 hc.2⟩
  · exact ⟨g', hr, hk⟩

theorem rndT_sound (hE : E.Ok) (hN : EnvN E) (hG : EnvGood P E) (hm : P.follows .mixedOrders = true) {ent : Callee → List V → List Box → Tree (List Nat × V × List Box)} (hent : EntGood P E ent) {b : Nat} {R : RecI} {vs : List V} {h : List Box} {r : List Nat × V × List Box}
    (hk : (rndT sy P Cs ent b R vs h).run E = some r) : HRound P r.1 b R vs h r.2.1 r.2.2 := by
  unfold rndT at hk
  split at hk
  · rename_i t0 hb hlen
    have hlen := of_decide_eq_true hlen
    rw [forceL_eq] at hk
    obtain ⟨r1, h1, hk⟩ := run_bind_some hE hk
    intro g w us hs hu hbn hrc
    generalize hM0 : turnR (Cs R.me) h b R vs t0 = M0 at h1 hk
    have hbM : b ∉ M0 := fun hm' => by
      rw [← hM0] at hm'
      have := turnR_arr hm'
      rw [List.getD_eq_getElem?_getD, hb] at this
      cases this
    obtain ⟨us0, o, q1, ⟨fn, D, x, q2, q3, rfl⟩, q4, q5⟩ := hs.rep b _ hb
    have hx : x.r = R := by
      unfold Gh.rc at hrc
      rw [q2] at hrc
      exact Option.some.inj hrc
    have hy := run_yield (P := P) (args := us.toArray) q1 (by simp only [List.size_toArray, hx]; rw [hu.1, hlen])
    refine ⟨_, _, _, _, hy, ?_⟩
    simp only [hx]
    have hfold : (R.ps.zip us.toArray).foldl (fun tmps q => tmps.setIfInBounds q.1 q.2) us0 = (R.ps.toList.zip us).foldl (fun tm q => tm.setIfInBounds q.1 q.2) us0 := by
      rw [← Array.foldl_toList]; simp
    obtain ⟨s1, s2⟩ := putPs_sim R.ps.toList vs us t0 us0 q4 q5 hu
    let En : Ent := ⟨w, g, h, M0, (putPs t0 (R.ps.toList.zip vs)).length⟩
    have hS : SimE En ⟨putPs t0 (R.ps.toList.zip vs), h⟩ ⟨(R.ps.toList.zip us).foldl (fun tm q => tm.setIfInBounds q.1 q.2) us0, []⟩ w :=
      ⟨g, hs, s1, s2, .none, ⟨Gh.Le.refl _ _, Fr.refl _ _, fun _ _ h => .inl h, fun _ h => .inl h⟩, rfl⟩
    have hn : g.n = h.length := hs.n
    refine roundIn_of_wpIn trivial ?_
    show R.assign.wpIn (Fw (some (g.blk b))) 0 P _ _ _
    have e0 : (Array.foldl (fun (tmps : Array Value) (x : Tmp × Value) => tmps.setIfInBounds x.1 x.2) us0 (R.ps.zip us.toArray)) = (R.ps.toList.zip us).foldl (fun tm q => tm.setIfInBounds q.1 q.2) us0 := hfold
    refine (congrArg (fun tm => R.assign.wpIn (Fw (some (g.blk b))) 0 P _ { tmps := tm, defers := [] } w) e0).mpr ?_
    refine wpIn_mono (codeT_sound (inR := true) (ro := some (g.blk b)) (En := En) (fun h => by cases h) hE hN hG hent hm R.assign 0 _ _ _ r1 (by rw [← hn] at h1; exact h1) hS) ?_
    rintro e a1 w1 ⟨he, g1, hs1⟩
    subst he
    obtain ⟨e1, st1⟩ := r1
    split at hk
    · rename_i t1 he1 hb1
      simp only at he1 hb1
      subst he1
      show ∃ w₂, (Instr.beginRound (g.blk b)).run P w1 = .ok () w₂ ∧ R.body.wpIn (Fw (some (g.blk b))) 0 P (roundPost P (g.blk b) _) a1 w₂
      rw [forceH_eq] at hk
      obtain ⟨r2, h2, hk⟩ := run_bind_some hE hk
      have hbe : g1.blk b = g.blk b := hs1.keep.1.blk b hbn hbM
      obtain ⟨rc, c1, c2, c3, c4⟩ := rec_turn hs1.heap hb1
      rw [hbe] at c1 c4
      have hbr := run_beginRound (P := P) c1 (by rw [c2]; rfl)
      have hk4 := c4 .busy
      have erc : ({ rc with state := .busy } : Loop) = { rc with state := RSt.busy.state, pending := RSt.busy.pend } := by
        cases rc
        simp only [RSt.pend] at c3
        simp only [RSt.state, RSt.pend, c3]
      refine ⟨_, hbr, ?_⟩
      rw [erc]
      have hs2 := hs1.next hk4 (by simp [okM]) (x := .any) (u := undef) (.any undef) none
      refine wpIn_mono (codeT_sound (inR := true) (ro := some (g.blk b)) (En := En) (fun h => by cases h) hE hN hG hent hm R.body 0 _ _ _ r2 (by rw [← hn] at h2; exact h2) ⟨g1, hs2⟩) ?_
      rintro e a2 w3 ⟨he, g3, hs3⟩
      subst he
      obtain ⟨e2, st2⟩ := r2
      have hbe3 : g3.blk b = g.blk b := hs3.keep.1.blk b hbn hbM
      have fin : ∀ (st' : RSt) (jump : Option Code) (t2 : List V), st2.h[b]? = some (.cells (.rcd .busy) t2) → st'.state = (if jump.isNone then .ready else .done) → st'.pend = jump →
          r = endN h.length M0 (.d (.bool jump.isNone)) (st2.h.set b (.cells (.rcd st') t2)) →
          ∃ v w', (Instr.endRound (g.blk b) jump).run P w3 = .ok v w' ∧ ∃ u g', Ending.returned v = .returned u ∧ Rep w' g' u r.2.1 ∧ Keep r.1 g h w g' r.2.2 w' := by
        intro st' jump t2 hb2 e1 e2 hr
        obtain ⟨rc3, d1, d2, d3, d4⟩ := rec_turn hs3.heap hb2
        rw [hbe3] at d1 d4
        have hen := run_endRound (P := P) jump d1
        have hk5 := d4 st'
        rw [e1, e2] at hk5
        have hs4 := hs3.next hk5 (by simp [okM]) (x := .any) (u := undef) (.any undef) none
        obtain ⟨k1, k2, k3, k4⟩ := hs4.keep
        have hkeep : Keep M0 g h w g3 (st2.h.set b (.cells (.rcd st') t2)) _ := ⟨hs4.heap, k1, k2, k3, k4⟩
        obtain ⟨g5, p1, p2⟩ := endN_keep hn hkeep (v := .d (.bool jump.isNone)) (u := .bool jump.isNone) (.d (.bool _))
        exact ⟨_, _, hen, .bool jump.isNone, g5, rfl, by rw [hr]; exact p1, by rw [hr]; exact p2⟩
      split at hk
      · rename_i t2 he2 hb2
        simp only at he2 hb2
        subst he2
        cases hk
        exact fin .ready none t2 hb2 rfl rfl rfl
      · rename_i t2 he2 hb2
        simp only at he2 hb2
        subst he2
        cases hk
        exact fin (.done .ret) (some .ret) t2 hb2 rfl rfl rfl
      · rename_i id t2 he2 hb2
        simp only at he2 hb2
        subst he2
        cases hk
        exact fin (.done (.exit id)) (some (.exit id)) t2 hb2 rfl rfl rfl
      · cases hk
    · cases hk
  · cases hk

theorem entT_sound (hE : E.Ok) (hN : EnvN E) (hG : EnvGood P E) (hm : P.follows .mixedOrders = true) : ∀ n, EntGood P E (entT sy P Cs n)
  | 0 => ⟨fun f vs h r hk => (by cases hk), fun b R vs h r hk => (by cases hk)⟩
  | n + 1 => by
    refine ⟨fun f vs h r hk => ?_, fun b R vs h r hk => rndT_sound hE hN hG hm (entT_sound hE hN hG hm n) hk⟩
    unfold entT at hk
    split at hk
    · rename_i fn hf
      split at hk
      · rename_i c hb
        rw [forceL_eq] at hk
        obtain ⟨r1, h1, hk⟩ := run_bind_some hE hk
        intro g w us hs hu
        refine callsIn_wide.1 (callsIn_of_wp_marks (F := Fence.wide) (n := 0) hf hb trivial ?_)
        have hEn := entry_sim (fn := fn) (turnF (Cs f) h vs) hs hu
        have h1' : (codeT sy P false (Cs f) (entT sy P Cs n) g.n (turnF (Cs f) h vs) false 0 c (entryS fn vs h)).run E = some r1 := by rw [hs.n]; exact h1
        refine wpIn_mono (codeT_sound (ro := none) (En := ⟨w, g, h, turnF (Cs f) h vs, (entryS fn vs h).t.length⟩) (fun _ => rfl) hE hN hG (entT_sound hE hN hG hm n) hm c 0 _ _ _ r1 h1' hEn) fun e a' w' ⟨he, g', hs'⟩ => ?_
        subst he
        obtain ⟨e, s'⟩ := r1
        have fin : ∀ (e : Exit), (e = .normal ∨ e = .ret) → (endE P fn h.length (turnF (Cs f) h vs) (e, s')).run E = some r → LeavesInM Fence.wide 0 P fn a'.tmps (fun e w' => ∃ u g', e = .returned u ∧ Rep w' g' u r.2.1 ∧ Keep r.1 g h w g' r.2.2 w') a'.defers .returning w' := by
          intro e he hq
          have hq : Tree.run E (match resV P s' fn.results.toList with
            | some v => match decide (h.length ≤ s'.h.length) && v.scB h.length && (s'.h.take h.length).all (Box.scB h.length) with
              | true => .ret (turnF (Cs f) h vs, v, s'.h.take h.length)
              | false => .ret (turnF (Cs f) h vs, v, s'.h)
            | none => .fail) = some r := by rcases he with rfl | rfl <;> exact hq
          refine leaves_sim hs' fun a2 w2 ha2 hs2 => ?_
          rw [← ha2]
          obtain ⟨k1, k2, k3, k4⟩ := hs2.keep
          have hkeep : Keep (turnF (Cs f) h vs) g h w g' s'.h w2 := ⟨hs2.heap, k1, k2, fun b o hz => (k3 b o hz), k4⟩
          split at hq
          · rename_i v hv
            obtain ⟨u, hu, hr⟩ := resV_run hs2 hv
            refine ⟨u, hu, u, ?_⟩
            split at hq
            · rename_i hc
              simp only [Bool.and_eq_true, decide_eq_true_eq] at hc
              cases hq
              exact ⟨g'.cut h.length, rfl, scB_rep hr hc.1.2, hkeep.cutN (by rw [hs.n]; exact Nat.le_refl _) hc.1.1 hc.2⟩
            · cases hq
              exact ⟨g', rfl, hr, hkeep⟩
          · cases hq
        cases e with
        | normal => exact fin _ (.inl rfl) hk
        | ret => exact fin _ (.inr rfl) hk
        | _ => cases hk
      · cases hk
    · cases hk

theorem toDs_len : ∀ {ss : List Sh} {vs : List V} {xs : List D}, toDs ss vs = some xs → xs.length = ss.length
  | [], [], xs, h => by cases h; rfl
  | [], _ :: _, xs, h => by cases h
  | _ :: _, [], xs, h => by cases h
  | s :: ss, v :: vs, xs, h => by
    unfold toDs at h
    split at h
    · rename_i x xs' _ h2
      cases h
      simp [toDs_len h2]
    · cases h
theorem out1_mk {t : TypeId} {v : V} {ds rest : List D} {ts : List TypeId} {vs : List V} (h : out1 P t v = some ds) (h2 : mkVs P ts rest = some vs) :
    ∃ v', mkVs P (t :: ts) (ds ++ rest) = some (v' :: vs) ∧ (∀ (w : World) (g g' : Gh) (u : Value), g'.Z = g.Z → Rep w g u v → Rep w g' u v') ∧ ∃ ss, shOf P 9 t = some ss ∧ ds.length = ss.length := by
  unfold out1 at h
  split at h
  · rename_i ss cs h1 ha
    have hl := toDs_len h
    refine ⟨.agg (ds.map .d), ?_, fun w g g' u hz hr => ?_, ss, h1, hl⟩
    · unfold mkVs
      simp only [h1, ha]
      rw [show decide (ss.length ≤ (ds ++ rest).length) = true from decide_eq_true (by simp; omega), show (ds ++ rest).drop ss.length = rest by rw [← hl]; simp, h2]
      simp only [show (ds ++ rest).take ss.length = ds by rw [← hl]; simp]
    · obtain ⟨q1, q2⟩ := toDs_spec h
      cases hr with
      | agg us _ hl hr =>
        refine .agg us _ (by simp [hl, q1]) fun i u c hu hc => ?_
        rw [List.getElem?_map, Option.map_eq_some_iff] at hc
        obtain ⟨x, hx, rfl⟩ := hc
        have hi := (Array.getElem?_eq_some_iff.1 hu).1
        have hcs := List.getElem?_eq_getElem (l := cs) (i := i) (by omega)
        obtain ⟨s, hs⟩ := q2 i _ x hcs hx
        exact .d (by rw [hz]; exact toD_rep (hr i u _ hu hcs) hs)
  · rename_i s h1 ha
    split at h
    · rename_i x hx
      cases h
      refine ⟨.d x, ?_, fun w g g' u hz hr => .d (by rw [hz]; exact toD_rep hr hx), [s], h1, rfl⟩
      unfold mkVs
      simp only [h1, ha, List.cons_append, List.nil_append, h2]
    · cases h
  · cases h
theorem outL_mk : ∀ {ts : List TypeId} {vs : List V} {ds : List D}, outL P ts vs = some ds → ∃ vs', mkVs P ts ds = some vs' ∧ vs'.length = vs.length ∧ (∀ (i : Nat) v v', vs[i]? = some v → vs'[i]? = some v' → ∀ (w : World) (g g' : Gh) (u : Value), g'.Z = g.Z → Rep w g u v → Rep w g' u v') ∧
    ∃ ss, shR P ts = some ss ∧ ds.length = ss.length
  | [], [], ds, h => by cases h; exact ⟨[], rfl, rfl, by simp, [], rfl, rfl⟩
  | [], _ :: _, ds, h => by cases h
  | _ :: _, [], ds, h => by cases h
  | t :: ts, v :: vs, ds, h => by
    unfold outL at h
    split at h
    · rename_i a b h1 h2
      cases h
      obtain ⟨vs', e1, l1, r1, ss, q1, q2⟩ := outL_mk h2
      obtain ⟨v', e2, r2, ss', q3, q4⟩ := out1_mk h1 e1
      refine ⟨v' :: vs', e2, by simp [l1], fun i x x' hx hx' => ?_, ss' ++ ss, by simp only [shR, q3, q1], by simp [q2, q4]⟩
      cases i with
      | zero => simp at hx hx'; subst hx; subst hx'; exact r2
      | succ i => exact r1 i x x' (by simpa using hx) (by simpa using hx')
    · cases h
theorem outDs_mk {ts : List TypeId} {v : V} {ds : List D} (h : outDs P ts v = some ds) : ∃ v', mkV P ts ds = some v' ∧ (∀ (w : World) (g g' : Gh) (u : Value), g'.Z = g.Z → Rep w g u v → Rep w g' u v') ∧ ∃ ss, shR P ts = some ss ∧ ds.length = ss.length := by
  unfold outDs at h
  split at h
  · obtain ⟨vs', e1, l1, r1, ss, q1, q2⟩ := outL_mk h
    match vs', l1 with
    | [v'], _ => exact ⟨v', by simp [mkV, e1], r1 0 _ v' rfl rfl, ss, q1, q2⟩
  · rename_i ts0 vs hne
    obtain ⟨vs', e1, l1, r1, ss, q1, q2⟩ := outL_mk h
    have hlen := (mkVs_pure e1).2
    have hn1 : ts.length ≠ 1 := fun h1 => by
      match ts, h1, hne with
      | [t], _, hne => exact hne t rfl
    refine ⟨.tup vs', ?_, fun w g g' u hz hr => ?_, ss, q1, q2⟩
    · unfold mkV
      rw [e1]
      match vs', hlen with
      | [], _ => rfl
      | [x], h1 => exact (hn1 (by simpa using h1.symm)).elim
      | _ :: _ :: _, _ => rfl
    · cases hr with
      | tup us _ hl hr =>
        refine .tup us vs' (by rw [hl, l1]) fun i u c hu hc => ?_
        have hi := (Array.getElem?_eq_some_iff.1 hu).1
        exact r1 i _ c (List.getElem?_eq_getElem (by omega)) hc w g g' u hz (hr i u _ hu (List.getElem?_eq_getElem (by omega)))
  · cases h

theorem mkV_sc {ts : List TypeId} {ds : List D} {v : V} (h : mkV P ts ds = some v) {w : World} {g : Gh} {u : Value} (hr : Rep w g u v) : Rep w (g.cut 0) u v := pureT_rep (g := g) (g' := g.cut 0) rfl (mkV_pure h) hr

theorem funT_sound (hE : E.Ok) (hN : EnvN E) (hG : EnvGood P E) (hm : P.follows .mixedOrders = true) {f : FuncId} {args : List V} {p : PRes} (hsig : ∀ fn, P.funcs[f]? = some fn → goodF P f = true) (hk : (funT sy P Cs f args).run E = some p) : PGood P f args p := by
  unfold funT at hk
  split at hk
  · rename_i fn hf
    split at hk
    · rename_i c hb
      rw [forceL_eq] at hk
      obtain ⟨r1, h1, hk⟩ := run_bind_some hE hk
      have hsg : sigP P f = some fn.resultTypes.toList := by
        unfold sigP
        rw [hsig fn hf, hf]
      -- what the run comes to
      have run : ∀ (g : Gh) (w : World) (us : List Value), SimH g [] w → Reps w g us args →
          Calls P f us.toArray w fun e w' => ∃ a' g', (r1.1 = .normal ∨ r1.1 = .ret) ∧ Sim ⟨w, g, [], [], (entryS fn args []).t.length⟩ r1.2 a' w' g' ∧ ∃ v, (results fn a'.tmps).run P w' = .ok v w' ∧ e = .returned v := by
        intro g w us hs hu
        refine callsIn_wide.1 (callsIn_of_wp_marks (F := Fence.wide) (n := 0) hf hb trivial ?_)
        have hEn := entry_sim (fn := fn) [] hs hu
        have h1' : (codeT sy P false (Cs f) (entT sy P Cs 8) g.n [] false 0 c (entryS fn args [])).run E = some r1 := by rw [hs.n]; exact h1
        refine wpIn_mono (codeT_sound (ro := none) (En := ⟨w, g, [], [], (entryS fn args []).t.length⟩) (fun _ => rfl) hE hN hG (entT_sound hE hN hG hm 8) hm c 0 _ _ _ r1 h1' hEn) fun e a' w' ⟨he, g', hs'⟩ => ?_
        subst he
        obtain ⟨e, s'⟩ := r1
        have fin : ∀ (e : Exit), (e = .normal ∨ e = .ret) → (endP P fn (e, s')).run E = some p → LeavesInM Fence.wide 0 P fn a'.tmps (fun e0 w' => ∃ a' g', (e = .normal ∨ e = .ret) ∧ Sim ⟨w, g, [], [], (entryS fn args []).t.length⟩ s' a' w' g' ∧ ∃ v', (results fn a'.tmps).run P w' = .ok v' w' ∧ e0 = .returned v') a'.defers .returning w' := by
          intro e he hq
          have hq : ∃ v, resV P s' fn.results.toList = some v := by
            cases hv : resV P s' fn.results.toList with
            | some v => exact ⟨v, rfl⟩
            | none => rcases he with rfl | rfl <;> (simp only [endP, hv] at hq; cases hq)
          obtain ⟨v, hv⟩ := hq
          refine leaves_sim hs' fun a2 w2 ha2 hs2 => ?_
          rw [← ha2]
          obtain ⟨u, hu, _⟩ := resV_run hs2 hv
          exact ⟨u, hu, a2, g', he, hs2, u, hu, rfl⟩
        cases e with
        | normal => exact fin _ (.inl rfl) hk
        | ret => exact fin _ (.inr rfl) hk
        | _ => cases hk
      obtain ⟨e, s'⟩ := r1
      have hk : Tree.run E (match resV P s' fn.results.toList with
        | some v => match v, fn.resultTypes.toList with
          | .own b, [t] => match s'.h[b]?, elO P t with
            | some (.arr e sz rows), some (e', sz') => match decide (e' = e ∧ sz' = sz) with
              | true => .ret (.own e sz rows)
              | false => .fail
            | _, _ => .fail
          | v, ts => match resV P (s'.frz v.ownsT) fn.results.toList with
            | some v' => match outDs P ts v' with
              | some ds => .ret (.val ds)
              | none => .fail
            | none => .fail
        | none => .fail) = some p := by
        cases e with
        | normal => exact hk
        | ret => exact hk
        | _ => cases hk
      split at hk
      · rename_i v hv
        split at hk
        · rename_i b t hts
          split at hk
          · rename_i ee sze rows e' sz' hbx hel
            split at hk
            · rename_i hd
              obtain ⟨e3, e4⟩ := of_decide_eq_true hd
              rw [e3, e4] at hel
              clear hd e3 e4 e' sz'
              cases hk
              refine ⟨t, by rw [hsg, hts], hel, fun g w us hs hu => (run g w us hs hu).mono ?_⟩
              rintro e0 w' ⟨a', g', _, hs', v, hres, rfl⟩
              obtain ⟨u, hu', hr⟩ := resV_run hs' hv
              rw [hres] at hu'; cases hu'
              obtain ⟨k1, k2, k3, k4⟩ := hs'.keep
              have hkeep : Keep [] g [] w g' s'.h w' := ⟨hs'.heap, k1, k2, k3, k4⟩
              have hbl : b < s'.h.length := (List.getElem?_eq_some_iff.1 hbx).1
              have hge : s'.h.getD b .gone = .arr ee sze rows := by rw [List.getD_eq_getElem?_getD, hbx]; rfl
              have hL : reachOK s'.h [b] [.own b] = true := by
                simp only [reachOK, nodupB, List.all_cons, List.all_nil, hge, Bool.and_true, V.inLs, V.inB, Box.inB]
                simp [hbl]
              obtain ⟨g2, hk2, hrep⟩ := hkeep.tell hs.n hL (fun i hi => by simp at hi)
              refine ⟨v, g2, rfl, ?_, ?_⟩
              · have := hrep v _ hr (by simp [V.inB])
                simpa [V.ren, tau, List.idxOf?] using this
              · have e2 : smallH s'.h [b] = [.arr ee sze rows] := by simp only [smallH, List.map_cons, List.map_nil, hge, Box.ren]
                rw [e2] at hk2
                exact hk2
            · cases hk
          · cases hk
        · rename_i v0 ts0 hne
          split at hk
          · rename_i v' hv'
            obtain ⟨L, hL⟩ : ∃ L, resV P (s'.frz L) fn.results.toList = some v' := ⟨_, hv'⟩
            split at hk
            · rename_i ds hds
              cases hk
              obtain ⟨v2, m1, m2, ss, m3, m4⟩ := outDs_mk hds
              refine ⟨_, ss, v2, hsg, m3, m4, m1, fun g w us hs hu => (run g w us hs hu).mono ?_⟩
              rintro e0 w' ⟨a', g', _, hs', u0, hres, rfl⟩
              obtain ⟨g1, hs1⟩ := SimE.frzs (bs := L) ⟨g', hs'⟩
              obtain ⟨u, hu', hr⟩ := resV_run hs1 hL
              rw [hres] at hu'; cases hu'
              obtain ⟨k1, k2, k3, k4⟩ := hs1.keep
              have hkeep : Keep [] g [] w g1 (s'.frz L).h w' := ⟨hs1.heap, k1, k2, k3, k4⟩
              have hn : g.n = 0 := hs.n
              exact ⟨u0, g1.cut 0, rfl, mkV_sc m1 (m2 w' g1 g1 u0 rfl hr), hkeep.cutN (n := 0) (by omega) (by omega) rfl⟩
            · cases hk
          · cases hk
      · cases hk
    · cases hk
  · cases hk

/-! ### calls with fuel, and without; what is known of functions from elsewhere comes first -/
def KGood (P : Program) (K : FuncId → List V → Option PRes) : Prop := KV P ∧ ∀ f args p, args.all V.pureB = true → K f args = some p → PGood P f args p
def callN (P : Program) (Cs : FuncId → CfgT) (K : FuncId → List V → Option PRes) : Nat → FuncId → List V → Option PRes
  | 0, _, _ => none
  | n + 1, f, args => match K f args with
    | some p => some p
    | none => match goodF P f with
      | true => (funT sy P Cs f args).run (envN n (callN P Cs K n))
      | false => none
variable {K : FuncId → List V → Option PRes}
theorem callN_good (hm : P.follows .mixedOrders = true) (hK : KGood P K) : ∀ n m, EnvGood P (envN m (callN P Cs K n))
  | 0, m => ⟨hK.1, fun f args p _ h => by cases h⟩
  | n + 1, m => ⟨hK.1, fun f args p hp h => by
    have h : callN P Cs K (n + 1) f args = some p := h
    unfold callN at h
    split at h
    · rename_i hk
      cases h
      exact hK.2 f args _ hp hk
    · split at h
      · rename_i hg
        exact funT_sound (envN_ok n _) ⟨n, fun b ds => rfl⟩ (callN_good hm hK n n) hm (fun _ _ => hg) h
      · cases h⟩

open Classical in
noncomputable def callF (P : Program) (Cs : FuncId → CfgT) (K : FuncId → List V → Option PRes) (f : FuncId) (args : List V) : Option PRes :=
  if h : ∃ p N, ∀ n, N ≤ n → callN P Cs K n f args = some p then some (Classical.choose h) else none
theorem callF_some {f : FuncId} {args : List V} {p : PRes} : callF P Cs K f args = some p ↔ ∃ N, ∀ n, N ≤ n → callN P Cs K n f args = some p := by
  unfold callF
  constructor
  · intro h
    split at h
    · rename_i hx; cases h; exact Classical.choose_spec hx
    · cases h
  · rintro ⟨N, h⟩
    have hx : ∃ p N, ∀ n, N ≤ n → callN P Cs K n f args = some p := ⟨p, N, h⟩
    rw [dif_pos hx]
    obtain ⟨N', h'⟩ := Classical.choose_spec hx
    have h1 := h (max N N') (by omega)
    have h2 := h' (max N N') (by omega)
    rw [h1] at h2
    exact h2.symm
/-- How a function is gone through: by its tree. -/
theorem callF_of {f : FuncId} {args : List V} {p : PRes} (hg : goodF P f = true) (hk : K f args = none) (h : (funT sy P Cs f args).run (envF (callF P Cs K)) = some p) : callF P Cs K f args = some p := by
  obtain ⟨N, hN⟩ := run_evl (cN := callN P Cs K) (fun f args p h => callF_some.1 h) _ p h
  refine callF_some.2 ⟨N + 1, fun n hn => ?_⟩
  obtain ⟨n, rfl⟩ : ∃ k, n = k + 1 := ⟨n - 1, by omega⟩
  simp only [callN, hk, hg]
  exact hN n n (by omega) (by omega)
/-- What is known. -/
theorem callF_known {f : FuncId} {args : List V} {p : PRes} (hk : K f args = some p) : callF P Cs K f args = some p :=
  callF_some.2 ⟨1, fun n hn => by
    obtain ⟨n, rfl⟩ : ∃ k, n = k + 1 := ⟨n - 1, by omega⟩
    simp only [callN, hk]⟩
/-- By running it. -/
theorem callF_run {f : FuncId} {args : List V} {p : PRes} (N : Nat) (h : ∀ n, callN P Cs K (N + n) f args = some p) : callF P Cs K f args = some p :=
  callF_some.2 ⟨N, fun n hn => by have := h (n - N); rwa [Nat.add_sub_cancel' hn] at this⟩
theorem callF_good (hm : P.follows .mixedOrders = true) (hK : KGood P K) {f : FuncId} {args : List V} {p : PRes} (hp : args.all V.pureB = true) (h : callF P Cs K f args = some p) : PGood P f args p := by
  obtain ⟨N, hN⟩ := callF_some.1 h
  exact (callN_good hm hK N 0).2 f args p hp (hN N (Nat.le_refl _))
end
end Go.Vm
end

section
namespace Go.Vm
/-! ### what the printed functions are made of -/
def bs (l : List UInt8) : ByteArray := ⟨⟨l⟩⟩
def cutO {α : Type} (x : Option (List D ⊕ α)) (K : List D → Option α) : Option α := x.bind fun s => match s with
  | .inl ds => K ds
  | .inr a => some a
end Go.Vm
end

section
namespace Go.Vm
/-! ### plain laws: what the printed functions compute -/
section
variable (a b c : Int) (k : IntKind) (l m : List (List D)) (s u : ByteArray) (p q : Bool) (n j : Nat) (ds es : List D) (d e : D)
theorem sy_wrap : sy.wrap k a = k.wrap a := rfl
theorem sy_add : sy.add a b = a + b := rfl
theorem sy_sub : sy.sub a b = a - b := rfl
theorem sy_mul : sy.mul a b = a * b := rfl
theorem sy_ieq : sy.ieq a b = decide (a = b) := rfl
theorem sy_ilt : sy.ilt a b = decide (a < b) := rfl
theorem sy_ile : sy.ile a b = decide (a ≤ b) := rfl
theorem sy_seq : sy.seq s u = (s.toList == u.toList) := rfl
theorem sy_beq : sy.beq p q = (p == q) := rfl
theorem sy_bor : sy.bor p q = (p || q) := rfl
theorem sy_bnot : sy.bnot p = !p := rfl
theorem sy_imax : sy.imax a b = max a b := rfl
theorem sy_imin : sy.imin a b = min a b := rfl
theorem sy_rlen : sy.rlen l = l.length := rfl
theorem sy_slen : sy.slen s = s.size := rfl
theorem sy_sapp : sy.sapp s u = s ++ u := rfl
theorem sy_inr : sy.inr a b = decide (0 ≤ a ∧ a < b) := rfl
theorem sy_nat : sy.nat a = a.toNat := rfl
theorem sy_cell0 : sy.cell (d :: ds) 0 = some d := rfl
theorem sy_cellS : sy.cell (d :: ds) (n + 1) = sy.cell ds n := rfl
theorem sy_cell1 : sy.cell (d :: ds) 1 = sy.cell ds 0 := rfl
theorem sy_skip0 : sy.skip 0 ds = ds := rfl
theorem sy_inrn : sy.inrn n l = decide (n < l.length) := rfl
theorem sy_rapp : sy.rapp l m = l ++ m := rfl
theorem sy_fits : sy.fits l m n = decide ((l.length + m.length) * (n + 1) ≤ 140737488355328) := rfl
theorem sy_cutok : sy.cutok a b c = decide (0 ≤ a ∧ a ≤ b ∧ b ≤ c) := rfl
theorem sy_cut : sy.cut l a b = (l.take b.toNat).drop a.toNat := rfl
theorem sy_scut : sy.scut s a b = s.extract a.toNat b.toNat := rfl
theorem sy_sbyte : sy.sbyte s a = ((s.data.getD a.toNat 0).toNat : Int) := rfl
theorem sy_mkok : sy.mkok a b n = decide (a = b ∧ 0 ≤ a ∧ a * (n + 1) ≤ 140737488355328) := rfl
theorem sy_mkok0 : sy.mkok0 a n = decide (0 ≤ a ∧ a * (n + 1) ≤ 140737488355328) := rfl
theorem sy_mkz : sy.mkz a n = decide (0 < a ∧ a * (n + 1) ≤ 140737488355328) := rfl
theorem sy_rep : sy.rep a ds = List.replicate a.toNat ds := rfl
theorem sy_head : sy.head l a = l.take a.toNat := rfl
theorem sy_deq : sy.deq ds es = eqDs ds es := rfl
theorem sy_rdec : sy.rdec s a = decR s a := rfl
theorem sy_rwid : sy.rwid s a = decW s a := rfl
theorem sy_rcopy : sy.rcopy l a b m = l.take a.toNat ++ m.take (min b.toNat m.length) ++ l.drop (a.toNat + min b.toNat m.length) := rfl
theorem sy_quo : sy.quo a b = a.tdiv b := rfl
theorem sy_rem : sy.rem a b = a.tmod b := rfl
theorem sy_band : sy.band k a b = bandI k a b := rfl
theorem sy_bior : sy.bior k a b = borI k a b := rfl
theorem sy_bxor : sy.bxor k a b = bxorI k a b := rfl
theorem sy_bandn : sy.bandn k a b = bandnI k a b := rfl
theorem sy_shl : sy.shl k a b = shlI k a b := rfl
theorem sy_shr : sy.shr k a b = shrI k a b := rfl
theorem sy_sidx : sy.sidx s a = Lib.indexByte s.data.toList a.toNat.toUInt8 := rfl
theorem sy_scnt : sy.scnt s a = (Lib.countByte s.data.toList a.toNat.toUInt8 : Nat) := rfl
theorem sy_row : sy.row l a = l.getD a.toNat [] := rfl
theorem sy_rown : sy.rown l n = l.getD n [] := rfl
theorem opI_int : opI (some (.int k a)) k = some a := by simp [opI]
theorem opB_bool : opB (some (.bool p)) = some p := rfl
theorem opS_str : opS (some (.str s)) = some s := rfl
theorem opL_sl : opL (some (.sl n l)) n = some l := by simp [opL]
theorem opM_own (t : TypeId) : opM (some (.own t n l)) t n = some l := by simp [opM]
theorem leaves_val : (PRes.val ds).leaves = ds := rfl
theorem leaves_own (t : TypeId) : (PRes.own t n l).leaves = [.sl n l] := rfl
theorem eqDs_nil : eqDs [] es = true := by cases es <;> rfl
theorem eqDs_int : eqDs (.int k a :: ds) (.int k b :: es) = (decide (a = b) && eqDs ds es) := by
  show ((a == b) && _) = _
  congr 1
end
section
variable {α β : Type} (x y : Option (List D ⊕ α)) (K : List D → Option α) (ds : List D) (a : α) (c p q : Bool)
theorem cutO_inl : cutO (some (.inl ds)) K = K ds := rfl
theorem cutO_inr : cutO (some (.inr a)) K = some a := rfl
theorem cutO_none : cutO none K = none := rfl
theorem cutO_bif : cutO (bif c then x else y) K = bif c then cutO x K else cutO y K := by cases c <;> rfl
/-- Two ways that tell a truth each. -/
theorem cutO_bool : cutO (bif c then some (.inl [.bool p]) else some (.inl [.bool q])) K = K [.bool (bif c then p else q)] := by cases c <;> rfl
theorem bif_bool : (bif c then some (Sum.inl [D.bool p]) else some (Sum.inl [D.bool q]) : Option (List D ⊕ α)) = some (.inl [.bool (bif c then p else q)]) := by cases c <;> rfl
end
theorem env_call (c : FuncId → List V → Option PRes) (f : FuncId) (args : List V) : (envF c).call f args = c f args := rfl
theorem env_lp (c : FuncId → List V → Option PRes) {α : Type} (b : List D → Option (List D ⊕ α)) (ds : List D) : (envF c).lp b ds = loopF b ds := rfl
theorem wrap_id {n : Int} (h1 : -9223372036854775808 ≤ n) (h2 : n ≤ 9223372036854775807) : IntKind.i64.wrap n = n := by
  simp [IntKind.wrap, IntKind.bits, IntKind.signed]
  omega
/-- Rows of a list. -/
def encL {σ : Type} (enc : σ → List D) (l : List σ) : List (List D) := l.map enc
theorem encL_len {σ : Type} (enc : σ → List D) (l : List σ) : (encL enc l).length = l.length := by simp [encL]
theorem encL_row {σ : Type} (enc : σ → List D) (l : List σ) (i : Int) (d : σ) (h : i.toNat < l.length) : sy.row (encL enc l) i = enc (l.getD i.toNat d) := by
  simp [sy, encL, h]
theorem encL_nil {σ : Type} (enc : σ → List D) : encL enc [] = [] := rfl
theorem encL_app {σ : Type} (enc : σ → List D) (a b : List σ) : encL enc a ++ encL enc b = encL enc (a ++ b) := by simp [encL]
theorem encL_one {σ : Type} (enc : σ → List D) (a : σ) : [enc a] = encL enc [a] := rfl
def iE (n : Int) : List D := [.int .i64 n]
end Go.Vm
end
