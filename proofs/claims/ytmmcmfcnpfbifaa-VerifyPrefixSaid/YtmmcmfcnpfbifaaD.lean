/-
  Part D of the proof. What is proved by the whole: the statement that the claim names, with no condition. This part: lemmas.
-/
import Derived.Test.YtmmcmfcnpfbifaaC
import Derived.Deep.LoopGhost
import Derived.KernelRfl
set_option linter.unusedSimpArgs false
set_option linter.unusedVariables false

section
namespace Go.Vm
/-! ### drawn regions whose heavy operations are in order -/
section
variable {P : Program} {h h' h2 h0 hh hx hx' : List Box} {ρ ρ2 : Operand → V} {o : Oper} {x : V} {ops : Array Oper} {W Z M : List Nat} {t t2 : List V} {En : Ent} {E : Env}

def bigI (o : Oper) : Bool := match o.op with
  | .store .. => true
  | .alloc _ => true
  | .buildSlice .. => true
  | .call ⟨.builtin .append, _, _⟩ => true
  | _ => false
/-- Does an operation wait for i, by way of others? -/
def edgeR (ops : Array Oper) : Nat → Oper → Nat → Bool
  | 0, o, i => edgeOn o i
  | n + 1, o, i => edgeOn o i || o.after.any fun e => Region.binds .any e && (match ops[e.on]? with
    | some ok => edgeR ops n ok i
    | none => false)
/-- Are the heavy ones in order? -/
def bigOK (ops : Array Oper) : Bool := (List.range ops.size).all fun j => match ops[j]? with
  | some oj => !bigI oj || (List.range j).all fun i => match ops[i]? with
    | some oi => !bigI oi || edgeR ops 5 oj i
    | none => true
  | none => true
/-- Is operation i in order with all heavy ones? -/
def pinI (ops : Array Oper) (i : Nat) : Bool := (List.range ops.size).all fun j => match ops[j]? with
  | some oj => !bigI oj || edgeR ops 5 oj i || (match ops[i]? with
    | some oi => edgeR ops 5 oi j
    | none => false)
  | none => true

def killT (M : List Nat) (t : List V) : List V := match M with
  | [] => t
  | _ => t.map (V.kill M)
theorem killT_eq (M : List Nat) (t : List V) : killT M t = t.map (V.kill M) := by
  cases M with
  | nil => rw [show V.kill [] = id from funext V.kill_nil]; simp [killT]
  | cons => rfl
theorem next_kill (s : VSt) (M : List Nat) (h' : List Box) (d : Option Tmp) (x : V) : s.next M h' d x = ⟨putV (killT M s.t) d x, h'⟩ := by
  unfold VSt.next putV killT
  cases M <;> cases d <;> rfl

def calmC (Z : List Nat) : V → Bool
  | .d _ => true
  | .nils => true
  | .nilp => true
  | .nilf => true
  | .pel _ => true
  | .own b => !Z.contains b
  | .map b => !Z.contains b
  | .ptr b _ => !Z.contains b
  | .pml b _ _ _ => !Z.contains b
  | _ => false
/-- Does it name none of Z? -/
def calmB (Z : List Nat) : V → Bool
  | .agg cs => cs.all (calmC Z)
  | .tup cs => cs.all (calmC Z)
  | v => calmC Z v
theorem notin {b : Nat} (hM : ∀ b ∈ M, b ∈ Z) (h : (!Z.contains b) = true) : (!M.contains b) = true := by
  simp only [Bool.not_eq_true', List.contains_eq_mem, decide_eq_false_iff_not] at h ⊢
  exact fun hb => h (hM b hb)
theorem calmC_kill {v : V} (hM : ∀ b ∈ M, b ∈ Z) (h : calmC Z v = true) : v.killC M = v := by
  cases v with
  | any => cases h
  | agg cs => cases h
  | tup cs => cases h
  | fn f cs => cases h
  | own b => exact congrArg (fun q => bif q then V.own b else .any) (notin hM h)
  | map b => exact congrArg (fun q => bif q then V.map b else .any) (notin hM h)
  | ptr b off => exact congrArg (fun q => bif q then V.ptr b off else .any) (notin hM h)
  | pml b sz i off => exact congrArg (fun q => bif q then V.pml b sz i off else .any) (notin hM h)
  | _ => rfl
theorem calmC_of {v : V} (h : calmC Z (v.killC M) = true) : v.killC M = v := by
  unfold V.killC at h ⊢
  cases hf : v.freeC M with
  | true => rfl
  | false => rw [hf] at h; cases h
theorem calm_kill {v : V} (hM : ∀ b ∈ M, b ∈ Z) (h : calmB Z v = true) : v.kill M = v := by
  have aux : ∀ cs : List V, cs.all (calmC Z) = true → cs.map (V.killC M) = cs := fun cs hc => by
    have : cs.map (V.killC M) = cs.map id := List.map_congr_left fun v hv => calmC_kill hM (List.all_eq_true.1 hc v hv)
    simpa using this
  cases v with
  | agg cs => exact congrArg V.agg (aux cs h)
  | tup cs => exact congrArg V.tup (aux cs h)
  | fn f cs => cases h
  | _ => exact calmC_kill hM h
theorem calm_of {v : V} (h : calmB Z (v.kill M) = true) : v.kill M = v := by
  have aux : ∀ cs : List V, (cs.map (V.killC M)).all (calmC Z) = true → cs.map (V.killC M) = cs := fun cs hc => by
    have : cs.map (V.killC M) = cs.map id := List.map_congr_left fun v hv => calmC_of (List.all_eq_true.1 hc _ (List.mem_map_of_mem hv))
    simpa using this
  have aux2 : ∀ v : V, calmB Z (bif V.freeC M v then v else .any) = true → (bif V.freeC M v then v else .any) = v := fun v h => by
    cases hf : v.freeC M with
    | true => rfl
    | false => rw [hf] at h; cases h
  cases v with
  | agg cs => exact congrArg V.agg (aux cs h)
  | tup cs => exact congrArg V.tup (aux cs h)
  | fn f cs => cases h
  | any => cases h
  | own b => exact aux2 (.own b) h
  | map b => exact aux2 (.map b) h
  | ptr b off => exact aux2 (.ptr b off) h
  | pml b sz i off => exact aux2 (.pml b sz i off) h
  | _ => rfl

theorem get_at_kill (M : List Nat) (t : List V) (h : List Box) (y : Operand) : VSt.get ⟨killT M t, h⟩ y = VSt.get ⟨t, h⟩ y ∨ VSt.get ⟨killT M t, h⟩ y = (VSt.get ⟨t, h⟩ y).kill M := by
  rw [killT_eq]
  cases y with
  | tmp k =>
    right
    show (t.map (V.kill M)).getD k .any = (t.getD k .any).kill M
    rw [List.getD_eq_getElem?_getD, List.getD_eq_getElem?_getD, List.getElem?_map]
    cases t[k]? <;> rfl
  | const v => left; rfl
  | func f => left; rfl
  | global k => left; rfl
theorem get_calm {y : Operand} (hM : ∀ b ∈ M, b ∈ Z) (hc : calmB Z (VSt.get ⟨t, h⟩ y) = true) : VSt.get ⟨killT M t, h⟩ y = VSt.get ⟨t, h⟩ y := by
  rcases get_at_kill M t h y with h1 | h1
  · exact h1
  · rw [h1, calm_kill hM hc]
theorem get_calm_of {y : Operand} (hc : calmB Z (VSt.get ⟨killT M t, h⟩ y) = true) : VSt.get ⟨killT M t, h⟩ y = VSt.get ⟨t, h⟩ y := by
  rcases get_at_kill M t h y with h1 | h1
  · exact h1
  · rw [h1] at hc ⊢; exact calm_of hc
theorem restr_of {y : Operand} (he : restr o (VSt.get ⟨t2, h⟩) = restr o (VSt.get ⟨t, h⟩)) (hy : y ∈ o.op.operands.toList) : VSt.get ⟨t2, h⟩ y = VSt.get ⟨t, h⟩ y := by
  have := congrFun he y
  rwa [restr_at (fun _ => rfl) hy, restr_at (fun _ => rfl) hy] at this
theorem restr_eq (he : ∀ y ∈ o.op.operands.toList, VSt.get ⟨t2, h⟩ y = VSt.get ⟨t, h⟩ y) : restr o (VSt.get ⟨t2, h⟩) = restr o (VSt.get ⟨t, h⟩) := by
  funext y
  cases y with
  | func f => rfl
  | tmp k => simp only [restr]; split <;> first | exact he _ ‹_› | rfl
  | const v => simp only [restr]; split <;> first | exact he _ ‹_› | rfl
  | global k => simp only [restr]; split <;> first | exact he _ ‹_› | rfl
theorem wantV_kill {b : Bool} : wantV ops o (killT M t) = some b ↔ wantV ops o t = some b := by
  rw [killT_eq]
  unfold wantV
  split
  · rfl
  · rename_i j want hg
    split
    · rename_i k hk
      rw [List.getElem?_map]
      cases hv : t[k]? with
      | none => rfl
      | some v =>
        cases v with
        | d x => rfl
        | tup cs =>
          cases cs with
          | nil => rfl
          | cons c cs => rfl
        | agg cs => rfl
        | fn f cs => rfl
        | _ =>
          simp only [Option.map_some, V.kill, V.killC]
          cases V.freeC M _ <;> rfl
    · rfl
theorem killT_put (hc : x.kill M = x) (d : Option Tmp) : killT M (putV t d x) = putV (killT M t) d x := by
  rw [killT_eq, killT_eq]
  cases d with
  | none => rfl
  | some k => show (t.set k x).map _ = (t.map _).set k x; rw [List.map_set, hc]

/-! ### what an operation does -/
inductive Eff3 where
  | no
  | late
  | pin (hx : List Box)
  | big (hx hx' : List Box) (M : List Nat)
def Eff3.ok (W : List Nat) (h0 hh : List Box) : Eff3 → Prop
  | .no => True
  | .late => PreW W h0 hh
  | .pin hx => hh = hx
  | .big hx _ _ => hh = hx
def Eff3.run (hh : List Box) : Eff3 → List Box
  | .big _ hx' _ => hx'
  | _ => hh
def Eff3.km : Eff3 → List Nat
  | .big _ _ M => M
  | _ => []
/-- The step, whatever the other slots hold. -/
def SStep (P : Program) (En : Ent) (o : Oper) (t : List V) (hx : List Box) (M : List Nat) (x : V) (hx' : List Box) : Prop :=
  ∀ t2, restr o (VSt.get ⟨t2, []⟩) = restr o (VSt.get ⟨t, []⟩) → ∀ (a : Act) (w : World) (K : Act → World → Prop) (Q : Exit → Act → World → Prop), SimE En ⟨t2, hx⟩ a w →
    (∀ a' w', SimE En ⟨putV (killT M t2) o.dst x, hx'⟩ a' w' → K a' w') → o.wp P a w K Q
def Fact3 (P : Program) (En : Ent) (ops : Array Oper) (W Z : List Nat) (h0 : List Box) (i : Nat) (o : Oper) (t : List V) (x : V) : Eff3 → Prop
  | .no => wantV ops o t = some false ∧ x = .tup []
  | .late => wantV ops o t = some true ∧ (Z = [] ∨ (calmB Z x = true ∧ ∀ y ∈ o.op.operands.toList, calmB Z (VSt.get ⟨t, []⟩ y) = true)) ∧ ∀ h2, PreW W h0 h2 → Gives P [] h2 h2 (restr o (VSt.get ⟨t, []⟩)) o x
  | .pin hx => wantV ops o t = some true ∧ pinI ops i = true ∧ SStep P En o t hx [] x hx
  | .big hx hx' M => wantV ops o t = some true ∧ bigI o = true ∧ (∀ b ∈ M, b ∈ Z) ∧ PreW W h0 hx ∧ PreW W h0 hx' ∧ SStep P En o t hx M x hx'
theorem SStep.put {d : Option Tmp} {y : V} (hd : ∀ k, d = some k → k ∉ o.looksAt ops) : SStep P En o (putV t d y) hx M x hx' ↔ SStep P En o t hx M x hx' := by
  unfold SStep
  rw [restr_put hd]
theorem SStep.congr (he : restr o (VSt.get ⟨t2, []⟩) = restr o (VSt.get ⟨t, []⟩)) (hs : SStep P En o t hx M x hx') : SStep P En o t2 hx M x hx' := by
  unfold SStep
  rw [he]
  exact hs
theorem calm_put {d : Option Tmp} {y : V} (hd : ∀ k, d = some k → k ∉ o.looksAt ops) : (∀ q ∈ o.op.operands.toList, calmB Z (VSt.get ⟨putV t d y, []⟩ q) = true) ↔ ∀ q ∈ o.op.operands.toList, calmB Z (VSt.get ⟨t, []⟩ q) = true := by
  have := restr_put (x := y) hd t []
  constructor <;> intro hh q hq <;> have := restr_of this hq
  · rw [← this]; exact hh q hq
  · rw [this]; exact hh q hq
theorem Fact3.put {i : Nat} {d : Option Tmp} {y : V} (hd : ∀ k, d = some k → k ∉ o.looksAt ops) (e : Eff3) : Fact3 P En ops W Z h0 i o (putV t d y) x e ↔ Fact3 P En ops W Z h0 i o t x e := by
  cases e <;> simp only [Fact3, wantV_put hd, restr_put hd, SStep.put hd, calm_put hd]
/-- What is not heavy does not look at what a heavy one turns. -/
theorem Fact3.kill {i : Nat} {e : Eff3} (hM : ∀ b ∈ M, b ∈ Z) (he : e = .no ∨ e = .late) : Fact3 P En ops W Z h0 i o (killT M t) x e ↔ Fact3 P En ops W Z h0 i o t x e := by
  rcases he with rfl | rfl
  · simp only [Fact3, wantV_kill]
  · simp only [Fact3, wantV_kill]
    cases Z with
    | nil =>
      have hM : M = [] := List.eq_nil_iff_forall_not_mem.2 fun b hb => by simpa using hM b hb
      subst hM
      rfl
    | cons z zs =>
      constructor
      · rintro ⟨h1, h2, h3⟩
        rcases h2 with h2 | ⟨h2, h4⟩
        · cases h2
        · have e := fun q hq => get_calm_of (h4 q hq)
          refine ⟨h1, .inr ⟨h2, fun q hq => by rw [← e q hq]; exact h4 q hq⟩, ?_⟩
          rw [restr_eq e] at h3
          exact h3
      · rintro ⟨h1, h2, h3⟩
        rcases h2 with h2 | ⟨h2, h4⟩
        · cases h2
        · have e := fun q hq => get_calm hM (h4 q hq)
          refine ⟨h1, .inr ⟨h2, fun q hq => by rw [e q hq]; exact h4 q hq⟩, ?_⟩
          rw [restr_eq e]
          exact h3
theorem Fact3.calm {i : Nat} {e : Eff3} (hM : ∀ b ∈ M, b ∈ Z) (he : e = .no ∨ e = .late) (hf : Fact3 P En ops W Z h0 i o t x e) : x.kill M = x := by
  rcases he with rfl | rfl
  · rw [hf.2]; rfl
  · rcases hf.2.1 with h | h
    · subst h
      have hM : M = [] := List.eq_nil_iff_forall_not_mem.2 fun b hb => by simpa using hM b hb
      subst hM
      exact V.kill_nil x
    · exact calm_kill hM h.1

def Out3 (P : Program) (En : Ent) (ops : Array Oper) (W Z : List Nat) (h0 : List Box) (i : Nat) (o : Oper) (t : List V) (hh : List Box) (x : V) (t' : List V) (hh' : List Box) : Prop :=
  ∃ e, Fact3 P En ops W Z h0 i o t x e ∧ Eff3.ok W h0 hh e ∧ t' = putV (killT e.km t) o.dst x ∧ hh' = e.run hh

theorem swap_light {i j : Nat} {oi oj : Oper} {xi xj : V} {e1 e2 : Eff3} (hap : oi.apart ops oj = true) (m1 : e1.km = []) (m2 : e2.km = []) (r1 : ∀ hh, e1.run hh = hh) (r2 : ∀ hh, e2.run hh = hh)
    (f1 : Fact3 P En ops W Z h0 i oi t xi e1) (k1 : Eff3.ok W h0 hh e1) (f2 : Fact3 P En ops W Z h0 j oj (putV (killT e1.km t) oi.dst xi) xj e2) (k2 : Eff3.ok W h0 (e1.run hh) e2) :
    ∃ t1 hh1, Out3 P En ops W Z h0 j oj t hh xj t1 hh1 ∧ Out3 P En ops W Z h0 i oi t1 hh1 xi (putV (killT e2.km (putV (killT e1.km t) oi.dst xi)) oj.dst xj) (e2.run (e1.run hh)) := by
  obtain ⟨a1, a2, a3⟩ := Oper.apart_spec hap
  rw [m1] at f2 ⊢
  rw [m2]
  have k : ∀ t : List V, killT [] t = t := fun _ => rfl
  rw [k] at f2
  rw [Fact3.put a1] at f2
  rw [r1] at k2 ⊢
  refine ⟨_, _, ⟨e2, f2, k2, rfl, rfl⟩, ⟨e1, (by rw [m2, k]; exact (Fact3.put a3 e1).2 f1), by rw [r2]; exact k1, ?_, by rw [r1]⟩⟩
  rw [m1, m2, k, k, k]
  exact (putV_comm a2 t xi xj)

theorem swap_big1 {i j : Nat} {oi oj : Oper} {xi xj : V} {e2 : Eff3} (hap : oi.apart ops oj = true) (he : e2 = .no ∨ e2 = .late)
    (f1 : Fact3 P En ops W Z h0 i oi t xi (.big hx hx' M)) (k1 : hh = hx) (f2 : Fact3 P En ops W Z h0 j oj (putV (killT M t) oi.dst xi) xj e2) :
    ∃ t1 hh1, Out3 P En ops W Z h0 j oj t hh xj t1 hh1 ∧ Out3 P En ops W Z h0 i oi t1 hh1 xi (putV (putV (killT M t) oi.dst xi) oj.dst xj) hx' := by
  obtain ⟨a1, a2, a3⟩ := Oper.apart_spec hap
  rw [Fact3.put a1, Fact3.kill f1.2.2.1 he] at f2
  subst k1
  have m2 : e2.km = [] := by rcases he with rfl | rfl <;> rfl
  refine ⟨_, _, ⟨e2, f2, by rcases he with rfl | rfl <;> first | exact f1.2.2.2.1 | exact trivial, rfl, rfl⟩, ⟨.big hh hx' M, (by rw [m2]; exact (Fact3.put a3 _).2 f1), by rcases he with rfl | rfl <;> rfl, ?_, rfl⟩⟩
  rw [m2]
  show _ = putV (killT M (putV t oj.dst xj)) oi.dst xi
  rw [killT_put (Fact3.calm f1.2.2.1 he f2)]
  exact putV_comm a2 _ xi xj

theorem swap_big2 {i j : Nat} {oi oj : Oper} {xi xj : V} {e1 : Eff3} (hap : oi.apart ops oj = true) (he : e1 = .no ∨ e1 = .late)
    (f1 : Fact3 P En ops W Z h0 i oi t xi e1) (f2 : Fact3 P En ops W Z h0 j oj (putV t oi.dst xi) xj (.big hx hx' M)) (k2 : hh = hx) :
    ∃ t1 hh1, Out3 P En ops W Z h0 j oj t hh xj t1 hh1 ∧ Out3 P En ops W Z h0 i oi t1 hh1 xi (putV (killT M (putV t oi.dst xi)) oj.dst xj) hx' := by
  obtain ⟨a1, a2, a3⟩ := Oper.apart_spec hap
  rw [Fact3.put a1] at f2
  subst k2
  have m1 : e1.km = [] := by rcases he with rfl | rfl <;> rfl
  refine ⟨_, _, ⟨.big hh hx' M, f2, rfl, rfl, rfl⟩, ⟨e1, ((Fact3.put a3 e1).2 ((Fact3.kill f2.2.2.1 he).2 f1)), by rcases he with rfl | rfl <;> first | exact f2.2.2.2.2.1 | exact trivial, ?_, by rcases he with rfl | rfl <;> rfl⟩⟩
  rw [m1, killT_put (Fact3.calm f2.2.2.1 he f1)]
  exact putV_comm a2 _ xi xj

theorem Out3.swap {i j : Nat} {oi oj : Oper} {xi xj : V} {ti tj : List V} {hi' hj' : List Box} (hap : oi.apart ops oj = true) (hbb : bigI oi = true → bigI oj = true → False) (hbp : bigI oi = true → pinI ops j = true → False) (hpb : pinI ops i = true → bigI oj = true → False)
    (hi : Out3 P En ops W Z h0 i oi t hh xi ti hi') (hj : Out3 P En ops W Z h0 j oj ti hi' xj tj hj') :
    ∃ t1 hh1, Out3 P En ops W Z h0 j oj t hh xj t1 hh1 ∧ Out3 P En ops W Z h0 i oi t1 hh1 xi tj hj' := by
  obtain ⟨e1, f1, k1, rfl, rfl⟩ := hi
  obtain ⟨e2, f2, k2, rfl, rfl⟩ := hj
  cases e1 with
  | big hx hx' M => cases e2 with
    | big => exact (hbb f1.2.1 f2.2.1).elim
    | pin => exact (hbp f1.2.1 f2.2.1).elim
    | no => exact swap_big1 hap (.inl rfl) f1 k1 f2
    | late => exact swap_big1 hap (.inr rfl) f1 k1 f2
  | no => cases e2 with
    | big => exact swap_big2 hap (.inl rfl) f1 f2 k2
    | _ => exact swap_light hap rfl rfl (fun _ => rfl) (fun _ => rfl) f1 k1 f2 k2
  | late => cases e2 with
    | big => exact swap_big2 hap (.inr rfl) f1 f2 k2
    | _ => exact swap_light hap rfl rfl (fun _ => rfl) (fun _ => rfl) f1 k1 f2 k2
  | pin => cases e2 with
    | big => exact (hpb f1.2.1 f2.2.1).elim
    | _ => exact swap_light hap rfl rfl (fun _ => rfl) (fun _ => rfl) f1 k1 f2 k2

theorem Out3.wp {i : Nat} {t' : List V} {hh' : List Box} {a : Act} {w : World} (ho : Out3 P En ops W Z h0 i o t hh x t' hh') (hs : SimE En ⟨t, hh⟩ a w) {K : Act → World → Prop} {Q : Exit → Act → World → Prop}
    (hK : ∀ a' w', SimE En ⟨t', hh'⟩ a' w' → K a' w') : if Region.wanted o (yielded ops a.tmps) then o.wp P a w K Q else K (a.put o.dst undef) w := by
  obtain ⟨e, hf, hok, rfl, rfl⟩ := ho
  cases e with
  | no =>
    obtain ⟨hw, rfl⟩ := hf
    rw [if_neg (by rw [wantV_sim hs hw]; simp)]
    refine hK _ _ ?_
    obtain ⟨g, hs⟩ := hs
    have := hs.next (.refl hs.heap) (by simp [okM]) (.tup (w := w) (g := g) #[] [] rfl (by simp)) o.dst
    rw [next_kill] at this
    exact ⟨g, this⟩
  | late =>
    rw [if_pos (wantV_sim hs hf.1)]
    have hg := hf.2.2 hh hok
    rw [get_h t [] hh] at hg
    refine Gives.sim (s := ⟨t, hh⟩) hg.of_restr hs (by simp [okM]) fun a' w' hs' => hK a' w' ?_
    rwa [next_kill] at hs'
  | pin hx =>
    have hok : hh = hx := hok
    subst hok
    rw [if_pos (wantV_sim hs hf.1)]
    exact hf.2.2 t rfl a w K Q hs hK
  | big hx hx' M =>
    have hok : hh = hx := hok
    subst hok
    rw [if_pos (wantV_sim hs hf.1)]
    exact hf.2.2.2.2.2 t rfl a w K Q hs hK

theorem big_spec (h : bigOK ops = true) {i j : Nat} {oi oj : Oper} (hi : ops[i]? = some oi) (hj : ops[j]? = some oj) (hij : i < j) (s1 : bigI oi = true) (s2 : bigI oj = true) : edgeR ops 5 oj i = true := by
  have := List.all_eq_true.1 h j (List.mem_range.2 (Array.getElem?_eq_some_iff.1 hj).1)
  rw [hj] at this
  simp only [s2, Bool.not_true, Bool.false_or] at this
  have := List.all_eq_true.1 this i (List.mem_range.2 hij)
  rw [hi] at this
  simpa [s1] using this
theorem pin_spec {i j : Nat} {oi oj : Oper} (h : pinI ops i = true) (hi : ops[i]? = some oi) (hj : ops[j]? = some oj) (s2 : bigI oj = true) : edgeR ops 5 oj i = true ∨ edgeR ops 5 oi j = true := by
  have := List.all_eq_true.1 h j (List.mem_range.2 (Array.getElem?_eq_some_iff.1 hj).1)
  rw [hj, hi] at this
  simpa [s2] using this

/-- What is listed has what it waits for listed. -/
def ClosedL (ops : Array Oper) (listed : Array Bool) : Prop := ∀ (k : Nat) ok, ops[k]? = some ok → listed.getD k false = true → ∀ e ∈ ok.after, Region.binds .any e = true → listed.getD e.on false = true
theorem edgeR_listed {listed : Array Bool} (hc : ClosedL ops listed) {i : Nat} : ∀ (n : Nat) {o : Oper}, (∀ e ∈ o.after, Region.binds .any e = true → listed.getD e.on false = true) → edgeR ops n o i = true → listed.getD i false = true
  | 0, o, ho, h => by obtain ⟨e, he, hb, rfl⟩ := edgeOn_spec h; exact ho e he hb
  | n + 1, o, ho, h => by
    unfold edgeR at h
    rw [Bool.or_eq_true] at h
    rcases h with h | h
    · obtain ⟨e, he, hb, rfl⟩ := edgeOn_spec h; exact ho e he hb
    · obtain ⟨e, he, hb⟩ := Array.any_eq_true'.1 h
      simp only [Bool.and_eq_true] at hb
      obtain ⟨hb1, hb2⟩ := hb
      split at hb2
      · rename_i ok hok
        exact edgeR_listed hc n (hc e.on ok hok (ho e he hb1)) hb2
      · cases hb2
theorem ClosedL.step {listed : Array Bool} (hc : ClosedL ops listed) {i : Nat} (hi : i ∈ Region.ready .any ops listed) : ClosedL ops (listed.setIfInBounds i true) := by
  have mono : ∀ k, listed.getD k false = true → (listed.setIfInBounds i true).getD k false = true := fun k hk => by
    by_cases h : i = k
    · subst h
      simp only [Array.getD_eq_getD_getElem?, Array.getElem?_setIfInBounds, if_pos]
      split
      · rfl
      · rename_i hlt
        rw [Array.getD_eq_getD_getElem?, Array.getElem?_eq_none (Nat.le_of_not_lt hlt)] at hk
        exact hk
    · rw [getD_set_ne false h]; exact hk
  intro k ok hok hk e he hb
  by_cases h : i = k
  · subst h
    obtain ⟨_, oi', hoi', hall⟩ := mem_ready.1 hi
    rw [hok] at hoi'; cases hoi'
    exact mono _ (hall e he hb)
  · rw [getD_set_ne false h] at hk
    exact mono _ (hc k ok hok hk e he hb)
/-- Every order. -/
def vAny3 (P : Program) (En : Ent) (ops : Array Oper) (W Z : List Nat) (h0 : List Box) (K : List V → List Box → Prop) : Nat → Array Bool → List V → List Box → Prop
  | 0, listed, t, hh => Region.ready .any ops listed = [] ∧ K t hh
  | fuel + 1, listed, t, hh => Region.ready .any ops listed ≠ [] ∧ ∀ i ∈ Region.ready .any ops listed, ∃ o x t' hh', ops[i]? = some o ∧ Out3 P En ops W Z h0 i o t hh x t' hh' ∧ vAny3 P En ops W Z h0 K fuel (listed.setIfInBounds i true) t' hh'

theorem vAny3_first {K : List V → List Box → Prop} (hst : bigOK ops = true) {i : Nat} {oi : Oper} {xi : V} (hi : ops[i]? = some oi) :
    ∀ (fuel : Nat) (listed : Array Bool) (t ti : List V) (hh hhi : List Box), ClosedL ops listed →
      (∀ j oj, ops[j]? = some oj → j ≠ i → listed.getD j true = false → (∀ e ∈ oj.after, Region.binds .any e = true → e.on ≠ i) → oi.apart ops oj = true) →
      i ∈ Region.ready .any ops listed → Out3 P En ops W Z h0 i oi t hh xi ti hhi →
      vAny3 P En ops W Z h0 K fuel (listed.setIfInBounds i true) ti hhi → vAny3 P En ops W Z h0 K (fuel + 1) listed t hh := by
  intro fuel
  induction fuel with
  | zero =>
    intro listed t ti hh hhi _ _ hr ho H
    refine ⟨fun h => (by rw [h] at hr; cases hr), fun j hj => ?_⟩
    by_cases hji : j = i
    · subst hji; exact ⟨oi, xi, ti, hhi, hi, ho, H⟩
    · have := ready_mono hj hji
      rw [H.1] at this; cases this
  | succ fuel ih =>
    intro listed t ti hh hhi hcl hfree hr ho H
    refine ⟨fun h => (by rw [h] at hr; cases hr), fun j hj => ?_⟩
    by_cases hji : j = i
    · subst hji; exact ⟨oi, xi, ti, hhi, hi, ho, H⟩
    · obtain ⟨oj, xj, tj, hbj, hoj, hout, hrest⟩ := H.2 j (ready_mono hj hji)
      obtain ⟨hjun, oj', hoj', hall⟩ := mem_ready.1 hj
      rw [hoj] at hoj'; cases hoj'
      obtain ⟨hiun, oi', hoi', halli⟩ := mem_ready.1 hr
      rw [hi] at hoi'; cases hoi'
      have hnot : ∀ e ∈ oj.after, Region.binds .any e = true → e.on ≠ i := fun e he hb heq => by
        have h1 := hall e he hb
        rw [heq, not_listed hr] at h1
        cases h1
      have hnoti : ∀ e ∈ oi.after, Region.binds .any e = true → e.on ≠ j := fun e he hb heq => by
        have h1 := halli e he hb
        rw [heq, not_listed hj] at h1
        cases h1
      have no1 : edgeR ops 5 oj i = true → False := fun h => by
        have := edgeR_listed hcl 5 hall h
        rw [not_listed hr] at this; cases this
      have no2 : edgeR ops 5 oi j = true → False := fun h => by
        have := edgeR_listed hcl 5 halli h
        rw [not_listed hj] at this; cases this
      obtain ⟨t1, hb1, o1, o2⟩ := Out3.swap (hfree j oj hoj hji hjun hnot)
        (fun s1 s2 => by
          rcases Nat.lt_or_gt_of_ne hji with hlt | hgt
          · exact no2 (big_spec hst hoj hi hlt s2 s1)
          · exact no1 (big_spec hst hi hoj hgt s1 s2))
        (fun s1 he => (pin_spec he hoj hi s1).elim no2 no1) (fun he s2 => (pin_spec he hi hoj s2).elim no1 no2) ho hout
      refine ⟨oj, xj, t1, hb1, hoj, o1, ih (listed.setIfInBounds j true) _ tj hb1 hbj (hcl.step hj) (fun k ok hk hki hun hno => ?_) (ready_mono hr (Ne.symm hji)) o2 ?_⟩
      · refine hfree k ok hk hki ?_ hno
        by_cases hjk : j = k
        · subst hjk; exact hjun
        · rw [getD_set_ne true hjk] at hun; exact hun
      · rw [Array.setIfInBounds_comm _ _ hji]
        exact hrest

/-- In the text's order. -/
def vLex3 (P : Program) (En : Ent) (ops : Array Oper) (W Z : List Nat) (h0 : List Box) (K : List V → List Box → Prop) : Nat → List Oper → List V → List Box → Prop
  | _, [], t, hh => K t hh
  | k, o :: os, t, hh => ∃ x t' hh', Out3 P En ops W Z h0 k o t hh x t' hh' ∧ vLex3 P En ops W Z h0 K (k + 1) os t' hh'
theorem vAny3_lex {K : List V → List Box → Prop} (hst : bigOK ops = true) : ∀ (l : List Oper) (k : Nat) (listed : Array Bool) (t : List V) (hh : List Box), ClosedL ops listed → (∀ j, l[j]? = ops[k + j]?) →
    lexOK2 ops l.length k listed = true → vLex3 P En ops W Z h0 K k l t hh → vAny3 P En ops W Z h0 K l.length listed t hh
  | [], _, _, _, _, _, _, hB, h => ⟨by simpa [lexOK2] using hB, h⟩
  | o :: l, k, listed, t, hh, hcl, hl, hB, ⟨x, t', hh', ho, h⟩ => by
    have h0 : ops[k]? = some o := by simpa using (hl 0).symm
    simp only [List.length_cons, lexOK2, Bool.and_eq_true] at hB
    obtain ⟨⟨hr, hf⟩, hB'⟩ := hB
    exact vAny3_first hst h0 l.length listed t t' hh hh' hcl (Region.free_spec h0 hf) (by simpa using hr) ho
      (vAny3_lex hst l (k + 1) _ _ _ (hcl.step (by simpa using hr)) (fun j => by have := hl (j + 1); simpa [Nat.add_assoc, Nat.add_comm 1 j] using this) hB' h)

theorem vAny3_sound {K : List V → List Box → Prop} {Q : Exit → Act → World → Prop} (hK : ∀ t hh a w, K t hh → SimE En ⟨t, hh⟩ a w → Q .normal a w) :
    ∀ (fuel : Nat) (listed : Array Bool) (t : List V) (hh : List Box) (a : Act) (w : World), vAny3 P En ops W Z h0 K fuel listed t hh → SimE En ⟨t, hh⟩ a w → wpAny P .any ops Q fuel listed a w
  | 0, listed, t, hh, a, w, ⟨hno, hk⟩, hs => ⟨hno, hK t hh a w hk hs⟩
  | fuel + 1, listed, t, hh, a, w, ⟨hne, hall⟩, hs => by
    refine ⟨fun h => (hne h).elim, fun i hi => ?_⟩
    obtain ⟨o, x, t', hh', ho, hout, hrest⟩ := hall i hi
    unfold wpOp
    simp only [ho]
    have h1 := hout.wp (Q := Q) hs (K := wpAny P .any ops Q fuel (listed.setIfInBounds i true)) fun a' w' hs' =>
      vAny3_sound hK fuel _ _ _ a' w' hrest hs'
    split
    · rename_i hw; rw [if_pos hw] at h1; exact .inl h1
    · rename_i hw; rw [if_neg hw] at h1; exact h1

theorem SStep.of_gives (hM : okM En.g.n En.M M = true) (hg : Gives P M hx hx' (restr o (VSt.get ⟨t, []⟩)) o x) : SStep P En o t hx M x hx' := by
  intro t2 he a w K Q hs hK
  rw [← he, get_h t2 [] hx] at hg
  refine Gives.sim (s := ⟨t2, hx⟩) hg.of_restr hs hM fun a' w' hs' => hK a' w' ?_
  rwa [next_kill] at hs'

/-- What a ghost step makes of a slot. -/
def frzF : List Box → List Nat → V → V
  | _, [], v => v
  | h, b :: bs, v => match h[b]? with
    | some (.arr _ sz rows) => frzF ((h.map (Box.frz b (.sl sz rows))).set b .gone) bs (V.frz b (.sl sz rows) v)
    | some (.cells _ vs) => match allDs vs with
      | some cs => frzF ((h.map (Box.frp b cs)).set b .gone) bs (V.frp b cs v)
      | none => frzF h bs v
    | _ => frzF h bs v
theorem frz_t : ∀ {bs : List Nat} {h : List Box} {t : List V}, (VSt.frz ⟨t, h⟩ bs).t = t.map (frzF h bs)
  | [], h, t => by show t = _; rw [show frzF h [] = id from rfl]; simp
  | b :: bs, h, t => by
    have e : frzF h (b :: bs) = fun v => match h[b]? with
      | some (.arr _ sz rows) => frzF ((h.map (Box.frz b (.sl sz rows))).set b .gone) bs (V.frz b (.sl sz rows) v)
      | some (.cells _ vs) => match allDs vs with
        | some cs => frzF ((h.map (Box.frp b cs)).set b .gone) bs (V.frp b cs v)
        | none => frzF h bs v
      | _ => frzF h bs v := rfl
    rw [e]
    unfold VSt.frz
    simp only
    cases hb : h[b]? with
    | none => simp only [frz_t]
    | some bx => cases bx with
      | arr e sz rows => simp only [frz_t, List.map_map]; rfl
      | cells t vs => cases hc : allDs vs with
        | none => simp only [hc, frz_t]
        | some cs => simp only [hc, frz_t, List.map_map]; rfl
      | _ => simp only [frz_t]
theorem frzF_any : ∀ {bs : List Nat} {h : List Box}, frzF h bs .any = .any
  | [], h => rfl
  | b :: bs, h => by
    unfold frzF
    split
    · exact frzF_any
    · split <;> exact frzF_any
    · exact frzF_any
theorem frz_get {bs : List Nat} {y : Operand} (he : VSt.get ⟨t2, h⟩ y = VSt.get ⟨t, h⟩ y) : (VSt.frz ⟨t2, h⟩ bs).get y = (VSt.frz ⟨t, h⟩ bs).get y := by
  cases y with
  | tmp k =>
    have he : t2.getD k .any = t.getD k .any := he
    show (VSt.frz ⟨t2, h⟩ bs).t.getD k .any = (VSt.frz ⟨t, h⟩ bs).t.getD k .any
    rw [frz_t, frz_t]
    have aux : ∀ t : List V, (t.map (frzF h bs)).getD k .any = frzF h bs (t.getD k .any) := fun t => by
      rw [List.getD_eq_getElem?_getD, List.getD_eq_getElem?_getD, List.getElem?_map]
      cases t[k]? with
      | none => exact frzF_any.symm
      | some v => rfl
    rw [aux, aux, he]
  | const v => rfl
  | func f => rfl
  | global k => rfl
end

section
variable (A : Sy) (P : Program) (C : CfgO)
/-- A call that reads boxes and leaves them as they are. -/
def borrowT (hh : List Box) (t : List V) (o : Oper) : Tree V := match callOf (VSt.frz ⟨t, hh⟩ (fzl ⟨t, hh⟩ o)).get o with
  | some (f, vs0) => match C.inl.contains f, sigP P f with
    | false, some ts => match canL P (parP P f) vs0 with
      | vs => match vs.all V.pureB, shR P ts with
        | true, some ss => match ss.all Sh.flat with
          | true => callT A P f vs ts
          | false => .fail
        | _, _ => .fail
    | _, _ => .fail
  | none => .fail
def pinXT (hh : List Box) (t : List V) (o : Oper) : Tree V := match callOf (VSt.get ⟨t, hh⟩) o with
  | some (f, vs0) => match (canL P (parP P f) vs0).all V.pureB with
    | true => opXT A P C hh (VSt.get ⟨t, hh⟩) o
    | false => borrowT A P C hh t o
  | none => opXT A P C hh (VSt.get ⟨t, hh⟩) o

def Box.fitK (c : Nat) : Box → Bool
  | .cells _ vs => vs.all fun v => v.freeB [c]
  | _ => true
def V.isAt (b : Nat) : V → Prop
  | .ptr c _ => c = b
  | .pml c _ _ _ => c = b
  | _ => False
def bigW (W : List Nat) (n0 : Nat) (hh : List Box) (o : Oper) (ρ : Operand → V) : Bool := match o.op with
  | .store _ y _ => match ρ y with
    | .ptr b _ => W.contains b || decide (n0 ≤ b)
    | .pml b _ _ _ => W.contains b || decide (n0 ≤ b)
    | _ => false
  | .alloc _ => true
  | .buildSlice .. => true
  | .call c => match c with
    | ⟨.builtin .append, ⟨[y, _]⟩, ⟨[t, t']⟩⟩ => decide (t' = t) && match ρ y with
      | .own c => (W.contains c || decide (n0 ≤ c)) && hh.all (Box.fitK c)
      | .nils => true
      | _ => false
    | _ => false
  | _ => false
end

section
variable {P : Program} {h h' h2 h0 hh hx hx' : List Box} {ρ ρ2 : Operand → V} {o : Oper} {x : V} {ops : Array Oper} {W Z M : List Nat} {t t2 : List V} {En : Ent} {E : Env} {C : CfgO}
theorem borrowT_sound (hE : E.Ok) (hG : EnvGood P E) (hk : (borrowT sy P C hh t o).run E = some x) : SStep P En o t hh [] x hh := by
  intro t2 he a w K Q hs hK
  unfold borrowT at hk
  generalize hL : fzl ⟨t, hh⟩ o = L at hk
  have hs1 : SimE En (VSt.frz ⟨t2, hh⟩ L) a w := hs.frzs
  rw [get_h t2 [] hh, get_h t [] hh] at he
  have hco : callOf (VSt.frz ⟨t2, hh⟩ L).get o = callOf (VSt.frz ⟨t, hh⟩ L).get o := callOf_congr fun y hy => frz_get (restr_of he hy)
  rw [← hco] at hk
  split at hk
  · rename_i f vs hc1
    split at hk
    · rename_i ts _ hsig
      simp only at hk
      generalize hcan : canL P (parP P f) vs = vc at hk
      split at hk
      · rename_i ss hp hss
        split at hk
        · rename_i hfl
          obtain ⟨y, args, tys, caps, hop, hy, rfl⟩ := callOf_some hc1 (fun f => rfl)
          have hg := sigP_some hsig
          obtain ⟨q1, q2, q3⟩ := callT_sound hE hG hp hsig hk
          refine call_borrow hs hs1 hop hy (by rw [hcan]; exact hp) hg (by rw [hcan]; exact q1) (q3 ss hss hfl) fun a' w' hs' => hK a' w' ?_
          rwa [next_kill] at hs'
        · cases hk
      · cases hk
    · cases hk
  · cases hk
theorem pinXT_sound (hE : E.Ok) (hG : EnvGood P E) (hk : (pinXT sy P C hh t o).run E = some x) : SStep P En o t hh [] x hh := by
  have aux : (opXT sy P C hh (VSt.get ⟨t, hh⟩) o).run E = some x → SStep P En o t hh [] x hh := fun h => by
    have := opXT_sound hE hG (fun f => rfl) h hh (Pre.refl hh)
    rw [get_h t hh []] at this
    exact SStep.of_gives (by simp [okM]) this
  unfold pinXT at hk
  split at hk
  · split at hk
    · exact aux hk
    · exact borrowT_sound hE hG hk
  · exact aux hk

theorem storeT_set {t : TypeId} {a v : V} {r : List Box} (hk : (storeT sy P h t a v).run E = some r) : ∃ b c, V.isAt b a ∧ r = h.set b c := by
  unfold storeT at hk
  split at hk
  · split at hk
    · split at hk
      · split at hk
        · cases hk; exact ⟨_, _, rfl, rfl⟩
        · cases hk
      · cases hk
    · split at hk
      · split at hk
        · split at hk
          · obtain ⟨hi, hk⟩ := chk_some hk; cases hk; exact ⟨_, _, rfl, rfl⟩
          · cases hk
        · cases hk
      · cases hk
    · cases hk
  · cases hk
theorem preW_app2 (hp : PreW W h0 hh) (l : List Box) : PreW W h0 (hh ++ l) := fun k x hk hx => by
  have := hp k x hk hx
  rw [List.getElem?_append, if_pos (List.getElem?_eq_some_iff.1 this).1]; exact this
theorem preW_set2 {b : Nat} (hb : (W.contains b || decide (h0.length ≤ b)) = true) (hp : PreW W h0 hh) (c : Box) : PreW W h0 (hh.set b c) := fun k x hk hx => by
  have hlt := (List.getElem?_eq_some_iff.1 hx).1
  have hne : b ≠ k := fun e => by
    subst e
    simp only [Bool.or_eq_true, List.contains_eq_mem, decide_eq_true_eq] at hb
    rcases hb with h1 | h1
    · exact hk h1
    · omega
  rw [List.getElem?_set, if_neg hne]; exact hp k x hk hx
theorem fitK_kill {c : Nat} {b : Box} (h : b.fitK c = true) : b.kill [c] = b := by
  cases b with
  | cells t vs =>
    show Box.cells t (vs.map _) = _
    have : vs.map (V.kill [c]) = vs.map id := List.map_congr_left fun v hv => by
      have hf := List.all_eq_true.1 h v hv
      have aux : ∀ cs : List V, cs.all (V.freeC [c]) = true → cs.map (V.killC [c]) = cs := fun cs hc => by
        have : cs.map (V.killC [c]) = cs.map id := List.map_congr_left fun u hu => by
          have := List.all_eq_true.1 hc u hu
          simp [V.killC, this]
        simpa using this
      cases v with
      | agg cs => exact congrArg V.agg (aux cs hf)
      | tup cs => exact congrArg V.tup (aux cs hf)
      | fn f cs => exact congrArg (V.fn f) (aux cs hf)
      | any => rfl
      | nils => rfl
      | d x => rfl
      | pel cs => rfl
      | nilp => rfl
      | nilf => rfl
      | own b => exact congrArg (fun q => bif q then V.own b else .any) hf
      | map b => exact congrArg (fun q => bif q then V.map b else .any) hf
      | ptr b off => exact congrArg (fun q => bif q then V.ptr b off else .any) hf
      | pml b sz i off => exact congrArg (fun q => bif q then V.pml b sz i off else .any) hf
    rw [this]; simp
  | _ => rfl
end

section
variable (A : Sy) (P : Program) (C : CfgO)
def bigT (h : List Box) (ρ : Operand → V) (o : Oper) : Tree (List Nat × List Box × V) := match o.op with
  | .alloc t => match zeroO P t with
    | some z => match (ofConst z).cellsV with
      | some vs => .ret ([], h ++ [.cells t vs], .ptr h.length 0)
      | none => .fail
    | none => .fail
  | .store t y z => (storeT A P h t (ρ y) (ρ z)).bind fun h' => .ret ([], h', .any)
  | .buildSlice t n parts => match litV P t n (parts.toList.map fun q => (q.1, ρ q.2)), (parts.toList.all fun q => (ρ q.2).liveC h) with
    | some (e, sz, vs), true => match shOf P 9 e with
      | some ss => match rowsOf ss sz n vs, decide (n ≤ 16777216) with
        | some rows, true => .ret ([], h ++ [.arr e sz rows], .own h.length)
        | _, _ => .fail
      | none => .fail
    | _, _ => .fail
  | .call c => match c with
    | ⟨.builtin .append, ⟨[y, z]⟩, ⟨[t, t']⟩⟩ => match decide (t' = t) with
      | true => appendT A P h t (ρ y) (ρ z)
      | false => .fail
    | _ => .fail
  | _ => .fail
end

section
variable {P : Program} {h h' h2 h0 hh hx hx' : List Box} {ρ ρ2 : Operand → V} {o : Oper} {x : V} {ops : Array Oper} {W Z M : List Nat} {t t2 : List V} {En : Ent} {E : Env} {C : CfgO} {r : List Nat × List Box × V}
theorem bigT_sound (hE : E.Ok) (he : ∀ y, y ∈ o.op.operands.toList → ρ y = ρ2 y) (hk : (bigT sy P h ρ o).run E = some r) : Gives P r.1 h r.2.1 ρ2 o r.2.2 := by
  unfold bigT at hk
  split at hk
  · rename_i t hop
    split at hk
    · rename_i z hz
      split at hk
      · rename_i vs hv; cases hk; exact gives_alloc hop hz hv
      · cases hk
    · cases hk
  · rename_i t y z hop
    rw [he y (by simp [hop, Op.operands]), he z (by simp [hop, Op.operands])] at hk
    obtain ⟨h1, q1, hk⟩ := run_bind_some hE hk
    cases hk
    exact storeT_sound hop q1
  · rename_i t n parts hop
    have e1 : (parts.toList.map fun q => (q.1, ρ q.2)) = parts.toList.map fun q => (q.1, ρ2 q.2) := List.map_congr_left fun q hq => by
      rw [he q.2 (by simp only [hop, Op.operands]; exact List.mem_map.2 ⟨q, hq, rfl⟩)]
    have e2 : (parts.toList.all fun q => (ρ q.2).liveC h) = parts.toList.all fun q => (ρ2 q.2).liveC h := by
      rw [Bool.eq_iff_iff, List.all_eq_true, List.all_eq_true]
      refine ⟨fun hh q hq => ?_, fun hh q hq => ?_⟩
      · rw [← he q.2 (by simp only [hop, Op.operands]; exact List.mem_map.2 ⟨q, hq, rfl⟩)]; exact hh q hq
      · rw [he q.2 (by simp only [hop, Op.operands]; exact List.mem_map.2 ⟨q, hq, rfl⟩)]; exact hh q hq
    rw [e1, e2] at hk
    split at hk
    · rename_i e sz vs hlit hl
      split at hk
      · rename_i ss hss
        split at hk
        · rename_i rows hr hn
          cases hk
          exact gives_buildSlice hop hlit hl hr (by have := of_decide_eq_true hn; simp only [maxLen]; omega)
        · cases hk
      · cases hk
    · cases hk
  · rename_i c hop
    split at hk
    · rename_i y z t t'
      rw [he y (by simp [hop, Op.operands, Call.operands]), he z (by simp [hop, Op.operands, Call.operands])] at hk
      split at hk
      · rename_i ht
        have ht := of_decide_eq_true ht
        subst ht
        exact appendT_sound hop rfl hk
      · cases hk
    · cases hk
  · cases hk
theorem bigT_pre (hE : E.Ok) (hk : (bigT sy P hh ρ o).run E = some r) (hw : bigW W h0.length hh o ρ = true) (hp : PreW W h0 hh) : PreW W h0 r.2.1 := by
  unfold bigT at hk
  split at hk
  · split at hk
    · split at hk
      · cases hk; exact preW_app2 hp _
      · cases hk
    · cases hk
  · rename_i t y z hop
    obtain ⟨h1, q1, hk⟩ := run_bind_some hE hk
    cases hk
    obtain ⟨b, c, hb, rfl⟩ := storeT_set q1
    unfold bigW at hw
    rw [hop] at hw
    simp only at hw
    split at hw
    · rename_i b' off hy
      rw [hy] at hb
      have hb : b' = b := hb
      subst hb
      exact preW_set2 hw hp c
    · rename_i b' sz i off hy
      rw [hy] at hb
      have hb : b' = b := hb
      subst hb
      exact preW_set2 hw hp c
    · cases hw
  · split at hk
    · split at hk
      · split at hk
        · cases hk; exact preW_app2 hp _
        · cases hk
      · cases hk
    · cases hk
  · rename_i c hop
    split at hk
    · rename_i y z t t'
      unfold bigW at hw
      rw [hop] at hw
      simp only [Bool.and_eq_true] at hw
      obtain ⟨ht, hw⟩ := hw
      rw [ht] at hk
      simp only at hk
      unfold appendT at hk
      split at hk
      · split at hk
        · split at hk
          · rename_i c hy
            rw [hy] at hw
            simp only [Bool.and_eq_true] at hw
            split at hk
            · split at hk
              · obtain ⟨hf, hk⟩ := chk_some hk
                cases hk
                have e : hh.map (Box.kill [c]) = hh := by
                  have : hh.map (Box.kill [c]) = hh.map id := List.map_congr_left fun b hb => fitK_kill (List.all_eq_true.1 hw.2 b hb)
                  simpa using this
                show PreW W h0 ((hh.map (Box.kill [c])).set c _)
                rw [e]
                exact preW_set2 hw.1 hp _
              · cases hk
            · cases hk
          · obtain ⟨hf, hk⟩ := chk_some hk
            cases hk
            exact preW_app2 hp _
          · cases hk
        · cases hk
      · cases hk
    · cases hk
  · cases hk
end

section
variable (A : Sy) (P : Program) (C : CfgO)
def isApp (o : Oper) : Bool := match o.op with
  | .call ⟨.builtin .append, _, _⟩ => true
  | _ => false
def isMint (o : Oper) : Bool := match o.op with
  | .buildSlice .. => true
  | _ => isApp o
/-- The boxes that may be turned: new ones, and those that are appended to. -/
def bigZ (ops : Array Oper) (s : VSt) : List Nat := match ops.any isApp with
  | true => (List.range ops.size).map (s.h.length + ·) ++ ops.toList.flatMap fun o => match o.op with
    | .call ⟨.builtin .append, ⟨[y, _]⟩, _⟩ => match addrV P ops s 12 y with
      | some (.own b) => [b]
      | _ => []
    | _ => []
  | false => []
def calmO (Z : List Nat) (o : Oper) (t : List V) (x : V) : Bool := Z.isEmpty || (calmB Z x && o.op.operands.toList.all fun y => calmB Z (VSt.get ⟨t, []⟩ y))
def pre3T (ops : Array Oper) (W Z : List Nat) (h0 : List Box) (n0 : Nat) (M0 : List Nat) : Nat → List Oper → List V → List Box → Tree (List V × List Box)
  | _, [], t, hh => .ret (t, hh)
  | k, o :: os, t, hh => guardT ops o t (fun t => match bigI o with
      | true => (bigT A P hh (VSt.get ⟨t, hh⟩) o).bind fun r => match okM n0 M0 r.1 && r.1.all Z.contains && bigW W h0.length hh o (VSt.get ⟨t, hh⟩) with
        | true => forceL (putV (killT r.1 t) o.dst r.2.2) fun t => forceH r.2.1 fun hh => pre3T ops W Z h0 n0 M0 (k + 1) os t hh
        | false => .fail
      | false => match pinI ops k with
        | true => (pinXT A P C hh t o).bind fun x => forceL (putV t o.dst x) fun t => pre3T ops W Z h0 n0 M0 (k + 1) os t hh
        | false => (opXT A P C (hideB h0 W) (VSt.get ⟨t, []⟩) o).bind fun x => match calmO Z o t x with
          | true => forceL (putV t o.dst x) fun t => pre3T ops W Z h0 n0 M0 (k + 1) os t hh
          | false => .fail)
    (fun t => forceL (putV t o.dst (.tup [])) fun t => pre3T ops W Z h0 n0 M0 (k + 1) os t hh)
/-- Is the region one whose heavy operations are in order, two of them at least? -/
def drawOK3 (ops : Array Oper) : Bool := decide (2 ≤ (ops.toList.filter bigI).length) && bigOK ops && lexOK2 ops ops.size 0 (Array.replicate ops.size false)
variable (ent : FuncId → List V → List Box → Tree (List Nat × V × List Box)) (n0 : Nat) (M0 : List Nat)
def drawT (ops : Array Oper) (s : VSt) : Tree VSt := match (!drawOK ops || ops.any isMint) && drawOK3 ops with
  | true => forceS (iceT ops s) fun s => forceSp (ops.toList.flatMap (stBox P ops s)) fun W => forceSp (bigZ P ops s) fun Z => (pre3T A P C ops W Z s.h n0 M0 0 ops.toList s.t s.h).bind fun r => .ret ⟨r.1, r.2⟩
  | false => drawT0 A P C ent n0 M0 ops s
end

section
variable {P : Program} {h h' h2 h0 hh hx hx' : List Box} {ρ ρ2 : Operand → V} {o : Oper} {x : V} {ops : Array Oper} {W Z M : List Nat} {t t2 : List V} {En : Ent} {E : Env} {C : CfgO}
theorem calmO_spec (h : calmO Z o t x = true) : Z = [] ∨ (calmB Z x = true ∧ ∀ y ∈ o.op.operands.toList, calmB Z (VSt.get ⟨t, []⟩ y) = true) := by
  unfold calmO at h
  rw [Bool.or_eq_true, Bool.and_eq_true] at h
  rcases h with h | ⟨h1, h2⟩
  · exact .inl (by simpa using h)
  · exact .inr ⟨h1, fun y hy => List.all_eq_true.1 h2 y hy⟩
theorem pre3T_lex (hE : E.Ok) (hG : EnvGood P E) {r : List V × List Box} : ∀ {os : List Oper} {k : Nat} {t : List V} {hh : List Box}, PreW W h0 hh → (pre3T sy P C ops W Z h0 En.g.n En.M k os t hh).run E = some r → vLex3 P En ops W Z h0 (fun t hh => (t, hh) = r) k os t hh
  | [], _, _, _, _, hk => by cases hk; rfl
  | o :: os, k, t, hh, hpw, hk => by
    unfold pre3T at hk
    rcases guardT_run hk with ⟨hw, hk⟩ | ⟨hw, hk⟩
    · split at hk
      · rename_i hbig
        obtain ⟨r1, q1, hk⟩ := run_bind_some hE hk
        split at hk
        · rename_i hc
          simp only [Bool.and_eq_true] at hc
          obtain ⟨⟨c1, c2⟩, c3⟩ := hc
          rw [forceL_eq, forceH_eq] at hk
          have hg := bigT_sound (ρ2 := restr o (VSt.get ⟨t, hh⟩)) hE (fun y hy => (restr_at (fun f => rfl) hy).symm) q1
          have hp2 := bigT_pre hE q1 c3 hpw
          rw [get_h t hh []] at hg
          exact ⟨r1.2.2, _, r1.2.1, ⟨.big hh r1.2.1 r1.1, ⟨hw, hbig, fun b hb => by have := List.all_eq_true.1 c2 b hb; simpa using this, hpw, hp2, SStep.of_gives c1 hg⟩, rfl, rfl, rfl⟩, pre3T_lex hE hG hp2 hk⟩
        · cases hk
      · split at hk
        · rename_i hpin
          obtain ⟨x, q1, hk⟩ := run_bind_some hE hk
          rw [forceL_eq] at hk
          exact ⟨x, _, hh, ⟨.pin hh, ⟨hw, hpin, pinXT_sound hE hG q1⟩, rfl, rfl, rfl⟩, pre3T_lex hE hG hpw hk⟩
        · obtain ⟨x, q1, hk⟩ := run_bind_some hE hk
          split at hk
          · rename_i hc
            rw [forceL_eq] at hk
            exact ⟨x, _, hh, ⟨.late, ⟨hw, calmO_spec hc, fun h2 hp => opXT_sound hE hG (fun f => rfl) q1 h2 hp.pre⟩, hpw, rfl, rfl⟩, pre3T_lex hE hG hpw hk⟩
          · cases hk
    · rw [forceL_eq] at hk
      exact ⟨.tup [], _, hh, ⟨.no, ⟨hw, rfl⟩, trivial, rfl, rfl⟩, pre3T_lex hE hG hpw hk⟩

theorem drawT_sound (hE : E.Ok) (hG : EnvGood P E) {ent : FuncId → List V → List Box → Tree (List Nat × V × List Box)} (hent : EntGood P E ent) {En : Ent} {id : Nat} {Q : Exit → Act → World → Prop} {s s' : VSt} {a : Act} {w : World} (hm : P.follows .mixedOrders = true)
    (hk : (drawT sy P C ent En.g.n En.M ops s).run E = some s') (hs : SimE En s a w) (hq : ∀ a' w', SimE En s' a' w' → Q .normal a' w') : (Code.region id ops true).wp P Q a w := by
  unfold drawT at hk
  split at hk
  · rename_i hB
    rw [forceS_eq, forceSp_eq, forceSp_eq] at hk
    have hs : SimE En (iceT ops s) a w := hs.frzs
    generalize iceT ops s = s at hk hs
    obtain ⟨r, h1, hk⟩ := run_bind_some hE hk
    cases hk
    simp only [drawOK3, Bool.and_eq_true] at hB
    have hlex := pre3T_lex hE hG (fun b x _ h => h) h1
    have hany := vAny3_lex hB.2.1.2 ops.toList 0 (Array.replicate ops.size false) s.t s.h (fun k ok hok hk => by have hlt := (Array.getElem?_eq_some_iff.1 hok).1; simp [Array.getElem?_replicate, hlt] at hk) (fun j => by simp) (by simpa using hB.2.2) hlex
    refine wp_region_any hm ?_
    have := vAny3_sound (Q := Q) (En := En) (fun t hh a w hk' hs => by subst hk'; exact hq a w hs) ops.toList.length _ s.t s.h a w.drew hany hs.drew
    simpa using this
  · exact drawT0_sound hE hG hent hm hk hs hq
end
end Go.Vm
end

section
namespace Go.Vm
section
variable {P : Program} {M : List Nat} {h h' h2 h0 : List Box} {ρ ρ2 : Operand → V} {o : Oper} {x : V} {ops : Array Oper}

/-! ### the loop's head, for whatever plain data -/
def allD (s : Sh) (K : D → Prop) : Prop := match s with
  | .int k => ∀ n, K (.int k n)
  | .bool => ∀ b, K (.bool b)
  | .str => ∀ t, K (.str t)
  | .sl sz => ∀ rows, K (.sl sz rows)

theorem allD_leaf {s : Sh} {v : V} {K K' : D → Prop} (ha : allD s K) (hk : leafOf s v K') : ∃ x, K x ∧ K' x ∧ ∀ (w : World) (g : Gh) (u : Value), Rep w g u v → Rep w g u (.d x) := by
  obtain ⟨x, h1, h2⟩ := leafOf_sound (K := fun x => K x ∧ K' x) (s := s) (v := v) (by
    unfold leafOf at hk ⊢
    split at hk <;> (try split at hk) <;> (try exact hk.elim) <;> first | exact ⟨ha _, hk⟩ | (simp only [*]; exact ⟨ha _, hk⟩))
  exact ⟨x, h1.1, h1.2, h2⟩

def genS (l : SL) (v0 : V) (K : List D → V → Prop) : Prop := match l with
  | .leaf s => allD s fun x => K [x] (.d x)
  | .same => K [] v0

theorem genS_fit {n : Nat} {l : SL} {v0 v : V} {K K' : List D → V → Prop} (hg : genS l v0 K) (hk : fitS n l v0 v K') : ∃ ds v', K ds v' ∧ K' ds v' ∧ Wk n v v' := by
  cases l with
  | leaf s =>
    obtain ⟨x, h0, h1, h2⟩ := allD_leaf (K := fun x => K [x] (.d x)) (K' := fun x => K' [x] (.d x)) hg hk
    refine ⟨_, _, h0, h1, fun w g u hr => ?_⟩
    have := h2 w g u hr
    cases this with | d h => exact .d h
  | same =>
    simp only [fitS] at hk
    split at hk
    · rename_i hb
      obtain ⟨rfl, hk⟩ := hk
      exact ⟨_, _, hg, hk, fun w g u hr => belowB_rep hb hr⟩
    · exact hk.elim

def genT (t0 : List V) : List (Nat × SL) → List V → (List D → List V → Prop) → Prop
  | [], acc, K => K [] acc
  | (k, l) :: ls, acc, K => genS l (t0.getD k .any) fun ds v => genT t0 ls (acc.set k v) fun ds' acc' => K (ds ++ ds') acc'

theorem genT_fit {n : Nat} {t0 t : List V} : ∀ {ls : List (Nat × SL)} {acc : List V} {K K' : List D → List V → Prop}, genT t0 ls acc K → fitT n t0 t ls acc K' → acc.length = t.length →
    (∀ (k : Nat) v', acc[k]? = some v' → Wk n (t.getD k .any) v') → ∃ ds acc', K ds acc' ∧ K' ds acc' ∧ acc'.length = t.length ∧ ∀ (k : Nat) v', acc'[k]? = some v' → Wk n (t.getD k .any) v'
  | [], acc, K, K', hg, hk, hl, hw => ⟨_, _, hg, hk, hl, hw⟩
  | (k, l) :: ls, acc, K, K', hg, hk, hl, hw => by
    obtain ⟨ds, v, hg, hk, h1⟩ := genS_fit hg hk
    obtain ⟨ds', acc', hg, hk, h2, h3⟩ := genT_fit hg hk (by simpa using hl) (fun i v' hv => by
      rw [List.getElem?_set] at hv
      by_cases hi : k = i
      · subst hi
        rw [if_pos rfl] at hv
        split at hv
        · cases hv; exact h1
        · cases hv
      · rw [if_neg hi] at hv; exact hw i v' hv)
    exact ⟨_, _, hg, hk, h2, h3⟩

def genCs : List (Option SL) → List V → (List D → List V → Prop) → Prop
  | [], [], K => K [] []
  | none :: ls, _ :: vs0, K => genCs ls vs0 fun ds acc => K ds (.any :: acc)
  | some l :: ls, v0 :: vs0, K => genS l v0 fun ds v' => genCs ls vs0 fun ds' acc => K (ds ++ ds') (v' :: acc)
  | _, _, _ => False

theorem genCs_fit {n : Nat} : ∀ {ls : List (Option SL)} {vs0 vs : List V} {K K' : List D → List V → Prop}, genCs ls vs0 K → fitCs n ls vs0 vs K' →
    ∃ ds acc, K ds acc ∧ K' ds acc ∧ acc.length = vs.length ∧ ∀ (i : Nat) v v', vs[i]? = some v → acc[i]? = some v' → Wk n v v'
  | [], [], [], K, K', hg, hk => ⟨_, _, hg, hk, rfl, by simp⟩
  | none :: ls, _ :: vs0, v :: vs, K, K', hg, hk => by
    obtain ⟨ds, acc, hg, hk, h1, h2⟩ := genCs_fit (ls := ls) (vs0 := vs0) (vs := vs) hg hk
    refine ⟨_, _, hg, hk, by simp [h1], fun i v1 v2 hv1 hv2 => ?_⟩
    cases i with
    | zero => simp at hv2; subst hv2; exact Wk.any _ _
    | succ i => exact h2 i v1 v2 (by simpa using hv1) (by simpa using hv2)
  | some l :: ls, v0 :: vs0, v :: vs, K, K', hg, hk => by
    obtain ⟨ds, v', hg, hk, h0⟩ := genS_fit hg hk
    obtain ⟨ds', acc, hg, hk, h1, h2⟩ := genCs_fit (ls := ls) (vs0 := vs0) (vs := vs) hg hk
    refine ⟨_, _, hg, hk, by simp [h1], fun i v1 v2 hv1 hv2 => ?_⟩
    cases i with
    | zero => simp at hv1 hv2; subst hv1; subst hv2; exact h0
    | succ i => exact h2 i v1 v2 (by simpa using hv1) (by simpa using hv2)
  | [], [], _ :: _, _, _, _, hk => by simp [fitCs] at hk
  | [], _ :: _, _, _, _, hg, _ => by simp [genCs] at hg
  | none :: _, [], _, _, _, hg, _ => by simp [genCs] at hg
  | none :: _, _ :: _, [], _, _, _, hk => by simp [fitCs] at hk
  | some _ :: _, [], _, _, _, hg, _ => by simp [genCs] at hg
  | some _ :: _, _ :: _, [], _, _, _, hk => by simp [fitCs] at hk

def genBox (l : BL) (x0 : Box) (K : List D → Box → Prop) : Prop := match l with
  | .gone => K [] .gone
  | .same => K [] x0
  | .rows sz => match x0 with
    | .arr e _ _ => ∀ rows, K [.sl sz rows] (.arr e sz rows)
    | _ => False
  | .maps => match x0 with
    | .mp kk _ => ∀ rows, K [.sl 2 rows] (.mp kk rows)
    | _ => False
  | .cells cs => match x0 with
    | .cells t vs0 => genCs cs vs0 fun ds vs' => K ds (.cells t vs')
    | _ => False

def sameMk : Box → Box → Bool
  | .arr e _ _, .arr e' _ _ => e' == e
  | .cells t _, .cells t' _ => t' == t
  | .mp k _, .mp k' _ => decide (k' = k)
  | _, _ => true

/-- The box y says no more than x, of the same make as x0. -/
theorem genBox_fit {n : Nat} {l : BL} {x0 x : Box} {K K' : List D → Box → Prop} (hg : genBox l x0 K) (hk : fitBox n l x0 x K') (hsame : sameMk x0 x = true) : ∃ ds y, K ds y ∧ K' ds y ∧ WkB n x y := by
  cases l with
  | gone => exact ⟨_, _, hg, hk, fun _ _ _ _ => trivial, fun g b k hy => by simp [Box.at?] at hy⟩
  | same =>
    simp only [fitBox] at hk
    split at hk
    · rename_i hb
      obtain ⟨rfl, hk⟩ := hk
      refine ⟨_, _, hg, hk, fun w g b hr => ?_, fun g b k hy => ?_⟩
      · cases x with
        | gone => trivial
        | cells t vs =>
          obtain ⟨us, h1, h2, h3⟩ := hr
          exact ⟨us, h1, h2, fun i u v hu hv => belowB_rep (List.all_eq_true.1 hb v (List.mem_of_getElem? hv)) (h3 i u v hu hv)⟩
        | arr e sz rows => exact hr
        | mp kk rows => exact hr
      · cases x <;> exact hy
    · exact hk.elim
  | rows sz =>
    cases x with
    | arr e sz' rows =>
      simp only [fitBox] at hk
      split at hk
      · rename_i hd
        have := of_decide_eq_true hd
        subst this
        cases x0 with
        | arr e0 sz0 rows0 =>
          simp only [sameMk, beq_iff_eq] at hsame
          subst hsame
          exact ⟨_, _, hg rows, hk, fun w g b hr => hr, fun g b k hy => hy⟩
        | _ => exact hg.elim
      · exact hk.elim
    | _ => exact hk.elim
  | maps =>
    cases x with
    | mp kk rows =>
      simp only [fitBox] at hk
      cases x0 with
      | mp kk0 rows0 =>
        simp only [sameMk, decide_eq_true_eq] at hsame
        subst hsame
        exact ⟨_, _, hg rows, hk, fun w g b hr => hr, fun g b k hy => hy⟩
      | _ => exact hg.elim
    | _ => exact hk.elim
  | cells cs =>
    cases x0 with
    | cells t vs0 =>
      cases x with
      | cells t' vs =>
        simp only [sameMk, beq_iff_eq] at hsame
        subst hsame
        obtain ⟨ds, acc, hg, hk, h1, h2⟩ := genCs_fit (K := fun ds vs' => K ds (.cells t' vs')) (K' := fun ds vs' => K' ds (.cells t' vs')) hg hk
        refine ⟨_, _, hg, hk, fun w g b hr => ?_, fun g b k hy => hy⟩
        obtain ⟨us, q1, q2, q3⟩ := hr
        refine ⟨us, q1, by rw [q2, h1], fun i u v hu hv => ?_⟩
        have hi : i < vs.length := by rw [← h1]; exact (List.getElem?_eq_some_iff.1 hv).1
        exact h2 i vs[i] v (List.getElem?_eq_getElem hi) hv w g u (q3 i u _ hu (List.getElem?_eq_getElem hi))
      | _ => exact hk.elim
    | _ => exact hg.elim

def fitH' (n : Nat) : List BL → List Box → List Box → (List D → List Box → Prop) → Prop
  | [], _, _, K => K [] []
  | l :: ls, x0 :: xs0, x :: xs, K => match sameMk x0 x with
    | true => fitBox n l x0 x fun ds y => fitH' n ls xs0 xs fun ds' ys => K (ds ++ ds') (y :: ys)
    | false => False
  | _, _, _, _ => False

def genH : List BL → List Box → (List D → List Box → Prop) → Prop
  | [], _, K => K [] []
  | l :: ls, x0 :: xs0, K => genBox l x0 fun ds y => genH ls xs0 fun ds' ys => K (ds ++ ds') (y :: ys)
  | _, _, _ => False

theorem genH_fit {n : Nat} : ∀ {ls : List BL} {h0 h : List Box} {K K' : List D → List Box → Prop}, genH ls h0 K → fitH' n ls h0 h K' →
    ∃ ds ys, K ds ys ∧ K' ds ys ∧ ys.length = ls.length ∧ ∀ (b : Nat) y, ys[b]? = some y → ∃ x, h[b]? = some x ∧ WkB n x y
  | [], _, _, K, K', hg, hk => ⟨_, _, hg, hk, rfl, by simp⟩
  | l :: ls, x0 :: xs0, x :: xs, K, K', hg, hk => by
    unfold fitH' at hk
    split at hk
    · rename_i hsm
      obtain ⟨ds, y, hg, hk, h0⟩ := genBox_fit hg hk hsm
      obtain ⟨ds', ys, hg, hk, h1, h2⟩ := genH_fit (ls := ls) (h0 := xs0) (h := xs) hg hk
      refine ⟨_, _, hg, hk, by simp [h1], fun b y' hy => ?_⟩
      cases b with
      | zero => simp at hy; subst hy; exact ⟨x, rfl, h0⟩
      | succ b => obtain ⟨x', hx, hw⟩ := h2 b y' (by simpa using hy); exact ⟨x', by simpa using hx, hw⟩
    · exact hk.elim
  | _ :: _, [], _, _, _, hg, _ => by simp [genH] at hg
  | _ :: _, _ :: _, [], _, _, _, hk => by simp [fitH'] at hk

/-- The state s, seen as the head (begun at s0): K of the plain data. -/
def vfit (an : LAnn) (s0 s : VSt) (K : List D → Prop) : Prop :=
  fitH' an.boxes.length an.boxes s0.h s.h fun ds _ => fitT an.boxes.length s0.t s.t an.slots (List.replicate s0.t.length .any) fun ds' _ => K (ds ++ ds')

/-- Whatever head. -/
def vgen (an : LAnn) (s0 : VSt) (K : List D → VSt → Prop) : Prop :=
  genH an.boxes s0.h fun ds hs => genT s0.t an.slots (List.replicate s0.t.length .any) fun ds' ts => K (ds ++ ds') ⟨ts, hs⟩

theorem gen_fit {E : Ent} {an : LAnn} {s0 s : VSt} {K : List D → VSt → Prop} {K' : List D → Prop} {a : Act} {w : World} (hg : vgen an s0 K) (hk : vfit an s0 s K') (hs : SimE E s a w) (hE : E.g.n ≤ an.boxes.length) (hlen0 : s0.t.length = E.len) :
    ∃ ds s', K ds s' ∧ K' ds ∧ SimE E s' a w := by
  have hlen : s.t.length = s0.t.length := by obtain ⟨g, hs⟩ := hs; rw [hs.len, hlen0]
  obtain ⟨ds, ys, hg, hk, h1, h2⟩ := genH_fit hg hk
  obtain ⟨ds', ts, hg, hk, h3, h4⟩ := genT_fit hg hk (by simp [hlen]) (fun k v' hv => by
    have := List.eq_of_mem_replicate (List.mem_of_getElem? hv); subst this; exact Wk.any _ _)
  obtain ⟨g, hs⟩ := hs
  have hlen' : an.boxes.length ≤ g.n := by
    rw [hs.heap.n]
    rcases Nat.lt_or_ge s.h.length an.boxes.length with hlt | hge
    · have : s.h.length < ys.length := by omega
      obtain ⟨x, hx, _⟩ := h2 s.h.length _ (List.getElem?_eq_getElem this)
      simp at hx
    · exact hge
  have hown : ∀ k, Owned (g.cut an.boxes.length) ys k → Owned g s.h k := by
    rintro k ⟨b, y, hy, hat⟩
    obtain ⟨x, hx, hw⟩ := h2 b y hy
    exact ⟨b, x, hx, hw.2 g b k hat⟩
  refine ⟨_, _, hg, hk, ⟨g.cut an.boxes.length, ⟨by simp [Gh.cut, h1], fun b y hy => ?_, fun b c y z k hb hc hat hat' => ?_, fun k o hk hz => ?_, hs.heap.zlt⟩, by rw [hs.size, h3], fun i u v hu hv => ?_, hs.defers, ?_, by rw [h3]; exact hs.len⟩⟩
  · obtain ⟨x, hx, hw⟩ := h2 b y hy
    exact hw.1 w g b (hs.heap.rep b x hx)
  · obtain ⟨x, hx, hw⟩ := h2 b y hb
    obtain ⟨x', hx', hw'⟩ := h2 c z hc
    exact hs.heap.sep b c x x' k hx hx' (hw.2 g b k hat) (hw'.2 g c k hat')
  · exact hs.heap.zsep k o (hown k hk) hz
  · have := h4 i v hv w g u ?_
    · exact this
    · have hi : i < s.t.length := by rw [← h3]; exact (List.getElem?_eq_some_iff.1 hv).1
      exact hs.tmps i u _ hu (by rw [List.getD_eq_getElem?_getD, List.getElem?_eq_getElem hi]; rfl)
  · obtain ⟨k1, k2, k3, k4⟩ := hs.keep
    exact ⟨⟨k1.Z, hE, k1.blk, k1.val⟩, k2, k3, fun k hk => k4 k (hown k hk)⟩

/-! ### code -/
def thenV (K : VSt → Prop) (Q : Exit → VSt → Prop) : Exit → VSt → Prop
  | .normal, s => K s
  | e, s => Q e s
def inBlockV (id : Nat) (Q : Exit → VSt → Prop) : Exit → VSt → Prop
  | .exit id', s => match decide (id' = id) with
    | true => Q .normal s
    | false => Q (.exit id') s
  | e, s => Q e s

/-- Where code begins. -/
def leadKey : Code → Nat
  | .region id _ _ => 3 * id + 1
  | .cond (.tmp t) _ _ => 3 * t + 2
  | .block id _ => 3 * id + 3
  | .seq a _ => leadKey a
  | _ => 0

def VSt.setC (s : VSt) (c : Operand) (b : Bool) : VSt := match c with
  | .tmp k => s.setT k b
  | _ => s
theorem setC_sim {E : Ent} {s : VSt} {a : Act} {w : World} {c : Operand} {b : Bool} (hs : SimE E s a w) (ht : s.get c = .d (.bool b)) : SimE E (s.setC c b) a w := by
  cases c with
  | tmp k =>
    refine (setT_sim hs (t := k) (c := b) ?_).1
    have ht : s.t.getD k .any = .d (.bool b) := ht
    rw [List.getD_eq_getElem?_getD] at ht
    cases hq : s.t[k]? with
    | none => rw [hq] at ht; cases ht
    | some v => rw [hq] at ht; exact congrArg some ht
  | _ => exact hs

structure Cfg where
  loops : Nat → LAnn
  cuts : Nat → Option LAnn
  turns : List FuncId

def vwp (P : Program) (n0 : Nat) (M0 : List Nat) (cf : Cfg) : Nat → Code → (Exit → VSt → Prop) → VSt → Prop
  | _, .skip, Q, s => Q .normal s
  | _, .region _ ops draw, Q, s => match draw with
    | false => vops P cf.turns.contains n0 M0 ops ops.toList s (Q .normal)
    | true => vdrawX P cf.turns.contains n0 M0 ops s (Q .normal)
  | b, .seq x y, Q, s => match cf.cuts (leadKey y) with
    | none => vwp P n0 M0 cf b x (thenV (fun s' => vwp P n0 M0 cf b y Q s') Q) s
    | some an => match decide (n0 ≤ an.boxes.length) with
      | true => ∃ I : List D → Prop, vwp P n0 M0 cf b x (thenV (fun s' => vfit an s s' I) Q) s ∧
          vgen an s fun ds s1 => I ds → vwp P n0 M0 cf b y Q s1
      | false => False
  | b, .cond c x y, Q, s => match s.get c with
    | .d (.bool t) => cond t (vwp P n0 M0 cf b x Q (s.setC c true)) (vwp P n0 M0 cf b y Q (s.setC c false))
    | _ => False
  | _, .block id c, Q, s => vwp P n0 M0 cf id c (inBlockV id Q) s
  | b, .loop c, Q, s => match decide (n0 ≤ (cf.loops b).boxes.length) with
    | true => ∃ (I : List D → Prop) (μ : List D → Nat), vfit (cf.loops b) (s.frz (cf.loops b).ice) (s.frz (cf.loops b).ice) I ∧
        vgen (cf.loops b) (s.frz (cf.loops b).ice) fun ds s1 => I ds →
          vwp P n0 M0 cf b c (thenV (fun s' => vfit (cf.loops b) (s.frz (cf.loops b).ice) s' fun ds' => I ds' ∧ μ ds' < μ ds) Q) s1
    | false => False
  | _, .exit id, Q, s => Q (.exit id) s
  | _, .ret, Q, s => Q .ret s
  | _, _, _, _ => False


theorem SimE.len {E : Ent} {s : VSt} {a : Act} {w : World} (hs : SimE E s a w) : s.t.length = E.len := by obtain ⟨g, hs⟩ := hs; exact hs.len

/-- THE EVALUATOR IS SOUND. -/
theorem vwp_sound {E : Ent} {cf : Cfg} (hm : P.follows .mixedOrders = true) : ∀ (c : Code) (b : Nat) (Q : Exit → VSt → Prop) (s : VSt) (a : Act) (w : World), vwp P E.g.n E.M cf b c Q s → SimE E s a w →
    c.wp P (fun e a' w' => ∃ s', SimE E s' a' w' ∧ Q e s') a w := by
  intro c
  induction c with
  | skip => intro b Q s a w hk hs; exact wp_skip ⟨s, hs, hk⟩
  | region id ops draw =>
    intro b Q s a w hk hs
    unfold vwp at hk
    cases draw with
    | false => exact wp_region_list (vops_sound hk hs fun s' a' w' hk' hs' => ⟨s', hs', hk'⟩)
    | true => exact vdrawX_sound hm hk hs fun s' a' w' hk' hs' => ⟨s', hs', hk'⟩
  | seq x y ihx ihy =>
    intro b Q s a w hk hs
    unfold vwp at hk
    split at hk
    · refine wp_seq (wp_mono (ihx b _ s a w hk hs) fun e a' w' ⟨s', hs', hq⟩ => ?_)
      cases e with
      | normal => exact ihy b Q s' a' w' hq hs'
      | _ => exact ⟨s', hs', hq⟩
    · rename_i an _
      split at hk
      · rename_i hd
        obtain ⟨I, h1, h2⟩ := hk
        refine wp_seq (wp_mono (ihx b _ s a w h1 hs) fun e a' w' ⟨s', hs', hq⟩ => ?_)
        cases e with
        | normal =>
          obtain ⟨ds, s1, k1, k2, hs1⟩ := gen_fit h2 hq hs' (of_decide_eq_true hd) hs.len
          exact ihy b Q s1 a' w' (k1 k2) hs1
        | _ => exact ⟨s', hs', hq⟩
      · exact hk.elim
  | cond c x y ihx ihy =>
    intro b Q s a w hk hs
    unfold vwp at hk
    split at hk
    · rename_i t ht
      obtain ⟨g, hs'⟩ := hs
      have e1 := rep_bool_inv (ht ▸ hs'.get c)
      cases t with
      | true => exact wp_cond_true e1 (ihx b Q _ a w hk (setC_sim ⟨g, hs'⟩ ht))
      | false => exact wp_cond_false e1 (ihy b Q _ a w hk (setC_sim ⟨g, hs'⟩ ht))
    · exact hk.elim
  | block id c ih =>
    intro b Q s a w hk hs
    refine wp_block (wp_mono (ih id _ s a w hk hs) fun e a' w' ⟨s', hs', hq⟩ => ?_)
    cases e with
    | exit id' =>
      simp only [inBlockV] at hq
      simp only [Exit.inBlock]
      split at hq
      · rename_i hd; rw [if_pos (of_decide_eq_true hd)]; exact ⟨s', hs', hq⟩
      · rename_i hd; rw [if_neg (of_decide_eq_false hd)]; exact ⟨s', hs', hq⟩
    | _ => exact ⟨s', hs', hq⟩
  | loop c ih =>
    intro b Q s a w hk hs
    unfold vwp at hk
    split at hk
    · rename_i hd
      have hd := of_decide_eq_true hd
      obtain ⟨I, μ, h1, h2⟩ := hk
      generalize hA : cf.loops b = A at *
      have hs := hs.frzs (bs := A.ice)
      generalize s.frz A.ice = s at *
      let B : List D → VSt → Prop := fun ds s1 => I ds →
          vwp P E.g.n E.M cf b c (thenV (fun s' => vfit A s s' fun ds' => I ds' ∧ μ ds' < μ ds) Q) s1
      obtain ⟨ds0, s0, b0, i0, hs0⟩ := gen_fit (K := B) h2 h1 hs hd hs.len
      refine wp_loop_ghost (fun n a w => ∃ ds s1, B ds s1 ∧ I ds ∧ SimE E s1 a w ∧ μ ds = n) _ ⟨ds0, s0, b0, i0, hs0, rfl⟩ ?_
      rintro n a w ⟨ds, s1, hb, hi, hs1, rfl⟩
      refine wp_mono (ih b _ s1 a w (hb hi) hs1) fun e a' w' ⟨s', hs', hq⟩ => ?_
      cases e with
      | normal =>
        have hq : vfit A s s' fun ds' => I ds' ∧ μ ds' < μ ds := hq
        obtain ⟨ds', s2, b2, ⟨i2, m2⟩, hs2⟩ := gen_fit (K := B) h2 hq hs' hd hs.len
        exact ⟨_, m2, ds', s2, b2, i2, hs2, rfl⟩
      | _ => exact ⟨s', hs', hq⟩
    · exact hk.elim
  | exit id => intro b Q s a w hk hs; exact wp_exit ⟨s, hs, hk⟩
  | ret => intro b Q s a w hk hs; exact wp_ret ⟨s, hs, hk⟩
  | _ => intro b Q s a w hk hs; exact hk.elim

/-! ### a function -/
def resOne (P : Program) (s : VSt) : ResultVar → Option V
  | .tmp t => some (s.t.getD t .any)
  | .cell a t => match s.t.getD a .any, szO P t, (P.underlying t).isSome, aggB P t with
    | .ptr b off, some n, true, ag => match s.h[b]? with
      | some (.cells _ vs) => match ag with
        | true => match decide (off + n ≤ vs.length) with
          | true => some (.agg ((vs.drop off).take n))
          | false => none
        | false => vs[off]?
      | _ => none
    | _, _, _, _ => none
def resList (P : Program) (s : VSt) : List ResultVar → Option (List V)
  | [] => some []
  | r :: rs => match resOne P s r, resList P s rs with
    | some v, some vs => some (v :: vs)
    | _, _ => none
def resV (P : Program) (s : VSt) (rs : List ResultVar) : Option V := match resList P s rs with
  | some [v] => some v
  | some vs => some (.tup vs)
  | none => none

def runOne (r : ResultVar) (tmps : Array Value) : Sem Value := match r with
  | .tmp t => pure (tmps.getD t undef)
  | .cell a t => do loadVar t (← asAddr (tmps.getD a undef))

theorem resOne_run {E : Ent} {s : VSt} {a : Act} {w : World} {g : Gh} (hs : Sim E s a w g) {r : ResultVar} {v : V} (hr : resOne P s r = some v) : ∃ u, (runOne r a.tmps).run P w = .ok u w ∧ Rep w g u v := by
  cases r with
  | tmp t => simp only [resOne, Option.some.injEq] at hr; subst hr; exact ⟨_, rfl, hs.get (.tmp t)⟩
  | cell q t =>
    simp only [resOne] at hr
    split at hr
    · rename_i b off n hq hn hu
      have hG := hs.get (.tmp q)
      rw [show s.get (.tmp q) = _ from hq] at hG
      obtain ⟨e, hbn⟩ := rep_ptr_inv hG
      have e : a.tmps.getD q undef = .pointer (some ⟨g.blk b, off, none⟩) := e
      split at hr
      · rename_i bt vs hb
        obtain ⟨us, hh, hsz, hr'⟩ := boxRep_cells (hs.heap.rep b _ hb)
        split at hr
        · have ha := ‹aggB P t = true›
          split at hr
          · rename_i hle
            have hle := of_decide_eq_true hle
            cases hr
            have hl := run_loadCells (P := P) w ⟨g.blk b, off, none⟩ n (fun j => us[off + j]?.getD undef) (fun j hj => by
              rw [add_lit', cell_of_heap hh]; simp [show off + j < us.size by omega])
            refine ⟨.agg ((List.range n).map fun j => us[off + j]?.getD undef).toArray, ?_, .agg _ _ ?_ ?_⟩
            · simp only [runOne, e, asAddr, loadVar, Sem.run_bind, run_isAgg_of hu ha, Sem.run_pure, Result.andThen_ok, if_true, run_sizeOf_of hn, hl]
            · simp; omega
            · intro i u c hu' hc
              rw [List.getElem?_take, List.getElem?_drop] at hc
              split at hc
              · rename_i hi
                have e1 : u = us[off + i]?.getD undef := by simp [hi] at hu'; exact hu'.symm
                have hlt : off + i < us.size := by
                  have := (List.getElem?_eq_some_iff.1 hc).1
                  omega
                refine hr' (off + i) u c ?_ hc
                rw [e1]; simp [hlt]
              · cases hc
          · cases hr
        · have ha := ‹aggB P t = false›
          have hlt : off < us.size := by rw [hsz]; exact (List.getElem?_eq_some_iff.1 hr).1
          have hu' : us[off]? = some us[off] := Array.getElem?_eq_getElem hlt
          refine ⟨us[off], ?_, hr' off _ _ hu' hr⟩
          simp [runOne, e, asAddr, loadVar, run_isAgg_of hu ha, run_load, cell_of_heap hh, hu']
      · cases hr
    · cases hr

theorem resList_run {E : Ent} {s : VSt} {a : Act} {w : World} {g : Gh} (hs : Sim E s a w g) : ∀ {rs : List ResultVar} {vs : List V}, resList P s rs = some vs →
    ∃ us : List Value, (rs.mapM fun r => runOne r a.tmps).run P w = .ok us w ∧ Reps w g us vs
  | [], vs, hr => by cases hr; exact ⟨[], by simp, rfl, by simp⟩
  | r :: rs, vs, hr => by
    simp only [resList] at hr
    split at hr
    · rename_i v vs' h1 h2
      cases hr
      obtain ⟨u, e1, r1⟩ := resOne_run hs h1
      obtain ⟨us, e2, r2, r3⟩ := resList_run hs h2
      refine ⟨u :: us, by simp [List.mapM_cons, e1, e2], by simp [r2], fun i u' v' hu hv => ?_⟩
      cases i with
      | zero => simp at hu hv; subst hu; subst hv; exact r1
      | succ i => exact r3 i u' v' (by simpa using hu) (by simpa using hv)
    · cases hr

theorem resV_run {E : Ent} {s : VSt} {a : Act} {w : World} {g : Gh} (hs : Sim E s a w g) {fn : Func} {v : V} (hr : resV P s fn.results.toList = some v) :
    ∃ u, (results fn a.tmps).run P w = .ok u w ∧ Rep w g u v := by
  have key : ∀ {vs : List V}, resList P s fn.results.toList = some vs → ∃ us : List Value, (results fn a.tmps).run P w = .ok (if h : us.toArray.size = 1 then us.toArray[0] else .tuple us.toArray) w ∧ Reps w g us vs := by
    intro vs hvs
    obtain ⟨us, e, hus⟩ := resList_run hs hvs
    refine ⟨us, ?_, hus⟩
    have : (fn.results.mapM fun r => runOne r a.tmps).run P w = .ok us.toArray w := by
      rw [Array.mapM_eq_mapM_toList]
      simp [e]
    unfold results
    simp only [Sem.run_bind]
    exact (congrArg (fun r => r.andThen fun (a : Array Value) w' => Sem.run P (pure (if h : a.size = 1 then a[0] else Value.tuple a)) w') this).trans rfl
  unfold resV at hr
  split at hr
  · rename_i v' hvs
    cases hr
    obtain ⟨us, e, h1, h2⟩ := key hvs
    match us, h1, h2, e with
    | [u], _, h2, e => exact ⟨u, e, h2 0 u v rfl rfl⟩
  · rename_i vs hne hvs
    cases hr
    obtain ⟨us, e, h1, h2⟩ := key hvs
    have hn1 : us.toArray.size ≠ 1 := by
      intro hc
      have : vs.length = 1 := by rw [← h1]; simpa using hc
      match vs, this with
      | [v], _ => exact hne v rfl
    rw [dif_neg hn1] at e
    exact ⟨_, e, .tup us.toArray vs (by simpa using h1) fun i u c hu hc => h2 i u c (by simpa using hu) hc⟩
  · cases hr

/-- The result's own slices are plain data from now on. -/
def V.ownsT : V → List Nat
  | .tup cs => cs.flatMap V.owns
  | v => v.owns

def endV (P : Program) (fn : Func) (K : V → VSt → Prop) : Exit → VSt → Prop
  | .normal, s | .ret, s => match resV P s fn.results.toList with
    | some v => match resV P (s.frz v.ownsT) fn.results.toList with
      | some v' => K v' (s.frz v.ownsT)
      | none => False
    | none => False
  | _, _ => False
/-- The same, own slices as they are. -/
def endO (P : Program) (fn : Func) (K : V → VSt → Prop) : Exit → VSt → Prop
  | .normal, s | .ret, s => match resV P s fn.results.toList with
    | some v => K v s
    | none => False
  | _, _ => False

def entryS (fn : Func) (args : List V) (h : List Box) : VSt := { t := args ++ List.replicate (fn.ntmps - args.length) .any, h := h }

theorem entry_sim {fn : Func} {args : List V} {g : Gh} {w : World} {us : List Value} (M : List Nat) (hs : SimH g h w) (hu : Reps w g us args) :
    SimE ⟨w, g, h, M, (entryS fn args h).t.length⟩ (entryS fn args h) { tmps := us.toArray ++ Array.replicate (fn.ntmps - us.toArray.size) undef, defers := [] } w := by
  have hl : us.toArray.size = args.length := by simpa using hu.1
  refine ⟨g, hs, by simp [entryS, hu.1], fun i u v h1 h2 => ?_, rfl, ⟨Gh.Le.refl _ _, Fr.refl _ _, fun _ _ h => .inl h, fun _ h => .inl h⟩, rfl⟩
  simp only [entryS, List.getElem?_append] at h2
  rw [Array.getElem?_append, hl] at h1
  split at h2
  · rename_i hi
    rw [if_pos hi] at h1
    exact hu.2 i u v (by simpa using h1) h2
  · have := List.eq_of_mem_replicate (List.mem_of_getElem? h2)
    subst this
    exact .any u

/-- What the end tells of boxes: those of the beginning, and those that the answer leads to. -/
def tellK (n : Nat) (r : V) (h' : List Box) (v : V) (s : VSt) : Prop :=
  let L := reachV s.h (List.range n) [v]
  match reachOK s.h L [v], (List.range n).all fun i => decide (L[i]? = some i) with
  | true, true => v.ren (tau L) = r ∧ smallH s.h L = h'
  | _, _ => False

theorem hcall_of {f : FuncId} {fn : Func} {c : Code} {args : List V} {r : V} (M : List Nat) (cf : Cfg) (hf : P.funcs[f]? = some fn) (hb : fn.body = some c) (hm : P.follows .mixedOrders = true)
    (hv : vwp P h.length M cf 0 c (endO P fn (tellK h.length r h')) (entryS fn args h)) : HCall P M f args h r h' := by
  intro g w us hs hu
  refine calls_of_wp hf hb ?_
  have hE := entry_sim (fn := fn) M hs hu
  have hv' : vwp P g.n M cf 0 c (endO P fn (tellK h.length r h')) (entryS fn args h) := by rw [hs.n]; exact hv
  refine wp_mono (vwp_sound (E := ⟨w, g, h, M, (entryS fn args h).t.length⟩) hm c 0 _ _ _ _ hv' hE) fun e a' w' ⟨s', ⟨g', hs'⟩, hq⟩ => ?_
  have fin : ∀ (e : Exit), (e = .normal ∨ e = .ret) → endO P fn (tellK h.length r h') e s' → a'.defers = [] ∧ ∃ v, (results fn a'.tmps).run P w' = .ok v w' ∧ ∃ u g', Ending.returned v = .returned u ∧ Rep w' g' u r ∧ Keep M g h w g' h' w' := by
    intro e he hq
    have hq : match resV P s' fn.results.toList with
      | some v => tellK h.length r h' v s'
      | none => False := by rcases he with rfl | rfl <;> exact hq
    split at hq
    · rename_i v hv3
      unfold tellK at hq
      simp only at hq
      split at hq
      · rename_i t1 t2
        obtain ⟨rfl, rfl⟩ := hq
        obtain ⟨u, hu, hr⟩ := resV_run hs' hv3
        obtain ⟨k1, k2, k3, k4⟩ := hs'.keep
        have hkeep : Keep M g h w g' s'.h w' := ⟨hs'.heap, k1, k2, fun b o hz => (k3 b o hz), k4⟩
        obtain ⟨g2, hk2, hrep⟩ := hkeep.tell hs.n t1 (fun i hi => of_decide_eq_true (List.all_eq_true.1 t2 i (List.mem_range.2 hi)))
        have hin := (reachOK_spec t1).vs
        have hin : v.inB (reachV s'.h (List.range h.length) [v]) = true := by
          simp only [V.inLs, Bool.and_eq_true] at hin; exact hin.1
        exact ⟨hs'.defers, u, hu, u, g2, rfl, hrep u v hr hin, hk2⟩
      · exact hq.elim
    · exact hq.elim
  cases e with
  | normal => exact fin _ (.inl rfl) hq
  | ret => exact fin _ (.inr rfl) hq
  | _ => exact hq.elim

theorem pcall_of {f : FuncId} {fn : Func} {c : Code} {args : List V} {r : V} (cf : Cfg) (hf : P.funcs[f]? = some fn) (hb : fn.body = some c) (hm : P.follows .mixedOrders = true) (hr : r.pureT = true)
    (hv : vwp P 0 [] cf 0 c (endV P fn fun v _ => v = r) (entryS fn args [])) : PCall P f args r := by
  intro g w us hs hu
  refine calls_of_wp hf hb ?_
  have hn : g.n = 0 := hs.n
  have hE := entry_sim (fn := fn) [] hs hu
  have hv' : vwp P g.n [] cf 0 c (endV P fn fun v _ => v = r) (entryS fn args []) := by rw [hn]; exact hv
  refine wp_mono (vwp_sound (E := ⟨w, g, [], [], (entryS fn args []).t.length⟩) hm c 0 _ _ _ _ hv' hE) fun e a' w' ⟨s', hs', hq⟩ => ?_
  have fin : ∀ (e : Exit), (e = .normal ∨ e = .ret) → endV P fn (fun v _ => v = r) e s' → a'.defers = [] ∧ ∃ v, (results fn a'.tmps).run P w' = .ok v w' ∧ ∃ u g', Ending.returned v = .returned u ∧ Rep w' g' u r ∧ Keep [] g [] w g' [] w' := by
    intro e he hq
    have hq : match resV P s' fn.results.toList with
      | some v => match resV P (s'.frz v.ownsT) fn.results.toList with
        | some v' => v' = r
        | none => False
      | none => False := by rcases he with rfl | rfl <;> exact hq
    split at hq
    · rename_i v0 hv0
      split at hq
      · rename_i v hv3
        subst hq
        obtain ⟨g', hs2⟩ := hs'.frzs (bs := v0.ownsT)
        obtain ⟨u, hu, hr'⟩ := resV_run hs2 hv3
        obtain ⟨k1, k2, k3, k4⟩ := hs2.keep
        refine ⟨hs2.defers, u, hu, u, g'.cut 0, rfl, pureT_rep (g := g') (g' := g'.cut 0) rfl hr hr', ⟨⟨rfl, by simp, by simp, ?_, hs2.heap.zlt⟩, ⟨k1.Z, by rw [hn]; exact Nat.zero_le _, fun b hb => by omega, fun b hb => by omega⟩, k2, k3, ?_⟩⟩
        · rintro k o ⟨b, x, hx, _⟩; simp at hx
        · rintro k ⟨b, x, hx, _⟩; simp at hx
      · exact hq.elim
    · exact hq.elim
  cases e with
  | normal => exact fin _ (.inl rfl) hq
  | ret => exact fin _ (.inr rfl) hq
  | _ => exact hq.elim

end
end Go.Vm
end

section
namespace Go.Vm

/-! ### what a state is made of, and what is known of it -/
inductive Sk where
  | any
  | nils
  | d (s : Sh)
  | agg (l : List Sk)
  | tup (l : List Sk)
  | own (b : Nat)
  | ptr (b off : Nat)
  | pel (l : List Sh)
  | pml (b sz i off : Nat)
  | nilp
  | fn (f : FuncId) (l : List Sk)
  | nilf
  | map (b : Nat)
def D.sh : D → Sh
  | .int k _ => .int k
  | .bool _ => .bool
  | .str _ => .str
  | .sl sz _ => .sl sz
mutual
def V.sk : V → Sk
  | .any => .any
  | .nils => .nils
  | .d x => .d x.sh
  | .agg cs => .agg (V.skL cs)
  | .tup cs => .tup (V.skL cs)
  | .own b => .own b
  | .ptr b off => .ptr b off
  | .pel cs => .pel (cs.map D.sh)
  | .pml b sz i off => .pml b sz i off
  | .nilp => .nilp
  | .fn f cs => .fn f (V.skL cs)
  | .nilf => .nilf
  | .map b => .map b
def V.skL : List V → List Sk
  | [] => []
  | c :: cs => c.sk :: V.skL cs
end
def fitDs : List Sh → List D → Option (List D)
  | [], [] => some []
  | s :: ss, x :: xs => match decide (x.sh = s), fitDs ss xs with
    | true, some ds => some (x :: ds)
    | _, _ => none
  | _, _ => none
mutual
def Sk.fit (n : Nat) : Sk → V → Option (List D)
  | .any, _ => some []
  | .nils, .nils => some []
  | .d s, .d x => match decide (x.sh = s) with
    | true => some [x]
    | false => none
  | .d (.sl sz), .nils => some [.sl sz []]
  | .agg l, .agg cs => Sk.fitL n l cs
  | .tup l, .tup cs => Sk.fitL n l cs
  | .own b, .own b' => match decide (b' = b ∧ b < n) with
    | true => some []
    | false => none
  | .ptr b off, .ptr b' off' => match decide (b' = b ∧ off' = off ∧ b < n) with
    | true => some []
    | false => none
  | .pel l, .pel cs => fitDs l cs
  | .pml b sz i off, .pml b' sz' i' off' => match decide (b' = b ∧ sz' = sz ∧ i' = i ∧ off' = off ∧ b < n) with
    | true => some []
    | false => none
  | .nilp, .nilp => some []
  | .fn f l, .fn f' cs => match decide (f' = f) with
    | true => Sk.fitL n l cs
    | false => none
  | .nilf, .nilf => some []
  | .map b, .map b' => match decide (b' = b ∧ b < n) with
    | true => some []
    | false => none
  | _, _ => none
def Sk.fitL (n : Nat) : List Sk → List V → Option (List D)
  | [], [] => some []
  | k :: ks, v :: vs => match Sk.fit n k v, Sk.fitL n ks vs with
    | some a, some b => some (a ++ b)
    | _, _ => none
  | _, _ => none
end

section
variable (A : Sy)
mutual
def openSk : Sk → List D → Nat → Tree (V × Nat)
  | .any, _, j => .ret (.any, j)
  | .nils, _, j => .ret (.nils, j)
  | .d s, ds, j => (openT s (A.cell ds j)).bind fun x => .ret (.d x, j + 1)
  | .agg l, ds, j => (openSkL l ds j).bind fun r => .ret (.agg r.1, r.2)
  | .tup l, ds, j => (openSkL l ds j).bind fun r => .ret (.tup r.1, r.2)
  | .own b, _, j => .ret (.own b, j)
  | .ptr b off, _, j => .ret (.ptr b off, j)
  | .pel l, ds, j => (openRT A l ds j).bind fun xs => .ret (.pel xs, j + l.length)
  | .pml b sz i off, _, j => .ret (.pml b sz i off, j)
  | .nilp, _, j => .ret (.nilp, j)
  | .fn f l, ds, j => (openSkL l ds j).bind fun r => .ret (.fn f r.1, r.2)
  | .nilf, _, j => .ret (.nilf, j)
  | .map b, _, j => .ret (.map b, j)
def openSkL : List Sk → List D → Nat → Tree (List V × Nat)
  | [], _, j => .ret ([], j)
  | k :: ks, ds, j => (openSk k ds j).bind fun r => (openSkL ks ds r.2).bind fun q => .ret (r.1 :: q.1, q.2)
end
end

inductive BSk where
  | gone
  | mp (kk : KK)
  | cells (t : TypeId) (l : List Sk)
  | arr (e : TypeId) (sz : Nat)
def Box.sk : Box → BSk
  | .gone => .gone
  | .mp kk _ => .mp kk
  | .cells t vs => .cells t (V.skL vs)
  | .arr e sz _ => .arr e sz
def BSk.fit (n : Nat) : BSk → Box → Option (List D)
  | .gone, _ => some []
  | .mp kk, .mp kk' rows => match decide (kk' = kk) with
    | true => some [.sl 2 rows]
    | false => none
  | .cells t l, .cells t' vs => match decide (t' = t) with
    | true => Sk.fitL n l vs
    | false => none
  | .arr e sz, .arr e' sz' rows => match decide (e' = e ∧ sz' = sz) with
    | true => some [.sl sz rows]
    | false => none
  | _, _ => none
def BSk.fitL (n : Nat) : List BSk → List Box → Option (List D)
  | [], _ => some []
  | k :: ks, x :: xs => match BSk.fit n k x, BSk.fitL n ks xs with
    | some a, some b => some (a ++ b)
    | _, _ => none
  | _ :: _, [] => none
section
variable (A : Sy)
def openBSk : BSk → List D → Nat → Tree (Box × Nat)
  | .gone, _, j => .ret (.gone, j)
  | .mp kk, ds, j => .cL (A.cell ds j) 2 fun rows => .ret (.mp kk rows, j + 1)
  | .cells t l, ds, j => (openSkL A l ds j).bind fun r => .ret (.cells t r.1, r.2)
  | .arr e sz, ds, j => .cL (A.cell ds j) sz fun rows => .ret (.arr e sz rows, j + 1)
def openBL : List BSk → List D → Nat → Tree (List Box × Nat)
  | [], _, j => .ret ([], j)
  | k :: ks, ds, j => (openBSk A k ds j).bind fun r => (openBL ks ds r.2).bind fun q => .ret (r.1 :: q.1, q.2)
end

/-- The head of a loop: which slots are kept (of which kind, if it is told), how many boxes (but for some), which boxes are plain data from now on. -/
structure LAn where
  slots : List (Nat × Option Sk)
  nb : Nat := 1000
  gone : List Nat := []
  ice : List Nat := []
structure Hd where
  slots : List (Nat × Sk)
  boxes : List BSk
def headS (n0 : Nat) (an : LAn) (s : VSt) : Hd :=
  let live := reachV s.h (List.range n0) (an.slots.map fun q => s.t.getD q.1 .any)
  { slots := an.slots.map fun q => (q.1, match q.2 with
      | some sk => sk
      | none => (s.t.getD q.1 .any).sk)
    boxes := ((s.h.take an.nb).zipIdx.map fun xb => match live.contains xb.2 && !an.gone.contains xb.2 with
      | true => xb.1.sk
      | false => .gone) }
def fitS' (n : Nat) (t : List V) : List (Nat × Sk) → Option (List D)
  | [] => some []
  | (k, sk) :: ls => match Sk.fit n sk (t.getD k .any), fitS' n t ls with
    | some a, some b => some (a ++ b)
    | _, _ => none
def fitHd (hd : Hd) (s : VSt) : Option (List D) := match fitS' hd.boxes.length s.t hd.slots, BSk.fitL hd.boxes.length hd.boxes s.h with
  | some a, some b => some (a ++ b)
  | _, _ => none
section
variable (A : Sy)
def openS : List (Nat × Sk) → List D → Nat → List V → Tree (List V × Nat)
  | [], _, j, acc => .ret (acc, j)
  | (k, sk) :: ls, ds, j, acc => (openSk A sk ds j).bind fun r => openS ls ds r.2 (acc.set k r.1)
def openHd (hd : Hd) (len : Nat) (ds : List D) : Tree VSt :=
  (openS A hd.slots ds 0 (List.replicate len .any)).bind fun r => (openBL A hd.boxes ds r.2).bind fun q => .ret ⟨r.1, q.1⟩
end

structure CfgT where
  o : CfgO
  loops : Nat → LAn
  cuts : Nat → Option LAn

section
variable (A : Sy) (P : Program) (C : CfgT) (ent : FuncId → List V → List Box → Tree (List Nat × V × List Box)) (n0 : Nat) (M0 : List Nat)

def inBl (id : Nat) (r : Exit × VSt) : Exit × VSt := match r.1 with
  | .exit id' => match decide (id' = id) with
    | true => (.normal, r.2)
    | false => r
  | _ => r

/-- Where a round, or a part of code, ends. -/
def endR (hd : Hd) (r : Exit × VSt) : Tree (List D ⊕ (Exit × VSt)) := match r.1 with
  | .normal => match fitHd hd r.2 with
    | some ds => .ret (.inl ds)
    | none => .fail
  | _ => .ret (.inr r)

def codeT : Nat → Code → VSt → Tree (Exit × VSt)
  | _, .skip, s => .ret (.normal, s)
  | _, .region _ ops draw, s => match draw with
    | false => (opsT A P ent C.o n0 M0 ops 0 ops.toList s).bind fun s' => .ret (.normal, s')
    | true => (drawT A P C.o ent n0 M0 ops s).bind fun s' => .ret (.normal, s')
  | b, .seq x y, s => match C.cuts (leadKey y) with
    | none => (codeT b x s).bind fun r => match r.1 with
      | .normal => codeT b y r.2
      | _ => .ret r
    | some an =>
      let hd := headS n0 an s
      match decide (n0 ≤ hd.boxes.length) with
      | true => .cut ((codeT b x s).bind (endR hd)) fun ds => (openHd A hd s.t.length ds).bind fun s1 => forceL s1.t fun t => codeT b y ⟨t, s1.h⟩
      | false => .fail
  | b, .cond c x y, s => match s.get c with
    | .d (.bool t) => .ite t (codeT b x (s.setC c true)) (codeT b y (s.setC c false))
    | _ => .fail
  | _, .block id c, s => (codeT id c s).bind fun r => .ret (inBl id r)
  | b, .loop c, s =>
    let s0 := s.frz (C.loops b).ice
    let hd := headS n0 (C.loops b) s0
    match decide (n0 ≤ hd.boxes.length), fitHd hd s0 with
    | true, some ds0 => .loop (fun ds => (openHd A hd s0.t.length ds).bind fun s1 => forceL s1.t fun t => (codeT b c ⟨t, s1.h⟩).bind (endR hd)) ds0
    | _, _ => .fail
  | _, .exit id, s => .ret (.exit id, s)
  | _, .ret, s => .ret (.ret, s)
  | _, _, _ => .fail
end

section
variable {P : Program} {E : Env}

theorem fitDs_same : ∀ {ss : List Sh} {xs ds : List D}, fitDs ss xs = some ds → ds = xs ∧ xs.length = ss.length ∧ ∀ (i : Nat) x s, xs[i]? = some x → ss[i]? = some s → x.sh = s
  | [], [], ds, h => by cases h; simp
  | [], _ :: _, ds, h => by cases h
  | _ :: _, [], ds, h => by cases h
  | s :: ss, x :: xs, ds, h => by
    unfold fitDs at h
    split at h
    · rename_i ds' hd h2
      cases h
      obtain ⟨rfl, h3, h4⟩ := fitDs_same h2
      refine ⟨rfl, by simp [h3], fun i y s' hy hs => ?_⟩
      cases i with
      | zero => simp at hy hs; subst hy; subst hs; exact of_decide_eq_true hd
      | succ i => exact h4 i y s' (by simpa using hy) (by simpa using hs)
    · cases h

theorem openT_at {x : D} {v : Option D} {s : Sh} (h : v = some x) (hs : x.sh = s) : (openT s v).run E = some x := by
  subst h; subst hs
  cases x <;> simp [D.sh, openT, Tree.run, opI, opB, opS, opL]

def At (full : List D) (j : Nat) (ds : List D) : Prop := ∀ (i : Nat) x, ds[i]? = some x → full[j + i]? = some x
theorem At.left {full : List D} {j : Nat} {a b : List D} (h : At full j (a ++ b)) : At full j a := fun i x hx => h i x (by
  rw [List.getElem?_append, if_pos (List.getElem?_eq_some_iff.1 hx).1]; exact hx)
theorem At.right {full : List D} {j : Nat} {a b : List D} (h : At full j (a ++ b)) : At full (j + a.length) b := fun i x hx => by
  have := h (a.length + i) x (by rw [List.getElem?_append_right (by omega), Nat.add_sub_cancel_left]; exact hx)
  rwa [← Nat.add_assoc] at this

theorem At.head {full : List D} {j : Nat} {x : D} {b : List D} (h : At full j (x :: b)) : sy.cell full j = some x := h 0 x rfl

theorem openRT_at (hE : E.Ok) : ∀ {ss : List Sh} {full : List D} {j : Nat} {xs : List D}, xs.length = ss.length → (∀ (i : Nat) x s, xs[i]? = some x → ss[i]? = some s → x.sh = s) → At full j xs → (openRT sy ss full j).run E = some xs
  | [], full, j, xs, hl, _, _ => by
    have : xs = [] := by simpa using hl
    subst this; rfl
  | s :: ss, full, j, [], hl, _, _ => by simp at hl
  | s :: ss, full, j, x :: xs, hl, hs, ha => by
    unfold openRT
    have h1 : (openT s (sy.cell full j)).run E = some x := openT_at ha.head (hs 0 x s rfl rfl)
    have h2 := openRT_at hE (ss := ss) (full := full) (j := j + 1) (xs := xs) (by simpa using hl) (fun i y s' hy hs' => hs (i + 1) y s' (by simpa using hy) (by simpa using hs')) (fun i y hy => by
      have := ha (i + 1) y (by simpa using hy)
      rwa [show j + 1 + i = j + (i + 1) by omega])
    rw [run_bind hE, h1]
    simp only [Option.bind_some]
    rw [run_bind hE, h2]
    rfl

mutual
theorem fit_open (hE : E.Ok) {n : Nat} {full : List D} : ∀ (sk : Sk) {v : V} {ds : List D} {j : Nat}, Sk.fit n sk v = some ds → At full j ds → ∃ v', (openSk sy sk full j).run E = some (v', j + ds.length) ∧ Wk n v v'
  | .any, v, ds, j, h, _ => by
    have : ds = [] := by cases v <;> (unfold Sk.fit at h; cases h; rfl)
    subst this
    exact ⟨.any, rfl, fun _ _ u _ => .any u⟩
  | .nils, v, ds, j, h, _ => by
    cases v <;> unfold Sk.fit at h <;> first | (cases h; done) | skip
    cases h
    exact ⟨.nils, rfl, fun w g u hr => belowB_rep (n := n) rfl hr⟩
  | .d s, v, ds, j, h, ha => by
    cases v with
    | d x =>
      have h : (match decide (x.sh = s) with | true => some [x] | false => none) = some ds := by unfold Sk.fit at h; exact h
      split at h
      · rename_i hd
        cases h
        refine ⟨.d x, ?_, fun w g u hr => belowB_rep (n := n) rfl hr⟩
        unfold openSk
        rw [run_bind hE, openT_at ha.head (of_decide_eq_true hd)]
        rfl
      · cases h
    | nils =>
      cases s <;> unfold Sk.fit at h <;> first | (cases h; done) | skip
      cases h
      rename_i sz
      refine ⟨.d (.sl sz []), ?_, fun w g u hr => by cases hr; exact .d (.slnil sz)⟩
      unfold openSk
      have q : (openT (.sl sz) (sy.cell full j)).run E = some (.sl sz []) := openT_at ha.head rfl
      rw [run_bind hE, q]
      rfl
    | _ => cases s <;> (unfold Sk.fit at h; cases h)
  | .agg l, v, ds, j, h, ha => by
    cases v <;> unfold Sk.fit at h <;> first | (cases h; done) | skip
    obtain ⟨vs, h1, h2, h3⟩ := fit_openL hE l h ha
    refine ⟨.agg vs, by unfold openSk; rw [run_bind hE, h1]; rfl, fun w g u hr => ?_⟩
    cases hr with
    | agg us _ hl hr =>
      refine .agg us vs (by rw [hl, h2]) fun i u c hu hc => ?_
      have hi := (Array.getElem?_eq_some_iff.1 hu).1
      exact h3 i _ c (List.getElem?_eq_getElem (by omega)) hc w g u (hr i u _ hu (List.getElem?_eq_getElem (by omega)))
  | .tup l, v, ds, j, h, ha => by
    cases v <;> unfold Sk.fit at h <;> first | (cases h; done) | skip
    obtain ⟨vs, h1, h2, h3⟩ := fit_openL hE l h ha
    refine ⟨.tup vs, by unfold openSk; rw [run_bind hE, h1]; rfl, fun w g u hr => ?_⟩
    cases hr with
    | tup us _ hl hr =>
      refine .tup us vs (by rw [hl, h2]) fun i u c hu hc => ?_
      have hi := (Array.getElem?_eq_some_iff.1 hu).1
      exact h3 i _ c (List.getElem?_eq_getElem (by omega)) hc w g u (hr i u _ hu (List.getElem?_eq_getElem (by omega)))
  | .own b, v, ds, j, h, _ => by
    cases v <;> unfold Sk.fit at h <;> first | (cases h; done) | skip
    split at h
    · rename_i hd
      obtain ⟨rfl, hd⟩ := of_decide_eq_true hd
      cases h
      exact ⟨.own _, rfl, fun w g u hr => scB_rep hr (by simpa [V.scB] using hd)⟩
    · cases h
  | .ptr b off, v, ds, j, h, _ => by
    cases v <;> unfold Sk.fit at h <;> first | (cases h; done) | skip
    split at h
    · rename_i hd
      obtain ⟨rfl, rfl, hd⟩ := of_decide_eq_true hd
      cases h
      exact ⟨.ptr _ _, rfl, fun w g u hr => scB_rep hr (by simpa [V.scB] using hd)⟩
    · cases h
  | .pel l, v, ds, j, h, ha => by
    cases v <;> unfold Sk.fit at h <;> first | (cases h; done) | skip
    obtain ⟨rfl, h2, h3⟩ := fitDs_same h
    refine ⟨.pel _, ?_, fun w g u hr => belowB_rep (n := n) rfl hr⟩
    unfold openSk
    rw [run_bind hE, openRT_at hE h2 h3 ha, ← h2]
    rfl
  | .pml b sz i off, v, ds, j, h, _ => by
    cases v <;> unfold Sk.fit at h <;> first | (cases h; done) | skip
    split at h
    · rename_i hd
      obtain ⟨rfl, rfl, rfl, rfl, hd⟩ := of_decide_eq_true hd
      cases h
      exact ⟨.pml _ _ _ _, rfl, fun w g u hr => scB_rep hr (by simpa [V.scB] using hd)⟩
    · cases h
  | .nilp, v, ds, j, h, _ => by
    cases v <;> unfold Sk.fit at h <;> first | (cases h; done) | skip
    cases h
    exact ⟨.nilp, rfl, fun w g u hr => belowB_rep (n := n) rfl hr⟩
  | .fn f l, v, ds, j, h, ha => by
    cases v <;> unfold Sk.fit at h <;> first | (cases h; done) | skip
    split at h
    · rename_i hd
      have hd := of_decide_eq_true hd
      subst hd
      obtain ⟨vs, h1, h2, h3⟩ := fit_openL hE l h ha
      refine ⟨.fn _ vs, by unfold openSk; rw [run_bind hE, h1]; rfl, fun w g u hr => ?_⟩
      cases hr with
      | fn _ us _ hl hr =>
        refine .fn _ us vs (by rw [hl, h2]) fun i u c hu hc => ?_
        have hi := (Array.getElem?_eq_some_iff.1 hu).1
        exact h3 i _ c (List.getElem?_eq_getElem (by omega)) hc w g u (hr i u _ hu (List.getElem?_eq_getElem (by omega)))
    · cases h
  | .nilf, v, ds, j, h, _ => by
    cases v <;> unfold Sk.fit at h <;> first | (cases h; done) | skip
    cases h
    exact ⟨.nilf, rfl, fun w g u hr => belowB_rep (n := n) rfl hr⟩
  | .map b, v, ds, j, h, _ => by
    cases v <;> unfold Sk.fit at h <;> first | (cases h; done) | skip
    split at h
    · rename_i hd
      obtain ⟨rfl, hd⟩ := of_decide_eq_true hd
      cases h
      exact ⟨.map _, rfl, fun w g u hr => scB_rep hr (by simpa [V.scB] using hd)⟩
    · cases h
theorem fit_openL (hE : E.Ok) {n : Nat} {full : List D} : ∀ (l : List Sk) {vs : List V} {ds : List D} {j : Nat}, Sk.fitL n l vs = some ds → At full j ds →
    ∃ vs', (openSkL sy l full j).run E = some (vs', j + ds.length) ∧ vs'.length = vs.length ∧ ∀ (i : Nat) v v', vs[i]? = some v → vs'[i]? = some v' → Wk n v v'
  | [], [], ds, j, h, _ => by
    unfold Sk.fitL at h
    cases h
    exact ⟨[], rfl, rfl, by simp⟩
  | [], _ :: _, ds, j, h, _ => by unfold Sk.fitL at h; cases h
  | _ :: _, [], ds, j, h, _ => by unfold Sk.fitL at h; cases h
  | k :: ks, v :: vs, ds, j, h, ha => by
    unfold Sk.fitL at h
    split at h
    · rename_i a b h1 h2
      cases h
      obtain ⟨v', e1, w1⟩ := fit_open hE k h1 ha.left
      obtain ⟨vs', e2, l2, w2⟩ := fit_openL hE ks h2 ha.right
      refine ⟨v' :: vs', ?_, by simp [l2], fun i x x' hx hx' => ?_⟩
      · unfold openSkL
        rw [run_bind hE, e1]
        simp only [Option.bind_some]
        rw [run_bind hE, e2]
        simp only [Option.bind_some, Tree.run, List.length_append, Nat.add_assoc]
      · cases i with
        | zero => simp at hx hx'; subst hx; subst hx'; exact w1
        | succ i => exact w2 i x x' (by simpa using hx) (by simpa using hx')
    · cases h
end

theorem bfit_open (hE : E.Ok) {n : Nat} {full : List D} (sk : BSk) {x : Box} {ds : List D} {j : Nat} (h : BSk.fit n sk x = some ds) (ha : At full j ds) : ∃ y, (openBSk sy sk full j).run E = some (y, j + ds.length) ∧ WkB n x y := by
  cases sk with
  | gone =>
    have : ds = [] := by cases x <;> (simp only [BSk.fit] at h; cases h; rfl)
    subst this
    exact ⟨.gone, rfl, fun _ _ _ _ => trivial, fun g b k hy => by simp [Box.at?] at hy⟩
  | mp kk =>
    cases x <;> simp only [BSk.fit] at h <;> first | (cases h; done) | skip
    split at h
    · rename_i rows _ hd
      have := of_decide_eq_true hd
      subst this
      cases h
      refine ⟨.mp _ rows, ?_, fun w g b hr => hr, fun g b k hy => hy⟩
      simp only [openBSk, Tree.run]
      rw [ha.head]
      simp [opL]
    · cases h
  | cells t l =>
    cases x <;> simp only [BSk.fit] at h <;> first | (cases h; done) | skip
    split at h
    · rename_i vs _ hd
      have := of_decide_eq_true hd
      subst this
      obtain ⟨vs', e1, l1, w1⟩ := fit_openL hE l h ha
      refine ⟨.cells _ vs', by unfold openBSk; rw [run_bind hE, e1]; rfl, fun w g b hr => ?_, fun g b k hy => hy⟩
      obtain ⟨us, q1, q2, q3⟩ := hr
      refine ⟨us, q1, by rw [q2, l1], fun i u v hu hv => ?_⟩
      have hi : i < vs.length := by rw [← l1]; exact (List.getElem?_eq_some_iff.1 hv).1
      exact w1 i vs[i] v (List.getElem?_eq_getElem hi) hv w g u (q3 i u _ hu (List.getElem?_eq_getElem hi))
    · cases h
  | arr e sz =>
    cases x <;> simp only [BSk.fit] at h <;> first | (cases h; done) | skip
    split at h
    · rename_i rows _ hd
      obtain ⟨rfl, rfl⟩ := of_decide_eq_true hd
      cases h
      refine ⟨.arr _ _ rows, ?_, fun w g b hr => hr, fun g b k hy => hy⟩
      simp only [openBSk, Tree.run]
      rw [ha.head]
      simp [opL]
    · cases h
theorem bfit_openL (hE : E.Ok) {n : Nat} {full : List D} : ∀ (l : List BSk) {xs : List Box} {ds : List D} {j : Nat}, BSk.fitL n l xs = some ds → At full j ds →
    ∃ ys, (openBL sy l full j).run E = some (ys, j + ds.length) ∧ ys.length = l.length ∧ l.length ≤ xs.length ∧ ∀ (i : Nat) y, ys[i]? = some y → ∃ x, xs[i]? = some x ∧ WkB n x y
  | [], xs, ds, j, h, _ => by
    have : ds = [] := by cases xs <;> (unfold BSk.fitL at h; cases h; rfl)
    subst this
    exact ⟨[], rfl, rfl, Nat.zero_le _, by simp⟩
  | _ :: _, [], ds, j, h, _ => by unfold BSk.fitL at h; cases h
  | k :: ks, x :: xs, ds, j, h, ha => by
    unfold BSk.fitL at h
    split at h
    · rename_i a b h1 h2
      cases h
      obtain ⟨y, e1, w1⟩ := bfit_open hE k h1 ha.left
      obtain ⟨ys, e2, l2, l3, w2⟩ := bfit_openL hE ks h2 ha.right
      refine ⟨y :: ys, ?_, by simp [l2], by simp; exact l3, fun i y' hy' => ?_⟩
      · unfold openBL
        rw [run_bind hE, e1]
        simp only [Option.bind_some]
        rw [run_bind hE, e2]
        simp only [Option.bind_some, Tree.run, List.length_append, Nat.add_assoc]
      · cases i with
        | zero => simp at hy'; subst hy'; exact ⟨x, rfl, w1⟩
        | succ i => obtain ⟨x', hx, hw⟩ := w2 i y' (by simpa using hy'); exact ⟨x', by simpa using hx, hw⟩
    · cases h

theorem openS_at (hE : E.Ok) {n : Nat} {full : List D} {t : List V} : ∀ {ls : List (Nat × Sk)} {ds : List D} {j : Nat} {acc : List V}, fitS' n t ls = some ds → At full j ds → acc.length = t.length →
    (∀ (k : Nat) v', acc[k]? = some v' → Wk n (t.getD k .any) v') → ∃ acc', (openS sy ls full j acc).run E = some (acc', j + ds.length) ∧ acc'.length = t.length ∧ ∀ (k : Nat) v', acc'[k]? = some v' → Wk n (t.getD k .any) v'
  | [], ds, j, acc, h, _, hl, hw => by cases h; exact ⟨acc, rfl, hl, hw⟩
  | (k, sk) :: ls, ds, j, acc, h, ha, hl, hw => by
    unfold fitS' at h
    split at h
    · rename_i a b h1 h2
      cases h
      obtain ⟨v', e1, w1⟩ := fit_open hE sk h1 ha.left
      obtain ⟨acc', e2, l2, w2⟩ := openS_at hE (acc := acc.set k v') h2 ha.right (by simpa using hl) (fun i v hv => by
        rw [List.getElem?_set] at hv
        by_cases hi : k = i
        · subst hi
          rw [if_pos rfl] at hv
          split at hv
          · cases hv; exact w1
          · cases hv
        · rw [if_neg hi] at hv; exact hw i v hv)
      refine ⟨acc', ?_, l2, w2⟩
      unfold openS
      rw [run_bind hE, e1]
      simp only [Option.bind_some, e2, List.length_append, Nat.add_assoc]
    · cases h

/-- A state, seen as a head. -/
theorem open_sim (hE : E.Ok) {En : Ent} {hd : Hd} {s : VSt} {ds : List D} {a : Act} {w : World} {len : Nat} (hf : fitHd hd s = some ds) (hn : En.g.n ≤ hd.boxes.length) (hlen : s.t.length = len) (hs : SimE En s a w) :
    ∃ s1, (openHd sy hd len ds).run E = some s1 ∧ SimE En s1 a w := by
  unfold fitHd at hf
  split at hf
  · rename_i d1 d2 f1 f2
    cases hf
    have hat : At (d1 ++ d2) 0 (d1 ++ d2) := fun i x hx => by rwa [Nat.zero_add]
    obtain ⟨ts, e1, l1, w1⟩ := openS_at hE (acc := List.replicate len .any) f1 hat.left (by simp [hlen]) (fun k v' hv => by
      have := List.eq_of_mem_replicate (List.mem_of_getElem? hv); subst this; exact Wk.any _ _)
    obtain ⟨ys, e2, l2, l3, w2⟩ := bfit_openL hE hd.boxes f2 hat.right
    refine ⟨⟨ts, ys⟩, ?_, ?_⟩
    · unfold openHd
      rw [run_bind hE, e1]
      simp only [Option.bind_some]
      rw [run_bind hE, e2]
      rfl
    · obtain ⟨g, hs⟩ := hs
      have hown : ∀ k, Owned (g.cut hd.boxes.length) ys k → Owned g s.h k := by
        rintro k ⟨b, y, hy, hat⟩
        obtain ⟨x, hx, hw⟩ := w2 b y hy
        exact ⟨b, x, hx, hw.2 g b k hat⟩
      refine ⟨g.cut hd.boxes.length, ⟨by simp [Gh.cut, l2], fun b y hy => ?_, fun b c y z k hb hc hat hat' => ?_, fun k o hk hz => hs.heap.zsep k o (hown k hk) hz, hs.heap.zlt⟩, by rw [hs.size, l1], fun i u v hu hv => ?_, hs.defers, ?_, by rw [l1]; exact hs.len⟩
      · obtain ⟨x, hx, hw⟩ := w2 b y hy
        exact hw.1 w g b (hs.heap.rep b x hx)
      · obtain ⟨x, hx, hw⟩ := w2 b y hb
        obtain ⟨x', hx', hw'⟩ := w2 c z hc
        exact hs.heap.sep b c x x' k hx hx' (hw.2 g b k hat) (hw'.2 g c k hat')
      · have hi : i < s.t.length := by rw [← l1]; exact (List.getElem?_eq_some_iff.1 hv).1
        exact w1 i v hv w g u (hs.tmps i u _ hu (by rw [List.getD_eq_getElem?_getD, List.getElem?_eq_getElem hi]; rfl))
      · obtain ⟨k1, k2, k3, k4⟩ := hs.keep
        exact ⟨⟨k1.Z, hn, k1.blk, k1.val⟩, k2, k3, fun k hk => k4 k (hown k hk)⟩
  · cases hf

def EnvN (E : Env) : Prop := ∃ n, ∀ {α : Type} (b : List D → Option (List D ⊕ α)) (ds : List D), E.lp b ds = iterN n b ds

/-- THE EVALUATOR IS SOUND. -/
theorem codeT_sound (hE : E.Ok) (hN : EnvN E) (hG : EnvGood P E) {C : CfgT} {ent : FuncId → List V → List Box → Tree (List Nat × V × List Box)} (hent : EntGood P E ent) {En : Ent} (hm : P.follows .mixedOrders = true) :
    ∀ (c : Code) (b : Nat) (s : VSt) (a : Act) (w : World) (r : Exit × VSt), (codeT sy P C ent En.g.n En.M b c s).run E = some r → SimE En s a w →
    c.wp P (fun e a' w' => e = r.1 ∧ SimE En r.2 a' w') a w := by
  intro c
  induction c with
  | skip => intro b s a w r hk hs; cases hk; exact wp_skip ⟨rfl, hs⟩
  | region id ops draw =>
    intro b s a w r hk hs
    unfold codeT at hk
    cases draw with
    | false =>
      obtain ⟨s', h1, hk⟩ := run_bind_some hE hk
      cases hk
      exact wp_region_list (opsT_sound hE hG hent _ (Nat.le_refl _) h1 hs fun a' w' hs' => ⟨rfl, hs'⟩)
    | true =>
      obtain ⟨s', h1, hk⟩ := run_bind_some hE hk
      cases hk
      exact drawT_sound hE hG hent hm h1 hs fun a' w' hs' => ⟨rfl, hs'⟩
  | seq x y ihx ihy =>
    intro b s a w r hk hs
    unfold codeT at hk
    split at hk
    · obtain ⟨r1, h1, hk⟩ := run_bind_some hE hk
      refine wp_seq (wp_mono (ihx b s a w r1 h1 hs) fun e a' w' ⟨he, hs'⟩ => ?_)
      subst he
      obtain ⟨e, s'⟩ := r1
      cases e with
      | normal => exact ihy b s' a' w' r hk hs'
      | _ => cases hk; exact ⟨rfl, hs'⟩
    · rename_i an _
      simp only at hk
      split at hk
      · rename_i hd
        have hd := of_decide_eq_true hd
        simp only [Tree.run] at hk
        obtain ⟨q, h1, hk⟩ := Option.bind_eq_some_iff.1 hk
        obtain ⟨r1, h1, h2⟩ := run_bind_some hE h1
        refine wp_seq (wp_mono (ihx b s a w r1 h1 hs) fun e a' w' ⟨he, hs'⟩ => ?_)
        subst he
        obtain ⟨e, s'⟩ := r1
        cases e with
        | normal =>
          simp only [endR] at h2
          split at h2
          · rename_i ds hf
            cases h2
            simp only at hk
            have hlen : s'.t.length = s.t.length := by rw [hs'.len, hs.len]
            obtain ⟨s1, e1, hs1⟩ := open_sim hE hf hd hlen hs'
            obtain ⟨s2, e2, hk⟩ := run_bind_some hE hk
            rw [e1] at e2; cases e2
            rw [forceL_eq] at hk
            exact ihy b s1 a' w' r hk hs1
          · cases h2
        | _ => cases h2; cases hk; exact ⟨rfl, hs'⟩
      · cases hk
  | cond c x y ihx ihy =>
    intro b s a w r hk hs
    unfold codeT at hk
    split at hk
    · rename_i t ht
      obtain ⟨g, hs'⟩ := hs
      have e1 := rep_bool_inv (ht ▸ hs'.get c)
      cases t with
      | true => exact wp_cond_true e1 (ihx b _ a w r hk (setC_sim ⟨g, hs'⟩ ht))
      | false => exact wp_cond_false e1 (ihy b _ a w r hk (setC_sim ⟨g, hs'⟩ ht))
    · cases hk
  | block id c ih =>
    intro b s a w r hk hs
    unfold codeT at hk
    obtain ⟨r1, h1, hk⟩ := run_bind_some hE hk
    cases hk
    refine wp_block (wp_mono (ih id s a w r1 h1 hs) fun e a' w' ⟨he, hs'⟩ => ?_)
    subst he
    obtain ⟨e, s'⟩ := r1
    cases e with
    | exit id' =>
      simp only [Exit.inBlock, inBl]
      split
      · rename_i hd; rw [decide_eq_true hd]; exact ⟨rfl, hs'⟩
      · rename_i hd; rw [decide_eq_false hd]; exact ⟨rfl, hs'⟩
    | _ => exact ⟨rfl, hs'⟩
  | loop c ih =>
    intro b s a w r hk hs
    unfold codeT at hk
    simp only at hk
    have hs := hs.frzs (bs := (C.loops b).ice)
    generalize s.frz (C.loops b).ice = s0 at hk hs
    generalize headS En.g.n (C.loops b) s0 = hd at hk
    split at hk
    · rename_i ds0 hd0 hf0
      have hd0 := of_decide_eq_true hd0
      simp only [Tree.run] at hk
      obtain ⟨n, hn⟩ := hN
      rw [hn] at hk
      generalize hbody : (fun ds : List D => Tree.run E ((openHd sy hd s0.t.length ds).bind fun s1 => forceL s1.t fun t => (codeT sy P C ent En.g.n En.M b c ⟨t, s1.h⟩).bind (endR hd))) = body at hk
      have hlen := hs.len
      refine wp_loop_ghost (fun k a w => ∃ ds s1, iterN k body ds = some r ∧ fitHd hd s1 = some ds ∧ SimE En s1 a w) n ⟨ds0, s0, hk, hf0, hs⟩ ?_
      rintro k a w ⟨ds, s1, hi, hf, hs1⟩
      cases k with
      | zero => cases hi
      | succ k =>
        simp only [iterN] at hi
        obtain ⟨s2, e1, hs2⟩ := open_sim (len := s0.t.length) hE hf hd0 (by rw [hs1.len, hlen]) hs1
        have hb : body ds = Tree.run E ((codeT sy P C ent En.g.n En.M b c s2).bind (endR hd)) := by
          rw [← hbody]
          simp only
          rw [run_bind hE, e1]
          simp only [Option.bind_some, forceL_eq]
        rw [hb] at hi
        cases hq : Tree.run E ((codeT sy P C ent En.g.n En.M b c s2).bind (endR hd)) with
        | none => rw [hq] at hi; cases hi
        | some q =>
          rw [hq] at hi
          obtain ⟨r1, h1, h2⟩ := run_bind_some hE hq
          refine wp_mono (ih b s2 a w r1 h1 hs2) fun e a' w' ⟨he, hs'⟩ => ?_
          subst he
          obtain ⟨e, s'⟩ := r1
          cases e with
          | normal =>
            simp only [endR] at h2
            split at h2
            · rename_i ds' hf'
              cases h2
              exact ⟨k, Nat.lt_succ_self k, ds', s', hi, hf', hs'⟩
            · cases h2
          | _ => cases h2; cases hi; exact ⟨rfl, hs'⟩
    · cases hk
  | exit id => intro b s a w r hk hs; cases hk; exact wp_exit ⟨rfl, hs⟩
  | ret => intro b s a w r hk hs; cases hk; exact wp_ret ⟨rfl, hs⟩
  | _ => intro b s a w r hk hs; cases hk
end
end Go.Vm
end

section
namespace Go.Vm

section
variable (A : Sy) (P : Program) (Cs : FuncId → CfgT)

def isArr : Box → Bool
  | .arr .. => true
  | _ => false
/-- The own slices that a call may turn. -/
def turnL (h : List Box) (vs : List V) : List Nat := (reachV h [] vs).filter fun b => isArr (h.getD b .gone)
/-- A call on the caller's own boxes. -/
def endE (fn : Func) (n0 : Nat) (M0 : List Nat) (r : Exit × VSt) : Tree (List Nat × V × List Box) :=
  let fin : Tree (List Nat × V × List Box) := match resV P r.2 fn.results.toList with
    | some v => match decide (n0 ≤ r.2.h.length) && v.scB n0 && (r.2.h.take n0).all (Box.scB n0) with
      | true => .ret (M0, v, r.2.h.take n0)
      | false => .ret (M0, v, r.2.h)
    | none => .fail
  match r.1 with
  | .normal => fin
  | .ret => fin
  | _ => .fail
def entT : Nat → FuncId → List V → List Box → Tree (List Nat × V × List Box)
  | 0, _, _, _ => .fail
  | n + 1, f, vs, h => match P.funcs[f]? with
    | some fn => match fn.body with
      | some c => forceL (entryS fn vs h).t fun t => (codeT A P (Cs f) (entT n) h.length (turnL h vs) 0 c ⟨t, h⟩).bind (endE P fn h.length (turnL h vs))
      | none => .fail
    | none => .fail

def outL : List TypeId → List V → Option (List D)
  | [], [] => some []
  | t :: ts, v :: vs => match out1 P t v, outL ts vs with
    | some a, some b => some (a ++ b)
    | _, _ => none
  | _, _ => none
def outDs (ts : List TypeId) (v : V) : Option (List D) := match ts, v with
  | [t], v => outL P [t] [v]
  | ts, .tup vs => outL P ts vs
  | _, _ => none
def endP (fn : Func) (r : Exit × VSt) : Tree PRes :=
  let fin : Tree PRes := match resV P r.2 fn.results.toList with
    | some v => match v, fn.resultTypes.toList with
      | .own b, [t] => match r.2.h[b]?, elO P t with
        | some (.arr e sz rows), some (e', sz') => match decide (e' = e ∧ sz' = sz) with
          | true => .ret (.own e sz rows)
          | false => .fail
        | _, _ => .fail
      | v, ts => match resV P (r.2.frz v.ownsT) fn.results.toList with
        | some v' => match outDs P ts v' with
          | some ds => .ret (.val ds)
          | none => .fail
        | none => .fail
    | none => .fail
  match r.1 with
  | .normal => fin
  | .ret => fin
  | _ => .fail
/-- A function on plain data. -/
def funT (f : FuncId) (args : List V) : Tree PRes := match P.funcs[f]? with
  | some fn => match fn.body with
    | some c => forceL (entryS fn args []).t fun t => (codeT A P (Cs f) (entT A P Cs 8) 0 [] 0 c ⟨t, []⟩).bind (endP P fn)
    | none => .fail
  | none => .fail
end

section
variable {P : Program} {E : Env} {Cs : FuncId → CfgT}

theorem results_of {En : Ent} {s : VSt} {a : Act} {w : World} {g : Gh} (hs : Sim En s a w g) {fn : Func} {v : V} (hr : resV P s fn.results.toList = some v) :
    ∃ u, (results fn a.tmps).run P w = .ok u w ∧ Rep w g u v := resV_run hs hr

theorem entT_sound (hE : E.Ok) (hN : EnvN E) (hG : EnvGood P E) (hm : P.follows .mixedOrders = true) : ∀ n, EntGood P E (entT sy P Cs n)
  | 0 => fun f vs h r hk => by cases hk
  | n + 1 => fun f vs h r hk => by
    unfold entT at hk
    split at hk
    · rename_i fn hf
      split at hk
      · rename_i c hb
        rw [forceL_eq] at hk
        obtain ⟨r1, h1, hk⟩ := run_bind_some hE hk
        intro g w us hs hu
        refine calls_of_wp hf hb ?_
        have hEn := entry_sim (fn := fn) (turnL h vs) hs hu
        have h1' : (codeT sy P (Cs f) (entT sy P Cs n) g.n (turnL h vs) 0 c (entryS fn vs h)).run E = some r1 := by rw [hs.n]; exact h1
        refine wp_mono (codeT_sound (En := ⟨w, g, h, turnL h vs, (entryS fn vs h).t.length⟩) hE hN hG (entT_sound hE hN hG hm n) hm c 0 _ _ _ r1 h1' hEn) fun e a' w' ⟨he, g', hs'⟩ => ?_
        subst he
        obtain ⟨e, s'⟩ := r1
        have fin : ∀ (e : Exit), (e = .normal ∨ e = .ret) → (endE P fn h.length (turnL h vs) (e, s')).run E = some r → a'.defers = [] ∧ ∃ v, (results fn a'.tmps).run P w' = .ok v w' ∧ ∃ u g', Ending.returned v = .returned u ∧ Rep w' g' u r.2.1 ∧ Keep r.1 g h w g' r.2.2 w' := by
          intro e he hq
          have hq : Tree.run E (match resV P s' fn.results.toList with
            | some v => match decide (h.length ≤ s'.h.length) && v.scB h.length && (s'.h.take h.length).all (Box.scB h.length) with
              | true => .ret (turnL h vs, v, s'.h.take h.length)
              | false => .ret (turnL h vs, v, s'.h)
            | none => .fail) = some r := by rcases he with rfl | rfl <;> exact hq
          obtain ⟨k1, k2, k3, k4⟩ := hs'.keep
          have hkeep : Keep (turnL h vs) g h w g' s'.h w' := ⟨hs'.heap, k1, k2, fun b o hz => (k3 b o hz), k4⟩
          split at hq
          · rename_i v hv
            obtain ⟨u, hu, hr⟩ := resV_run hs' hv
            refine ⟨hs'.defers, u, hu, u, ?_⟩
            split at hq
            · rename_i hc
              simp only [Bool.and_eq_true, decide_eq_true_eq] at hc
              cases hq
              exact ⟨g'.cut h.length, rfl, scB_rep hr hc.1.2, hkeep.cutN (by rw [hs.n]; exact Nat.le_refl _) hc.1.1 hc.2⟩
            · cases hq
              exact ⟨g', rfl, hr, hkeep⟩
          · cases hq
        cases e with
        | normal => exact fin _ (.inl rfl) hk
        | ret => exact fin _ (.inr rfl) hk
        | _ => cases hk
      · cases hk
    · cases hk

theorem toDs_len : ∀ {ss : List Sh} {vs : List V} {xs : List D}, toDs ss vs = some xs → xs.length = ss.length
  | [], [], xs, h => by cases h; rfl
  | [], _ :: _, xs, h => by cases h
  | _ :: _, [], xs, h => by cases h
  | s :: ss, v :: vs, xs, h => by
    unfold toDs at h
    split at h
    · rename_i x xs' _ h2
      cases h
      simp [toDs_len h2]
    · cases h
theorem out1_mk {t : TypeId} {v : V} {ds rest : List D} {ts : List TypeId} {vs : List V} (h : out1 P t v = some ds) (h2 : mkVs P ts rest = some vs) :
    ∃ v', mkVs P (t :: ts) (ds ++ rest) = some (v' :: vs) ∧ (∀ (w : World) (g g' : Gh) (u : Value), g'.Z = g.Z → Rep w g u v → Rep w g' u v') ∧ ∃ ss, shOf P 9 t = some ss ∧ ds.length = ss.length := by
  unfold out1 at h
  split at h
  · rename_i ss cs h1 ha
    have hl := toDs_len h
    refine ⟨.agg (ds.map .d), ?_, fun w g g' u hz hr => ?_, ss, h1, hl⟩
    · unfold mkVs
      simp only [h1, ha]
      rw [show decide (ss.length ≤ (ds ++ rest).length) = true from decide_eq_true (by simp; omega), show (ds ++ rest).drop ss.length = rest by rw [← hl]; simp, h2]
      simp only [show (ds ++ rest).take ss.length = ds by rw [← hl]; simp]
    · obtain ⟨q1, q2⟩ := toDs_spec h
      cases hr with
      | agg us _ hl hr =>
        refine .agg us _ (by simp [hl, q1]) fun i u c hu hc => ?_
        rw [List.getElem?_map, Option.map_eq_some_iff] at hc
        obtain ⟨x, hx, rfl⟩ := hc
        have hi := (Array.getElem?_eq_some_iff.1 hu).1
        have hcs := List.getElem?_eq_getElem (l := cs) (i := i) (by omega)
        obtain ⟨s, hs⟩ := q2 i _ x hcs hx
        exact .d (by rw [hz]; exact toD_rep (hr i u _ hu hcs) hs)
  · rename_i s h1 ha
    split at h
    · rename_i x hx
      cases h
      refine ⟨.d x, ?_, fun w g g' u hz hr => .d (by rw [hz]; exact toD_rep hr hx), [s], h1, rfl⟩
      unfold mkVs
      simp only [h1, ha, List.cons_append, List.nil_append, h2]
    · cases h
  · cases h
theorem outL_mk : ∀ {ts : List TypeId} {vs : List V} {ds : List D}, outL P ts vs = some ds → ∃ vs', mkVs P ts ds = some vs' ∧ vs'.length = vs.length ∧ (∀ (i : Nat) v v', vs[i]? = some v → vs'[i]? = some v' → ∀ (w : World) (g g' : Gh) (u : Value), g'.Z = g.Z → Rep w g u v → Rep w g' u v') ∧
    ∃ ss, shR P ts = some ss ∧ ds.length = ss.length
  | [], [], ds, h => by cases h; exact ⟨[], rfl, rfl, by simp, [], rfl, rfl⟩
  | [], _ :: _, ds, h => by cases h
  | _ :: _, [], ds, h => by cases h
  | t :: ts, v :: vs, ds, h => by
    unfold outL at h
    split at h
    · rename_i a b h1 h2
      cases h
      obtain ⟨vs', e1, l1, r1, ss, q1, q2⟩ := outL_mk h2
      obtain ⟨v', e2, r2, ss', q3, q4⟩ := out1_mk h1 e1
      refine ⟨v' :: vs', e2, by simp [l1], fun i x x' hx hx' => ?_, ss' ++ ss, by simp only [shR, q3, q1], by simp [q2, q4]⟩
      cases i with
      | zero => simp at hx hx'; subst hx; subst hx'; exact r2
      | succ i => exact r1 i x x' (by simpa using hx) (by simpa using hx')
    · cases h
theorem outDs_mk {ts : List TypeId} {v : V} {ds : List D} (h : outDs P ts v = some ds) : ∃ v', mkV P ts ds = some v' ∧ (∀ (w : World) (g g' : Gh) (u : Value), g'.Z = g.Z → Rep w g u v → Rep w g' u v') ∧ ∃ ss, shR P ts = some ss ∧ ds.length = ss.length := by
  unfold outDs at h
  split at h
  · obtain ⟨vs', e1, l1, r1, ss, q1, q2⟩ := outL_mk h
    match vs', l1 with
    | [v'], _ => exact ⟨v', by simp [mkV, e1], r1 0 _ v' rfl rfl, ss, q1, q2⟩
  · rename_i ts0 vs hne
    obtain ⟨vs', e1, l1, r1, ss, q1, q2⟩ := outL_mk h
    have hlen := (mkVs_pure e1).2
    have hn1 : ts.length ≠ 1 := fun h1 => by
      match ts, h1, hne with
      | [t], _, hne => exact hne t rfl
    refine ⟨.tup vs', ?_, fun w g g' u hz hr => ?_, ss, q1, q2⟩
    · unfold mkV
      rw [e1]
      match vs', hlen with
      | [], _ => rfl
      | [x], h1 => exact (hn1 (by simpa using h1.symm)).elim
      | _ :: _ :: _, _ => rfl
    · cases hr with
      | tup us _ hl hr =>
        refine .tup us vs' (by rw [hl, l1]) fun i u c hu hc => ?_
        have hi := (Array.getElem?_eq_some_iff.1 hu).1
        exact r1 i _ c (List.getElem?_eq_getElem (by omega)) hc w g g' u hz (hr i u _ hu (List.getElem?_eq_getElem (by omega)))
  · cases h

theorem mkV_sc {ts : List TypeId} {ds : List D} {v : V} (h : mkV P ts ds = some v) {w : World} {g : Gh} {u : Value} (hr : Rep w g u v) : Rep w (g.cut 0) u v := pureT_rep (g := g) (g' := g.cut 0) rfl (mkV_pure h) hr

theorem funT_sound (hE : E.Ok) (hN : EnvN E) (hG : EnvGood P E) (hm : P.follows .mixedOrders = true) {f : FuncId} {args : List V} {p : PRes} (hsig : ∀ fn, P.funcs[f]? = some fn → goodF P f = true) (hk : (funT sy P Cs f args).run E = some p) : PGood P f args p := by
  unfold funT at hk
  split at hk
  · rename_i fn hf
    split at hk
    · rename_i c hb
      rw [forceL_eq] at hk
      obtain ⟨r1, h1, hk⟩ := run_bind_some hE hk
      have hsg : sigP P f = some fn.resultTypes.toList := by
        unfold sigP
        rw [hsig fn hf, hf]
      -- what the run comes to
      have run : ∀ (g : Gh) (w : World) (us : List Value), SimH g [] w → Reps w g us args →
          Calls P f us.toArray w fun e w' => ∃ a' g', (r1.1 = .normal ∨ r1.1 = .ret) ∧ Sim ⟨w, g, [], [], (entryS fn args []).t.length⟩ r1.2 a' w' g' ∧ ∃ v, (results fn a'.tmps).run P w' = .ok v w' ∧ e = .returned v := by
        intro g w us hs hu
        refine calls_of_wp hf hb ?_
        have hEn := entry_sim (fn := fn) [] hs hu
        have h1' : (codeT sy P (Cs f) (entT sy P Cs 8) g.n [] 0 c (entryS fn args [])).run E = some r1 := by rw [hs.n]; exact h1
        refine wp_mono (codeT_sound (En := ⟨w, g, [], [], (entryS fn args []).t.length⟩) hE hN hG (entT_sound hE hN hG hm 8) hm c 0 _ _ _ r1 h1' hEn) fun e a' w' ⟨he, g', hs'⟩ => ?_
        subst he
        obtain ⟨e, s'⟩ := r1
        have fin : ∀ (e : Exit), (e = .normal ∨ e = .ret) → (endP P fn (e, s')).run E = some p → a'.defers = [] ∧ ∃ v, (results fn a'.tmps).run P w' = .ok v w' ∧ ∃ a' g', (e = .normal ∨ e = .ret) ∧ Sim ⟨w, g, [], [], (entryS fn args []).t.length⟩ s' a' w' g' ∧ ∃ v', (results fn a'.tmps).run P w' = .ok v' w' ∧ Ending.returned v = .returned v' := by
          intro e he hq
          have hq : ∃ v, resV P s' fn.results.toList = some v := by
            cases hv : resV P s' fn.results.toList with
            | some v => exact ⟨v, rfl⟩
            | none => rcases he with rfl | rfl <;> (simp only [endP, hv] at hq; cases hq)
          obtain ⟨v, hv⟩ := hq
          obtain ⟨u, hu, _⟩ := resV_run hs' hv
          exact ⟨hs'.defers, u, hu, a', g', he, hs', u, hu, rfl⟩
        cases e with
        | normal => exact fin _ (.inl rfl) hk
        | ret => exact fin _ (.inr rfl) hk
        | _ => cases hk
      obtain ⟨e, s'⟩ := r1
      have hk : Tree.run E (match resV P s' fn.results.toList with
        | some v => match v, fn.resultTypes.toList with
          | .own b, [t] => match s'.h[b]?, elO P t with
            | some (.arr e sz rows), some (e', sz') => match decide (e' = e ∧ sz' = sz) with
              | true => .ret (.own e sz rows)
              | false => .fail
            | _, _ => .fail
          | v, ts => match resV P (s'.frz v.ownsT) fn.results.toList with
            | some v' => match outDs P ts v' with
              | some ds => .ret (.val ds)
              | none => .fail
            | none => .fail
        | none => .fail) = some p := by
        cases e with
        | normal => exact hk
        | ret => exact hk
        | _ => cases hk
      split at hk
      · rename_i v hv
        split at hk
        · rename_i b t hts
          split at hk
          · rename_i ee sze rows e' sz' hbx hel
            split at hk
            · rename_i hd
              obtain ⟨e3, e4⟩ := of_decide_eq_true hd
              rw [e3, e4] at hel
              clear hd e3 e4 e' sz'
              cases hk
              refine ⟨t, by rw [hsg, hts], hel, fun g w us hs hu => (run g w us hs hu).mono ?_⟩
              rintro e0 w' ⟨a', g', _, hs', v, hres, rfl⟩
              obtain ⟨u, hu', hr⟩ := resV_run hs' hv
              rw [hres] at hu'; cases hu'
              obtain ⟨k1, k2, k3, k4⟩ := hs'.keep
              have hkeep : Keep [] g [] w g' s'.h w' := ⟨hs'.heap, k1, k2, k3, k4⟩
              have hbl : b < s'.h.length := (List.getElem?_eq_some_iff.1 hbx).1
              have hge : s'.h.getD b .gone = .arr ee sze rows := by rw [List.getD_eq_getElem?_getD, hbx]; rfl
              have hL : reachOK s'.h [b] [.own b] = true := by
                simp only [reachOK, nodupB, List.all_cons, List.all_nil, hge, Bool.and_true, V.inLs, V.inB, Box.inB]
                simp [hbl]
              obtain ⟨g2, hk2, hrep⟩ := hkeep.tell hs.n hL (fun i hi => by simp at hi)
              refine ⟨v, g2, rfl, ?_, ?_⟩
              · have := hrep v _ hr (by simp [V.inB])
                simpa [V.ren, tau, List.idxOf?] using this
              · have e2 : smallH s'.h [b] = [.arr ee sze rows] := by simp only [smallH, List.map_cons, List.map_nil, hge, Box.ren]
                rw [e2] at hk2
                exact hk2
            · cases hk
          · cases hk
        · rename_i v0 ts0 hne
          split at hk
          · rename_i v' hv'
            obtain ⟨L, hL⟩ : ∃ L, resV P (s'.frz L) fn.results.toList = some v' := ⟨_, hv'⟩
            split at hk
            · rename_i ds hds
              cases hk
              obtain ⟨v2, m1, m2, ss, m3, m4⟩ := outDs_mk hds
              refine ⟨_, ss, v2, hsg, m3, m4, m1, fun g w us hs hu => (run g w us hs hu).mono ?_⟩
              rintro e0 w' ⟨a', g', _, hs', u0, hres, rfl⟩
              obtain ⟨g1, hs1⟩ := SimE.frzs (bs := L) ⟨g', hs'⟩
              obtain ⟨u, hu', hr⟩ := resV_run hs1 hL
              rw [hres] at hu'; cases hu'
              obtain ⟨k1, k2, k3, k4⟩ := hs1.keep
              have hkeep : Keep [] g [] w g1 (s'.frz L).h w' := ⟨hs1.heap, k1, k2, k3, k4⟩
              have hn : g.n = 0 := hs.n
              exact ⟨u0, g1.cut 0, rfl, mkV_sc m1 (m2 w' g1 g1 u0 rfl hr), hkeep.cutN (n := 0) (by omega) (by omega) rfl⟩
            · cases hk
          · cases hk
      · cases hk
    · cases hk
  · cases hk

/-! ### calls with fuel, and without -/
def callN (P : Program) (Cs : FuncId → CfgT) : Nat → FuncId → List V → Option PRes
  | 0, _, _ => none
  | n + 1, f, args => match goodF P f with
    | true => (funT sy P Cs f args).run (envN n (callN P Cs n))
    | false => none
theorem callN_good (hm : P.follows .mixedOrders = true) : ∀ n m, EnvGood P (envN m (callN P Cs n))
  | 0, m => fun f args p _ h => by cases h
  | n + 1, m => fun f args p hp h => by
    have h : callN P Cs (n + 1) f args = some p := h
    unfold callN at h
    split at h
    · rename_i hg
      exact funT_sound (envN_ok n _) ⟨n, fun b ds => rfl⟩ (callN_good hm n n) hm (fun _ _ => hg) h
    · cases h

open Classical in
noncomputable def callF (P : Program) (Cs : FuncId → CfgT) (f : FuncId) (args : List V) : Option PRes :=
  if h : ∃ p N, ∀ n, N ≤ n → callN P Cs n f args = some p then some (Classical.choose h) else none
theorem callF_some {f : FuncId} {args : List V} {p : PRes} : callF P Cs f args = some p ↔ ∃ N, ∀ n, N ≤ n → callN P Cs n f args = some p := by
  unfold callF
  constructor
  · intro h
    split at h
    · rename_i hx; cases h; exact Classical.choose_spec hx
    · cases h
  · rintro ⟨N, h⟩
    have hx : ∃ p N, ∀ n, N ≤ n → callN P Cs n f args = some p := ⟨p, N, h⟩
    rw [dif_pos hx]
    obtain ⟨N', h'⟩ := Classical.choose_spec hx
    have h1 := h (max N N') (by omega)
    have h2 := h' (max N N') (by omega)
    rw [h1] at h2
    exact h2.symm
/-- How a function is gone through: by its tree. -/
theorem callF_of {f : FuncId} {args : List V} {p : PRes} (hg : goodF P f = true) (h : (funT sy P Cs f args).run (envF (callF P Cs)) = some p) : callF P Cs f args = some p := by
  obtain ⟨N, hN⟩ := run_evl (cN := callN P Cs) (fun f args p h => callF_some.1 h) _ p h
  refine callF_some.2 ⟨N + 1, fun n hn => ?_⟩
  obtain ⟨n, rfl⟩ : ∃ k, n = k + 1 := ⟨n - 1, by omega⟩
  simp only [callN, hg]
  exact hN n n (by omega) (by omega)
/-- By running it. -/
theorem callF_run {f : FuncId} {args : List V} {p : PRes} (N : Nat) (h : ∀ n, callN P Cs (N + n) f args = some p) : callF P Cs f args = some p :=
  callF_some.2 ⟨N, fun n hn => by have := h (n - N); rwa [Nat.add_sub_cancel' hn] at this⟩
theorem callF_good (hm : P.follows .mixedOrders = true) {f : FuncId} {args : List V} {p : PRes} (hp : args.all V.pureB = true) (h : callF P Cs f args = some p) : PGood P f args p := by
  obtain ⟨N, hN⟩ := callF_some.1 h
  exact callN_good hm N 0 f args p hp (hN N (Nat.le_refl _))
end
end Go.Vm
end

section
namespace Go.Vm
/-! ### what the printed functions are made of -/
def bs (l : List UInt8) : ByteArray := ⟨⟨l⟩⟩
def cutO {α : Type} (x : Option (List D ⊕ α)) (K : List D → Option α) : Option α := x.bind fun s => match s with
  | .inl ds => K ds
  | .inr a => some a
end Go.Vm
end

section
namespace Go.Vm
/-! ### plain laws: what the printed functions compute -/
section
variable (a b c : Int) (k : IntKind) (l m : List (List D)) (s u : ByteArray) (p q : Bool) (n j : Nat) (ds es : List D) (d e : D)
theorem sy_wrap : sy.wrap k a = k.wrap a := rfl
theorem sy_add : sy.add a b = a + b := rfl
theorem sy_sub : sy.sub a b = a - b := rfl
theorem sy_mul : sy.mul a b = a * b := rfl
theorem sy_ieq : sy.ieq a b = decide (a = b) := rfl
theorem sy_ilt : sy.ilt a b = decide (a < b) := rfl
theorem sy_ile : sy.ile a b = decide (a ≤ b) := rfl
theorem sy_seq : sy.seq s u = (s.toList == u.toList) := rfl
theorem sy_beq : sy.beq p q = (p == q) := rfl
theorem sy_bor : sy.bor p q = (p || q) := rfl
theorem sy_bnot : sy.bnot p = !p := rfl
theorem sy_imax : sy.imax a b = max a b := rfl
theorem sy_imin : sy.imin a b = min a b := rfl
theorem sy_rlen : sy.rlen l = l.length := rfl
theorem sy_slen : sy.slen s = s.size := rfl
theorem sy_sapp : sy.sapp s u = s ++ u := rfl
theorem sy_inr : sy.inr a b = decide (0 ≤ a ∧ a < b) := rfl
theorem sy_nat : sy.nat a = a.toNat := rfl
theorem sy_cell0 : sy.cell (d :: ds) 0 = some d := rfl
theorem sy_cellS : sy.cell (d :: ds) (n + 1) = sy.cell ds n := rfl
theorem sy_cell1 : sy.cell (d :: ds) 1 = sy.cell ds 0 := rfl
theorem sy_skip0 : sy.skip 0 ds = ds := rfl
theorem sy_inrn : sy.inrn n l = decide (n < l.length) := rfl
theorem sy_rapp : sy.rapp l m = l ++ m := rfl
theorem sy_fits : sy.fits l m n = decide ((l.length + m.length) * (n + 1) ≤ 140737488355328) := rfl
theorem sy_cutok : sy.cutok a b c = decide (0 ≤ a ∧ a ≤ b ∧ b ≤ c) := rfl
theorem sy_cut : sy.cut l a b = (l.take b.toNat).drop a.toNat := rfl
theorem sy_scut : sy.scut s a b = s.extract a.toNat b.toNat := rfl
theorem sy_sbyte : sy.sbyte s a = ((s.data.getD a.toNat 0).toNat : Int) := rfl
theorem sy_mkok : sy.mkok a b n = decide (a = b ∧ 0 ≤ a ∧ a * (n + 1) ≤ 140737488355328) := rfl
theorem sy_mkok0 : sy.mkok0 a n = decide (0 ≤ a ∧ a * (n + 1) ≤ 140737488355328) := rfl
theorem sy_mkz : sy.mkz a n = decide (0 < a ∧ a * (n + 1) ≤ 140737488355328) := rfl
theorem sy_rep : sy.rep a ds = List.replicate a.toNat ds := rfl
theorem sy_head : sy.head l a = l.take a.toNat := rfl
theorem sy_deq : sy.deq ds es = eqDs ds es := rfl
theorem sy_row : sy.row l a = l.getD a.toNat [] := rfl
theorem sy_rown : sy.rown l n = l.getD n [] := rfl
theorem opI_int : opI (some (.int k a)) k = some a := by simp [opI]
theorem opB_bool : opB (some (.bool p)) = some p := rfl
theorem opS_str : opS (some (.str s)) = some s := rfl
theorem opL_sl : opL (some (.sl n l)) n = some l := by simp [opL]
theorem opM_own (t : TypeId) : opM (some (.own t n l)) t n = some l := by simp [opM]
theorem leaves_val : (PRes.val ds).leaves = ds := rfl
theorem leaves_own (t : TypeId) : (PRes.own t n l).leaves = [.sl n l] := rfl
theorem eqDs_nil : eqDs [] es = true := by cases es <;> rfl
theorem eqDs_int : eqDs (.int k a :: ds) (.int k b :: es) = (decide (a = b) && eqDs ds es) := by
  show ((a == b) && _) = _
  congr 1
end
section
variable {α β : Type} (x y : Option (List D ⊕ α)) (K : List D → Option α) (ds : List D) (a : α) (c p q : Bool)
theorem cutO_inl : cutO (some (.inl ds)) K = K ds := rfl
theorem cutO_inr : cutO (some (.inr a)) K = some a := rfl
theorem cutO_none : cutO none K = none := rfl
theorem cutO_bif : cutO (bif c then x else y) K = bif c then cutO x K else cutO y K := by cases c <;> rfl
/-- Two ways that tell a truth each. -/
theorem cutO_bool : cutO (bif c then some (.inl [.bool p]) else some (.inl [.bool q])) K = K [.bool (bif c then p else q)] := by cases c <;> rfl
theorem bif_bool : (bif c then some (Sum.inl [D.bool p]) else some (Sum.inl [D.bool q]) : Option (List D ⊕ α)) = some (.inl [.bool (bif c then p else q)]) := by cases c <;> rfl
end
theorem env_call (c : FuncId → List V → Option PRes) (f : FuncId) (args : List V) : (envF c).call f args = c f args := rfl
theorem env_lp (c : FuncId → List V → Option PRes) {α : Type} (b : List D → Option (List D ⊕ α)) (ds : List D) : (envF c).lp b ds = loopF b ds := rfl
theorem wrap_id {n : Int} (h1 : -9223372036854775808 ≤ n) (h2 : n ≤ 9223372036854775807) : IntKind.i64.wrap n = n := by
  simp [IntKind.wrap, IntKind.bits, IntKind.signed]
  omega
/-- Rows of a list. -/
def encL {σ : Type} (enc : σ → List D) (l : List σ) : List (List D) := l.map enc
theorem encL_len {σ : Type} (enc : σ → List D) (l : List σ) : (encL enc l).length = l.length := by simp [encL]
theorem encL_row {σ : Type} (enc : σ → List D) (l : List σ) (i : Int) (d : σ) (h : i.toNat < l.length) : sy.row (encL enc l) i = enc (l.getD i.toNat d) := by
  simp [sy, encL, h]
theorem encL_nil {σ : Type} (enc : σ → List D) : encL enc [] = [] := rfl
theorem encL_app {σ : Type} (enc : σ → List D) (a b : List σ) : encL enc a ++ encL enc b = encL enc (a ++ b) := by simp [encL]
theorem encL_one {σ : Type} (enc : σ → List D) (a : σ) : [enc a] = encL enc [a] := rfl
def iE (n : Int) : List D := [.int .i64 n]
/-- A call with fuel enough, run. -/
theorem callF_run' {P : Program} {Cs : FuncId → CfgT} {f : FuncId} {args : List V} {p : PRes} (N : Nat) (h : ∀ n, callN P Cs (n + N) f args = some p) : callF P Cs f args = some p :=
  callF_some.2 ⟨N, fun n hn => by have := h (n - N); rwa [Nat.sub_add_cancel hn] at this⟩
end Go.Vm
end

section
namespace Go.Vm
/-- A walk along a list, which may end early. -/
def foldE {σ τ α : Type} (step : τ → σ → σ ⊕ α) (fin : σ → α) : List τ → σ → α
  | [], s => fin s
  | x :: xs, s => match step x s with
    | .inl s' => foldE step fin xs s'
    | .inr r => r
theorem loop_list {σ τ α : Type} {b : List D → Option (List D ⊕ α)} (l : List τ) (mk : Nat → σ → List D) (J : Nat → σ → Prop) (step : τ → σ → σ ⊕ α) (fin : σ → α)
    (hb : ∀ i s x, l[i]? = some x → J i s → b (mk i s) = (match step x s with | .inl s' => some (.inl (mk (i + 1) s')) | .inr r => some (.inr r)) ∧ ∀ s', step x s = .inl s' → J (i + 1) s')
    (hend : ∀ s, J l.length s → b (mk l.length s) = some (.inr (fin s))) (s0 : σ) (h0 : J 0 s0) : loopF b (mk 0 s0) = some (foldE step fin l s0) := by
  suffices ∀ (rest : List τ) (i : Nat) (s : σ), l.drop i = rest → i ≤ l.length → J i s → loopF b (mk i s) = some (foldE step fin rest s) from this l 0 s0 rfl (Nat.zero_le _) h0
  intro rest
  induction rest with
  | nil =>
    intro i s hd hi hj
    have : i = l.length := by have := congrArg List.length hd; simp at this; omega
    subst this
    rw [loopF_eq, hend s hj]
    rfl
  | cons x xs ih =>
    intro i s hd hi hj
    have hx : l[i]? = some x := by
      have := congrArg (fun r => r[0]?) hd
      simpa using this
    have hlt : i < l.length := (List.getElem?_eq_some_iff.1 hx).1
    have hxs : l.drop (i + 1) = xs := by
      have := congrArg List.tail hd
      simpa using this
    obtain ⟨h1, h2⟩ := hb i s x hx hj
    rw [loopF_eq, h1]
    unfold foldE
    cases hs : step x s with
    | inl s' => exact ih (i + 1) s' hxs (by omega) (h2 s' hs)
    | inr r => rfl
/-- Where the first one stands. -/
def idxI {τ : Type} (p : τ → Bool) : List τ → Int → Int
  | [], _ => -1
  | x :: l, i => if p x then i else idxI p l (i + 1)
theorem idxI_any {τ : Type} (p : τ → Bool) : ∀ (l : List τ) (i : Int), 0 ≤ i → decide (0 ≤ idxI p l i) = l.any p
  | [], i, h => rfl
  | x :: l, i, h => by
    unfold idxI
    by_cases hp : p x = true
    · simp [hp, h]
    · have hp : p x = false := by simpa using hp
      simp only [hp, Bool.false_eq_true, if_false, List.any_cons, Bool.false_or]
      exact idxI_any p l (i + 1) (by omega)
theorem foldE_idx {τ : Type} (p : τ → Bool) : ∀ (l : List τ) (i : Int), foldE (fun x (i : Int) => if p x then .inr (PRes.val [.int .i64 i]) else .inl (i + 1)) (fun _ => PRes.val [.int .i64 (-1)]) l i = .val [.int .i64 (idxI p l i)]
  | [], i => rfl
  | x :: l, i => by
    unfold foldE idxI
    by_cases hp : p x = true
    · simp [hp]
    · have hp : p x = false := by simpa using hp
      simp only [hp, Bool.false_eq_true, if_false]
      exact foldE_idx p l (i + 1)
/-- slices.IndexFunc. -/
theorem idx_loop {τ : Type} {b : List D → Option (List D ⊕ PRes)} (p : τ → Bool) (l : List τ) (mk : Int → List D)
    (hb : ∀ (i : Nat) x, l[i]? = some x → b (mk i) = bif p x then some (.inr (.val [.int .i64 (i : Int)])) else some (.inl (mk ((i : Int) + 1))))
    (hend : b (mk (l.length : Int)) = some (.inr (.val [.int .i64 (-1)]))) : loopF b (mk 0) = some (.val [.int .i64 (idxI p l 0)]) := by
  have := loop_list (b := b) l (fun i (_ : Int) => mk (i : Int)) (fun i s => s = (i : Int)) (fun x (i : Int) => if p x then .inr (PRes.val [.int .i64 i]) else .inl (i + 1)) (fun _ => PRes.val [.int .i64 (-1)]) (fun i s x hx hs => by
    subst hs
    rw [hb i x hx]
    cases p x with
    | true => exact ⟨rfl, fun s' h => by simp at h⟩
    | false => exact ⟨by simp, fun s' h => by simp at h; rw [← h]; simp⟩) (fun s _ => hend) 0 rfl
  rw [foldE_idx] at this
  exact this
theorem getElem?_some_getD {τ : Type} {l : List τ} {i : Nat} {x d : τ} (h : l[i]? = some x) : l.getD i d = x ∧ i < l.length := by
  refine ⟨by rw [List.getD_eq_getElem?_getD, h]; rfl, (List.getElem?_eq_some_iff.1 h).1⟩
end Go.Vm
end

section
namespace Go.Vm
/-! ### rows of numbers -/
def irow (n : Int) : List D := [.int .i64 n]
def irows (l : List Int) : List (List D) := l.map irow
/-- How many numbers, as a number. -/
def il (l : List Int) : Int := l.length
theorem il_nonneg (l : List Int) : 0 ≤ il l := by unfold il; omega
theorem il_toNat (l : List Int) : (il l).toNat = l.length := by unfold il; omega
theorem il_lt {l : List Int} {i : Int} (h0 : 0 ≤ i) (h : i < il l) : i.toNat < l.length := by unfold il at h; omega
theorem irows_len (l : List Int) : (irows l).length = l.length := by simp [irows]
theorem alen {rows : List (List D)} {l : List Int} (h : rows = irows l) : (rows.length : Int) = il l := by subst h; rw [irows_len]; rfl
theorem irows_get (l : List Int) (i : Nat) (h : i < l.length) : (irows l).getD i [] = irow (l.getD i 0) := by
  simp [irows, h]
theorem irows_app (a b : List Int) : irows a ++ irows b = irows (a ++ b) := by simp [irows]
theorem irows_take (a : List Int) (n : Nat) : (irows a).take n = irows (a.take n) := by simp [irows]
theorem irows_drop (a : List Int) (n : Nat) : (irows a).drop n = irows (a.drop n) := by simp [irows]
theorem irows_inj {a b : List Int} (h : irows a = irows b) : a = b := by
  induction a generalizing b with
  | nil => cases b with
    | nil => rfl
    | cons y ys => simp [irows] at h
  | cons x xs ih => cases b with
    | nil => simp [irows] at h
    | cons y ys =>
      simp only [irows, List.map_cons, irow, List.cons.injEq, D.int.injEq, and_true, true_and] at h
      rw [h.1, ih h.2]

/-- A type as a value: its kind, its enum, its length. -/
def tyV (x y z : Int) : V := .agg [.d (.int .i64 x), .d (.int .i64 y), .d (.int .i64 z)]
/-! ### verify: what is computed -/
structure Shp where
  ctors : List Int
  kinds : List Int
  lo : Int
  hi : Int
structure Ins where
  op : Int
  a : Int
  b : Int
  n : Int
  deriving Inhabited
def Ins.row (x : Ins) : List D := [.int .i64 x.op, .int .i64 x.a, .int .i64 x.b, .int .i64 x.n]
def crows (l : List Ins) : List (List D) := l.map Ins.row
def insV (x : Ins) : V := .agg [.d (.int .i64 x.op), .d (.int .i64 x.a), .d (.int .i64 x.b), .d (.int .i64 x.n)]
theorem crows_len (l : List Ins) : (crows l).length = l.length := by simp [crows]
theorem crows_get (l : List Ins) (i : Nat) (h : i < l.length) : (crows l).getD i [] = (l.getD i default).row := by
  simp [crows, h]

def kindB (nc k : Int) : Bool := k == 1 || k == 2 || (decide (3 ≤ k) && decide (k < 3 + nc))
def valueB (ctors : List Int) (k n : Int) : Bool :=
  if k = 1 then true else if k = 2 then n == 0 || n == 1 else decide (0 ≤ n) && decide (n < ctors.getD (k - 3).toNat 0)
def shapeB (ctors kinds : List Int) (lo hi : Int) : Bool :=
  decide (il ctors ≤ 4) && decide (il kinds ≤ 1000) && decide (0 ≤ lo) && decide (lo ≤ hi) && decide (hi ≤ il kinds) &&
    ctors.all (fun n => decide (1 ≤ n)) && kinds.all (kindB (il ctors))
def withinB (n lo hi : Int) : Bool := decide (lo ≤ n) && decide (n ≤ hi)
theorem withinB_iff {n lo hi : Int} : withinB n lo hi = true ↔ lo ≤ n ∧ n ≤ hi := by simp [withinB]
theorem withinB_false {n lo hi : Int} : withinB n lo hi = false ↔ n < lo ∨ hi < n := by
  cases h : withinB n lo hi with
  | true => have := withinB_iff.1 h; simp; omega
  | false =>
    simp
    rcases Int.lt_or_le n lo with h1 | h1
    · exact .inl h1
    · refine .inr ?_
      rcases Int.lt_or_le hi n with h2 | h2
      · exact h2
      · rw [withinB_iff.2 ⟨h1, h2⟩] at h; cases h
def rightB (x : Ins) : Bool :=
  (x.op == 1 || x.n == 0) && (x.op == 8 || x.op == 9 || x.b == 0) &&
    (if x.op = 1 then withinB x.a 1 1000
     else if x.op = 2 ∨ x.op = 3 ∨ x.op = 6 ∨ x.op = 7 then withinB x.a 0 65535
     else if x.op = 4 then x.a == 1 || x.a == 2
     else if x.op = 5 then withinB x.a 3 16
     else if x.op = 8 ∨ x.op = 9 then withinB x.a 0 65535 && withinB x.b 1 8
     else if x.op = 10 then x.a == 0 else false)
/-- A type: its kind, its enum, its length. -/
structure Ty3 where
  k : Int
  e : Int
  l : Int
  deriving DecidableEq
def Ty3.v (t : Ty3) : V := tyV t.k t.e t.l
def unTy (op : Int) (t : Ty3) : Option Ty3 :=
  if op = 1 then (if t = ⟨1, 0, 0⟩ then some t else none) else if op = 2 then (if t = ⟨2, 0, 0⟩ then some t else none) else none
def group (op : Int) : Int := if 3 ≤ op ∧ op ≤ 7 then 1 else if 8 ≤ op ∧ op ≤ 10 then 2 else if op = 11 ∨ op = 12 then 4 else if 13 ≤ op ∧ op ≤ 16 then 3 else 0
def binTy (op : Int) (t u : Ty3) : Option Ty3 :=
  if group op = 1 then (if t = ⟨1, 0, 0⟩ ∧ u = ⟨1, 0, 0⟩ then some ⟨1, 0, 0⟩ else none)
  else if group op = 2 then (if t = ⟨2, 0, 0⟩ ∧ u = ⟨2, 0, 0⟩ then some ⟨2, 0, 0⟩ else none)
  else if group op = 3 then (if t = ⟨1, 0, 0⟩ ∧ u = ⟨1, 0, 0⟩ then some ⟨2, 0, 0⟩ else none)
  else if group op = 4 then (if t = u ∧ t.l = 0 then some ⟨2, 0, 0⟩ else none)
  else none
/-- A kind's type; a type's kind. -/
def tyOf (k : Int) : Ty3 := if k < 3 then ⟨k, 0, 0⟩ else ⟨3, k - 3, 0⟩
/-- The kind of a row's top, so many from the end. -/
def topN (row : List Int) (j : Nat) : Int := row.getD (row.length - 1 - j) 0
def dropTop (row : List Int) (j : Nat) : List Int := row.take (row.length - j)
/-- The one kind of some cells. -/
def cellsK (kinds : List Int) (at_ : Int) (n : Int) : Option Int :=
  if at_ ≤ il kinds - n then
    (if ((kinds.drop at_.toNat).take n.toNat).all (fun k => k == kinds.getD at_.toNat 0) then some (kinds.getD at_.toNat 0) else none)
  else none
def fixedB (lo hi at_ n : Int) : Bool := decide (at_ < hi) && decide (lo < at_ + n) && decide (lo < hi)
def endsB (row : List Int) (ks : List Int) : Bool := row.drop (row.length - ks.length) == ks && decide (ks.length ≤ row.length)
def memS (s : Shp) (x : Ins) (row : List Int) : Option (List Int) :=
  match cellsK s.kinds x.a (max 1 x.b) with
  | none => none
  | some k =>
    if x.op = 2 then (if row.length < 16 then some (row ++ [k]) else none)
    else if x.op = 8 then (if endsB row [1] then some (dropTop row 1 ++ [k]) else none)
    else if x.op = 3 then (if endsB row [k] && !fixedB s.lo s.hi x.a (max 1 x.b) then some (dropTop row 1) else none)
    else (if endsB row [k, 1] && !fixedB s.lo s.hi x.a (max 1 x.b) then some (dropTop row 2) else none)
def kindOf (t : Ty3) : Int := t.k + t.e
def operS (x : Ins) (row : List Int) : Option (List Int) :=
  if x.op = 4 then (if row.length < 1 then none else (unTy x.a (tyOf (topN row 0))).map fun t => dropTop row 1 ++ [kindOf t])
  else (if row.length < 2 then none else (binTy x.a (tyOf (topN row 1)) (tyOf (topN row 0))).map fun t => dropTop row 2 ++ [kindOf t])
def nextS (s : Shp) (x : Ins) (row : List Int) : Option (List Int) :=
  if x.op = 1 then (if kindB (il s.ctors) x.a && valueB s.ctors x.a x.n && decide (row.length < 16) then some (row ++ [x.a]) else none)
  else if x.op = 4 ∨ x.op = 5 then operS x row
  else if x.op = 7 then (if endsB row [2] then some (dropTop row 1) else none)
  else if x.op = 6 then some row
  else if x.op = 10 then (if row.length = 0 then some [] else none)
  else memS s x row
def leadsS (n i : Nat) (x : Ins) : Option (List Int) :=
  if x.op = 10 then (if i + 1 = n then some [] else none)
  else
    let to : List Int := if x.op = 6 then [x.a] else if x.op = 7 then [(i : Int) + 1, x.a] else [(i : Int) + 1]
    if to.all (fun m => decide ((i : Int) < m) && decide (m < n)) then some to else none
/-- What is known of the rows ahead of the instructions. -/
def Known := Nat → Option (List Int)
def putAll (row : List Int) : List Int → Known → Option Known
  | [], K => some K
  | t :: ts, K => match K t.toNat with
    | some was => if was = row then putAll row ts (fun m => if m = t.toNat then some row else K m) else none
    | none => putAll row ts (fun m => if m = t.toNat then some row else K m)
def checkGo (s : Shp) (n : Nat) : Nat → List Ins → Known → Int × Bool
  | _, [], _ => (n, true)
  | i, x :: rest, K => match K i with
    | none => (i, false)
    | some row => if rightB x then
        (match nextS s x row with
        | none => (i, false)
        | some row' => match leadsS n i x with
          | none => (i, false)
          | some to => match putAll row' to K with
            | none => (i, false)
            | some K' => checkGo s n (i + 1) rest K')
      else (i, false)
def checkS (s : Shp) (code : List Ins) : Int × Bool :=
  if shapeB s.ctors s.kinds s.lo s.hi && decide (1 ≤ code.length) && decide (code.length ≤ 6000) then checkGo s code.length 0 code (fun m => if m = 0 then some [] else none) else (0, false)
end Go.Vm
end

section
set_option maxHeartbeats 2000000
namespace Go.Vm
theorem bft : (false = true) = False := by simp
theorem btf : (true = false) = False := by simp
def firstB (x : Ins) : Bool := if x.op = 1 then withinB x.a 1 1000 else if x.op = 4 then x.a == 1 || x.a == 2 else if x.op = 5 then withinB x.a 3 16 else if x.op = 10 then x.a == 0 else withinB x.a 0 65535
theorem right_eq (x : Ins) : rightB x = (withinB x.op 1 10 && firstB x && !(!(x.op == 1) && !(x.n == 0)) && (if x.op == 8 || x.op == 9 then withinB x.b 1 8 else x.b == 0)) := by
  obtain ⟨op, a, b, n⟩ := x
  by_cases h : 1 ≤ op ∧ op ≤ 10
  · have : op = 1 ∨ op = 2 ∨ op = 3 ∨ op = 4 ∨ op = 5 ∨ op = 6 ∨ op = 7 ∨ op = 8 ∨ op = 9 ∨ op = 10 := by omega
    rcases this with rfl | rfl | rfl | rfl | rfl | rfl | rfl | rfl | rfl | rfl <;> simp [rightB, firstB, withinB] <;> (try (cases (n == 0) <;> simp)) <;> (try (cases (b == 0) <;> simp))
    all_goals grind
  · have hw : withinB op 1 10 = false := by rw [withinB_false]; omega
    simp only [hw, Bool.false_and, rightB]
    rw [if_neg (by omega), if_neg (by omega), if_neg (by omega), if_neg (by omega), if_neg (by omega), if_neg (by omega)]
    simp
theorem kind_within {la : List Int} {k : Int} : kindB (il la) k = withinB k 1 (2 + il la) ∨ il la < 0 := by
  by_cases h : il la < 0
  · exact .inr h
  · refine .inl ?_
    rw [Bool.eq_iff_iff]; unfold kindB; simp only [↓bft, ↓btf, Bool.and_eq_true, Bool.or_eq_true, Bool.and_eq_false_iff, Bool.or_eq_false_iff, Bool.not_eq_true', Bool.not_eq_false', Bool.not_eq_true, Bool.not_eq_false, decide_eq_true_eq, decide_eq_false_iff_not, beq_iff_eq, beq_eq_false_iff_ne, ne_eq, not_true_eq_false, not_false_eq_true, reduceCtorEq, true_iff, false_iff, iff_true, iff_false, Decidable.not_not, withinB_iff, withinB_false, eq_self]; omega
theorem kind_eq (la : List Int) (k : Int) : kindB (il la) k = withinB k 1 (2 + il la) := kind_within.resolve_right (by have := il_nonneg la; omega)
theorem ends_len {row ks : List Int} (h : endsB row ks = true) : il ks ≤ il row := by
  unfold endsB at h; simp only [Bool.and_eq_true, decide_eq_true_eq] at h; simp only [il]; omega
theorem unTy_bd {op : Int} {t r : Ty3} (h : unTy op t = some r) : r = ⟨1, 0, 0⟩ ∨ r = ⟨2, 0, 0⟩ := by
  unfold unTy at h
  repeat' split at h
  all_goals simp_all
theorem binTy_cases (op : Int) (t u : Ty3) : (binTy op t u = none) ∨ (binTy op t u = some ⟨1, 0, 0⟩) ∨ (binTy op t u = some ⟨2, 0, 0⟩) := by
  unfold binTy; repeat' split
  all_goals simp
theorem binTy_bd {op : Int} {t u r : Ty3} (h : binTy op t u = some r) : r = ⟨1, 0, 0⟩ ∨ r = ⟨2, 0, 0⟩ := by
  rcases binTy_cases op t u with h1 | h1 | h1 <;> rw [h1] at h <;> simp at h <;> subst h <;> simp
def cl (l : List Ins) : Int := l.length
theorem cl_nonneg (l : List Ins) : 0 ≤ cl l := by unfold cl; omega
/-! ### maps from numbers to rows -/
def encM (L : List (Int × List Int)) : List (List D) := L.map fun p => [.int .i64 p.1, .sl 1 (irows p.2)]
def lk : List (Int × List Int) → Int → Option (List Int)
  | [], _ => none
  | (k, v) :: L, m => if k = m then some v else lk L m
def putL : List (Int × List Int) → Int → List Int → List (Int × List Int)
  | [], m, x => [(m, x)]
  | (k, v) :: L, m, x => if k = m then (k, x) :: L else (k, v) :: putL L m x
def delL : List (Int × List Int) → Int → List (Int × List Int)
  | [], _ => []
  | (k, v) :: L, m => if k = m then L else (k, v) :: delL L m
theorem lk_put (x : List Int) (n m : Int) : ∀ L, lk (putL L n x) m = if m = n then some x else lk L m
  | [] => by simp only [putL, lk]; by_cases h : n = m <;> simp [h, eq_comm]
  | (k, v) :: L => by
    unfold putL
    split
    · rename_i h; subst h; simp only [lk]
      by_cases h : k = m
      · rw [if_pos h, if_pos h.symm]
      · rw [if_neg h, if_neg (fun e => h e.symm), if_neg h]
    · rename_i h
      simp only [lk, lk_put x n m L]
      by_cases h1 : k = m
      · subst h1; rw [if_pos rfl, if_neg h]; simp
      · simp only [h1, if_false]
theorem lk_del (n m : Int) (hne : m ≠ n) : ∀ L, lk (delL L n) m = lk L m
  | [] => rfl
  | (k, v) :: L => by
    unfold delL
    split
    · rename_i h; subst h; simp only [lk]; rw [if_neg (fun e => hne e.symm)]
    · simp only [lk, lk_del n m hne L]
theorem midx_ne {k k' : D} {w : List D} {rs : List (List D)} (h : keyIs k k' = false) : midx k ((k' :: w) :: rs) = (midx k rs).map (· + 1) := by
  simp [midx, h]
theorem midx_eq {k k' : D} {w : List D} {rs : List (List D)} (h : keyIs k k' = true) : midx k ((k' :: w) :: rs) = some 0 := by
  simp [midx, h]
theorem mhas_enc (m : Int) : ∀ L, mhas (.int .i64 m) (encM L) = (lk L m).isSome
  | [] => rfl
  | (k, v) :: L => by
    have ih := mhas_enc m L
    unfold mhas at *
    show (midx (.int .i64 m) ((D.int .i64 k :: [.sl 1 (irows v)]) :: encM L)).isSome = _
    unfold lk
    by_cases h : k = m
    · rw [midx_eq (by simp [keyIs, h]), if_pos h]; rfl
    · rw [midx_ne (by simp [keyIs]; omega), if_neg h, ← ih]; cases midx (.int .i64 m) (encM L) <;> rfl
theorem mval_enc (z : D) (m : Int) : ∀ L, mval z (.int .i64 m) (encM L) = (match lk L m with | some v => .sl 1 (irows v) | none => z)
  | [] => rfl
  | (k, v) :: L => by
    have ih := mval_enc z m L
    unfold mval mget at *
    show ((midx (.int .i64 m) ((D.int .i64 k :: [.sl 1 (irows v)]) :: encM L)).bind fun i => (((D.int .i64 k :: [.sl 1 (irows v)]) :: encM L)[i]?).bind (·[1]?)).getD z = _
    unfold lk
    by_cases h : k = m
    · rw [midx_eq (by simp [keyIs, h]), if_pos h]; rfl
    · rw [midx_ne (by simp [keyIs]; omega), if_neg h, ← ih]; cases midx (.int .i64 m) (encM L) <;> rfl
theorem mput_enc (m : Int) (x : List Int) : ∀ L, mput (.int .i64 m) (.sl 1 (irows x)) (encM L) = encM (putL L m x)
  | [] => rfl
  | (k, v) :: L => by
    have ih := mput_enc m x L
    unfold mput at *
    show (match midx (.int .i64 m) ((D.int .i64 k :: [.sl 1 (irows v)]) :: encM L) with | some i => _ | none => _) = _
    unfold putL
    by_cases h : k = m
    · rw [midx_eq (by simp [keyIs, h]), if_pos h, h]; rfl
    · rw [midx_ne (by simp [keyIs]; omega), if_neg h]
      show _ = (D.int .i64 k :: [.sl 1 (irows v)]) :: encM (putL L m x)
      rw [← ih]
      cases midx (.int .i64 m) (encM L) <;> rfl
theorem mdel_enc (m : Int) : ∀ L, mdel (.int .i64 m) (encM L) = encM (delL L m)
  | [] => rfl
  | (k, v) :: L => by
    have ih := mdel_enc m L
    unfold mdel at *
    show (match midx (.int .i64 m) ((D.int .i64 k :: [.sl 1 (irows v)]) :: encM L) with | some i => _ | none => _) = _
    unfold delL
    by_cases h : k = m
    · rw [midx_eq (by simp [keyIs, h]), if_pos h]; rfl
    · rw [midx_ne (by simp [keyIs]; omega), if_neg h]
      show _ = (D.int .i64 k :: [.sl 1 (irows v)]) :: encM (delL L m)
      rw [← ih]
      cases midx (.int .i64 m) (encM L) <;> rfl

/-! ### rows stay right -/
def RowOK (row : List Int) : Prop := (∀ k ∈ row, 1 ≤ k ∧ k ≤ 100) ∧ row.length ≤ 16
theorem RowOK.drop {row : List Int} (h : RowOK row) (n : Nat) : RowOK (dropTop row n) :=
  ⟨fun k hk => h.1 k (List.mem_of_mem_take hk), Nat.le_trans (List.length_take_le _ _) (by have := h.2; omega)⟩
theorem RowOK.snoc {row : List Int} {k : Int} (h : RowOK row) (h1 : 1 ≤ k) (h2 : k ≤ 100) (hl : row.length < 16) : RowOK (row ++ [k]) :=
  ⟨fun q hq => by
    rcases List.mem_append.1 hq with h3 | h3
    · exact h.1 q h3
    · simp at h3; subst h3; exact ⟨h1, h2⟩, by simp; omega⟩
theorem dropTop_len {row : List Int} {n : Nat} (h : n ≤ row.length) (hn : 0 < n) : (dropTop row n).length < row.length := by
  unfold dropTop; rw [List.length_take]; omega
theorem cellsK_mem {kinds : List Int} {a n k : Int} (h : cellsK kinds a n = some k) (h0 : 0 ≤ a) (h1 : 1 ≤ n) : k ∈ kinds := by
  unfold cellsK at h
  split at h
  · rename_i hle
    split at h
    · simp only [Option.some.injEq] at h
      have hlt : a.toNat < kinds.length := by unfold il at hle; omega
      rw [← h, List.getD_eq_getElem?_getD, List.getElem?_eq_getElem hlt]
      exact List.getElem_mem hlt
    · cases h
  · cases h
theorem operS_ok {x : Ins} {row r : List Int} (h : operS x row = some r) (hr : RowOK row) : RowOK r := by
  unfold operS at h
  split at h
  · split at h
    · cases h
    · rename_i hl
      rw [Option.map_eq_some_iff] at h
      obtain ⟨t, ht, rfl⟩ := h
      have hlt := dropTop_len (row := row) (n := 1) (by omega) (by omega)
      have := hr.2
      rcases unTy_bd ht with rfl | rfl <;> exact (hr.drop 1).snoc (by simp [kindOf]) (by simp [kindOf]) (by omega)
  · split at h
    · cases h
    · rename_i hl
      rw [Option.map_eq_some_iff] at h
      obtain ⟨t, ht, rfl⟩ := h
      have hlt := dropTop_len (row := row) (n := 2) (by omega) (by omega)
      have := hr.2
      rcases binTy_bd ht with rfl | rfl <;> exact (hr.drop 2).snoc (by simp [kindOf]) (by simp [kindOf]) (by omega)
theorem nextS_ok {s : Shp} {x : Ins} {row r : List Int} (h : nextS s x row = some r) (hr : RowOK row) (hs : shapeB s.ctors s.kinds s.lo s.hi = true) (ha : rightB x = true) : RowOK r := by
  have hc : il s.ctors ≤ 4 := by unfold shapeB at hs; simp only [Bool.and_eq_true, decide_eq_true_eq] at hs; omega
  have hk : ∀ k ∈ s.kinds, 1 ≤ k ∧ k ≤ 100 := by
    unfold shapeB at hs
    simp only [Bool.and_eq_true] at hs
    intro k hk
    have := List.all_eq_true.1 hs.2 k hk
    rw [kind_eq] at this
    have := withinB_iff.1 this
    omega
  unfold nextS at h
  split at h
  · split at h
    · rename_i h1 h2
      simp only [Bool.and_eq_true, decide_eq_true_eq] at h2
      cases h
      have := h2.1.1
      rw [kind_eq] at this
      have := withinB_iff.1 this
      exact hr.snoc (by omega) (by omega) h2.2
    · cases h
  · split at h
    · exact operS_ok h hr
    · split at h
      · split at h
        · cases h; exact hr.drop 1
        · cases h
      · split at h
        · cases h; exact hr
        · split at h
          · split at h
            · cases h; exact ⟨by simp, by simp⟩
            · cases h
          · rename_i h1 h4 h7 h6 h10
            unfold memS at h
            split at h
            · cases h
            · rename_i k hck
              have hab : 0 ≤ x.a := by
                rw [right_eq] at ha
                simp only [Bool.and_eq_true] at ha
                obtain ⟨⟨⟨_, q2⟩, _⟩, _⟩ := ha
                unfold firstB at q2
                rw [if_neg h1, if_neg (by omega), if_neg (by omega), if_neg h10] at q2
                exact (withinB_iff.1 q2).1
              have hkk := hk k (cellsK_mem hck hab (by omega))
              split at h
              · split at h
                · cases h; exact hr.snoc hkk.1 hkk.2 ‹_›
                · cases h
              · split at h
                · split at h
                  · rename_i he
                    cases h
                    have := ends_len he
                    simp only [il, List.length_singleton] at this
                    have hlt := dropTop_len (row := row) (n := 1) (by omega) (by omega)
                    have := hr.2
                    exact (hr.drop 1).snoc hkk.1 hkk.2 (by omega)
                  · cases h
                · split at h
                  · split at h
                    · cases h; exact hr.drop 1
                    · cases h
                  · split at h
                    · cases h; exact hr.drop 2
                    · cases h


def KR (M : List (List D)) (i : Int) (K : Known) : Prop := ∃ L, M = encM L ∧ (∀ m : Int, i ≤ m → lk L m = K m.toNat) ∧ ∀ m row, K m = some row → RowOK row
def inner (s : Shp) (n i : Nat) (rest : List Ins) (row' : List Int) (to : List Int) (K : Known) : Int × Bool := match putAll row' to K with
  | none => (i, false)
  | some K' => checkGo s n (i + 1) rest K'
theorem leadsS_bd {n i : Nat} {x : Ins} {T : List Int} (h : leadsS n i x = some T) : (∀ t ∈ T, (i : Int) < t ∧ t < n) ∧ T.length ≤ 2 := by
  unfold leadsS at h
  split at h
  · split at h
    · cases h; exact ⟨by simp, by simp⟩
    · cases h
  · have hl : (if x.op = 6 then [x.a] else if x.op = 7 then [(i : Int) + 1, x.a] else [(i : Int) + 1]).length ≤ 2 := by
      repeat' split
      all_goals simp
    generalize (if x.op = 6 then [x.a] else if x.op = 7 then [(i : Int) + 1, x.a] else [(i : Int) + 1]) = to at h hl
    simp only at h
    by_cases hall : (to.all fun m => decide ((i : Int) < m) && decide (m < (n : Int))) = true
    · rw [if_pos hall] at h
      cases h
      refine ⟨fun t ht => ?_, hl⟩
      have := List.all_eq_true.1 hall t ht
      simpa using this
    · rw [if_neg hall] at h; cases h
theorem cdrop {l : List Ins} {i : Nat} (h : i < l.length) : l.drop i = l.getD i default :: l.drop (i + 1) := by
  rw [List.drop_eq_getElem_cons h]; simp [h]
theorem cl_lt {l : List Ins} {i : Int} (h0 : 0 ≤ i) (h : i < cl l) : i.toNat < l.length := by unfold cl at h; omega
theorem KR.put {L : List (Int × List Int)} {i t : Int} {K : Known} {v : List Int} (h : ∀ m : Int, i ≤ m → lk L m = K m.toNat) (h2 : ∀ m row, K m = some row → RowOK row) (ht : i ≤ t) (hi : 0 ≤ i) (hv : RowOK v) : KR (encM (putL L t v)) i (fun m => if m = t.toNat then some v else K m) := by
  refine ⟨_, rfl, fun m hm => ?_, fun m row hm => ?_⟩
  · rw [lk_put]
    by_cases he : m = t
    · subst he; rw [if_pos rfl]; simp
    · rw [if_neg he, h m hm]; simp only; rw [if_neg (by omega)]
  · simp only at hm
    split at hm
    · cases hm; exact hv
    · exact h2 m row hm
/-- What is right of an instruction of a code that may be run. -/
structure AheadOK (s : Shp) (n i : Int) (x : Ins) : Prop where
  last : x.op = 10 ↔ i = n - 1
  jump : x.op = 6 ∨ x.op = 7 → i < x.a ∧ x.a < n
  cell : x.op = 2 ∨ x.op = 3 → 0 ≤ x.a ∧ x.a < il s.kinds
  free : x.op = 3 ∨ x.op = 9 → ¬ (s.lo ≤ x.a ∧ x.a < s.hi)
theorem step_ok {s : Shp} {n i : Nat} {x : Ins} {row row' to : List Int} (hr : rightB x = true) (hn : nextS s x row = some row') (hl : leadsS n i x = some to) : AheadOK s n i x := by
  have hb := leadsS_bd hl
  rw [right_eq] at hr
  simp only [Bool.and_eq_true] at hr
  obtain ⟨⟨⟨hop, hf⟩, _⟩, _⟩ := hr
  have hop := withinB_iff.1 hop
  have hto : x.op ≠ 10 → to = (if x.op = 6 then [x.a] else if x.op = 7 then [(i : Int) + 1, x.a] else [(i : Int) + 1]) := by
    intro h
    unfold leadsS at hl
    rw [if_neg h] at hl
    generalize (if x.op = 6 then [x.a] else if x.op = 7 then [(i : Int) + 1, x.a] else [(i : Int) + 1]) = to2 at hl ⊢
    simp only at hl
    by_cases hall : (to2.all fun m => decide ((i : Int) < m) && decide (m < (n : Int))) = true
    · rw [if_pos hall] at hl; cases hl; rfl
    · rw [if_neg hall] at hl; cases hl
  have ha : ∀ (h : x.op = 2 ∨ x.op = 3 ∨ x.op = 8 ∨ x.op = 9), 0 ≤ x.a ∧ ∃ k, cellsK s.kinds x.a (max 1 x.b) = some k := by
    intro h
    unfold firstB at hf
    rw [if_neg (by omega), if_neg (by omega), if_neg (by omega), if_neg (by omega)] at hf
    refine ⟨(withinB_iff.1 hf).1, ?_⟩
    unfold nextS at hn
    rw [if_neg (by omega), if_neg (by omega), if_neg (by omega), if_neg (by omega), if_neg (by omega)] at hn
    unfold memS at hn
    split at hn
    · cases hn
    · exact ⟨_, ‹_›⟩
  refine ⟨⟨fun h => ?_, fun h => ?_⟩, fun h => ?_, fun h => ?_, fun h => ?_⟩
  · unfold leadsS at hl
    rw [if_pos h] at hl
    split at hl
    · omega
    · cases hl
  · refine Classical.byContradiction fun hne => ?_
    have := hto hne
    have hmem : ∃ t, t ∈ to := by
      rw [this]; repeat' split
      all_goals exact ⟨_, List.mem_cons_self⟩
    obtain ⟨t, ht⟩ := hmem
    have := hb.1 t ht
    omega
  · have := hto (by omega)
    have hm : x.a ∈ to := by
      rw [this]
      rcases h with h | h
      · rw [if_pos h]; simp
      · rw [if_neg (by omega), if_pos h]; simp
    exact hb.1 _ hm
  · obtain ⟨h0, k, hk⟩ := ha (by omega)
    refine ⟨h0, ?_⟩
    unfold cellsK at hk
    split at hk
    · omega
    · cases hk
  · obtain ⟨h0, k, hk⟩ := ha (by omega)
    unfold nextS at hn
    rw [if_neg (by omega), if_neg (by omega), if_neg (by omega), if_neg (by omega), if_neg (by omega)] at hn
    unfold memS at hn
    rw [hk] at hn
    simp only at hn
    rw [if_neg (by omega), if_neg (by omega)] at hn
    have hfx : fixedB s.lo s.hi x.a (max 1 x.b) = false := by
      rcases h with h | h
      · rw [if_pos h] at hn
        split at hn
        · rename_i q; simp only [Bool.and_eq_true, Bool.not_eq_true'] at q; exact q.2
        · cases hn
      · rw [if_neg (by omega)] at hn
        split at hn
        · rename_i q; simp only [Bool.and_eq_true, Bool.not_eq_true'] at q; exact q.2
        · cases hn
    unfold fixedB at hfx
    simp only [Bool.and_eq_false_iff, decide_eq_false_iff_not] at hfx
    omega
theorem go_ok {s : Shp} {n : Nat} : ∀ (rest : List Ins) (i : Nat) (K : Known) (r : Int), checkGo s n i rest K = (r, true) → i + rest.length = n → r = n ∧ ∀ j, j < rest.length → AheadOK s n ((i + j : Nat) : Int) (rest.getD j default)
  | [], i, K, r, h, hl => by unfold checkGo at h; cases h; exact ⟨rfl, by simp⟩
  | x :: rest, i, K, r, h, hl => by
    unfold checkGo at h
    cases hk : K i with
    | none => rw [hk] at h; cases h
    | some row =>
      rw [hk] at h
      simp only at h
      cases hr : rightB x with
      | false => rw [hr] at h; cases h
      | true =>
        rw [hr] at h
        simp only [if_true] at h
        cases hn : nextS s x row with
        | none => rw [hn] at h; cases h
        | some row' =>
          rw [hn] at h
          simp only at h
          cases hq : leadsS n i x with
          | none => rw [hq] at h; cases h
          | some to =>
            rw [hq] at h
            simp only at h
            cases hp : putAll row' to K with
            | none => rw [hp] at h; cases h
            | some K' =>
              rw [hp] at h
              obtain ⟨h1, h2⟩ := go_ok rest (i + 1) K' r h (by simp at hl; omega)
              refine ⟨h1, fun j hj => ?_⟩
              cases j with
              | zero => exact step_ok hr hn hq
              | succ j =>
                have := h2 j (by simpa using hj)
                rw [show i + (j + 1) = i + 1 + j by omega]
                exact this
theorem go_range {s : Shp} {n : Nat} : ∀ (rest : List Ins) (i : Nat) (K : Known), i + rest.length = n → 0 ≤ (checkGo s n i rest K).1 ∧ (checkGo s n i rest K).1 ≤ n
  | [], i, K, hl => by unfold checkGo; exact ⟨by simp, by simp⟩
  | x :: rest, i, K, hl => by
    have hi : 0 ≤ (i : Int) ∧ (i : Int) ≤ n := by simp at hl; omega
    unfold checkGo
    cases hk : K i with
    | none => exact hi
    | some row =>
      simp only
      cases hr : rightB x with
      | false => exact hi
      | true =>
        simp only [if_true]
        cases hn : nextS s x row with
        | none => exact hi
        | some row' =>
          simp only
          cases hq : leadsS n i x with
          | none => exact hi
          | some to =>
            simp only
            cases hp : putAll row' to K with
            | none => exact hi
            | some K' => exact go_range rest (i + 1) K' (by simp at hl; omega)
theorem check_range (s : Shp) (code : List Ins) : 0 ≤ (checkS s code).1 ∧ (checkS s code).1 ≤ cl code := by
  unfold checkS
  split
  · have := go_range (s := s) (n := code.length) code 0 (fun m => if m = 0 then some [] else none) (by simp)
    unfold cl; exact this
  · exact ⟨Int.le_refl _, cl_nonneg _⟩
theorem check_ok {s : Shp} {code : List Ins} (h : (checkS s code).2 = true) : (checkS s code).1 = cl code ∧ ∀ i : Int, 0 ≤ i → i < cl code → AheadOK s (cl code) i (code.getD i.toNat default) := by
  unfold checkS at *
  split at h
  · rename_i hc
    rw [if_pos hc]
    obtain ⟨h1, h2⟩ := go_ok code 0 _ _ (Prod.ext rfl h) (by simp)
    refine ⟨h1, fun i h0 hi => ?_⟩
    have := h2 i.toNat (cl_lt h0 hi)
    rw [Nat.zero_add, Int.toNat_of_nonneg h0] at this
    exact this
  · cases h
end Go.Vm
end

section
namespace Go.Vm
def KOK (L : List (Int × List Int)) (i : Nat) (K : Known) : Prop := (∀ m : Int, (i : Int) ≤ m → lk L m = K m.toNat) ∧ ∀ m row, K m = some row → RowOK row
theorem KOK.row {L : List (Int × List Int)} {i : Nat} {K : Known} (h : KOK L i K) {m : Int} {row : List Int} (hm : (i : Int) ≤ m) (hl : lk L m = some row) : RowOK row := h.2 _ row (by rw [← h.1 m hm]; exact hl)
theorem KOK.put {L : List (Int × List Int)} {i : Nat} {K : Known} (h : KOK L i K) {t : Int} {v : List Int} (ht : (i : Int) ≤ t) (hv : RowOK v) : KOK (putL L t v) i (fun m => if m = t.toNat then some v else K m) := by
  refine ⟨fun m hm => ?_, fun m row hm => ?_⟩
  · rw [lk_put]
    by_cases he : m = t
    · subst he; rw [if_pos rfl]; simp
    · rw [if_neg he, h.1 m hm]; simp only; rw [if_neg (by omega)]
  · simp only at hm
    split at hm
    · cases hm; exact hv
    · exact h.2 m row hm
theorem put_loop {b : List D → Option (List D ⊕ (List D ⊕ PRes))} (T : List Int) (row' : List Int) (mkI : Nat → List (Int × List Int) → List D) (mkO : List (Int × List Int) → List D) (bad : PRes) (i : Nat)
    (hb : ∀ (j : Nat) L t, T[j]? = some t → (∀ was, lk L t = some was → was.length ≤ 16) → b (mkI j L) = match lk L t with
      | some was => if was = row' then some (.inl (mkI (j + 1) (putL L t row'))) else some (.inr (.inr bad))
      | none => some (.inl (mkI (j + 1) (putL L t row'))))
    (hend : ∀ L, b (mkI T.length L) = some (.inr (.inl (mkO L)))) (hT : ∀ t ∈ T, (i : Int) ≤ t) (hr : RowOK row') :
    ∀ (rest : List Int) (j : Nat) (L : List (Int × List Int)) (K : Known), T.drop j = rest → j ≤ T.length → KOK L i K →
      ∃ out, loopF b (mkI j L) = some out ∧ match putAll row' rest K with
        | none => out = .inr bad
        | some K' => ∃ L', out = .inl (mkO L') ∧ KOK L' i K' := by
  intro rest
  induction rest with
  | nil =>
    intro j L K hd hj hK
    have : j = T.length := by have := congrArg List.length hd; simp at this; omega
    subst this
    rw [loopF_eq, hend]
    exact ⟨_, rfl, L, rfl, hK⟩
  | cons t ts ih =>
    intro j L K hd hj hK
    have hx : T[j]? = some t := by
      have := congrArg (fun r => r[0]?) hd
      simpa using this
    have hlt := (List.getElem?_eq_some_iff.1 hx).1
    have hts : T.drop (j + 1) = ts := by
      have := congrArg List.tail hd
      simpa using this
    have hti := hT t (List.mem_of_getElem? hx)
    have h1 := hb j L t hx (fun was hw => (hK.row hti hw).2)
    have hKt := hK.1 t hti
    unfold putAll
    rw [loopF_eq, h1, hKt]
    cases hq : K t.toNat with
    | none => exact ih (j + 1) _ _ hts (by omega) (hK.put hti hr)
    | some was =>
      simp only
      by_cases he : was = row'
      · rw [if_pos he, if_pos he]
        exact ih (j + 1) _ _ hts (by omega) (hK.put hti hr)
      · rw [if_neg he, if_neg he]
        exact ⟨_, rfl, rfl⟩
def badR (i : Nat) : PRes := .val [.int .i64 (i : Int), .bool false]
def StepOK (s : Shp) (n : Nat) (mk : Nat → List (Int × List Int) → List D) (r : Option (List D ⊕ PRes)) (i : Nat) (L : List (Int × List Int)) (x : Ins) : Prop := match lk L i with
  | none => r = some (.inr (badR i))
  | some row => if rightB x then (match nextS s x row with
    | none => r = some (.inr (badR i))
    | some row' => match leadsS n i x with
      | none => r = some (.inr (badR i))
      | some T => ∀ K : Known, KOK L (i + 1) K → ∃ out, r = some out ∧ match putAll row' T K with
        | none => out = .inr (badR i)
        | some K' => ∃ L', out = .inl (mk (i + 1) L') ∧ KOK L' (i + 1) K') else r = some (.inr (badR i))
def chR (p : Int × Bool) : PRes := .val [.int .i64 p.1, .bool p.2]
theorem check_loop {b : List D → Option (List D ⊕ PRes)} (s : Shp) (code : List Ins) (mk : Nat → List (Int × List Int) → List D)
    (hb : ∀ (i : Nat) L x, code[i]? = some x → (∀ row, lk L i = some row → RowOK row) → StepOK s code.length mk (b (mk i L)) i L x)
    (hend : ∀ L, b (mk code.length L) = some (.inr (.val [.int .i64 (code.length : Int), .bool true]))) :
    ∀ (rest : List Ins) (i : Nat) (L : List (Int × List Int)) (K : Known), code.drop i = rest → i ≤ code.length → KOK L i K → loopF b (mk i L) = some (chR (checkGo s code.length i rest K)) := by
  intro rest
  induction rest with
  | nil =>
    intro i L K hd hi hK
    have : i = code.length := by have := congrArg List.length hd; simp at this; omega
    subst this
    rw [loopF_eq, hend]
    rfl
  | cons x xs ih =>
    intro i L K hd hi hK
    have hx : code[i]? = some x := by
      have := congrArg (fun r => r[0]?) hd
      simpa using this
    have hlt := (List.getElem?_eq_some_iff.1 hx).1
    have hxs : code.drop (i + 1) = xs := by
      have := congrArg List.tail hd
      simpa using this
    have hs := hb i L x hx (fun row h => hK.row (Int.le_refl _) h)
    have hKi := hK.1 i (Int.le_refl _)
    rw [Int.toNat_natCast] at hKi
    unfold StepOK at hs
    rw [hKi] at hs
    unfold checkGo
    rw [loopF_eq]
    cases hq : K i with
    | none => rw [hq] at hs; rw [show b (mk i L) = _ from hs]; rfl
    | some row =>
      rw [hq] at hs
      simp only at hs ⊢
      by_cases hr : rightB x = true
      · rw [if_pos hr] at hs ⊢
        cases hn : nextS s x row with
        | none => rw [hn] at hs; rw [show b (mk i L) = _ from hs]; rfl
        | some row' =>
          rw [hn] at hs
          simp only at hs ⊢
          cases hl : leadsS code.length i x with
          | none => rw [hl] at hs; rw [show b (mk i L) = _ from hs]; rfl
          | some T =>
            rw [hl] at hs
            simp only at hs ⊢
            obtain ⟨out, h1, h2⟩ := hs K ⟨fun m hm => hK.1 m (by omega), hK.2⟩
            rw [h1]
            cases hp : putAll row' T K with
            | none => rw [hp] at h2; have h2 : out = _ := h2; subst h2; rfl
            | some K' =>
              rw [hp] at h2
              obtain ⟨L', rfl, hK'⟩ := h2
              exact ih (i + 1) L' K' hxs (by omega) hK'
      · rw [if_neg hr] at hs ⊢
        rw [show b (mk i L) = _ from hs]; rfl
end Go.Vm
end
