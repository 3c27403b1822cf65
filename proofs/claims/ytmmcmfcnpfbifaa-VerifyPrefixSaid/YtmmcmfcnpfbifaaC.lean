/-
  Part C of the proof. What is proved by the whole: the statement that the claim names, with no condition. This part: lemmas.
-/
import Derived.Test.YtmmcmfcnpfbifaaB
import Derived.Deep.LoopGhost
set_option linter.unusedSimpArgs false
set_option linter.unusedVariables false

section
namespace Go.Vm
section
variable {P : Program} {M : List Nat} {h h' h2 h0 hh : List Box} {ρ ρ2 : Operand → V} {o : Oper} {x : V} {ops : Array Oper} {W : List Nat}

/-! ### regions whose stores may come among the other operations -/
def isSt (o : Oper) : Bool := match o.op with
  | .store .. => true
  | _ => false
def edgeOn (o : Oper) (i : Nat) : Bool := o.after.any fun e => Region.binds .any e && e.on == i
/-- Does every store wait for operation i? -/
def early (ops : Array Oper) (i : Nat) : Bool := (List.range ops.size).all fun j => match ops[j]? with
  | some oj => !isSt oj || edgeOn oj i
  | none => true
/-- Are the stores in order? -/
def stOK (ops : Array Oper) : Bool := (List.range ops.size).all fun j => match ops[j]? with
  | some oj => !isSt oj || (List.range j).all fun i => match ops[i]? with
    | some oi => !isSt oi || edgeOn oj i
    | none => true
  | none => true

/-- Outside W the same. -/
def PreW (W : List Nat) (h0 h2 : List Box) : Prop := ∀ (b : Nat) x, b ∉ W → h0[b]? = some x → h2[b]? = some x
def hideB (h : List Box) : List Nat → List Box
  | [] => h
  | b :: bs => hideB (h.set b .gone) bs
theorem hideB_at : ∀ {W : List Nat} {h : List Box} {b : Nat} {x : Box}, (hideB h W)[b]? = some x → x = .gone ∨ (b ∉ W ∧ h[b]? = some x)
  | [], h, b, x, hx => .inr ⟨by simp, hx⟩
  | c :: W, h, b, x, hx => by
    rcases hideB_at (W := W) hx with h1 | ⟨h1, h2⟩
    · exact .inl h1
    · rw [List.getElem?_set] at h2
      by_cases hc : c = b
      · subst hc
        rw [if_pos rfl] at h2
        split at h2
        · cases h2; exact .inl rfl
        · cases h2
      · rw [if_neg hc] at h2
        exact .inr ⟨by simp; exact ⟨fun e => hc e.symm, h1⟩, h2⟩
theorem PreW.pre (hp : PreW W h0 h2) : Pre (hideB h0 W) h2 := fun b x hx => by
  rcases hideB_at hx with h1 | ⟨h1, h3⟩
  · exact .inl h1
  · exact .inr (hp b x h1 h3)

/-- What an operation does to the boxes. -/
inductive Eff where
  | no
  | late
  | early
  | alloc (b : Box)
  | st (b : Nat) (c c' : Box)
def Eff.ok (W : List Nat) (h0 hh : List Box) : Eff → Prop
  | .no => True
  | .late => PreW W h0 hh
  | .early => Pre h0 hh
  | .alloc _ => hh.length = h0.length
  | .st b c _ => hh[b]? = some c ∧ PreW W h0 hh ∧ b ∈ W ∧ b < h0.length
def Eff.run (hh : List Box) : Eff → List Box
  | .alloc b => hh ++ [b]
  | .st b _ c' => hh.set b c'
  | _ => hh
def Fact (P : Program) (ops : Array Oper) (W : List Nat) (h0 : List Box) (i : Nat) (o : Oper) (t : List V) (x : V) : Eff → Prop
  | .no => wantV ops o t = some false ∧ x = .tup []
  | .late => wantV ops o t = some true ∧ ∀ h2, PreW W h0 h2 → Gives P [] h2 h2 (restr o (VSt.get ⟨t, h0⟩)) o x
  | .early => wantV ops o t = some true ∧ early ops i = true ∧ ∀ h2, Pre h0 h2 → Gives P [] h2 h2 (restr o (VSt.get ⟨t, h0⟩)) o x
  | .alloc b => wantV ops o t = some true ∧ x = .ptr h0.length 0 ∧ allocV P o = some b
  | .st b c c' => wantV ops o t = some true ∧ isSt o = true ∧ ∀ h2, PreW W h0 h2 → h2[b]? = some c → Gives P [] h2 (h2.set b c') (restr o (VSt.get ⟨t, h0⟩)) o x

theorem Fact.put {i : Nat} {t : List V} {d : Option Tmp} {y : V} (hd : ∀ k, d = some k → k ∉ o.looksAt ops) (e : Eff) : Fact P ops W h0 i o (putV t d y) x e ↔ Fact P ops W h0 i o t x e := by
  cases e <;> simp only [Fact, wantV_put hd, restr_put hd]

theorem preW_app (hl : hh.length = h0.length) (b : Box) : PreW W h0 (hh ++ [b]) ↔ PreW W h0 hh := by
  constructor <;> intro hp c x hc hx <;> have hlt := (List.getElem?_eq_some_iff.1 hx).1 <;> have := hp c x hc hx
  · rwa [List.getElem?_append, if_pos (by omega)] at this
  · rw [List.getElem?_append, if_pos (by omega)]; exact this
theorem pre_app (hl : hh.length = h0.length) (b : Box) : Pre h0 (hh ++ [b]) ↔ Pre h0 hh := by
  constructor <;> intro hp c x hx <;> have hlt := (List.getElem?_eq_some_iff.1 hx).1 <;> rcases hp c x hx with h1 | h1
  · exact .inl h1
  · rw [List.getElem?_append, if_pos (by omega)] at h1; exact .inr h1
  · exact .inl h1
  · refine .inr ?_; rw [List.getElem?_append, if_pos (by omega)]; exact h1
theorem preW_set {b : Nat} (hb : b ∈ W) (c : Box) : PreW W h0 (hh.set b c) ↔ PreW W h0 hh := by
  constructor <;> intro hp k x hk hx <;> have hne : b ≠ k := (fun e => hk (e ▸ hb)) <;> have := hp k x hk hx
  · rwa [List.getElem?_set, if_neg hne] at this
  · rw [List.getElem?_set, if_neg hne]; exact this

def Eff.isSt : Eff → Bool
  | .st .. => true
  | _ => false
def Eff.isEarly : Eff → Bool
  | .early => true
  | _ => false

theorem Eff.swap {e1 e2 : Eff} (h1 : e1.ok W h0 hh) (h2 : e2.ok W h0 (e1.run hh)) (hss : e1.isSt = true → e2.isSt = true → False) (hse : e1.isSt = true → e2.isEarly = true → False) (hes : e1.isEarly = true → e2.isSt = true → False) :
    e2.ok W h0 hh ∧ e1.ok W h0 (e2.run hh) ∧ e1.run (e2.run hh) = e2.run (e1.run hh) := by
  cases e1 with
  | no => exact ⟨h2, trivial, rfl⟩
  | late =>
    cases e2 with
    | no => exact ⟨h2, h1, rfl⟩
    | late => exact ⟨h2, h1, rfl⟩
    | early => exact ⟨h2, h1, rfl⟩
    | alloc b => exact ⟨h2, (preW_app h2 b).2 h1, rfl⟩
    | st b c c' => exact ⟨h2, (preW_set h2.2.2.1 c').2 h1, rfl⟩
  | early =>
    cases e2 with
    | no => exact ⟨h2, h1, rfl⟩
    | late => exact ⟨h2, h1, rfl⟩
    | early => exact ⟨h2, h1, rfl⟩
    | alloc b => exact ⟨h2, (pre_app h2 b).2 h1, rfl⟩
    | st b c c' => exact (hes rfl rfl).elim
  | alloc b =>
    have h1 : hh.length = h0.length := h1
    cases e2 with
    | no => exact ⟨trivial, h1, rfl⟩
    | late => exact ⟨(preW_app h1 b).1 h2, h1, rfl⟩
    | early => exact ⟨(pre_app h1 b).1 h2, h1, rfl⟩
    | alloc b' =>
      have h2 : (hh ++ [b]).length = h0.length := h2
      simp at h2; omega
    | st k c c' =>
      obtain ⟨q1, q2, q3, q4⟩ := h2
      have hk : k < hh.length := by omega
      refine ⟨⟨?_, (preW_app h1 b).1 q2, q3, q4⟩, ?_, ?_⟩
      · have q1 : (hh ++ [b])[k]? = some c := q1
        rwa [List.getElem?_append, if_pos hk] at q1
      · show (hh.set k c').length = h0.length; simpa using h1
      · show hh.set k c' ++ [b] = (hh ++ [b]).set k c'
        rw [List.set_append_left _ _ hk]
  | st k c c' =>
    obtain ⟨q1, q2, q3, q4⟩ := h1
    cases e2 with
    | no => exact ⟨trivial, ⟨q1, q2, q3, q4⟩, rfl⟩
    | late => exact ⟨q2, ⟨q1, q2, q3, q4⟩, rfl⟩
    | early => exact (hse rfl rfl).elim
    | alloc b' =>
      have h2 : (hh.set k c').length = h0.length := h2
      have h2 : hh.length = h0.length := by simpa using h2
      have hk : k < hh.length := by omega
      refine ⟨h2, ⟨?_, (preW_app h2 b').2 q2, q3, q4⟩, ?_⟩
      · show (hh ++ [b'])[k]? = some c
        rw [List.getElem?_append, if_pos hk]; exact q1
      · show (hh ++ [b']).set k c' = hh.set k c' ++ [b']
        rw [List.set_append_left _ _ hk]
    | st => exact (hss rfl rfl).elim

def Out2 (P : Program) (ops : Array Oper) (W : List Nat) (h0 : List Box) (i : Nat) (o : Oper) (t : List V) (hh : List Box) (x : V) (hh' : List Box) : Prop :=
  ∃ e, Fact P ops W h0 i o t x e ∧ Eff.ok W h0 hh e ∧ hh' = e.run hh

theorem fact_st {i : Nat} {t : List V} {e : Eff} (hf : Fact P ops W h0 i o t x e) : (e.isSt = true → isSt o = true) ∧ (e.isEarly = true → early ops i = true) := by
  cases e with
  | st => exact ⟨fun _ => hf.2.1, fun h => by simp [Eff.isEarly] at h⟩
  | early => exact ⟨fun h => by simp [Eff.isSt] at h, fun _ => hf.2.1⟩
  | _ => exact ⟨fun h => by simp [Eff.isSt] at h, fun h => by simp [Eff.isEarly] at h⟩

theorem Out2.put {i j : Nat} {oi oj : Oper} {t : List V} {hi' hj' : List Box} {xi xj : V} (hap : oi.apart ops oj = true) (hss : isSt oi = true → isSt oj = true → False) (hse : isSt oi = true → early ops j = true → False) (hes : early ops i = true → isSt oj = true → False)
    (hi : Out2 P ops W h0 i oi t hh xi hi') (hj : Out2 P ops W h0 j oj (putV t oi.dst xi) hi' xj hj') :
    ∃ hh1, Out2 P ops W h0 j oj t hh xj hh1 ∧ Out2 P ops W h0 i oi (putV t oj.dst xj) hh1 xi hj' ∧ putV (putV t oj.dst xj) oi.dst xi = putV (putV t oi.dst xi) oj.dst xj := by
  obtain ⟨a1, a2, a3⟩ := Oper.apart_spec hap
  obtain ⟨e1, f1, k1, rfl⟩ := hi
  obtain ⟨e2, f2, k2, rfl⟩ := hj
  rw [Fact.put a1] at f2
  obtain ⟨s1, s2⟩ := fact_st f1
  obtain ⟨s3, s4⟩ := fact_st f2
  obtain ⟨q1, q2, q3⟩ := Eff.swap k1 k2 (fun h1 h2 => hss (s1 h1) (s3 h2)) (fun h1 h2 => hse (s1 h1) (s4 h2)) (fun h1 h2 => hes (s2 h1) (s3 h2))
  exact ⟨_, ⟨e2, f2, q1, rfl⟩, ⟨e1, (Fact.put a3 e1).2 f1, q2, q3.symm⟩, (putV_comm a2 t xi xj).symm⟩

theorem Out2.wp {E : Ent} {i : Nat} {t : List V} {hh' : List Box} {a : Act} {w : World} (ho : Out2 P ops W h0 i o t hh x hh') (hs : SimE E ⟨t, hh⟩ a w) {K : Act → World → Prop} {Q : Exit → Act → World → Prop}
    (hK : ∀ a' w', SimE E ⟨putV t o.dst x, hh'⟩ a' w' → K a' w') : if Region.wanted o (yielded ops a.tmps) then o.wp P a w K Q else K (a.put o.dst undef) w := by
  have hnext : ∀ h' x, VSt.next ⟨t, hh⟩ [] h' o.dst x = ⟨putV t o.dst x, h'⟩ := fun h' x => by first | (simp only [VSt.next, putV]; done) | (simp only [VSt.next, putV]; cases o.dst <;> rfl)
  have go : ∀ {h'}, Gives P [] hh h' (restr o (VSt.get ⟨t, h0⟩)) o x → hh' = h' → wantV ops o t = some true → if Region.wanted o (yielded ops a.tmps) then o.wp P a w K Q else K (a.put o.dst undef) w := by
    intro h' hg he hw
    subst he
    rw [if_pos (wantV_sim hs hw)]
    rw [get_h t h0 hh] at hg
    refine Gives.sim (s := ⟨t, hh⟩) hg.of_restr hs (by simp [okM]) fun a' w' hs' => hK a' w' ?_
    rwa [hnext] at hs'
  obtain ⟨e, hf, hok, he⟩ := ho
  cases e with
  | no =>
    obtain ⟨hw, rfl⟩ := hf
    have he : hh' = hh := he
    subst he
    rw [if_neg (by rw [wantV_sim hs hw]; simp)]
    refine hK _ _ ?_
    obtain ⟨g, hs⟩ := hs
    have := hs.next (.refl hs.heap) (by simp [okM]) (.tup (w := w) (g := g) #[] [] rfl (by simp)) o.dst
    rw [hnext] at this
    exact ⟨g, this⟩
  | late => exact go (hf.2 hh hok) he hf.1
  | early => exact go (hf.2.2 hh hok) he hf.1
  | st b c c' => exact go (hf.2.2 hh hok.2.1 hok.1) he hf.1
  | alloc b =>
    obtain ⟨hw, rfl, hb⟩ := hf
    have hl : hh.length = h0.length := hok
    have he : hh' = hh ++ [b] := he
    subst he
    unfold allocV at hb
    split at hb
    · rename_i ty hop
      split at hb
      · rename_i z hz
        split at hb
        · rename_i vs hvs
          cases hb
          have hg : Gives P [] hh (hh ++ [.cells ty vs]) (VSt.get ⟨t, hh⟩) o (.ptr hh.length 0) := gives_alloc hop hz hvs
          rw [if_pos (wantV_sim hs hw)]
          refine Gives.sim (s := ⟨t, hh⟩) hg hs (by simp [okM]) fun a' w' hs' => hK a' w' ?_
          rw [hnext, hl] at hs'
          exact hs'
        · cases hb
      · cases hb
    · cases hb

/-- Every order. -/
def vAny2 (P : Program) (ops : Array Oper) (W : List Nat) (h0 : List Box) (K : List V → List Box → Prop) : Nat → Array Bool → List V → List Box → Prop
  | 0, listed, t, hh => Region.ready .any ops listed = [] ∧ K t hh
  | fuel + 1, listed, t, hh => Region.ready .any ops listed ≠ [] ∧ ∀ i ∈ Region.ready .any ops listed, ∃ o x hh', ops[i]? = some o ∧ Out2 P ops W h0 i o t hh x hh' ∧ vAny2 P ops W h0 K fuel (listed.setIfInBounds i true) (putV t o.dst x) hh'

theorem edgeOn_spec {o : Oper} {i : Nat} (h : edgeOn o i = true) : ∃ e ∈ o.after, Region.binds .any e = true ∧ e.on = i := by
  obtain ⟨e, he, hb⟩ := Array.any_eq_true'.1 h
  simp only [Bool.and_eq_true, beq_iff_eq] at hb
  exact ⟨e, he, hb.1, hb.2⟩
theorem early_spec {i j : Nat} {oj : Oper} (he : early ops i = true) (hj : ops[j]? = some oj) (hs : isSt oj = true) : edgeOn oj i = true := by
  have := List.all_eq_true.1 he j (List.mem_range.2 (Array.getElem?_eq_some_iff.1 hj).1)
  rw [hj] at this
  simpa [hs] using this
theorem stOK_spec (h : stOK ops = true) {i j : Nat} {oi oj : Oper} (hi : ops[i]? = some oi) (hj : ops[j]? = some oj) (hij : i < j) (s1 : isSt oi = true) (s2 : isSt oj = true) : edgeOn oj i = true := by
  have := List.all_eq_true.1 h j (List.mem_range.2 (Array.getElem?_eq_some_iff.1 hj).1)
  rw [hj] at this
  simp only [s2, Bool.not_true, Bool.false_or] at this
  have := List.all_eq_true.1 this i (List.mem_range.2 hij)
  rw [hi] at this
  simpa [s1] using this

theorem vAny2_first {K : List V → List Box → Prop} (hst : stOK ops = true) {i : Nat} {oi : Oper} {xi : V} (hi : ops[i]? = some oi) :
    ∀ (fuel : Nat) (listed : Array Bool) (t : List V) (hh hhi : List Box),
      (∀ j oj, ops[j]? = some oj → j ≠ i → listed.getD j true = false → (∀ e ∈ oj.after, Region.binds .any e = true → e.on ≠ i) → oi.apart ops oj = true) →
      i ∈ Region.ready .any ops listed → Out2 P ops W h0 i oi t hh xi hhi →
      vAny2 P ops W h0 K fuel (listed.setIfInBounds i true) (putV t oi.dst xi) hhi → vAny2 P ops W h0 K (fuel + 1) listed t hh := by
  intro fuel
  induction fuel with
  | zero =>
    intro listed t hh hhi _ hr ho H
    refine ⟨fun h => (by rw [h] at hr; cases hr), fun j hj => ?_⟩
    by_cases hji : j = i
    · subst hji; exact ⟨oi, xi, hhi, hi, ho, H⟩
    · have := ready_mono hj hji
      rw [H.1] at this; cases this
  | succ fuel ih =>
    intro listed t hh hhi hfree hr ho H
    refine ⟨fun h => (by rw [h] at hr; cases hr), fun j hj => ?_⟩
    by_cases hji : j = i
    · subst hji; exact ⟨oi, xi, hhi, hi, ho, H⟩
    · obtain ⟨oj, xj, hbj, hoj, hout, hrest⟩ := H.2 j (ready_mono hj hji)
      obtain ⟨hjun, oj', hoj', hall⟩ := mem_ready.1 hj
      rw [hoj] at hoj'; cases hoj'
      obtain ⟨hiun, oi', hoi', halli⟩ := mem_ready.1 hr
      rw [hi] at hoi'; cases hoi'
      have hnot : ∀ e ∈ oj.after, Region.binds .any e = true → e.on ≠ i := fun e he hb heq => by
        have h1 := hall e he hb
        rw [heq, not_listed hr] at h1
        cases h1
      have hnoti : ∀ e ∈ oi.after, Region.binds .any e = true → e.on ≠ j := fun e he hb heq => by
        have h1 := halli e he hb
        rw [heq, not_listed hj] at h1
        cases h1
      have no1 : edgeOn oj i = true → False := fun h => by obtain ⟨e, he, hb, ho⟩ := edgeOn_spec h; exact hnot e he hb ho
      have no2 : edgeOn oi j = true → False := fun h => by obtain ⟨e, he, hb, ho⟩ := edgeOn_spec h; exact hnoti e he hb ho
      obtain ⟨hb1, o1, o2, e1⟩ := Out2.put (hfree j oj hoj hji hjun hnot)
        (fun s1 s2 => by
          rcases Nat.lt_or_gt_of_ne hji with hlt | hgt
          · exact no2 (stOK_spec hst hoj hi hlt s2 s1)
          · exact no1 (stOK_spec hst hi hoj hgt s1 s2))
        (fun s1 he => no2 (early_spec he hi s1)) (fun he s2 => no1 (early_spec he hoj s2)) ho hout
      refine ⟨oj, xj, hb1, hoj, o1, ih (listed.setIfInBounds j true) _ hb1 hbj (fun k ok hk hki hun hno => ?_) (ready_mono hr (Ne.symm hji)) o2 ?_⟩
      · refine hfree k ok hk hki ?_ hno
        by_cases hjk : j = k
        · subst hjk; exact hjun
        · rw [getD_set_ne true hjk] at hun; exact hun
      · rw [Array.setIfInBounds_comm _ _ hji, e1]
        exact hrest

/-- In the text's order. -/
def vLex2 (P : Program) (ops : Array Oper) (W : List Nat) (h0 : List Box) (K : List V → List Box → Prop) : Nat → List Oper → List V → List Box → Prop
  | _, [], t, hh => K t hh
  | k, o :: os, t, hh => ∃ x hh', Out2 P ops W h0 k o t hh x hh' ∧ vLex2 P ops W h0 K (k + 1) os (putV t o.dst x) hh'
def lexOK2 (ops : Array Oper) : Nat → Nat → Array Bool → Bool
  | 0, _, listed => (Region.ready .any ops listed).isEmpty
  | n + 1, k, listed => (Region.ready .any ops listed).contains k && Region.free .any ops listed k && lexOK2 ops n (k + 1) (listed.setIfInBounds k true)
theorem vAny2_lex {K : List V → List Box → Prop} (hst : stOK ops = true) : ∀ (l : List Oper) (k : Nat) (listed : Array Bool) (t : List V) (hh : List Box), (∀ j, l[j]? = ops[k + j]?) →
    lexOK2 ops l.length k listed = true → vLex2 P ops W h0 K k l t hh → vAny2 P ops W h0 K l.length listed t hh
  | [], _, _, _, _, _, hB, h => ⟨by simpa [lexOK2] using hB, h⟩
  | o :: l, k, listed, t, hh, hl, hB, ⟨x, hh', ho, h⟩ => by
    have h0 : ops[k]? = some o := by simpa using (hl 0).symm
    simp only [List.length_cons, lexOK2, Bool.and_eq_true] at hB
    obtain ⟨⟨hr, hf⟩, hB'⟩ := hB
    exact vAny2_first hst h0 l.length listed t hh hh' (Region.free_spec h0 hf) (by simpa using hr) ho
      (vAny2_lex hst l (k + 1) _ _ _ (fun j => by have := hl (j + 1); simpa [Nat.add_assoc, Nat.add_comm 1 j] using this) hB' h)

theorem vAny2_sound {E : Ent} {K : List V → List Box → Prop} {Q : Exit → Act → World → Prop} (hK : ∀ t hh a w, K t hh → SimE E ⟨t, hh⟩ a w → Q .normal a w) :
    ∀ (fuel : Nat) (listed : Array Bool) (t : List V) (hh : List Box) (a : Act) (w : World), vAny2 P ops W h0 K fuel listed t hh → SimE E ⟨t, hh⟩ a w → wpAny P .any ops Q fuel listed a w
  | 0, listed, t, hh, a, w, ⟨hno, hk⟩, hs => ⟨hno, hK t hh a w hk hs⟩
  | fuel + 1, listed, t, hh, a, w, ⟨hne, hall⟩, hs => by
    refine ⟨fun h => (hne h).elim, fun i hi => ?_⟩
    obtain ⟨o, x, hh', ho, hout, hrest⟩ := hall i hi
    unfold wpOp
    simp only [ho]
    have h1 := hout.wp (Q := Q) hs (K := wpAny P .any ops Q fuel (listed.setIfInBounds i true)) fun a' w' hs' =>
      vAny2_sound hK fuel _ _ _ a' w' hrest hs'
    split
    · rename_i hw; rw [if_pos hw] at h1; exact .inl h1
    · rename_i hw; rw [if_neg hw] at h1; exact h1

/-! ### the evaluator -/
/-- The box that an address leads into. -/
def addrV (P : Program) (ops : Array Oper) (s : VSt) : Nat → Operand → Option V
  | 0, _ => none
  | n + 1, y => match y with
    | .tmp a => match ops.toList.find? fun o => o.dst == some a with
      | none => some (s.t.getD a .any)
      | some o => match o.op with
        | .move z => addrV P ops s n z
        | .assign z => addrV P ops s n z
        | .nilCheck z => addrV P ops s n z
        | .fieldAddr st z f => match addrV P ops s n z, fldO P st f with
          | some v, some k => addF v k
          | _, _ => none
        | .load _ z => match addrV P ops s n z with
          | some (.ptr b off) => match s.h[b]? with
            | some (.cells _ vs) => vs[off]?
            | _ => none
          | _ => none
        | .indexAddr _ z _ => match addrV P ops s n z with
          | some (.own b) => some (.pml b 0 0 0)
          | _ => none
        | _ => none
    | _ => none
def stBox (P : Program) (ops : Array Oper) (s : VSt) (o : Oper) : List Nat := match o.op with
  | .store _ y _ => match addrV P ops s 12 y with
    | some (.ptr b _) => [b]
    | some (.pml b _ _ _) => [b]
    | _ => []
  | _ => []

def vst (P : Program) (hW : List Box) (W : List Nat) (n0 : Nat) (hh : List Box) (t : TypeId) (a v : V) (K : Nat → Box → Prop) : Prop :=
  match v.cellsV, v.liveC hW with
  | some ns, true => match a with
    | .ptr b off => match W.contains b && decide (b < n0), hh[b]? with
      | true, some (.cells bt vs) => match ns.all (V.oneB hW), decide (szO P t = some ns.length), decide (off + ns.length ≤ vs.length) with
        | true, true, true => K b (.cells bt (vs.take off ++ ns ++ vs.drop (off + ns.length)))
        | _, _, _ => False
      | _, _ => False
    | .pml b sz i off => match W.contains b && decide (b < n0), hh[b]?, shOf P 9 t with
      | true, some (.arr e sz' rows), some ss => match decide (sz' = sz), toDs ss ns with
        | true, some ds => match decide (szO P t = some ds.length), decide (off + ds.length ≤ sz) with
          | true, true => i < rows.length ∧ K b (.arr e sz (rows.set i ((rows.getD i []).take off ++ ds ++ (rows.getD i []).drop (off + ds.length))))
          | _, _ => False
        | _, _ => False
      | _, _, _ => False
    | _ => False
  | _, _ => False

theorem oneB_pre {v : V} (hp : Pre h h2) (hn : v.oneB h = true) : v.oneB h2 = true := by
  unfold V.oneB at hn ⊢
  split <;> simp_all
  split at hn
  · rename_i heq; rw [hp.at heq nofun]
  · cases hn

theorem vst_sound {t : TypeId} {y z : Operand} {K : Nat → Box → Prop} (hop : o.op = .store t y z) (hk : vst P (hideB h0 W) W h0.length hh t (ρ y) (ρ z) K) :
    ∃ b c c', hh[b]? = some c ∧ b ∈ W ∧ b < h0.length ∧ (∀ h2, PreW W h0 h2 → h2[b]? = some c → Gives P [] h2 (h2.set b c') ρ o .any) ∧ K b c' := by
  unfold vst at hk
  split at hk
  · rename_i ns hn hl
    split at hk
    · rename_i b off hy
      split at hk
      · rename_i bt vs hW hb
        simp only [Bool.and_eq_true, List.contains_eq_mem, decide_eq_true_eq] at hW
        split at hk
        · rename_i c1 c2 c3
          exact ⟨b, _, _, hb, hW.1, hW.2, fun h2 hp hb2 => gives_store_box hop hy hb2 hn (List.all_eq_true.2 fun q hq => oneB_pre hp.pre (List.all_eq_true.1 c1 q hq)) (of_decide_eq_true c2) (of_decide_eq_true c3) (liveC_pre hp.pre hl), hk⟩
        · exact hk.elim
      · exact hk.elim
    · rename_i b sz i off hy
      split at hk
      · rename_i e sz' rows ss hW hb hss
        simp only [Bool.and_eq_true, List.contains_eq_mem, decide_eq_true_eq] at hW
        split at hk
        · rename_i ds c1 hd
          have c1 := of_decide_eq_true c1
          subst c1
          split at hk
          · rename_i c2 c3
            exact ⟨b, _, _, hb, hW.1, hW.2, fun h2 hp hb2 => gives_store_pml hop hy hb2 hk.1 hn hd (of_decide_eq_true c2) (of_decide_eq_true c3) (liveC_pre hp.pre hl), hk.2⟩
          · exact hk.elim
        · exact hk.elim
      · exact hk.elim
    · exact hk.elim
  · exact hk.elim

/-- The operations in the text's order; cl: no store yet. -/
def vpre2 (P : Program) (ops : Array Oper) (W : List Nat) (h0 : List Box) : Nat → List Oper → Bool → List V → List Box → (List V → List Box → Prop) → Prop
  | _, [], _, t, hh, K => K t hh
  | k, o :: os, cl, t, hh, K =>
    let exec : List V → Prop := fun t => match o.op with
      | .store ty y z => vst P (hideB h0 W) W h0.length hh ty (VSt.get ⟨t, h0⟩ y) (VSt.get ⟨t, h0⟩ z) fun b c' => vpre2 P ops W h0 (k + 1) os false (putV t o.dst .any) (hh.set b c') K
      | _ => match allocV P o with
        | some b => match decide (hh.length = h0.length) with
          | true => vpre2 P ops W h0 (k + 1) os cl (putV t o.dst (.ptr h0.length 0)) (hh ++ [b]) K
          | false => False
        | none => match cl && early ops k with
          | true => vopP P h0 (VSt.get ⟨t, h0⟩) o fun x => vpre2 P ops W h0 (k + 1) os cl (putV t o.dst x) hh K
          | false => vopP P (hideB h0 W) (VSt.get ⟨t, h0⟩) o fun x => vpre2 P ops W h0 (k + 1) os cl (putV t o.dst x) hh K
    let pass : List V → Prop := fun t => vpre2 P ops W h0 (k + 1) os cl (putV t o.dst (.tup [])) hh K
    match o.guard with
    | none => exec t
    | some (j, want) => match (ops[j]?).bind (·.dst) with
      | some q => match t[q]? with
        | some (.d (.bool c)) => match want with
          | true => cond c (exec (t.set q (.d (.bool true)))) (pass (t.set q (.d (.bool false))))
          | false => cond c (pass (t.set q (.d (.bool true)))) (exec (t.set q (.d (.bool false))))
        | some (.tup []) => pass t
        | _ => False
      | none => False

theorem vpre2_lex : ∀ {os : List Oper} {k : Nat} {cl : Bool} {t : List V} {hh : List Box} {K : List V → List Box → Prop}, PreW W h0 hh → (cl = true → Pre h0 hh) → vpre2 P ops W h0 k os cl t hh K → vLex2 P ops W h0 K k os t hh
  | [], _, _, _, _, _, _, _, hk => hk
  | o :: os, k, cl, t, hh, K, hpw, hpc, hk => by
    have exec : wantV ops o t = some true → (match o.op with
      | .store ty y z => vst P (hideB h0 W) W h0.length hh ty (VSt.get ⟨t, h0⟩ y) (VSt.get ⟨t, h0⟩ z) fun b c' => vpre2 P ops W h0 (k + 1) os false (putV t o.dst .any) (hh.set b c') K
      | _ => match (generalizing := false) allocV P o with
        | some b => match decide (hh.length = h0.length) with
          | true => vpre2 P ops W h0 (k + 1) os cl (putV t o.dst (.ptr h0.length 0)) (hh ++ [b]) K
          | false => False
        | none => match (generalizing := false) cl && early ops k with
          | true => vopP P h0 (VSt.get ⟨t, h0⟩) o fun x => vpre2 P ops W h0 (k + 1) os cl (putV t o.dst x) hh K
          | false => vopP P (hideB h0 W) (VSt.get ⟨t, h0⟩) o fun x => vpre2 P ops W h0 (k + 1) os cl (putV t o.dst x) hh K) → vLex2 P ops W h0 K k (o :: os) t hh := by
      intro hw hk
      split at hk
      · rename_i ty y z hop
        have e1 : restr o (VSt.get ⟨t, h0⟩) y = VSt.get ⟨t, h0⟩ y := restr_at (fun f => rfl) (by rw [hop]; simp [Op.operands])
        have e2 : restr o (VSt.get ⟨t, h0⟩) z = VSt.get ⟨t, h0⟩ z := restr_at (fun f => rfl) (by rw [hop]; simp [Op.operands])
        rw [← e1, ← e2] at hk
        obtain ⟨b, c, c', hb, hbW, hbn, hg, hk⟩ := vst_sound hop hk
        refine ⟨.any, _, ⟨.st b c c', ⟨hw, by simp [isSt, hop], hg⟩, ⟨hb, hpw, hbW, hbn⟩, rfl⟩, vpre2_lex ((preW_set hbW c').2 hpw) (fun h => by cases h) hk⟩
      · split at hk
        · rename_i b hal
          split at hk
          · rename_i hl
            have hl := of_decide_eq_true hl
            exact ⟨_, _, ⟨.alloc b, ⟨hw, rfl, hal⟩, hl, rfl⟩, vpre2_lex ((preW_app hl b).2 hpw) (fun hc => (pre_app hl b).2 (hpc hc)) hk⟩
          · exact hk.elim
        · split at hk
          · rename_i hce
            simp only [Bool.and_eq_true] at hce
            have hk2 := vopP_congr (ρ2 := restr o (VSt.get ⟨t, h0⟩)) (fun y hy => (restr_at (fun f => rfl) hy).symm) hk
            obtain ⟨x, h1, h2⟩ := vopP_sound hk2 (fun f => rfl)
            exact ⟨x, hh, ⟨.early, ⟨hw, hce.2, h1⟩, hpc hce.1, rfl⟩, vpre2_lex hpw hpc h2⟩
          · have hk2 := vopP_congr (ρ2 := restr o (VSt.get ⟨t, h0⟩)) (fun y hy => (restr_at (fun f => rfl) hy).symm) hk
            obtain ⟨x, h1, h2⟩ := vopP_sound hk2 (fun f => rfl)
            exact ⟨x, hh, ⟨.late, ⟨hw, fun h2 hp => h1 h2 hp.pre⟩, hpw, rfl⟩, vpre2_lex hpw hpc h2⟩
    have pass : wantV ops o t = some false → vpre2 P ops W h0 (k + 1) os cl (putV t o.dst (.tup [])) hh K → vLex2 P ops W h0 K k (o :: os) t hh := fun hw hk =>
      ⟨.tup [], hh, ⟨.no, ⟨hw, rfl⟩, trivial, rfl⟩, vpre2_lex hpw hpc hk⟩
    unfold vpre2 at hk
    simp only at hk
    split at hk
    · rename_i hg
      exact exec (by simp [wantV, hg]) hk
    · rename_i j want hg
      split at hk
      · rename_i q hjk
        split at hk
        · rename_i c hc
          have hw : wantV ops o t = some (c == want) := by simp [wantV, hg, hjk, hc]
          split at hk <;> cases c
          · have hk' : vpre2 P ops W h0 (k + 1) os cl (putV (t.set q (.d (.bool false))) o.dst (.tup [])) hh K := hk
            rw [set_self hc] at hk'; exact pass (by rw [hw]; rfl) hk'
          · simp only [cond_true, set_self hc] at hk
            exact exec (by rw [hw]; rfl) hk
          · simp only [cond_false, set_self hc] at hk
            exact exec (by rw [hw]; rfl) hk
          · have hk' : vpre2 P ops W h0 (k + 1) os cl (putV (t.set q (.d (.bool true))) o.dst (.tup [])) hh K := hk
            rw [set_self hc] at hk'; exact pass (by rw [hw]; rfl) hk'
        · rename_i hc
          exact pass (by simp [wantV, hg, hjk, hc]) hk
        · exact hk.elim
      · exact hk.elim

def drawOK2 (ops : Array Oper) : Bool := stOK ops && lexOK2 ops ops.size 0 (Array.replicate ops.size false)
def vdrawX (P : Program) (T : FuncId → Bool) (n0 : Nat) (M0 : List Nat) (ops : Array Oper) (s : VSt) (K : VSt → Prop) : Prop := match drawOK ops with
  | true => vdraw P T n0 M0 ops s K
  | false => match drawOK2 ops with
    | true => vpre2 P ops (ops.toList.flatMap (stBox P ops s)) s.h 0 ops.toList true s.t s.h fun t hh => K ⟨t, hh⟩
    | false => False

theorem vdrawX_sound {T : FuncId → Bool} {E : Ent} {id : Nat} {Q : Exit → Act → World → Prop} {s : VSt} {K : VSt → Prop} {a : Act} {w : World} (hm : P.follows .mixedOrders = true) (hk : vdrawX P T E.g.n E.M ops s K) (hs : SimE E s a w)
    (hq : ∀ s' a' w', K s' → SimE E s' a' w' → Q .normal a' w') : (Code.region id ops true).wp P Q a w := by
  unfold vdrawX at hk
  split at hk
  · exact vdraw_sound hm hk hs hq
  · split at hk
    · rename_i hB
      simp only [drawOK2, Bool.and_eq_true] at hB
      have hlex := vpre2_lex (fun b x _ h => h) (fun _ => Pre.refl s.h) hk
      have hany := vAny2_lex hB.1 ops.toList 0 (Array.replicate ops.size false) s.t s.h (fun j => by simp) (by simpa using hB.2) hlex
      refine wp_region_any hm ?_
      have := vAny2_sound (Q := Q) (E := E) (fun t hh a w hk hs => hq ⟨t, hh⟩ a w hk hs) ops.toList.length _ s.t s.h a w.drew hany hs.drew
      simpa using this
    · exact hk.elim
end
end Go.Vm
end

section
namespace Go.Vm

/-! ### what code does, as a tree: what is known and what is asked -/
inductive Tree : Type → Type 1 where
  | ret {α : Type} (a : α) : Tree α
  | fail {α : Type} : Tree α
  | ite {α : Type} (c : Bool) (x y : Tree α) : Tree α
  | cI {α : Type} (v : Option D) (k : IntKind) (K : Int → Tree α) : Tree α
  | cB {α : Type} (v : Option D) (K : Bool → Tree α) : Tree α
  | cS {α : Type} (v : Option D) (K : ByteArray → Tree α) : Tree α
  | cL {α : Type} (v : Option D) (sz : Nat) (K : List (List D) → Tree α) : Tree α
  | call {α : Type} (f : FuncId) (args : List V) (K : List D → Tree α) : Tree α
  | mint {α : Type} (f : FuncId) (args : List V) (e : TypeId) (sz : Nat) (K : List (List D) → Tree α) : Tree α
  | loop {α : Type} (body : List D → Tree (List D ⊕ α)) (ds : List D) : Tree α
  | cut {α : Type} (x : Tree (List D ⊕ α)) (K : List D → Tree α) : Tree α

def Tree.map : {α : Type} → Tree α → {β : Type} → (α → β) → Tree β
  | _, .ret a, _, f => .ret (f a)
  | _, .fail, _, _ => .fail
  | _, .ite c x y, _, f => .ite c (x.map f) (y.map f)
  | _, .cI v k K, _, f => .cI v k fun n => (K n).map f
  | _, .cB v K, _, f => .cB v fun n => (K n).map f
  | _, .cS v K, _, f => .cS v fun n => (K n).map f
  | _, .cL v sz K, _, f => .cL v sz fun n => (K n).map f
  | _, .call g args K, _, f => .call g args fun n => (K n).map f
  | _, .mint g args e sz K, _, f => .mint g args e sz fun n => (K n).map f
  | _, .loop body ds, _, f => .loop (fun ds => (body ds).map fun s => match s with
    | .inl d => .inl d
    | .inr a => .inr (f a)) ds
  | _, .cut x K, _, f => .cut (x.map fun s => match s with
    | .inl d => .inl d
    | .inr a => .inr (f a)) fun ds => (K ds).map f

def Tree.bind : {α : Type} → Tree α → {β : Type} → (α → Tree β) → Tree β
  | _, .ret a, _, f => f a
  | _, .fail, _, _ => .fail
  | _, .ite c x y, _, f => .ite c (x.bind f) (y.bind f)
  | _, .cI v k K, _, f => .cI v k fun n => (K n).bind f
  | _, .cB v K, _, f => .cB v fun n => (K n).bind f
  | _, .cS v K, _, f => .cS v fun n => (K n).bind f
  | _, .cL v sz K, _, f => .cL v sz fun n => (K n).bind f
  | _, .call g args K, _, f => .call g args fun n => (K n).bind f
  | _, .mint g args e sz K, _, f => .mint g args e sz fun n => (K n).bind f
  | _, .loop body ds, _, f => .loop (fun ds => (body ds).bind fun s => match s with
    | .inl d => .ret (.inl d)
    | .inr a => (f a).map .inr) ds
  | _, .cut x K, _, f => .cut (x.bind fun s => match s with
    | .inl d => .ret (.inl d)
    | .inr a => (f a).map .inr) fun ds => (K ds).bind f

def chk {α : Type} (c : Bool) (x : Tree α) : Tree α := .ite c x .fail

/-- What a function of plain data answers. -/
inductive PRes where
  | val (ds : List D)
  | own (e : TypeId) (sz : Nat) (rows : List (List D))
def PRes.leaves : PRes → List D
  | .val ds => ds
  | .own _ sz rows => [.sl sz rows]

structure Env where
  call : FuncId → List V → Option PRes
  lp : {α : Type} → (List D → Option (List D ⊕ α)) → List D → Option α

def opI (v : Option D) (k : IntKind) : Option Int := match v with
  | some (.int k' n) => match decide (k' = k) with
    | true => some n
    | false => none
  | _ => none
def opB (v : Option D) : Option Bool := match v with
  | some (.bool b) => some b
  | _ => none
def opS (v : Option D) : Option ByteArray := match v with
  | some (.str b) => some b
  | _ => none
def opL (v : Option D) (sz : Nat) : Option (List (List D)) := match v with
  | some (.sl sz' rows) => match decide (sz' = sz) with
    | true => some rows
    | false => none
  | _ => none
def opM (p : Option PRes) (e : TypeId) (sz : Nat) : Option (List (List D)) := match p with
  | some (.own e' sz' rows) => match decide (e' = e ∧ sz' = sz) with
    | true => some rows
    | false => none
  | _ => none

def Tree.run (E : Env) : {α : Type} → Tree α → Option α
  | _, .ret a => some a
  | _, .fail => none
  | _, .ite c x y => match c with
    | true => x.run E
    | false => y.run E
  | _, .cI v k K => (opI v k).bind fun n => (K n).run E
  | _, .cB v K => (opB v).bind fun n => (K n).run E
  | _, .cS v K => (opS v).bind fun n => (K n).run E
  | _, .cL v sz K => (opL v sz).bind fun n => (K n).run E
  | _, .call f args K => (E.call f args).bind fun p => (K p.leaves).run E
  | _, .mint f args e sz K => (opM (E.call f args) e sz).bind fun rows => (K rows).run E
  | _, .loop body ds => E.lp (fun ds => (body ds).run E) ds
  | _, .cut x K => (x.run E).bind fun s => match s with
    | .inl ds => (K ds).run E
    | .inr a => some a

theorem opI_some {v : Option D} {k : IntKind} {n : Int} (h : opI v k = some n) : v = some (.int k n) := by
  unfold opI at h
  split at h
  · split at h
    · rename_i hd; have := of_decide_eq_true hd; subst this; cases h; rfl
    · cases h
  · cases h
theorem opB_some {v : Option D} {n : Bool} (h : opB v = some n) : v = some (.bool n) := by
  unfold opB at h
  split at h <;> cases h; rfl
theorem opS_some {v : Option D} {n : ByteArray} (h : opS v = some n) : v = some (.str n) := by
  unfold opS at h
  split at h <;> cases h; rfl
theorem opL_some {v : Option D} {sz : Nat} {n : List (List D)} (h : opL v sz = some n) : v = some (.sl sz n) := by
  unfold opL at h
  split at h
  · split at h
    · rename_i hd; have := of_decide_eq_true hd; subst this; cases h; rfl
    · cases h
  · cases h
theorem opM_some {p : Option PRes} {e : TypeId} {sz : Nat} {rows : List (List D)} (h : opM p e sz = some rows) : p = some (.own e sz rows) := by
  unfold opM at h
  split at h
  · split at h
    · rename_i hd; obtain ⟨rfl, rfl⟩ := of_decide_eq_true hd; cases h; rfl
    · cases h
  · cases h

/-- A loop's combinator that goes through what is done with its answer. -/
def Env.Ok (E : Env) : Prop := ∀ {α β : Type} (b : List D → Option (List D ⊕ α)) (f : α → Option β) (ds : List D),
  E.lp (fun ds => (b ds).bind fun s => match s with
    | .inl d => some (.inl d)
    | .inr a => (f a).map .inr) ds = (E.lp b ds).bind f

theorem run_map {E : Env} (hE : E.Ok) : ∀ {α : Type} (t : Tree α) {β : Type} (f : α → β), (t.map f).run E = (t.run E).map f := by
  intro α t
  induction t with
  | ret a => intro β f; rfl
  | fail => intro β f; rfl
  | ite c x y ihx ihy => intro β f; cases c <;> simp only [Tree.map, Tree.run, ihx, ihy]
  | cI v k K ih => intro β f; simp only [Tree.map, Tree.run]; cases opI v k <;> simp [ih]
  | cB v K ih => intro β f; simp only [Tree.map, Tree.run]; cases opB v <;> simp [ih]
  | cS v K ih => intro β f; simp only [Tree.map, Tree.run]; cases opS v <;> simp [ih]
  | cL v sz K ih => intro β f; simp only [Tree.map, Tree.run]; cases opL v sz <;> simp [ih]
  | call g args K ih => intro β f; simp only [Tree.map, Tree.run]; cases E.call g args <;> simp [ih]
  | mint g args e sz K ih => intro β f; simp only [Tree.map, Tree.run]; cases opM (E.call g args) e sz <;> simp [ih]
  | loop body ds ih =>
    intro β f
    simp only [Tree.map, Tree.run, ih]
    rw [Option.map_eq_bind, ← hE]
    congr 1
    funext ds
    cases (body ds).run E with
    | none => rfl
    | some s => cases s <;> rfl
  | cut x K ihx ihK =>
    intro β f
    simp only [Tree.map, Tree.run, ihx, ihK]
    cases x.run E with
    | none => rfl
    | some s => cases s <;> rfl

theorem run_bind {E : Env} (hE : E.Ok) : ∀ {α : Type} (t : Tree α) {β : Type} (f : α → Tree β), (t.bind f).run E = (t.run E).bind fun a => (f a).run E := by
  intro α t
  induction t with
  | ret a => intro β f; rfl
  | fail => intro β f; rfl
  | ite c x y ihx ihy => intro β f; cases c <;> simp only [Tree.bind, Tree.run, ihx, ihy]
  | cI v k K ih => intro β f; simp only [Tree.bind, Tree.run]; cases opI v k <;> simp [ih]
  | cB v K ih => intro β f; simp only [Tree.bind, Tree.run]; cases opB v <;> simp [ih]
  | cS v K ih => intro β f; simp only [Tree.bind, Tree.run]; cases opS v <;> simp [ih]
  | cL v sz K ih => intro β f; simp only [Tree.bind, Tree.run]; cases opL v sz <;> simp [ih]
  | call g args K ih => intro β f; simp only [Tree.bind, Tree.run]; cases E.call g args <;> simp [ih]
  | mint g args e sz K ih => intro β f; simp only [Tree.bind, Tree.run]; cases opM (E.call g args) e sz <;> simp [ih]
  | loop body ds ih =>
    intro β f
    simp only [Tree.bind, Tree.run, ih]
    rw [← hE]
    congr 1
    funext ds
    cases (body ds).run E with
    | none => rfl
    | some s => cases s with
      | inl d => rfl
      | inr a => simp only [Option.bind_some, run_map hE]
  | cut x K ihx ihK =>
    intro β f
    simp only [Tree.bind, Tree.run, ihx, ihK]
    cases x.run E with
    | none => rfl
    | some s => cases s with
      | inl d => rfl
      | inr a => simp only [Option.bind_some, run_map hE]; cases (f a).run E <;> rfl

theorem run_bind_some {E : Env} (hE : E.Ok) {α β : Type} {t : Tree α} {f : α → Tree β} {b : β} (h : (t.bind f).run E = some b) : ∃ a, t.run E = some a ∧ (f a).run E = some b := by
  rw [run_bind hE] at h
  cases ht : t.run E with
  | none => rw [ht] at h; cases h
  | some a => rw [ht] at h; exact ⟨a, rfl, h⟩
theorem chk_some {E : Env} {α : Type} {c : Bool} {x : Tree α} {a : α} (h : (chk c x).run E = some a) : c = true ∧ x.run E = some a := by
  cases c with
  | true => exact ⟨rfl, h⟩
  | false => cases h

/-! ### loops with fuel -/
def iterN {α : Type} : Nat → (List D → Option (List D ⊕ α)) → List D → Option α
  | 0, _, _ => none
  | n + 1, b, ds => match b ds with
    | some (.inl d) => iterN n b d
    | some (.inr a) => some a
    | none => none

theorem iterN_bind {α β : Type} (f : α → Option β) (b : List D → Option (List D ⊕ α)) : ∀ (n : Nat) (ds : List D), iterN n (fun ds => (b ds).bind fun s => match s with
    | .inl d => some (.inl d)
    | .inr a => (f a).map .inr) ds = (iterN n b ds).bind f
  | 0, ds => rfl
  | n + 1, ds => by
    simp only [iterN]
    cases b ds with
    | none => rfl
    | some s => cases s with
      | inl d => exact iterN_bind f b n d
      | inr a => simp only [Option.bind_some]; cases f a <;> rfl

def envN (n : Nat) (c : FuncId → List V → Option PRes) : Env := ⟨c, fun b ds => iterN n b ds⟩
theorem envN_ok (n : Nat) (c : FuncId → List V → Option PRes) : (envN n c).Ok := fun b f ds => iterN_bind f b n ds

theorem iterN_mono {α : Type} {b : List D → Option (List D ⊕ α)} {a : α} : ∀ {n : Nat} {ds : List D}, iterN n b ds = some a → ∀ {m : Nat}, n ≤ m → iterN m b ds = some a
  | 0, _, h, _, _ => by cases h
  | n + 1, ds, h, m, hm => by
    obtain ⟨m, rfl⟩ : ∃ k, m = k + 1 := ⟨m - 1, by omega⟩
    simp only [iterN] at h ⊢
    cases hb : b ds with
    | none => rw [hb] at h; cases h
    | some s => rw [hb] at h; cases s with
      | inl d => exact iterN_mono h (by omega)
      | inr a' => exact h

/-! ### loops without fuel -/
open Classical in
noncomputable def loopF {α : Type} (b : List D → Option (List D ⊕ α)) (ds : List D) : Option α :=
  if h : ∃ a n, iterN n b ds = some a then some (Classical.choose h) else none
theorem loopF_some {α : Type} {b : List D → Option (List D ⊕ α)} {ds : List D} {a : α} : loopF b ds = some a ↔ ∃ n, iterN n b ds = some a := by
  unfold loopF
  constructor
  · intro h
    split at h
    · rename_i hx
      cases h
      exact Classical.choose_spec hx
    · cases h
  · rintro ⟨n, h⟩
    have hx : ∃ a n, iterN n b ds = some a := ⟨a, n, h⟩
    rw [dif_pos hx]
    obtain ⟨m, hm⟩ := Classical.choose_spec hx
    have h1 := iterN_mono h (Nat.le_max_left n m)
    have h2 := iterN_mono hm (Nat.le_max_right n m)
    rw [h1] at h2
    exact h2.symm
theorem loopF_eq {α : Type} (b : List D → Option (List D ⊕ α)) (ds : List D) : loopF b ds = match b ds with
    | some (.inl d) => loopF b d
    | some (.inr a) => some a
    | none => none := by
  apply Option.ext
  intro a
  rw [loopF_some]
  constructor
  · rintro ⟨n, h⟩
    cases n with
    | zero => cases h
    | succ n =>
      simp only [iterN] at h
      cases hb : b ds with
      | none => rw [hb] at h; cases h
      | some s => rw [hb] at h; cases s with
        | inl d => exact loopF_some.2 ⟨n, h⟩
        | inr a' => exact h
  · intro h
    cases hb : b ds with
    | none => rw [hb] at h; cases h
    | some s => rw [hb] at h; cases s with
      | inl d =>
        obtain ⟨n, hn⟩ := loopF_some.1 h
        exact ⟨n + 1, by simp only [iterN, hb]; exact hn⟩
      | inr a' => exact ⟨1, by simp only [iterN, hb]; exact h⟩
/-- The law of loops. -/
theorem loopF_inv {α : Type} {b : List D → Option (List D ⊕ α)} {r : α} (I : List D → Prop) (μ : List D → Nat)
    (h : ∀ ds, I ds → (∃ d, b ds = some (.inl d) ∧ I d ∧ μ d < μ ds) ∨ b ds = some (.inr r)) {ds : List D} (h0 : I ds) : loopF b ds = some r := by
  suffices ∀ n ds, μ ds < n → I ds → loopF b ds = some r from this _ ds (Nat.lt_succ_self _) h0
  intro n
  induction n with
  | zero => intro ds h; omega
  | succ n ih =>
    intro ds hlt hi
    rw [loopF_eq]
    rcases h ds hi with ⟨d, h1, h2, h3⟩ | h1
    · rw [h1]; exact ih d (by omega) h2
    · rw [h1]
/-- The same, of a state of one's own. -/
theorem loopF_at {σ α : Type} {b : List D → Option (List D ⊕ α)} {r : α} (mk : σ → List D) (I : σ → Prop) (μ : σ → Nat)
    (h : ∀ x, I x → (∃ y, b (mk x) = some (.inl (mk y)) ∧ I y ∧ μ y < μ x) ∨ b (mk x) = some (.inr r)) (x : σ) (h0 : I x) : loopF b (mk x) = some r := by
  suffices ∀ n x, μ x < n → I x → loopF b (mk x) = some r from this _ x (Nat.lt_succ_self _) h0
  intro n
  induction n with
  | zero => intro x h; omega
  | succ n ih =>
    intro x hlt hi
    rw [loopF_eq]
    rcases h x hi with ⟨d, h1, h2, h3⟩ | h1
    · rw [h1]; exact ih d (by omega) h2
    · rw [h1]

/-- What it comes to, in the end. -/
def Evl {α : Type} (f : Nat → Nat → Option α) (a : α) : Prop := ∃ N, ∀ n m, N ≤ n → N ≤ m → f n m = some a
noncomputable def envF (c : FuncId → List V → Option PRes) : Env := ⟨c, fun b ds => loopF b ds⟩

theorem envF_ok' {α β : Type} (b : List D → Option (List D ⊕ α)) (f : α → Option β) (ds : List D) : loopF (fun ds => (b ds).bind fun s => match s with
    | .inl d => some (.inl d)
    | .inr a => (f a).map .inr) ds = (loopF b ds).bind f := by
  apply Option.ext
  intro r
  rw [loopF_some]
  constructor
  · rintro ⟨n, h⟩
    rw [iterN_bind] at h
    cases hb : iterN n b ds with
    | none => rw [hb] at h; cases h
    | some a => rw [hb] at h; rw [loopF_some.2 ⟨n, hb⟩]; exact h
  · intro h
    cases hb : loopF b ds with
    | none => rw [hb] at h; cases h
    | some a =>
      rw [hb] at h
      obtain ⟨n, hn⟩ := loopF_some.1 hb
      exact ⟨n, by rw [iterN_bind, hn]; exact h⟩
theorem envF_ok (c : FuncId → List V → Option PRes) : (envF c).Ok := fun b f ds => envF_ok' b f ds

/-- What the tree comes to without fuel it comes to with fuel enough. -/
theorem run_evl {cF : FuncId → List V → Option PRes} {cN : Nat → FuncId → List V → Option PRes} (hc : ∀ f args p, cF f args = some p → ∃ N, ∀ n, N ≤ n → cN n f args = some p) :
    ∀ {α : Type} (t : Tree α) (a : α), t.run (envF cF) = some a → Evl (fun n m => t.run (envN m (cN n))) a := by
  intro α t
  induction t with
  | ret a => intro b h; exact ⟨0, fun _ _ _ _ => h⟩
  | fail => intro b h; cases h
  | ite c x y ihx ihy =>
    intro b h
    cases c with
    | true => exact ihx b h
    | false => exact ihy b h
  | cI v k K ih =>
    intro b h
    simp only [Tree.run] at h ⊢
    obtain ⟨n, h1, h2⟩ := Option.bind_eq_some_iff.1 h
    simp only [h1, Option.bind_some]; exact ih n b h2
  | cB v K ih =>
    intro b h
    simp only [Tree.run] at h ⊢
    obtain ⟨n, h1, h2⟩ := Option.bind_eq_some_iff.1 h
    simp only [h1, Option.bind_some]; exact ih n b h2
  | cS v K ih =>
    intro b h
    simp only [Tree.run] at h ⊢
    obtain ⟨n, h1, h2⟩ := Option.bind_eq_some_iff.1 h
    simp only [h1, Option.bind_some]; exact ih n b h2
  | cL v sz K ih =>
    intro b h
    simp only [Tree.run] at h ⊢
    obtain ⟨n, h1, h2⟩ := Option.bind_eq_some_iff.1 h
    simp only [h1, Option.bind_some]; exact ih n b h2
  | call g args K ih =>
    intro b h
    simp only [Tree.run] at h
    obtain ⟨p, hp, h2⟩ := Option.bind_eq_some_iff.1 h
    obtain ⟨N1, h1⟩ := hc _ _ _ hp
    obtain ⟨N2, h2⟩ := ih _ b h2
    refine ⟨max N1 N2, fun n m hn hm => ?_⟩
    simp only [Tree.run]
    rw [show (envN m (cN n)).call g args = some p from h1 n (by omega)]
    exact h2 n m (by omega) (by omega)
  | mint g args e sz K ih =>
    intro b h
    simp only [Tree.run] at h
    obtain ⟨rows, hp, h2⟩ := Option.bind_eq_some_iff.1 h
    obtain ⟨N1, h1⟩ := hc _ _ _ (opM_some hp)
    obtain ⟨N2, h2⟩ := ih _ b h2
    refine ⟨max N1 N2, fun n m hn hm => ?_⟩
    simp only [Tree.run]
    rw [show (envN m (cN n)).call g args = some (.own e sz rows) from h1 n (by omega)]
    rw [opM_some hp] at hp
    rw [hp]
    exact h2 n m (by omega) (by omega)
  | loop body ds ih =>
    intro b h
    have h : loopF (fun ds => (body ds).run (envF cF)) ds = some b := h
    obtain ⟨k, hk⟩ := loopF_some.1 h
    clear h
    suffices ∀ k ds, iterN k (fun ds => (body ds).run (envF cF)) ds = some b → ∃ N, ∀ n m q, N ≤ n → N ≤ m → N ≤ q → iterN q (fun ds => (body ds).run (envN m (cN n))) ds = some b by
      obtain ⟨N, hN⟩ := this k ds hk
      exact ⟨N, fun n m hn hm => hN n m m hn hm hm⟩
    intro k
    induction k with
    | zero => intro ds hk; cases hk
    | succ k ihk =>
      intro ds hk
      simp only [iterN] at hk
      cases hb : (body ds).run (envF cF) with
      | none => rw [hb] at hk; cases hk
      | some s =>
        rw [hb] at hk
        obtain ⟨N1, h1⟩ := ih ds s hb
        cases s with
        | inl d =>
          obtain ⟨N2, h2⟩ := ihk d hk
          refine ⟨max N1 N2 + 1, fun n m q hn hm hq => ?_⟩
          obtain ⟨q, rfl⟩ : ∃ k, q = k + 1 := ⟨q - 1, by omega⟩
          simp only [iterN, h1 n m (by omega) (by omega)]
          exact h2 n m q (by omega) (by omega) (by omega)
        | inr a =>
          refine ⟨N1 + 1, fun n m q hn hm hq => ?_⟩
          obtain ⟨q, rfl⟩ : ∃ k, q = k + 1 := ⟨q - 1, by omega⟩
          simp only [iterN, h1 n m (by omega) (by omega)]
          exact hk
  | cut x K ihx ihK =>
    intro b h
    simp only [Tree.run] at h
    cases hx : x.run (envF cF) with
    | none => rw [hx] at h; cases h
    | some s =>
      rw [hx] at h
      obtain ⟨N1, h1⟩ := ihx s hx
      cases s with
      | inl d =>
        obtain ⟨N2, h2⟩ := ihK d b h
        refine ⟨max N1 N2, fun n m hn hm => ?_⟩
        simp only [Tree.run, h1 n m (by omega) (by omega), Option.bind_some]
        exact h2 n m (by omega) (by omega)
      | inr a =>
        refine ⟨N1, fun n m hn hm => ?_⟩
        simp only [Tree.run, h1 n m (by omega) (by omega), Option.bind_some]
        exact h
end Go.Vm
end

section
namespace Go.Vm

/-! ### what is not computed while code is gone through -/
structure Sy where
  wrap : IntKind → Int → Int
  add : Int → Int → Int
  sub : Int → Int → Int
  mul : Int → Int → Int
  ieq : Int → Int → Bool
  ilt : Int → Int → Bool
  ile : Int → Int → Bool
  seq : ByteArray → ByteArray → Bool
  slt : ByteArray → ByteArray → Bool
  beq : Bool → Bool → Bool
  bor : Bool → Bool → Bool
  bnot : Bool → Bool
  imax : Int → Int → Int
  imin : Int → Int → Int
  rlen : List (List D) → Int
  slen : ByteArray → Int
  sapp : ByteArray → ByteArray → ByteArray
  sfit : ByteArray → ByteArray → Bool
  inr : Int → Int → Bool
  row : List (List D) → Int → List D
  nat : Int → Nat
  rown : List (List D) → Nat → List D
  cell : List D → Nat → Option D
  skip : Nat → List D → List D
  inrn : Nat → List (List D) → Bool
  rput : List (List D) → Nat → Nat → List D → List (List D)
  rapp : List (List D) → List (List D) → List (List D)
  fits : List (List D) → List (List D) → Nat → Bool
  cutok : Int → Int → Int → Bool
  cut : List (List D) → Int → Int → List (List D)
  scut : ByteArray → Int → Int → ByteArray
  sbyte : ByteArray → Int → Int
  mkok : Int → Int → Nat → Bool
  mkok0 : Int → Nat → Bool
  mkz : Int → Nat → Bool
  rep : Int → List D → List (List D)
  mval : D → D → List (List D) → D
  mhas : D → List (List D) → Bool
  mput : D → D → List (List D) → List (List D)
  mdel : D → List (List D) → List (List D)
  head : List (List D) → Int → List (List D)
  deq : List D → List D → Bool

def sy : Sy where
  wrap k n := k.wrap n
  add a b := a + b
  sub a b := a - b
  mul a b := a * b
  ieq a b := decide (a = b)
  ilt a b := decide (a < b)
  ile a b := decide (a ≤ b)
  seq a b := a.toList == b.toList
  slt a b := Op.bytesLess a.toList b.toList
  beq a b := a == b
  bor a b := a || b
  bnot a := !a
  imax a b := max a b
  imin a b := min a b
  rlen r := r.length
  slen s := s.size
  sapp a b := a ++ b
  sfit s u := decide (s.size + u.size ≤ 9223372036854775807)
  inr i n := decide (0 ≤ i ∧ i < n)
  row rows i := rows.getD i.toNat []
  nat i := i.toNat
  rown rows i := rows.getD i []
  cell cs j := cs[j]?
  skip k cs := cs.drop k
  inrn i rows := decide (i < rows.length)
  rput rows i off ds := rows.set i ((rows.getD i []).take off ++ ds ++ (rows.getD i []).drop (off + ds.length))
  rapp a b := a ++ b
  fits a b k := decide ((a.length + b.length) * (k + 1) ≤ 140737488355328)
  cutok l r n := decide (0 ≤ l ∧ l ≤ r ∧ r ≤ n)
  cut rows l r := (rows.take r.toNat).drop l.toNat
  scut s l r := s.extract l.toNat r.toNat
  sbyte s i := ((s.data.getD i.toNat 0).toNat : Int)
  mkok n m k := decide (n = m ∧ 0 ≤ n ∧ n * (k + 1) ≤ 140737488355328)
  mkok0 m k := decide (0 ≤ m ∧ m * (k + 1) ≤ 140737488355328)
  mkz n k := decide (0 < n ∧ n * (k + 1) ≤ 140737488355328)
  rep n ds := List.replicate n.toNat ds
  mval z k rows := mval z k rows
  mhas k rows := mhas k rows
  mput k x rows := mput k x rows
  mdel k rows := mdel k rows
  head rows r := rows.take r.toNat
  deq xs ys := eqDs xs ys

section
variable (A : Sy) (P : Program)

def openT (s : Sh) (v : Option D) : Tree D := match s with
  | .int k => .cI v k fun n => .ret (.int k n)
  | .bool => .cB v fun b => .ret (.bool b)
  | .str => .cS v fun t => .ret (.str t)
  | .sl sz => .cL v sz fun r => .ret (.sl sz r)
def openRT : List Sh → List D → Nat → Tree (List D)
  | [], _, _ => .ret []
  | s :: ss, cs, j => (openT s (A.cell cs j)).bind fun x => (openRT ss cs (j + 1)).bind fun xs => .ret (x :: xs)

def loadT (h : List Box) (t : TypeId) (v : V) : Tree V :=
  match shOf P 9 t, szO P t, (P.underlying t).isSome, aggB P t with
  | sh, some n, true, ag => match v with
    | .ptr b off => match h[b]? with
      | some (.cells _ vs) => match ag with
        | true => match decide (off + n ≤ vs.length) with
          | true => .ret (.agg ((vs.drop off).take n))
          | false => .fail
        | false => match vs[off]? with
          | some v => .ret v
          | none => .fail
      | _ => .fail
    | .pel cs => match sh, ag with
      | some ss, true => match decide (ss.length = n) with
        | true => (openRT A ss cs 0).bind fun xs => .ret (.agg (xs.map .d))
        | false => .fail
      | some [s], false => (openT s (A.cell cs 0)).bind fun x => .ret (.d x)
      | _, _ => .fail
    | .pml b sz i off => match h[b]? with
      | some (.arr _ sz' rows) => match decide (sz' = sz), sh, ag with
        | true, some ss, true => match decide (ss.length = n) with
          | true => chk (A.inrn i rows) ((openRT A ss (A.rown rows i) off).bind fun xs => .ret (.agg (xs.map .d)))
          | false => .fail
        | true, some [s], false => (openT s (A.cell (A.rown rows i) off)).bind fun x => .ret (.d x)
        | _, _, _ => .fail
      | _ => .fail
    | _ => .fail
  | _, _, _, _ => .fail

def indexT (h : List Box) (t : TypeId) (v i : V) : Tree V :=
  match elO P t, i with
  | some (_, sz), .d (.int _ i) => match v with
    | .d (.sl sz' rows) => match decide (sz' = sz) with
      | true => chk (A.inr i (A.rlen rows)) (.ret (.pel (A.row rows i)))
      | false => .fail
    | .own b => match h[b]? with
      | some (.arr _ sz' rows) => match decide (sz' = sz) with
        | true => chk (A.inr i (A.rlen rows)) (.ret (.pml b sz (A.nat i) 0))
        | false => .fail
      | _ => .fail
    | _ => .fail
  | _, _ => .fail

def binIA (op : BinOp) (k : IntKind) (a b : Int) : Option D := match op with
  | .add => some (.int k (A.wrap k (A.add a b)))
  | .sub => some (.int k (A.wrap k (A.sub a b)))
  | .mul => some (.int k (A.wrap k (A.mul a b)))
  | .eql => some (.bool (A.ieq a b))
  | .neq => some (.bool (A.bnot (A.ieq a b)))
  | .lss => some (.bool (A.ilt a b))
  | .leq => some (.bool (A.ile a b))
  | .gtr => some (.bool (A.ilt b a))
  | .geq => some (.bool (A.ile b a))
  | _ => none
def binStrA (op : BinOp) (a b : ByteArray) : Option Bool := match op with
  | .eql => some (A.seq a b)
  | .neq => some (A.bnot (A.seq a b))
  | .lss => some (A.slt a b)
  | .leq => some (A.bor (A.slt a b) (A.seq a b))
  | .gtr => some (A.bnot (A.bor (A.slt a b) (A.seq a b)))
  | .geq => some (A.bnot (A.slt a b))
  | _ => none

def binT (op : BinOp) (t : TypeId) (a b : V) : Tree V :=
  match a, b with
  | .d (.int k n), .d (.int k' m) => match decide (k' = k), binIA A op k n m with
    | true, some d => .ret (.d d)
    | _, _ => .fail
  | .d (.str s), .d (.str u) => match op with
    | .add => chk (A.sfit s u) (.ret (.d (.str (A.sapp s u))))
    | _ => match binStrA A op s u with
      | some c => .ret (.d (.bool c))
      | none => .fail
  | .d (.bool c), .d (.bool d) => match P.underlying t, op with
    | some .bool, .eql => .ret (.d (.bool (A.beq c d)))
    | some .bool, .neq => .ret (.d (.bool (A.bnot (A.beq c d))))
    | _, _ => .fail
  | .agg xs, .agg ys => match allDs xs, allDs ys with
    | some cs, some ds => match shD cs, shD ds with
      | some ss, some ss' => match decide (ss' = ss), op, stokB P t ss with
        | true, .eql, true => .ret (.d (.bool (A.deq cs ds)))
        | true, .neq, true => .ret (.d (.bool (A.bnot (A.deq cs ds))))
        | _, _, _ => .fail
      | _, _ => .fail
    | _, _ => .fail
  | _, _ => .fail

def addFT (v : V) (k : Nat) : Option V := match v with
  | .ptr b off => some (.ptr b (off + k))
  | .pel cs => some (.pel (match k with
    | 0 => cs
    | k => A.skip k cs))
  | .pml b sz i off => some (.pml b sz i (off + k))
  | _ => none

def lenT (h : List Box) : V → Option Int
  | .nils => some 0
  | .d (.sl _ rows) => some (A.rlen rows)
  | .d (.str s) => some (A.slen s)
  | .own b => match h[b]? with
    | some (.arr _ _ rows) => some (A.rlen rows)
    | _ => none
  | _ => none
def vlenT (h : List Box) (t : TypeId) (v : V) : Tree V :=
  match v, P.underlying t, lenT A h v with
  | .d (.str _), some .string, some n => .ret (.d (.int .i64 n))
  | .d (.str _), _, _ => .fail
  | _, some (.slice _), some n => .ret (.d (.int .i64 n))
  | .map b, some (.map _ _), _ => match h[b]?, mapO P t with
    | some (.mp _ rows), some _ => .ret (.d (.int .i64 (A.rlen rows)))
    | _, _ => .fail
  | _, _, _ => .fail

def sliceT (t : TypeId) (v : V) (lo hi : Option V) : Tree V :=
  match v with
  | .d (.sl sz' rows) => match elO P t, bndV 0 lo, bndV (A.rlen rows) hi with
    | some (_, sz), some l, some r => match decide (sz' = sz) with
      | true => chk (A.cutok l r (A.rlen rows)) (.ret (.d (.sl sz (A.cut rows l r))))
      | false => .fail
    | _, _, _ => .fail
  | .d (.str s) => match P.underlying t, bndV 0 lo, bndV (A.slen s) hi with
    | some .string, some l, some r => chk (A.cutok l r (A.slen s)) (.ret (.d (.str (A.scut s l r))))
    | _, _, _ => .fail
  | .nils => match elO P t, bndV 0 lo, bndV 0 hi with
    | some _, some l, some r => chk (A.cutok l r 0) (.ret .nils)
    | _, _, _ => .fail
  | _ => .fail

def lookupT (h : List Box) (t : TypeId) (v q : V) (c : Bool) : Tree V :=
  match mapO P t, v, q with
  | some (e, kk), .map b, .d k => match h[b]?, zeroO P e, shOf P 9 e, kk.fitsB k with
    | some (.mp kk' rows), some z, some [s], true => match decide (kk' = kk), zeroOK [s] [z] with
      | true, true => (openT s (some (A.mval (zeroD s) k rows))).bind fun x => match c with
        | true => .ret (.tup [.d x, .d (.bool (A.mhas k rows))])
        | false => .ret (.d x)
      | _, _ => .fail
    | _, _, _, _ => .fail
  | _, _, _ => .fail

/-- Operations that leave the boxes as they are; no calls. -/
def opPT (h : List Box) (ρ : Operand → V) (o : Oper) : Tree V :=
  match o.op with
  | .move y => .ret (ρ y)
  | .assign y => .ret (ρ y)
  | .pick c a b => match ρ c with
    | .d (.bool t) => .ite t (.ret (ρ a)) (.ret (ρ b))
    | _ => .fail
  | .load t y => loadT A P h t (ρ y)
  | .fieldAddr s y f => match fldO P s f with
    | some k => match addFT A (ρ y) k with
      | some v => .ret v
      | none => .fail
    | none => .fail
  | .indexAddr t y z => indexT A P h t (ρ y) (ρ z)
  | .index t y z => match P.underlying t, ρ y, ρ z with
    | some .string, .d (.str s), .d (.int _ i) => chk (A.inr i (A.slen s)) (.ret (.d (.int .u8 (A.sbyte s i))))
    | _, _, _ => .fail
  | .binOp op t y z _ => binT A P op t (ρ y) (ρ z)
  | .unOp op _ y => match op, ρ y with
    | .not, .d (.bool b) => .ret (.d (.bool (A.bnot b)))
    | .neg, .d (.int k n) => .ret (.d (.int k (A.wrap k (A.sub 0 n))))
    | _, _ => .fail
  | .convert s t y => match P.underlying t, (P.underlying s).isSome, ρ y with
    | some (.int k'), true, .d (.int _ n) => .ret (.d (.int k' (A.wrap k' n)))
    | _, _, _ => .fail
  | .extract y i => match ρ y with
    | .tup cs => match cs[i]? with
      | some v => .ret v
      | none => .fail
    | _ => .fail
  | .nilCheck y => match (ρ y).solid with
    | true => .ret (ρ y)
    | false => .fail
  | .build t parts => match placesO P t with
    | some (zs, place) => match fillV place zs (parts.toList.map fun q => (q.1, ρ q.2)), (parts.toList.all fun q => (ρ q.2).liveC h) with
      | some vs, true => .ret (.agg vs)
      | _, _ => .fail
    | none => .fail
  | .lookup t y z c => lookupT A P h t (ρ y) (ρ z) c
  | .slice t y lo hi mx => match mx with
    | none => sliceT A P t (ρ y) (lo.map ρ) (hi.map ρ)
    | some _ => .fail
  | .makeFunc fn first caps => match fn, first with
    | .func f, ⟨[]⟩ => .ret (.fn f (caps.toList.map ρ))
    | _, _ => .fail
  | .buildSlice t n parts => match litV P t n (parts.toList.map fun q => (q.1, ρ q.2)), (parts.toList.all fun q => (ρ q.2).liveC h) with
    | some (e, sz, vs), true => match shOf P 9 e with
      | some ss => match rowsOf ss sz n vs with
        | some rows => .ret (.d (.sl sz rows))
        | none => .fail
      | none => .fail
    | _, _ => .fail
  | .call c => match c with
    | ⟨.builtin .len, ⟨[y]⟩, ts⟩ => match ts[0]? with
      | some t => vlenT A P h t (ρ y)
      | none => .fail
    | ⟨.builtin .cap, ⟨[y]⟩, ts⟩ => match ts[0]?, ρ y with
      | some t, .nils => match P.underlying t with
        | some (.slice _) => .ret (.d (.int .i64 0))
        | _ => .fail
      | _, _ => .fail
    | ⟨.builtin .max, ⟨[y, z]⟩, _⟩ => match ρ y, ρ z with
      | .d (.int k a), .d (.int k' b) => match decide (k' = k) with
        | true => .ret (.d (.int k (A.imax a b)))
        | false => .fail
      | _, _ => .fail
    | ⟨.builtin .min, ⟨[y, z]⟩, _⟩ => match ρ y, ρ z with
      | .d (.int k a), .d (.int k' b) => match decide (k' = k) with
        | true => .ret (.d (.int k (A.imin a b)))
        | false => .fail
      | _, _ => .fail
    | _ => .fail
  | _ => .fail
end

section
variable {P : Program} {M : List Nat} {h h' h2 : List Box} {ρ : Operand → V} {o : Oper} {x : V} {E : Env}

theorem openT_run {s : Sh} {v : Option D} {x : D} (hk : (openT s v).run E = some x) : v = some x := by
  cases s <;> simp only [openT, Tree.run] at hk <;> obtain ⟨n, h1, h2⟩ := Option.bind_eq_some_iff.1 hk <;> cases h2
  · exact opI_some h1
  · exact opB_some h1
  · exact opS_some h1
  · exact opL_some h1
theorem openRT_run (hE : E.Ok) : ∀ {ss : List Sh} {cs : List D} {j : Nat} {xs : List D}, (openRT sy ss cs j).run E = some xs →
    xs.length = ss.length ∧ ∀ (i : Nat) x, xs[i]? = some x → cs[j + i]? = some x
  | [], cs, j, xs, hk => by cases hk; exact ⟨rfl, by simp⟩
  | s :: ss, cs, j, xs, hk => by
    unfold openRT at hk
    obtain ⟨x, h1, hk⟩ := run_bind_some hE hk
    obtain ⟨xs', h2, hk⟩ := run_bind_some hE hk
    cases hk
    have h1 := openT_run h1
    obtain ⟨h3, h4⟩ := openRT_run hE h2
    refine ⟨by simp [h3], fun i y hy => ?_⟩
    cases i with
    | zero => simp at hy; subst hy; simpa using (show cs[j]? = some x from h1)
    | succ i => have := h4 i y (by simpa using hy); rwa [show j + 1 + i = j + (i + 1) by omega] at this

theorem loadT_sound (hE : E.Ok) {t : TypeId} {y : Operand} (hop : o.op = .load t y) (hk : (loadT sy P h t (ρ y)).run E = some x) : ∀ h2, Pre h h2 → Gives P [] h2 h2 ρ o x := by
  unfold loadT at hk
  split at hk
  · have hn := ‹szO P t = some _›
    have hu := ‹(P.underlying t).isSome = true›
    split at hk
    · rename_i b off hy
      split at hk
      · rename_i bt vs hb
        split at hk
        · split at hk
          · rename_i hle
            cases hk
            exact fun h2 hp => gives_load_boxN hop hy (hp.at hb nofun) hn (by simpa using hle) hu ‹aggB P t = _›
          · cases hk
        · split at hk
          · rename_i v hv
            cases hk
            exact fun h2 hp => gives_load_box1 hop hy (hp.at hb nofun) hv hu ‹aggB P t = _›
          · cases hk
      · cases hk
    · rename_i cs hy
      split at hk
      · split at hk
        · rename_i hl
          obtain ⟨xs, hk1, hk⟩ := run_bind_some hE hk
          cases hk
          obtain ⟨h1, h3⟩ := openRT_run hE hk1
          exact fun h2 hp => gives_load_pelN hop hy (fun i x hx => by have := h3 i x hx; rwa [Nat.zero_add] at this) (by rw [hn, h1]; simpa using (of_decide_eq_true hl).symm) hu ‹aggB P t = _›
        · cases hk
      · obtain ⟨x, hk1, hk⟩ := run_bind_some hE hk
        cases hk
        exact fun h2 hp => gives_load_pel1 hop hy (openT_run hk1) hu ‹aggB P t = _›
      · cases hk
    · rename_i b sz i off hy
      split at hk
      · rename_i e sz' rows hb
        split at hk
        · rename_i hsz _ _
          have hsz := of_decide_eq_true hsz
          subst hsz
          split at hk
          · rename_i hl
            obtain ⟨hi, hk⟩ := chk_some hk
            obtain ⟨xs, hk1, hk⟩ := run_bind_some hE hk
            cases hk
            obtain ⟨h1, h3⟩ := openRT_run hE hk1
            exact fun h2 hp => gives_load_pmlN hop hy (hp.at hb nofun) h3 (by rw [hn, h1]; simpa using (of_decide_eq_true hl).symm) hu ‹aggB P t = _› (of_decide_eq_true hi)
          · cases hk
        · rename_i hsz _ _
          have hsz := of_decide_eq_true hsz
          subst hsz
          obtain ⟨x, hk1, hk⟩ := run_bind_some hE hk
          cases hk
          exact fun h2 hp => gives_load_pml1 hop hy (hp.at hb nofun) (openT_run hk1) hu ‹aggB P t = _›
        · cases hk
      · cases hk
    · cases hk
  · cases hk

theorem inr_prop {i n : Int} (h : sy.inr i n = true) : 0 ≤ i ∧ i < n := of_decide_eq_true h
theorem cutok_prop {l r n : Int} (h : sy.cutok l r n = true) : 0 ≤ l ∧ l ≤ r ∧ r ≤ n := of_decide_eq_true h

theorem indexT_sound {t : TypeId} {y z : Operand} (hop : o.op = .indexAddr t y z) (hk : (indexT sy P h t (ρ y) (ρ z)).run E = some x) : ∀ h2, Pre h h2 → Gives P [] h2 h2 ρ o x := by
  unfold indexT at hk
  split at hk
  · rename_i e sz kd i hel hz
    split at hk
    · rename_i sz' rows hy
      split at hk
      · rename_i hsz
        have hsz := of_decide_eq_true hsz
        subst hsz
        obtain ⟨hi, hk⟩ := chk_some hk
        cases hk
        have hi := inr_prop hi
        exact fun h2 hp => gives_index_sl hop hel hy hz hi.1 hi.2
      · cases hk
    · rename_i b hy
      split at hk
      · rename_i e' sz' rows hb
        split at hk
        · rename_i hsz
          have hsz := of_decide_eq_true hsz
          subst hsz
          obtain ⟨hi, hk⟩ := chk_some hk
          cases hk
          have hi := inr_prop hi
          exact fun h2 hp => gives_index_own hop hel hy (hp.at hb nofun) hz hi.1 hi.2
        · cases hk
      · cases hk
    · cases hk
  · cases hk

theorem binIA_eq (op : BinOp) (k : IntKind) (a b : Int) : binIA sy op k a b = binI op k a b := by
  have e : decide (a = b) = (a == b) := by rw [Bool.eq_iff_iff]; simp
  cases op <;> simp only [binIA, binI, sy, e] <;> rfl
theorem binStrA_eq (op : BinOp) (a b : ByteArray) : binStrA sy op a b = binStr op a b := by cases op <;> rfl

theorem binT_sound {op : BinOp} {t u : TypeId} {y z : Operand} (hop : o.op = .binOp op t y z u) (hk : (binT sy P op t (ρ y) (ρ z)).run E = some x) : ∀ h2, Pre h h2 → Gives P [] h2 h2 ρ o x := by
  unfold binT at hk
  split at hk
  · rename_i k n k' m hy hz
    split at hk
    · rename_i d hkk hd
      have := of_decide_eq_true hkk
      subst this
      cases hk
      rw [binIA_eq] at hd
      exact fun h2 hp => gives_binI hop hy hz hd
    · cases hk
  · rename_i s u' hy hz
    split at hk
    · obtain ⟨hi, hk⟩ := chk_some hk
      cases hk
      exact fun h2 hp => gives_addS hop hy hz (of_decide_eq_true hi)
    · split at hk
      · rename_i c hc
        cases hk
        rw [binStrA_eq] at hc
        exact fun h2 hp => gives_binS hop hy hz hc
      · cases hk
  · rename_i c d hy hz
    split at hk
    · cases hk; exact fun h2 hp => gives_binB hop hy hz ‹_› rfl
    · cases hk; exact fun h2 hp => gives_binB hop hy hz ‹_› rfl
    · cases hk
  · rename_i xs ys hy hz
    split at hk
    · rename_i cs ds h1 h2
      split at hk
      · rename_i ss ss' h3 h4
        split at hk
        · have he := of_decide_eq_true ‹decide (ss' = ss) = true›
          subst he
          cases hk
          exact fun h2' hp => gives_binE hop (by rw [hy, allDs_spec h1]) (by rw [hz, allDs_spec h2]) ‹stokB P t _ = true› h3 h4 rfl
        · have he := of_decide_eq_true ‹decide (ss' = ss) = true›
          subst he
          cases hk
          exact fun h2' hp => gives_binE hop (by rw [hy, allDs_spec h1]) (by rw [hz, allDs_spec h2]) ‹stokB P t _ = true› h3 h4 rfl
        · cases hk
      · cases hk
    · cases hk
  · cases hk

theorem addFT_eq (v : V) (k : Nat) : addFT sy v k = addF v k := by
  cases v <;> simp only [addFT, addF]
  cases k <;> simp [sy]
theorem lenT_eq (h : List Box) (v : V) : lenT sy h v = lenV h v := by cases v <;> rfl

theorem vlenT_sound {y : Operand} {t : TypeId} {ts : Array TypeId} (hop : o.op = .call { callee := .builtin .len, args := #[y], argTypes := ts }) (ht : ts[0]? = some t) (hk : (vlenT sy P h t (ρ y)).run E = some x) :
    ∀ h2, Pre h h2 → Gives P [] h2 h2 ρ o x := by
  unfold vlenT at hk
  rw [lenT_eq] at hk
  split at hk
  · rename_i s n hv hu hn
    cases hk
    exact fun h2 hp => gives_len hop ht (lenV_pre hp hn) (fun _ _ => hu) (fun hh => (hh s hv).elim)
  · cases hk
  · rename_i hno
    cases hk
    exact fun h2 hp => gives_len hop ht (lenV_pre hp ‹lenV h (ρ y) = some _›) (fun s hs => (hno s hs).elim) (fun _ => ⟨_, ‹P.underlying t = some (.slice _)›⟩)
  · rename_i b _ _ hv _ _
    split at hk
    · cases hk
      exact fun h2 hp => gives_lenM hop ht ‹mapO P t = some _› ‹ρ y = .map _› (hp.at ‹h[_]? = some _› nofun)
    · cases hk
  · cases hk

theorem sliceT_sound {t : TypeId} {y : Operand} {lo hi : Option Operand} (hop : o.op = .slice t y lo hi none) (hk : (sliceT sy P t (ρ y) (lo.map ρ) (hi.map ρ)).run E = some x) : ∀ h2, Pre h h2 → Gives P [] h2 h2 ρ o x := by
  unfold sliceT at hk
  split at hk
  · rename_i sz' rows hy
    split at hk
    · rename_i e sz l r hel hl hr
      split at hk
      · rename_i hsz
        have := of_decide_eq_true hsz
        subst this
        obtain ⟨hi, hk⟩ := chk_some hk
        cases hk
        have hi := cutok_prop hi
        exact fun h2 hp => gives_slice hop hel hy hl hr hi.1 hi.2.1 hi.2.2
      · cases hk
    · cases hk
  · rename_i s hy
    split at hk
    · rename_i l r hu hl hr
      obtain ⟨hi, hk⟩ := chk_some hk
      cases hk
      have hi := cutok_prop hi
      exact fun h2 hp => gives_sliceS hop hu hy hl hr hi.1 hi.2.1 hi.2.2
    · cases hk
  · rename_i hy
    split at hk
    · rename_i z l r hel hl hr
      obtain ⟨e, sz⟩ := z
      obtain ⟨hi, hk⟩ := chk_some hk
      cases hk
      have hi := cutok_prop hi
      exact fun h2 hp => gives_sliceNil hop hel hy hl hr (by omega) (by omega)
    · cases hk
  · cases hk

theorem lookupT_sound (hE : E.Ok) {t : TypeId} {y z : Operand} {c : Bool} (hop : o.op = .lookup t y z c) (hk : (lookupT sy P h t (ρ y) (ρ z) c).run E = some x) : ∀ h2, Pre h h2 → Gives P [] h2 h2 ρ o x := by
  unfold lookupT at hk
  split at hk
  · rename_i e kk b k hm hy hz
    split at hk
    · rename_i kk' rows zv s hb hze hsh hf
      split at hk
      · rename_i hkk hzk
        have := of_decide_eq_true hkk
        subst this
        obtain ⟨x, h1, hk⟩ := run_bind_some hE hk
        have h1 := openT_run h1
        cases h1
        have := fun h2 (hp : Pre h h2) => gives_lookup (c := c) hop hy (hp.at hb nofun) hm hze hzk hz (fits_of hf)
        cases c <;> cases hk <;> exact this
      · cases hk
    · cases hk
  · cases hk

theorem opPT_sound (hE : E.Ok) (hk : (opPT sy P h ρ o).run E = some x) : ∀ h2, Pre h h2 → Gives P [] h2 h2 ρ o x := by
  unfold opPT at hk
  split at hk
  · rename_i y hop; cases hk; exact fun h2 hp => gives_copy (.inl hop)
  · rename_i y hop; cases hk; exact fun h2 hp => gives_copy (.inr hop)
  · rename_i c a b hop
    split at hk
    · rename_i t ht
      have := fun h2 (hp : Pre h h2) => gives_pick (P := P) (h := h2) hop ht
      cases t <;> cases hk <;> exact this
    · cases hk
  · rename_i t y hop; exact loadT_sound hE hop hk
  · rename_i s y f hop
    split at hk
    · rename_i k hfk
      rw [addFT_eq] at hk
      split at hk
      · rename_i v hv; cases hk; exact fun h2 hp => gives_fieldAddr hop hfk hv
      · cases hk
    · cases hk
  · rename_i t y z hop; exact indexT_sound hop hk
  · rename_i t y z hop
    split at hk
    · rename_i s kd i hu hy hz
      obtain ⟨hi, hk⟩ := chk_some hk
      cases hk
      have hi := inr_prop hi
      exact fun h2 hp => gives_indexS hop hu hy hz hi.1 hi.2
    · cases hk
  · rename_i op t y z u hop; exact binT_sound hop hk
  · rename_i op t y hop
    split at hk
    · rename_i b hy; cases hk; exact fun h2 hp => gives_not hop hy
    · rename_i k n hy; cases hk; exact fun h2 hp => gives_neg hop hy
    · cases hk
  · rename_i s t y hop
    split at hk
    · rename_i k' k n hu hs hy; cases hk; exact fun h2 hp => gives_convI hop hy hu hs
    · cases hk
  · rename_i y i hop
    split at hk
    · rename_i cs hy
      split at hk
      · rename_i v hv; cases hk; exact fun h2 hp => gives_extract hop hy hv
      · cases hk
    · cases hk
  · rename_i y hop
    split at hk
    · rename_i hs; cases hk; exact fun h2 hp => gives_nilCheck hop hs
    · cases hk
  · rename_i t parts hop
    split at hk
    · rename_i zs place hpl
      split at hk
      · rename_i vs hfv hlv
        cases hk
        refine fun h2 hp => gives_build hop hpl hfv ?_
        rw [List.all_eq_true] at hlv ⊢
        exact fun q hq => liveC_pre hp (hlv q hq)
      · cases hk
    · cases hk
  · rename_i t y z c hop; exact lookupT_sound hE hop hk
  · rename_i t y lo hi mx hop
    split at hk
    · exact sliceT_sound hop hk
    · cases hk
  · rename_i fn first caps hop
    split at hk
    · cases hk; exact fun h2 hp => gives_makeFunc hop
    · cases hk
  · rename_i t n parts hop
    split at hk
    · rename_i e sz vs hlit hl
      split at hk
      · rename_i ss hss
        split at hk
        · rename_i rows hr
          cases hk
          refine fun h2 hp => gives_buildSliceD hop hlit ?_ hr
          rw [List.all_eq_true] at hl ⊢
          exact fun q hq => liveC_pre hp (hl q hq)
        · cases hk
      · cases hk
    · cases hk
  · rename_i c hop
    split at hk
    · rename_i y ts
      split at hk
      · rename_i t ht; exact vlenT_sound hop ht hk
      · cases hk
    · rename_i y ts
      split at hk
      · rename_i t ht hy
        split at hk
        · rename_i e hu
          cases hk
          exact fun h2 hp => gives_capNil hop ht hu hy
        · cases hk
      · cases hk
    · rename_i y z ts
      split at hk
      · rename_i k a k' b hy hz
        split at hk
        · rename_i hkk
          have := of_decide_eq_true hkk
          subst this
          cases hk
          exact fun h2 hp => gives_max hop hy hz
        · cases hk
      · cases hk
    · rename_i y z ts
      split at hk
      · rename_i k a k' b hy hz
        split at hk
        · rename_i hkk
          have := of_decide_eq_true hkk
          subst this
          cases hk
          exact fun h2 hp => gives_min hop hy hz
        · cases hk
      · cases hk
    · cases hk
  · cases hk
end
end Go.Vm
end

section
namespace Go.Vm

structure CfgO where
  inl : List FuncId
  mint : List FuncId

section
variable (A : Sy) (P : Program)

def appendT (h : List Box) (t : TypeId) (a b : V) : Tree (List Nat × List Box × V) :=
  match elT P t with
  | some (e, sz, by_, z) => match decide (z.cells.size = sz), decide (0 < sz), rowsV h sz b with
    | true, true, some news => match a with
      | .own c => match h[c]? with
        | some (.arr e' sz' rows) => match decide (e' = e), decide (sz' = sz) with
          | true, true => chk (A.fits rows news by_) (.ret ([c], (h.map (Box.kill [c])).set c (.arr e sz (A.rapp rows news)), .own c))
          | _, _ => .fail
        | _ => .fail
      | .nils => chk (A.fits [] news by_) (.ret ([], h ++ [.arr e sz news], .own h.length))
      | _ => .fail
    | _, _, _ => .fail
  | none => .fail

def storeT (h : List Box) (t : TypeId) (a v : V) : Tree (List Box) :=
  match v.cellsV, v.liveC h with
  | some ns, true => match a with
    | .ptr b off => match h[b]? with
      | some (.cells bt vs) => match ns.all (V.oneB h), decide (szO P t = some ns.length), decide (off + ns.length ≤ vs.length) with
        | true, true, true => .ret (h.set b (.cells bt (vs.take off ++ ns ++ vs.drop (off + ns.length))))
        | _, _, _ => .fail
      | _ => .fail
    | .pml b sz i off => match h[b]?, shOf P 9 t with
      | some (.arr e sz' rows), some ss => match decide (sz' = sz), toDs ss ns with
        | true, some ds => match decide (szO P t = some ds.length), decide (off + ds.length ≤ sz) with
          | true, true => chk (A.inrn i rows) (.ret (h.set b (.arr e sz (A.rput rows i off ds))))
          | _, _ => .fail
        | _, _ => .fail
      | _, _ => .fail
    | _ => .fail
  | _, _ => .fail

def isZ : Operand → Bool
  | .const (.int _ n) => decide (n = 0)
  | _ => false
def makeT (h : List Box) (t : TypeId) (z0 : Bool) (a b : V) : Tree (List Box × V) :=
  match elT P t, a, b with
  | some (e, sz, by_, z), .d (.int _ n), .d (.int _ m) => match z0 with
    | true => chk (A.ieq n 0) (chk (A.mkok0 m by_) (.ret (h ++ [.arr e sz []], .own h.length)))
    | false => match shOf P 9 e with
      | some ss => match zeroOK ss z.cells.toList, decide (ss.length = sz) with
        | true, true => chk (A.mkok n m by_) (.ret (h ++ [.arr e sz (A.rep n (ss.map zeroD))], .own h.length))
        | _, _ => .fail
      | none => .fail
  | _, _, _ => .fail

def putT (h : List Box) (t : TypeId) (a q v : V) : Tree (List Box) :=
  match mapO P t, a, q with
  | some (e, kk), .map b, .d k => match h[b]?, shOf P 9 e, kk.fitsB k with
    | some (.mp kk' rows), some [s], true => match decide (kk' = kk), v.toD s with
      | true, some x => .ret (h.set b (.mp kk (A.mput k x rows)))
      | _, _ => .fail
    | _, _, _ => .fail
  | _, _, _ => .fail

def delT (h : List Box) (t : TypeId) (a q : V) : Tree (List Box) :=
  match mapO P t, a, q with
  | some (_, kk), .map b, .d k => match h[b]?, kk.fitsB k with
    | some (.mp kk' rows), true => match decide (kk' = kk) with
      | true => .ret (h.set b (.mp kk (A.mdel k rows)))
      | _ => .fail
    | _, _ => .fail
  | _, _, _ => .fail

def appzT (h : List Box) (t tn : TypeId) (a b : V) : Tree (List Box × V) :=
  match elT P t, P.underlying tn, a, b with
  | some (e, sz, by_, z), some (.int _), .nils, .d (.int _ n) => match shOf P 9 e with
    | some ss => match zeroOK ss z.cells.toList, decide (ss.length = sz), decide (0 < sz) with
      | true, true, true => chk (A.mkz n by_) (.ret (h ++ [.arr e sz (A.rep n (ss.map zeroD))], .own h.length))
      | _, _, _ => .fail
    | none => .fail
  | _, _, _, _ => .fail

def headT (h : List Box) (t : TypeId) (a : V) (hi : Option V) : Tree (List Nat × List Box × V) :=
  match a with
  | .own b => match h[b]? with
    | some (.arr e' sz rows) => match elO P t, bndV (A.rlen rows) hi with
      | some (_, sz'), some r => match decide (sz' = sz) with
        | true => chk (A.cutok 0 r (A.rlen rows)) (.ret ([b], (h.map (Box.kill [b])).set b (.arr e' sz (A.head rows r)), .own b))
        | false => .fail
      | _, _ => .fail
    | _ => .fail
  | _ => .fail

def plainT (h : List Box) (ρ : Operand → V) (o : Oper) : Tree (List Nat × List Box × V) := (opPT A P h ρ o).bind fun x => .ret ([], h, x)

/-- Operations, boxes and all, but calls. -/
def opT (h : List Box) (ρ : Operand → V) (o : Oper) : Tree (List Nat × List Box × V) :=
  match o.op with
  | .assign y => match ρ y with
    | .nils => match elO P o.type with
      | some (e, sz) => .ret ([], h ++ [.arr e sz []], .own h.length)
      | none => .ret ([], h, .nils)
    | v => .ret ([], h, v)
  | .box t y => match (ρ y).cellsV, (ρ y).liveC h with
    | some vs, true => .ret ([], h ++ [.cells t vs], .ptr h.length 0)
    | _, _ => .fail
  | .alloc t => match zeroO P t with
    | some z => match (ofConst z).cellsV with
      | some vs => .ret ([], h ++ [.cells t vs], .ptr h.length 0)
      | none => .fail
    | none => .fail
  | .store t y z => (storeT A P h t (ρ y) (ρ z)).bind fun h' => .ret ([], h', .any)
  | .makeSlice t y z => (makeT A P h t (isZ y) (ρ y) (ρ z)).bind fun r => .ret ([], r.1, r.2)
  | .makeMap t r => match r, mapO P t with
    | none, some (_, kk) => .ret ([], h ++ [.mp kk []], .map h.length)
    | _, _ => .fail
  | .mapUpdate t y z r => (putT A P h t (ρ y) (ρ z) (ρ r)).bind fun h' => .ret ([], h', .any)
  | .insert t y z r => (putT A P h t (ρ y) (ρ z) (ρ r)).bind fun h' => .ret ([], h', .any)
  | .buildSlice t n parts => match litV P t n (parts.toList.map fun q => (q.1, ρ q.2)), (parts.toList.all fun q => (ρ q.2).liveC h) with
    | some (e, sz, vs), true => match shOf P 9 e with
      | some ss => match rowsOf ss sz n vs, decide (n ≤ 16777216) with
        | some rows, true => .ret ([], h ++ [.arr e sz rows], .own h.length)
        | _, _ => .fail
      | none => .fail
    | _, _ => .fail
  | .call c => match c with
    | ⟨.builtin .append, ⟨[y, z]⟩, ⟨[t, t']⟩⟩ => match decide (t' = t) with
      | true => appendT A P h t (ρ y) (ρ z)
      | false => (appzT A P h t t' (ρ y) (ρ z)).bind fun r => .ret ([], r.1, r.2)
    | ⟨.builtin .delete, ⟨[y, z]⟩, ⟨[t, _]⟩⟩ => (delT A P h t (ρ y) (ρ z)).bind fun h' => .ret ([], h', .any)
    | _ => plainT A P h ρ o
  | .slice t y lo hi mx => match ρ y, lo, mx with
    | .own _, none, none => headT A P h t (ρ y) (hi.map ρ)
    | _, _, _ => plainT A P h ρ o
  | _ => plainT A P h ρ o

/-! ### calls -/
def mkVs : List TypeId → List D → Option (List V)
  | [], [] => some []
  | [], _ :: _ => none
  | t :: ts, ds => match shOf P 9 t, aggB P t with
    | some ss, true => match decide (ss.length ≤ ds.length), mkVs ts (ds.drop ss.length) with
      | true, some vs => some (.agg ((ds.take ss.length).map .d) :: vs)
      | _, _ => none
    | some [_], false => match ds with
      | d :: ds => match mkVs ts ds with
        | some vs => some (.d d :: vs)
        | none => none
      | [] => none
    | _, _ => none
def mkV (ts : List TypeId) (ds : List D) : Option V := match mkVs P ts ds with
  | some [v] => some v
  | some vs => some (.tup vs)
  | none => none
def shR : List TypeId → Option (List Sh)
  | [] => some []
  | t :: ts => match shOf P 9 t, shR ts with
    | some a, some b => some (a ++ b)
    | _, _ => none
def Sh.flat : Sh → Bool
  | .sl _ => false
  | _ => true
def callT (f : FuncId) (vs : List V) (ts : List TypeId) : Tree V := match shR P ts with
  | some ss => .call f vs fun ds => (openRT A ss ds 0).bind fun xs => match mkV P ts xs with
    | some v => .ret v
    | none => .fail
  | none => .fail
def out1 (t : TypeId) (v : V) : Option (List D) := match shOf P 9 t, aggB P t, v with
  | some ss, true, .agg cs => toDs ss cs
  | some [s], false, v => match v.toD s with
    | some x => some [x]
    | none => none
  | _, _, _ => none
/-- What is given, as plain data of its type. -/
def can1 (t : TypeId) (v : V) : V := match out1 P t v, aggB P t with
  | some ds, true => .agg (ds.map .d)
  | some [d], false => .d d
  | _, _ => v
def canL : List TypeId → List V → List V
  | t :: ts, v :: vs => can1 P t v :: canL ts vs
  | _, vs => vs
def parP (f : FuncId) : List TypeId := match P.funcs[f]? with
  | some fn => fn.params.toList
  | none => []
/-- A call: the callee, what it is given, and its function value's. -/
def callOf (ρ : Operand → V) (o : Oper) : Option (FuncId × List V) := match o.op with
  | .call ⟨.value y, args, _⟩ => match calleeV ρ y with
    | some (f, caps) => some (f, args.toList.map ρ ++ caps)
    | none => none
  | _ => none

variable (ent : FuncId → List V → List Box → Tree (List Nat × V × List Box)) (C : CfgO) (n0 : Nat) (M0 : List Nat)

def pureCallT (s : VSt) (o : Oper) (f : FuncId) : Tree VSt :=
  let s1 := s.frz (fzl s o)
  match callOf s1.get o, sigP P f with
  | some (_, vs0), some ts => match canL P (parP P f) vs0 with
    | vs => match vs.all V.pureB with
    | true => match C.mint.contains f with
      | true => match ts with
        | [t] => match elO P t with
          | some (e, sz) => .mint f vs e sz fun rows => .ret (s1.next [] (s1.h ++ [.arr e sz rows]) o.dst (.own s1.h.length))
          | none => .fail
        | _ => .fail
      | false => match shR P ts with
        | some ss => match ss.all Sh.flat with
          | true => (callT A P f vs ts).bind fun v => .ret (s.next [] s.h o.dst v)
          | false => (callT A P f vs ts).bind fun v => .ret (s1.next [] s1.h o.dst v)
        | none => .fail
    | false => .fail
  | _, _ => .fail

def stepT (s : VSt) (o : Oper) : Tree VSt := match callOf s.get o with
  | some (f, vs) => match C.inl.contains f, sigP P f with
    | true, some _ => (ent f vs s.h).bind fun r => match okM n0 M0 r.1 with
      | true => .ret (s.next r.1 r.2.2 o.dst r.2.1)
      | false => .fail
    | _, _ => pureCallT A P C s o f
  | none =>
    let s1 := s.frz (fzl s o)
    (opT A P s1.h s1.get o).bind fun r => match okM n0 M0 r.1 with
      | true => .ret (s1.next r.1 r.2.1 o.dst r.2.2)
      | false => .fail

def forceD.{v} {β : Type v} (x : D) (K : D → β) : β := match x with
  | .int k n => K (.int k n)
  | .bool b => K (.bool b)
  | .str s => K (.str s)
  | .sl sz rows => K (.sl sz rows)
def forceV.{v} {β : Type v} (x : V) (K : V → β) : β := match x with
  | .any => K .any
  | .nils => K .nils
  | .d x => forceD x fun x => K (.d x)
  | .agg cs => K (.agg cs)
  | .tup cs => K (.tup cs)
  | .own b => K (.own b)
  | .ptr b off => K (.ptr b off)
  | .pel cs => K (.pel cs)
  | .pml b sz i off => K (.pml b sz i off)
  | .nilp => K .nilp
  | .fn f cs => K (.fn f cs)
  | .nilf => K .nilf
  | .map b => K (.map b)
def forceL.{v} {β : Type v} : List V → (List V → β) → β
  | [], K => K []
  | v :: vs, K => forceV v fun v' => forceL vs fun vs' => K (v' :: vs')
def forceB.{v} {β : Type v} (x : Box) (K : Box → β) : β := match x with
  | .gone => K .gone
  | .mp kk rows => K (.mp kk rows)
  | .cells t vs => forceL vs fun vs' => K (.cells t vs')
  | .arr e sz rows => K (.arr e sz rows)
def forceH.{v} {β : Type v} : List Box → (List Box → β) → β
  | [], K => K []
  | v :: vs, K => forceB v fun v' => forceH vs fun vs' => K (v' :: vs')
def forceSp.{u, v} {α : Type u} {β : Type v} : List α → (List α → β) → β
  | [], K => K []
  | v :: vs, K => forceSp vs fun vs' => K (v :: vs')
def forceS (s : VSt) (K : VSt → Tree VSt) : Tree VSt := forceL s.t fun t => forceH s.h fun h => K ⟨t, h⟩

/-- A part of a region that a guard lets through, up to the choice behind it: operations that give values alone. -/
def segOp (o : Oper) : Bool := match o.op with
  | .move _ => true
  | .pick .. => true
  | .load .. => true
  | .fieldAddr .. => true
  | .indexAddr .. => true
  | .index .. => true
  | .binOp .. => true
  | .unOp .. => true
  | .convert .. => true
  | .extract .. => true
  | .nilCheck _ => true
  | .lookup .. => true
  | .call ⟨.builtin .len, _, _⟩ => true
  | .call ⟨.builtin .max, _, _⟩ => true
  | .call ⟨.builtin .min, _, _⟩ => true
  | .call ⟨.value (.func f), _, _⟩ => match C.inl.contains f, sigP P f with
    | false, some ts => match shR P ts with
      | some ss => ss.all Sh.flat
      | none => false
    | _, _ => false
  | _ => false
def segFind (d : Nat) : List Oper → Option Nat
  | [] => none
  | o :: os => match segOp P C o with
    | true => match o.op, o.guard, o.dst with
      | .pick (.tmp d') _ _, none, some _ => match decide (d' = d) with
        | true => some 1
        | false => (segFind d os).map (· + 1)
      | _, _, _ => (segFind d os).map (· + 1)
    | false => none
def segOf (ops : Array Oper) (o : Oper) (os : List Oper) : Option Nat := match o.dst, o.guard, os with
  | some d, none, o2 :: _ => match o2.guard with
    | some (j, _) => match decide (j + (os.length + 1) = ops.size) with
      | true => segFind P C d os
      | false => none
    | none => none
  | _, _, _ => none
def segStepT (s : VSt) (o : Oper) : Tree V := match callOf s.get o with
  | some (f, _) => match callOf (s.frz (fzl s o)).get o, sigP P f with
    | some (_, vs0), some ts => match canL P (parP P f) vs0 with
      | vs => match vs.all V.pureB, shR P ts with
        | true, some ss => match ss.all Sh.flat with
          | true => callT A P f vs ts
          | false => .fail
        | _, _ => .fail
    | _, _ => .fail
  | none => opPT A P s.h s.get o
def segT (ops : Array Oper) : List Oper → VSt → Tree VSt
  | [], s => .ret s
  | o :: os, s =>
    let exec : VSt → Tree VSt := fun s => (segStepT A P s o).bind fun x => forceS (s.next [] s.h o.dst x) (segT ops os)
    let pass : VSt → Tree VSt := fun s => forceS (s.next [] s.h o.dst (.tup [])) (segT ops os)
    match o.guard with
    | none => exec s
    | some (j, want) => match (ops[j]?).bind (·.dst) with
      | some t => match s.t[t]? with
        | some (.d (.bool c)) => match want with
          | true => .ite c (exec (s.setT t true)) (pass (s.setT t false))
          | false => .ite c (pass (s.setT t true)) (exec (s.setT t false))
        | some (.tup []) => pass s
        | _ => .fail
      | none => .fail
def anyAll (t : List V) : List Oper → List V
  | [] => t
  | o :: os => anyAll (match o.dst with
    | some d => t.set d .any
    | none => t) os
def lastDst (d : Nat) : List Oper → Nat
  | [] => d
  | o :: os => lastDst (o.dst.getD d) os

def opsT (ops : Array Oper) : Nat → List Oper → VSt → Tree VSt
  | _, [], s => .ret s
  | k + 1, _ :: os, s => opsT ops k os s
  | 0, o :: os, s =>
    let exec : VSt → Tree VSt := fun s => (stepT A P ent C n0 M0 s o).bind fun s' => forceS s' fun s' => match segOf P C ops o os with
      | some L => .cut ((segT A P ops (os.take L) s').bind fun s2 => match s2.t[lastDst 0 (os.take L)]? with
          | some (.d (.bool b)) => .ret (.inl [.bool b])
          | _ => .fail) fun ds => .cB (A.cell ds 0) fun b => forceS ⟨(anyAll s'.t (os.take L)).set (lastDst 0 (os.take L)) (.d (.bool b)), s'.h⟩ (opsT ops L os)
      | none => opsT ops 0 os s'
    let pass : VSt → Tree VSt := fun s => forceS (s.next [] s.h o.dst (.tup [])) (opsT ops 0 os)
    match o.guard with
    | none => exec s
    | some (j, want) => match (ops[j]?).bind (·.dst) with
      | some t => match s.t[t]? with
        | some (.d (.bool c)) => match want with
          | true => .ite c (exec (s.setT t true)) (pass (s.setT t false))
          | false => .ite c (pass (s.setT t true)) (exec (s.setT t false))
        | some (.tup []) => pass s
        | _ => .fail
      | none => .fail
end

section
variable {P : Program} {M : List Nat} {h h' h2 : List Box} {ρ : Operand → V} {o : Oper} {x : V} {E : Env} {r : List Nat × List Box × V}

theorem fits_prop {a b : List (List D)} {k : Nat} (h : sy.fits a b k = true) : (a.length + b.length) ≤ maxLen ∧ (a.length + b.length) * k ≤ 140737488355328 := by
  have h : (a.length + b.length) * (k + 1) ≤ 140737488355328 := of_decide_eq_true h
  have h1 : (a.length + b.length) * k ≤ (a.length + b.length) * (k + 1) := Nat.mul_le_mul_left _ (by omega)
  have h2 : (a.length + b.length) ≤ (a.length + b.length) * (k + 1) := Nat.le_mul_of_pos_right _ (by omega)
  exact ⟨by simp only [maxLen]; omega, by omega⟩

theorem appendT_sound {y z : Operand} {ts : Array TypeId} {t : TypeId} (hop : o.op = .call { callee := .builtin .append, args := #[y, z], argTypes := ts }) (hts : ts = #[t, t])
    (hk : (appendT sy P h t (ρ y) (ρ z)).run E = some r) : Gives P r.1 h r.2.1 ρ o r.2.2 := by
  unfold appendT at hk
  split at hk
  · rename_i e sz by_ zv hel
    split at hk
    · rename_i news hc1 hc2 hrows
      have hc1 := of_decide_eq_true hc1
      have hc2 := of_decide_eq_true hc2
      split at hk
      · rename_i c hy
        split at hk
        · rename_i e' sz' rows hb
          split at hk
          · rename_i q1 q2
            have q1 := of_decide_eq_true q1
            have q2 := of_decide_eq_true q2
            subst q1; subst q2
            obtain ⟨hf, hk⟩ := chk_some hk
            cases hk
            obtain ⟨b1, b2⟩ := fits_prop hf
            exact gives_append hop hts hel hc1 hc2 hy hb hrows b1 b2
          · cases hk
        · cases hk
      · rename_i hy
        obtain ⟨hf, hk⟩ := chk_some hk
        cases hk
        obtain ⟨b1, b2⟩ := fits_prop hf
        exact gives_appendNil hop hts hel hc1 hc2 hy hrows (by simpa using b1) (by simpa using b2)
      · cases hk
    · cases hk
  · cases hk

theorem storeT_sound {t : TypeId} {y z : Operand} (hop : o.op = .store t y z) (hk : (storeT sy P h t (ρ y) (ρ z)).run E = some h') : Gives P [] h h' ρ o .any := by
  unfold storeT at hk
  split at hk
  · rename_i ns hn hl
    split at hk
    · rename_i b off hy
      split at hk
      · rename_i bt vs hb
        split at hk
        · rename_i c1 c2 c3
          cases hk
          exact gives_store_box hop hy hb hn c1 (of_decide_eq_true c2) (of_decide_eq_true c3) hl
        · cases hk
      · cases hk
    · rename_i b sz i off hy
      split at hk
      · rename_i e sz' rows ss hb hss
        split at hk
        · rename_i ds c1 hd
          have c1 := of_decide_eq_true c1
          subst c1
          split at hk
          · rename_i c2 c3
            obtain ⟨hi, hk⟩ := chk_some hk
            cases hk
            exact gives_store_pml hop hy hb (of_decide_eq_true hi) hn hd (of_decide_eq_true c2) (of_decide_eq_true c3) hl
          · cases hk
        · cases hk
      · cases hk
    · cases hk
  · cases hk

theorem big_of (a : Int) (b : Nat) (h0 : 0 ≤ a) (hab : a * (b + 1) ≤ 140737488355328) : b * a.toNat ≤ 281474976710656 ∧ a.toNat ≤ maxLen := by
  obtain ⟨n, rfl⟩ := Int.eq_ofNat_of_zero_le h0
  have hab' : n * (b + 1) ≤ 140737488355328 := Int.ofNat_le.1 (by rw [Int.natCast_mul, Int.natCast_add]; exact hab)
  have h1 : n * b ≤ n * (b + 1) := Nat.mul_le_mul_left _ (by omega)
  have h2 : n ≤ n * (b + 1) := Nat.le_mul_of_pos_right _ (by omega)
  rw [Int.toNat_natCast, Nat.mul_comm]
  exact ⟨by omega, by simp only [maxLen]; omega⟩

theorem makeT_sound {t : TypeId} {y z : Operand} {z0 : Bool} {r : List Box × V} (hop : o.op = .makeSlice t y z) (hk : (makeT sy P h t z0 (ρ y) (ρ z)).run E = some r) : Gives P [] h r.1 ρ o r.2 := by
  unfold makeT at hk
  split at hk
  · rename_i e sz by_ zv k1 n k2 m hel hy hz
    split at hk
    · obtain ⟨hn, hk⟩ := chk_some hk
      obtain ⟨hi, hk⟩ := chk_some hk
      cases hk
      have hn : n = 0 := of_decide_eq_true hn
      subst hn
      have hi : 0 ≤ m ∧ m * (by_ + 1) ≤ 140737488355328 := of_decide_eq_true hi
      obtain ⟨b1, b2⟩ := big_of _ _ hi.1 hi.2
      exact gives_makeCap hop hel hy hz hi.1 b1 b2
    · split at hk
      · rename_i ss hss
        split at hk
        · rename_i q1 q2
          obtain ⟨hi, hk⟩ := chk_some hk
          cases hk
          have hi : n = m ∧ 0 ≤ n ∧ n * (by_ + 1) ≤ 140737488355328 := of_decide_eq_true hi
          obtain ⟨b1, b2⟩ := big_of _ _ hi.2.1 hi.2.2
          exact gives_makeFull hop hel q1 (of_decide_eq_true q2) hy hz hi.1 hi.2.1 b1 b2
        · cases hk
      · cases hk
  · cases hk

theorem putT_sound {t : TypeId} {y z q : Operand} (hop : o.op = .mapUpdate t y z q ∨ o.op = .insert t y z q) (hk : (putT sy P h t (ρ y) (ρ z) (ρ q)).run E = some h') : Gives P [] h h' ρ o .any := by
  unfold putT at hk
  split at hk
  · rename_i e kk b k hm hy hz
    split at hk
    · rename_i kk' rows s hb hsh hf
      split at hk
      · rename_i x hkk hx
        have := of_decide_eq_true hkk
        subst this
        cases hk
        exact gives_mapUpdate hop hy hb hm hz (fits_of hf) hx
      · cases hk
    · cases hk
  · cases hk
theorem delT_sound {t t' : TypeId} {y z : Operand} (hop : o.op = .call { callee := .builtin .delete, args := #[y, z], argTypes := #[t, t'] }) (hk : (delT sy P h t (ρ y) (ρ z)).run E = some h') : Gives P [] h h' ρ o .any := by
  unfold delT at hk
  split at hk
  · rename_i e kk b k hm hy hz
    split at hk
    · rename_i kk' rows hb hf
      split at hk
      · rename_i hkk
        have := of_decide_eq_true hkk
        subst this
        cases hk
        exact gives_delete hop hy hb hm hz (fits_of hf)
      · cases hk
    · cases hk
  · cases hk
theorem appzT_sound {y z : Operand} {t tn : TypeId} {r : List Box × V} (hop : o.op = .call { callee := .builtin .append, args := #[y, z], argTypes := #[t, tn] }) (hk : (appzT sy P h t tn (ρ y) (ρ z)).run E = some r) : Gives P [] h r.1 ρ o r.2 := by
  unfold appzT at hk
  split at hk
  · rename_i e sz by_ zv kn k n hel htn hy hz
    split at hk
    · rename_i ss hss
      split at hk
      · rename_i q1 q2 q3
        obtain ⟨hi, hk⟩ := chk_some hk
        cases hk
        have hi : 0 < n ∧ n * (by_ + 1) ≤ 140737488355328 := of_decide_eq_true hi
        obtain ⟨b1, b2⟩ := big_of _ _ (Int.le_of_lt hi.1) hi.2
        exact gives_appendZeros hop hel htn q1 (of_decide_eq_true q2) (of_decide_eq_true q3) hy hz hi.1 (by rw [Nat.mul_comm]; exact b1) b2
      · cases hk
    · cases hk
  · cases hk
theorem headT_sound {t : TypeId} {y : Operand} {hi : Option Operand} (hop : o.op = .slice t y none hi none) (hk : (headT sy P h t (ρ y) (hi.map ρ)).run E = some r) : Gives P r.1 h r.2.1 ρ o r.2.2 := by
  unfold headT at hk
  split at hk
  · rename_i b hy
    split at hk
    · rename_i e' sz rows hb
      split at hk
      · rename_i e sz' r hel hr
        split at hk
        · rename_i hsz
          have := of_decide_eq_true hsz
          subst this
          obtain ⟨hi, hk⟩ := chk_some hk
          cases hk
          have hi := cutok_prop hi
          exact gives_sliceOwn hop hel hy hb rfl hr rfl hi.2.1 hi.2.2
        · cases hk
      · cases hk
    · cases hk
  · cases hk

theorem plainT_sound (hE : E.Ok) (hk : (plainT sy P h ρ o).run E = some r) : Gives P r.1 h r.2.1 ρ o r.2.2 := by
  unfold plainT at hk
  obtain ⟨x, h1, hk⟩ := run_bind_some hE hk
  cases hk
  exact opPT_sound hE h1 h (Pre.refl h)

theorem opT_sound (hE : E.Ok) (hk : (opT sy P h ρ o).run E = some r) : Gives P r.1 h r.2.1 ρ o r.2.2 := by
  unfold opT at hk
  split at hk
  · rename_i y hop
    split at hk
    · rename_i hy
      split at hk
      · cases hk; exact gives_mint (.inr hop) hy
      · cases hk; have := gives_copy (P := P) (h := h) (ρ := ρ) (.inr hop); rwa [hy] at this
    · cases hk; exact gives_copy (.inr hop)
  · rename_i t y hop
    split at hk
    · rename_i vs hv hl; cases hk; exact gives_box hop hv hl
    · cases hk
  · rename_i t hop
    split at hk
    · rename_i z hz
      split at hk
      · rename_i vs hv; cases hk; exact gives_alloc hop hz hv
      · cases hk
    · cases hk
  · rename_i t y z hop
    obtain ⟨h1, q1, hk⟩ := run_bind_some hE hk
    cases hk
    exact storeT_sound hop q1
  · rename_i t y z hop
    obtain ⟨h1, q1, hk⟩ := run_bind_some hE hk
    cases hk
    exact makeT_sound hop q1
  · rename_i t r hop
    split at hk
    · cases hk; exact gives_makeMap hop
    · cases hk
  · rename_i t y z r hop
    obtain ⟨h1, q1, hk⟩ := run_bind_some hE hk
    cases hk
    exact putT_sound (.inl hop) q1
  · rename_i t y z r hop
    obtain ⟨h1, q1, hk⟩ := run_bind_some hE hk
    cases hk
    exact putT_sound (.inr hop) q1
  · rename_i t n parts hop
    split at hk
    · rename_i e sz vs hlit hl
      split at hk
      · rename_i ss hss
        split at hk
        · rename_i rows hr hn
          cases hk
          exact gives_buildSlice hop hlit hl hr (by have := of_decide_eq_true hn; simp only [maxLen]; omega)
        · cases hk
      · cases hk
    · cases hk
  · rename_i c hop
    split at hk
    · rename_i y z t t'
      split at hk
      · rename_i ht
        have ht := of_decide_eq_true ht
        subst ht
        exact appendT_sound hop rfl hk
      · obtain ⟨h1, q1, hk⟩ := run_bind_some hE hk
        cases hk
        exact appzT_sound hop q1
    · obtain ⟨h1, q1, hk⟩ := run_bind_some hE hk
      cases hk
      exact delT_sound hop q1
    · exact plainT_sound hE hk
  · rename_i t y lo hi mx hop
    split at hk
    · exact headT_sound hop hk
    · exact plainT_sound hE hk
  · exact plainT_sound hE hk

/-! ### calls -/
theorem Keep.trans {M M' : List Nat} {g g1 g2 : Gh} {h h1 h2 : List Box} {w w1 w2 : World} (k1 : Keep M g h w g1 h1 w1) (k2 : Keep M' g1 h1 w1 g2 h2 w2) : Keep (M ++ M') g h w g2 h2 w2 := by
  refine ⟨k2.heap, ⟨fun b o hz => k2.le.Z b o (k1.le.Z b o hz), Nat.le_trans k1.le.n k2.le.n, fun b hb hm => ?_, fun b hb hm => ?_⟩, k1.fr.trans' k2.fr k1.own, fun b o hz => ?_, fun k hk => ?_⟩
  · simp only [List.mem_append, not_or] at hm
    exact (k2.le.blk b (Nat.lt_of_lt_of_le hb k1.le.n) hm.2).trans (k1.le.blk b hb hm.1)
  · simp only [List.mem_append, not_or] at hm
    exact (k2.le.val b (Nat.lt_of_lt_of_le hb k1.le.n) hm.2).trans (k1.le.val b hb hm.1)
  · rcases k2.znew b o hz with q | q | q
    · exact k1.znew b o q
    · exact .inr (.inl (Nat.le_trans k1.fr.size q))
    · rcases k1.own b q with q | q
      · exact .inr (.inr q)
      · exact .inr (.inl q)
  · rcases k2.own k hk with q | q
    · exact k1.own k q
    · exact .inr (Nat.le_trans k1.fr.size q)

/-- Names below n alone: the rest may be forgotten. -/
theorem scB_rep {w : World} {g : Gh} {n : Nat} {u : Value} {v : V} (hr : Rep w g u v) : v.scB n = true → Rep w (g.cut n) u v := by
  have aux : ∀ (us : Array Value) (cs : List V), (∀ (i : Nat) u c, us[i]? = some u → cs[i]? = some c → c.scB n = true → Rep w (g.cut n) u c) → V.scL n cs = true →
      ∀ (i : Nat) u c, us[i]? = some u → cs[i]? = some c → Rep w (g.cut n) u c := by
    intro us cs ih hs i u c hu hc
    rw [scL_all] at hs
    exact ih i u c hu hc (List.all_eq_true.1 hs c (List.mem_of_getElem? hc))
  induction hr with
  | any u => intro _; exact .any u
  | nils => intro _; exact .nils
  | d h => intro _; exact .d h
  | agg us cs hl h ih => intro hs; exact .agg us cs hl (aux us cs ih (by simpa [V.scB] using hs))
  | tup us cs hl h ih => intro hs; exact .tup us cs hl (aux us cs ih (by simpa [V.scB] using hs))
  | fn f us cs hl h ih => intro hs; exact .fn f us cs hl (aux us cs ih (by simpa [V.scB] using hs))
  | own b hb => intro hs; exact .own (g := g.cut n) b (show b < n by simpa [V.scB] using hs)
  | map b hb => intro hs; exact .map (g := g.cut n) b (show b < n by simpa [V.scB] using hs)
  | ptr b off hb => intro hs; exact .ptr (g := g.cut n) b off (show b < n by simpa [V.scB] using hs)
  | pml b sz i off hb => intro hs; exact .pml (g := g.cut n) b sz i off (show b < n by simpa [V.scB] using hs)
  | pel blk off cs U hZ hc hr => intro _; exact .pel blk off cs U hZ hc hr
  | nilp => intro _; exact .nilp
  | nilf => intro _; exact .nilf
theorem scB_box {w : World} {g : Gh} {n b : Nat} {x : Box} (hs : x.scB n = true) (hr : BoxRep w g b x) : BoxRep w (g.cut n) b x := by
  cases x with
  | gone => trivial
  | mp kk rows => exact hr
  | arr e sz rows => exact hr
  | cells t vs =>
    obtain ⟨us, h1, h2, h3⟩ := hr
    refine ⟨us, h1, h2, fun i u v hu hv => scB_rep (h3 i u v hu hv) ?_⟩
    have : vs.all (V.scB n) = true := by rw [← scL_all]; exact hs
    exact List.all_eq_true.1 this v (List.mem_of_getElem? hv)
theorem Keep.cutN {M : List Nat} {g g1 : Gh} {h h1 : List Box} {w w1 : World} (k : Keep M g h w g1 h1 w1) {n : Nat} (hn : g.n ≤ n) (hn1 : n ≤ h1.length) (hs : (h1.take n).all (Box.scB n) = true) : Keep M g h w (g1.cut n) (h1.take n) w1 := by
  have hget : ∀ (b : Nat) x, (h1.take n)[b]? = some x → h1[b]? = some x := fun b x hx => by
    rw [List.getElem?_take] at hx
    split at hx
    · exact hx
    · cases hx
  have hat : ∀ (b : Nat) (x : Box), x.at? (g1.cut n) b = x.at? g1 b := fun b x => by cases x <;> rfl
  have hown : ∀ q, Owned (g1.cut n) (h1.take n) q → Owned g1 h1 q := fun q ⟨b, x, hx, hq⟩ => ⟨b, x, hget b x hx, by rwa [hat] at hq⟩
  refine ⟨⟨by simp [Gh.cut]; omega, fun b x hx => scB_box (List.all_eq_true.1 hs x (List.mem_of_getElem? hx)) (k.heap.rep b x (hget b x hx)), fun b c x y q hx hy h2 h3 => ?_, fun q o hq hz => k.heap.zsep q o (hown q hq) hz, k.heap.zlt⟩,
    ⟨k.le.Z, hn, k.le.blk, k.le.val⟩, k.fr, k.znew, fun q hq => k.own q (hown q hq)⟩
  rw [hat] at h2 h3
  exact k.heap.sep b c x y q (hget b x hx) (hget c y hy) h2 h3

/-- Nothing that was there has turned. -/
theorem Keep.of_fr {g : Gh} {h : List Box} {w w' : World} (hs : SimH g h w) (hfr : Fr (fun _ => False) w w') : Keep [] g h w g h w' := by
  have ho : Over [] w g w' g := ⟨Gh.Le.refl _ _, fun b o hz => hfr.cell (hs.zlt b o hz) (fun h => h)⟩
  refine ⟨⟨hs.n, fun b x hx => ?_, hs.sep, hs.zsep, fun b o hz => Nat.lt_of_lt_of_le (hs.zlt b o hz) hfr.size⟩, Gh.Le.refl _ _, hfr.mono (fun _ h => h.elim), fun b o hz => .inl hz, fun k hk => .inl hk⟩
  have := BoxRep.over ho (by rw [hs.n]; exact (List.getElem?_eq_some_iff.1 hx).1) (by simp) (fun k hk => hfr.block k ((hs.rep b x hx).lt hk) (fun h => h)) (hs.rep b x hx)
  rwa [Box.kill_nil] at this

theorem MCall.pcall {f : FuncId} {args : List V} {e : TypeId} {sz : Nat} {rows : List (List D)} (hc : MCall P f args e sz rows) : PCall P f args (.d (.sl sz rows)) := by
  intro g w us hs hu
  refine (hc g w us hs hu).mono ?_
  rintro _ w' ⟨u, g', rfl, hr, hk⟩
  obtain ⟨g2, hk2, hr2⟩ := freeze_step hk.heap (b := 0) rfl
  have hn : g.n = 0 := hs.n
  have := (hk.trans hk2).cutN (n := 0) (by omega) (by omega) rfl
  exact ⟨u, g2.cut 0, rfl, scB_rep (hr2 u _ hr) rfl, by simpa using this⟩

def D.flat : D → Bool
  | .sl .. => false
  | _ => true
def V.flatC : V → Bool
  | .d x => x.flat
  | _ => false
def V.flatB : V → Bool
  | .agg cs => cs.all V.flatC
  | v => v.flatC
def V.flatT : V → Bool
  | .tup cs => cs.all V.flatB
  | v => v.flatB
theorem flatD_rep {w w' : World} {Z Z' : Nat → Nat → Prop} {u : Value} {x : D} (hf : x.flat = true) (hr : RepD w Z u x) : RepD w' Z' u x := by
  cases hr <;> first | exact .int _ _ | exact .bool _ | exact .str _ | simp [D.flat] at hf
theorem flatC_rep {w w' : World} {g g' : Gh} {u : Value} {v : V} (hf : v.flatC = true) (hr : Rep w g u v) : Rep w' g' u v := by
  cases hr <;> first | (simp [V.flatC] at hf; done) | skip
  rename_i x h
  exact .d (flatD_rep hf h)
theorem flatB_rep {w w' : World} {g g' : Gh} {u : Value} {v : V} (hf : v.flatB = true) (hr : Rep w g u v) : Rep w' g' u v := by
  cases v with
  | agg cs =>
    cases hr with
    | agg us cs hl h => exact .agg us cs hl fun i u c hu hc => flatC_rep (List.all_eq_true.1 hf c (List.mem_of_getElem? hc)) (h i u c hu hc)
  | d x => exact flatC_rep hf hr
  | _ => simp [V.flatB, V.flatC] at hf
theorem flatT_rep {w w' : World} {g g' : Gh} {u : Value} {v : V} (hf : v.flatT = true) (hr : Rep w g u v) : Rep w' g' u v := by
  cases v with
  | tup cs =>
    cases hr with
    | tup us cs hl h => exact .tup us cs hl fun i u c hu hc => flatB_rep (List.all_eq_true.1 hf c (List.mem_of_getElem? hc)) (h i u c hu hc)
  | agg cs => exact flatB_rep hf hr
  | d x => exact flatB_rep hf hr
  | _ => simp [V.flatT, V.flatB, V.flatC] at hf

theorem out1_rep {t : TypeId} {v : V} {w : World} {g : Gh} {u : Value} (hr : Rep w g u v) : Rep w g u (can1 P t v) := by
  unfold can1
  split
  · rename_i ds h1 h2
    unfold out1 at h1
    split at h1
    · rename_i ss cs _ _
      obtain ⟨q1, q2⟩ := toDs_spec h1
      cases hr with
      | agg us _ hl hr =>
        refine .agg us _ (by simp [hl, q1]) fun i u c hu hc => ?_
        rw [List.getElem?_map, Option.map_eq_some_iff] at hc
        obtain ⟨x, hx, rfl⟩ := hc
        have hi := (Array.getElem?_eq_some_iff.1 hu).1
        have hcs := List.getElem?_eq_getElem (l := cs) (i := i) (by omega)
        obtain ⟨s, hs⟩ := q2 i _ x hcs hx
        exact .d (toD_rep (hr i u _ hu hcs) hs)
    · rename_i hf; rw [h2] at hf; cases hf
    · cases h1
  · rename_i d h1 h2
    unfold out1 at h1
    split at h1
    · rename_i ht; rw [h2] at ht; cases ht
    · split at h1
      · rename_i hx; cases h1; exact .d (toD_rep hr hx)
      · cases h1
    · cases h1
  · exact hr
theorem canL_reps : ∀ {ts : List TypeId} {vs : List V} {w : World} {g : Gh} {us : List Value}, Reps w g us vs → Reps w g us (canL P ts vs)
  | [], vs, w, g, us, h => by cases vs <;> exact h
  | _ :: _, [], w, g, us, h => h
  | t :: ts, v :: vs, w, g, [], h => by have := h.1; simp at this
  | t :: ts, v :: vs, w, g, u :: us, h => by
    have h2 := canL_reps (ts := ts) (vs := vs) (us := us) (w := w) (g := g) ⟨by have := h.1; simpa using this, fun i u v h1 h2 => h.2 (i + 1) u v (by simpa using h1) (by simpa using h2)⟩
    refine ⟨by have := h2.1; simp [canL, this], fun i u' v' h1 h3 => ?_⟩
    cases i with
    | zero => simp [canL] at h1 h3; subst h1; subst h3; exact out1_rep (h.2 0 _ _ rfl rfl)
    | succ i => exact h2.2 i u' v' (by simpa using h1) (by simpa [canL] using h3)
theorem HCall.can {M : List Nat} {f : FuncId} {ts : List TypeId} {vs : List V} {h h' : List Box} {r : V} (hc : HCall P M f (canL P ts vs) h r h') : HCall P M f vs h r h' :=
  fun g w us hs hu => hc g w us hs (canL_reps hu)

/-- A call that only looks at what it is given: own slices stay own. -/
theorem call_borrow {En : Ent} {s s1 : VSt} {a : Act} {w : World} {y : Operand} {f : FuncId} {caps : List V} {args : Array Operand} {ts : Array TypeId} {pts : List TypeId} {v : V} (hs : SimE En s a w) (hs1 : SimE En s1 a w)
    (hop : o.op = .call { callee := .value y, args := args, argTypes := ts }) (hc : s1.get y = .fn f caps) (hp : (canL P pts (args.toList.map s1.get ++ caps)).all V.pureB = true) (hg : goodF P f = true)
    (hcall : PCall P f (canL P pts (args.toList.map s1.get ++ caps)) v) (hflat : v.flatT = true) {K : Act → World → Prop} {Q : Exit → Act → World → Prop} (hK : ∀ a' w', SimE En (s.next [] s.h o.dst v) a' w' → K a' w') : o.wp P a w K Q := by
  obtain ⟨g, hs⟩ := hs
  obtain ⟨g1, hs1⟩ := hs1
  have hr := hs1.get y
  rw [hc] at hr
  generalize hu0 : a.eval y = u0 at hr
  cases hr with
  | fn _ us _ hl hcap =>
    have hargs : Reps w g1 (args.toList.map a.eval ++ us.toList) (args.toList.map s1.get ++ caps) := ⟨by simp [hl], fun i u v h1 h2 => by
      rw [List.getElem?_append] at h1 h2
      simp only [List.length_map] at h1 h2
      split at h1
      · rename_i hi
        rw [if_pos hi] at h2
        rw [List.getElem?_map, Option.map_eq_some_iff] at h1 h2
        obtain ⟨q, hq, rfl⟩ := h1
        obtain ⟨q', hq', rfl⟩ := h2
        rw [hq] at hq'; cases hq'
        exact hs1.get q
      · rename_i hi
        rw [if_neg hi] at h2
        exact hcap _ u v (by rwa [Array.getElem?_toList] at h1) h2⟩
    have hargs := canL_reps (P := P) (ts := pts) hargs
    have hcl := hcall (g0 g1.Z) w _ (simH_nil hs1.heap.zlt) ⟨hargs.1, fun i u v h1 h2 => pureB_rep (g := g1) (g' := g0 g1.Z) rfl (List.all_eq_true.1 hp _ (List.mem_of_getElem? h2)) (hargs.2 i u v h1 h2)⟩
    have hrun : (execOp a.eval o).run P w = .ok (.enter f (args.toList.map a.eval ++ us.toList).toArray) w := by
      have : (args.toList.map a.eval ++ us.toList).toArray = (#[] ++ args.map a.eval) ++ us := by
        apply Array.ext'; simp
      rw [this]
      simp [execOp, hop, resolve, hu0, Deferred.ofValue, invoke, run_callFunc hg]
    unfold Oper.wp
    rw [hrun, Oper.upon_enter]
    refine hcl.mono ?_
    rintro e w' ⟨u, g', rfl, hu, hk⟩
    have hfr : Fr (fun _ => False) w w' := hk.fr.mono fun k hk => by obtain ⟨b, x, hx, _⟩ := hk; simp at hx
    exact hK _ _ ⟨g, hs.next (Keep.of_fr hs.heap hfr) (by simp [okM]) (flatT_rep hflat hu) o.dst⟩

/-- What an answer of the environment says. -/
def PGood (P : Program) (f : FuncId) (args : List V) : PRes → Prop
  | .val ds => ∃ ts ss v, sigP P f = some ts ∧ shR P ts = some ss ∧ ds.length = ss.length ∧ mkV P ts ds = some v ∧ PCall P f args v
  | .own e sz rows => ∃ t, sigP P f = some [t] ∧ elO P t = some (e, sz) ∧ MCall P f args e sz rows
def EnvGood (P : Program) (E : Env) : Prop := ∀ f args p, args.all V.pureB = true → E.call f args = some p → PGood P f args p

theorem elO_sh {t e : TypeId} {sz : Nat} (h : elO P t = some (e, sz)) : shOf P 9 t = some [.sl sz] ∧ aggB P t = false := by
  obtain ⟨hu, hn⟩ := elO_spec h
  constructor
  · simp only [shOf, hu, hn, Option.map_some]
  · unfold aggB; rw [hu]

theorem mkVs_pure : ∀ {ts : List TypeId} {ds : List D} {vs : List V}, mkVs P ts ds = some vs → vs.all V.pureB = true ∧ vs.length = ts.length
  | [], [], vs, h => by cases h; exact ⟨rfl, rfl⟩
  | [], _ :: _, vs, h => by cases h
  | t :: ts, ds, vs, h => by
    unfold mkVs at h
    split at h
    · split at h
      · rename_i vs' _ h2
        cases h
        obtain ⟨q1, q2⟩ := mkVs_pure h2
        simp only [List.all_cons, q1, Bool.and_true, List.length_cons, q2, and_true]
        show (List.map V.d _).all V.pureC = true
        rw [List.all_eq_true]
        intro x hx
        obtain ⟨d, _, rfl⟩ := List.mem_map.1 hx
        rfl
      · cases h
    · split at h
      · split at h
        · rename_i vs' h2
          cases h
          obtain ⟨q1, q2⟩ := mkVs_pure h2
          simp only [List.all_cons, q1, Bool.and_true, List.length_cons, q2, and_true]
          rfl
        · cases h
      · cases h
    · cases h
theorem mkV_pure {ts : List TypeId} {ds : List D} {v : V} (h : mkV P ts ds = some v) : v.pureT = true := by
  unfold mkV at h
  split at h
  · rename_i v' hv
    cases h
    have := (mkVs_pure hv).1
    simp only [List.all_cons, List.all_nil, Bool.and_true] at this
    cases v <;> first | exact this | skip
    simp only [V.pureB, V.pureT, List.all_eq_true] at this ⊢
    intro c hc
    have := this c hc
    cases c <;> simp_all [V.pureC, V.pureB]
  · rename_i vs _ hv
    cases h
    exact (mkVs_pure hv).1
  · cases h
theorem allflat {ss : List Sh} {ds : List D} (hf : ss.all Sh.flat = true) (hr : ∀ (i : Nat) d s, ds[i]? = some d → ss[i]? = some s → (s.flat = true → d.flat = true)) (hl : ds.length = ss.length) : ∀ d ∈ ds, d.flat = true := by
  intro d hd
  obtain ⟨i, hi⟩ := List.mem_iff_getElem?.1 hd
  have hi' : i < ss.length := by rw [← hl]; exact (List.getElem?_eq_some_iff.1 hi).1
  exact hr i d ss[i] hi (List.getElem?_eq_getElem hi') (List.all_eq_true.1 hf _ (List.getElem_mem hi'))
theorem mkVs_flat : ∀ {ts : List TypeId} {ds : List D} {vs : List V}, mkVs P ts ds = some vs → (∀ d ∈ ds, d.flat = true) → vs.all V.flatB = true
  | [], [], vs, h, _ => by cases h; rfl
  | [], _ :: _, vs, h, _ => by cases h
  | t :: ts, ds, vs, h, hd => by
    unfold mkVs at h
    split at h
    · split at h
      · rename_i vs' _ h2
        cases h
        simp only [List.all_cons, mkVs_flat h2 (fun d hq => hd d (List.mem_of_mem_drop hq)), Bool.and_true]
        simp only [V.flatB, List.all_eq_true, List.mem_map]
        rintro _ ⟨d, hq, rfl⟩
        exact hd d (List.mem_of_mem_take hq)
      · cases h
    · split at h
      · split at h
        · rename_i d ds _ vs' h2
          cases h
          simp only [List.all_cons, mkVs_flat h2 (fun q hq => hd q (List.mem_cons_of_mem _ hq)), Bool.and_true]
          exact hd d (List.mem_cons_self ..)
        · cases h
      · cases h
    · cases h
theorem mkV_flat {ts : List TypeId} {ds : List D} {v : V} (h : mkV P ts ds = some v) (hd : ∀ d ∈ ds, d.flat = true) : v.flatT = true := by
  unfold mkV at h
  split at h
  · rename_i v' hv
    cases h
    have := mkVs_flat hv hd
    simp only [List.all_cons, List.all_nil, Bool.and_true] at this
    cases v <;> first | exact this | simp [V.flatB, V.flatC] at this
  · rename_i vs _ hv
    cases h
    exact mkVs_flat hv hd
  · cases h

/-- The kinds of opened cells. -/
theorem openT_sh {s : Sh} {v : Option D} {x : D} (hk : (openT s v).run E = some x) : s.flat = true → x.flat = true := by
  intro hf
  cases s <;> simp only [openT, Tree.run, Sh.flat] at hk hf <;> first | (cases hf; done) | (obtain ⟨n, h1, h2⟩ := Option.bind_eq_some_iff.1 hk; cases h2; rfl)
theorem openRT_sh (hE : E.Ok) : ∀ {ss : List Sh} {cs : List D} {j : Nat} {xs : List D}, (openRT sy ss cs j).run E = some xs → ∀ (i : Nat) d s, xs[i]? = some d → ss[i]? = some s → (s.flat = true → d.flat = true)
  | [], cs, j, xs, hk => by cases hk; simp
  | s :: ss, cs, j, xs, hk => by
    unfold openRT at hk
    obtain ⟨x, h1, hk⟩ := run_bind_some hE hk
    obtain ⟨xs', h2, hk⟩ := run_bind_some hE hk
    cases hk
    intro i d s' hd hs hf
    cases i with
    | zero => simp at hd hs; subst hd; subst hs; exact openT_sh h1 hf
    | succ i => exact openRT_sh hE h2 i d s' (by simpa using hd) (by simpa using hs) hf

theorem callT_sound (hE : E.Ok) (hG : EnvGood P E) {f : FuncId} {vs : List V} {ts : List TypeId} {v : V} (hp : vs.all V.pureB = true) (hs : sigP P f = some ts) (hk : (callT sy P f vs ts).run E = some v) :
    PCall P f vs v ∧ v.pureT = true ∧ ∀ ss, shR P ts = some ss → ss.all Sh.flat = true → v.flatT = true := by
  unfold callT at hk
  split at hk
  · rename_i ss hss
    simp only [Tree.run] at hk
    · obtain ⟨p, hpc, hk⟩ := Option.bind_eq_some_iff.1 hk
      obtain ⟨xs, h1, hk⟩ := run_bind_some hE hk
      obtain ⟨q1, q2⟩ := openRT_run hE h1
      split at hk
      · rename_i v' hv
        cases hk
        have hgood := hG f vs p hp hpc
        have key : ∀ ds : List D, ds.length = ss.length → (∀ (i : Nat) x, xs[i]? = some x → ds[0 + i]? = some x) → xs = ds := by
          intro ds hl hx
          apply List.ext_getElem?
          intro i
          cases hxi : xs[i]? with
          | some x => have := hx i x hxi; rw [Nat.zero_add] at this; rw [this]
          | none =>
            have := List.getElem?_eq_none_iff.1 hxi
            exact (List.getElem?_eq_none_iff.2 (by omega)).symm
        refine ⟨?_, mkV_pure hv, fun ss' hss' hf => ?_⟩
        · cases p with
          | val ds =>
            obtain ⟨ts', ss', v2, e1, e2, e3, e4, e5⟩ := hgood
            rw [hs] at e1; cases e1
            rw [hss] at e2; cases e2
            have := key ds e3 q2
            subst this
            rw [hv] at e4; cases e4
            exact e5
          | own e sz rows =>
            obtain ⟨t, e1, e2, e3⟩ := hgood
            rw [hs] at e1; cases e1
            obtain ⟨f1, f2⟩ := elO_sh e2
            have : ss = [.sl sz] := by
              simp only [shR, f1] at hss
              cases hss; rfl
            subst this
            have := key [.sl sz rows] rfl q2
            subst this
            have : mkV P [t] [.sl sz rows] = some (.d (.sl sz rows)) := by simp [mkV, mkVs, f1, f2]
            rw [this] at hv; cases hv
            exact e3.pcall
        · rw [hss] at hss'; cases hss'
          exact mkV_flat hv (allflat hf (openRT_sh hE h1) q1)
      · cases hk
  · cases hk

theorem callOf_some {f : FuncId} {vs : List V} (hc : callOf ρ o = some (f, vs)) (hf : ∀ f, ρ (.func f) = .fn f []) :
    ∃ y args ts caps, o.op = .call { callee := .value y, args := args, argTypes := ts } ∧ ρ y = .fn f caps ∧ vs = args.toList.map ρ ++ caps := by
  unfold callOf at hc
  split at hc
  · rename_i y args ts hop
    split at hc
    · rename_i f' caps hcv
      cases hc
      refine ⟨y, args, ts, caps, hop, ?_, rfl⟩
      unfold calleeV at hcv
      split at hcv
      · cases hcv; exact hf _
      · split at hcv
        · rename_i heq; cases hcv; exact heq
        · cases hcv
    · cases hc
  · cases hc

def EntGood (P : Program) (E : Env) (ent : FuncId → List V → List Box → Tree (List Nat × V × List Box)) : Prop :=
  ∀ f vs h r, (ent f vs h).run E = some r → HCall P r.1 f vs h r.2.1 r.2.2

theorem forceD_eq.{v} {β : Type v} (x : D) (K : D → β) : forceD x K = K x := by cases x <;> rfl
theorem forceV_eq.{v} {β : Type v} (x : V) (K : V → β) : forceV x K = K x := by cases x <;> first | rfl | (unfold forceV; exact forceD_eq _ _)
theorem forceL_eq.{v} {β : Type v} : ∀ (l : List V) (K : List V → β), forceL l K = K l
  | [], _ => rfl
  | v :: vs, K => by unfold forceL; rw [forceV_eq, forceL_eq vs]
theorem forceB_eq.{v} {β : Type v} (x : Box) (K : Box → β) : forceB x K = K x := by cases x <;> first | rfl | (unfold forceB; exact forceL_eq _ _)
theorem forceH_eq.{v} {β : Type v} : ∀ (l : List Box) (K : List Box → β), forceH l K = K l
  | [], _ => rfl
  | v :: vs, K => by unfold forceH; rw [forceB_eq, forceH_eq vs]
theorem forceSp_eq.{u, v} {α : Type u} {β : Type v} : ∀ (l : List α) (K : List α → β), forceSp l K = K l
  | [], _ => rfl
  | v :: vs, K => by unfold forceSp; rw [forceSp_eq vs]
theorem forceS_eq (s : VSt) (K : VSt → Tree VSt) : forceS s K = K s := by unfold forceS; rw [forceL_eq, forceH_eq]

theorem rep_fn_inv {w : World} {g : Gh} {u : Value} {f : FuncId} {cs : List V} (hr : Rep w g u (.fn f cs)) : ∃ us, u = .func (.func f) #[] us := by cases hr; exact ⟨_, rfl⟩
theorem pureCallT_sound (hE : E.Ok) (hG : EnvGood P E) {C : CfgO} {En : Ent} {s s' : VSt} {a : Act} {w : World} {f : FuncId} {vs0 : List V} (hc0 : callOf s.get o = some (f, vs0)) (hk : (pureCallT sy P C s o f).run E = some s') (hs : SimE En s a w)
    {K : Act → World → Prop} {Q : Exit → Act → World → Prop} (hK : ∀ a' w', SimE En s' a' w' → K a' w') : o.wp P a w K Q := by
  unfold pureCallT at hk
  simp only at hk
  split at hk
  · rename_i f1 vs ts hc1 hsig
    generalize hcan : canL P (parP P f) vs = vc at hk
    split at hk
    · rename_i hp
      have hs1 : SimE En (s.frz (fzl s o)) a w := hs.frzs
      obtain ⟨y0, args0, ts0, caps0, hop0, hy0, _⟩ := callOf_some hc0 (fun f => rfl)
      obtain ⟨y, args, tys, caps, hop, hy, rfl⟩ := callOf_some hc1 (fun f => rfl)
      have hyy : y0 = y := by rw [hop0] at hop; simp at hop; exact hop.1
      subst hyy
      have hff : f1 = f := by
        obtain ⟨g, hsg⟩ := hs
        obtain ⟨g1, hsg1⟩ := hs1
        have r0 := hsg.get y0
        have r1 := hsg1.get y0
        rw [hy0] at r0
        rw [hy] at r1
        generalize a.eval y0 = u at r0 r1
        obtain ⟨_, e0⟩ := rep_fn_inv r0
        obtain ⟨_, e1⟩ := rep_fn_inv r1
        rw [e0] at e1
        cases e1; rfl
      subst hff
      have hg := sigP_some hsig
      split at hk
      · split at hk
        · split at hk
          · rename_i t e sz hel
            simp only [Tree.run] at hk
            obtain ⟨rows, hpc, hk⟩ := Option.bind_eq_some_iff.1 hk
            cases hk
            obtain ⟨t', e1, e2, hm⟩ := hG _ _ _ hp (opM_some hpc)
            have hh := hm.hcall hp (s.frz (fzl s o)).h
            rw [← hcan] at hh
            exact (gives_callV hop hy hg hh.can).sim hs1 (by simp [okM]) hK
          · cases hk
        · cases hk
      · split at hk
        · rename_i ss hss
          split at hk
          · rename_i hfl
            obtain ⟨v, h1, hk⟩ := run_bind_some hE hk
            cases hk
            obtain ⟨q1, q2, q3⟩ := callT_sound hE hG hp hsig h1
            exact call_borrow hs hs1 hop hy (by rw [hcan]; exact hp) hg (by rw [hcan]; exact q1) (q3 ss hss hfl) hK
          · obtain ⟨v, h1, hk⟩ := run_bind_some hE hk
            cases hk
            obtain ⟨q1, q2, q3⟩ := callT_sound hE hG hp hsig h1
            have hh := q1.hcall hp q2 (s.frz (fzl s o)).h
            rw [← hcan] at hh
            exact (gives_callV hop hy hg hh.can).sim hs1 (by simp [okM]) hK
        · cases hk
    · cases hk
  · cases hk

theorem stepT_sound (hE : E.Ok) (hG : EnvGood P E) {ent : FuncId → List V → List Box → Tree (List Nat × V × List Box)} (hent : EntGood P E ent) {C : CfgO} {En : Ent} {s s' : VSt} {a : Act} {w : World} (hk : (stepT sy P ent C En.g.n En.M s o).run E = some s') (hs : SimE En s a w)
    {K : Act → World → Prop} {Q : Exit → Act → World → Prop} (hK : ∀ a' w', SimE En s' a' w' → K a' w') : o.wp P a w K Q := by
  unfold stepT at hk
  split at hk
  · rename_i f vs hc
    split at hk
    · rename_i hi hsig
      obtain ⟨r, h1, hk⟩ := run_bind_some hE hk
      split at hk
      · rename_i hM
        cases hk
        obtain ⟨y, args, tys, caps, hop, hy, rfl⟩ := callOf_some hc (fun f => rfl)
        exact (gives_callV hop hy (sigP_some hsig) (hent _ _ _ _ h1)).sim hs hM hK
      · cases hk
    · exact pureCallT_sound hE hG hc hk hs hK
  · simp only at hk
    obtain ⟨r, h1, hk⟩ := run_bind_some hE hk
    split at hk
    · rename_i hM
      cases hk
      exact (opT_sound hE h1).sim hs.frzs hM hK
    · cases hk

theorem segStepT_sound (hE : E.Ok) (hG : EnvGood P E) {En : Ent} {s : VSt} {a : Act} {w : World} (hk : (segStepT sy P s o).run E = some x) (hs : SimE En s a w)
    {K : Act → World → Prop} {Q : Exit → Act → World → Prop} (hK : ∀ a' w', SimE En (s.next [] s.h o.dst x) a' w' → K a' w') : o.wp P a w K Q := by
  unfold segStepT at hk
  split at hk
  · rename_i f vs hc0
    split at hk
    · rename_i f1 vs0 ts hc1 hsig
      generalize hcan : canL P (parP P f) vs0 = vc at hk
      simp only at hk
      split at hk
      · rename_i ss hp hss
        split at hk
        · rename_i hfl
          have hs1 : SimE En (s.frz (fzl s o)) a w := hs.frzs
          obtain ⟨y0, args0, ts0, caps0, hop0, hy0, _⟩ := callOf_some hc0 (fun f => rfl)
          obtain ⟨y, args, tys, caps, hop, hy, rfl⟩ := callOf_some hc1 (fun f => rfl)
          have hyy : y0 = y := by rw [hop0] at hop; simp at hop; exact hop.1
          subst hyy
          have hff : f1 = f := by
            obtain ⟨g, hsg⟩ := hs
            obtain ⟨g1, hsg1⟩ := hs1
            have r0 := hsg.get y0
            have r1 := hsg1.get y0
            rw [hy0] at r0
            rw [hy] at r1
            generalize a.eval y0 = u at r0 r1
            obtain ⟨_, e0⟩ := rep_fn_inv r0
            obtain ⟨_, e1⟩ := rep_fn_inv r1
            rw [e0] at e1
            cases e1; rfl
          subst hff
          obtain ⟨q1, q2, q3⟩ := callT_sound hE hG hp hsig hk
          exact call_borrow hs hs1 hop hy (by rw [hcan]; exact hp) (sigP_some hsig) (by rw [hcan]; exact q1) (q3 ss hss hfl) hK
        · cases hk
      · cases hk
    · cases hk
  · exact (opPT_sound hE hk s.h (Pre.refl _)).sim hs (by simp [okM]) hK

/-- What a part of a region comes to: boxes and other slots stay as they are. -/
theorem set_self' {α : Type} {l : List α} {k : Nat} {v : α} (hv : l[k]? = some v) : l.set k v = l := by
  apply List.ext_getElem?
  intro i
  rw [List.getElem?_set]
  by_cases hi : k = i
  · subst hi
    rw [if_pos rfl, if_pos (List.getElem?_eq_some_iff.1 hv).1, hv]
  · rw [if_neg hi]
theorem next_nil (s : VSt) (dst : Option Tmp) (x : V) : s.next [] s.h dst x = ⟨match dst with | some d => s.t.set d x | none => s.t, s.h⟩ := by cases dst <;> rfl

theorem segT_sound (hE : E.Ok) (hG : EnvGood P E) {En : Ent} {ops : Array Oper} {Q : Exit → Act → World → Prop} {s' : VSt} {rest : List Oper} : ∀ {os : List Oper} {s : VSt} {a : Act} {w : World},
    (segT sy P ops os s).run E = some s' → SimE En s a w → (∀ a' w', SimE En s' a' w' → wpList P ops Q rest a' w') → wpList P ops Q (os ++ rest) a w
  | [], s, a, w, hk, hs, hq => by cases hk; exact hq a w hs
  | o :: os, s, a, w, hk, hs, hq => by
    have exec : ∀ s, SimE En s a w → ((segStepT sy P s o).bind fun x => forceS (s.next [] s.h o.dst x) (segT sy P ops os)).run E = some s' → o.wp P a w (wpList P ops Q (os ++ rest)) Q := by
      intro s hs hk
      obtain ⟨x, h1, hk⟩ := run_bind_some hE hk
      rw [forceS_eq] at hk
      exact segStepT_sound hE hG h1 hs fun a' w' hs' => segT_sound hE hG hk hs' hq
    have pass : ∀ s, SimE En s a w → (forceS (s.next [] s.h o.dst (.tup [])) (segT sy P ops os)).run E = some s' → wpList P ops Q (os ++ rest) (a.put o.dst undef) w := by
      intro s hs hk
      rw [forceS_eq] at hk
      obtain ⟨g, hs'⟩ := hs
      exact segT_sound hE hG hk ⟨g, hs'.next (.refl hs'.heap) (by simp [okM]) (.tup #[] [] rfl (by simp)) o.dst⟩ hq
    unfold segT at hk
    simp only at hk
    split at hk
    · rename_i hg
      refine wpList_step fun K' hK => ?_
      simp only [Region.wanted, hg, if_true]
      exact Oper.wp_mono hK (exec s hs hk)
    · rename_i j want hg
      split at hk
      · rename_i t ht
        split at hk
        · rename_i c hc
          obtain ⟨hs1, ha⟩ := setT_sim hs hc
          have hy : yielded ops a.tmps j = some c := by simp [yielded, ht, ha]
          refine wpList_step fun K' hK => ?_
          simp only [Region.wanted, hg, hy]
          split at hk <;> cases c
          · rw [if_neg (by simp)]
            exact hK _ _ (pass _ hs1 hk)
          · rw [if_pos (by simp)]
            exact Oper.wp_mono hK (exec _ hs1 hk)
          · rw [if_pos (by simp)]
            exact Oper.wp_mono hK (exec _ hs1 hk)
          · rw [if_neg (by simp)]
            exact hK _ _ (pass _ hs1 hk)
        · rename_i hc
          have hy : yielded ops a.tmps j = none := by
            have hlt : t < s.t.length := (List.getElem?_eq_some_iff.1 hc).1
            obtain ⟨g, hs'⟩ := hs
            have hlt' : t < a.tmps.size := by rw [hs'.size]; exact hlt
            have hu := hs'.tmps t _ _ (Array.getElem?_eq_getElem hlt') hc
            have ha : a.tmps[t]? = some a.tmps[t] := Array.getElem?_eq_getElem hlt'
            generalize a.tmps[t] = u at hu ha
            cases hu with
            | tup us cs hl h => simp [yielded, ht, ha]
          refine wpList_step fun K' hK => ?_
          simp only [Region.wanted, hg, hy]
          rw [if_neg (by simp)]
          exact hK _ _ (pass _ hs hk)
        · cases hk
      · cases hk

def dsts (os : List Oper) : List Nat := os.filterMap (·.dst)
theorem segT_frame (hE : E.Ok) {ops : Array Oper} {s' : VSt} : ∀ {os : List Oper} {s : VSt}, (segT sy P ops os s).run E = some s' → s'.h = s.h ∧ s'.t.length = s.t.length ∧ ∀ k, k ∉ dsts os → s'.t[k]? = s.t[k]?
  | [], s, hk => by cases hk; exact ⟨rfl, rfl, fun _ _ => rfl⟩
  | o :: os, s, hk => by
    have step : ∀ x : V, (segT sy P ops os (s.next [] s.h o.dst x)).run E = some s' → s'.h = s.h ∧ s'.t.length = s.t.length ∧ ∀ k, k ∉ dsts (o :: os) → s'.t[k]? = s.t[k]? := by
      intro x hk
      obtain ⟨q1, q2, q3⟩ := segT_frame hE hk
      rw [next_nil] at q1 q2 q3
      refine ⟨q1, by rw [q2]; cases o.dst <;> simp, fun k hk' => ?_⟩
      have hk2 : k ∉ dsts os := fun h => hk' (by unfold dsts at h ⊢; rw [List.filterMap_cons]; cases o.dst <;> simp [h])
      rw [q3 k hk2]
      cases hd : o.dst with
      | none => rfl
      | some d =>
        have : d ≠ k := fun e => hk' (by unfold dsts; rw [List.filterMap_cons, hd]; simp [e])
        simp only
        rw [List.getElem?_set, if_neg this]
    have exec : ((segStepT sy P s o).bind fun x => forceS (s.next [] s.h o.dst x) (segT sy P ops os)).run E = some s' → s'.h = s.h ∧ s'.t.length = s.t.length ∧ ∀ k, k ∉ dsts (o :: os) → s'.t[k]? = s.t[k]? := by
      intro hk
      obtain ⟨x, h1, hk⟩ := run_bind_some hE hk
      rw [forceS_eq] at hk
      exact step x hk
    have pass : (forceS (s.next [] s.h o.dst (.tup [])) (segT sy P ops os)).run E = some s' → s'.h = s.h ∧ s'.t.length = s.t.length ∧ ∀ k, k ∉ dsts (o :: os) → s'.t[k]? = s.t[k]? := by
      intro hk
      rw [forceS_eq] at hk
      exact step _ hk
    unfold segT at hk
    simp only at hk
    split at hk
    · exact exec hk
    · split at hk
      · rename_i t ht
        split at hk
        · rename_i c hc
          have e : ∀ b, c = b → s.setT t b = s := fun b hb => by
            subst hb
            show { s with t := s.t.set t _ } = s
            rw [set_self' hc]
          split at hk <;> cases c <;> simp only [Tree.run, e _ rfl] at hk
          · exact pass hk
          · exact exec hk
          · exact exec hk
          · exact pass hk
        · exact pass hk
        · cases hk
      · cases hk

theorem anyAll_spec : ∀ {os : List Oper} {t : List V}, (anyAll t os).length = t.length ∧ ∀ (k : Nat) v, (anyAll t os)[k]? = some v → v = .any ∨ (k ∉ dsts os ∧ t[k]? = some v)
  | [], t => ⟨rfl, fun k v h => .inr ⟨by simp [dsts], h⟩⟩
  | o :: os, t => by
    obtain ⟨q1, q2⟩ := anyAll_spec (os := os) (t := match o.dst with | some d => t.set d .any | none => t)
    refine ⟨by unfold anyAll; rw [q1]; cases o.dst <;> simp, fun k v h => ?_⟩
    unfold anyAll at h
    rcases q2 k v h with h1 | ⟨h1, h2⟩
    · exact .inl h1
    · cases hd : o.dst with
      | none =>
        rw [hd] at h2
        exact .inr ⟨by unfold dsts at h1 ⊢; rw [List.filterMap_cons, hd]; exact h1, h2⟩
      | some d =>
        rw [hd] at h2
        simp only at h2
        rw [List.getElem?_set] at h2
        by_cases hk : d = k
        · rw [if_pos hk] at h2
          split at h2
          · cases h2; exact .inl rfl
          · cases h2
        · rw [if_neg hk] at h2
          refine .inr ⟨?_, h2⟩
          unfold dsts at h1 ⊢
          rw [List.filterMap_cons, hd]
          simp only [List.mem_cons, not_or]
          exact ⟨fun e => hk e.symm, h1⟩
theorem SimE.less {En : Ent} {s s2 : VSt} {a : Act} {w : World} (hs : SimE En s a w) (hh : s2.h = s.h) (hl : s2.t.length = s.t.length) (ht : ∀ (k : Nat) v, s2.t[k]? = some v → v = .any ∨ s.t[k]? = some v) : SimE En s2 a w := by
  obtain ⟨g, hs⟩ := hs
  refine ⟨g, by rw [hh]; exact hs.heap, by rw [hl]; exact hs.size, fun i u v hu hv => ?_, hs.defers, by rw [hh]; exact hs.keep, by rw [hl]; exact hs.len⟩
  rcases ht i v hv with rfl | h
  · exact .any u
  · exact hs.tmps i u v hu h
theorem opsT_skip {A : Sy} {ent : FuncId → List V → List Box → Tree (List Nat × V × List Box)} {C : CfgO} {n0 : Nat} {M0 : List Nat} {ops : Array Oper} : ∀ (k : Nat) (os : List Oper) (s : VSt), opsT A P ent C n0 M0 ops k os s = opsT A P ent C n0 M0 ops 0 (os.drop k) s
  | 0, _, _ => rfl
  | k + 1, [], s => by simp [opsT]
  | k + 1, _ :: os, s => by
    show opsT A P ent C n0 M0 ops k os s = opsT A P ent C n0 M0 ops 0 (os.drop k) s
    exact opsT_skip k os s

theorem opsT_sound (hE : E.Ok) (hG : EnvGood P E) {ent : FuncId → List V → List Box → Tree (List Nat × V × List Box)} (hent : EntGood P E ent) {C : CfgO} {En : Ent} {ops : Array Oper} {Q : Exit → Act → World → Prop} {s' : VSt} : ∀ (n : Nat) {os : List Oper} {s : VSt} {a : Act} {w : World}, os.length ≤ n →
    (opsT sy P ent C En.g.n En.M ops 0 os s).run E = some s' → SimE En s a w → (∀ a' w', SimE En s' a' w' → Q .normal a' w') → wpList P ops Q os a w
  | _, [], s, a, w, _, hk, hs, hq => by cases hk; exact hq a w hs
  | 0, _ :: _, s, a, w, hn, _, _, _ => by simp at hn
  | n + 1, o :: os, s, a, w, hn, hk, hs, hq => by
    have hn : os.length ≤ n := by simpa using hn
    have exec : ∀ s, SimE En s a w → ((stepT sy P ent C En.g.n En.M s o).bind fun s' => forceS s' fun s' => match segOf P C ops o os with
      | some L => .cut ((segT sy P ops (os.take L) s').bind fun s2 => match s2.t[lastDst 0 (os.take L)]? with
          | some (.d (.bool b)) => .ret (.inl [.bool b])
          | _ => .fail) fun ds => .cB (sy.cell ds 0) fun b => forceS ⟨(anyAll s'.t (os.take L)).set (lastDst 0 (os.take L)) (.d (.bool b)), s'.h⟩ (opsT sy P ent C En.g.n En.M ops L os)
      | none => opsT sy P ent C En.g.n En.M ops 0 os s').run E = some s' → o.wp P a w (wpList P ops Q os) Q := by
      intro s hs hk
      obtain ⟨s1, h1, hk⟩ := run_bind_some hE hk
      rw [forceS_eq] at hk
      refine stepT_sound hE hG hent h1 hs fun a' w' hs' => ?_
      split at hk
      · rename_i L _
        simp only [Tree.run] at hk
        obtain ⟨q, h2, hk⟩ := Option.bind_eq_some_iff.1 hk
        obtain ⟨s2, h3, h4⟩ := run_bind_some hE h2
        have hre : os = os.take L ++ os.drop L := (List.take_append_drop L os).symm
        generalize os.take L = seg at h3 h4 hk hre
        rw [hre]
        refine segT_sound hE hG h3 hs' fun a2 w2 hs2 => ?_
        split at h4
        · rename_i b hb
          cases h4
          have hk : (forceS ⟨(anyAll s1.t seg).set (lastDst 0 seg) (.d (.bool b)), s1.h⟩ (opsT sy P ent C En.g.n En.M ops L os)).run E = some s' := hk
          rw [forceS_eq, opsT_skip] at hk
          obtain ⟨f1, f2, f3⟩ := segT_frame hE h3
          obtain ⟨g1, g2⟩ := anyAll_spec (os := seg) (t := s1.t)
          refine opsT_sound hE hG hent n (by simp; omega) hk ?_ hq
          refine hs2.less f1.symm (by simp [g1, f2]) fun k v hv => ?_
          simp only at hv
          rw [List.getElem?_set] at hv
          by_cases hkd : lastDst 0 seg = k
          · rw [if_pos hkd] at hv
            split at hv
            · cases hv; right; rw [← hkd]; exact hb
            · cases hv
          · rw [if_neg hkd] at hv
            rcases g2 k v hv with h5 | ⟨h5, h6⟩
            · exact .inl h5
            · right; rw [f3 k h5]; exact h6
        · cases h4
      · exact opsT_sound hE hG hent n hn hk hs' hq
    have pass : ∀ s, SimE En s a w → (forceS (s.next [] s.h o.dst (.tup [])) (opsT sy P ent C En.g.n En.M ops 0 os)).run E = some s' → wpList P ops Q os (a.put o.dst undef) w := by
      intro s hs hk
      rw [forceS_eq] at hk
      obtain ⟨g, hs'⟩ := hs
      exact opsT_sound hE hG hent n hn hk ⟨g, hs'.next (.refl hs'.heap) (by simp [okM]) (.tup #[] [] rfl (by simp)) o.dst⟩ hq
    unfold opsT at hk
    simp only at hk
    split at hk
    · rename_i hg
      refine wpList_step fun K' hK => ?_
      simp only [Region.wanted, hg, if_true]
      exact Oper.wp_mono hK (exec s hs hk)
    · rename_i j want hg
      split at hk
      · rename_i t ht
        split at hk
        · rename_i c hc
          obtain ⟨hs1, ha⟩ := setT_sim hs hc
          have hy : yielded ops a.tmps j = some c := by simp [yielded, ht, ha]
          refine wpList_step fun K' hK => ?_
          simp only [Region.wanted, hg, hy]
          split at hk <;> cases c
          · rw [if_neg (by simp)]
            exact hK _ _ (pass _ hs1 hk)
          · rw [if_pos (by simp)]
            exact Oper.wp_mono hK (exec _ hs1 hk)
          · rw [if_pos (by simp)]
            exact Oper.wp_mono hK (exec _ hs1 hk)
          · rw [if_neg (by simp)]
            exact hK _ _ (pass _ hs1 hk)
        · rename_i hc
          have hy : yielded ops a.tmps j = none := by
            have hlt : t < s.t.length := (List.getElem?_eq_some_iff.1 hc).1
            obtain ⟨g, hs'⟩ := hs
            have hlt' : t < a.tmps.size := by rw [hs'.size]; exact hlt
            have hu := hs'.tmps t _ _ (Array.getElem?_eq_getElem hlt') hc
            have ha : a.tmps[t]? = some a.tmps[t] := Array.getElem?_eq_getElem hlt'
            generalize a.tmps[t] = u at hu ha
            cases hu with
            | tup us cs hl h => simp [yielded, ht, ha]
          refine wpList_step fun K' hK => ?_
          simp only [Region.wanted, hg, hy]
          rw [if_neg (by simp)]
          exact hK _ _ (pass _ hs hk)
        · cases hk
      · cases hk
end
end Go.Vm
end

section
namespace Go.Vm

section
variable (A : Sy) (P : Program) (C : CfgO)

/-- An operation that leaves the boxes as they are; a call of a function on plain data may be one. -/
def opXT (h : List Box) (ρ : Operand → V) (o : Oper) : Tree V := match callOf ρ o with
  | some (f, vs0) => match canL P (parP P f) vs0 with
    | vs => match C.inl.contains f, vs.all V.pureB, sigP P f with
    | false, true, some ts => callT A P f vs ts
    | _, _, _ => .fail
  | none => opPT A P h ρ o

/-- What a guard lets through. -/
def guardT {β : Type} (ops : Array Oper) (o : Oper) (t : List V) (exec pass : List V → Tree β) : Tree β := match o.guard with
  | none => exec t
  | some (j, want) => match (ops[j]?).bind (·.dst) with
    | some k => match t[k]? with
      | some (.d (.bool c)) => match want with
        | true => .ite c (exec (t.set k (.d (.bool true)))) (pass (t.set k (.d (.bool false))))
        | false => .ite c (pass (t.set k (.d (.bool true)))) (exec (t.set k (.d (.bool false))))
      | some (.tup []) => pass t
      | _ => .fail
    | none => .fail

def preT (ops : Array Oper) (h0 : List Box) : List Oper → List V → List Box → Tree (List V × List Box)
  | [], t, hb => .ret (t, hb)
  | o :: os, t, hb => guardT ops o t (fun t => match allocV P o, hb with
      | some b, [] => forceL (putV t o.dst (.ptr h0.length 0)) fun t => preT ops h0 os t [b]
      | some _, _ => .fail
      | none, _ => (opXT A P C h0 (VSt.get ⟨t, h0⟩) o).bind fun x => forceL (putV t o.dst x) fun t => preT ops h0 os t hb)
    (fun t => forceL (putV t o.dst (.tup [])) fun t => preT ops h0 os t hb)

def stT (hW : List Box) (W : List Nat) (n0 : Nat) (hh : List Box) (t : TypeId) (a v : V) : Tree (Nat × Box) :=
  match v.cellsV, v.liveC hW with
  | some ns, true => match a with
    | .ptr b off => match W.contains b && decide (b < n0), hh[b]? with
      | true, some (.cells bt vs) => match ns.all (V.oneB hW), decide (szO P t = some ns.length), decide (off + ns.length ≤ vs.length) with
        | true, true, true => .ret (b, .cells bt (vs.take off ++ ns ++ vs.drop (off + ns.length)))
        | _, _, _ => .fail
      | _, _ => .fail
    | .pml b sz i off => match W.contains b && decide (b < n0), hh[b]?, shOf P 9 t with
      | true, some (.arr e sz' rows), some ss => match decide (sz' = sz), toDs ss ns with
        | true, some ds => match decide (szO P t = some ds.length), decide (off + ds.length ≤ sz) with
          | true, true => chk (A.inrn i rows) (.ret (b, .arr e sz (A.rput rows i off ds)))
          | _, _ => .fail
        | _, _ => .fail
      | _, _, _ => .fail
    | _ => .fail
  | _, _ => .fail

def pre2T (ops : Array Oper) (W : List Nat) (h0 : List Box) : Nat → List Oper → Bool → List V → List Box → Tree (List V × List Box)
  | _, [], _, t, hh => .ret (t, hh)
  | k, o :: os, cl, t, hh => guardT ops o t (fun t => match o.op with
      | .store ty y z => (stT A P (hideB h0 W) W h0.length hh ty (VSt.get ⟨t, h0⟩ y) (VSt.get ⟨t, h0⟩ z)).bind fun r => forceL (putV t o.dst .any) fun t => forceH (hh.set r.1 r.2) fun hh => pre2T ops W h0 (k + 1) os false t hh
      | _ => match allocV P o with
        | some b => match decide (hh.length = h0.length) with
          | true => forceL (putV t o.dst (.ptr h0.length 0)) fun t => pre2T ops W h0 (k + 1) os cl t (hh ++ [b])
          | false => .fail
        | none => match cl && early ops k with
          | true => (opXT A P C h0 (VSt.get ⟨t, h0⟩) o).bind fun x => forceL (putV t o.dst x) fun t => pre2T ops W h0 (k + 1) os cl t hh
          | false => (opXT A P C (hideB h0 W) (VSt.get ⟨t, h0⟩) o).bind fun x => forceL (putV t o.dst x) fun t => pre2T ops W h0 (k + 1) os cl t hh)
    (fun t => forceL (putV t o.dst (.tup [])) fun t => pre2T ops W h0 (k + 1) os cl t hh)

variable (ent : FuncId → List V → List Box → Tree (List Nat × V × List Box)) (n0 : Nat) (M0 : List Nat)

/-- What the calls of a drawn region are given is plain data ahead of it. -/
def iceT (ops : Array Oper) (s : VSt) : VSt := s.frz (ops.toList.flatMap fun o => match o.op with
  | .call ⟨.value _, _, _⟩ => fzl s o
  | _ => [])

def drawT0 (ops : Array Oper) (s : VSt) : Tree VSt := match drawOK ops with
  | true => forceS (iceT ops s) fun s => forceSp (ops.toList.take (drawM ops)) fun l1 => forceSp (ops.toList.drop (drawM ops)) fun l2 => (preT A P C ops s.h l1 s.t []).bind fun r => forceS ⟨r.1, s.h ++ r.2⟩ fun s => opsT A P ent C n0 M0 ops 0 l2 s
  | false => match drawOK2 ops with
    | true => forceS (iceT ops s) fun s => forceSp (ops.toList.flatMap (stBox P ops s)) fun W => (pre2T A P C ops W s.h 0 ops.toList true s.t s.h).bind fun r => .ret ⟨r.1, r.2⟩
    | false => .fail
end

section
variable {P : Program} {M : List Nat} {h h' h2 h0 hh : List Box} {ρ ρ2 : Operand → V} {o : Oper} {x : V} {ops : Array Oper} {W : List Nat} {E : Env} {C : CfgO}

theorem opPT_congr (he : ∀ y, y ∈ o.op.operands.toList → ρ y = ρ2 y) (hk : (opPT sy P h ρ o).run E = some x) : (opPT sy P h ρ2 o).run E = some x := by
  unfold opPT at hk ⊢
  cases hop : o.op <;> simp only [hop] at hk ⊢ <;> (try (cases hk; done))
  case move y => rw [← he y (by simp [hop, Op.operands])]; exact hk
  case assign y => rw [← he y (by simp [hop, Op.operands])]; exact hk
  case pick c a b => rw [← he c (by simp [hop, Op.operands]), ← he a (by simp [hop, Op.operands]), ← he b (by simp [hop, Op.operands])]; exact hk
  case build t parts =>
    have e1 : (parts.toList.map fun q => (q.1, ρ q.2)) = parts.toList.map fun q => (q.1, ρ2 q.2) := List.map_congr_left fun q hq => by
      rw [he q.2 (by simp only [hop, Op.operands]; exact List.mem_map.2 ⟨q, hq, rfl⟩)]
    have e2 : (parts.toList.all fun q => (ρ q.2).liveC h) = parts.toList.all fun q => (ρ2 q.2).liveC h := by
      rw [Bool.eq_iff_iff, List.all_eq_true, List.all_eq_true]
      refine ⟨fun hh q hq => ?_, fun hh q hq => ?_⟩
      · rw [← he q.2 (by simp only [hop, Op.operands]; exact List.mem_map.2 ⟨q, hq, rfl⟩)]; exact hh q hq
      · rw [he q.2 (by simp only [hop, Op.operands]; exact List.mem_map.2 ⟨q, hq, rfl⟩)]; exact hh q hq
    rw [← e1, ← e2]; exact hk
  case buildSlice t n parts =>
    have e1 : (parts.toList.map fun q => (q.1, ρ q.2)) = parts.toList.map fun q => (q.1, ρ2 q.2) := List.map_congr_left fun q hq => by
      rw [he q.2 (by simp only [hop, Op.operands]; exact List.mem_map.2 ⟨q, hq, rfl⟩)]
    have e2 : (parts.toList.all fun q => (ρ q.2).liveC h) = parts.toList.all fun q => (ρ2 q.2).liveC h := by
      rw [Bool.eq_iff_iff, List.all_eq_true, List.all_eq_true]
      refine ⟨fun hh q hq => ?_, fun hh q hq => ?_⟩
      · rw [← he q.2 (by simp only [hop, Op.operands]; exact List.mem_map.2 ⟨q, hq, rfl⟩)]; exact hh q hq
      · rw [he q.2 (by simp only [hop, Op.operands]; exact List.mem_map.2 ⟨q, hq, rfl⟩)]; exact hh q hq
    rw [← e1, ← e2]; exact hk
  case load t y => rw [← he y (by simp [hop, Op.operands])]; exact hk
  case nilCheck y => rw [← he y (by simp [hop, Op.operands])]; exact hk
  case binOp op t y z u => rw [← he y (by simp [hop, Op.operands]), ← he z (by simp [hop, Op.operands])]; exact hk
  case unOp op t y => rw [← he y (by simp [hop, Op.operands])]; exact hk
  case convert s t y => rw [← he y (by simp [hop, Op.operands])]; exact hk
  case makeFunc fn first caps =>
    have e1 : caps.toList.map ρ = caps.toList.map ρ2 := List.map_congr_left fun q hq => he q (by simp [hop, Op.operands]; right; simpa using hq)
    rw [← e1]; exact hk
  case slice t y lo hi mx =>
    have e1 : lo.map ρ = lo.map ρ2 := by cases lo with
      | none => rfl
      | some q => simp [he q (by simp [hop, Op.operands])]
    have e2 : hi.map ρ = hi.map ρ2 := by cases hi with
      | none => rfl
      | some q => simp [he q (by simp [hop, Op.operands])]
    rw [← he y (by simp [hop, Op.operands]), ← e1, ← e2]; exact hk
  case fieldAddr s y f => rw [← he y (by simp [hop, Op.operands])]; exact hk
  case lookup t y z c => rw [← he y (by simp [hop, Op.operands]), ← he z (by simp [hop, Op.operands])]; exact hk
  case indexAddr t y z => rw [← he y (by simp [hop, Op.operands]), ← he z (by simp [hop, Op.operands])]; exact hk
  case index t y z => rw [← he y (by simp [hop, Op.operands]), ← he z (by simp [hop, Op.operands])]; exact hk
  case extract y i => rw [← he y (by simp [hop, Op.operands])]; exact hk
  case call c =>
    obtain ⟨cal, args, ts⟩ := c
    have hargs : args.toList.map ρ = args.toList.map ρ2 := List.map_congr_left fun q hq => he q (by
      simp only [hop, Op.operands, Call.operands, Array.toList_append, List.mem_append]; right; exact hq)
    cases cal with
    | value y => cases hk
    | invoke r m => cases hk
    | builtin b =>
      have hmem : ∀ q, q ∈ args.toList → ρ q = ρ2 q := fun q hq => he q (by
        simp only [hop, Op.operands, Call.operands, Array.toList_append, List.mem_append]; right; exact hq)
      obtain ⟨l⟩ := args
      cases b <;> (try (cases hk; done))
      case len =>
        match l, hk, hmem with
        | [y], hk, hmem => simp only at hk ⊢; rw [← hmem y (by simp)]; exact hk
      case cap =>
        match l, hk, hmem with
        | [y], hk, hmem => simp only at hk ⊢; rw [← hmem y (by simp)]; exact hk
      case max =>
        match l, hk, hmem with
        | [y, z], hk, hmem => simp only at hk ⊢; rw [← hmem y (by simp), ← hmem z (by simp)]; exact hk
      case min =>
        match l, hk, hmem with
        | [y, z], hk, hmem => simp only at hk ⊢; rw [← hmem y (by simp), ← hmem z (by simp)]; exact hk


theorem callOf_congr (he : ∀ y, y ∈ o.op.operands.toList → ρ y = ρ2 y) : callOf ρ o = callOf ρ2 o := by
  unfold callOf
  split
  · rename_i y args ts hop
    have hargs : args.toList.map ρ = args.toList.map ρ2 := List.map_congr_left fun q hq => he q (by
      simp only [hop, Op.operands, Call.operands, Array.toList_append, List.mem_append]; right; exact hq)
    have hy : ρ y = ρ2 y := he y (by simp [hop, Op.operands, Call.operands])
    have hc : calleeV ρ y = calleeV ρ2 y := by unfold calleeV; cases y <;> simp only [hy]
    rw [hc, hargs]
  · rfl
theorem opXT_sound (hE : E.Ok) (hG : EnvGood P E) (hf : ∀ f, ρ (.func f) = .fn f []) (hk : (opXT sy P C h ρ o).run E = some x) : ∀ h2, Pre h h2 → Gives P [] h2 h2 (restr o ρ) o x := by
  have hc0 := callOf_congr (ρ := ρ) (ρ2 := restr o ρ) (o := o) (fun y hy => (restr_at hf hy).symm)
  unfold opXT at hk
  rw [hc0] at hk
  split at hk
  · rename_i f vs hc
    simp only at hk
    split at hk
    · rename_i hp hs
      obtain ⟨y, args, ts, caps, hop, hy, rfl⟩ := callOf_some hc (restr_func o ρ)
      obtain ⟨q1, q2, _⟩ := callT_sound hE hG hp hs hk
      exact fun h2 _ => gives_callV hop hy (sigP_some hs) (q1.hcall hp q2 h2).can
    · cases hk
  · exact opPT_sound hE (opPT_congr (fun y hy => (restr_at hf hy).symm) hk)

theorem guardT_run {β : Type} {t : List V} {exec pass : List V → Tree β} {r : β} (hk : (guardT ops o t exec pass).run E = some r) :
    (wantV ops o t = some true ∧ (exec t).run E = some r) ∨ (wantV ops o t = some false ∧ (pass t).run E = some r) := by
  unfold guardT at hk
  split at hk
  · rename_i hg
    exact .inl ⟨by simp [wantV, hg], hk⟩
  · rename_i j want hg
    split at hk
    · rename_i k hjk
      split at hk
      · rename_i c hc
        have hw : wantV ops o t = some (c == want) := by simp [wantV, hg, hjk, hc]
        split at hk <;> cases c <;> simp only [Tree.run, set_self hc] at hk
        · exact .inr ⟨by rw [hw]; rfl, hk⟩
        · exact .inl ⟨by rw [hw]; rfl, hk⟩
        · exact .inl ⟨by rw [hw]; rfl, hk⟩
        · exact .inr ⟨by rw [hw]; rfl, hk⟩
      · rename_i hc
        exact .inr ⟨by simp [wantV, hg, hjk, hc], hk⟩
      · cases hk
    · cases hk

theorem preT_lex (hE : E.Ok) (hG : EnvGood P E) {r : List V × List Box} : ∀ {os : List Oper} {t : List V} {hb : List Box}, (preT sy P C ops h0 os t hb).run E = some r → vLex P ops h0 (fun t hb => (t, hb) = r) os t hb
  | [], _, _, hk => by cases hk; rfl
  | o :: os, t, hb, hk => by
    unfold preT at hk
    rcases guardT_run hk with ⟨hw, hk⟩ | ⟨hw, hk⟩
    · cases hal : allocV P o with
      | some b =>
        simp only [hal] at hk
        cases hb with
        | nil => simp only [forceL_eq] at hk; exact ⟨_, _, .inl ⟨hw, .inr ⟨rfl, rfl, b, hal, rfl⟩⟩, preT_lex hE hG hk⟩
        | cons => cases hk
      | none =>
        simp only [hal] at hk
        obtain ⟨x, h1, hk⟩ := run_bind_some hE hk
        rw [forceL_eq] at hk
        exact ⟨x, hb, .inl ⟨hw, .inl ⟨rfl, opXT_sound hE hG (fun f => rfl) h1⟩⟩, preT_lex hE hG hk⟩
    · rw [forceL_eq] at hk
      exact ⟨.tup [], hb, .inr ⟨hw, rfl, rfl⟩, preT_lex hE hG hk⟩

theorem stT_sound {t : TypeId} {y z : Operand} {r : Nat × Box} (hop : o.op = .store t y z) (hk : (stT sy P (hideB h0 W) W h0.length hh t (ρ y) (ρ z)).run E = some r) :
    ∃ c, hh[r.1]? = some c ∧ r.1 ∈ W ∧ r.1 < h0.length ∧ (∀ h2, PreW W h0 h2 → h2[r.1]? = some c → Gives P [] h2 (h2.set r.1 r.2) ρ o .any) := by
  unfold stT at hk
  split at hk
  · rename_i ns hn hl
    split at hk
    · rename_i b off hy
      split at hk
      · rename_i bt vs hW hb
        simp only [Bool.and_eq_true, List.contains_eq_mem, decide_eq_true_eq] at hW
        split at hk
        · rename_i c1 c2 c3
          cases hk
          exact ⟨_, hb, hW.1, hW.2, fun h2 hp hb2 => gives_store_box hop hy hb2 hn (List.all_eq_true.2 fun q hq => oneB_pre hp.pre (List.all_eq_true.1 c1 q hq)) (of_decide_eq_true c2) (of_decide_eq_true c3) (liveC_pre hp.pre hl)⟩
        · cases hk
      · cases hk
    · rename_i b sz i off hy
      split at hk
      · rename_i e sz' rows ss hW hb hss
        simp only [Bool.and_eq_true, List.contains_eq_mem, decide_eq_true_eq] at hW
        split at hk
        · rename_i ds c1 hd
          have c1 := of_decide_eq_true c1
          subst c1
          split at hk
          · rename_i c2 c3
            obtain ⟨hi, hk⟩ := chk_some hk
            cases hk
            exact ⟨_, hb, hW.1, hW.2, fun h2 hp hb2 => gives_store_pml hop hy hb2 (of_decide_eq_true hi) hn hd (of_decide_eq_true c2) (of_decide_eq_true c3) (liveC_pre hp.pre hl)⟩
          · cases hk
        · cases hk
      · cases hk
    · cases hk
  · cases hk

theorem pre2T_lex (hE : E.Ok) (hG : EnvGood P E) {r : List V × List Box} : ∀ {os : List Oper} {k : Nat} {cl : Bool} {t : List V} {hh : List Box}, PreW W h0 hh → (cl = true → Pre h0 hh) → (pre2T sy P C ops W h0 k os cl t hh).run E = some r → vLex2 P ops W h0 (fun t hh => (t, hh) = r) k os t hh
  | [], _, _, _, _, _, _, hk => by cases hk; rfl
  | o :: os, k, cl, t, hh, hpw, hpc, hk => by
    unfold pre2T at hk
    rcases guardT_run hk with ⟨hw, hk⟩ | ⟨hw, hk⟩
    · split at hk
      · rename_i ty y z hop
        have e1 : restr o (VSt.get ⟨t, h0⟩) y = VSt.get ⟨t, h0⟩ y := restr_at (fun f => rfl) (by rw [hop]; simp [Op.operands])
        have e2 : restr o (VSt.get ⟨t, h0⟩) z = VSt.get ⟨t, h0⟩ z := restr_at (fun f => rfl) (by rw [hop]; simp [Op.operands])
        rw [← e1, ← e2] at hk
        obtain ⟨⟨b, c'⟩, h1, hk⟩ := run_bind_some hE hk
        obtain ⟨c, hb, hbW, hbn, hg⟩ := stT_sound hop h1
        simp only [forceL_eq, forceH_eq] at hk
        refine ⟨.any, _, ⟨.st b c c', ⟨hw, by simp [isSt, hop], hg⟩, ⟨hb, hpw, hbW, hbn⟩, rfl⟩, pre2T_lex hE hG ((preW_set hbW c').2 hpw) (fun h => by cases h) hk⟩
      · split at hk
        · rename_i b hal
          split at hk
          · rename_i hl
            have hl := of_decide_eq_true hl
            rw [forceL_eq] at hk
            exact ⟨_, _, ⟨.alloc b, ⟨hw, rfl, hal⟩, hl, rfl⟩, pre2T_lex hE hG ((preW_app hl b).2 hpw) (fun hc => (pre_app hl b).2 (hpc hc)) hk⟩
          · cases hk
        · split at hk
          · rename_i hce
            simp only [Bool.and_eq_true] at hce
            obtain ⟨x, h1, hk⟩ := run_bind_some hE hk
            rw [forceL_eq] at hk
            exact ⟨x, hh, ⟨.early, ⟨hw, hce.2, opXT_sound hE hG (fun f => rfl) h1⟩, hpc hce.1, rfl⟩, pre2T_lex hE hG hpw hpc hk⟩
          · obtain ⟨x, h1, hk⟩ := run_bind_some hE hk
            rw [forceL_eq] at hk
            have h1 := opXT_sound hE hG (fun f => rfl) h1
            exact ⟨x, hh, ⟨.late, ⟨hw, fun h2 hp => h1 h2 hp.pre⟩, hpw, rfl⟩, pre2T_lex hE hG hpw hpc hk⟩
    · rw [forceL_eq] at hk
      exact ⟨.tup [], hh, ⟨.no, ⟨hw, rfl⟩, trivial, rfl⟩, pre2T_lex hE hG hpw hpc hk⟩

theorem drawT0_sound (hE : E.Ok) (hG : EnvGood P E) {ent : FuncId → List V → List Box → Tree (List Nat × V × List Box)} (hent : EntGood P E ent) {En : Ent} {id : Nat} {Q : Exit → Act → World → Prop} {s s' : VSt} {a : Act} {w : World} (hm : P.follows .mixedOrders = true)
    (hk : (drawT0 sy P C ent En.g.n En.M ops s).run E = some s') (hs : SimE En s a w) (hq : ∀ a' w', SimE En s' a' w' → Q .normal a' w') : (Code.region id ops true).wp P Q a w := by
  unfold drawT0 at hk
  split at hk
  · rename_i hB
    rw [forceS_eq, forceSp_eq, forceSp_eq] at hk
    have hs : SimE En (iceT ops s) a w := hs.frzs
    generalize iceT ops s = s at hk hs
    obtain ⟨r, h1, hk⟩ := run_bind_some hE hk
    rw [forceS_eq] at hk
    simp only [drawOK, Bool.and_eq_true] at hB
    obtain ⟨⟨⟨q1, q2⟩, q3⟩, q4⟩ := hB
    have hml : drawM ops ≤ ops.size := by simp only [backOK, Bool.and_eq_true, decide_eq_true_eq] at q2; exact q2.1
    have hlen : (ops.toList.take (drawM ops)).length = drawM ops := by simp [hml]
    have hany := vAny_lex (P := P) (h0 := s.h) q1 (ops.toList.take (drawM ops)) 0 (Array.replicate ops.size false) s.t [] (fun j hj => by
      rw [hlen] at hj
      rw [List.getElem?_take, if_pos hj, Nat.zero_add]; simp) (by rw [hlen]; exact q3) (preT_lex hE hG h1)
    rw [hlen] at hany
    refine wp_region_any hm ?_
    have := vAny_sound (Q := Q) (E := En) q2 (rest := ops.size - drawM ops) (fun t hb a w hk' hs => ?_) (drawM ops) _ s.t [] a w.drew hany (by simp) (fun k hk => by simp [Array.getElem?_replicate]; split <;> rfl) (by rw [List.append_nil]; exact hs.drew)
    · rw [Nat.sub_add_cancel hml] at this; exact this
    · have hl2 : (ops.toList.drop (drawM ops)).length = ops.size - drawM ops := by simp
      subst hk'
      have := seq_any (P := P) (Q := Q) (ops.toList.drop (drawM ops)) (drawM ops) (listedTo ops.size (drawM ops)) a w (fun j => by simp) (by rw [hl2]; exact q4) (opsT_sound hE hG hent _ (Nat.le_refl _) hk hs hq)
      rwa [hl2] at this
  · split at hk
    · rename_i hB
      rw [forceS_eq, forceSp_eq] at hk
      have hs : SimE En (iceT ops s) a w := hs.frzs
      generalize iceT ops s = s at hk hs
      obtain ⟨r, h1, hk⟩ := run_bind_some hE hk
      cases hk
      simp only [drawOK2, Bool.and_eq_true] at hB
      have hlex := pre2T_lex hE hG (fun b x _ h => h) (fun _ => Pre.refl s.h) h1
      have hany := vAny2_lex hB.1 ops.toList 0 (Array.replicate ops.size false) s.t s.h (fun j => by simp) (by simpa using hB.2) hlex
      refine wp_region_any hm ?_
      have := vAny2_sound (Q := Q) (E := En) (fun t hh a w hk' hs => by subst hk'; exact hq a w hs) ops.toList.length _ s.t s.h a w.drew hany hs.drew
      simpa using this
    · cases hk
end
end Go.Vm
end
