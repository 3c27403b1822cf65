/-
  Part K of the proof. What is proved by the whole: the statement that the claim names, with no condition. This part: lemmas and the theorem.
-/
import Derived.Test.YtmmcmfcnpfbifaaGreatDoorSJ
import Derived.Carry
import Derived.ProofKit
import Derived.SizedLaws
import Derived.ChangeArms
import Derived.Test.YtmmcmfcnpfbifaaGreatDoorRows
import Derived.Test.YtmmcmfcnpfbifaaGreatDoorCards
import Derived.Test.YtmmcmfcnpfbifaaGreatDoorTie
import Derived.OpenShut
import Derived.LaidMore
import Derived.Lay
import Derived.SevenTiedAt
import Derived.Stop.Joined
set_option linter.unusedSimpArgs false
set_option linter.unusedVariables false

section
namespace Go.Vm
open Go.RowKit
section
variable {H : Type} {enc : TypeId × Value → H} {P : Program} {w : World} {held : Bool} {sp : Nat → Bool}

/-! ### what is handed in, as_ plain data -/
/-- Rows of cells of a type. -/
def Typed (P : Program) : Nat → TypeId → List D → Prop
  | 0, _, _ => False
  | n + 1, t, xs => match P.underlying t with
    | some .bool => ∃ b, xs = [.bool b]
    | some (.int k) => ∃ m, xs = [.int k m] ∧ (Lit.int k m).wf = true
    | some .string => ∃ s, xs = [.str s] ∧ s.size ≤ maxLen
    | some (.slice e) => ∃ rows, xs = [.sl (P.cellsOf e) rows] ∧ rows.length ≤ maxLen ∧ ∀ r ∈ rows, Typed P n e r
    | some (.struct fs) => ∃ parts : List (List D), parts.length = fs.size ∧ xs = parts.flatten ∧ ∀ (i : Nat) f p, fs.toList[i]? = some f → parts[i]? = some p → Typed P n f.type p
    | _ => False
def contig (P : Program) : Nat → List Field → Option Nat
  | o, [] => some o
  | o, f :: fs => if f.offset = o then contig P (o + P.cellsOf f.type) fs else none
/-- Is a type plain, and laid cell behind cell? -/
def plainOK (P : Program) : Nat → TypeId → Bool
  | 0, _ => false
  | n + 1, t => match P.underlying t with
    | some .bool | some (.int _) | some .string => true
    | some (.slice e) => decide (0 < P.cellsOf e) && plainOK P n e
    | some (.struct fs) => decide (contig P 0 fs.toList = some (P.cellsOf t)) && fs.toList.all fun f => plainOK P n f.type
    | _ => false

theorem choose_list {α : Type} {Q : Nat → α → Prop} : ∀ {n : Nat}, (∀ i, i < n → ∃ x, Q i x) → ∃ l : List α, l.length = n ∧ ∀ (i : Nat) x, l[i]? = some x → Q i x
  | 0, _ => ⟨[], rfl, by simp⟩
  | n + 1, h => by
    obtain ⟨l, h1, h2⟩ := choose_list (n := n) (fun i hi => h i (by omega))
    obtain ⟨x, hx⟩ := h n (by omega)
    refine ⟨l ++ [x], by simp [h1], fun i y hy => ?_⟩
    rw [List.getElem?_append] at hy
    split at hy
    · exact h2 i y hy
    · rename_i hi
      have hi0 : i - l.length = 0 := by
        rcases Nat.eq_zero_or_pos (i - l.length) with h0 | h0
        · exact h0
        · rw [List.getElem?_eq_none (by simp; omega)] at hy; cases hy
      rw [hi0] at hy
      simp at hy
      subst hy
      rwa [show i = n by omega]
theorem mapM_at {α β : Type} {f : α → Option β} : ∀ {as_ : List α} {bs : List β}, as_.mapM f = some bs → bs.length = as_.length ∧ ∀ (i : Nat) a, as_[i]? = some a → ∃ b, bs[i]? = some b ∧ f a = some b
  | [], bs, h => by simp at h; subst h; simp
  | a :: as_, bs, h => by
    rw [List.mapM_cons] at h
    cases hf : f a with
    | none => simp [hf] at h
    | some b =>
      cases hr : as_.mapM f with
      | none => simp [hf, hr] at h
      | some bs' =>
        simp [hf, hr] at h
        subst h
        obtain ⟨h1, h2⟩ := mapM_at hr
        refine ⟨by simp [h1], fun i c hc => ?_⟩
        cases i with
        | zero => simp at hc; subst hc; exact ⟨b, rfl, hf⟩
        | succ i => obtain ⟨b', e1, e2⟩ := h2 i c (by simpa using hc); exact ⟨b', by simpa using e1, e2⟩
theorem cells_at {a : Addr} {n : Nat} {cs : List Value} (h : w.cells? 0 a n = some cs) : cs.length = n ∧ ∀ (i : Nat) u, cs[i]? = some u → w.cell? (a.add i) = some u := by
  unfold World.cells? at h
  rw [if_pos (Nat.zero_le _)] at h
  obtain ⟨h1, h2⟩ := mapM_at h
  refine ⟨by simpa using h1, fun i u hu => ?_⟩
  have hi : i < n := by have := (List.getElem?_eq_some_iff.1 hu).1; rw [h1] at this; simpa using this
  obtain ⟨b, e1, e2⟩ := h2 i i (by simp [hi])
  rw [hu] at e1; cases e1; exact e2

def ZW (w : World) : Nat → Nat → Prop := fun b _ => b < w.heap.size
theorem cell_lt {b o : Nat} {s : Option Nat} {u : Value} (h : w.cell? ⟨b, o, s⟩ = some u) : b < w.heap.size ∧ s = none := by
  unfold World.cell? at h
  split at h
  · rename_i c _ _ hc
    refine ⟨(Array.getElem?_eq_some_iff.1 hc).1, ?_⟩
    cases s with
    | none => rfl
    | some k => simp at h
  · cases h

theorem fields_bridge {cs : List Value} {m fuel : Nat} (ih : ∀ (t : TypeId) (cs : List Value) (x : DataW H × List MemPlace), plainOK P m t = true → DataW.trod enc P w 0 sp held fuel t cs = some x →
      ∃ xs, Typed P m t xs ∧ xs.length = cs.length ∧ ∀ (j : Nat) u c, cs[j]? = some u → xs[j]? = some c → RepD w (ZW w) u c) :
    ∀ (fs : List Field) (o e : Nat) (ys : List (DataW H × List MemPlace)), contig P o fs = some e → cs.length = e → fs.all (fun f => plainOK P m f.type) = true →
      (fs.mapM fun f => DataW.trod enc P w 0 sp held fuel f.type ((cs.drop f.offset).take (P.cellsOf f.type))) = some ys →
      o ≤ e ∧ ∃ parts : List (List D), parts.length = fs.length ∧ parts.flatten.length = e - o ∧ (∀ (i : Nat) f p, fs[i]? = some f → parts[i]? = some p → Typed P m f.type p) ∧
        ∀ (j : Nat) u c, cs[o + j]? = some u → parts.flatten[j]? = some c → RepD w (ZW w) u c
  | [], o, e, ys, hc, hl, ha, hm => by
    cases hc
    exact ⟨Nat.le_refl _, [], rfl, by simp, by simp, by simp⟩
  | f :: fs, o, e, ys, hc, hl, ha, hm => by
    unfold contig at hc
    split at hc
    · rename_i ho
      rw [List.mapM_cons] at hm
      cases h1 : DataW.trod enc P w 0 sp held fuel f.type ((cs.drop f.offset).take (P.cellsOf f.type)) with
      | none => simp [h1] at hm
      | some y =>
        cases h2 : (fs.mapM fun f => DataW.trod enc P w 0 sp held fuel f.type ((cs.drop f.offset).take (P.cellsOf f.type))) with
        | none => simp [h1, h2] at hm
        | some ys' =>
          simp only [List.all_cons, Bool.and_eq_true] at ha
          obtain ⟨xs, t1, t2, t3⟩ := ih _ _ _ ha.1 h1
          obtain ⟨hle, parts, p1, p2, p3, p4⟩ := fields_bridge ih fs _ e ys' hc hl ha.2 h2
          have hxl : xs.length = P.cellsOf f.type := by rw [t2, ho]; simp; omega
          refine ⟨by omega, xs :: parts, by simp [p1], by simp only [List.flatten_cons, List.length_append]; omega, fun i g p hg hp => ?_, fun j u c hu hc' => ?_⟩
          · cases i with
            | zero => simp at hg hp; subst hg; subst hp; exact t1
            | succ i => exact p3 i g p (by simpa using hg) (by simpa using hp)
          · simp only [List.flatten_cons] at hc'
            rw [List.getElem?_append] at hc'
            split at hc'
            · rename_i hj
              refine t3 j u c ?_ hc'
              rw [List.getElem?_take, if_pos (by omega), List.getElem?_drop, ho]; exact hu
            · rename_i hj
              refine p4 (j - xs.length) u c ?_ hc'
              rw [show o + P.cellsOf f.type + (j - xs.length) = o + j by omega]; exact hu
    · cases hc

theorem bridge : ∀ (m fuel : Nat) (t : TypeId) (cs : List Value) (x : DataW H × List MemPlace), plainOK P m t = true → DataW.trod enc P w 0 sp held fuel t cs = some x →
    ∃ xs, Typed P m t xs ∧ xs.length = cs.length ∧ ∀ (j : Nat) u c, cs[j]? = some u → xs[j]? = some c → RepD w (ZW w) u c
  | 0, _, _, _, _, hp, _ => by simp [plainOK] at hp
  | m + 1, 0, _, _, _, _, h => by simp [DataW.trod] at h
  | m + 1, fuel + 1, t, cs, x, hp, h => by
    have one : ∀ (u : Value) (c : D), RepD w (ZW w) u c → ∀ (j : Nat) u' c', [u][j]? = some u' → [c][j]? = some c' → RepD w (ZW w) u' c' := by
      intro u c hr j u' c' h1 h2
      cases j with
      | zero => simp at h1 h2; subst h1; subst h2; exact hr
      | succ j => simp at h1
    unfold plainOK at hp
    split at hp
    · rename_i hu
      obtain ⟨b, rfl⟩ : ∃ b, cs = [.bool b] := by
        simp only [DataW.trod, hu] at h
        split at h <;> simp_all
      exact ⟨[.bool b], by simp only [Typed, hu]; exact ⟨b, rfl⟩, rfl, one _ _ (.bool b)⟩
    · rename_i k hu
      obtain ⟨n, rfl, hwf⟩ : ∃ n, cs = [.int k n] ∧ (Lit.int k n).wf = true := by
        simp only [DataW.trod, hu] at h
        split at h <;> simp_all
      exact ⟨[.int k n], by simp only [Typed, hu]; exact ⟨n, rfl, hwf⟩, rfl, one _ _ (.int k n)⟩
    · rename_i hu
      obtain ⟨s, rfl, hs⟩ : ∃ s, cs = [.string s] ∧ s.size ≤ maxLen := by
        simp only [DataW.trod, hu] at h
        split at h <;> simp_all
      exact ⟨[.str s], by simp only [Typed, hu]; exact ⟨s, rfl, hs⟩, rfl, one _ _ (.str s)⟩
    · rename_i e hu
      simp only [Bool.and_eq_true, decide_eq_true_eq] at hp
      obtain ⟨hsz, hp⟩ := hp
      have hcs : cs = [.slice none 0 0] ∨ ∃ a len cap, cs = [.slice (some a) len cap] := by
        simp only [DataW.trod, hu] at h
        split at h <;> simp_all
      rcases hcs with rfl | ⟨a, len, cap, rfl⟩
      · exact ⟨[.sl (P.cellsOf e) []], by simp only [Typed, hu]; exact ⟨[], rfl, by simp, by simp⟩, rfl, one _ _ (.slnil _)⟩
      · simp only [DataW.trod, hu] at h
        split at h
        · rename_i hb
          obtain ⟨_, hlc, hcm⟩ := hb
          cases h1 : (List.range len).mapM (fun i => (w.cells? 0 (a.add (i * P.cellsOf e)) (P.cellsOf e)).bind (DataW.trod enc P w 0 sp held fuel e)) with
          | none => simp [h1] at h
          | some elems =>
            obtain ⟨_, h3⟩ := mapM_at h1
            have hel : ∀ i, i < len → ∃ r : List D, Typed P m e r ∧ r.length = P.cellsOf e ∧ ∃ ci : List Value, w.cells? 0 (a.add (i * P.cellsOf e)) (P.cellsOf e) = some ci ∧ ∀ (j : Nat) u c, ci[j]? = some u → r[j]? = some c → RepD w (ZW w) u c := by
              intro i hi
              obtain ⟨b, _, hb⟩ := h3 i i (by simp [hi])
              cases hci : w.cells? 0 (a.add (i * P.cellsOf e)) (P.cellsOf e) with
              | none => simp [hci] at hb
              | some ci =>
                simp only [hci, Option.bind_some] at hb
                obtain ⟨r, r1, r2, r3⟩ := bridge m fuel e ci b hp hb
                exact ⟨r, r1, by rw [r2, (cells_at hci).1], ci, rfl, r3⟩
            obtain ⟨rows, q1, q2⟩ := choose_list hel
            have htr : ∀ r ∈ rows, Typed P m e r := fun r hr => by
              obtain ⟨i, hi⟩ := List.mem_iff_getElem?.1 hr
              exact (q2 i r hi).1
            refine ⟨[.sl (P.cellsOf e) rows], by simp only [Typed, hu]; exact ⟨rows, rfl, by omega, htr⟩, rfl, one _ _ ?_⟩
            · rcases Nat.eq_zero_or_pos len with h0 | h0
              · have : rows = [] := List.eq_nil_of_length_eq_zero (by omega)
                subst h0; subst this
                exact .slemp a cap _
              · obtain ⟨r0, hr0⟩ : ∃ r0, rows[0]? = some r0 := ⟨rows[0], List.getElem?_eq_getElem (by omega)⟩
                obtain ⟨_, hl0, c0, hc0, _⟩ := q2 0 r0 hr0
                obtain ⟨hcl0, hca0⟩ := cells_at hc0
                have hz : w.cell? a = some (c0[0]'(by omega)) := by
                  have := hca0 0 (c0[0]'(by omega)) (List.getElem?_eq_getElem (by omega))
                  rw [Nat.zero_mul] at this
                  exact this
                obtain ⟨ab, ao, as_⟩ := a
                obtain ⟨hlt, hsn⟩ := cell_lt hz
                subst hsn
                have hall : ∀ (i : Nat) (r : List D) (j : Nat) (c : D), rows[i]? = some r → r[j]? = some c → ∃ u, w.cell? ⟨ab, ao + (i * P.cellsOf e + j), none⟩ = some u ∧ RepD w (ZW w) u c := by
                  intro i r j c hi hj
                  obtain ⟨_, hlr, ci, hci, hrep⟩ := q2 i r hi
                  obtain ⟨hcl, hca⟩ := cells_at hci
                  have hj' : j < ci.length := by rw [hcl, ← hlr]; exact (List.getElem?_eq_some_iff.1 hj).1
                  refine ⟨ci[j], ?_, hrep j ci[j] c (List.getElem?_eq_getElem hj') hj⟩
                  have := hca j ci[j] (List.getElem?_eq_getElem hj')
                  rw [add_lit', add_lit', Nat.add_assoc] at this
                  exact this
                exact .sl ab ao len cap (P.cellsOf e) rows (fun i j => (w.cell? ⟨ab, ao + (i * P.cellsOf e + j), none⟩).getD undef) q1 hlc (fun i r hi => (q2 i r hi).2.1)
                  (fun i r j c hi hj => hlt) (fun i r j c hi hj => by obtain ⟨u, hu', _⟩ := hall i r j c hi hj; rw [hu']; rfl)
                  (fun i r j c hi hj => by obtain ⟨u, hu', hr'⟩ := hall i r j c hi hj; rw [hu']; exact hr')
        · cases h
    · rename_i fs hu
      simp only [Bool.and_eq_true, decide_eq_true_eq] at hp
      obtain ⟨hct, hp⟩ := hp
      simp only [DataW.trod, hu] at h
      split at h
      · rename_i hl
        cases h1 : (fs.toList.mapM fun f => DataW.trod enc P w 0 sp held fuel f.type ((cs.drop f.offset).take (P.cellsOf f.type))) with
        | none => simp [h1] at h
        | some ys =>
          obtain ⟨_, parts, p1, p2, p3, p4⟩ := fields_bridge (cs := cs) (fun t cs x a b => bridge m fuel t cs x a b) fs.toList 0 _ ys hct hl hp h1
          refine ⟨parts.flatten, by simp only [Typed, hu]; exact ⟨parts, by simpa using p1, rfl, p3⟩, by omega, fun j u c hu' hc' => p4 j u c (by rw [Nat.zero_add]; exact hu') hc'⟩
      · cases h
    · cases hp

/-- The bridge at a value. -/
theorem bridge_val {m : Nat} {t : TypeId} {v : Value} {d : DataW H} {ps : List MemPlace} (hp : plainOK P m t = true) (h : DataW.Trod enc P w 0 sp held t v d ps) :
    ∃ xs, Typed P m t xs ∧ xs.length = v.cells.toList.length ∧ ∀ (j : Nat) u c, v.cells.toList[j]? = some u → xs[j]? = some c → RepD w (ZW w) u c := by
  obtain ⟨fuel, h⟩ := h
  exact bridge m fuel t _ _ hp h
end
end Go.Vm
end

section
namespace Go.Vm
open Go.RowKit Go.ChangeShapes Go.WideShapes
section
variable {H : Type} {enc : TypeId × Value → H} {P : Program} {W W' : World}

theorem trodAll_stays {sp : Nat → Bool} (hl : laidOutB P = true) (hb : Below W.heap.size W W') : ∀ {ts : List TypeId} {vs : List Value} {ds : List (DataW H)} {ps : List MemPlace}, (ts.all fun t => P.readableRec t && decide (t < P.types.size)) = true →
    DataW.TrodAll enc P W 0 (fun _ => true) true ts vs ds ps → (∀ p ∈ ps, p.block < W.heap.size) → (∀ p ∈ ps, sp p.block = true) → DataW.TrodAll enc P W' 0 sp true ts vs ds ps
  | [], [], [], _, _, h, _, _ => h
  | t :: ts, v :: vs, d :: ds, _, ht, ⟨p, q, h1, h2, e⟩, hlt, hsp => by
    subst e
    simp only [List.all_cons, Bool.and_eq_true, decide_eq_true_eq] at ht
    exact ⟨p, q, WideElems.Trod_stays hl ht.1.1 ht.1.2 h1 (fun x hx => hb.same (hlt x (List.mem_append_left _ hx))) (fun x hx => hsp x (List.mem_append_left _ hx)),
      trodAll_stays hl hb (by simpa using ht.2) h2 (fun x hx => hlt x (List.mem_append_right _ hx)) (fun x hx => hsp x (List.mem_append_right _ hx)), rfl⟩

theorem post_true {f : Func} {s : ChangeSpec} {args : Array Value} {ds : List (DataW H)} {before : List MemPlace} {t : TypeId} (hl : laidOutB P = true) (hts : (f.params.toList.all fun t => P.readableRec t && decide (t < P.types.size)) = true)
    (hv : s.vars = []) (hW : DataW.Whole enc P f.params.toList s.vars false W args.toList ds [] before) (hb : Below W.heap.size W W')
    (hr : (s.fn H (ds ++ [])).results = [.lit (.bool true)]) (ha : (s.fn H (ds ++ [])).args = ds) (hn : (s.fn H (ds ++ [])).vars = []) (ht : f.resultTypes = #[t]) (hu : P.underlying t = some .bool) :
    s.post enc P f false true false false W args (.bool true) W' := by
  have hlt : ∀ p ∈ before, p.block < W.heap.size := fun p hp => hW.lt p hp
  have hW0 := hW
  obtain ⟨p, q, hA, hV, hpq, hz, hnd⟩ := hW
  rw [hv] at hV
  obtain ⟨_, hq⟩ := trodVars_none hV
  subst hq
  rw [List.append_nil] at hpq
  subst hpq
  refine ⟨ds, [], before, [], before, [], hW0, ?_, ?_, ?_, hb.frame _, fun h => by cases h⟩
  · rw [hr, ht]
    exact trodAll_mk1 (shut_bool hu true)
  · rw [ha]
    exact trodAll_stays hl hb hts hA hlt (fun p hp => by simpa using hlt p hp)
  · rw [hn, hv]; rfl

/-- A call on what was handed in, of a function that answers true. -/
theorem calls_true {f : FuncId} {vs : List V} {us : List Value} (hc : PCall P f vs (.d (.bool true))) (hr : Reps W (g0 (ZW W)) us vs) : Calls P f us.toArray W fun e w' => e = .returned (.bool true) ∧ Below W.heap.size W w' := by
  refine (hc (g0 (ZW W)) W us (simH_nil fun b o h => h) hr).mono ?_
  rintro e w' ⟨u, g', rfl, hru, hk⟩
  rw [rep_bool_inv hru]
  exact ⟨rfl, hk.fr.below fun i _ ⟨b, x, hx, _⟩ => by simp at hx⟩
end

/-! ### what is handed in, opened -/
section
variable {P : Program} {w : World}
/-- A value of a struct's, or of another plain type, by its cells. -/
theorem rep_cell {v : Value} {x : D} {xs : List D} (hx : xs = [x]) (hv : v.cells = #[v]) (h : ∀ (j : Nat) u c, v.cells.toList[j]? = some u → xs[j]? = some c → RepD w (ZW w) u c) : Rep w (g0 (ZW w)) v (.d x) := by
  subst hx
  exact .d (h 0 v x (by rw [hv]; rfl) rfl)
theorem rep_agg {cs : Array Value} {xs : List D} (hl : xs.length = (Value.agg cs).cells.toList.length) (h : ∀ (j : Nat) u c, (Value.agg cs).cells.toList[j]? = some u → xs[j]? = some c → RepD w (ZW w) u c) : Rep w (g0 (ZW w)) (.agg cs) (.agg (xs.map .d)) := by
  refine .agg cs _ (by simp [Value.cells] at hl; simp [hl]) fun i u c hu hc => ?_
  rw [List.getElem?_map, Option.map_eq_some_iff] at hc
  obtain ⟨d, hd, rfl⟩ := hc
  exact .d (h i u d (by simpa [Value.cells] using hu) hd)
end
end Go.Vm
end

section
set_option maxRecDepth 100000
namespace Go.Vm
open Go.Proofs
theorem PGood.truth {f : FuncId} {args : List V} {b : Bool} {t : TypeId} (hs : sigP Tryz.prog f = some [t]) (hm : mkV Tryz.prog [t] [.bool b] = some (.d (.bool b)))
    (h : PGood Tryz.prog f args (.val [.bool b])) : PCall Tryz.prog f args (.d (.bool b)) := by
  obtain ⟨ts, ss, v, h1, h2, h3, h4, h5⟩ := h
  rw [hs] at h1
  cases h1
  rw [hm] at h4
  cases h4
  exact h5
theorem F4_call (x : Img) (hp : x.ins.length + x.outs.length ≤ 1000000000000000) : PCall Tryz.prog 4 [x.v] (.d (.bool true)) :=
  PGood.truth (t := 4) (by kernel_rfl) (by kernel_rfl) (callF_good mixedOrders kn_good rfl (c_Checks x hp))
/-! ### what is handed in -/
theorem typed_slice {P : Program} {n : Nat} {t e : TypeId} {xs : List D} (hu : P.underlying t = some (.slice e)) (h : Typed P (n + 1) t xs) : ∃ rows, xs = [.sl (P.cellsOf e) rows] ∧ rows.length ≤ maxLen ∧ ∀ r ∈ rows, Typed P n e r := by
  simp only [Typed, hu] at h
  exact h
theorem typed_int {P : Program} {n : Nat} {t : TypeId} {k : IntKind} {xs : List D} (hu : P.underlying t = some (.int k)) (h : Typed P (n + 1) t xs) : ∃ m, xs = [.int k m] := by
  simp only [Typed, hu] at h; obtain ⟨m, hm, _⟩ := h; exact ⟨m, hm⟩
def i64R (n : Int) : Prop := -9223372036854775808 ≤ n ∧ n ≤ 9223372036854775807
theorem typed_intR {P : Program} {n : Nat} {t : TypeId} {xs : List D} (hu : P.underlying t = some (.int .i64)) (h : Typed P (n + 1) t xs) : ∃ m, xs = [.int .i64 m] ∧ i64R m := by
  simp only [Typed, hu] at h
  obtain ⟨m, hm, hw⟩ := h
  refine ⟨m, hm, ?_⟩
  simp [Lit.wf, IntKind.min, IntKind.max, IntKind.bits, IntKind.signed] at hw
  exact hw
theorem typed_str {P : Program} {n : Nat} {t : TypeId} {xs : List D} (hu : P.underlying t = some .string) (h : Typed P (n + 1) t xs) : ∃ s, xs = [.str s] := by
  simp only [Typed, hu] at h; obtain ⟨s, hs, _⟩ := h; exact ⟨s, hs⟩
theorem typed_struct {P : Program} {n : Nat} {t : TypeId} {fs : Array Field} {xs : List D} (hu : P.underlying t = some (.struct fs)) (h : Typed P (n + 1) t xs) : ∃ parts : List (List D), parts.length = fs.size ∧ xs = parts.flatten ∧ ∀ (i : Nat) f p, fs.toList[i]? = some f → parts[i]? = some p → Typed P n f.type p := by
  simp only [Typed, hu] at h; exact h
theorem rows_of {α : Type} {Q : α → Prop} {P : Program} {n : Nat} {e : TypeId} {row : α → List D} (h : ∀ r, Typed P n e r → ∃ x, r = row x ∧ Q x) : ∀ {rows : List (List D)}, (∀ r ∈ rows, Typed P n e r) → ∃ l : List α, rows = l.map row ∧ ∀ x ∈ l, Q x
  | [], _ => ⟨[], rfl, by intro x hx; cases hx⟩
  | r :: rs, hr => by
    obtain ⟨l, hl, hq⟩ := rows_of h (rows := rs) (fun r hm => hr r (List.mem_cons_of_mem _ hm))
    obtain ⟨x, hx, hq2⟩ := h r (hr r List.mem_cons_self)
    refine ⟨x :: l, by rw [hx, hl]; rfl, fun y hy => ?_⟩
    rcases List.mem_cons.1 hy with rfl | hy
    · exact hq2
    · exact hq y hy
theorem len2 {α : Type} {l : List α} (h : l.length = 2) : ∃ a b, l = [a, b] := by
  match l, h with
  | [a, b], _ => exact ⟨a, b, rfl⟩
theorem len3 {α : Type} {l : List α} (h : l.length = 3) : ∃ a b c, l = [a, b, c] := by
  match l, h with
  | [a, b, c], _ => exact ⟨a, b, c, rfl⟩
theorem len4 {α : Type} {l : List α} (h : l.length = 4) : ∃ a b c d, l = [a, b, c, d] := by
  match l, h with
  | [a, b, c, d], _ => exact ⟨a, b, c, d, rfl⟩
theorem len6 {α : Type} {l : List α} (h : l.length = 6) : ∃ a b c d e f, l = [a, b, c, d, e, f] := by
  match l, h with
  | [a, b, c, d, e, f], _ => exact ⟨a, b, c, d, e, f, rfl⟩
theorem typed51 {n : Nat} {xs : List D} (h : Typed Tryz.prog (n + 2) 51 xs) : ∃ l, xs = [.sl 1 (irows l)] ∧ ∀ m ∈ l, i64R m := by
  obtain ⟨rows, h1, _, h2⟩ := typed_slice Tryz.underlying51 h
  obtain ⟨l, hl, hq⟩ := rows_of (row := irow) (fun r hr => typed_intR Tryz.underlying2 hr) h2
  exact ⟨l, by rw [h1, hl, show Tryz.prog.cellsOf 2 = 1 by kernel_rfl]; rfl, hq⟩
theorem typed40 {n : Nat} {xs : List D} (h : Typed Tryz.prog (n + 2) 40 xs) : ∃ l, xs = [.sl 1 (irows l)] := by
  obtain ⟨rows, h1, _, h2⟩ := typed_slice Tryz.underlying40 h
  obtain ⟨l, hl, _⟩ := rows_of (row := irow) (Q := fun _ => True) (fun r hr => by obtain ⟨m, hm⟩ := typed_int Tryz.underlying3 hr; exact ⟨m, hm, trivial⟩) h2
  exact ⟨l, by rw [h1, hl, show Tryz.prog.cellsOf 3 = 1 by kernel_rfl]; rfl⟩
theorem typed81 {n : Nat} {xs : List D} (h : Typed Tryz.prog (n + 2) 81 xs) : ∃ l, xs = [.sl 1 (srows l)] := by
  obtain ⟨rows, h1, _, h2⟩ := typed_slice Tryz.underlying81 h
  obtain ⟨l, hl, _⟩ := rows_of (row := srow) (Q := fun _ => True) (fun r hr => by obtain ⟨m, hm⟩ := typed_str Tryz.underlying9 hr; exact ⟨m, hm, trivial⟩) h2
  exact ⟨l, by rw [h1, hl, show Tryz.prog.cellsOf 9 = 1 by kernel_rfl]; rfl⟩
theorem typed99 {n : Nat} {xs : List D} (h : Typed Tryz.prog (n + 3) 99 xs) : ∃ x : Enm, xs = x.row := by
  obtain ⟨parts, h1, h2, h3⟩ := typed_struct Tryz.underlying99 h
  obtain ⟨p0, p1, rfl⟩ := len2 h1
  obtain ⟨s, e0⟩ := typed_str Tryz.underlying9 (h3 0 _ p0 rfl rfl)
  obtain ⟨l, e1⟩ := typed81 (h3 1 _ p1 rfl rfl)
  exact ⟨⟨s, l⟩, by rw [h2, e0, e1]; rfl⟩
theorem typed22 {n : Nat} {xs : List D} (h : Typed Tryz.prog (n + 4) 22 xs) : ∃ l, xs = [.sl 2 (erows l)] := by
  obtain ⟨rows, h1, _, h2⟩ := typed_slice Tryz.underlying22 h
  obtain ⟨l, hl, _⟩ := rows_of (row := Enm.row) (Q := fun _ => True) (fun r hr => by obtain ⟨m, hm⟩ := typed99 hr; exact ⟨m, hm, trivial⟩) h2
  exact ⟨l, by rw [h1, hl, show Tryz.prog.cellsOf 99 = 2 by kernel_rfl]; rfl⟩
theorem typed67 {n : Nat} {xs : List D} (h : Typed Tryz.prog (n + 2) 67 xs) : ∃ x : Tyy, xs = [.int .i64 x.k, .int .i64 x.e, .int .i64 x.n] := by
  obtain ⟨parts, h1, h2, h3⟩ := typed_struct Tryz.underlying67 h
  obtain ⟨p0, p1, p2, rfl⟩ := len3 h1
  obtain ⟨a, e0⟩ := typed_int Tryz.underlying3 (h3 0 _ p0 rfl rfl)
  obtain ⟨b, e1⟩ := typed_int Tryz.underlying3 (h3 1 _ p1 rfl rfl)
  obtain ⟨c, e2⟩ := typed_int Tryz.underlying3 (h3 2 _ p2 rfl rfl)
  exact ⟨⟨a, b, c⟩, by rw [h2, e0, e1, e2]; rfl⟩
theorem typed69 {n : Nat} {xs : List D} (h : Typed Tryz.prog (n + 3) 69 xs) : ∃ x : Slt, xs = x.row := by
  obtain ⟨parts, h1, h2, h3⟩ := typed_struct Tryz.underlying69 h
  obtain ⟨p0, p1, p2, p3, rfl⟩ := len4 h1
  obtain ⟨s, e0⟩ := typed_str Tryz.underlying9 (h3 0 _ p0 rfl rfl)
  obtain ⟨t, e1⟩ := typed67 (h3 1 _ p1 rfl rfl)
  obtain ⟨a, e2⟩ := typed_int Tryz.underlying3 (h3 2 _ p2 rfl rfl)
  obtain ⟨l, e3, _⟩ := typed51 (h3 3 _ p3 rfl rfl)
  exact ⟨⟨s, t, a, l⟩, by rw [h2, e0, e1, e2, e3]; rfl⟩
theorem typed32 {n : Nat} {xs : List D} (h : Typed Tryz.prog (n + 4) 32 xs) : ∃ l, xs = [.sl 6 (slrows l)] := by
  obtain ⟨rows, h1, _, h2⟩ := typed_slice Tryz.underlying32 h
  obtain ⟨l, hl, _⟩ := rows_of (row := Slt.row) (Q := fun _ => True) (fun r hr => by obtain ⟨m, hm⟩ := typed69 hr; exact ⟨m, hm, trivial⟩) h2
  exact ⟨l, by rw [h1, hl, show Tryz.prog.cellsOf 69 = 6 by kernel_rfl]; rfl⟩
theorem typed89 {n : Nat} {xs : List D} (h : Typed Tryz.prog (n + 3) 89 xs) : ∃ x : Prt, xs = x.row := by
  obtain ⟨parts, h1, h2, h3⟩ := typed_struct Tryz.underlying89 h
  obtain ⟨p0, p1, rfl⟩ := len2 h1
  obtain ⟨s, e0⟩ := typed_str Tryz.underlying9 (h3 0 _ p0 rfl rfl)
  obtain ⟨t, e1⟩ := typed67 (h3 1 _ p1 rfl rfl)
  exact ⟨⟨s, t⟩, by rw [h2, e0, e1]; rfl⟩
theorem typed39 {n : Nat} {xs : List D} (h : Typed Tryz.prog (n + 4) 39 xs) : ∃ l, xs = [.sl 4 (prows l)] := by
  obtain ⟨rows, h1, h0, h2⟩ := typed_slice Tryz.underlying39 h
  obtain ⟨l, hl, _⟩ := rows_of (row := Prt.row) (Q := fun _ => True) (fun r hr => by obtain ⟨m, hm⟩ := typed89 hr; exact ⟨m, hm, trivial⟩) h2
  exact ⟨l, by rw [h1, hl, show Tryz.prog.cellsOf 89 = 4 by kernel_rfl]; rfl⟩
theorem typed106 {n : Nat} {xs : List D} (h : Typed Tryz.prog (n + 2) 106 xs) : ∃ x : Ins, xs = x.row ∧ i64R x.n := by
  obtain ⟨parts, h1, h2, h3⟩ := typed_struct Tryz.underlying106 h
  obtain ⟨p0, p1, p2, p3, rfl⟩ := len4 h1
  obtain ⟨a, e0⟩ := typed_int Tryz.underlying3 (h3 0 _ p0 rfl rfl)
  obtain ⟨b, e1⟩ := typed_int Tryz.underlying3 (h3 1 _ p1 rfl rfl)
  obtain ⟨c, e2⟩ := typed_int Tryz.underlying3 (h3 2 _ p2 rfl rfl)
  obtain ⟨d, e3, hd⟩ := typed_intR Tryz.underlying2 (h3 3 _ p3 rfl rfl)
  exact ⟨⟨a, b, c, d⟩, by rw [h2, e0, e1, e2, e3]; rfl, hd⟩
theorem typed41 {n : Nat} {xs : List D} (h : Typed Tryz.prog (n + 4) 41 xs) : ∃ l, xs = [.sl 4 (crows l)] ∧ ∀ x ∈ l, i64R x.n := by
  obtain ⟨rows, h1, _, h2⟩ := typed_slice Tryz.underlying41 h
  obtain ⟨l, hl, hq⟩ := rows_of (row := Ins.row) (Q := fun x : Ins => i64R x.n) (fun r hr => typed106 hr) h2
  exact ⟨l, by rw [h1, hl, show Tryz.prog.cellsOf 106 = 4 by kernel_rfl]; rfl, hq⟩
def Img.ds (x : Img) : List D := [.sl 2 (erows x.enums), .sl 4 (prows x.ins), .sl 4 (prows x.outs), .sl 6 (slrows x.slots), .sl 1 (irows x.locals), .sl 4 (crows x.code)]
theorem typed43 {n : Nat} {xs : List D} (h : Typed Tryz.prog (n + 5) 43 xs) : ∃ x : Img, xs = x.ds ∧ ∀ i ∈ x.code, i64R i.n := by
  obtain ⟨parts, h1, h2, h3⟩ := typed_struct Tryz.underlying43 h
  obtain ⟨p0, p1, p2, p3, p4, p5, rfl⟩ := len6 h1
  obtain ⟨a, e0⟩ := typed22 (h3 0 _ p0 rfl rfl)
  obtain ⟨b, e1⟩ := typed39 (h3 1 _ p1 rfl rfl)
  obtain ⟨c, e2⟩ := typed39 (h3 2 _ p2 rfl rfl)
  obtain ⟨d, e3⟩ := typed32 (h3 3 _ p3 rfl rfl)
  obtain ⟨e, e4⟩ := typed40 (n := n + 2) (h3 4 _ p4 rfl rfl)
  obtain ⟨f, e5, k5⟩ := typed41 (h3 5 _ p5 rfl rfl)
  exact ⟨⟨a, b, c, d, e, f⟩, by rw [h2, e0, e1, e2, e3, e4, e5]; rfl, k5⟩
theorem plain43 : plainOK Tryz.prog 7 43 = true := by kernel_rfl
theorem plain51 : plainOK Tryz.prog 6 51 = true := by kernel_rfl
open Go.RowKit Go.ChangeShapes Go.WideShapes
section
variable {H : Type} {enc : TypeId × Value → H} {W : World} {base : Nat}
/-- How long a slice in a struct may be, by what it weighs. -/
theorem field_len {P : Program} {w : World} {t e : TypeId} {fs : Array Field} {f : Field} {i : Nat} {v : Value} {d : DataW H} {p : List MemPlace} {u : Value} {sz : Nat} {rows : List (List D)} {Z : Nat → Nat → Prop}
    (ht : P.underlying t = some (.struct fs)) (hf : fs[i]? = some f) (he : P.underlying f.type = some (.slice e)) (hc : P.cellsOf f.type = 1) (hb : 1 ≤ P.bytesOf e)
    (h : DataW.Trod enc P w 0 (fun _ => true) true t v d p) (hw : ∀ n ∈ d.weights P t, n ≤ reachBytes) (hu : v.cells.toList[f.offset]? = some u) (hr : RepD w Z u (.sl sz rows)) : rows.length ≤ reachBytes := by
  obtain ⟨fuel, h⟩ := h
  obtain ⟨xs, n, _, hx, _, hl, hg⟩ := DataW.trod_struct ht h
  have hg := hg i f hf
  have hlt : i < xs.length := by
    rw [hl]; exact (Array.getElem?_eq_some_iff.1 hf).1
  rw [List.getElem?_eq_getElem hlt] at hg
  have hcut : (v.cells.toList.drop f.offset).take (P.cellsOf f.type) = [u] := by
    obtain ⟨h1, h2⟩ := List.getElem?_eq_some_iff.1 hu
    rw [hc, List.drop_eq_getElem_cons h1, h2]; rfl
  rw [hcut] at hg
  rcases DataW.trod_slice he hg with ⟨h1, _⟩ | ⟨a, len, cap, elems, rest, m, _, h1, h2, _, _, _, h3, _⟩
  · cases h1
    cases hr
    exact Nat.zero_le _
  · cases h1
    have hlen : rows.length = len := by
      cases hr with
      | slemp => rfl
      | sl _ _ _ _ _ _ U hn => exact hn
    have hd : d = .agg (xs.map (·.1)) := (Prod.mk.inj hx).1
    have hm : (elems.length + rest.length) * P.bytesOf e ∈ d.weights P t := by
      rw [hd]
      show _ ∈ DataW.weights P t (.agg (xs.map (·.1)))
      simp only [DataW.weights, ht]
      refine DataW.weights_mem_each (j := i) (t := f.type) (d := xs[i].1) ?_ ?_ _ ?_
      · rw [List.getElem?_map, Array.getElem?_toList, hf]; rfl
      · rw [List.getElem?_map, List.getElem?_eq_getElem hlt]; rfl
      · rw [h2]
        simp [DataW.weights, he]
    have := hw _ hm
    have h4 : elems.length + rest.length ≤ (elems.length + rest.length) * P.bytesOf e := Nat.le_mul_of_pos_right _ hb
    omega
theorem open43 {v : Value} {d : DataW H} {p : List MemPlace} (hv : Value.okWide Tryz.prog W .any base 43 v) (h : DataW.Trod enc Tryz.prog W 0 (fun _ => true) true 43 v d p) (hw : ∀ n ∈ d.weights Tryz.prog 43, n ≤ reachBytes) : ∃ x : Img, Rep W (g0 (ZW W)) v x.v ∧ x.ins.length + x.outs.length ≤ 1000000000000000 ∧ ∀ i ∈ x.code, i64R i.n := by
  unfold Value.okWide at hv
  rw [Tryz.underlying43] at hv
  obtain ⟨cs, rfl, _, _⟩ := hv
  obtain ⟨xs, h1, h2, h3⟩ := bridge_val plain43 h
  obtain ⟨x, rfl, hc⟩ := typed43 h1
  have hl : (Value.agg cs).cells.toList.length = 6 := h2.symm
  have hi := field_len (i := 1) Tryz.underlying43 rfl Tryz.underlying39 (by kernel_rfl) (by decide +kernel) h hw (List.getElem?_eq_getElem (show 1 < (Value.agg cs).cells.toList.length by omega)) (h3 1 _ _ (List.getElem?_eq_getElem (by omega)) rfl)
  have ho := field_len (i := 2) Tryz.underlying43 rfl Tryz.underlying39 (by kernel_rfl) (by decide +kernel) h hw (List.getElem?_eq_getElem (show 2 < (Value.agg cs).cells.toList.length by omega)) (h3 2 _ _ (List.getElem?_eq_getElem (by omega)) rfl)
  refine ⟨x, rep_agg h2 h3, ?_, hc⟩
  rw [prows_len] at hi ho
  have : reachBytes ≤ 200000000000000 := by decide
  omega
theorem open51 {v : Value} {d : DataW H} {p : List MemPlace} (hv : Value.okWide Tryz.prog W .any base 51 v) (h : DataW.Trod enc Tryz.prog W 0 (fun _ => true) true 51 v d p) : ∃ l, Rep W (g0 (ZW W)) v (.d (.sl 1 (irows l))) ∧ ∀ m ∈ l, i64R m := by
  obtain ⟨xs, h1, h2, h3⟩ := bridge_val plain51 h
  obtain ⟨l, rfl, hq⟩ := typed51 h1
  refine ⟨l, rep_cell rfl ?_ h3, hq⟩
  unfold Value.okWide Cell.okWide Cell.ok at hv
  rw [Tryz.underlying51] at hv
  cases v <;> first | rfl | (simp at hv)
end
end Go.Vm
end

section
namespace Go.Vm
open Go.Proofs
theorem F5_call (x : Img) (cells : List Int) (hp : x.ins.length + x.outs.length ≤ 1000000000000000) (hr : ∀ m ∈ cells, i64R m) (hcn : ∀ i ∈ x.code, i64R i.n) : PCall Tryz.prog 5 [x.v, .d (.sl 1 (irows cells))] (.d (.bool true)) :=
  PGood.truth (t := 4) (by kernel_rfl) (by kernel_rfl) (callF_good mixedOrders kn_good rfl (c_Halts x cells hp hr (fun n hn => by
    obtain ⟨i, hi, rfl⟩ := List.mem_map.1 hn
    exact hcn i hi)))
end Go.Vm
end

section
namespace Go.Proofs.YtmmcmfcnpfbifaaGreatDoor
open Go.ChangeShapes Go.WideShapes Go.ChangeAt Go.RowKit Go.Vm

theorem own_ : ownKnob Tryz.prog.godebug = none := by kernel_rfl
theorem laid_ : laidOutB Tryz.prog = true := by kernel_rfl
def lays : List (String × DataW Unit) := [("unicode/utf8.acceptRanges", Rows.laid_unicode_utf8_acceptRanges), ("unicode/utf8.first", Rows.laid_unicode_utf8_first)]
theorem weigh {H : Type} {P : Program} {ts ts' : List TypeId} {ds ds' : List (DataW H)} {t : TypeId} {d : DataW H} (h : (DataW.weightsEach P (t :: ts) (d :: ds)).all (· ≤ reachBytes) = true) : ∀ n ∈ d.weights P t, n ≤ reachBytes := fun n hn => by
  have := List.all_eq_true.1 h n (DataW.weights_mem_each (j := 0) rfl rfl n hn)
  simpa using this

set_option maxRecDepth 100000 in
theorem soundHalts_lifted (os : Os) (started : os.Started) (H : Type) (enc : TypeId × Value → H) :
    ReturnsInHanded {} Tryz.checked os 5 .any (fun w args => (Rows.soundHaltsSpec.pre enc Tryz.prog Tryz.f5 Rows.soundHaltsRow.domain false w args ∧ laidMetH Tryz.prog lays w) ∧ sizedMet enc Tryz.prog Tryz.f5 (OpenSpec.ofChange Rows.soundHaltsSpec) false w args)
      (Rows.soundHaltsSpec.post enc Tryz.prog Tryz.f5 false true false false) := by
  refine returnsInHanded_of_change_and (C := Tryz.checked) (X := fun w _ => laidMetH Tryz.prog lays w) (fun _ _ _ hh h => h.of_heap hh) own_ started (by kernel_rfl) Tryz.func5
    (ChangeSpec.witness_shaped (enc := enc) (C := Tryz.checked) (os := os) (X := fun w _ => laidMetH Tryz.prog lays w) false (World.laidAll Tryz.prog os lays) #[.agg #[.slice none 0 0, .slice none 0 0, .slice none 0 0, .slice none 0 0, .slice none 0 0, .slice none 0 0], .slice none 0 0] 8 (World.laidAll_os _ _ _)
      (World.shaped_of_ZipB (by kernel_rfl) (by kernel_rfl)) (by kernel_rfl) (by kernel_rfl) (by kernel_rfl)
      (by rw [MakeChecks.laidMetH_plain _ _ _ (by kernel_rfl)]; exact laidMet_laidAll _ (by kernel_rfl) (by kernel_rfl))) ?_
  intro W base args ds gs before hval0 hW hcnd hsz _ _
  have hval : ∀ (j : Nat) t v, Tryz.f5.params[j]? = some t → args[j]? = some v → Value.okWide Tryz.prog W .any base t v := hval0
  have hW' := hW
  obtain ⟨p, q, hA0, hV, rfl, hfz, hnd⟩ := hW
  have hA : DataW.TrodAll enc Tryz.prog W 0 (fun _ => true) true Tryz.f5.params.toList args.toList ds p := hA0
  rw [show Tryz.checked.prog = Tryz.prog from rfl, Tryz.params5] at hsz
  rw [Tryz.params5] at hA hval
  obtain ⟨v0, v1, d0, d1, p0, p1, rfl, rfl, rfl, h0, h1⟩ := trodAll_two hA
  obtain ⟨rfl, rfl⟩ := trodVars_none hV
  obtain ⟨x, r0, hp, hcn⟩ := open43 (hval 0 43 v0 rfl rfl) h0 (weigh (ts' := []) (ds' := ([] : List (DataW H))) hsz)
  obtain ⟨cells, r1, hr⟩ := open51 (hval 1 51 v1 rfl rfl) h1
  have hc := calls_true (us := [v0, v1]) (F5_call x cells hp hr hcn) ⟨rfl, fun i u v hu hv => by
    match i with
    | 0 => simp at hu hv; subst hu; subst hv; exact r0
    | 1 => simp at hu hv; subst hu; subst hv; exact r1
    | i + 2 => simp at hu⟩
  refine hc.mono fun e W' ⟨he, hb⟩ => ?_
  subst he
  exact ⟨_, rfl, post_true laid_ (by kernel_rfl) rfl hW' hb rfl rfl rfl (by kernel_rfl) Tryz.underlying4⟩

theorem soundHalts_holds : Rows.SoundHaltsSaid :=
  OpenClaim.holds_of_wide 5 Tryz.f5 rfl rfl rfl rfl rfl rfl rfl ⟨rfl, rfl, rfl, rfl, rfl⟩ rfl rfl rfl rfl rfl (by kernel_rfl) Tryz.func5 (by kernel_rfl)
    (of_decide_eq_true (by kernel_rfl)) (by unfold Func.isWrapper; first | (rw [if_pos (by decide +kernel)]; kernel_rfl) | (rw [if_neg (by decide +kernel)]; exact ⟨rfl, rfl⟩))
    (fun os started H enc _ => soundHalts_lifted os started H enc)
theorem soundHalts_card : Rows.SoundHaltsCardSaid :=
  Claim7.holds_tied_plain_at .later [] [.data, .pinned] true (true, "92a5775a05fe5720c6c544d50e2af9b77106ce30d19cd6b66abdfdabaacd809d") false soundHalts_holds (fun _ h => by cases h) (by kernel_rfl) (fun _ h => by cases h) soundHalts_row_tie rfl ⟨rfl, rfl⟩ (by kernel_rfl) rfl
    (fun f fn hf hfn => by
      obtain rfl : f = 5 := Option.some.inj ((show Tryz.prog.funcNamed "noria/norialaw34.SoundHalts" = some 5 by kernel_rfl).symm.trans hf) |>.symm
      obtain rfl : fn = Tryz.f5 := (Option.some.inj (Tryz.func5.symm.trans hfn)).symm
      exact ⟨by kernel_rfl, fun j t ht => by
        rw [Tryz.params5] at ht
        have hm : t ∈ [43, 51] := by simpa using Array.mem_of_getElem? ht
        have hall : ([43, 51].all fun u => !Tryz.prog.wantsStandIn u) = true := by kernel_rfl
        exact (show Tryz.prog.wantsStandIn t = false by simpa using List.all_eq_true.1 hall t hm)⟩)
    (by kernel_rfl)
#print axioms soundHalts_card
end Go.Proofs.YtmmcmfcnpfbifaaGreatDoor
end
