/-
  Part I of the proof. What is proved by the whole: the statement that the claim names, with no condition. This part: lemmas.
-/
import Derived.Test.YtdckoceiokaelaaDoorG
set_option linter.unusedSimpArgs false
set_option linter.unusedVariables false

section
set_option linter.all false
set_option maxRecDepth 100000
set_option maxHeartbeats 4000000
namespace Go.Vm
open Go.Proofs
/-! ### two texts, a line feed between -/
theorem span_app1 {p : Nat → Bool} {l r : List Nat} (h : spanN p l < l.length) : spanN p (l ++ r) = spanN p l := by
  unfold spanN at h ⊢
  rw [List.takeWhile_append]
  rw [if_neg (by omega)]
theorem span_app2 {p : Nat → Bool} {l r : List Nat} (h : spanN p l = l.length) : spanN p (l ++ r) = l.length + spanN p r := by
  unfold spanN at h ⊢
  rw [List.takeWhile_append, if_pos h, List.length_append]
theorem span_cons1 {p : Nat → Bool} {c : Nat} {r : List Nat} (h : p c = true) : spanN p (c :: r) = 1 + spanN p r := by
  unfold spanN; rw [List.takeWhile_cons, if_pos h, List.length_cons]; omega
theorem span_cons0 {p : Nat → Bool} {c : Nat} {r : List Nat} (h : p c = false) : spanN p (c :: r) = 0 := by
  unfold spanN; rw [List.takeWhile_cons, h]; rfl
theorem rem_app (x r : List Nat) : hasN remN (x ++ 10 :: r) = hasN remN x := by
  unfold hasN remN
  match x with
  | [] => simp
  | [c] => simp
  | a :: b :: t => simp
theorem gap_ten (r : List Nat) : gapN (10 :: r) = 1 + gapN r := by
  have h1 := gapN.eq_def (10 :: r)
  have h2 := gapN.eq_def r
  have hs : spanN blankN (10 :: r) = 1 + spanN blankN r := span_cons1 rfl
  rw [hs] at h1
  have hd : (10 :: r).drop (1 + spanN blankN r) = r.drop (spanN blankN r) := by rw [Nat.add_comm, List.drop_succ_cons]
  have hd2 : ∀ k, (10 :: r).drop (1 + spanN blankN r + k) = r.drop (spanN blankN r + k) := fun k => by
    rw [show 1 + spanN blankN r + k = (spanN blankN r + k) + 1 by omega, List.drop_succ_cons]
  rw [hd, hd2] at h1
  rw [h1, h2]
  split <;> omega
theorem gap_app : ∀ (n : Nat) (l r : List Nat), l.length ≤ n → (gapN l < l.length → gapN (l ++ 10 :: r) = gapN l) ∧ (gapN l = l.length → gapN (l ++ 10 :: r) = l.length + 1 + gapN r)
  | n, l, r, hn => by
    have h1 := gapN.eq_def l
    have h2 := gapN.eq_def (l ++ 10 :: r)
    have hle := spanN_le blankN l
    by_cases hb : spanN blankN l < l.length
    · rw [span_app1 hb] at h2
      have hda : (l ++ 10 :: r).drop (spanN blankN l) = l.drop (spanN blankN l) ++ 10 :: r := List.drop_append_of_le_length (by omega)
      rw [hda, rem_app] at h2
      cases hr : hasN remN (l.drop (spanN blankN l)) with
      | false =>
        rw [hr] at h1 h2
        simp only [Bool.false_eq_true, dite_false] at h1 h2
        exact ⟨fun _ => by rw [h1, h2], fun h => by omega⟩
      | true =>
        rw [hr] at h1 h2
        simp only [dite_true] at h1 h2
        have hrs := rem_span hr
        have hkl := spanN_le nlineN (l.drop (spanN blankN l))
        by_cases hk : spanN nlineN (l.drop (spanN blankN l)) < (l.drop (spanN blankN l)).length
        · rw [span_app1 hk] at h2
          generalize spanN nlineN (l.drop (spanN blankN l)) = k at *
          generalize spanN blankN l = m at *
          simp only [List.length_drop] at hk hkl
          rw [List.drop_append_of_le_length (by omega)] at h2
          cases n with
          | zero => omega
          | succ n =>
            have ih := gap_app n (l.drop (m + k)) r (by simp only [List.length_drop]; omega)
            simp only [List.length_drop] at ih
            exact ⟨fun h => by rw [h1, h2, ih.1 (by omega)], fun h => by rw [h2, ih.2 (by omega)]; omega⟩
        · have hk : spanN nlineN (l.drop (spanN blankN l)) = (l.drop (spanN blankN l)).length := by omega
          rw [span_app2 hk, span_cons0 (c := 10) rfl] at h2
          rw [hk] at h1
          generalize spanN blankN l = m at *
          simp only [List.length_drop] at h1 h2 hk hkl
          have e1 : m + (l.length - m) = l.length := by omega
          rw [e1, List.drop_length] at h1
          have e2 : m + (l.length - m + 0) = l.length := by omega
          rw [e2, List.drop_left, gap_ten] at h2
          have e3 : gapN [] = 0 := by
            have := gapN_le _ [] (Nat.le_refl _)
            simpa using this
          rw [e3] at h1
          exact ⟨fun h => by omega, fun h => by omega⟩
    · have hb : spanN blankN l = l.length := by omega
      rw [span_app2 hb, span_cons1 (c := 10) rfl] at h2
      have h3 := gapN.eq_def r
      have hd : (l ++ 10 :: r).drop (l.length + (1 + spanN blankN r)) = r.drop (spanN blankN r) := by
        rw [← List.drop_drop, List.drop_left, Nat.add_comm, List.drop_succ_cons]
      have hd2 : ∀ k, (l ++ 10 :: r).drop (l.length + (1 + spanN blankN r) + k) = r.drop (spanN blankN r + k) := fun k => by
        rw [← List.drop_drop, hd, List.drop_drop]
      rw [hd, hd2] at h2
      have e : gapN (l ++ 10 :: r) = l.length + 1 + gapN r := by
        rw [h2, h3]
        split <;> omega
      refine ⟨fun h => ?_, fun _ => e⟩
      rw [h1, hb, List.drop_length] at h
      have : hasN remN [] = false := rfl
      rw [this] at h
      simp at h
theorem idxN_app {c : Nat} : ∀ {l r : List Nat} {i : Nat}, idxN c l = some i → idxN c (l ++ r) = some i
  | [], _, _, h => by cases h
  | x :: l, r, i, h => by
    rw [List.cons_append]
    rw [idxN] at h ⊢
    split at h
    · rename_i hc; rw [if_pos hc]; exact h
    · rename_i hc
      rw [if_neg hc]
      cases hq : idxN c l with
      | none => rw [hq] at h; cases h
      | some j => rw [hq] at h; rw [idxN_app hq]; exact h
theorem ext_same {x y : ByteArray} {r : List Nat} (h : tb y = tb x ++ 10 :: r) (a b : Nat) (hb : b ≤ (tb x).length) : y.extract a b = x.extract a b := by
  apply tb_inj
  rw [tb_ext, tb_ext, h, List.take_append_of_le_length hb]
theorem span_same {p : Nat → Bool} (hp : p 10 = false) (l r : List Nat) : spanN p (l ++ 10 :: r) = spanN p l := by
  by_cases h : spanN p l < l.length
  · exact span_app1 h
  · have := spanN_le p l
    have h : spanN p l = l.length := by omega
    rw [span_app2 h, span_cons0 hp]; omega
theorem next_app {x y : ByteArray} {r : List Nat} (h : tb y = tb x ++ 10 :: r) (h0 : 0 < (tb x).length) (hok : (nextT0 x).ok = true) : nextT0 y = nextT0 x := by
  have hhd : (tb y).getD 0 0 = (tb x).getD 0 0 := by
    rw [h]
    match tb x, h0 with
    | c :: t, _ => rfl
  have hw : wordT y = wordT x := by
    unfold wordT
    have hs : spanN innerN (tb y) = spanN innerN (tb x) := by rw [h]; exact span_same rfl _ _
    simp only [hs, hhd, ext_same h 0 _ (spanN_le innerN (tb x))]
  have hn : numberT y = numberT x := by
    unfold numberT
    have hs : spanN digitN (tb y) = spanN digitN (tb x) := by rw [h]; exact span_same rfl _ _
    simp only [hs, hhd, ext_same h 0 _ (spanN_le digitN (tb x))]
  have hp : (pathT x).ok = true → pathT y = pathT x := fun hok => by
    unfold pathT at hok ⊢
    cases hi : idxN 39 ((tb x).drop 1) with
    | none => rw [hi] at hok; cases hok
    | some i =>
      have hlt := (idxN_some hi).1
      simp only [List.length_drop] at hlt
      have hd : (tb y).drop 1 = (tb x).drop 1 ++ 10 :: r := by rw [h, List.drop_append_of_le_length h0]
      rw [hd, idxN_app hi]
      simp only [ext_same h 1 (i + 1) (by omega)]
  have hm : markT y = markT x := by
    unfold markT
    rw [hhd]
    by_cases h2 : 2 ≤ (tb x).length
    · have : (tb y).take 2 = (tb x).take 2 := by rw [h, List.take_append_of_le_length h2]
      rw [this, ext_same h 0 2 h2, ext_same h 0 1 (by omega)]
    · obtain ⟨c, hc⟩ : ∃ c, tb x = [c] := by
        match hx : tb x, h0, h2 with
        | [c], _, _ => exact ⟨c, rfl⟩
        | _ :: _ :: _, _, h2 => simp at h2
      have e1 : twoN.contains ((tb x).take 2) = false := by
        rw [hc, Bool.eq_false_iff]
        intro hh
        obtain ⟨i, hi, he⟩ := two_in.1 hh
        obtain ⟨_, _, _, hl⟩ := two_at i hi
        rw [← he] at hl; simp at hl
      have e2 : twoN.contains ((tb y).take 2) = false := by
        rw [h, hc, Bool.eq_false_iff]
        intro hh
        obtain ⟨i, hi, he⟩ := two_in.1 hh
        match i, hi with
        | 0, _ | 1, _ | 2, _ | 3, _ | 4, _ => simp [twoN] at he
      rw [e1, e2, ext_same h 0 1 (by omega)]
      cases oneN.contains ((tb x).getD 0 0) <;> rfl
  have hx := nextT0_cases x
  unfold nextT0 at hok hx ⊢
  simp only [hhd] at hok hx ⊢
  rw [hw, hn, hm]
  split at hok
  · rfl
  · rfl
  · rw [hp hok]
  · rfl
end Go.Vm
end

section
set_option linter.all false
set_option maxRecDepth 100000
set_option maxHeartbeats 4000000
namespace Go.Vm
open Go.Proofs
def shT (k : Nat) (t : Tk) : Tk := ⟨t.k, t.s, t.n, t.a + k⟩
theorem ext_end {W b : ByteArray} {pre : List Nat} (h : tb W = pre ++ tb b) (p : Nat) : W.extract (pre.length + p) (tb W).length = b.extract p (tb b).length := by
  apply tb_inj
  rw [tb_ext, tb_ext, List.take_length, List.take_length, h, ← List.drop_drop, List.drop_left]
theorem lexS_shift {W b : ByteArray} {pre : List Nat} (h : tb W = pre ++ tb b) : ∀ (n p : Nat), (tb b).length - p ≤ n → p ≤ (tb b).length →
    lexS W (pre.length + p) = ((lexS b p).1.map (shT pre.length), pre.length + (lexS b p).2.1, (lexS b p).2.2)
  | n, p, hn, hp => by
    have e1 := lexS.eq_def W (pre.length + p)
    have e2 := lexS.eq_def b p
    have hd : (tb W).drop (pre.length + p) = (tb b).drop p := by rw [h, ← List.drop_drop, List.drop_left]
    have hl : (tb W).length = pre.length + (tb b).length := by rw [h, List.length_append]
    rw [hd] at e1
    generalize gapN ((tb b).drop p) = g at e1 e2
    have hx := ext_end h (p + g)
    have hpg : pre.length + p + g = pre.length + (p + g) := by omega
    rw [hpg, hx] at e1
    generalize ht : nextT0 (b.extract (p + g) (tb b).length) = t at e1 e2
    by_cases hlt : p + g < (tb b).length
    · rw [dif_pos (by omega)] at e1
      rw [dif_pos hlt] at e2
      by_cases hok : t.ok = true ∧ 1 ≤ t.w
      · rw [dif_pos hok] at e1 e2
        have hto := nextT0_ok (b.extract (p + g) (tb b).length) (by rw [tb_ext, List.take_length]; simp; omega)
        rw [ht] at hto
        have hw := (hto hok.1).2.1
        rw [tb_ext, List.take_length, List.length_drop] at hw
        cases n with
        | zero => omega
        | succ n =>
          have ih := lexS_shift h n (p + g + t.w) (by omega) (by omega)
          have hq : pre.length + (p + g) + t.w = pre.length + (p + g + t.w) := by omega
          rw [hq, ih] at e1
          rw [e1, e2]
          simp only [List.map_cons, shT]
          congr 3
          omega
      · rw [dif_neg hok] at e1 e2
        rw [e1, e2]; rfl
    · rw [dif_neg (by omega)] at e1
      rw [dif_neg hlt] at e2
      rw [e1, e2]; rfl
theorem lexS_app {W a : ByteArray} {r : List Nat} (h : tb W = tb a ++ 10 :: r) : ∀ (n q : Nat), (tb a).length - q ≤ n → q ≤ (tb a).length → (lexS a q).2.2 = true →
    lexS W q = ((lexS a q).1 ++ (lexS W ((tb a).length + 1)).1, (lexS W ((tb a).length + 1)).2)
  | n, q, hn, hq, hok => by
    have e1 := lexS.eq_def W q
    have e2 := lexS.eq_def a q
    have hd : (tb W).drop q = (tb a).drop q ++ 10 :: r := by rw [h, List.drop_append_of_le_length hq]
    have hl : (tb W).length = (tb a).length + 1 + r.length := by rw [h, List.length_append, List.length_cons]; omega
    obtain ⟨g1, g2⟩ := gap_app _ ((tb a).drop q) r (Nat.le_refl _)
    have hgle := gapN_le _ _ (Nat.le_refl ((tb a).drop q).length)
    rw [hd] at e1
    simp only [List.length_drop] at g1 g2 hgle
    by_cases hlt : gapN ((tb a).drop q) < (tb a).length - q
    · rw [g1 hlt] at e1
      generalize gapN ((tb a).drop q) = g at *
      rw [dif_pos (by omega)] at e2
      rw [dif_pos (by omega)] at e1
      have hex : tb (W.extract (q + g) (tb W).length) = tb (a.extract (q + g) (tb a).length) ++ 10 :: r := by
        rw [tb_ext, tb_ext, List.take_length, List.take_length, h, List.drop_append_of_le_length (by omega)]
      have hne : 0 < (tb (a.extract (q + g) (tb a).length)).length := by rw [tb_ext, List.take_length]; simp; omega
      have hto := nextT0_ok (a.extract (q + g) (tb a).length) hne
      by_cases hk : (nextT0 (a.extract (q + g) (tb a).length)).ok = true ∧ 1 ≤ (nextT0 (a.extract (q + g) (tb a).length)).w
      · rw [next_app hex hne hk.1] at e1
        have hw := (hto hk.1).2.1
        rw [tb_ext, List.take_length, List.length_drop] at hw
        rw [dif_pos hk] at e1 e2
        generalize nextT0 (a.extract (q + g) (tb a).length) = t at *
        rw [e2] at hok
        cases n with
        | zero => omega
        | succ n =>
          have ih := lexS_app h n (q + g + t.w) (by omega) (by omega) hok
          rw [ih] at e1
          rw [e1, e2]
          rfl
      · rw [dif_neg hk] at e2
        rw [e2] at hok; cases hok
    · have hge : gapN ((tb a).drop q) = (tb a).length - q := by omega
      rw [g2 hge] at e1
      rw [hge, dif_neg (by omega)] at e2
      have e3 := lexS.eq_def W ((tb a).length + 1)
      have hd2 : (tb W).drop ((tb a).length + 1) = r := by rw [h, ← List.drop_drop, List.drop_left]; rfl
      rw [hd2] at e3
      have hq2 : q + ((tb a).length - q + 1 + gapN r) = (tb a).length + 1 + gapN r := by omega
      rw [hq2] at e1
      rw [e1, e2, ← e3]
      rfl
theorem lexS_joins {W a b : ByteArray} (h : tb W = tb a ++ 10 :: tb b) (ha : (lexS a 0).2.2 = true) (hb : (lexS b 0).2.2 = true) :
    (lexS W 0).1 = (lexS a 0).1 ++ (lexS b 0).1.map (shT ((tb a).length + 1)) ∧ (lexS W 0).2.2 = true := by
  have h1 := lexS_app h _ 0 (Nat.le_refl _) (Nat.zero_le _) ha
  have h2 := lexS_shift (W := W) (b := b) (pre := tb a ++ [10]) (by rw [h]; simp) _ 0 (Nat.le_refl _) (Nat.zero_le _)
  have hl : (tb a ++ [10]).length = (tb a).length + 1 := by simp
  rw [hl, Nat.add_zero] at h2
  rw [h1, h2]
  exact ⟨rfl, hb⟩
theorem eqDs_tk (t : Tk) : eqDs (tkrow t) (tkrow t) = true := by
  simp [tkrow, eqDs, eqD]
theorem ch_le {L : List Nat} : ∀ {ts : List Tk} {a : Nat}, Ch L a ts → ∀ t ∈ ts, t.a ≤ L.length
  | t :: r, a, h, x, hx => by
    rcases List.mem_cons.1 hx with rfl | hx
    · have := h.2.2.1; omega
    · exact ch_le h.2.2.2.2 x hx
theorem end_sh {W a b : ByteArray} (hW : tb W = tb a ++ 10 :: tb b) : endT W = shT ((tb a).length + 1) (endT b) := by
  unfold endT shT
  congr 1
  rw [hW, List.length_append, List.length_cons]
  show _ = (tb b).length + ((tb a).length + 1)
  omega
theorem c_LexJoins (a b : ByteArray) : cF 4 [.d (.str a), .d (.str b)] = some (.val [.bool true]) := by
  have kl := c_live
  by_cases h3 : 300 < (tb a).length ∨ 300 < (tb b).length
  · have e : (decide ((300 : Int) < ((tb a).length : Int)) || decide ((300 : Int) < ((tb b).length : Int))) = true := by
      rw [Bool.or_eq_true, decide_eq_true_eq, decide_eq_true_eq]; omega
    refine cOf (by kernel_rfl) rfl ?_
    rw [g4_eq]
    simp only [g4, go1, Option.bind_some, eq_self, cond_true, cond_false, Nat.reduceAdd, Int.reduceEq, Int.reduceLT, Int.reduceLE, Int.reduceSub, Int.reduceAdd, kl, size_tb, e]
  · have e1 : decide ((300 : Int) < ((tb a).length : Int)) = false := decF (by omega)
    have e2 : decide ((300 : Int) < ((tb b).length : Int)) = false := decF (by omega)
    have ha : (tb a).length ≤ 300 := by omega
    have hb : (tb b).length ≤ 300 := by omega
    have ka := c_All a 300 (by rw [← tb_len]; omega)
    have kb := c_All b 300 (by rw [← tb_len]; omega)
    have kw := c_All (a ++ bs [10] ++ b) 700 (by rw [← tb_len, tb_app, tb_app]; simp [tb_bs]; omega)
    have hW : tb (a ++ bs [10] ++ b) = tb a ++ 10 :: tb b := by rw [tb_app, tb_app]; simp [tb_bs]
    have n0 := c_xnum 0
    have n2 := c_xnum 2
    have s1 : sy.sfit a (bs [10]) = true := decide_eq_true (by rw [← tb_len, ← tb_len, tb_bs]; simp; omega)
    have s2 : sy.sfit (a ++ bs [10]) b = true := decide_eq_true (by rw [← tb_len, ← tb_len, tb_app, tb_bs]; simp; omega)
    unfold allR at ka kb kw
    rw [e1] at ka
    rw [e2] at kb
    have lW : (tb (a ++ bs [10] ++ b)).length = (tb a).length + 1 + (tb b).length := by rw [hW, List.length_append, List.length_cons]; omega
    rw [show decide ((700 : Int) < ((tb (a ++ bs [10] ++ b)).length : Int)) = false from decF (by omega)] at kw
    have hls := lexS_len a _ 0 (Nat.le_refl _)
    have hlb := lexS_len b _ 0 (Nat.le_refl _)
    refine cOf (by kernel_rfl) rfl ?_
    rw [g4_eq]
    simp only [g4, go1, Option.bind_some, eq_self, cond_true, cond_false, Nat.reduceAdd, Int.reduceEq, Int.reduceLT, Int.reduceLE, Int.reduceSub, Int.reduceAdd, kl, size_tb, e1, e2]
    cases oa : (lexS a 0).2.2 with
    | false =>
      rw [oa] at ka
      cases ob : (lexS b 0).2.2 with
      | false => rw [ob] at kb; simp only [go1, Option.bind_some, eq_self, cond_true, cond_false, Nat.reduceAdd, Int.reduceEq, Int.reduceLT, Int.reduceLE, Int.reduceSub, Int.reduceAdd, ka, kb, n2]
      | true => rw [ob] at kb; simp only [go1, Option.bind_some, eq_self, cond_true, cond_false, Nat.reduceAdd, Int.reduceEq, Int.reduceLT, Int.reduceLE, Int.reduceSub, Int.reduceAdd, ka, kb, n2, n0]
    | true =>
      rw [oa] at ka
      cases ob : (lexS b 0).2.2 with
      | false => rw [ob] at kb; simp only [go1, Option.bind_some, eq_self, cond_true, cond_false, Nat.reduceAdd, Int.reduceEq, Int.reduceLT, Int.reduceLE, Int.reduceSub, Int.reduceAdd, ka, kb, n2, n0]
      | true =>
        obtain ⟨j1, j2⟩ := lexS_joins hW oa ob
        rw [ob] at kb
        rw [j1, j2, end_sh hW] at kw
        generalize (lexS a 0).1 = ta at ka kw hls
        have hcb := lexS_ch b _ 0 (Nat.le_refl _) (Nat.zero_le _)
        generalize (lexS b 0).1 = tb' at kb kw hlb hcb
        have la : ((trows (ta ++ [endT a])).length : Int) = (ta.length : Int) + 1 := by rw [trows_len]; simp
        have lb : ((trows (tb' ++ [endT b])).length : Int) = (tb'.length : Int) + 1 := by rw [trows_len]; simp
        have ew : ta ++ tb'.map (shT ((tb a).length + 1)) ++ [shT ((tb a).length + 1) (endT b)] = ta ++ (tb' ++ [endT b]).map (shT ((tb a).length + 1)) := by simp
        rw [ew] at kw
        have lw : ((trows (ta ++ (tb' ++ [endT b]).map (shT ((tb a).length + 1)))).length : Int) = (ta.length : Int) + (tb'.length : Int) + 1 := by rw [trows_len]; simp; omega
        simp only [go1, Option.bind_some, eq_self, cond_true, cond_false, Nat.reduceAdd, Int.reduceEq, Int.reduceLT, Int.reduceLE, Int.reduceSub, Int.reduceAdd, ka, kb, kw, n0, s1, s2]
        simp (disch := omega) only [wrap_id, decT, decF, go1, Option.bind_some, eq_self, cond_true, cond_false, Nat.reduceAdd, Int.reduceEq, Int.reduceLT, Int.reduceLE, Int.reduceSub, Int.reduceAdd, la, lb, lw]
        refine loopF_at (fun i : Nat => [.str a, .sl 4 (trows (ta ++ [endT a])), .sl 4 (trows (tb' ++ [endT b])), .sl 4 (trows (ta ++ (tb' ++ [endT b]).map (shT ((tb a).length + 1)))), .int .i64 (i : Int)]) (fun i => i ≤ ta.length + tb'.length + 1) (fun i => ta.length + tb'.length + 1 - i) (fun i hi => ?_) 0 (Nat.zero_le _)
        by_cases h1 : i < ta.length
        · left
          have g1 : (ta ++ [endT a])[i]? = some ta[i] := by rw [List.getElem?_append_left h1, List.getElem?_eq_getElem h1]
          have g2 : (ta ++ (tb' ++ [endT b]).map (shT ((tb a).length + 1)))[i]? = some ta[i] := by rw [List.getElem?_append_left h1, List.getElem?_eq_getElem h1]
          generalize ta[i] = t at g1 g2
          refine ⟨i + 1, ?_, by omega, by omega⟩
          have q := eqDs_tk t
          simp only [tkrow, go1, Option.bind_some, eq_self, cond_true, cond_false, Nat.reduceAdd, Int.reduceEq, Int.reduceLT, Int.reduceLE, Int.reduceSub, Int.reduceAdd] at q
          simp only [go1, Option.bind_some, eq_self, cond_true, cond_false, Nat.reduceAdd, Int.reduceEq, Int.reduceLT, Int.reduceLE, Int.reduceSub, Int.reduceAdd, trows_row g1, trows_row g2, tkrow]
          simp (disch := omega) only [wrap_id, decT, decF, go1, Option.bind_some, eq_self, cond_true, cond_false, Nat.reduceAdd, Int.reduceEq, Int.reduceLT, Int.reduceLE, Int.reduceSub, Int.reduceAdd, la, lb, lw, q]
          rw [Int.natCast_add]; rfl
        · by_cases h2 : i < ta.length + tb'.length + 1
          · left
            obtain ⟨j, rfl⟩ : ∃ j, i = ta.length + j := ⟨i - ta.length, by omega⟩
            have hj : j < (tb' ++ [endT b]).length := by simp; omega
            have g1 : (tb' ++ [endT b])[j]? = some (tb' ++ [endT b])[j] := List.getElem?_eq_getElem hj
            have g2 : (ta ++ (tb' ++ [endT b]).map (shT ((tb a).length + 1)))[ta.length + j]? = some (shT ((tb a).length + 1) (tb' ++ [endT b])[j]) := by
              rw [List.getElem?_append_right (by omega), Nat.add_sub_cancel_left, List.getElem?_map, g1]; rfl
            generalize (tb' ++ [endT b])[j] = t at g1 g2
            refine ⟨ta.length + j + 1, ?_, by omega, by omega⟩
            have hta : t.a ≤ (tb b).length := by
              have hm := List.mem_of_getElem? g1
              rcases List.mem_append.1 hm with hm | hm
              · exact ch_le hcb t hm
              · rw [List.mem_singleton] at hm; subst hm; exact Nat.le_refl _
            have a1 : IntKind.i64.wrap (((ta.length + j : Nat) : Int) - ((ta.length : Int) + 1)) = (j : Int) - 1 := by rw [wrap_id (by omega) (by omega)]; omega
            have i1 : IntKind.i64.wrap ((j : Int) - 1 + 1) = (j : Int) := by rw [wrap_id (by omega) (by omega)]; omega
            simp only [go1, Option.bind_some, eq_self, cond_true, cond_false, Nat.reduceAdd, Int.reduceEq, Int.reduceLT, Int.reduceLE, Int.reduceSub, Int.reduceAdd]
            rw [lw, la, lb]
            simp (disch := omega) only [wrap_id, decT, decF, go1, Option.bind_some, eq_self, cond_true, cond_false, Nat.reduceAdd, Int.reduceEq, Int.reduceLT, Int.reduceLE, Int.reduceSub, Int.reduceAdd, a1, i1]
            simp only [trows_row g1, trows_row g2, tkrow, shT, go1, Option.bind_some, eq_self, cond_true, cond_false, Nat.reduceAdd, Int.reduceEq, Int.reduceLT, Int.reduceLE, Int.reduceSub, Int.reduceAdd]
            have e5 : ((t.a + ((tb a).length + 1) : Nat) : Int) = (t.a : Int) + ((tb a).length : Int) + 1 := by omega
            have q2 : eqDs [D.str t.s, D.int .i64 t.n, D.int .i64 ((t.a + ((tb a).length + 1) : Nat) : Int)] [D.str t.s, D.int .i64 t.n, D.int .i64 ((t.a : Int) + ((tb a).length : Int) + 1)] = true := by
              rw [e5]; simp [eqDs, eqD]
            simp (disch := omega) only [wrap_id, decT, decF, go1, Option.bind_some, eq_self, cond_true, cond_false, Nat.reduceAdd, Int.reduceEq, Int.reduceLT, Int.reduceLE, Int.reduceSub, Int.reduceAdd, q2]
            rw [Int.natCast_add (ta.length + j) 1]; rfl
          · right
            have : i = ta.length + tb'.length + 1 := by omega
            subst this
            simp only [go1, Option.bind_some, eq_self, cond_true, cond_false, Nat.reduceAdd, Int.reduceEq, Int.reduceLT, Int.reduceLE, Int.reduceSub, Int.reduceAdd]
            simp (disch := omega) only [wrap_id, decT, decF, go1, Option.bind_some, eq_self, cond_true, cond_false, Nat.reduceAdd, Int.reduceEq, Int.reduceLT, Int.reduceLE, Int.reduceSub, Int.reduceAdd, lw, kl]
end Go.Vm
end
