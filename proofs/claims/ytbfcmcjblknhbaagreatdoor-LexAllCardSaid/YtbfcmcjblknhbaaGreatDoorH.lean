/-
  Part H of the proof. What is proved by the whole: the statement that the claim names, with no condition. This part: lemmas.
-/
import Derived.Test.YtbfcmcjblknhbaaGreatDoorG
set_option linter.unusedSimpArgs false
set_option linter.unusedVariables false

section
set_option linter.all false
set_option maxRecDepth 100000
set_option maxHeartbeats 4000000
namespace Go.Vm
open Go.Proofs
theorem inI_nat (a b n : Nat) : inI (a : Int) (b : Int) (n : Int) = (decide (a ≤ n) && decide (n ≤ b)) := by
  unfold inI
  rw [dec_iff (show (a : Int) ≤ (n : Int) ↔ a ≤ n by omega), dec_iff (show (n : Int) ≤ (b : Int) ↔ n ≤ b by omega)]
theorem c_rxsmall (n : Nat) : cF 60 [.d (.int .u8 (n : Int)), .d (.int .u8 97), .d (.int .u8 122)] = some (.val [.bool (smallN n)]) := c_rxin n 97 122
theorem c_rxgreat (n : Nat) : cF 60 [.d (.int .u8 (n : Int)), .d (.int .u8 65), .d (.int .u8 90)] = some (.val [.bool (greatN n)]) := c_rxin n 65 90
theorem c_rxdigit (n : Nat) : cF 60 [.d (.int .u8 (n : Int)), .d (.int .u8 48), .d (.int .u8 57)] = some (.val [.bool (digitN n)]) := c_rxin n 48 57
theorem c_rxinner (n : Nat) : cF 62 [.d (.int .u8 (n : Int))] = some (.val [.bool (innerN n)]) := by
  refine cOf (by kernel_rfl) rfl ?_
  rw [g62_eq]
  simp only [g62, go1, Option.bind_some, eq_self, cond_true, cond_false, Nat.reduceAdd, Int.reduceEq, Int.reduceLT, Int.reduceLE, Int.reduceSub, Int.reduceAdd, c_rxsmall, c_rxgreat, c_rxdigit]
  rw [dec_iff (show (n : Int) = 95 ↔ n = 95 by omega)]
  unfold innerN
  cases smallN n <;> cases greatN n <;> cases digitN n <;> cases decide (n = 95) <;> rfl
/-! ### the reference: the token that begins somewhere -/
/-- What the reference says of a token, and what of it counts. -/
def SameTok (t : Tok) (a : Nat) (p : PRes) : Prop := ∃ k s n q w, p = rtok k s n q w t.ok ∧ (t.ok = true → k = t.k ∧ s = t.s ∧ n = t.n ∧ q = (a : Int) ∧ w = ((a + t.w : Nat) : Int))
theorem number_same (s : ByteArray) (a : Nat) (ha : a < (tb s).length) (hda : digitN ((tb s).getD a 0) = true) :
    ∃ k u n q w ok, numR s a = .val [.int .i64 k, .str u, .int .i64 n, .int .i64 q, .bool ok] ∧ ok = (numberT (s.extract a (tb s).length)).ok ∧ w = u.size ∧
      (ok = true → k = 3 ∧ u = (numberT (s.extract a (tb s).length)).s ∧ n = (numberT (s.extract a (tb s).length)).n ∧ q = (a : Int) ∧ w = (numberT (s.extract a (tb s).length)).w) := by
  have hmle := spanN_le digitN ((tb s).drop a)
  rw [List.length_drop] at hmle
  have hpos : 0 < spanN digitN ((tb s).drop a) := span_pos (by rw [getD_drop]; exact hda) (by rw [List.length_drop]; omega)
  have hx : (s.extract a (tb s).length).extract 0 (spanN digitN ((tb s).drop a)) = s.extract a (a + spanN digitN ((tb s).drop a)) := ext_ext s a 0 _ (by omega)
  have htw : tb (s.extract a (a + spanN digitN ((tb s).drop a))) = ((tb s).drop a).take (spanN digitN ((tb s).drop a)) := by
    rw [tb_ext, List.drop_take, Nat.add_sub_cancel_left]
  have hall : (tb (s.extract a (a + spanN digitN ((tb s).drop a)))).all digitN = true := by rw [htw, take_span]; exact List.all_takeWhile
  have hl : (tb (s.extract a (a + spanN digitN ((tb s).drop a)))).length = spanN digitN ((tb s).drop a) := by rw [htw, List.length_take, List.length_drop]; omega
  obtain ⟨p1, p2⟩ := parse_digits _ hall (by omega)
  unfold numberT numR
  simp only [tb_tail, getD_drop0, hx]
  rw [p1]
  rw [htw] at p2 ⊢
  have hsz : (s.extract a (a + spanN digitN ((tb s).drop a))).size = spanN digitN ((tb s).drop a) := by rw [← tb_len, hl]
  cases hb : (decide (valN 0 (((tb s).drop a).take (spanN digitN ((tb s).drop a))) < 9223372036854775808) && (!decide ((tb s).getD a 0 = 48) || decide (spanN digitN ((tb s).drop a) = 1))) with
  | false => exact ⟨_, _, _, _, _, _, rfl, rfl, rfl, fun h => by cases h⟩
  | true =>
    have hv := (Bool.and_eq_true _ _ ▸ hb).1
    exact ⟨_, _, _, _, _, _, rfl, rfl, rfl, fun _ => ⟨rfl, rfl, (p2 (of_decide_eq_true hv)).symm, rfl, hsz⟩⟩
theorem c_rone (s : ByteArray) (hs : s.size ≤ 100000) (a : Nat) (ha : a < (tb s).length) : ∃ p, cF 29 [.d (.str s), .d (.int .i64 (a : Int))] = some p ∧ SameTok (nextT0 (s.extract a (tb s).length)) a p := by
  have hlen : (tb s).length ≤ 100000 := by rw [tb_len]; exact hs
  have hq : ((s.data.getD (a : Int).toNat 0).toNat : Int) = (((tb s).getD a 0 : Nat) : Int) := by rw [Int.toNat_natCast, tb_getD]
  have kd := c_rxdigit ((tb s).getD a 0)
  have ks := c_rxsmall ((tb s).getD a 0)
  have kg := c_rxgreat ((tb s).getD a 0)
  have hh : (tb (s.extract a (tb s).length)).getD 0 0 = (tb s).getD a 0 := by rw [tb_tail, getD_drop0]
  refine cOfP (by kernel_rfl) rfl ?_
  rw [g29_eq]
  simp only [g29, go1, Option.bind_some, eq_self, cond_true, cond_false, Nat.reduceAdd, Int.reduceEq, Int.reduceLT, Int.reduceLE, Int.reduceSub, Int.reduceAdd]
  simp (disch := omega) only [wrap_id, decT, decF, go1, Option.bind_some, eq_self, cond_true, cond_false, Nat.reduceAdd, Int.reduceEq, Int.reduceLT, Int.reduceLE, Int.reduceSub, Int.reduceAdd, size_tb, hq]
  rw [dec_iff (show (((tb s).getD a 0 : Nat) : Int) = 39 ↔ (tb s).getD a 0 = 39 by omega)]
  have htl := tb_tail s a
  have e8 : ((a : Int)).toNat = a := Int.toNat_natCast _
  have e7 : (((tb s).length : Nat) : Int).toNat = (tb s).length := Int.toNat_natCast _
  by_cases h39 : (tb s).getD a 0 = 39
  · rw [decT h39]
    have kp := c_rpath s hs a ha
    have hn : nextT0 (s.extract a (tb s).length) = pathT (s.extract a (tb s).length) := by
      unfold nextT0
      simp only [hh, h39]
      rfl
    rw [hn]
    unfold pathT
    rw [htl, List.drop_drop]
    cases hi : idxN 39 ((tb s).drop (a + 1)) with
    | none =>
      rw [hi] at kp
      simp only [rtok] at kp
      simp only [go1, Option.bind_some, eq_self, cond_true, cond_false, Nat.reduceAdd, Int.reduceEq, Int.reduceLT, Int.reduceLE, Int.reduceSub, Int.reduceAdd, kp]
      exact ⟨_, rfl, _, _, _, _, _, rfl, fun h => by cases h⟩
    | some j =>
      rw [hi] at kp
      have hlt := (idxN_some hi).1
      simp only [List.length_drop] at hlt
      simp only [rtok] at kp
      simp only [go1, Option.bind_some, eq_self, cond_true, cond_false, Nat.reduceAdd, Int.reduceEq, Int.reduceLT, Int.reduceLE, Int.reduceSub, Int.reduceAdd, kp]
      have hx := ext_ext s a 1 (j + 1) (by omega)
      have e2 : a + (j + 1) = a + 1 + j := by omega
      rw [e2] at hx
      refine ⟨_, rfl, 4, s.extract (a + 1) (a + 1 + j), 0, (a : Int), ((a + 1 + j + 1 : Nat) : Int), ?_, fun _ => ⟨rfl, hx.symm, rfl, rfl, ?_⟩⟩
      · show _ = rtok _ _ _ _ _ (pathN (tb ((s.extract a (tb s).length).extract 1 (j + 1))))
        rw [hx]; rfl
      · show ((a + 1 + j + 1 : Nat) : Int) = ((a + (j + 2) : Nat) : Int)
        omega
  · rw [decF h39]
    cases hd : digitN ((tb s).getD a 0) with
    | true =>
      have kn := c_rnumber s hs a ha hd
      obtain ⟨k, u, n, q, w, ok, h1, h2, h3, h4⟩ := number_same s a ha hd
      rw [h1] at kn
      have hn : nextT0 (s.extract a (tb s).length) = numberT (s.extract a (tb s).length) := by
        unfold nextT0
        have hs1 : smallN ((tb s).getD a 0) = false := by
          unfold digitN at hd; unfold smallN
          simp only [Bool.and_eq_true, decide_eq_true_eq] at hd
          rw [decF (by omega)]; rfl
        have hs2 : greatN ((tb s).getD a 0) = false := by
          unfold digitN at hd; unfold greatN
          simp only [Bool.and_eq_true, decide_eq_true_eq] at hd
          rw [decF (by omega)]; rfl
        simp only [hh, hd, hs1, hs2, Bool.false_or]
      rw [hd] at kd
      rw [hn]
      simp only [go1, Option.bind_some, eq_self, cond_true, cond_false, Nat.reduceAdd, Int.reduceEq, Int.reduceLT, Int.reduceLE, Int.reduceSub, Int.reduceAdd, kd, kn]
      refine ⟨_, rfl, k, u, n, q, IntKind.i64.wrap ((a : Int) + ((tb u).length : Int)), ?_, fun hok => ?_⟩
      · rw [← h2]; rfl
      · rw [← h2] at hok
        obtain ⟨i1, i2, i3, i4, i5⟩ := h4 hok
        refine ⟨i1, i2, i3, i4, ?_⟩
        rw [tb_len, ← h3, i5]
        have hw : (numberT (s.extract a (tb s).length)).w ≤ (tb s).length - a := by
          have := spanN_le digitN (tb (s.extract a (tb s).length))
          rw [htl, List.length_drop] at this
          unfold numberT
          rw [htl]; exact this
        rw [wrap_id (by omega) (by omega)]; omega
    | false =>
      cases hl : (smallN ((tb s).getD a 0) || greatN ((tb s).getD a 0)) with
      | true =>
        have hin : innerN ((tb s).getD a 0) = true := by unfold innerN; rw [hl]; rfl
        have hn : nextT0 (s.extract a (tb s).length) = wordT (s.extract a (tb s).length) := by
          unfold nextT0
          simp only [hh, hl]
        have hmle := spanN_le innerN ((tb s).drop a)
        have hpos : 0 < spanN innerN ((tb s).drop a) := span_pos (by rw [getD_drop]; exact hin) (by rw [List.length_drop]; omega)
        have hdg := span_at (p := innerN) ((tb s).drop a)
        have hnd := span_end (p := innerN) ((tb s).drop a)
        rw [List.length_drop] at hmle hnd
        simp only [getD_drop] at hdg hnd
        have hx : (s.extract a (tb s).length).extract 0 (spanN innerN ((tb s).drop a)) = s.extract a (a + spanN innerN ((tb s).drop a)) := ext_ext s a 0 _ (by omega)
        rw [hd] at kd
        rw [hn]
        unfold wordT
        simp only [htl, hx, getD_drop0]
        generalize spanN innerN ((tb s).drop a) = m at *
        have z : (s.extract a (a + m)).size ≤ 100000 := by rw [← tb_len, ext_len _ _ _ (by omega) (by omega)]; omega
        have r1 := c_rHigh _ z
        have r2 := c_rLow _ z
        have r3 := c_rWord (s.extract a (a + m))
        refine ⟨rtok (match greatN ((tb s).getD a 0) with | true => 2 | false => 1) (s.extract a (a + m)) 0 (a : Int) ((a + m : Nat) : Int) (match greatN ((tb s).getD a 0) with | true => highN (tb (s.extract a (a + m))) | false => lowN (tb (s.extract a (a + m))) || wordN (tb (s.extract a (a + m)))), ?_, ?_⟩
        · have hb : (cutO (bif smallN ((tb s).getD a 0) then some (Sum.inl [D.bool true]) else some (Sum.inl [D.bool (greatN ((tb s).getD a 0))])) fun ds => opB (sy.cell ds 0)) = some true := by
            cases hs1 : smallN ((tb s).getD a 0) with
            | true => rfl
            | false => rw [hs1, Bool.false_or] at hl; rw [hl]; rfl
          have key : ∀ b1 b2 : Bool, (b1 || b2) = true → ∀ (X Y : Option PRes), (bif (b1 || b2) then X else Y) = X := fun b1 b2 h X Y => by rw [h]; rfl
          simp only [go1, Option.bind_some, eq_self, cond_true, cond_false, Nat.reduceAdd, Int.reduceEq, Int.reduceLT, Int.reduceLE, Int.reduceSub, Int.reduceAdd, kd, ks, kg, hl]
          refine loopF_at (fun x : Nat => [.str s, .int .i64 (a : Int), .int .u8 (((tb s).getD a 0 : Nat) : Int), .int .i64 ((a + x : Nat) : Int), .int .i64 0, .str (bs []), .int .i64 0, .int .i64 0]) (fun x => x ≤ m) (fun x => m - x) (fun x hxm => ?_) 0 (Nat.zero_le _)
          have hq1 : ((s.data.getD (((a + x : Nat) : Int)).toNat 0).toNat : Int) = (((tb s).getD (a + x) 0 : Nat) : Int) := by rw [Int.toNat_natCast, tb_getD]
          have ki := c_rxinner ((tb s).getD (a + x) 0)
          by_cases hlt : x < m
          · left
            have hdx := hdg x hlt
            rw [hdx] at ki
            simp only [go1, Option.bind_some, eq_self, cond_true, cond_false, Nat.reduceAdd, Int.reduceEq, Int.reduceLT, Int.reduceLE, Int.reduceSub, Int.reduceAdd]
            simp (disch := omega) only [wrap_id, decT, decF, go1, Option.bind_some, eq_self, cond_true, cond_false, Nat.reduceAdd, Int.reduceEq, Int.reduceLT, Int.reduceLE, Int.reduceSub, Int.reduceAdd, hq1, ki]
            have e9 : ((a + x : Nat) : Int) + 1 = ((a + (x + 1) : Nat) : Int) := by omega
            exact ⟨x + 1, by rw [e9], by omega, by omega⟩
          · right
            have : x = m := by omega
            subst this
            have e9 : (((a + x : Nat) : Int)).toNat = a + x := Int.toNat_natCast _
            by_cases hend : a + x < (tb s).length
            · have hnd' := hnd (by omega)
              rw [hnd'] at ki
              simp only [go1, Option.bind_some, eq_self, cond_true, cond_false, Nat.reduceAdd, Int.reduceEq, Int.reduceLT, Int.reduceLE, Int.reduceSub, Int.reduceAdd]
              have hq2 : ((s.data.getD (a + x) 0).toNat : Int) = (((tb s).getD (a + x) 0 : Nat) : Int) := by rw [tb_getD]
              simp (disch := omega) only [wrap_id, decT, decF, go1, Option.bind_some, eq_self, cond_true, cond_false, Nat.reduceAdd, Int.reduceEq, Int.reduceLT, Int.reduceLE, Int.reduceSub, Int.reduceAdd, hq2, ki, e8, e9, kg]
              cases greatN ((tb s).getD a 0) with
              | true =>
                simp (disch := omega) only [wrap_id, decT, decF, go1, Option.bind_some, eq_self, cond_true, cond_false, Nat.reduceAdd, Int.reduceEq, Int.reduceLT, Int.reduceLE, Int.reduceSub, Int.reduceAdd, r1]
                try rfl
              | false =>
                simp only [go1, Option.bind_some, eq_self, cond_true, cond_false, Nat.reduceAdd, Int.reduceEq, Int.reduceLT, Int.reduceLE, Int.reduceSub, Int.reduceAdd, r2]
                cases lowN (tb (s.extract a (a + x))) with
                | true => simp only [go1, Option.bind_some, eq_self, cond_true, cond_false, Nat.reduceAdd, Int.reduceEq, Int.reduceLT, Int.reduceLE, Int.reduceSub, Int.reduceAdd]; try rfl
                | false => simp only [go1, Option.bind_some, eq_self, cond_true, cond_false, Nat.reduceAdd, Int.reduceEq, Int.reduceLT, Int.reduceLE, Int.reduceSub, Int.reduceAdd, r3]; try rfl
            · simp only [go1, Option.bind_some, eq_self, cond_true, cond_false, Nat.reduceAdd, Int.reduceEq, Int.reduceLT, Int.reduceLE, Int.reduceSub, Int.reduceAdd]
              simp (disch := omega) only [wrap_id, decT, decF, go1, Option.bind_some, eq_self, cond_true, cond_false, Nat.reduceAdd, Int.reduceEq, Int.reduceLT, Int.reduceLE, Int.reduceSub, Int.reduceAdd, e8, e9, kg]
              cases greatN ((tb s).getD a 0) with
              | true =>
                simp (disch := omega) only [wrap_id, decT, decF, go1, Option.bind_some, eq_self, cond_true, cond_false, Nat.reduceAdd, Int.reduceEq, Int.reduceLT, Int.reduceLE, Int.reduceSub, Int.reduceAdd, r1]
                try rfl
              | false =>
                simp only [go1, Option.bind_some, eq_self, cond_true, cond_false, Nat.reduceAdd, Int.reduceEq, Int.reduceLT, Int.reduceLE, Int.reduceSub, Int.reduceAdd, r2]
                cases lowN (tb (s.extract a (a + x))) with
                | true => simp only [go1, Option.bind_some, eq_self, cond_true, cond_false, Nat.reduceAdd, Int.reduceEq, Int.reduceLT, Int.reduceLE, Int.reduceSub, Int.reduceAdd]; try rfl
                | false => simp only [go1, Option.bind_some, eq_self, cond_true, cond_false, Nat.reduceAdd, Int.reduceEq, Int.reduceLT, Int.reduceLE, Int.reduceSub, Int.reduceAdd, r3]; try rfl
        · cases greatN ((tb s).getD a 0) with
          | true => exact ⟨_, _, _, _, _, rfl, fun _ => ⟨rfl, rfl, rfl, rfl, rfl⟩⟩
          | false => exact ⟨_, _, _, _, _, rfl, fun _ => ⟨rfl, rfl, rfl, rfl, rfl⟩⟩
      | false =>
        have hl2 := hl
        rw [Bool.or_eq_false_iff] at hl2
        have hn : nextT0 (s.extract a (tb s).length) = markT (s.extract a (tb s).length) := by
          unfold nextT0
          simp only [hh, hl, hd, decF h39]
        have z : (s.extract a (tb s).length).size ≤ 100000 := by rw [← tb_len, htl, List.length_drop]; omega
        have hp : 0 < (tb (s.extract a (tb s).length)).length := by rw [htl, List.length_drop]; omega
        have km := c_rmark _ z hp
        have hok := markT_ok _ hp
        rw [hn]
        rw [hd] at kd
        rw [hl2.1] at ks
        rw [hl2.2] at kg
        have hwl : (markT (s.extract a (tb s).length)).ok = true → (tb (markT (s.extract a (tb s).length)).s).length = (markT (s.extract a (tb s).length)).w ∧ 1 ≤ (markT (s.extract a (tb s).length)).w ∧ (markT (s.extract a (tb s).length)).w ≤ (tb s).length - a := fun h => by
          obtain ⟨q1, q2, q3, q4, q5⟩ := hok h
          have hk : (markT (s.extract a (tb s).length)).k ≠ 4 := by
            unfold markT at h ⊢
            revert h
            split <;> intro h <;> first | exact (by decide : (5 : Int) ≠ 4) | cases h
          rw [htl, List.length_drop] at q2
          refine ⟨?_, q1, q2⟩
          rw [q5 hk, htl, List.length_take, List.length_drop]; omega
        have hzz : (markT (s.extract a (tb s).length)).k = 5 ∨ (markT (s.extract a (tb s).length)).ok = false := by
          unfold markT
          split
          · exact .inl rfl
          · exact .inl rfl
          · exact .inr rfl
        have hnn : (markT (s.extract a (tb s).length)).n = 0 := by
          unfold markT
          split <;> rfl
        generalize markT (s.extract a (tb s).length) = t at *
        simp only [go1, Option.bind_some, eq_self, cond_true, cond_false, Nat.reduceAdd, Int.reduceEq, Int.reduceLT, Int.reduceLE, Int.reduceSub, Int.reduceAdd, kd, ks, kg]
        simp (disch := omega) only [wrap_id, decT, decF, go1, Option.bind_some, eq_self, cond_true, cond_false, Nat.reduceAdd, Int.reduceEq, Int.reduceLT, Int.reduceLE, Int.reduceSub, Int.reduceAdd, e8, e7]
        cases hb : t.ok with
        | false =>
          rw [hb] at km
          have hse : ((bs []).toList == (bs []).toList) = true := by rw [seq_tb]; exact decT rfl
          simp only [go1, Option.bind_some, eq_self, cond_true, cond_false, Nat.reduceAdd, Int.reduceEq, Int.reduceLT, Int.reduceLE, Int.reduceSub, Int.reduceAdd, km, hse]
          exact ⟨_, rfl, 5, bs [], 0, (a : Int), IntKind.i64.wrap ((a : Int) + ((tb (bs [])).length : Int)), by rw [hb]; rfl, fun h => by rw [hb] at h; cases h⟩
        | true =>
          rw [hb] at km
          obtain ⟨w1, w2, w3⟩ := hwl hb
          have hk5 : t.k = 5 := by
            rcases hzz with h | h
            · exact h
            · rw [hb] at h; cases h
          have hsq : (t.s.toList == (bs []).toList) = false := by
            rw [seq_tb]
            refine decF fun h => ?_
            have := congrArg List.length h
            rw [w1, tb_bs] at this
            simp at this; omega
          simp only [go1, Option.bind_some, eq_self, cond_true, cond_false, Nat.reduceAdd, Int.reduceEq, Int.reduceLT, Int.reduceLE, Int.reduceSub, Int.reduceAdd, km, hsq]
          refine ⟨_, rfl, 5, t.s, 0, (a : Int), IntKind.i64.wrap ((a : Int) + ((tb t.s).length : Int)), ?_, fun _ => ⟨hk5.symm, rfl, hnn.symm, rfl, ?_⟩⟩
          · rw [hb]; rfl
          · rw [w1, wrap_id (by omega) (by omega)]; omega
end Go.Vm
end

section
set_option linter.all false
set_option maxRecDepth 100000
set_option maxHeartbeats 4000000
namespace Go.Vm
open Go.Proofs
theorem c_rAll (s : ByteArray) (most : Int) (hs : s.size ≤ 100000) : cF 9 [.d (.str s), .d (.int .i64 most)] = some (allR s most) := by
  have hlen : (tb s).length ≤ 100000 := by rw [tb_len]; exact hs
  have k0 := c_rskip s hs 0 (Nat.zero_le _)
  refine cOf (by kernel_rfl) rfl ?_
  rw [g9_eq]
  simp only [g9, go1, Option.bind_some, eq_self, cond_true, cond_false, Nat.reduceAdd, Int.reduceEq, Int.reduceLT, Int.reduceLE, Int.reduceSub, Int.reduceAdd]
  unfold allR
  rw [size_tb]
  cases hm : decide (most < ((tb s).length : Int)) with
  | true => simp only [go1, Option.bind_some, eq_self, cond_true, cond_false, Nat.reduceAdd, Int.reduceEq, Int.reduceLT, Int.reduceLE, Int.reduceSub, Int.reduceAdd]
  | false =>
    rw [show ((0 : Nat) : Int) = 0 from rfl] at k0
    simp only [go1, Option.bind_some, eq_self, cond_true, cond_false, Nat.reduceAdd, Int.reduceEq, Int.reduceLT, Int.reduceLE, Int.reduceSub, Int.reduceAdd, k0]
    rw [show gapN (List.drop 0 (tb s)) = 0 + gapN (List.drop 0 (tb s)) from (Nat.zero_add _).symm]
    refine loopF_at (fun x : Nat × List Tk => [.str s, .int .i64 ((x.1 + gapN ((tb s).drop x.1) : Nat) : Int), .sl 4 (trows x.2)]) (fun x => x.1 ≤ (tb s).length ∧ x.2.length ≤ x.1 ∧ lexS s 0 = (x.2 ++ (lexS s x.1).1, (lexS s x.1).2)) (fun x => (tb s).length - x.1) (fun x hx => ?_) (0, []) ⟨Nat.zero_le _, Nat.le_refl _, by simp⟩
    obtain ⟨a, acc⟩ := x
    obtain ⟨h1, h2, h3⟩ := hx
    simp only at h1 h2 h3
    have hg := gapN_le _ _ (Nat.le_refl ((tb s).drop a).length)
    simp only [List.length_drop] at hg
    have heq := lexS.eq_def s a
    simp only
    generalize gapN ((tb s).drop a) = g at hg heq ⊢
    have hal : (trows acc).length = acc.length := trows_len acc
    by_cases hp : a + g < (tb s).length
    · rw [dif_pos hp] at heq
      obtain ⟨p, k1, k, u, n, q, w, rfl, hsm⟩ := c_rone s hs (a + g) hp
      have hpos : 0 < (tb (s.extract (a + g) (tb s).length)).length := by rw [tb_tail, List.length_drop]; omega
      have hok := nextT0_ok (s.extract (a + g) (tb s).length) hpos
      rw [tb_tail] at hok
      generalize nextT0 (s.extract (a + g) (tb s).length) = t at k1 hsm hok heq
      simp only [rtok] at k1
      simp only [go1, Option.bind_some, eq_self, cond_true, cond_false, Nat.reduceAdd, Int.reduceEq, Int.reduceLT, Int.reduceLE, Int.reduceSub, Int.reduceAdd]
      simp (disch := omega) only [wrap_id, decT, decF, go1, Option.bind_some, eq_self, cond_true, cond_false, Nat.reduceAdd, Int.reduceEq, Int.reduceLT, Int.reduceLE, Int.reduceSub, Int.reduceAdd, size_tb, k1]
      cases hb : t.ok with
      | false =>
        right
        rw [dif_neg (by rw [hb]; simp)] at heq
        rw [h3, heq]
        simp only [go1, Option.bind_some, eq_self, cond_true, cond_false, Nat.reduceAdd, Int.reduceEq, Int.reduceLT, Int.reduceLE, Int.reduceSub, Int.reduceAdd]
      | true =>
        left
        obtain ⟨q1, q2, _⟩ := hok hb
        obtain ⟨rfl, rfl, rfl, rfl, rfl⟩ := hsm hb
        simp only [List.length_drop] at q2
        rw [dif_pos ⟨hb, q1⟩] at heq
        have k2 := c_rskip s hs (a + g + t.w) (by omega)
        refine ⟨(a + g + t.w, acc ++ [⟨t.k, t.s, t.n, a + g⟩]), ?_, ⟨by simp only; omega, by simp; omega, ?_⟩, by simp only; omega⟩
        · simp (disch := omega) only [wrap_id, decT, decF, go1, Option.bind_some, eq_self, cond_true, cond_false, Nat.reduceAdd, Int.reduceEq, Int.reduceLT, Int.reduceLE, Int.reduceSub, Int.reduceAdd, hal, List.length_singleton, k2]
          rw [← trows_app]
          rfl
        · rw [h3, heq]; simp
    · right
      rw [dif_neg hp] at heq
      have hpe : a + g = (tb s).length := by omega
      rw [h3, heq, ← trows_app, ← trows_app]
      simp only [go1, Option.bind_some, eq_self, cond_true, cond_false, Nat.reduceAdd, Int.reduceEq, Int.reduceLT, Int.reduceLE, Int.reduceSub, Int.reduceAdd]
      simp (disch := omega) only [wrap_id, decT, decF, go1, Option.bind_some, eq_self, cond_true, cond_false, Nat.reduceAdd, Int.reduceEq, Int.reduceLT, Int.reduceLE, Int.reduceSub, Int.reduceAdd, size_tb, hal, List.length_singleton]
      rw [show trows ([] : List Tk) = [] from rfl, List.append_nil]
      rfl
theorem trows_row {l : List Tk} {i : Nat} {t : Tk} (h : l[i]? = some t) : sy.row (trows l) (i : Int) = tkrow t := by
  rw [sy_row, Int.toNat_natCast, List.getD_eq_getElem?_getD]
  unfold trows
  rw [List.getElem?_map, h]; rfl
theorem same_go (l : List Tk) (hl : l.length ≤ 1000000) : cF 10 [.d (.sl 4 (trows l)), .d (.sl 4 (trows l))] = some (.val [.bool true]) := by
  have hrl : ((trows l).length : Int) = (l.length : Int) := by rw [trows_len]
  have e0 : decide (((trows l).length : Int) = ((trows l).length : Int)) = true := decT rfl
  refine cOf (by kernel_rfl) rfl ?_
  rw [g10_eq]
  simp only [g10, go1, Option.bind_some, eq_self, cond_true, cond_false, Nat.reduceAdd, Int.reduceEq, Int.reduceLT, Int.reduceLE, Int.reduceSub, Int.reduceAdd, e0]
  refine loopF_at (fun i : Nat => [.sl 4 (trows l), .sl 4 (trows l), .int .i64 (i : Int)]) (fun i => i ≤ l.length) (fun i => l.length - i) (fun i hi => ?_) 0 (Nat.zero_le _)
  by_cases h1 : i < l.length
  · left
    have g1 : l[i]? = some l[i] := List.getElem?_eq_getElem h1
    generalize l[i] = t at g1
    have es : (t.s.toList == t.s.toList) = true := by rw [seq_tb]; exact decT rfl
    refine ⟨i + 1, ?_, by omega, by omega⟩
    have r0 : sy.cell (tkrow t) 0 = some (.int .i64 t.k) := rfl
    have r1 : sy.cell (sy.skip 1 (tkrow t)) 0 = some (.str t.s) := rfl
    have r2 : sy.cell (sy.skip 2 (tkrow t)) 0 = some (.int .i64 t.n) := rfl
    have r3 : sy.cell (sy.skip 3 (tkrow t)) 0 = some (.int .i64 (t.a : Int)) := rfl
    simp only [go1, Option.bind_some, eq_self, cond_true, cond_false, Nat.reduceAdd, Int.reduceEq, Int.reduceLT, Int.reduceLE, Int.reduceSub, Int.reduceAdd, trows_row g1, r0, r1, r2, r3]
    simp (disch := omega) only [wrap_id, decT, decF, go1, Option.bind_some, eq_self, cond_true, cond_false, Nat.reduceAdd, Int.reduceEq, Int.reduceLT, Int.reduceLE, Int.reduceSub, Int.reduceAdd, hrl, es]
    rw [Int.natCast_add]; rfl
  · right
    have : i = l.length := by omega
    subst this
    simp only [go1, Option.bind_some, eq_self, cond_true, cond_false, Nat.reduceAdd, Int.reduceEq, Int.reduceLT, Int.reduceLE, Int.reduceSub, Int.reduceAdd]
    simp (disch := omega) only [wrap_id, decT, decF, go1, Option.bind_some, eq_self, cond_true, cond_false, Nat.reduceAdd, Int.reduceEq, Int.reduceLT, Int.reduceLE, Int.reduceSub, Int.reduceAdd, hrl]
theorem c_xQuote (s : ByteArray) (hs : s.size ≤ 600) : cF 12 [.d (.str s)] = some (.val [.str (match pathN (tb s) with
    | true => bs [39] ++ s ++ bs [39]
    | false => bs [])]) := by
  have k := c_Path s (by omega)
  have f1 : sy.sfit (bs [39]) s = true := decide_eq_true (by rw [← tb_len (bs [39]), tb_bs]; simp; omega)
  have f2 : sy.sfit (bs [39] ++ s) (bs [39]) = true := decide_eq_true (by rw [← tb_len, ← tb_len, tb_app, tb_bs]; simp [tb_len]; omega)
  refine cOf (by kernel_rfl) rfl ?_
  rw [g12_eq]
  simp only [g12, go1, Option.bind_some, eq_self, cond_true, cond_false, Nat.reduceAdd, Int.reduceEq, Int.reduceLT, Int.reduceLE, Int.reduceSub, Int.reduceAdd, k, f1, f2]
  cases pathN (tb s) <;> rfl
theorem c_rxQuote (s : ByteArray) (hs : s.size ≤ 600) : cF 13 [.d (.str s)] = some (.val [.str (match pathN (tb s) with
    | true => bs [39] ++ s ++ bs [39]
    | false => bs [])]) := by
  have k := c_rPath s (by omega)
  have f1 : sy.sfit (bs [39]) s = true := decide_eq_true (by rw [← tb_len (bs [39]), tb_bs]; simp; omega)
  have f2 : sy.sfit (bs [39] ++ s) (bs [39]) = true := decide_eq_true (by rw [← tb_len, ← tb_len, tb_app, tb_bs]; simp [tb_len]; omega)
  refine cOf (by kernel_rfl) rfl ?_
  rw [g13_eq]
  simp only [g13, go1, Option.bind_some, eq_self, cond_true, cond_false, Nat.reduceAdd, Int.reduceEq, Int.reduceLT, Int.reduceLE, Int.reduceSub, Int.reduceAdd, k, f1, f2]
  cases pathN (tb s) <;> rfl
theorem lexS_len (s : ByteArray) : ∀ (n a : Nat), (tb s).length - a ≤ n → (lexS s a).1.length ≤ (tb s).length - a
  | n, a, hn => by
    have heq := lexS.eq_def s a
    split at heq
    · split at heq
      · rw [heq]
        cases n with
        | zero => omega
        | succ n =>
          have := lexS_len s n (a + gapN ((tb s).drop a) + (nextT0 (s.extract (a + gapN ((tb s).drop a)) (tb s).length)).w) (by omega)
          simp only [List.length_cons]
          omega
      · rw [heq]; simp
    · rw [heq]; simp
theorem c_LexAll (s : ByteArray) (most : Int) : cF 3 [.d (.str s), .d (.int .i64 most)] = some (.val [.bool true]) := by
  have kl := c_live
  by_cases h6 : 600 < ((tb s).length : Int)
  · refine cOf (by kernel_rfl) rfl ?_
    rw [g3_eq]
    simp only [g3, go1, Option.bind_some, eq_self, cond_true, cond_false, Nat.reduceAdd, Int.reduceEq, Int.reduceLT, Int.reduceLE, Int.reduceSub, Int.reduceAdd, kl]
    simp (disch := omega) only [wrap_id, decT, decF, go1, Option.bind_some, eq_self, cond_true, cond_false, Nat.reduceAdd, Int.reduceEq, Int.reduceLT, Int.reduceLE, Int.reduceSub, Int.reduceAdd, size_tb, kl]
  · have hlen : (tb s).length ≤ 600 := by omega
    have hsz : s.size ≤ 600 := by rw [← tb_len]; exact hlen
    have ka := c_All s most (by omega)
    have kb := c_rAll s most (by omega)
    have q1 := c_xQuote s hsz
    have q2 := c_rxQuote s hsz
    have es : ∀ x : ByteArray, (x.toList == x.toList) = true := fun x => by rw [seq_tb]; exact decT rfl
    have hl := lexS_len s _ 0 (Nat.le_refl _)
    have s0 := same_go [] (by simp)
    have s1 := same_go ((lexS s 0).1 ++ [endT s]) (by simp; omega)
    have e0 : trows [] = [] := rfl
    rw [e0] at s0
    unfold allR at ka kb
    refine cOf (by kernel_rfl) rfl ?_
    rw [g3_eq]
    simp only [g3, go1, Option.bind_some, eq_self, cond_true, cond_false, Nat.reduceAdd, Int.reduceEq, Int.reduceLT, Int.reduceLE, Int.reduceSub, Int.reduceAdd, kl]
    rw [size_tb, decF h6]
    cases hm : decide (most < ((tb s).length : Int)) with
    | true =>
      rw [hm] at ka kb
      have n3 := c_xnum 3
      simp only [go1, Option.bind_some, eq_self, cond_true, cond_false, Nat.reduceAdd, Int.reduceEq, Int.reduceLT, Int.reduceLE, Int.reduceSub, Int.reduceAdd, ka, kb, s0, n3, q1, q2, kl, es, decide_true]
    | false =>
      rw [hm] at ka kb
      cases ho : (lexS s 0).2.2 with
      | true =>
        rw [ho] at ka kb
        have n0 := c_xnum 0
        simp only [go1, Option.bind_some, eq_self, cond_true, cond_false, Nat.reduceAdd, Int.reduceEq, Int.reduceLT, Int.reduceLE, Int.reduceSub, Int.reduceAdd, ka, kb, s1, n0, q1, q2, kl, es, decide_true]
      | false =>
        rw [ho] at ka kb
        have n2 := c_xnum 2
        simp only [go1, Option.bind_some, eq_self, cond_true, cond_false, Nat.reduceAdd, Int.reduceEq, Int.reduceLT, Int.reduceLE, Int.reduceSub, Int.reduceAdd, ka, kb, s0, n2, q1, q2, kl, es, decide_true]
end Go.Vm
end
