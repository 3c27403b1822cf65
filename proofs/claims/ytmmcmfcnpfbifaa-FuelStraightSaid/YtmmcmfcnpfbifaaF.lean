/-
  Part F of the proof. What is proved by the whole: the statement that the claim names, with no condition. This part: lemmas.
-/
import Derived.Test.YtmmcmfcnpfbifaaE
set_option linter.unusedSimpArgs false
set_option linter.unusedVariables false

section
set_option linter.all false
set_option maxRecDepth 100000
namespace Go.Vm
open Go.Proofs
structure At20 (code : List (List D)) (at_ op to_ x y : Int) : Prop where
  i0 : sy.ilt at_ 0 = false
  i1 : sy.ile (sy.rlen code) at_ = false
  i2 : sy.inr at_ (sy.rlen code) = true
  r0 : sy.cell (sy.row code at_) 0 = some (.int .i64 op)
  r1 : sy.cell (sy.row code at_) 1 = some (.int .i64 to_)
  r2 : sy.cell (sy.row code at_) 2 = some (.int .i64 x)
  r3 : sy.cell (sy.row code at_) 3 = some (.int .i64 y)
  w : sy.wrap .i64 (sy.add at_ 1) = at_ + 1
variable {code : List (List D)} {at_ op to_ x y : Int}
theorem idx_0 : cF 75 [.d (.sl 1 []), .fn 44 [.pel [.int .i64 at_], .pel [.sl 4 code]]] = some (.val [.int .i64 (-1)]) := c75_44 [] at_ code (by simp)
theorem idx_1k {p : Int} (h : deadI at_ code.length p = false) : cF 75 [.d (.sl 1 (irows [p])), .fn 44 [.pel [.int .i64 at_], .pel [.sl 4 code]]] = some (.val [.int .i64 (-1)]) := by
  rw [c75_44 _ _ _ (by simp)]; simp [idxI, h]
theorem idx_1d {p : Int} (h : deadI at_ code.length p = true) : cF 75 [.d (.sl 1 (irows [p])), .fn 44 [.pel [.int .i64 at_], .pel [.sl 4 code]]] = some (.val [.int .i64 0]) := by
  rw [c75_44 _ _ _ (by simp)]; simp [idxI, h]
theorem idx_kk {p q : Int} (h : deadI at_ code.length p = false) (k : deadI at_ code.length q = false) : cF 75 [.d (.sl 1 (irows [p, q])), .fn 44 [.pel [.int .i64 at_], .pel [.sl 4 code]]] = some (.val [.int .i64 (-1)]) := by
  rw [c75_44 _ _ _ (by simp)]; simp [idxI, h, k]
theorem idx_kd {p q : Int} (h : deadI at_ code.length p = false) (k : deadI at_ code.length q = true) : cF 75 [.d (.sl 1 (irows [p, q])), .fn 44 [.pel [.int .i64 at_], .pel [.sl 4 code]]] = some (.val [.int .i64 1]) := by
  rw [c75_44 _ _ _ (by simp)]; simp [idxI, h, k]
theorem idx_d {p q : Int} (h : deadI at_ code.length p = true) : cF 75 [.d (.sl 1 (irows [p, q])), .fn 44 [.pel [.int .i64 at_], .pel [.sl 4 code]]] = some (.val [.int .i64 0]) := by
  rw [c75_44 _ _ _ (by simp)]; simp [idxI, h]
theorem cF44 {n : Int} {b : Bool} (h : deadI at_ code.length n = b) : cF 44 [.d (.int .i64 n), .pel [.int .i64 at_], .pel [.sl 4 code]] = some (.val [.bool b]) := by rw [c44, h]
theorem cF125 {p q : Int} (h : p ≤ q) : cF 125 [.d (.int .i64 q), .d (.int .i64 p)] = some (.val [.bool false]) := by
  rw [c125, decide_eq_false (by omega)]
theorem c20_other_k (h : At20 code at_ op to_ x y) (n6 : sy.ieq op 6 = false) (n7 : sy.ieq op 7 = false) (n10 : sy.ieq op 10 = false) (d : deadI at_ code.length (at_ + 1) = false) :
    cF 20 [.d (.sl 4 code), .d (.int .i64 at_)] = some (.own 3 1 (irows [at_ + 1])) := by
  refine cOf (by kernel_rfl) rfl ?_
  rw [g20_eq]
  unfold g20
  rw [h.w]
  have m6 : sy.bnot (sy.ieq op 6) = true := by rw [n6]; rfl
  have m10 : sy.bnot (sy.ieq op 10) = true := by rw [n10]; rfl
  have e := idx_1k d
  repeat' (first | with_reducible exact st_some | with_reducible apply st_cut | with_reducible apply st_bind | ((with_reducible apply st_t); (first | with_reducible exact h.i0 | with_reducible exact h.i1 | with_reducible exact h.i2 | with_reducible exact n6 | with_reducible exact n7 | with_reducible exact m6 | with_reducible exact m10 | rfl)) | ((with_reducible apply st_f); (first | with_reducible exact h.i0 | with_reducible exact h.i1 | with_reducible exact h.i2 | with_reducible exact n6 | with_reducible exact n7 | with_reducible exact m6 | with_reducible exact m10 | rfl)) | with_reducible apply st_lp | with_reducible apply st_inl | with_reducible exact st_inr | with_reducible apply st_opI | with_reducible apply st_opB | with_reducible apply st_opL | with_reducible exact h.r0 | with_reducible exact h.r1 | with_reducible exact h.r2 | with_reducible exact h.r3 | exact e | exact c106_1 | rfl)
theorem c20_other_d (h : At20 code at_ op to_ x y) (n6 : sy.ieq op 6 = false) (n7 : sy.ieq op 7 = false) (n10 : sy.ieq op 10 = false) (d : deadI at_ code.length (at_ + 1) = true) :
    cF 20 [.d (.sl 4 code), .d (.int .i64 at_)] = some (.own 3 1 (irows [])) := by
  refine cOf (by kernel_rfl) rfl ?_
  rw [g20_eq]
  unfold g20
  rw [h.w]
  have m6 : sy.bnot (sy.ieq op 6) = true := by rw [n6]; rfl
  have m10 : sy.bnot (sy.ieq op 10) = true := by rw [n10]; rfl
  have e := idx_1d d
  repeat' (first | with_reducible exact st_some | with_reducible apply st_cut | with_reducible apply st_bind | ((with_reducible apply st_t); (first | with_reducible exact h.i0 | with_reducible exact h.i1 | with_reducible exact h.i2 | with_reducible exact n6 | with_reducible exact n7 | with_reducible exact m6 | with_reducible exact m10 | rfl)) | ((with_reducible apply st_f); (first | with_reducible exact h.i0 | with_reducible exact h.i1 | with_reducible exact h.i2 | with_reducible exact n6 | with_reducible exact n7 | with_reducible exact m6 | with_reducible exact m10 | rfl)) | with_reducible apply st_lp | with_reducible apply st_inl | with_reducible exact st_inr | with_reducible apply st_opI | with_reducible apply st_opB | with_reducible apply st_opL | with_reducible exact h.r0 | with_reducible exact h.r1 | with_reducible exact h.r2 | with_reducible exact h.r3 | exact e | exact c106_0 | rfl)
theorem c20_ten (h : At20 code at_ op to_ x y) (e10 : sy.ieq op 10 = true) (n6 : sy.ieq op 6 = false) (n7 : sy.ieq op 7 = false) :
    cF 20 [.d (.sl 4 code), .d (.int .i64 at_)] = some (.own 3 1 (irows [])) := by
  refine cOf (by kernel_rfl) rfl ?_
  rw [g20_eq]
  unfold g20
  rw [h.w]
  have m10 : sy.bnot (sy.ieq op 10) = false := by rw [e10]; rfl
  have e := idx_0 (code := code) (at_ := at_)
  repeat' (first | with_reducible exact st_some | with_reducible apply st_cut | with_reducible apply st_bind | ((with_reducible apply st_t); (first | with_reducible exact h.i0 | with_reducible exact h.i1 | with_reducible exact h.i2 | with_reducible exact n6 | with_reducible exact n7 | with_reducible exact m10 | rfl)) | ((with_reducible apply st_f); (first | with_reducible exact h.i0 | with_reducible exact h.i1 | with_reducible exact h.i2 | with_reducible exact n6 | with_reducible exact n7 | with_reducible exact m10 | rfl)) | with_reducible apply st_lp | with_reducible apply st_inl | with_reducible exact st_inr | with_reducible apply st_opI | with_reducible apply st_opB | with_reducible apply st_opL | with_reducible exact h.r0 | with_reducible exact h.r1 | with_reducible exact h.r2 | with_reducible exact h.r3 | exact e | exact c106_0 | rfl)
theorem c20_six_k (h : At20 code at_ op to_ x y) (e6 : sy.ieq op 6 = true) (n10 : sy.ieq op 10 = false) (d : deadI at_ code.length (to_) = false) :
    cF 20 [.d (.sl 4 code), .d (.int .i64 at_)] = some (.own 3 1 (irows [to_])) := by
  refine cOf (by kernel_rfl) rfl ?_
  rw [g20_eq]
  unfold g20
  rw [h.w]
  have m6 : sy.bnot (sy.ieq op 6) = false := by rw [e6]; rfl
  have m10 : sy.bnot (sy.ieq op 10) = true := by rw [n10]; rfl
  have e := idx_1k d
  repeat' (first | with_reducible exact st_some | with_reducible apply st_cut | with_reducible apply st_bind | ((with_reducible apply st_t); (first | with_reducible exact h.i0 | with_reducible exact h.i1 | with_reducible exact h.i2 | with_reducible exact e6 | with_reducible exact m6 | with_reducible exact m10 | rfl)) | ((with_reducible apply st_f); (first | with_reducible exact h.i0 | with_reducible exact h.i1 | with_reducible exact h.i2 | with_reducible exact e6 | with_reducible exact m6 | with_reducible exact m10 | rfl)) | with_reducible apply st_lp | with_reducible apply st_inl | with_reducible exact st_inr | with_reducible apply st_opI | with_reducible apply st_opB | with_reducible apply st_opL | with_reducible exact h.r0 | with_reducible exact h.r1 | with_reducible exact h.r2 | with_reducible exact h.r3 | exact e | exact c106_1 | rfl)
theorem c20_six_d (h : At20 code at_ op to_ x y) (e6 : sy.ieq op 6 = true) (n10 : sy.ieq op 10 = false) (d : deadI at_ code.length (to_) = true) :
    cF 20 [.d (.sl 4 code), .d (.int .i64 at_)] = some (.own 3 1 (irows [])) := by
  refine cOf (by kernel_rfl) rfl ?_
  rw [g20_eq]
  unfold g20
  rw [h.w]
  have m6 : sy.bnot (sy.ieq op 6) = false := by rw [e6]; rfl
  have m10 : sy.bnot (sy.ieq op 10) = true := by rw [n10]; rfl
  have e := idx_1d d
  repeat' (first | with_reducible exact st_some | with_reducible apply st_cut | with_reducible apply st_bind | ((with_reducible apply st_t); (first | with_reducible exact h.i0 | with_reducible exact h.i1 | with_reducible exact h.i2 | with_reducible exact e6 | with_reducible exact m6 | with_reducible exact m10 | rfl)) | ((with_reducible apply st_f); (first | with_reducible exact h.i0 | with_reducible exact h.i1 | with_reducible exact h.i2 | with_reducible exact e6 | with_reducible exact m6 | with_reducible exact m10 | rfl)) | with_reducible apply st_lp | with_reducible apply st_inl | with_reducible exact st_inr | with_reducible apply st_opI | with_reducible apply st_opB | with_reducible apply st_opL | with_reducible exact h.r0 | with_reducible exact h.r1 | with_reducible exact h.r2 | with_reducible exact h.r3 | exact e | exact c106_0 | rfl)
theorem c20_sev_kk (h : At20 code at_ op to_ x y) (e7 : sy.ieq op 7 = true) (n6 : sy.ieq op 6 = false) (n10 : sy.ieq op 10 = false) (d : deadI at_ code.length (at_ + 1) = false) (d2 : deadI at_ code.length (to_) = false) (l : at_ + 1 < to_) :
    cF 20 [.d (.sl 4 code), .d (.int .i64 at_)] = some (.own 3 1 (irows [at_ + 1, to_])) := by
  refine cOf (by kernel_rfl) rfl ?_
  rw [g20_eq]
  unfold g20
  rw [h.w]
  have m6 : sy.bnot (sy.ieq op 6) = true := by rw [n6]; rfl
  have m10 : sy.bnot (sy.ieq op 10) = true := by rw [n10]; rfl
  have e := idx_kk d d2
  have f := cF125 (p := at_ + 1) (q := to_) (by omega)
  have q : sy.ieq to_ (at_ + 1) = false := decide_eq_false (by omega)
  repeat' (first | with_reducible exact st_some | with_reducible apply st_cut | with_reducible apply st_bind | ((with_reducible apply st_t); (first | with_reducible exact h.i0 | with_reducible exact h.i1 | with_reducible exact h.i2 | with_reducible exact e7 | with_reducible exact n6 | with_reducible exact m6 | with_reducible exact m10 | with_reducible exact q | rfl)) | ((with_reducible apply st_f); (first | with_reducible exact h.i0 | with_reducible exact h.i1 | with_reducible exact h.i2 | with_reducible exact e7 | with_reducible exact n6 | with_reducible exact m6 | with_reducible exact m10 | with_reducible exact q | rfl)) | with_reducible apply st_lp | with_reducible apply st_inl | with_reducible exact st_inr | with_reducible apply st_opI | with_reducible apply st_opB | with_reducible apply st_opL | with_reducible exact h.r0 | with_reducible exact h.r1 | with_reducible exact h.r2 | with_reducible exact h.r3 | exact e | exact f | exact c106_2 | rfl)
theorem c20_sev_eq (h : At20 code at_ op to_ x y) (e7 : sy.ieq op 7 = true) (n6 : sy.ieq op 6 = false) (n10 : sy.ieq op 10 = false) (d : deadI at_ code.length (at_ + 1) = false) (l : to_ = at_ + 1) :
    cF 20 [.d (.sl 4 code), .d (.int .i64 at_)] = some (.own 3 1 (irows [at_ + 1])) := by
  refine cOf (by kernel_rfl) rfl ?_
  rw [g20_eq]
  unfold g20
  rw [h.w]
  have m6 : sy.bnot (sy.ieq op 6) = true := by rw [n6]; rfl
  have m10 : sy.bnot (sy.ieq op 10) = true := by rw [n10]; rfl
  have e := idx_kk d d
  have f := cF125 (p := at_ + 1) (q := at_ + 1) (by omega)
  have q : sy.ieq (at_ + 1) (at_ + 1) = true := decide_eq_true rfl
  have r1 := h.r1
  rw [l] at r1
  repeat' (first | with_reducible exact st_some | with_reducible apply st_cut | with_reducible apply st_bind | ((with_reducible apply st_t); (first | with_reducible exact h.i0 | with_reducible exact h.i1 | with_reducible exact h.i2 | with_reducible exact e7 | with_reducible exact n6 | with_reducible exact m6 | with_reducible exact m10 | with_reducible exact q | rfl)) | ((with_reducible apply st_f); (first | with_reducible exact h.i0 | with_reducible exact h.i1 | with_reducible exact h.i2 | with_reducible exact e7 | with_reducible exact n6 | with_reducible exact m6 | with_reducible exact m10 | with_reducible exact q | rfl)) | with_reducible apply st_lp | with_reducible apply st_inl | with_reducible exact st_inr | with_reducible apply st_opI | with_reducible apply st_opB | with_reducible apply st_opL | with_reducible exact h.r0 | with_reducible exact r1 | with_reducible exact h.r2 | with_reducible exact h.r3 | exact e | exact f | exact c106_2 | rfl)
theorem c20_sev_kd (h : At20 code at_ op to_ x y) (e7 : sy.ieq op 7 = true) (n6 : sy.ieq op 6 = false) (n10 : sy.ieq op 10 = false) (d : deadI at_ code.length (at_ + 1) = false) (d2 : deadI at_ code.length (to_) = true) :
    cF 20 [.d (.sl 4 code), .d (.int .i64 at_)] = some (.own 3 1 (irows [at_ + 1])) := by
  refine cOf (by kernel_rfl) rfl ?_
  rw [g20_eq]
  unfold g20
  rw [h.w]
  have m6 : sy.bnot (sy.ieq op 6) = true := by rw [n6]; rfl
  have m10 : sy.bnot (sy.ieq op 10) = true := by rw [n10]; rfl
  have e := idx_kd d d2
  repeat' (first | with_reducible exact st_some | with_reducible apply st_cut | with_reducible apply st_bind | ((with_reducible apply st_t); (first | with_reducible exact h.i0 | with_reducible exact h.i1 | with_reducible exact h.i2 | with_reducible exact e7 | with_reducible exact n6 | with_reducible exact m6 | with_reducible exact m10 | rfl)) | ((with_reducible apply st_f); (first | with_reducible exact h.i0 | with_reducible exact h.i1 | with_reducible exact h.i2 | with_reducible exact e7 | with_reducible exact n6 | with_reducible exact m6 | with_reducible exact m10 | rfl)) | with_reducible apply st_lp | with_reducible apply st_inl | with_reducible exact st_inr | with_reducible apply st_opI | with_reducible apply st_opB | with_reducible apply st_opL | with_reducible exact h.r0 | with_reducible exact h.r1 | with_reducible exact h.r2 | with_reducible exact h.r3 | exact e | exact c106_1 | rfl)
theorem c20_sev_dd (h : At20 code at_ op to_ x y) (e7 : sy.ieq op 7 = true) (n6 : sy.ieq op 6 = false) (n10 : sy.ieq op 10 = false) (d : deadI at_ code.length (at_ + 1) = true) (d2 : deadI at_ code.length (to_) = true) :
    cF 20 [.d (.sl 4 code), .d (.int .i64 at_)] = some (.own 3 1 (irows [])) := by
  refine cOf (by kernel_rfl) rfl ?_
  rw [g20_eq]
  unfold g20
  rw [h.w]
  have m6 : sy.bnot (sy.ieq op 6) = true := by rw [n6]; rfl
  have m10 : sy.bnot (sy.ieq op 10) = true := by rw [n10]; rfl
  have e := idx_d (q := to_) d
  have f := cF44 d2
  repeat' (first | with_reducible exact st_some | with_reducible apply st_cut | with_reducible apply st_bind | ((with_reducible apply st_t); (first | with_reducible exact h.i0 | with_reducible exact h.i1 | with_reducible exact h.i2 | with_reducible exact e7 | with_reducible exact n6 | with_reducible exact m6 | with_reducible exact m10 | rfl)) | ((with_reducible apply st_f); (first | with_reducible exact h.i0 | with_reducible exact h.i1 | with_reducible exact h.i2 | with_reducible exact e7 | with_reducible exact n6 | with_reducible exact m6 | with_reducible exact m10 | rfl)) | with_reducible apply st_lp | with_reducible apply st_inl | with_reducible exact st_inr | with_reducible apply st_opI | with_reducible apply st_opB | with_reducible apply st_opL | with_reducible exact h.r0 | with_reducible exact h.r1 | with_reducible exact h.r2 | with_reducible exact h.r3 | exact e | exact f | exact c106_0 | rfl)
end Go.Vm
end

section
set_option linter.all false
set_option maxRecDepth 100000
namespace Go.Vm
open Go.Proofs
/-- Where a place leads, by what is asked of it. -/
def leadsB (b10 b6 b7 ba b1 b2 be : Bool) (at_ to_ : Int) : List Int :=
  bif b10 then [] else (bif !b6 && ba then [at_ + 1] else []) ++ (bif (b6 || b7) && b1 && b2 && !(!b6 && ba && be) then [to_] else [])
def leads (code : List Ins) (at_ : Int) : List Int :=
  let x := code.getD at_.toNat default
  let n : Int := code.length
  bif decide (0 ≤ at_ ∧ at_ < n) then leadsB (decide (x.op = 10)) (decide (x.op = 6)) (decide (x.op = 7)) (decide (at_ + 1 < n)) (decide (at_ < x.a)) (decide (x.a < n)) (decide (at_ + 1 = x.a)) at_ x.a else []
variable {code : List Ins} {at_ : Int}
theorem at20 (h0 : 0 ≤ at_) (h1 : at_ < (code.length : Int)) (hl : code.length ≤ 100000) :
    At20 (crows code) at_ (code.getD at_.toNat default).op (code.getD at_.toNat default).a (code.getD at_.toNat default).b (code.getD at_.toNat default).n := by
  have e : sy.row (crows code) at_ = (code.getD at_.toNat default).row := by rw [sy_row, crows_get _ _ (by omega)]
  have hlen : ((crows code).length : Int) = code.length := by rw [crows_len]
  refine ⟨decide_eq_false (by omega), decide_eq_false ?_, decide_eq_true ?_, by rw [e]; rfl, by rw [e]; rfl, by rw [e]; rfl, by rw [e]; rfl, ?_⟩
  · show ¬ ((crows code).length : Int) ≤ at_; omega
  · show 0 ≤ at_ ∧ at_ < ((crows code).length : Int); omega
  · show IntKind.i64.wrap (at_ + 1) = at_ + 1; exact wrap_id (by omega) (by omega)
theorem c20_neg (h : sy.ilt at_ 0 = true) (code : List (List D)) : cF 20 [.d (.sl 4 code), .d (.int .i64 at_)] = some (.own 3 1 []) := by
  refine cOf (by kernel_rfl) rfl ?_
  rw [g20_eq]
  unfold g20
  repeat' (first | with_reducible exact st_some | with_reducible apply st_cut | with_reducible apply st_bind | ((with_reducible apply st_t); (first | with_reducible exact h | rfl)) | ((with_reducible apply st_f); (first | with_reducible exact h | rfl)) | with_reducible apply st_lp | with_reducible apply st_inl | with_reducible exact st_inr | with_reducible apply st_opI | with_reducible apply st_opB | with_reducible apply st_opL | rfl)
theorem c20_far (h : sy.ilt at_ 0 = false) (code : List (List D)) (h2 : sy.ile (sy.rlen code) at_ = true) : cF 20 [.d (.sl 4 code), .d (.int .i64 at_)] = some (.own 3 1 []) := by
  refine cOf (by kernel_rfl) rfl ?_
  rw [g20_eq]
  unfold g20
  repeat' (first | with_reducible exact st_some | with_reducible apply st_cut | with_reducible apply st_bind | ((with_reducible apply st_t); (first | with_reducible exact h | with_reducible exact h2 | rfl)) | ((with_reducible apply st_f); (first | with_reducible exact h | with_reducible exact h2 | rfl)) | with_reducible apply st_lp | with_reducible apply st_inl | with_reducible exact st_inr | with_reducible apply st_opI | with_reducible apply st_opB | with_reducible apply st_opL | rfl)
theorem c20 (hl : code.length ≤ 100000) : cF 20 [.d (.sl 4 (crows code)), .d (.int .i64 at_)] = some (.own 3 1 (irows (leads code at_))) := by
  have hlen : ((crows code).length : Int) = code.length := by rw [crows_len]
  unfold leads
  by_cases h0 : 0 ≤ at_
  · by_cases h1 : at_ < (code.length : Int)
    · simp only [decide_eq_true (show 0 ≤ at_ ∧ at_ < (code.length : Int) from ⟨h0, h1⟩), cond_true]
      have h := at20 h0 h1 hl
      generalize code.getD at_.toNat default = x at h
      obtain ⟨op, a, b, n⟩ := x
      simp only at h
      have dd : ∀ m : Int, deadI at_ ((crows code).length : Int) m = (decide (m ≤ at_) || decide ((code.length : Int) ≤ m)) := fun m => by rw [hlen]; rfl
      by_cases e10 : op = 10
      · rw [c20_ten h (decide_eq_true e10) (decide_eq_false (by omega)) (decide_eq_false (by omega))]
        simp [leadsB, e10]
      have n10 : sy.ieq op 10 = false := decide_eq_false e10
      by_cases e6 : op = 6
      · by_cases b1 : at_ < a
        · by_cases b2 : a < (code.length : Int)
          · rw [c20_six_k h (decide_eq_true e6) n10 (by rw [dd, decide_eq_false (by omega), decide_eq_false (by omega)]; rfl)]
            simp [leadsB, e10, e6, b1, b2]
          · rw [c20_six_d h (decide_eq_true e6) n10 (by rw [dd, decide_eq_true (show (code.length : Int) ≤ a by omega), Bool.or_true])]
            simp [leadsB, e10, e6, b1, b2, irows]
        · rw [c20_six_d h (decide_eq_true e6) n10 (by rw [dd, decide_eq_true (show a ≤ at_ by omega), Bool.true_or])]
          simp [leadsB, e10, e6, b1, irows]
      have n6 : sy.ieq op 6 = false := decide_eq_false e6
      by_cases ba : at_ + 1 < (code.length : Int)
      · have d1 : deadI at_ ((crows code).length : Int) (at_ + 1) = false := by rw [dd, decide_eq_false (by omega), decide_eq_false (by omega)]; rfl
        by_cases e7 : op = 7
        · have e7' : sy.ieq op 7 = true := decide_eq_true e7
          by_cases b1 : at_ < a
          · by_cases b2 : a < (code.length : Int)
            · by_cases be : at_ + 1 = a
              · rw [c20_sev_eq h e7' n6 n10 d1 be.symm]
                simp [leadsB, e10, e6, e7, b1, b2, ba, be]
              · rw [c20_sev_kk h e7' n6 n10 d1 (by rw [dd, decide_eq_false (by omega), decide_eq_false (by omega)]; rfl) (by omega)]
                simp [leadsB, e10, e6, e7, b1, b2, ba, be]
            · rw [c20_sev_kd h e7' n6 n10 d1 (by rw [dd, decide_eq_true (show (code.length : Int) ≤ a by omega), Bool.or_true])]
              simp [leadsB, e10, e6, e7, b1, b2, ba]
          · rw [c20_sev_kd h e7' n6 n10 d1 (by rw [dd, decide_eq_true (show a ≤ at_ by omega), Bool.true_or])]
            simp [leadsB, e10, e6, e7, b1, ba]
        · rw [c20_other_k h n6 (decide_eq_false e7) n10 d1]
          simp [leadsB, e10, e6, e7, ba]
      · have d1 : deadI at_ ((crows code).length : Int) (at_ + 1) = true := by rw [dd, decide_eq_true (show (code.length : Int) ≤ at_ + 1 by omega), Bool.or_true]
        by_cases e7 : op = 7
        · have d2 : deadI at_ ((crows code).length : Int) a = true := by
            rw [dd]
            by_cases b1 : at_ < a
            · rw [decide_eq_true (show (code.length : Int) ≤ a by omega), Bool.or_true]
            · rw [decide_eq_true (show a ≤ at_ by omega), Bool.true_or]
          rw [c20_sev_dd h (decide_eq_true e7) n6 n10 d1 d2]
          by_cases b1 : at_ < a
          · have b2 : ¬ a < (code.length : Int) := by omega
            simp [leadsB, e10, e6, e7, ba, b1, b2, irows]
          · simp [leadsB, e10, e6, e7, ba, b1, irows]
        · rw [c20_other_d h n6 (decide_eq_false e7) n10 d1]
          simp [leadsB, e10, e6, e7, ba, irows]
    · simp only [decide_eq_false (show ¬ (0 ≤ at_ ∧ at_ < (code.length : Int)) by omega), cond_false]
      exact c20_far (decide_eq_false (by omega)) _ (decide_eq_true (by show ((crows code).length : Int) ≤ at_; omega))
  · simp only [decide_eq_false (show ¬ (0 ≤ at_ ∧ at_ < (code.length : Int)) by omega), cond_false]
    exact c20_neg (decide_eq_true (by omega)) _
end Go.Vm
end

section
set_option linter.all false
set_option maxRecDepth 100000
namespace Go.Vm
open Go.Proofs
variable {code : List Ins} {at_ : Int}
theorem c21_neg (h : sy.ilt at_ 0 = true) (code : List (List D)) : cF 21 [.d (.sl 4 code), .d (.int .i64 at_)] = some (.own 3 1 []) := by
  refine cOf (by kernel_rfl) rfl ?_
  rw [g21_eq]
  unfold g21
  repeat' (first | with_reducible exact st_some | with_reducible apply st_cut | with_reducible apply st_bind | ((with_reducible apply st_t); (first | with_reducible exact h | rfl)) | ((with_reducible apply st_f); (first | with_reducible exact h | rfl)) | with_reducible apply st_lp | with_reducible apply st_inl | with_reducible exact st_inr | with_reducible apply st_opI | with_reducible apply st_opB | with_reducible apply st_opL | rfl)
theorem c21_far (h : sy.ilt at_ 0 = false) (code : List (List D)) (h2 : sy.ile (sy.rlen code) at_ = true) : cF 21 [.d (.sl 4 code), .d (.int .i64 at_)] = some (.own 3 1 []) := by
  refine cOf (by kernel_rfl) rfl ?_
  rw [g21_eq]
  unfold g21
  repeat' (first | with_reducible exact st_some | with_reducible apply st_cut | with_reducible apply st_bind | ((with_reducible apply st_t); (first | with_reducible exact h | with_reducible exact h2 | rfl)) | ((with_reducible apply st_f); (first | with_reducible exact h | with_reducible exact h2 | rfl)) | with_reducible apply st_lp | with_reducible apply st_inl | with_reducible exact st_inr | with_reducible apply st_opI | with_reducible apply st_opB | with_reducible apply st_opL | rfl)
theorem c21_in {code : List (List D)} {op to_ x y : Int} (h : At20 code at_ op to_ x y) (s0 : sy.cell (sy.skip 1 (sy.row code at_)) 0 = some (.int .i64 to_)) {b10 b6 b7 ba b1 b2 be : Bool} (e10 : sy.ieq op 10 = b10) (e6 : sy.ieq op 6 = b6) (e7 : sy.ieq op 7 = b7) (ea : sy.ilt (at_ + 1) (sy.rlen code) = ba) (e1 : sy.ilt at_ to_ = b1) (e2 : sy.ilt to_ (sy.rlen code) = b2) (ee : sy.ieq (at_ + 1) to_ = be) :
    cF 21 [.d (.sl 4 code), .d (.int .i64 at_)] = some (.own 3 1 (irows (leadsB b10 b6 b7 ba b1 b2 be at_ to_))) := by
  have f6 : sy.bnot (sy.ieq op 6) = !b6 := by rw [e6]; rfl
  have fe : sy.bnot (sy.ieq (at_ + 1) to_) = !be := by rw [ee]; rfl
  refine cOf (by kernel_rfl) rfl ?_
  rw [g21_eq]
  unfold g21
  rw [h.w]
  cases b10
  · cases b6 <;> cases b7 <;> cases ba <;> cases b1 <;> cases b2 <;> cases be
    all_goals
      simp only [Bool.not_false, Bool.not_true] at f6 fe
      repeat' (first | with_reducible exact st_some | with_reducible apply st_cut | with_reducible apply st_bind | ((with_reducible apply st_t); (first | with_reducible exact h.i0 | with_reducible exact h.i1 | with_reducible exact h.i2 | with_reducible exact e10 | with_reducible exact e6 | with_reducible exact e7 | with_reducible exact ea | with_reducible exact e1 | with_reducible exact e2 | with_reducible exact ee | with_reducible exact f6 | with_reducible exact fe | rfl)) | ((with_reducible apply st_f); (first | with_reducible exact h.i0 | with_reducible exact h.i1 | with_reducible exact h.i2 | with_reducible exact e10 | with_reducible exact e6 | with_reducible exact e7 | with_reducible exact ea | with_reducible exact e1 | with_reducible exact e2 | with_reducible exact ee | with_reducible exact f6 | with_reducible exact fe | rfl)) | with_reducible apply st_lp | with_reducible apply st_inl | with_reducible exact st_inr | with_reducible apply st_opI | with_reducible apply st_opB | with_reducible apply st_opL | with_reducible exact h.r0 | with_reducible exact s0 | rfl)
  · repeat' (first | with_reducible exact st_some | with_reducible apply st_cut | with_reducible apply st_bind | ((with_reducible apply st_t); (first | with_reducible exact h.i0 | with_reducible exact h.i1 | with_reducible exact h.i2 | with_reducible exact e10 | rfl)) | ((with_reducible apply st_f); (first | with_reducible exact h.i0 | with_reducible exact h.i1 | with_reducible exact h.i2 | with_reducible exact e10 | rfl)) | with_reducible apply st_lp | with_reducible apply st_inl | with_reducible exact st_inr | with_reducible apply st_opI | with_reducible apply st_opB | with_reducible apply st_opL | with_reducible exact h.r0 | with_reducible exact s0 | rfl)
theorem c21 (hl : code.length ≤ 100000) : cF 21 [.d (.sl 4 (crows code)), .d (.int .i64 at_)] = some (.own 3 1 (irows (leads code at_))) := by
  have hlen : ((crows code).length : Int) = code.length := by rw [crows_len]
  have hl2 : sy.rlen (crows code) = (code.length : Int) := hlen
  unfold leads
  by_cases h0 : 0 ≤ at_
  · by_cases h1 : at_ < (code.length : Int)
    · simp only [decide_eq_true (show 0 ≤ at_ ∧ at_ < (code.length : Int) from ⟨h0, h1⟩), cond_true]
      have h := at20 h0 h1 hl
      have s0 : sy.cell (sy.skip 1 (sy.row (crows code) at_)) 0 = some (.int .i64 (code.getD at_.toNat default).a) := by
        rw [sy_row, crows_get _ _ (by omega)]; rfl
      exact c21_in h s0 rfl rfl rfl (by rw [hl2]; rfl) rfl (by rw [hl2]; rfl) rfl
    · simp only [decide_eq_false (show ¬ (0 ≤ at_ ∧ at_ < (code.length : Int)) by omega), cond_false]
      exact c21_far (decide_eq_false (by omega)) _ (decide_eq_true (by show ((crows code).length : Int) ≤ at_; omega))
  · simp only [decide_eq_false (show ¬ (0 ≤ at_ ∧ at_ < (code.length : Int)) by omega), cond_false]
    exact c21_neg (decide_eq_true (by omega)) _
end Go.Vm
end

section
set_option linter.all false
set_option maxRecDepth 100000
namespace Go.Vm
open Go.Proofs
/-! ### how much fuel a code needs at most -/
def mxL (l : List Int) (ls : List Int) (m : Int) : Int := ls.foldl (fun m j => max m (l.getD j.toNat 0)) m
def bStep (code : List Ins) (l : List Int) (i : Nat) : List Int := l.set i (mxL l (leads code i) 0 + 1)
def bL (code : List Ins) : Nat → List Int
  | 0 => List.replicate code.length 0
  | k + 1 => bStep code (bL code k) (code.length - 1 - k)
def bound (code : List Ins) : Int := (bL code code.length).getD 0 0
variable {code : List Ins}
theorem bL_len : ∀ k, (bL code k).length = code.length
  | 0 => by simp [bL]
  | k + 1 => by simp [bL, bStep, bL_len k]
theorem leads_bd {i : Nat} {j : Int} (h : j ∈ leads code i) : (i : Int) < j ∧ j < code.length := by
  unfold leads at h
  simp only at h
  by_cases h1 : (0 : Int) ≤ i ∧ (i : Int) < code.length
  · rw [decide_eq_true h1] at h
    simp only [cond_true] at h
    generalize code.getD (i : Int).toNat default = x at h
    unfold leadsB at h
    by_cases h10 : x.op = 10
    · simp [h10] at h
    · simp only [h10, decide_false, cond_false, List.mem_append] at h
      rcases h with h | h
      · by_cases c : (!decide (x.op = 6) && decide ((i : Int) + 1 < code.length)) = true
        · rw [c] at h
          simp only [Bool.and_eq_true, decide_eq_true_eq] at c
          simp only [cond_true, List.mem_singleton] at h
          omega
        · simp only [Bool.not_eq_true] at c
          rw [c] at h; simp at h
      · by_cases c : ((decide (x.op = 6) || decide (x.op = 7)) && decide ((i : Int) < x.a) && decide (x.a < (code.length : Int)) && !(!decide (x.op = 6) && decide ((i : Int) + 1 < code.length) && decide ((i : Int) + 1 = x.a))) = true
        · rw [c] at h
          simp only [Bool.and_eq_true, decide_eq_true_eq] at c
          simp only [cond_true, List.mem_singleton] at h
          omega
        · simp only [Bool.not_eq_true] at c
          rw [c] at h; simp at h
  · rw [decide_eq_false h1] at h; simp at h
theorem leads_short (i : Nat) : (leads code i).length ≤ 2 := by
  unfold leads
  simp only
  cases decide ((0 : Int) ≤ i ∧ (i : Int) < code.length)
  · simp
  · simp only [cond_true]
    unfold leadsB
    cases decide ((code.getD (i : Int).toNat default).op = 10)
    · simp only [cond_false, List.length_append]
      have a : ∀ (b : Bool) (x : Int), (bif b then [x] else []).length ≤ 1 := fun b x => by cases b <;> simp
      have := a (!decide ((code.getD (i : Int).toNat default).op = 6) && decide ((i : Int) + 1 < code.length)) ((i : Int) + 1)
      exact Nat.add_le_add this (a _ _)
    · simp
theorem mxL_bd {l : List Int} {k : Int} (hl : ∀ x ∈ l, 0 ≤ x ∧ x ≤ k) (hk : 0 ≤ k) : ∀ (ls : List Int) (m : Int), 0 ≤ m → m ≤ k → 0 ≤ mxL l ls m ∧ mxL l ls m ≤ k
  | [], m, h0, h1 => ⟨h0, h1⟩
  | j :: ls, m, h0, h1 => by
    have : 0 ≤ l.getD j.toNat 0 ∧ l.getD j.toNat 0 ≤ k := by
      rw [List.getD_eq_getElem?_getD]
      cases h : l[j.toNat]? with
      | none => simp; omega
      | some x => simp; exact hl x (List.mem_of_getElem? h)
    exact mxL_bd hl hk ls (max m (l.getD j.toNat 0)) (by omega) (by omega)
theorem bL_bd : ∀ k x, x ∈ bL code k → 0 ≤ x ∧ x ≤ k
  | 0, x, h => by
    have := (List.mem_replicate.1 h).2; omega
  | k + 1, x, h => by
    unfold bL bStep at h
    rcases List.mem_or_eq_of_mem_set h with h | h
    · have := bL_bd k x h; omega
    · have := mxL_bd (bL_bd k) (by omega) (leads code (code.length - 1 - k : Nat)) 0 (by omega) (by omega)
      omega
/-- Places not come to yet. -/
theorem bL_zero : ∀ (k i : Nat), i + k < code.length → (bL code k).getD i 0 = 0
  | 0, i, h => by
    unfold bL
    rw [List.getD_eq_getElem?_getD, List.getElem?_replicate, if_pos (by omega)]; rfl
  | k + 1, i, h => by
    unfold bL bStep
    rw [List.getD_eq_getElem?_getD, List.getElem?_set, if_neg (by omega), ← List.getD_eq_getElem?_getD]
    exact bL_zero k i (by omega)
theorem foldE_inl {σ τ α : Type} (f : τ → σ → σ) (fin : σ → α) : ∀ (l : List τ) (s : σ), foldE (fun x s => .inl (f x s)) fin l s = fin (l.foldl (fun s x => f x s) s)
  | [], s => rfl
  | x :: l, s => by
    show foldE _ _ l (f x s) = _
    rw [foldE_inl]; rfl
theorem irows_put (l : List Int) (n : Nat) (v : Int) (h : n < l.length) : sy.rput (irows l) n 0 [.int .i64 v] = irows (l.set n v) := by
  show (irows l).set n _ = _
  rw [irows_get _ _ h]
  unfold irows
  rw [List.map_set]
  rfl
theorem irows_n {l : List Int} {n : Nat} (h : n < l.length) : sy.cell (sy.rown (irows l) n) 0 = some (.int .i64 (l.getD n 0)) := by
  rw [sy_rown, irows_get _ _ h]; rfl
theorem c18 (hl : code.length ≤ 1000) : cF 18 [.d (.sl 4 (crows code))] = some (.val [.int .i64 (bound code)]) := by
  refine cOf (by kernel_rfl) rfl ?_
  rw [g18_eq]
  simp only [g18, sy_wrap, sy_add, sy_sub, sy_mul, sy_ieq, sy_ilt, sy_ile, sy_seq, sy_beq, sy_bor, sy_bnot, sy_imax, sy_imin, sy_rlen, sy_slen, sy_sapp, sy_inr, sy_nat, sy_cell0, sy_cellS, sy_skip0, sy_inrn, sy_rapp, sy_fits, sy_cutok, sy_cut, sy_scut, sy_sbyte, sy_mkok, sy_mkok0, sy_mkz, sy_rep, sy_head, sy_deq, eqDs_int, eqDs_nil, opI_int, opB_bool, opS_str, opL_sl, opM_own, leaves_val, leaves_own, Option.bind_some, cutO_bool, bif_bool, cutO_inl, cutO_inr, eF_call, eF_lp, Nat.zero_add, Nat.reduceAdd, Bool.cond_false_right, Bool.cond_true_left, Bool.cond_false_left, Bool.cond_true_right, Bool.not_true, Bool.not_false, Bool.not_not, eq_self, decide_true, decide_false, cond_true, cond_false, Int.reduceEq, Int.reduceLT, Int.reduceLE, Int.reduceSub, Int.reduceAdd, Bool.true_and, Bool.and_true, Bool.false_and, Bool.and_false, Bool.or_false, Bool.false_or, Bool.true_or, Bool.or_true, true_and, and_true, crows_len]
  rw [decide_eq_true (by omega)]
  simp only [cond_true]
  have hrep : List.replicate (code.length : Int).toNat [D.int .i64 0] = irows (bL code 0) := by
    simp only [Int.toNat_natCast, bL, irows, List.map_replicate]; rfl
  rw [hrep]
  refine loopF_at (fun k : Nat => [.sl 4 (crows code), .int .i64 (k : Int), .sl 1 (irows (bL code k))]) (fun k => k ≤ code.length) (fun k => code.length - k) (fun k hk => ?_) 0 (Nat.zero_le _)
  by_cases hlt : k < code.length
  · left
    refine ⟨k + 1, ?_, by omega, by omega⟩
    have hi : (code.length : Int) - 1 - (k : Int) = ((code.length - 1 - k : Nat) : Int) := by omega
    simp only [sy_wrap, sy_add, sy_sub, sy_mul, sy_ieq, sy_ilt, sy_ile, sy_seq, sy_beq, sy_bor, sy_bnot, sy_imax, sy_imin, sy_rlen, sy_slen, sy_sapp, sy_inr, sy_nat, sy_cell0, sy_cellS, sy_skip0, sy_inrn, sy_rapp, sy_fits, sy_cutok, sy_cut, sy_scut, sy_sbyte, sy_mkok, sy_mkok0, sy_mkz, sy_rep, sy_head, sy_deq, eqDs_int, eqDs_nil, opI_int, opB_bool, opS_str, opL_sl, opM_own, leaves_val, leaves_own, Option.bind_some, cutO_bool, bif_bool, cutO_inl, cutO_inr, eF_call, eF_lp, Nat.zero_add, Nat.reduceAdd, Bool.cond_false_right, Bool.cond_true_left, Bool.cond_false_left, Bool.cond_true_right, Bool.not_true, Bool.not_false, Bool.not_not, eq_self, decide_true, decide_false, cond_true, cond_false, Int.reduceEq, Int.reduceLT, Int.reduceLE, Int.reduceSub, Int.reduceAdd, Bool.true_and, Bool.and_true, Bool.false_and, Bool.and_false, Bool.or_false, Bool.false_or, Bool.true_or, Bool.or_true, true_and, and_true, crows_len, ilt_at hlt]
    rw [wrap_id (n := (code.length : Int) - 1) (by omega) (by omega), wrap_id (n := (code.length : Int) - 1 - (k : Int)) (by omega) (by omega), hi]
    simp only [sy_wrap, sy_add, sy_sub, sy_mul, sy_ieq, sy_ilt, sy_ile, sy_seq, sy_beq, sy_bor, sy_bnot, sy_imax, sy_imin, sy_rlen, sy_slen, sy_sapp, sy_inr, sy_nat, sy_cell0, sy_cellS, sy_skip0, sy_inrn, sy_rapp, sy_fits, sy_cutok, sy_cut, sy_scut, sy_sbyte, sy_mkok, sy_mkok0, sy_mkz, sy_rep, sy_head, sy_deq, eqDs_int, eqDs_nil, opI_int, opB_bool, opS_str, opL_sl, opM_own, leaves_val, leaves_own, Option.bind_some, cutO_bool, bif_bool, cutO_inl, cutO_inr, eF_call, eF_lp, Nat.zero_add, Nat.reduceAdd, Bool.cond_false_right, Bool.cond_true_left, Bool.cond_false_left, Bool.cond_true_right, Bool.not_true, Bool.not_false, Bool.not_not, eq_self, decide_true, decide_false, cond_true, cond_false, Int.reduceEq, Int.reduceLT, Int.reduceLE, Int.reduceSub, Int.reduceAdd, Bool.true_and, Bool.and_true, Bool.false_and, Bool.and_false, Bool.or_false, Bool.false_or, Bool.true_or, Bool.or_true, true_and, and_true, c21 (code := code) (at_ := ((code.length - 1 - k : Nat) : Int)) (by omega)]
    generalize hi' : code.length - 1 - k = i
    have hin : i < code.length := by omega
    have hbd : ∀ j ∈ leads code i, (i : Int) < j ∧ j < code.length := fun j hj => leads_bd hj
    have hsh := leads_short (code := code) i
    generalize hls : leads code i = ls at hbd hsh
    refine (loop_list ls (fun j (m : Int) => [.sl 4 (crows code), .int .i64 (k : Int), .int .i64 (i : Int), .sl 1 (irows ls), .int .i64 m, .int .i64 (j : Int), .sl 1 (irows (bL code k))]) (fun _ m => 0 ≤ m ∧ m ≤ k)
      (fun j m => .inl (max m ((bL code k).getD j.toNat 0))) (fun m => .inl [.sl 4 (crows code), .int .i64 ((k + 1 : Nat) : Int), .sl 1 (irows ((bL code k).set i (m + 1)))]) (fun j m x hx hm => ?_) (fun m hm => ?_) 0 ⟨by omega, by omega⟩).trans ?_
    · have hjl := (List.getElem?_eq_some_iff.1 hx).1
      have hxb := hbd x (List.mem_of_getElem? hx)
      have hxn : x.toNat < (bL code k).length := by rw [bL_len]; omega
      have hx0 := bL_bd (code := code) k ((bL code k).getD x.toNat 0) (by rw [List.getD_eq_getElem?_getD, List.getElem?_eq_getElem hxn]; exact List.getElem_mem hxn)
      refine ⟨?_, fun s' hs' => by cases hs'; omega⟩
      simp only [sy_wrap, sy_add, sy_sub, sy_mul, sy_ieq, sy_ilt, sy_ile, sy_seq, sy_beq, sy_bor, sy_bnot, sy_imax, sy_imin, sy_rlen, sy_slen, sy_sapp, sy_inr, sy_nat, sy_cell0, sy_cellS, sy_skip0, sy_inrn, sy_rapp, sy_fits, sy_cutok, sy_cut, sy_scut, sy_sbyte, sy_mkok, sy_mkok0, sy_mkz, sy_rep, sy_head, sy_deq, eqDs_int, eqDs_nil, opI_int, opB_bool, opS_str, opL_sl, opM_own, leaves_val, leaves_own, Option.bind_some, cutO_bool, bif_bool, cutO_inl, cutO_inr, eF_call, eF_lp, Nat.zero_add, Nat.reduceAdd, Bool.cond_false_right, Bool.cond_true_left, Bool.cond_false_left, Bool.cond_true_right, Bool.not_true, Bool.not_false, Bool.not_not, eq_self, decide_true, decide_false, cond_true, cond_false, Int.reduceEq, Int.reduceLT, Int.reduceLE, Int.reduceSub, Int.reduceAdd, Bool.true_and, Bool.and_true, Bool.false_and, Bool.and_false, Bool.or_false, Bool.false_or, Bool.true_or, Bool.or_true, true_and, and_true, irows_len, ilt_at hjl, inr_at hjl, irows_at hx, bL_len, decide_eq_true (show 0 ≤ x ∧ x < (code.length : Int) by omega), irows_n hxn, wrap_succ hjl (by omega)]
      rfl
    · simp only [sy_wrap, sy_add, sy_sub, sy_mul, sy_ieq, sy_ilt, sy_ile, sy_seq, sy_beq, sy_bor, sy_bnot, sy_imax, sy_imin, sy_rlen, sy_slen, sy_sapp, sy_inr, sy_nat, sy_cell0, sy_cellS, sy_skip0, sy_inrn, sy_rapp, sy_fits, sy_cutok, sy_cut, sy_scut, sy_sbyte, sy_mkok, sy_mkok0, sy_mkz, sy_rep, sy_head, sy_deq, eqDs_int, eqDs_nil, opI_int, opB_bool, opS_str, opL_sl, opM_own, leaves_val, leaves_own, Option.bind_some, cutO_bool, bif_bool, cutO_inl, cutO_inr, eF_call, eF_lp, Nat.zero_add, Nat.reduceAdd, Bool.cond_false_right, Bool.cond_true_left, Bool.cond_false_left, Bool.cond_true_right, Bool.not_true, Bool.not_false, Bool.not_not, eq_self, decide_true, decide_false, cond_true, cond_false, Int.reduceEq, Int.reduceLT, Int.reduceLE, Int.reduceSub, Int.reduceAdd, Bool.true_and, Bool.and_true, Bool.false_and, Bool.and_false, Bool.or_false, Bool.false_or, Bool.true_or, Bool.or_true, true_and, and_true, irows_len, ilt_self, bL_len, inr_at hin, decide_eq_true hin, Int.toNat_natCast, wrap_id (n := m + 1) (by omega) (by omega), wrap_succ hlt (by omega)]
      rw [irows_put (bL code k) i (m + 1) (by rw [bL_len]; exact hin)]
      rfl
    · rw [foldE_inl (fun (j m : Int) => max m ((bL code k).getD j.toNat 0))]
      show some (Sum.inl [_, _, D.sl 1 (irows ((bL code k).set i (mxL (bL code k) ls 0 + 1)))]) = some (Sum.inl [_, _, D.sl 1 (irows (bStep code (bL code k) (code.length - 1 - k)))])
      rw [hi', bStep, hls]
  · right
    have : k = code.length := by omega
    subst this
    simp only [sy_wrap, sy_add, sy_sub, sy_mul, sy_ieq, sy_ilt, sy_ile, sy_seq, sy_beq, sy_bor, sy_bnot, sy_imax, sy_imin, sy_rlen, sy_slen, sy_sapp, sy_inr, sy_nat, sy_cell0, sy_cellS, sy_skip0, sy_inrn, sy_rapp, sy_fits, sy_cutok, sy_cut, sy_scut, sy_sbyte, sy_mkok, sy_mkok0, sy_mkz, sy_rep, sy_head, sy_deq, eqDs_int, eqDs_nil, opI_int, opB_bool, opS_str, opL_sl, opM_own, leaves_val, leaves_own, Option.bind_some, cutO_bool, bif_bool, cutO_inl, cutO_inr, eF_call, eF_lp, Nat.zero_add, Nat.reduceAdd, Bool.cond_false_right, Bool.cond_true_left, Bool.cond_false_left, Bool.cond_true_right, Bool.not_true, Bool.not_false, Bool.not_not, eq_self, decide_true, decide_false, cond_true, cond_false, Int.reduceEq, Int.reduceLT, Int.reduceLE, Int.reduceSub, Int.reduceAdd, Bool.true_and, Bool.and_true, Bool.false_and, Bool.and_false, Bool.or_false, Bool.false_or, Bool.true_or, Bool.or_true, true_and, and_true, crows_len, ilt_self]
    by_cases h0 : code.length = 0
    · rw [decide_eq_true (by omega)]
      have : bound code = 0 := by unfold bound; rw [h0]; simp [bL, h0]
      rw [this]; rfl
    · rw [decide_eq_false (by omega)]
      simp only [cond_false, irows_len, bL_len]
      rw [decide_eq_true (by omega)]
      simp only [cond_true]
      rw [show (0 : Int).toNat = 0 from rfl, irows_n (by rw [bL_len]; omega)]
      rfl
end Go.Vm
end

section
set_option linter.all false
set_option maxRecDepth 100000
namespace Go.Vm
open Go.Proofs
variable {code : List Ins}
theorem set_getD {l : List Int} {i : Nat} {v : Int} (h : i < l.length) : (l.set i v).getD i 0 = v := by
  rw [List.getD_eq_getElem?_getD, List.getElem?_set, if_pos rfl, if_pos h]; rfl
theorem set_getD_ne {l : List Int} {i j : Nat} {v : Int} (h : i ≠ j) : (l.set i v).getD j 0 = l.getD j 0 := by
  rw [List.getD_eq_getElem?_getD, List.getElem?_set, if_neg h, ← List.getD_eq_getElem?_getD]
theorem set_same {l : List Int} {i : Nat} {v : Int} (h : l.getD i 0 = v) : l.set i v = l := by
  apply List.ext_getElem?
  intro j
  rw [List.getElem?_set]
  by_cases hij : i = j
  · subst hij
    rw [if_pos rfl]
    split
    · rename_i hlt
      rw [List.getD_eq_getElem?_getD, List.getElem?_eq_getElem hlt] at h
      rw [List.getElem?_eq_getElem hlt, ← h]; rfl
    · rename_i hlt
      rw [List.getElem?_eq_none (by omega)]
  · rw [if_neg hij]
theorem c17 (hl : code.length ≤ 1000) : cF 17 [.d (.sl 4 (crows code))] = some (.val [.int .i64 (bound code)]) := by
  refine cOf (by kernel_rfl) rfl ?_
  rw [g17_eq]
  simp only [g17, sy_wrap, sy_add, sy_sub, sy_mul, sy_ieq, sy_ilt, sy_ile, sy_seq, sy_beq, sy_bor, sy_bnot, sy_imax, sy_imin, sy_rlen, sy_slen, sy_sapp, sy_inr, sy_nat, sy_cell0, sy_cellS, sy_skip0, sy_inrn, sy_rapp, sy_fits, sy_cutok, sy_cut, sy_scut, sy_sbyte, sy_mkok, sy_mkok0, sy_mkz, sy_rep, sy_head, sy_deq, eqDs_int, eqDs_nil, opI_int, opB_bool, opS_str, opL_sl, opM_own, leaves_val, leaves_own, Option.bind_some, cutO_bool, bif_bool, cutO_inl, cutO_inr, eF_call, eF_lp, Nat.zero_add, Nat.reduceAdd, Bool.cond_false_right, Bool.cond_true_left, Bool.cond_false_left, Bool.cond_true_right, Bool.not_true, Bool.not_false, Bool.not_not, eq_self, decide_true, decide_false, cond_true, cond_false, Int.reduceEq, Int.reduceLT, Int.reduceLE, Int.reduceSub, Int.reduceAdd, Bool.true_and, Bool.and_true, Bool.false_and, Bool.and_false, Bool.or_false, Bool.false_or, Bool.true_or, Bool.or_true, true_and, and_true, crows_len]
  by_cases h0 : code.length = 0
  · rw [decide_eq_true (by omega)]
    have : bound code = 0 := by unfold bound; rw [h0]; simp [bL, h0]
    rw [this]; rfl
  rw [decide_eq_false (by omega), decide_eq_true (by omega)]
  simp only [cond_true, cond_false]
  have hrep : List.replicate (code.length : Int).toNat [D.int .i64 0] = irows (bL code 0) := by
    simp only [Int.toNat_natCast, bL, irows, List.map_replicate]; rfl
  rw [hrep]
  refine loopF_at (fun k : Nat => [.int .i64 (code.length : Int), .int .i64 (k : Int), .sl 4 (crows code), .sl 1 (irows (bL code k)), .int .i64 (code.length : Int), .sl 4 (crows code), .int .i64 0, .sl 4 (crows code), .int .i64 (code.length : Int), .bool false, .sl 4 (crows code), .int .i64 (code.length : Int), .sl 4 (crows code), .int .i64 (code.length : Int)]) (fun k => k ≤ code.length) (fun k => code.length - k) (fun k hk => ?_) 0 (Nat.zero_le _)
  by_cases hlt : k < code.length
  · left
    refine ⟨k + 1, ?_, by omega, by omega⟩
    have hi : (code.length : Int) - 1 - (k : Int) = ((code.length - 1 - k : Nat) : Int) := by omega
    simp only [sy_wrap, sy_add, sy_sub, sy_mul, sy_ieq, sy_ilt, sy_ile, sy_seq, sy_beq, sy_bor, sy_bnot, sy_imax, sy_imin, sy_rlen, sy_slen, sy_sapp, sy_inr, sy_nat, sy_cell0, sy_cellS, sy_skip0, sy_inrn, sy_rapp, sy_fits, sy_cutok, sy_cut, sy_scut, sy_sbyte, sy_mkok, sy_mkok0, sy_mkz, sy_rep, sy_head, sy_deq, eqDs_int, eqDs_nil, opI_int, opB_bool, opS_str, opL_sl, opM_own, leaves_val, leaves_own, Option.bind_some, cutO_bool, bif_bool, cutO_inl, cutO_inr, eF_call, eF_lp, Nat.zero_add, Nat.reduceAdd, Bool.cond_false_right, Bool.cond_true_left, Bool.cond_false_left, Bool.cond_true_right, Bool.not_true, Bool.not_false, Bool.not_not, eq_self, decide_true, decide_false, cond_true, cond_false, Int.reduceEq, Int.reduceLT, Int.reduceLE, Int.reduceSub, Int.reduceAdd, Bool.true_and, Bool.and_true, Bool.false_and, Bool.and_false, Bool.or_false, Bool.false_or, Bool.true_or, Bool.or_true, true_and, and_true, ilt_at hlt]
    rw [wrap_id (n := (code.length : Int) - 1) (by omega) (by omega), wrap_id (n := (code.length : Int) - 1 - (k : Int)) (by omega) (by omega), hi]
    simp only [sy_wrap, sy_add, sy_sub, sy_mul, sy_ieq, sy_ilt, sy_ile, sy_seq, sy_beq, sy_bor, sy_bnot, sy_imax, sy_imin, sy_rlen, sy_slen, sy_sapp, sy_inr, sy_nat, sy_cell0, sy_cellS, sy_skip0, sy_inrn, sy_rapp, sy_fits, sy_cutok, sy_cut, sy_scut, sy_sbyte, sy_mkok, sy_mkok0, sy_mkz, sy_rep, sy_head, sy_deq, eqDs_int, eqDs_nil, opI_int, opB_bool, opS_str, opL_sl, opM_own, leaves_val, leaves_own, Option.bind_some, cutO_bool, bif_bool, cutO_inl, cutO_inr, eF_call, eF_lp, Nat.zero_add, Nat.reduceAdd, Bool.cond_false_right, Bool.cond_true_left, Bool.cond_false_left, Bool.cond_true_right, Bool.not_true, Bool.not_false, Bool.not_not, eq_self, decide_true, decide_false, cond_true, cond_false, Int.reduceEq, Int.reduceLT, Int.reduceLE, Int.reduceSub, Int.reduceAdd, Bool.true_and, Bool.and_true, Bool.false_and, Bool.and_false, Bool.or_false, Bool.false_or, Bool.true_or, Bool.or_true, true_and, and_true, c20 (code := code) (at_ := ((code.length - 1 - k : Nat) : Int)) (by omega)]
    generalize hi' : code.length - 1 - k = i
    have hin : i < code.length := by omega
    have hbd : ∀ j ∈ leads code i, (i : Int) < j ∧ j < code.length := fun j hj => leads_bd hj
    have hsh := leads_short (code := code) i
    have hz := bL_zero (code := code) k i (by omega)
    generalize hls : leads code i = ls at hbd hsh
    have hlen : ∀ m : Int, ((bL code k).set i m).length = code.length := fun m => by rw [List.length_set, bL_len]
    refine Eq.trans (congrArg _ ?_) ((loop_list ls (fun j (m : Int) => [.int .i64 (i : Int), .sl 1 (irows ls), .int .i64 (ls.length : Int), .int .i64 (j : Int), .sl 4 (crows code), .sl 1 (irows ((bL code k).set i m)), .int .i64 (code.length : Int), .sl 4 (crows code), .int .i64 0, .sl 4 (crows code), .int .i64 (code.length : Int), .bool false, .sl 4 (crows code), .int .i64 (code.length : Int), .sl 4 (crows code), .int .i64 (code.length : Int)]) (fun _ m => 0 ≤ m ∧ m ≤ k)
      (fun j m => .inl (max m ((bL code k).getD j.toNat 0))) (fun m => .inl [.int .i64 (code.length : Int), .int .i64 ((k + 1 : Nat) : Int), .sl 4 (crows code), .sl 1 (irows ((bL code k).set i (m + 1))), .int .i64 (code.length : Int), .sl 4 (crows code), .int .i64 0, .sl 4 (crows code), .int .i64 (code.length : Int), .bool false, .sl 4 (crows code), .int .i64 (code.length : Int), .sl 4 (crows code), .int .i64 (code.length : Int)]) (fun j m x hx hm => ?_) (fun m hm => ?_) 0 ⟨by omega, by omega⟩).trans ?_)
    · rw [set_same hz]
      simp only [irows_len]
      rfl
    · have hjl := (List.getElem?_eq_some_iff.1 hx).1
      have hxb := hbd x (List.mem_of_getElem? hx)
      have hxn : x.toNat < ((bL code k).set i m).length := by rw [hlen]; omega
      have hxn0 : x.toNat < (bL code k).length := by rw [bL_len]; omega
      have hin0 : i < ((bL code k).set i m).length := by rw [hlen]; omega
      have hx0 := bL_bd (code := code) k ((bL code k).getD x.toNat 0) (by rw [List.getD_eq_getElem?_getD, List.getElem?_eq_getElem hxn0]; exact List.getElem_mem hxn0)
      refine ⟨?_, fun s' hs' => by cases hs'; omega⟩
      simp only [sy_wrap, sy_add, sy_sub, sy_mul, sy_ieq, sy_ilt, sy_ile, sy_seq, sy_beq, sy_bor, sy_bnot, sy_imax, sy_imin, sy_rlen, sy_slen, sy_sapp, sy_inr, sy_nat, sy_cell0, sy_cellS, sy_skip0, sy_inrn, sy_rapp, sy_fits, sy_cutok, sy_cut, sy_scut, sy_sbyte, sy_mkok, sy_mkok0, sy_mkz, sy_rep, sy_head, sy_deq, eqDs_int, eqDs_nil, opI_int, opB_bool, opS_str, opL_sl, opM_own, leaves_val, leaves_own, Option.bind_some, cutO_bool, bif_bool, cutO_inl, cutO_inr, eF_call, eF_lp, Nat.zero_add, Nat.reduceAdd, Bool.cond_false_right, Bool.cond_true_left, Bool.cond_false_left, Bool.cond_true_right, Bool.not_true, Bool.not_false, Bool.not_not, eq_self, decide_true, decide_false, cond_true, cond_false, Int.reduceEq, Int.reduceLT, Int.reduceLE, Int.reduceSub, Int.reduceAdd, Bool.true_and, Bool.and_true, Bool.false_and, Bool.and_false, Bool.or_false, Bool.false_or, Bool.true_or, Bool.or_true, true_and, and_true, irows_len, ilt_at hjl, inr_at hjl, irows_at hx, hlen, decide_eq_true (show 0 ≤ x ∧ x < (code.length : Int) by omega), inr_at hin, decide_eq_true hin, Int.toNat_natCast, irows_n hxn, irows_n hin0, set_getD (l := bL code k) (i := i) (by rw [bL_len]; exact hin), set_getD_ne (l := bL code k) (i := i) (j := x.toNat) (by omega), wrap_succ hjl (by omega)]
      rw [irows_put ((bL code k).set i m) i _ hin0, List.set_set]
      rfl
    · have hin0 : i < ((bL code k).set i m).length := by rw [hlen]; omega
      simp only [sy_wrap, sy_add, sy_sub, sy_mul, sy_ieq, sy_ilt, sy_ile, sy_seq, sy_beq, sy_bor, sy_bnot, sy_imax, sy_imin, sy_rlen, sy_slen, sy_sapp, sy_inr, sy_nat, sy_cell0, sy_cellS, sy_skip0, sy_inrn, sy_rapp, sy_fits, sy_cutok, sy_cut, sy_scut, sy_sbyte, sy_mkok, sy_mkok0, sy_mkz, sy_rep, sy_head, sy_deq, eqDs_int, eqDs_nil, opI_int, opB_bool, opS_str, opL_sl, opM_own, leaves_val, leaves_own, Option.bind_some, cutO_bool, bif_bool, cutO_inl, cutO_inr, eF_call, eF_lp, Nat.zero_add, Nat.reduceAdd, Bool.cond_false_right, Bool.cond_true_left, Bool.cond_false_left, Bool.cond_true_right, Bool.not_true, Bool.not_false, Bool.not_not, eq_self, decide_true, decide_false, cond_true, cond_false, Int.reduceEq, Int.reduceLT, Int.reduceLE, Int.reduceSub, Int.reduceAdd, Bool.true_and, Bool.and_true, Bool.false_and, Bool.and_false, Bool.or_false, Bool.false_or, Bool.true_or, Bool.or_true, true_and, and_true, irows_len, ilt_self, hlen, inr_at hin, decide_eq_true hin, Int.toNat_natCast, irows_n hin0, set_getD (l := bL code k) (i := i) (by rw [bL_len]; exact hin), wrap_id (n := m + 1) (by omega) (by omega), wrap_succ hlt (by omega)]
      rw [irows_put ((bL code k).set i m) i _ hin0, List.set_set]
      rfl
    · rw [foldE_inl (fun (j m : Int) => max m ((bL code k).getD j.toNat 0))]
      show some (Sum.inl [_, _, _, D.sl 1 (irows ((bL code k).set i (mxL (bL code k) ls 0 + 1))), _, _, _, _, _, _, _, _, _, _]) = some (Sum.inl [_, _, _, D.sl 1 (irows (bStep code (bL code k) (code.length - 1 - k))), _, _, _, _, _, _, _, _, _, _])
      rw [hi', bStep, hls]
  · right
    have : k = code.length := by omega
    subst this
    simp only [sy_wrap, sy_add, sy_sub, sy_mul, sy_ieq, sy_ilt, sy_ile, sy_seq, sy_beq, sy_bor, sy_bnot, sy_imax, sy_imin, sy_rlen, sy_slen, sy_sapp, sy_inr, sy_nat, sy_cell0, sy_cellS, sy_skip0, sy_inrn, sy_rapp, sy_fits, sy_cutok, sy_cut, sy_scut, sy_sbyte, sy_mkok, sy_mkok0, sy_mkz, sy_rep, sy_head, sy_deq, eqDs_int, eqDs_nil, opI_int, opB_bool, opS_str, opL_sl, opM_own, leaves_val, leaves_own, Option.bind_some, cutO_bool, bif_bool, cutO_inl, cutO_inr, eF_call, eF_lp, Nat.zero_add, Nat.reduceAdd, Bool.cond_false_right, Bool.cond_true_left, Bool.cond_false_left, Bool.cond_true_right, Bool.not_true, Bool.not_false, Bool.not_not, eq_self, decide_true, decide_false, cond_true, cond_false, Int.reduceEq, Int.reduceLT, Int.reduceLE, Int.reduceSub, Int.reduceAdd, Bool.true_and, Bool.and_true, Bool.false_and, Bool.and_false, Bool.or_false, Bool.false_or, Bool.true_or, Bool.or_true, true_and, and_true, ilt_self, irows_len, bL_len]
    rw [decide_eq_true (by omega)]
    simp only [cond_true]
    rw [show (0 : Int).toNat = 0 from rfl, irows_n (by rw [bL_len]; omega)]
    rfl
end Go.Vm
end

section
set_option linter.all false
set_option maxRecDepth 100000
namespace Go.Vm
open Go.Proofs
variable {code : List Ins}
def code16 : List Ins := [⟨1, 2, 0, 0⟩, ⟨7, 3, 0, 0⟩, ⟨6, 3, 0, 0⟩, ⟨10, 0, 0, 0⟩]
theorem c16 : cF 16 [] = some (.val [.bool true]) := by
  have h := c17 (code := code16) (by decide)
  rw [show bound code16 = 4 from by decide] at h
  refine cOf (by kernel_rfl) rfl ?_
  rw [g16_eq]
  simp only [g16, sy_wrap, sy_add, sy_sub, sy_mul, sy_ieq, sy_ilt, sy_ile, sy_seq, sy_beq, sy_bor, sy_bnot, sy_imax, sy_imin, sy_rlen, sy_slen, sy_sapp, sy_inr, sy_nat, sy_cell0, sy_cellS, sy_skip0, sy_inrn, sy_rapp, sy_fits, sy_cutok, sy_cut, sy_scut, sy_sbyte, sy_mkok, sy_mkok0, sy_mkz, sy_rep, sy_head, sy_deq, eqDs_int, eqDs_nil, opI_int, opB_bool, opS_str, opL_sl, opM_own, leaves_val, leaves_own, Option.bind_some, cutO_bool, bif_bool, cutO_inl, cutO_inr, eF_call, eF_lp, Nat.zero_add, Nat.reduceAdd, Bool.cond_false_right, Bool.cond_true_left, Bool.cond_false_left, Bool.cond_true_right, Bool.not_true, Bool.not_false, Bool.not_not, eq_self, decide_true, decide_false, cond_true, cond_false, Int.reduceEq, Int.reduceLT, Int.reduceLE, Int.reduceSub, Int.reduceAdd, Bool.true_and, Bool.and_true, Bool.false_and, Bool.and_false, Bool.or_false, Bool.false_or, Bool.true_or, Bool.or_true, true_and, and_true]
  show ((cF 17 [.d (.sl 4 (crows code16))]).bind _) = _
  rw [h]
  rfl
theorem c19 (l : List Int) (hl : l.length ≤ 1000) : cF 19 [.d (.sl 1 (irows l)), .d (.sl 1 (irows l))] = some (.val [.bool true]) := by
  refine cOf (by kernel_rfl) rfl ?_
  rw [g19_eq]
  simp only [g19, sy_wrap, sy_add, sy_sub, sy_mul, sy_ieq, sy_ilt, sy_ile, sy_seq, sy_beq, sy_bor, sy_bnot, sy_imax, sy_imin, sy_rlen, sy_slen, sy_sapp, sy_inr, sy_nat, sy_cell0, sy_cellS, sy_skip0, sy_inrn, sy_rapp, sy_fits, sy_cutok, sy_cut, sy_scut, sy_sbyte, sy_mkok, sy_mkok0, sy_mkz, sy_rep, sy_head, sy_deq, eqDs_int, eqDs_nil, opI_int, opB_bool, opS_str, opL_sl, opM_own, leaves_val, leaves_own, Option.bind_some, cutO_bool, bif_bool, cutO_inl, cutO_inr, eF_call, eF_lp, Nat.zero_add, Nat.reduceAdd, Bool.cond_false_right, Bool.cond_true_left, Bool.cond_false_left, Bool.cond_true_right, Bool.not_true, Bool.not_false, Bool.not_not, eq_self, decide_true, decide_false, cond_true, cond_false, Int.reduceEq, Int.reduceLT, Int.reduceLE, Int.reduceSub, Int.reduceAdd, Bool.true_and, Bool.and_true, Bool.false_and, Bool.and_false, Bool.or_false, Bool.false_or, Bool.true_or, Bool.or_true, true_and, and_true, irows_len]
  refine loopF_at (fun i : Nat => [.sl 1 (irows l), .sl 1 (irows l), .int .i64 (i : Int)]) (fun i => i ≤ l.length) (fun i => l.length - i) (fun i hi => ?_) 0 (Nat.zero_le _)
  by_cases hlt : i < l.length
  · left
    refine ⟨i + 1, ?_, by omega, by omega⟩
    simp only [sy_wrap, sy_add, sy_sub, sy_mul, sy_ieq, sy_ilt, sy_ile, sy_seq, sy_beq, sy_bor, sy_bnot, sy_imax, sy_imin, sy_rlen, sy_slen, sy_sapp, sy_inr, sy_nat, sy_cell0, sy_cellS, sy_skip0, sy_inrn, sy_rapp, sy_fits, sy_cutok, sy_cut, sy_scut, sy_sbyte, sy_mkok, sy_mkok0, sy_mkz, sy_rep, sy_head, sy_deq, eqDs_int, eqDs_nil, opI_int, opB_bool, opS_str, opL_sl, opM_own, leaves_val, leaves_own, Option.bind_some, cutO_bool, bif_bool, cutO_inl, cutO_inr, eF_call, eF_lp, Nat.zero_add, Nat.reduceAdd, Bool.cond_false_right, Bool.cond_true_left, Bool.cond_false_left, Bool.cond_true_right, Bool.not_true, Bool.not_false, Bool.not_not, eq_self, decide_true, decide_false, cond_true, cond_false, Int.reduceEq, Int.reduceLT, Int.reduceLE, Int.reduceSub, Int.reduceAdd, Bool.true_and, Bool.and_true, Bool.false_and, Bool.and_false, Bool.or_false, Bool.false_or, Bool.true_or, Bool.or_true, true_and, and_true, irows_len, ilt_at hlt, inr_at hlt, irows_at (List.getElem?_eq_getElem hlt), wrap_succ hlt (by omega)]
    rfl
  · right
    have : i = l.length := by omega
    subst this
    simp only [sy_wrap, sy_add, sy_sub, sy_mul, sy_ieq, sy_ilt, sy_ile, sy_seq, sy_beq, sy_bor, sy_bnot, sy_imax, sy_imin, sy_rlen, sy_slen, sy_sapp, sy_inr, sy_nat, sy_cell0, sy_cellS, sy_skip0, sy_inrn, sy_rapp, sy_fits, sy_cutok, sy_cut, sy_scut, sy_sbyte, sy_mkok, sy_mkok0, sy_mkz, sy_rep, sy_head, sy_deq, eqDs_int, eqDs_nil, opI_int, opB_bool, opS_str, opL_sl, opM_own, leaves_val, leaves_own, Option.bind_some, cutO_bool, bif_bool, cutO_inl, cutO_inr, eF_call, eF_lp, Nat.zero_add, Nat.reduceAdd, Bool.cond_false_right, Bool.cond_true_left, Bool.cond_false_left, Bool.cond_true_right, Bool.not_true, Bool.not_false, Bool.not_not, eq_self, decide_true, decide_false, cond_true, cond_false, Int.reduceEq, Int.reduceLT, Int.reduceLE, Int.reduceSub, Int.reduceAdd, Bool.true_and, Bool.and_true, Bool.false_and, Bool.and_false, Bool.or_false, Bool.false_or, Bool.true_or, Bool.or_true, true_and, and_true, irows_len, ilt_self]
theorem c6 (code : List Ins) (at_ : Int) : cF 6 [.d (.sl 4 (crows code)), .d (.int .i64 at_)] = some (.val [.bool true]) := by
  refine cOf (by kernel_rfl) rfl ?_
  rw [g6_eq]
  simp only [g6, sy_wrap, sy_add, sy_sub, sy_mul, sy_ieq, sy_ilt, sy_ile, sy_seq, sy_beq, sy_bor, sy_bnot, sy_imax, sy_imin, sy_rlen, sy_slen, sy_sapp, sy_inr, sy_nat, sy_cell0, sy_cellS, sy_skip0, sy_inrn, sy_rapp, sy_fits, sy_cutok, sy_cut, sy_scut, sy_sbyte, sy_mkok, sy_mkok0, sy_mkz, sy_rep, sy_head, sy_deq, eqDs_int, eqDs_nil, opI_int, opB_bool, opS_str, opL_sl, opM_own, leaves_val, leaves_own, Option.bind_some, cutO_bool, bif_bool, cutO_inl, cutO_inr, eF_call, eF_lp, Nat.zero_add, Nat.reduceAdd, Bool.cond_false_right, Bool.cond_true_left, Bool.cond_false_left, Bool.cond_true_right, Bool.not_true, Bool.not_false, Bool.not_not, eq_self, decide_true, decide_false, cond_true, cond_false, Int.reduceEq, Int.reduceLT, Int.reduceLE, Int.reduceSub, Int.reduceAdd, Bool.true_and, Bool.and_true, Bool.false_and, Bool.and_false, Bool.or_false, Bool.false_or, Bool.true_or, Bool.or_true, true_and, and_true, crows_len, c16]
  by_cases h : code.length ≤ 1000
  · rw [decide_eq_false (by omega)]
    have hs : (leads code at_).length ≤ 1000 := by
      unfold leads leadsB
      simp only
      cases decide (0 ≤ at_ ∧ at_ < (code.length : Int)) <;> simp only [cond_true, cond_false, List.length_nil, Nat.zero_le]
      cases decide ((code.getD at_.toNat default).op = 10) <;> simp only [cond_true, cond_false, List.length_nil, Nat.zero_le, List.length_append]
      have a : ∀ (b : Bool) (x : Int), (bif b then [x] else []).length ≤ 1 := fun b x => by cases b <;> simp
      have q := a (!decide ((code.getD at_.toNat default).op = 6) && decide (at_ + 1 < code.length)) (at_ + 1)
      exact Nat.le_trans (Nat.add_le_add q (a _ _)) (by decide)
    simp only [sy_wrap, sy_add, sy_sub, sy_mul, sy_ieq, sy_ilt, sy_ile, sy_seq, sy_beq, sy_bor, sy_bnot, sy_imax, sy_imin, sy_rlen, sy_slen, sy_sapp, sy_inr, sy_nat, sy_cell0, sy_cellS, sy_skip0, sy_inrn, sy_rapp, sy_fits, sy_cutok, sy_cut, sy_scut, sy_sbyte, sy_mkok, sy_mkok0, sy_mkz, sy_rep, sy_head, sy_deq, eqDs_int, eqDs_nil, opI_int, opB_bool, opS_str, opL_sl, opM_own, leaves_val, leaves_own, Option.bind_some, cutO_bool, bif_bool, cutO_inl, cutO_inr, eF_call, eF_lp, Nat.zero_add, Nat.reduceAdd, Bool.cond_false_right, Bool.cond_true_left, Bool.cond_false_left, Bool.cond_true_right, Bool.not_true, Bool.not_false, Bool.not_not, eq_self, decide_true, decide_false, cond_true, cond_false, Int.reduceEq, Int.reduceLT, Int.reduceLE, Int.reduceSub, Int.reduceAdd, Bool.true_and, Bool.and_true, Bool.false_and, Bool.and_false, Bool.or_false, Bool.false_or, Bool.true_or, Bool.or_true, true_and, and_true, c17 h, c18 h, c20 (code := code) (at_ := at_) (by omega), c21 (code := code) (at_ := at_) (by omega), c19 _ hs, c16]
  · rw [decide_eq_true (by omega)]
    simp only [sy_wrap, sy_add, sy_sub, sy_mul, sy_ieq, sy_ilt, sy_ile, sy_seq, sy_beq, sy_bor, sy_bnot, sy_imax, sy_imin, sy_rlen, sy_slen, sy_sapp, sy_inr, sy_nat, sy_cell0, sy_cellS, sy_skip0, sy_inrn, sy_rapp, sy_fits, sy_cutok, sy_cut, sy_scut, sy_sbyte, sy_mkok, sy_mkok0, sy_mkz, sy_rep, sy_head, sy_deq, eqDs_int, eqDs_nil, opI_int, opB_bool, opS_str, opL_sl, opM_own, leaves_val, leaves_own, Option.bind_some, cutO_bool, bif_bool, cutO_inl, cutO_inr, eF_call, eF_lp, Nat.zero_add, Nat.reduceAdd, Bool.cond_false_right, Bool.cond_true_left, Bool.cond_false_left, Bool.cond_true_right, Bool.not_true, Bool.not_false, Bool.not_not, eq_self, decide_true, decide_false, cond_true, cond_false, Int.reduceEq, Int.reduceLT, Int.reduceLE, Int.reduceSub, Int.reduceAdd, Bool.true_and, Bool.and_true, Bool.false_and, Bool.and_false, Bool.or_false, Bool.false_or, Bool.true_or, Bool.or_true, true_and, and_true, c16]
end Go.Vm
end

section
set_option linter.all false
set_option maxRecDepth 100000
namespace Go.Vm
open Go.Proofs
/-- As many as up to the first that halts. -/
def strt : List Ins → Int
  | [] => 0
  | x :: l => if x.op = 10 then 1 else 1 + strt l
theorem strt_cons (x : Ins) (l : List Ins) : strt (x :: l) = if x.op = 10 then 1 else 1 + strt l := rfl
theorem strt_bd : ∀ l, 0 ≤ strt l ∧ strt l ≤ l.length
  | [] => by simp [strt]
  | x :: l => by
    have := strt_bd l
    unfold strt
    split <;> simp <;> omega
variable {code : List Ins}
/-- A place's bound, at last. -/
def bAt (code : List Ins) (i : Nat) : Int := (bL code code.length).getD i 0
theorem bL_keep {i k : Nat} (h : code.length ≤ i + k) (hk : k < code.length) : (bL code (k + 1)).getD i 0 = (bL code k).getD i 0 := by
  show (bStep code (bL code k) (code.length - 1 - k)).getD i 0 = _
  unfold bStep
  rw [set_getD_ne (by omega)]
theorem bL_last {i : Nat} : ∀ (d k : Nat), k + d = code.length → code.length ≤ i + k → (bL code code.length).getD i 0 = (bL code k).getD i 0
  | 0, k, h, _ => by rw [show k = code.length by omega]
  | d + 1, k, h, hi => by rw [bL_last d (k + 1) (by omega) (by omega), bL_keep hi (by omega)]
theorem mxL_congr {l l' : List Int} : ∀ (ls : List Int) (m : Int), (∀ j ∈ ls, l.getD j.toNat 0 = l'.getD j.toNat 0) → mxL l ls m = mxL l' ls m
  | [], m, _ => rfl
  | j :: ls, m, h => by
    show mxL l ls (max m (l.getD j.toNat 0)) = mxL l' ls (max m (l'.getD j.toNat 0))
    rw [h j List.mem_cons_self]
    exact mxL_congr ls _ fun q hq => h q (List.mem_cons_of_mem _ hq)
theorem bAt_eq {i : Nat} (hi : i < code.length) : bAt code i = mxL (bL code code.length) (leads code i) 0 + 1 := by
  unfold bAt
  rw [bL_last (i := i) i (code.length - i) (by omega) (by omega)]
  obtain ⟨k, hk⟩ : ∃ k, code.length - i = k + 1 := ⟨code.length - i - 1, by omega⟩
  rw [hk]
  show (bStep code (bL code k) (code.length - 1 - k)).getD i 0 = _
  rw [show code.length - 1 - k = i by omega]
  unfold bStep
  rw [set_getD (by rw [bL_len]; exact hi)]
  congr 1
  refine mxL_congr _ _ fun j hj => ?_
  have := leads_bd hj
  rw [bL_last (i := j.toNat) (code.length - k) k (by omega) (by omega)]
theorem bAt_nonneg (i : Nat) : 0 ≤ bAt code i := by
  unfold bAt
  rw [List.getD_eq_getElem?_getD]
  cases h : (bL code code.length)[i]? with
  | none => simp
  | some x => exact (bL_bd code.length x (List.mem_of_getElem? h)).1
theorem leads_at {i : Nat} (hi : i < code.length) : leads code i = leadsB (decide ((code.getD i default).op = 10)) (decide ((code.getD i default).op = 6)) (decide ((code.getD i default).op = 7)) (decide ((i : Int) + 1 < code.length)) (decide ((i : Int) < (code.getD i default).a)) (decide ((code.getD i default).a < (code.length : Int))) (decide ((i : Int) + 1 = (code.getD i default).a)) i (code.getD i default).a := by
  unfold leads
  simp only [Int.toNat_natCast]
  rw [decide_eq_true (show (0 : Int) ≤ i ∧ (i : Int) < code.length by omega)]
  rfl
theorem bAt_straight (m : Nat) (hno : ∀ i, m ≤ i → i < code.length → (code.getD i default).op ≠ 6 ∧ (code.getD i default).op ≠ 7) : ∀ (d i : Nat), i + d = code.length → m ≤ i → bAt code i = strt (code.drop i)
  | 0, i, h, _ => by
    rw [List.drop_eq_nil_of_le (by omega)]
    unfold bAt
    rw [List.getD_eq_getElem?_getD, List.getElem?_eq_none (by rw [bL_len]; omega)]; rfl
  | d + 1, i, h, hm => by
    have hi : i < code.length := by omega
    have ih := bAt_straight m hno d (i + 1) (by omega) (by omega)
    rw [bAt_eq hi, leads_at hi, List.drop_eq_getElem_cons hi]
    have hx : code.getD i default = code[i] := by rw [List.getD_eq_getElem?_getD, List.getElem?_eq_getElem hi]; rfl
    obtain ⟨n6, n7⟩ := hno i hm hi
    rw [hx] at n6 n7 ⊢
    unfold strt leadsB
    by_cases h10 : code[i].op = 10
    · simp [h10, mxL]
    · rw [if_neg h10]
      simp only [h10, n6, n7, decide_false, cond_false, Bool.not_false, Bool.true_and, Bool.or_self, Bool.false_and, List.append_nil]
      by_cases hl : (i : Int) + 1 < code.length
      · rw [decide_eq_true hl]
        simp only [cond_true]
        have hb := bAt_nonneg (code := code) (i + 1)
        show max 0 ((bL code code.length).getD ((i : Int) + 1).toNat 0) + 1 = _
        rw [show ((i : Int) + 1).toNat = i + 1 by omega, show (bL code code.length).getD (i + 1) 0 = bAt code (i + 1) from rfl, ← ih]
        omega
      · rw [decide_eq_false hl, List.drop_eq_nil_of_le (by omega)]
        rfl
theorem bound_straight (hno : ∀ i, i < code.length → (code.getD i default).op ≠ 6 ∧ (code.getD i default).op ≠ 7) : bound code = strt code := by
  have := bAt_straight (code := code) 0 (fun i _ h => hno i h) code.length 0 (by omega) (by omega)
  rw [List.drop_zero] at this
  exact this
theorem bound_jump {skip : Nat} (hs : skip < code.length) (hno : ∀ i, i < code.length → (code.getD i default).op ≠ 6 ∧ (code.getD i default).op ≠ 7) {b n : Int} : bound (⟨6, (skip : Int) + 1, b, n⟩ :: code) = 1 + strt (code.drop skip) := by
  generalize hc : (⟨6, (skip : Int) + 1, b, n⟩ :: code : List Ins) = c2
  have hl : c2.length = code.length + 1 := by rw [← hc]; rfl
  have h0 : c2.getD 0 default = ⟨6, (skip : Int) + 1, b, n⟩ := by rw [← hc]; rfl
  have hS : ∀ i, c2.getD (i + 1) default = code.getD i default := fun i => by rw [← hc]; rfl
  have hk := bAt_straight (code := c2) 1 (fun i h1 h2 => by
    obtain ⟨j, rfl⟩ : ∃ j, i = j + 1 := ⟨i - 1, by omega⟩
    rw [hS]; exact hno j (by omega)) (code.length - skip) (skip + 1) (by omega) (by omega)
  have hd : c2.drop (skip + 1) = code.drop skip := by rw [← hc]; rfl
  have hb := bAt_nonneg (code := c2) (skip + 1)
  show bAt c2 0 = _
  rw [bAt_eq (by omega)]
  have e := leads_at (code := c2) (i := 0) (by omega)
  rw [h0] at e
  have e2 : leads c2 ((0 : Nat) : Int) = [(skip : Int) + 1] := by
    rw [e]
    unfold leadsB
    simp only [hl]
    rw [decide_eq_true (show ((0 : Nat) : Int) < (skip : Int) + 1 by omega), decide_eq_true (show (skip : Int) + 1 < ((code.length + 1 : Nat) : Int) by omega)]
    rfl
  rw [e2]
  show max 0 ((bL c2 c2.length).getD ((skip : Int) + 1).toNat 0) + 1 = _
  rw [show ((skip : Int) + 1).toNat = skip + 1 by omega, show (bL c2 c2.length).getD (skip + 1) 0 = bAt c2 (skip + 1) from rfl, ← hd, ← hk]
  omega
theorem c24 (hl : code.length ≤ 1000) : cF 24 [.d (.sl 4 (crows code))] = some (.val [.int .i64 (strt code)]) := by
  refine cOf (by kernel_rfl) rfl ?_
  rw [g24_eq]
  simp only [g24, sy_wrap, sy_add, sy_sub, sy_mul, sy_ieq, sy_ilt, sy_ile, sy_seq, sy_beq, sy_bor, sy_bnot, sy_imax, sy_imin, sy_rlen, sy_slen, sy_sapp, sy_inr, sy_nat, sy_cell0, sy_cellS, sy_skip0, sy_inrn, sy_rapp, sy_fits, sy_cutok, sy_cut, sy_scut, sy_sbyte, sy_mkok, sy_mkok0, sy_mkz, sy_rep, sy_head, sy_deq, eqDs_int, eqDs_nil, opI_int, opB_bool, opS_str, opL_sl, opM_own, leaves_val, leaves_own, Option.bind_some, cutO_bool, bif_bool, cutO_inl, cutO_inr, eF_call, eF_lp, Nat.zero_add, Nat.reduceAdd, Bool.cond_false_right, Bool.cond_true_left, Bool.cond_false_left, Bool.cond_true_right, Bool.not_true, Bool.not_false, Bool.not_not, eq_self, decide_true, decide_false, cond_true, cond_false, Int.reduceEq, Int.reduceLT, Int.reduceLE, Int.reduceSub, Int.reduceAdd, Bool.true_and, Bool.and_true, Bool.false_and, Bool.and_false, Bool.or_false, Bool.false_or, Bool.true_or, Bool.or_true, true_and, and_true]
  refine loopF_at (fun i : Nat => [.sl 4 (crows code), .int .i64 (i : Int)]) (fun i => i ≤ code.length ∧ (i : Int) + strt (code.drop i) = strt code) (fun i => code.length - i) (fun i hi => ?_) 0 ⟨Nat.zero_le _, by simp⟩
  by_cases hlt : i < code.length
  · have hx : sy.row (crows code) (i : Int) = (code[i]).row := by
      rw [sy_row, Int.toNat_natCast, crows_get _ _ hlt, List.getD_eq_getElem?_getD, List.getElem?_eq_getElem hlt]; rfl
    have hdr := List.drop_eq_getElem_cons hlt
    rw [hdr, strt_cons] at hi
    simp only [sy_wrap, sy_add, sy_sub, sy_mul, sy_ieq, sy_ilt, sy_ile, sy_seq, sy_beq, sy_bor, sy_bnot, sy_imax, sy_imin, sy_rlen, sy_slen, sy_sapp, sy_inr, sy_nat, sy_cell0, sy_cellS, sy_skip0, sy_inrn, sy_rapp, sy_fits, sy_cutok, sy_cut, sy_scut, sy_sbyte, sy_mkok, sy_mkok0, sy_mkz, sy_rep, sy_head, sy_deq, eqDs_int, eqDs_nil, opI_int, opB_bool, opS_str, opL_sl, opM_own, leaves_val, leaves_own, Option.bind_some, cutO_bool, bif_bool, cutO_inl, cutO_inr, eF_call, eF_lp, Nat.zero_add, Nat.reduceAdd, Bool.cond_false_right, Bool.cond_true_left, Bool.cond_false_left, Bool.cond_true_right, Bool.not_true, Bool.not_false, Bool.not_not, eq_self, decide_true, decide_false, cond_true, cond_false, Int.reduceEq, Int.reduceLT, Int.reduceLE, Int.reduceSub, Int.reduceAdd, Bool.true_and, Bool.and_true, Bool.false_and, Bool.and_false, Bool.or_false, Bool.false_or, Bool.true_or, Bool.or_true, true_and, and_true, crows_len, ilt_at hlt, inr_at hlt, hx, Ins.row, wrap_succ hlt (by omega)]
    by_cases h10 : code[i].op = 10
    · right
      rw [if_pos h10] at hi
      rw [decide_eq_true h10, ← hi.2]; rfl
    · left
      rw [if_neg h10] at hi
      refine ⟨i + 1, ?_, ⟨by omega, by push_cast; omega⟩, by omega⟩
      rw [decide_eq_false h10]; rfl
  · right
    have : i = code.length := by omega
    subst this
    simp only [sy_wrap, sy_add, sy_sub, sy_mul, sy_ieq, sy_ilt, sy_ile, sy_seq, sy_beq, sy_bor, sy_bnot, sy_imax, sy_imin, sy_rlen, sy_slen, sy_sapp, sy_inr, sy_nat, sy_cell0, sy_cellS, sy_skip0, sy_inrn, sy_rapp, sy_fits, sy_cutok, sy_cut, sy_scut, sy_sbyte, sy_mkok, sy_mkok0, sy_mkz, sy_rep, sy_head, sy_deq, eqDs_int, eqDs_nil, opI_int, opB_bool, opS_str, opL_sl, opM_own, leaves_val, leaves_own, Option.bind_some, cutO_bool, bif_bool, cutO_inl, cutO_inr, eF_call, eF_lp, Nat.zero_add, Nat.reduceAdd, Bool.cond_false_right, Bool.cond_true_left, Bool.cond_false_left, Bool.cond_true_right, Bool.not_true, Bool.not_false, Bool.not_not, eq_self, decide_true, decide_false, cond_true, cond_false, Int.reduceEq, Int.reduceLT, Int.reduceLE, Int.reduceSub, Int.reduceAdd, Bool.true_and, Bool.and_true, Bool.false_and, Bool.and_false, Bool.or_false, Bool.false_or, Bool.true_or, Bool.or_true, true_and, and_true, crows_len, ilt_self]
    rw [List.drop_eq_nil_of_le (Nat.le_refl _)] at hi
    rw [← hi.2]; simp [strt]
end Go.Vm
end

section
set_option linter.all false
set_option maxRecDepth 100000
namespace Go.Vm
open Go.Proofs
theorem bound_nil : bound [] = 0 := rfl
theorem crows_drop (l : List Ins) (n : Nat) : (crows l).drop n = crows (l.drop n) := by simp [crows]
theorem crows_take_all (l : List Ins) (n : Nat) (h : n = l.length) : (crows l).take n = crows l := by rw [List.take_of_length_le]; rw [crows_len]; omega
/-- Is there a jump? -/
def jumpI (x : Ins) : Bool := decide (x.op = 6) || decide (x.op = 7)
theorem c8 (code : List Ins) (skip : Int) : cF 8 [.d (.sl 4 (crows code)), .d (.int .i64 skip)] = some (.val [.bool true]) := by
  refine cOf (by kernel_rfl) rfl ?_
  rw [g8_eq]
  simp only [g8, sy_wrap, sy_add, sy_sub, sy_mul, sy_ieq, sy_ilt, sy_ile, sy_seq, sy_beq, sy_bor, sy_bnot, sy_imax, sy_imin, sy_rlen, sy_slen, sy_sapp, sy_inr, sy_nat, sy_cell0, sy_cellS, sy_skip0, sy_inrn, sy_rapp, sy_fits, sy_cutok, sy_cut, sy_scut, sy_sbyte, sy_mkok, sy_mkok0, sy_mkz, sy_rep, sy_head, sy_deq, eqDs_int, eqDs_nil, opI_int, opB_bool, opS_str, opL_sl, opM_own, leaves_val, leaves_own, Option.bind_some, cutO_bool, bif_bool, cutO_inl, cutO_inr, eF_call, eF_lp, Nat.zero_add, Nat.reduceAdd, Bool.cond_false_right, Bool.cond_true_left, Bool.cond_false_left, Bool.cond_true_right, Bool.not_true, Bool.not_false, Bool.not_not, eq_self, decide_true, decide_false, cond_true, cond_false, Int.reduceEq, Int.reduceLT, Int.reduceLE, Int.reduceSub, Int.reduceAdd, Bool.true_and, Bool.and_true, Bool.false_and, Bool.and_false, Bool.or_false, Bool.false_or, Bool.true_or, Bool.or_true, true_and, and_true, crows_len, c16]
  by_cases h1 : code.length ≤ 300 ∧ 0 ≤ skip ∧ skip < code.length
  · obtain ⟨h1, h2, h3⟩ := h1
    rw [decide_eq_false (show ¬ 300 < (code.length : Int) by omega), decide_eq_false (show ¬ skip < 0 by omega), decide_eq_false (show ¬ (code.length : Int) ≤ skip by omega)]
    simp only [Bool.false_or, Bool.or_false, cond_false, sy_wrap, sy_add, sy_sub, sy_mul, sy_ieq, sy_ilt, sy_ile, sy_seq, sy_beq, sy_bor, sy_bnot, sy_imax, sy_imin, sy_rlen, sy_slen, sy_sapp, sy_inr, sy_nat, sy_cell0, sy_cellS, sy_skip0, sy_inrn, sy_rapp, sy_fits, sy_cutok, sy_cut, sy_scut, sy_sbyte, sy_mkok, sy_mkok0, sy_mkz, sy_rep, sy_head, sy_deq, eqDs_int, eqDs_nil, opI_int, opB_bool, opS_str, opL_sl, opM_own, leaves_val, leaves_own, Option.bind_some, cutO_bool, bif_bool, cutO_inl, cutO_inr, eF_call, eF_lp, Nat.zero_add, Nat.reduceAdd, Bool.cond_false_right, Bool.cond_true_left, Bool.cond_false_left, Bool.cond_true_right, Bool.not_true, Bool.not_false, Bool.not_not, eq_self, decide_true, decide_false, cond_true, cond_false, Int.reduceEq, Int.reduceLT, Int.reduceLE, Int.reduceSub, Int.reduceAdd, Bool.true_and, Bool.and_true, Bool.false_and, Bool.and_false, Bool.or_false, Bool.false_or, Bool.true_or, Bool.or_true, true_and, and_true]
    obtain ⟨k, rfl⟩ : ∃ k : Nat, skip = k := ⟨skip.toNat, by omega⟩
    refine loopF_at (fun i : Nat => [.sl 4 (crows code), .int .i64 (k : Int), .int .i64 (i : Int)]) (fun i => i ≤ code.length ∧ ∀ j, j < i → (code.getD j default).op ≠ 6 ∧ (code.getD j default).op ≠ 7) (fun i => code.length - i) (fun i hi => ?_) 0 ⟨Nat.zero_le _, fun j hj => by omega⟩
    by_cases hlt : i < code.length
    · have hx : sy.row (crows code) (i : Int) = (code.getD i default).row := by rw [sy_row, Int.toNat_natCast, crows_get _ _ hlt]
      simp only [sy_wrap, sy_add, sy_sub, sy_mul, sy_ieq, sy_ilt, sy_ile, sy_seq, sy_beq, sy_bor, sy_bnot, sy_imax, sy_imin, sy_rlen, sy_slen, sy_sapp, sy_inr, sy_nat, sy_cell0, sy_cellS, sy_skip0, sy_inrn, sy_rapp, sy_fits, sy_cutok, sy_cut, sy_scut, sy_sbyte, sy_mkok, sy_mkok0, sy_mkz, sy_rep, sy_head, sy_deq, eqDs_int, eqDs_nil, opI_int, opB_bool, opS_str, opL_sl, opM_own, leaves_val, leaves_own, Option.bind_some, cutO_bool, bif_bool, cutO_inl, cutO_inr, eF_call, eF_lp, Nat.zero_add, Nat.reduceAdd, Bool.cond_false_right, Bool.cond_true_left, Bool.cond_false_left, Bool.cond_true_right, Bool.not_true, Bool.not_false, Bool.not_not, eq_self, decide_true, decide_false, cond_true, cond_false, Int.reduceEq, Int.reduceLT, Int.reduceLE, Int.reduceSub, Int.reduceAdd, Bool.true_and, Bool.and_true, Bool.false_and, Bool.and_false, Bool.or_false, Bool.false_or, Bool.true_or, Bool.or_true, true_and, and_true, crows_len, ilt_at hlt, inr_at hlt, hx, Ins.row, wrap_succ hlt (by omega)]
      by_cases h6 : (code.getD i default).op = 6
      · right; rw [decide_eq_true h6]; rfl
      · by_cases h7 : (code.getD i default).op = 7
        · right; rw [decide_eq_false h6, decide_eq_true h7]; rfl
        · left
          refine ⟨i + 1, ?_, ⟨by omega, fun j hj => ?_⟩, by omega⟩
          · rw [decide_eq_false h6, decide_eq_false h7]; rfl
          · by_cases hji : j = i
            · subst hji; exact ⟨h6, h7⟩
            · exact hi.2 j (by omega)
    · right
      have : i = code.length := by omega
      subst this
      have hno : ∀ j, j < code.length → (code.getD j default).op ≠ 6 ∧ (code.getD j default).op ≠ 7 := hi.2
      have hb := bound_straight hno
      have hj := bound_jump (skip := k) (by omega) hno (b := 0) (n := 0)
      have hsb := strt_bd (code.drop k)
      have hdl : (code.drop k).length ≤ code.length := by rw [List.length_drop]; omega
      have hr : [[D.int .i64 6, D.int .i64 ((k : Int) + 1), D.int .i64 0, D.int .i64 0]] ++ crows code = crows (⟨6, (k : Int) + 1, 0, 0⟩ :: code) := rfl
      have h17 := c17 (code := ⟨6, (k : Int) + 1, 0, 0⟩ :: code) (by simp; omega)
      simp only [sy_wrap, sy_add, sy_sub, sy_mul, sy_ieq, sy_ilt, sy_ile, sy_seq, sy_beq, sy_bor, sy_bnot, sy_imax, sy_imin, sy_rlen, sy_slen, sy_sapp, sy_inr, sy_nat, sy_cell0, sy_cellS, sy_skip0, sy_inrn, sy_rapp, sy_fits, sy_cutok, sy_cut, sy_scut, sy_sbyte, sy_mkok, sy_mkok0, sy_mkz, sy_rep, sy_head, sy_deq, eqDs_int, eqDs_nil, opI_int, opB_bool, opS_str, opL_sl, opM_own, leaves_val, leaves_own, Option.bind_some, cutO_bool, bif_bool, cutO_inl, cutO_inr, eF_call, eF_lp, Nat.zero_add, Nat.reduceAdd, Bool.cond_false_right, Bool.cond_true_left, Bool.cond_false_left, Bool.cond_true_right, Bool.not_true, Bool.not_false, Bool.not_not, eq_self, decide_true, decide_false, cond_true, cond_false, Int.reduceEq, Int.reduceLT, Int.reduceLE, Int.reduceSub, Int.reduceAdd, Bool.true_and, Bool.and_true, Bool.false_and, Bool.and_false, Bool.or_false, Bool.false_or, Bool.true_or, Bool.or_true, true_and, and_true, crows_len, ilt_self, wrap_id (n := (k : Int) + 1) (by omega) (by omega), hr, c17 (code := code) (by omega), c24 (code := code) (by omega), hb, h17, hj, Int.toNat_natCast, crows_take_all _ _ rfl, crows_drop]
      rw [c24 (code := code.drop k) (by omega)]
      simp only [sy_wrap, sy_add, sy_sub, sy_mul, sy_ieq, sy_ilt, sy_ile, sy_seq, sy_beq, sy_bor, sy_bnot, sy_imax, sy_imin, sy_rlen, sy_slen, sy_sapp, sy_inr, sy_nat, sy_cell0, sy_cellS, sy_skip0, sy_inrn, sy_rapp, sy_fits, sy_cutok, sy_cut, sy_scut, sy_sbyte, sy_mkok, sy_mkok0, sy_mkz, sy_rep, sy_head, sy_deq, eqDs_int, eqDs_nil, opI_int, opB_bool, opS_str, opL_sl, opM_own, leaves_val, leaves_own, Option.bind_some, cutO_bool, bif_bool, cutO_inl, cutO_inr, eF_call, eF_lp, Nat.zero_add, Nat.reduceAdd, Bool.cond_false_right, Bool.cond_true_left, Bool.cond_false_left, Bool.cond_true_right, Bool.not_true, Bool.not_false, Bool.not_not, eq_self, decide_true, decide_false, cond_true, cond_false, Int.reduceEq, Int.reduceLT, Int.reduceLE, Int.reduceSub, Int.reduceAdd, Bool.true_and, Bool.and_true, Bool.false_and, Bool.and_false, Bool.or_false, Bool.false_or, Bool.true_or, Bool.or_true, true_and, and_true, wrap_id (n := 1 + strt (code.drop k)) (by omega) (by omega), c16]
      rw [decide_eq_true (show ([[D.int .i64 6, D.int .i64 ((k : Int) + 1), D.int .i64 0, D.int .i64 0]].length + code.length) * 33 ≤ 140737488355328 by simp only [List.length_cons, List.length_nil]; omega), decide_eq_true (show 0 ≤ (k : Int) ∧ (k : Int) ≤ (code.length : Int) ∧ (code.length : Int) ≤ (code.length : Int) by omega)]
      rfl
  · have hc : (decide (300 < (code.length : Int)) || decide (skip < 0) || decide ((code.length : Int) ≤ skip)) = true := by
      by_cases a : 300 < (code.length : Int)
      · simp [a]
      · by_cases b : skip < 0
        · simp [b]
        · simp; omega
    rw [hc]
    have h17 := c17 (code := []) (by simp)
    simp only [sy_wrap, sy_add, sy_sub, sy_mul, sy_ieq, sy_ilt, sy_ile, sy_seq, sy_beq, sy_bor, sy_bnot, sy_imax, sy_imin, sy_rlen, sy_slen, sy_sapp, sy_inr, sy_nat, sy_cell0, sy_cellS, sy_skip0, sy_inrn, sy_rapp, sy_fits, sy_cutok, sy_cut, sy_scut, sy_sbyte, sy_mkok, sy_mkok0, sy_mkz, sy_rep, sy_head, sy_deq, eqDs_int, eqDs_nil, opI_int, opB_bool, opS_str, opL_sl, opM_own, leaves_val, leaves_own, Option.bind_some, cutO_bool, bif_bool, cutO_inl, cutO_inr, eF_call, eF_lp, Nat.zero_add, Nat.reduceAdd, Bool.cond_false_right, Bool.cond_true_left, Bool.cond_false_left, Bool.cond_true_right, Bool.not_true, Bool.not_false, Bool.not_not, eq_self, decide_true, decide_false, cond_true, cond_false, Int.reduceEq, Int.reduceLT, Int.reduceLE, Int.reduceSub, Int.reduceAdd, Bool.true_and, Bool.and_true, Bool.false_and, Bool.and_false, Bool.or_false, Bool.false_or, Bool.true_or, Bool.or_true, true_and, and_true]
    show ((cF 17 [.d (.sl 4 (crows []))]).bind _) = _
    rw [h17]
    rfl
end Go.Vm
end

section
namespace Go.Vm
open Go.Proofs
/-- A truth told: the contract that the lift wants. -/
theorem PGood.truth {f : FuncId} {args : List V} {b : Bool} {t : TypeId} (hs : sigP Try.prog f = some [t]) (hm : mkV Try.prog [t] [.bool b] = some (.d (.bool b)))
    (h : PGood Try.prog f args (.val [.bool b])) : PCall Try.prog f args (.d (.bool b)) := by
  obtain ⟨ts, ss, v, h1, h2, h3, h4, h5⟩ := h
  rw [hs] at h1
  cases h1
  rw [hm] at h4
  cases h4
  exact h5
theorem F8_call (code : List Ins) (n : Int) : PCall Try.prog 8 [.d (.sl 4 (crows code)), .d (.int .i64 n)] (.d (.bool true)) :=
  PGood.truth (t := 4) (by kernel_rfl) (by kernel_rfl) (callF_good mixedOrders kn_good rfl (c8 code n))
end Go.Vm
end
