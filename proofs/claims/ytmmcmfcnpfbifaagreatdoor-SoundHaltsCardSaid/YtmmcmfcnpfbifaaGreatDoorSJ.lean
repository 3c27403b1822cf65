/-
  Part J of the proof. What is proved by the whole: the statement that the claim names, with no condition. This part: lemmas.
-/
import Derived.Test.YtmmcmfcnpfbifaaGreatDoorSI
set_option linter.unusedSimpArgs false
set_option linter.unusedVariables false

section
set_option linter.all false
set_option maxRecDepth 100000
set_option maxHeartbeats 40000000
namespace Go.Vm
open Go.Proofs
theorem stepL2 {α : Type} {X : Option (List D ⊕ α)} {mk : RSt2 → List D} {I : RSt2 → Prop} {μ : RSt2 → Nat} {k : Nat} {Z : Prop} {m s : List (List D)} {u a e : Int} (h : X = some (.inl (mk ⟨m, s, u, a, e⟩))) (hI : I ⟨m, s, u, a, e⟩ ∧ μ ⟨m, s, u, a, e⟩ < k) :
    (∃ y, X = some (.inl (mk y)) ∧ I y ∧ μ y < k) ∨ Z := .inl ⟨_, h, hI⟩
theorem stepR2 {α : Type} {X : Option (List D ⊕ α)} {Q : α → Prop} {Z : Prop} {r : α} (h : X = some (.inr r)) (hI : Q r) : Z ∨ ∃ r, X = some (.inr r) ∧ Q r := .inr ⟨r, h, hI⟩
theorem c23 (s : Shp) (code : List Ins) (cells : List Int) (R : Nat → List Int) (hR0 : R 0 = []) (hR : ∀ i x, code[i]? = some x → PlaceOK s code.length R i x) (fuel : Int) (hfb : bAt code 0 ≤ fuel) (hfl : fuel ≤ 100000) (h1 : 1 ≤ code.length) (hl : code.length ≤ 1000) (hk : s.kinds.length ≤ 1100) (hc : cells.length = s.kinds.length) (hr : allR cells) (hcn : allR (code.map Ins.n)) :
    ∃ p, cF 25 [.d (.sl 4 (crows code)), .d (.sl 1 (irows cells)), .d (.int .i64 fuel)] = some p ∧ RQ fuel p := by
  have hble := bAt_le (code := code) 0
  refine cOfP (by kernel_rfl) rfl ?_
  rw [g25_eq]
  unfold g25
  have hfit : sy.fits [] (irows cells) 8 = true := decide_eq_true (by simp only [irows_len, List.length_nil]; omega)
  with_reducible apply ex_t hfit
  show ∃ p, loopF _ _ = some p ∧ RQ fuel p
  refine loopF_ex (fun x : RSt2 => [.sl 4 (crows code), .sl 1 (irows cells), .int .i64 fuel, .int .i64 x.u, .sl 1 x.m, .sl 1 x.s, .int .i64 x.a, .int .i64 x.e]) (RInv code R cells.length fuel) (RMu code) (fun x hx => ?_) ⟨sy.rapp [] (irows cells), [], 0, 0, 0⟩ ⟨cells, [], rfl, rfl, rfl, hr, by intro n hn; simp at hn, by simp, .inl ⟨rfl, 0, rfl, by omega, by rw [hR0], by simp, by simp only; omega⟩⟩
  obtain ⟨m, st, u, a, e⟩ := x
  obtain ⟨M, S, hm, hs, hM, hrM, hrS, hu, hx⟩ := hx
  simp only at hm hs hu hx
  subst hm hs
  rcases hx with ⟨he, i, ha, hi, hSl, hS16, huf⟩ | ⟨he, huf⟩
  · subst he ha
    obtain ⟨x, hx⟩ : ∃ x, code[i]? = some x := ⟨code[i], List.getElem?_eq_getElem hi⟩
    obtain ⟨hrt, row', to, hn, hto, hRt⟩ := hR i x hx
    have hbp := bAt_pos (code := code) hi
    have hb0 := bAt_le (code := code) i
    have hc35 := c35 x
    have hxr := crows_at hx
    have hxn : inR x.n := hcn x.n (List.mem_map_of_mem (List.mem_of_getElem? hx))
    have hadv := fun h10 => adv hx h10 hto
    have hlen := fun h10 => next_len hn hrt h10 (by rw [← hSl]; exact hS16)
    have hthere := fun hmm => next_there hn hmm
    have hq := hrt
    rw [right_eq] at hq
    simp only [Bool.and_eq_true] at hq
    obtain ⟨⟨⟨q1, q2⟩, q3⟩, q4⟩ := hq
    have q1 := withinB_iff.1 q1
    rw [hrt] at hc35
    obtain ⟨op, A, B, n⟩ := x
    unfold insV at hc35
    simp only at hc35 hadv hlen hthere q1 q4 hxn
    have hH : HdF code fuel u i op A B n := by
      refine ⟨decide_eq_false ?_, decide_eq_false ?_, decide_eq_true ?_, ?_, ?_, ?_, ?_, hc35⟩
      · show ¬ ((crows code).length : Int) ≤ i; rw [crows_len]; omega
      · omega
      · show 0 ≤ (i : Int) ∧ (i : Int) < ((crows code).length : Int); rw [crows_len]; omega
      · rw [hxr]; rfl
      · rw [hxr]; rfl
      · rw [hxr]; rfl
      · rw [hxr]; rfl
    have hu1 : sy.wrap .i64 (sy.add u 1) = u + 1 := by
      rw [show sy.wrap .i64 (sy.add u 1) = IntKind.i64.wrap (u + 1) from rfl, wrap_id (by omega) (by omega)]
    have hi1 : sy.wrap .i64 (sy.add (i : Int) 1) = ((i + 1 : Nat) : Int) := by
      rw [show sy.wrap .i64 (sy.add (i : Int) 1) = IntKind.i64.wrap ((i : Int) + 1) from rfl, wrap_id (by omega) (by omega)]; rfl
    have hop : op = 1 ∨ op = 2 ∨ op = 3 ∨ op = 4 ∨ op = 5 ∨ op = 6 ∨ op = 7 ∨ op = 8 ∨ op = 9 ∨ op = 10 := by omega
    -- one place on
    have hnext : op ≠ 10 → op ≠ 6 → i < i + 1 ∧ i + 1 < code.length ∧ R (i + 1) = row' ∧ bAt code (i + 1) + 1 ≤ bAt code i := fun h10 h6 => by
      obtain ⟨e1, e2⟩ := hadv h10
      have hm : (i : Int) + 1 ∈ to := by
        rw [e1]; unfold leadsL; simp only
        rw [if_neg h6]
        split <;> simp
      obtain ⟨j, hj, hj1, hj2, hj3⟩ := e2 _ hm
      have hj0 : j = i + 1 := by omega
      subst hj0
      refine ⟨hj1, hj2, ?_, hj3⟩
      have := hRt _ hm
      rwa [hj, Int.toNat_natCast] at this
    have hjump : (op = 6 ∨ op = 7) → ∃ j : Nat, A = j ∧ i < j ∧ j < code.length ∧ R j = row' ∧ bAt code j + 1 ≤ bAt code i := fun h67 => by
      obtain ⟨e1, e2⟩ := hadv (by omega)
      have hm : A ∈ to := by
        rw [e1]; unfold leadsL; simp only
        rcases h67 with h | h
        · rw [if_pos h]; simp
        · rw [if_neg (by omega), if_pos h]; simp
      obtain ⟨j, hj, hj1, hj2, hj3⟩ := e2 _ hm
      refine ⟨j, hj, hj1, hj2, ?_, hj3⟩
      have := hRt _ hm
      rwa [hj, Int.toNat_natCast] at this
    rcases hop with rfl | rfl | rfl | rfl | rfl | rfl | rfl | rfl | rfl | rfl
    · -- push
      obtain ⟨p1, p2, p3⟩ := hlen (by decide)
      simp [popsN, putsN] at p1 p2
      have hp := pushF (s := irows S) rfl (by omega) n
      obtain ⟨n1, n2, n3, n4⟩ := hnext (by decide) (by decide)
      apply stepL2
      · repeat' (first | with_reducible exact st_some | with_reducible apply st_cut | with_reducible apply st_bind | ((with_reducible apply st_t); (first | with_reducible exact hH.i0 | with_reducible exact hH.i1 | with_reducible exact hH.i2 | with_reducible exact hp.e0 | with_reducible exact hp.e1 | with_reducible exact hp.e2 | rfl)) | ((with_reducible apply st_f); (first | with_reducible exact hH.i0 | with_reducible exact hH.i1 | with_reducible exact hH.i2 | with_reducible exact hp.e0 | with_reducible exact hp.e1 | with_reducible exact hp.e2 | rfl)) | with_reducible apply st_lp | with_reducible apply st_inl | with_reducible exact st_inr | with_reducible apply st_opI | with_reducible apply st_opB | with_reducible apply st_opL | with_reducible exact hH.r0 | with_reducible exact hH.r1 | with_reducible exact hH.r2 | with_reducible exact hH.r3 | exact hH.c | rfl)
      · refine go_on rfl (pushE rfl n) hM hrM (allR_snoc hrS hxn) hu1 hu hi1 rfl n1 n2 ?_ ?_ n4 huf
        · rw [n3]; simp; omega
        · simp; omega
    · -- load
      obtain ⟨p1, p2, p3⟩ := hlen (by decide)
      simp [popsN, putsN] at p1 p2
      have ht := hthere (by decide)
      have qA : 0 ≤ A ∧ A ≤ 65535 := withinB_iff.1 (by simpa [firstB] using q2)
      have hv : sy.cell (sy.rown (irows M) (sy.nat A)) 0 = some (.int .i64 (M.getD A.toNat 0)) := irows_n (show A.toNat < M.length by omega)
      have hin : sy.inr A (sy.rlen (irows M)) = true := decide_eq_true (by rw [sy_rlen, irows_len]; omega)
      have hth := thereF (M := M) (a := A) (b := 1) (by omega) (by omega) (by omega) (by omega) (by omega)
      have hp := pushF (s := irows S) rfl (by omega) (M.getD A.toNat 0)
      obtain ⟨n1, n2, n3, n4⟩ := hnext (by decide) (by decide)
      apply stepL2
      · repeat' (first | with_reducible exact st_some | with_reducible apply st_cut | with_reducible apply st_bind | ((with_reducible apply st_t); (first | with_reducible exact hH.i0 | with_reducible exact hH.i1 | with_reducible exact hH.i2 | with_reducible exact hth | with_reducible exact hin | with_reducible exact hp.e0 | with_reducible exact hp.e1 | with_reducible exact hp.e2 | rfl)) | ((with_reducible apply st_f); (first | with_reducible exact hH.i0 | with_reducible exact hH.i1 | with_reducible exact hH.i2 | with_reducible exact hth | with_reducible exact hin | with_reducible exact hp.e0 | with_reducible exact hp.e1 | with_reducible exact hp.e2 | rfl)) | with_reducible apply st_lp | with_reducible apply st_inl | with_reducible exact st_inr | with_reducible apply st_opI | with_reducible apply st_opB | with_reducible apply st_opL | with_reducible exact hH.r0 | with_reducible exact hH.r1 | with_reducible exact hH.r2 | with_reducible exact hH.r3 | with_reducible exact hv | exact hH.c | rfl)
      · refine go_on rfl (pushE rfl _) hM hrM (allR_snoc hrS (allR_getD hrM _)) hu1 hu hi1 rfl n1 n2 ?_ ?_ n4 huf
        · rw [n3]; simp; omega
        · simp; omega
    · -- store
      obtain ⟨p1, p2, p3⟩ := hlen (by decide)
      simp [popsN, putsN] at p1 p2
      have ht := hthere (by decide)
      have qA : 0 ≤ A ∧ A ≤ 65535 := withinB_iff.1 (by simpa [firstB] using q2)
      have hin : sy.inr A (sy.rlen (irows M)) = true := decide_eq_true (by rw [sy_rlen, irows_len]; omega)
      have hinn : sy.inrn (sy.nat A) (irows M) = true := decide_eq_true (by rw [irows_len]; show A.toNat < _; omega)
      have hth := thereF (M := M) (a := A) (b := 1) (by omega) (by omega) (by omega) (by omega) (by omega)
      have hp := popF (s := irows S) rfl (by omega) (by omega)
      obtain ⟨n1, n2, n3, n4⟩ := hnext (by decide) (by decide)
      apply stepL2
      · repeat' (first | with_reducible exact st_some | with_reducible apply st_cut | with_reducible apply st_bind | ((with_reducible apply st_t); (first | with_reducible exact hH.i0 | with_reducible exact hH.i1 | with_reducible exact hH.i2 | with_reducible exact hth | with_reducible exact hin | with_reducible exact hinn | with_reducible exact hp.e0 | with_reducible exact hp.e1 | with_reducible exact hp.e3 | rfl)) | ((with_reducible apply st_f); (first | with_reducible exact hH.i0 | with_reducible exact hH.i1 | with_reducible exact hH.i2 | with_reducible exact hth | with_reducible exact hin | with_reducible exact hinn | with_reducible exact hp.e0 | with_reducible exact hp.e1 | with_reducible exact hp.e3 | rfl)) | with_reducible apply st_lp | with_reducible apply st_inl | with_reducible exact st_inr | with_reducible apply st_opI | with_reducible apply st_opB | with_reducible apply st_opL | with_reducible exact hH.r0 | with_reducible exact hH.r1 | with_reducible exact hH.r2 | with_reducible exact hH.r3 | with_reducible exact hp.e2 | exact hH.c | rfl)
      · refine go_on (irows_put M A.toNat _ (by omega)) (cutE rfl (by omega) (by omega)) (by rw [List.length_set]; exact hM) (allR_set hrM (allR_getD hrS _)) (allR_take hrS _) hu1 hu hi1 rfl n1 n2 ?_ ?_ n4 huf
        · rw [n3]; simp; omega
        · simp; omega
    · -- one number
      obtain ⟨p1, p2, p3⟩ := hlen (by decide)
      simp [popsN, putsN] at p1 p2
      have qA : A = 1 ∨ A = 2 := by simpa [firstB] using q2
      have hp := popF (s := irows S) rfl (by omega) (by omega)
      have hcut := cutE (s := irows S) rfl (by omega) (by omega)
      obtain ⟨_, hc1, v, rfl, hvr⟩ := c107 A (S.getD (S.length - 1) 0) qA
      rw [← eF_call] at hc1
      have hp2 := pushF hcut (by rw [List.length_take]; omega) v
      obtain ⟨n1, n2, n3, n4⟩ := hnext (by decide) (by decide)
      apply stepL2
      · repeat' (first | with_reducible exact st_some | with_reducible apply st_cut | with_reducible apply st_bind | ((with_reducible apply st_t); (first | with_reducible exact hH.i0 | with_reducible exact hH.i1 | with_reducible exact hH.i2 | with_reducible exact hp.e0 | with_reducible exact hp.e1 | with_reducible exact hp.e3 | with_reducible exact hp2.e0 | with_reducible exact hp2.e1 | with_reducible exact hp2.e2 | rfl)) | ((with_reducible apply st_f); (first | with_reducible exact hH.i0 | with_reducible exact hH.i1 | with_reducible exact hH.i2 | with_reducible exact hp.e0 | with_reducible exact hp.e1 | with_reducible exact hp.e3 | with_reducible exact hp2.e0 | with_reducible exact hp2.e1 | with_reducible exact hp2.e2 | rfl)) | with_reducible apply st_lp | with_reducible apply st_inl | with_reducible exact st_inr | with_reducible apply st_opI | with_reducible apply st_opB | with_reducible apply st_opL | with_reducible exact hH.r0 | with_reducible exact hH.r1 | with_reducible exact hH.r2 | with_reducible exact hH.r3 | with_reducible exact hp.e2 | exact hH.c | exact hc1 | rfl)
      · refine go_on rfl (pushE hcut _) hM hrM (allR_snoc (allR_take hrS _) hvr) hu1 hu hi1 rfl n1 n2 ?_ ?_ n4 huf
        · rw [n3]; simp; omega
        · simp; omega
    · -- two numbers
      obtain ⟨p1, p2, p3⟩ := hlen (by decide)
      simp [popsN, putsN] at p1 p2
      have qA : 3 ≤ A ∧ A ≤ 16 := withinB_iff.1 (by simpa [firstB] using q2)
      have hp := popF (s := irows S) rfl (by omega) (by omega)
      have hcut := cutE (s := irows S) rfl (by omega) (by omega)
      have hl1 : (S.take (S.length - 1)).length = S.length - 1 := by rw [List.length_take]; omega
      have hpb := popF hcut (by omega) (by omega)
      have hcut2 := cutE hcut (by omega) (by omega)
      have hl2 : ((S.take (S.length - 1)).take ((S.take (S.length - 1)).length - 1)).length = S.length - 2 := by rw [List.length_take, hl1]; omega
      have hrS2 := allR_take (allR_take hrS (S.length - 1)) ((S.take (S.length - 1)).length - 1)
      obtain ⟨_, hc1, v, e, rfl, hvr, he⟩ := c108 A ((S.take (S.length - 1)).getD ((S.take (S.length - 1)).length - 1) 0) (S.getD (S.length - 1) 0) (allR_getD hrS _) qA
      rw [← eF_call] at hc1
      have hp2 := pushF hcut2 (by omega) v
      obtain ⟨n1, n2, n3, n4⟩ := hnext (by decide) (by decide)
      rcases he with rfl | rfl
      · apply stepL2
        · repeat' (first | with_reducible exact st_some | with_reducible apply st_cut | with_reducible apply st_bind | ((with_reducible apply st_t); (first | with_reducible exact hH.i0 | with_reducible exact hH.i1 | with_reducible exact hH.i2 | with_reducible exact hp.e0 | with_reducible exact hp.e1 | with_reducible exact hp.e3 | with_reducible exact hpb.e0 | with_reducible exact hpb.e1 | with_reducible exact hpb.e3 | with_reducible exact hp2.e0 | with_reducible exact hp2.e1 | with_reducible exact hp2.e2 | rfl)) | ((with_reducible apply st_f); (first | with_reducible exact hH.i0 | with_reducible exact hH.i1 | with_reducible exact hH.i2 | with_reducible exact hp.e0 | with_reducible exact hp.e1 | with_reducible exact hp.e3 | with_reducible exact hpb.e0 | with_reducible exact hpb.e1 | with_reducible exact hpb.e3 | with_reducible exact hp2.e0 | with_reducible exact hp2.e1 | with_reducible exact hp2.e2 | rfl)) | with_reducible apply st_lp | with_reducible apply st_inl | with_reducible exact st_inr | with_reducible apply st_opI | with_reducible apply st_opB | with_reducible apply st_opL | with_reducible exact hH.r0 | with_reducible exact hH.r1 | with_reducible exact hH.r2 | with_reducible exact hH.r3 | with_reducible exact hp.e2 | with_reducible exact hpb.e2 | exact hH.c | exact hc1 | rfl)
        · refine go_on rfl (pushE hcut2 _) hM hrM (allR_snoc hrS2 hvr) hu1 hu hi1 rfl n1 n2 ?_ ?_ n4 huf
          · rw [n3, List.length_append, hl2]; simp; omega
          · rw [List.length_append, hl2]; simp; omega
      · apply stepL2
        · repeat' (first | with_reducible exact st_some | with_reducible apply st_cut | with_reducible apply st_bind | ((with_reducible apply st_t); (first | with_reducible exact hH.i0 | with_reducible exact hH.i1 | with_reducible exact hH.i2 | with_reducible exact hp.e0 | with_reducible exact hp.e1 | with_reducible exact hp.e3 | with_reducible exact hpb.e0 | with_reducible exact hpb.e1 | with_reducible exact hpb.e3 | with_reducible exact hp2.e0 | with_reducible exact hp2.e1 | with_reducible exact hp2.e2 | rfl)) | ((with_reducible apply st_f); (first | with_reducible exact hH.i0 | with_reducible exact hH.i1 | with_reducible exact hH.i2 | with_reducible exact hp.e0 | with_reducible exact hp.e1 | with_reducible exact hp.e3 | with_reducible exact hpb.e0 | with_reducible exact hpb.e1 | with_reducible exact hpb.e3 | with_reducible exact hp2.e0 | with_reducible exact hp2.e1 | with_reducible exact hp2.e2 | rfl)) | with_reducible apply st_lp | with_reducible apply st_inl | with_reducible exact st_inr | with_reducible apply st_opI | with_reducible apply st_opB | with_reducible apply st_opL | with_reducible exact hH.r0 | with_reducible exact hH.r1 | with_reducible exact hH.r2 | with_reducible exact hH.r3 | with_reducible exact hp.e2 | with_reducible exact hpb.e2 | exact hH.c | exact hc1 | rfl)
        · exact stop_at rfl hcut2 hM hrM hrS2 hu1 hu (by omega) hbp huf
    · -- jump
      obtain ⟨p1, p2, p3⟩ := hlen (by decide)
      simp [popsN, putsN] at p1 p2
      obtain ⟨j, n0, n1, n2, n3, n4⟩ := hjump (by decide)
      apply stepL2
      · repeat' (first | with_reducible exact st_some | with_reducible apply st_cut | with_reducible apply st_bind | ((with_reducible apply st_t); (first | with_reducible exact hH.i0 | with_reducible exact hH.i1 | with_reducible exact hH.i2 | rfl)) | ((with_reducible apply st_f); (first | with_reducible exact hH.i0 | with_reducible exact hH.i1 | with_reducible exact hH.i2 | rfl)) | with_reducible apply st_lp | with_reducible apply st_inl | with_reducible exact st_inr | with_reducible apply st_opI | with_reducible apply st_opB | with_reducible apply st_opL | with_reducible exact hH.r0 | with_reducible exact hH.r1 | with_reducible exact hH.r2 | with_reducible exact hH.r3 | exact hH.c | rfl)
      · refine go_on rfl rfl hM hrM hrS hu1 hu n0 rfl n1 n2 ?_ ?_ n4 huf
        · rw [n3]; omega
        · omega
    · -- zero
      obtain ⟨p1, p2, p3⟩ := hlen (by decide)
      simp [popsN, putsN] at p1 p2
      have hp := popF (s := irows S) rfl (by omega) (by omega)
      have hcut := cutE (s := irows S) rfl (by omega) (by omega)
      have hl1 : (S.take (S.length - 1)).length = S.length - 1 := by rw [List.length_take]; omega
      by_cases hz : S.getD (S.length - 1) 0 = 0
      · obtain ⟨j, n0, n1, n2, n3, n4⟩ := hjump (by decide)
        have hz' : sy.ieq (S.getD (S.length - 1) 0) 0 = true := decide_eq_true hz
        apply stepL2
        · repeat' (first | with_reducible exact st_some | with_reducible apply st_cut | with_reducible apply st_bind | ((with_reducible apply st_t); (first | with_reducible exact hH.i0 | with_reducible exact hH.i1 | with_reducible exact hH.i2 | with_reducible exact hp.e0 | with_reducible exact hp.e1 | with_reducible exact hp.e3 | with_reducible exact hz' | rfl)) | ((with_reducible apply st_f); (first | with_reducible exact hH.i0 | with_reducible exact hH.i1 | with_reducible exact hH.i2 | with_reducible exact hp.e0 | with_reducible exact hp.e1 | with_reducible exact hp.e3 | with_reducible exact hz' | rfl)) | with_reducible apply st_lp | with_reducible apply st_inl | with_reducible exact st_inr | with_reducible apply st_opI | with_reducible apply st_opB | with_reducible apply st_opL | with_reducible exact hH.r0 | with_reducible exact hH.r1 | with_reducible exact hH.r2 | with_reducible exact hH.r3 | with_reducible exact hp.e2 | exact hH.c | rfl)
        · refine go_on rfl hcut hM hrM (allR_take hrS _) hu1 hu n0 rfl n1 n2 ?_ ?_ n4 huf
          · rw [n3]; omega
          · omega
      · obtain ⟨n1, n2, n3, n4⟩ := hnext (by decide) (by decide)
        have hz' : sy.ieq (S.getD (S.length - 1) 0) 0 = false := decide_eq_false hz
        apply stepL2
        · repeat' (first | with_reducible exact st_some | with_reducible apply st_cut | with_reducible apply st_bind | ((with_reducible apply st_t); (first | with_reducible exact hH.i0 | with_reducible exact hH.i1 | with_reducible exact hH.i2 | with_reducible exact hp.e0 | with_reducible exact hp.e1 | with_reducible exact hp.e3 | with_reducible exact hz' | rfl)) | ((with_reducible apply st_f); (first | with_reducible exact hH.i0 | with_reducible exact hH.i1 | with_reducible exact hH.i2 | with_reducible exact hp.e0 | with_reducible exact hp.e1 | with_reducible exact hp.e3 | with_reducible exact hz' | rfl)) | with_reducible apply st_lp | with_reducible apply st_inl | with_reducible exact st_inr | with_reducible apply st_opI | with_reducible apply st_opB | with_reducible apply st_opL | with_reducible exact hH.r0 | with_reducible exact hH.r1 | with_reducible exact hH.r2 | with_reducible exact hH.r3 | with_reducible exact hp.e2 | exact hH.c | rfl)
        · refine go_on rfl hcut hM hrM (allR_take hrS _) hu1 hu hi1 rfl n1 n2 ?_ ?_ n4 huf
          · rw [n3]; omega
          · omega
    · -- get
      obtain ⟨p1, p2, p3⟩ := hlen (by decide)
      simp [popsN, putsN] at p1 p2
      have ht := hthere (by decide)
      have qA : 0 ≤ A ∧ A ≤ 65535 := withinB_iff.1 (by simpa [firstB] using q2)
      have qB : 1 ≤ B ∧ B ≤ 8 := withinB_iff.1 (by simpa using q4)
      have hp := popF (s := irows S) rfl (by omega) (by omega)
      have hcut := cutE (s := irows S) rfl (by omega) (by omega)
      have hl1 : (S.take (S.length - 1)).length = S.length - 1 := by rw [List.length_take]; omega
      have hth := thereF (M := M) (a := A) (b := B) (by omega) (by omega) (by omega) (by omega) (by omega)
      generalize hv : S.getD (S.length - 1) 0 = v at hp
      by_cases hv0 : v < 0
      · have hz : sy.ilt v 0 = true := decide_eq_true hv0
        apply stepL2
        · repeat' (first | with_reducible exact st_some | with_reducible apply st_cut | with_reducible apply st_bind | ((with_reducible apply st_t); (first | with_reducible exact hH.i0 | with_reducible exact hH.i1 | with_reducible exact hH.i2 | with_reducible exact hp.e0 | with_reducible exact hp.e1 | with_reducible exact hp.e3 | with_reducible exact hth | with_reducible exact hz | rfl)) | ((with_reducible apply st_f); (first | with_reducible exact hH.i0 | with_reducible exact hH.i1 | with_reducible exact hH.i2 | with_reducible exact hp.e0 | with_reducible exact hp.e1 | with_reducible exact hp.e3 | with_reducible exact hth | with_reducible exact hz | rfl)) | with_reducible apply st_lp | with_reducible apply st_inl | with_reducible exact st_inr | with_reducible apply st_opI | with_reducible apply st_opB | with_reducible apply st_opL | with_reducible exact hH.r0 | with_reducible exact hH.r1 | with_reducible exact hH.r2 | with_reducible exact hH.r3 | with_reducible exact hp.e2 | exact hH.c | rfl)
        · exact stop_at rfl hcut hM hrM (allR_take hrS _) hu1 hu (by omega) hbp huf
      have hz : sy.ilt v 0 = false := decide_eq_false hv0
      by_cases hvB : B ≤ v
      · have hz2 : sy.ile B v = true := decide_eq_true hvB
        apply stepL2
        · repeat' (first | with_reducible exact st_some | with_reducible apply st_cut | with_reducible apply st_bind | ((with_reducible apply st_t); (first | with_reducible exact hH.i0 | with_reducible exact hH.i1 | with_reducible exact hH.i2 | with_reducible exact hp.e0 | with_reducible exact hp.e1 | with_reducible exact hp.e3 | with_reducible exact hth | with_reducible exact hz | with_reducible exact hz2 | rfl)) | ((with_reducible apply st_f); (first | with_reducible exact hH.i0 | with_reducible exact hH.i1 | with_reducible exact hH.i2 | with_reducible exact hp.e0 | with_reducible exact hp.e1 | with_reducible exact hp.e3 | with_reducible exact hth | with_reducible exact hz | with_reducible exact hz2 | rfl)) | with_reducible apply st_lp | with_reducible apply st_inl | with_reducible exact st_inr | with_reducible apply st_opI | with_reducible apply st_opB | with_reducible apply st_opL | with_reducible exact hH.r0 | with_reducible exact hH.r1 | with_reducible exact hH.r2 | with_reducible exact hH.r3 | with_reducible exact hp.e2 | exact hH.c | rfl)
        · exact stop_at rfl hcut hM hrM (allR_take hrS _) hu1 hu (by omega) hbp huf
      have hz2 : sy.ile B v = false := decide_eq_false hvB
      have hw : sy.wrap .i64 (sy.add A v) = A + v := by
        rw [show sy.wrap .i64 (sy.add A v) = IntKind.i64.wrap (A + v) from rfl, wrap_id (by omega) (by omega)]
      have hin : sy.inr (sy.wrap .i64 (sy.add A v)) (sy.rlen (irows M)) = true := by rw [hw]; exact decide_eq_true (by rw [sy_rlen, irows_len]; omega)
      have hvv : sy.cell (sy.rown (irows M) (sy.nat (sy.wrap .i64 (sy.add A v)))) 0 = some (.int .i64 (M.getD (A + v).toNat 0)) := by rw [hw]; exact irows_n (show (A + v).toNat < M.length by omega)
      have hp2 := pushF hcut (by omega) (M.getD (A + v).toNat 0)
      obtain ⟨n1, n2, n3, n4⟩ := hnext (by decide) (by decide)
      apply stepL2
      · repeat' (first | with_reducible exact st_some | with_reducible apply st_cut | with_reducible apply st_bind | ((with_reducible apply st_t); (first | with_reducible exact hH.i0 | with_reducible exact hH.i1 | with_reducible exact hH.i2 | with_reducible exact hp.e0 | with_reducible exact hp.e1 | with_reducible exact hp.e3 | with_reducible exact hth | with_reducible exact hz | with_reducible exact hz2 | with_reducible exact hin | with_reducible exact hp2.e0 | with_reducible exact hp2.e1 | with_reducible exact hp2.e2 | rfl)) | ((with_reducible apply st_f); (first | with_reducible exact hH.i0 | with_reducible exact hH.i1 | with_reducible exact hH.i2 | with_reducible exact hp.e0 | with_reducible exact hp.e1 | with_reducible exact hp.e3 | with_reducible exact hth | with_reducible exact hz | with_reducible exact hz2 | with_reducible exact hin | with_reducible exact hp2.e0 | with_reducible exact hp2.e1 | with_reducible exact hp2.e2 | rfl)) | with_reducible apply st_lp | with_reducible apply st_inl | with_reducible exact st_inr | with_reducible apply st_opI | with_reducible apply st_opB | with_reducible apply st_opL | with_reducible exact hH.r0 | with_reducible exact hH.r1 | with_reducible exact hH.r2 | with_reducible exact hH.r3 | with_reducible exact hp.e2 | with_reducible exact hvv | exact hH.c | rfl)
      · refine go_on rfl (pushE hcut _) hM hrM (allR_snoc (allR_take hrS _) (allR_getD hrM _)) hu1 hu hi1 rfl n1 n2 ?_ ?_ n4 huf
        · rw [n3, List.length_append, hl1]; simp; omega
        · rw [List.length_append, hl1]; simp; omega
    · -- put
      obtain ⟨p1, p2, p3⟩ := hlen (by decide)
      simp [popsN, putsN] at p1 p2
      have ht := hthere (by decide)
      have qA : 0 ≤ A ∧ A ≤ 65535 := withinB_iff.1 (by simpa [firstB] using q2)
      have qB : 1 ≤ B ∧ B ≤ 8 := withinB_iff.1 (by simpa using q4)
      have hp := popF (s := irows S) rfl (by omega) (by omega)
      have hcut := cutE (s := irows S) rfl (by omega) (by omega)
      have hl1 : (S.take (S.length - 1)).length = S.length - 1 := by rw [List.length_take]; omega
      have hpb := popF hcut (by omega) (by omega)
      have hcut2 := cutE hcut (by omega) (by omega)
      have hl2 : ((S.take (S.length - 1)).take ((S.take (S.length - 1)).length - 1)).length = S.length - 2 := by rw [List.length_take, hl1]; omega
      have hrS2 := allR_take (allR_take hrS (S.length - 1)) ((S.take (S.length - 1)).length - 1)
      have hth := thereF (M := M) (a := A) (b := B) (by omega) (by omega) (by omega) (by omega) (by omega)
      generalize hv : S.getD (S.length - 1) 0 = v at hp
      by_cases hv0 : v < 0
      · have hz : sy.ilt v 0 = true := decide_eq_true hv0
        apply stepL2
        · repeat' (first | with_reducible exact st_some | with_reducible apply st_cut | with_reducible apply st_bind | ((with_reducible apply st_t); (first | with_reducible exact hH.i0 | with_reducible exact hH.i1 | with_reducible exact hH.i2 | with_reducible exact hp.e0 | with_reducible exact hp.e1 | with_reducible exact hp.e3 | with_reducible exact hpb.e0 | with_reducible exact hpb.e1 | with_reducible exact hpb.e3 | with_reducible exact hth | with_reducible exact hz | rfl)) | ((with_reducible apply st_f); (first | with_reducible exact hH.i0 | with_reducible exact hH.i1 | with_reducible exact hH.i2 | with_reducible exact hp.e0 | with_reducible exact hp.e1 | with_reducible exact hp.e3 | with_reducible exact hpb.e0 | with_reducible exact hpb.e1 | with_reducible exact hpb.e3 | with_reducible exact hth | with_reducible exact hz | rfl)) | with_reducible apply st_lp | with_reducible apply st_inl | with_reducible exact st_inr | with_reducible apply st_opI | with_reducible apply st_opB | with_reducible apply st_opL | with_reducible exact hH.r0 | with_reducible exact hH.r1 | with_reducible exact hH.r2 | with_reducible exact hH.r3 | with_reducible exact hp.e2 | with_reducible exact hpb.e2 | exact hH.c | rfl)
        · exact stop_at rfl hcut2 hM hrM hrS2 hu1 hu (by omega) hbp huf
      have hz : sy.ilt v 0 = false := decide_eq_false hv0
      by_cases hvB : B ≤ v
      · have hz2 : sy.ile B v = true := decide_eq_true hvB
        apply stepL2
        · repeat' (first | with_reducible exact st_some | with_reducible apply st_cut | with_reducible apply st_bind | ((with_reducible apply st_t); (first | with_reducible exact hH.i0 | with_reducible exact hH.i1 | with_reducible exact hH.i2 | with_reducible exact hp.e0 | with_reducible exact hp.e1 | with_reducible exact hp.e3 | with_reducible exact hpb.e0 | with_reducible exact hpb.e1 | with_reducible exact hpb.e3 | with_reducible exact hth | with_reducible exact hz | with_reducible exact hz2 | rfl)) | ((with_reducible apply st_f); (first | with_reducible exact hH.i0 | with_reducible exact hH.i1 | with_reducible exact hH.i2 | with_reducible exact hp.e0 | with_reducible exact hp.e1 | with_reducible exact hp.e3 | with_reducible exact hpb.e0 | with_reducible exact hpb.e1 | with_reducible exact hpb.e3 | with_reducible exact hth | with_reducible exact hz | with_reducible exact hz2 | rfl)) | with_reducible apply st_lp | with_reducible apply st_inl | with_reducible exact st_inr | with_reducible apply st_opI | with_reducible apply st_opB | with_reducible apply st_opL | with_reducible exact hH.r0 | with_reducible exact hH.r1 | with_reducible exact hH.r2 | with_reducible exact hH.r3 | with_reducible exact hp.e2 | with_reducible exact hpb.e2 | exact hH.c | rfl)
        · exact stop_at rfl hcut2 hM hrM hrS2 hu1 hu (by omega) hbp huf
      have hz2 : sy.ile B v = false := decide_eq_false hvB
      have hw : sy.wrap .i64 (sy.add A v) = A + v := by
        rw [show sy.wrap .i64 (sy.add A v) = IntKind.i64.wrap (A + v) from rfl, wrap_id (by omega) (by omega)]
      have hin : sy.inr (sy.wrap .i64 (sy.add A v)) (sy.rlen (irows M)) = true := by rw [hw]; exact decide_eq_true (by rw [sy_rlen, irows_len]; omega)
      have hinn : sy.inrn (sy.nat (sy.wrap .i64 (sy.add A v))) (irows M) = true := by rw [hw]; exact decide_eq_true (by rw [irows_len]; show (A + v).toNat < _; omega)
      obtain ⟨n1, n2, n3, n4⟩ := hnext (by decide) (by decide)
      apply stepL2
      · repeat' (first | with_reducible exact st_some | with_reducible apply st_cut | with_reducible apply st_bind | ((with_reducible apply st_t); (first | with_reducible exact hH.i0 | with_reducible exact hH.i1 | with_reducible exact hH.i2 | with_reducible exact hp.e0 | with_reducible exact hp.e1 | with_reducible exact hp.e3 | with_reducible exact hpb.e0 | with_reducible exact hpb.e1 | with_reducible exact hpb.e3 | with_reducible exact hth | with_reducible exact hz | with_reducible exact hz2 | with_reducible exact hin | with_reducible exact hinn | rfl)) | ((with_reducible apply st_f); (first | with_reducible exact hH.i0 | with_reducible exact hH.i1 | with_reducible exact hH.i2 | with_reducible exact hp.e0 | with_reducible exact hp.e1 | with_reducible exact hp.e3 | with_reducible exact hpb.e0 | with_reducible exact hpb.e1 | with_reducible exact hpb.e3 | with_reducible exact hth | with_reducible exact hz | with_reducible exact hz2 | with_reducible exact hin | with_reducible exact hinn | rfl)) | with_reducible apply st_lp | with_reducible apply st_inl | with_reducible exact st_inr | with_reducible apply st_opI | with_reducible apply st_opB | with_reducible apply st_opL | with_reducible exact hH.r0 | with_reducible exact hH.r1 | with_reducible exact hH.r2 | with_reducible exact hH.r3 | with_reducible exact hp.e2 | with_reducible exact hpb.e2 | exact hH.c | rfl)
      · refine go_on (M := M.set (A + v).toNat _) (by rw [hw]; exact irows_put M (A + v).toNat _ (by omega)) hcut2 (by rw [List.length_set]; exact hM) (allR_set hrM (allR_getD (allR_take hrS _) _)) hrS2 hu1 hu hi1 rfl n1 n2 ?_ ?_ n4 huf
        · rw [n3, hl2]; omega
        · rw [hl2]; omega
    · -- halt
      apply stepL2
      · repeat' (first | with_reducible exact st_some | with_reducible apply st_cut | with_reducible apply st_bind | ((with_reducible apply st_t); (first | with_reducible exact hH.i0 | with_reducible exact hH.i1 | with_reducible exact hH.i2 | rfl)) | ((with_reducible apply st_f); (first | with_reducible exact hH.i0 | with_reducible exact hH.i1 | with_reducible exact hH.i2 | rfl)) | with_reducible apply st_lp | with_reducible apply st_inl | with_reducible exact st_inr | with_reducible apply st_opI | with_reducible apply st_opB | with_reducible apply st_opL | with_reducible exact hH.r0 | with_reducible exact hH.r1 | with_reducible exact hH.r2 | with_reducible exact hH.r3 | exact hH.c | rfl)
      · exact stop_at rfl rfl hM hrM hrS hu1 hu (by omega) hbp huf
  · have hz : sy.ieq e 0 = false := decide_eq_false (by omega)
    by_cases he1 : e = -1
    · subst he1
      apply stepR2
      · repeat' (first | with_reducible exact st_some | with_reducible apply st_cut | with_reducible apply st_bind | ((with_reducible apply st_t); (first | with_reducible exact hz | rfl)) | ((with_reducible apply st_f); (first | with_reducible exact hz | rfl)) | with_reducible apply st_lp | with_reducible apply st_inl | with_reducible exact st_inr | with_reducible apply st_opI | with_reducible apply st_opB | with_reducible apply st_opL | exact hz | rfl)
      · exact ⟨_, _, _, rfl, huf, by decide, by decide⟩
    · have hz1 : sy.bnot (sy.ieq e (-1)) = true := by
        rw [show sy.ieq e (-1) = false from decide_eq_false he1]; rfl
      apply stepR2
      · repeat' (first | with_reducible exact st_some | with_reducible apply st_cut | with_reducible apply st_bind | ((with_reducible apply st_t); (first | with_reducible exact hz | with_reducible exact hz1 | rfl)) | ((with_reducible apply st_f); (first | with_reducible exact hz | with_reducible exact hz1 | rfl)) | with_reducible apply st_lp | with_reducible apply st_inl | with_reducible exact st_inr | with_reducible apply st_opI | with_reducible apply st_opB | with_reducible apply st_opL | exact hz | rfl)
      · exact ⟨_, _, _, rfl, huf, (by show e ≠ 17; omega), (by show e ≠ 13; omega)⟩
end Go.Vm
end

section
set_option linter.all false
set_option maxRecDepth 100000
set_option maxHeartbeats 8000000
namespace Go.Vm
open Go.Proofs
theorem soundE_ok {x : Img} (h : soundE x = 0) : formS x = true ∧ (checkS (shpOf x) x.code).2 = true := by
  unfold soundE at h
  cases hF : formS x with
  | false => rw [hF] at h; cases h
  | true =>
    rw [hF, cond_true] at h
    cases hc : (checkS (shpOf x) x.code).2 with
    | false => rw [hc] at h; cases h
    | true => exact ⟨rfl, rfl⟩
theorem c_Halts (x : Img) (cells : List Int) (hp : x.ins.length + x.outs.length ≤ 1000000000000000) (hr : allR cells) (hcn : allR (x.code.map Ins.n)) : cF 5 [x.v, .d (.sl 1 (irows cells))] = some (.val [.bool true]) := by
  obtain ⟨_, hF, bF, rfl, hb⟩ := c_iFew x hp
  have hLv := c_sLive
  cases bF with
  | false =>
    unfold Img.v at hF ⊢
    refine cOf (by kernel_rfl) rfl ?_
    rw [g5_eq]
    simp only [g5, go1, Option.bind_some, eq_self, cond_true, cond_false, Nat.reduceAdd, Int.reduceEq, Int.reduceLT, Int.reduceLE, Int.reduceSub, Int.reduceAdd, hF, hLv]
  | true =>
    have hx := hb rfl
    by_cases hc : 1100 < (cells.length : Int)
    · unfold Img.v at hF ⊢
      refine cOf (by kernel_rfl) rfl ?_
      rw [g5_eq]
      simp only [g5, go1, Option.bind_some, eq_self, cond_true, cond_false, Nat.reduceAdd, Int.reduceEq, Int.reduceLT, Int.reduceLE, Int.reduceSub, Int.reduceAdd, hF, hLv, irows_len, decT hc]
    have h1 := c_sCheck x hx
    by_cases he : soundE x = 0
    · obtain ⟨e1, e2⟩ := soundE_ok he
      have hN : soundN x = (checkS (shpOf x) x.code).1 := by unfold soundN; rw [e1]; rfl
      have hlen : soundN x = x.code.length := by
        rw [hN]; exact (check_ok e2).1
      obtain ⟨q1, q2, R, hR0, hR⟩ := checkS_rows e2
      have hk : (shpOf x).kinds.length ≤ 1000 := by
        have := q1
        unfold shapeB at this
        simp only [Bool.and_eq_true, decide_eq_true_eq] at this
        have := this.1.1.1.1.1.2
        unfold il at this
        omega
      have h2 := c_rgShape x hx
      obtain ⟨b, h3, hb3⟩ := c22 (shpOf x).ctors (shpOf x).kinds (shpOf x).lo (shpOf x).hi cells (by rw [shp_ctors]; have := hx.en; omega) (by omega)
      have hcl := hx.cn
      cases b with
      | false =>
        unfold shpR at h2
        unfold shV at h3
        unfold Img.v at hF h1 h2 ⊢
        refine cOf (by kernel_rfl) rfl ?_
        rw [g5_eq]
        simp only [g5, go1, Option.bind_some, eq_self, cond_true, cond_false, Nat.reduceAdd, Int.reduceEq, Int.reduceLT, Int.reduceLE, Int.reduceSub, Int.reduceAdd, hF, hLv, irows_len, decF hc, h1, c_sNum, he, h2, h3]
      | true =>
        obtain ⟨_, h5, m, u, e, rfl, hu, k1, k2⟩ := c23 (shpOf x) x.code cells R hR0 hR x.code.length (bAt_le 0) (by omega) q2 (by omega) (by omega) (hb3 rfl).2 hr hcn
        rw [← hlen] at h5
        have hu' : u ≤ soundN x := by rw [hlen]; exact hu
        unfold shpR at h2
        unfold shV at h3
        unfold Img.v at hF h1 h2 ⊢
        refine cOf (by kernel_rfl) rfl ?_
        rw [g5_eq]
        simp only [g5, go1, Option.bind_some, eq_self, cond_true, cond_false, Nat.reduceAdd, Int.reduceEq, Int.reduceLT, Int.reduceLE, Int.reduceSub, Int.reduceAdd, hF, hLv, irows_len, decF hc, h1, c_sNum, he, h2, h3, h5, decT hu', decF k1, decF k2]
    · unfold Img.v at hF h1 ⊢
      refine cOf (by kernel_rfl) rfl ?_
      rw [g5_eq]
      simp only [g5, go1, Option.bind_some, eq_self, cond_true, cond_false, Nat.reduceAdd, Int.reduceEq, Int.reduceLT, Int.reduceLE, Int.reduceSub, Int.reduceAdd, hF, hLv, irows_len, decF hc, h1, c_sNum, decF he]
end Go.Vm
end
