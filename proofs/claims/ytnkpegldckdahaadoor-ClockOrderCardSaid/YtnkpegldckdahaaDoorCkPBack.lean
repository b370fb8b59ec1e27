/- Plain Lean: ClockBack and ClockOrder over the printed functions. -/
import Derived.Test.YtnkpegldckdahaaDoorMx8
import Derived.Test.YtnkpegldckdahaaDoorCkPBase
set_option linter.unusedVariables false
set_option linter.unusedSimpArgs false
namespace Go.Proofs.YtnkpegldckdahaaDoor.Ck
open Go.RowKit Go.Lib Go.Proofs.YtnkpegldckdahaaDoorW.PrintWords Go.Proofs.YtnkpegldckdahaaDoor.M
theorem back_j0 (x : Int) : Ev (fun k => chirographlaw05_ClockBack.j0 k x) true := by
  refine Ev.step (f := _) (fun k => by simp only [chirographlaw05_ClockBack.j0]; rfl) ?_
  refine Ev.bind (a := partsV x) (Ev.value' fun _ => rfl) ?_
  by_cases hb : x < -62167219200 ∨ x ≥ 253402300800
  · rw [partsV_bad hb]
    exact Ev.value' (fun k => rfl)
  · obtain ⟨Y, M, D, h, i, s, e, H, es⟩ := partsV_ok (a := x) (by omega) (by omega)
    rw [e]
    refine Ev.bind (a := (0 : Int)) (Ev.value' fun _ => rfl) ?_
    simp only [if_true]
    refine Ev.bind (seconds_ev Y M D h i s) ?_
    rw [secR_yes H, es]
    refine Ev.bind (a := (0 : Int)) (Ev.value' fun _ => rfl) ?_
    simp only [if_true]
    exact live_end
theorem back_ev (Y M D h i s x : Int) : Ev (fun k => chirographlaw05_ClockBack.f k Y M D h i s x) true := by
  unfold chirographlaw05_ClockBack.f
  refine Ev.bind (seconds_ev Y M D h i s) ?_
  by_cases H : May Y M D h i s
  · rw [secR_yes H]
    refine Ev.bind (a := (0 : Int)) (Ev.value' fun _ => rfl) ?_
    simp only [if_true]
    refine Ev.bind (a := partsV (secs Y M D h i s)) (Ev.value' fun _ => rfl) ?_
    rw [partsV_secs H]
    refine Ev.bind (a := (0 : Int)) (Ev.value' fun _ => rfl) ?_
    simp only [if_true, beq_self_eq_true, Bool.not_true, Bool.or_self, Bool.false_eq_true, if_false]
    exact back_j0 x
  · rw [secR_no H]
    refine Ev.bind (a := (50 : Int)) (Ev.value' fun _ => rfl) ?_
    simp only [show ¬ ((50 : Int) = 0) by decide, if_false]
    exact back_j0 x

theorem later_secs {Y M D h i s Y' M' D' h' i' s' : Int} (H : May Y M D h i s) (H' : May Y' M' D' h' i' s') : later Y M D h i s Y' M' D' h' i' s' = decide (secs Y M D h i s > secs Y' M' D' h' i' s') := by
  rw [Bool.eq_iff_iff, decide_eq_true_iff]
  unfold later
  constructor
  · intro hl
    have : secs Y' M' D' h' i' s' < secs Y M D h i s := by
      refine secs_lt H' H ?_
      repeat' split at hl
      all_goals (first | (simp at hl; done) | (simp at hl; omega))
    omega
  · intro hl
    by_cases q : Y' < Y ∨ (Y' = Y ∧ (M' < M ∨ (M' = M ∧ (D' < D ∨ (D' = D ∧ (h' < h ∨ (h' = h ∧ (i' < i ∨ (i' = i ∧ s' < s)))))))))
    · repeat' split
      all_goals (simp; omega)
    · exfalso
      by_cases q2 : Y = Y' ∧ M = M' ∧ D = D' ∧ h = h' ∧ i = i' ∧ s = s'
      · obtain ⟨rfl, rfl, rfl, rfl, rfl, rfl⟩ := q2
        omega
      · have := secs_lt H H' (by omega)
        omega
theorem order_true (x y : Int) (a0 a1 a2 a3 a4 a5 b0 b1 b2 b3 b4 b5 : Int) : Ev (fun k => chirographlaw05_ClockOrder.j0 k x y true a0 a1 a2 a3 a4 a5 b0 b1 b2 b3 b4 b5) true := by
  refine Ev.step (f := fun _ => (chirographlaw05_live.f).bind fun t => (some t)) (fun k => by simp only [chirographlaw05_ClockOrder.j0, if_true]) live_end
theorem order_ev (Y M D h i s Y' M' D' h' i' s' : Int) : Ev (fun k => chirographlaw05_ClockOrder.f k Y M D h i s Y' M' D' h' i' s') true := by
  unfold chirographlaw05_ClockOrder.f
  refine Ev.bind (seconds_ev Y M D h i s) (Ev.bind (seconds_ev Y' M' D' h' i' s') ?_)
  by_cases H : May Y M D h i s
  · rw [secR_yes H]
    refine Ev.bind (a := (0 : Int)) (Ev.value' fun _ => rfl) ?_
    simp only [if_true]
    by_cases H' : May Y' M' D' h' i' s'
    · rw [secR_yes H']
      refine Ev.bind (a := (0 : Int)) (Ev.value' fun _ => rfl) ?_
      refine Ev.step (f := fun _ => (chirographlaw05_live.f).bind fun t => (some t)) (fun k => ?_) live_end
      simp only [chirographlaw05_ClockOrder.j0, chirographlaw05_behind.f, later_secs H H']
      rw [if_neg (by decide)]
      show (if (decide (secs Y M D h i s > secs Y' M' D' h' i' s') == decide (secs Y M D h i s > secs Y' M' D' h' i' s')) = true then _ else _) = _
      rw [if_pos (by simp), if_pos ?_]
      rw [beq_iff_eq, Bool.eq_iff_iff]
      simp only [beq_iff_eq, Bool.and_eq_true]
      constructor
      · intro e
        exact secs_inj H H' e
      · rintro ⟨rfl, rfl, rfl, rfl, rfl, rfl⟩
        rfl
    · rw [secR_no H']
      refine Ev.bind (a := (50 : Int)) (Ev.value' fun _ => rfl) ?_
      exact order_true ..
  · rw [secR_no H]
    refine Ev.bind (a := (50 : Int)) (Ev.value' fun _ => rfl) ?_
    simp only [show ¬ ((50 : Int) = 0) by decide, if_false]
    exact order_true ..

/-! the walks, for the cards -/
theorem back_walk (a0 a1 a2 a3 a4 a5 a6 : Int) (w : World) (w0 : (Lit.int .i64 a0).wf = true) (w1 : (Lit.int .i64 a1).wf = true) (w2 : (Lit.int .i64 a2).wf = true) (w3 : (Lit.int .i64 a3).wf = true) (w4 : (Lit.int .i64 a4).wf = true) (w5 : (Lit.int .i64 a5).wf = true) (w6 : (Lit.int .i64 a6).wf = true) (hT : Tabs w) :
    Calls Tryd.prog 5 #[.agg #[.int .i64 a0, .int .i64 a1, .int .i64 a2, .int .i64 a3, .int .i64 a4, .int .i64 a5], .int .i64 a6] w fun e w' => e = .returned (.bool true) ∧ Below w.heap.size w w' := by
  obtain ⟨k, h⟩ := (back_ev a0 a1 a2 a3 a4 a5 a6).rounds
  exact chirographlaw05_ClockBack.calls k a0 a1 a2 a3 a4 a5 a6 true w hT h
theorem order_walk (a0 a1 a2 a3 a4 a5 b0 b1 b2 b3 b4 b5 : Int) (w : World) (w0 : (Lit.int .i64 a0).wf = true) (w1 : (Lit.int .i64 a1).wf = true) (w2 : (Lit.int .i64 a2).wf = true) (w3 : (Lit.int .i64 a3).wf = true) (w4 : (Lit.int .i64 a4).wf = true) (w5 : (Lit.int .i64 a5).wf = true)
    (v0 : (Lit.int .i64 b0).wf = true) (v1 : (Lit.int .i64 b1).wf = true) (v2 : (Lit.int .i64 b2).wf = true) (v3 : (Lit.int .i64 b3).wf = true) (v4 : (Lit.int .i64 b4).wf = true) (v5 : (Lit.int .i64 b5).wf = true) (hT : Tabs w) :
    Calls Tryd.prog 6 #[.agg #[.int .i64 a0, .int .i64 a1, .int .i64 a2, .int .i64 a3, .int .i64 a4, .int .i64 a5], .agg #[.int .i64 b0, .int .i64 b1, .int .i64 b2, .int .i64 b3, .int .i64 b4, .int .i64 b5]] w fun e w' => e = .returned (.bool true) ∧ Below w.heap.size w w' := by
  obtain ⟨k, h⟩ := (order_ev a0 a1 a2 a3 a4 a5 b0 b1 b2 b3 b4 b5).rounds
  exact chirographlaw05_ClockOrder.calls k a0 a1 a2 a3 a4 a5 b0 b1 b2 b3 b4 b5 true w hT h
end Go.Proofs.YtnkpegldckdahaaDoor.Ck
