/- Plain Lean: ClockSeconds over the printed functions. -/
import Derived.Test.YtnkpegldckdahaaDoorMx12
import Derived.Test.YtnkpegldckdahaaDoorCkPBase
set_option linter.unusedVariables false
set_option linter.unusedSimpArgs false
namespace Go.Proofs.YtnkpegldckdahaaDoor.Ck
open Go.RowKit Go.Lib Go.Proofs.YtnkpegldckdahaaDoorW.PrintWords Go.Proofs.YtnkpegldckdahaaDoor.M
theorem may_eq (Y M D h i s : Int) : chirographref05_May.f Y M D h i s = some (may Y M D h i s) := by
  have no : ¬ May Y M D h i s → may Y M D h i s = false := fun n => by
    rw [Bool.eq_false_iff]
    exact fun c => n (may_iff.1 c)
  unfold chirographref05_May.f
  by_cases c1 : Y < 0
  · rw [if_pos c1, no (fun H => by have := H.y0; omega)]
  rw [if_neg c1]
  by_cases c2 : Y > 9999
  · rw [if_pos c2, no (fun H => by have := H.y1; omega)]
  rw [if_neg c2]
  by_cases c3 : M < 1
  · rw [if_pos c3, no (fun H => by have := H.m0; omega)]
  rw [if_neg c3]
  by_cases c4 : M > 12
  · rw [if_pos c4, no (fun H => by have := H.m1; omega)]
  rw [if_neg c4]
  by_cases c5 : D < 1
  · rw [if_pos c5, no (fun H => by have := H.d0; omega)]
  rw [if_neg c5, month_eq Y M (by omega), Option.bind_some]
  by_cases c6 : D > mo Y M
  · rw [if_pos c6, no (fun H => by have := H.d1; omega)]
  rw [if_neg c6]
  by_cases c7 : h ≥ 0
  · rw [if_pos c7]
    by_cases c8 : h < 24
    · rw [if_pos c8]
      by_cases c9 : i ≥ 0
      · rw [if_pos c9]
        by_cases c10 : i < 60
        · rw [if_pos c10]
          by_cases c11 : s ≥ 0
          · rw [if_pos c11]
            by_cases c12 : s < 60
            · rw [decide_eq_true c12, may_iff.2 ⟨by omega, by omega, by omega, by omega, by omega, by omega, by omega, by omega, by omega, by omega, by omega, by omega⟩]
            · rw [decide_eq_false c12, no (fun H => by have := H.s1; omega)]
          · rw [if_neg c11, no (fun H => by have := H.s0; omega)]
        · rw [if_neg c10, no (fun H => by have := H.i1; omega)]
      · rw [if_neg c9, no (fun H => by have := H.i0; omega)]
    · rw [if_neg c8, no (fun H => by have := H.h1; omega)]
  · rw [if_neg c7, no (fun H => by have := H.h0; omega)]
theorem sl1 (Y M D h i s : Int) (H : May Y M D h i s) : ∀ (n : Nat) (m : Int), 1 ≤ m → M - m = n → Ev (fun k => chirographref05_Seconds.l1 k (D - 1 + dby Y + dbm Y m) m Y M D h i s) (secs Y M D h i s, 0)
  | 0, m, h1, hm => by
    obtain rfl : m = M := by omega
    have hr := secs_range H
    have hd := dn_year H.m0 H.m1 H.d0 H.d1
    have hy := dby_mono H.y0
    have hy2 := dby_mono (a := Y + 1) (b := 10000) (by have := H.y1; omega)
    rw [dby0] at hy
    rw [dby1e4] at hy2
    obtain ⟨y0, y1, m0, m1, d0, d1, h0, h1', i0, i1, s0, s1⟩ := H
    refine Ev.value (fun k => ?_)
    simp only [chirographref05_Seconds.l1]
    rw [if_neg (by omega)]
    have e : D - 1 + dby Y + dbm Y m = dn Y m D := by unfold dn; omega
    rw [e]
    unfold secs sod at hr ⊢
    rw [w64 (x := dn Y m D - 719528) (by omega) (by omega), w64 (x := (dn Y m D - 719528) * 86400) (by omega) (by omega), w64 (x := h * 3600) (by omega) (by omega), w64 (x := i * 60) (by omega) (by omega), w64 (x := (dn Y m D - 719528) * 86400 + h * 3600) (by omega) (by omega), w64 (x := (dn Y m D - 719528) * 86400 + h * 3600 + i * 60) (by omega) (by omega), w64 (by omega) (by omega)]
    congr 2
    omega
  | n + 1, m, h1, hm => by
    have hs := dbm_succ Y m h1 (by have := H.m1; omega)
    have h3 := mo_pos Y m
    have hd := doy_lt (Y := Y) H.m0 H.m1 H.d0 H.d1
    have hdm := dbm_mono Y m M h1 (by omega) H.m1
    have h6 := yr_two Y
    have h7 : 0 ≤ dbm Y m := by unfold dbm; rcases h6 with h | h <;> rw [h] <;> repeat (first | split | omega)
    have hy := dby_mono H.y0
    have hy2 := dby_mono (a := Y) (b := 10000) (by have := H.y1; omega)
    rw [dby0] at hy
    rw [dby1e4] at hy2
    have := H.m1
    have := H.d0
    have := H.d1
    have h8 := mo_pos Y M
    refine Ev.step (f := fun k => chirographref05_Seconds.l1 k (D - 1 + dby Y + dbm Y (m + 1)) (m + 1) Y M D h i s) (fun k => ?_) (sl1 Y M D h i s H n (m + 1) (by omega) (by omega))
    simp only [chirographref05_Seconds.l1, month_eq Y m H.y0, Option.bind_some]
    rw [if_pos (by omega), w64 (by omega) (by omega), w64 (by omega) (by omega), hs]
    congr 1
    omega
theorem sl0 (Y M D h i s : Int) (H : May Y M D h i s) : ∀ (n : Nat) (y : Int), 0 ≤ y → Y - y = n → Ev (fun k => chirographref05_Seconds.l0 k (D - 1 + dby y) y Y M D h i s) (secs Y M D h i s, 0)
  | 0, y, h1, hm => by
    obtain rfl : y = Y := by omega
    refine Ev.step (f := fun k => chirographref05_Seconds.l1 k (D - 1 + dby y + dbm y 1) 1 y M D h i s) (fun k => ?_) (sl1 y M D h i s H (M - 1).toNat 1 (by omega) (by have := H.m0; omega))
    simp only [chirographref05_Seconds.l0]
    rw [if_neg (by omega), show dbm y 1 = 0 by simp [dbm], Int.add_zero]
  | n + 1, y, h1, hm => by
    have hs := dby_succ y
    have h3 := yr_two y
    have hy := dby_mono h1
    have hy2 := dby_mono (a := y + 1) (b := 10000) (by have := H.y1; omega)
    rw [dby0] at hy
    rw [dby1e4] at hy2
    have := H.d0
    have := H.d1
    have h8 := mo_pos Y M
    have := H.y1
    refine Ev.step (f := fun k => chirographref05_Seconds.l0 k (D - 1 + dby (y + 1)) (y + 1) Y M D h i s) (fun k => ?_) (sl0 Y M D h i s H n (y + 1) (by omega) (by omega))
    simp only [chirographref05_Seconds.l0, year_eq y h1, Option.bind_some]
    rw [if_pos (by omega), w64 (by omega) (by omega), w64 (by omega) (by omega), hs]
    congr 1
    omega
theorem refsec_ev (Y M D h i s : Int) : Ev (fun k => chirographref05_Seconds.f k Y M D h i s) (secR Y M D h i s) := by
  unfold chirographref05_Seconds.f
  refine Ev.bind (a := may Y M D h i s) (Ev.value' fun _ => may_eq Y M D h i s) ?_
  by_cases H : May Y M D h i s
  · rw [may_iff.2 H, secR_yes H]
    simp only [if_true]
    have := H.d0
    have := H.d1
    have h8 := mo_pos Y M
    have hz := sl0 Y M D h i s H Y.toNat 0 (by omega) (by have := H.y0; omega)
    rw [dby0, Int.add_zero] at hz
    rw [w64 (by omega) (by omega)]
    exact hz
  · have e : may Y M D h i s = false := by rw [Bool.eq_false_iff]; exact fun c => H (may_iff.1 c)
    rw [e, secR_no H]
    exact Ev.value' fun _ => rfl
theorem seconds_law (Y M D h i s : Int) : Ev (fun k => chirographlaw05_ClockSeconds.f k Y M D h i s) true := by
  unfold chirographlaw05_ClockSeconds.f
  refine Ev.bind (seconds_ev Y M D h i s) (Ev.bind (refsec_ev Y M D h i s) ?_)
  simp only [if_true]
  refine Ev.bind (a := (secR Y M D h i s).2) (Ev.value' fun _ => rfl) ?_
  simp only [if_true]
  exact live_end
theorem seconds_walk (a0 a1 a2 a3 a4 a5 : Int) (w : World) (w0 : (Lit.int .i64 a0).wf = true) (w1 : (Lit.int .i64 a1).wf = true) (w2 : (Lit.int .i64 a2).wf = true) (w3 : (Lit.int .i64 a3).wf = true) (w4 : (Lit.int .i64 a4).wf = true) (w5 : (Lit.int .i64 a5).wf = true) (hT : Tabs w) :
    Calls Tryd.prog 3 #[.agg #[.int .i64 a0, .int .i64 a1, .int .i64 a2, .int .i64 a3, .int .i64 a4, .int .i64 a5]] w fun e w' => e = .returned (.bool true) ∧ Below w.heap.size w w' := by
  obtain ⟨k, h⟩ := (seconds_law a0 a1 a2 a3 a4 a5).rounds
  exact chirographlaw05_ClockSeconds.calls k a0 a1 a2 a3 a4 a5 true w hT h
end Go.Proofs.YtnkpegldckdahaaDoor.Ck
