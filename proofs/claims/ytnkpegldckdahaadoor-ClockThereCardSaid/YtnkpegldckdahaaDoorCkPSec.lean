/- Plain Lean: clock.Seconds over the printed functions. -/
import Derived.Test.YtnkpegldckdahaaDoorMx3
import Derived.Test.YtnkpegldckdahaaDoorCkPartsLaw
set_option linter.unusedVariables false
namespace Go.Proofs.YtnkpegldckdahaaDoor.Ck
open Go.RowKit Go.Lib Go.Proofs.YtnkpegldckdahaaDoorW.PrintWords Go.Proofs.YtnkpegldckdahaaDoor.M
theorem Ev.value {α : Type} {g : Nat → Option α} {r : α} (h : ∀ k, g (k + 1) = some r) : Ev g r := Ev.step (f := fun _ => some r) h (Ev.now r)
theorem Ev.value' {α : Type} {g : Nat → Option α} {r : α} (h : ∀ k, g k = some r) : Ev g r := Ev.congr (f := fun _ => some r) h (Ev.now r)
theorem days_ev (y m : Int) (hy : 0 ≤ y) : Ev (fun k => clock_days.f k y m) (mo y m) := by
  refine Ev.value (fun k => ?_)
  simp only [clock_days.f, clock_days.j0, tm hy, mo, yr]
  by_cases h4 : m = 4
  · subst h4; simp
  by_cases h6 : m = 6
  · subst h6; simp
  by_cases h9 : m = 9
  · subst h9; simp
  by_cases h11 : m = 11
  · subst h11; simp
  by_cases h2 : m = 2
  · subst h2
    simp only [show ((2 : Int) == 11) = false from rfl, if_neg h4, if_neg h6, if_neg h9, if_true, if_false, Bool.false_eq_true]
    split <;> split <;> (try split) <;> (try split) <;> simp <;> omega
  · have : (m == 11) = false := by simpa using h11
    simp [h4, h6, h9, h2, this, h11]
theorem civil_eq (y m d : Int) (hy : 0 ≤ y) (hy' : y ≤ 10000) (hm : 1 ≤ m) (hm' : m ≤ 12) (hd : 1 ≤ d) (hd' : d ≤ 31) : clock_civil.f y m d = some (dn y m d - 719528) := by
  rw [← civ_eq y m d hm hm']
  simp only [clock_civil.f, civ]
  split
  · simp (disch := omega) only [w64, td]
  · simp (disch := omega) only [w64, td]
theorem sec_bad3 (Y M D h i s : Int) : Ev (fun k => clock_Seconds.j3 k true Y M D h i s) (0, 50) := Ev.value (fun k => by simp only [clock_Seconds.j3, if_true])
theorem sec_bad2 (Y M D h i s : Int) : Ev (fun k => clock_Seconds.j2 k true Y M D h i s) (0, 50) := Ev.step (fun k => by simp only [clock_Seconds.j2, if_true]) (sec_bad3 Y M D h i s)
theorem sec_bad1 (Y M D h i s : Int) : Ev (fun k => clock_Seconds.j1 k true Y M D h i s) (0, 50) := Ev.step (fun k => by simp only [clock_Seconds.j1, if_true]) (sec_bad3 Y M D h i s)
theorem sec_bad0 (Y M D h i s : Int) : Ev (fun k => clock_Seconds.j0 k true Y M D h i s) (0, 50) := Ev.step (fun k => by simp only [clock_Seconds.j0, if_true]) (sec_bad3 Y M D h i s)
def secR (Y M D h i s : Int) : Int × Int := if may Y M D h i s = true then (secs Y M D h i s, 0) else (0, 50)
theorem secR_no {Y M D h i s : Int} (n : ¬ May Y M D h i s) : secR Y M D h i s = (0, 50) := by
  unfold secR
  rw [if_neg (fun c => n (may_iff.1 c))]
theorem secR_yes {Y M D h i s : Int} (n : May Y M D h i s) : secR Y M D h i s = (secs Y M D h i s, 0) := by
  unfold secR
  rw [if_pos (may_iff.2 n)]
theorem seconds_ev (Y M D h i s : Int) : Ev (fun k => clock_Seconds.f k Y M D h i s) (secR Y M D h i s) := by
  unfold clock_Seconds.f
  by_cases c1 : Y < 0
  · rw [secR_no (fun H => by have := H.y0; omega)]
    simp only [if_pos c1]
    exact sec_bad0 ..
  simp only [if_neg c1]
  by_cases c2 : Y > 9999
  · rw [secR_no (fun H => by have := H.y1; omega)]
    simp only [decide_eq_true c2]
    exact sec_bad0 ..
  simp only [decide_eq_false c2]
  refine Ev.step (f := fun k => if M < 1 then clock_Seconds.j1 k true Y M D h i s else clock_Seconds.j1 k (decide (M > 12)) Y M D h i s) (fun k => by simp only [clock_Seconds.j0]; rw [if_neg (by decide)]) ?_
  by_cases c3 : M < 1
  · rw [secR_no (fun H => by have := H.m0; omega)]
    simp only [if_pos c3]
    exact sec_bad1 ..
  simp only [if_neg c3]
  by_cases c4 : M > 12
  · rw [secR_no (fun H => by have := H.m1; omega)]
    simp only [decide_eq_true c4]
    exact sec_bad1 ..
  simp only [decide_eq_false c4]
  refine Ev.step (f := fun k => if h < 0 then clock_Seconds.j2 k true Y M D h i s else clock_Seconds.j2 k (decide (h > 23)) Y M D h i s) (fun k => by simp only [clock_Seconds.j1]; rw [if_neg (by decide)]) ?_
  by_cases c5 : h < 0
  · rw [secR_no (fun H => by have := H.h0; omega)]
    simp only [if_pos c5]
    exact sec_bad2 ..
  simp only [if_neg c5]
  by_cases c6 : h > 23
  · rw [secR_no (fun H => by have := H.h1; omega)]
    simp only [decide_eq_true c6]
    exact sec_bad2 ..
  simp only [decide_eq_false c6]
  refine Ev.step (f := fun k => if i < 0 then clock_Seconds.j3 k true Y M D h i s else if i > 59 then clock_Seconds.j3 k (decide (i > 59)) Y M D h i s else if s < 0 then clock_Seconds.j3 k true Y M D h i s else clock_Seconds.j3 k (decide (s > 59)) Y M D h i s) (fun k => by simp only [clock_Seconds.j2]; rw [if_neg (by decide)]) ?_
  by_cases c7 : i < 0
  · rw [secR_no (fun H => by have := H.i0; omega)]
    simp only [if_pos c7]
    exact sec_bad3 ..
  simp only [if_neg c7]
  by_cases c8 : i > 59
  · rw [secR_no (fun H => by have := H.i1; omega)]
    simp only [if_pos c8, decide_eq_true c8]
    exact sec_bad3 ..
  simp only [if_neg c8]
  by_cases c9 : s < 0
  · rw [secR_no (fun H => by have := H.s0; omega)]
    simp only [if_pos c9]
    exact sec_bad3 ..
  simp only [if_neg c9]
  by_cases c10 : s > 59
  · rw [secR_no (fun H => by have := H.s1; omega)]
    simp only [decide_eq_true c10]
    exact sec_bad3 ..
  simp only [decide_eq_false c10]
  by_cases c11 : D < 1
  · rw [secR_no (fun H => by have := H.d0; omega)]
    refine Ev.value (fun k => ?_)
    simp only [clock_Seconds.j3]
    rw [if_neg (by decide), if_pos c11]
  refine Ev.step (f := fun k => (clock_days.f k Y M).bind fun t102 => (if D > t102 then (some (0, 50)) else ((clock_civil.f Y M D).bind fun t103 => (some (wrap64 ((wrap64 ((wrap64 ((wrap64 (86400 * t103)) + (wrap64 (3600 * h)))) + (wrap64 (60 * i)))) + s), 0))))) (fun k => by simp only [clock_Seconds.j3]; rw [if_neg (by decide), if_neg c11]) ?_
  refine Ev.bind (days_ev Y M (by omega)) ?_
  by_cases c12 : D > mo Y M
  · rw [secR_no (fun H => by have := H.d1; omega)]
    exact Ev.value' (fun k => by rw [if_pos c12])
  have H : May Y M D h i s := ⟨by omega, by omega, by omega, by omega, by omega, by omega, by omega, by omega, by omega, by omega, by omega, by omega⟩
  rw [secR_yes H]
  have hr := secs_range H
  have hmo := mo_pos Y M
  refine Ev.value' (fun k => ?_)
  rw [if_neg c12, civil_eq Y M D (by omega) (by omega) (by omega) (by omega) (by omega) (by omega)]
  have e : secs Y M D h i s = (dn Y M D - 719528) * 86400 + (h * 3600 + i * 60 + s) := rfl
  rw [e] at hr ⊢
  show some (_, _) = _
  simp (disch := omega) only [w64]
  congr 2
  omega
end Go.Proofs.YtnkpegldckdahaaDoor.Ck
