/- Plain Lean: ClockNext over the printed functions. -/
import Derived.Test.YtnkpegldckdahaaDoorMx9
import Derived.Test.YtnkpegldckdahaaDoorCkPBase
set_option linter.unusedVariables false
set_option linter.unusedSimpArgs false
namespace Go.Proofs.YtnkpegldckdahaaDoor.Ck
open Go.RowKit Go.Lib Go.Proofs.YtnkpegldckdahaaDoorW.PrintWords Go.Proofs.YtnkpegldckdahaaDoor.M
/-! the next second -/
theorem w60 : wrap64 60 = 60 := w64 (by omega) (by omega)
theorem next_true (Y M D h i s Y' M' D' h' i' s' : Int) : chirographlaw05_ClockNext.j0 3 true Y M D h i s Y' M' D' h' i' s' = some true := by
  simp only [chirographlaw05_ClockNext.j0, if_true]; rfl
theorem next_ok (Y M D h i s Y' M' D' h' i' s' : Int) (H : May Y M D h i s) (H' : May Y' M' D' h' i' s') (e : secs Y' M' D' h' i' s' = secs Y M D h i s + 1) : chirographlaw05_ClockNext.j0 3 false Y M D h i s Y' M' D' h' i' s' = some true := by
  obtain ⟨y0, y1, m0, m1, d0, d1, h0, h1, i0, i1, s0, s1⟩ := id H
  have sa : ∀ Y M D h i s Y' M' D' h' i' s', May Y' M' D' h' i' s' → secs Y M D h i s + 1 = secs Y' M' D' h' i' s' → True := fun _ _ _ _ _ _ _ _ _ _ _ _ _ _ => trivial
  by_cases c1 : s < 59
  · have K : May Y M D h i (s + 1) := ⟨y0, y1, m0, m1, d0, d1, h0, h1, i0, i1, by omega, by omega⟩
    obtain ⟨rfl, rfl, rfl, rfl, rfl, rfl⟩ := secs_inj H' K (by rw [e]; unfold secs sod; omega)
    simp only [chirographlaw05_ClockNext.j0, w64 (x := s + 1) (by omega) (by omega)]
    simp [chirographlaw05_live.f]
  obtain rfl : s = 59 := by omega
  by_cases c2 : i < 59
  · have K : May Y M D h (i + 1) 0 := ⟨y0, y1, m0, m1, d0, d1, h0, h1, by omega, by omega, by omega, by omega⟩
    obtain ⟨rfl, rfl, rfl, rfl, rfl, rfl⟩ := secs_inj H' K (by rw [e]; unfold secs sod; omega)
    simp only [chirographlaw05_ClockNext.j0, chirographlaw05_ClockNext.j1, w64 (x := i + 1) (by omega) (by omega)]
    simp [chirographlaw05_live.f, c2, w60]
  obtain rfl : i = 59 := by omega
  by_cases c3 : h < 23
  · have K : May Y M D (h + 1) 0 0 := ⟨y0, y1, m0, m1, d0, d1, by omega, by omega, by omega, by omega, by omega, by omega⟩
    obtain ⟨rfl, rfl, rfl, rfl, rfl, rfl⟩ := secs_inj H' K (by rw [e]; unfold secs sod; omega)
    simp only [chirographlaw05_ClockNext.j0, chirographlaw05_ClockNext.j1, w64 (x := h + 1) (by omega) (by omega)]
    simp [chirographlaw05_live.f, c3, w60]
  obtain rfl : h = 23 := by omega
  have hmo := mo_pos Y M
  by_cases c4 : D < mo Y M
  · have K : May Y M (D + 1) 0 0 0 := ⟨y0, y1, m0, m1, by omega, by omega, by omega, by omega, by omega, by omega, by omega, by omega⟩
    obtain ⟨rfl, rfl, rfl, rfl, rfl, rfl⟩ := secs_inj H' K (by rw [e]; unfold secs sod dn; omega)
    simp only [chirographlaw05_ClockNext.j0, chirographlaw05_ClockNext.j1, chirographlaw05_ClockNext.j2, w64 (x := D + 1) (by omega) (by omega)]
    simp [chirographlaw05_live.f, w60, show ¬ (D + 1 = 1) by omega]
  obtain rfl : D = mo Y M := by omega
  by_cases c5 : M < 12
  · have K : May Y (M + 1) 1 0 0 0 := ⟨y0, y1, by omega, by omega, by omega, by have := mo_pos Y (M + 1); omega, by omega, by omega, by omega, by omega, by omega, by omega⟩
    obtain ⟨rfl, rfl, rfl, rfl, rfl, rfl⟩ := secs_inj H' K (by rw [e]; unfold secs sod dn; have := dbm_succ Y M m0 (by omega); omega)
    simp only [chirographlaw05_ClockNext.j0, chirographlaw05_ClockNext.j1, chirographlaw05_ClockNext.j2, w64 (x := M + 1) (by omega) (by omega)]
    simp [chirographlaw05_live.f, w60, show ¬ (M + 1 = 1) by omega, hmo.1]
  obtain rfl : M = 12 := by omega
  have m31 : mo Y 12 = 31 := by simp [mo]
  have hlast := dbm_last Y
  have hsu := dby_succ Y
  by_cases c6 : Y < 9999
  · have K : May (Y + 1) 1 1 0 0 0 := ⟨by omega, by omega, by omega, by omega, by omega, by have := mo_pos (Y + 1) 1; omega, by omega, by omega, by omega, by omega, by omega, by omega⟩
    obtain ⟨rfl, rfl, rfl, rfl, rfl, rfl⟩ := secs_inj H' K (by rw [e]; unfold secs sod dn; simp only [show dbm (Y + 1) 1 = 0 by simp [dbm]]; omega)
    simp only [chirographlaw05_ClockNext.j0, chirographlaw05_ClockNext.j1, chirographlaw05_ClockNext.j2, w64 (x := Y + 1) (by omega) (by omega)]
    simp [chirographlaw05_live.f, w60, m31]
  · obtain rfl : Y = 9999 := by omega
    exfalso
    have hr := secs_range H'
    rw [e] at hr
    have : dby 10000 = 3652425 := dby1e4
    have hz : secs 9999 12 (mo 9999 12) 23 59 59 = 253402300799 := by decide
    omega
theorem next_pure : chirographlaw05_ClockNext.Pure := by
  intro a0 ha
  obtain ⟨g1, g2⟩ := int_of_wf ha
  refine ⟨3, ?_⟩
  unfold chirographlaw05_ClockNext.f
  by_cases c0 : a0 > 1125899906842624
  · rw [if_pos c0]
    rfl
  rw [if_neg c0, w64 (by omega) (by omega)]
  rw [show clock_Parts.f a0 = some (partsV a0) from rfl, show clock_Parts.f (a0 + 1) = some (partsV (a0 + 1)) from rfl, Option.bind_some, Option.bind_some]
  by_cases b1 : a0 < -62167219200 ∨ a0 ≥ 253402300800
  · rw [partsV_bad b1]
    exact next_true 0 0 0 0 0 0 (partsV (a0 + 1)).1 (partsV (a0 + 1)).2.1 (partsV (a0 + 1)).2.2.1 (partsV (a0 + 1)).2.2.2.1 (partsV (a0 + 1)).2.2.2.2.1 (partsV (a0 + 1)).2.2.2.2.2.1
  obtain ⟨Y, M, D, h, i, s, e, H, es⟩ := partsV_ok (a := a0) (by omega) (by omega)
  rw [e]
  by_cases b2 : a0 + 1 < -62167219200 ∨ a0 + 1 ≥ 253402300800
  · rw [partsV_bad b2]
    exact next_true Y M D h i s 0 0 0 0 0 0
  obtain ⟨Y', M', D', h', i', s', e', H', es'⟩ := partsV_ok (a := a0 + 1) (by omega) (by omega)
  rw [e']
  exact next_ok Y M D h i s Y' M' D' h' i' s' H H' (by omega)
end Go.Proofs.YtnkpegldckdahaaDoor.Ck
