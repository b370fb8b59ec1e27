/- Plain Lean: ClockParts over the printed functions. -/
import Derived.Test.YtnkpegldckdahaaDoorMxp
import Derived.Test.YtnkpegldckdahaaDoorCkPBase
set_option linter.unusedVariables false
set_option linter.unusedSimpArgs false
namespace Go.Proofs.YtnkpegldckdahaaDoor.Ck
open Go.RowKit Go.Lib Go.Proofs.YtnkpegldckdahaaDoorW.PrintWords Go.Proofs.YtnkpegldckdahaaDoor.M
def refR (Y M D h i s : Int) : Int × Int × Int × Int × Int × Int × Int := if Y > 9999 then (0, 0, 0, 0, 0, 0, 50) else (Y, M, D, h, i, s, 0)
theorem rl1 (Y M D z h i s : Int) (hY : 0 ≤ Y) (m1 : M ≤ 12) (d0 : 1 ≤ D) (d1 : D ≤ mo Y M) : ∀ (n : Nat) (m : Int), 1 ≤ m → M - m = n → Ev (fun k => chirographref05_Parts.l1 k (dbm Y M - dbm Y m + D - 1) Y m z h i s) (refR Y M D h i s)
  | 0, m, h1, hm => by
    obtain rfl : m = M := by omega
    refine Ev.value (fun k => ?_)
    have := mo_pos Y m
    simp only [chirographref05_Parts.l1, month_eq Y m hY, refR]
    show (if dbm Y m - dbm Y m + D - 1 ≥ mo Y m then _ else _) = _
    rw [if_neg (by omega), w64 (by omega) (by omega)]
    split
    · rfl
    · rw [show dbm Y m - dbm Y m + D - 1 + 1 = D by omega]
  | n + 1, m, h1, hm => by
    have hs := dbm_succ Y m h1 (by omega)
    have hd := dbm_mono Y m M h1 (by omega) m1
    have h3 := mo_pos Y m
    have h4 := mo_pos Y M
    have h5 := doy_lt (Y := Y) (M := M) (D := D) (by omega) m1 d0 d1
    have h6 := yr_two Y
    have h7 : 0 ≤ dbm Y m := by unfold dbm; rcases h6 with h | h <;> rw [h] <;> repeat (first | split | omega)
    refine Ev.step (f := fun k => chirographref05_Parts.l1 k (wrap64 (dbm Y M - dbm Y m + D - 1 - mo Y m)) Y (wrap64 (m + 1)) z h i s) (fun k => ?_) ?_
    · simp only [chirographref05_Parts.l1, month_eq Y m hY]
      show (if dbm Y M - dbm Y m + D - 1 ≥ mo Y m then _ else _) = _
      rw [if_pos (by omega)]
      rfl
    · rw [w64 (by omega) (by omega), w64 (by omega) (by omega), show dbm Y M - dbm Y m + D - 1 - mo Y m = dbm Y M - dbm Y (m + 1) + D - 1 by omega]
      exact rl1 Y M D z h i s hY m1 d0 d1 n (m + 1) (by omega) (by omega)
theorem rl0 (Y M D z h i s : Int) (hY : 0 ≤ Y) (hY2 : dby Y ≤ 100000000) (m0 : 1 ≤ M) (m1 : M ≤ 12) (d0 : 1 ≤ D) (d1 : D ≤ mo Y M) : ∀ (n : Nat) (y : Int), 0 ≤ y → Y - y = n → Ev (fun k => chirographref05_Parts.l0 k (dn Y M D - dby y) y 1 z h i s) (refR Y M D h i s)
  | 0, y, h1, hm => by
    obtain rfl : y = Y := by omega
    have h5 := doy_lt (Y := y) m0 m1 d0 d1
    refine Ev.step (f := fun k => chirographref05_Parts.l1 k (dn y M D - dby y) y 1 z h i s) (fun k => ?_) ?_
    · simp only [chirographref05_Parts.l0, year_eq y hY]
      show (if dn y M D - dby y ≥ yr y then _ else _) = _
      rw [if_neg (by unfold dn; omega)]
    · have := rl1 y M D z h i s hY m1 d0 d1 (M - 1).toNat 1 (by omega) (by omega)
      rw [show dbm y M - dbm y 1 + D - 1 = dn y M D - dby y by unfold dn; simp [dbm]; omega] at this
      exact this
  | n + 1, y, h1, hm => by
    have hd := dn_year m0 m1 d0 d1
    have h2 := dby_succ y
    have h3 := dby_mono (a := y + 1) (b := Y) (by omega)
    have h4 := yr_two y
    have h5 := dby_mono (a := 0) (b := y) h1
    rw [dby0] at h5
    have h6 := dby_succ Y
    have h7 := yr_two Y
    have h8 : y ≤ dby y := by unfold dby; omega
    refine Ev.step (f := fun k => chirographref05_Parts.l0 k (wrap64 (dn Y M D - dby y - yr y)) (wrap64 (y + 1)) 1 z h i s) (fun k => ?_) ?_
    · simp only [chirographref05_Parts.l0, year_eq y h1]
      show (if dn Y M D - dby y ≥ yr y then _ else _) = _
      rw [if_pos (by omega)]
      rfl
    · rw [w64 (by omega) (by omega), w64 (by omega) (by omega), show dn Y M D - dby y - yr y = dn Y M D - dby (y + 1) by omega]
      exact rl0 Y M D z h i s hY hY2 m0 m1 d0 d1 n (y + 1) (by omega) (by omega)
theorem refparts_ev (a : Int) (ha : -9223372036854775808 ≤ a ∧ a ≤ 9223372036854775807) : Ev (fun k => chirographref05_Parts.f k a) (partsV a) := by
  unfold chirographref05_Parts.f
  by_cases c1 : a < -62167219200
  · rw [partsV_bad (.inl c1)]
    simp only [if_pos c1]
    exact Ev.value (fun k => by simp only [chirographref05_Parts.j0, if_true])
  simp only [if_neg c1]
  by_cases c2 : a > 400000000000
  · rw [partsV_bad (.inr (by omega))]
    simp only [decide_eq_true c2]
    exact Ev.value (fun k => by simp only [chirographref05_Parts.j0, if_true])
  simp only [decide_eq_false c2]
  obtain ⟨d, hd⟩ : ∃ d, (a + 62167219200) / 86400 = d := ⟨_, rfl⟩
  obtain ⟨t, ht⟩ : ∃ t, (a + 62167219200) % 86400 = t := ⟨_, rfl⟩
  obtain ⟨Y, M, D, hY, m0, m1, d0, d1, hdn⟩ := day_has d (by omega)
  have hy := dn_year m0 m1 d0 d1
  have e : partsV a = refR Y M D (t / 3600) (t / 60 % 60) (t % 60) := by
    unfold refR
    split
    · have := dby_mono (a := 10000) (b := Y) (by omega)
      rw [dby1e4] at this
      exact partsV_bad (.inr (by omega))
    · have H : May Y M D (t / 3600) (t / 60 % 60) (t % 60) := ⟨hY, by omega, m0, m1, d0, d1, by omega, by omega, by omega, by omega, by omega, by omega⟩
      have es : secs Y M D (t / 3600) (t / 60 % 60) (t % 60) = a := by unfold secs sod; rw [hdn]; omega
      rw [← es]
      exact partsV_secs H
  rw [e]
  refine Ev.step (f := fun k => chirographref05_Parts.l0 k (dn Y M D - dby 0) 0 1 0 (t / 3600) (t / 60 % 60) (t % 60)) (fun k => ?_) (rl0 Y M D 0 _ _ _ hY (by omega) m0 m1 d0 d1 Y.toNat 0 (by omega) (by omega))
  have e60 : (a + 62167219200) % 60 = t % 60 := by omega
  simp only [chirographref05_Parts.j0]
  rw [if_neg (by decide), w64 (x := a + 62167219200) (by omega) (by omega), td (by omega), tm (b := 86400) (by omega), tm (b := 60) (a := a + 62167219200) (by omega), ht, hd, e60, w64 (by omega) (by omega), td (by omega), td (by omega), w64 (by omega) (by omega), w64 (by omega) (by omega), tm (by omega), hdn, dby0, Int.sub_zero]
theorem parts_pure : chirographlaw05_ClockParts.Pure := by
  intro a0 ha
  refine Ev.rounds ?_
  unfold chirographlaw05_ClockParts.f
  refine Ev.bind (a := partsV a0) (Ev.value' fun _ => rfl) ?_
  refine Ev.bind (refparts_ev a0 (int_of_wf ha)) ?_
  simp only [beq_self_eq_true, Bool.and_self, if_true]
  refine Ev.bind (a := (partsV a0).2.2.2.2.2.2) (Ev.value' fun _ => rfl) ?_
  simp only [if_true]
  exact live_end

end Go.Proofs.YtnkpegldckdahaaDoor.Ck
