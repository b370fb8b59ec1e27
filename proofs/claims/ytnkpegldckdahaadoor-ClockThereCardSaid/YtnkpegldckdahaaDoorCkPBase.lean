/- Plain Lean: what all laws of the clock end with; years and months of the document. -/
import Derived.Test.YtnkpegldckdahaaDoorMx7
import Derived.Test.YtnkpegldckdahaaDoorCkPStr
set_option linter.unusedVariables false
set_option linter.unusedSimpArgs false
namespace Go.Proofs.YtnkpegldckdahaaDoor.Ck
open Go.RowKit Go.Lib Go.Proofs.YtnkpegldckdahaaDoorW.PrintWords Go.Proofs.YtnkpegldckdahaaDoor.M
theorem int_of_wf {a : Int} (h : (Lit.int .i64 a).wf = true) : -9223372036854775808 ≤ a ∧ a ≤ 9223372036854775807 := bounds_i64 h
theorem live_end : Ev (fun _ => (chirographlaw05_live.f).bind fun t => (some t)) true := Ev.value' (fun _ => rfl)

/-! the document's own way: year by year, month by month -/
theorem year_eq (y : Int) (hy : 0 ≤ y) : chirographref05_year.f y = some (yr y) := by
  simp only [chirographref05_year.f, chirographref05_leap.f, tm hy, yr]
  by_cases h1 : y % 400 = 0
  · simp [h1]
  · by_cases h2 : y % 4 = 0
    · by_cases h3 : y % 100 = 0 <;> simp [h1, h2, h3]
    · simp [h1, h2]
theorem month_eq (y m : Int) (hy : 0 ≤ y) : chirographref05_month.f y m = some (mo y m) := by
  simp only [chirographref05_month.f, year_eq y hy, mo]
  by_cases h2 : m = 2
  · simp only [h2, if_true]
    show some (wrap64 (yr y - 337)) = _
    have := yr_two y
    rw [w64 (by omega) (by omega)]
  · by_cases h4 : m = 4
    · subst h4; simp
    by_cases h6 : m = 6
    · subst h6; simp
    by_cases h9 : m = 9
    · subst h9; simp
    by_cases h11 : m = 11
    · subst h11; simp
    simp [h2, h4, h6, h9, h11]
end Go.Proofs.YtnkpegldckdahaaDoor.Ck
