/- clock.Parts: what it gives for any seconds. Its condition: they are an int. -/
import Derived.Test.YtnkpegldckdahaaDoorCkParts
import Derived.Test.YtnkpegldckdahaaDoorCkCal
set_option linter.unusedVariables false
namespace Go.Proofs.YtnkpegldckdahaaDoor.Ck
open Go.RowKit Go.Lib
theorem w64 {x : Int} (h1 : -9223372036854775808 ≤ x) (h2 : x ≤ 9223372036854775807) : wrap64 x = x := by unfold wrap64; omega
theorem td {a b : Int} (h : 0 ≤ a) : Int.tdiv a b = a / b := Int.tdiv_eq_ediv_of_nonneg h
theorem tm {a b : Int} (h : 0 ≤ a) : Int.tmod a b = a % b := Int.tmod_eq_emod_of_nonneg h
def py (e : Int) : Int := (e % 146097 - e % 146097 / 1460 + e % 146097 / 36524 - e % 146097 / 146096) / 365
def pr (e : Int) : Int := e % 146097 - (365 * py e + py e / 4 - py e / 100)
def pk (e : Int) : Int := (5 * pr e + 2) / 153
def pY (e : Int) : Int := if pk e + 3 > 12 then 400 * (e / 146097 - 1) + py e + 1 else 400 * (e / 146097 - 1) + py e
def pM (e : Int) : Int := if pk e + 3 > 12 then pk e + 3 - 12 else pk e + 3
def pD (e : Int) : Int := pr e - (153 * pk e + 2) / 5 + 1
/-- a moment's six numbers, and the error -/
def partsV (a0 : Int) : Int × Int × Int × Int × Int × Int × Int :=
  if a0 < -62167219200 ∨ a0 ≥ 253402300800 then (0, 0, 0, 0, 0, 0, 50)
  else (pY (a0 / 86400 + 865565), pM (a0 / 86400 + 865565), pD (a0 / 86400 + 865565), a0 % 86400 / 3600, a0 % 86400 / 60 % 60, a0 % 86400 % 60, 0)
theorem pcore (e : Int) (he : 146037 ≤ e) : 0 ≤ py e ∧ py e < 400 ∧ 0 ≤ pr e ∧ pr e ≤ 365 ∧ 0 ≤ pk e ∧ pk e ≤ 11 ∧ 0 ≤ pY e ∧ 1 ≤ pM e ∧ pM e ≤ 12 ∧ 1 ≤ pD e ∧ pD e ≤ mo (pY e) (pM e) ∧ dn (pY e) (pM e) (pD e) = e - 146037 := by
  obtain ⟨a, b, c, d, f, g, hA, hB⟩ := cal_core e (py e) (pr e) (pk e) he rfl rfl rfl
  refine ⟨a, b, c, d, f, g, ?_⟩
  unfold pY pM pD
  by_cases hc : pk e + 3 > 12
  · obtain ⟨p, q, r, s⟩ := hA hc
    simp only [if_pos hc]
    exact ⟨p, by omega, by omega, q, r, s⟩
  · obtain ⟨p, q, r, s⟩ := hB hc
    simp only [if_neg hc]
    exact ⟨p, by omega, by omega, q, r, s⟩
theorem parts_may (a0 : Int) (h1 : ¬ a0 < -62167219200) (h2 : ¬ a0 ≥ 253402300800) :
    May (pY (a0 / 86400 + 865565)) (pM (a0 / 86400 + 865565)) (pD (a0 / 86400 + 865565)) (a0 % 86400 / 3600) (a0 % 86400 / 60 % 60) (a0 % 86400 % 60) ∧
    secs (pY (a0 / 86400 + 865565)) (pM (a0 / 86400 + 865565)) (pD (a0 / 86400 + 865565)) (a0 % 86400 / 3600) (a0 % 86400 / 60 % 60) (a0 % 86400 % 60) = a0 := by
  obtain ⟨_, _, _, _, _, _, hY, hM, hM', hD, hD', hdn⟩ := pcore (a0 / 86400 + 865565) (by omega)
  have hy := dn_year hM hM' hD hD'
  have hY9 : pY (a0 / 86400 + 865565) ≤ 9999 := by
    by_cases hc : pY (a0 / 86400 + 865565) ≤ 9999
    · exact hc
    · have := dby_mono (a := 10000) (b := pY (a0 / 86400 + 865565)) (by omega)
      rw [dby1e4] at this
      omega
  refine ⟨⟨hY, hY9, hM, hM', hD, hD', by omega, by omega, by omega, by omega, by omega, by omega⟩, ?_⟩
  unfold secs sod
  rw [hdn]
  omega
theorem floor_neg (a0 : Int) (h : Int.tmod a0 86400 < 0) : Int.tdiv a0 86400 = a0 / 86400 + 1 ∧ Int.tmod a0 86400 = a0 % 86400 - 86400 := by
  have h1 := Int.mul_tdiv_add_tmod a0 86400
  have h2 := Int.lt_tmod_of_pos a0 (b := 86400) (by omega)
  omega
theorem floor_pos (a0 : Int) (h : ¬ Int.tmod a0 86400 < 0) : Int.tdiv a0 86400 = a0 / 86400 ∧ Int.tmod a0 86400 = a0 % 86400 := by
  have h1 := Int.mul_tdiv_add_tmod a0 86400
  have h2 := Int.tmod_lt_of_pos a0 (b := 86400) (by omega)
  omega
set_option maxHeartbeats 8000000 in
theorem parts_calls (a0 : Int) (w : World) (hC1 : Civil 0 (-719528)) (hC2 : Civil 10000 2932897) :
    Calls Tryd.prog 14 #[.int .i64 a0] w fun e w' => e = .returned (.tuple #[.agg #[.int .i64 (partsV a0).1, .int .i64 (partsV a0).2.1, .int .i64 (partsV a0).2.2.1, .int .i64 (partsV a0).2.2.2.1, .int .i64 (partsV a0).2.2.2.2.1, .int .i64 (partsV a0).2.2.2.2.2.1], .int .i64 (partsV a0).2.2.2.2.2.2]) ∧ Below w.heap.size w w' := by
  by_cases h1 : a0 < -62167219200
  · have e : partsV a0 = (0, 0, 0, 0, 0, 0, 50) := by unfold partsV; rw [if_pos (.inl h1)]
    rw [e]
    exact parts_low a0 w hC1 hC2 h1
  by_cases h2 : a0 ≥ 253402300800
  · have e : partsV a0 = (0, 0, 0, 0, 0, 0, 50) := by unfold partsV; rw [if_pos (.inr h2)]
    rw [e]
    exact parts_high a0 w hC1 hC2 h1 h2
  have e0 : partsV a0 = (pY (a0 / 86400 + 865565), pM (a0 / 86400 + 865565), pD (a0 / 86400 + 865565), a0 % 86400 / 3600, a0 % 86400 / 60 % 60, a0 % 86400 % 60, 0) := by unfold partsV; rw [if_neg (by omega)]
  rw [e0]
  clear e0
  obtain ⟨c1, c2, c3, c4, c5, c6, _⟩ := pcore (a0 / 86400 + 865565) (by omega)
  obtain ⟨E, hE⟩ : ∃ E, a0 / 86400 + 865565 = E := ⟨_, rfl⟩
  rw [hE] at c1 c2 c3 c4 c5 c6 ⊢
  have y4 : 0 ≤ py E / 4 := by omega
  have hpy : py E = (E % 146097 - E % 146097 / 1460 + E % 146097 / 36524 - E % 146097 / 146096) / 365 := rfl
  have hpr : pr E = E % 146097 - (365 * py E + py E / 4 - py E / 100) := rfl
  have hpk : pk E = (5 * pr E + 2) / 153 := rfl
  by_cases hs : Int.tmod a0 86400 < 0
  · obtain ⟨f1, f2⟩ := floor_neg a0 hs
    by_cases hm : pk E + 3 > 12
    · have h0 := parts_neg_late a0 (Int.tdiv a0 86400) (Int.tmod a0 86400) (Int.tdiv a0 86400 - 1) (a0 % 86400) E (E / 146097) (E % 146097) (E % 146097 / 1460) (E % 146097 - E % 146097 / 1460) (E % 146097 / 36524) (E % 146097 - E % 146097 / 1460 + E % 146097 / 36524) (E % 146097 / 146096) (E % 146097 - E % 146097 / 1460 + E % 146097 / 36524 - E % 146097 / 146096) (py E) (365 * py E) (py E / 4) (365 * py E + py E / 4) (py E / 100) (365 * py E + py E / 4 - py E / 100) (pr E) (5 * pr E) (5 * pr E + 2) (pk E) (E / 146097 - 1) (400 * (E / 146097 - 1)) (400 * (E / 146097 - 1) + py E) (pk E + 3) (153 * pk E) (153 * pk E + 2) ((153 * pk E + 2) / 5) (pr E - (153 * pk E + 2) / 5) (pr E - (153 * pk E + 2) / 5 + 1) (a0 % 86400 / 3600) (a0 % 86400 / 60) (a0 % 86400 / 60 % 60) (a0 % 86400 % 60) (pk E + 3 - 12) (400 * (E / 146097 - 1) + py E + 1) w hC1 hC2 h1 h2 hs hm
        (by rw [f1]; exact w64 (by omega) (by omega))
        rfl
        (by rw [w64 (by omega) (by omega)])
        (by rw [w64 (by omega) (by omega)]; omega)
        (by rw [w64 (by omega) (by omega)]; omega)
        (by rw [td (by omega), w64 (by omega) (by omega)])
        (tm (by omega))
        (by rw [td (by omega), w64 (by omega) (by omega)])
        (by rw [w64 (by omega) (by omega)])
        (by rw [td (by omega), w64 (by omega) (by omega)])
        (by rw [w64 (by omega) (by omega)])
        (by rw [td (by omega), w64 (by omega) (by omega)])
        (by rw [w64 (by omega) (by omega)])
        (by rw [td (by omega), w64 (by omega) (by omega)]; rfl)
        (by rw [w64 (by omega) (by omega)])
        (by rw [td (by omega), w64 (by omega) (by omega)])
        (by rw [w64 (by omega) (by omega)])
        (by rw [td (by omega), w64 (by omega) (by omega)])
        (by rw [w64 (by omega) (by omega)])
        (by rw [w64 (by omega) (by omega)]; rfl)
        (by rw [w64 (by omega) (by omega)])
        (by rw [w64 (by omega) (by omega)])
        (by rw [td (by omega), w64 (by omega) (by omega)]; rfl)
        (by rw [w64 (by omega) (by omega)])
        (by rw [w64 (by omega) (by omega)])
        (by rw [w64 (by omega) (by omega)])
        (by rw [w64 (by omega) (by omega)])
        (by rw [w64 (by omega) (by omega)])
        (by rw [w64 (by omega) (by omega)])
        (by rw [td (by omega), w64 (by omega) (by omega)])
        (by rw [w64 (by omega) (by omega)])
        (by rw [w64 (by omega) (by omega)])
        (by rw [td (by omega), w64 (by omega) (by omega)])
        (by rw [td (by omega), w64 (by omega) (by omega)])
        (tm (by omega))
        (tm (by omega))
        (by rw [w64 (by omega) (by omega)])
        (by rw [w64 (by omega) (by omega)])
      have eY : pY E = (400 * (E / 146097 - 1) + py E + 1) := by unfold pY; rw [if_pos hm]
      have eM : pM E = (pk E + 3 - 12) := by unfold pM; rw [if_pos hm]
      rw [eY, eM]
      exact h0
    · have h0 := parts_neg a0 (Int.tdiv a0 86400) (Int.tmod a0 86400) (Int.tdiv a0 86400 - 1) (a0 % 86400) E (E / 146097) (E % 146097) (E % 146097 / 1460) (E % 146097 - E % 146097 / 1460) (E % 146097 / 36524) (E % 146097 - E % 146097 / 1460 + E % 146097 / 36524) (E % 146097 / 146096) (E % 146097 - E % 146097 / 1460 + E % 146097 / 36524 - E % 146097 / 146096) (py E) (365 * py E) (py E / 4) (365 * py E + py E / 4) (py E / 100) (365 * py E + py E / 4 - py E / 100) (pr E) (5 * pr E) (5 * pr E + 2) (pk E) (E / 146097 - 1) (400 * (E / 146097 - 1)) (400 * (E / 146097 - 1) + py E) (pk E + 3) (153 * pk E) (153 * pk E + 2) ((153 * pk E + 2) / 5) (pr E - (153 * pk E + 2) / 5) (pr E - (153 * pk E + 2) / 5 + 1) (a0 % 86400 / 3600) (a0 % 86400 / 60) (a0 % 86400 / 60 % 60) (a0 % 86400 % 60) w hC1 hC2 h1 h2 hs hm
        (by rw [f1]; exact w64 (by omega) (by omega))
        rfl
        (by rw [w64 (by omega) (by omega)])
        (by rw [w64 (by omega) (by omega)]; omega)
        (by rw [w64 (by omega) (by omega)]; omega)
        (by rw [td (by omega), w64 (by omega) (by omega)])
        (tm (by omega))
        (by rw [td (by omega), w64 (by omega) (by omega)])
        (by rw [w64 (by omega) (by omega)])
        (by rw [td (by omega), w64 (by omega) (by omega)])
        (by rw [w64 (by omega) (by omega)])
        (by rw [td (by omega), w64 (by omega) (by omega)])
        (by rw [w64 (by omega) (by omega)])
        (by rw [td (by omega), w64 (by omega) (by omega)]; rfl)
        (by rw [w64 (by omega) (by omega)])
        (by rw [td (by omega), w64 (by omega) (by omega)])
        (by rw [w64 (by omega) (by omega)])
        (by rw [td (by omega), w64 (by omega) (by omega)])
        (by rw [w64 (by omega) (by omega)])
        (by rw [w64 (by omega) (by omega)]; rfl)
        (by rw [w64 (by omega) (by omega)])
        (by rw [w64 (by omega) (by omega)])
        (by rw [td (by omega), w64 (by omega) (by omega)]; rfl)
        (by rw [w64 (by omega) (by omega)])
        (by rw [w64 (by omega) (by omega)])
        (by rw [w64 (by omega) (by omega)])
        (by rw [w64 (by omega) (by omega)])
        (by rw [w64 (by omega) (by omega)])
        (by rw [w64 (by omega) (by omega)])
        (by rw [td (by omega), w64 (by omega) (by omega)])
        (by rw [w64 (by omega) (by omega)])
        (by rw [w64 (by omega) (by omega)])
        (by rw [td (by omega), w64 (by omega) (by omega)])
        (by rw [td (by omega), w64 (by omega) (by omega)])
        (tm (by omega))
        (tm (by omega))
      have eY : pY E = (400 * (E / 146097 - 1) + py E) := by unfold pY; rw [if_neg hm]
      have eM : pM E = (pk E + 3) := by unfold pM; rw [if_neg hm]
      rw [eY, eM]
      exact h0
  · obtain ⟨f1, f2⟩ := floor_pos a0 hs
    by_cases hm : pk E + 3 > 12
    · have h0 := parts_pos_late a0 (Int.tdiv a0 86400) (Int.tmod a0 86400) E (E / 146097) (E % 146097) (E % 146097 / 1460) (E % 146097 - E % 146097 / 1460) (E % 146097 / 36524) (E % 146097 - E % 146097 / 1460 + E % 146097 / 36524) (E % 146097 / 146096) (E % 146097 - E % 146097 / 1460 + E % 146097 / 36524 - E % 146097 / 146096) (py E) (365 * py E) (py E / 4) (365 * py E + py E / 4) (py E / 100) (365 * py E + py E / 4 - py E / 100) (pr E) (5 * pr E) (5 * pr E + 2) (pk E) (E / 146097 - 1) (400 * (E / 146097 - 1)) (400 * (E / 146097 - 1) + py E) (pk E + 3) (153 * pk E) (153 * pk E + 2) ((153 * pk E + 2) / 5) (pr E - (153 * pk E + 2) / 5) (pr E - (153 * pk E + 2) / 5 + 1) (a0 % 86400 / 3600) (a0 % 86400 / 60) (a0 % 86400 / 60 % 60) (a0 % 86400 % 60) (pk E + 3 - 12) (400 * (E / 146097 - 1) + py E + 1) w hC1 hC2 h1 h2 hs hm
        (by rw [f1]; exact w64 (by omega) (by omega))
        rfl
        (by rw [w64 (by omega) (by omega)]; omega)
        (by rw [td (by omega), w64 (by omega) (by omega)])
        (tm (by omega))
        (by rw [td (by omega), w64 (by omega) (by omega)])
        (by rw [w64 (by omega) (by omega)])
        (by rw [td (by omega), w64 (by omega) (by omega)])
        (by rw [w64 (by omega) (by omega)])
        (by rw [td (by omega), w64 (by omega) (by omega)])
        (by rw [w64 (by omega) (by omega)])
        (by rw [td (by omega), w64 (by omega) (by omega)]; rfl)
        (by rw [w64 (by omega) (by omega)])
        (by rw [td (by omega), w64 (by omega) (by omega)])
        (by rw [w64 (by omega) (by omega)])
        (by rw [td (by omega), w64 (by omega) (by omega)])
        (by rw [w64 (by omega) (by omega)])
        (by rw [w64 (by omega) (by omega)]; rfl)
        (by rw [w64 (by omega) (by omega)])
        (by rw [w64 (by omega) (by omega)])
        (by rw [td (by omega), w64 (by omega) (by omega)]; rfl)
        (by rw [w64 (by omega) (by omega)])
        (by rw [w64 (by omega) (by omega)])
        (by rw [w64 (by omega) (by omega)])
        (by rw [w64 (by omega) (by omega)])
        (by rw [w64 (by omega) (by omega)])
        (by rw [w64 (by omega) (by omega)])
        (by rw [td (by omega), w64 (by omega) (by omega)])
        (by rw [w64 (by omega) (by omega)])
        (by rw [w64 (by omega) (by omega)])
        (by rw [f2, td (by omega), w64 (by omega) (by omega)])
        (by rw [f2, td (by omega), w64 (by omega) (by omega)])
        (tm (by omega))
        (by rw [f2]; exact tm (by omega))
        (by rw [w64 (by omega) (by omega)])
        (by rw [w64 (by omega) (by omega)])
      have eY : pY E = (400 * (E / 146097 - 1) + py E + 1) := by unfold pY; rw [if_pos hm]
      have eM : pM E = (pk E + 3 - 12) := by unfold pM; rw [if_pos hm]
      rw [eY, eM]
      exact h0
    · have h0 := parts_pos a0 (Int.tdiv a0 86400) (Int.tmod a0 86400) E (E / 146097) (E % 146097) (E % 146097 / 1460) (E % 146097 - E % 146097 / 1460) (E % 146097 / 36524) (E % 146097 - E % 146097 / 1460 + E % 146097 / 36524) (E % 146097 / 146096) (E % 146097 - E % 146097 / 1460 + E % 146097 / 36524 - E % 146097 / 146096) (py E) (365 * py E) (py E / 4) (365 * py E + py E / 4) (py E / 100) (365 * py E + py E / 4 - py E / 100) (pr E) (5 * pr E) (5 * pr E + 2) (pk E) (E / 146097 - 1) (400 * (E / 146097 - 1)) (400 * (E / 146097 - 1) + py E) (pk E + 3) (153 * pk E) (153 * pk E + 2) ((153 * pk E + 2) / 5) (pr E - (153 * pk E + 2) / 5) (pr E - (153 * pk E + 2) / 5 + 1) (a0 % 86400 / 3600) (a0 % 86400 / 60) (a0 % 86400 / 60 % 60) (a0 % 86400 % 60) w hC1 hC2 h1 h2 hs hm
        (by rw [f1]; exact w64 (by omega) (by omega))
        rfl
        (by rw [w64 (by omega) (by omega)]; omega)
        (by rw [td (by omega), w64 (by omega) (by omega)])
        (tm (by omega))
        (by rw [td (by omega), w64 (by omega) (by omega)])
        (by rw [w64 (by omega) (by omega)])
        (by rw [td (by omega), w64 (by omega) (by omega)])
        (by rw [w64 (by omega) (by omega)])
        (by rw [td (by omega), w64 (by omega) (by omega)])
        (by rw [w64 (by omega) (by omega)])
        (by rw [td (by omega), w64 (by omega) (by omega)]; rfl)
        (by rw [w64 (by omega) (by omega)])
        (by rw [td (by omega), w64 (by omega) (by omega)])
        (by rw [w64 (by omega) (by omega)])
        (by rw [td (by omega), w64 (by omega) (by omega)])
        (by rw [w64 (by omega) (by omega)])
        (by rw [w64 (by omega) (by omega)]; rfl)
        (by rw [w64 (by omega) (by omega)])
        (by rw [w64 (by omega) (by omega)])
        (by rw [td (by omega), w64 (by omega) (by omega)]; rfl)
        (by rw [w64 (by omega) (by omega)])
        (by rw [w64 (by omega) (by omega)])
        (by rw [w64 (by omega) (by omega)])
        (by rw [w64 (by omega) (by omega)])
        (by rw [w64 (by omega) (by omega)])
        (by rw [w64 (by omega) (by omega)])
        (by rw [td (by omega), w64 (by omega) (by omega)])
        (by rw [w64 (by omega) (by omega)])
        (by rw [w64 (by omega) (by omega)])
        (by rw [f2, td (by omega), w64 (by omega) (by omega)])
        (by rw [f2, td (by omega), w64 (by omega) (by omega)])
        (tm (by omega))
        (by rw [f2]; exact tm (by omega))
      have eY : pY E = (400 * (E / 146097 - 1) + py E) := by unfold pY; rw [if_neg hm]
      have eM : pM E = (pk E + 3) := by unfold pM; rw [if_neg hm]
      rw [eY, eM]
      exact h0
/-- a moment that is given has a month -/
theorem parts_ne {a0 t1 t2 t3 t4 t5 t6 t7 : Int} (h : some (partsV a0) = some (t1, t2, t3, t4, t5, t6, t7)) (c : ¬ (t1 == 0 && (t2 == 0 && (t3 == 0 && (t4 == 0 && (t5 == 0 && (t6 == 0)))))) = true) : (t2 == 0) = false := by
  have h := Option.some.inj h
  unfold partsV at h
  split at h
  · simp only [Prod.mk.injEq] at h
    obtain ⟨rfl, rfl, rfl, rfl, rfl, rfl, rfl⟩ := h
    exact absurd (by decide) c
  · simp only [Prod.mk.injEq] at h
    obtain ⟨_, _, _, _, _, _, _, hm, _⟩ := pcore (a0 / 86400 + 865565) (by omega)
    obtain ⟨_, rfl, _⟩ := h
    simp
    omega
end Go.Proofs.YtnkpegldckdahaaDoor.Ck
