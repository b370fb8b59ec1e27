/- The calendar in plain integers: years, months, days as one number; the seconds' moment is one and no other. -/
namespace Go.Proofs.YtnkpegldckdahaaDoor.Ck

def yr (y : Int) : Int := if y % 400 = 0 ∨ (y % 4 = 0 ∧ y % 100 ≠ 0) then 366 else 365
def dby (y : Int) : Int := 365 * y + (y + 3) / 4 - (y + 99) / 100 + (y + 399) / 400
theorem dby_succ (y : Int) : dby (y + 1) = dby y + yr y := by unfold dby yr; split <;> omega
theorem yr_two (y : Int) : yr y = 365 ∨ yr y = 366 := by unfold yr; split <;> omega
theorem dby_lt (y : Int) : dby y < dby (y + 1) := by rw [dby_succ]; rcases yr_two y with h | h <;> omega
theorem dby_mono {a b : Int} (h : a ≤ b) : dby a ≤ dby b := by unfold dby; omega
theorem dby_strict {a b : Int} (h : a < b) : dby a < dby b := by have := dby_lt a; have := dby_mono (a := a + 1) (b := b) h; omega
/-- days of a month -/
def mo (y m : Int) : Int := if m = 2 then yr y - 337 else if m = 4 ∨ m = 6 ∨ m = 9 ∨ m = 11 then 30 else 31
/-- days ahead of a month -/
def dbm (y m : Int) : Int := if m ≤ 1 then 0 else if m = 2 then 31 else (153 * (m - 3) + 2) / 5 + 59 + (yr y - 365)
theorem dbm_succ (y m : Int) (h1 : 1 ≤ m) (h2 : m ≤ 11) : dbm y (m + 1) = dbm y m + mo y m := by
  have : m = 1 ∨ m = 2 ∨ m = 3 ∨ m = 4 ∨ m = 5 ∨ m = 6 ∨ m = 7 ∨ m = 8 ∨ m = 9 ∨ m = 10 ∨ m = 11 := by omega
  rcases this with rfl | rfl | rfl | rfl | rfl | rfl | rfl | rfl | rfl | rfl | rfl <;> simp [dbm, mo] <;> omega
theorem dbm_last (y : Int) : dbm y 12 + mo y 12 = yr y := by simp [dbm, mo]; omega
theorem mo_pos (y m : Int) : 28 ≤ mo y m ∧ mo y m ≤ 31 := by unfold mo; rcases yr_two y with h | h <;> rw [h] <;> repeat (first | split | omega)
theorem dbm_mono (y a b : Int) (h1 : 1 ≤ a) (h : a < b) (h2 : b ≤ 12) : dbm y a + mo y a ≤ dbm y b := by
  have : a = 1 ∨ a = 2 ∨ a = 3 ∨ a = 4 ∨ a = 5 ∨ a = 6 ∨ a = 7 ∨ a = 8 ∨ a = 9 ∨ a = 10 ∨ a = 11 := by omega
  rcases yr_two y with hy | hy <;> rcases this with rfl | rfl | rfl | rfl | rfl | rfl | rfl | rfl | rfl | rfl | rfl <;> simp only [dbm, mo, hy] <;> simp <;> repeat (first | omega | split)
/-- what a moment is -/
structure May (Y M D h i s : Int) : Prop where
  y0 : 0 ≤ Y
  y1 : Y ≤ 9999
  m0 : 1 ≤ M
  m1 : M ≤ 12
  d0 : 1 ≤ D
  d1 : D ≤ mo Y M
  h0 : 0 ≤ h
  h1 : h < 24
  i0 : 0 ≤ i
  i1 : i < 60
  s0 : 0 ≤ s
  s1 : s < 60
def may (Y M D h i s : Int) : Bool := decide (0 ≤ Y ∧ Y ≤ 9999 ∧ 1 ≤ M ∧ M ≤ 12 ∧ 1 ≤ D ∧ D ≤ mo Y M ∧ 0 ≤ h ∧ h < 24 ∧ 0 ≤ i ∧ i < 60 ∧ 0 ≤ s ∧ s < 60)
theorem may_iff {Y M D h i s : Int} : may Y M D h i s = true ↔ May Y M D h i s := by
  unfold may
  rw [decide_eq_true_iff]
  exact ⟨fun ⟨a, b, c, d, e, f, g, h, i, j, k, l⟩ => ⟨a, b, c, d, e, f, g, h, i, j, k, l⟩, fun ⟨a, b, c, d, e, f, g, h, i, j, k, l⟩ => ⟨a, b, c, d, e, f, g, h, i, j, k, l⟩⟩
def dn (Y M D : Int) : Int := dby Y + dbm Y M + D - 1
def sod (h i s : Int) : Int := h * 3600 + i * 60 + s
def secs (Y M D h i s : Int) : Int := (dn Y M D - 719528) * 86400 + sod h i s
theorem dby0 : dby 0 = 0 := by decide
theorem dby1e4 : dby 10000 = 3652425 := by decide
theorem doy_lt {Y M D : Int} (m0 : 1 ≤ M) (m1 : M ≤ 12) (d0 : 1 ≤ D) (d1 : D ≤ mo Y M) : 0 ≤ dbm Y M + D - 1 ∧ dbm Y M + D - 1 < yr Y := by
  constructor
  · have : 0 ≤ dbm Y M := by unfold dbm; rcases yr_two Y with h | h <;> rw [h] <;> repeat (first | split | omega)
    omega
  · have hl := dbm_last Y
    rcases (by omega : M < 12 ∨ M = 12) with h | h
    · have := dbm_mono Y M 12 m0 h (by omega)
      have := mo_pos Y 12
      omega
    · subst h; omega
theorem dn_year {Y M D : Int} (m0 : 1 ≤ M) (m1 : M ≤ 12) (d0 : 1 ≤ D) (d1 : D ≤ mo Y M) : dby Y ≤ dn Y M D ∧ dn Y M D < dby (Y + 1) := by
  have := doy_lt m0 m1 d0 d1
  rw [dby_succ]; unfold dn; omega
theorem secs_range {Y M D h i s : Int} (H : May Y M D h i s) : -62167219200 ≤ secs Y M D h i s ∧ secs Y M D h i s < 253402300800 := by
  have h1 := dn_year H.m0 H.m1 H.d0 H.d1
  have h2 := dby_mono H.y0
  have h3 := dby_mono (a := Y + 1) (b := 10000) (by have := H.y1; omega)
  rw [dby0] at h2; rw [dby1e4] at h3
  have := H.h0; have := H.h1; have := H.i0; have := H.i1; have := H.s0; have := H.s1
  unfold secs sod
  omega
/-- of two moments' days the order is the order of year, month, day -/
theorem dn_lt {Y M D Y' M' D' : Int} (m0 : 1 ≤ M) (m1 : M ≤ 12) (d0 : 1 ≤ D) (d1 : D ≤ mo Y M) (m0' : 1 ≤ M') (m1' : M' ≤ 12) (d0' : 1 ≤ D') (d1' : D' ≤ mo Y' M')
    (h : Y < Y' ∨ (Y = Y' ∧ (M < M' ∨ (M = M' ∧ D < D')))) : dn Y M D < dn Y' M' D' := by
  rcases h with h | ⟨rfl, h | ⟨rfl, h⟩⟩
  · have h1 := dn_year m0 m1 d0 d1
    have h2 := dn_year m0' m1' d0' d1'
    have h3 := dby_mono (a := Y + 1) (b := Y') h
    omega
  · have := dbm_mono Y M M' m0 h m1'
    unfold dn; omega
  · unfold dn; omega
theorem secs_lt {Y M D h i s Y' M' D' h' i' s' : Int} (H : May Y M D h i s) (H' : May Y' M' D' h' i' s')
    (q : Y < Y' ∨ (Y = Y' ∧ (M < M' ∨ (M = M' ∧ (D < D' ∨ (D = D' ∧ (h < h' ∨ (h = h' ∧ (i < i' ∨ (i = i' ∧ s < s')))))))))) : secs Y M D h i s < secs Y' M' D' h' i' s' := by
  have := H.h0; have := H.h1; have := H.i0; have := H.i1; have := H.s0; have := H.s1
  have := H'.h0; have := H'.h1; have := H'.i0; have := H'.i1; have := H'.s0; have := H'.s1
  by_cases hd : Y < Y' ∨ (Y = Y' ∧ (M < M' ∨ (M = M' ∧ D < D')))
  · have := dn_lt H.m0 H.m1 H.d0 H.d1 H'.m0 H'.m1 H'.d0 H'.d1 hd
    unfold secs sod; omega
  · have e : Y = Y' ∧ M = M' ∧ D = D' := by omega
    obtain ⟨rfl, rfl, rfl⟩ := e
    unfold secs sod; omega
theorem secs_inj {Y M D h i s Y' M' D' h' i' s' : Int} (H : May Y M D h i s) (H' : May Y' M' D' h' i' s') (e : secs Y M D h i s = secs Y' M' D' h' i' s') : Y = Y' ∧ M = M' ∧ D = D' ∧ h = h' ∧ i = i' ∧ s = s' := by
  by_cases a : Y < Y' ∨ (Y = Y' ∧ (M < M' ∨ (M = M' ∧ (D < D' ∨ (D = D' ∧ (h < h' ∨ (h = h' ∧ (i < i' ∨ (i = i' ∧ s < s')))))))))
  · have := secs_lt H H' a; omega
  · by_cases b : Y' < Y ∨ (Y' = Y ∧ (M' < M ∨ (M' = M ∧ (D' < D ∨ (D' = D ∧ (h' < h ∨ (h' = h ∧ (i' < i ∨ (i' = i ∧ s' < s)))))))))
    · have := secs_lt H' H b; omega
    · omega

/-! The program's calendar: years from March on, in cycles of 400 years. -/
def dM (y : Nat) : Nat := if y = 400 then 146097 else 365 * y + y / 4 - y / 100
def gg (r : Nat) : Nat := r - r / 1460 + r / 36524 - r / 146096
theorem gg_step (r : Nat) : gg r ≤ gg (r + 1) := by unfold gg; omega
theorem gg_mono {a b : Nat} (h : a ≤ b) : gg a ≤ gg b := by
  induction b with
  | zero => have : a = 0 := by omega
            rw [this]; exact Nat.le_refl _
  | succ b ih =>
    rcases (by omega : a ≤ b ∨ a = b + 1) with h | h
    · exact Nat.le_trans (ih h) (gg_step b)
    · rw [h]; exact Nat.le_refl _
theorem gg_ends : ∀ y : Fin 400, 365 * y.1 ≤ gg (dM y.1) ∧ gg (dM (y.1 + 1) - 1) < 365 * (y.1 + 1) := by decide +kernel
theorem dM_pos : ∀ y : Fin 400, dM y.1 < dM (y.1 + 1) := by decide +kernel
theorem cyc (r : Nat) (hr : r < 146097) : gg r / 365 < 400 ∧ dM (gg r / 365) ≤ r ∧ r < dM (gg r / 365 + 1) := by
  have h399 : gg r / 365 < 400 := by
    have h1 := gg_mono (a := r) (b := 146096) (by omega)
    have h2 : gg 146096 / 365 < 400 := by decide
    omega
  refine ⟨h399, ?_, ?_⟩
  · by_cases hc : dM (gg r / 365) ≤ r
    · exact hc
    · exfalso
      rcases (by omega : gg r / 365 = 0 ∨ 1 ≤ gg r / 365) with h0 | h1
      · rw [h0] at hc
        have : dM 0 = 0 := by decide
        omega
      · have he := (gg_ends ⟨gg r / 365 - 1, by omega⟩).2
        simp only at he
        rw [show gg r / 365 - 1 + 1 = gg r / 365 by omega] at he
        have := gg_mono (a := r) (b := dM (gg r / 365) - 1) (by omega)
        omega
  · by_cases hc : r < dM (gg r / 365 + 1)
    · exact hc
    · exfalso
      rcases (by omega : gg r / 365 = 399 ∨ gg r / 365 + 1 < 400) with h0 | h1
      · rw [h0] at hc
        have : dM (399 + 1) = 146097 := by decide
        omega
      · have he := (gg_ends ⟨gg r / 365 + 1, h1⟩).1
        simp only at he
        have := gg_mono (a := dM (gg r / 365 + 1)) (b := r) (by omega)
        omega
/-- the program's own number of a day -/
def civ (y m d : Int) : Int := 
  let y' := (if m ≤ 2 then y - 1 else y) + 400
  let m' := if m ≤ 2 then m + 12 else m
  365 * y' + y' / 4 - y' / 100 + y' / 400 + (153 * (m' - 3) + 2) / 5 + d - 1 - 719468 - 146097
theorem civ_eq (y m d : Int) (h1 : 1 ≤ m) (h2 : m ≤ 12) : civ y m d = dn y m d - 719528 := by
  have : m = 1 ∨ m = 2 ∨ 3 ≤ m := by omega
  rcases this with rfl | rfl | h
  · simp [civ, dn, dbm, dby]; omega
  · simp [civ, dn, dbm, dby]; omega
  · have e1 : ¬ m ≤ 2 := by omega
    have e2 : ¬ m ≤ 1 := by omega
    have e3 : ¬ m = 2 := by omega
    simp only [civ, dn, dbm, dby, yr, if_neg e1, if_neg e2, if_neg e3]
    split <;> omega
/-- the day of an age, a year of the age, a day of the year from March on -/
theorem cal_core (e y r k : Int) (he : 146037 ≤ e) (hy : y = (e % 146097 - e % 146097 / 1460 + e % 146097 / 36524 - e % 146097 / 146096) / 365) (hr : r = e % 146097 - (365 * y + y / 4 - y / 100)) (hk : k = (5 * r + 2) / 153) :
    0 ≤ y ∧ y < 400 ∧ 0 ≤ r ∧ r ≤ 365 ∧ 0 ≤ k ∧ k ≤ 11 ∧
    (k + 3 > 12 → 0 ≤ 400 * (e / 146097 - 1) + y + 1 ∧ 1 ≤ r - (153 * k + 2) / 5 + 1 ∧ r - (153 * k + 2) / 5 + 1 ≤ mo (400 * (e / 146097 - 1) + y + 1) (k + 3 - 12) ∧ dn (400 * (e / 146097 - 1) + y + 1) (k + 3 - 12) (r - (153 * k + 2) / 5 + 1) = e - 146037) ∧
    (¬ k + 3 > 12 → 0 ≤ 400 * (e / 146097 - 1) + y ∧ 1 ≤ r - (153 * k + 2) / 5 + 1 ∧ r - (153 * k + 2) / 5 + 1 ≤ mo (400 * (e / 146097 - 1) + y) (k + 3) ∧ dn (400 * (e / 146097 - 1) + y) (k + 3) (r - (153 * k + 2) / 5 + 1) = e - 146037) := by
  obtain ⟨n, hn⟩ : ∃ n, e % 146097 = n := ⟨_, rfl⟩
  obtain ⟨a, ha⟩ : ∃ a, e / 146097 = a := ⟨_, rfl⟩
  have hn0 : 0 ≤ n := by omega
  have hn1 : n < 146097 := by omega
  have hen : e = 146097 * a + n := by omega
  rw [hn] at hy hr
  rw [ha]
  clear hn ha
  obtain ⟨m, rfl⟩ : ∃ m : Nat, n = (m : Int) := ⟨n.toNat, by omega⟩
  have hg : ((gg m : Nat) : Int) = (m : Int) - (m : Int) / 1460 + (m : Int) / 36524 - (m : Int) / 146096 := by unfold gg; omega
  obtain ⟨h1, h2, h3⟩ := cyc m (by omega)
  rw [← hg] at hy
  obtain ⟨z, hz⟩ : ∃ z, gg m / 365 = z := ⟨_, rfl⟩
  have hyz : y = (z : Int) := by omega
  rw [hz] at h1 h2 h3
  subst hyz
  clear hy hg hz
  have hz4 : dM z = 365 * z + z / 4 - z / 100 := by unfold dM; rw [if_neg (by omega)]
  have hz5 : dM (z + 1) = if z = 399 then 146097 else 365 * (z + 1) + (z + 1) / 4 - (z + 1) / 100 := by
    unfold dM
    by_cases hc : z = 399
    · subst hc; rfl
    · rw [if_neg (by omega), if_neg hc]
  have hyr : r < yr ((z : Int) + 1) := by
    unfold yr
    by_cases hc : z = 399
    · subst hc
      rw [if_pos rfl] at hz5
      rw [if_pos (by omega)]
      omega
    · rw [if_neg hc] at hz5
      have q4 : (z + 1) / 4 = z / 4 ∨ ((z + 1) / 4 = z / 4 + 1 ∧ (z + 1) % 4 = 0) := by omega
      have q100 : ((z + 1) / 100 = z / 100 ∧ (z + 1) % 100 ≠ 0) ∨ (z + 1) / 100 = z / 100 + 1 := by omega
      have z100 : z / 100 ≤ z / 4 := by omega
      rcases q4 with q4 | ⟨q4, p4⟩ <;> rcases q100 with ⟨q100, p100⟩ | q100 <;> rw [q4, q100] at hz5 <;> split <;> omega
  have y4 : (400 * a + (z : Int)) / 4 = 100 * a + (z : Int) / 4 := by omega
  have y100 : (400 * a + (z : Int)) / 100 = 4 * a + (z : Int) / 100 := by omega
  have y400 : (400 * a + (z : Int)) / 400 = a := by omega
  have hy2 := yr_two ((z : Int) + 1)
  have hr0 : 0 ≤ r := by omega
  have hr1 : r ≤ 365 := by omega
  have hk0 : 0 ≤ k := by omega
  have hk1 : k ≤ 11 := by omega
  have hae : a = 0 → 306 ≤ r := by
    intro h0
    subst h0
    have : z = 399 := by
      by_cases hc : z = 399
      · exact hc
      · rw [if_neg hc] at hz5; omega
    subst this
    omega
  refine ⟨by omega, by omega, hr0, hr1, hk0, hk1, fun hc => ?_, fun hc => ?_⟩
  · have hY : 0 ≤ 400 * (a - 1) + (z : Int) + 1 := by
      rcases (by omega : a = 0 ∨ 1 ≤ a) with h0 | h0
      · have := hae h0
        have : z = 399 := by
          by_cases hc : z = 399
          · exact hc
          · rw [if_neg hc] at hz5; omega
        omega
      · omega
    have hyy : yr (400 * (a - 1) + (z : Int) + 1) = yr ((z : Int) + 1) := by unfold yr; split <;> split <;> omega
    refine ⟨hY, by omega, ?_, ?_⟩
    · rcases (by omega : k = 10 ∨ k = 11) with hh | hh <;> subst hh
      · simp [mo]; omega
      · show _ ≤ mo _ 2
        have : mo (400 * (a - 1) + (z : Int) + 1) 2 = yr ((z : Int) + 1) - 337 := by simp [mo, hyy]
        rw [this]; omega
    · have h := civ_eq (400 * (a - 1) + (z : Int) + 1) (k + 3 - 12) (r - (153 * k + 2) / 5 + 1) (by omega) (by omega)
      have : civ (400 * (a - 1) + (z : Int) + 1) (k + 3 - 12) (r - (153 * k + 2) / 5 + 1) = e - 865565 := by
        simp only [civ, if_pos (show k + 3 - 12 ≤ 2 by omega)]
        rw [show k + 3 - 12 + 12 - 3 = k by omega, show 400 * (a - 1) + (z : Int) + 1 - 1 + 400 = 400 * a + z by omega, y4, y100, y400]
        omega
      omega
  · have hY : 0 ≤ 400 * (a - 1) + (z : Int) := by
      rcases (by omega : a = 0 ∨ 1 ≤ a) with h0 | h0
      · have := hae h0
        omega
      · omega
    refine ⟨hY, by omega, ?_, ?_⟩
    · have : k = 0 ∨ k = 1 ∨ k = 2 ∨ k = 3 ∨ k = 4 ∨ k = 5 ∨ k = 6 ∨ k = 7 ∨ k = 8 ∨ k = 9 := by omega
      rcases this with hh | hh | hh | hh | hh | hh | hh | hh | hh | hh <;> subst hh <;> simp [mo] <;> omega
    · have h := civ_eq (400 * (a - 1) + (z : Int)) (k + 3) (r - (153 * k + 2) / 5 + 1) (by omega) (by omega)
      have : civ (400 * (a - 1) + (z : Int)) (k + 3) (r - (153 * k + 2) / 5 + 1) = e - 865565 := by
        simp only [civ, if_neg (show ¬ k + 3 ≤ 2 by omega)]
        rw [show k + 3 - 3 = k by omega, show 400 * (a - 1) + (z : Int) + 400 = 400 * a + z by omega, y4, y100, y400]
        omega
      omega
/-- every day has its year, month, day -/
theorem day_has (d : Int) (h : 0 ≤ d) : ∃ Y M D, 0 ≤ Y ∧ 1 ≤ M ∧ M ≤ 12 ∧ 1 ≤ D ∧ D ≤ mo Y M ∧ dn Y M D = d := by
  obtain ⟨e, he⟩ : ∃ e, e = d + 146037 := ⟨_, rfl⟩
  obtain ⟨_, _, _, _, hk0, hk1, hA, hB⟩ := cal_core e _ _ _ (by omega) rfl rfl rfl
  by_cases hc : (5 * (e % 146097 - (365 * ((e % 146097 - e % 146097 / 1460 + e % 146097 / 36524 - e % 146097 / 146096) / 365) + (e % 146097 - e % 146097 / 1460 + e % 146097 / 36524 - e % 146097 / 146096) / 365 / 4 - (e % 146097 - e % 146097 / 1460 + e % 146097 / 36524 - e % 146097 / 146096) / 365 / 100)) + 2) / 153 + 3 > 12
  · obtain ⟨a, b, c, d'⟩ := hA hc
    exact ⟨_, _, _, a, by omega, by omega, b, c, by rw [d']; omega⟩
  · obtain ⟨a, b, c, d'⟩ := hB hc
    exact ⟨_, _, _, a, by omega, by omega, b, c, by rw [d']; omega⟩
end Go.Proofs.YtnkpegldckdahaaDoor.Ck
