/- Plain Lean: what PutGeneral and PutUtc write: the program's side. -/
import Derived.Test.YtnkpegldckdahaaDoorMx4
import Derived.Test.YtnkpegldckdahaaDoorCkStr
import Derived.Test.YtnkpegldckdahaaDoorCkPSec
set_option linter.unusedVariables false
namespace Go.Proofs.YtnkpegldckdahaaDoor.Ck
open Go.RowKit Go.Lib Go.Proofs.YtnkpegldckdahaaDoorW.PrintWords Go.Proofs.YtnkpegldckdahaaDoor.M
theorem trim_len (l : List UInt8) (c : UInt8) : (Lib.trimRightB l c).length ≤ l.length := by
  unfold Lib.trimRightB
  rw [List.length_reverse]
  have := (List.dropWhile_sublist (· == c) (l := l.reverse)).length_le
  rwa [List.length_reverse] at this
theorem padded_eq (k : Nat) (x : Int) (hk : k ≤ 9) (h0 : 0 ≤ x) (h : x < 10 ^ (k + 1)) : clock_padded.f x ((k : Int) + 1) = some (B (dl (k + 1) x.toNat)) := by
  obtain ⟨n, rfl⟩ : ∃ n : Nat, x = (n : Int) := ⟨x.toNat, by omega⟩
  have h' : n < 10 ^ (k + 1) := by exact_mod_cast h
  have hp : (10 : Nat) ^ (k + 1) ≤ 10 ^ 10 := Nat.pow_le_pow_right (by omega) (by omega)
  obtain ⟨h1, h2⟩ := pad_dl k n h'
  have hI : strconv_Itoa.f (n : Int) = some (B (Lib.decDigits n)) := by
    unfold strconv_Itoa.f itoa_f
    rw [if_pos (by omega)]
    unfold Lib.itoa
    rw [if_neg (by omega), Int.toNat_natCast]
    rfl
  have hR : strings_Repeat.f (⟨#[48]⟩ : ByteArray) (((k + 1 - (Lib.decDigits n).length : Nat) : Nat) : Int) = some (B (List.replicate (k + 1 - (Lib.decDigits n).length) 48)) := by
    unfold strings_Repeat.f repeat_f
    rw [if_pos ⟨by omega, by omega, by decide⟩, Int.toNat_natCast, ← rep_eq]
    rfl
  have hl : (Lib.decDigits n).length ≤ 10 := by omega
  unfold clock_padded.f
  rw [hI]
  show (strings_Repeat.f (⟨#[48]⟩ : ByteArray) (wrap64 ((k : Int) + 1 - ((B (Lib.decDigits n)).size : Int)))).bind _ = _
  rw [B_size, w64 (by omega) (by omega), show (k : Int) + 1 - ((Lib.decDigits n).length : Int) = ((k + 1 - (Lib.decDigits n).length : Nat) : Int) by omega, hR]
  show (if (B (List.replicate (k + 1 - (Lib.decDigits n).length) 48)).size + (B (Lib.decDigits n)).size ≤ 9223372036854775807 then _ else _) = _
  rw [if_pos (by rw [B_size, B_size, List.length_replicate]; omega), B_append, h2, Int.toNat_natCast]
theorem padded2 (x : Int) (h0 : 0 ≤ x) (h : x < 100) : clock_padded.f x 2 = some (B (dl 2 x.toNat)) := padded_eq 1 x (by omega) h0 h
theorem padded4 (x : Int) (h0 : 0 ≤ x) (h : x < 10000) : clock_padded.f x 4 = some (B (dl 4 x.toNat)) := padded_eq 3 x (by omega) h0 h
theorem padded6 (x : Int) (h0 : 0 ≤ x) (h : x < 1000000) : clock_padded.f x 6 = some (B (dl 6 x.toNat)) := padded_eq 5 x (by omega) h0 h
theorem tail_eq (Y M D h i s : Int) (hM : 0 ≤ M ∧ M < 100) (hD : 0 ≤ D ∧ D < 100) (hh : 0 ≤ h ∧ h < 100) (hi : 0 ≤ i ∧ i < 100) (hs : 0 ≤ s ∧ s < 100) : clock_tail.f Y M D h i s = some (B (tl M D h i s)) := by
  simp only [clock_tail.f, padded2 M hM.1 hM.2, padded2 D hD.1 hD.2, padded2 h hh.1 hh.2, padded2 i hi.1 hi.2, padded2 s hs.1 hs.2, Option.bind_some, B_append, B_size, List.length_append, dl_length]
  rfl
/-- what PutGeneral's bytes are -/
def genL (Y M D h i s micro : Int) : List UInt8 := dl 4 Y.toNat ++ tl M D h i s ++ (if micro = 0 then [] else 46 :: Lib.trimRightB (dl 6 micro.toNat) 48) ++ [90]
def putG (sec micro : Int) : List UInt8 × Int :=
  if micro < 0 ∨ micro > 999999 then ([], 1)
  else if sec < -62167219200 ∨ sec ≥ 253402300800 then ([], 50)
  else (genL (partsV sec).1 (partsV sec).2.1 (partsV sec).2.2.1 (partsV sec).2.2.2.1 (partsV sec).2.2.2.2.1 (partsV sec).2.2.2.2.2.1 micro, 0)
def putU (sec : Int) : List UInt8 × Int :=
  if sec < -62167219200 ∨ sec ≥ 253402300800 ∨ (partsV sec).1 < 1950 ∨ (partsV sec).1 > 2049 then ([], 50)
  else (dl 2 ((partsV sec).1.toNat % 100) ++ tl (partsV sec).2.1 (partsV sec).2.2.1 (partsV sec).2.2.2.1 (partsV sec).2.2.2.2.1 (partsV sec).2.2.2.2.2.1 ++ [90], 0)
theorem partsV_bad {a : Int} (h : a < -62167219200 ∨ a ≥ 253402300800) : partsV a = (0, 0, 0, 0, 0, 0, 50) := by unfold partsV; rw [if_pos h]
theorem partsV_ok {a : Int} (h1 : ¬ a < -62167219200) (h2 : ¬ a ≥ 253402300800) : ∃ Y M D h i s, partsV a = (Y, M, D, h, i, s, 0) ∧ May Y M D h i s ∧ secs Y M D h i s = a := by
  refine ⟨_, _, _, _, _, _, ?_, (parts_may a h1 h2).1, (parts_may a h1 h2).2⟩
  unfold partsV
  rw [if_neg (by omega)]
theorem partsV_secs {Y M D h i s : Int} (H : May Y M D h i s) : partsV (secs Y M D h i s) = (Y, M, D, h, i, s, 0) := by
  have hr := secs_range H
  obtain ⟨Y', M', D', h', i', s', e, H', es⟩ := partsV_ok (a := secs Y M D h i s) (by omega) (by omega)
  obtain ⟨rfl, rfl, rfl, rfl, rfl, rfl⟩ := secs_inj H' H es
  exact e
theorem gen_ev (sec micro : Int) : Ev (fun k => clock_PutGeneral.f k sec micro) (B (putG sec micro).1, (putG sec micro).2) := by
  unfold clock_PutGeneral.f
  have bad : (micro < 0 ∨ micro > 999999) → Ev (fun k => clock_PutGeneral.j0 k sec micro true) (B (putG sec micro).1, (putG sec micro).2) := fun hb => by
    refine Ev.value (fun k => ?_)
    simp only [clock_PutGeneral.j0, if_true]
    unfold putG
    rw [if_pos hb]
    rfl
  by_cases c1 : micro < 0
  · simp only [if_pos c1]
    exact bad (.inl c1)
  simp only [if_neg c1]
  by_cases c2 : micro > 999999
  · simp only [decide_eq_true c2]
    exact bad (.inr c2)
  simp only [decide_eq_false c2]
  refine Ev.value (fun k => ?_)
  unfold putG
  rw [if_neg (by omega)]
  simp only [clock_PutGeneral.j0]
  rw [if_neg (by decide)]
  rw [show clock_Parts.f sec = some (partsV sec) from rfl, Option.bind_some]
  by_cases c3 : sec < -62167219200 ∨ sec ≥ 253402300800
  · rw [if_pos c3, partsV_bad c3]
    rfl
  rw [if_neg c3]
  obtain ⟨Y, M, D, h, i, s, e, H, es⟩ := partsV_ok (a := sec) (by omega) (by omega)
  have hmo := mo_pos Y M
  obtain ⟨y0, y1, m0, m1, d0, d1, h0, h1, i0, i1, s0, s1⟩ := H
  rw [e]
  have hM : (M == 0) = false := by simp; omega
  simp only [hM, Bool.false_and, Bool.and_false, Bool.false_eq_true, if_false]
  rw [padded4 Y (by omega) (by omega), tail_eq Y M D h i s (by omega) (by omega) (by omega) (by omega) (by omega)]
  simp only [Option.bind_some, B_size, dl_length, tl_length]
  rw [if_pos (by decide)]
  unfold genL
  by_cases c4 : micro > 0
  · have ht := trim_len (dl 6 micro.toNat) 48
    rw [dl_length] at ht
    have hT : strings_TrimRight.f (B (dl 6 micro.toNat)) (⟨#[48]⟩ : ByteArray) = some (B (Lib.trimRightB (dl 6 micro.toNat) 48)) := by
      unfold strings_TrimRight.f trim_f
      rw [if_pos ⟨rfl, by rw [B_size, dl_length]; decide⟩, B_data]
      rfl
    rw [if_pos c4, padded6 micro (by omega) (by omega), if_neg (by omega)]
    simp only [Option.bind_some, hT]
    have e46 : (⟨#[46]⟩ : ByteArray) = B [46] := rfl
    have e90 : (⟨#[90]⟩ : ByteArray) = B [90] := rfl
    rw [e46, e90, B_append, B_append, B_append, B_append, B_size, B_size, B_size, B_size]
    simp only [List.length_append, List.length_cons, List.length_nil, dl_length, tl_length]
    rw [if_pos (by omega), if_pos (by omega), if_pos (by omega)]
    rfl
  · obtain rfl : micro = 0 := by omega
    have e90 : (⟨#[90]⟩ : ByteArray) = B [90] := rfl
    rw [if_neg c4, if_pos (by rw [B_append, B_size, List.length_append, dl_length, tl_length]; decide), e90, B_append, B_append, if_pos rfl, List.append_nil]
/-- PutGeneral's contract, PutUtc's contract. -/
theorem gen_calls (sec micro : Int) (w : World) (hT : Tabs w) : Calls Tryd.prog 19 #[.int .i64 sec, .int .i64 micro] w fun e w' => Gives w e w' (lst (B (putG sec micro).1)) (putG sec micro).2 := by
  obtain ⟨k, h⟩ := (gen_ev sec micro).rounds
  exact clock_PutGeneral.calls k sec micro _ _ w hT h
theorem partsG (a0 : Int) {Y M D h i s x : Int} (e : partsV a0 = (Y, M, D, h, i, s, x)) : PartsGive 14 a0 Y M D h i s x := fun w => clock_Parts.calls a0 Y M D h i s x w (by show some (partsV a0) = _; rw [e])
theorem utc_calls (sec : Int) (w : World) (hT : Tabs w) : Calls Tryd.prog 17 #[.int .i64 sec] w fun e w' => Gives w e w' (lst (B (putU sec).1)) (putU sec).2 := by
  by_cases c3 : sec < -62167219200 ∨ sec ≥ 253402300800
  · have e : putU sec = ([], 50) := by unfold putU; rw [if_pos (by omega)]
    rw [e]
    exact utc17_bad sec _ _ _ _ _ _ _ w (partsG sec (partsV_bad c3)) (.inl (by decide))
  obtain ⟨Y, M, D, h, i, s, e, H, es⟩ := partsV_ok (a := sec) (by omega) (by omega)
  by_cases c4 : Y < 1950 ∨ Y > 2049
  · have e2 : putU sec = ([], 50) := by unfold putU; rw [if_pos (by rw [e]; simp only; omega)]
    rw [e2]
    exact utc17_bad sec _ _ _ _ _ _ _ w (partsG sec e) (.inr c4)
  have hmo := mo_pos Y M
  obtain ⟨y0, y1, m0, m1, d0, d1, h0, h1, i0, i1, s0, s1⟩ := H
  have e2 : putU sec = (dl 2 (Y.toNat % 100) ++ tl M D h i s ++ [90], 0) := by
    unfold putU
    rw [if_neg (by rw [e]; simp only; omega), e]
  rw [e2]
  have ey : Int.tmod Y 100 = ((Y.toNat % 100 : Nat) : Int) := by rw [tm (by omega)]; omega
  have hp : clock_padded.f (Int.tmod Y 100) 2 = some (B (dl 2 (Y.toNat % 100))) := by rw [ey, padded2 _ (by omega) (by omega), Int.toNat_natCast]
  have := utc17_ok sec Y M D h i s (B (dl 2 (Y.toNat % 100))) (B (tl M D h i s)) w hT (partsG sec e) (by omega) (by omega) (fun w hT => clock_padded.calls _ 2 _ w hT hp)
    (fun w hT => clock_tail.calls Y M D h i s _ w hT (tail_eq Y M D h i s (by omega) (by omega) (by omega) (by omega) (by omega))) (by rw [B_size, dl_length]; decide) (by rw [B_size, tl_length]; decide)
  rw [show (⟨#[90]⟩ : ByteArray) = B [90] from rfl, B_append, B_append] at this
  exact this
end Go.Proofs.YtnkpegldckdahaaDoor.Ck
