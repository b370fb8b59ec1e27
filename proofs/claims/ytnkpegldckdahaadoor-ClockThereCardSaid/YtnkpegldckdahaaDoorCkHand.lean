/- The library functions that are taken by hand: what each answers, in the form in which a printed function is called. -/
import Derived.Lib.AppendIntMem
import Derived.Test.YtnkpegldckdahaaDoorShelf
import Derived.Test.YtnkpegldckdahaaDoorTabs0
import Derived.Test.YtnkpegldckdahaaDoorCkDig
set_option linter.unusedVariables false
namespace Go.Proofs.YtnkpegldckdahaaDoor.Ck
open Go.RowKit Go.Lib Go.Proofs.YtnkpegldckdahaaDoorW.PrintWords
/-- stringslite.Index: of one byte. -/
def index_f (a0 a1 : ByteArray) : Option Int := if a1 = (⟨#[46]⟩ : ByteArray) then (if ([46] == a0.toList) = true then some 0 else some (Lib.indexByte a0.data.toList 46)) else none
set_option maxRecDepth 100000 in
theorem index_calls (a0 a1 : ByteArray) (r : Int) (w : World) (h : index_f a0 a1 = some r) : Calls Tryd.prog 59 #[.string a0, .string a1] w fun e w' => e = .returned (.int .i64 r) ∧ Drawn0 w w' := by
  unfold index_f at h
  by_cases h1 : a1 = (⟨#[46]⟩ : ByteArray)
  · subst h1
    rw [if_pos rfl] at h
    by_cases h2 : ([46] == a0.toList) = true
    · rw [if_pos h2] at h
      cases h
      go_enter Tryd.func59, Tryd.ntmps59
      go_wp2
      go_ret
      exact ⟨rfl, Drawn0.refl _⟩
    · rw [if_neg h2] at h
      cases h
      have h3 : ([46] == a0.toList) = false := by simpa using h2
      clear h2
      go_enter Tryd.func59, Tryd.ntmps59
      go_wp2_with (go_at_call 69; (with_reducible refine (Tryd.stringslite_IndexByte _ _ _).mono ?_); rintro e w1 ⟨rfl, rfl⟩)
      go_ret
      exact ⟨rfl, Drawn0.refl _⟩
  · rw [if_neg h1] at h
    cases h
/-- strings.TrimRight: of noughts. -/
def trim_f (a0 a1 : ByteArray) : Option ByteArray := if a1 = (⟨#[48]⟩ : ByteArray) ∧ a0.size ≤ 1000 then some ⟨(Lib.trimRightB a0.data.toList 48).toArray⟩ else none
theorem trim_calls (a0 a1 r : ByteArray) (w : World) (h : trim_f a0 a1 = some r) : Calls Tryd.prog 33 #[.string a0, .string a1] w fun e w' => e = .returned (.string r) ∧ Drawn0 w w' := by
  unfold trim_f at h
  split at h
  · rename_i hs
    obtain ⟨rfl, hs⟩ := hs
    cases h
    exact (Tryd.strings_TrimRight_one a0 48 (by decide) w (by omega)).mono fun e w' ⟨he, hw⟩ => ⟨he, by subst hw; exact Drawn0.refl _⟩
  · cases h
/-- strings.Repeat. -/
def repeat_f (a0 : ByteArray) (a1 : Int) : Option ByteArray := if 0 ≤ a1 ∧ a1 ≤ 100 ∧ a0.size ≤ 100 then some ⟨(Lib.repeatL a0.data.toList a1.toNat).toArray⟩ else none
theorem repeat_calls (a0 : ByteArray) (a1 : Int) (r : ByteArray) (w : World) (h : repeat_f a0 a1 = some r) : Calls Tryd.prog 41 #[.string a0, .int .i64 a1] w fun e w' => e = .returned (.string r) ∧ Below w.heap.size w w' := by
  unfold repeat_f at h
  split at h
  · rename_i hs
    cases h
    have hm : a0.size * a1.toNat ≤ 140737488355328 := by
      have : a0.size * a1.toNat ≤ 100 * 100 := Nat.mul_le_mul hs.2.2 (by omega)
      omega
    have := Tryd.strings_Repeat a0 a1.toNat w (by omega) hm
    rwa [show ((a1.toNat : Nat) : Int) = a1 by omega] at this
  · cases h
/-- strconv.Itoa. -/
def itoa_f (a0 : Int) : Option ByteArray := if -9223372036854775808 ≤ a0 ∧ a0 ≤ 9223372036854775807 then some ⟨(Lib.itoa a0).toArray⟩ else none
theorem itoa_calls (a0 : Int) (r : ByteArray) (w : World) (hT : Tabs w) (h : itoa_f a0 = some r) : Calls Tryd.prog 40 #[.int .i64 a0] w fun e w' => e = .returned (.string r) ∧ Below w.heap.size w w' := by
  unfold itoa_f at h
  split at h
  · rename_i hs
    cases h
    refine (Tryd.strconv_Itoa a0 hs.1 hs.2 w hT.p10).mono fun e w' ⟨he, k, os, hw⟩ => ⟨he, ?_⟩
    subst hw
    exact Lib.below_grow _ _ (Nat.le_refl _) _ _
  · cases h
end Go.Proofs.YtnkpegldckdahaaDoor.Ck
