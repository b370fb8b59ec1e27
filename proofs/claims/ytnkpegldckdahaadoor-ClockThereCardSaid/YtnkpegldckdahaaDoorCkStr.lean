/- Plain Lean: strings of bytes, and numbers as digits. -/
import Derived.Lib.ItoaNum
import Derived.Lib.Repeat
import Derived.Lib.TrimByte
import Derived.Lib.IndexLaws
import Derived.Lib.SmallJoins
import Derived.Lib.Strings
import Derived.Test.YtnkpegldckdahaaDoorCkPut
set_option linter.unusedVariables false
namespace Go.Proofs.YtnkpegldckdahaaDoor.Ck
open Go.RowKit Go.Lib Go.Proofs.YtnkpegldckdahaaDoorW.PrintWords
def B (l : List UInt8) : ByteArray := ⟨l.toArray⟩
theorem B_data (l : List UInt8) : (B l).data.toList = l := by simp [B]
theorem B_eta (s : ByteArray) : B s.data.toList = s := by cases s; simp [B]
theorem B_size (l : List UInt8) : (B l).size = l.length := by rw [← list_length, B_data]
theorem B_append (l m : List UInt8) : B l ++ B m = B (l ++ m) := by rw [← B_eta (B l ++ B m), Joins.data_append, B_data, B_data]
theorem B_ext (l : List UInt8) (i j : Nat) : (B l).extract i j = B ((l.drop i).take (j - i)) := by rw [← B_eta ((B l).extract i j), Lib.extract_data, B_data]
theorem B_toList (l : List UInt8) : (B l).toList = l := by rw [Lib.toList_data, B_data]
theorem B_inj {l m : List UInt8} (h : B l = B m) : l = m := by rw [← B_data l, h, B_data]
theorem bt_B (l : List UInt8) (i : Nat) (h : i < l.length) : bt (B l) (i : Int) = (l[i].toNat : Int) := by
  unfold bt
  rw [dif_pos (by rw [B_size]; omega)]
  have : (B l)[(i : Int).toNat]'(by rw [B_size]; omega) = l[i] := by
    show (B l).data[(i : Int).toNat]'_ = l[i]
    simp [B]
  rw [this]
theorem lst_B (l : List UInt8) : lst (B l) = l.map fun b => (b.toNat : Int) := by rw [lst, B_data]
theorem lst_nil : lst (⟨#[]⟩ : ByteArray) = [] := rfl
/-- a number's digits, so many -/
def dl : Nat → Nat → List UInt8
  | 0, _ => []
  | k + 1, n => dl k (n / 10) ++ [UInt8.ofNat (48 + n % 10)]
theorem dl_length : ∀ k n, (dl k n).length = k
  | 0, _ => rfl
  | k + 1, n => by rw [dl, List.length_append, dl_length k]; rfl
theorem rep_eq : ∀ k, Lib.repeatL [48] k = List.replicate k 48
  | 0 => rfl
  | k + 1 => by rw [Lib.repeatL, rep_eq k]; rfl
theorem dl_zero : ∀ k, dl k 0 = List.replicate k 48
  | 0 => rfl
  | k + 1 => by
    rw [dl, Nat.zero_div, dl_zero k, List.replicate_succ']
    rfl
theorem dd_small {n : Nat} (h : n < 10) : Lib.decDigits n = [UInt8.ofNat (48 + n)] := by rw [Lib.decDigits, dif_pos h]
theorem dd_big {n : Nat} (h : ¬ n < 10) : Lib.decDigits n = Lib.decDigits (n / 10) ++ [UInt8.ofNat (48 + n % 10)] := by rw [Lib.decDigits, dif_neg h]
theorem pad_dl : ∀ k n, n < 10 ^ (k + 1) → (Lib.decDigits n).length ≤ k + 1 ∧ List.replicate (k + 1 - (Lib.decDigits n).length) 48 ++ Lib.decDigits n = dl (k + 1) n
  | 0, n, h => by
    have h : n < 10 := by simpa using h
    rw [dd_small h]
    refine ⟨Nat.le_refl _, ?_⟩
    have : n % 10 = n := by omega
    simp [dl, this]
  | k + 1, n, h => by
    by_cases hn : n < 10
    · rw [dd_small hn]
      refine ⟨by simp, ?_⟩
      have e : n / 10 = 0 := by omega
      have e2 : n % 10 = n := by omega
      rw [dl, e, e2, dl_zero]
      rfl
    · obtain ⟨h1, h2⟩ := pad_dl k (n / 10) (by rw [Nat.pow_succ] at h; omega)
      rw [dd_big hn]
      refine ⟨by simp; omega, ?_⟩
      rw [dl, ← h2, List.length_append, ← List.append_assoc]
      congr 2
      congr 1
      simp
theorem dl_digits : ∀ k n, ∀ b ∈ dl k n, isDig b = true
  | 0, _ => by simp [dl]
  | k + 1, n => by
    intro b hb
    rw [dl, List.mem_append] at hb
    rcases hb with hb | hb
    · exact dl_digits k _ b hb
    · simp at hb
      subst hb
      unfold isDig
      rw [decide_eq_true_iff]
      simp [UInt8.toNat_ofNat']
      omega
/-- the number of digits -/
def val : List UInt8 → Nat → Nat
  | [], v => v
  | b :: l, v => val l (10 * v + (b.toNat - 48))
theorem val_append (l m : List UInt8) (v : Nat) : val (l ++ m) v = val m (val l v) := by
  induction l generalizing v with
  | nil => rfl
  | cons b l ih => exact ih _
theorem val_dl : ∀ k n, val (dl k n) 0 = n % 10 ^ k
  | 0, n => by simp [dl, val, Nat.mod_one]
  | k + 1, n => by
    rw [dl, val_append, val_dl k]
    have e : (UInt8.ofNat (48 + n % 10)).toNat - 48 = n % 10 := by simp [UInt8.toNat_ofNat']; omega
    show 10 * (n / 10 % 10 ^ k) + ((UInt8.ofNat (48 + n % 10)).toNat - 48) = _
    rw [e, Nat.pow_succ, Nat.mul_comm (10 ^ k) 10, Nat.mod_mul]
    omega
theorem dig_back {b : UInt8} (h : isDig b = true) : UInt8.ofNat (48 + (b.toNat - 48) % 10) = b := by
  unfold isDig at h
  rw [decide_eq_true_iff] at h
  apply UInt8.toNat_inj.1
  rw [UInt8.toNat_ofNat']
  omega
theorem dl_val : ∀ (k : Nat) (l : List UInt8), l.length = k → (∀ b ∈ l, isDig b = true) → dl k (val l 0) = l
  | 0, l, h, _ => by rw [List.length_eq_zero_iff.1 h]; rfl
  | k + 1, l, h, hd => by
    obtain ⟨m, b, rfl⟩ : ∃ m b, l = m ++ [b] := ⟨l.dropLast, l.getLast (by intro e; rw [e] at h; cases h), (List.dropLast_concat_getLast _).symm⟩
    have hb := hd b (by simp)
    have hb' := hb
    unfold isDig at hb'
    rw [decide_eq_true_iff] at hb'
    rw [val_append, dl]
    show dl k ((10 * val m 0 + (b.toNat - 48)) / 10) ++ [UInt8.ofNat (48 + (10 * val m 0 + (b.toNat - 48)) % 10)] = _
    rw [show (10 * val m 0 + (b.toNat - 48)) / 10 = val m 0 by omega, show (10 * val m 0 + (b.toNat - 48)) % 10 = (b.toNat - 48) % 10 by omega, dig_back hb, dl_val k m (by simp at h; exact h) (fun c hc => hd c (by simp [hc]))]
theorem val_lt : ∀ (l : List UInt8), (∀ b ∈ l, isDig b = true) → ∀ v, val l v < (v + 1) * 10 ^ l.length
  | [], _, v => by simp [val]
  | b :: l, hd, v => by
    have hb := hd b (by simp)
    unfold isDig at hb
    rw [decide_eq_true_iff] at hb
    have := val_lt l (fun c hc => hd c (by simp [hc])) (10 * v + (b.toNat - 48))
    show val l (10 * v + (b.toNat - 48)) < _
    rw [List.length_cons, Nat.pow_succ]
    have h2 : (10 * v + (b.toNat - 48) + 1) * 10 ^ l.length ≤ (10 * (v + 1)) * 10 ^ l.length := Nat.mul_le_mul_right _ (by omega)
    have h3 : (10 * (v + 1)) * 10 ^ l.length = (v + 1) * (10 ^ l.length * 10) := by rw [Nat.mul_comm 10 (v + 1), Nat.mul_assoc, Nat.mul_comm 10]
    omega
/-- month to second -/
def tl (M D h i s : Int) : List UInt8 := dl 2 M.toNat ++ dl 2 D.toNat ++ dl 2 h.toNat ++ dl 2 i.toNat ++ dl 2 s.toNat
theorem tl_length (M D h i s : Int) : (tl M D h i s).length = 10 := by simp [tl, dl_length]
theorem tl_digits (M D h i s : Int) : ∀ b ∈ tl M D h i s, isDig b = true := by
  intro b hb
  unfold tl at hb
  simp only [List.mem_append] at hb
  rcases hb with (((hb | hb) | hb) | hb) | hb <;> exact dl_digits _ _ b hb
end Go.Proofs.YtnkpegldckdahaaDoor.Ck
