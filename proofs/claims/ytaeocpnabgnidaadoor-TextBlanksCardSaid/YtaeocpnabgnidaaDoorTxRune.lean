/- Plain Lean, no program: what a step of a range over a string's characters is, in bytes. -/
import Derived.Lib.MapLaws
import Derived.Lib.TrimUEq
import Derived.Laws.RangeAny
import Derived.Laws.RangeString
import Derived.Shelf.Unicode.DecodeSlow
import Derived.Test.YtaeocpnabgnidaaDoorTxFold
namespace Go.Proofs.YtaeocpnabgnidaaDoor.Tx
open Go.Lib

def bts (s : ByteArray) : List Int := s.data.toList.map fun b => (b.toNat : Int)
theorem bts_length (s : ByteArray) : (bts s).length = s.size := by rw [bts, List.length_map, Array.length_toList]; rfl
theorem list_length (s : ByteArray) : s.data.toList.length = s.size := by rw [Array.length_toList]; rfl

theorem decodeN_bytes (n b0 b1 b2 b3 : Nat) (hn : 1 ≤ n) (h0 : 128 ≤ b0) (h0' : b0 < 256) (h1 : b1 < 256) (h2 : b2 < 256) (h3 : b3 < 256) :
    (decodeN n b0 b1 b2 b3).2 ≤ n ∧ (decodeN n b0 b1 b2 b3).2 ≤ 4 ∧ (2 ≤ (decodeN n b0 b1 b2 b3).2 → 128 ≤ b1) ∧ (3 ≤ (decodeN n b0 b1 b2 b3).2 → 128 ≤ b2) ∧ (4 ≤ (decodeN n b0 b1 b2 b3).2 → 128 ≤ b3) ∧ ((decodeN n b0 b1 b2 b3).1 ≠ 65533 → 2 ≤ (decodeN n b0 b1 b2 b3).2) := by
  unfold decodeN
  repeat' split
  all_goals simp only []
  all_goals refine ⟨?_, ?_, ?_, ?_, ?_, ?_⟩
  all_goals omega

/-- From a byte from 128 on: one to four bytes, all from 128 on; where the character is not U+FFFD its bytes are those. -/
theorem rune_high (s : ByteArray) (pos : Nat) (h : pos < s.size) (hb : 128 ≤ (s[pos]'h).toNat) :
    1 ≤ (Utf8.decode s pos).2 ∧ pos + (Utf8.decode s pos).2 ≤ s.size ∧ (∀ x ∈ (s.data.toList.drop pos).take (Utf8.decode s pos).2, 128 ≤ x.toNat) ∧
      ((Utf8.decode s pos).1 ≠ 65533 → encodeRune ((Utf8.decode s pos).1 : Int) = (s.data.toList.drop pos).take (Utf8.decode s pos).2) := by
  have hd := decodeL_drop s pos
  have hne : s.data.toList.drop pos ≠ [] := by
    intro hc
    have := congrArg List.length hc
    rw [List.length_drop, list_length] at this
    simp at this
    omega
  have hN := decodeL_N (s.data.toList.drop pos)
  have hg : ∀ j, ((s.data.toList.drop pos).getD j 0).toNat < 256 := fun j => ((s.data.toList.drop pos).getD j 0).toNat_lt
  have hl : (s.data.toList.drop pos).length = s.size - pos := by rw [List.length_drop, list_length]
  have e0 : (s.data.toList.drop pos).getD 0 0 = s[pos]'h := by
    rw [List.getD_eq_getElem?_getD, List.getElem?_drop, Nat.add_zero, List.getElem?_eq_getElem (by rw [list_length]; exact h)]
    simp
    rfl
  have hB := decodeN_bytes (s.data.toList.drop pos).length _ _ _ _ (by rw [hl]; omega) (by rw [e0]; exact hb) (hg 0) (hg 1) (hg 2) (hg 3)
  rw [← hN, hd] at hB
  obtain ⟨w1, w2, w3, w4, w5, w6⟩ := hB
  have hw := decodeL_width (s.data.toList.drop pos)
  rw [hd] at hw
  refine ⟨hw, by omega, fun x hx => ?_, fun hne2 => ?_⟩
  · obtain ⟨j, hj, hxj⟩ := List.mem_iff_getElem.1 hx
    rw [List.length_take] at hj
    have hxj' : (s.data.toList.drop pos).getD j 0 = x := by
      rw [← hxj, List.getElem_take, List.getD_eq_getElem?_getD, List.getElem?_eq_getElem (by omega), Option.getD_some]
    rw [← hxj']
    match j, hj with
    | 0, _ => rw [e0]; exact hb
    | 1, _ => exact w3 (by omega)
    | 2, _ => exact w4 (by omega)
    | 3, _ => exact w5 (by omega)
    | (k + 4), hj => omega
  · have := encode_decode (s.data.toList.drop pos) hne (by rw [hd]; exact fun hc => hne2 hc.1)
    rw [hd] at this
    exact this

/-- The bytes from place pos on: one, or a character's. -/
theorem take_next (s : ByteArray) (pos n : Nat) : (bts s).take (pos + n) = (bts s).take pos ++ ((s.data.toList.drop pos).take n).map fun b => (b.toNat : Int) := by
  rw [List.take_add]
  congr 1
  rw [bts, ← List.map_drop, ← List.map_take]
theorem take_one (s : ByteArray) (pos : Nat) (h : pos < s.size) : (bts s).take (pos + 1) = (bts s).take pos ++ [((s[pos]'h).toNat : Int)] := by
  have hl : pos < (bts s).length := by rw [bts_length]; exact h
  rw [List.take_succ_eq_append_getElem hl]
  congr 2
  simp [bts]
  rfl
end Go.Proofs.YtaeocpnabgnidaaDoor.Tx
