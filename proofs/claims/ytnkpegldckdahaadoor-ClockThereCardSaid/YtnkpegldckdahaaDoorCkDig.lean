/- clock.digits: are all bytes digits? Its walk; no condition. -/
import Derived.Test.YtnkpegldckdahaaDoorProg
import Derived.Test.YtnkpegldckdahaaDoorWWords
import Derived.Laws.Strings2
import Derived.Laws.RangeAny
import Derived.Laws.RangeString
import Derived.Lib.OthersKept
import Derived.OwnWalk
import Derived.WalkKit
import Derived.BigCall
import Derived.Outline
import Derived.LoopTactic
set_option linter.unusedVariables false
namespace Go.Proofs.YtnkpegldckdahaaDoor.Ck
open Go.RowKit Go.Lib Go.Proofs.YtnkpegldckdahaaDoorW.PrintWords

/-! short names for the printed text -/
theorem z1 {α : Type _} {l : List α} {i : Nat} {a : α} : l.toArray.setIfInBounds i a = (l.set i a).toArray := List.setIfInBounds_toArray l i a
theorem z2 {α : Type _} {a b : α} {l : List α} : (a :: l).set 0 b = b :: l := rfl
theorem z3 {α : Type _} {a b : α} {l : List α} {n : Nat} : (a :: l).set (n + 1) b = a :: l.set n b := rfl
theorem sz46 : (⟨#[46]⟩ : ByteArray).size = 1 := rfl
theorem sz90 : (⟨#[90]⟩ : ByteArray).size = 1 := rfl
theorem drawn_below {w w' : World} (h : Drawn0 w w') : Below w.heap.size w w' := by
  obtain ⟨n, rfl⟩ := h
  exact pw_below_drewN (Below.refl _ _) n
theorem list_length (s : ByteArray) : s.data.toList.length = s.size := by rw [Array.length_toList]; rfl
theorem iterPos_at {W : World} {K pos : Nat} {s : ByteArray} (hk : W.heap[K]? = some (.stringIter s pos)) : W.iterPos K = pos := by simp [World.iterPos, hk]
def isDig (b : UInt8) : Bool := decide (48 ≤ b.toNat ∧ b.toNat ≤ 57)
def isDigits (s : ByteArray) : Bool := s.data.toList.all isDig
structure DigAt (s : ByteArray) (w : World) (K pos : Nat) (wr : World) : Prop where
  iter : wr.heap[K]? = some (.stringIter s pos)
  below : Below w.heap.size w wr
  le : pos ≤ s.size
  all : (s.data.toList.take pos).all isDig = true
theorem dig_next (s : ByteArray) (pos : Nat) (h : pos < s.size) (ha : (s.data.toList.take pos).all isDig = true) (hb : isDig (s[pos]'h) = true) : (s.data.toList.take (pos + 1)).all isDig = true := by
  have hl : pos < s.data.toList.length := by rw [list_length]; exact h
  rw [List.take_succ_eq_append_getElem hl, List.all_append, ha]
  simp
  exact hb
theorem dig_not (s : ByteArray) (pos : Nat) (h : pos < s.size) (hb : isDig (s[pos]'h) = false) : isDigits s = false := by
  have hl : pos < s.data.toList.length := by rw [list_length]; exact h
  unfold isDigits
  rw [List.all_eq_false]
  exact ⟨s[pos]'h, List.getElem_mem hl, by simp [hb]⟩
set_option maxHeartbeats 4000000 in
set_option maxRecDepth 100000 in
theorem digits_walk (s : ByteArray) (w : World) : Calls Tryd.prog 36 #[.string s] w fun e w' => e = .returned (.bool (isDigits s)) ∧ Below w.heap.size w w' := by
  go_enter Tryd.func36, Tryd.ntmps36
  go_wp2
  go_loopw [2] (fun v wr => v = .bool false ∧ ∃ pos, DigAt s w w.heap.size pos wr) (fun _ wr => s.size - wr.iterPos w.heap.size)
  case atStart =>
    exact ⟨rfl, 0, ⟨World.iter_heap w s 0, (Below.refl _ w).alloc (Nat.le_refl _) _, by omega, by simp⟩⟩
  case round =>
    obtain ⟨rfl, pos, hF⟩ := hrel
    have hit := hF.iter
    have hbel := hF.below
    have hsz : w.heap.size < wr.heap.size := (Array.getElem?_eq_some_iff.1 hit).1
    by_cases hp : pos < s.size
    · by_cases hb : (s[pos]'hp).toNat < 128
      · obtain ⟨C, hC⟩ : ∃ C : Int, ((s[pos]'hp).toNat : Int) = C := ⟨_, rfl⟩
        have hnx0 := fun ty => Lib.run_next_ascii_at (P := Tryd.prog) wr w.heap.size s pos ty hit hp hb
        rw [hC] at hnx0
        have hnx := hnx0
        clear hnx0
        have hd : isDig (s[pos]'hp) = decide (48 ≤ C ∧ C ≤ 57) := by unfold isDig; rw [← hC]; simp only [decide_eq_decide]; omega
        have HD := Aside0.mk hd
        clear hd hC
        have hb2 := below_iterAt hbel (Nat.le_refl _) s (pos + 1)
        have hi2 := iterAt_heap wr w.heap.size s pos (pos + 1) hit
        by_cases h48 : C < 48
        · go_wp2
          go_ret
          exact ⟨by rw [dig_not s pos hp (by rw [HD.out]; simp; omega)]; rfl, hb2⟩
        · by_cases h57 : 57 < C
          · go_wp2
            go_ret
            exact ⟨by rw [dig_not s pos hp (by rw [HD.out]; simp; omega)]; rfl, hb2⟩
          · go_wp2
            go_roundw
            case rel => exact ⟨rfl, pos + 1, ⟨hi2, hb2, by omega, dig_next s pos hp hF.all (by rw [HD.out]; simp; omega)⟩⟩
            case measure => simp only [iterPos_at hi2, iterPos_at hit]; omega
      · have hhi := decode_high s pos hp (by omega)
        have hle := decode_le s pos
        have hnx := fun ty => Lib.run_next_any_at (P := Tryd.prog) wr w.heap.size s pos ty hit hp
        obtain ⟨cp, hcp⟩ : ∃ cp, (Utf8.decode s pos).1 = cp := ⟨_, rfl⟩
        obtain ⟨n, hnn⟩ : ∃ n, (Utf8.decode s pos).2 = n := ⟨_, rfl⟩
        rw [hcp] at hhi hle
        rw [hnn] at hhi
        simp only [hcp, hnn] at hnx
        clear hcp hnn
        have hcp0 := hhi.1
        have h48 : ¬ (cp : Int) < 48 := by omega
        have h57 : (57 : Int) < (cp : Int) := by omega
        have hb2 := below_iterAt hbel (Nat.le_refl _) s (pos + n)
        have hbb : isDig (s[pos]'hp) = false := by unfold isDig; simp; omega
        go_wp2
        go_ret
        exact ⟨by rw [dig_not s pos hp hbb]; rfl, hb2⟩
    · have hnx : ∀ ty, (Instr.next (.pointer (some ⟨w.heap.size, 0, none⟩)) true ty).run Tryd.prog wr = _ := fun ty => Lib.run_next_end_at wr w.heap.size s pos ty hit hp
      go_wp2
      go_ret
      have hpe : pos = s.size := by have := hF.le; omega
      have ha := hF.all
      rw [hpe, List.take_of_length_le (by rw [list_length]; omega)] at ha
      refine ⟨?_, hbel⟩
      have e : isDigits s = true := ha
      rw [e]
      rfl
end Go.Proofs.YtnkpegldckdahaaDoor.Ck
