/- Slices of texts that are read; lists of texts in order. -/
import Derived.Test.YtgeoibgohlpfjaaDoorPyMap
import Derived.Test.YtgeoibgohlpfjaaDoorPyNorm
import Derived.Lib.RowBridge
set_option linter.unusedVariables false
set_option linter.unusedSimpArgs false
namespace Go.Proofs.YtgeoibgohlpfjaaDoor.Py
open Go Go.RowKit Go.Proofs.YtgeoibgohlpfjaaDoorW.PrintWords Go.Proofs.YtgeoibgohlpfjaaDoorW.PrintLast Go.Proofs.YtgeoibgohlpfjaaDoorW.PrintMore

abbrev tl (s : ByteArray) : S := s.data.toList
abbrev bs (l : S) : ByteArray := ⟨l.toArray⟩
theorem tl_bs (l : S) : tl (bs l) = l := by simp [tl, bs]
theorem bs_tl (s : ByteArray) : bs (tl s) = s := by simp [tl, bs]
theorem tl_inj {s t : ByteArray} (h : tl s = tl t) : s = t := by rw [← bs_tl s, h, bs_tl]
def nrm (ss : List ByteArray) : List ByteArray := (norm (ss.map tl)).map bs
theorem nrm_tl (ss : List ByteArray) : (nrm ss).map tl = norm (ss.map tl) := by
  unfold nrm
  rw [List.map_map, List.map_congr_left (fun l _ => show (tl ∘ bs) l = id l from tl_bs l), List.map_id]
theorem mem_nrm (ss : List ByteArray) (s : ByteArray) : s ∈ nrm ss ↔ s ∈ ss := by
  unfold nrm
  rw [List.mem_map]
  constructor
  · rintro ⟨l, hl, rfl⟩
    rw [norm_mem, List.mem_map] at hl
    obtain ⟨t, ht, rfl⟩ := hl
    rwa [bs_tl]
  · intro h
    exact ⟨tl s, (norm_mem _ _).2 (List.mem_map_of_mem h), bs_tl s⟩
theorem length_nrm (ss : List ByteArray) : (nrm ss).length ≤ ss.length := by
  unfold nrm
  rw [List.length_map]
  refine Nat.le_trans (Lib.compact_length_le _) ?_
  simp

/-- a value that is a slice of texts, to be read -/
def Strs (w : World) (v : Value) (l : List ByteArray) : Prop := ∃ A c, v = .slice A l.length c ∧ l.length ≤ c ∧ Kd.C Kd.string w A l.length l
theorem Strs.below {w w' : World} {v : Value} {l : List ByteArray} (h : Strs w v l) (hb : Below w.heap.size w w') : Strs w' v l := by
  obtain ⟨A, c, e, h1, h2⟩ := h
  exact ⟨A, c, e, h1, Kd.C_below h2 hb⟩
theorem Strs.nil (w : World) : Strs w (.slice none 0 0) [] := ⟨none, 0, rfl, Nat.le_refl _, rfl, by simp, fun h => absurd h (by simp)⟩
end Go.Proofs.YtgeoibgohlpfjaaDoor.Py
