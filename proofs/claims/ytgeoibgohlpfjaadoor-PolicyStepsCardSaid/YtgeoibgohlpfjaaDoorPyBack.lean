/- The law's back, and small certificates of the call's own, walked. -/
import Derived.Test.YtgeoibgohlpfjaaDoorPyLive
import Derived.Test.YtgeoibgohlpfjaaDoorPyOpen
set_option linter.unusedVariables false
set_option linter.unusedSimpArgs false
namespace Go.Proofs.YtgeoibgohlpfjaaDoor.Py
open Go Go.RowKit Go.Maps Go.Proofs.YtgeoibgohlpfjaaDoorW.PrintWords Go.Proofs.YtgeoibgohlpfjaaDoorW.PrintLast Go.Proofs.YtgeoibgohlpfjaaDoorW.PrintMore
theorem Strs.openB {w : World} {v : Value} {ss : List ByteArray} (h : Strs w v ss) : ∃ A c, v = .slice A ss.length c ∧ Kd.C Kd.string w A ss.length ss := by
  obtain ⟨A, c, e, hc, hr⟩ := h
  exact ⟨A, c, e, hr⟩
theorem strs_of_R {w : World} {base : Nat} {ok : Nat → Prop} {v : Value} {ss : List ByteArray} (h : Kd.R Kd.string 9 w base ok v ss) : Strs w v ss := by
  obtain ⟨A, c, rfl⟩ := Kd.R_slice h
  obtain ⟨_, h1, h2⟩ := Kd.R_reads' h
  exact ⟨A, c, rfl, h1, h2⟩
theorem drop_back (ss : List ByteArray) (k : Nat) (hk : k < ss.length) : (ss.drop k).reverse = (ss.drop (k + 1)).reverse ++ [rdOf ByteArray.empty ss k] := by
  rw [List.drop_eq_getElem_cons hk, List.reverse_cons]
  simp [rdOf, List.getD, List.getElem?_eq_getElem hk]
set_option maxHeartbeats 4000000 in
set_option maxRecDepth 100000 in
theorem back_walk (v : Value) (ss : List ByteArray) (w : World) (hv : Strs w v ss) (hl : ss.length ≤ 1000000) :
    Calls Tryd.prog 24 #[v] w fun e w' => ∃ A c, e = .returned (.slice A ss.length c) ∧ Kd.R Kd.string 9 w' w.heap.size (fun _ => True) (.slice A ss.length c) ss.reverse ∧ Below w.heap.size w w' := by
  obtain ⟨A, c, rfl, hr⟩ := hv.openB
  clear hv
  go_enter Tryd.func24, Tryd.ntmps24
  go_wp2
  go_loopw [3, 4] (fun v i wr => ∃ (k : Nat), k ≤ ss.length ∧ i = .int .i64 ((k : Int) - 1) ∧ Aside0 (Kd.R Kd.string 9 wr w.heap.size (fun _ => True) v (ss.drop k).reverse) ∧ Aside0 (Below w.heap.size w wr)) (fun _ i _ => (intOf i + 1).toNat)
  case atStart => exact ⟨ss.length, Nat.le_refl _, rfl, ⟨by rw [List.drop_length]; exact Kd.R_nil _ _ _ _ _⟩, ⟨Below.refl _ _⟩⟩
  case round =>
    obtain ⟨k, hk, rfl, HK, HW⟩ := hrel
    cases k with
    | zero =>
      go_wp2
      go_ret
      have h := HK.out
      rw [List.drop_zero] at h
      obtain ⟨A2, c2, rfl⟩ := Kd.R_slice h
      rw [List.length_reverse] at h ⊢
      exact ⟨A2, c2, rfl, h, HW.out⟩
    | succ j =>
      have hj : j < ss.length := by omega
      obtain ⟨ad, rfl, hcx⟩ := Kd.at_string (Kd.C_below hr HW.out) j (by omega) (by exact_mod_cast hj)
      have hdb := drop_back ss j hj
      generalize rdOf ByteArray.empty ss j = x at hcx hdb
      have HD := Aside0.mk hdb
      have e1 : (((j + 1 : Nat) : Int) - 1) = (j : Int) := by omega
      rw [e1]
      have p1 : ((j : Int) < (ss.length : Int)) = True := by simpa using hj
      have p2 : (0 ≤ (j : Int)) = True := by simp
      simp only [Int.toNat_natCast] at hcx
      have hbase : w.heap.size ≤ wr.heap.size := HW.out.size
      have hll : (ss.drop (j + 1)).reverse.length ≤ 1000000 := by rw [List.length_reverse, List.length_drop]; omega
      have HLL := Aside0.mk hll
      clear hdb e1 hll
      generalize (ss.drop (j + 1)).reverse = acc at HK HD HLL
      go_wp2_with
        (at_builtin; refine Kd.R_append Kd.string (w0 := w) w.heap.size rfl (.tmp 12) (.tmp 17) 23 9 (.string ⟨#[]⟩) 16 rfl Tryd.underlying23 info9 rfl (by decide) (by decide) _ acc x [.string x] (fun _ => True) (fun _ => False) rfl rfl rfl (fun _ h => h.elim) (fun _ _ => trivial) HK.out HW.out hbase (by have := HLL.out; omega) ?_
         intro v1 w33 hR hBl hgr hat1)
      have HE := Aside0.mk (And.intro hR hBl)
      clear hR hBl hgr hat1 hbase
      go_roundw
      case rel => exact ⟨j, by omega, rfl, ⟨by rw [HD.out]; exact HE.out.1⟩, ⟨HE.out.2⟩⟩
      case measure => simp [intOf]
end Go.Proofs.YtgeoibgohlpfjaaDoor.Py
