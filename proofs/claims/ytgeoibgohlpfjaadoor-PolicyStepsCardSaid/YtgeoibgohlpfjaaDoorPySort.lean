/- policy.sorted walked: the texts of a list, in order, each once. -/
import Derived.Test.YtgeoibgohlpfjaaDoorPyBase
import Derived.Sort.EveryDepth
import Derived.Sort.OwnSorted
import Derived.Sort.Grow
import Derived.Lib.OwnBridge
import Derived.Shelf.Lay
import Derived.Shelf.Slices.In.CompactS
import Derived.Shelf.Slices.In.SortAlone
import Derived.Shelf.Slices.In.SortNone
import Derived.Test.YtgeoibgohlpfjaaDoorShelf
set_option linter.unusedVariables false
set_option linter.unusedSimpArgs false
namespace Go.Proofs.YtgeoibgohlpfjaaDoor.Py
open Go Go.RowKit Go.Sort Go.Proofs.YtgeoibgohlpfjaaDoorW.PrintWords Go.Proofs.YtgeoibgohlpfjaaDoorW.PrintLast Go.Proofs.YtgeoibgohlpfjaaDoorW.PrintMore

theorem enc_bs (l : S) : encStr l = Value.string (bs l) := rfl
theorem reads_of_holds {w : World} {g : Nat} {l : List S} (h : Holds encStr w g 0 l.toArray) (hl : l.length ≤ 9223372036854775807) : Kd.C Kd.string w (some ⟨g, 0, none⟩) (l.map bs).length (l.map bs) := by
  refine ⟨rfl, by simpa using hl, fun _ => ⟨_, rfl, fun j p hp => ⟨[.string p], rfl, rfl, fun i u hu => ?_⟩⟩⟩
  have hi : i = 0 := by
    rcases Nat.lt_or_ge i 1 with h1 | h1
    · omega
    · rw [List.getElem?_eq_none (by simpa using h1)] at hu
      cases hu
  subst hi
  simp at hu
  subst hu
  rw [List.getElem?_map, Option.map_eq_some_iff] at hp
  obtain ⟨x, hx, rfl⟩ := hp
  have hj : j < l.length := (List.getElem?_eq_some_iff.1 hx).1
  have h2 := (h j (by simpa using hj)).1
  have e1 : l.toArray[j]! = x := by
    rw [List.getElem!_toArray, List.getElem!_eq_getElem?_getD, hx]
    rfl
  rw [e1, enc_bs, Nat.zero_add] at h2
  show w.cell? ((⟨g, 0, none⟩ : Addr).add (j * Kd.string.sz + 0)) = _
  have e2 : (⟨g, 0, none⟩ : Addr).add (j * Kd.string.sz + 0) = ⟨g, j, none⟩ := by
    show (⟨g, 0, none⟩ : Addr).add (j * 1 + 0) = _
    simp [Addr.add]
    omega
  rw [e2, h2]

theorem run_mk (n : Nat) (w : World) (hn : n < 8796093022208) : ∃ cells : Array Value, cells.size = n ∧ (Instr.makeSlice 23 (.int .i64 n) (.int .i64 n)).run Tryd.prog w = .ok (.slice (some ⟨w.heap.size, 0, none⟩) n n) (w.alloc (.cells cells 9 (0, 0))) := by
  have e16 : (Tryd.prog.info? 9).map (·.bytes) = some 16 := by kernel_rfl
  have e1 : (Tryd.prog.info? 9).map (·.size) = some 1 := by kernel_rfl
  have ez : ((Tryd.prog.info? 9).bind (·.zero)).isSome = true := by kernel_rfl
  obtain ⟨i, hi, h16⟩ := Option.map_eq_some_iff.1 e16
  obtain ⟨z, hz0⟩ := Option.isSome_iff_exists.1 ez
  rw [hi] at e1 hz0
  have h1 : i.size = 1 := Option.some.inj e1
  have hz : i.zero = some z := hz0
  have h := run_make (P := Tryd.prog) w 23 9 i z Tryd.underlying23 hi hz .i64 .i64 n n (by omega) (by omega) (by rw [h16]; omega) (by omega)
  simp only [Int.toNat_natCast] at h
  exact ⟨_, by rw [size_madeCells, h1, Nat.mul_one], h⟩
/-- what copy leaves: the texts lie in the new block -/
theorem copied (n c : Nat) (A : Option Addr) (ss : List ByteArray) (hn : ss.length = n) (w : World) (hr : Kd.C Kd.string w A n ss) (cells : Array Value) (hc : cells.size = n) :
    ∃ W, (Builtin.copy_ #[23, 23] 3 #[.slice (some ⟨w.heap.size, 0, none⟩) n n, .slice A n c]).run Tryd.prog (w.alloc (.cells cells 9 (0, 0))) = .ok (goInt n) W ∧
      Below w.heap.size w W ∧ w.heap.size < W.heap.size ∧ Holds encStr W w.heap.size 0 (ss.map tl).toArray := by
  have hs : (Tryd.prog.info? 9).map (·.size) = some 1 := by kernel_rfl
  have hB : Below w.heap.size w (w.alloc (.cells cells 9 (0, 0))) := (Below.refl _ _).alloc (Nat.le_refl _) _
  have hsz : (w.alloc (.cells cells 9 (0, 0))).heap.size = w.heap.size + 1 := by simp
  have hg : (w.alloc (.cells cells 9 (0, 0))).heap[w.heap.size]? = some (.cells cells 9 (0, 0)) := (MapKept.heap_alloc w _).1
  have hr1 := Kd.C_below hr hB
  generalize w.alloc (.cells cells 9 (0, 0)) = w1 at hB hsz hg hr1 ⊢
  by_cases h0 : n = 0
  · subst h0
    refine ⟨w1, run_copy_none w1 23 23 3 9 _ _ _ _ _ _ Tryd.underlying23 hs (by simp), hB, by omega, fun j hj => ?_⟩
    have : ss = [] := List.eq_nil_of_length_eq_zero hn
    subst this
    simp at hj
  · obtain ⟨ad, rfl, hcell⟩ := hr1.2.2 (by omega)
    have hsrc : ∀ j v, (ss.map Value.string)[j]? = some v → w1.cell? (ad.add j) = some v := by
      intro j v hv
      rw [List.getElem?_map, Option.map_eq_some_iff] at hv
      obtain ⟨x, hx, rfl⟩ := hv
      obtain ⟨cs, hcl, hcs, hu⟩ := hcell j x hx
      have : cs = [Value.string x] := hcs
      subst this
      have := hu 0 (Value.string x) rfl
      rwa [show j * Kd.string.sz + 0 = j from by show j * 1 + 0 = j; omega] at this
    have hdst : ∀ j, j < (ss.map Value.string).length → (w1.cell? ⟨w.heap.size, 0 + j, none⟩).isSome = true := by
      intro j hj
      have hj2 : j < cells.size := by simp at hj; omega
      simp [World.cell?, hg, Array.getElem?_eq_getElem hj2]
    have hfz : ∀ j, j < (ss.map Value.string).length → w1.frozen? ⟨w.heap.size, 0 + j, none⟩ = false := by
      intro j hj
      simp [World.frozen?, hg]
    have hrun := run_copy_cells (P := Tryd.prog) w1 23 23 3 9 w.heap.size 0 n n ad n c (ss.map Value.string) Tryd.underlying23 hs (by simp [hn]) hsrc hdst hfz (by simp [Value.oneCell'])
    rw [List.length_map, hn] at hrun
    obtain ⟨q1, q2, q3, q4⟩ := setCells_same w.heap.size (ss.map Value.string) 0 w1
    obtain ⟨cur, hcur, hcs, hct⟩ := setCells_row (g := w.heap.size) (ss.map Value.string) 0 w1 cells hg (by simp; omega)
    refine ⟨_, hrun, ⟨q1.trans hB.os, q2.trans hB.tape, q3.trans hB.output, by rw [q4]; exact hB.size, fun k hk => (setCells_far _ _ k (by omega)).trans (hB.block k hk)⟩, by rw [q4]; omega, ?_⟩
    refine holds_of_block hcur ?_
    rw [hct, List.length_map, hn, Lib.map_encStr]
    simp only [List.take_zero, List.nil_append, List.length_map, hn, Nat.zero_add]
    rw [List.drop_of_length_le (by simp; omega), List.append_nil, List.take_of_length_le (by simp; omega)]
set_option maxHeartbeats 4000000 in
set_option maxRecDepth 100000 in
theorem sorted_walk (A : Option Addr) (c : Nat) (ss : List ByteArray) (w : World) (hr : Kd.C Kd.string w A ss.length ss) (hl : ss.length < 1099511627776) :
    Calls Tryd.prog 30 #[.slice A ss.length c] w fun e w' => ∃ v, e = .returned v ∧ Strs w' v (nrm ss) ∧ Below w.heap.size w w' := by
  obtain ⟨n, hn⟩ : ∃ n, ss.length = n := ⟨_, rfl⟩
  obtain ⟨cells, hcs, hmk⟩ := run_mk n w (by omega)
  rw [hn] at hr ⊢
  obtain ⟨W, hcp, hB, hlt, hH⟩ := copied n c A ss hn w hr cells hcs
  have hsz : (ss.map tl).length = n := by simpa using hn
  have hl2 : ((ss.map tl).mergeSort fun x y => decide (x ≤ y)).length = n := by rw [List.length_mergeSort, hsz]
  generalize hms : ((ss.map tl).mergeSort fun x y => decide (x ≤ y)) = ms at hl2
  have hsort := Tryd.slices_Sort_string w.heap.size 0 n (ss.map tl) W hH hlt (by omega)
  rw [hsz, hms] at hsort
  have hnrm : (nrm ss) = (Lib.compact ms).map bs := by rw [← hms]; rfl
  have hX := Aside0.mk (And.intro hB (And.intro hlt hH))
  clear hB hlt hH hr
  go_enter Tryd.func30, Tryd.ntmps30
  go_wp2_with (first
    | (go_at_call 35; refine hsort.mono ?_; rintro e w2 ⟨rfl, nn, os, rfl⟩
       have hH2 : Holds encStr (grow (putRow encStr (Sort.ahead W nn) w.heap.size 0 ms.toArray) os) w.heap.size 0 ms.toArray :=
         holds_grow encStr _ os _ 0 _ (by simpa [putRow, mapBlock, Sort.ahead] using hX.out.2.1) (holds_putRow encStr _ _ 0 _ _ (by have := holds_ahead encStr W nn _ 0 _ hX.out.2.2; exact this) (by simp [hsz, hl2]))
       have hcomp := Tryd.slices_Compact_string w.heap.size 0 n ms _ hH2 (by omega) (by omega)
       rw [hl2] at hcomp
       have hB2 : Below w.heap.size w (grow (putRow encStr (Sort.ahead W nn) w.heap.size 0 ms.toArray) os) := hX.out.1.grown (grownBy_sorted _) hX.out.1.size (fun j hj => by cases hj; exact Nat.le_refl _)
       clear hsort)
    | (go_at_call 36; refine hcomp.mono ?_; rintro e w3 ⟨rfl, q, rfl⟩))
  go_ret
  have hle := Lib.compact_length_le ms
  have hH3 := holds_putRow encStr (Sort.ahead (grow (putRow encStr (Sort.ahead W nn) w.heap.size 0 ms.toArray) os) q) w.heap.size 0 ms.toArray (Lib.compact ms ++ List.replicate (n - (Lib.compact ms).length) []).toArray (holds_ahead encStr _ q _ 0 _ hH2) (by simp; omega)
  refine ⟨.slice (some ⟨w.heap.size, 0, none⟩) (Lib.compact ms).length n, rfl, ⟨some ⟨w.heap.size, 0, none⟩, n, by rw [hnrm, List.length_map], by rw [hnrm, List.length_map]; omega, ?_⟩, ?_⟩
  · rw [hnrm]
    refine reads_of_holds (fun j hj => ?_) (by omega)
    have hj2 : j < (Lib.compact ms).length := by simpa using hj
    have := hH3 j (by simp; omega)
    refine ⟨this.1.trans ?_, this.2⟩
    rw [List.getElem!_toArray, List.getElem!_toArray, List.getElem!_eq_getElem?_getD, List.getElem!_eq_getElem?_getD, List.getElem?_append_left hj2]
  · exact Lib.below_putRow hB2 (Nat.le_refl _)
end Go.Proofs.YtgeoibgohlpfjaaDoor.Py
