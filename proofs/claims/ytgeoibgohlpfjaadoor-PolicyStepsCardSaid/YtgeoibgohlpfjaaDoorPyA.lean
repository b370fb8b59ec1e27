/- The name "a": what the texts' functions answer of it. -/
import Derived.Test.YtgeoibgohlpfjaaDoorPyBase
import Derived.Laws.Strings2
import Derived.Lib.AppendStr
import Derived.Lib.OthersKept
import Derived.BigCall
import Derived.Outline
import Derived.Deep.DeepMust
import Derived.LoopN
set_option linter.unusedVariables false
set_option linter.unusedSimpArgs false
namespace Go.Proofs.YtgeoibgohlpfjaaDoor.Py
open Go Go.RowKit Go.Proofs.YtgeoibgohlpfjaaDoorW.PrintWords Go.Proofs.YtgeoibgohlpfjaaDoorW.PrintLast Go.Proofs.YtgeoibgohlpfjaaDoorW.PrintMore
abbrev sA : ByteArray := ⟨#[97]⟩
theorem info5 : (Tryd.prog.info? 5).map (fun i => (i.zero, i.size, i.bytes)) = some (some (.int .u8 0), 1, 1) := by kernel_rfl
set_option maxHeartbeats 4000000 in
set_option maxRecDepth 100000 in
theorem rune_a (v : Value) (w W : World) (HO : W.ownsRow w.heap.size 5 1 v 0 (nums .u8 [])) (HB : Below w.heap.size w W) :
    Calls Tryd.prog 84 #[v, .int .i32 97] W fun e w' => ∃ v1, e = .returned v1 ∧ w'.ownsRow w.heap.size 5 1 v1 1 (nums .u8 [97]) ∧ Below w.heap.size w w' ∧ W.grownBy w' v.ownBlock := by
  have HX := Aside0.mk (And.intro HO (And.intro HB HB.size))
  clear HO HB
  go_enter Tryd.func84, Tryd.ntmps84
  go_wp2_with (at_builtin; refine print_append_num (w0 := w) w.heap.size rfl (.tmp 8) (.tmp 11) 35 5 .u8 1 rfl Tryd.underlying35 info5 (by decide) v [] 97 rfl rfl HX.out.1 HX.out.2.1 HX.out.2.2 (by simp) ?_; intro v3 w3 hown3 hbl3 hgrow3 hat3)
  go_ret
  exact ⟨v3, rfl, hown3, hbl3, hgrow3⟩
theorem own_iter_ne {W : World} {base e n K pos : Nat} {v : Value} {xs : List Value} {s : ByteArray} (h : W.ownsRow base e 1 v n xs) (hk : W.heap[K]? = some (.stringIter s pos)) : some K ≠ v.ownBlock := by
  intro e2
  obtain ⟨cells, hc⟩ := own_typed h K e2.symm
  rw [hk] at hc
  cases hc
theorem own_iterAt {W : World} {base e n K pos p : Nat} {v : Value} {xs : List Value} {s : ByteArray} (h : W.ownsRow base e 1 v n xs) (hk : W.heap[K]? = some (.stringIter s pos)) : (W.iterAt K s p).ownsRow base e 1 v n xs := by
  refine ⟨h.1, ?_⟩
  rcases h.2 with h0 | ⟨g, cap, cur, rfl, hg, hb, h3⟩
  · exact .inl h0
  · refine .inr ⟨g, cap, cur, rfl, hg, ?_, h3⟩
    rw [Lib.iterAt_other W K g s p (by
      rintro rfl
      rw [hk] at hb
      cases hb)]
    exact hb
theorem iter_grown {W W' : World} {row : Option Nat} {K pos : Nat} {s : ByteArray} (hg : W.grownBy W' row) (hk : W.heap[K]? = some (.stringIter s pos)) (hne : some K ≠ row) : W'.heap[K]? = some (.stringIter s pos) := by
  exact (hg.block K (Array.getElem?_eq_some_iff.1 hk).1 hne).trans hk
set_option maxHeartbeats 4000000 in
set_option maxRecDepth 100000 in
theorem fold_a (w : World) : Calls Tryd.prog 74 #[.string sA] w fun e w' => e = .returned (.string sA) ∧ Below w.heap.size w w' := by
  obtain ⟨i0, hi, hz0, hz1, hz2⟩ := info_parts info5
  go_enter Tryd.func74, Tryd.ntmps74
  go_wp2_with (at_make; refine wpList_make_own _ rfl _ _ 35 rfl w.heap.size 5 i0 (.int .u8 0) 1 Tryd.underlying35 hi hz0 hz1 .i64 .i64 _ 1 rfl rfl rfl (by rw [hz2]; omega) (by unfold maxLen; omega) (Nat.le_refl _) ?_)
  intro w1 hown1 hgrow1
  have hb1 : Below w.heap.size w w1 := (Below.refl _ w).grown hgrow1 (Nat.le_refl _) (by simp)
  go_wp2
  have hit : (w1.iter sA 0).heap[w1.heap.size]? = some (.stringIter sA 0) := World.iter_heap w1 sA 0
  have hnx := fun ty => Lib.run_next_ascii_at (P := Tryd.prog) (w1.iter sA 0) w1.heap.size sA 0 ty hit (by decide) (by decide)
  have hown2 : ((w1.iter sA 0).iterAt w1.heap.size sA 1).ownsRow w.heap.size 5 1 (.slice (some ⟨w.heap.size, 0, none⟩) 0 1) 0 (nums .u8 []) := own_iterAt (hown1.alloc _) hit
  have h97 : ((sA[0]'(by decide)).toNat : Int) = 97 := rfl
  rw [h97] at hnx
  have hit2 := Lib.iterAt_heap (w1.iter sA 0) w1.heap.size sA 0 1 hit
  have hb2 : Below w.heap.size w ((w1.iter sA 0).iterAt w1.heap.size sA 1) := Lib.below_iterAt (hb1.alloc hb1.size _) hb1.size sA 1
  have HX := Aside0.mk (And.intro hb2 (And.intro hown2 hit2))
  clear hit hit2 hb2 hown2 hb1 hown1 hgrow1 h97
  refine wp_loop_rounds 2 ?_
  rw [rounds_succ]
  go_wp2_with (go_at_call 84; (with_reducible refine (rune_a _ w _ HX.out.2.1 HX.out.1).mono ?_); rintro e w4 ⟨v4, rfl, hown4, o4, hgrow4⟩)
  have hit4 := iter_grown hgrow4 HX.out.2.2 (own_iter_ne HX.out.2.1 HX.out.2.2)
  have hnx4 : ∀ ty, (Instr.next (.pointer (some ⟨w1.heap.size, 0, none⟩)) true ty).run Tryd.prog w4 = _ := fun ty => Lib.run_next_end_at w4 w1.heap.size sA 1 ty hit4 (by decide)
  clear hnx
  have hcv := own_string (P := Tryd.prog) (src := 35) (dst := 9) Tryd.underlying35 Tryd.underlying5 Tryd.underlying9 hown4
  have HY := Aside0.mk o4
  clear hown4 o4 hit4 hgrow4
  rw [rounds_succ]
  go_wp2
  go_ret
  exact ⟨rfl, HY.out⟩
set_option maxHeartbeats 4000000 in
set_option maxRecDepth 100000 in
/-- utf8.Valid of it -/
theorem valid_a (b : Nat) (w : World) (hb : w.heap[b]? = some (.cells #[.int .u8 97] 5 (1, 2))) : Calls Tryd.prog 81 #[.slice (some ⟨b, 0, none⟩) 1 1] w fun e w' => e = .returned (.bool true) ∧ Below w.heap.size w w' := by
  have hc : w.cell? ⟨b, 0, none⟩ = some (.int .u8 97) := by rw [cell_of_row w b 0 _ _ _ hb]; rfl
  clear hb
  go_enter Tryd.func81, Tryd.ntmps81
  go_wp2
  refine wp_loop_rounds 2 ?_
  rw [rounds_succ]
  go_wp2
  rw [rounds_succ]
  go_wp2
  go_ret
  exact ⟨rfl, Below.refl _ _⟩
theorem one_cell {w : World} {b : Nat} {x : Int} {e : TypeId} {fr : Nat × Nat} (hb : w.heap[b]? = some (.cells #[.int .u8 x] e fr)) : ∀ i, i < 1 → w.cell? ⟨b, 0 + i, none⟩ = some (.int .u8 ([x].getD i 0)) := by
  intro i hi
  obtain rfl : i = 0 := by omega
  rw [Nat.add_zero, cell_of_row w b 0 _ _ _ hb]
  rfl
theorem str_of_a : strOfNums [97] = sA := rfl
set_option maxHeartbeats 4000000 in
set_option maxRecDepth 100000 in
theorem text_a (b : Nat) (w : World) (hb : w.heap[b]? = some (.cells #[.int .u8 97] 5 (1, 2))) : Calls Tryd.prog 73 #[.int .i64 12, .slice (some ⟨b, 0, none⟩) 1 1] w fun e w' => e = .returned (.tuple #[.string sA, .int .i64 0]) ∧ Below w.heap.size w w' := by
  have HB := Aside0.mk hb
  clear hb
  go_enter Tryd.func73, Tryd.ntmps73
  go_wp2_with
   (go_at_call 81; (with_reducible refine (valid_a b w HB.out).mono ?_); rintro e w4 ⟨rfl, hbl⟩
    have hb4 := blk_below HB.out hbl
    have hcv := run_convert_bytes_arg (P := Tryd.prog) w4 35 5 Tryd.underlying35 Tryd.underlying5 b 0 1 1 [97] rfl (one_cell hb4) 9 Tryd.underlying9
    rw [str_of_a] at hcv
    have HX := Aside0.mk hbl
    clear hbl hb4)
  go_ret2
  exact ⟨rfl, HX.out⟩
abbrev sK : ByteArray := ⟨#[61, 97]⟩
set_option maxHeartbeats 4000000 in
set_option maxRecDepth 100000 in
/-- text.Key of it -/
theorem key_a (b : Nat) (w : World) (hb : w.heap[b]? = some (.cells #[.int .u8 97] 5 (1, 2))) : Calls Tryd.prog 60 #[.int .i64 12, .slice (some ⟨b, 0, none⟩) 1 1] w fun e w' => e = .returned (.string sK) ∧ Below w.heap.size w w' := by
  have HB := Aside0.mk hb
  clear hb
  go_enter Tryd.func60, Tryd.ntmps60
  go_wp2_with (first
    | (go_at_call 73; (with_reducible refine (text_a b w HB.out).mono ?_); rintro e w4 ⟨rfl, hbl⟩; have HX := Aside0.mk hbl; clear hbl)
    | (go_at_call 74; (with_reducible refine (fold_a _).mono ?_); rintro e w5 ⟨rfl, hbl⟩; have HY := Aside0.mk hbl; clear hbl))
  go_ret
  exact ⟨rfl, HX.out.trans (HY.out.mono HX.out.size)⟩
end Go.Proofs.YtgeoibgohlpfjaaDoor.Py
