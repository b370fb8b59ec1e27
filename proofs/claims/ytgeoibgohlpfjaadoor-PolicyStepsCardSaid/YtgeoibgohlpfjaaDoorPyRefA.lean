/- The document's functions at "a", walked. -/
import Derived.Test.YtgeoibgohlpfjaaDoorPyA
set_option linter.unusedVariables false
set_option linter.unusedSimpArgs false
namespace Go.Proofs.YtgeoibgohlpfjaaDoor.Py
open Go Go.RowKit Go.Proofs.YtgeoibgohlpfjaaDoorW.PrintWords Go.Proofs.YtgeoibgohlpfjaaDoorW.PrintLast Go.Proofs.YtgeoibgohlpfjaaDoorW.PrintMore
set_option maxHeartbeats 4000000 in
set_option maxRecDepth 100000 in
theorem utf8R_a (b : Nat) (w : World) (hb : w.heap[b]? = some (.cells #[.int .u8 97] 5 (1, 2))) : Calls Tryd.prog 78 #[.slice (some ⟨b, 0, none⟩) 1 1] w fun e w' => e = .returned (.bool true) ∧ Below w.heap.size w w' := by
  have hc : w.cell? ⟨b, 0, none⟩ = some (.int .u8 97) := by rw [cell_of_row w b 0 _ _ _ hb]; rfl
  clear hb
  go_enter Tryd.func78, Tryd.ntmps78
  go_wp2
  refine wp_loop_rounds 2 ?_
  rw [rounds_succ]
  go_wp2
  rw [rounds_succ]
  go_wp2
  go_ret
  exact ⟨rfl, Below.refl _ _⟩
set_option maxHeartbeats 4000000 in
set_option maxRecDepth 100000 in
theorem textR_a (b : Nat) (w : World) (hb : w.heap[b]? = some (.cells #[.int .u8 97] 5 (1, 2))) : Calls Tryd.prog 69 #[.int .i64 12, .slice (some ⟨b, 0, none⟩) 1 1] w fun e w' => e = .returned (.tuple #[.string sA, .int .i64 0]) ∧ Below w.heap.size w w' := by
  have HB := Aside0.mk hb
  clear hb
  go_enter Tryd.func69, Tryd.ntmps69
  go_wp2_with
   (go_at_call 78; (with_reducible refine (utf8R_a b w HB.out).mono ?_); rintro e w4 ⟨rfl, hbl⟩
    have hb4 := blk_below HB.out hbl
    have hcv := run_convert_bytes_arg (P := Tryd.prog) w4 35 5 Tryd.underlying35 Tryd.underlying5 b 0 1 1 [97] rfl (one_cell hb4) 9 Tryd.underlying9
    rw [str_of_a] at hcv
    have HX := Aside0.mk hbl
    clear hbl hb4)
  go_ret2
  exact ⟨rfl, HX.out⟩
/-- a byte of the call's own -/
theorem own_num {w : World} {base : Nat} {v : Value} {x : Int} (h : w.ownsRow base 5 1 v ([] ++ [x]).length (nums .u8 ([] ++ [x]))) :
    ∃ g c, v = .slice (some ⟨g, 0, none⟩) 1 c ∧ w.cell? ⟨g, 0, none⟩ = some (.int .u8 x) ∧ (convert 35 9 v).run Tryd.prog w = .ok (.string (strOfNums [x])) w := by
  have hcv := own_string (P := Tryd.prog) (src := 35) (dst := 9) Tryd.underlying35 Tryd.underlying5 Tryd.underlying9 h
  rcases h.2 with ⟨e, h0⟩ | ⟨g', cap, cur, e, hg, hh, h1, h2, h3, h4⟩
  · simp at h0
  · refine ⟨g', cap, e, ?_, by simpa using hcv⟩
    have := h.cells (g := g') (by rw [e]; rfl) 0 (.int .u8 x) rfl
    exact this
theorem own_fresh (w : World) (x : Int) : (w.alloc (.cells #[.int .u8 x] 5)).ownsRow w.heap.size 5 1 (.slice (some ⟨w.heap.size, 0, none⟩) 1 1) 1 (nums .u8 [x]) :=
  ⟨rfl, .inr ⟨w.heap.size, 1, #[.int .u8 x], rfl, Nat.le_refl _, blk_new w _, Nat.le_refl _, by decide, rfl, rfl⟩⟩
set_option maxHeartbeats 4000000 in
set_option maxRecDepth 100000 in
theorem foldR_a (w : World) : Calls Tryd.prog 71 #[.string sA] w fun e w' => e = .returned (.string sA) ∧ Below w.heap.size w w' := by
  have hix : ∀ w, (Instr.index 9 (.string sA) (.int .i64 0)).run Tryd.prog w = .ok (.int .u8 97) w := fun _ => by kernel_rfl
  go_enter Tryd.func71, Tryd.ntmps71
  go_wp2
  refine wp_loop_rounds 2 ?_
  rw [rounds_succ]
  go_wp2_with (at_builtin; refine print_append_num (w0 := w) w.heap.size rfl (.tmp 39) (.tmp 41) 35 5 .u8 1 rfl Tryd.underlying35 info5 (by decide) (.slice none 0 0) [] 97 rfl rfl (own_nil _ _ _ _) (Below.refl _ _) (Nat.le_refl _) (by simp) ?_; intro v3 w3 hown3 hbl3 hgrow3 hat3)
  obtain ⟨g, c, rfl, hcl, hcv⟩ := own_num hown3
  have HX := Aside0.mk hbl3
  clear hown3 hbl3 hgrow3 hat3 hix
  go_wp2
  rw [rounds_succ]
  go_wp2
  go_ret
  exact ⟨rfl, HX.out⟩
set_option maxHeartbeats 4000000 in
set_option maxRecDepth 100000 in
theorem keyR_a (b : Nat) (w : World) (hb : w.heap[b]? = some (.cells #[.int .u8 97] 5 (1, 2))) : Calls Tryd.prog 56 #[.int .i64 12, .slice (some ⟨b, 0, none⟩) 1 1] w fun e w' => e = .returned (.string sK) ∧ Below w.heap.size w w' := by
  have HB := Aside0.mk hb
  clear hb
  go_enter Tryd.func56, Tryd.ntmps56
  go_wp2_with (first
    | (go_at_call 69; (with_reducible refine (textR_a b w HB.out).mono ?_); rintro e w4 ⟨rfl, hbl⟩; have HX := Aside0.mk hbl; clear hbl)
    | (go_at_call 71; (with_reducible refine (foldR_a _).mono ?_); rintro e w5 ⟨rfl, hbl⟩; have HY := Aside0.mk hbl; clear hbl))
  go_ret
  exact ⟨rfl, HX.out.trans (HY.out.mono HX.out.size)⟩
set_option maxHeartbeats 4000000 in
set_option maxRecDepth 100000 in
theorem decR_2 (w : World) : Calls Tryd.prog 57 #[.int .i64 2] w fun e w' => e = .returned (.string ⟨#[50]⟩) ∧ Below w.heap.size w w' := by
  have hcv := own_string (P := Tryd.prog) (src := 35) (dst := 9) Tryd.underlying35 Tryd.underlying5 Tryd.underlying9 (own_fresh w 50)
  go_enter Tryd.func57, Tryd.ntmps57
  go_wp2
  refine wp_loop_rounds 1 ?_
  rw [rounds_succ]
  go_wp2
  go_ret
  exact ⟨rfl, below_alloc (Below.refl _ _) _⟩
end Go.Proofs.YtgeoibgohlpfjaaDoor.Py
