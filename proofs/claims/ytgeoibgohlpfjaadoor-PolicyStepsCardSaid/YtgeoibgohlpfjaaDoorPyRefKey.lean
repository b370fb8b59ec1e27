/- The document's Own at a certificate that the law makes, and what it calls at the name "a", walked (written by refgen.py). -/
import Derived.Test.YtgeoibgohlpfjaaDoorPyRefA
import Derived.Test.YtgeoibgohlpfjaaDoorPyName
import Derived.Lib.SmallJoins
set_option linter.unusedVariables false
set_option linter.unusedSimpArgs false
namespace Go.Proofs.YtgeoibgohlpfjaaDoor.Py
open Go Go.RowKit Go.Proofs.YtgeoibgohlpfjaaDoorW.PrintWords Go.Proofs.YtgeoibgohlpfjaaDoorW.PrintLast Go.Proofs.YtgeoibgohlpfjaaDoorW.PrintMore
theorem info35 : (Tryd.prog.info? 35).map (fun i => (i.zero, i.size, i.bytes)) = some (some (.slice none 0 0), 1, 24) := by kernel_rfl
theorem own_cell {w : World} {base : Nat} {e : TypeId} {v x : Value} (h : w.ownsRow base e 1 v 1 [x]) : ∃ g c, v = .slice (some ⟨g, 0, none⟩) 1 c ∧ 1 ≤ c ∧ w.cell? ⟨g, 0, none⟩ = some x := by
  rcases h.2 with ⟨e, h0⟩ | ⟨g', cap, cur, e, hg, hh, h1, h2, h3, h4⟩
  · omega
  · refine ⟨g', cap, e, h1, ?_⟩
    exact h.cells (g := g') (by rw [e]; rfl) 0 x rfl
set_option maxHeartbeats 4000000 in
set_option maxRecDepth 100000 in
theorem sortR_one (g c : Nat) (A : Option Addr) (m k : Nat) (w : World) (hc : w.cell? ⟨g, 0, none⟩ = some (.slice A m k)) : Calls Tryd.prog 58 #[.slice (some ⟨g, 0, none⟩) 1 c] w fun e w' => ∃ g2 c2, e = .returned (.slice (some ⟨g2, 0, none⟩) 1 c2) ∧ w'.cell? ⟨g2, 0, none⟩ = some (.slice A m k) ∧ Below w.heap.size w w' := by
  go_enter Tryd.func58, Tryd.ntmps58
  go_wp2
  refine wp_loop_rounds 2 ?_
  rw [rounds_succ]
  go_wp2_with
   (at_builtin; refine print_append (w0 := w) w.heap.size rfl (.tmp 12) (.tmp 17) 100 35 (.slice none 0 0) 24 rfl Tryd.underlying100 info35 rfl (by decide) (.slice none 0 0) [] (.slice A m k) rfl rfl rfl (own_nil _ _ _ _) (Below.refl _ _) (Nat.le_refl _) (by simp) ?_; intro v3 w3 hown3 hbl3 hgrow3 hat3
    obtain ⟨g2, c2, rfl, h12, hcell⟩ := own_cell hown3
    have HX := Aside0.mk (And.intro hbl3 hcell)
    clear hown3 hbl3 hgrow3 hat3 hcell hc h12)
  refine wp_loop_rounds 1 ?_
  rw [rounds_succ]
  go_wp2
  go_quiet (fail)
  go_wp2
  rw [rounds_succ]
  go_wp2
  go_ret
  exact ⟨g2, c2, rfl, HX.out.2, pw_below_drewN HX.out.1 _⟩
/-- a string's bytes -/
def lst (s : ByteArray) : List Int := s.data.toList.map fun b => (b.toNat : Int)
theorem lst_length (s : ByteArray) : (lst s).length = s.size := by rw [lst, List.length_map, Array.length_toList]; rfl
theorem conv_C (w : World) (s : ByteArray) (hs : s.size ≤ 9223372036854775807) : Kd.C (Kd.int .u8) (Lib.bytesWorld w 5 s) (some ⟨w.heap.size, 0, none⟩) (lst s).length (lst s) := by
  refine Kd.C_of_reads (enc := Value.int .u8) (d := (0 : Int)) (h1 := fun _ => rfl) ⟨rfl, by rw [lst_length]; exact hs, fun _ => ⟨_, rfl, fun j hj => ?_⟩⟩
  have e : (⟨w.heap.size, 0, none⟩ : Addr).add j = ⟨w.heap.size, j, none⟩ := by unfold Addr.add; split <;> simp_all
  rw [lst_length] at hj
  rw [e, Lib.bytesWorld_cell w 5 s j hj]
  have hj' : j < s.data.toList.length := by rw [Array.length_toList]; exact hj
  simp [lst, List.getD_eq_getElem?_getD, List.getElem?_eq_getElem hj']
theorem kcP (w : World) : (convert 9 35 (.string sP)).run Tryd.prog w = .ok (.slice (some ⟨w.heap.size, 0, none⟩) sP.size (grownCap w sP.size 0 5)) (Lib.bytesWorld w 5 sP) := Lib.run_convert_string_bytes (P := Tryd.prog) w 9 35 5 sP Tryd.underlying9 Tryd.underlying35 Tryd.underlying5
theorem back_P {w : World} {g c : Nat} (h : Kd.C (Kd.int .u8) w (some ⟨g, 0, none⟩) (lst sP).length (lst sP)) : (convert 35 9 (.slice (some ⟨g, 0, none⟩) 14 c)).run Tryd.prog w = .ok (.string sP) w :=
  Kd.C_string (P := Tryd.prog) (src := 35) (dst := 9) (n := 14) Tryd.underlying35 Tryd.underlying5 Tryd.underlying9 h
set_option maxHeartbeats 4000000 in
set_option maxRecDepth 100000 in
theorem keyN_a (n : Value) (w : World) (hn : NameAt w n) : Calls Tryd.prog 41 #[n] w fun e w' => e = .returned (.string sM) ∧ Below w.heap.size w w' := by
  obtain ⟨b1, b2, b3, rfl, h1, h2, h3⟩ := hn
  have HN := Aside0.mk (And.intro h1 (And.intro h2 h3))
  have c1 : w.cell? ⟨b1, 0, none⟩ = some (.slice (some ⟨b2, 0, none⟩) 1 1) := by rw [cell_of_row _ b1 0 _ _ _ h1]; rfl
  clear h1 h2 h3
  go_enter Tryd.func41, Tryd.ntmps41
  go_wp2
  refine wp_loop_rounds 2 ?_
  rw [rounds_succ]
  go_wp2
  refine wp_loop_rounds 2 ?_
  rw [rounds_succ]
  go_wp2_with (first
   | ((with_reducible refine gate_dst (N := 31) rfl ?_); refine law_load rfl 69 _ rfl b2 rfl HN.out.2.1 _ Tryd.underlying69 rfl (by kernel_rfl) ?_)
   | (go_at_call 56; (with_reducible refine (keyR_a b3 _ (blk_alloc HN.out.2.2 _)).mono ?_); rintro e w1 ⟨rfl, hbl⟩
      have hb1 := blk_below (blk_new w _) hbl
      have BK := Aside0.mk hb1
      have hB1 := below_step (below_alloc (Below.refl w.heap.size w) _) hbl
      have HB := Aside0.mk hB1
      clear hbl hB1 hb1))
  clear c1
  generalize w.heap.size = g at BK ⊢
  have n0_ := Aside0.mk (blk_drew BK.out)
  have n1_ := Aside0.mk (below_drew1 HB.out)
  clear BK HB
  have BK := n0_
  have HB := n1_
  clear n0_ n1_
  refine start_ (n := 16) (S := fun w' => w'.cell? ⟨g, 0, none⟩ = some (.string tyO)) (ds := []) #[false, false, false, false, false, false, false, false, false, false, false, false, false, false, false, false] (by kernel_rfl) rfl rfl ((blk_cell BK.out 0).trans rfl) (fun hHeld => ?_)
  generalize w1.drew = w10 at BK HB hHeld ⊢
  refine pure_ (i := 0) (N := some 37) (v := ?_) (a' := ?_) #[true, false, false, false, false, false, false, false, false, false, false, false, false, false, false, false] rfl rfl (by kernel_rfl) (fun _ _ _ h => h) (Or.inl ⟨by rfl, ?_⟩) ?_ ?_
  rotate_left
  · intro w'
    go_simp
    with_reducible rfl
  rotate_left
  · simp only [Act.put, List.setIfInBounds_toArray, List.set_cons_zero, List.set_cons_succ, i64_w, i32_w]
    rfl
  refine pure_ (i := 1) (N := some 38) (v := ?_) (a' := ?_) #[true, true, false, false, false, false, false, false, false, false, false, false, false, false, false, false] rfl rfl (by kernel_rfl) (fun _ _ _ h => h) (Or.inl ⟨by rfl, ?_⟩) ?_ ?_
  rotate_left
  · intro w'
    go_simp
    with_reducible rfl
  rotate_left
  · simp only [Act.put, List.setIfInBounds_toArray, List.set_cons_zero, List.set_cons_succ, i64_w, i32_w]
    rfl
  refine take_ (i := 2) (N := some 39) (v := ?_) (a' := ?_) #[true, true, true, false, false, false, false, false, false, false, false, false, false, false, false, false] rfl rfl (by kernel_rfl) (fun _ _ _ h => h) (Or.inl ⟨by rfl, ?_⟩) hHeld ?_ ?_
  rotate_left
  · rintro w' s0
    go_simp
    with_reducible rfl
  rotate_left
  · simp only [Act.put, List.setIfInBounds_toArray, List.set_cons_zero, List.set_cons_succ, i64_w, i32_w]
    rfl
  refine pure_ (i := 3) (N := some 40) (v := ?_) (a' := ?_) #[true, true, true, true, false, false, false, false, false, false, false, false, false, false, false, false] rfl rfl (by kernel_rfl) (fun _ _ _ h => h) (Or.inl ⟨by rfl, ?_⟩) ?_ ?_
  rotate_left
  · intro w'
    go_simp
    with_reducible rfl
  rotate_left
  · simp only [Act.put, List.setIfInBounds_toArray, List.set_cons_zero, List.set_cons_succ, i64_w, i32_w]
    rfl
  refine pure_ (i := 4) (N := some 41) (v := ?_) (a' := ?_) #[true, true, true, true, true, false, false, false, false, false, false, false, false, false, false, false] rfl rfl (by kernel_rfl) (fun _ _ _ h => h) (Or.inl ⟨by rfl, ?_⟩) ?_ ?_
  rotate_left
  · intro w'
    go_simp
    with_reducible rfl
  rotate_left
  · simp only [Act.put, List.setIfInBounds_toArray, List.set_cons_zero, List.set_cons_succ, i64_w, i32_w]
    rfl
  refine pure_ (i := 5) (N := some 42) (v := ?_) (a' := ?_) #[true, true, true, true, true, true, false, false, false, false, false, false, false, false, false, false] rfl rfl (by kernel_rfl) (fun _ _ _ h => h) (Or.inl ⟨by rfl, ?_⟩) ?_ ?_
  rotate_left
  · intro w'
    go_simp
    with_reducible rfl
  rotate_left
  · simp only [Act.put, List.setIfInBounds_toArray, List.set_cons_zero, List.set_cons_succ, i64_w, i32_w]
    rfl
  refine pure_ (i := 9) (N := some 46) (v := ?_) (a' := ?_) #[true, true, true, true, true, true, false, false, false, true, false, false, false, false, false, false] rfl rfl (by kernel_rfl) (fun _ _ _ h => h) (Or.inl ⟨by rfl, ?_⟩) ?_ ?_
  rotate_left
  · intro w'
    go_simp
    with_reducible rfl
  rotate_left
  · simp only [Act.put, List.setIfInBounds_toArray, List.set_cons_zero, List.set_cons_succ, i64_w, i32_w]
    rfl
  refine one_ (i := 6) (N := some 43) #[true, true, true, true, true, true, true, false, false, true, false, false, false, false, false, false] rfl rfl (by kernel_rfl) (by decide) (fun K hK => ?_)
  refine goes_ Tryd.func57 (by kernel_rfl) rfl #[.int .i64 2] (by rfl) rfl rfl (by (try simp only [List.map_toArray, List.map_cons, List.map_nil]); first | done | rfl) ?_
  refine (decR_2 _).mono ?_
  rintro e w20 ⟨rfl, hb⟩
  refine ⟨_, rfl, ?_⟩
  have n0_ := Aside0.mk (blk_below BK.out hb)
  have n1_ := Aside0.mk (below_step HB.out hb)
  clear BK HB
  have BK := n0_
  have HB := n1_
  clear n0_ n1_
  clear hb
  refine hK.out _ _ ((blk_cell BK.out 0).trans rfl) (fun hHeld => ?_)
  clear hK K
  refine norm_ (a' := ?_) ?_ ?_
  rotate_left
  · show Act.put _ (some 43) _ = _
    simp only [Act.put, List.setIfInBounds_toArray, List.set_cons_zero, List.set_cons_succ, i64_w, i32_w]
    rfl
  refine pure_ (i := 7) (N := some 44) (v := ?_) (a' := ?_) #[true, true, true, true, true, true, true, true, false, true, false, false, false, false, false, false] rfl rfl (by kernel_rfl) (fun _ _ _ h => h) (Or.inl ⟨by rfl, ?_⟩) ?_ ?_
  rotate_left
  · intro w'
    go_simp
    with_reducible rfl
  rotate_left
  · simp only [Act.put, List.setIfInBounds_toArray, List.set_cons_zero, List.set_cons_succ, i64_w, i32_w]
    rfl
  refine pure_ (i := 8) (N := some 45) (v := ?_) (a' := ?_) #[true, true, true, true, true, true, true, true, true, true, false, false, false, false, false, false] rfl rfl (by kernel_rfl) (fun _ _ _ h => h) (Or.inl ⟨by rfl, ?_⟩) ?_ ?_
  rotate_left
  · intro w'
    go_simp
    with_reducible rfl
  rotate_left
  · simp only [Act.put, List.setIfInBounds_toArray, List.set_cons_zero, List.set_cons_succ, i64_w, i32_w]
    rfl
  refine pure_ (i := 10) (N := some 47) (v := ?_) (a' := ?_) #[true, true, true, true, true, true, true, true, true, true, true, false, false, false, false, false] rfl rfl (by kernel_rfl) (fun _ _ _ h => h) (Or.inl ⟨by rfl, ?_⟩) ?_ ?_
  rotate_left
  · intro w'
    go_simp
    with_reducible rfl
  rotate_left
  · simp only [Act.put, List.setIfInBounds_toArray, List.set_cons_zero, List.set_cons_succ, i64_w, i32_w]
    rfl
  refine pure_ (i := 11) (N := some 48) (v := ?_) (a' := ?_) #[true, true, true, true, true, true, true, true, true, true, true, true, false, false, false, false] rfl rfl (by kernel_rfl) (fun _ _ _ h => h) (Or.inl ⟨by rfl, ?_⟩) ?_ ?_
  rotate_left
  · intro w'
    go_simp
    with_reducible rfl
  rotate_left
  · simp only [Act.put, List.setIfInBounds_toArray, List.set_cons_zero, List.set_cons_succ, i64_w, i32_w]
    rfl
  refine one_ (i := 12) (N := some 49) #[true, true, true, true, true, true, true, true, true, true, true, true, true, false, false, false] rfl rfl (by kernel_rfl) (by decide) (fun K hK => ?_)
  refine runs_ (v := .slice (some ⟨w20.heap.size, 0, none⟩) sP.size (grownCap w20 sP.size 0 5)) (w' := Lib.bytesWorld w20 5 sP) (by rfl) rfl (by have kc := fun (W : World) (s : ByteArray) => Lib.run_convert_string_bytes (P := Tryd.prog) W 9 35 5 s Tryd.underlying9 Tryd.underlying35 Tryd.underlying5; go_simp; rfl) ?_
  have hb := Joins.below_bytesWorld w20.heap.size w20 5 sP (Nat.le_refl _)
  have HV := Aside0.mk (conv_C w20 sP (by decide))
  have n0_ := Aside0.mk (blk_below BK.out hb)
  have n1_ := Aside0.mk (below_step HB.out hb)
  clear BK HB
  have BK := n0_
  have HB := n1_
  clear n0_ n1_
  have HCP := Aside0.mk (grownCap_ge w20 sP.size 0 5)
  generalize grownCap w20 sP.size 0 5 = cp_ at HCP ⊢
  generalize Lib.bytesWorld w20 5 sP = w30 at hb HV BK HB ⊢
  generalize w20.heap.size = pv_ at HV ⊢
  clear hb
  refine hK.out _ _ ((blk_cell BK.out 0).trans rfl) (fun hHeld => ?_)
  clear hK K
  refine norm_ (a' := ?_) ?_ ?_
  rotate_left
  · show Act.put _ (some 49) _ = _
    simp only [Act.put, List.setIfInBounds_toArray, List.set_cons_zero, List.set_cons_succ, i64_w, i32_w]
    rfl
  refine one_ (i := 13) (N := some 50) #[true, true, true, true, true, true, true, true, true, true, true, true, true, true, false, false] rfl rfl (by kernel_rfl) (by decide) (fun K hK => ?_)
  refine runs_ (v := .slice (some ⟨w30.heap.size, 0, none⟩) 1 1) (w' := w30.alloc (.cells #[.slice (some ⟨pv_, 0, none⟩) sP.size cp_] 35)) (by rfl) rfl (by go_simp; done) ?_
  refine hK.out _ _ ((blk_cell (blk_alloc BK.out _) 0).trans rfl) (fun hHeld => ?_)
  clear hK K
  refine norm_ (a' := ?_) ?_ ?_
  rotate_left
  · show Act.put _ (some 50) _ = _
    simp only [Act.put, List.setIfInBounds_toArray, List.set_cons_zero, List.set_cons_succ, i64_w, i32_w]
    rfl
  refine one_ (i := 14) (N := some 51) #[true, true, true, true, true, true, true, true, true, true, true, true, true, true, true, false] rfl rfl (by kernel_rfl) (by decide) (fun K hK => ?_)
  refine step_append_cells (w0 := w30) w30.heap.size (by rfl) (.tmp 37) (.tmp 50) 100 35 (.slice none 0 0) 1 24 rfl Tryd.underlying100 info35 rfl (by decide) (by decide) (.slice none 0 0) 0 [] [.slice (some ⟨pv_, 0, none⟩) sP.size cp_] rfl rfl rfl (by simp [Value.oneCell']) (own_nil _ _ _ _) (Below.refl _ _) (Nat.le_refl _) (by decide) ?_
  intro v4 w4 hown hb4 hg4 hat4
  have n0_ := Aside0.mk (blk_below BK.out hb4)
  have n1_ := Aside0.mk (below_step HB.out hb4)
  have n2_ := Aside0.mk (Kd.C_below HV.out hb4)
  have HO := Aside0.mk hown
  clear BK HB HV hown hat4 hg4 hb4
  have BK := n0_
  have HB := n1_
  have HV := n2_
  clear n0_ n1_ n2_
  refine hK.out _ _ ((blk_cell BK.out 0).trans rfl) (fun hHeld => ?_)
  clear hK K
  refine norm_ (a' := ?_) ?_ ?_
  rotate_left
  · show Act.put _ (some 51) _ = _
    simp only [Act.put, List.setIfInBounds_toArray, List.set_cons_zero, List.set_cons_succ, i64_w, i32_w]
    rfl
  refine pure_ (i := 15) (N := some 5) (v := ?_) (a' := ?_) #[true, true, true, true, true, true, true, true, true, true, true, true, true, true, true, true] rfl rfl (by kernel_rfl) (fun _ _ _ h => h) (Or.inl ⟨by rfl, ?_⟩) ?_ ?_
  rotate_left
  · intro w'
    go_simp
    with_reducible rfl
  rotate_left
  · simp only [Act.put, List.setIfInBounds_toArray, List.set_cons_zero, List.set_cons_succ, i64_w, i32_w]
    rfl
  refine done_ (by kernel_rfl) ?_
  clear hHeld BK
  obtain ⟨g4, c4, rfl, h14, hcell⟩ := own_cell HO.out
  have c1 : w4.cell? ⟨b1, 0, none⟩ = some (.slice (some ⟨b2, 0, none⟩) 1 1) := by rw [cell_of_row _ b1 0 _ _ _ (blk_below HN.out.1 HB.out)]; rfl
  have HC := Aside0.mk hcell
  clear hcell h14 HO
  go_wp2
  rw [rounds_succ]
  go_wp2_with
   (go_at_call 58; refine (sortR_one g4 c4 (some ⟨pv_, 0, none⟩) sP.size cp_ w4 HC.out).mono ?_; rintro e w5 ⟨g5, c5, rfl, hc5, hb5⟩
    have hcv := back_P (c := cp_) (Kd.C_below HV.out hb5)
    have HX := Aside0.mk (below_step HB.out hb5)
    clear hb5)
  clear c1
  refine wp_loop_rounds 2 ?_
  rw [rounds_succ]
  go_wp2
  rw [rounds_succ]
  go_wp2
  rw [rounds_succ]
  go_wp2
  go_ret
  exact ⟨rfl, HX.out⟩
set_option maxHeartbeats 4000000 in
set_option maxRecDepth 100000 in
theorem keyN_nil (w : World) : Calls Tryd.prog 41 #[.slice none 0 0] w fun e w' => e = .returned (.string ⟨#[]⟩) ∧ Below w.heap.size w w' := by
  go_enter Tryd.func41, Tryd.ntmps41
  go_wp2
  refine wp_loop_rounds 1 ?_
  rw [rounds_succ]
  go_wp2
  go_ret
  exact ⟨rfl, Below.refl _ _⟩
set_option maxHeartbeats 4000000 in
set_option maxRecDepth 100000 in
theorem sameR_a (n : Value) (own : Bool) (w : World) (hn : NameAt w n) : Calls Tryd.prog 37 #[n, if own = true then n else nilS] w fun e w' => e = .returned (.bool own) ∧ Below w.heap.size w w' := by
  cases own with
  | true =>
    rw [if_pos rfl]
    go_enter Tryd.func37, Tryd.ntmps37
    go_wp2_with (first
      | (go_at_call 41; (with_reducible refine (keyN_a n w hn).mono ?_); rintro e w1 ⟨rfl, hb1⟩; have HX := Aside0.mk hb1; clear hb1)
      | (go_at_call 41; (with_reducible refine (keyN_a n w1 (hn.below HX.out)).mono ?_); rintro e w2 ⟨rfl, hb1⟩; have HY := Aside0.mk hb1; clear hb1))
    go_ret
    exact ⟨rfl, below_step HX.out HY.out⟩
  | false =>
    rw [if_neg (by decide)]
    go_enter Tryd.func37, Tryd.ntmps37
    go_wp2_with (first
      | (go_at_call 41; (with_reducible refine (keyN_a n w hn).mono ?_); rintro e w1 ⟨rfl, hb1⟩; have HX := Aside0.mk hb1; clear hb1)
      | (go_at_call 41; (with_reducible refine (keyN_nil w1).mono ?_); rintro e w2 ⟨rfl, hb1⟩; have HY := Aside0.mk hb1; clear hb1))
    go_ret
    exact ⟨rfl, below_step HX.out HY.out⟩
theorem own_sameR {n s : Value} {own : Bool} {w : World} {o : Obj} (hn : NameAt w n) (hs : (if own = true then n else nilS) = s) : Calls Tryd.prog 37 #[n, s] (w.alloc o) fun e w' => e = .returned (.bool own) ∧ Below (w.alloc o).heap.size (w.alloc o) w' := by
  subst hs
  exact sameR_a n own (w.alloc o) (hn.below (below_alloc (Below.refl _ _) _))
set_option maxHeartbeats 4000000 in
set_option maxRecDepth 100000 in
theorem ownR_walk (v : Value) (c : Cx) (w : World) (hv : CertIs w v c) : Calls Tryd.prog 32 #[v] w fun e w' => e = .returned (.bool c.own) ∧ Below w.heap.size w w' := by
  obtain ⟨pv, n, rfl, hp, hn⟩ := hv
  have HN := Aside0.mk hn
  clear hp hn
  obtain ⟨pol, req, inh, own⟩ := c
  simp only
  generalize hs : (if own = true then n else nilS) = s
  have HS := Aside0.mk hs
  clear hs
  go_enter Tryd.func32, Tryd.ntmps32
  go_wp2_with (go_at_call 37; refine (own_sameR HN.out HS.out).mono ?_; rintro e w1 ⟨rfl, hb1⟩; have HX := Aside0.mk hb1; clear hb1)
  go_ret
  exact ⟨rfl, below_step (below_alloc (Below.refl w.heap.size w) _) HX.out⟩
end Go.Proofs.YtgeoibgohlpfjaaDoor.Py
