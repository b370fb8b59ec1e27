/- The name "a": cert.Own and all that it calls, walked (written by namegen.py). -/
import Derived.Test.YtgeoibgohlpfjaaDoorPyA
import Derived.Test.YtgeoibgohlpfjaaDoorPySort
set_option linter.unusedVariables false
set_option linter.unusedSimpArgs false
namespace Go.Proofs.YtgeoibgohlpfjaaDoor.Py
open Go Go.RowKit Go.Sort Go.Proofs.YtgeoibgohlpfjaaDoorW.PrintWords Go.Proofs.YtgeoibgohlpfjaaDoorW.PrintLast Go.Proofs.YtgeoibgohlpfjaaDoorW.PrintMore
/-- an operation that runs and yields a value in another world -/
theorem runs_ {P : Program} {ops : Array Oper} {Q : Exit → Act → World → Prop} {oi : Oper} {N : Option Tmp} {a : Act} {w w' : World} {K : Act → World → Prop} {v : Value} (hw : Region.wanted oi (yielded ops a.tmps) = true) (hN : oi.dst = N) (hrun : (execOp a.eval oi).run P w = .ok (.value v) w')
    (h : K (a.put N v) w') : if Region.wanted oi (yielded ops a.tmps) = true then Oper.wp P oi a w K Q else K (a.put N undef) w := by
  rw [if_pos hw]
  subst hN
  unfold Oper.wp
  rw [hrun]
  exact h
/-- "2.5.4.10=2:=a;" -/
abbrev sP : ByteArray := ⟨#[50, 46, 53, 46, 52, 46, 49, 48, 61, 50, 58, 61, 97, 59]⟩
abbrev sM : ByteArray := ⟨#[50, 46, 53, 46, 52, 46, 49, 48, 61, 50, 58, 61, 97, 59, 47]⟩
theorem itoa2 (w : World) : Calls Tryd.prog 61 #[.int .i64 2] w fun e w' => e = .returned (.string ⟨#[50]⟩) ∧ w' = w := by
  have h := Tryd.strconv_Itoa_small 2 (by decide) w
  have e : (Lib.decDigits 2).toArray = #[50] := by decide +kernel
  rw [e] at h
  exact h
theorem info9 : (Tryd.prog.info? 9).map (fun i => (i.zero, i.size, i.bytes)) = some (some (.string ⟨#[]⟩), 1, 16) := by kernel_rfl
/-- one text of the call's own is sorted, and joined -/
theorem holds_one {w : World} {base : Nat} {g c : Nat} {s : ByteArray} (h : w.ownsRow base 9 1 (.slice (some ⟨g, 0, none⟩) 1 c) 1 [.string s]) : g < w.heap.size ∧ Holds encStr w g 0 [tl s].toArray := by
  rcases h.2 with ⟨e, _⟩ | ⟨g', cap, cur, e, hg, hh, h1, h2, h3, h4⟩
  · cases e
  · cases e
    exact ⟨(Array.getElem?_eq_some_iff.1 hh).1, holds_of_block hh (by rw [Nat.mul_one] at h4; exact h4)⟩
theorem own_one {w : World} {base : Nat} {v : Value} {xs : List Value} (h : w.ownsRow base 9 1 v 1 xs) : ∃ g c, v = .slice (some ⟨g, 0, none⟩) 1 c ∧ base ≤ g ∧ 1 ≤ c := by
  rcases h.2 with ⟨e, h0⟩ | ⟨g', cap, cur, e, hg, hh, h1, h2, h3, h4⟩
  · omega
  · exact ⟨g', cap, e, hg, h1⟩
theorem blk_lt3 {w : World} {g : Nat} {x : S} {l : List S} (h : Holds encStr w g 0 (x :: l).toArray) : g < w.heap.size := by
  have := (h 0 (by simp)).1
  rcases Nat.lt_or_ge g w.heap.size with h1 | h1
  · exact h1
  · simp [World.cell?, Array.getElem?_eq_none h1] at this
theorem join_one (g c : Nat) (w : World) (h : Holds encStr w g 0 [tl sP].toArray) (hg : g < w.heap.size) (hc : 1 ≤ c) : Calls Tryd.prog 62 #[.slice (some ⟨g, 0, none⟩) 1 c, .string ⟨#[]⟩] w fun e w' => e = .returned (.string sP) ∧ Below w.heap.size w w' := by
  have hj := Tryd.strings_Join g 0 c [sP] ⟨#[]⟩ w (fun j x hx => ?_) hg (by simp) hc (by decide)
  · exact hj
  · match j, hx with
    | 0, hx =>
      cases hx
      exact (h 0 (by simp)).1
set_option maxHeartbeats 4000000 in
set_option maxRecDepth 100000 in
theorem mark_a (b2 b3 : Nat) (w : World) (h2 : w.heap[b2]? = some (.cells #[.string tyO, .int .i64 12, .slice (some ⟨b3, 0, none⟩) 1 1] 69 (0, 0))) (h3 : w.heap[b3]? = some (.cells #[.int .u8 97] 5 (1, 2))) :
    Calls Tryd.prog 43 #[.slice (some ⟨b2, 0, none⟩) 1 1] w fun e w' => e = .returned (.string sM) ∧ Below w.heap.size w w' := by
  have HB := Aside0.mk (And.intro h2 h3)
  clear h2 h3
  go_enter Tryd.func43, Tryd.ntmps43
  go_wp2
  refine wp_loop_rounds 2 ?_
  rw [rounds_succ]
  go_wp2_with (first
   | ((with_reducible refine gate_dst (N := 12) rfl ?_); refine law_load rfl 69 _ rfl b2 rfl HB.out.1 _ Tryd.underlying69 rfl (by kernel_rfl) ?_)
   | (go_at_call 60; (with_reducible refine (key_a b3 _ (blk_alloc HB.out.2 _)).mono ?_); rintro e w1 ⟨rfl, hbl⟩
      have hb1 := blk_below (blk_new w _) hbl
      have BK := Aside0.mk hb1
      have hB1 := below_step (below_alloc (Below.refl w.heap.size w) _) hbl
      have HX := Aside0.mk hB1
      clear hbl hB1 hb1))
  clear HB
  have HB := HX
  clear HX
  generalize w.heap.size = g at BK ⊢
  have n0_ := Aside0.mk (blk_drew BK.out)
  have n1_ := Aside0.mk (below_drew1 HB.out)
  clear BK HB
  have BK := n0_
  have HB := n1_
  clear n0_ n1_
  refine start_ (n := 15) (S := fun w' => w'.cell? ⟨g, 0, none⟩ = some (.string tyO)) (ds := []) #[false, false, false, false, false, false, false, false, false, false, false, false, false, false, false] (by kernel_rfl) rfl rfl ((blk_cell BK.out 0).trans rfl) (fun hHeld => ?_)
  generalize w1.drew = w10 at BK HB hHeld ⊢
  refine pure_ (i := 0) (N := some 18) (v := ?_) (a' := ?_) #[true, false, false, false, false, false, false, false, false, false, false, false, false, false, false] rfl rfl (by kernel_rfl) (fun _ _ _ h => h) (Or.inl ⟨by rfl, ?_⟩) ?_ ?_
  rotate_left
  · intro w'
    go_simp
    with_reducible rfl
  rotate_left
  · simp only [Act.put, List.setIfInBounds_toArray, List.set_cons_zero, List.set_cons_succ, i64_w, i32_w]
    rfl
  refine pure_ (i := 1) (N := some 19) (v := ?_) (a' := ?_) #[true, true, false, false, false, false, false, false, false, false, false, false, false, false, false] rfl rfl (by kernel_rfl) (fun _ _ _ h => h) (Or.inl ⟨by rfl, ?_⟩) ?_ ?_
  rotate_left
  · intro w'
    go_simp
    with_reducible rfl
  rotate_left
  · simp only [Act.put, List.setIfInBounds_toArray, List.set_cons_zero, List.set_cons_succ, i64_w, i32_w]
    rfl
  refine take_ (i := 2) (N := some 20) (v := ?_) (a' := ?_) #[true, true, true, false, false, false, false, false, false, false, false, false, false, false, false] rfl rfl (by kernel_rfl) (fun _ _ _ h => h) (Or.inl ⟨by rfl, ?_⟩) hHeld ?_ ?_
  rotate_left
  · rintro w' s0
    go_simp
    with_reducible rfl
  rotate_left
  · simp only [Act.put, List.setIfInBounds_toArray, List.set_cons_zero, List.set_cons_succ, i64_w, i32_w]
    rfl
  refine pure_ (i := 3) (N := some 21) (v := ?_) (a' := ?_) #[true, true, true, true, false, false, false, false, false, false, false, false, false, false, false] rfl rfl (by kernel_rfl) (fun _ _ _ h => h) (Or.inl ⟨by rfl, ?_⟩) ?_ ?_
  rotate_left
  · intro w'
    go_simp
    with_reducible rfl
  rotate_left
  · simp only [Act.put, List.setIfInBounds_toArray, List.set_cons_zero, List.set_cons_succ, i64_w, i32_w]
    rfl
  refine pure_ (i := 4) (N := some 22) (v := ?_) (a' := ?_) #[true, true, true, true, true, false, false, false, false, false, false, false, false, false, false] rfl rfl (by kernel_rfl) (fun _ _ _ h => h) (Or.inl ⟨by rfl, ?_⟩) ?_ ?_
  rotate_left
  · intro w'
    go_simp
    with_reducible rfl
  rotate_left
  · simp only [Act.put, List.setIfInBounds_toArray, List.set_cons_zero, List.set_cons_succ, i64_w, i32_w]
    rfl
  refine pure_ (i := 5) (N := some 23) (v := ?_) (a' := ?_) #[true, true, true, true, true, true, false, false, false, false, false, false, false, false, false] rfl rfl (by kernel_rfl) (fun _ _ _ h => h) (Or.inl ⟨by rfl, ?_⟩) ?_ ?_
  rotate_left
  · intro w'
    go_simp
    with_reducible rfl
  rotate_left
  · simp only [Act.put, List.setIfInBounds_toArray, List.set_cons_zero, List.set_cons_succ, i64_w, i32_w]
    rfl
  refine pure_ (i := 9) (N := some 27) (v := ?_) (a' := ?_) #[true, true, true, true, true, true, false, false, false, true, false, false, false, false, false] rfl rfl (by kernel_rfl) (fun _ _ _ h => h) (Or.inl ⟨by rfl, ?_⟩) ?_ ?_
  rotate_left
  · intro w'
    go_simp
    with_reducible rfl
  rotate_left
  · simp only [Act.put, List.setIfInBounds_toArray, List.set_cons_zero, List.set_cons_succ, i64_w, i32_w]
    rfl
  refine one_ (i := 6) (N := some 24) #[true, true, true, true, true, true, true, false, false, true, false, false, false, false, false] rfl rfl (by kernel_rfl) (by decide) (fun K hK => ?_)
  refine goes_ Tryd.func61 (by kernel_rfl) rfl #[.int .i64 2] (by rfl) rfl rfl (by (try simp only [List.map_toArray, List.map_cons, List.map_nil]); first | done | rfl) ?_
  refine (itoa2 _).mono ?_
  rintro e w_ ⟨rfl, hs_⟩
  subst w_
  refine ⟨_, rfl, ?_⟩
  refine hK.out _ _ ((blk_cell BK.out 0).trans rfl) (fun hHeld => ?_)
  clear hK K
  refine norm_ (a' := ?_) ?_ ?_
  rotate_left
  · show Act.put _ (some 24) _ = _
    simp only [Act.put, List.setIfInBounds_toArray, List.set_cons_zero, List.set_cons_succ, i64_w, i32_w]
    rfl
  refine pure_ (i := 7) (N := some 25) (v := ?_) (a' := ?_) #[true, true, true, true, true, true, true, true, false, true, false, false, false, false, false] rfl rfl (by kernel_rfl) (fun _ _ _ h => h) (Or.inl ⟨by rfl, ?_⟩) ?_ ?_
  rotate_left
  · intro w'
    go_simp
    with_reducible rfl
  rotate_left
  · simp only [Act.put, List.setIfInBounds_toArray, List.set_cons_zero, List.set_cons_succ, i64_w, i32_w]
    rfl
  refine pure_ (i := 8) (N := some 26) (v := ?_) (a' := ?_) #[true, true, true, true, true, true, true, true, true, true, false, false, false, false, false] rfl rfl (by kernel_rfl) (fun _ _ _ h => h) (Or.inl ⟨by rfl, ?_⟩) ?_ ?_
  rotate_left
  · intro w'
    go_simp
    with_reducible rfl
  rotate_left
  · simp only [Act.put, List.setIfInBounds_toArray, List.set_cons_zero, List.set_cons_succ, i64_w, i32_w]
    rfl
  refine pure_ (i := 10) (N := some 28) (v := ?_) (a' := ?_) #[true, true, true, true, true, true, true, true, true, true, true, false, false, false, false] rfl rfl (by kernel_rfl) (fun _ _ _ h => h) (Or.inl ⟨by rfl, ?_⟩) ?_ ?_
  rotate_left
  · intro w'
    go_simp
    with_reducible rfl
  rotate_left
  · simp only [Act.put, List.setIfInBounds_toArray, List.set_cons_zero, List.set_cons_succ, i64_w, i32_w]
    rfl
  refine pure_ (i := 11) (N := some 29) (v := ?_) (a' := ?_) #[true, true, true, true, true, true, true, true, true, true, true, true, false, false, false] rfl rfl (by kernel_rfl) (fun _ _ _ h => h) (Or.inl ⟨by rfl, ?_⟩) ?_ ?_
  rotate_left
  · intro w'
    go_simp
    with_reducible rfl
  rotate_left
  · simp only [Act.put, List.setIfInBounds_toArray, List.set_cons_zero, List.set_cons_succ, i64_w, i32_w]
    rfl
  refine one_ (i := 12) (N := some 30) #[true, true, true, true, true, true, true, true, true, true, true, true, true, false, false] rfl rfl (by kernel_rfl) (by decide) (fun K hK => ?_)
  refine runs_ (v := .slice (some ⟨w10.heap.size, 0, none⟩) 1 1) (w' := w10.alloc (.cells #[.string sP] 9)) (by rfl) rfl (by go_simp; rfl) ?_
  refine hK.out _ _ ((blk_cell (blk_alloc BK.out _) 0).trans rfl) (fun hHeld => ?_)
  clear hK K
  refine norm_ (a' := ?_) ?_ ?_
  rotate_left
  · show Act.put _ (some 30) _ = _
    simp only [Act.put, List.setIfInBounds_toArray, List.set_cons_zero, List.set_cons_succ, i64_w, i32_w]
    rfl
  refine one_ (i := 13) (N := some 31) #[true, true, true, true, true, true, true, true, true, true, true, true, true, true, false] rfl rfl (by kernel_rfl) (by decide) (fun K hK => ?_)
  refine step_append_cells (w0 := w) w.heap.size (by rfl) (.tmp 18) (.tmp 30) 23 9 (.string ⟨#[]⟩) 1 16 rfl Tryd.underlying23 info9 rfl (by decide) (by decide) (.slice none 0 0) 0 [] [.string sP] rfl rfl rfl (by simp [Value.oneCell']) (own_nil _ _ _ _) HB.out HB.out.size (by decide) ?_
  intro v2 w2 hown hb2 hg2 hat2
  have n0_ := Aside0.mk (blk_grown BK.out hg2 (by simp [Value.ownBlock]))
  have HO := Aside0.mk hown
  clear BK HB hown hat2 hg2
  have BK := n0_
  have HB := Aside0.mk hb2
  clear n0_ hb2
  refine hK.out _ _ ((blk_cell BK.out 0).trans rfl) (fun hHeld => ?_)
  clear hK K
  refine norm_ (a' := ?_) ?_ ?_
  rotate_left
  · show Act.put _ (some 31) _ = _
    simp only [Act.put, List.setIfInBounds_toArray, List.set_cons_zero, List.set_cons_succ, i64_w, i32_w]
    rfl
  refine pure_ (i := 14) (N := some 3) (v := ?_) (a' := ?_) #[true, true, true, true, true, true, true, true, true, true, true, true, true, true, true] rfl rfl (by kernel_rfl) (fun _ _ _ h => h) (Or.inl ⟨by rfl, ?_⟩) ?_ ?_
  rotate_left
  · intro w'
    go_simp
    with_reducible rfl
  rotate_left
  · simp only [Act.put, List.setIfInBounds_toArray, List.set_cons_zero, List.set_cons_succ, i64_w, i32_w]
    rfl
  refine done_ (by kernel_rfl) ?_
  clear BK hHeld
  obtain ⟨gs, cs, rfl, hgs, hcs⟩ := own_one HO.out
  have hH := holds_one HO.out
  have hsort := Tryd.slices_Sort_string gs 0 cs [tl sP] w2 hH.2 hH.1 (by decide)
  rw [List.mergeSort_singleton] at hsort
  have HX := Aside0.mk (And.intro HB.out (And.intro hH.1 (And.intro hH.2 hgs)))
  clear hH HB HO hgs
  go_wp2
  rw [rounds_succ]
  go_wp2_with (first
    | (go_at_call 35; refine hsort.mono ?_; rintro e w3 ⟨rfl, nn, os, rfl⟩
       have hH3 : Holds encStr (grow (putRow encStr (Sort.ahead w2 nn) gs 0 [tl sP].toArray) os) gs 0 [tl sP].toArray :=
         holds_grow encStr _ os _ 0 _ (by simpa [putRow, mapBlock, Sort.ahead] using HX.out.2.1) (holds_putRow encStr _ _ 0 _ _ (by have := holds_ahead encStr w2 nn _ 0 _ HX.out.2.2.1; exact this) rfl)
       have hB3 : Below w.heap.size w (grow (putRow encStr (Sort.ahead w2 nn) gs 0 [tl sP].toArray) os) := HX.out.1.grown (grownBy_sorted _) HX.out.1.size (fun j hj => by cases hj; exact HX.out.2.2.2)
       have hgl : gs < (grow (putRow encStr (Sort.ahead w2 nn) gs 0 [tl sP].toArray) os).heap.size := blk_lt3 hH3
       generalize grow (putRow encStr (Sort.ahead w2 nn) gs 0 [tl sP].toArray) os = w3 at hH3 hB3 hgl ⊢
       have hjoin := join_one gs cs w3 hH3 hgl hcs
       have HY := Aside0.mk hB3
       clear hsort hH3 hB3 hgl)
    | (go_at_call 62; refine hjoin.mono ?_; rintro e w4 ⟨rfl, hb4⟩
       have HZ := Aside0.mk hb4
       clear hjoin hb4))
  go_ret
  exact ⟨rfl, below_step HY.out HZ.out⟩
theorem fresh_below {w w1 : World} (hb : Below (w.alloc (.cells #[.pointer none, .slice none 0 0] 80)).heap.size (w.alloc (.cells #[.pointer none, .slice none 0 0] 80)) w1) : Lib.IsBuilder 80 5 w.heap.size w.heap.size [] w1 :=
  Or.inl ⟨Nat.le_refl _, .slice none 0 0, blk_below (blk_new w _) hb, World.ownsRow_nil _ _ _ _, by simp [Value.ownBlock]⟩
theorem cells_M : ([] : List Value) ++ Lib.strCells sM = Lib.byteCells (tl sM) := rfl
theorem write_M (b : Nat) (w1 : World) (h : Lib.IsBuilder 80 5 b b [] w1) (hb : b ≤ w1.heap.size) : Calls Tryd.prog 42 #[.pointer (some ⟨b, 0, none⟩), .string sM] w1 fun e w' => e = .returned (.tuple #[.int .i64 15, .nilIface]) ∧ Lib.IsBuilder 80 5 b b (Lib.byteCells (tl sM)) w' ∧ Below b w1 w' :=
  (Any.Builder_WriteString { Tryd.lays156 with } Tryd.Builder_Extra_156 b b [] sM w1 h (by decide) hb).mono fun e w' ⟨he, hB, hw⟩ => ⟨he, Or.inr (by rw [← cells_M]; exact hB), hw⟩
theorem string_M (b : Nat) (w1 : World) (h : Lib.IsBuilder 80 5 b b (Lib.byteCells (tl sM)) w1) : Calls Tryd.prog 44 #[.pointer (some ⟨b, 0, none⟩)] w1 fun e w' => e = .returned (.string sM) ∧ Below b w1 w' :=
  Tryd.Builder_String b b (tl sM) w1 h (by simp)
set_option maxHeartbeats 4000000 in
set_option maxRecDepth 100000 in
/-- name.Key of it -/
theorem nameKey_a (n : Value) (w : World) (hn : NameAt w n) : Calls Tryd.prog 38 #[n] w fun e w' => e = .returned (.string sM) ∧ Below w.heap.size w w' := by
  obtain ⟨b1, b2, b3, rfl, h1, h2, h3⟩ := hn
  have HB := Aside0.mk (And.intro h1 (And.intro h2 h3))
  clear h1 h2 h3
  have hc : (w.alloc (.cells #[.pointer none, .slice none 0 0] 80)).cell? ⟨b1, 0, none⟩ = some (.slice (some ⟨b2, 0, none⟩) 1 1) := by rw [cell_of_row _ b1 0 _ _ _ (blk_alloc HB.out.1 _)]; rfl
  go_enter Tryd.func38, Tryd.ntmps38
  go_wp2
  refine wp_loop_rounds 2 ?_
  rw [rounds_succ]
  go_wp2_with (first
    | (go_at_call 43; (with_reducible refine (mark_a b2 b3 _ (blk_alloc HB.out.2.1 _) (blk_alloc HB.out.2.2 _)).mono ?_); rintro e w1 ⟨rfl, hb1⟩
       have hw := write_M w.heap.size w1 (fresh_below hb1) (by have := hb1.size; simp at this; omega)
       have HX := Aside0.mk (below_step (below_alloc (Below.refl w.heap.size w) _) hb1)
       clear hb1)
    | (go_at_call 42; refine hw.mono ?_; rintro e w2 ⟨rfl, hB2, hb2⟩
       have hst := string_M w.heap.size w2 hB2
       have HY := Aside0.mk (HX.out.trans hb2)
       clear hw hB2 hb2))
  clear hc
  rw [rounds_succ]
  go_wp2_with (go_at_call 44; refine hst.mono ?_; rintro e w3 ⟨rfl, hb3⟩; have HZ := Aside0.mk hb3; clear hst hb3)
  go_ret
  exact ⟨rfl, HY.out.trans HZ.out⟩
set_option maxHeartbeats 4000000 in
set_option maxRecDepth 100000 in
theorem nameKey_nil (w : World) : Calls Tryd.prog 38 #[.slice none 0 0] w fun e w' => e = .returned (.string ⟨#[]⟩) ∧ Below w.heap.size w w' := by
  have hst := Tryd.Builder_String_empty w.heap.size w.heap.size (w.alloc (.cells #[.pointer none, .slice none 0 0] 80)) (Lib.fresh_isBuilder 80 5 w) (by simp)
  go_enter Tryd.func38, Tryd.ntmps38
  go_wp2
  refine wp_loop_rounds 1 ?_
  rw [rounds_succ]
  go_wp2_with (go_at_call 44; refine hst.mono ?_; rintro e w3 ⟨rfl, hb3⟩; have HZ := Aside0.mk hb3; clear hst hb3)
  go_ret
  exact ⟨rfl, (below_alloc (Below.refl w.heap.size w) _).trans HZ.out⟩
set_option maxHeartbeats 4000000 in
set_option maxRecDepth 100000 in
/-- name.Same, cert.Own -/
theorem same_a (n : Value) (own : Bool) (w : World) (hn : NameAt w n) : Calls Tryd.prog 34 #[n, if own = true then n else nilS] w fun e w' => e = .returned (.bool own) ∧ Below w.heap.size w w' := by
  cases own with
  | true =>
    rw [if_pos rfl]
    go_enter Tryd.func34, Tryd.ntmps34
    go_wp2_with (first
      | (go_at_call 38; (with_reducible refine (nameKey_a n w hn).mono ?_); rintro e w1 ⟨rfl, hb1⟩; have HX := Aside0.mk hb1; clear hb1)
      | (go_at_call 38; (with_reducible refine (nameKey_a n w1 (hn.below HX.out)).mono ?_); rintro e w2 ⟨rfl, hb1⟩; have HY := Aside0.mk hb1; clear hb1))
    go_ret
    exact ⟨rfl, below_step HX.out HY.out⟩
  | false =>
    rw [if_neg (by decide)]
    go_enter Tryd.func34, Tryd.ntmps34
    go_wp2_with (first
      | (go_at_call 38; (with_reducible refine (nameKey_a n w hn).mono ?_); rintro e w1 ⟨rfl, hb1⟩; have HX := Aside0.mk hb1; clear hb1)
      | (go_at_call 38; (with_reducible refine (nameKey_nil w1).mono ?_); rintro e w2 ⟨rfl, hb1⟩; have HY := Aside0.mk hb1; clear hb1))
    go_ret
    exact ⟨rfl, below_step HX.out HY.out⟩
theorem own_same {n s : Value} {own : Bool} {w : World} {o : Obj} (hn : NameAt w n) (hs : (if own = true then n else nilS) = s) : Calls Tryd.prog 34 #[n, s] (w.alloc o) fun e w' => e = .returned (.bool own) ∧ Below (w.alloc o).heap.size (w.alloc o) w' := by
  subst hs
  exact same_a n own (w.alloc o) (hn.below (below_alloc (Below.refl _ _) _))
set_option maxHeartbeats 4000000 in
set_option maxRecDepth 100000 in
theorem own_walk (v : Value) (c : Cx) (w : World) (hv : CertIs w v c) : Calls Tryd.prog 28 #[v] w fun e w' => e = .returned (.bool c.own) ∧ Below w.heap.size w w' := by
  obtain ⟨pv, n, rfl, hp, hn⟩ := hv
  have HN := Aside0.mk hn
  clear hp hn
  obtain ⟨pol, req, inh, own⟩ := c
  simp only
  generalize hs : (if own = true then n else nilS) = s
  have HS := Aside0.mk hs
  clear hs
  go_enter Tryd.func28, Tryd.ntmps28
  go_wp2_with (go_at_call 34; refine (own_same HN.out HS.out).mono ?_; rintro e w1 ⟨rfl, hb1⟩; have HX := Aside0.mk hb1; clear hb1)
  go_ret
  exact ⟨rfl, below_step (below_alloc (Below.refl w.heap.size w) _) HX.out⟩
end Go.Proofs.YtgeoibgohlpfjaaDoor.Py
