/- PutUtc and PutGeneral, the program's and the document's: walks over what their callees give. -/
import Derived.Test.YtnkpegldckdahaaDoorTabs0
import Derived.Test.YtnkpegldckdahaaDoorCkDig
import Derived.Test.YtnkpegldckdahaaDoorWLast
import Derived.Test.YtnkpegldckdahaaDoorWMore
import Derived.Lib.ConvBytes
import Derived.Lib.SmallJoins
set_option linter.unusedVariables false
set_option linter.unusedSimpArgs false
namespace Go.Proofs.YtnkpegldckdahaaDoor.Ck
open Go.RowKit Go.Lib Go.Proofs.YtnkpegldckdahaaDoorW.PrintWords Go.Proofs.YtnkpegldckdahaaDoorW.PrintLast Go.Proofs.YtnkpegldckdahaaDoorW.PrintMore
/-- a string's bytes -/
def lst (s : ByteArray) : List Int := s.data.toList.map fun b => (b.toNat : Int)
theorem lst_length (s : ByteArray) : (lst s).length = s.size := by rw [lst, List.length_map, Array.length_toList]; rfl
theorem conv_C (w : World) (s : ByteArray) (hs : s.size ≤ 9223372036854775807) : Kd.C (Kd.int .u8) (Lib.bytesWorld w 5 s) (some ⟨w.heap.size, 0, none⟩) (lst s).length (lst s) := by
  refine Kd.C_of_reads (enc := Value.int .u8) (d := (0 : Int)) (h1 := fun _ => rfl) ⟨rfl, by rw [lst_length]; exact hs, fun _ => ⟨_, rfl, fun j hj => ?_⟩⟩
  have e : (⟨w.heap.size, 0, none⟩ : Addr).add j = ⟨w.heap.size, j, none⟩ := by unfold Addr.add; split <;> simp_all
  rw [lst_length] at hj
  rw [e, Lib.bytesWorld_cell w 5 s j hj]
  have hj' : j < s.data.toList.length := by rw [Array.length_toList]; exact hj
  simp [lst, List.getD_eq_getElem?_getD, List.getElem?_eq_getElem hj']
theorem nil_C (w : World) : Kd.C (Kd.int .u8) w none ([] : List Int).length [] := by
  refine Kd.C_of_reads (enc := Value.int .u8) (d := (0 : Int)) (h1 := fun _ => rfl) ⟨rfl, by simp, fun h => ?_⟩
  simp at h
/-- what is given back: bytes of the call's own, and a number -/
def Gives (w : World) (e : Ending) (w' : World) (l : List Int) (x : Int) : Prop :=
  ∃ A c, e = .returned (.tuple #[.slice A l.length c, .int .i64 x]) ∧ l.length ≤ c ∧ Kd.C (Kd.int .u8) w' A l.length l ∧ Below w.heap.size w w'
abbrev PartsGive (f : FuncId) (a0 Y M D h i s x : Int) : Prop := ∀ w, Calls Tryd.prog f #[.int .i64 a0] w fun e w' => e = .returned (.tuple #[.agg #[.int .i64 Y, .int .i64 M, .int .i64 D, .int .i64 h, .int .i64 i, .int .i64 s], .int .i64 x]) ∧ Below w.heap.size w w'
abbrev PadGives (f : FuncId) (a0 a1 : Int) (s : ByteArray) : Prop := ∀ w, Tabs w → Calls Tryd.prog f #[.int .i64 a0, .int .i64 a1] w fun e w' => e = .returned (.string s) ∧ Below w.heap.size w w'
abbrev TailGives (f : FuncId) (Y M D h i s : Int) (t : ByteArray) : Prop := ∀ w, Tabs w → Calls Tryd.prog f #[.agg #[.int .i64 Y, .int .i64 M, .int .i64 D, .int .i64 h, .int .i64 i, .int .i64 s]] w fun e w' => e = .returned (.string t) ∧ Below w.heap.size w w'
theorem size3 {a b : ByteArray} (z1 : a.size ≤ 1000) (z2 : b.size ≤ 1000) : (a ++ b ++ ⟨#[90]⟩).size ≤ 9223372036854775807 := by
  rw [ByteArray.size_append, ByteArray.size_append]
  have : (⟨#[90]⟩ : ByteArray).size = 1 := rfl
  omega
theorem size3_eq (a b : ByteArray) : (a ++ b ++ ⟨#[90]⟩).size = a.size + b.size + 1 := by
  rw [ByteArray.size_append, ByteArray.size_append]
  rfl
/-- an operation that runs and yields a value in another world -/
theorem runs_ {P : Program} {ops : Array Oper} {Q : Exit → Act → World → Prop} {oi : Oper} {N : Option Tmp} {a : Act} {w w' : World} {K : Act → World → Prop} {v : Value} (hw : Region.wanted oi (yielded ops a.tmps) = true) (hN : oi.dst = N) (hrun : (execOp a.eval oi).run P w = .ok (.value v) w')
    (h : K (a.put N v) w') : if Region.wanted oi (yielded ops a.tmps) = true then Oper.wp P oi a w K Q else K (a.put N undef) w := by
  rw [if_pos hw]
  subst hN
  unfold Oper.wp
  rw [hrun]
  exact h
theorem conv_gives {w W : World} {e : Ending} {s : ByteArray} {x : Int} {n c : Nat} (he : e = .returned (.tuple #[.slice (some ⟨W.heap.size, 0, none⟩) n c, .int .i64 x])) (hb : Below w.heap.size w W) (hs : s.size ≤ 9223372036854775807) (hn : n = s.size) (hc : c = grownCap W s.size 0 5) : Gives w e (Lib.bytesWorld W 5 s) (lst s) x := by
  subst he hn hc
  refine ⟨_, _, by rw [lst_length], by rw [lst_length]; exact grownCap_ge _ _ _ _, conv_C W s hs, ?_⟩
  have := Joins.below_bytesWorld W.heap.size W 5 s (Nat.le_refl _)
  exact below_step hb this
set_option maxHeartbeats 4000000 in
set_option maxRecDepth 100000 in
theorem utc17_bad (a0 Y M D h i s x : Int) (w : World) (hP : PartsGive 14 a0 Y M D h i s x) (hb : x ≠ 0 ∨ Y < 1950 ∨ Y > 2049) :
    Calls Tryd.prog 17 #[.int .i64 a0] w fun e w' => Gives w e w' [] 50 := by
  have HX := Aside0.mk hb
  clear hb
  have HB := Aside0.mk (Below.refl w.heap.size w)
  go_enter Tryd.func17, Tryd.ntmps17
  go_upto_region 2 with (go_at_call 14; (with_reducible refine (hP _).mono ?_); rintro e w1 ⟨rfl, hb⟩; have n0_ := Aside0.mk (below_step (by repeat (first | (with_reducible first | exact HB.out | apply below_alloc | apply pw_below_drewN | apply below_drew1) | exact HB.out)) hb); clear HB hb; have HB := n0_; clear n0_)
  have n1_ := Aside0.mk (HB.out.alloc HB.out.size (Obj.cells #[.int .i64 Y, .int .i64 M, .int .i64 D, .int .i64 h, .int .i64 i, .int .i64 s] 23 (0, 0)))
  have BK := Aside0.mk (blk_new w1 (Obj.cells #[.int .i64 Y, .int .i64 M, .int .i64 D, .int .i64 h, .int .i64 i, .int .i64 s] 23 (0, 0)))
  clear HB
  have HB := n1_
  clear n1_
  generalize w1.alloc (Obj.cells #[.int .i64 Y, .int .i64 M, .int .i64 D, .int .i64 h, .int .i64 i, .int .i64 s] 23 (0, 0)) = W at HB BK ⊢
  generalize w1.heap.size = g at BK ⊢
  have c0 : W.cell? ⟨g, 0, none⟩ = some (.int .i64 Y) := (blk_cell BK.out 0).trans rfl
  by_cases h1 : x = 0
  · subst h1
    by_cases h2 : Y < 1950
    · go_wp2
      go_ret2
      exact ⟨none, 0, rfl, by simp, nil_C _, HB.out⟩
    · have h3 : Y > 2049 := by rcases HX.out with h | h | h <;> omega
      go_wp2
      go_ret2
      exact ⟨none, 0, rfl, by simp, nil_C _, HB.out⟩
  · have hne : (x != 0) = true := by simpa using h1
    go_wp2
    go_ret2
    exact ⟨none, 0, rfl, by simp, nil_C _, HB.out⟩
set_option maxHeartbeats 4000000 in
set_option maxRecDepth 100000 in
theorem utc17_ok (a0 Y M D h i s : Int) (s1 s2 : ByteArray) (w : World) (hT : Tabs w) (hP : PartsGive 14 a0 Y M D h i s 0) (h1 : ¬ Y < 1950) (h2 : ¬ Y > 2049) (hp1 : PadGives 29 (Int.tmod Y 100) 2 s1) (hp2 : TailGives 30 Y M D h i s s2) (z1 : s1.size ≤ 1000) (z2 : s2.size ≤ 1000) :
    Calls Tryd.prog 17 #[.int .i64 a0] w fun e w' => Gives w e w' (lst (s1 ++ s2 ++ ⟨#[90]⟩)) 0 := by
  have kc := fun (w : World) (s : ByteArray) => Lib.run_convert_string_bytes (P := Tryd.prog) w 9 39 5 s Tryd.underlying9 Tryd.underlying39 Tryd.underlying5
  have z3 : (9223372036854775807 < s1.size + s2.size) = False := eq_false (by omega)
  have z4 : (9223372036854775807 < (s1 ++ s2).size + 1) = False := eq_false (by rw [ByteArray.size_append]; omega)
  have z5 : (9223372036854775807 < s1.size + s2.size + 1) = False := eq_false (by omega)
  have HB := Aside0.mk (Below.refl w.heap.size w)
  go_enter Tryd.func17, Tryd.ntmps17
  go_upto_region 2 with (go_at_call 14; (with_reducible refine (hP _).mono ?_); rintro e w1 ⟨rfl, hb⟩; have n0_ := Aside0.mk (below_step (by repeat (first | (with_reducible first | exact HB.out | apply below_alloc | apply pw_below_drewN | apply below_drew1) | exact HB.out)) hb); clear HB hb; have HB := n0_; clear n0_)
  have n1_ := Aside0.mk (HB.out.alloc HB.out.size (Obj.cells #[.int .i64 Y, .int .i64 M, .int .i64 D, .int .i64 h, .int .i64 i, .int .i64 s] 23 (0, 0)))
  have BK := Aside0.mk (blk_new w1 (Obj.cells #[.int .i64 Y, .int .i64 M, .int .i64 D, .int .i64 h, .int .i64 i, .int .i64 s] 23 (0, 0)))
  clear HB
  have HB := n1_
  clear n1_
  generalize w1.alloc (Obj.cells #[.int .i64 Y, .int .i64 M, .int .i64 D, .int .i64 h, .int .i64 i, .int .i64 s] 23 (0, 0)) = W at HB BK ⊢
  generalize w1.heap.size = g at BK ⊢
  have c0 : W.cell? ⟨g, 0, none⟩ = some (.int .i64 Y) := (blk_cell BK.out 0).trans rfl
  have c1 : W.cell? ⟨g, 1, none⟩ = some (.int .i64 M) := (blk_cell BK.out 1).trans rfl
  have c2 : W.cell? ⟨g, 2, none⟩ = some (.int .i64 D) := (blk_cell BK.out 2).trans rfl
  have c3 : W.cell? ⟨g, 3, none⟩ = some (.int .i64 h) := (blk_cell BK.out 3).trans rfl
  have c4 : W.cell? ⟨g, 4, none⟩ = some (.int .i64 i) := (blk_cell BK.out 4).trans rfl
  have c5 : W.cell? ⟨g, 5, none⟩ = some (.int .i64 s) := (blk_cell BK.out 5).trans rfl
  go_upto_region 4 with fail
  clear c0 c1 c2 c3 c4 c5
  have n0_ := Aside0.mk (blk_drew BK.out)
  have n1_ := Aside0.mk (below_drew1 HB.out)
  clear BK HB
  have BK := n0_
  have HB := n1_
  clear n0_ n1_
  refine start_ (n := 11) (S := fun w' => w'.cell? ⟨g, 0, none⟩ = some (.int .i64 Y) ∧ w'.cell? ⟨g, 1, none⟩ = some (.int .i64 M) ∧ w'.cell? ⟨g, 2, none⟩ = some (.int .i64 D) ∧ w'.cell? ⟨g, 3, none⟩ = some (.int .i64 h) ∧ w'.cell? ⟨g, 4, none⟩ = some (.int .i64 i) ∧ w'.cell? ⟨g, 5, none⟩ = some (.int .i64 s)) (ds := []) #[false, false, false, false, false, false, false, false, false, false, false] (by kernel_rfl) rfl rfl ⟨(blk_cell BK.out 0).trans rfl, (blk_cell BK.out 1).trans rfl, (blk_cell BK.out 2).trans rfl, (blk_cell BK.out 3).trans rfl, (blk_cell BK.out 4).trans rfl, (blk_cell BK.out 5).trans rfl⟩ (fun hHeld => ?_)
  generalize W.drew = w10 at BK HB hHeld ⊢
  refine pure_ (i := 0) (N := some 23) (v := ?_) (a' := ?_) #[true, false, false, false, false, false, false, false, false, false, false] rfl rfl (by kernel_rfl) (fun _ _ _ h => h) (Or.inl ⟨by rfl, ?_⟩) ?_ ?_
  rotate_left
  · intro w'
    go_simp
    with_reducible rfl
  rotate_left
  · simp only [Act.put, List.setIfInBounds_toArray, List.set_cons_zero, List.set_cons_succ, i64_w, i32_w]
    rfl
  refine take_ (i := 1) (N := some 24) (v := ?_) (a' := ?_) #[true, true, false, false, false, false, false, false, false, false, false] rfl rfl (by kernel_rfl) (fun _ _ _ h => h) (Or.inl ⟨by rfl, ?_⟩) hHeld ?_ ?_
  rotate_left
  · rintro w' ⟨s0, s1, s2, s3, s4, s5⟩
    go_simp
    with_reducible rfl
  rotate_left
  · simp only [Act.put, List.setIfInBounds_toArray, List.set_cons_zero, List.set_cons_succ, i64_w, i32_w]
    rfl
  refine pure_ (i := 2) (N := some 25) (v := ?_) (a' := ?_) #[true, true, true, false, false, false, false, false, false, false, false] rfl rfl (by kernel_rfl) (fun _ _ _ h => h) (Or.inl ⟨by rfl, ?_⟩) ?_ ?_
  rotate_left
  · intro w'
    go_simp
    with_reducible rfl
  rotate_left
  · simp only [Act.put, List.setIfInBounds_toArray, List.set_cons_zero, List.set_cons_succ, i64_w, i32_w]
    rfl
  refine take_ (i := 4) (N := some 27) (v := ?_) (a' := ?_) #[true, true, true, false, true, false, false, false, false, false, false] rfl rfl (by kernel_rfl) (fun _ _ _ h => h) (Or.inl ⟨by rfl, ?_⟩) hHeld ?_ ?_
  rotate_left
  · rintro w' ⟨s0, s1, s2, s3, s4, s5⟩
    go_simp
    with_reducible rfl
  rotate_left
  · simp only [Act.put, List.setIfInBounds_toArray, List.set_cons_zero, List.set_cons_succ, i64_w, i32_w]
    rfl
  refine one_ (i := 3) (N := some 26) #[true, true, true, true, true, false, false, false, false, false, false] rfl rfl (by kernel_rfl) (by decide) (fun K hK => ?_)
  refine goes_ Tryd.func29 (by kernel_rfl) rfl #[.int .i64 (Int.tmod Y 100), .int .i64 2] (by rfl) rfl rfl (by (try simp only [List.map_toArray, List.map_cons, List.map_nil]); first | done | rfl) ?_
  with_reducible refine (hp1 _ (Tabs.below hT (by repeat (first | (with_reducible first | exact HB.out | apply below_alloc | apply pw_below_drewN | apply below_drew1) | exact HB.out)))).mono ?_
  rintro e w20 ⟨rfl, hb⟩
  refine ⟨_, rfl, ?_⟩
  have n0_ := Aside0.mk (blk_below (g := g) (o := .cells #[.int .i64 Y, .int .i64 M, .int .i64 D, .int .i64 h, .int .i64 i, .int .i64 s] 23 (0, 0)) BK.out hb)
  have n1_ := Aside0.mk (below_step (by repeat (first | (with_reducible first | exact HB.out | apply below_alloc | apply pw_below_drewN | apply below_drew1) | exact HB.out)) hb)
  clear BK HB
  have BK := n0_
  have HB := n1_
  clear n0_ n1_ hb
  refine hK.out _ _ ⟨(blk_cell BK.out 0).trans rfl, (blk_cell BK.out 1).trans rfl, (blk_cell BK.out 2).trans rfl, (blk_cell BK.out 3).trans rfl, (blk_cell BK.out 4).trans rfl, (blk_cell BK.out 5).trans rfl⟩ (fun hHeld => ?_)
  clear hK K
  refine norm_ (a' := ?_) ?_ ?_
  rotate_left
  · show Act.put _ (some 26) _ = _
    simp only [Act.put, List.setIfInBounds_toArray, List.set_cons_zero, List.set_cons_succ, i64_w, i32_w]
    rfl
  refine one_ (i := 5) (N := some 28) #[true, true, true, true, true, true, false, false, false, false, false] rfl rfl (by kernel_rfl) (by decide) (fun K hK => ?_)
  refine goes_ Tryd.func30 (by kernel_rfl) rfl #[.agg #[.int .i64 Y, .int .i64 M, .int .i64 D, .int .i64 h, .int .i64 i, .int .i64 s]] (by rfl) rfl rfl (by (try simp only [List.map_toArray, List.map_cons, List.map_nil]); first | done | rfl) ?_
  with_reducible refine (hp2 _ (Tabs.below hT (by repeat (first | (with_reducible first | exact HB.out | apply below_alloc | apply pw_below_drewN | apply below_drew1) | exact HB.out)))).mono ?_
  rintro e w30 ⟨rfl, hb⟩
  refine ⟨_, rfl, ?_⟩
  have n0_ := Aside0.mk (blk_below (g := g) (o := .cells #[.int .i64 Y, .int .i64 M, .int .i64 D, .int .i64 h, .int .i64 i, .int .i64 s] 23 (0, 0)) BK.out hb)
  have n1_ := Aside0.mk (below_step (by repeat (first | (with_reducible first | exact HB.out | apply below_alloc | apply pw_below_drewN | apply below_drew1) | exact HB.out)) hb)
  clear BK HB
  have BK := n0_
  have HB := n1_
  clear n0_ n1_ hb
  refine hK.out _ _ ⟨(blk_cell BK.out 0).trans rfl, (blk_cell BK.out 1).trans rfl, (blk_cell BK.out 2).trans rfl, (blk_cell BK.out 3).trans rfl, (blk_cell BK.out 4).trans rfl, (blk_cell BK.out 5).trans rfl⟩ (fun hHeld => ?_)
  clear hK K
  refine norm_ (a' := ?_) ?_ ?_
  rotate_left
  · show Act.put _ (some 28) _ = _
    simp only [Act.put, List.setIfInBounds_toArray, List.set_cons_zero, List.set_cons_succ, i64_w, i32_w]
    rfl
  refine pure_ (i := 6) (N := some 29) (v := ?_) (a' := ?_) #[true, true, true, true, true, true, true, false, false, false, false] rfl rfl (by kernel_rfl) (fun _ _ _ h => h) (Or.inl ⟨by rfl, ?_⟩) ?_ ?_
  rotate_left
  · intro w'
    go_simp
    with_reducible rfl
  rotate_left
  · simp only [Act.put, List.setIfInBounds_toArray, List.set_cons_zero, List.set_cons_succ, i64_w, i32_w]
    rfl
  refine pure_ (i := 7) (N := some 30) (v := ?_) (a' := ?_) #[true, true, true, true, true, true, true, true, false, false, false] rfl rfl (by kernel_rfl) (fun _ _ _ h => h) (Or.inl ⟨by rfl, ?_⟩) ?_ ?_
  rotate_left
  · intro w'
    go_simp
    with_reducible rfl
  rotate_left
  · simp only [Act.put, List.setIfInBounds_toArray, List.set_cons_zero, List.set_cons_succ, i64_w, i32_w]
    rfl
  refine one_ (i := 8) (N := some 31) #[true, true, true, true, true, true, true, true, true, false, false] rfl rfl (by kernel_rfl) (by decide) (fun K hK => ?_)
  refine runs_ (v := .slice (some ⟨w30.heap.size, 0, none⟩) (s1 ++ s2 ++ ⟨#[90]⟩).size (grownCap w30 (s1 ++ s2 ++ ⟨#[90]⟩).size 0 5)) (w' := Lib.bytesWorld w30 5 (s1 ++ s2 ++ ⟨#[90]⟩)) (by rfl) rfl (by go_simp) ?_
  have hb := Joins.below_bytesWorld w30.heap.size w30 5 (s1 ++ s2 ++ ⟨#[90]⟩) (Nat.le_refl _)
  have HV := Aside0.mk (conv_C w30 (s1 ++ s2 ++ ⟨#[90]⟩) (size3 z1 z2))
  have n0_ := Aside0.mk (blk_below (g := g) (o := .cells #[.int .i64 Y, .int .i64 M, .int .i64 D, .int .i64 h, .int .i64 i, .int .i64 s] 23 (0, 0)) BK.out hb)
  have n1_ := Aside0.mk (below_step (by repeat (first | (with_reducible first | exact HB.out | apply below_alloc | apply pw_below_drewN | apply below_drew1) | exact HB.out)) hb)
  have HCP := Aside0.mk (grownCap_ge w30 (s1 ++ s2 ++ ⟨#[90]⟩).size 0 5)
  generalize grownCap w30 (s1 ++ s2 ++ ⟨#[90]⟩).size 0 5 = cp_ at HCP ⊢
  generalize Lib.bytesWorld w30 5 (s1 ++ s2 ++ ⟨#[90]⟩) = w40 at hb HV n0_ n1_ ⊢
  generalize w30.heap.size = pv_ at HV ⊢
  clear BK HB
  have BK := n0_
  have HB := n1_
  clear n0_ n1_ hb
  refine hK.out _ _ ⟨(blk_cell BK.out 0).trans rfl, (blk_cell BK.out 1).trans rfl, (blk_cell BK.out 2).trans rfl, (blk_cell BK.out 3).trans rfl, (blk_cell BK.out 4).trans rfl, (blk_cell BK.out 5).trans rfl⟩ (fun hHeld => ?_)
  clear hK K
  refine norm_ (a' := ?_) ?_ ?_
  rotate_left
  · show Act.put _ (some 31) _ = _
    simp only [Act.put, List.setIfInBounds_toArray, List.set_cons_zero, List.set_cons_succ, i64_w, i32_w]
    rfl
  refine pure_ (i := 9) (N := some 2) (v := ?_) (a' := ?_) #[true, true, true, true, true, true, true, true, true, true, false] rfl rfl (by kernel_rfl) (fun _ _ _ h => h) (Or.inl ⟨by rfl, ?_⟩) ?_ ?_
  rotate_left
  · intro w'
    go_simp
    with_reducible rfl
  rotate_left
  · simp only [Act.put, List.setIfInBounds_toArray, List.set_cons_zero, List.set_cons_succ, i64_w, i32_w]
    rfl
  refine pure_ (i := 10) (N := some 3) (v := ?_) (a' := ?_) #[true, true, true, true, true, true, true, true, true, true, true] rfl rfl (by kernel_rfl) (fun _ _ _ h => h) (Or.inl ⟨by rfl, ?_⟩) ?_ ?_
  rotate_left
  · intro w'
    go_simp
    with_reducible rfl
  rotate_left
  · simp only [Act.put, List.setIfInBounds_toArray, List.set_cons_zero, List.set_cons_succ, i64_w, i32_w]
    rfl
  refine done_ (by kernel_rfl) ?_
  try go_wp2
  go_ret2
  refine ⟨some ⟨pv_, 0, none⟩, cp_, ?_, ?_, HV.out, HB.out⟩
  · rw [lst_length, size3_eq]; rfl
  · rw [lst_length]; exact HCP.out
set_option maxHeartbeats 4000000 in
set_option maxRecDepth 100000 in
theorem utc18_bad (a0 Y M D h i s x : Int) (w : World) (hP : PartsGive 15 a0 Y M D h i s x) (hb : x ≠ 0 ∨ Y < 1950 ∨ Y > 2049) :
    Calls Tryd.prog 18 #[.int .i64 a0] w fun e w' => Gives w e w' [] 50 := by
  have HX := Aside0.mk hb
  clear hb
  have HB := Aside0.mk (Below.refl w.heap.size w)
  go_enter Tryd.func18, Tryd.ntmps18
  go_upto_region 2 with (go_at_call 15; (with_reducible refine (hP _).mono ?_); rintro e w1 ⟨rfl, hb⟩; have n0_ := Aside0.mk (below_step (by repeat (first | (with_reducible first | exact HB.out | apply below_alloc | apply pw_below_drewN | apply below_drew1) | exact HB.out)) hb); clear HB hb; have HB := n0_; clear n0_)
  have n1_ := Aside0.mk (HB.out.alloc HB.out.size (Obj.cells #[.int .i64 Y, .int .i64 M, .int .i64 D, .int .i64 h, .int .i64 i, .int .i64 s] 23 (0, 0)))
  have BK := Aside0.mk (blk_new w1 (Obj.cells #[.int .i64 Y, .int .i64 M, .int .i64 D, .int .i64 h, .int .i64 i, .int .i64 s] 23 (0, 0)))
  clear HB
  have HB := n1_
  clear n1_
  generalize w1.alloc (Obj.cells #[.int .i64 Y, .int .i64 M, .int .i64 D, .int .i64 h, .int .i64 i, .int .i64 s] 23 (0, 0)) = W at HB BK ⊢
  generalize w1.heap.size = g at BK ⊢
  have c0 : W.cell? ⟨g, 0, none⟩ = some (.int .i64 Y) := (blk_cell BK.out 0).trans rfl
  by_cases h1 : x = 0
  · subst h1
    by_cases h2 : Y < 1950
    · go_wp2
      go_ret2
      exact ⟨none, 0, rfl, by simp, nil_C _, HB.out⟩
    · have h3 : Y > 2049 := by rcases HX.out with h | h | h <;> omega
      go_wp2
      go_ret2
      exact ⟨none, 0, rfl, by simp, nil_C _, HB.out⟩
  · have hne : (x != 0) = true := by simpa using h1
    go_wp2
    go_ret2
    exact ⟨none, 0, rfl, by simp, nil_C _, HB.out⟩
set_option maxHeartbeats 4000000 in
set_option maxRecDepth 100000 in
theorem utc18_ok (a0 Y M D h i s : Int) (s1 s2 : ByteArray) (w : World) (hT : Tabs w) (hP : PartsGive 15 a0 Y M D h i s 0) (h1 : ¬ Y < 1950) (h2 : ¬ Y > 2049) (hp1 : PadGives 31 Y 2 s1) (hp2 : TailGives 32 Y M D h i s s2) (z1 : s1.size ≤ 1000) (z2 : s2.size ≤ 1000) :
    Calls Tryd.prog 18 #[.int .i64 a0] w fun e w' => Gives w e w' (lst (s1 ++ s2 ++ ⟨#[90]⟩)) 0 := by
  have kc := fun (w : World) (s : ByteArray) => Lib.run_convert_string_bytes (P := Tryd.prog) w 9 39 5 s Tryd.underlying9 Tryd.underlying39 Tryd.underlying5
  have z3 : (9223372036854775807 < s1.size + s2.size) = False := eq_false (by omega)
  have z4 : (9223372036854775807 < (s1 ++ s2).size + 1) = False := eq_false (by rw [ByteArray.size_append]; omega)
  have z5 : (9223372036854775807 < s1.size + s2.size + 1) = False := eq_false (by omega)
  have HB := Aside0.mk (Below.refl w.heap.size w)
  go_enter Tryd.func18, Tryd.ntmps18
  go_upto_region 2 with (go_at_call 15; (with_reducible refine (hP _).mono ?_); rintro e w1 ⟨rfl, hb⟩; have n0_ := Aside0.mk (below_step (by repeat (first | (with_reducible first | exact HB.out | apply below_alloc | apply pw_below_drewN | apply below_drew1) | exact HB.out)) hb); clear HB hb; have HB := n0_; clear n0_)
  have n1_ := Aside0.mk (HB.out.alloc HB.out.size (Obj.cells #[.int .i64 Y, .int .i64 M, .int .i64 D, .int .i64 h, .int .i64 i, .int .i64 s] 23 (0, 0)))
  have BK := Aside0.mk (blk_new w1 (Obj.cells #[.int .i64 Y, .int .i64 M, .int .i64 D, .int .i64 h, .int .i64 i, .int .i64 s] 23 (0, 0)))
  clear HB
  have HB := n1_
  clear n1_
  generalize w1.alloc (Obj.cells #[.int .i64 Y, .int .i64 M, .int .i64 D, .int .i64 h, .int .i64 i, .int .i64 s] 23 (0, 0)) = W at HB BK ⊢
  generalize w1.heap.size = g at BK ⊢
  have c0 : W.cell? ⟨g, 0, none⟩ = some (.int .i64 Y) := (blk_cell BK.out 0).trans rfl
  have c1 : W.cell? ⟨g, 1, none⟩ = some (.int .i64 M) := (blk_cell BK.out 1).trans rfl
  have c2 : W.cell? ⟨g, 2, none⟩ = some (.int .i64 D) := (blk_cell BK.out 2).trans rfl
  have c3 : W.cell? ⟨g, 3, none⟩ = some (.int .i64 h) := (blk_cell BK.out 3).trans rfl
  have c4 : W.cell? ⟨g, 4, none⟩ = some (.int .i64 i) := (blk_cell BK.out 4).trans rfl
  have c5 : W.cell? ⟨g, 5, none⟩ = some (.int .i64 s) := (blk_cell BK.out 5).trans rfl
  go_upto_region 4 with fail
  clear c0 c1 c2 c3 c4 c5
  have n0_ := Aside0.mk (blk_drew BK.out)
  have n1_ := Aside0.mk (below_drew1 HB.out)
  clear BK HB
  have BK := n0_
  have HB := n1_
  clear n0_ n1_
  refine start_ (n := 10) (S := fun w' => w'.cell? ⟨g, 0, none⟩ = some (.int .i64 Y) ∧ w'.cell? ⟨g, 1, none⟩ = some (.int .i64 M) ∧ w'.cell? ⟨g, 2, none⟩ = some (.int .i64 D) ∧ w'.cell? ⟨g, 3, none⟩ = some (.int .i64 h) ∧ w'.cell? ⟨g, 4, none⟩ = some (.int .i64 i) ∧ w'.cell? ⟨g, 5, none⟩ = some (.int .i64 s)) (ds := []) #[false, false, false, false, false, false, false, false, false, false] (by kernel_rfl) rfl rfl ⟨(blk_cell BK.out 0).trans rfl, (blk_cell BK.out 1).trans rfl, (blk_cell BK.out 2).trans rfl, (blk_cell BK.out 3).trans rfl, (blk_cell BK.out 4).trans rfl, (blk_cell BK.out 5).trans rfl⟩ (fun hHeld => ?_)
  generalize W.drew = w50 at BK HB hHeld ⊢
  refine pure_ (i := 0) (N := some 23) (v := ?_) (a' := ?_) #[true, false, false, false, false, false, false, false, false, false] rfl rfl (by kernel_rfl) (fun _ _ _ h => h) (Or.inl ⟨by rfl, ?_⟩) ?_ ?_
  rotate_left
  · intro w'
    go_simp
    with_reducible rfl
  rotate_left
  · simp only [Act.put, List.setIfInBounds_toArray, List.set_cons_zero, List.set_cons_succ, i64_w, i32_w]
    rfl
  refine take_ (i := 1) (N := some 24) (v := ?_) (a' := ?_) #[true, true, false, false, false, false, false, false, false, false] rfl rfl (by kernel_rfl) (fun _ _ _ h => h) (Or.inl ⟨by rfl, ?_⟩) hHeld ?_ ?_
  rotate_left
  · rintro w' ⟨s0, s1, s2, s3, s4, s5⟩
    go_simp
    with_reducible rfl
  rotate_left
  · simp only [Act.put, List.setIfInBounds_toArray, List.set_cons_zero, List.set_cons_succ, i64_w, i32_w]
    rfl
  refine take_ (i := 3) (N := some 26) (v := ?_) (a' := ?_) #[true, true, false, true, false, false, false, false, false, false] rfl rfl (by kernel_rfl) (fun _ _ _ h => h) (Or.inl ⟨by rfl, ?_⟩) hHeld ?_ ?_
  rotate_left
  · rintro w' ⟨s0, s1, s2, s3, s4, s5⟩
    go_simp
    with_reducible rfl
  rotate_left
  · simp only [Act.put, List.setIfInBounds_toArray, List.set_cons_zero, List.set_cons_succ, i64_w, i32_w]
    rfl
  refine one_ (i := 2) (N := some 25) #[true, true, true, true, false, false, false, false, false, false] rfl rfl (by kernel_rfl) (by decide) (fun K hK => ?_)
  refine goes_ Tryd.func31 (by kernel_rfl) rfl #[.int .i64 Y, .int .i64 2] (by rfl) rfl rfl (by (try simp only [List.map_toArray, List.map_cons, List.map_nil]); first | done | rfl) ?_
  with_reducible refine (hp1 _ (Tabs.below hT (by repeat (first | (with_reducible first | exact HB.out | apply below_alloc | apply pw_below_drewN | apply below_drew1) | exact HB.out)))).mono ?_
  rintro e w60 ⟨rfl, hb⟩
  refine ⟨_, rfl, ?_⟩
  have n0_ := Aside0.mk (blk_below (g := g) (o := .cells #[.int .i64 Y, .int .i64 M, .int .i64 D, .int .i64 h, .int .i64 i, .int .i64 s] 23 (0, 0)) BK.out hb)
  have n1_ := Aside0.mk (below_step (by repeat (first | (with_reducible first | exact HB.out | apply below_alloc | apply pw_below_drewN | apply below_drew1) | exact HB.out)) hb)
  clear BK HB
  have BK := n0_
  have HB := n1_
  clear n0_ n1_ hb
  refine hK.out _ _ ⟨(blk_cell BK.out 0).trans rfl, (blk_cell BK.out 1).trans rfl, (blk_cell BK.out 2).trans rfl, (blk_cell BK.out 3).trans rfl, (blk_cell BK.out 4).trans rfl, (blk_cell BK.out 5).trans rfl⟩ (fun hHeld => ?_)
  clear hK K
  refine norm_ (a' := ?_) ?_ ?_
  rotate_left
  · show Act.put _ (some 25) _ = _
    simp only [Act.put, List.setIfInBounds_toArray, List.set_cons_zero, List.set_cons_succ, i64_w, i32_w]
    rfl
  refine one_ (i := 4) (N := some 27) #[true, true, true, true, true, false, false, false, false, false] rfl rfl (by kernel_rfl) (by decide) (fun K hK => ?_)
  refine goes_ Tryd.func32 (by kernel_rfl) rfl #[.agg #[.int .i64 Y, .int .i64 M, .int .i64 D, .int .i64 h, .int .i64 i, .int .i64 s]] (by rfl) rfl rfl (by (try simp only [List.map_toArray, List.map_cons, List.map_nil]); first | done | rfl) ?_
  with_reducible refine (hp2 _ (Tabs.below hT (by repeat (first | (with_reducible first | exact HB.out | apply below_alloc | apply pw_below_drewN | apply below_drew1) | exact HB.out)))).mono ?_
  rintro e w70 ⟨rfl, hb⟩
  refine ⟨_, rfl, ?_⟩
  have n0_ := Aside0.mk (blk_below (g := g) (o := .cells #[.int .i64 Y, .int .i64 M, .int .i64 D, .int .i64 h, .int .i64 i, .int .i64 s] 23 (0, 0)) BK.out hb)
  have n1_ := Aside0.mk (below_step (by repeat (first | (with_reducible first | exact HB.out | apply below_alloc | apply pw_below_drewN | apply below_drew1) | exact HB.out)) hb)
  clear BK HB
  have BK := n0_
  have HB := n1_
  clear n0_ n1_ hb
  refine hK.out _ _ ⟨(blk_cell BK.out 0).trans rfl, (blk_cell BK.out 1).trans rfl, (blk_cell BK.out 2).trans rfl, (blk_cell BK.out 3).trans rfl, (blk_cell BK.out 4).trans rfl, (blk_cell BK.out 5).trans rfl⟩ (fun hHeld => ?_)
  clear hK K
  refine norm_ (a' := ?_) ?_ ?_
  rotate_left
  · show Act.put _ (some 27) _ = _
    simp only [Act.put, List.setIfInBounds_toArray, List.set_cons_zero, List.set_cons_succ, i64_w, i32_w]
    rfl
  refine pure_ (i := 5) (N := some 28) (v := ?_) (a' := ?_) #[true, true, true, true, true, true, false, false, false, false] rfl rfl (by kernel_rfl) (fun _ _ _ h => h) (Or.inl ⟨by rfl, ?_⟩) ?_ ?_
  rotate_left
  · intro w'
    go_simp
    with_reducible rfl
  rotate_left
  · simp only [Act.put, List.setIfInBounds_toArray, List.set_cons_zero, List.set_cons_succ, i64_w, i32_w]
    rfl
  refine pure_ (i := 6) (N := some 29) (v := ?_) (a' := ?_) #[true, true, true, true, true, true, true, false, false, false] rfl rfl (by kernel_rfl) (fun _ _ _ h => h) (Or.inl ⟨by rfl, ?_⟩) ?_ ?_
  rotate_left
  · intro w'
    go_simp
    with_reducible rfl
  rotate_left
  · simp only [Act.put, List.setIfInBounds_toArray, List.set_cons_zero, List.set_cons_succ, i64_w, i32_w]
    rfl
  refine one_ (i := 7) (N := some 30) #[true, true, true, true, true, true, true, true, false, false] rfl rfl (by kernel_rfl) (by decide) (fun K hK => ?_)
  refine runs_ (v := .slice (some ⟨w70.heap.size, 0, none⟩) (s1 ++ s2 ++ ⟨#[90]⟩).size (grownCap w70 (s1 ++ s2 ++ ⟨#[90]⟩).size 0 5)) (w' := Lib.bytesWorld w70 5 (s1 ++ s2 ++ ⟨#[90]⟩)) (by rfl) rfl (by go_simp) ?_
  have hb := Joins.below_bytesWorld w70.heap.size w70 5 (s1 ++ s2 ++ ⟨#[90]⟩) (Nat.le_refl _)
  have HV := Aside0.mk (conv_C w70 (s1 ++ s2 ++ ⟨#[90]⟩) (size3 z1 z2))
  have n0_ := Aside0.mk (blk_below (g := g) (o := .cells #[.int .i64 Y, .int .i64 M, .int .i64 D, .int .i64 h, .int .i64 i, .int .i64 s] 23 (0, 0)) BK.out hb)
  have n1_ := Aside0.mk (below_step (by repeat (first | (with_reducible first | exact HB.out | apply below_alloc | apply pw_below_drewN | apply below_drew1) | exact HB.out)) hb)
  have HCP := Aside0.mk (grownCap_ge w70 (s1 ++ s2 ++ ⟨#[90]⟩).size 0 5)
  generalize grownCap w70 (s1 ++ s2 ++ ⟨#[90]⟩).size 0 5 = cp_ at HCP ⊢
  generalize Lib.bytesWorld w70 5 (s1 ++ s2 ++ ⟨#[90]⟩) = w80 at hb HV n0_ n1_ ⊢
  generalize w70.heap.size = pv_ at HV ⊢
  clear BK HB
  have BK := n0_
  have HB := n1_
  clear n0_ n1_ hb
  refine hK.out _ _ ⟨(blk_cell BK.out 0).trans rfl, (blk_cell BK.out 1).trans rfl, (blk_cell BK.out 2).trans rfl, (blk_cell BK.out 3).trans rfl, (blk_cell BK.out 4).trans rfl, (blk_cell BK.out 5).trans rfl⟩ (fun hHeld => ?_)
  clear hK K
  refine norm_ (a' := ?_) ?_ ?_
  rotate_left
  · show Act.put _ (some 30) _ = _
    simp only [Act.put, List.setIfInBounds_toArray, List.set_cons_zero, List.set_cons_succ, i64_w, i32_w]
    rfl
  refine pure_ (i := 8) (N := some 2) (v := ?_) (a' := ?_) #[true, true, true, true, true, true, true, true, true, false] rfl rfl (by kernel_rfl) (fun _ _ _ h => h) (Or.inl ⟨by rfl, ?_⟩) ?_ ?_
  rotate_left
  · intro w'
    go_simp
    with_reducible rfl
  rotate_left
  · simp only [Act.put, List.setIfInBounds_toArray, List.set_cons_zero, List.set_cons_succ, i64_w, i32_w]
    rfl
  refine pure_ (i := 9) (N := some 3) (v := ?_) (a' := ?_) #[true, true, true, true, true, true, true, true, true, true] rfl rfl (by kernel_rfl) (fun _ _ _ h => h) (Or.inl ⟨by rfl, ?_⟩) ?_ ?_
  rotate_left
  · intro w'
    go_simp
    with_reducible rfl
  rotate_left
  · simp only [Act.put, List.setIfInBounds_toArray, List.set_cons_zero, List.set_cons_succ, i64_w, i32_w]
    rfl
  refine done_ (by kernel_rfl) ?_
  try go_wp2
  go_ret2
  refine ⟨some ⟨pv_, 0, none⟩, cp_, ?_, ?_, HV.out, HB.out⟩
  · rw [lst_length, size3_eq]; rfl
  · rw [lst_length]; exact HCP.out
end Go.Proofs.YtnkpegldckdahaaDoor.Ck
