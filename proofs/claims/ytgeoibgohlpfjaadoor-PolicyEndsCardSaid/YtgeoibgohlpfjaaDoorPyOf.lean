/- chirographlaw15.of walked. -/
import Derived.Test.YtgeoibgohlpfjaaDoorPyStr
import Derived.Test.YtgeoibgohlpfjaaDoorPyLaws
import Derived.Lib.SlBytesConst
set_option linter.unusedVariables false
set_option linter.unusedSimpArgs false
namespace Go.Proofs.YtgeoibgohlpfjaaDoor.Py
open Go Go.RowKit Go.Proofs.YtgeoibgohlpfjaaDoorW.PrintWords Go.Proofs.YtgeoibgohlpfjaaDoorW.PrintLast Go.Proofs.YtgeoibgohlpfjaaDoorW.PrintMore

abbrev nilS : Value := .slice none 0 0
/-- the cells of a certificate with just that -/
abbrev certC (pv n s : Value) (req inh : Int) : Array Value :=
  #[nilS, nilS, nilS, n, s, .int .i64 0, .int .i64 0, .int .i64 0, nilS, nilS, nilS, nilS, .int .i64 0, .int .i64 0, .int .i64 0, .int .i64 0, nilS, .bool false, .int .i64 0, .int .i64 0, nilS, .bool false, nilS, nilS, nilS, pv, .int .i64 req, .int .i64 inh, nilS, nilS, .bool false]
theorem certC_one (A B C : Option Addr) (n1 n2 n3 c1 c2 c3 : Nat) (req inh : Int) : (certC (.slice A n1 c1) (.slice B n2 c2) (.slice C n3 c3) req inh).all (·.oneCell') = true := by
  rw [Array.all_eq_true_iff_forall_mem]
  simp [Value.oneCell']
/-- "2.5.4.10" -/
abbrev tyO : ByteArray := ⟨#[50, 46, 53, 46, 52, 46, 49, 48]⟩
/-- where the name lies -/
def NameAt (w : World) (n : Value) : Prop := ∃ b1 b2 b3, n = .slice (some ⟨b1, 0, none⟩) 1 1 ∧ w.heap[b1]? = some (.cells #[.slice (some ⟨b2, 0, none⟩) 1 1] 70 (0, 0)) ∧
  w.heap[b2]? = some (.cells #[.string tyO, .int .i64 12, .slice (some ⟨b3, 0, none⟩) 1 1] 69 (0, 0)) ∧ w.heap[b3]? = some (.cells #[.int .u8 97] 5 (1, 2))
theorem NameAt.below {w w' : World} {n : Value} (h : NameAt w n) (hb : Below w.heap.size w w') : NameAt w' n := by
  obtain ⟨b1, b2, b3, e, h1, h2, h3⟩ := h
  exact ⟨b1, b2, b3, e, blk_below h1 hb, blk_below h2 hb, blk_below h3 hb⟩
/-- .. while a row of another type is written -/
theorem NameAt.grown {w w' : World} {n : Value} {g : Nat} {cs : Array Value} {t : TypeId} (h : NameAt w n) (hg : w.grownBy w' (some g)) (hr : w.heap[g]? = some (.cells cs t (0, 0))) (h70 : t ≠ 70) (h69 : t ≠ 69) (h5 : t ≠ 5) : NameAt w' n := by
  obtain ⟨b1, b2, b3, e, h1, h2, h3⟩ := h
  refine ⟨b1, b2, b3, e, blk_grown h1 hg fun e => ?_, blk_grown h2 hg fun e => ?_, blk_grown h3 hg fun e => ?_⟩
  · injection e with e
    subst e
    rw [hr] at h1
    injection h1 with h1
    injection h1 with _ h1
    exact h70 h1
  · injection e with e
    subst e
    rw [hr] at h2
    injection h2 with h2
    injection h2 with _ h2
    exact h69 h2
  · injection e with e
    subst e
    rw [hr] at h3
    injection h3 with h3
    injection h3 with _ h3
    exact h5 h3

/-- a certificate -/
structure Cx where
  pol : List ByteArray
  req : Int
  inh : Int
  own : Bool
/-- a value that is that certificate -/
def CertIs (w : World) (v : Value) (c : Cx) : Prop := ∃ pv n, v = .agg (certC pv n (if c.own = true then n else nilS) c.req c.inh) ∧ Strs w pv c.pol ∧ NameAt w n
theorem CertIs.below {w w' : World} {v : Value} {c : Cx} (h : CertIs w v c) (hb : Below w.heap.size w w') : CertIs w' v c := by
  obtain ⟨pv, n, e, h1, h2⟩ := h
  exact ⟨pv, n, e, h1.below hb, h2.below hb⟩

theorem kcw (w w1 : World) (g : Nat) (hg : g = w1.heap.size) (C : Array Value) (n c : Nat) : (convert 35 35 (.slice (some ⟨g, 0, none⟩) n c)).run Tryd.prog (w1.alloc (.cells C 5)) = .ok (.slice (some ⟨g, 0, none⟩) n c) (w1.alloc (.cells C 5 (C.size, C.size + 1))) := by
  subst hg
  exact Go.Lib.run_convert_bytes_const (P := Tryd.prog) w1 35 5 C n c Tryd.underlying35 Tryd.underlying5

set_option maxHeartbeats 4000000 in
set_option maxRecDepth 100000 in
theorem of_walk (A : Option Addr) (n c : Nat) (req inh : Int) (own : Bool) (w : World) :
    Calls Tryd.prog 16 #[.agg #[.slice A n c, .int .i64 req, .int .i64 inh, .bool own]] w fun e w' => ∃ nv, e = .returned (.agg (certC (.slice A n c) nv (if own = true then nv else nilS) req inh)) ∧ NameAt w' nv ∧ Below w.heap.size w w' := by
  have HB := Aside0.mk (Below.refl w.heap.size w)
  have kc := fun (W : World) (C : Array Value) (n c : Nat) => Go.Lib.run_convert_bytes_const (P := Tryd.prog) W 35 5 C n c Tryd.underlying35 Tryd.underlying5
  go_enter Tryd.func16, Tryd.ntmps16
  go_wp2_with (first
    | ((with_reducible refine gate_dst (N := 1) rfl ?_); refine law_new ?hg (N := 1) ?hd (ob := .cells #[.slice A n c, .int .i64 req, .int .i64 inh, .bool own] 30 (0, 0)) (V := fun g => .pointer (some ⟨g, 0, none⟩)) ?hr ?_; (case hd => rfl); (case hg => rfl); (case hr => go_simp; done)
       intro g1 hg1 w1 B1 hb1
       have HB1 := Aside0.mk (below_step HB.out hb1)
       have hle1 : w.heap.size ≤ g1 := by rw [hg1]; exact HB.out.size
       clear HB hb1 hg1)
    | ((with_reducible refine gate_dst (N := 2) rfl ?_); refine law_new ?hg (N := 2) ?hd (ob := .cells (certC nilS nilS nilS 0 0) 48 (0, 0)) (V := fun g => .pointer (some ⟨g, 0, none⟩)) ?hr ?_; (case hd => rfl); (case hg => rfl); (case hr => first | (go_simp; done) | (go_simp; rfl))
       intro g2 hg2 w2 B2 hb2
       have B1 := blk_below B1 hb2
       have HB2 := Aside0.mk (below_step HB1.out hb2)
       have hle2 : w.heap.size ≤ g2 := by rw [hg2]; exact HB1.out.size
       clear HB1 hb2 hg2)
    | ((with_reducible refine gate_dst (N := 9) rfl ?_); refine law_new ?hg (N := 9) ?hd (ob := .cells #[.slice (some ⟨w2.heap.size + 1, 0, none⟩) 1 1] 70 (0, 0)) (V := fun g => .slice (some ⟨g, 0, none⟩) 1 1) ?hr ?_; (case hd => rfl); (case hg => rfl); (case hr => first | (go_simp; done) | (go_simp; rfl))
       intro g3 hg3 w3 B3 hb3
       have HN3 : NameAt w3 (.slice (some ⟨g3, 0, none⟩) 1 1) := by
         refine ⟨g3, w2.heap.size + 1, w2.heap.size, rfl, B3, blk_below ?_ hb3, blk_below (blk_alloc (blk_new w2 _) _) hb3⟩
         have := blk_new (w2.alloc (.cells #[.int .u8 97] 5 (1, 2))) (.cells #[.string tyO, .int .i64 12, .slice (some ⟨w2.heap.size, 0, none⟩) 1 1] 69)
         rwa [World.size_alloc] at this
       have HB3 := Aside0.mk (below_step (below_alloc (below_alloc HB2.out _) _) hb3)
       have B2 := blk_below (blk_alloc (blk_alloc B2 _) _) hb3
       have B1 := blk_below (blk_alloc (blk_alloc B1 _) _) hb3
       clear HB2 hb3 hg3 B3)
    | (refine law_load1 rfl 23 _ rfl g1 0 rfl B1 (.slice A n c) rfl _ Tryd.underlying23 rfl ?_)
    | (refine law_load1 rfl 3 _ rfl g1 1 rfl B1 (.int .i64 req) rfl _ Tryd.underlying3 rfl ?_)
    | (refine law_load1 rfl 3 _ rfl g1 2 rfl B1 (.int .i64 inh) rfl _ Tryd.underlying3 rfl ?_)
    | (refine law_load1 rfl 4 _ rfl g1 3 rfl B1 _ rfl _ Tryd.underlying4 rfl ?_)
    | ((with_reducible refine gate_dst (N := 4) rfl ?_); refine law_new ?hg (N := 4) ?hd (ob := .cells (certC nilS nilS nilS 0 0) 48 (0, 0)) (V := fun g => .pointer (some ⟨g, 0, none⟩)) ?hr ?_; (case hd => rfl); (case hg => rfl); (case hr => first | (go_simp; done) | (go_simp; rfl))
       intro g4 hg4 w4 B4 hb4
       have hne : g4 ≠ g2 := by have := blk_lt B2; omega
       have hne1 : g4 ≠ g1 := by have := blk_lt B1; omega
       have HN4 := HN3.below hb4
       have HB4 := Aside0.mk (below_step HB3.out hb4)
       have hle4 : w.heap.size ≤ g4 := by rw [hg4]; exact HB3.out.size
       have B2 := blk_below B2 hb4
       have B1 := blk_below B1 hb4
       clear HB3 HN3 hb4 hg4)
    | (refine law_store rfl 48 _ _ rfl g4 (certC (.slice A n c) (.slice (some ⟨g3, 0, none⟩) 1 1) (.slice (some ⟨g3, 0, none⟩) 1 1) req inh) rfl rfl B4 rfl (by kernel_rfl) (certC_one _ _ _ _ _ _ _ _ _ _ _) ?_
       intro w5 B5 hg5 hs5
       have HN5 := HN4.grown hg5 B4 (by decide) (by decide) (by decide)
       have HB5 := Aside0.mk (HB4.out.grown hg5 HB4.out.size (fun j hj => by cases hj; exact hle4))
       have B2 := blk_grown B2 hg5 (fun e => hne (Option.some.inj e).symm)
       have B1 := blk_grown B1 hg5 (fun e => hne1 (Option.some.inj e).symm)
       clear HB4 HN4 hg5 hs5 B4)
    | (refine law_store1 rfl 36 _ _ rfl g4 4 nilS rfl rfl B5 (by simp) (by kernel_rfl) rfl rfl ?_
       intro w6 B6 hg6 hs6
       have HN5 := HN5.grown hg6 B5 (by decide) (by decide) (by decide)
       have HB5 := Aside0.mk (HB5.out.grown hg6 HB5.out.size (fun j hj => by cases hj; exact hle4))
       have B2 := blk_grown B2 hg6 (fun e => hne (Option.some.inj e).symm)
       have B5 : w6.heap[g4]? = some (.cells (certC (.slice A n c) (.slice (some ⟨g3, 0, none⟩) 1 1) nilS req inh) 48 (0, 0)) := B6
       clear hg6 hs6 B6)
    | (refine law_load rfl 48 _ rfl g4 rfl B5 _ Tryd.underlying48 rfl (by kernel_rfl) ?_)
    | (refine law_store rfl 48 _ _ rfl g2 (certC (.slice A n c) (.slice (some ⟨g3, 0, none⟩) 1 1) _ req inh) rfl rfl B2 rfl (by kernel_rfl) (certC_one _ _ _ _ _ _ _ _ _ _ _) ?_
       intro w7 B7 hg7 hs7
       have HN7 := HN5.grown hg7 B2 (by decide) (by decide) (by decide)
       have HB7 := Aside0.mk (HB5.out.grown hg7 HB5.out.size (fun j hj => by cases hj; exact hle2)))
    | go_in)
  all_goals
    refine bodyPost_ret (results_cell_row rfl _ _ g2 48 _ (0, 0) _ rfl B7 Tryd.underlying48 rfl (by kernel_rfl)) rfl ?_
    refine ⟨.slice (some ⟨g3, 0, none⟩) 1 1, ?_, HN7, HB7.out⟩
    cases own
    · first | rfl | contradiction | (exfalso; simp at *; done)
    · first | rfl | contradiction | (exfalso; simp at *; done)
end Go.Proofs.YtgeoibgohlpfjaaDoor.Py
