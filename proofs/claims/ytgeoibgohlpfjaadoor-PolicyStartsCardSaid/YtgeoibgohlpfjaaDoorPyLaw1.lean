/- The law PolicyStarts, walked. -/
import Derived.Test.YtgeoibgohlpfjaaDoorPyLive
import Derived.Test.YtgeoibgohlpfjaaDoorPyOpen
set_option linter.unusedVariables false
set_option linter.unusedSimpArgs false
namespace Go.Proofs.YtgeoibgohlpfjaaDoor.Py
open Go Go.RowKit Go.Maps Go.Proofs.YtgeoibgohlpfjaaDoorW.PrintWords Go.Proofs.YtgeoibgohlpfjaaDoorW.PrintLast Go.Proofs.YtgeoibgohlpfjaaDoorW.PrintMore
theorem PolIs.open_ {w : World} {v : Value} {p : Pl} (h : PolIs w v p) : ∃ A c, v = .agg #[.slice A p.set.length c, .int .i64 p.ex, .int .i64 p.any] ∧ Strs w (.slice A p.set.length c) (p.set.map bs) := by
  obtain ⟨sv, rfl, hs⟩ := h
  obtain ⟨A, c, rfl, _, _⟩ := hs.open_
  exact ⟨A, c, rfl, hs⟩
set_option maxHeartbeats 8000000 in
set_option maxRecDepth 100000 in
theorem starts_walk (n : Int) (ex inh : Bool) (w : World) : Calls Tryd.prog 3 #[.int .i64 n, .bool ex, .bool inh] w fun e w' => e = .returned (.bool true) ∧ Below w.heap.size w w' := by
  have hl : (startV n ex inh).set.length < 4611686018427387904 := by simp [startV]
  go_enter Tryd.func3, Tryd.ntmps3
  go_wp2_with (first
    | (go_at_call 11; (with_reducible refine (start_walk n ex inh w).mono ?_); rintro e w1 ⟨v1, rfl, h1, hb1⟩; have HA := Aside0.mk (And.intro h1 hb1); clear h1 hb1)
    | (go_at_call 12; (with_reducible refine (startR_walk n ex inh w1).mono ?_); rintro e w2 ⟨v2, rfl, h2, hb2⟩; have HB := Aside0.mk (And.intro (HA.out.1.below hb2) (And.intro h2 (below_step HA.out.2 hb2))); clear h2 hb2)
    | (go_at_call 10; (with_reducible refine (same_walk v1 v2 _ w2 HB.out.1 HB.out.2.1 hl).mono ?_); rintro e w3 ⟨rfl, hb3⟩; have HC := Aside0.mk (below_step HB.out.2.2 hb3); clear hb3)
    | (go_at_call 13; (with_reducible refine (live_walk w3).mono ?_); rintro e w4 ⟨rfl, hb4⟩; have HD := Aside0.mk (below_step HC.out hb4); clear hb4))
  go_ret
  exact ⟨rfl, HD.out⟩
theorem starts_row (n : Int) (ex inh : Bool) (w : World) (hn : (Lit.int .i64 n).wf = true) : Calls Tryd.prog 3 #[.int .i64 n, .bool ex, .bool inh] w fun e w' => e = .returned (.bool true) ∧ Below w.heap.size w w' := starts_walk n ex inh w
end Go.Proofs.YtgeoibgohlpfjaaDoor.Py
