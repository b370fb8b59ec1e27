/- A moment by value among a law's arguments: opened, and shut. -/
import Derived.Test.YtnkpegldckdahaaDoorProg
import Derived.Lib.SmallJoins
set_option linter.unusedVariables false
namespace Go.Proofs.YtnkpegldckdahaaDoor.Ck
open Go.ChangeShapes Go.WideShapes Go.RowKit Go.Deep Go.WideElems Go.Maps
theorem array6 {α : Type} {cs : Array α} (h : cs.size = 6) : ∃ c0 c1 c2 c3 c4 c5, cs = #[c0, c1, c2, c3, c4, c5] := by
  obtain ⟨l⟩ := cs
  match l, h with
  | [c0, c1, c2, c3, c4, c5], _ => exact ⟨c0, c1, c2, c3, c4, c5, rfl⟩
set_option maxRecDepth 100000 in
theorem cells23 : Tryd.prog.cellsOf 23 = 6 := by kernel_rfl
theorem cells3 : Tryd.prog.cellsOf 3 = 1 := by kernel_rfl
section
variable {H : Type} {enc : TypeId × Value → H} {w : World} {base : Nat} {spare : Nat → Bool} {held : Bool}
set_option maxRecDepth 100000 in
theorem open_mom {r : Reach} {b0 : Nat} {v : Value} {d : DataW H} {p : List MemPlace} (hv : Value.okWide Tryd.prog w r b0 23 v) (h : DataW.Trod enc Tryd.prog w base spare held 23 v d p) :
    ∃ a0 a1 a2 a3 a4 a5 : Int, v = .agg #[.int .i64 a0, .int .i64 a1, .int .i64 a2, .int .i64 a3, .int .i64 a4, .int .i64 a5] ∧
      d = .agg [.lit (.int .i64 a0), .lit (.int .i64 a1), .lit (.int .i64 a2), .lit (.int .i64 a3), .lit (.int .i64 a4), .lit (.int .i64 a5)] ∧ p = [] ∧
      (Lit.int .i64 a0).wf = true ∧ (Lit.int .i64 a1).wf = true ∧ (Lit.int .i64 a2).wf = true ∧ (Lit.int .i64 a3).wf = true ∧ (Lit.int .i64 a4).wf = true ∧ (Lit.int .i64 a5).wf = true := by
  obtain ⟨cs, rfl, hsz⟩ := okWide_struct Tryd.underlying23 hv
  obtain ⟨c0, c1, c2, c3, c4, c5, rfl⟩ := array6 (hsz.trans cells23)
  obtain ⟨fuel, hf⟩ := h
  obtain ⟨xs, n, _, hx, hl, hlen, hf⟩ := DataW.trod_struct Tryd.underlying23 hf
  match xs, hlen with
  | [y0, y1, y2, y3, y4, y5], _ =>
    have t0 : DataW.trod enc Tryd.prog w base spare held n 3 [c0] = some y0 := by simpa [cells3, Value.cells] using hf 0 _ rfl
    have t1 : DataW.trod enc Tryd.prog w base spare held n 3 [c1] = some y1 := by simpa [cells3, Value.cells] using hf 1 _ rfl
    have t2 : DataW.trod enc Tryd.prog w base spare held n 3 [c2] = some y2 := by simpa [cells3, Value.cells] using hf 2 _ rfl
    have t3 : DataW.trod enc Tryd.prog w base spare held n 3 [c3] = some y3 := by simpa [cells3, Value.cells] using hf 3 _ rfl
    have t4 : DataW.trod enc Tryd.prog w base spare held n 3 [c4] = some y4 := by simpa [cells3, Value.cells] using hf 4 _ rfl
    have t5 : DataW.trod enc Tryd.prog w base spare held n 3 [c5] = some y5 := by simpa [cells3, Value.cells] using hf 5 _ rfl
    obtain ⟨a0, e0, rfl, w0⟩ := DataW.trod_int Tryd.underlying3 t0
    obtain ⟨a1, e1, rfl, w1⟩ := DataW.trod_int Tryd.underlying3 t1
    obtain ⟨a2, e2, rfl, w2⟩ := DataW.trod_int Tryd.underlying3 t2
    obtain ⟨a3, e3, rfl, w3⟩ := DataW.trod_int Tryd.underlying3 t3
    obtain ⟨a4, e4, rfl, w4⟩ := DataW.trod_int Tryd.underlying3 t4
    obtain ⟨a5, e5, rfl, w5⟩ := DataW.trod_int Tryd.underlying3 t5
    simp only [List.cons.injEq, and_true] at e0 e1 e2 e3 e4 e5
    subst e0 e1 e2 e3 e4 e5
    simp only [Prod.mk.injEq] at hx
    exact ⟨a0, a1, a2, a3, a4, a5, rfl, by rw [hx.1]; rfl, by rw [hx.2]; rfl, w0, w1, w2, w3, w4, w5⟩
set_option maxRecDepth 100000 in
theorem shut_mom {a0 a1 a2 a3 a4 a5 : Int} (w0 : (Lit.int .i64 a0).wf = true) (w1 : (Lit.int .i64 a1).wf = true) (w2 : (Lit.int .i64 a2).wf = true) (w3 : (Lit.int .i64 a3).wf = true) (w4 : (Lit.int .i64 a4).wf = true) (w5 : (Lit.int .i64 a5).wf = true) :
    DataW.Trod enc Tryd.prog w base spare held 23 (.agg #[.int .i64 a0, .int .i64 a1, .int .i64 a2, .int .i64 a3, .int .i64 a4, .int .i64 a5]) (.agg [.lit (.int .i64 a0), .lit (.int .i64 a1), .lit (.int .i64 a2), .lit (.int .i64 a3), .lit (.int .i64 a4), .lit (.int .i64 a5)]) [] := by
  have sh : ∀ {a : Int}, (Lit.int .i64 a).wf = true → ∃ n, DataW.trod enc Tryd.prog w base spare held n 3 [.int .i64 a] = some (.lit (.int .i64 a), []) := fun hw => Joins.field_of_Trod (shut_int Tryd.underlying3 hw) rfl
  obtain ⟨n0, t0⟩ := sh w0
  obtain ⟨n1, t1⟩ := sh w1
  obtain ⟨n2, t2⟩ := sh w2
  obtain ⟨n3, t3⟩ := sh w3
  obtain ⟨n4, t4⟩ := sh w4
  obtain ⟨n5, t5⟩ := sh w5
  have u0 := DataW.trod_le (show n0 ≤ n0 + n1 + n2 + n3 + n4 + n5 by omega) t0
  have u1 := DataW.trod_le (show n1 ≤ n0 + n1 + n2 + n3 + n4 + n5 by omega) t1
  have u2 := DataW.trod_le (show n2 ≤ n0 + n1 + n2 + n3 + n4 + n5 by omega) t2
  have u3 := DataW.trod_le (show n3 ≤ n0 + n1 + n2 + n3 + n4 + n5 by omega) t3
  have u4 := DataW.trod_le (show n4 ≤ n0 + n1 + n2 + n3 + n4 + n5 by omega) t4
  have u5 := DataW.trod_le (show n5 ≤ n0 + n1 + n2 + n3 + n4 + n5 by omega) t5
  have ts := trod_struct_mk (enc := enc) (w := w) (base := base) (spare := spare) (held := held) (n := n0 + n1 + n2 + n3 + n4 + n5) (cs := [.int .i64 a0, .int .i64 a1, .int .i64 a2, .int .i64 a3, .int .i64 a4, .int .i64 a5]) (xs := [(.lit (.int .i64 a0), []), (.lit (.int .i64 a1), []), (.lit (.int .i64 a2), []), (.lit (.int .i64 a3), []), (.lit (.int .i64 a4), []), (.lit (.int .i64 a5), [])]) Tryd.underlying23 (by rw [cells23]; rfl) (by simp [cells3, u0, u1, u2, u3, u4, u5])
  exact ⟨_, by simpa [Value.cells] using ts⟩
end
end Go.Proofs.YtnkpegldckdahaaDoor.Ck
