/- Laws at an operation, for walks in which a block of many cells is written and read whole (of the session's policy texts). -/
import Derived.Test.YtpdhbpdfldfnhaaDoorRmx2
import Derived.Deep.MidRow
set_option linter.unusedVariables false
set_option linter.unusedSimpArgs false
namespace Go.Proofs.YtpdhbpdfldfnhaaDoor.Rn
open Go Go.RowKit Go.Proofs.YtpdhbpdfldfnhaaDoorW.PrintWords Go.Proofs.YtpdhbpdfldfnhaaDoorW.PrintLast Go.Proofs.YtpdhbpdfldfnhaaDoorW.PrintMore
section
variable {P : Program} {ops : Array Oper} {o : Oper} {rest : List Oper} {a : Act} {Q : Exit → Act → World → Prop}
/-- a new block, whatever made it -/
theorem law_new {W : World} (hgd : o.guard = none) {N : Tmp} (_hd : o.dst = some N) {ob : Obj} {V : Nat → Value}
    (hrun : (execOp a.eval o).run P W = .ok (.value (V W.heap.size)) (W.alloc ob))
    (h : ∀ g, g = W.heap.size → ∀ w1, w1.heap[g]? = some ob → Below W.heap.size W w1 → wpList P ops Q rest (a.put o.dst (V g)) w1) : wpList P ops Q (o :: rest) a W :=
  Kd.event_run hgd hrun (h _ rfl _ (blk_new W _) (below_alloc (Below.refl _ _) _))
/-- a cell of a block is read -/
theorem law_load1 {W : World} (hgd : o.guard = none) (t : TypeId) (x : Operand) (ho : o.op = .load t x) (g k : Nat) (hx : a.eval x = .pointer (some ⟨g, k, none⟩))
    {cs : Array Value} {e : TypeId} {fr : Nat × Nat} (hb : W.heap[g]? = some (.cells cs e fr)) (v : Value) (hv : cs[k]? = some v) (d : TypeDesc) (hu : P.underlying t = some d) (hd : d.isRow = false)
    (h : wpList P ops Q rest (a.put o.dst v) W) : wpList P ops Q (o :: rest) a W := by
  refine Kd.event_run (v := v) hgd ?_ h
  have hc : W.cell? ⟨g, k, none⟩ = some v := by rw [cell_of_row W g k cs e fr hb]; exact hv
  have hagg : (isAgg t).run P W = .ok false W := by
    unfold isAgg
    rw [Sem.run_bind, run_underlying hu W]
    cases d <;> simp_all
  unfold execOp
  simp only [ho, hx, Instr.loadAt, Instr.sureAddr, Sem.run_bind, Sem.run_pure, Result.andThen_ok, loadVar, hagg]
  simp [load, Sem.run, hc]
/-- the whole of a block is read -/
theorem law_load {W : World} (hgd : o.guard = none) (t : TypeId) (x : Operand) (ho : o.op = .load t x) (g : Nat) (hx : a.eval x = .pointer (some ⟨g, 0, none⟩))
    {cs : Array Value} {e : TypeId} {fr : Nat × Nat} (hb : W.heap[g]? = some (.cells cs e fr)) (d : TypeDesc) (hu : P.underlying t = some d) (hd : d.isRow = true) (hi : (P.info? t).map (·.size) = some cs.size)
    (h : wpList P ops Q rest (a.put o.dst (.agg cs)) W) : wpList P ops Q (o :: rest) a W := by
  refine wpList_load_mid hgd t x ho g 0 hx cs.toList d (fun j v hv => ?_) hu hd (by simpa using hi) (by simpa using h)
  rw [Nat.zero_add, cell_of_row W g j cs e fr hb]
  simpa using hv
/-- a whole block is written -/
theorem law_store {W : World} (hgd : o.guard = none) (t : TypeId) (x y : Operand) (ho : o.op = .store t x y) (g : Nat) (cs' : Array Value) (hx : a.eval x = .pointer (some ⟨g, 0, none⟩)) (hy : a.eval y = .agg cs')
    {cs : Array Value} {e : TypeId} (hb : W.heap[g]? = some (.cells cs e (0, 0))) (hs : cs.size = cs'.size) (hi : (P.info? t).map (·.size) = some cs'.size) (h1 : cs'.all (·.oneCell') = true)
    (h : ∀ w1, w1.heap[g]? = some (.cells cs' e (0, 0)) → W.grownBy w1 (some g) → w1.heap.size = W.heap.size → wpList P ops Q rest (a.put o.dst undef) w1) : wpList P ops Q (o :: rest) a W := by
  refine wpList_plain hgd fun _ hK => ?_
  unfold Oper.wp execOp
  simp only [ho, hx, hy, Instr.storeAt, Instr.sureAddr, Sem.run_bind, Sem.run_pure, Result.andThen_ok, run_storeVar_row W g e t cs cs' hb hi hs h1]
  refine hK _ _ (h _ ?_ ⟨rfl, rfl, rfl, by simp [World.setRow], fun k hk hne => ?_⟩ (by simp [World.setRow]))
  · simp [World.setRow, Array.getElem?_modify, hb]
  · have : g ≠ k := fun e => hne (by rw [e])
    simp [World.setRow, Array.getElem?_modify, this]
/-- a cell of a block is written -/
theorem law_store1 {W : World} (hgd : o.guard = none) (t : TypeId) (x y : Operand) (ho : o.op = .store t x y) (g k : Nat) (v : Value) (hx : a.eval x = .pointer (some ⟨g, k, none⟩)) (hy : a.eval y = v)
    {cs : Array Value} {e : TypeId} (hb : W.heap[g]? = some (.cells cs e (0, 0))) (hk : k < cs.size) (hi : (P.info? t).map (·.size) = some 1) (h1 : v.oneCell' = true) (hv : v.cells = #[v])
    (h : ∀ w1, w1.heap[g]? = some (.cells (cs.setIfInBounds k v) e (0, 0)) → W.grownBy w1 (some g) → w1.heap.size = W.heap.size → wpList P ops Q rest (a.put o.dst undef) w1) : wpList P ops Q (o :: rest) a W := by
  refine wpList_plain hgd fun _ hK => ?_
  have hst := run_storeCells_cells (P := P) g k [v] 0 W (fun j hj => by
    have : j = 0 := by simpa using hj
    subst this
    simp [cell_of_row W g k cs e (0, 0) hb, hk]) (fun j hj => by simp [World.frozen?, hb]) (by simpa using h1)
  simp only [World.setCells, Nat.add_zero] at hst
  cases hq : P.info? t with
  | none => simp [hq] at hi
  | some i =>
    have hs : i.size = 1 := by simpa [hq] using hi
    have hrun : (storeVar t ⟨g, k, none⟩ v).run P W = .ok () (W.setCell ⟨g, k, none⟩ v) := by
      simp [storeVar, sizeOf, typeInfo, hq, hs, hv, hst]
    unfold Oper.wp execOp
    simp only [ho, hx, hy, Instr.storeAt, Instr.sureAddr, Sem.run_bind, Sem.run_pure, Result.andThen_ok, hrun]
    exact hK _ _ (h _ (blk_set hb k v) ⟨rfl, rfl, rfl, by simp [World.setCell], fun j hj hne => Below.heap_setCell W _ v j (fun e => hne (by rw [e]))⟩ (by simp [World.setCell]))
end
section
variable {P : Program}
theorem results_cell_tmp {fn : Func} {p q : Tmp} {ty : TypeId} (h : fn.results = #[.cell p ty, .tmp q]) (tmps : Array Value) (w : World) (g : Nat) (t : TypeId) (cs : Array Value) (fr : Nat × Nat) (d : TypeDesc) (x : Value)
    (hp : tmps.getD p undef = .pointer (some ⟨g, 0, none⟩)) (hq : tmps.getD q undef = x) (hg : w.heap[g]? = some (.cells cs t fr))
    (hu : P.underlying ty = some d) (hd : (match d with | .struct _ | .array _ _ => true | _ => false) = true) (hi : (P.info? ty).map (·.size) = some cs.size) :
    (results fn tmps).run P w = .ok (.tuple #[.agg cs, x]) w := by
  have hp' : tmps[p]?.getD undef = .pointer (some ⟨g, 0, none⟩) := by simpa using hp
  have hq' : tmps[q]?.getD undef = x := by simpa using hq
  simp [results, h, hp', hq', asAddr, run_loadVar_row w g t ty cs fr d hg hu hd hi]
end
end Go.Proofs.YtpdhbpdfldfnhaaDoor.Rn
