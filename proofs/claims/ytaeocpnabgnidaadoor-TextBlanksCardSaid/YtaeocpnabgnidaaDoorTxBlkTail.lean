/- TextBlanks' last rows: what is appended to the row of a constant, which is marked. -/
import Derived.Test.YtaeocpnabgnidaaDoorMx
import Derived.ArgAppend
import Derived.Lib.AppendStr
set_option linter.unusedVariables false
set_option linter.unusedSimpArgs false
namespace Go.Proofs.YtaeocpnabgnidaaDoor.Tx
open Go.RowKit Go.Proofs.YtaeocpnabgnidaaDoorW.PrintWords Go.Proofs.YtaeocpnabgnidaaDoorW.PrintLast Go.Proofs.YtaeocpnabgnidaaDoorW.PrintMore Go.Proofs.YtaeocpnabgnidaaDoor.M

/-- A row that is the call's own, or the constant's marked one. -/
def Tail (w : World) (base : Nat) (v : Value) (xs : List Int) : Prop :=
  w.ownsRow base 5 1 v xs.length (nums .u8 xs) ∨ (xs = [32] ∧ ∃ g, v = .slice (some ⟨g, 0, none⟩) 1 1 ∧ base ≤ g ∧ w.heap[g]? = some (.cells #[.int .u8 32] 5 (1, 2)))
theorem info5t : (Tryd.prog.info? 5).map (fun i => (i.zero, i.size, i.bytes)) = some (some (.int .u8 0), 1, 1) := by kernel_rfl
theorem marked_cell {w : World} {g : Nat} (h : w.heap[g]? = some (.cells #[.int .u8 32] 5 (1, 2))) : ∀ j u, ([Value.int .u8 32] : List Value)[j]? = some u → w.cell? ((⟨g, 0, none⟩ : Addr).add j) = some u := by
  intro j u hj
  match j with
  | 0 =>
    simp at hj
    subst hj
    have e : (⟨g, 0, none⟩ : Addr).add 0 = ⟨g, 0, none⟩ := by unfold Addr.add; split <;> simp_all
    rw [e]
    simp [World.cell?, h]
  | j + 1 => simp at hj
theorem own_cap {W : World} {base n c : Nat} {e : TypeId} {v : Value} {xs : List Value} {A : Option Addr} (h : W.ownsRow base e 1 v n xs) (hv : v = .slice A n c) : n ≤ c := by
  rcases h.2 with ⟨_, rfl⟩ | ⟨g, cap, cur, h1, _, _, hc, _⟩
  · exact Nat.zero_le _
  · rw [h1] at hv
    injection hv with _ _ h3
    omega
set_option maxHeartbeats 1000000 in
theorem tail_rows {ops : Array Oper} {rest : List Oper} {o : Oper} {a : Act} {Q : Exit → Act → World → Prop} {w0 W : World} (base : Nat) (hgd : o.guard = none) (s x : Operand)
    (ho : o.op = .call { callee := .builtin .append, args := #[s, x], argTypes := #[22, 22] }) (g : Nat) (hs : a.eval s = .slice (some ⟨g, 0, none⟩) 1 1) (hg : base ≤ g) (hw : W.heap[g]? = some (.cells #[.int .u8 32] 5 (1, 2)))
    (A : Option Addr) (m c : Nat) (news : List Int) (hx : a.eval x = .slice A m c) (hn : ReadsInt W .u8 A m news) (HB : Below base w0 W) (hbase : base ≤ W.heap.size) (hl : m + 1 ≤ 140737488355328)
    (h : ∀ v1 w1, Tail w1 base v1 (32 :: news) → Below base w0 w1 → wpList Tryd.prog ops Q rest (a.put o.dst v1) w1) : wpList Tryd.prog ops Q (o :: rest) a W := by
  obtain ⟨i, hi, hzz⟩ := Option.map_eq_some_iff.1 info5t
  simp only [Prod.mk.injEq] at hzz
  obtain ⟨hz0, hz1, hz2⟩ := hzz
  have hrun : ∃ v1 w1, (Builtin.append_ #[22, 22] o.type #[.slice (some ⟨g, 0, none⟩) 1 1, .slice A m c]).run Tryd.prog W = .ok v1 w1 ∧ Tail w1 base v1 (32 :: news) ∧ Below base w0 w1 := by
    rcases Nat.eq_zero_or_pos m with h0 | h0
    · subst h0
      obtain rfl : news = [] := List.eq_nil_of_length_eq_zero hn.1
      rcases A with _ | ad
      · exact ⟨_, W, by simp [Builtin.append_, run_underlying Tryd.underlying22, sizeOf, typeInfo, hi, Builtin.lenOf, Builtin.firstCells, storeCells], .inr ⟨rfl, g, rfl, hg, hw⟩, HB⟩
      · have hr := run_append_room_cells (P := Tryd.prog) W 22 o.type 5 i Tryd.underlying22 hi g 0 1 1 ad 0 c [] (by simp) (by simp) (by simp) (by omega) (by simp) (by simp)
        exact ⟨_, _, hr, .inr ⟨rfl, g, rfl, hg, hw⟩, HB⟩
    · obtain ⟨ad, rfl, hc⟩ := hn.2.2 h0
      have hnl : (nums .u8 news).length = m := by rw [nums_length]; exact hn.1
      obtain ⟨v', w', hr, hown, hgr⟩ := run_append_arg_grows (P := Tryd.prog) W 22 o.type 5 i (.int .u8 0) 1 1 Tryd.underlying22 hi hz0 hz1 hz2 rfl (by decide) ⟨g, 0, none⟩ 1 1 [.int .u8 32] rfl (marked_cell hw) ad m c (nums .u8 news) (by rw [hnl]; omega)
        (fun j u hj => by
          have hjm : j < m := by rw [← hnl]; exact (List.getElem?_eq_some_iff.1 hj).1
          rw [hc j hjm]
          have hjn : j < news.length := by rw [hn.1]; exact hjm
          simp only [nums, List.getElem?_map, List.getElem?_eq_getElem hjn, Option.map_some] at hj
          rw [List.getD_eq_getElem?_getD, List.getElem?_eq_getElem hjn]
          exact hj) (by omega) (by simp only [maxLen]; omega) (by omega)
      refine ⟨v', w', hr, .inl ?_, HB.grown hgr hbase (by intro b hb; cases hb)⟩
      have e1 : (32 :: news).length = 1 + m := by rw [List.length_cons, hn.1]; omega
      rw [e1]
      exact own_less hown hbase
  obtain ⟨v1, w1, hr, hT, hB⟩ := hrun
  refine wpList_plain hgd fun K hK => ?_
  unfold Oper.wp execOp
  simp only [ho, resolve, invoke, builtin, Sem.run_bind, Sem.run_pure, Result.andThen_ok, List.map_toArray, List.map_cons, List.map_nil, hs, hx, hr]
  exact hK _ _ (h v1 w1 hT hB)
set_option maxHeartbeats 1000000 in
theorem tail_str {ops : Array Oper} {rest : List Oper} {o : Oper} {a : Act} {Q : Exit → Act → World → Prop} {w0 W : World} (base : Nat) (hgd : o.guard = none) (s x : Operand)
    (ho : o.op = .call { callee := .builtin .append, args := #[s, x], argTypes := #[22, 9] }) (v : Value) (xs : List Int) (y : ByteArray) (hs : a.eval s = v) (hx : a.eval x = .string y)
    (hT : Tail W base v xs) (HB : Below base w0 W) (hbase : base ≤ W.heap.size) (hl : xs.length + y.size ≤ 140737488355328) (hy : 0 < y.size)
    (h : ∀ v1 w1, w1.ownsRow base 5 1 v1 (xs ++ bytesOf y).length (nums .u8 (xs ++ bytesOf y)) → Below base w0 w1 → wpList Tryd.prog ops Q rest (a.put o.dst v1) w1) : wpList Tryd.prog ops Q (o :: rest) a W := by
  rcases hT with hown | ⟨rfl, g, rfl, hg, hw⟩
  · exact print_append_str (w0 := w0) base hgd s x 22 9 5 ho Tryd.underlying22 Tryd.underlying9 info5t v xs y hs hx hown HB hbase (by omega) (fun v1 w1 h1 h2 _ => h v1 w1 h1 h2)
  obtain ⟨i, hi, hzz⟩ := Option.map_eq_some_iff.1 info5t
  simp only [Prod.mk.injEq] at hzz
  obtain ⟨hz0, hz1, hz2⟩ := hzz
  simp only [List.length_cons, List.length_nil] at hl
  have h63 : 1 + y.size ≤ maxLen := by simp only [maxLen]; omega
  have hgt : 1 < 1 + y.size := by omega
  have hge := grownCap_ge W (1 + y.size) 1 5
  have hcm : grownCap W (1 + y.size) 1 5 ≤ maxLen := grownCap_le_maxLen W (1 + y.size) 1 5 h63
  have hr := Lib.run_append_grow_string (P := Tryd.prog) W 22 9 o.type 5 i (.int .u8 0) Tryd.underlying22 Tryd.underlying9 hi hz0 ⟨g, 0, none⟩ 1 1 [.int .u8 32] (by rw [hz1]; rfl) (marked_cell hw) y hgt (by omega) (growslice_fits hgt (by rw [hz2]; omega))
  refine wpList_plain hgd fun K hK => ?_
  unfold Oper.wp execOp
  simp only [ho, resolve, invoke, builtin, Sem.run_bind, Sem.run_pure, Result.andThen_ok, List.map_toArray, List.map_cons, List.map_nil, hs, hx, hr]
  have hsc : (Lib.strCells y).length = y.size := Lib.strCells_length y
  have hnum : nums .u8 ([32] ++ bytesOf y) = [.int .u8 32] ++ Lib.strCells y := by
    rw [nums_append]
    congr 1
    simp [nums, bytesOf, Lib.strCells]
  have hlen : ([32] ++ bytesOf y).length = 1 + y.size := by rw [List.length_append, bytesOf_length]; rfl
  refine hK _ _ (h _ _ ?_ ?_)
  · rw [hlen, hnum]
    refine ⟨by rw [List.length_append, hsc]; simp, .inr ⟨W.heap.size, _, _, rfl, hbase, heap_alloc_new W.drew _, hge, hcm, ?_, ?_⟩⟩
    · simp only [Array.size_append, List.size_toArray, size_zeroCells, hsc, List.length_cons, List.length_nil]
      have : (Value.int .u8 0).cells.size = 1 := rfl
      rw [this]
      omega
    · simp only [Array.toList_append, List.append_assoc]
      rw [← List.append_assoc]
      have e : (1 + y.size) * 1 = ([Value.int .u8 32] ++ Lib.strCells y).length := by rw [List.length_append, hsc]; simp
      rw [e]
      exact List.take_left
  · exact HB.grown (row := none) ⟨rfl, rfl, rfl, by simp, fun k hk _ => heap_alloc_old W.drew _ hk⟩ hbase (by intro b hb; cases hb)
end Go.Proofs.YtaeocpnabgnidaaDoor.Tx
