/- policy.Start, the document's Start and Same, policy.down, walked. -/
import Derived.Test.YtgeoibgohlpfjaaDoorPySmall
set_option linter.unusedVariables false
set_option linter.unusedSimpArgs false
namespace Go.Proofs.YtgeoibgohlpfjaaDoor.Py
open Go Go.RowKit Go.Proofs.YtgeoibgohlpfjaaDoorW.PrintWords Go.Proofs.YtgeoibgohlpfjaaDoorW.PrintLast Go.Proofs.YtgeoibgohlpfjaaDoorW.PrintMore
/-- a value that is a state of policies -/
def PolIs (w : World) (v : Value) (p : Pl) : Prop := ∃ sv, v = .agg #[sv, .int .i64 p.ex, .int .i64 p.any] ∧ Strs w sv (p.set.map bs)
theorem PolIs.below {w w' : World} {v : Value} {p : Pl} (h : PolIs w v p) (hb : Below w.heap.size w w') : PolIs w' v p := by
  obtain ⟨sv, e, h1⟩ := h
  exact ⟨sv, e, h1.below hb⟩
abbrev bAny : ByteArray := ⟨#[50, 46, 53, 46, 50, 57, 46, 51, 50, 46, 48]⟩
theorem bs_any : bs anyP = bAny := rfl
theorem tl_any : tl bAny = anyP := rfl
theorem strs_one {w w1 : World} (b : Nat) (s : ByteArray) (hb : w1.heap[b]? = some (.cells #[.string s] 9 (0, 0))) : Strs w1 (.slice (some ⟨b, 0, none⟩) 1 1) [s] := by
  have hown : w1.ownsRow 0 9 1 (.slice (some ⟨b, 0, none⟩) 1 1) 1 [.string s] := ⟨rfl, .inr ⟨b, 1, #[.string s], rfl, Nat.zero_le _, hb, Nat.le_refl _, by decide, rfl, rfl⟩⟩
  refine ⟨_, _, rfl, Nat.le_refl _, ⟨rfl, by simp, fun _ => ⟨_, rfl, fun j p hp => ⟨[.string p], rfl, rfl, fun i u hu => ?_⟩⟩⟩⟩
  have hj : j = 0 := by
    have := (List.getElem?_eq_some_iff.1 hp).1
    simp at this
    omega
  subst hj
  cases hp
  have hi : i = 0 := by
    have := (List.getElem?_eq_some_iff.1 hu).1
    simp at this
    omega
  subst hi
  cases hu
  show w1.cell? ((⟨b, 0, none⟩ : Addr).add (0 * Kd.string.sz + 0)) = _
  have e2 : (⟨b, 0, none⟩ : Addr).add (0 * Kd.string.sz + 0) = ⟨b, 0, none⟩ := by simp [Addr.add]
  rw [e2, cell_of_row w1 b 0 _ _ _ hb]
  rfl
theorem start_end {w : World} {a b : Int} {p : Pl} {o : Obj} (hs : p.set = [anyP]) (ha : a = p.ex) (hb : b = p.any) :
    PolIs (((w.alloc (.cells #[.slice (some ⟨w.heap.size + 1, 0, none⟩) 1 1, .int .i64 a, .int .i64 b] 25)).alloc (.cells #[.string bAny] 9)).alloc o) (.agg #[.slice (some ⟨w.heap.size + 1, 0, none⟩) 1 1, .int .i64 a, .int .i64 b]) p ∧
    Below w.heap.size w (((w.alloc (.cells #[.slice (some ⟨w.heap.size + 1, 0, none⟩) 1 1, .int .i64 a, .int .i64 b] 25)).alloc (.cells #[.string bAny] 9)).alloc o) := by
  subst ha hb
  refine ⟨⟨_, rfl, ?_⟩, below_alloc (below_alloc (below_alloc (Below.refl _ _) _) _) _⟩
  rw [hs]
  have h := blk_new (w.alloc (.cells #[.slice (some ⟨w.heap.size + 1, 0, none⟩) 1 1, .int .i64 p.ex, .int .i64 p.any] 25)) (.cells #[.string bAny] 9)
  rw [World.size_alloc] at h
  exact strs_one (w := w) _ bAny (blk_alloc h _)
set_option maxHeartbeats 4000000 in
set_option maxRecDepth 100000 in
theorem start_walk (n : Int) (ex inh : Bool) (w : World) : Calls Tryd.prog 11 #[.int .i64 n, .bool ex, .bool inh] w fun e w' => ∃ v, e = .returned v ∧ PolIs w' v (startV n ex inh) ∧ Below w.heap.size w w' := by
  obtain ⟨m, hm⟩ : ∃ m, 1 + min (max n 0) 8 = m := ⟨_, rfl⟩
  have hm1 : 1 ≤ m := by omega
  have hm2 : m ≤ 9 := by omega
  unfold startV
  simp only [hm]
  cases ex <;> cases inh
  all_goals
    go_enter Tryd.func11, Tryd.ntmps11
    go_wp2
    all_goals
      refine bodyPost_ret (results_cell_row rfl _ _ w.heap.size 25 _ (0, 0) _ rfl (blk_alloc (blk_alloc (blk_new w _) _) _) Tryd.underlying25 rfl (by kernel_rfl)) rfl ?_
      exact ⟨_, rfl, start_end rfl (by first | rfl | omega | (simp only at *; (repeat' split at *) <;> omega)) (by first | rfl | omega | (simp only at *; (repeat' split at *) <;> omega))⟩
set_option maxHeartbeats 4000000 in
set_option maxRecDepth 100000 in
theorem startR_walk (n : Int) (ex inh : Bool) (w : World) : Calls Tryd.prog 12 #[.int .i64 n, .bool ex, .bool inh] w fun e w' => ∃ v, e = .returned v ∧ PolIs w' v (startV n ex inh) ∧ Below w.heap.size w w' := by
  obtain ⟨m, hm⟩ : ∃ m, 1 + min (max n 0) 8 = m := ⟨_, rfl⟩
  have hm1 : 1 ≤ m := by omega
  have hm2 : m ≤ 9 := by omega
  unfold startV
  simp only [hm]
  cases ex <;> cases inh
  all_goals
    by_cases h0 : n < 0
    · go_enter Tryd.func12, Tryd.ntmps12
      go_wp2
      all_goals
        refine bodyPost_ret (results_cell_row rfl _ _ w.heap.size 25 _ (0, 0) _ rfl (blk_alloc (blk_alloc (blk_new w _) _) _) Tryd.underlying25 rfl (by kernel_rfl)) rfl ?_
        exact ⟨_, rfl, start_end rfl (by first | rfl | (dsimp only; omega)) (by first | rfl | (dsimp only; omega))⟩
    · by_cases h8 : 8 < n
      · go_enter Tryd.func12, Tryd.ntmps12
        go_wp2
        all_goals
          refine bodyPost_ret (results_cell_row rfl _ _ w.heap.size 25 _ (0, 0) _ rfl (blk_alloc (blk_alloc (blk_new w _) _) _) Tryd.underlying25 rfl (by kernel_rfl)) rfl ?_
          exact ⟨_, rfl, start_end rfl (by first | rfl | (dsimp only; omega)) (by first | rfl | (dsimp only; omega))⟩
      · have hlo : 0 ≤ n := by omega
        have hhi : n ≤ 8 := by omega
        go_enter Tryd.func12, Tryd.ntmps12
        go_wp2
        all_goals
          refine bodyPost_ret (results_cell_row rfl _ _ w.heap.size 25 _ (0, 0) _ rfl (blk_alloc (blk_alloc (blk_new w _) _) _) Tryd.underlying25 rfl (by kernel_rfl)) rfl ?_
          exact ⟨_, rfl, start_end rfl (by first | rfl | (dsimp only; omega)) (by first | rfl | (dsimp only; omega))⟩
theorem down_eq1 (n b : Int) : down n b false = if b ≥ 0 then min n b else n := by simp [down]
set_option maxHeartbeats 4000000 in
set_option maxRecDepth 100000 in
theorem down_walk (n b : Int) (less : Bool) (w : World) (hw : n ≤ 9223372036854775807) : Calls Tryd.prog 31 #[.int .i64 n, .int .i64 b, .bool less] w fun e w' => e = .returned (.int .i64 (down n b less)) ∧ w' = w := by
  have HD := Aside0.mk (show ∀ x, x = down n b less → Ending.returned (.int .i64 x) = Ending.returned (.int .i64 (down n b less)) from fun x h => by rw [h])
  cases less
  all_goals
    by_cases hn : 0 < n
    all_goals
      by_cases hb : 0 ≤ b
      all_goals
        go_enter Tryd.func31, Tryd.ntmps31
        go_wp2
        all_goals
          go_ret
          refine ⟨HD.out _ ?_, rfl⟩
          unfold down
          simp only [Bool.false_eq_true, false_and, if_false, true_and]
          first | omega | (repeat' split) <;> omega
end Go.Proofs.YtgeoibgohlpfjaaDoor.Py
