/- behind: is a moment later than another one? Its walk; no condition. -/
import Derived.Test.YtnkpegldckdahaaDoorProg
import Derived.Test.YtnkpegldckdahaaDoorWWords
import Derived.Test.YtnkpegldckdahaaDoorWArr
import Derived.OwnWalk
import Derived.WalkKit
import Derived.BigCall
import Derived.Outline
import Derived.LoopTactic
set_option linter.unusedVariables false
namespace Go.Proofs.YtnkpegldckdahaaDoor.Ck
open Go.RowKit Go.Lib Go.Proofs.YtnkpegldckdahaaDoorW.PrintWords
/-- is the first moment later? -/
def later (a0 a1 a2 a3 a4 a5 b0 b1 b2 b3 b4 b5 : Int) : Bool :=
  if a0 ≠ b0 then decide (a0 > b0) else if a1 ≠ b1 then decide (a1 > b1) else if a2 ≠ b2 then decide (a2 > b2) else if a3 ≠ b3 then decide (a3 > b3) else if a4 ≠ b4 then decide (a4 > b4) else if a5 ≠ b5 then decide (a5 > b5) else false
def BehAt (a0 a1 a2 a3 a4 a5 b0 b1 b2 b3 b4 b5 : Int) (i : Nat) : Prop :=
  i = 0 ∨ (i = 1 ∧ a0 = b0) ∨ (i = 2 ∧ a0 = b0 ∧ a1 = b1) ∨ (i = 3 ∧ a0 = b0 ∧ a1 = b1 ∧ a2 = b2) ∨ (i = 4 ∧ a0 = b0 ∧ a1 = b1 ∧ a2 = b2 ∧ a3 = b3) ∨ (i = 5 ∧ a0 = b0 ∧ a1 = b1 ∧ a2 = b2 ∧ a3 = b3 ∧ a4 = b4) ∨ (i = 6 ∧ a0 = b0 ∧ a1 = b1 ∧ a2 = b2 ∧ a3 = b3 ∧ a4 = b4 ∧ a5 = b5)
def slotNat (v : Value) : Nat := match v with | .int _ n => n.toNat | _ => 0
set_option maxHeartbeats 4000000 in
set_option maxRecDepth 100000 in
theorem behind_walk (a0 a1 a2 a3 a4 a5 b0 b1 b2 b3 b4 b5 : Int) (w : World) : Calls Tryd.prog 16 #[.agg #[.int .i64 a0, .int .i64 a1, .int .i64 a2, .int .i64 a3, .int .i64 a4, .int .i64 a5], .agg #[.int .i64 b0, .int .i64 b1, .int .i64 b2, .int .i64 b3, .int .i64 b4, .int .i64 b5]] w fun e w' => e = .returned (.bool (later a0 a1 a2 a3 a4 a5 b0 b1 b2 b3 b4 b5)) ∧ Below w.heap.size w w' := by
  have hu23 := Tryd.underlying23
  have hu55 := Tryd.underlying55
  have HB := Aside0.mk (Below.refl w.heap.size w)
  go_enter Tryd.func16, Tryd.ntmps16
  go_upto_region 1 with (first | ((with_reducible refine gate_dst (N := 2) rfl ?_); refine box_event ?hg (N := 2) ?hd (cs := #[.int .i64 a0, .int .i64 a1, .int .i64 a2, .int .i64 a3, .int .i64 a4, .int .i64 a5]) (t := 23) ?hr ?_; (case hd => rfl); (case hg => rfl); (case hr => first | (go_simp; done) | (go_simp; rfl)); intro g1 hg1 w3 hbox1 hb1; clear hg1) | ((with_reducible refine gate_dst (N := 3) rfl ?_); refine box_event ?hg (N := 3) ?hd (cs := #[.int .i64 b0, .int .i64 b1, .int .i64 b2, .int .i64 b3, .int .i64 b4, .int .i64 b5]) (t := 23) ?hr ?_; (case hd => rfl); (case hg => rfl); (case hr => first | (go_simp; done) | (go_simp; rfl)); intro g2 hg2 w4 hbox2 hb2; clear hg2))
  have k1 := Below.block hb2 g1 (Array.getElem?_eq_some_iff.1 hbox1).1
  have hbox1' : w4.heap[g1]? = some (.cells #[.int .i64 a0, .int .i64 a1, .int .i64 a2, .int .i64 a3, .int .i64 a4, .int .i64 a5] 23 (0, 0)) := by rw [k1]; exact hbox1
  have hx0 : w4.cell? ⟨g1, 0, none⟩ = some (.int .i64 a0) := (blk_cell hbox1' 0).trans rfl
  have hx1 : w4.cell? ⟨g1, 1, none⟩ = some (.int .i64 a1) := (blk_cell hbox1' 1).trans rfl
  have hx2 : w4.cell? ⟨g1, 2, none⟩ = some (.int .i64 a2) := (blk_cell hbox1' 2).trans rfl
  have hx3 : w4.cell? ⟨g1, 3, none⟩ = some (.int .i64 a3) := (blk_cell hbox1' 3).trans rfl
  have hx4 : w4.cell? ⟨g1, 4, none⟩ = some (.int .i64 a4) := (blk_cell hbox1' 4).trans rfl
  have hx5 : w4.cell? ⟨g1, 5, none⟩ = some (.int .i64 a5) := (blk_cell hbox1' 5).trans rfl
  have hy0 : ∀ o, (w4.alloc o).cell? ⟨g2, 0, none⟩ = some (.int .i64 b0) := fun o => (blk_cell (blk_alloc hbox2 o) 0).trans rfl
  have hy1 : ∀ o, (w4.alloc o).cell? ⟨g2, 1, none⟩ = some (.int .i64 b1) := fun o => (blk_cell (blk_alloc hbox2 o) 1).trans rfl
  have hy2 : ∀ o, (w4.alloc o).cell? ⟨g2, 2, none⟩ = some (.int .i64 b2) := fun o => (blk_cell (blk_alloc hbox2 o) 2).trans rfl
  have hy3 : ∀ o, (w4.alloc o).cell? ⟨g2, 3, none⟩ = some (.int .i64 b3) := fun o => (blk_cell (blk_alloc hbox2 o) 3).trans rfl
  have hy4 : ∀ o, (w4.alloc o).cell? ⟨g2, 4, none⟩ = some (.int .i64 b4) := fun o => (blk_cell (blk_alloc hbox2 o) 4).trans rfl
  have hy5 : ∀ o, (w4.alloc o).cell? ⟨g2, 5, none⟩ = some (.int .i64 b5) := fun o => (blk_cell (blk_alloc hbox2 o) 5).trans rfl
  go_upto_region 3 with fail
  have hBW := Aside0.mk (((hb1.trans (hb2.mono hb1.size)).alloc (hb1.trans (hb2.mono hb1.size)).size (Obj.cells #[.int .i64 a0, .int .i64 a1, .int .i64 a2, .int .i64 a3, .int .i64 a4, .int .i64 a5] 55 (0, 0))).alloc (((hb1.trans (hb2.mono hb1.size)).alloc (hb1.trans (hb2.mono hb1.size)).size (Obj.cells #[.int .i64 a0, .int .i64 a1, .int .i64 a2, .int .i64 a3, .int .i64 a4, .int .i64 a5] 55 (0, 0)))).size (Obj.cells #[.int .i64 b0, .int .i64 b1, .int .i64 b2, .int .i64 b3, .int .i64 b4, .int .i64 b5] 55 (0, 0)))
  have hPX := Aside0.mk (blk_alloc (blk_new w4 (Obj.cells #[.int .i64 a0, .int .i64 a1, .int .i64 a2, .int .i64 a3, .int .i64 a4, .int .i64 a5] 55 (0, 0))) (Obj.cells #[.int .i64 b0, .int .i64 b1, .int .i64 b2, .int .i64 b3, .int .i64 b4, .int .i64 b5] 55 (0, 0)))
  have hPY := Aside0.mk (blk_new (w4.alloc (Obj.cells #[.int .i64 a0, .int .i64 a1, .int .i64 a2, .int .i64 a3, .int .i64 a4, .int .i64 a5] 55 (0, 0))) (Obj.cells #[.int .i64 b0, .int .i64 b1, .int .i64 b2, .int .i64 b3, .int .i64 b4, .int .i64 b5] 55 (0, 0)))
  have hsz : (w4.alloc (Obj.cells #[.int .i64 a0, .int .i64 a1, .int .i64 a2, .int .i64 a3, .int .i64 a4, .int .i64 a5] 55 (0, 0))).heap.size = w4.heap.size + 1 := Array.size_push _
  rw [hsz] at hPY
  generalize ((w4.alloc (Obj.cells #[.int .i64 a0, .int .i64 a1, .int .i64 a2, .int .i64 a3, .int .i64 a4, .int .i64 a5] 55 (0, 0))).alloc (Obj.cells #[.int .i64 b0, .int .i64 b1, .int .i64 b2, .int .i64 b3, .int .i64 b4, .int .i64 b5] 55 (0, 0))) = W at hBW hPX hPY ⊢
  clear hsz hx0 hx1 hx2 hx3 hx4 hx5 hy0 hy1 hy2 hy3 hy4 hy5 hbox1' k1 hbox1 hbox2 hb1 hb2
  obtain ⟨q, hq⟩ : ∃ q, w4.heap.size + 1 = q := ⟨_, rfl⟩
  rw [hq] at hPY ⊢
  obtain ⟨p, hp⟩ : ∃ p, w4.heap.size = p := ⟨_, rfl⟩
  rw [hp] at hPX ⊢
  clear hq hp
  go_wp2
  go_loopw [7] (fun v wr => ∃ i : Nat, v = .int .i64 i ∧ Aside0 (BehAt a0 a1 a2 a3 a4 a5 b0 b1 b2 b3 b4 b5 i) ∧ Aside0 (wr.heap[p]? = some (Obj.cells #[.int .i64 a0, .int .i64 a1, .int .i64 a2, .int .i64 a3, .int .i64 a4, .int .i64 a5] 55 (0, 0))) ∧ Aside0 (wr.heap[q]? = some (Obj.cells #[.int .i64 b0, .int .i64 b1, .int .i64 b2, .int .i64 b3, .int .i64 b4, .int .i64 b5] 55 (0, 0))) ∧ Aside0 (Below w.heap.size w wr)) (fun v _ => 6 - (slotNat v))
  case atStart => exact ⟨0, rfl, ⟨.inl rfl⟩, hPX, hPY, hBW⟩
  case round =>
    obtain ⟨i, rfl, HI, HX, HY, HB⟩ := hrel
    clear hPX hPY hBW
    rcases HI.out with rfl | ⟨rfl, e0⟩ | ⟨rfl, e0, e1⟩ | ⟨rfl, e0, e1, e2⟩ | ⟨rfl, e0, e1, e2, e3⟩ | ⟨rfl, e0, e1, e2, e3, e4⟩ | ⟨rfl, e0, e1, e2, e3, e4, e5⟩
    · have hX : wr.cell? ⟨p, 0, none⟩ = some (.int .i64 a0) := (blk_cell HX.out 0).trans rfl
      have hY : wr.cell? ⟨q, 0, none⟩ = some (.int .i64 b0) := (blk_cell HY.out 0).trans rfl
      have HE := Aside0.mk (show True from trivial)
      clear HI 
      by_cases hc : a0 = b0
      · have hne : (a0 != b0) = false := by simpa using hc
        have HC := Aside0.mk hc
        clear hc
        go_wp2
        repeat (go_quiet (fail); try go_wp2)
        go_roundw
        case rel => exact ⟨1, rfl, ⟨.inr (.inl ⟨rfl, HC.out⟩)⟩, ⟨by (with_reducible repeat (first | refine blk_drewN ?_ _ | refine blk_drew ?_ | refine blk_alloc ?_ _)); exact HX.out⟩, ⟨by (with_reducible repeat (first | refine blk_drewN ?_ _ | refine blk_drew ?_ | refine blk_alloc ?_ _)); exact HY.out⟩, ⟨by repeat (first | (with_reducible first | exact HB.out | apply below_alloc | apply pw_below_drewN | apply below_drew1) | exact HB.out)⟩⟩
        case measure => first | decide | (simp [slotNat]; done)
      · have hne : (a0 != b0) = true := by simpa using hc
        have HC := Aside0.mk hc
        clear hc
        go_wp2
        repeat (go_quiet (fail); try go_wp2)
        go_ret
        refine ⟨?_, by repeat (first | (with_reducible first | exact HB.out | apply below_alloc | apply pw_below_drewN | apply below_drew1) | exact HB.out)⟩
        have hl : later a0 a1 a2 a3 a4 a5 b0 b1 b2 b3 b4 b5 = decide (a0 > b0) := by
          skip
          unfold later
          simp [HC.out]
        rw [hl]
        first | rfl | (simp; done)
    · have hX : wr.cell? ⟨p, 1, none⟩ = some (.int .i64 a1) := (blk_cell HX.out 1).trans rfl
      have hY : wr.cell? ⟨q, 1, none⟩ = some (.int .i64 b1) := (blk_cell HY.out 1).trans rfl
      have HE := Aside0.mk (show a0 = b0 from e0)
      clear HI e0
      by_cases hc : a1 = b1
      · have hne : (a1 != b1) = false := by simpa using hc
        have HC := Aside0.mk hc
        clear hc
        go_wp2
        repeat (go_quiet (fail); try go_wp2)
        go_roundw
        case rel => exact ⟨2, rfl, ⟨.inr (.inr (.inl ⟨rfl, HE.out, HC.out⟩))⟩, ⟨by (with_reducible repeat (first | refine blk_drewN ?_ _ | refine blk_drew ?_ | refine blk_alloc ?_ _)); exact HX.out⟩, ⟨by (with_reducible repeat (first | refine blk_drewN ?_ _ | refine blk_drew ?_ | refine blk_alloc ?_ _)); exact HY.out⟩, ⟨by repeat (first | (with_reducible first | exact HB.out | apply below_alloc | apply pw_below_drewN | apply below_drew1) | exact HB.out)⟩⟩
        case measure => first | decide | (simp [slotNat]; done)
      · have hne : (a1 != b1) = true := by simpa using hc
        have HC := Aside0.mk hc
        clear hc
        go_wp2
        repeat (go_quiet (fail); try go_wp2)
        go_ret
        refine ⟨?_, by repeat (first | (with_reducible first | exact HB.out | apply below_alloc | apply pw_below_drewN | apply below_drew1) | exact HB.out)⟩
        have hl : later a0 a1 a2 a3 a4 a5 b0 b1 b2 b3 b4 b5 = decide (a1 > b1) := by
          have e0 := HE.out; subst e0
          unfold later
          simp [HC.out]
        rw [hl]
        first | rfl | (simp; done)
    · have hX : wr.cell? ⟨p, 2, none⟩ = some (.int .i64 a2) := (blk_cell HX.out 2).trans rfl
      have hY : wr.cell? ⟨q, 2, none⟩ = some (.int .i64 b2) := (blk_cell HY.out 2).trans rfl
      have HE := Aside0.mk (show a0 = b0 ∧ a1 = b1 from ⟨e0, e1⟩)
      clear HI e0 e1
      by_cases hc : a2 = b2
      · have hne : (a2 != b2) = false := by simpa using hc
        have HC := Aside0.mk hc
        clear hc
        go_wp2
        repeat (go_quiet (fail); try go_wp2)
        go_roundw
        case rel => exact ⟨3, rfl, ⟨.inr (.inr (.inr (.inl ⟨rfl, HE.out.1, HE.out.2, HC.out⟩)))⟩, ⟨by (with_reducible repeat (first | refine blk_drewN ?_ _ | refine blk_drew ?_ | refine blk_alloc ?_ _)); exact HX.out⟩, ⟨by (with_reducible repeat (first | refine blk_drewN ?_ _ | refine blk_drew ?_ | refine blk_alloc ?_ _)); exact HY.out⟩, ⟨by repeat (first | (with_reducible first | exact HB.out | apply below_alloc | apply pw_below_drewN | apply below_drew1) | exact HB.out)⟩⟩
        case measure => first | decide | (simp [slotNat]; done)
      · have hne : (a2 != b2) = true := by simpa using hc
        have HC := Aside0.mk hc
        clear hc
        go_wp2
        repeat (go_quiet (fail); try go_wp2)
        go_ret
        refine ⟨?_, by repeat (first | (with_reducible first | exact HB.out | apply below_alloc | apply pw_below_drewN | apply below_drew1) | exact HB.out)⟩
        have hl : later a0 a1 a2 a3 a4 a5 b0 b1 b2 b3 b4 b5 = decide (a2 > b2) := by
          obtain ⟨e0, e1⟩ := HE.out; subst e0 e1
          unfold later
          simp [HC.out]
        rw [hl]
        first | rfl | (simp; done)
    · have hX : wr.cell? ⟨p, 3, none⟩ = some (.int .i64 a3) := (blk_cell HX.out 3).trans rfl
      have hY : wr.cell? ⟨q, 3, none⟩ = some (.int .i64 b3) := (blk_cell HY.out 3).trans rfl
      have HE := Aside0.mk (show a0 = b0 ∧ a1 = b1 ∧ a2 = b2 from ⟨e0, e1, e2⟩)
      clear HI e0 e1 e2
      by_cases hc : a3 = b3
      · have hne : (a3 != b3) = false := by simpa using hc
        have HC := Aside0.mk hc
        clear hc
        go_wp2
        repeat (go_quiet (fail); try go_wp2)
        go_roundw
        case rel => exact ⟨4, rfl, ⟨.inr (.inr (.inr (.inr (.inl ⟨rfl, HE.out.1, HE.out.2.1, HE.out.2.2, HC.out⟩))))⟩, ⟨by (with_reducible repeat (first | refine blk_drewN ?_ _ | refine blk_drew ?_ | refine blk_alloc ?_ _)); exact HX.out⟩, ⟨by (with_reducible repeat (first | refine blk_drewN ?_ _ | refine blk_drew ?_ | refine blk_alloc ?_ _)); exact HY.out⟩, ⟨by repeat (first | (with_reducible first | exact HB.out | apply below_alloc | apply pw_below_drewN | apply below_drew1) | exact HB.out)⟩⟩
        case measure => first | decide | (simp [slotNat]; done)
      · have hne : (a3 != b3) = true := by simpa using hc
        have HC := Aside0.mk hc
        clear hc
        go_wp2
        repeat (go_quiet (fail); try go_wp2)
        go_ret
        refine ⟨?_, by repeat (first | (with_reducible first | exact HB.out | apply below_alloc | apply pw_below_drewN | apply below_drew1) | exact HB.out)⟩
        have hl : later a0 a1 a2 a3 a4 a5 b0 b1 b2 b3 b4 b5 = decide (a3 > b3) := by
          obtain ⟨e0, e1, e2⟩ := HE.out; subst e0 e1 e2
          unfold later
          simp [HC.out]
        rw [hl]
        first | rfl | (simp; done)
    · have hX : wr.cell? ⟨p, 4, none⟩ = some (.int .i64 a4) := (blk_cell HX.out 4).trans rfl
      have hY : wr.cell? ⟨q, 4, none⟩ = some (.int .i64 b4) := (blk_cell HY.out 4).trans rfl
      have HE := Aside0.mk (show a0 = b0 ∧ a1 = b1 ∧ a2 = b2 ∧ a3 = b3 from ⟨e0, e1, e2, e3⟩)
      clear HI e0 e1 e2 e3
      by_cases hc : a4 = b4
      · have hne : (a4 != b4) = false := by simpa using hc
        have HC := Aside0.mk hc
        clear hc
        go_wp2
        repeat (go_quiet (fail); try go_wp2)
        go_roundw
        case rel => exact ⟨5, rfl, ⟨.inr (.inr (.inr (.inr (.inr (.inl ⟨rfl, HE.out.1, HE.out.2.1, HE.out.2.2.1, HE.out.2.2.2, HC.out⟩)))))⟩, ⟨by (with_reducible repeat (first | refine blk_drewN ?_ _ | refine blk_drew ?_ | refine blk_alloc ?_ _)); exact HX.out⟩, ⟨by (with_reducible repeat (first | refine blk_drewN ?_ _ | refine blk_drew ?_ | refine blk_alloc ?_ _)); exact HY.out⟩, ⟨by repeat (first | (with_reducible first | exact HB.out | apply below_alloc | apply pw_below_drewN | apply below_drew1) | exact HB.out)⟩⟩
        case measure => first | decide | (simp [slotNat]; done)
      · have hne : (a4 != b4) = true := by simpa using hc
        have HC := Aside0.mk hc
        clear hc
        go_wp2
        repeat (go_quiet (fail); try go_wp2)
        go_ret
        refine ⟨?_, by repeat (first | (with_reducible first | exact HB.out | apply below_alloc | apply pw_below_drewN | apply below_drew1) | exact HB.out)⟩
        have hl : later a0 a1 a2 a3 a4 a5 b0 b1 b2 b3 b4 b5 = decide (a4 > b4) := by
          obtain ⟨e0, e1, e2, e3⟩ := HE.out; subst e0 e1 e2 e3
          unfold later
          simp [HC.out]
        rw [hl]
        first | rfl | (simp; done)
    · have hX : wr.cell? ⟨p, 5, none⟩ = some (.int .i64 a5) := (blk_cell HX.out 5).trans rfl
      have hY : wr.cell? ⟨q, 5, none⟩ = some (.int .i64 b5) := (blk_cell HY.out 5).trans rfl
      have HE := Aside0.mk (show a0 = b0 ∧ a1 = b1 ∧ a2 = b2 ∧ a3 = b3 ∧ a4 = b4 from ⟨e0, e1, e2, e3, e4⟩)
      clear HI e0 e1 e2 e3 e4
      by_cases hc : a5 = b5
      · have hne : (a5 != b5) = false := by simpa using hc
        have HC := Aside0.mk hc
        clear hc
        go_wp2
        repeat (go_quiet (fail); try go_wp2)
        go_roundw
        case rel => exact ⟨6, rfl, ⟨.inr (.inr (.inr (.inr (.inr (.inr (⟨rfl, HE.out.1, HE.out.2.1, HE.out.2.2.1, HE.out.2.2.2.1, HE.out.2.2.2.2, HC.out⟩))))))⟩, ⟨by (with_reducible repeat (first | refine blk_drewN ?_ _ | refine blk_drew ?_ | refine blk_alloc ?_ _)); exact HX.out⟩, ⟨by (with_reducible repeat (first | refine blk_drewN ?_ _ | refine blk_drew ?_ | refine blk_alloc ?_ _)); exact HY.out⟩, ⟨by repeat (first | (with_reducible first | exact HB.out | apply below_alloc | apply pw_below_drewN | apply below_drew1) | exact HB.out)⟩⟩
        case measure => first | decide | (simp [slotNat]; done)
      · have hne : (a5 != b5) = true := by simpa using hc
        have HC := Aside0.mk hc
        clear hc
        go_wp2
        repeat (go_quiet (fail); try go_wp2)
        go_ret
        refine ⟨?_, by repeat (first | (with_reducible first | exact HB.out | apply below_alloc | apply pw_below_drewN | apply below_drew1) | exact HB.out)⟩
        have hl : later a0 a1 a2 a3 a4 a5 b0 b1 b2 b3 b4 b5 = decide (a5 > b5) := by
          obtain ⟨e0, e1, e2, e3, e4⟩ := HE.out; subst e0 e1 e2 e3 e4
          unfold later
          simp [HC.out]
        rw [hl]
        first | rfl | (simp; done)
    · have HE := Aside0.mk (show a0 = b0 ∧ a1 = b1 ∧ a2 = b2 ∧ a3 = b3 ∧ a4 = b4 ∧ a5 = b5 from ⟨e0, e1, e2, e3, e4, e5⟩)
      clear HI e0 e1 e2 e3 e4 e5
      go_wp2
      go_ret
      refine ⟨?_, HB.out⟩
      have hl : later a0 a1 a2 a3 a4 a5 b0 b1 b2 b3 b4 b5 = false := by
        obtain ⟨e0, e1, e2, e3, e4, e5⟩ := HE.out
        subst e0 e1 e2 e3 e4 e5
        simp [later]
      rw [hl]
      rfl
end Go.Proofs.YtnkpegldckdahaaDoor.Ck
