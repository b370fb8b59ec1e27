/- Plain Lean: TextSame over the printed functions. -/
import Derived.Test.YtaeocpnabgnidaaDoorTxPFolds
set_option linter.unusedVariables false
namespace Go.Proofs.YtaeocpnabgnidaaDoor.Tx
open Go.RowKit Go.Lib Go.Proofs.YtaeocpnabgnidaaDoorW.PrintWords Go.Proofs.YtaeocpnabgnidaaDoor.M
theorem same_guard (a0 : Int) (l1 l2 l3 : List Int) : Ev (fun k => chirographlaw06_TextSame.j0 k a0 l1 l2 l3 true) true := by
  refine Ev.step (fun k => ?_) live_end
  simp only [chirographlaw06_TextSame.j0, if_true]
theorem same_main (a0 : Int) (l1 l2 l3 : List Int) (ht : -9223372036854775808 ≤ a0 ∧ a0 ≤ 9223372036854775807) (b1 : Bytes l1) (b2 : Bytes l2) (b3 : Bytes l3) (h1 : l1.length ≤ 16384) (h2 : l2.length ≤ 16384) (h3 : l3.length ≤ 16384) :
    Ev (fun k => chirographlaw06_TextSame.j0 k a0 l1 l2 l3 false) true := by
  have ab := alike_ev a0 a0 l1 l2 ht ht b1 b2 (by omega) (by omega)
  have ba := alike_ev a0 a0 l2 l1 ht ht b2 b1 (by omega) (by omega)
  have bc := alike_ev a0 a0 l2 l3 ht ht b2 b3 (by omega) (by omega)
  have ac := alike_ev a0 a0 l1 l3 ht ht b1 b3 (by omega) (by omega)
  have aa := alike_ev a0 a0 l1 l1 ht ht b1 b1 (by omega) (by omega)
  refine Ev.step (f := _) (fun k => by simp only [chirographlaw06_TextSame.j0]; rw [if_neg (by decide)]) ?_
  refine Ev.bind ab (Ev.bind ba (Ev.bind bc (Ev.bind ac (Ev.bind aa ?_))))
  generalize keyV a0 l1 = x, keyV a0 l2 = y, keyV a0 l3 = z
  refine Ev.congr (fun k => ?_) live_end
  rw [if_pos (by simp)]
  have e1 : (x.toList == y.toList) = (y.toList == x.toList) := by rw [Bool.eq_iff_iff, beq_iff_eq, beq_iff_eq]; exact eq_comm
  rw [if_pos (by rw [e1]; simp)]
  by_cases h : (x.toList == y.toList) = true
  · have e2 : x.toList = y.toList := by simpa using h
    rw [if_pos h, e2, if_pos (by simp)]
  · rw [if_neg h]
theorem same_pure : chirographlaw06_TextSame.Pure := by
  intro a0 l1 l2 l3 ht _ h1 b1 _ h2 b2 _ h3 b3
  refine Ev.rounds ?_
  unfold chirographlaw06_TextSame.f
  by_cases c1 : (l1.length : Int) > 16384
  · simp only [if_pos c1]
    exact same_guard _ _ _ _
  simp only [if_neg c1]
  by_cases c2 : (l2.length : Int) > 16384
  · simp only [if_pos c2]
    exact same_guard _ _ _ _
  simp only [if_neg c2]
  by_cases c3 : (l3.length : Int) > 16384
  · simp only [decide_eq_true c3]
    exact same_guard _ _ _ _
  simp only [decide_eq_false c3]
  exact same_main a0 l1 l2 l3 (int_of_wf ht) (bytes_of_wf b1) (bytes_of_wf b2) (bytes_of_wf b3) (by omega) (by omega) (by omega)
end Go.Proofs.YtaeocpnabgnidaaDoor.Tx
