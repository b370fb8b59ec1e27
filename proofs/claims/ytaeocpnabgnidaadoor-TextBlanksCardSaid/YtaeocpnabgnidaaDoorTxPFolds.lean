/- Plain Lean: TextFolds over the printed functions. -/
import Derived.Test.YtaeocpnabgnidaaDoorTxPKey
set_option linter.unusedVariables false
namespace Go.Proofs.YtaeocpnabgnidaaDoor.Tx
open Go.RowKit Go.Lib Go.Proofs.YtaeocpnabgnidaaDoorW.PrintWords Go.Proofs.YtaeocpnabgnidaaDoor.M
theorem live_end : Ev (fun k => (chirographlaw06_live.f).bind fun t => some t) true := Ev.congr (fun _ => rfl) (Ev.now true)
theorem folds_pure : chirographlaw06_TextFolds.Pure := by
  intro s hs
  refine Ev.rounds ?_
  unfold chirographlaw06_TextFolds.f
  by_cases h : (s.size : Int) > 16384
  · simp only [if_pos h]
    exact live_end
  · simp only [if_neg h]
    rw [fold_ev s (by omega)]
    simp only [Option.bind_some]
    refine Ev.bind (ref_Fold s (by omega)) ?_
    refine Ev.congr (fun k => ?_) live_end
    rw [if_pos (show (foldS s).toList = (strOfNums (foldL (bytesOf s))).toList from rfl)]
end Go.Proofs.YtaeocpnabgnidaaDoor.Tx
