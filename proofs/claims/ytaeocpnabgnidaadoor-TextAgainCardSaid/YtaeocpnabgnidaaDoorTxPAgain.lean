/- Plain Lean: TextAgain over the printed functions. -/
import Derived.Test.YtaeocpnabgnidaaDoorTxPFolds
set_option linter.unusedVariables false
namespace Go.Proofs.YtaeocpnabgnidaaDoor.Tx
open Go.RowKit Go.Lib Go.Proofs.YtaeocpnabgnidaaDoorW.PrintWords Go.Proofs.YtaeocpnabgnidaaDoor.M
/-- What is folded holds no great letter, no blank at its ends, nor two together, byte by byte. -/
theorem nice_bt (t : ByteArray) (h : Nice (bytesOf t)) (i : Nat) (hi : i < t.size) :
    (bt t (i : Int) ≥ 65 → ¬ bt t (i : Int) ≤ 90) ∧ (bt t (i : Int) = 32 → (i : Int) ≠ 0 ∧ (i : Int) ≠ (t.size : Int) - 1 ∧ bt t ((i : Int) - 1) ≠ 32) := by
  obtain ⟨hl, hb⟩ := h
  have hg := bt_get t i hi
  constructor
  · intro h65 h90
    have := hl (bt t (i : Int)) (by rw [List.getElem?_eq_some_iff] at hg; obtain ⟨_, e⟩ := hg; rw [← e]; exact List.getElem_mem _)
    unfold low at this
    rw [if_pos ⟨h65, h90⟩] at this
    omega
  · intro h32
    rw [h32] at hg
    obtain ⟨h0, h1, h2⟩ := hb i hg
    rw [bytesOf_length] at h1
    refine ⟨by omega, by omega, ?_⟩
    have hp := bt_get t (i - 1) (by omega)
    have e : ((i - 1 : Nat) : Int) = (i : Int) - 1 := by omega
    rw [e] at hp
    intro hc
    rw [hc] at hp
    exact h2 hp
theorem again_loop (s t : ByteArray) (h : Nice (bytesOf t)) (hs : t.size ≤ s.size) (ht : t.size ≤ 35184372088832) (hf : foldS t = t) : ∀ (d i : Nat), i + d = t.size → Ev (fun k => chirographlaw06_TextAgain.l0 k s t (i : Int)) true := by
  intro d
  induction d with
  | zero =>
    intro i hd
    refine Ev.step (fun k => ?_) live_end
    simp only [chirographlaw06_TextAgain.l0]
    rw [if_neg (by omega), fold_ev t ht, hf, Option.bind_some, if_pos rfl, if_pos (by omega)]
  | succ d ih =>
    intro i hd
    obtain ⟨h65, h32⟩ := nice_bt t h i (by omega)
    have w1 : wrap64 ((t.size : Int) - 1) = (t.size : Int) - 1 := wrap_id (by omega) (by omega)
    refine Ev.step (fun k => ?_) (ih (i + 1) (by omega))
    rw [← wrap_next (i := i) (by omega)]
    simp only [chirographlaw06_TextAgain.l0]
    rw [if_pos (by omega), if_pos (by omega)]
    have blank : (if bt t (i : Int) = 32 then (if (i : Int) = 0 then (some false) else (if (i : Int) = (wrap64 ((t.size : Int) - 1)) then (some false) else (if 0 ≤ (wrap64 ((i : Int) - 1)) then (if (wrap64 ((i : Int) - 1)) < (t.size : Int) then (if (bt t (wrap64 ((i : Int) - 1))) = 32 then (some false) else (chirographlaw06_TextAgain.l0 k s t (wrap64 ((i : Int) + 1)))) else (none)) else (none)))) else (chirographlaw06_TextAgain.l0 k s t (wrap64 ((i : Int) + 1)))) = chirographlaw06_TextAgain.l0 k s t (wrap64 ((i : Int) + 1)) := by
      by_cases hb : bt t (i : Int) = 32
      · obtain ⟨g0, g1, g2⟩ := h32 hb
        have w2 : wrap64 ((i : Int) - 1) = (i : Int) - 1 := wrap_id (by omega) (by omega)
        rw [if_pos hb, if_neg g0, w1, if_neg g1, w2, if_pos (by omega), if_pos (by omega), if_neg g2]
      · rw [if_neg hb]
    by_cases h6 : bt t (i : Int) ≥ 65
    · rw [if_pos h6, if_neg (h65 h6)]
      exact blank
    · rw [if_neg h6]
      exact blank
theorem again_pure : chirographlaw06_TextAgain.Pure := by
  intro s hs
  refine Ev.rounds ?_
  unfold chirographlaw06_TextAgain.f
  by_cases h : (s.size : Int) > 16384
  · simp only [if_pos h]
    exact live_end
  · simp only [if_neg h]
    rw [fold_ev s (by omega)]
    simp only [Option.bind_some]
    have hsz := foldS_size s
    have hb : bytesOf (foldS s) = foldL (bytesOf s) := toNums _ (fold_byte _ (bytes_ok s))
    have hf : foldS (foldS s) = foldS s := by
      show strOfNums (foldL (bytesOf (foldS s))) = _
      rw [hb, fold_fold]
      rfl
    exact again_loop s (foldS s) (by rw [hb]; exact nice_fold _) hsz (by omega) hf (foldS s).size 0 (by omega)
end Go.Proofs.YtaeocpnabgnidaaDoor.Tx
