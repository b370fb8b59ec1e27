/- Plain Lean: TextKinds over the printed functions. -/
import Derived.Test.YtaeocpnabgnidaaDoorTxPFolds
set_option linter.unusedVariables false
namespace Go.Proofs.YtaeocpnabgnidaaDoor.Tx
open Go.RowKit Go.Lib Go.Proofs.YtaeocpnabgnidaaDoorW.PrintWords Go.Proofs.YtaeocpnabgnidaaDoor.M
theorem textV_plain (tag : Int) (l : List Int) (h30 : tag ≠ 30) (h : (textV tag l).2 = 0) : textV tag l = (strOfNums l, 0) := by
  unfold textV at h ⊢
  rw [if_neg h30] at h ⊢
  by_cases h12 : tag = 12
  · rw [if_pos h12] at h ⊢
    split at h
    · rename_i hv
      rw [if_pos hv]
    · simp at h
  · rw [if_neg h12] at h ⊢
    by_cases ho : oneByte tag
    · rw [if_pos ho] at h ⊢
      split at h
      · rename_i hv
        rw [if_pos hv]
      · simp at h
    · rw [if_neg ho] at h
      simp at h
theorem keyV_plain (tag : Int) (l : List Int) (h30 : tag ≠ 30) (h : (textV tag l).2 = 0) : keyV tag l = (⟨#[61]⟩ : ByteArray) ++ foldS (strOfNums l) := by
  unfold keyV
  rw [if_pos h, textV_plain tag l h30 h]
/-- A byte 0 ahead of each. -/
def widen (l : List Int) : List Int := l.flatMap fun b => [0, b]
theorem widen_snoc (l : List Int) (b : Int) : widen (l ++ [b]) = widen l ++ [0, b] := by simp [widen]
theorem widen_length (l : List Int) : (widen l).length = 2 * l.length := by
  induction l with
  | nil => rfl
  | cons b l ih => simp only [widen, List.flatMap_cons, List.length_append, List.length_cons, List.length_nil] at ih ⊢; omega
theorem widen_bytes (l : List Int) (h : Bytes l) : Bytes (widen l) := by
  intro x hx
  obtain ⟨b, hb, hx⟩ := List.mem_flatMap.1 hx
  simp at hx
  rcases hx with rfl | rfl
  · omega
  · exact h _ hb
theorem wideL_widen : ∀ (l : List Int), (∀ x ∈ l, 0 ≤ x ∧ x < 128) → wideL (widen l) = some l
  | [], _ => rfl
  | b :: l, h => by
    have hb := h b (by simp)
    show wideL (0 :: b :: widen l) = _
    unfold wideL
    rw [if_neg (by omega), wideL_widen l (fun x hx => h x (by simp [hx])), encodeRuneZ_one (by omega) (by omega)]
    simp
theorem keyV_widen (l : List Int) (h : ∀ x ∈ l, 0 ≤ x ∧ x < 128) : keyV 30 (widen l) = (⟨#[61]⟩ : ByteArray) ++ foldS (strOfNums l) := by
  have hw := wideL_widen l h
  have e : textV 30 (widen l) = (strOfNums l, 0) := by
    unfold textV
    rw [if_pos rfl]
    unfold wideS wideE
    rw [hw]
    rfl
  unfold keyV
  rw [e]
  rfl

theorem kinds_end (a0 a1 : Int) (l : List Int) (h0 : -9223372036854775808 ≤ a0 ∧ a0 ≤ 9223372036854775807) (h1 : -9223372036854775808 ≤ a1 ∧ a1 ≤ 9223372036854775807) (n0 : a0 ≠ 30) (n1 : a1 ≠ 30) (hb : Bytes l) (hl : l.length ≤ 2000)
    (e0 : (textV a0 l).2 = 0) (e1 : (textV a1 l).2 = 0) (plain : Bool) (hp : plain = true → ∀ x ∈ l, 0 ≤ x ∧ x < 128) :
    Ev (fun k => chirographlaw06_TextKinds.l0 k a0 a1 l (strOfNums l) (strOfNums l) (widen l) plain (l.length : Int)) true := by
  refine Ev.step (fun k => by simp only [chirographlaw06_TextKinds.l0]; rw [if_neg (by omega)]) ?_
  simp only [if_true]
  refine Ev.bind (alike_ev a0 a1 l l h0 h1 hb hb (by omega) (by omega)) ?_
  rw [keyV_plain a0 l n0 e0, keyV_plain a1 l n1 e1]
  simp only [beq_self_eq_true, if_true]
  cases plain with
  | false => simp only [Bool.false_eq_true, if_false]; exact live_end
  | true =>
    simp only [if_true]
    refine Ev.bind (alike_ev 30 a0 (widen l) l (by omega) h0 (widen_bytes l hb) hb (by rw [widen_length]; omega) (by omega)) ?_
    rw [keyV_plain a0 l n0 e0, keyV_widen l (hp rfl)]
    simp only [beq_self_eq_true, if_true]
    exact live_end
theorem kinds_loop (a0 a1 : Int) (l : List Int) (h0 : -9223372036854775808 ≤ a0 ∧ a0 ≤ 9223372036854775807) (h1 : -9223372036854775808 ≤ a1 ∧ a1 ≤ 9223372036854775807) (n0 : a0 ≠ 30) (n1 : a1 ≠ 30) (hb : Bytes l) (hl : l.length ≤ 2000)
    (e0 : (textV a0 l).2 = 0) (e1 : (textV a1 l).2 = 0) : ∀ (d i : Nat), i + d = l.length → ∀ plain : Bool, (plain = true → ∀ x ∈ l.take i, 0 ≤ x ∧ x < 128) →
    Ev (fun k => chirographlaw06_TextKinds.l0 k a0 a1 l (strOfNums l) (strOfNums l) (widen (l.take i)) plain (i : Int)) true := by
  intro d
  induction d with
  | zero =>
    intro i hd plain hp
    obtain rfl : i = l.length := by omega
    rw [List.take_length] at hp ⊢
    exact kinds_end a0 a1 l h0 h1 n0 n1 hb hl e0 e1 plain hp
  | succ d ih =>
    intro i hd plain hp
    have hlt : i < l.length := by omega
    have htk : l.take (i + 1) = l.take i ++ [rd l (i : Int)] := by
      rw [List.take_add_one]
      unfold rd
      simp [List.getD_eq_getElem?_getD, List.getElem?_eq_getElem hlt]
    have hw : widen (l.take (i + 1)) = widen (l.take i) ++ [0, rd l (i : Int)] := by rw [htk, widen_snoc]
    have hlen : (widen (l.take i)).length ≤ 4000 := by rw [widen_length, List.length_take]; omega
    have hbi := hb _ (rd_mem l i hlt)
    cases plain with
    | true =>
      have key := ih (i + 1) (by omega) (decide (rd l (i : Int) < 128)) (by
        intro hd x hx
        rw [htk] at hx
        rcases List.mem_append.1 hx with hx | hx
        · exact hp rfl x hx
        · simp at hx hd; omega)
      rw [hw] at key
      refine Ev.step (fun k => ?_) key
      simp only [chirographlaw06_TextKinds.l0, Option.bind_some, if_true]
      rw [if_pos (by omega), if_pos (by omega), if_pos (by simp only [List.length_cons, List.length_nil]; omega), wrap_next (by omega)]
    | false =>
      have key := ih (i + 1) (by omega) false (by intro h; cases h)
      rw [hw] at key
      refine Ev.step (fun k => ?_) key
      simp only [chirographlaw06_TextKinds.l0, Option.bind_some]
      rw [if_pos (by omega), if_neg (by decide), if_pos (by omega), if_pos (by simp only [List.length_cons, List.length_nil]; omega), wrap_next (by omega)]
theorem kinds_guard (a0 a1 : Int) (l : List Int) : Ev (fun k => chirographlaw06_TextKinds.j0 k a0 a1 l true) true := by
  refine Ev.step (fun k => ?_) live_end
  simp only [chirographlaw06_TextKinds.j0, if_true]
theorem kinds_guard1 (a0 a1 : Int) (l : List Int) (s t : ByteArray) : Ev (fun k => chirographlaw06_TextKinds.j1 k a0 a1 l s t true) true := by
  refine Ev.step (fun k => ?_) live_end
  simp only [chirographlaw06_TextKinds.j1, if_true]
theorem kinds_main (a0 a1 : Int) (l : List Int) (h0 : -9223372036854775808 ≤ a0 ∧ a0 ≤ 9223372036854775807) (h1 : -9223372036854775808 ≤ a1 ∧ a1 ≤ 9223372036854775807) (n0 : a0 ≠ 30) (n1 : a1 ≠ 30) (hb : Bytes l) (hl : l.length ≤ 2000) :
    Ev (fun k => chirographlaw06_TextKinds.j0 k a0 a1 l false) true := by
  refine Ev.step (fun k => by simp only [chirographlaw06_TextKinds.j0]; rw [if_neg (by decide)]) ?_
  refine Ev.bind (text_ev a0 l hb (by omega)) (Ev.bind (text_ev a1 l hb (by omega)) ?_)
  simp only [chirographlaw06_num.f, Option.bind_some]
  by_cases e0 : (textV a0 l).2 = 0
  · simp only [if_pos e0]
    by_cases e1 : (textV a1 l).2 = 0
    · have t0 := textV_plain a0 l n0 e0
      have t1 := textV_plain a1 l n1 e1
      rw [t0, t1]
      refine Ev.step (fun k => ?_) (kinds_loop a0 a1 l h0 h1 n0 n1 hb hl e0 e1 l.length 0 (by omega) true (by simp))
      show chirographlaw06_TextKinds.j1 (k + 1) a0 a1 l (strOfNums l) (strOfNums l) ((0 : Int) != 0) = _
      simp only [chirographlaw06_TextKinds.j1]
      rw [if_neg (by decide)]
      rfl
    · have : ((textV a1 l).2 != 0) = true := by simpa using e1
      rw [this]
      exact kinds_guard1 _ _ _ _ _
  · simp only [if_neg e0]
    exact kinds_guard1 _ _ _ _ _
theorem kinds_pure : chirographlaw06_TextKinds.Pure := by
  intro a0 a1 l h0 h1 _ hl hb
  refine Ev.rounds ?_
  unfold chirographlaw06_TextKinds.f
  by_cases c1 : (l.length : Int) > 2000
  · simp only [if_pos c1]
    exact kinds_guard _ _ _
  simp only [if_neg c1]
  by_cases c2 : a0 = 30
  · simp only [if_pos c2]
    exact kinds_guard _ _ _
  simp only [if_neg c2]
  by_cases c3 : a1 = 30
  · have : (a1 == 30) = true := by simpa using c3
    simp only [this]
    exact kinds_guard _ _ _
  have : (a1 == 30) = false := by simpa using c3
  simp only [this]
  exact kinds_main a0 a1 l (int_of_wf h0) (int_of_wf h1) c2 c3 (bytes_of_wf hb) (by omega)
end Go.Proofs.YtaeocpnabgnidaaDoor.Tx
