/- Plain Lean, no program: folding a text byte by byte; what is folded is folded to itself; letters' size and more blanks play no part. -/
import Derived.Laws.BytesArg
namespace Go.Proofs.YtaeocpnabgnidaaDoor.Tx

/-- A to Z as a to z. -/
def low (b : Int) : Int := if 65 ≤ b ∧ b ≤ 90 then b + 32 else b
/-- What is written, and whether blanks are owed. -/
def stepF (st : List Int × Bool) (b : Int) : List Int × Bool :=
  if b = 32 then (st.1, true) else ((if st.2 = true ∧ st.1 ≠ [] then st.1 ++ [32] else st.1) ++ [low b], false)
def runF (st : List Int × Bool) (l : List Int) : List Int × Bool := l.foldl stepF st
def foldL (l : List Int) : List Int := (runF ([], false) l).1

theorem runF_nil (st : List Int × Bool) : runF st [] = st := rfl
theorem runF_cons (st : List Int × Bool) (b : Int) (l : List Int) : runF st (b :: l) = runF (stepF st b) l := rfl
theorem runF_append (st : List Int × Bool) (l m : List Int) : runF st (l ++ m) = runF (runF st l) m := List.foldl_append
theorem low_ne {b : Int} (h : b ≠ 32) : low b ≠ 32 := by unfold low; split <;> omega
theorem low_low (b : Int) : low (low b) = low b := by unfold low; split <;> (try split) <;> omega

/-- A row of bytes without blanks, and none of them a great letter. -/
theorem runF_plain : ∀ (l : List Int) (st : List Int × Bool), l ≠ [] → (∀ b ∈ l, 128 ≤ b) → runF st l = ((if st.2 = true ∧ st.1 ≠ [] then st.1 ++ [32] else st.1) ++ l, false)
  | [], _, h, _ => absurd rfl h
  | [b], st, _, h => by
    have hb := h b (by simp)
    have h1 : low b = b := by unfold low; rw [if_neg (by omega)]
    rw [runF_cons, runF_nil]
    unfold stepF
    have h32 : ¬ b = 32 := by omega
    rw [if_neg h32, h1]
  | b :: c :: l, st, _, h => by
    have hb := h b (by simp)
    have h1 : low b = b := by unfold low; rw [if_neg (by omega)]
    rw [runF_cons, runF_plain (c :: l) _ (by simp) (fun x hx => h x (by simp only [List.mem_cons] at hx ⊢; exact Or.inr hx))]
    unfold stepF
    have h32 : ¬ b = 32 := by omega
    rw [if_neg h32, h1]
    simp

/-! ### what is folded -/
/-- No great letter, no blank at an end, no two together. -/
def Nice (l : List Int) : Prop := (∀ b ∈ l, low b = b) ∧ (∀ i : Nat, l[i]? = some 32 → 0 < i ∧ i + 1 < l.length ∧ l[i - 1]? ≠ some 32)
/-- The same while it grows: it may not end in a blank. -/
theorem nice_nil : Nice [] := ⟨by simp, by simp⟩
theorem nice_snoc {l : List Int} (h : Nice l) {b : Int} (hb : low b = b) (h32 : b ≠ 32) : Nice (l ++ [b]) := by
  refine ⟨fun x hx => ?_, fun i hi => ?_⟩
  · rcases List.mem_append.1 hx with hx | hx
    · exact h.1 x hx
    · simp at hx; subst hx; exact hb
  · by_cases hlt : i < l.length
    · rw [List.getElem?_append_left hlt] at hi
      obtain ⟨h0, h1, h2⟩ := h.2 i hi
      refine ⟨h0, by simp; omega, ?_⟩
      rw [List.getElem?_append_left (by omega)]
      exact h2
    · by_cases he : i = l.length
      · subst he
        simp at hi
        exact absurd hi h32
      · rw [List.getElem?_eq_none (by simp; omega)] at hi
        cases hi
theorem nice_snoc2 {l : List Int} (h : Nice l) (hne : l ≠ []) {b : Int} (hb : low b = b) (h32 : b ≠ 32) : Nice (l ++ [32] ++ [b]) := by
  refine ⟨fun x hx => ?_, fun i hi => ?_⟩
  · simp only [List.mem_append, List.mem_singleton] at hx
    rcases hx with (hx | hx) | hx
    · exact h.1 x hx
    · subst hx; rfl
    · subst hx; exact hb
  · have hpos : 0 < l.length := List.length_pos_iff.2 hne
    by_cases hlt : i < l.length
    · rw [List.append_assoc, List.getElem?_append_left hlt] at hi
      obtain ⟨h0, h1, h2⟩ := h.2 i hi
      refine ⟨h0, by simp; omega, ?_⟩
      rw [List.append_assoc, List.getElem?_append_left (by omega)]
      exact h2
    · by_cases he : i = l.length
      · subst he
        refine ⟨hpos, by simp, ?_⟩
        rw [List.append_assoc, List.getElem?_append_left (by omega)]
        intro hc
        have := (h.2 _ hc).2.1
        omega
      · by_cases he2 : i = l.length + 1
        · subst he2
          rw [List.getElem?_append_right (by simp)] at hi
          simp at hi
          exact absurd hi h32
        · rw [List.getElem?_eq_none (by simp; omega)] at hi
          cases hi
theorem nice_step {st : List Int × Bool} (h : Nice st.1) (b : Int) : Nice (stepF st b).1 := by
  unfold stepF
  split
  · exact h
  · rename_i hb
    split
    · rename_i hh
      exact nice_snoc2 h hh.2 (low_low b) (low_ne hb)
    · exact nice_snoc h (low_low b) (low_ne hb)
theorem nice_run : ∀ (l : List Int) (st : List Int × Bool), Nice st.1 → Nice (runF st l).1
  | [], _, h => h
  | b :: l, st, h => nice_run l (stepF st b) (nice_step h b)
theorem nice_fold (l : List Int) : Nice (foldL l) := nice_run l _ nice_nil

theorem step_length (st : List Int × Bool) (b : Int) : (stepF st b).1.length + (if (stepF st b).2 = true then 1 else 0) ≤ st.1.length + (if st.2 = true then 1 else 0) + 1 := by
  unfold stepF
  split
  · simp
  · split
    · rename_i hh; simp [hh.1]
    · simp only [Bool.false_eq_true, if_false, List.length_append, List.length_cons, List.length_nil]
      omega
theorem run_length : ∀ (l : List Int) (st : List Int × Bool), (runF st l).1.length ≤ st.1.length + (if st.2 = true then 1 else 0) + l.length
  | [], st => by simp [runF_nil]
  | b :: l, st => by
    have h1 := run_length l (stepF st b)
    have h2 := step_length st b
    rw [runF_cons]
    simp only [List.length_cons]
    omega
theorem fold_length (l : List Int) : (foldL l).length ≤ l.length := by
  have := run_length l ([], false)
  unfold foldL
  simpa using this

/-! ### folding what is nice -/
/-- What has been seen of a nice row: all of it, or all but a blank that is owed. -/
def seen (l : List Int) : List Int × Bool := if l.getLast? = some 32 then (l.dropLast, true) else (l, false)
theorem run_nice (l : List Int) (h : Nice l) : ∀ k, k ≤ l.length → runF ([], false) (l.take k) = seen (l.take k) := by
  intro k
  induction k with
  | zero => intro _; simp [seen, runF_nil]
  | succ k ih =>
    intro hk
    have hlt : k < l.length := by omega
    have e : l.take (k + 1) = l.take k ++ [l[k]] := by rw [List.take_succ_eq_append_getElem hlt]
    rw [e, runF_append, ih (by omega), runF_cons, runF_nil]
    have hlow := h.1 l[k] (List.getElem_mem hlt)
    have hgl : (l.take k ++ [l[k]]).getLast? = some l[k] := List.getLast?_concat
    have hprev : ∀ b, (l.take k).getLast? = some b → 0 < k ∧ l[k - 1]? = some b := by
      intro b hb
      by_cases h0 : k = 0
      · subst h0; simp at hb
      · refine ⟨by omega, ?_⟩
        rw [List.getLast?_eq_getElem?, List.getElem?_take] at hb
        have hl : (l.take k).length = k := by simp; omega
        rw [hl, if_pos (by omega)] at hb
        exact hb
    by_cases h32 : l[k] = 32
    · obtain ⟨h0, h1, h2⟩ := h.2 k (by rw [List.getElem?_eq_getElem hlt, h32])
      have hns : seen (l.take k) = (l.take k, false) := by
        unfold seen
        rw [if_neg]
        intro hc
        exact h2 (hprev _ hc).2
      rw [hns]
      unfold seen
      rw [hgl, if_pos (by rw [h32])]
      unfold stepF
      rw [if_pos h32, List.dropLast_concat]
    · have hr : seen (l.take k ++ [l[k]]) = (l.take k ++ [l[k]], false) := by
        unfold seen
        rw [hgl, if_neg (by intro hc; exact h32 (Option.some.inj hc))]
      rw [hr]
      unfold stepF
      rw [if_neg h32, hlow]
      unfold seen
      by_cases hl : (l.take k).getLast? = some 32
      · rw [if_pos hl]
        obtain ⟨h0, h1⟩ := hprev _ hl
        have hne : l.take k ≠ [] := by intro hc; rw [hc] at hl; simp at hl
        have hdl : (l.take k).dropLast ++ [32] = l.take k := by
          have := List.dropLast_concat_getLast hne
          rw [List.getLast?_eq_some_getLast hne] at hl
          rw [Option.some.inj hl] at this
          exact this
        obtain ⟨h2, h3, h4⟩ := h.2 (k - 1) h1
        have hd : (l.take k).dropLast ≠ [] := by
          intro hc
          have := congrArg List.length hc
          simp at this
          omega
        simp only [ne_eq, hd, not_false_eq_true, and_self, if_true, hdl]
      · rw [if_neg hl]
        simp
theorem fold_nice (l : List Int) (h : Nice l) : foldL l = l := by
  have := run_nice l h l.length (Nat.le_refl _)
  rw [List.take_length] at this
  unfold foldL
  rw [this]
  unfold seen
  rw [if_neg]
  intro hc
  by_cases hl : l = []
  · subst hl; simp at hc
  · have hpos : 0 < l.length := List.length_pos_iff.2 hl
    rw [List.getLast?_eq_getElem?] at hc
    have := (h.2 _ hc).2.1
    omega
theorem fold_fold (l : List Int) : foldL (foldL l) = foldL l := fold_nice _ (nice_fold l)

/-! ### the same but for what plays no part -/
/-- Two states that write the same from now on. -/
def Alike (s t : List Int × Bool) : Prop := s.1 = t.1 ∧ (s.1 ≠ [] → s.2 = t.2)
theorem alike_step {s t : List Int × Bool} (h : Alike s t) {a b : Int} (hab : (a = 32 ↔ b = 32)) (hl : low a = low b) : Alike (stepF s a) (stepF t b) := by
  unfold stepF
  by_cases ha : a = 32
  · rw [if_pos ha, if_pos (hab.1 ha)]
    exact ⟨h.1, fun _ => rfl⟩
  · rw [if_neg ha, if_neg (fun hb => ha (hab.2 hb)), hl, h.1]
    refine ⟨?_, fun _ => rfl⟩
    by_cases hn : t.1 = []
    · simp [hn]
    · rw [h.2 (by rw [h.1]; exact hn)]
theorem alike_blank {s t : List Int × Bool} (h : Alike s t) (hb : t.2 = true ∨ t.1 = []) : Alike (stepF s 32) t := by
  unfold stepF
  rw [if_pos rfl]
  refine ⟨h.1, fun hn => ?_⟩
  rcases hb with hb | hb
  · exact hb.symm
  · rw [← h.1] at hb; exact absurd hb hn
theorem step_blank (s : List Int × Bool) : (stepF s 32).2 = true := by simp [stepF]
/-- One byte of a row and what stands for it in the other one. -/
def Stands (a : Int) (m : List Int) : Prop := ∃ b, (a = 32 ↔ b = 32) ∧ low a = low b ∧ (m = [b] ∨ b = 32 ∧ m = [32, 32, 32])
theorem alike_stands {s t : List Int × Bool} (h : Alike s t) {a : Int} {m : List Int} (hm : Stands a m) : Alike (stepF s a) (runF t m) := by
  obtain ⟨b, h1, h2, rfl | ⟨rfl, rfl⟩⟩ := hm
  · exact alike_step h h1 h2
  · have e : runF t [32, 32, 32] = stepF t 32 := by simp [runF, stepF]
    rw [e]
    exact alike_step h h1 h2
theorem alike_run : ∀ (l : List Int) (ms : List (List Int)) (s t : List Int × Bool), Alike s t → ms.length = l.length → (∀ i (h : i < l.length) (h' : i < ms.length), Stands l[i] ms[i]) → Alike (runF s l) (runF t ms.flatten)
  | [], [], _, _, h, _, _ => h
  | [], _ :: _, _, _, _, hl, _ => by simp at hl
  | _ :: _, [], _, _, _, hl, _ => by simp at hl
  | a :: l, m :: ms, s, t, h, hl, hs => by
    rw [List.flatten_cons, runF_append, runF_cons]
    exact alike_run l ms _ _ (alike_stands h (hs 0 (by simp) (by simp))) (by simpa using hl) (fun i h h' => by
      have := hs (i + 1) (by simpa using h) (by simpa using h')
      rw [List.getElem_cons_succ, List.getElem_cons_succ] at this
      exact this)
/-- More blanks, at the ends too, and other letters' size: folded alike. -/
theorem fold_more (l : List Int) (ms : List (List Int)) (hl : ms.length = l.length) (hs : ∀ i (h : i < l.length) (h' : i < ms.length), Stands l[i] ms[i]) :
    foldL ([32] ++ ms.flatten ++ [32, 32]) = foldL l := by
  have h0 : Alike ([], false) (stepF ([], false) 32) := ⟨by simp [stepF], by simp⟩
  have h1 := alike_run l ms _ _ h0 hl hs
  unfold foldL
  rw [runF_append, runF_append]
  show (stepF (stepF (runF (stepF ([], false) 32) ms.flatten) 32) 32).1 = _
  rw [h1.1]
  simp [stepF]

/-! ### the document's way -/
/-- One more byte: a blank only behind what is none. -/
def stepR (out : List Int) (b : Int) : List Int := if low b = 32 ∧ (out = [] ∨ out.getLast? = some 32) then out else out ++ [low b]
def owed (st : List Int × Bool) : List Int := if st.2 = true ∧ st.1 ≠ [] then st.1 ++ [32] else st.1
theorem low_32 (b : Int) : low b = 32 ↔ b = 32 := by unfold low; split <;> omega
theorem stepR_owed {st : List Int × Bool} (h : Nice st.1) (b : Int) : stepR (owed st) b = owed (stepF st b) := by
  have hlast : st.1.getLast? ≠ some 32 := by
    intro hc
    by_cases hl : st.1 = []
    · rw [hl] at hc; simp at hc
    · have hpos : 0 < st.1.length := List.length_pos_iff.2 hl
      rw [List.getLast?_eq_getElem?] at hc
      have := (h.2 _ hc).2.1
      omega
  unfold stepR owed stepF
  by_cases hb : b = 32
  · subst hb
    have e : low 32 = 32 := rfl
    rw [e, if_pos rfl]
    by_cases hn : st.1 = []
    · simp [hn]
    · by_cases h2 : st.2 = true
      · simp [hn, h2]
      · simp [hn, h2, hlast]
  · have e : low b ≠ 32 := low_ne hb
    rw [if_neg (fun hc => e hc.1), if_neg hb]
    simp
theorem foldl_owed : ∀ (l : List Int) (st : List Int × Bool), Nice st.1 → l.foldl stepR (owed st) = owed (runF st l)
  | [], _, _ => rfl
  | b :: l, st, h => by
    rw [List.foldl_cons, stepR_owed h, runF_cons]
    exact foldl_owed l _ (nice_step h b)
/-- The end: one blank less. -/
def trimR (out : List Int) : List Int := if out.getLast? = some 32 then out.dropLast else out
theorem fold_ref (l : List Int) : trimR (l.foldl stepR []) = foldL l := by
  have h := foldl_owed l ([], false) nice_nil
  have e : owed ([], false) = [] := by simp [owed]
  rw [e] at h
  rw [h]
  unfold foldL trimR owed
  have hn := nice_run l ([], false) nice_nil
  have hlast : (runF ([], false) l).1.getLast? ≠ some 32 := by
    intro hc
    by_cases hl : (runF ([], false) l).1 = []
    · rw [hl] at hc; simp at hc
    · have hpos : 0 < (runF ([], false) l).1.length := List.length_pos_iff.2 hl
      rw [List.getLast?_eq_getElem?] at hc
      have := (hn.2 _ hc).2.1
      omega
  by_cases hc : (runF ([], false) l).2 = true ∧ (runF ([], false) l).1 ≠ []
  · rw [if_pos hc, List.getLast?_concat, if_pos rfl, List.dropLast_concat]
  · rw [if_neg hc, if_neg hlast]

/-- Bytes stay bytes. -/
theorem low_byte {b : Int} (h : 0 ≤ b ∧ b < 256) : 0 ≤ low b ∧ low b < 256 := by unfold low; split <;> omega
theorem step_byte {st : List Int × Bool} (h : ∀ x ∈ st.1, 0 ≤ x ∧ x < 256) {b : Int} (hb : 0 ≤ b ∧ b < 256) : ∀ x ∈ (stepF st b).1, 0 ≤ x ∧ x < 256 := by
  intro x hx
  unfold stepF at hx
  split at hx
  · exact h x hx
  · rcases List.mem_append.1 hx with hx | hx
    · split at hx
      · rcases List.mem_append.1 hx with hx | hx
        · exact h x hx
        · simp at hx; omega
      · exact h x hx
    · simp at hx; subst hx; exact low_byte hb
theorem run_byte : ∀ (l : List Int) (st : List Int × Bool), (∀ x ∈ st.1, 0 ≤ x ∧ x < 256) → (∀ x ∈ l, 0 ≤ x ∧ x < 256) → ∀ x ∈ (runF st l).1, 0 ≤ x ∧ x < 256
  | [], _, h, _ => h
  | b :: l, st, h, hl => run_byte l (stepF st b) (step_byte h (hl b (by simp))) (fun x hx => hl x (by simp [hx]))
theorem fold_byte (l : List Int) (h : ∀ x ∈ l, 0 ≤ x ∧ x < 256) : ∀ x ∈ foldL l, 0 ≤ x ∧ x < 256 := run_byte l _ (by simp) h
end Go.Proofs.YtaeocpnabgnidaaDoor.Tx
