/- Texts folded, runes read, walked (joined by assemble.py). -/
import Derived.Laws.BytesArg
import Derived.Lib.MapLaws
import Derived.Lib.TrimUEq
import Derived.Laws.RangeAny
import Derived.Laws.RangeString
import Derived.Shelf.Unicode.DecodeSlow
import Derived.Test.YtpdhbpdfldfnhaaGreatDoorZd
import Derived.Test.YtpdhbpdfldfnhaaGreatDoorZa
import Derived.Laws.Strings2
import Derived.Lib.AppendStr
import Derived.Lib.ValidAsc
import Derived.Lib.OthersKept
import Derived.OwnWalk
import Derived.WalkKit
import Derived.BigCall
import Derived.Outline
import Derived.Deep.DeepMust
import Derived.Shelf.Unicode.WordAny
import Derived.Lib.EndianBits
import Derived.RegionTactic
import Derived.Deep.Draws
import Derived.Deep.QuietTactic
import Derived.BigQuiet
import Derived.Shelf.Unicode.DecodeAny
import Derived.Laws.BitsAllLaws
import Derived.Deep.LoopGhost
import Derived.Below
import Derived.Deep.CutBlock
import Derived.Deep.DeepCutAuto
import Derived.Lib.RuneBytes
import Derived.Laws.BitsLemmas
import Derived.Lib.AppendIntMem
set_option linter.unusedVariables false
set_option linter.unusedSimpArgs false
/- of TxFold -/
/- Plain Lean, no program: folding a text byte by byte; what is folded is folded to itself; letters' size and more blanks play no part. -/
namespace Go.Proofs.YtpdhbpdfldfnhaaGreatDoor.Tx

/-- A to Z as a to z. -/
def low (b : Int) : Int := if 65 ≤ b ∧ b ≤ 90 then b + 32 else b
/-- What is written, and whether blanks are owed. -/
def stepF (st : List Int × Bool) (b : Int) : List Int × Bool :=
  if b = 32 then (st.1, true) else ((if st.2 = true ∧ st.1 ≠ [] then st.1 ++ [32] else st.1) ++ [low b], false)
def runF (st : List Int × Bool) (l : List Int) : List Int × Bool := l.foldl stepF st
def foldL (l : List Int) : List Int := (runF ([], false) l).1

theorem runF_nil (st : List Int × Bool) : runF st [] = st := rfl
theorem runF_cons (st : List Int × Bool) (b : Int) (l : List Int) : runF st (b :: l) = runF (stepF st b) l := rfl
theorem runF_append (st : List Int × Bool) (l m : List Int) : runF st (l ++ m) = runF (runF st l) m := List.foldl_append
theorem low_ne {b : Int} (h : b ≠ 32) : low b ≠ 32 := by unfold low; split <;> omega
theorem low_low (b : Int) : low (low b) = low b := by unfold low; split <;> (try split) <;> omega

/-- A row of bytes without blanks, and none of them a great letter. -/
theorem runF_plain : ∀ (l : List Int) (st : List Int × Bool), l ≠ [] → (∀ b ∈ l, 128 ≤ b) → runF st l = ((if st.2 = true ∧ st.1 ≠ [] then st.1 ++ [32] else st.1) ++ l, false)
  | [], _, h, _ => absurd rfl h
  | [b], st, _, h => by
    have hb := h b (by simp)
    have h1 : low b = b := by unfold low; rw [if_neg (by omega)]
    rw [runF_cons, runF_nil]
    unfold stepF
    have h32 : ¬ b = 32 := by omega
    rw [if_neg h32, h1]
  | b :: c :: l, st, _, h => by
    have hb := h b (by simp)
    have h1 : low b = b := by unfold low; rw [if_neg (by omega)]
    rw [runF_cons, runF_plain (c :: l) _ (by simp) (fun x hx => h x (by simp only [List.mem_cons] at hx ⊢; exact Or.inr hx))]
    unfold stepF
    have h32 : ¬ b = 32 := by omega
    rw [if_neg h32, h1]
    simp

/-! ### what is folded -/
/-- No great letter, no blank at an end, no two together. -/
def Nice (l : List Int) : Prop := (∀ b ∈ l, low b = b) ∧ (∀ i : Nat, l[i]? = some 32 → 0 < i ∧ i + 1 < l.length ∧ l[i - 1]? ≠ some 32)
/-- The same while it grows: it may not end in a blank. -/
theorem nice_nil : Nice [] := ⟨by simp, by simp⟩
theorem nice_snoc {l : List Int} (h : Nice l) {b : Int} (hb : low b = b) (h32 : b ≠ 32) : Nice (l ++ [b]) := by
  refine ⟨fun x hx => ?_, fun i hi => ?_⟩
  · rcases List.mem_append.1 hx with hx | hx
    · exact h.1 x hx
    · simp at hx; subst hx; exact hb
  · by_cases hlt : i < l.length
    · rw [List.getElem?_append_left hlt] at hi
      obtain ⟨h0, h1, h2⟩ := h.2 i hi
      refine ⟨h0, by simp; omega, ?_⟩
      rw [List.getElem?_append_left (by omega)]
      exact h2
    · by_cases he : i = l.length
      · subst he
        simp at hi
        exact absurd hi h32
      · rw [List.getElem?_eq_none (by simp; omega)] at hi
        cases hi
theorem nice_snoc2 {l : List Int} (h : Nice l) (hne : l ≠ []) {b : Int} (hb : low b = b) (h32 : b ≠ 32) : Nice (l ++ [32] ++ [b]) := by
  refine ⟨fun x hx => ?_, fun i hi => ?_⟩
  · simp only [List.mem_append, List.mem_singleton] at hx
    rcases hx with (hx | hx) | hx
    · exact h.1 x hx
    · subst hx; rfl
    · subst hx; exact hb
  · have hpos : 0 < l.length := List.length_pos_iff.2 hne
    by_cases hlt : i < l.length
    · rw [List.append_assoc, List.getElem?_append_left hlt] at hi
      obtain ⟨h0, h1, h2⟩ := h.2 i hi
      refine ⟨h0, by simp; omega, ?_⟩
      rw [List.append_assoc, List.getElem?_append_left (by omega)]
      exact h2
    · by_cases he : i = l.length
      · subst he
        refine ⟨hpos, by simp, ?_⟩
        rw [List.append_assoc, List.getElem?_append_left (by omega)]
        intro hc
        have := (h.2 _ hc).2.1
        omega
      · by_cases he2 : i = l.length + 1
        · subst he2
          rw [List.getElem?_append_right (by simp)] at hi
          simp at hi
          exact absurd hi h32
        · rw [List.getElem?_eq_none (by simp; omega)] at hi
          cases hi
theorem nice_step {st : List Int × Bool} (h : Nice st.1) (b : Int) : Nice (stepF st b).1 := by
  unfold stepF
  split
  · exact h
  · rename_i hb
    split
    · rename_i hh
      exact nice_snoc2 h hh.2 (low_low b) (low_ne hb)
    · exact nice_snoc h (low_low b) (low_ne hb)
theorem nice_run : ∀ (l : List Int) (st : List Int × Bool), Nice st.1 → Nice (runF st l).1
  | [], _, h => h
  | b :: l, st, h => nice_run l (stepF st b) (nice_step h b)
theorem nice_fold (l : List Int) : Nice (foldL l) := nice_run l _ nice_nil

theorem step_length (st : List Int × Bool) (b : Int) : (stepF st b).1.length + (if (stepF st b).2 = true then 1 else 0) ≤ st.1.length + (if st.2 = true then 1 else 0) + 1 := by
  unfold stepF
  split
  · simp
  · split
    · rename_i hh; simp [hh.1]
    · simp only [Bool.false_eq_true, if_false, List.length_append, List.length_cons, List.length_nil]
      omega
theorem run_length : ∀ (l : List Int) (st : List Int × Bool), (runF st l).1.length ≤ st.1.length + (if st.2 = true then 1 else 0) + l.length
  | [], st => by simp [runF_nil]
  | b :: l, st => by
    have h1 := run_length l (stepF st b)
    have h2 := step_length st b
    rw [runF_cons]
    simp only [List.length_cons]
    omega
theorem fold_length (l : List Int) : (foldL l).length ≤ l.length := by
  have := run_length l ([], false)
  unfold foldL
  simpa using this

/-! ### folding what is nice -/
/-- What has been seen of a nice row: all of it, or all but a blank that is owed. -/
def seen (l : List Int) : List Int × Bool := if l.getLast? = some 32 then (l.dropLast, true) else (l, false)
theorem run_nice (l : List Int) (h : Nice l) : ∀ k, k ≤ l.length → runF ([], false) (l.take k) = seen (l.take k) := by
  intro k
  induction k with
  | zero => intro _; simp [seen, runF_nil]
  | succ k ih =>
    intro hk
    have hlt : k < l.length := by omega
    have e : l.take (k + 1) = l.take k ++ [l[k]] := by rw [List.take_succ_eq_append_getElem hlt]
    rw [e, runF_append, ih (by omega), runF_cons, runF_nil]
    have hlow := h.1 l[k] (List.getElem_mem hlt)
    have hgl : (l.take k ++ [l[k]]).getLast? = some l[k] := List.getLast?_concat
    have hprev : ∀ b, (l.take k).getLast? = some b → 0 < k ∧ l[k - 1]? = some b := by
      intro b hb
      by_cases h0 : k = 0
      · subst h0; simp at hb
      · refine ⟨by omega, ?_⟩
        rw [List.getLast?_eq_getElem?, List.getElem?_take] at hb
        have hl : (l.take k).length = k := by simp; omega
        rw [hl, if_pos (by omega)] at hb
        exact hb
    by_cases h32 : l[k] = 32
    · obtain ⟨h0, h1, h2⟩ := h.2 k (by rw [List.getElem?_eq_getElem hlt, h32])
      have hns : seen (l.take k) = (l.take k, false) := by
        unfold seen
        rw [if_neg]
        intro hc
        exact h2 (hprev _ hc).2
      rw [hns]
      unfold seen
      rw [hgl, if_pos (by rw [h32])]
      unfold stepF
      rw [if_pos h32, List.dropLast_concat]
    · have hr : seen (l.take k ++ [l[k]]) = (l.take k ++ [l[k]], false) := by
        unfold seen
        rw [hgl, if_neg (by intro hc; exact h32 (Option.some.inj hc))]
      rw [hr]
      unfold stepF
      rw [if_neg h32, hlow]
      unfold seen
      by_cases hl : (l.take k).getLast? = some 32
      · rw [if_pos hl]
        obtain ⟨h0, h1⟩ := hprev _ hl
        have hne : l.take k ≠ [] := by intro hc; rw [hc] at hl; simp at hl
        have hdl : (l.take k).dropLast ++ [32] = l.take k := by
          have := List.dropLast_concat_getLast hne
          rw [List.getLast?_eq_some_getLast hne] at hl
          rw [Option.some.inj hl] at this
          exact this
        obtain ⟨h2, h3, h4⟩ := h.2 (k - 1) h1
        have hd : (l.take k).dropLast ≠ [] := by
          intro hc
          have := congrArg List.length hc
          simp at this
          omega
        simp only [ne_eq, hd, not_false_eq_true, and_self, if_true, hdl]
      · rw [if_neg hl]
        simp
theorem fold_nice (l : List Int) (h : Nice l) : foldL l = l := by
  have := run_nice l h l.length (Nat.le_refl _)
  rw [List.take_length] at this
  unfold foldL
  rw [this]
  unfold seen
  rw [if_neg]
  intro hc
  by_cases hl : l = []
  · subst hl; simp at hc
  · have hpos : 0 < l.length := List.length_pos_iff.2 hl
    rw [List.getLast?_eq_getElem?] at hc
    have := (h.2 _ hc).2.1
    omega
theorem fold_fold (l : List Int) : foldL (foldL l) = foldL l := fold_nice _ (nice_fold l)

/-! ### the same but for what plays no part -/
/-- Two states that write the same from now on. -/
def Alike (s t : List Int × Bool) : Prop := s.1 = t.1 ∧ (s.1 ≠ [] → s.2 = t.2)
theorem alike_step {s t : List Int × Bool} (h : Alike s t) {a b : Int} (hab : (a = 32 ↔ b = 32)) (hl : low a = low b) : Alike (stepF s a) (stepF t b) := by
  unfold stepF
  by_cases ha : a = 32
  · rw [if_pos ha, if_pos (hab.1 ha)]
    exact ⟨h.1, fun _ => rfl⟩
  · rw [if_neg ha, if_neg (fun hb => ha (hab.2 hb)), hl, h.1]
    refine ⟨?_, fun _ => rfl⟩
    by_cases hn : t.1 = []
    · simp [hn]
    · rw [h.2 (by rw [h.1]; exact hn)]
theorem alike_blank {s t : List Int × Bool} (h : Alike s t) (hb : t.2 = true ∨ t.1 = []) : Alike (stepF s 32) t := by
  unfold stepF
  rw [if_pos rfl]
  refine ⟨h.1, fun hn => ?_⟩
  rcases hb with hb | hb
  · exact hb.symm
  · rw [← h.1] at hb; exact absurd hb hn
theorem step_blank (s : List Int × Bool) : (stepF s 32).2 = true := by simp [stepF]
/-- One byte of a row and what stands for it in the other one. -/
def Stands (a : Int) (m : List Int) : Prop := ∃ b, (a = 32 ↔ b = 32) ∧ low a = low b ∧ (m = [b] ∨ b = 32 ∧ m = [32, 32, 32])
theorem alike_stands {s t : List Int × Bool} (h : Alike s t) {a : Int} {m : List Int} (hm : Stands a m) : Alike (stepF s a) (runF t m) := by
  obtain ⟨b, h1, h2, rfl | ⟨rfl, rfl⟩⟩ := hm
  · exact alike_step h h1 h2
  · have e : runF t [32, 32, 32] = stepF t 32 := by simp [runF, stepF]
    rw [e]
    exact alike_step h h1 h2
theorem alike_run : ∀ (l : List Int) (ms : List (List Int)) (s t : List Int × Bool), Alike s t → ms.length = l.length → (∀ i (h : i < l.length) (h' : i < ms.length), Stands l[i] ms[i]) → Alike (runF s l) (runF t ms.flatten)
  | [], [], _, _, h, _, _ => h
  | [], _ :: _, _, _, _, hl, _ => by simp at hl
  | _ :: _, [], _, _, _, hl, _ => by simp at hl
  | a :: l, m :: ms, s, t, h, hl, hs => by
    rw [List.flatten_cons, runF_append, runF_cons]
    exact alike_run l ms _ _ (alike_stands h (hs 0 (by simp) (by simp))) (by simpa using hl) (fun i h h' => by
      have := hs (i + 1) (by simpa using h) (by simpa using h')
      rw [List.getElem_cons_succ, List.getElem_cons_succ] at this
      exact this)
/-- More blanks, at the ends too, and other letters' size: folded alike. -/
theorem fold_more (l : List Int) (ms : List (List Int)) (hl : ms.length = l.length) (hs : ∀ i (h : i < l.length) (h' : i < ms.length), Stands l[i] ms[i]) :
    foldL ([32] ++ ms.flatten ++ [32, 32]) = foldL l := by
  have h0 : Alike ([], false) (stepF ([], false) 32) := ⟨by simp [stepF], by simp⟩
  have h1 := alike_run l ms _ _ h0 hl hs
  unfold foldL
  rw [runF_append, runF_append]
  show (stepF (stepF (runF (stepF ([], false) 32) ms.flatten) 32) 32).1 = _
  rw [h1.1]
  simp [stepF]

/-! ### the document's way -/
/-- One more byte: a blank only behind what is none. -/
def stepR (out : List Int) (b : Int) : List Int := if low b = 32 ∧ (out = [] ∨ out.getLast? = some 32) then out else out ++ [low b]
def owed (st : List Int × Bool) : List Int := if st.2 = true ∧ st.1 ≠ [] then st.1 ++ [32] else st.1
theorem low_32 (b : Int) : low b = 32 ↔ b = 32 := by unfold low; split <;> omega
theorem stepR_owed {st : List Int × Bool} (h : Nice st.1) (b : Int) : stepR (owed st) b = owed (stepF st b) := by
  have hlast : st.1.getLast? ≠ some 32 := by
    intro hc
    by_cases hl : st.1 = []
    · rw [hl] at hc; simp at hc
    · have hpos : 0 < st.1.length := List.length_pos_iff.2 hl
      rw [List.getLast?_eq_getElem?] at hc
      have := (h.2 _ hc).2.1
      omega
  unfold stepR owed stepF
  by_cases hb : b = 32
  · subst hb
    have e : low 32 = 32 := rfl
    rw [e, if_pos rfl]
    by_cases hn : st.1 = []
    · simp [hn]
    · by_cases h2 : st.2 = true
      · simp [hn, h2]
      · simp [hn, h2, hlast]
  · have e : low b ≠ 32 := low_ne hb
    rw [if_neg (fun hc => e hc.1), if_neg hb]
    simp
theorem foldl_owed : ∀ (l : List Int) (st : List Int × Bool), Nice st.1 → l.foldl stepR (owed st) = owed (runF st l)
  | [], _, _ => rfl
  | b :: l, st, h => by
    rw [List.foldl_cons, stepR_owed h, runF_cons]
    exact foldl_owed l _ (nice_step h b)
/-- The end: one blank less. -/
def trimR (out : List Int) : List Int := if out.getLast? = some 32 then out.dropLast else out
theorem fold_ref (l : List Int) : trimR (l.foldl stepR []) = foldL l := by
  have h := foldl_owed l ([], false) nice_nil
  have e : owed ([], false) = [] := by simp [owed]
  rw [e] at h
  rw [h]
  unfold foldL trimR owed
  have hn := nice_run l ([], false) nice_nil
  have hlast : (runF ([], false) l).1.getLast? ≠ some 32 := by
    intro hc
    by_cases hl : (runF ([], false) l).1 = []
    · rw [hl] at hc; simp at hc
    · have hpos : 0 < (runF ([], false) l).1.length := List.length_pos_iff.2 hl
      rw [List.getLast?_eq_getElem?] at hc
      have := (hn.2 _ hc).2.1
      omega
  by_cases hc : (runF ([], false) l).2 = true ∧ (runF ([], false) l).1 ≠ []
  · rw [if_pos hc, List.getLast?_concat, if_pos rfl, List.dropLast_concat]
  · rw [if_neg hc, if_neg hlast]

/-- Bytes stay bytes. -/
theorem low_byte {b : Int} (h : 0 ≤ b ∧ b < 256) : 0 ≤ low b ∧ low b < 256 := by unfold low; split <;> omega
theorem step_byte {st : List Int × Bool} (h : ∀ x ∈ st.1, 0 ≤ x ∧ x < 256) {b : Int} (hb : 0 ≤ b ∧ b < 256) : ∀ x ∈ (stepF st b).1, 0 ≤ x ∧ x < 256 := by
  intro x hx
  unfold stepF at hx
  split at hx
  · exact h x hx
  · rcases List.mem_append.1 hx with hx | hx
    · split at hx
      · rcases List.mem_append.1 hx with hx | hx
        · exact h x hx
        · simp at hx; omega
      · exact h x hx
    · simp at hx; subst hx; exact low_byte hb
theorem run_byte : ∀ (l : List Int) (st : List Int × Bool), (∀ x ∈ st.1, 0 ≤ x ∧ x < 256) → (∀ x ∈ l, 0 ≤ x ∧ x < 256) → ∀ x ∈ (runF st l).1, 0 ≤ x ∧ x < 256
  | [], _, h, _ => h
  | b :: l, st, h, hl => run_byte l (stepF st b) (step_byte h (hl b (by simp))) (fun x hx => hl x (by simp [hx]))
theorem fold_byte (l : List Int) (h : ∀ x ∈ l, 0 ≤ x ∧ x < 256) : ∀ x ∈ foldL l, 0 ≤ x ∧ x < 256 := run_byte l _ (by simp) h
end Go.Proofs.YtpdhbpdfldfnhaaGreatDoor.Tx
/- of TxRune -/
/- Plain Lean, no program: what a step of a range over a string's characters is, in bytes. -/
namespace Go.Proofs.YtpdhbpdfldfnhaaGreatDoor.Tx
open Go.Lib

def bts (s : ByteArray) : List Int := s.data.toList.map fun b => (b.toNat : Int)
theorem bts_length (s : ByteArray) : (bts s).length = s.size := by rw [bts, List.length_map, Array.length_toList]; rfl
theorem list_length (s : ByteArray) : s.data.toList.length = s.size := by rw [Array.length_toList]; rfl

theorem decodeN_bytes (n b0 b1 b2 b3 : Nat) (hn : 1 ≤ n) (h0 : 128 ≤ b0) (h0' : b0 < 256) (h1 : b1 < 256) (h2 : b2 < 256) (h3 : b3 < 256) :
    (decodeN n b0 b1 b2 b3).2 ≤ n ∧ (decodeN n b0 b1 b2 b3).2 ≤ 4 ∧ (2 ≤ (decodeN n b0 b1 b2 b3).2 → 128 ≤ b1) ∧ (3 ≤ (decodeN n b0 b1 b2 b3).2 → 128 ≤ b2) ∧ (4 ≤ (decodeN n b0 b1 b2 b3).2 → 128 ≤ b3) ∧ ((decodeN n b0 b1 b2 b3).1 ≠ 65533 → 2 ≤ (decodeN n b0 b1 b2 b3).2) := by
  unfold decodeN
  repeat' split
  all_goals simp only []
  all_goals refine ⟨?_, ?_, ?_, ?_, ?_, ?_⟩
  all_goals omega

/-- From a byte from 128 on: one to four bytes, all from 128 on; where the character is not U+FFFD its bytes are those. -/
theorem rune_high (s : ByteArray) (pos : Nat) (h : pos < s.size) (hb : 128 ≤ (s[pos]'h).toNat) :
    1 ≤ (Utf8.decode s pos).2 ∧ pos + (Utf8.decode s pos).2 ≤ s.size ∧ (∀ x ∈ (s.data.toList.drop pos).take (Utf8.decode s pos).2, 128 ≤ x.toNat) ∧
      ((Utf8.decode s pos).1 ≠ 65533 → encodeRune ((Utf8.decode s pos).1 : Int) = (s.data.toList.drop pos).take (Utf8.decode s pos).2) := by
  have hd := decodeL_drop s pos
  have hne : s.data.toList.drop pos ≠ [] := by
    intro hc
    have := congrArg List.length hc
    rw [List.length_drop, list_length] at this
    simp at this
    omega
  have hN := decodeL_N (s.data.toList.drop pos)
  have hg : ∀ j, ((s.data.toList.drop pos).getD j 0).toNat < 256 := fun j => ((s.data.toList.drop pos).getD j 0).toNat_lt
  have hl : (s.data.toList.drop pos).length = s.size - pos := by rw [List.length_drop, list_length]
  have e0 : (s.data.toList.drop pos).getD 0 0 = s[pos]'h := by
    rw [List.getD_eq_getElem?_getD, List.getElem?_drop, Nat.add_zero, List.getElem?_eq_getElem (by rw [list_length]; exact h)]
    simp
    rfl
  have hB := decodeN_bytes (s.data.toList.drop pos).length _ _ _ _ (by rw [hl]; omega) (by rw [e0]; exact hb) (hg 0) (hg 1) (hg 2) (hg 3)
  rw [← hN, hd] at hB
  obtain ⟨w1, w2, w3, w4, w5, w6⟩ := hB
  have hw := decodeL_width (s.data.toList.drop pos)
  rw [hd] at hw
  refine ⟨hw, by omega, fun x hx => ?_, fun hne2 => ?_⟩
  · obtain ⟨j, hj, hxj⟩ := List.mem_iff_getElem.1 hx
    rw [List.length_take] at hj
    have hxj' : (s.data.toList.drop pos).getD j 0 = x := by
      rw [← hxj, List.getElem_take, List.getD_eq_getElem?_getD, List.getElem?_eq_getElem (by omega), Option.getD_some]
    rw [← hxj']
    match j, hj with
    | 0, _ => rw [e0]; exact hb
    | 1, _ => exact w3 (by omega)
    | 2, _ => exact w4 (by omega)
    | 3, _ => exact w5 (by omega)
    | (k + 4), hj => omega
  · have := encode_decode (s.data.toList.drop pos) hne (by rw [hd]; exact fun hc => hne2 hc.1)
    rw [hd] at this
    exact this

/-- The bytes from place pos on: one, or a character's. -/
theorem take_next (s : ByteArray) (pos n : Nat) : (bts s).take (pos + n) = (bts s).take pos ++ ((s.data.toList.drop pos).take n).map fun b => (b.toNat : Int) := by
  rw [List.take_add]
  congr 1
  rw [bts, ← List.map_drop, ← List.map_take]
theorem take_one (s : ByteArray) (pos : Nat) (h : pos < s.size) : (bts s).take (pos + 1) = (bts s).take pos ++ [((s[pos]'h).toNat : Int)] := by
  have hl : pos < (bts s).length := by rw [bts_length]; exact h
  rw [List.take_succ_eq_append_getElem hl]
  congr 2
  simp [bts]
  rfl
end Go.Proofs.YtpdhbpdfldfnhaaGreatDoor.Tx
/- of TxWFold -/
/- text.Fold: what it answers, for every text: the bytes folded one by one. -/
namespace Go.Proofs.YtpdhbpdfldfnhaaGreatDoor.Tx
open Go.RowKit Go.Lib Go.Proofs.YtpdhbpdfldfnhaaGreatDoorW.PrintWords

theorem info5 : (Tryz.prog.info? 5).map (fun i => (i.zero, i.size, i.bytes)) = some (some (.int .u8 0), 1, 1) := by kernel_rfl

/-- What is carried from round to round. -/
structure FoldAt (s : ByteArray) (w : World) (K pos : Nat) (acc : List Int) (bl : Bool) (v : Value) (wr : World) : Prop where
  own : wr.ownsRow w.heap.size 5 1 v acc.length (nums .u8 acc)
  iter : wr.heap[K]? = some (.stringIter s pos)
  above : w.heap.size ≤ K
  below : Below w.heap.size w wr
  run : Hid (runF ([], false) ((bts s).take pos) = (acc, bl))
  len : acc.length ≤ 2 * pos
  le : pos ≤ s.size

theorem own_iter_ne {W : World} {base e n K pos : Nat} {v : Value} {xs : List Value} {s : ByteArray} (h : W.ownsRow base e 1 v n xs) (hk : W.heap[K]? = some (.stringIter s pos)) : some K ≠ v.ownBlock := by
  rcases h.2 with ⟨rfl, _⟩ | ⟨g, cap, cur, rfl, _, hb, _⟩
  · simp [Value.ownBlock]
  · intro hc
    simp [Value.ownBlock] at hc
    subst hc
    rw [hb] at hk
    cases hk
theorem iter_grown {W W' : World} {row : Option Nat} {K pos : Nat} {s : ByteArray} (hg : W.grownBy W' row) (hk : W.heap[K]? = some (.stringIter s pos)) (hne : some K ≠ row) : W'.heap[K]? = some (.stringIter s pos) := by
  rw [hg.block K (Array.getElem?_eq_some_iff.1 hk).1 hne]
  exact hk
theorem iterPos_at {W : World} {K pos : Nat} {s : ByteArray} (hk : W.heap[K]? = some (.stringIter s pos)) : W.iterPos K = pos := by simp [World.iterPos, hk]

theorem iter_below {W W' : World} {K pos : Nat} {s : ByteArray} (hb : Below W.heap.size W W') (hk : W.heap[K]? = some (.stringIter s pos)) : W'.heap[K]? = some (.stringIter s pos) := by
  rw [hb.block K (Array.getElem?_eq_some_iff.1 hk).1]
  exact hk
/-- One character on. -/
theorem FoldAt.next {s : ByteArray} {w wr W : World} {K pos n : Nat} {acc acc' : List Int} {bl bl' : Bool} {v v' : Value} (h : FoldAt s w K pos acc bl v wr) (hn : pos + n ≤ s.size)
    (hrun : runF (acc, bl) (((s.data.toList.drop pos).take n).map fun b => (b.toNat : Int)) = (acc', bl')) (hl : acc'.length ≤ acc.length + 2 * n)
    (own : W.ownsRow w.heap.size 5 1 v' acc'.length (nums .u8 acc')) (iter : W.heap[K]? = some (.stringIter s (pos + n))) (below : Below w.heap.size w W) : FoldAt s w K (pos + n) acc' bl' v' W :=
  ⟨own, iter, h.above, below, by
    have e := h.run.out
    show _ = _
    rw [take_next, runF_append, e, hrun], by have := h.len; omega, hn⟩
theorem own_iterAt {W : World} {base e n K pos p : Nat} {v : Value} {xs : List Value} {s : ByteArray} (h : W.ownsRow base e 1 v n xs) (hk : W.heap[K]? = some (.stringIter s pos)) : (W.iterAt K s p).ownsRow base e 1 v n xs := by
  refine ⟨h.1, ?_⟩
  rcases h.2 with h0 | ⟨g, cap, cur, rfl, hg, hb, h3⟩
  · exact .inl h0
  · refine .inr ⟨g, cap, cur, rfl, hg, ?_, h3⟩
    rw [iterAt_other W K g s p (by
      rintro rfl
      rw [hk] at hb
      cases hb)]
    exact hb
/-- The iterator alone has moved. -/
theorem FoldAt.moved {s : ByteArray} {w wr : World} {K pos : Nat} {acc : List Int} {bl : Bool} {v : Value} (h : FoldAt s w K pos acc bl v wr) (p : Nat) :
    (wr.iterAt K s p).ownsRow w.heap.size 5 1 v acc.length (nums .u8 acc) ∧ (wr.iterAt K s p).heap[K]? = some (.stringIter s p) ∧ Below w.heap.size w (wr.iterAt K s p) ∧ w.heap.size ≤ (wr.iterAt K s p).heap.size :=
  ⟨own_iterAt h.own h.iter, iterAt_heap wr K s pos p h.iter, below_iterAt h.below h.above s p, by rw [iterAt_size]; exact h.below.size⟩

/-- A byte below 128 that is no blank: what is owed, and the byte. -/
theorem run_one (acc : List Int) (bl : Bool) (b : Int) (hb : b ≠ 32) : runF (acc, bl) [b] = ((if bl = true ∧ acc ≠ [] then acc ++ [32] else acc) ++ [low b], false) := by
  rw [runF_cons, runF_nil]
  unfold stepF
  rw [if_neg hb]
theorem drop_one (s : ByteArray) (pos : Nat) (h : pos < s.size) : ((s.data.toList.drop pos).take 1).map (fun b => (b.toNat : Int)) = [((s[pos]'h).toNat : Int)] := by
  have hl : pos < s.data.toList.length := by rw [list_length]; exact h
  rw [List.drop_eq_getElem_cons hl]
  simp
  rfl
theorem nums_snoc (k : IntKind) (l : List Int) (x : Int) : nums k l ++ [.int k x] = nums k (l ++ [x]) := by simp [nums]
theorem cells_one {r : Int} (h0 : 0 ≤ r) (h1 : r ≤ 127) : runeCells r = nums .u8 [r] := by simp [runeCells, encodeRuneZ_one h0 h1, nums]

theorem _root_.Go.World.grownBy.refl_ {row : Option Nat} (W : World) : W.grownBy W row := ⟨rfl, rfl, rfl, Nat.le_refl _, fun _ _ _ => rfl⟩
/-- Behind AppendRune of a character below 128. -/
theorem pushed {s : ByteArray} {w wr W0 W1 W2 : World} {K pos : Nat} {acc acc' : List Int} {bl : Bool} {v v1 v2 : Value} {C D : Int} {o : Obj} {row : Option Nat} (h : FoldAt s w K pos acc bl v wr) (hp : pos < s.size)
    (hd : ((s.data.toList.drop pos).take 1).map (fun b => (b.toNat : Int)) = [C]) (hr : runF (acc, bl) [C] = ((if bl = true ∧ acc ≠ [] then acc ++ [32] else acc) ++ [low C], false)) (he : (if bl = true ∧ acc ≠ [] then acc ++ [32] else acc) ++ [low C] = acc' ++ [D])
    (hl : acc'.length ≤ acc.length + 1) (h0 : 0 ≤ D) (h1 : D ≤ 127) (hit : W0.heap[K]? = some (.stringIter s (pos + 1))) (hb0 : Below w.heap.size w W0) (hg : W0.grownBy W1 row) (hne : some K ≠ row)
    (hown1 : W1.ownsRow w.heap.size 5 1 v1 acc'.length (nums .u8 acc')) (hb1 : Below w.heap.size w W1) (hown2 : W2.ownsRow w.heap.size 5 1 v2 (acc'.length + (runeCells D).length) (nums .u8 acc' ++ runeCells D)) (hg2 : (W1.alloc o).grownBy W2 v1.ownBlock) :
    FoldAt s w K (pos + 1) (acc' ++ [D]) false v2 W2 := by
  have hi1 := iter_grown hg hit hne
  have hi2 := iter_grown hg2 (iter_grown (World.grownBy_alloc W1 o none) hi1 (by simp)) (own_iter_ne hown1 hi1)
  have hb2 : Below w.heap.size w W2 := (hb1.alloc hb1.size o).grown hg2 (by simp; have := hb1.size; omega) (fun k hk => own_base hown1 k hk)
  rw [cells_one h0 h1] at hown2
  refine h.next (n := 1) (by omega) (by rw [hd, hr, he]) (by simp; omega) ?_ hi2 hb2
  rw [nums_append]
  simpa [nums] using hown2

def bytesAt (s : ByteArray) (pos n : Nat) : List Int := ((s.data.toList.drop pos).take n).map fun b => (b.toNat : Int)
theorem bytesAt_length (s : ByteArray) (pos n : Nat) (h : pos + n ≤ s.size) : (bytesAt s pos n).length = n := by
  simp only [bytesAt, List.length_map, List.length_take, List.length_drop, list_length]
  omega
/-- Behind a character's bytes, all from 128 on. -/
theorem pushedN {s : ByteArray} {w wr W : World} {K pos n : Nat} {acc acc' : List Int} {bl : Bool} {v v2 : Value} (h : FoldAt s w K pos acc bl v wr) (hn : pos + n ≤ s.size) (h1 : 1 ≤ n)
    (hall : ∀ x ∈ (s.data.toList.drop pos).take n, 128 ≤ x.toNat) (he : (if bl = true ∧ acc ≠ [] then acc ++ [32] else acc) = acc') (hl : acc'.length ≤ acc.length + 1)
    (own : W.ownsRow w.heap.size 5 1 v2 (acc'.length + n) (nums .u8 acc' ++ nums .u8 (bytesAt s pos n))) (iter : W.heap[K]? = some (.stringIter s (pos + n))) (below : Below w.heap.size w W) :
    FoldAt s w K (pos + n) (acc' ++ bytesAt s pos n) false v2 W := by
  have hbl := bytesAt_length s pos n hn
  refine h.next (n := n) hn ?_ (by rw [List.length_append, hbl]; omega) ?_ iter below
  · have := runF_plain (bytesAt s pos n) (acc, bl) (by intro hc; rw [hc] at hbl; simp at hbl; omega) (fun b hb => by
      obtain ⟨x, hx, rfl⟩ := List.mem_map.1 hb
      have := hall x hx
      omega)
    rw [← he]
    exact this
  · rw [nums_append, List.length_append, hbl]
    exact own
theorem cells_at (s : ByteArray) (pos n c : Nat) (h : encodeRune (c : Int) = (s.data.toList.drop pos).take n) : runeCells (c : Int) = nums .u8 (bytesAt s pos n) := by
  rw [← byteCells_encodeRune, h]
  simp [byteCells, nums, bytesAt, Function.comp_def]
theorem cells_ext (s : ByteArray) (pos n : Nat) (h : pos + n ≤ s.size) : strCells (s.extract pos (pos + n)) = nums .u8 (bytesAt s pos n) := by
  unfold strCells nums bytesAt
  rw [Lib.extract_data]
  simp [Function.comp_def]
theorem decodeGo_at (s : ByteArray) (pos : Nat) (h : pos < s.size) : decodeGo (s.extract pos s.size) = Utf8.decode s pos := by
  have e := ext_list s pos
  have e2 : s.extract pos s.size = ⟨(s.data.toList.drop pos).toArray⟩ := by
    rw [← e]
  unfold decodeGo
  rw [if_neg (by rw [ext_size]; omega), e2]
  exact decodeL_drop s pos

set_option maxHeartbeats 4000000 in
set_option maxRecDepth 100000 in
theorem fold_walk (s : ByteArray) (w : World) (hs : s.size ≤ 35184372088832) (hT : Tabs w) :
    Calls Tryz.prog 61 #[.string s] w fun e w' => e = .returned (.string (strOfNums (foldL (bts s)))) ∧ Below w.heap.size w w' := by
  obtain ⟨i0, hi, hz0, hz1, hz2⟩ := info_parts info5
  go_enter Tryz.func61, Tryz.ntmps61
  go_wp2_with (at_make; refine wpList_make_own _ rfl _ _ 22 rfl w.heap.size 5 i0 (.int .u8 0) 1 Tryz.underlying22 hi hz0 hz1 .i64 .i64 _ s.size rfl rfl rfl (by rw [hz2]; omega) (by unfold maxLen; omega) (Nat.le_refl _) ?_)
  intro w1 hown1 hgrow1
  have hb1 : Below w.heap.size w w1 := (Below.refl _ w).grown hgrow1 (Nat.le_refl _) (by simp)
  go_wp2
  have hK : w.heap.size ≤ w1.heap.size := hb1.size
  go_loopw [3, 4] (fun v b wr => ∃ (pos : Nat) (acc : List Int) (bl : Bool), b = .bool bl ∧ FoldAt s w w1.heap.size pos acc bl v wr) (fun _ _ wr => s.size - wr.iterPos w1.heap.size)
  case atStart =>
    exact ⟨0, [], false, rfl, ⟨hown1.alloc _, World.iter_heap w1 s 0, hK, hb1.alloc hK _, rfl, by simp, by omega⟩⟩
  case round =>
    obtain ⟨pos, acc, bl, rfl, hF⟩ := hrel
    have hit := hF.iter
    have hsz : w1.heap.size < wr.heap.size := (Array.getElem?_eq_some_iff.1 hit).1
    by_cases hp : pos < s.size
    · by_cases hb : (s[pos]'hp).toNat < 128
      · obtain ⟨C, hC⟩ : ∃ C : Int, ((s[pos]'hp).toNat : Int) = C := ⟨_, rfl⟩
        have hC0 : 0 ≤ C := by omega
        have hC1 : C < 128 := by omega
        have hd1 := drop_one s pos hp
        rw [hC] at hd1
        have hnx0 := fun ty => Lib.run_next_ascii_at (P := Tryz.prog) wr w1.heap.size s pos ty hit hp hb
        rw [hC] at hnx0
        have hnx := hnx0
        clear hnx0
        have HC := Lib.hid hC
        have HD := Lib.hid hd1
        clear hC hd1
        obtain ⟨hown2, hit2, hbl2, hsz2⟩ := hF.moved (pos + 1)
        by_cases h32 : C = 32
        · subst h32
          go_wp2
          go_roundw
          case rel => exact ⟨pos + 1, acc, true, rfl, hF.next (by omega) (by rw [HD.out]; rfl) (by omega) hown2 hit2 hbl2⟩
          case measure => simp only [iterPos_at hit2, iterPos_at hit]; omega
        · have h32b : (C == 32) = false := by simpa using h32
          obtain ⟨A, c, rfl⟩ := own_slice hF.own
          have hal : acc.length ≤ 2 * s.size := by have := hF.len; have := hF.le; omega
          by_cases hfl : bl = true ∧ acc ≠ []
          · obtain ⟨rfl, hne⟩ := hfl
            have hpos : 0 < acc.length := List.length_pos_iff.2 hne
            have hposZ : (0 : Int) < (acc.length : Int) := by omega
            by_cases hup : 65 ≤ C ∧ C ≤ 90
            · obtain ⟨hu0, hu1⟩ := hup
              have hre : (C + 32 == 65533) = false := by simp; omega
              have hlow : low C = C + 32 := by unfold low; rw [if_pos ⟨hu0, hu1⟩]
              have HL := Lib.hid hlow
              clear hlow
              go_wp2_with (at_builtin; go_must (refine print_append_num (w0 := w) w.heap.size rfl (.tmp 28) (.tmp 29) 22 5 .u8 1 rfl Tryz.underlying22 info5 (by decide) (.slice A acc.length c) acc 32 rfl rfl hown2 hbl2 hsz2 (by omega) ?_; intro v3 w3 hown3 hbl3 hgrow3 hat3))
              go_wp2_with (go_at_call 71; go_must (refine (Tryz.utf8_AppendRune_plain w.heap.size v3 _ _ (C + 32) (by omega) (by omega) _ hown3 (by simp; omega) hbl3.size).mono ?_; rintro e w4 ⟨v4, rfl, hown4, o4, hgrow4⟩))
              have hP := pushed (acc' := acc ++ [32]) (D := (C + 32)) hF hp HD.out (run_one _ _ _ h32) (by rw [if_pos ⟨rfl, hne⟩, HL.out]) (by simp) (by omega) (by omega) hit2 hbl2 hgrow3 (own_iter_ne hown2 hit2) hown3 hbl3 hown4 hgrow4
              go_roundw
              case rel => exact ⟨pos + 1, acc ++ [32] ++ [(C + 32)], false, rfl, hP⟩
              case measure => rw [iterPos_at hP.iter, iterPos_at hit]; omega
            · have hre : (C == 65533) = false := by simp; omega
              have hlow : low C = C := by unfold low; rw [if_neg hup]
              have HL := Lib.hid hlow
              clear hlow
              have hup2 : C < 65 ∨ 90 < C := by omega
              rcases hup2 with hup2 | hup2
              · go_wp2_with (at_builtin; go_must (refine print_append_num (w0 := w) w.heap.size rfl (.tmp 28) (.tmp 29) 22 5 .u8 1 rfl Tryz.underlying22 info5 (by decide) (.slice A acc.length c) acc 32 rfl rfl hown2 hbl2 hsz2 (by omega) ?_; intro v3 w3 hown3 hbl3 hgrow3 hat3))
                go_wp2_with (go_at_call 71; go_must (refine (Tryz.utf8_AppendRune_plain w.heap.size v3 _ _ C (by omega) (by omega) _ hown3 (by simp; omega) hbl3.size).mono ?_; rintro e w4 ⟨v4, rfl, hown4, o4, hgrow4⟩))
                have hP := pushed (acc' := acc ++ [32]) (D := C) hF hp HD.out (run_one _ _ _ h32) (by rw [if_pos ⟨rfl, hne⟩, HL.out]) (by simp) (by omega) (by omega) hit2 hbl2 hgrow3 (own_iter_ne hown2 hit2) hown3 hbl3 hown4 hgrow4
                go_roundw
                case rel => exact ⟨pos + 1, acc ++ [32] ++ [C], false, rfl, hP⟩
                case measure => rw [iterPos_at hP.iter, iterPos_at hit]; omega
              · go_wp2_with (at_builtin; go_must (refine print_append_num (w0 := w) w.heap.size rfl (.tmp 28) (.tmp 29) 22 5 .u8 1 rfl Tryz.underlying22 info5 (by decide) (.slice A acc.length c) acc 32 rfl rfl hown2 hbl2 hsz2 (by omega) ?_; intro v3 w3 hown3 hbl3 hgrow3 hat3))
                go_wp2_with (go_at_call 71; go_must (refine (Tryz.utf8_AppendRune_plain w.heap.size v3 _ _ C (by omega) (by omega) _ hown3 (by simp; omega) hbl3.size).mono ?_; rintro e w4 ⟨v4, rfl, hown4, o4, hgrow4⟩))
                have hP := pushed (acc' := acc ++ [32]) (D := C) hF hp HD.out (run_one _ _ _ h32) (by rw [if_pos ⟨rfl, hne⟩, HL.out]) (by simp) (by omega) (by omega) hit2 hbl2 hgrow3 (own_iter_ne hown2 hit2) hown3 hbl3 hown4 hgrow4
                go_roundw
                case rel => exact ⟨pos + 1, acc ++ [32] ++ [C], false, rfl, hP⟩
                case measure => rw [iterPos_at hP.iter, iterPos_at hit]; omega
          · cases bl with
            | false =>
              by_cases hup : 65 ≤ C ∧ C ≤ 90
              · obtain ⟨hu0, hu1⟩ := hup
                have hre : (C + 32 == 65533) = false := by simp; omega
                have hlow : low C = C + 32 := by unfold low; rw [if_pos ⟨hu0, hu1⟩]
                have HL := Lib.hid hlow
                clear hlow
                go_wp2_with (go_at_call 71; go_must (refine (Tryz.utf8_AppendRune_plain w.heap.size (.slice A acc.length c) _ _ (C + 32) (by omega) (by omega) _ hown2 (by omega) hsz2).mono ?_; rintro e w4 ⟨v4, rfl, hown4, o4, hgrow4⟩))
                have hP := pushed (acc' := acc) (D := (C + 32)) (row := none) hF hp HD.out (run_one _ _ _ h32) (by rw [if_neg (by simp), HL.out]) (by omega) (by omega) (by omega) hit2 hbl2 (World.grownBy.refl_ _) (by simp) hown2 hbl2 hown4 hgrow4
                go_roundw
                case rel => exact ⟨pos + 1, acc ++ [(C + 32)], false, rfl, hP⟩
                case measure => rw [iterPos_at hP.iter, iterPos_at hit]; omega
              · have hre : (C == 65533) = false := by simp; omega
                have hlow : low C = C := by unfold low; rw [if_neg hup]
                have HL := Lib.hid hlow
                clear hlow
                have hup2 : C < 65 ∨ 90 < C := by omega
                rcases hup2 with hup2 | hup2
                · go_wp2_with (go_at_call 71; go_must (refine (Tryz.utf8_AppendRune_plain w.heap.size (.slice A acc.length c) _ _ C (by omega) (by omega) _ hown2 (by omega) hsz2).mono ?_; rintro e w4 ⟨v4, rfl, hown4, o4, hgrow4⟩))
                  have hP := pushed (acc' := acc) (D := C) (row := none) hF hp HD.out (run_one _ _ _ h32) (by rw [if_neg (by simp), HL.out]) (by omega) (by omega) (by omega) hit2 hbl2 (World.grownBy.refl_ _) (by simp) hown2 hbl2 hown4 hgrow4
                  go_roundw
                  case rel => exact ⟨pos + 1, acc ++ [C], false, rfl, hP⟩
                  case measure => rw [iterPos_at hP.iter, iterPos_at hit]; omega
                · go_wp2_with (go_at_call 71; go_must (refine (Tryz.utf8_AppendRune_plain w.heap.size (.slice A acc.length c) _ _ C (by omega) (by omega) _ hown2 (by omega) hsz2).mono ?_; rintro e w4 ⟨v4, rfl, hown4, o4, hgrow4⟩))
                  have hP := pushed (acc' := acc) (D := C) (row := none) hF hp HD.out (run_one _ _ _ h32) (by rw [if_neg (by simp), HL.out]) (by omega) (by omega) (by omega) hit2 hbl2 (World.grownBy.refl_ _) (by simp) hown2 hbl2 hown4 hgrow4
                  go_roundw
                  case rel => exact ⟨pos + 1, acc ++ [C], false, rfl, hP⟩
                  case measure => rw [iterPos_at hP.iter, iterPos_at hit]; omega
            | true =>
              have he : acc = [] := by simpa using hfl
              subst he
              by_cases hup : 65 ≤ C ∧ C ≤ 90
              · obtain ⟨hu0, hu1⟩ := hup
                have hre : (C + 32 == 65533) = false := by simp; omega
                have hlow : low C = C + 32 := by unfold low; rw [if_pos ⟨hu0, hu1⟩]
                have HL := Lib.hid hlow
                clear hlow
                go_wp2_with (go_at_call 71; go_must (refine (Tryz.utf8_AppendRune_plain w.heap.size (.slice A 0 c) 0 (nums .u8 []) (C + 32) (by omega) (by omega) _ hown2 (by omega) hsz2).mono ?_; rintro e w4 ⟨v4, rfl, hown4, o4, hgrow4⟩))
                have hP := pushed (acc' := []) (D := (C + 32)) (row := none) hF hp HD.out (run_one _ _ _ h32) (by rw [if_neg (by simp), HL.out]) (by omega) (by omega) (by omega) hit2 hbl2 (World.grownBy.refl_ _) (by simp) hown2 hbl2 hown4 hgrow4
                go_roundw
                case rel => exact ⟨pos + 1, [] ++ [(C + 32)], false, rfl, hP⟩
                case measure => rw [iterPos_at hP.iter, iterPos_at hit]; omega
              · have hre : (C == 65533) = false := by simp; omega
                have hlow : low C = C := by unfold low; rw [if_neg hup]
                have HL := Lib.hid hlow
                clear hlow
                have hup2 : C < 65 ∨ 90 < C := by omega
                rcases hup2 with hup2 | hup2
                · go_wp2_with (go_at_call 71; go_must (refine (Tryz.utf8_AppendRune_plain w.heap.size (.slice A 0 c) 0 (nums .u8 []) C (by omega) (by omega) _ hown2 (by omega) hsz2).mono ?_; rintro e w4 ⟨v4, rfl, hown4, o4, hgrow4⟩))
                  have hP := pushed (acc' := []) (D := C) (row := none) hF hp HD.out (run_one _ _ _ h32) (by rw [if_neg (by simp), HL.out]) (by omega) (by omega) (by omega) hit2 hbl2 (World.grownBy.refl_ _) (by simp) hown2 hbl2 hown4 hgrow4
                  go_roundw
                  case rel => exact ⟨pos + 1, [] ++ [C], false, rfl, hP⟩
                  case measure => rw [iterPos_at hP.iter, iterPos_at hit]; omega
                · go_wp2_with (go_at_call 71; go_must (refine (Tryz.utf8_AppendRune_plain w.heap.size (.slice A 0 c) 0 (nums .u8 []) C (by omega) (by omega) _ hown2 (by omega) hsz2).mono ?_; rintro e w4 ⟨v4, rfl, hown4, o4, hgrow4⟩))
                  have hP := pushed (acc' := []) (D := C) (row := none) hF hp HD.out (run_one _ _ _ h32) (by rw [if_neg (by simp), HL.out]) (by omega) (by omega) (by omega) hit2 hbl2 (World.grownBy.refl_ _) (by simp) hown2 hbl2 hown4 hgrow4
                  go_roundw
                  case rel => exact ⟨pos + 1, [] ++ [C], false, rfl, hP⟩
                  case measure => rw [iterPos_at hP.iter, iterPos_at hit]; omega
      · obtain ⟨hn1, hn, hall, henc⟩ := rune_high s pos hp (by omega)
        have hhi := decode_high s pos hp (by omega)
        have hle := decode_le s pos
        have hgo := decodeGo_at s pos hp
        have hnx := fun ty => Lib.run_next_any_at (P := Tryz.prog) wr w1.heap.size s pos ty hit hp
        obtain ⟨cp, hcp⟩ : ∃ cp, (Utf8.decode s pos).1 = cp := ⟨_, rfl⟩
        obtain ⟨n, hnn⟩ : ∃ n, (Utf8.decode s pos).2 = n := ⟨_, rfl⟩
        have hgo2 : decodeGo (s.extract pos s.size) = (cp, n) := by rw [hgo, ← hcp, ← hnn]
        rw [hcp] at hhi hle henc
        rw [hnn] at hhi hn1 hn hall henc
        simp only [hcp, hnn] at hnx
        clear hgo hcp hnn
        have hcp0 := hhi.1
        have HA := Lib.hid hall
        have HG := Lib.hid hgo2
        clear hall hgo2 hhi
        obtain ⟨hown2, hit2, hbl2, hsz2⟩ := hF.moved (pos + n)
        obtain ⟨A, c, rfl⟩ := own_slice hF.own
        have hal : acc.length ≤ 2 * s.size := by have := hF.len; have := hF.le; omega
        have h32b : ((cp : Int) == 32) = false := by simp; omega
        have h90 : (90 : Int) < (cp : Int) := by omega
        by_cases hbad : cp = 65533
        · subst hbad
          clear henc
          have hd : ∀ W, Tabs W → Calls Tryz.prog 70 #[.string (s.extract pos s.size)] W fun e w' => e = .returned (.tuple #[.int .i32 65533, .int .i64 n]) ∧ Below W.heap.size W w' := by
            intro W hTW
            have := Tryz.utf8_DecodeRuneInString (s.extract pos s.size) W hTW.u8
            rw [HG.out] at this
            exact this
          have HD := Lib.hid hd
          have hes : (s.extract pos (pos + n)).size = n := by rw [size_eq, Lib.extract_data, List.length_take, List.length_drop, list_length]; omega
          have HES := Lib.hid hes
          have hsl : ∀ W, (Instr.slice 9 (.string s) (some (.int .i64 (pos : Int))) (some (.int .i64 ((pos : Int) + (n : Int)))) none).run Tryz.prog W = .ok (.string (s.extract pos (pos + n))) W := fun W => by
            have h := run_slice_string (P := Tryz.prog) (w := W) 9 s .i64 .i64 (pos : Int) ((pos : Int) + (n : Int)) Tryz.underlying9 (by omega) (by omega) (by omega)
            rw [show ((pos : Int) + (n : Int)).toNat = pos + n by omega, Int.toNat_natCast] at h
            exact h
          clear hd hes
          by_cases hfl : bl = true ∧ acc ≠ []
          · obtain ⟨rfl, hne⟩ := hfl
            have hpos : 0 < acc.length := List.length_pos_iff.2 hne
            have hposZ : (0 : Int) < (acc.length : Int) := by omega
            go_wp2_with (at_builtin; go_must (refine print_append_num (w0 := w) w.heap.size rfl (.tmp 28) (.tmp 29) 22 5 .u8 1 rfl Tryz.underlying22 info5 (by decide) (.slice A acc.length c) acc 32 rfl rfl hown2 hbl2 hsz2 (by omega) ?_; intro v3 w3 hown3 hbl3 hgrow3 hat3))
            have hit3 := iter_grown hgrow3 hit2 (own_iter_ne hown2 hit2)
            go_wp2_with (first | (go_at_call 70; go_must (refine (HD.out _ (hT.below hbl3)).mono ?_; rintro e w5 ⟨rfl, hb5⟩); have hbl5 : Below w.heap.size w w5 := hbl3.trans (hb5.mono hbl3.size); have hown5 := pw_own_below hown3 hb5; have hit5 := iter_below hb5 hit3) | (at_builtin; go_must (refine Lib.wpList_append_own_string _ rfl (.tmp 48) (.tmp 54) 22 9 rfl w.heap.size 5 i0 Tryz.underlying22 Tryz.underlying9 hi hz0 hz1 hz2 v3 _ _ rfl hown5 (s.extract pos (pos + n)) rfl (by rw [HES.out]; unfold maxLen; first | omega | (simp; omega)) (by rw [HES.out]; first | omega | (simp; omega)) hbl5.size ?_; intro v4 w4 hown4 hgrow4 hnil4)))
            have hit4 := iter_grown hgrow4 hit5 (own_iter_ne hown5 hit5)
            have hbl4 : Below w.heap.size w w4 := hbl5.grown hgrow4 hbl5.size (fun k hk => own_base hown5 k hk)
            rw [cells_ext s pos n hn, HES.out] at hown4
            have hP := pushedN (acc' := (acc ++ [32])) hF hn hn1 HA.out (by rw [if_pos ⟨rfl, hne⟩]) (by first | omega | simp) hown4 hit4 hbl4
            go_roundw
            case rel => exact ⟨pos + n, _, false, rfl, hP⟩
            case measure => rw [iterPos_at hP.iter, iterPos_at hit]; omega
          · cases bl with
            | false =>
              go_wp2_with (first | (go_at_call 70; go_must (refine (HD.out _ (hT.below hbl2)).mono ?_; rintro e w5 ⟨rfl, hb5⟩); have hbl5 : Below w.heap.size w w5 := hbl2.trans (hb5.mono hbl2.size); have hown5 := pw_own_below hown2 hb5; have hit5 := iter_below hb5 hit2) | (at_builtin; go_must (refine Lib.wpList_append_own_string _ rfl (.tmp 48) (.tmp 54) 22 9 rfl w.heap.size 5 i0 Tryz.underlying22 Tryz.underlying9 hi hz0 hz1 hz2 (.slice A acc.length c) _ _ rfl hown5 (s.extract pos (pos + n)) rfl (by rw [HES.out]; unfold maxLen; first | omega | (simp; omega)) (by rw [HES.out]; first | omega | (simp; omega)) hbl5.size ?_; intro v4 w4 hown4 hgrow4 hnil4)))
              have hit4 := iter_grown hgrow4 hit5 (own_iter_ne hown5 hit5)
              have hbl4 : Below w.heap.size w w4 := hbl5.grown hgrow4 hbl5.size (fun k hk => own_base hown5 k hk)
              rw [cells_ext s pos n hn, HES.out] at hown4
              have hP := pushedN (acc' := acc) hF hn hn1 HA.out (by rw [if_neg (by simp)]) (by first | omega | simp) hown4 hit4 hbl4
              go_roundw
              case rel => exact ⟨pos + n, _, false, rfl, hP⟩
              case measure => rw [iterPos_at hP.iter, iterPos_at hit]; omega
            | true =>
              have he : acc = [] := by simpa using hfl
              subst he
              go_wp2_with (first | (go_at_call 70; go_must (refine (HD.out _ (hT.below hbl2)).mono ?_; rintro e w5 ⟨rfl, hb5⟩); have hbl5 : Below w.heap.size w w5 := hbl2.trans (hb5.mono hbl2.size); have hown5 := pw_own_below hown2 hb5; have hit5 := iter_below hb5 hit2) | (at_builtin; go_must (refine Lib.wpList_append_own_string _ rfl (.tmp 48) (.tmp 54) 22 9 rfl w.heap.size 5 i0 Tryz.underlying22 Tryz.underlying9 hi hz0 hz1 hz2 (.slice A 0 c) 0 (nums .u8 []) rfl hown5 (s.extract pos (pos + n)) rfl (by rw [HES.out]; unfold maxLen; first | omega | (simp; omega)) (by rw [HES.out]; first | omega | (simp; omega)) hbl5.size ?_; intro v4 w4 hown4 hgrow4 hnil4)))
              have hit4 := iter_grown hgrow4 hit5 (own_iter_ne hown5 hit5)
              have hbl4 : Below w.heap.size w w4 := hbl5.grown hgrow4 hbl5.size (fun k hk => own_base hown5 k hk)
              rw [cells_ext s pos n hn, HES.out] at hown4
              have hP := pushedN (acc' := ([] : List Int)) hF hn hn1 HA.out (by rw [if_neg (by simp)]) (by first | omega | simp) hown4 hit4 hbl4
              go_roundw
              case rel => exact ⟨pos + n, _, false, rfl, hP⟩
              case measure => rw [iterPos_at hP.iter, iterPos_at hit]; omega
        · have hne5 : ((cp : Int) == 65533) = false := by simp; omega
          have HC := Lib.hid (cells_at s pos n cp (henc hbad))
          clear henc
          by_cases hfl : bl = true ∧ acc ≠ []
          · obtain ⟨rfl, hne⟩ := hfl
            have hpos : 0 < acc.length := List.length_pos_iff.2 hne
            have hposZ : (0 : Int) < (acc.length : Int) := by omega
            go_wp2_with (at_builtin; go_must (refine print_append_num (w0 := w) w.heap.size rfl (.tmp 28) (.tmp 29) 22 5 .u8 1 rfl Tryz.underlying22 info5 (by decide) (.slice A acc.length c) acc 32 rfl rfl hown2 hbl2 hsz2 (by omega) ?_; intro v3 w3 hown3 hbl3 hgrow3 hat3))
            have hit3 := iter_grown hgrow3 hit2 (own_iter_ne hown2 hit2)
            go_wp2_with fail
            refine (Tryz.utf8_AppendRune_plain w.heap.size v3 _ _ cp (by omega) (by omega) _ hown3 (by first | omega | (simp; omega)) hbl3.size).mono ?_
            rintro e w4 ⟨v4, rfl, hown4, o4, hgrow4⟩
            go_wp2_with fail
            have hit4 := iter_grown hgrow4 (iter_grown (World.grownBy_alloc _ o4 none) hit3 (by simp)) (own_iter_ne hown3 hit3)
            have hbl4 : Below w.heap.size w w4 := (hbl3.alloc hbl3.size o4).grown hgrow4 (by simp; have := hbl3.size; omega) (fun k hk => own_base hown3 k hk)
            rw [HC.out] at hown4
            have hlc : (nums .u8 (bytesAt s pos n)).length = n := by rw [nums_length, bytesAt_length s pos n hn]
            rw [hlc] at hown4
            have hP := pushedN (acc' := (acc ++ [32])) hF hn hn1 HA.out (by rw [if_pos ⟨rfl, hne⟩]) (by first | omega | simp) hown4 hit4 hbl4
            go_roundw
            case rel => exact ⟨pos + n, _, false, rfl, hP⟩
            case measure => rw [iterPos_at hP.iter, iterPos_at hit]; omega
          · cases bl with
            | false =>
              go_wp2_with fail
              refine (Tryz.utf8_AppendRune_plain w.heap.size (.slice A acc.length c) _ _ cp (by omega) (by omega) _ hown2 (by first | omega | (simp; omega)) hbl2.size).mono ?_
              rintro e w4 ⟨v4, rfl, hown4, o4, hgrow4⟩
              go_wp2_with fail
              have hit4 := iter_grown hgrow4 (iter_grown (World.grownBy_alloc _ o4 none) hit2 (by simp)) (own_iter_ne hown2 hit2)
              have hbl4 : Below w.heap.size w w4 := (hbl2.alloc hbl2.size o4).grown hgrow4 (by simp; have := hbl2.size; omega) (fun k hk => own_base hown2 k hk)
              rw [HC.out] at hown4
              have hlc : (nums .u8 (bytesAt s pos n)).length = n := by rw [nums_length, bytesAt_length s pos n hn]
              rw [hlc] at hown4
              have hP := pushedN (acc' := acc) hF hn hn1 HA.out (by rw [if_neg (by simp)]) (by first | omega | simp) hown4 hit4 hbl4
              go_roundw
              case rel => exact ⟨pos + n, _, false, rfl, hP⟩
              case measure => rw [iterPos_at hP.iter, iterPos_at hit]; omega
            | true =>
              have he : acc = [] := by simpa using hfl
              subst he
              go_wp2_with fail
              refine (Tryz.utf8_AppendRune_plain w.heap.size (.slice A 0 c) 0 (nums .u8 []) cp (by omega) (by omega) _ hown2 (by first | omega | (simp; omega)) hbl2.size).mono ?_
              rintro e w4 ⟨v4, rfl, hown4, o4, hgrow4⟩
              go_wp2_with fail
              have hit4 := iter_grown hgrow4 (iter_grown (World.grownBy_alloc _ o4 none) hit2 (by simp)) (own_iter_ne hown2 hit2)
              have hbl4 : Below w.heap.size w w4 := (hbl2.alloc hbl2.size o4).grown hgrow4 (by simp; have := hbl2.size; omega) (fun k hk => own_base hown2 k hk)
              rw [HC.out] at hown4
              have hlc : (nums .u8 (bytesAt s pos n)).length = n := by rw [nums_length, bytesAt_length s pos n hn]
              rw [hlc] at hown4
              have hP := pushedN (acc' := ([] : List Int)) hF hn hn1 HA.out (by rw [if_neg (by simp)]) (by first | omega | simp) hown4 hit4 hbl4
              go_roundw
              case rel => exact ⟨pos + n, _, false, rfl, hP⟩
              case measure => rw [iterPos_at hP.iter, iterPos_at hit]; omega
    · have hnx : ∀ ty, (Instr.next (.pointer (some ⟨w1.heap.size, 0, none⟩)) true ty).run Tryz.prog wr = _ := fun ty => Lib.run_next_end_at wr w1.heap.size s pos ty hit hp
      obtain ⟨A, c, rfl⟩ := own_slice hF.own
      have hcv := own_string (P := Tryz.prog) (src := 22) (dst := 9) Tryz.underlying22 Tryz.underlying5 Tryz.underlying9 hF.own
      go_wp2
      go_ret
      have hpe : pos = s.size := by have := hF.le; omega
      have hr := hF.run.out
      rw [hpe, List.take_of_length_le (by rw [bts_length]; omega)] at hr
      refine ⟨?_, hF.below⟩
      show Ending.returned (.string (strOfNums acc)) = _
      unfold foldL
      rw [hr]
end Go.Proofs.YtpdhbpdfldfnhaaGreatDoor.Tx
/- of TxWWord -/
/- unicode/utf8.word of a slice of bytes: the number that its first eight bytes spell. -/
namespace Go.Proofs.YtpdhbpdfldfnhaaGreatDoor.Tx
open Go.RowKit Go.Lib Go.Proofs.YtpdhbpdfldfnhaaGreatDoorW.PrintWords

theorem addr_zero (a : Addr) : a.add 0 = a := by simp [Addr.add]
/-- A slice that reads as a string's bytes. -/
def ReadsB (w : World) (A : Option Addr) (t : ByteArray) : Prop := ReadsInt w .u8 A t.size (bytesOf t)
theorem bytesOf_get (t : ByteArray) (j : Nat) (h : j < t.size) : (bytesOf t).getD j 0 = ((t.get! j).toNat : Int) := by
  have h' : j < t.data.toList.length := by rw [data_length]; exact h
  simp only [bytesOf, List.getD_eq_getElem?_getD, List.getElem?_map, List.getElem?_eq_getElem h', Option.map_some, Option.getD_some]
  congr 2
  rw [Utf8W.get!_of_lt t j h]
  rfl
theorem ReadsB.cell {w : World} {ad : Addr} {t : ByteArray} (h : ReadsB w (some ad) t) (j : Nat) (hj : j < t.size) : w.cell? (ad.add j) = some (.int .u8 ((t.get! j).toNat : Int)) := by
  obtain ⟨ad', e, hc⟩ := h.2.2 (by omega)
  cases e
  rw [hc j hj, bytesOf_get t j hj]
theorem ReadsB.cellS {w : World} {ad : Addr} {t : ByteArray} (h : ReadsB w (some ad) t) (j : Nat) (hj : j + 1 < t.size) : w.cell? ⟨ad.block, ad.off + (j + 1), none⟩ = some (.int .u8 ((t.get! (j + 1)).toNat : Int)) := by
  have := h.cell (j + 1) hj
  unfold Addr.add at this
  rw [if_neg (by omega)] at this
  exact this
theorem ReadsB.cell0 {w : World} {ad : Addr} {t : ByteArray} (h : ReadsB w (some ad) t) (hj : 0 < t.size) : w.cell? ad = some (.int .u8 ((t.get! 0).toNat : Int)) := by
  have := h.cell 0 hj
  rw [addr_zero] at this
  exact this
theorem ReadsB.addr {w : World} {A : Option Addr} {t : ByteArray} (h : ReadsB w A t) (h0 : 0 < t.size) : ∃ ad, A = some ad := by
  obtain ⟨ad, e, _⟩ := h.2.2 h0
  exact ⟨ad, e⟩

set_option maxHeartbeats 8000000 in
set_option maxRecDepth 100000 in
theorem word_walk (A : Option Addr) (c : Nat) (s : ByteArray) (w : World) (hr : ReadsB w A s) (hs : 8 ≤ s.size) :
    Calls Tryz.prog 85 #[.slice A s.size c] w fun e w' => e = .returned (.int .u64 (Lib.leNat [s.get! 0, s.get! 1, s.get! 2, s.get! 3, s.get! 4, s.get! 5, s.get! 6, s.get! 7])) ∧ ∃ q, w' = w.drewN q := by
  obtain ⟨ad, rfl⟩ := hr.addr (by omega)
  obtain ⟨x0, hx0⟩ : ∃ x0, s.get! 0 = x0 := ⟨_, rfl⟩
  obtain ⟨x1, hx1⟩ : ∃ x1, s.get! 1 = x1 := ⟨_, rfl⟩
  obtain ⟨x2, hx2⟩ : ∃ x2, s.get! 2 = x2 := ⟨_, rfl⟩
  obtain ⟨x3, hx3⟩ : ∃ x3, s.get! 3 = x3 := ⟨_, rfl⟩
  obtain ⟨x4, hx4⟩ : ∃ x4, s.get! 4 = x4 := ⟨_, rfl⟩
  obtain ⟨x5, hx5⟩ : ∃ x5, s.get! 5 = x5 := ⟨_, rfl⟩
  obtain ⟨x6, hx6⟩ : ∃ x6, s.get! 6 = x6 := ⟨_, rfl⟩
  obtain ⟨x7, hx7⟩ : ∃ x7, s.get! 7 = x7 := ⟨_, rfl⟩
  have hs0 := hr.cell0 (by omega)
  have hs1 := hr.cellS 0 (by omega)
  have hs2 := hr.cellS 1 (by omega)
  have hs3 := hr.cellS 2 (by omega)
  have hs4 := hr.cellS 3 (by omega)
  have hs5 := hr.cellS 4 (by omega)
  have hs6 := hr.cellS 5 (by omega)
  have hs7 := hr.cellS 6 (by omega)
  rw [hx0] at hs0
  rw [hx1] at hs1
  rw [hx2] at hs2
  rw [hx3] at hs3
  rw [hx4] at hs4
  rw [hx5] at hs5
  rw [hx6] at hs6
  rw [hx7] at hs7
  rw [hx0, hx1, hx2, hx3, hx4, hx5, hx6, hx7]
  clear hx0 hx1 hx2 hx3 hx4 hx5 hx6 hx7
  have h0 : x0.toNat < 256 := x0.toNat_lt
  have h1 : x1.toNat < 256 := x1.toNat_lt
  have h2 : x2.toNat < 256 := x2.toNat_lt
  have h3 : x3.toNat < 256 := x3.toNat_lt
  have h4 : x4.toNat < 256 := x4.toNat_lt
  have h5 : x5.toNat < 256 := x5.toNat_lt
  have h6 : x6.toNat < 256 := x6.toNat_lt
  have h7 : x7.toNat < 256 := x7.toNat_lt
  have hv : ((Lib.leNat [x0, x1, x2, x3, x4, x5, x6, x7] : Nat) : Int) = (x0.toNat : Int) + (x1.toNat : Int) * 256 + (x2.toNat : Int) * 65536 + (x3.toNat : Int) * 16777216 + (x4.toNat : Int) * 4294967296 + (x5.toNat : Int) * 1099511627776 + (x6.toNat : Int) * 281474976710656 + (x7.toNat : Int) * 72057594037927936 := by
    simp only [Lib.leNat]
    push_cast
    omega
  have HV := Lib.hid hv
  clear hv
  obtain ⟨n, hn⟩ : ∃ n, s.size = n := ⟨_, rfl⟩
  rw [hn] at hs ⊢
  clear hr hn
  have q0 : (0 : Int) < (n : Int) := by omega
  have p0 : 0 < n := by omega
  have q1 : (1 : Int) < (n : Int) := by omega
  have p1 : 1 < n := by omega
  have q2 : (2 : Int) < (n : Int) := by omega
  have p2 : 2 < n := by omega
  have q3 : (3 : Int) < (n : Int) := by omega
  have p3 : 3 < n := by omega
  have q4 : (4 : Int) < (n : Int) := by omega
  have p4 : 4 < n := by omega
  have q5 : (5 : Int) < (n : Int) := by omega
  have p5 : 5 < n := by omega
  have q6 : (6 : Int) < (n : Int) := by omega
  have p6 : 6 < n := by omega
  have q7 : (7 : Int) < (n : Int) := by omega
  have p7 : 7 < n := by omega
  go_enter Tryz.func85, Tryz.ntmps85
  go_wp2
  go_quiet (fail)
  go_wp2
  go_ret
  refine ⟨?_, _, rfl⟩
  simp (disch := omega) only [u64_or8, u64_or16, u64_or24, u64_or32, u64_or40, u64_or48, u64_or56]
  rw [HV.out]
  rfl
end Go.Proofs.YtpdhbpdfldfnhaaGreatDoor.Tx
/- of TxWValid -/
/- unicode/utf8.Valid: whether a slice's bytes are UTF-8, for every slice: the library's own text walked; the plain side is Lib.validD. -/
namespace Go.Proofs.YtpdhbpdfldfnhaaGreatDoor.Tx
open Go.RowKit Go.Lib Go.Proofs.YtpdhbpdfldfnhaaGreatDoorW.PrintWords

theorem info5b : ∃ i, Tryz.prog.info? 5 = some i ∧ i.size = 1 := by
  obtain ⟨i, hi, h⟩ := Option.map_eq_some_iff.1 (show (Tryz.prog.info? 5).map (fun i => (i.zero, i.size, i.bytes)) = some (some (.int .u8 0), 1, 1) by kernel_rfl)
  simp only [Prod.mk.injEq] at h
  exact ⟨i, hi, h.2.1⟩

theorem ReadsB.below {w w1 : World} {A : Option Addr} {t : ByteArray} (h : ReadsB w A t) (hb : Below w.heap.size w w1) : ReadsB w1 A t := ReadsInt.below h hb
theorem bytesOf_ext (t : ByteArray) (k : Nat) : bytesOf (t.extract k t.size) = (bytesOf t).drop k := by
  unfold bytesOf
  rw [ext_list, List.map_drop]
/-- p[k:]: what it is, and what it reads. -/
theorem cutB (A : Option Addr) (t : ByteArray) (k : Nat) (hk : k ≤ t.size) (kz : Int) (hz : kz = (k : Int)) :
    ∃ (A' : Option Addr) (t' : ByteArray), t.extract k t.size = t' ∧ t'.size + k = t.size ∧ (∀ W : World, (Instr.slice 22 (.slice A t.size t.size) (some (.int .i64 kz)) none none).run Tryz.prog W = .ok (.slice A' t'.size t'.size) W) ∧
      ∀ w, ReadsB w A t → ReadsB w A' t' := by
  obtain ⟨i, hi, hsz⟩ := info5b
  obtain ⟨A', h1, h2⟩ := print_cut (P := Tryz.prog) 22 5 .i64 Tryz.underlying22 hi hsz A t.size t.size k hk
  refine ⟨A', _, rfl, by rw [ext_size]; omega, fun W => ?_, fun w h => ?_⟩
  · rw [hz, h1, ext_size]
  · have := h2 w .u8 (bytesOf t) (Nat.le_refl _) h
    unfold ReadsB
    rw [bytesOf_ext, ext_size]
    exact this
theorem full3 (A : Option Addr) (n c : Nat) (hn : n ≤ c) : ∀ W : World, (Instr.slice 22 (.slice A n c) none (some (.int .i64 (n : Int))) (some (.int .i64 (n : Int)))).run Tryz.prog W = .ok (.slice A n n) W := by
  intro W
  obtain ⟨i, hi, hsz⟩ := info5b
  have h0 : (0 : Int) ≤ (n : Int) ∧ (n : Int) ≤ (c : Int) := by omega
  have h1 : (0 : Int) ≤ (n : Int) ∧ (n : Int) ≤ (n : Int) := by omega
  have hA : A.map (fun a => a.add 0) = A := by cases A <;> simp [Addr.add]
  simp [Instr.slice, run_underlying Tryz.underlying22, Instr.sliceBounds, Instr.sliceBound, asIntOf, h0, sizeOf, typeInfo, hi, go_sem]
  intro hcn
  omega

set_option maxRecDepth 100000 in
theorem and7 : ∀ X : Fin 256, bits .and .u8 ((X.val : Nat) : Int) 7 = ((X.val % 8 : Nat) : Int) := by decide

/-- A word of eight bytes: its number, what tells of it, and that the mask tells whether all are below 128. -/
theorem word_fact (B : Option Addr) (t : ByteArray) (h : 8 ≤ t.size) :
    ∃ X : Nat, X < 18446744073709551616 ∧ (∀ W, ReadsB W B t → Calls Tryz.prog 85 #[.slice B t.size t.size] W fun e w' => e = .returned (.int .u64 (X : Int)) ∧ ∃ q, w' = W.drewN q) ∧ (X &&& 9259542123273814144 = 0 ↔ Asc t 8) :=
  ⟨_, word_lt t, fun W hr => word_walk B t.size t W hr h, word_asc t h⟩
theorem ReadsB.drewN {w : World} {A : Option Addr} {t : ByteArray} (h : ReadsB w A t) (q : Nat) : ReadsB (w.drewN q) A t := h
theorem cell_of_heap {W w : World} (h : W.heap = w.heap) (a : Addr) : W.cell? a = w.cell? a := by unfold World.cell?; rw [h]
theorem ReadsB.of_heap {W w : World} {A : Option Addr} {t : ByteArray} (hr : ReadsB w A t) (h : W.heap = w.heap) : ReadsB W A t :=
  ⟨hr.1, hr.2.1, fun hn => by
    obtain ⟨ad, e, hc⟩ := hr.2.2 hn
    exact ⟨ad, e, fun j hj => (cell_of_heap h _).trans (hc j hj)⟩⟩
/-- The same, in every world with the same memory. -/
theorem word_heap (B : Option Addr) (t : ByteArray) (h : 8 ≤ t.size) (w : World) (hr : ReadsB w B t) :
    ∃ X : Nat, X < 18446744073709551616 ∧ (∀ W : World, W.heap = w.heap → Calls Tryz.prog 85 #[.slice B t.size t.size] W fun e w' => e = .returned (.int .u64 (X : Int)) ∧ ∃ q, w' = W.drewN q) ∧ (X &&& 9259542123273814144 = 0 ↔ Asc t 8) := by
  obtain ⟨X, h1, h2, h3⟩ := word_fact B t h
  exact ⟨X, h1, fun W hW => h2 W (hr.of_heap hW), h3⟩
theorem below_drewQ {B : Nat} {a w : World} (h : Below B a w) (q : Nat) : Below B a (w.drewN q) := ⟨h.os, h.tape, h.output, h.size, h.block⟩
theorem low_all {t : ByteArray} {a b : Nat} {t2 : ByteArray} (e : t.extract a t.size = t2) (ha : Asc t a) (hb : Asc t2 b) : Asc t (a + b) := asc_add t a b ha (by rw [e]; exact hb)
theorem valid_cut {t t2 : ByteArray} {a : Nat} {ANS : Bool} (e : t.extract a t.size = t2) (ha : Asc t a) (hv : validD t.data.toList = ANS) : validD t2.data.toList = ANS := by rw [← e, valid_skip t a ha]; exact hv

theorem cell_new0 (w : World) (a b : Value) (T : TypeId) : (w.alloc (.cells #[a, b] T)).cell? ⟨w.heap.size, 0, none⟩ = some a := by
  unfold World.cell?
  rw [heap_alloc_new]
  rfl
theorem cell_new1 (w : World) (a b : Value) (T : TypeId) : (w.alloc (.cells #[a, b] T)).cell? ⟨w.heap.size, 1, none⟩ = some b := by
  unfold World.cell?
  rw [heap_alloc_new]
  rfl
theorem lead_at (t : ByteArray) (h0 : 0 < t.size) {x0 x1 x2 x3 : UInt8} {ANS : Bool} (hx0 : t.get! 0 = x0) (hx1 : t.get! 1 = x1) (hx2 : t.get! 2 = x2) (hx3 : t.get! 3 = x3) (hge : 128 ≤ x0.toNat) (hv : Lib.validD t.data.toList = ANS) :
    ANS = match Lib.checkN t.size x1.toNat x2.toNat x3.toNat (Lib.firstT x0.toNat % 8) (Lib.accLo (Lib.firstT x0.toNat / 16)) (Lib.accHi (Lib.firstT x0.toNat / 16)) with
      | none => false
      | some k => Lib.validD (t.data.toList.drop k) := by
  have hne : t.data.toList ≠ [] := fun h => by rw [Lib.size_eq, h] at h0; simp at h0
  have hlead := Lib.validD_lead t.data.toList hne (by rw [Lib.getD_get!', hx0]; exact hge)
  rw [Lib.getD_get!', Lib.getD_get!', Lib.getD_get!', Lib.getD_get!', hx0, hx1, hx2, hx3, ← Lib.size_eq, hv] at hlead
  exact hlead

set_option maxHeartbeats 16000000 in
set_option maxRecDepth 1000000 in
theorem valid_walk (A : Option Addr) (c : Nat) (s : ByteArray) (w : World) (hr : ReadsB w A s) (hc : s.size ≤ c) (hT : Tabs w) :
    Calls Tryz.prog 68 #[.slice A s.size c] w fun e w' => e = .returned (.bool (Lib.validD s.data.toList)) ∧ Below w.heap.size w w' := by
  obtain ⟨ANS, hANS⟩ : ∃ ANS, Lib.validD s.data.toList = ANS := ⟨_, rfl⟩
  rw [hANS]
  have hf3 := full3 A s.size c hc
  have hmax : s.size ≤ 9223372036854775807 := hr.2.1
  go_enter Tryz.func68, Tryz.ntmps68
  go_wp2
  go_loopg [0] (s.size + 1) (fun gk s0 wx => Below w.heap.size w wx ∧ ∃ (B : Option Addr) (t : ByteArray), s0 = .slice B t.size t.size ∧ ReadsB wx B t ∧ Lib.validD t.data.toList = ANS ∧ t.size < gk ∧ t.size ≤ s.size)
  case atStart => exact ⟨Below.refl _ _, A, s, rfl, hr, hANS, by omega, by omega⟩
  case round =>
    obtain ⟨hbw, B, t, rfl, hrd, hv, hg, hts⟩ := hrel
    clear hANS hf3 hr
    have hTr := hT.below hbw
    have hV := Lib.hid hv
    clear hv
    by_cases h0 : 0 < t.size
    · obtain ⟨g', rfl⟩ : ∃ g', gk = g' + 1 := ⟨gk - 1, by omega⟩
      have h0z : (0 : Int) < (t.size : Int) := by omega
      obtain ⟨ad, rfl⟩ := hrd.addr h0
      obtain ⟨x0, hx0⟩ : ∃ x0, t.get! 0 = x0 := ⟨_, rfl⟩
      have c0 := hrd.cell0 h0
      rw [hx0] at c0
      have hx0lt : x0.toNat < 256 := x0.toNat_lt
      by_cases hasc : x0.toNat < 128
      · as_aux_lemma =>
        have hascz : (x0.toNat : Int) < 128 := by omega
        have a1 : Lib.Asc t 1 := Lib.asc_one t h0 (by rw [hx0]; exact hasc)
        obtain ⟨B1, t1, e1, z1, r1, rd1⟩ := cutB (some ad) t 1 (by omega) 1 rfl
        have v1 := Lib.hid (valid_cut e1 a1 hV.out)
        have hrd1 := rd1 wr hrd
        clear hTr hT a1 e1 hx0 rd1
        by_cases c8 : 8 < t1.size
        · have c8z : (8 : Int) < (t1.size : Int) := by omega
          obtain ⟨X1, lX1, cX1, kX1⟩ := word_fact B1 t1 (by omega)
          have hand1 : bits .and .u64 (X1 : Int) 9259542123273814144 = ((X1 &&& 9259542123273814144 : Nat) : Int) := u64_and_nat X1 9259542123273814144 lX1 (by omega)
          obtain ⟨Z1, hZ1⟩ : ∃ Z1, X1 &&& 9259542123273814144 = Z1 := ⟨_, rfl⟩
          rw [hZ1] at hand1 kX1
          have KX1 := Lib.hid kX1
          have CX1 := Lib.hid (cX1 wr hrd1)
          clear kX1 cX1 hZ1
          by_cases hz1 : Z1 = 0
          · have hz1b : ((Z1 : Int) == 0) = true := by simp [hz1]
            have a8 : Lib.Asc t1 8 := KX1.out.1 hz1
            obtain ⟨B2, t2, e2, z2, r2, rd2⟩ := cutB B1 t1 8 (by omega) 8 rfl
            have v2 := Lib.hid (valid_cut e2 a8 v1.out)
            clear a8 e2
            go_wp2_with (go_at_call 85; go_must (refine CX1.out.mono ?_; rintro e W1 ⟨rfl, q1, rfl⟩))
            have hb1 : Below w.heap.size w (wr.drewN q1) := below_drewQ hbw q1
            have hrd2 := rd2 _ (hrd1.drewN q1)
            generalize wr.drewN q1 = wq at hb1 hrd2 ⊢
            clear CX1 hbw rd2 hrd hrd1 r1 r2 c0
            by_cases c16 : 16 < t2.size
            · have c16z : (16 : Int) < (t2.size : Int) := by omega
              obtain ⟨B3, t3, e3, z3, r3, rd3⟩ := cutB B2 t2 8 (by omega) 8 rfl
              have hrd3 := rd3 _ hrd2
              obtain ⟨X2, lX2, cX2, kX2⟩ := word_heap B2 t2 (by omega) wq hrd2
              obtain ⟨X3, lX3, cX3, kX3⟩ := word_heap B3 t3 (by omega) wq hrd3
              have hor2 : bits .or .u64 (X2 : Int) (X3 : Int) = ((X2 ||| X3 : Nat) : Int) := u64_or_nat X2 X3 lX2 lX3
              have lor2 : X2 ||| X3 < 18446744073709551616 := Nat.or_lt_two_pow (n := 64) lX2 lX3
              have hand2 : bits .and .u64 ((X2 ||| X3 : Nat) : Int) 9259542123273814144 = (((X2 ||| X3) &&& 9259542123273814144 : Nat) : Int) := u64_and_nat _ 9259542123273814144 lor2 (by omega)
              have k2 : (X2 ||| X3) &&& 9259542123273814144 = 0 → Lib.Asc t2 16 := fun h => by
                obtain ⟨h2, h3⟩ := (Lib.or_mask X2 X3 _).1 h
                exact low_all (a := 8) (b := 8) e3 (kX2.1 h2) (kX3.1 h3)
              obtain ⟨O2, hO2⟩ : ∃ O2, X2 ||| X3 = O2 := ⟨_, rfl⟩
              rw [hO2] at hor2 hand2 k2
              obtain ⟨Z2, hZ2⟩ : ∃ Z2, O2 &&& 9259542123273814144 = Z2 := ⟨_, rfl⟩
              rw [hZ2] at hand2 k2
              have K2 := Lib.hid k2
              have CX2 := Lib.hid cX2
              have CX3 := Lib.hid cX3
              clear kX2 kX3 cX2 cX3 k2 lor2 hO2 hZ2 e3 rd3
              by_cases hz2 : Z2 = 0
              · have hz2b : ((Z2 : Int) == 0) = true := by simp [hz2]
                obtain ⟨B4, t4, e4, z4, r4, rd4⟩ := cutB B2 t2 16 (by omega) 16 rfl
                have v4 := Lib.hid (valid_cut e4 (K2.out hz2) v2.out)
                have hrd4 := rd4 _ hrd2
                clear e4 rd4
                go_quiet (first | (go_at_call 85; with_reducible refine Calls.quiet_of (CX2.out _ rfl)) | (go_at_call 85; with_reducible refine Calls.quiet_of (CX3.out _ rfl)))
                have hb2 : Below w.heap.size w (wq.drewN nq) := below_drewQ hb1 nq
                have hrd5 := hrd4.drewN nq
                generalize wq.drewN nq = wp at hb2 hrd5 ⊢
                clear CX2 CX3 hb1 hrd2 hrd3 hrd4 r3 K2 lX2 lX3 hor2 hand2 hz2b
                go_wp2
                go_loopg [0] (t4.size + 1) (fun g2 s0 wx => Below w.heap.size w wx ∧ ∃ (B : Option Addr) (u : ByteArray), s0 = .slice B u.size u.size ∧ ReadsB wx B u ∧ Hid (Lib.validD u.data.toList = ANS) ∧ u.size < g2 ∧ u.size ≤ t4.size)
                case atStart => exact ⟨hb2, B4, t4, rfl, hrd5, v4, by omega, Nat.le_refl _⟩
                case round =>
                  obtain ⟨hbu, D0, u, rfl, hru, vu, hgu, hut⟩ := hrel
                  clear hb2 hrd5 r4
                  by_cases c32 : 32 < u.size
                  · obtain ⟨g3, rfl⟩ : ∃ g3, gk = g3 + 1 := ⟨gk - 1, by omega⟩
                    have c32z : (32 : Int) < (u.size : Int) := by omega
                    obtain ⟨D1, u1, f1, y1, s1, k1⟩ := cutB D0 u 8 (by omega) 8 rfl
                    obtain ⟨D2, u2, f2, y2, s2, k2⟩ := cutB D0 u 16 (by omega) 16 rfl
                    obtain ⟨D3, u3, f3, y3, s3, k3⟩ := cutB D0 u 24 (by omega) 24 rfl
                    obtain ⟨Y0, lY0, cY0, kY0⟩ := word_heap D0 u (by omega) _ hru
                    obtain ⟨Y1, lY1, cY1, kY1⟩ := word_heap D1 u1 (by omega) _ (k1 _ hru)
                    obtain ⟨Y2, lY2, cY2, kY2⟩ := word_heap D2 u2 (by omega) _ (k2 _ hru)
                    obtain ⟨Y3, lY3, cY3, kY3⟩ := word_heap D3 u3 (by omega) _ (k3 _ hru)
                    have CY0 := Lib.hid cY0
                    have CY1 := Lib.hid cY1
                    have CY2 := Lib.hid cY2
                    have CY3 := Lib.hid cY3
                    clear cY0 cY1 cY2 cY3 k1 k2 k3
                    have ho1 : bits .or .u64 (Y0 : Int) (Y1 : Int) = ((Y0 ||| Y1 : Nat) : Int) := u64_or_nat Y0 Y1 lY0 lY1
                    have ho2 : bits .or .u64 (Y2 : Int) (Y3 : Int) = ((Y2 ||| Y3 : Nat) : Int) := u64_or_nat Y2 Y3 lY2 lY3
                    have lo1 : Y0 ||| Y1 < 18446744073709551616 := Nat.or_lt_two_pow (n := 64) lY0 lY1
                    have lo2 : Y2 ||| Y3 < 18446744073709551616 := Nat.or_lt_two_pow (n := 64) lY2 lY3
                    have ho3 : bits .or .u64 ((Y0 ||| Y1 : Nat) : Int) ((Y2 ||| Y3 : Nat) : Int) = (((Y0 ||| Y1) ||| (Y2 ||| Y3) : Nat) : Int) := u64_or_nat _ _ lo1 lo2
                    have lo3 : (Y0 ||| Y1) ||| (Y2 ||| Y3) < 18446744073709551616 := Nat.or_lt_two_pow (n := 64) lo1 lo2
                    have hand3 : bits .and .u64 (((Y0 ||| Y1) ||| (Y2 ||| Y3) : Nat) : Int) 9259542123273814144 = ((((Y0 ||| Y1) ||| (Y2 ||| Y3)) &&& 9259542123273814144 : Nat) : Int) := u64_and_nat _ 9259542123273814144 lo3 (by omega)
                    have k3 : ((Y0 ||| Y1) ||| (Y2 ||| Y3)) &&& 9259542123273814144 = 0 → Lib.Asc u 32 := fun h => by
                      obtain ⟨h01, h23⟩ := (Lib.or_mask _ _ _).1 h
                      obtain ⟨h0, h1⟩ := (Lib.or_mask _ _ _).1 h01
                      obtain ⟨h2, h3⟩ := (Lib.or_mask _ _ _).1 h23
                      exact low_all (a := 24) (b := 8) f3 (low_all (a := 16) (b := 8) f2 (low_all (a := 8) (b := 8) f1 (kY0.1 h0) (kY1.1 h1)) (kY2.1 h2)) (kY3.1 h3)
                    obtain ⟨P1, hP1⟩ : ∃ P1, Y0 ||| Y1 = P1 := ⟨_, rfl⟩
                    obtain ⟨P2, hP2⟩ : ∃ P2, Y2 ||| Y3 = P2 := ⟨_, rfl⟩
                    rw [hP1, hP2] at ho3 hand3 k3
                    rw [hP1] at ho1
                    rw [hP2] at ho2
                    obtain ⟨P3, hP3⟩ : ∃ P3, P1 ||| P2 = P3 := ⟨_, rfl⟩
                    rw [hP3] at ho3 hand3 k3
                    obtain ⟨Z3, hZ3⟩ : ∃ Z3, P3 &&& 9259542123273814144 = Z3 := ⟨_, rfl⟩
                    rw [hZ3] at hand3 k3
                    have K3 := Lib.hid k3
                    clear kY0 kY1 kY2 kY3 lo1 lo2 lo3 hP1 hP2 hP3 hZ3 k3 f1 f2 f3
                    by_cases hz3 : Z3 = 0
                    · have hz3b : ((Z3 : Int) == 0) = true := by simp [hz3]
                      obtain ⟨D4, u4, f4, y4, s4, k4⟩ := cutB D0 u 32 (by omega) 32 rfl
                      have vu4 := Lib.hid (valid_cut f4 (K3.out hz3) vu.out)
                      have hru4 := k4 _ hru
                      clear f4 k4
                      go_wp2_with fail
                      go_quiet (first | (go_at_call 85; with_reducible refine Calls.quiet_of (CY0.out _ rfl)) | (go_at_call 85; with_reducible refine Calls.quiet_of (CY1.out _ rfl)) | (go_at_call 85; with_reducible refine Calls.quiet_of (CY2.out _ rfl)) | (go_at_call 85; with_reducible refine Calls.quiet_of (CY3.out _ rfl)))
                      go_wp2
                      go_roundg g3
                      case measure => omega
                      case rel => exact ⟨below_drewQ hbu nq, _, u4, rfl, hru4.drewN nq, vu4, by omega, by omega⟩
                    · have hz3b : ((Z3 : Int) == 0) = false := by simp; omega
                      go_wp2_with fail
                      go_quiet (first | (go_at_call 85; with_reducible refine Calls.quiet_of (CY0.out _ rfl)) | (go_at_call 85; with_reducible refine Calls.quiet_of (CY1.out _ rfl)) | (go_at_call 85; with_reducible refine Calls.quiet_of (CY2.out _ rfl)) | (go_at_call 85; with_reducible refine Calls.quiet_of (CY3.out _ rfl)))
                      go_wp2
                      go_roundg g'
                      case measure => omega
                      case rel => exact ⟨below_drewQ hbu nq, _, u, rfl, hru.drewN nq, vu.out, by omega, by omega⟩
                  · have c32z : ¬ ((32 : Int) < (u.size : Int)) := by omega
                    have c32b : decide ((32 : Int) < (u.size : Int)) = false := decide_eq_false c32z
                    go_wp2_with fail
                    go_quiet (fail)
                    go_wp2
                    go_roundg g'
                    case measure => omega
                    case rel => exact ⟨below_drewQ hbu nq, _, u, rfl, hru.drewN nq, vu.out, by omega, by omega⟩
              · have hz2b : ((Z2 : Int) == 0) = false := by simp; omega
                go_quiet (first | (go_at_call 85; with_reducible refine Calls.quiet_of (CX2.out _ rfl)) | (go_at_call 85; with_reducible refine Calls.quiet_of (CX3.out _ rfl)))
                go_wp2
                go_roundg g'
                case measure => omega
                case rel => exact ⟨below_drewQ hb1 nq, _, t2, rfl, hrd2.drewN nq, v2.out, by omega, by omega⟩
            · have c16z : ¬ ((16 : Int) < (t2.size : Int)) := by omega
              have c16b : decide ((16 : Int) < (t2.size : Int)) = false := decide_eq_false c16z
              go_quiet (fail)
              go_wp2
              go_roundg g'
              case measure => omega
              case rel => exact ⟨below_drewQ hb1 nq, _, t2, rfl, hrd2.drewN nq, v2.out, by omega, by omega⟩
          · have hz1b : ((Z1 : Int) == 0) = false := by simp; omega
            go_wp2_with (go_at_call 85; go_must (refine CX1.out.mono ?_; rintro e W1 ⟨rfl, q1, rfl⟩))
            go_roundg g'
            case measure => omega
            case rel => exact ⟨below_drewQ hbw q1, _, t1, rfl, hrd1.drewN q1, v1.out, by omega, by omega⟩
        · have c8z : ¬ ((8 : Int) < (t1.size : Int)) := by omega
          go_wp2
          go_roundg g'
          case measure => omega
          case rel => exact ⟨hbw, _, t1, rfl, hrd1, v1.out, by omega, by omega⟩
      · have hge : 128 ≤ x0.toNat := by omega
        have hascz : ¬ ((x0.toNat : Int) < 128) := by omega
        obtain ⟨x1, hx1⟩ : ∃ x1, t.get! 1 = x1 := ⟨_, rfl⟩
        obtain ⟨x2, hx2⟩ : ∃ x2, t.get! 2 = x2 := ⟨_, rfl⟩
        obtain ⟨x3, hx3⟩ : ∃ x3, t.get! 3 = x3 := ⟨_, rfl⟩
        have l1 := x1.toNat_lt; have l2 := x2.toNat_lt; have l3 := x3.toNat_lt
        have hlead := lead_at t h0 hx0 hx1 hx2 hx3 hge hV.out
        have hc0 := hTr.u8.1 x0.toNat hx0lt
        have hXlt : Lib.firstT x0.toNat < 256 := by rcases Lib.firstT_cases x0.toNat with h | h | h | h | h | h | h | h | h <;> omega
        obtain ⟨X, hX⟩ : ∃ X, Lib.firstT x0.toNat = X := ⟨_, rfl⟩
        rw [hX] at hc0 hXlt hlead
        have h7 := and7 ⟨X, hXlt⟩
        simp only at h7
        have ha0 : wr.cell? ⟨2, X / 16 * 2, none⟩ = some (.int .u8 (Lib.accLo (X / 16))) := by rw [Nat.mul_comm]; exact (hTr.u8.2 (X / 16) (by omega)).1
        have ha1 : wr.cell? ⟨2, X / 16 * 2 + 1, none⟩ = some (.int .u8 (Lib.accHi (X / 16))) := by rw [Nat.mul_comm]; exact (hTr.u8.2 (X / 16) (by omega)).2
        obtain ⟨LO, hLO⟩ : ∃ LO, Lib.accLo (X / 16) = LO := ⟨_, rfl⟩
        obtain ⟨HI, hHI⟩ : ∃ HI, Lib.accHi (X / 16) = HI := ⟨_, rfl⟩
        rw [hLO] at ha0 hlead
        rw [hHI] at ha1 hlead
        obtain ⟨SZ, hSZ⟩ : ∃ SZ, X % 8 = SZ := ⟨_, rfl⟩
        rw [hSZ] at hlead
        clear hTr hT hX hLO hHI
        by_cases s2 : SZ = 2
        · as_aux_lemma =>
          subst s2
          have hSZz : (X : Int) % 8 = 2 := by omega
          simp only [Lib.checkN, Nat.reduceEqDiff, if_true, if_false] at hlead
          replace hlead : ANS = if t.size < 2 ∨ x1.toNat < LO ∨ HI < x1.toNat then false else Lib.validD (t.data.toList.drop 2) := by
            rw [hlead]
            by_cases hh : t.size < 2 ∨ x1.toNat < LO ∨ HI < x1.toNat
            · rw [if_pos hh, if_pos hh]
            · rw [if_neg hh, if_neg hh]
          have hbz : Below w.heap.size w (wr.alloc (.cells #[.int .u8 (LO : Int), .int .u8 (HI : Int)] 103)) := hbw.alloc hbw.size _
          have hrz := hrd.below ((Below.refl wr.heap.size wr).alloc (Nat.le_refl _) (.cells #[.int .u8 (LO : Int), .int .u8 (HI : Int)] 103))
          have hz0 := cell_new0 wr (.int .u8 (LO : Int)) (.int .u8 (HI : Int)) 103
          have hz9 := cell_new1 wr (.int .u8 (LO : Int)) (.int .u8 (HI : Int)) 103
          go_wp2_with fail
          generalize wr.alloc (.cells #[.int .u8 (LO : Int), .int .u8 (HI : Int)] 103) = wz at hbz hrz hz0 hz9 ⊢
          obtain ⟨bz, hbzz⟩ : ∃ bz, wr.heap.size = bz := ⟨_, rfl⟩
          rw [hbzz] at hz0 hz9 ⊢
          clear hbzz c0 hc0 ha0 ha1 hbw hrd
          by_cases q0 : t.size < 2
          · have q0z : ((t.size : Int) < 2) := by omega
            rw [if_pos (by omega)] at hlead
            have HL := Lib.hid hlead
            clear hlead
            go_quiet (fail)
            go_wp2
            go_ret
            exact ⟨by show Ending.returned (.bool false) = _; rw [HL.out], below_drewQ hbz _⟩
          · have q0z : ¬ ((t.size : Int) < 2) := by omega
            have hz1 : (1 : Int) < (t.size : Int) := by omega
            have hp1 : 1 < t.size := by omega
            have c1 := hrz.cellS 0 (by omega)
            rw [hx1] at c1
            by_cases q1 : x1.toNat < LO
            · have q1z : ((x1.toNat : Int) < (LO : Int)) := by omega
              rw [if_pos (by omega)] at hlead
              have HL := Lib.hid hlead
              clear hlead
              go_quiet (fail)
              go_wp2
              go_ret
              exact ⟨by show Ending.returned (.bool false) = _; rw [HL.out], below_drewQ hbz _⟩
            · have q1z : ¬ ((x1.toNat : Int) < (LO : Int)) := by omega
              by_cases q2 : HI < x1.toNat
              · have q2z : ((HI : Int) < (x1.toNat : Int)) := by omega
                rw [if_pos (by omega)] at hlead
                have HL := Lib.hid hlead
                clear hlead
                go_quiet (fail)
                go_wp2
                go_ret
                exact ⟨by show Ending.returned (.bool false) = _; rw [HL.out], below_drewQ hbz _⟩
              · have q2z : ¬ ((HI : Int) < (x1.toNat : Int)) := by omega
                rw [if_neg (by omega)] at hlead
                obtain ⟨B1, t1, e1, z1, r1, rd1⟩ := cutB (some ad) t 2 (by omega) 2 rfl
                have v1 : Hid (Lib.validD t1.data.toList = ANS) := by
                  have e := hlead.symm
                  rw [← ext_list, e1] at e
                  exact e
                clear hlead e1
                go_quiet (fail)
                have hr9 := rd1 _ (hrz.drewN nq)
                go_wp2
                go_roundg g'
                case measure => omega
                case rel => exact ⟨below_drewQ hbz nq, _, t1, rfl, hr9, v1.out, by omega, by omega⟩
        by_cases s3 : SZ = 3
        · as_aux_lemma =>
          subst s3
          have hSZz : (X : Int) % 8 = 3 := by omega
          simp only [Lib.checkN, Nat.reduceEqDiff, if_true, if_false] at hlead
          replace hlead : ANS = if t.size < 3 ∨ x1.toNat < LO ∨ HI < x1.toNat ∨ x2.toNat < 128 ∨ 191 < x2.toNat then false else Lib.validD (t.data.toList.drop 3) := by
            rw [hlead]
            by_cases hh : t.size < 3 ∨ x1.toNat < LO ∨ HI < x1.toNat ∨ x2.toNat < 128 ∨ 191 < x2.toNat
            · rw [if_pos hh, if_pos hh]
            · rw [if_neg hh, if_neg hh]
          have hbz : Below w.heap.size w (wr.alloc (.cells #[.int .u8 (LO : Int), .int .u8 (HI : Int)] 103)) := hbw.alloc hbw.size _
          have hrz := hrd.below ((Below.refl wr.heap.size wr).alloc (Nat.le_refl _) (.cells #[.int .u8 (LO : Int), .int .u8 (HI : Int)] 103))
          have hz0 := cell_new0 wr (.int .u8 (LO : Int)) (.int .u8 (HI : Int)) 103
          have hz9 := cell_new1 wr (.int .u8 (LO : Int)) (.int .u8 (HI : Int)) 103
          go_wp2_with fail
          generalize wr.alloc (.cells #[.int .u8 (LO : Int), .int .u8 (HI : Int)] 103) = wz at hbz hrz hz0 hz9 ⊢
          obtain ⟨bz, hbzz⟩ : ∃ bz, wr.heap.size = bz := ⟨_, rfl⟩
          rw [hbzz] at hz0 hz9 ⊢
          clear hbzz c0 hc0 ha0 ha1 hbw hrd
          by_cases q0 : t.size < 3
          · have q0z : ((t.size : Int) < 3) := by omega
            rw [if_pos (by omega)] at hlead
            have HL := Lib.hid hlead
            clear hlead
            go_quiet (fail)
            go_wp2
            go_ret
            exact ⟨by show Ending.returned (.bool false) = _; rw [HL.out], below_drewQ hbz _⟩
          · have q0z : ¬ ((t.size : Int) < 3) := by omega
            have hz1 : (1 : Int) < (t.size : Int) := by omega
            have hp1 : 1 < t.size := by omega
            have c1 := hrz.cellS 0 (by omega)
            rw [hx1] at c1
            have hz2 : (2 : Int) < (t.size : Int) := by omega
            have hp2 : 2 < t.size := by omega
            have c2 := hrz.cellS 1 (by omega)
            rw [hx2] at c2
            by_cases q1 : x1.toNat < LO
            · have q1z : ((x1.toNat : Int) < (LO : Int)) := by omega
              rw [if_pos (by omega)] at hlead
              have HL := Lib.hid hlead
              clear hlead
              go_quiet (fail)
              go_wp2
              go_ret
              exact ⟨by show Ending.returned (.bool false) = _; rw [HL.out], below_drewQ hbz _⟩
            · have q1z : ¬ ((x1.toNat : Int) < (LO : Int)) := by omega
              by_cases q2 : HI < x1.toNat
              · have q2z : ((HI : Int) < (x1.toNat : Int)) := by omega
                rw [if_pos (by omega)] at hlead
                have HL := Lib.hid hlead
                clear hlead
                go_quiet (fail)
                go_wp2
                go_ret
                exact ⟨by show Ending.returned (.bool false) = _; rw [HL.out], below_drewQ hbz _⟩
              · have q2z : ¬ ((HI : Int) < (x1.toNat : Int)) := by omega
                by_cases q3 : x2.toNat < 128
                · have q3z : ((x2.toNat : Int) < 128) := by omega
                  rw [if_pos (by omega)] at hlead
                  have HL := Lib.hid hlead
                  clear hlead
                  go_quiet (fail)
                  go_wp2
                  go_ret
                  exact ⟨by show Ending.returned (.bool false) = _; rw [HL.out], below_drewQ hbz _⟩
                · have q3z : ¬ ((x2.toNat : Int) < 128) := by omega
                  by_cases q4 : 191 < x2.toNat
                  · have q4z : ((191 : Int) < (x2.toNat : Int)) := by omega
                    rw [if_pos (by omega)] at hlead
                    have HL := Lib.hid hlead
                    clear hlead
                    go_quiet (fail)
                    go_wp2
                    go_ret
                    exact ⟨by show Ending.returned (.bool false) = _; rw [HL.out], below_drewQ hbz _⟩
                  · have q4z : ¬ ((191 : Int) < (x2.toNat : Int)) := by omega
                    rw [if_neg (by omega)] at hlead
                    obtain ⟨B1, t1, e1, z1, r1, rd1⟩ := cutB (some ad) t 3 (by omega) 3 rfl
                    have v1 : Hid (Lib.validD t1.data.toList = ANS) := by
                      have e := hlead.symm
                      rw [← ext_list, e1] at e
                      exact e
                    clear hlead e1
                    go_quiet (fail)
                    have hr9 := rd1 _ (hrz.drewN nq)
                    go_wp2
                    go_roundg g'
                    case measure => omega
                    case rel => exact ⟨below_drewQ hbz nq, _, t1, rfl, hr9, v1.out, by omega, by omega⟩
        by_cases s4 : SZ = 4
        · as_aux_lemma =>
          subst s4
          have hSZz : (X : Int) % 8 = 4 := by omega
          simp only [Lib.checkN, Nat.reduceEqDiff, if_true, if_false] at hlead
          replace hlead : ANS = if t.size < 4 ∨ x1.toNat < LO ∨ HI < x1.toNat ∨ x2.toNat < 128 ∨ 191 < x2.toNat ∨ x3.toNat < 128 ∨ 191 < x3.toNat then false else Lib.validD (t.data.toList.drop 4) := by
            rw [hlead]
            by_cases hh : t.size < 4 ∨ x1.toNat < LO ∨ HI < x1.toNat ∨ x2.toNat < 128 ∨ 191 < x2.toNat ∨ x3.toNat < 128 ∨ 191 < x3.toNat
            · rw [if_pos hh, if_pos hh]
            · rw [if_neg hh, if_neg hh]
          have hbz : Below w.heap.size w (wr.alloc (.cells #[.int .u8 (LO : Int), .int .u8 (HI : Int)] 103)) := hbw.alloc hbw.size _
          have hrz := hrd.below ((Below.refl wr.heap.size wr).alloc (Nat.le_refl _) (.cells #[.int .u8 (LO : Int), .int .u8 (HI : Int)] 103))
          have hz0 := cell_new0 wr (.int .u8 (LO : Int)) (.int .u8 (HI : Int)) 103
          have hz9 := cell_new1 wr (.int .u8 (LO : Int)) (.int .u8 (HI : Int)) 103
          go_wp2_with fail
          generalize wr.alloc (.cells #[.int .u8 (LO : Int), .int .u8 (HI : Int)] 103) = wz at hbz hrz hz0 hz9 ⊢
          obtain ⟨bz, hbzz⟩ : ∃ bz, wr.heap.size = bz := ⟨_, rfl⟩
          rw [hbzz] at hz0 hz9 ⊢
          clear hbzz c0 hc0 ha0 ha1 hbw hrd
          by_cases q0 : t.size < 4
          · have q0z : ((t.size : Int) < 4) := by omega
            rw [if_pos (by omega)] at hlead
            have HL := Lib.hid hlead
            clear hlead
            go_quiet (fail)
            go_wp2
            go_ret
            exact ⟨by show Ending.returned (.bool false) = _; rw [HL.out], below_drewQ hbz _⟩
          · have q0z : ¬ ((t.size : Int) < 4) := by omega
            have hz1 : (1 : Int) < (t.size : Int) := by omega
            have hp1 : 1 < t.size := by omega
            have c1 := hrz.cellS 0 (by omega)
            rw [hx1] at c1
            have hz2 : (2 : Int) < (t.size : Int) := by omega
            have hp2 : 2 < t.size := by omega
            have c2 := hrz.cellS 1 (by omega)
            rw [hx2] at c2
            have hz3 : (3 : Int) < (t.size : Int) := by omega
            have hp3 : 3 < t.size := by omega
            have c3 := hrz.cellS 2 (by omega)
            rw [hx3] at c3
            by_cases q1 : x1.toNat < LO
            · have q1z : ((x1.toNat : Int) < (LO : Int)) := by omega
              rw [if_pos (by omega)] at hlead
              have HL := Lib.hid hlead
              clear hlead
              go_quiet (fail)
              go_wp2
              go_ret
              exact ⟨by show Ending.returned (.bool false) = _; rw [HL.out], below_drewQ hbz _⟩
            · have q1z : ¬ ((x1.toNat : Int) < (LO : Int)) := by omega
              by_cases q2 : HI < x1.toNat
              · have q2z : ((HI : Int) < (x1.toNat : Int)) := by omega
                rw [if_pos (by omega)] at hlead
                have HL := Lib.hid hlead
                clear hlead
                go_quiet (fail)
                go_wp2
                go_ret
                exact ⟨by show Ending.returned (.bool false) = _; rw [HL.out], below_drewQ hbz _⟩
              · have q2z : ¬ ((HI : Int) < (x1.toNat : Int)) := by omega
                by_cases q3 : x2.toNat < 128
                · have q3z : ((x2.toNat : Int) < 128) := by omega
                  rw [if_pos (by omega)] at hlead
                  have HL := Lib.hid hlead
                  clear hlead
                  go_quiet (fail)
                  go_wp2
                  go_ret
                  exact ⟨by show Ending.returned (.bool false) = _; rw [HL.out], below_drewQ hbz _⟩
                · have q3z : ¬ ((x2.toNat : Int) < 128) := by omega
                  by_cases q4 : 191 < x2.toNat
                  · have q4z : ((191 : Int) < (x2.toNat : Int)) := by omega
                    rw [if_pos (by omega)] at hlead
                    have HL := Lib.hid hlead
                    clear hlead
                    go_quiet (fail)
                    go_wp2
                    go_ret
                    exact ⟨by show Ending.returned (.bool false) = _; rw [HL.out], below_drewQ hbz _⟩
                  · have q4z : ¬ ((191 : Int) < (x2.toNat : Int)) := by omega
                    by_cases q5 : x3.toNat < 128
                    · have q5z : ((x3.toNat : Int) < 128) := by omega
                      rw [if_pos (by omega)] at hlead
                      have HL := Lib.hid hlead
                      clear hlead
                      go_quiet (fail)
                      go_wp2
                      go_ret
                      exact ⟨by show Ending.returned (.bool false) = _; rw [HL.out], below_drewQ hbz _⟩
                    · have q5z : ¬ ((x3.toNat : Int) < 128) := by omega
                      by_cases q6 : 191 < x3.toNat
                      · have q6z : ((191 : Int) < (x3.toNat : Int)) := by omega
                        rw [if_pos (by omega)] at hlead
                        have HL := Lib.hid hlead
                        clear hlead
                        go_quiet (fail)
                        go_wp2
                        go_ret
                        exact ⟨by show Ending.returned (.bool false) = _; rw [HL.out], below_drewQ hbz _⟩
                      · have q6z : ¬ ((191 : Int) < (x3.toNat : Int)) := by omega
                        rw [if_neg (by omega)] at hlead
                        obtain ⟨B1, t1, e1, z1, r1, rd1⟩ := cutB (some ad) t 4 (by omega) 4 rfl
                        have v1 : Hid (Lib.validD t1.data.toList = ANS) := by
                          have e := hlead.symm
                          rw [← ext_list, e1] at e
                          exact e
                        clear hlead e1
                        go_quiet (fail)
                        have hr9 := rd1 _ (hrz.drewN nq)
                        go_wp2
                        go_roundg g'
                        case measure => omega
                        case rel => exact ⟨below_drewQ hbz nq, _, t1, rfl, hr9, v1.out, by omega, by omega⟩
        have hn2 : ((X : Int) % 8 == 2) = false := by simp; omega
        have hn3 : ((X : Int) % 8 == 3) = false := by simp; omega
        have hn4 : ((X : Int) % 8 == 4) = false := by simp; omega
        have hbad : ANS = false := by rw [hlead]; unfold Lib.checkN; rw [if_neg s2, if_neg s3, if_neg s4]
        have HB := Lib.hid hbad
        clear hbad hlead
        go_wp2
        go_ret
        exact ⟨by show Ending.returned (.bool false) = _; rw [HB.out], hbw.alloc hbw.size _⟩
    · have h0z : ¬ ((0 : Int) < (t.size : Int)) := by omega
      go_wp2
      go_ret
      refine ⟨?_, hbw⟩
      have : t.data.toList = [] := by
        have := list_length t
        exact List.eq_nil_of_length_eq_zero (by omega)
      have e := hV.out
      rw [this] at e
      rw [← e]
      rfl
end Go.Proofs.YtpdhbpdfldfnhaaGreatDoor.Tx
/- of TxWWide -/
/- text.wide: what it answers, for every slice of bytes: pairs of bytes as characters. -/
namespace Go.Proofs.YtpdhbpdfldfnhaaGreatDoor.Tx
open Go.RowKit Go.Lib Go.Proofs.YtpdhbpdfldfnhaaGreatDoorW.PrintWords

def wideL : List Int → Option (List Int)
  | [] => some []
  | [_] => none
  | a :: b :: r => if 55296 ≤ a * 256 + b ∧ a * 256 + b < 57344 then none else (wideL r).map (encodeRuneZ (a * 256 + b) ++ ·)
theorem wideL_odd : ∀ (l : List Int), l.length % 2 = 1 → wideL l = none
  | [], h => by simp at h
  | [_], _ => rfl
  | a :: b :: r, h => by
    unfold wideL
    rw [wideL_odd r (by simp at h; omega)]
    simp
theorem wideL_two (l : List Int) (h : 2 ≤ l.length) : wideL l = if 55296 ≤ l.getD 0 0 * 256 + l.getD 1 0 ∧ l.getD 0 0 * 256 + l.getD 1 0 < 57344 then none else (wideL (l.drop 2)).map (encodeRuneZ (l.getD 0 0 * 256 + l.getD 1 0) ++ ·) := by
  match l, h with
  | a :: b :: r, _ => rfl
def wideS (l : List Int) : ByteArray := match wideL l with
  | some x => strOfNums x
  | none => ⟨#[]⟩
def wideE (l : List Int) : Int := if (wideL l).isSome then 0 else 60

theorem info5w : (Tryz.prog.info? 5).map (fun i => (i.zero, i.size, i.bytes)) = some (some (.int .u8 0), 1, 1) := by kernel_rfl
theorem runeCells_nums (r : Int) : runeCells r = nums .u8 (encodeRuneZ r) := rfl

theorem byte_at {l : List Int} (h : ∀ x ∈ l, 0 ≤ x ∧ x < 256) (i : Nat) (hi : i < l.length) : 0 ≤ l.getD i 0 ∧ l.getD i 0 < 256 := by
  rw [List.getD_eq_getElem?_getD, List.getElem?_eq_getElem hi]
  exact h _ (List.getElem_mem hi)
theorem wide_step (l acc : List Int) (i : Nat) (hi : i + 2 ≤ l.length) {a b : Int} (ha : l.getD i 0 = a) (hb : l.getD (i + 1) 0 = b) (h : wideL l = (wideL (l.drop i)).map (acc ++ ·)) :
    wideL l = if 55296 ≤ a * 256 + b ∧ a * 256 + b < 57344 then none else (wideL (l.drop (i + 2))).map ((acc ++ encodeRuneZ (a * 256 + b)) ++ ·) := by
  have e := wideL_two (l.drop i) (by rw [List.length_drop]; omega)
  have e0 : (l.drop i).getD 0 0 = a := by rw [← ha]; simp [List.getD_eq_getElem?_getD, List.getElem?_drop]
  have e1 : (l.drop i).getD 1 0 = b := by rw [← hb]; simp [List.getD_eq_getElem?_getD, List.getElem?_drop]
  rw [e0, e1, List.drop_drop] at e
  rw [h, e]
  split
  · rfl
  · rw [Option.map_map]
    congr 1
    funext x
    simp
set_option maxHeartbeats 4000000 in
set_option maxRecDepth 100000 in
theorem wide_walk (A : Option Addr) (c : Nat) (l : List Int) (w : World) (hr : ReadsInt w .u8 A l.length l) (hc : l.length ≤ c) (hl : l.length ≤ 35184372088832) (hb : ∀ x ∈ l, 0 ≤ x ∧ x < 256) :
    Calls Tryz.prog 67 #[.slice A l.length c] w fun e w' => e = .returned (.tuple #[.string (wideS l), .int .i64 (wideE l)]) ∧ Below w.heap.size w w' := by
  obtain ⟨i0, hi, hz0, hz1, hz2⟩ := info_parts info5w
  by_cases hodd : l.length % 2 = 1
  · have hoz : ((l.length : Int) % 2 != 0) = true := by simp; omega
    have he : wideS l = ⟨#[]⟩ ∧ wideE l = 60 := by
      unfold wideS wideE
      rw [wideL_odd l hodd]
      exact ⟨rfl, rfl⟩
    have HE := Lib.hid he
    clear he hr
    go_enter Tryz.func67, Tryz.ntmps67
    go_wp2
    go_ret2
    exact ⟨by rw [HE.out.1, HE.out.2]; rfl, Below.refl _ _⟩
  · have hoz : ((l.length : Int) % 2 != 0) = false := by simp; omega
    have hev : l.length % 2 = 0 := by omega
    go_enter Tryz.func67, Tryz.ntmps67
    go_wp2_with (at_make; refine wpList_make_own _ rfl _ _ 22 rfl w.heap.size 5 i0 (.int .u8 0) 1 Tryz.underlying22 hi hz0 hz1 .i64 .i64 _ (l.length * 2) rfl rfl (by omega) (by rw [hz2]; omega) (by unfold maxLen; omega) (Nat.le_refl _) ?_)
    intro w1 hown1 hgrow1
    have hb1 : Below w.heap.size w w1 := (Below.refl _ w).grown hgrow1 (Nat.le_refl _) (by simp)
    go_wp2
    obtain ⟨n, hn⟩ : ∃ n, l.length = n := ⟨_, rfl⟩
    have HN := Lib.hid hn
    rw [hn] at hr hc hl hoz hev hown1 ⊢
    clear hn
    have HB := Lib.hid hb
    have HR := Lib.hid hr
    clear hb hr
    go_loopw [4, 5] (fun v iv wr => ∃ (i : Nat) (acc : List Int), i ≤ n ∧ i % 2 = 0 ∧ iv = .int .i64 (i : Int) ∧ wr.ownsRow w.heap.size 5 1 v acc.length (nums .u8 acc) ∧ Below w.heap.size w wr ∧ acc.length ≤ 2 * i ∧ Hid (wideL l = (wideL (l.drop i)).map (acc ++ ·))) (fun _ iv _ => n - (RowKit.intOf iv).toNat)
    case atStart => exact ⟨0, [], by omega, rfl, rfl, hown1, hb1, by simp, by show _ = _; simp⟩
    case round =>
      obtain ⟨i, acc, hk, hie, rfl, hown, hbl, hac, hrun⟩ := hrel
      clear hown1 hgrow1
      by_cases hlt : i < n
      · have hlz : (i : Int) < (n : Int) := by omega
        have hlt1 : i + 1 < n := by omega
        have hlz1 : (i : Int) + 1 < (n : Int) := by omega
        have hrr := ReadsInt.below HR.out hbl
        obtain ⟨ad, rfl, hcell⟩ := hrr.2.2 (by omega)
        have hca := hcell i (by omega)
        have hcb := hcell (i + 1) (by omega)
        have hka : l.length = n := HN.out
        obtain ⟨a, ha⟩ : ∃ a, l.getD i 0 = a := ⟨_, rfl⟩
        obtain ⟨b, hbb⟩ : ∃ b, l.getD (i + 1) 0 = b := ⟨_, rfl⟩
        have hab := byte_at HB.out i (by omega)
        have hbb2 := byte_at HB.out (i + 1) (by omega)
        rw [ha] at hca hab
        rw [hbb] at hcb hbb2
        have hcb' := hcb
        unfold Addr.add at hcb'
        rw [if_neg (by omega)] at hcb'
        have hstep := Lib.hid (wide_step l acc i (by omega) ha hbb hrun.out)
        obtain ⟨ha0, ha1⟩ := hab
        obtain ⟨hb0, hb1'⟩ := hbb2
        clear hrr hcell ha hbb hka
        obtain ⟨C, hC⟩ : ∃ C, a * 256 + b = C := ⟨_, rfl⟩
        have hor : bits .or .i32 (a * 256) b = C := by
          rw [bits_join .i32 31 (by decide) wraps_i32 8 (a * 256) b (by omega) (by omega) (by omega) hb0 (by omega) (by omega), hC]
        have hC0 : 0 ≤ C := by omega
        have hC1 : C < 65536 := by omega
        rw [hC] at hstep
        clear hC
        by_cases hsur : 55296 ≤ C ∧ C < 57344
        · have he : wideS l = ⟨#[]⟩ ∧ wideE l = 60 := by
            unfold wideS wideE
            rw [hstep.out, if_pos hsur]
            exact ⟨rfl, rfl⟩
          have HE := Lib.hid he
          obtain ⟨hs0, hs1⟩ := hsur
          clear he hstep hrun
          go_wp2
          go_quiet (fail)
          go_wp2
          go_ret2
          exact ⟨by rw [HE.out.1, HE.out.2]; rfl, ⟨hbl.os, hbl.tape, hbl.output, hbl.size, hbl.block⟩⟩
        · have hs2 := hstep.out
          rw [if_neg hsur] at hs2
          have HS := Lib.hid hs2
          obtain ⟨A2, c2, rfl⟩ := own_slice hown
          have hsur2 : C < 55296 ∨ 57344 ≤ C := by omega
          clear hs2 hstep hrun hsur
          rcases hsur2 with hs0 | hs0
          · go_wp2
            go_quiet (fail)
            have hown2 : (wr.drewN nq).ownsRow w.heap.size 5 1 (.slice A2 acc.length c2) acc.length (nums .u8 acc) := hown
            have hbl2 : Below w.heap.size w (wr.drewN nq) := ⟨hbl.os, hbl.tape, hbl.output, hbl.size, hbl.block⟩
            generalize wr.drewN nq = wq at hown2 hbl2 ⊢
            go_wp2_with (go_at_call 71; go_must (refine (Tryz.utf8_AppendRune_plain w.heap.size (.slice A2 acc.length c2) _ _ C (by omega) (by omega) _ hown2 (by omega) hbl2.size).mono ?_; rintro e w4 ⟨v4, rfl, hown4, o4, hgrow4⟩))
            have hbl4 : Below w.heap.size w w4 := (hbl2.alloc hbl2.size o4).grown hgrow4 (by simp; have := hbl2.size; omega) (fun k hk => own_base hown2 k hk)
            rw [runeCells_nums, ← nums_append, nums_length] at hown4
            have hlen := encodeRuneZ_length C
            go_roundw
            case rel => exact ⟨i + 2, acc ++ encodeRuneZ C, by omega, by omega, by go_num, by rw [List.length_append]; exact hown4, hbl4, by rw [List.length_append]; omega, HS.out⟩
            case measure => simp [RowKit.intOf]; omega
          · go_wp2
            go_quiet (fail)
            have hown2 : (wr.drewN nq).ownsRow w.heap.size 5 1 (.slice A2 acc.length c2) acc.length (nums .u8 acc) := hown
            have hbl2 : Below w.heap.size w (wr.drewN nq) := ⟨hbl.os, hbl.tape, hbl.output, hbl.size, hbl.block⟩
            generalize wr.drewN nq = wq at hown2 hbl2 ⊢
            go_wp2_with (go_at_call 71; go_must (refine (Tryz.utf8_AppendRune_plain w.heap.size (.slice A2 acc.length c2) _ _ C (by omega) (by omega) _ hown2 (by omega) hbl2.size).mono ?_; rintro e w4 ⟨v4, rfl, hown4, o4, hgrow4⟩))
            have hbl4 : Below w.heap.size w w4 := (hbl2.alloc hbl2.size o4).grown hgrow4 (by simp; have := hbl2.size; omega) (fun k hk => own_base hown2 k hk)
            rw [runeCells_nums, ← nums_append, nums_length] at hown4
            have hlen := encodeRuneZ_length C
            go_roundw
            case rel => exact ⟨i + 2, acc ++ encodeRuneZ C, by omega, by omega, by go_num, by rw [List.length_append]; exact hown4, hbl4, by rw [List.length_append]; omega, HS.out⟩
            case measure => simp [RowKit.intOf]; omega
      · have hlz : ¬ ((i : Int) < (n : Int)) := by omega
        obtain ⟨A2, c2, rfl⟩ := own_slice hown
        have hcv := own_string (P := Tryz.prog) (src := 22) (dst := 9) Tryz.underlying22 Tryz.underlying5 Tryz.underlying9 hown
        have hd : l.drop i = [] := List.drop_of_length_le (by have := HN.out; omega)
        have hr := hrun.out
        rw [hd] at hr
        have he : wideS l = strOfNums acc ∧ wideE l = 0 := by
          unfold wideS wideE
          rw [hr]
          simp [wideL]
        have HE := Lib.hid he
        clear he hr hd
        go_wp2
        go_ret2
        exact ⟨by rw [HE.out.1, HE.out.2]; rfl, hbl⟩
end Go.Proofs.YtpdhbpdfldfnhaaGreatDoor.Tx
/- of TxHand -/
/- The functions that are taken by hand: what each answers, in the form in which a printed function is called. -/
namespace Go.Proofs.YtpdhbpdfldfnhaaGreatDoor.Tx
open Go.RowKit Go.Lib Go.Proofs.YtpdhbpdfldfnhaaGreatDoorW.PrintWords

def okBytes (l : List Int) : Bool := l.all fun x => decide (0 ≤ x ∧ x < 256)
theorem okBytes_iff (l : List Int) : okBytes l = true ↔ ∀ x ∈ l, 0 ≤ x ∧ x < 256 := by simp [okBytes]
theorem bts_eq (s : ByteArray) : bts s = bytesOf s := rfl
theorem toNums (l : List Int) (h : ∀ x ∈ l, 0 ≤ x ∧ x < 256) : bytesOf (strOfNums l) = l := by
  unfold bytesOf strOfNums
  simp only [List.map_map]
  conv => rhs; rw [← List.map_id l]
  apply List.map_congr_left
  intro x hx
  obtain ⟨h0, h1⟩ := h x hx
  simp only [Function.comp, UInt8.toNat_ofNat', id_eq]
  omega
theorem strOfNums_size (l : List Int) : (strOfNums l).size = l.length := by
  rw [← data_length]
  simp [strOfNums]

theorem reads_of_C {w : World} {A : Option Addr} {l : List Int} (h : Kd.C (Kd.int .u8) w A l.length l) : ReadsInt w .u8 A l.length l := Kd.reads_of_C (d := (0 : Int)) h

/-- strings.IndexByte. -/
def index_f (a0 : ByteArray) (a1 : Int) : Option Int := if 0 ≤ a1 ∧ a1 < 256 then some (Lib.indexByte a0.data.toList a1.toNat.toUInt8) else none
theorem index_calls (a0 : ByteArray) (a1 r : Int) (w : World) (h : index_f a0 a1 = some r) : Calls Tryz.prog 86 #[.string a0, .int .u8 a1] w fun e w' => e = .returned (.int .i64 r) ∧ Drawn0 w w' := by
  unfold index_f at h
  split at h
  · cases h
    exact (Tryz.strings_IndexByte a0 a1 w).mono fun e w' ⟨he, hw⟩ => ⟨he, by subst hw; exact Drawn0.refl _⟩
  · cases h

/-- text.Fold. -/
def fold_f (a0 : ByteArray) : Option ByteArray := if a0.size ≤ 35184372088832 then some (strOfNums (foldL (bytesOf a0))) else none
theorem fold_calls (a0 r : ByteArray) (w : World) (hT : Tabs w) (h : fold_f a0 = some r) : Calls Tryz.prog 61 #[.string a0] w fun e w' => e = .returned (.string r) ∧ Below w.heap.size w w' := by
  unfold fold_f at h
  split at h
  · rename_i hs
    cases h
    exact fold_walk a0 w hs hT
  · cases h

/-- text.wide. -/
def wide_f (l0 : List Int) : Option (ByteArray × Int) := if l0.length ≤ 35184372088832 ∧ okBytes l0 = true then some (wideS l0, wideE l0) else none
theorem wide_calls (A0 : Option Addr) (c0 : Nat) (l0 : List Int) (r1 : ByteArray) (r2 : Int) (w : World) (hr0 : Kd.C (Kd.int .u8) w A0 l0.length l0) (hc0 : l0.length ≤ c0) (h : wide_f l0 = some (r1, r2)) :
    Calls Tryz.prog 67 #[.slice A0 l0.length c0] w fun e w' => e = .returned (.tuple #[.string r1, .int .i64 r2]) ∧ Below w.heap.size w w' := by
  unfold wide_f at h
  split at h
  · rename_i hs
    cases h
    exact wide_walk A0 c0 l0 w (reads_of_C hr0) hc0 hs.1 ((okBytes_iff l0).1 hs.2)
  · cases h

/-- unicode/utf8.Valid. -/
def valid_f (l0 : List Int) : Option Bool := if okBytes l0 = true then some (Lib.validD (strOfNums l0).data.toList) else none
theorem valid_calls (A0 : Option Addr) (c0 : Nat) (l0 : List Int) (r : Bool) (w : World) (hr0 : Kd.C (Kd.int .u8) w A0 l0.length l0) (hc0 : l0.length ≤ c0) (hT : Tabs w) (h : valid_f l0 = some r) :
    Calls Tryz.prog 68 #[.slice A0 l0.length c0] w fun e w' => e = .returned (.bool r) ∧ Below w.heap.size w w' := by
  unfold valid_f at h
  split at h
  · rename_i hs
    cases h
    have hn := toNums l0 ((okBytes_iff l0).1 hs)
    have hsz := strOfNums_size l0
    have hr : ReadsB w A0 (strOfNums l0) := by
      unfold ReadsB
      rw [hsz, hn]
      exact reads_of_C hr0
    have := valid_walk A0 c0 (strOfNums l0) w hr (by rw [hsz]; exact hc0) hT
    rw [hsz] at this
    exact this
  · cases h

/-- strconv.Itoa. -/
def itoa_f (a0 : Int) : Option ByteArray := if -9223372036854775808 ≤ a0 ∧ a0 ≤ 9223372036854775807 then some ⟨(Lib.itoa a0).toArray⟩ else none
theorem itoa_calls (a0 : Int) (r : ByteArray) (w : World) (hT : Tabs w) (h : itoa_f a0 = some r) : Calls Tryz.prog 54 #[.int .i64 a0] w fun e w' => e = .returned (.string r) ∧ Below w.heap.size w w' := by
  unfold itoa_f at h
  split at h
  · rename_i hs
    cases h
    refine (Tryz.strconv_Itoa a0 hs.1 hs.2 w hT.p10).mono fun e w' ⟨he, k, os, hw⟩ => ⟨he, ?_⟩
    subst hw
    exact Lib.below_grow _ _ (Nat.le_refl _) _ _
  · cases h
end Go.Proofs.YtpdhbpdfldfnhaaGreatDoor.Tx
