/- Plain Lean, no program: what is valid UTF-8 stays so where bytes below 128 are put for others of them. -/
import Derived.Lib.ValidLaws
import Derived.Shelf.Unicode.DecodeSlow
namespace Go.Proofs.YtaeocpnabgnidaaDoor.Tx
open Go.Lib

theorem checkN_some {n b1 b2 b3 sz lo hi k : Nat} (h : checkN n b1 b2 b3 sz lo hi = some k) : k = sz ∧ k ≤ n ∧ (sz = 2 ∨ sz = 3 ∨ sz = 4) ∧ lo ≤ b1 ∧ b1 ≤ hi ∧ (3 ≤ sz → 128 ≤ b2 ∧ b2 ≤ 191) ∧ (4 ≤ sz → 128 ≤ b3 ∧ b3 ≤ 191) := by
  unfold checkN at h
  repeat' split at h
  all_goals first | (cases h; done) | (cases h; omega)
theorem checkN_mk {n b1 b2 b3 sz lo hi : Nat} (h0 : sz ≤ n) (h1 : sz = 2 ∨ sz = 3 ∨ sz = 4) (h2 : lo ≤ b1) (h3 : b1 ≤ hi) (h4 : 3 ≤ sz → 128 ≤ b2 ∧ b2 ≤ 191) (h5 : 4 ≤ sz → 128 ≤ b3 ∧ b3 ≤ 191) : checkN n b1 b2 b3 sz lo hi = some sz := by
  unfold checkN
  rcases h1 with rfl | rfl | rfl
  · rw [if_pos rfl, if_neg (by omega)]
  · rw [if_neg (by omega), if_pos rfl, if_neg (by omega)]
  · rw [if_neg (by omega), if_neg (by omega), if_pos rfl, if_neg (by omega)]
theorem accLo_ge (b : Nat) (h : firstT b % 8 = 2 ∨ firstT b % 8 = 3 ∨ firstT b % 8 = 4) : 128 ≤ accLo (firstT b / 16) := by
  rcases firstT_cases b with e | e | e | e | e | e | e | e | e <;> rw [e] at h ⊢ <;> first | (exfalso; omega) | decide

/-- At a lead byte from 128 on: as many bytes as the table says, and what is behind them. -/
theorem lead_true (l : List UInt8) (h0 : 128 ≤ (l.getD 0 0).toNat) (hv : validD l = true) (hne : l ≠ []) :
    ∃ k, (k = 2 ∨ k = 3 ∨ k = 4) ∧ k ≤ l.length ∧ k = firstT (l.getD 0 0).toNat % 8 ∧ accLo (firstT (l.getD 0 0).toNat / 16) ≤ (l.getD 1 0).toNat ∧ (l.getD 1 0).toNat ≤ accHi (firstT (l.getD 0 0).toNat / 16) ∧
      (3 ≤ k → 128 ≤ (l.getD 2 0).toNat ∧ (l.getD 2 0).toNat ≤ 191) ∧ (4 ≤ k → 128 ≤ (l.getD 3 0).toNat ∧ (l.getD 3 0).toNat ≤ 191) ∧ validD (l.drop k) = true := by
  rw [validD_lead l hne h0] at hv
  split at hv
  · cases hv
  · rename_i k hk
    obtain ⟨e1, e2, e3, e4, e5, e6, e7⟩ := checkN_some hk
    subst e1
    exact ⟨_, e3, e2, rfl, e4, e5, e6, e7, hv⟩

/-- What stands for a byte: itself, or (below 128) bytes below 128, at least one. -/
def StandsB (a : UInt8) (m : List UInt8) : Prop := m = [a] ∨ a.toNat < 128 ∧ ∀ b ∈ m, b.toNat < 128

theorem getD_of_lt (l : List UInt8) (i : Nat) (h : i < l.length) : l.getD i 0 = l[i] := by simp [List.getD_eq_getElem?_getD, List.getElem?_eq_getElem h]

/-- As long as they are from 128 on, bytes stand for themselves. -/
theorem flat_take : ∀ (k : Nat) (l : List UInt8) (ms : List (List UInt8)), ms.length = l.length → (∀ i (h : i < l.length) (h' : i < ms.length), StandsB l[i] ms[i]) → k ≤ l.length → (∀ i (h : i < l.length), i < k → 128 ≤ l[i].toNat) →
    ms.flatten = l.take k ++ (ms.drop k).flatten
  | 0, _, _, _, _, _, _ => by simp
  | k + 1, [], _, _, _, hk, _ => by simp at hk
  | k + 1, a :: l, [], hl, _, _, _ => by simp at hl
  | k + 1, a :: l, m :: ms, hl, hs, hk, hb => by
    have h0 := hs 0 (by simp) (by simp)
    have hb0 := hb 0 (by simp) (by omega)
    simp only [List.getElem_cons_zero] at h0 hb0
    obtain rfl : m = [a] := by
      rcases h0 with h0 | h0
      · exact h0
      · exact absurd h0.1 (by omega)
    have := flat_take k l ms (by simpa using hl) (fun i h h' => by
      have := hs (i + 1) (by simpa using h) (by simpa using h')
      rw [List.getElem_cons_succ, List.getElem_cons_succ] at this
      exact this) (by simpa using hk)
      (fun i h hi => by
        have := hb (i + 1) (by simpa using h) (by omega)
        rw [List.getElem_cons_succ] at this
        exact this)
    simp [this]
theorem valid_low : ∀ (m r : List UInt8), (∀ b ∈ m, b.toNat < 128) → validD (m ++ r) = validD r
  | [], _, _ => rfl
  | b :: m, r, h => by
    rw [List.cons_append, validD_cons b _ (h b (by simp))]
    exact valid_low m r (fun c hc => h c (by simp [hc]))

theorem valid_stands : ∀ (n : Nat) (l : List UInt8) (ms : List (List UInt8)), l.length ≤ n → ms.length = l.length → (∀ i (h : i < l.length) (h' : i < ms.length), StandsB l[i] ms[i]) → validD l = true → validD ms.flatten = true := by
  intro n
  induction n with
  | zero =>
    intro l ms hn hl _ _
    obtain rfl : ms = [] := List.eq_nil_of_length_eq_zero (by omega)
    rfl
  | succ n ih =>
    intro l ms hn hl hs hv
    match l, ms, hl with
    | [], [], _ => rfl
    | a :: l, m :: ms, hl =>
      have hs' : ∀ i (h : i < l.length) (h' : i < ms.length), StandsB l[i] ms[i] := fun i h h' => by
        have := hs (i + 1) (by simpa using h) (by simpa using h')
        rw [List.getElem_cons_succ, List.getElem_cons_succ] at this
        exact this
      by_cases ha : a.toNat < 128
      · rw [validD_cons a l ha] at hv
        have h0 := hs 0 (by simp) (by simp)
        simp only [List.getElem_cons_zero] at h0
        rw [List.flatten_cons, valid_low m _ (by
          rcases h0 with h0 | h0
          · intro b hb; rw [h0] at hb; simp at hb; rw [hb]; exact ha
          · exact h0.2)]
        exact ih l ms (by simpa using hn) (by simpa using hl) hs' hv
      · obtain ⟨k, hk3, hkl, hksz, c1, c2, c3, c4, hvd⟩ := lead_true (a :: l) (by simpa using ha) hv (by simp)
        have hlo := accLo_ge ((a :: l).getD 0 0).toNat (by omega)
        have hge : ∀ i (h : i < (a :: l).length), i < k → 128 ≤ (a :: l)[i].toNat := by
          intro i h hi
          have e := getD_of_lt (a :: l) i h
          rw [← e]
          match i, hi with
          | 0, _ => simp at ha ⊢; exact ha
          | 1, _ => omega
          | 2, _ => exact (c3 (by omega)).1
          | 3, _ => exact (c4 (by omega)).1
          | (j + 4), hi => omega
        have hf := flat_take k (a :: l) (m :: ms) hl hs hkl hge
        have hdr : validD (((m :: ms).drop k).flatten) = true := by
          refine ih ((a :: l).drop k) ((m :: ms).drop k) (by rw [List.length_drop]; omega) (by rw [List.length_drop, List.length_drop, hl]) (fun i h h' => ?_) hvd
          have h1 : k + i < (a :: l).length := by rw [List.length_drop] at h; omega
          have h2 : k + i < (m :: ms).length := by rw [hl]; exact h1
          have := hs (k + i) h1 h2
          simpa [List.getElem_drop] using this
        have hlen : ((a :: l).take k).length = k := by rw [List.length_take]; omega
        have hget : ∀ i, i < k → ((a :: l).take k ++ ((m :: ms).drop k).flatten).getD i 0 = (a :: l).getD i 0 := by
          intro i hi
          rw [List.getD_eq_getElem?_getD, List.getD_eq_getElem?_getD, List.getElem?_append_left (by omega), List.getElem?_take, if_pos hi]
        rw [hf]
        have hne2 : (a :: l).take k ++ ((m :: ms).drop k).flatten ≠ [] := by
          intro hc
          have := congrArg List.length hc
          rw [List.length_append, hlen] at this
          simp at this
          omega
        have hd0 : 128 ≤ (((a :: l).take k ++ ((m :: ms).drop k).flatten).getD 0 0).toNat := by rw [hget 0 (by omega)]; simpa using ha
        rw [validD_lead _ hne2 hd0]
        have hck : checkN ((a :: l).take k ++ ((m :: ms).drop k).flatten).length (((a :: l).take k ++ ((m :: ms).drop k).flatten).getD 1 0).toNat (((a :: l).take k ++ ((m :: ms).drop k).flatten).getD 2 0).toNat (((a :: l).take k ++ ((m :: ms).drop k).flatten).getD 3 0).toNat
            (firstT (((a :: l).take k ++ ((m :: ms).drop k).flatten).getD 0 0).toNat % 8) (accLo (firstT (((a :: l).take k ++ ((m :: ms).drop k).flatten).getD 0 0).toNat / 16)) (accHi (firstT (((a :: l).take k ++ ((m :: ms).drop k).flatten).getD 0 0).toNat / 16)) = some k := by
          rw [hget 0 (by omega), hget 1 (by omega), ← hksz]
          refine checkN_mk ?_ hk3 c1 c2 ?_ ?_
          · rw [List.length_append, hlen]; omega
          · intro h3; rw [hget 2 (by omega)]; exact c3 h3
          · intro h4; rw [hget 3 (by omega)]; exact c4 h4
        rw [hck]
        show validD (((a :: l).take k ++ ((m :: ms).drop k).flatten).drop k) = true
        rw [List.drop_append, hlen, Nat.sub_self, List.drop_zero, List.drop_of_length_le (by omega), List.nil_append]
        exact hdr
end Go.Proofs.YtaeocpnabgnidaaDoor.Tx
