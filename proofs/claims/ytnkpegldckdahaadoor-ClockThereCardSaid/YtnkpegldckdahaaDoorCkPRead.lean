/- Plain Lean: what General and Utc read. -/
import Derived.Test.YtnkpegldckdahaaDoorMx6
import Derived.Test.YtnkpegldckdahaaDoorCkPStr
set_option linter.unusedVariables false
namespace Go.Proofs.YtnkpegldckdahaaDoor.Ck
open Go.RowKit Go.Lib Go.Proofs.YtnkpegldckdahaaDoorW.PrintWords Go.Proofs.YtnkpegldckdahaaDoor.M
theorem suf_eq (l : List UInt8) (b : UInt8) (hl : l.length ≤ 1000000) : strings_CutSuffix.f (B (l ++ [b])) (⟨#[90]⟩ : ByteArray) = some (if b = 90 then (B l, true) else (B (l ++ [b]), false)) := by
  have e90 : (⟨#[90]⟩ : ByteArray) = B [90] := rfl
  have hsz : (B (l ++ [b])).size = l.length + 1 := by rw [B_size]; simp
  have hw : wrap64 (((B (l ++ [b])).size : Int) - ((B [90]).size : Int)) = (l.length : Int) := by rw [hsz, B_size, show (([90] : List UInt8).length : Int) = 1 from rfl, w64 (by omega) (by omega)]; omega
  have hx : ((B (l ++ [b])).extract l.length (B (l ++ [b])).size).toList = [b] := by rw [B_ext, B_toList, hsz]; simp
  have hy : (B (l ++ [b])).extract 0 l.length = B l := by rw [B_ext]; simp
  have hz : (B [90]).size = 1 := B_size _
  unfold strings_CutSuffix.f stringslite_CutSuffix.f stringslite_HasSuffix.f
  rw [e90, hw, Int.toNat_natCast, hx, B_toList, hy]
  simp only [hsz, hz]
  rw [if_pos (by omega), if_pos (by omega), if_pos (by omega)]
  simp only [Option.bind_some]
  by_cases h : b = 90
  · subst h
    rw [if_pos (by decide), if_pos (by omega), if_pos (by omega), if_pos rfl]
    rfl
  · rw [if_neg (by simp [h]), if_neg h]
    rfl
theorem suf_nil : strings_CutSuffix.f (B []) (⟨#[90]⟩ : ByteArray) = some (B [], false) := by
  unfold strings_CutSuffix.f stringslite_CutSuffix.f stringslite_HasSuffix.f
  rw [if_neg (by decide)]
  rfl
theorem idx_app (a b : List UInt8) (ha : ∀ x ∈ a, x ≠ 46) : Lib.indexByte (a ++ 46 :: b) 46 = a.length := by
  have hge := Lib.indexByte_ge (a ++ 46 :: b) 46
  by_cases hn : Lib.indexByte (a ++ 46 :: b) 46 = -1
  · exact absurd (by simp) (Lib.indexByte_none hn a.length)
  · obtain ⟨o, ho⟩ : ∃ o : Nat, Lib.indexByte (a ++ 46 :: b) 46 = (o : Int) := ⟨(Lib.indexByte (a ++ 46 :: b) 46).toNat, by omega⟩
    obtain ⟨h1, h2⟩ := Lib.indexByte_some ho
    rw [ho]
    rcases Nat.lt_trichotomy o a.length with h | h | h
    · rw [List.getElem?_append_left h] at h1
      exact absurd rfl (ha _ (List.mem_of_getElem? h1))
    · omega
    · exact absurd (by simp) (h2 a.length h)
theorem idx_no (a : List UInt8) (ha : ∀ x ∈ a, x ≠ 46) : Lib.indexByte a 46 = -1 := by
  have hge := Lib.indexByte_ge a 46
  by_cases hn : Lib.indexByte a 46 = -1
  · exact hn
  · obtain ⟨o, ho⟩ : ∃ o : Nat, Lib.indexByte a 46 = (o : Int) := ⟨(Lib.indexByte a 46).toNat, by omega⟩
    obtain ⟨h1, _⟩ := Lib.indexByte_some ho
    exact absurd rfl (ha _ (List.mem_of_getElem? h1))
theorem idx_f (l : List UInt8) : stringslite_Index.f (B l) (⟨#[46]⟩ : ByteArray) = some (Lib.indexByte l 46) := by
  unfold stringslite_Index.f index_f
  rw [if_pos rfl, B_toList, B_data]
  by_cases h : ([46] == l) = true
  · rw [if_pos h]
    have : l = [46] := (beq_iff_eq.1 h).symm
    subst this
    rfl
  · rw [if_neg h]
theorem cut_dot (a b : List UInt8) (ha : ∀ x ∈ a, x ≠ 46) (hl : a.length + b.length ≤ 1000000) : strings_Cut.f (B (a ++ 46 :: b)) (⟨#[46]⟩ : ByteArray) = some (B a, B b, true) := by
  have e1 : (B (a ++ 46 :: b)).extract 0 a.length = B a := by rw [B_ext]; simp
  have hsz : (B (a ++ 46 :: b)).size = a.length + (b.length + 1) := by rw [B_size]; simp
  have e2 : (B (a ++ 46 :: b)).extract (a.length + 1) (B (a ++ 46 :: b)).size = B b := by
    rw [B_ext, hsz]
    congr 1
    rw [show a ++ 46 :: b = (a ++ [46]) ++ b by simp, List.drop_left' (by simp), List.take_of_length_le (by omega)]
  have hw : wrap64 ((a.length : Int) + ((⟨#[46]⟩ : ByteArray).size : Int)) = ((a.length + 1 : Nat) : Int) := by
    rw [show (⟨#[46]⟩ : ByteArray).size = 1 from rfl, w64 (by omega) (by omega)]
    omega
  unfold strings_Cut.f stringslite_Cut.f
  rw [idx_f, idx_app a b ha]
  simp only [Option.bind_some]
  rw [hw, Int.toNat_natCast, Int.toNat_natCast, e1, e2, if_pos (by omega), if_pos (by omega), if_pos (by rw [hsz]; omega), if_pos (by omega), if_pos (by rw [hsz]; omega)]
  rfl
theorem cut_none (a : List UInt8) (ha : ∀ x ∈ a, x ≠ 46) : strings_Cut.f (B a) (⟨#[46]⟩ : ByteArray) = some (B a, B [], false) := by
  unfold strings_Cut.f stringslite_Cut.f
  rw [idx_f, idx_no a ha]
  simp only [Option.bind_some]
  rw [if_neg (by omega)]
  rfl
/-- every string is cut so or so -/
theorem cut_cases (t : List UInt8) : (∀ x ∈ t, x ≠ 46) ∨ ∃ a b, t = a ++ 46 :: b ∧ ∀ x ∈ a, x ≠ 46 := by
  induction t with
  | nil => exact .inl (by simp)
  | cons x t ih =>
    by_cases h : x = 46
    · subst h
      exact .inr ⟨[], t, rfl, by simp⟩
    · rcases ih with h1 | ⟨a, b, rfl, h1⟩
      · exact .inl (fun y hy => by rcases List.mem_cons.1 hy with rfl | hy; exact h; exact h1 y hy)
      · exact .inr ⟨x :: a, b, rfl, fun y hy => by rcases List.mem_cons.1 hy with rfl | hy; exact h; exact h1 y hy⟩
theorem digs_eq (l : List UInt8) : clock_digits.f (B l) = some (l.all isDig) := by
  unfold clock_digits.f isDigits
  rw [B_data]
theorem dig_ne46 {x : UInt8} (h : isDig x = true) : x ≠ 46 := by
  rintro rfl
  revert h
  decide
/-- the number of two digits from a place on -/
def tw (t : List UInt8) (i : Nat) : Int := (val ((t.drop i).take 2) 0 : Nat)
theorem two_eq (t : List UInt8) (i : Nat) (h : i + 1 < t.length) (hd : ∀ x ∈ t, isDig x = true) (hl : t.length ≤ 1000) : clock_two.f (B t) (i : Int) = some (tw t i) := by
  have hsz := B_size t
  have hw : wrap64 ((i : Int) + 1) = ((i + 1 : Nat) : Int) := by rw [w64 (by omega) (by omega)]; omega
  have d1 := hd t[i] (List.getElem_mem _)
  have d2 := hd t[i + 1] (List.getElem_mem _)
  unfold isDig at d1 d2
  rw [decide_eq_true_iff] at d1 d2
  have e : (t.drop i).take 2 = [t[i], t[i + 1]] := by
    rw [List.drop_eq_getElem_cons (by omega), List.drop_eq_getElem_cons h]
    rfl
  unfold clock_two.f
  rw [if_pos (by omega), if_pos (by rw [hsz]; omega), hw, if_pos (by omega), if_pos (by rw [hsz]; omega), bt_B t i (by omega), bt_B t (i + 1) h]
  congr 1
  unfold tw
  rw [e]
  simp only [val]
  omega
theorem tw_range (t : List UInt8) (i : Nat) (h : i + 1 < t.length) (hd : ∀ x ∈ t, isDig x = true) : 0 ≤ tw t i ∧ tw t i < 100 := by
  unfold tw
  have := val_lt ((t.drop i).take 2) (fun b hb => hd b (List.mem_of_mem_drop (List.mem_of_mem_take hb))) 0
  have hl : ((t.drop i).take 2).length = 2 := by simp; omega
  rw [hl] at this
  omega
theorem moment_ev (Y : Int) (t : List UInt8) (hl : t.length = 10) (hd : ∀ x ∈ t, isDig x = true) : Ev (fun k => clock_moment.f k Y (B t)) (secR Y (tw t 0) (tw t 2) (tw t 4) (tw t 6) (tw t 8)) := by
  unfold clock_moment.f
  have h0 := two_eq t 0 (by omega) hd (by omega)
  have h2 := two_eq t 2 (by omega) hd (by omega)
  have h4 := two_eq t 4 (by omega) hd (by omega)
  have h6 := two_eq t 6 (by omega) hd (by omega)
  have h8 := two_eq t 8 (by omega) hd (by omega)
  refine Ev.bind (a := tw t 0) (Ev.value' fun _ => h0) (Ev.bind (a := tw t 2) (Ev.value' fun _ => h2) (Ev.bind (a := tw t 4) (Ev.value' fun _ => h4) (Ev.bind (a := tw t 6) (Ev.value' fun _ => h6) (Ev.bind (a := tw t 8) (Ev.value' fun _ => h8) ?_))))
  exact Ev.bind (seconds_ev Y (tw t 0) (tw t 2) (tw t 4) (tw t 6) (tw t 8)) (Ev.value' fun _ => rfl)
/-- millionths -/
def mic (b : List UInt8) : Int := (val (b ++ List.replicate (6 - b.length) 48) 0 : Nat)
theorem val_snoc (l : List UInt8) (x : UInt8) : val (l ++ [x]) 0 = 10 * val l 0 + (x.toNat - 48) := by rw [val_append]; rfl
theorem mic_loop (sec : Int) (b : List UInt8) (hb : b.length ≤ 6) (hd : ∀ x ∈ b, isDig x = true) : ∀ (n i : Nat), 6 - i = n → i ≤ 6 → Ev (fun k => clock_General.l0 k sec ((val ((b ++ List.replicate (6 - b.length) 48).take i) 0 : Nat) : Int) (B b) (i : Int)) (sec, mic b, 0)
  | 0, i, hn, hi => by
    obtain rfl : i = 6 := by omega
    refine Ev.value (fun k => ?_)
    simp only [clock_General.l0]
    rw [if_neg (by omega)]
    unfold mic
    rw [List.take_of_length_le (by simp; omega)]
  | n + 1, i, hn, hi => by
    have hsz := B_size b
    have hlen : (b ++ List.replicate (6 - b.length) 48).length = 6 := by simp; omega
    have hall : ∀ x ∈ (b ++ List.replicate (6 - b.length) 48).take i, isDig x = true := by
      intro x hx
      have hx := List.mem_of_mem_take hx
      rcases List.mem_append.1 hx with hx | hx
      · exact hd x hx
      · rw [List.eq_of_mem_replicate hx]; decide
    have hv := val_lt _ hall 0
    rw [List.length_take, hlen] at hv
    have hv2 : (0 + 1) * 10 ^ (min i 6) ≤ (0 + 1) * 10 ^ 6 := Nat.mul_le_mul_left _ (Nat.pow_le_pow_right (by omega) (by omega))
    have hs : (b ++ List.replicate (6 - b.length) 48).take (i + 1) = (b ++ List.replicate (6 - b.length) 48).take i ++ [(b ++ List.replicate (6 - b.length) 48)[i]'(by omega)] := by rw [List.take_succ_eq_append_getElem (by omega)]
    have hnext := mic_loop sec b hb hd n (i + 1) (by omega) (by omega)
    rw [hs, val_snoc] at hnext
    obtain ⟨v, hvv⟩ : ∃ v, val ((b ++ List.replicate (6 - b.length) 48).take i) 0 = v := ⟨_, rfl⟩
    rw [hvv] at hv hnext ⊢
    by_cases hc : i < b.length
    · have ex : (b ++ List.replicate (6 - b.length) 48)[i]'(by omega) = b[i] := List.getElem_append_left hc
      have d1 := hd b[i] (List.getElem_mem _)
      unfold isDig at d1
      rw [decide_eq_true_iff] at d1
      rw [ex] at hnext
      refine Ev.step (f := _) (fun k => ?_) hnext
      simp only [clock_General.l0]
      rw [if_pos (by omega), if_pos (by rw [hsz]; omega), if_pos (by omega), bt_B b i hc, w64 (x := (v : Int) * 10) (by omega) (by omega), w64 (by omega) (by omega), w64 (by omega) (by omega)]
      congr 1
      omega
    · have ex : (b ++ List.replicate (6 - b.length) 48)[i]'(by omega) = 48 := by rw [List.getElem_append_right (by omega)]; simp
      rw [ex] at hnext
      refine Ev.step (f := _) (fun k => ?_) hnext
      simp only [clock_General.l0]
      rw [if_pos (by omega), if_neg (by rw [hsz]; omega), w64 (x := (v : Int) * 10) (by omega) (by omega), w64 (by omega) (by omega)]
      congr 1
      have : (48 : UInt8).toNat = 48 := rfl
      omega
end Go.Proofs.YtnkpegldckdahaaDoor.Ck
