/- Plain Lean: TextBlanks over the printed functions. -/
import Derived.Test.YtaeocpnabgnidaaDoorTxBlkMended
import Derived.Test.YtaeocpnabgnidaaDoorTxPKinds
import Derived.Test.YtaeocpnabgnidaaDoorTxPReads
import Derived.Test.YtaeocpnabgnidaaDoorTxUtf
set_option linter.unusedVariables false
namespace Go.Proofs.YtaeocpnabgnidaaDoor.Tx
open Go.RowKit Go.Lib Go.Proofs.YtaeocpnabgnidaaDoorW.PrintWords Go.Proofs.YtaeocpnabgnidaaDoor.M

/-- Two valid rows of bytes, one behind the other. -/
theorem valid_then : ∀ (n : Nat) (l r : List UInt8), l.length ≤ n → validD l = true → validD r = true → validD (l ++ r) = true := by
  intro n
  induction n with
  | zero =>
    intro l r hn _ hr
    obtain rfl : l = [] := List.eq_nil_of_length_eq_zero (by omega)
    exact hr
  | succ n ih =>
    intro l r hn hv hr
    match l with
    | [] => exact hr
    | a :: l =>
      by_cases ha : a.toNat < 128
      · rw [validD_cons a l ha] at hv
        rw [List.cons_append, validD_cons a _ ha]
        exact ih l r (by simpa using hn) hv hr
      · obtain ⟨k, hk3, hkl, hksz, c1, c2, c3, c4, hvd⟩ := lead_true (a :: l) (by simpa using ha) hv (by simp)
        have hget : ∀ i, i < k → (a :: l ++ r).getD i 0 = (a :: l).getD i 0 := by
          intro i hi
          rw [List.getD_eq_getElem?_getD, List.getD_eq_getElem?_getD, List.getElem?_append_left (by omega)]
        have hd0 : 128 ≤ ((a :: l ++ r).getD 0 0).toNat := by rw [hget 0 (by omega)]; simpa using ha
        rw [validD_lead _ (by simp) hd0]
        have hck : checkN (a :: l ++ r).length ((a :: l ++ r).getD 1 0).toNat ((a :: l ++ r).getD 2 0).toNat ((a :: l ++ r).getD 3 0).toNat
            (firstT ((a :: l ++ r).getD 0 0).toNat % 8) (accLo (firstT ((a :: l ++ r).getD 0 0).toNat / 16)) (accHi (firstT ((a :: l ++ r).getD 0 0).toNat / 16)) = some k := by
          rw [hget 0 (by omega), hget 1 (by omega), ← hksz]
          refine checkN_mk ?_ hk3 c1 c2 ?_ ?_
          · rw [List.length_append]; omega
          · intro h3; rw [hget 2 (by omega)]; exact c3 h3
          · intro h4; rw [hget 3 (by omega)]; exact c4 h4
        rw [hck]
        show validD ((a :: l ++ r).drop k) = true
        rw [List.drop_append_of_le_length hkl]
        exact ih _ r (by rw [List.length_drop]; omega) hvd hr

def letterB (c : Int) : Bool := decide (65 ≤ c ∧ c ≤ 90) || decide (97 ≤ c ∧ c ≤ 122)
theorem letter_iff (c : Int) : letterB c = true ↔ (65 ≤ c ∧ c ≤ 90) ∨ (97 ≤ c ∧ c ≤ 122) := by simp [letterB]
set_option maxRecDepth 100000 in
theorem xor_all : ∀ n : Fin 256, letterB (n.val : Int) = true → Go.bits .xor .u8 (n.val : Int) 32 = if (n.val : Int) ≤ 90 then (n.val : Int) + 32 else (n.val : Int) - 32 := by decide +kernel
theorem xor_letter (c : Int) (hc : 0 ≤ c ∧ c < 256) (hl : letterB c = true) : Go.bits .xor .u8 c 32 = if c ≤ 90 then c + 32 else c - 32 :=
  of_all (Q := fun c => letterB c = true → Go.bits .xor .u8 c 32 = if c ≤ 90 then c + 32 else c - 32) xor_all c hc hl
set_option maxRecDepth 100000 in
theorem fit18_all : ∀ n : Fin 256, letterB (n.val : Int) = true → fitsV 18 (n.val : Int) = true → fitsV 18 (if (n.val : Int) ≤ 90 then (n.val : Int) + 32 else (n.val : Int) - 32) = true := by decide +kernel
set_option maxRecDepth 100000 in
theorem fit19_all : ∀ n : Fin 256, letterB (n.val : Int) = true → fitsV 19 (n.val : Int) = true → fitsV 19 (if (n.val : Int) ≤ 90 then (n.val : Int) + 32 else (n.val : Int) - 32) = true := by decide +kernel
set_option maxRecDepth 100000 in
theorem fit22_all : ∀ n : Fin 256, letterB (n.val : Int) = true → fitsV 22 (n.val : Int) = true → fitsV 22 (if (n.val : Int) ≤ 90 then (n.val : Int) + 32 else (n.val : Int) - 32) = true := by decide +kernel
set_option maxRecDepth 100000 in
theorem fit26_all : ∀ n : Fin 256, letterB (n.val : Int) = true → fitsV 26 (n.val : Int) = true → fitsV 26 (if (n.val : Int) ≤ 90 then (n.val : Int) + 32 else (n.val : Int) - 32) = true := by decide +kernel
theorem fit_blank (tag : Int) (ho : oneByte tag) : fitsV tag 32 = true := by
  rcases ho with rfl | rfl | rfl | rfl <;> decide +kernel
theorem fit_turn (tag : Int) (ho : oneByte tag) (c : Int) (hc : 0 ≤ c ∧ c < 256) (hl : letterB c = true) (hf : fitsV tag c = true) : fitsV tag (if c ≤ 90 then c + 32 else c - 32) = true := by
  rcases ho with rfl | rfl | rfl | rfl
  · exact of_all (Q := fun c => letterB c = true → fitsV 18 c = true → fitsV 18 (if c ≤ 90 then c + 32 else c - 32) = true) fit18_all c hc hl hf
  · exact of_all (Q := fun c => letterB c = true → fitsV 19 c = true → fitsV 19 (if c ≤ 90 then c + 32 else c - 32) = true) fit19_all c hc hl hf
  · exact of_all (Q := fun c => letterB c = true → fitsV 22 c = true → fitsV 22 (if c ≤ 90 then c + 32 else c - 32) = true) fit22_all c hc hl hf
  · exact of_all (Q := fun c => letterB c = true → fitsV 26 c = true → fitsV 26 (if c ≤ 90 then c + 32 else c - 32) = true) fit26_all c hc hl hf

/-- What a byte is turned to. -/
def turned (c t : Int) : Int := if Int.tmod t 2 = 1 ∧ letterB c = true then (if c ≤ 90 then c + 32 else c - 32) else c
def piece (c t : Int) : List Int := if turned c t = 32 ∧ Int.tmod t 3 = 1 then [turned c t, 32, 32] else [turned c t]
theorem turned_cases (c t : Int) : turned c t = c ∨ ((65 ≤ c ∧ c ≤ 90 ∧ turned c t = c + 32) ∨ (97 ≤ c ∧ c ≤ 122 ∧ turned c t = c - 32)) := by
  unfold turned
  split
  · rename_i h
    have := (letter_iff c).1 h.2
    split <;> omega
  · exact .inl rfl
theorem piece_stands (c t : Int) (hc : 0 ≤ c ∧ c < 256) : Stands c (piece c t) := by
  have h := turned_cases c t
  refine ⟨turned c t, by omega, ?_, ?_⟩
  · unfold low
    split <;> split <;> omega
  · unfold piece
    split
    · rename_i h1
      rw [h1.1]
      exact .inr ⟨rfl, rfl⟩
    · exact .inl rfl
theorem piece_mem (c t x : Int) (h : x ∈ piece c t) : x = turned c t ∨ x = 32 := by
  unfold piece at h
  split at h
  · simp at h; omega
  · simp at h; exact .inl h
theorem piece_bytes (c t : Int) (hc : 0 ≤ c ∧ c < 256) : Bytes (piece c t) := by
  intro x hx
  have h := turned_cases c t
  rcases piece_mem c t x hx with rfl | rfl <;> omega
theorem piece_fits (tag : Int) (ho : oneByte tag) (c t : Int) (hc : 0 ≤ c ∧ c < 256) (hf : fitsV tag c = true) : ∀ x ∈ piece c t, fitsV tag x = true := by
  intro x hx
  rcases piece_mem c t x hx with rfl | rfl
  · unfold turned
    split
    · rename_i h
      exact fit_turn tag ho c hc h.2 hf
    · exact hf
  · exact fit_blank tag ho
theorem piece_low (c t : Int) (hc : 0 ≤ c ∧ c < 256) : piece c t = [c] ∨ (c < 128 ∧ ∀ x ∈ piece c t, 0 ≤ x ∧ x < 128) := by
  have h := turned_cases c t
  by_cases h128 : c < 128
  · refine .inr ⟨h128, fun x hx => ?_⟩
    rcases piece_mem c t x hx with rfl | rfl <;> omega
  · left
    have e : turned c t = c := by omega
    unfold piece
    rw [e, if_neg (by omega)]
theorem piece_length (c t : Int) : (piece c t).length ≤ 3 := by unfold piece; split <;> simp

def turnAt (l2 : List Int) (i : Int) : Int := if (l2.length : Int) > 0 then rd l2 (Int.tmod i (l2.length : Int)) else 0
def pieces (l1 l2 : List Int) : List (List Int) := (List.range l1.length).map fun (i : Nat) => piece (rd l1 (i : Int)) (turnAt l2 (i : Int))
theorem pieces_length (l1 l2 : List Int) : (pieces l1 l2).length = l1.length := by simp [pieces]
theorem pieces_get (l1 l2 : List Int) (i : Nat) (h : i < (pieces l1 l2).length) : (pieces l1 l2)[i] = piece (rd l1 (i : Int)) (turnAt l2 (i : Int)) := by simp [pieces]
theorem rd_get (l : List Int) (i : Nat) (h : i < l.length) : rd l (i : Int) = l[i] := by
  unfold rd
  simp [List.getD_eq_getElem?_getD, List.getElem?_eq_getElem h]
theorem mem_pieces (l1 l2 : List Int) (x : Int) (h : x ∈ (pieces l1 l2).flatten) : ∃ c ∈ l1, ∃ t, x ∈ piece c t := by
  obtain ⟨m, hm, hx⟩ := List.mem_flatten.1 h
  obtain ⟨i, hi, rfl⟩ := List.mem_map.1 hm
  rw [List.mem_range] at hi
  exact ⟨_, rd_mem l1 i hi, _, hx⟩
def other (l1 l2 : List Int) : List Int := [32] ++ (pieces l1 l2).flatten ++ [32, 32]
theorem other_bytes (l1 l2 : List Int) (hb : Bytes l1) : Bytes (other l1 l2) := by
  intro x hx
  unfold other at hx
  simp only [List.mem_append, List.mem_cons, List.not_mem_nil, or_false] at hx
  rcases hx with (hx | hx) | hx
  · omega
  · obtain ⟨c, hc, t, hx⟩ := mem_pieces l1 l2 x hx
    exact piece_bytes c t (hb c hc) x hx
  · omega
theorem flat_length : ∀ (ms : List (List Int)), (∀ m ∈ ms, m.length ≤ 3) → ms.flatten.length ≤ 3 * ms.length
  | [], _ => by simp
  | m :: ms, h => by
    have h1 := h m (by simp)
    have h2 := flat_length ms (fun x hx => h x (by simp [hx]))
    rw [List.flatten_cons, List.length_append, List.length_cons]
    omega
theorem pieces_flat (l1 l2 : List Int) (i : Nat) : ((pieces l1 l2).take i).flatten.length ≤ 3 * l1.length := by
  have := flat_length ((pieces l1 l2).take i) (fun m hm => by
    obtain ⟨j, _, rfl⟩ := List.mem_map.1 (List.mem_of_mem_take hm)
    exact piece_length _ _)
  rw [List.length_take, pieces_length] at this
  omega
theorem other_length (l1 l2 : List Int) : (other l1 l2).length ≤ 3 * l1.length + 3 := by
  have := pieces_flat l1 l2 (pieces l1 l2).length
  rw [List.take_length] at this
  unfold other
  simp only [List.length_append, List.length_cons, List.length_nil]
  omega
theorem other_fold (l1 l2 : List Int) (hb : Bytes l1) : foldL (other l1 l2) = foldL l1 :=
  fold_more l1 (pieces l1 l2) (pieces_length l1 l2) (fun i h h' => by
    rw [pieces_get, rd_get l1 i h]
    exact piece_stands _ _ (hb _ (List.getElem_mem h)))

theorem b8_append (l m : List Int) : b8 (l ++ m) = b8 l ++ b8 m := by simp [b8, strOfNums]
theorem b8_flatten : ∀ ms : List (List Int), b8 ms.flatten = (ms.map b8).flatten
  | [] => by simp [b8, strOfNums]
  | m :: ms => by rw [List.flatten_cons, b8_append, b8_flatten ms, List.map_cons, List.flatten_cons]
theorem b8_map (l : List Int) : b8 l = l.map fun x => UInt8.ofNat x.toNat := by simp [b8, strOfNums]
theorem b8_low (x : Int) (h : 0 ≤ x ∧ x < 128) : (UInt8.ofNat x.toNat).toNat < 128 := by
  rw [UInt8.toNat_ofNat']
  omega
theorem other_valid (l1 l2 : List Int) (hb : Bytes l1) (hv : validD (b8 l1) = true) : validD (b8 (other l1 l2)) = true := by
  unfold other
  rw [b8_append, b8_append, List.append_assoc, valid_low (b8 [32]) _ (by decide)]
  refine valid_then _ _ _ (Nat.le_refl _) ?_ (by decide +kernel)
  rw [b8_flatten]
  refine valid_stands _ (b8 l1) _ (Nat.le_refl _) (by rw [List.length_map, pieces_length, b8_length]) (fun i h h' => ?_) hv
  have hi : i < l1.length := by rw [b8_length] at h; exact h
  have hc := hb _ (List.getElem_mem hi)
  have e1 : (b8 l1)[i] = UInt8.ofNat (l1[i]).toNat := by simp [b8_map]
  have e2 : ((pieces l1 l2).map b8)[i] = b8 (piece l1[i] (turnAt l2 (i : Int))) := by rw [List.getElem_map, pieces_get, rd_get l1 i hi]
  rw [e1, e2]
  rcases piece_low l1[i] (turnAt l2 (i : Int)) hc with hp | ⟨h1, h2⟩
  · left
    rw [hp, b8_map]
    rfl
  · right
    refine ⟨b8_low _ ⟨hc.1, h1⟩, fun b hb' => ?_⟩
    rw [b8_map] at hb'
    obtain ⟨x, hx, rfl⟩ := List.mem_map.1 hb'
    exact b8_low x (h2 x hx)
theorem other_text (tag : Int) (l1 l2 : List Int) (hb : Bytes l1) (n30 : tag ≠ 30) (h : (textV tag l1).2 = 0) : (textV tag (other l1 l2)).2 = 0 := by
  unfold textV at h ⊢
  rw [if_neg n30] at h ⊢
  by_cases h12 : tag = 12
  · rw [if_pos h12] at h ⊢
    by_cases hv : validD (strOfNums l1).data.toList = true
    · rw [if_pos (show validD (strOfNums (other l1 l2)).data.toList = true from other_valid l1 l2 hb hv)]
    · rw [if_neg hv] at h
      simp at h
  rw [if_neg h12] at h ⊢
  by_cases ho : oneByte tag
  · rw [if_pos ho] at h ⊢
    by_cases hv : (l1.all fun b => fitsV tag b) = true
    · rw [if_pos]
      rw [List.all_eq_true] at hv ⊢
      intro x hx
      unfold other at hx
      simp only [List.mem_append, List.mem_cons, List.not_mem_nil, or_false] at hx
      rcases hx with (hx | hx) | hx
      · rw [hx]; exact fit_blank tag ho
      · obtain ⟨c, hc, t, hx⟩ := mem_pieces l1 l2 x hx
        exact piece_fits tag ho c t (hb c hc) (hv c hc) x hx
      · rcases hx with hx | hx <;> rw [hx] <;> exact fit_blank tag ho
    · rw [if_neg hv] at h
      simp at h
  · rw [if_neg ho] at h
    simp at h
theorem other_key (tag : Int) (l1 l2 : List Int) (hb : Bytes l1) (n30 : tag ≠ 30) (h : (textV tag l1).2 = 0) : keyV tag (other l1 l2) = keyV tag l1 := by
  rw [keyV_plain tag l1 n30 h, keyV_plain tag (other l1 l2) n30 (other_text tag l1 l2 hb n30 h)]
  unfold foldS
  rw [toNums _ (other_bytes l1 l2 hb), toNums _ hb, other_fold l1 l2 hb]

theorem blanks_end (a0 : Int) (l1 l2 : List Int) (ht : -9223372036854775808 ≤ a0 ∧ a0 ≤ 9223372036854775807) (hb : Bytes l1) (hl : l1.length ≤ 2000) (n30 : a0 ≠ 30) (h : (textV a0 l1).2 = 0) :
    Ev (fun k => chirographlaw06_TextBlanks.l0 k a0 l1 l2 (pieces l1 l2).flatten (l1.length : Int)) true := by
  have hlo := other_length l1 l2
  have hpf := pieces_flat l1 l2 (pieces l1 l2).length
  rw [List.take_length] at hpf
  have ho := other_bytes l1 l2 hb
  have e : [32] ++ (pieces l1 l2).flatten ++ bytesOf (⟨#[32, 32]⟩ : ByteArray) = other l1 l2 := rfl
  refine Ev.step (f := _) (fun k => by
    simp only [chirographlaw06_TextBlanks.l0, Option.bind_some]
    rw [if_neg (by omega), if_pos (by simp only [List.length_cons, List.length_nil]; omega), if_pos (by simp only [List.length_append, List.length_cons, List.length_nil]; omega), e]) ?_
  refine Ev.bind (key_ev a0 l1 ht hb (by omega)) (Ev.bind (key_ev a0 (other l1 l2) ht ho (by omega)) ?_)
  have hk := other_key a0 l1 l2 hb n30 h
  rw [hk]
  simp only [if_true]
  refine Ev.bind (alike_ev a0 a0 l1 (other l1 l2) ht ht hb ho (by omega) (by omega)) ?_
  rw [hk]
  simp only [beq_self_eq_true, if_true]
  exact live_end
theorem blanks_j3 (a0 : Int) (l1 l2 out : List Int) (i : Nat) (c t : Int) (ok : Bool) (hc : 0 ≤ c ∧ c < 256) (hok : ok = true ↔ Int.tmod t 2 = 1 ∧ letterB c = true) (ho : out.length ≤ 10000) (hi : i ≤ 2000)
    (h : Ev (fun k => chirographlaw06_TextBlanks.l0 k a0 l1 l2 (out ++ piece c t) ((i + 1 : Nat) : Int)) true) : Ev (fun k => chirographlaw06_TextBlanks.j3 k a0 l1 l2 out (i : Int) c t ok) true := by
  refine Ev.step (fun k => ?_) h
  simp only [chirographlaw06_TextBlanks.j3, Option.bind_some]
  rw [wrap_next (by omega)]
  have body : ∀ b : Int, turned c t = b → (if b = 32 then (if Int.tmod t 3 = 1 then (if (out ++ [b]).length + [(32 : Int), 32].length < 140737488355328 then (chirographlaw06_TextBlanks.l0 k a0 l1 l2 (out ++ [b] ++ [32, 32]) ((i + 1 : Nat) : Int)) else none) else (chirographlaw06_TextBlanks.l0 k a0 l1 l2 (out ++ [b]) ((i + 1 : Nat) : Int))) else (chirographlaw06_TextBlanks.l0 k a0 l1 l2 (out ++ [b]) ((i + 1 : Nat) : Int))) = chirographlaw06_TextBlanks.l0 k a0 l1 l2 (out ++ piece c t) ((i + 1 : Nat) : Int) := by
    intro b hb
    unfold piece
    rw [hb]
    by_cases h32 : b = 32
    · rw [if_pos h32]
      by_cases h3 : Int.tmod t 3 = 1
      · rw [if_pos h3, if_pos (by simp only [List.length_append, List.length_cons, List.length_nil]; omega), if_pos ⟨h32, h3⟩]
        simp
      · rw [if_neg h3, if_neg (fun hc => h3 hc.2)]
    · rw [if_neg h32, if_neg (fun hc => h32 hc.1)]
  cases ok with
  | true =>
    have hl := hok.1 rfl
    have e : turned c t = Go.bits .xor .u8 c 32 := by unfold turned; rw [if_pos hl, xor_letter c hc hl.2]
    rw [if_pos rfl, if_pos (by omega)]
    exact body _ e
  | false =>
    have e : turned c t = c := by unfold turned; rw [if_neg (fun hc => by have := hok.2 hc; cases this)]
    rw [if_neg (by decide), if_pos (by omega)]
    exact body _ e
theorem blanks_j2 (a0 : Int) (l1 l2 out : List Int) (i : Nat) (c t : Int) (hc : 0 ≤ c ∧ c < 256) (ho : out.length ≤ 10000) (hi : i ≤ 2000)
    (h : Ev (fun k => chirographlaw06_TextBlanks.l0 k a0 l1 l2 (out ++ piece c t) ((i + 1 : Nat) : Int)) true) : Ev (fun k => chirographlaw06_TextBlanks.j2 k a0 l1 l2 out (i : Int) c t) true := by
  have key := fun ok hok => blanks_j3 a0 l1 l2 out i c t ok hc hok ho hi h
  by_cases h2 : Int.tmod t 2 = 1
  · by_cases h65 : c ≥ 65
    · by_cases h90 : c ≤ 90
      · refine Ev.step (fun k => ?_) (key true ⟨fun _ => ⟨h2, (letter_iff c).2 (by omega)⟩, fun _ => rfl⟩)
        simp only [chirographlaw06_TextBlanks.j2]
        rw [if_pos h2, if_pos h65, if_pos h90]
      · by_cases h97 : c ≥ 97
        · refine Ev.step (fun k => ?_) (key (decide (c ≤ 122)) ⟨fun hd => ⟨h2, (letter_iff c).2 (by simp at hd; omega)⟩, fun hd => by have := (letter_iff c).1 hd.2; simp; omega⟩)
          simp only [chirographlaw06_TextBlanks.j2]
          rw [if_pos h2, if_pos h65, if_neg h90, if_pos h97]
        · refine Ev.step (fun k => ?_) (key false ⟨(fun hd => by cases hd), fun hd => by have := (letter_iff c).1 hd.2; omega⟩)
          simp only [chirographlaw06_TextBlanks.j2]
          rw [if_pos h2, if_pos h65, if_neg h90, if_neg h97]
    · refine Ev.step (fun k => ?_) (key false ⟨(fun hd => by cases hd), fun hd => by have := (letter_iff c).1 hd.2; omega⟩)
      simp only [chirographlaw06_TextBlanks.j2]
      rw [if_pos h2, if_neg h65, if_neg (by omega)]
  · refine Ev.step (fun k => ?_) (key false ⟨(fun hd => by cases hd), fun hd => absurd hd.1 h2⟩)
    simp only [chirographlaw06_TextBlanks.j2]
    rw [if_neg h2]
theorem blanks_loop (a0 : Int) (l1 l2 : List Int) (ht : -9223372036854775808 ≤ a0 ∧ a0 ≤ 9223372036854775807) (hb : Bytes l1) (hl : l1.length ≤ 2000) (n30 : a0 ≠ 30) (h : (textV a0 l1).2 = 0) (hl2 : (l2.length : Int) ≤ 9223372036854775807) :
    ∀ (d i : Nat), i + d = l1.length → Ev (fun k => chirographlaw06_TextBlanks.l0 k a0 l1 l2 ((pieces l1 l2).take i).flatten (i : Int)) true := by
  intro d
  induction d with
  | zero =>
    intro i hd
    obtain rfl : i = l1.length := by omega
    rw [List.take_of_length_le (by rw [pieces_length]; omega)]
    exact blanks_end a0 l1 l2 ht hb hl n30 h
  | succ d ih =>
    intro i hd
    have hlt : i < l1.length := by omega
    have key := ih (i + 1) (by omega)
    have hp : ((pieces l1 l2).take (i + 1)).flatten = ((pieces l1 l2).take i).flatten ++ piece (rd l1 (i : Int)) (turnAt l2 (i : Int)) := by
      rw [List.take_add_one, List.getElem?_eq_getElem (by rw [pieces_length]; exact hlt), pieces_get]
      simp
    rw [hp] at key
    have hf := pieces_flat l1 l2 i
    have key2 := blanks_j2 a0 l1 l2 _ i _ _ (hb _ (rd_mem l1 i hlt)) (by omega) (by omega) key
    refine Ev.step (fun k => ?_) key2
    simp only [chirographlaw06_TextBlanks.l0]
    rw [if_pos (by omega), if_pos (by omega)]
    unfold turnAt
    by_cases h0 : (l2.length : Int) > 0
    · have m0 : 0 ≤ Int.tmod (i : Int) (l2.length : Int) := Int.tmod_nonneg _ (by omega)
      have m1 : Int.tmod (i : Int) (l2.length : Int) < (l2.length : Int) := Int.tmod_lt_of_pos _ h0
      rw [if_pos h0, if_pos h0, if_neg (by omega), if_pos m0, if_pos m1]
    · rw [if_neg h0, if_neg h0]
theorem blanks_guard (a0 : Int) (l1 l2 : List Int) : Ev (fun k => chirographlaw06_TextBlanks.j0 k a0 l1 l2 true) true := by
  refine Ev.step (fun k => ?_) live_end
  simp only [chirographlaw06_TextBlanks.j0, if_true]
theorem blanks_main (a0 : Int) (l1 l2 : List Int) (ht : -9223372036854775808 ≤ a0 ∧ a0 ≤ 9223372036854775807) (hb : Bytes l1) (hl : l1.length ≤ 2000) (n30 : a0 ≠ 30) (hl2 : (l2.length : Int) ≤ 9223372036854775807) : Ev (fun k => chirographlaw06_TextBlanks.j0 k a0 l1 l2 false) true := by
  refine Ev.step (fun k => by simp only [chirographlaw06_TextBlanks.j0]; rw [if_neg (by decide)]) ?_
  refine Ev.bind (text_ev a0 l1 hb (by omega)) ?_
  simp only [chirographlaw06_num.f, Option.bind_some]
  by_cases e0 : (textV a0 l1).2 = 0
  · simp only [if_pos e0]
    exact blanks_loop a0 l1 l2 ht hb hl n30 e0 hl2 l1.length 0 (by omega)
  · simp only [if_neg e0]
    exact live_end
theorem blanks_pure : chirographlaw06_TextBlanks.Pure := by
  intro a0 l1 l2 ht _ hl hb hl2 _ hb2
  refine Ev.rounds ?_
  unfold chirographlaw06_TextBlanks.f
  by_cases c1 : (l1.length : Int) > 2000
  · simp only [if_pos c1]
    exact blanks_guard _ _ _
  simp only [if_neg c1]
  by_cases c2 : a0 = 30
  · have : (a0 == 30) = true := by simpa using c2
    simp only [this]
    exact blanks_guard _ _ _
  have : (a0 == 30) = false := by simpa using c2
  simp only [this]
  exact blanks_main a0 l1 l2 (int_of_wf ht) (bytes_of_wf hb) (by omega) c2 (by simp only [maxLen] at hl2; omega)
end Go.Proofs.YtaeocpnabgnidaaDoor.Tx
