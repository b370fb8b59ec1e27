/- Plain Lean over the printed functions: the document's Fold is the folding byte by byte. -/
import Derived.Test.YtaeocpnabgnidaaDoorMx
set_option linter.unusedVariables false
namespace Go.Proofs.YtaeocpnabgnidaaDoor.Tx
open Go.RowKit Go.Proofs.YtaeocpnabgnidaaDoorW.PrintWords Go.Proofs.YtaeocpnabgnidaaDoor.M

theorem bt_get (s : ByteArray) (i : Nat) (h : i < s.size) : (bytesOf s)[i]? = some (bt s (i : Int)) := by
  rw [← rd_bytesOf]
  unfold rd
  have h' : i < (bytesOf s).length := by rw [bytesOf_length]; exact h
  simp [List.getD_eq_getElem?_getD, List.getElem?_eq_getElem h']
theorem drop_bt (s : ByteArray) (i : Nat) (h : i < s.size) : (bytesOf s).drop i = bt s (i : Int) :: (bytesOf s).drop (i + 1) := by
  have h' : i < (bytesOf s).length := by rw [bytesOf_length]; exact h
  rw [List.drop_eq_getElem_cons h']
  have := bt_get s i h
  rw [List.getElem?_eq_getElem h'] at this
  rw [Option.some.inj this]
theorem bytes_ok (s : ByteArray) : ∀ x ∈ bytesOf s, 0 ≤ x ∧ x < 256 := by
  intro x hx
  obtain ⟨b, _, rfl⟩ := List.mem_map.1 hx
  have := b.toNat_lt
  omega
theorem wrap_id {x : Int} (h0 : -9223372036854775808 ≤ x) (h1 : x ≤ 9223372036854775807) : wrap64 x = x := by unfold wrap64; omega
theorem last_rd (l : List Int) (h : l ≠ []) : l.getLast? = some (rd l ((l.length : Int) - 1)) := by
  have hp : 0 < l.length := List.length_pos_iff.2 h
  rw [List.getLast?_eq_getElem?]
  unfold rd
  have e : ((l.length : Int) - 1).toNat = l.length - 1 := by omega
  rw [e, List.getD_eq_getElem?_getD, List.getElem?_eq_getElem (by omega), Option.getD_some]

theorem ref_end (out : List Int) (h : out.length ≤ 140737488351232) (x0 : ByteArray) (i : Int) (hi : ¬ i < (x0.size : Int)) (k : Nat) : chirographref06_Fold.l0 (k + 1) x0 out i = some (strOfNums (trimR out)) := by
  simp only [chirographref06_Fold.l0]
  rw [if_neg hi]
  by_cases hne : out = []
  · subst hne
    simp [trimR]
  · have hp : 0 < out.length := List.length_pos_iff.2 hne
    have hw : wrap64 ((out.length : Int) - 1) = (out.length : Int) - 1 := wrap_id (by omega) (by omega)
    rw [if_pos (by omega), hw, if_pos (by omega), if_pos (by omega)]
    unfold trimR
    rw [last_rd out hne]
    by_cases h32 : rd out ((out.length : Int) - 1) = 32
    · rw [if_pos h32, if_pos (by omega), if_pos (by rw [h32])]
      have e : ((out.length : Int) - 1).toNat = out.length - 1 := by omega
      rw [e, List.dropLast_eq_take]
    · rw [if_neg h32, if_neg (by intro hc; exact h32 (Option.some.inj hc))]

theorem ref_fold (s : ByteArray) (hs : s.size ≤ 70368744177664) : ∀ (d i : Nat) (out : List Int), i + d = s.size → out.length ≤ i →
    Ev (fun k => chirographref06_Fold.l0 k s out (i : Int)) (strOfNums (trimR (((bytesOf s).drop i).foldl stepR out))) := by
  intro d
  induction d with
  | zero =>
    intro i out hd ho
    have e : (bytesOf s).drop i = [] := List.drop_of_length_le (by rw [bytesOf_length]; omega)
    rw [e]
    exact ⟨1, fun k hk => by
      obtain ⟨m, rfl⟩ : ∃ m, k = m + 1 := ⟨k - 1, by omega⟩
      exact ref_end out (by omega) s i (by omega) m⟩
  | succ d ih =>
    intro i out hd ho
    have hlt : i < s.size := by omega
    rw [drop_bt s i hlt, List.foldl_cons]
    have hb := bt_range s (i : Int)
    obtain ⟨b, hbe⟩ : ∃ b, bt s (i : Int) = b := ⟨_, rfl⟩
    rw [hbe] at hb ⊢
    have hnext : wrap64 ((i : Int) + 1) = ((i + 1 : Nat) : Int) := by rw [wrap_id (by omega) (by omega)]; omega
    have hsl : (stepR out b).length ≤ i + 1 := by unfold stepR; split <;> (try rw [List.length_append]) <;> (try simp only [List.length_cons, List.length_nil]) <;> omega
    have key := ih (i + 1) (stepR out b) (by omega) hsl
    have hroom : out.length < 140737488355328 := by omega
    -- one round: the byte, in small letters, put or passed over
    have round : ∀ (k : Nat) (c : Int) (t : Bool), (t = true → c = b ∧ low b = b + 32 ∧ b + 32 ≠ 32 ∧ b + 32 < 256) → (t = false → c = b ∧ low b = b) →
        chirographref06_Fold.j1 (k + 1) s out (i : Int) c t = chirographref06_Fold.l0 k s (stepR out b) (wrap64 ((i : Int) + 1)) := by
      intro k c t h1 h2
      simp only [chirographref06_Fold.j1]
      cases t with
      | true =>
        obtain ⟨rfl, hl, hn, h256⟩ := h1 rfl
        have hm : (c + 32) % 256 = c + 32 := by omega
        rw [if_pos rfl, hm, if_neg hn, if_pos hroom]
        unfold stepR
        rw [hl, if_neg (fun hc => hn hc.1)]
      | false =>
        obtain ⟨rfl, hl⟩ := h2 rfl
        rw [if_neg (by simp)]
        unfold stepR
        rw [hl]
        by_cases h32 : c = 32
        · rw [if_pos h32]
          by_cases hne : out = []
          · subst hne
            simp [h32]
          · have hp : 0 < out.length := List.length_pos_iff.2 hne
            have hw : wrap64 ((out.length : Int) - 1) = (out.length : Int) - 1 := wrap_id (by omega) (by omega)
            rw [if_neg (by omega), hw, if_pos (by omega), if_pos (by omega), last_rd out hne]
            by_cases hl32 : rd out ((out.length : Int) - 1) = 32
            · rw [if_pos hl32, if_pos ⟨h32, Or.inr (by rw [hl32])⟩]
            · rw [if_neg hl32, if_pos hroom, if_neg]
              rintro ⟨_, hc | hc⟩
              · exact hne hc
              · exact hl32 (Option.some.inj hc)
        · rw [if_neg h32, if_pos hroom, if_neg (fun hc => h32 hc.1)]
    have one : ∀ k, chirographref06_Fold.l0 (k + 2) s out (i : Int) = chirographref06_Fold.l0 k s (stepR out b) ((i + 1 : Nat) : Int) := by
      intro k
      rw [← hnext]
      simp only [chirographref06_Fold.l0]
      rw [if_pos (by omega), if_pos (by omega), hbe]
      by_cases h65 : b ≥ 65
      · rw [if_pos h65]
        by_cases h90 : b ≤ 90
        · exact round k b _ (fun _ => ⟨rfl, by unfold low; rw [if_pos ⟨h65, h90⟩], by omega, by omega⟩) (fun h => by simp at h; omega)
        · exact round k b _ (fun h => by simp at h; omega) (fun _ => ⟨rfl, by unfold low; rw [if_neg (by omega)]⟩)
      · rw [if_neg h65]
        exact round k b _ (fun h => by simp at h) (fun _ => ⟨rfl, by unfold low; rw [if_neg (by omega)]⟩)
    obtain ⟨K, hK⟩ := key
    exact ⟨K + 2, fun k hk => by
      obtain ⟨m, rfl⟩ : ∃ m, k = m + 2 := ⟨k - 2, by omega⟩
      show chirographref06_Fold.l0 (m + 2) s out (i : Int) = _
      rw [one m]
      exact hK m (by omega)⟩
theorem ref_Fold (s : ByteArray) (hs : s.size ≤ 70368744177664) : Ev (fun k => chirographref06_Fold.f k s) (strOfNums (foldL (bytesOf s))) := by
  have := ref_fold s hs s.size 0 [] (by omega) (by simp)
  rw [List.drop_zero, fold_ref] at this
  exact this
end Go.Proofs.YtaeocpnabgnidaaDoor.Tx
