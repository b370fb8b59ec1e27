/- Keys of names and a name within a name, by both (joined by assemble.py). -/
import Derived.Test.YtpdhbpdfldfnhaaGreatDoorZf
import Derived.Test.YtpdhbpdfldfnhaaGreatDoorZg
import Derived.Lib.ItoaLen
import Derived.Lib.QuoteLoop
import Derived.Lib.TrimUEq
import Derived.Lib.ValidLaws
import Derived.Test.YtpdhbpdfldfnhaaGreatDoorZh
import Derived.Test.YtpdhbpdfldfnhaaGreatDoorZc
set_option linter.unusedVariables false
set_option linter.unusedSimpArgs false
/- of TxPFold -/
/- Plain Lean over the printed functions: the document's Fold is the folding byte by byte. -/
namespace Go.Proofs.YtpdhbpdfldfnhaaGreatDoor.Tx
open Go.RowKit Go.Proofs.YtpdhbpdfldfnhaaGreatDoorW.PrintWords Go.Proofs.YtpdhbpdfldfnhaaGreatDoor.K

theorem bt_get (s : ByteArray) (i : Nat) (h : i < s.size) : (bytesOf s)[i]? = some (bt s (i : Int)) := by
  rw [← rd_bytesOf]
  unfold rd
  have h' : i < (bytesOf s).length := by rw [bytesOf_length]; exact h
  simp [List.getD_eq_getElem?_getD, List.getElem?_eq_getElem h']
theorem drop_bt (s : ByteArray) (i : Nat) (h : i < s.size) : (bytesOf s).drop i = bt s (i : Int) :: (bytesOf s).drop (i + 1) := by
  have h' : i < (bytesOf s).length := by rw [bytesOf_length]; exact h
  rw [List.drop_eq_getElem_cons h']
  have := bt_get s i h
  rw [List.getElem?_eq_getElem h'] at this
  rw [Option.some.inj this]
theorem bytes_ok (s : ByteArray) : ∀ x ∈ bytesOf s, 0 ≤ x ∧ x < 256 := by
  intro x hx
  obtain ⟨b, _, rfl⟩ := List.mem_map.1 hx
  have := b.toNat_lt
  omega
theorem wrap_id {x : Int} (h0 : -9223372036854775808 ≤ x) (h1 : x ≤ 9223372036854775807) : wrap64 x = x := by unfold wrap64; omega
theorem last_rd (l : List Int) (h : l ≠ []) : l.getLast? = some (rd l ((l.length : Int) - 1)) := by
  have hp : 0 < l.length := List.length_pos_iff.2 h
  rw [List.getLast?_eq_getElem?]
  unfold rd
  have e : ((l.length : Int) - 1).toNat = l.length - 1 := by omega
  rw [e, List.getD_eq_getElem?_getD, List.getElem?_eq_getElem (by omega), Option.getD_some]

theorem ref_end (out : List Int) (h : out.length ≤ 140737488351232) (x0 : ByteArray) (i : Int) (hi : ¬ i < (x0.size : Int)) (k : Nat) : chirographref06_Fold.l0 (k + 1) x0 out i = some (strOfNums (trimR out)) := by
  simp only [chirographref06_Fold.l0]
  rw [if_neg hi]
  by_cases hne : out = []
  · subst hne
    simp [trimR]
  · have hp : 0 < out.length := List.length_pos_iff.2 hne
    have hw : wrap64 ((out.length : Int) - 1) = (out.length : Int) - 1 := wrap_id (by omega) (by omega)
    rw [if_pos (by omega), hw, if_pos (by omega), if_pos (by omega)]
    unfold trimR
    rw [last_rd out hne]
    by_cases h32 : rd out ((out.length : Int) - 1) = 32
    · rw [if_pos h32, if_pos (by omega), if_pos (by rw [h32])]
      have e : ((out.length : Int) - 1).toNat = out.length - 1 := by omega
      rw [e, List.dropLast_eq_take]
    · rw [if_neg h32, if_neg (by intro hc; exact h32 (Option.some.inj hc))]

theorem ref_fold (s : ByteArray) (hs : s.size ≤ 70368744177664) : ∀ (d i : Nat) (out : List Int), i + d = s.size → out.length ≤ i →
    Ev (fun k => chirographref06_Fold.l0 k s out (i : Int)) (strOfNums (trimR (((bytesOf s).drop i).foldl stepR out))) := by
  intro d
  induction d with
  | zero =>
    intro i out hd ho
    have e : (bytesOf s).drop i = [] := List.drop_of_length_le (by rw [bytesOf_length]; omega)
    rw [e]
    exact ⟨1, fun k hk => by
      obtain ⟨m, rfl⟩ : ∃ m, k = m + 1 := ⟨k - 1, by omega⟩
      exact ref_end out (by omega) s i (by omega) m⟩
  | succ d ih =>
    intro i out hd ho
    have hlt : i < s.size := by omega
    rw [drop_bt s i hlt, List.foldl_cons]
    have hb := bt_range s (i : Int)
    obtain ⟨b, hbe⟩ : ∃ b, bt s (i : Int) = b := ⟨_, rfl⟩
    rw [hbe] at hb ⊢
    have hnext : wrap64 ((i : Int) + 1) = ((i + 1 : Nat) : Int) := by rw [wrap_id (by omega) (by omega)]; omega
    have hsl : (stepR out b).length ≤ i + 1 := by unfold stepR; split <;> (try rw [List.length_append]) <;> (try simp only [List.length_cons, List.length_nil]) <;> omega
    have key := ih (i + 1) (stepR out b) (by omega) hsl
    have hroom : out.length < 140737488355328 := by omega
    -- one round: the byte, in small letters, put or passed over
    have round : ∀ (k : Nat) (c : Int) (t : Bool), (t = true → c = b ∧ low b = b + 32 ∧ b + 32 ≠ 32 ∧ b + 32 < 256) → (t = false → c = b ∧ low b = b) →
        chirographref06_Fold.j1 (k + 1) s out (i : Int) c t = chirographref06_Fold.l0 k s (stepR out b) (wrap64 ((i : Int) + 1)) := by
      intro k c t h1 h2
      simp only [chirographref06_Fold.j1]
      cases t with
      | true =>
        obtain ⟨rfl, hl, hn, h256⟩ := h1 rfl
        have hm : (c + 32) % 256 = c + 32 := by omega
        rw [if_pos rfl, hm, if_neg hn, if_pos hroom]
        unfold stepR
        rw [hl, if_neg (fun hc => hn hc.1)]
      | false =>
        obtain ⟨rfl, hl⟩ := h2 rfl
        rw [if_neg (by simp)]
        unfold stepR
        rw [hl]
        by_cases h32 : c = 32
        · rw [if_pos h32]
          by_cases hne : out = []
          · subst hne
            simp [h32]
          · have hp : 0 < out.length := List.length_pos_iff.2 hne
            have hw : wrap64 ((out.length : Int) - 1) = (out.length : Int) - 1 := wrap_id (by omega) (by omega)
            rw [if_neg (by omega), hw, if_pos (by omega), if_pos (by omega), last_rd out hne]
            by_cases hl32 : rd out ((out.length : Int) - 1) = 32
            · rw [if_pos hl32, if_pos ⟨h32, Or.inr (by rw [hl32])⟩]
            · rw [if_neg hl32, if_pos hroom, if_neg]
              rintro ⟨_, hc | hc⟩
              · exact hne hc
              · exact hl32 (Option.some.inj hc)
        · rw [if_neg h32, if_pos hroom, if_neg (fun hc => h32 hc.1)]
    have one : ∀ k, chirographref06_Fold.l0 (k + 2) s out (i : Int) = chirographref06_Fold.l0 k s (stepR out b) ((i + 1 : Nat) : Int) := by
      intro k
      rw [← hnext]
      simp only [chirographref06_Fold.l0]
      rw [if_pos (by omega), if_pos (by omega), hbe]
      by_cases h65 : b ≥ 65
      · rw [if_pos h65]
        by_cases h90 : b ≤ 90
        · exact round k b _ (fun _ => ⟨rfl, by unfold low; rw [if_pos ⟨h65, h90⟩], by omega, by omega⟩) (fun h => by simp at h; omega)
        · exact round k b _ (fun h => by simp at h; omega) (fun _ => ⟨rfl, by unfold low; rw [if_neg (by omega)]⟩)
      · rw [if_neg h65]
        exact round k b _ (fun h => by simp at h) (fun _ => ⟨rfl, by unfold low; rw [if_neg (by omega)]⟩)
    obtain ⟨K, hK⟩ := key
    exact ⟨K + 2, fun k hk => by
      obtain ⟨m, rfl⟩ : ∃ m, k = m + 2 := ⟨k - 2, by omega⟩
      show chirographref06_Fold.l0 (m + 2) s out (i : Int) = _
      rw [one m]
      exact hK m (by omega)⟩
theorem ref_Fold (s : ByteArray) (hs : s.size ≤ 70368744177664) : Ev (fun k => chirographref06_Fold.f k s) (strOfNums (foldL (bytesOf s))) := by
  have := ref_fold s hs s.size 0 [] (by omega) (by simp)
  rw [List.drop_zero, fold_ref] at this
  exact this
end Go.Proofs.YtpdhbpdfldfnhaaGreatDoor.Tx
/- of TxPKey -/
/- Plain Lean over the printed functions: what text.Text, text.Key and text.Alike answer. -/
namespace Go.Proofs.YtpdhbpdfldfnhaaGreatDoor.Tx
open Go.RowKit Go.Lib Go.Proofs.YtpdhbpdfldfnhaaGreatDoorW.PrintWords Go.Proofs.YtpdhbpdfldfnhaaGreatDoor.K

def Bytes (l : List Int) : Prop := ∀ x ∈ l, 0 ≤ x ∧ x < 256
theorem bytes_of_wf {l : List Int} (h : ∀ x ∈ l, (Lit.int .u8 x).wf = true) : Bytes l := by
  intro x hx
  have hx' : 0 ≤ x ∧ x ≤ 255 := by simpa [Lit.wf, IntKind.min, IntKind.max, IntKind.signed, IntKind.bits] using h x hx
  omega
theorem int_of_wf {x : Int} (h : (Lit.int .i64 x).wf = true) : -9223372036854775808 ≤ x ∧ x ≤ 9223372036854775807 := by
  simpa [Lit.wf, IntKind.min, IntKind.max, IntKind.signed, IntKind.bits] using h
theorem ok_of (l : List Int) (h : Bytes l) : okBytes l = true := (okBytes_iff l).2 h

/-- May the byte stand in a string of the kind? -/
def fitsV (tag b : Int) : Bool := decide (text_fits.f tag b = some true)
theorem fits_f (tag b : Int) (h : 0 ≤ b ∧ b < 256) : text_fits.f tag b = some (fitsV tag b) := by
  have hi : ∀ s, strings_IndexByte.f s b = some (Lib.indexByte s.data.toList b.toNat.toUInt8) := fun s => by
    unfold strings_IndexByte.f index_f; rw [if_pos h]
  obtain ⟨r, hr⟩ : ∃ r, text_fits.f tag b = some r := by
    unfold text_fits.f
    simp only [hi, Option.bind_some]
    repeat' split
    all_goals exact ⟨_, rfl⟩
  unfold fitsV
  rw [hr]
  cases r <;> simp

def oneByte (tag : Int) : Prop := tag = 18 ∨ tag = 19 ∨ tag = 22 ∨ tag = 26
instance (tag : Int) : Decidable (oneByte tag) := by unfold oneByte; infer_instance
/-- What text.Text answers. -/
def textV (tag : Int) (l : List Int) : ByteArray × Int :=
  if tag = 30 then (wideS l, wideE l)
  else if tag = 12 then (if validD (strOfNums l).data.toList = true then (strOfNums l, 0) else (⟨#[]⟩, 60))
  else if oneByte tag then (if (l.all fun b => fitsV tag b) = true then (strOfNums l, 0) else (⟨#[]⟩, 60))
  else (⟨#[]⟩, 61)

theorem rd_drop (l : List Int) (i : Nat) (h : i < l.length) : l.drop i = rd l (i : Int) :: l.drop (i + 1) := by
  rw [List.drop_eq_getElem_cons h]
  unfold rd
  simp [List.getD_eq_getElem?_getD, List.getElem?_eq_getElem h]
theorem rd_mem (l : List Int) (i : Nat) (h : i < l.length) : rd l (i : Int) ∈ l := by
  have : rd l (i : Int) ∈ l.drop i := by rw [rd_drop l i h]; exact List.mem_cons_self
  exact List.mem_of_mem_drop this
theorem wrap_next {i : Nat} (h : i ≤ 9000000000000000000) : wrap64 ((i : Int) + 1) = ((i + 1 : Nat) : Int) := by rw [wrap_id (by omega) (by omega)]; omega

theorem text_loop (tag : Int) (x1 l : List Int) (hb : Bytes l) (hl : l.length ≤ 35184372088832) : ∀ (d i : Nat), i + d = l.length →
    Ev (fun k => text_Text.l0 k tag x1 l (l.length : Int) (i : Int)) (if ((l.drop i).all fun b => fitsV tag b) = true then (strOfNums x1, 0) else (⟨#[]⟩, 60)) := by
  intro d
  induction d with
  | zero =>
    intro i hd
    rw [List.drop_of_length_le (by omega)]
    refine Ev.step (f := fun _ => some (strOfNums x1, 0)) (fun k => ?_) (Ev.now _)
    simp only [text_Text.l0]
    rw [if_neg (by omega)]
  | succ d ih =>
    intro i hd
    have hlt : i < l.length := by omega
    rw [rd_drop l i hlt, List.all_cons]
    have hf := fits_f tag (rd l (i : Int)) (hb _ (rd_mem l i hlt))
    cases hv : fitsV tag (rd l (i : Int)) with
    | true =>
      rw [hv] at hf
      rw [Bool.true_and]
      refine Ev.step (fun k => ?_) (ih (i + 1) (by omega))
      simp only [text_Text.l0]
      rw [if_pos (by omega), if_pos (by omega), if_pos (by omega), hf, Option.bind_some, if_pos rfl, wrap_next (by omega)]
    | false =>
      rw [hv] at hf
      rw [Bool.false_and]
      refine Ev.step (f := fun _ => some (⟨#[]⟩, 60)) (fun k => ?_) (Ev.now _)
      simp only [text_Text.l0]
      rw [if_pos (by omega), if_pos (by omega), if_pos (by omega), hf, Option.bind_some, if_neg (by decide)]
theorem text_j0 (tag : Int) (l : List Int) (hb : Bytes l) (hl : l.length ≤ 35184372088832) : Ev (fun k => text_Text.j0 k tag l true) (if (l.all fun b => fitsV tag b) = true then (strOfNums l, 0) else (⟨#[]⟩, 60)) := by
  refine Ev.step (fun k => ?_) (text_loop tag l l hb hl l.length 0 (by omega))
  simp only [text_Text.j0, if_true]
  rfl
theorem text_ev (tag : Int) (l : List Int) (hb : Bytes l) (hl : l.length ≤ 35184372088832) : Ev (fun k => text_Text.f k tag l) (textV tag l) := by
  have hw : text_wide.f l = some (wideS l, wideE l) := by unfold text_wide.f wide_f; rw [if_pos ⟨hl, ok_of l hb⟩]
  have hv : utf8_Valid.f l = some (validD (strOfNums l).data.toList) := by unfold utf8_Valid.f valid_f; rw [if_pos (ok_of l hb)]
  unfold textV
  by_cases h30 : tag = 30
  · rw [if_pos h30]
    refine Ev.congr (f := fun _ => some (wideS l, wideE l)) (fun k => ?_) (Ev.now _)
    unfold text_Text.f
    rw [if_pos h30, hw]
    rfl
  rw [if_neg h30]
  by_cases h12 : tag = 12
  · rw [if_pos h12]
    refine Ev.congr (f := fun _ => some (if validD (strOfNums l).data.toList = true then (strOfNums l, 0) else (⟨#[]⟩, 60))) (fun k => ?_) (Ev.now _)
    unfold text_Text.f
    rw [if_neg h30, if_pos h12, hv, Option.bind_some]
    split <;> rfl
  rw [if_neg h12]
  by_cases ho : oneByte tag
  · rw [if_pos ho]
    refine Ev.congr (fun k => ?_) (text_j0 tag l hb hl)
    unfold text_Text.f
    rw [if_neg h30, if_neg h12]
    rcases ho with h | h | h | h <;> subst h <;> rfl
  · rw [if_neg ho]
    unfold oneByte at ho
    refine Ev.step (f := fun _ => some (⟨#[]⟩, 61)) (fun k => ?_) (Ev.now _)
    unfold text_Text.f
    rw [if_neg h30, if_neg h12, if_neg (by omega), if_neg (by omega), if_neg (by omega)]
    have : (tag == 26) = false := by simp; omega
    rw [this]
    simp only [text_Text.j0]
    rw [if_neg (by decide)]

theorem wideL_length : ∀ (l r : List Int), wideL l = some r → r.length ≤ 2 * l.length
  | [], r, h => by simp [wideL] at h; subst h; simp
  | [_], r, h => by simp [wideL] at h
  | a :: b :: t, r, h => by
    unfold wideL at h
    split at h
    · cases h
    · obtain ⟨x, hx, rfl⟩ := Option.map_eq_some_iff.1 h
      have := wideL_length t x hx
      have h4 := encodeRuneZ_length_le (a * 256 + b)
      simp only [List.length_append, List.length_cons]
      omega
theorem wideS_size (l : List Int) : (wideS l).size ≤ 2 * l.length := by
  unfold wideS
  split
  · rename_i x hx
    rw [strOfNums_size]
    exact wideL_length l x hx
  · exact Nat.zero_le _
theorem textV_size (tag : Int) (l : List Int) : (textV tag l).1.size ≤ 2 * l.length := by
  unfold textV
  have h0 : (⟨#[]⟩ : ByteArray).size ≤ 2 * l.length := Nat.zero_le _
  have h1 : (strOfNums l).size ≤ 2 * l.length := by rw [strOfNums_size]; omega
  repeat' split
  all_goals first | exact wideS_size l | exact h0 | exact h1

def foldS (s : ByteArray) : ByteArray := strOfNums (foldL (bytesOf s))
theorem foldS_size (s : ByteArray) : (foldS s).size ≤ s.size := by
  unfold foldS
  rw [strOfNums_size, ← bytesOf_length]
  exact fold_length _
theorem fold_ev (s : ByteArray) (h : s.size ≤ 35184372088832) : text_Fold.f s = some (foldS s) := by
  unfold text_Fold.f fold_f
  rw [if_pos h]
  rfl

/-- What text.Key answers. -/
def keyV (tag : Int) (l : List Int) : ByteArray :=
  if (textV tag l).2 = 0 then (⟨#[61]⟩ : ByteArray) ++ foldS (textV tag l).1
  else (((⟨#[35]⟩ : ByteArray) ++ ⟨(Lib.itoa tag).toArray⟩) ++ (⟨#[58]⟩ : ByteArray)) ++ strOfNums l
theorem key_ev (tag : Int) (l : List Int) (ht : -9223372036854775808 ≤ tag ∧ tag ≤ 9223372036854775807) (hb : Bytes l) (hl : l.length ≤ 1000000) : Ev (fun k => text_Key.f k tag l) (keyV tag l) := by
  unfold text_Key.f keyV
  refine Ev.bind (text_ev tag l hb (by omega)) ?_
  have hs := textV_size tag l
  by_cases h0 : (textV tag l).2 = 0
  · simp only [if_pos h0]
    have hf := foldS_size (textV tag l).1
    rw [fold_ev _ (by omega), Option.bind_some, if_pos (by omega)]
    exact Ev.now _
  · simp only [if_neg h0]
    have hi : strconv_Itoa.f tag = some ⟨(Lib.itoa tag).toArray⟩ := by unfold strconv_Itoa.f itoa_f; rw [if_pos ht]
    have h21 := Lib.itoa_length_le tag ht.1 ht.2
    have hsz : (⟨(Lib.itoa tag).toArray⟩ : ByteArray).size = (Lib.itoa tag).length := by simp [ByteArray.size]
    have s35 : (⟨#[35]⟩ : ByteArray).size = 1 := rfl
    have s58 : (⟨#[58]⟩ : ByteArray).size = 1 := rfl
    rw [hi, Option.bind_some, if_pos (by omega), if_pos (by rw [ByteArray.size_append]; omega), if_pos (by rw [ByteArray.size_append, ByteArray.size_append, strOfNums_size]; omega)]
    exact Ev.now _
end Go.Proofs.YtpdhbpdfldfnhaaGreatDoor.Tx
/- of TxPRef -/
/- Plain Lean over the printed functions: the document's Text answers as text.Text. -/
namespace Go.Proofs.YtpdhbpdfldfnhaaGreatDoor.Tx
open Go.RowKit Go.Lib Go.Proofs.YtpdhbpdfldfnhaaGreatDoorW.PrintWords Go.Proofs.YtpdhbpdfldfnhaaGreatDoor.K

/-- How many bytes of a character begin with b0, n of them standing there; 0: none does. -/
def wholeZ (n : Nat) (b0 b1 b2 b3 : Int) : Int :=
  if b0 < 128 then 1
  else if 192 ≤ b0 ∧ b0 < 224 then (if n < 2 ∨ b1 < 128 ∨ 192 ≤ b1 ∨ (b0 - 192) * 64 + b1 - 128 < 128 then 0 else 2)
  else if 224 ≤ b0 ∧ b0 < 240 then (if n < 3 ∨ b1 < 128 ∨ 192 ≤ b1 ∨ b2 < 128 ∨ 192 ≤ b2 ∨ ((b0 - 224) * 64 + b1 - 128) * 64 + b2 - 128 < 2048 ∨ (55296 ≤ ((b0 - 224) * 64 + b1 - 128) * 64 + b2 - 128 ∧ ((b0 - 224) * 64 + b1 - 128) * 64 + b2 - 128 ≤ 57343) then 0 else 3)
  else if 240 ≤ b0 ∧ b0 < 248 then (if n < 4 ∨ b1 < 128 ∨ 192 ≤ b1 ∨ b2 < 128 ∨ 192 ≤ b2 ∨ b3 < 128 ∨ 192 ≤ b3 ∨ (((b0 - 240) * 64 + b1 - 128) * 64 + b2 - 128) * 64 + b3 - 128 < 65536 ∨ 1114111 < (((b0 - 240) * 64 + b1 - 128) * 64 + b2 - 128) * 64 + b3 - 128 then 0 else 4)
  else 0
set_option maxHeartbeats 4000000 in
theorem wholeZ_decode (n b0 b1 b2 b3 : Nat) (hn : 1 ≤ n) (h0 : b0 < 256) (h1 : b1 < 256) (h2 : b2 < 256) (h3 : b3 < 256) :
    wholeZ n b0 b1 b2 b3 = if (decodeN n b0 b1 b2 b3).1 = 65533 ∧ (decodeN n b0 b1 b2 b3).2 = 1 then 0 else ((decodeN n b0 b1 b2 b3).2 : Int) := by
  by_cases c0 : b0 < 128
  · unfold wholeZ decodeN
    rw [if_pos (by omega), if_pos c0, if_neg (by simp; omega)]
    rfl
  by_cases c1 : b0 < 192
  · have e : decodeN n b0 b1 b2 b3 = (65533, 1) := by
      unfold decodeN
      rw [if_neg c0, if_neg (by omega), if_neg (by omega), if_neg (by omega)]
    rw [e]
    unfold wholeZ
    rw [if_neg (by omega), if_neg (by omega), if_neg (by omega), if_neg (by omega), if_pos ⟨rfl, rfl⟩]
  by_cases c2 : b0 < 224
  · by_cases g : b0 / 32 = 6 ∧ (1 < n ∧ b1 / 64 = 2)
    · by_cases v : b0 % 32 * 64 + b1 % 64 ≥ 128
      · have e : decodeN n b0 b1 b2 b3 = (b0 % 32 * 64 + b1 % 64, 2) := by
          unfold decodeN
          rw [if_neg c0, if_pos g, if_pos v]
        rw [e, if_neg (by simp)]
        unfold wholeZ
        rw [if_neg (by omega), if_pos (by omega), if_neg (by omega)]
        rfl
      · have e : decodeN n b0 b1 b2 b3 = (65533, 1) := by
          unfold decodeN
          rw [if_neg c0, if_pos g, if_neg v]
        rw [e, if_pos ⟨rfl, rfl⟩]
        unfold wholeZ
        rw [if_neg (by omega), if_pos (by omega), if_pos (by omega)]
    · have e : decodeN n b0 b1 b2 b3 = (65533, 1) := by
        unfold decodeN
        rw [if_neg c0, if_neg g, if_neg (by omega), if_neg (by omega)]
      rw [e, if_pos ⟨rfl, rfl⟩]
      unfold wholeZ
      rw [if_neg (by omega), if_pos (by omega), if_pos (by omega)]
  by_cases c3 : b0 < 240
  · by_cases g : b0 / 16 = 14 ∧ (1 < n ∧ b1 / 64 = 2) ∧ (2 < n ∧ b2 / 64 = 2)
    · by_cases v : b0 % 16 * 4096 + b1 % 64 * 64 + b2 % 64 ≥ 2048 ∧ (b0 % 16 * 4096 + b1 % 64 * 64 + b2 % 64 < 55296 ∨ (57344 ≤ b0 % 16 * 4096 + b1 % 64 * 64 + b2 % 64 ∧ b0 % 16 * 4096 + b1 % 64 * 64 + b2 % 64 ≤ 1114111))
      · have e : decodeN n b0 b1 b2 b3 = (b0 % 16 * 4096 + b1 % 64 * 64 + b2 % 64, 3) := by
          unfold decodeN
          rw [if_neg c0, if_neg (by omega), if_pos g, if_pos v]
        rw [e, if_neg (by simp)]
        unfold wholeZ
        rw [if_neg (by omega), if_neg (by omega), if_pos (by omega), if_neg (by omega)]
        rfl
      · have e : decodeN n b0 b1 b2 b3 = (65533, 1) := by
          unfold decodeN
          rw [if_neg c0, if_neg (by omega), if_pos g, if_neg v]
        rw [e, if_pos ⟨rfl, rfl⟩]
        unfold wholeZ
        rw [if_neg (by omega), if_neg (by omega), if_pos (by omega), if_pos (by omega)]
    · have e : decodeN n b0 b1 b2 b3 = (65533, 1) := by
        unfold decodeN
        rw [if_neg c0, if_neg (by omega), if_neg g, if_neg (by omega)]
      rw [e, if_pos ⟨rfl, rfl⟩]
      unfold wholeZ
      rw [if_neg (by omega), if_neg (by omega), if_pos (by omega), if_pos (by omega)]
  by_cases c4 : b0 < 248
  · by_cases g : b0 / 8 = 30 ∧ (1 < n ∧ b1 / 64 = 2) ∧ (2 < n ∧ b2 / 64 = 2) ∧ (3 < n ∧ b3 / 64 = 2)
    · by_cases v : b0 % 8 * 262144 + b1 % 64 * 4096 + b2 % 64 * 64 + b3 % 64 ≥ 65536 ∧ (b0 % 8 * 262144 + b1 % 64 * 4096 + b2 % 64 * 64 + b3 % 64 < 55296 ∨ (57344 ≤ b0 % 8 * 262144 + b1 % 64 * 4096 + b2 % 64 * 64 + b3 % 64 ∧ b0 % 8 * 262144 + b1 % 64 * 4096 + b2 % 64 * 64 + b3 % 64 ≤ 1114111))
      · have e : decodeN n b0 b1 b2 b3 = (b0 % 8 * 262144 + b1 % 64 * 4096 + b2 % 64 * 64 + b3 % 64, 4) := by
          unfold decodeN
          rw [if_neg c0, if_neg (by omega), if_neg (by omega), if_pos g, if_pos v]
        rw [e, if_neg (by simp)]
        unfold wholeZ
        rw [if_neg (by omega), if_neg (by omega), if_neg (by omega), if_pos (by omega), if_neg (by omega)]
        rfl
      · have e : decodeN n b0 b1 b2 b3 = (65533, 1) := by
          unfold decodeN
          rw [if_neg c0, if_neg (by omega), if_neg (by omega), if_pos g, if_neg v]
        rw [e, if_pos ⟨rfl, rfl⟩]
        unfold wholeZ
        rw [if_neg (by omega), if_neg (by omega), if_neg (by omega), if_pos (by omega), if_pos (by omega)]
    · have e : decodeN n b0 b1 b2 b3 = (65533, 1) := by
        unfold decodeN
        rw [if_neg c0, if_neg (by omega), if_neg (by omega), if_neg g]
      rw [e, if_pos ⟨rfl, rfl⟩]
      unfold wholeZ
      rw [if_neg (by omega), if_neg (by omega), if_neg (by omega), if_pos (by omega), if_pos (by omega)]
  · have e : decodeN n b0 b1 b2 b3 = (65533, 1) := by
      unfold decodeN
      rw [if_neg c0, if_neg (by omega), if_neg (by omega), if_neg (by omega)]
    rw [e]
    unfold wholeZ
    rw [if_neg (by omega), if_neg (by omega), if_neg (by omega), if_neg (by omega), if_pos ⟨rfl, rfl⟩]

/-- One byte more of a character. -/
theorem whole_step (k : Nat) (l : List Int) (i n v least x b : Int) (hx : x < i + n) (h0 : 0 ≤ x) (hl : x < l.length) (hn : -9223372036854775808 ≤ i + n ∧ i + n ≤ 9223372036854775807) (hb : rd l x = b) (hb0 : 0 ≤ b ∧ b < 256) (hv : 0 ≤ v ∧ v < 100000000) (hlen : (l.length : Int) ≤ 35184372088832) :
    chirographref06_whole.l0 (k + 1) l i n v least x = if b < 128 ∨ 192 ≤ b then some 0 else chirographref06_whole.l0 k l i n (v * 64 + b - 128) least (x + 1) := by
  simp only [chirographref06_whole.l0]
  rw [wrap_id hn.1 hn.2, if_pos hx, if_pos h0, if_pos hl, hb]
  by_cases c : b < 128
  · rw [if_pos c, if_pos (Or.inl c)]
  rw [if_neg c]
  by_cases d : b ≥ 192
  · rw [if_pos d, if_pos (Or.inr d)]
  rw [if_neg d, if_neg (by omega), wrap_id (x := b) (by omega) (by omega), wrap_id (x := v * 64) (by omega) (by omega), wrap_id (x := v * 64 + b) (by omega) (by omega), wrap_id (x := v * 64 + b - 128) (by omega) (by omega), wrap_id (x := x + 1) (by omega) (by omega)]
theorem whole_end (k : Nat) (l : List Int) (i n v least : Int) (hn : -9223372036854775808 ≤ i + n ∧ i + n ≤ 9223372036854775807) :
    chirographref06_whole.l0 (k + 1) l i n v least (i + n) = some (if v < least ∨ 1114111 < v ∨ (55296 ≤ v ∧ v ≤ 57343) then 0 else n) := by
  simp only [chirographref06_whole.l0]
  rw [wrap_id hn.1 hn.2, if_neg (by omega)]
  by_cases c : v < least
  · rw [if_pos c, if_pos (Or.inl c)]
  rw [if_neg c]
  by_cases d : v > 1114111
  · rw [if_pos d, if_pos (Or.inr (Or.inl d))]
  rw [if_neg d]
  by_cases e : v ≥ 55296
  · rw [if_pos e]
    by_cases f : v ≤ 57343
    · rw [if_pos f, if_pos (by omega)]
    · rw [if_neg f, if_neg (by omega)]
  · rw [if_neg e, if_neg (by omega)]

theorem rd_byte {l : List Int} (hb : Bytes l) (x : Int) : 0 ≤ rd l x ∧ rd l x < 256 := by
  unfold rd
  rw [List.getD_eq_getElem?_getD]
  cases h : l[x.toNat]? with
  | none => simp
  | some y => exact hb y (List.mem_of_getElem? h)
set_option maxHeartbeats 4000000 in
theorem whole_f (l : List Int) (hb : Bytes l) (hl : l.length ≤ 1000000) (i : Nat) (hi : i < l.length) (m : Nat) :
    chirographref06_whole.f (m + 9) l (i : Int) = some (wholeZ (l.length - i) (rd l (i : Int)) (rd l ((i : Int) + 1)) (rd l ((i : Int) + 2)) (rd l ((i : Int) + 3))) := by
  have r0 := rd_byte hb (i : Int)
  have r1 := rd_byte hb ((i : Int) + 1)
  have r2 := rd_byte hb ((i : Int) + 2)
  have r3 := rd_byte hb ((i : Int) + 3)
  obtain ⟨b0, e0⟩ : ∃ b, rd l (i : Int) = b := ⟨_, rfl⟩
  obtain ⟨b1, e1⟩ : ∃ b, rd l ((i : Int) + 1) = b := ⟨_, rfl⟩
  obtain ⟨b2, e2⟩ : ∃ b, rd l ((i : Int) + 2) = b := ⟨_, rfl⟩
  obtain ⟨b3, e3⟩ : ∃ b, rd l ((i : Int) + 3) = b := ⟨_, rfl⟩
  rw [e0] at r0
  rw [e1] at r1
  rw [e2] at r2
  rw [e3] at r3
  rw [e0, e1, e2, e3]
  have j2 : ∀ (k : Nat) (n v least : Int), 0 ≤ n ∧ n ≤ 10 → chirographref06_whole.j2 (k + 1) l (i : Int) n v least = if (i : Int) + n > l.length then some 0 else chirographref06_whole.l0 k l (i : Int) n v least ((i : Int) + 1) := by
    intro k n v least hn
    simp only [chirographref06_whole.j2]
    rw [wrap_id (x := (i : Int) + n) (by omega) (by omega), wrap_id (x := (i : Int) + 1) (by omega) (by omega)]
  unfold chirographref06_whole.f
  rw [e0, wrap_id (x := b0) (by omega) (by omega), if_pos (by omega), if_pos (by omega)]
  by_cases c0 : b0 < 128
  · unfold wholeZ
    rw [if_pos c0, if_pos c0]
  rw [if_neg c0]
  by_cases c1 : b0 < 192
  · unfold wholeZ
    rw [if_neg (by omega), if_neg c0, if_neg (by omega), if_neg (by omega), if_neg (by omega)]
    simp only [chirographref06_whole.j0]
    rw [if_neg (by decide), if_neg (by omega)]
    simp only [chirographref06_whole.j1]
    rw [if_neg (by decide), if_neg (by omega)]
  rw [if_pos (by omega)]
  by_cases c2 : b0 < 224
  · unfold wholeZ
    rw [decide_eq_true c2, if_neg c0, if_pos ⟨by omega, c2⟩]
    simp only [chirographref06_whole.j0, if_true]
    rw [wrap_id (x := b0 - 192) (by omega) (by omega), j2 _ _ _ _ (by omega)]
    by_cases g : (i : Int) + 2 > l.length
    · rw [if_pos g, if_pos (by omega)]
    rw [if_neg g, whole_step _ l i 2 (b0 - 192) 128 _ b1 (by omega) (by omega) (by omega) (by omega) e1 r1 (by omega) (by omega)]
    by_cases g1 : b1 < 128 ∨ 192 ≤ b1
    · rw [if_pos g1, if_pos (by omega)]
    rw [if_neg g1, show (i : Int) + 1 + 1 = (i : Int) + 2 by omega, whole_end _ _ _ _ _ _ (by omega)]
    by_cases v : (b0 - 192) * 64 + b1 - 128 < 128
    · rw [if_pos (by omega), if_pos (by omega)]
    · rw [if_neg (by omega), if_neg (by omega)]
  rw [decide_eq_false c2]
  by_cases c3 : b0 < 240
  · unfold wholeZ
    rw [if_neg c0, if_neg (by omega), if_pos ⟨by omega, c3⟩]
    simp only [chirographref06_whole.j0]
    rw [if_neg (by decide), if_pos (by omega), decide_eq_true c3]
    simp only [chirographref06_whole.j1, if_true]
    rw [wrap_id (x := b0 - 224) (by omega) (by omega), j2 _ _ _ _ (by omega)]
    by_cases g : (i : Int) + 3 > l.length
    · rw [if_pos g, if_pos (by omega)]
    rw [if_neg g, whole_step _ l i 3 (b0 - 224) 2048 _ b1 (by omega) (by omega) (by omega) (by omega) e1 r1 (by omega) (by omega)]
    by_cases g1 : b1 < 128 ∨ 192 ≤ b1
    · rw [if_pos g1, if_pos (by omega)]
    rw [if_neg g1, show (i : Int) + 1 + 1 = (i : Int) + 2 by omega, whole_step _ l i 3 ((b0 - 224) * 64 + b1 - 128) 2048 _ b2 (by omega) (by omega) (by omega) (by omega) e2 r2 (by omega) (by omega)]
    by_cases g2 : b2 < 128 ∨ 192 ≤ b2
    · rw [if_pos g2, if_pos (by omega)]
    rw [if_neg g2, show (i : Int) + 2 + 1 = (i : Int) + 3 by omega, whole_end _ _ _ _ _ _ (by omega)]
    by_cases v : ((b0 - 224) * 64 + b1 - 128) * 64 + b2 - 128 < 2048 ∨ (55296 ≤ ((b0 - 224) * 64 + b1 - 128) * 64 + b2 - 128 ∧ ((b0 - 224) * 64 + b1 - 128) * 64 + b2 - 128 ≤ 57343)
    · rw [if_pos (by omega), if_pos (by omega)]
    · rw [if_neg (by omega), if_neg (by omega)]
  by_cases c4 : b0 < 248
  · unfold wholeZ
    rw [if_neg c0, if_neg (by omega), if_neg (by omega), if_pos ⟨by omega, c4⟩]
    simp only [chirographref06_whole.j0]
    rw [if_neg (by decide), if_pos (by omega), decide_eq_false c3]
    simp only [chirographref06_whole.j1]
    rw [if_neg (by decide), if_pos (by omega), if_pos c4, wrap_id (x := b0 - 240) (by omega) (by omega), j2 _ _ _ _ (by omega)]
    by_cases g : (i : Int) + 4 > l.length
    · rw [if_pos g, if_pos (by omega)]
    rw [if_neg g, whole_step _ l i 4 (b0 - 240) 65536 _ b1 (by omega) (by omega) (by omega) (by omega) e1 r1 (by omega) (by omega)]
    by_cases g1 : b1 < 128 ∨ 192 ≤ b1
    · rw [if_pos g1, if_pos (by omega)]
    rw [if_neg g1, show (i : Int) + 1 + 1 = (i : Int) + 2 by omega, whole_step _ l i 4 ((b0 - 240) * 64 + b1 - 128) 65536 _ b2 (by omega) (by omega) (by omega) (by omega) e2 r2 (by omega) (by omega)]
    by_cases g2 : b2 < 128 ∨ 192 ≤ b2
    · rw [if_pos g2, if_pos (by omega)]
    rw [if_neg g2, show (i : Int) + 2 + 1 = (i : Int) + 3 by omega, whole_step _ l i 4 (((b0 - 240) * 64 + b1 - 128) * 64 + b2 - 128) 65536 _ b3 (by omega) (by omega) (by omega) (by omega) e3 r3 (by omega) (by omega)]
    by_cases g3 : b3 < 128 ∨ 192 ≤ b3
    · rw [if_pos g3, if_pos (by omega)]
    rw [if_neg g3, show (i : Int) + 3 + 1 = (i : Int) + 4 by omega, whole_end _ _ _ _ _ _ (by omega)]
    by_cases v : (((b0 - 240) * 64 + b1 - 128) * 64 + b2 - 128) * 64 + b3 - 128 < 65536 ∨ 1114111 < (((b0 - 240) * 64 + b1 - 128) * 64 + b2 - 128) * 64 + b3 - 128
    · rw [if_pos (by omega), if_pos (by omega)]
    · rw [if_neg (by omega), if_neg (by omega)]
  · unfold wholeZ
    rw [if_neg c0, if_neg (by omega), if_neg (by omega), if_neg (by omega)]
    simp only [chirographref06_whole.j0]
    rw [if_neg (by decide), if_pos (by omega), decide_eq_false c3]
    simp only [chirographref06_whole.j1]
    rw [if_neg (by decide), if_pos (by omega), if_neg c4]
theorem whole_ev (l : List Int) (hb : Bytes l) (hl : l.length ≤ 1000000) (i : Nat) (hi : i < l.length) :
    Ev (fun k => chirographref06_whole.f k l (i : Int)) (wholeZ (l.length - i) (rd l (i : Int)) (rd l ((i : Int) + 1)) (rd l ((i : Int) + 2)) (rd l ((i : Int) + 3))) :=
  ⟨9, fun k hk => by
    obtain ⟨m, rfl⟩ : ∃ m, k = m + 9 := ⟨k - 9, by omega⟩
    exact whole_f l hb hl i hi m⟩

/-- The list of bytes. -/
def b8 (l : List Int) : List UInt8 := (strOfNums l).data.toList
theorem b8_length (l : List Int) : (b8 l).length = l.length := by simp [b8, strOfNums]
theorem b8_get (l : List Int) (hb : Bytes l) (i : Nat) : (((b8 l).getD i 0).toNat : Int) = rd l (i : Int) := by
  unfold b8 strOfNums rd
  simp only [List.getD_eq_getElem?_getD, List.getElem?_map, Int.toNat_natCast]
  cases h : l[i]? with
  | none => simp
  | some x =>
    have := hb x (List.mem_of_getElem? h)
    simp only [Option.map_some, Option.getD_some, UInt8.toNat_ofNat']
    omega
theorem whole_decode (l : List Int) (hb : Bytes l) (i : Nat) (hi : i < l.length) :
    wholeZ (l.length - i) (rd l (i : Int)) (rd l ((i : Int) + 1)) (rd l ((i : Int) + 2)) (rd l ((i : Int) + 3)) = if (decodeL ((b8 l).drop i)).1 = 65533 ∧ (decodeL ((b8 l).drop i)).2 = 1 then 0 else ((decodeL ((b8 l).drop i)).2 : Int) := by
  have g : ∀ j : Nat, ((((b8 l).drop i).getD j 0).toNat : Int) = rd l ((i : Int) + j) := fun j => by
    have := b8_get l hb (i + j)
    rw [List.getD_eq_getElem?_getD, List.getElem?_drop, ← List.getD_eq_getElem?_getD, this]
    congr 1
  have w : ∀ j : Nat, (((b8 l).drop i).getD j 0).toNat < 256 := fun j => UInt8.toNat_lt _
  rw [decodeL_N]
  have hlen : ((b8 l).drop i).length = l.length - i := by rw [List.length_drop, b8_length]
  have := wholeZ_decode ((b8 l).drop i).length _ _ _ _ (by omega) (w 0) (w 1) (w 2) (w 3)
  rw [g 0, g 1, g 2, g 3, hlen] at this
  rw [hlen]
  have z : (i : Int) + ((0 : Nat) : Int) = (i : Int) := by omega
  rw [z] at this
  exact this
theorem utf8_loop (l : List Int) (hb : Bytes l) (hl : l.length ≤ 1000000) : ∀ (n i : Nat), i ≤ l.length → l.length - i ≤ n → Ev (fun k => chirographref06_utf8.l0 k l (i : Int)) (validGoD n ((b8 l).drop i)) := by
  intro n
  induction n with
  | zero =>
    intro i hi hn
    refine Ev.step (f := fun _ => some true) (fun k => ?_) (Ev.now _)
    simp only [chirographref06_utf8.l0]
    rw [if_neg (by omega)]
  | succ n ih =>
    intro i hi hn
    by_cases hlt : i < l.length
    · have hne : ¬ (b8 l).drop i = [] := by
        intro hc
        have := congrArg List.length hc
        rw [List.length_drop, b8_length] at this
        simp at this
        omega
      have hw := decodeL_width ((b8 l).drop i)
      have hle := decodeL_le ((b8 l).drop i) hne
      rw [List.length_drop, b8_length] at hle
      unfold validGoD
      rw [if_neg hne]
      refine Ev.step (fun k => by simp only [chirographref06_utf8.l0]; rw [if_pos (by omega)]) ?_
      refine Ev.bind (whole_ev l hb hl i hlt) ?_
      rw [whole_decode l hb i hlt]
      by_cases hbad : (decodeL ((b8 l).drop i)).1 = 65533 ∧ (decodeL ((b8 l).drop i)).2 = 1
      · simp only [if_pos hbad]
        exact Ev.now _
      · simp only [if_neg hbad]
        refine Ev.congr (fun k => ?_) (by
          have := ih (i + (decodeL ((b8 l).drop i)).2) (by omega) (by omega)
          rw [← List.drop_drop] at this
          exact this)
        rw [if_neg (by omega), wrap_id (by omega) (by omega)]
        congr 1
    · unfold validGoD
      rw [List.drop_of_length_le (by rw [b8_length]; omega), if_pos rfl]
      refine Ev.step (f := fun _ => some true) (fun k => ?_) (Ev.now _)
      simp only [chirographref06_utf8.l0]
      rw [if_neg (by omega)]
theorem utf8_ev (l : List Int) (hb : Bytes l) (hl : l.length ≤ 1000000) : Ev (fun k => chirographref06_utf8.f k l) (validD (strOfNums l).data.toList) := by
  have := utf8_loop l hb hl l.length 0 (by omega) (by omega)
  rw [List.drop_zero] at this
  have e : validD (strOfNums l).data.toList = validGoD l.length (b8 l) := by unfold validD; rw [← b8_length l]; rfl
  rw [e]
  exact this
end Go.Proofs.YtpdhbpdfldfnhaaGreatDoor.Tx
/- of TxPReads -/
/- Plain Lean over the printed functions: the document's Text answers as text.Text: pairs of bytes; one byte a character; every kind. -/
namespace Go.Proofs.YtpdhbpdfldfnhaaGreatDoor.Tx
open Go.RowKit Go.Lib Go.Proofs.YtpdhbpdfldfnhaaGreatDoorW.PrintWords Go.Proofs.YtpdhbpdfldfnhaaGreatDoor.K

/-! one byte a character -/
set_option maxRecDepth 100000 in
theorem print_all : ∀ n : Fin 256, chirographref06_printable.f 20 (n.val : Int) = some (fitsV 19 (n.val : Int)) := by decide +kernel
set_option maxRecDepth 100000 in
theorem num_all : ∀ n : Fin 256, fitsV 18 (n.val : Int) = (if (n.val : Int) ≥ 48 then (if (n.val : Int) ≤ 57 then true else ((n.val : Int) == 32)) else ((n.val : Int) == 32)) := by decide +kernel
set_option maxRecDepth 100000 in
theorem ia5_all : ∀ n : Fin 256, fitsV 22 (n.val : Int) = decide ((n.val : Int) < 128) := by decide +kernel
set_option maxRecDepth 100000 in
theorem vis_all : ∀ n : Fin 256, fitsV 26 (n.val : Int) = (if (n.val : Int) ≥ 32 then decide ((n.val : Int) ≤ 126) else false) := by decide +kernel
theorem of_all {Q : Int → Prop} (h : ∀ n : Fin 256, Q (n.val : Int)) (c : Int) (hc : 0 ≤ c ∧ c < 256) : Q c := by
  have := h ⟨c.toNat, by omega⟩
  have e : ((⟨c.toNat, by omega⟩ : Fin 256).val : Int) = c := by simp; omega
  rw [e] at this
  exact this
theorem print_ev (c : Int) (hc : 0 ≤ c ∧ c < 256) : Ev (fun k => chirographref06_printable.f k c) (fitsV 19 c) :=
  Ev.of (chirographref06_printable.mono c) (of_all (Q := fun c => chirographref06_printable.f 20 c = some (fitsV 19 c)) print_all c hc)

def done1 (l : List Int) (ok : Bool) (r : ByteArray × Int) : ByteArray × Int := if ok = true then r else (⟨#[]⟩, 60)
theorem one_j6 (tag : Int) (l : List Int) (i : Nat) (c : Int) (ok : Bool) (r : ByteArray × Int) (h26 : tag ≠ 26) (hi : i ≤ 1000000) (h : Ev (fun k => chirographref06_Text.l1 k tag l ((i + 1 : Nat) : Int)) r) :
    Ev (fun k => chirographref06_Text.j6 k tag l (i : Int) c ok) (done1 l ok r) := by
  cases ok with
  | true =>
    refine Ev.step (fun k => ?_) h
    simp only [chirographref06_Text.j6, if_true]
    rw [if_neg h26, wrap_next (by omega)]
  | false =>
    refine Ev.step (f := fun _ => some (⟨#[]⟩, 60)) (fun k => ?_) (Ev.now _)
    simp only [chirographref06_Text.j6]
    rw [if_neg h26, if_neg (by decide)]
theorem one_j6v (l : List Int) (i : Nat) (c : Int) (ok : Bool) (r : ByteArray × Int) (hi : i ≤ 1000000) (h : Ev (fun k => chirographref06_Text.l1 k 26 l ((i + 1 : Nat) : Int)) r) :
    Ev (fun k => chirographref06_Text.j6 k 26 l (i : Int) c ok) (done1 l (if c ≥ 32 then decide (c ≤ 126) else false) r) := by
  by_cases h1 : c ≥ 32
  · by_cases h2 : c ≤ 126
    · rw [if_pos h1, decide_eq_true h2]
      refine Ev.step (fun k => ?_) h
      simp only [chirographref06_Text.j6, if_true]
      rw [if_pos h1, if_pos h2, wrap_next (by omega)]
    · rw [if_pos h1, decide_eq_false h2]
      refine Ev.step (f := fun _ => some (⟨#[]⟩, 60)) (fun k => ?_) (Ev.now _)
      simp only [chirographref06_Text.j6, if_true]
      rw [if_pos h1, if_neg h2]
  · rw [if_neg h1]
    refine Ev.step (f := fun _ => some (⟨#[]⟩, 60)) (fun k => ?_) (Ev.now _)
    simp only [chirographref06_Text.j6, if_true]
    rw [if_neg h1]
theorem one_j4 (tag : Int) (ho : oneByte tag) (l : List Int) (i : Nat) (c : Int) (hc : 0 ≤ c ∧ c < 256) (r : ByteArray × Int) (hi : i ≤ 1000000) (h : Ev (fun k => chirographref06_Text.l1 k tag l ((i + 1 : Nat) : Int)) r) :
    Ev (fun k => chirographref06_Text.j4 k tag l (i : Int) c (if c ≥ 48 then (if c ≤ 57 then true else (c == 32)) else (c == 32))) (done1 l (fitsV tag c) r) := by
  rcases ho with rfl | rfl | rfl | rfl
  · rw [of_all (Q := fun c => fitsV 18 c = (if c ≥ 48 then (if c ≤ 57 then true else (c == 32)) else (c == 32))) num_all c hc]
    refine Ev.step (fun k => by simp only [chirographref06_Text.j4]; rw [if_neg (by decide)]) ?_
    refine Ev.step (fun k => by simp only [chirographref06_Text.j5]; rw [if_neg (by decide)]) ?_
    exact one_j6 18 l i c _ r (by decide) hi h
  · refine Ev.step (fun k => by simp only [chirographref06_Text.j4, if_true]; rfl) ?_
    refine Ev.bind (print_ev c hc) ?_
    refine Ev.step (fun k => by simp only [chirographref06_Text.j5]; rw [if_neg (by decide)]) ?_
    exact one_j6 19 l i c _ r (by decide) hi h
  · rw [of_all (Q := fun c => fitsV 22 c = decide (c < 128)) ia5_all c hc]
    refine Ev.step (fun k => by simp only [chirographref06_Text.j4]; rw [if_neg (by decide)]) ?_
    refine Ev.step (fun k => by simp only [chirographref06_Text.j5, if_true]; rfl) ?_
    exact one_j6 22 l i c _ r (by decide) hi h
  · rw [of_all (Q := fun c => fitsV 26 c = (if c ≥ 32 then decide (c ≤ 126) else false)) vis_all c hc]
    refine Ev.step (fun k => by simp only [chirographref06_Text.j4]; rw [if_neg (by decide)]) ?_
    refine Ev.step (fun k => by simp only [chirographref06_Text.j5]; rw [if_neg (by decide)]) ?_
    exact one_j6v l i c _ r hi h
theorem one_loop (tag : Int) (ho : oneByte tag) (l : List Int) (hb : Bytes l) (hl : l.length ≤ 1000000) : ∀ (d i : Nat), i + d = l.length →
    Ev (fun k => chirographref06_Text.l1 k tag l (i : Int)) (if ((l.drop i).all fun b => fitsV tag b) = true then (strOfNums l, 0) else (⟨#[]⟩, 60)) := by
  intro d
  induction d with
  | zero =>
    intro i hd
    rw [List.drop_of_length_le (by omega)]
    refine Ev.step (f := fun _ => some (strOfNums l, 0)) (fun k => ?_) (Ev.now _)
    simp only [chirographref06_Text.l1]
    rw [if_neg (by omega)]
  | succ d ih =>
    intro i hd
    have hlt : i < l.length := by omega
    have hbi := hb _ (rd_mem l i hlt)
    have key := one_j4 tag ho l i (rd l (i : Int)) hbi _ (by omega) (ih (i + 1) (by omega))
    have e : (if ((l.drop i).all fun b => fitsV tag b) = true then (strOfNums l, (0 : Int)) else (⟨#[]⟩, 60)) = done1 l (fitsV tag (rd l (i : Int))) (if ((l.drop (i + 1)).all fun b => fitsV tag b) = true then (strOfNums l, 0) else (⟨#[]⟩, 60)) := by
      rw [rd_drop l i hlt, List.all_cons]
      unfold done1
      cases fitsV tag (rd l (i : Int)) <;> simp
    rw [e]
    refine Ev.step (fun k => ?_) key
    simp only [chirographref06_Text.l1]
    rw [if_pos (by omega), if_pos (by omega)]
    by_cases h1 : rd l (i : Int) ≥ 48
    · rw [if_pos h1, if_pos h1]
      by_cases h2 : rd l (i : Int) ≤ 57
      · rw [if_pos h2, if_pos h2]
      · rw [if_neg h2, if_neg h2]
    · rw [if_neg h1, if_neg h1]

/-! two bytes a character -/
def doneW (out : List Int) (r : Option (List Int)) : ByteArray × Int := match r with
  | some x => (strOfNums (out ++ x), 0)
  | none => (⟨#[]⟩, 60)
theorem wide_j1 (l out : List Int) (i : Nat) (v : Int) (hv : 0 ≤ v ∧ v < 65536) (hs : ¬ (55296 ≤ v ∧ v < 57344)) (r : ByteArray × Int) (hi : i ≤ 1000000) (ho : out.length ≤ 10000000)
    (h : Ev (fun k => chirographref06_Text.l0 k l (out ++ encodeRuneZ v) ((i + 2 : Nat) : Int)) r) : Ev (fun k => chirographref06_Text.j1 k l out (i : Int) v false) r := by
  have hw : wrap64 ((i : Int) + 2) = ((i + 2 : Nat) : Int) := by rw [wrap_id (by omega) (by omega)]; omega
  have t64 : Int.tdiv v 64 = v / 64 := Int.tdiv_eq_ediv_of_nonneg hv.1
  have t4096 : Int.tdiv v 4096 = v / 4096 := Int.tdiv_eq_ediv_of_nonneg hv.1
  have m64 : Int.tmod v 64 = v % 64 := Int.tmod_eq_emod_of_nonneg hv.1
  refine Ev.step (fun k => ?_) h
  simp only [chirographref06_Text.j1, Option.bind_some]
  rw [if_neg (by decide), hw]
  by_cases h1 : v < 128
  · rw [if_pos h1, if_pos (by omega), encodeRuneZ_one hv.1 (by omega), show v % 256 = v by omega]
  rw [if_neg h1]
  by_cases h2 : v < 2048
  · rw [if_pos h2, t64, m64, if_pos (by simp only [List.length_cons, List.length_nil]; omega), encodeRuneZ_two (by omega) (by omega), wrap_id (x := v / 64) (by omega) (by omega), wrap_id (x := 192 + v / 64) (by omega) (by omega), wrap_id (x := 128 + v % 64) (by omega) (by omega), show (192 + v / 64) % 256 = 192 + v / 64 by omega, show (128 + v % 64) % 256 = 128 + v % 64 by omega]
  · have n64 : Int.tmod (v / 64) 64 = v / 64 % 64 := Int.tmod_eq_emod_of_nonneg (by omega)
    rw [if_neg h2, t64, t4096, m64, wrap_id (x := v / 64) (by omega) (by omega), n64, if_pos (by simp only [List.length_cons, List.length_nil]; omega), encodeRuneZ_three (by omega), wrap_id (x := v / 4096) (by omega) (by omega), wrap_id (x := 224 + v / 4096) (by omega) (by omega), wrap_id (x := 128 + v / 64 % 64) (by omega) (by omega), wrap_id (x := 128 + v % 64) (by omega) (by omega), show (224 + v / 4096) % 256 = 224 + v / 4096 by omega, show (128 + v / 64 % 64) % 256 = 128 + v / 64 % 64 by omega, show (128 + v % 64) % 256 = 128 + v % 64 by omega]
theorem wide_loop (l : List Int) (hb : Bytes l) (hl : l.length ≤ 1000000) : ∀ (d i : Nat) (out : List Int), i + 2 * d = l.length → out.length ≤ 2 * i → Ev (fun k => chirographref06_Text.l0 k l out (i : Int)) (doneW out (wideL (l.drop i))) := by
  intro d
  induction d with
  | zero =>
    intro i out hd ho
    rw [List.drop_of_length_le (by omega)]
    have e : doneW out (wideL []) = (strOfNums out, 0) := by simp [doneW, wideL]
    rw [e]
    refine Ev.step (f := fun _ => some (strOfNums out, 0)) (fun k => ?_) (Ev.now _)
    simp only [chirographref06_Text.l0]
    rw [if_neg (by omega)]
  | succ d ih =>
    intro i out hd ho
    have h0 := hb _ (rd_mem l i (by omega))
    have h1 := hb _ (rd_mem l (i + 1) (by omega))
    rw [rd_drop l i (by omega), rd_drop l (i + 1) (by omega)]
    have ei : ((i + 1 : Nat) : Int) = (i : Int) + 1 := by omega
    rw [ei] at h1 ⊢
    obtain ⟨a, ea⟩ : ∃ a, rd l (i : Int) = a := ⟨_, rfl⟩
    obtain ⟨b, eb⟩ : ∃ b, rd l ((i : Int) + 1) = b := ⟨_, rfl⟩
    rw [ea] at h0 ⊢
    rw [eb] at h1 ⊢
    have w1 : wrap64 ((i : Int) + 1) = (i : Int) + 1 := wrap_id (by omega) (by omega)
    have wv : wrap64 (wrap64 (wrap64 a * 256) + wrap64 b) = a * 256 + b := by
      rw [wrap_id (x := a) (by omega) (by omega), wrap_id (x := a * 256) (by omega) (by omega), wrap_id (x := b) (by omega) (by omega), wrap_id (by omega) (by omega)]
    have body : ∀ k, chirographref06_Text.l0 (k + 1) l out (i : Int) = if a * 256 + b ≥ 55296 then chirographref06_Text.j1 k l out (i : Int) (a * 256 + b) (decide (a * 256 + b ≤ 57343)) else chirographref06_Text.j1 k l out (i : Int) (a * 256 + b) false := fun k => by
      simp only [chirographref06_Text.l0]
      rw [if_pos (by omega), if_pos (by omega), w1, if_pos (by omega), if_pos (by omega), ea, eb, wv]
    show Ev _ (doneW out (wideL (a :: b :: l.drop (i + 1 + 1))))
    unfold wideL
    by_cases hs : 55296 ≤ a * 256 + b ∧ a * 256 + b < 57344
    · rw [if_pos hs]
      refine Ev.step (f := fun k => chirographref06_Text.j1 k l out (i : Int) (a * 256 + b) true) (fun k => ?_) ?_
      · rw [body k, if_pos (by omega), decide_eq_true (by omega)]
      · refine Ev.step (f := fun _ => some (⟨#[]⟩, 60)) (fun k => ?_) (Ev.now _)
        simp only [chirographref06_Text.j1, if_true]
    · rw [if_neg hs]
      have h4 := encodeRuneZ_length_le (a * 256 + b)
      have key := ih (i + 2) (out ++ encodeRuneZ (a * 256 + b)) (by omega) (by rw [List.length_append]; omega)
      have e : doneW out (Option.map (fun x => encodeRuneZ (a * 256 + b) ++ x) (wideL (l.drop (i + 1 + 1)))) = doneW (out ++ encodeRuneZ (a * 256 + b)) (wideL (l.drop (i + 2))) := by
        show doneW out (Option.map (fun x => encodeRuneZ (a * 256 + b) ++ x) (wideL (l.drop (i + 2)))) = _
        cases wideL (l.drop (i + 2)) with
        | none => rfl
        | some x => simp [doneW]
      rw [e]
      refine Ev.step (f := fun k => chirographref06_Text.j1 k l out (i : Int) (a * 256 + b) false) (fun k => ?_) (wide_j1 l out i (a * 256 + b) (by omega) hs _ (by omega) (by omega) key)
      rw [body k]
      by_cases hg : a * 256 + b ≥ 55296
      · rw [if_pos hg, decide_eq_false (by omega)]
      · rw [if_neg hg]

/-- The document's Text, of any kind. -/
theorem ref_Text (tag : Int) (l : List Int) (hb : Bytes l) (hl : l.length ≤ 1000000) : Ev (fun k => chirographref06_Text.f k tag l) (textV tag l) := by
  unfold textV
  by_cases h12 : tag = 12
  · subst h12
    rw [if_neg (by decide), if_pos rfl]
    unfold chirographref06_Text.f
    simp only [if_true]
    refine Ev.bind (utf8_ev l hb hl) ?_
    by_cases hv : validD (strOfNums l).data.toList = true
    · simp only [if_pos hv]
      exact Ev.now _
    · simp only [if_neg hv]
      exact Ev.now _
  by_cases h30 : tag = 30
  · subst h30
    rw [if_pos rfl]
    unfold chirographref06_Text.f
    simp only [if_true]
    by_cases he : (l.length : Int) % 2 = 1
    · refine Ev.congr (f := fun _ => some (⟨#[]⟩, 60)) (fun k => by rw [if_neg (by decide), if_pos he]) ?_
      have := wideL_odd l (by omega)
      unfold wideS wideE
      rw [this]
      exact Ev.now _
    · refine Ev.congr (fun k => by rw [if_neg (by decide), if_neg he]) ?_
      have := wide_loop l hb hl (l.length / 2) 0 [] (by omega) (by simp)
      rw [List.drop_zero] at this
      have e : doneW [] (wideL l) = (wideS l, wideE l) := by
        unfold doneW wideS wideE
        cases wideL l <;> rfl
      rw [e] at this
      exact this
  rw [if_neg h30, if_neg h12]
  by_cases ho : oneByte tag
  · rw [if_pos ho]
    have key := one_loop tag ho l hb hl l.length 0 (by omega)
    rw [List.drop_zero] at key
    have step : Ev (fun k => chirographref06_Text.j2 k tag l true) (if (l.all fun b => fitsV tag b) = true then (strOfNums l, 0) else (⟨#[]⟩, 60)) := by
      refine Ev.step (fun k => ?_) key
      simp only [chirographref06_Text.j2, if_true]
      rfl
    refine Ev.congr (fun k => ?_) step
    unfold chirographref06_Text.f
    rw [if_neg h12, if_neg h30]
    rcases ho with h | h | h | h <;> subst h <;> rfl
  · rw [if_neg ho]
    unfold oneByte at ho
    refine Ev.step (f := fun _ => some (⟨#[]⟩, 61)) (fun k => ?_) (Ev.now _)
    unfold chirographref06_Text.f
    have : (tag == 26) = false := by simp; omega
    rw [if_neg h12, if_neg h30, if_neg (by omega), if_neg (by omega), if_neg (by omega), this]
    simp only [chirographref06_Text.j2]
    rw [if_neg (by decide)]
end Go.Proofs.YtpdhbpdfldfnhaaGreatDoor.Tx
/- of RgPDig -/
/- Plain Lean over the printed functions: the document's digits, Decimal and Key answer as the program's. -/
namespace Go.Proofs.YtpdhbpdfldfnhaaGreatDoor.Rk
open Go.RowKit Go.Lib Go.Proofs.YtpdhbpdfldfnhaaGreatDoorW.PrintWords Go.Proofs.YtpdhbpdfldfnhaaGreatDoor.K Go.Proofs.YtpdhbpdfldfnhaaGreatDoor.Tx
def db (u : Nat) : ByteArray := ⟨(Lib.decDigits u).toArray⟩
theorem db_one {u : Nat} (h : u < 10) : strOfNums [wrap64 (48 + (u : Int)) % 256] = db u := by
  have e : wrap64 (48 + (u : Int)) % 256 = 48 + (u : Int) := by unfold wrap64; omega
  rw [e]
  unfold db strOfNums
  rw [Lib.decDigits_one h]
  have : ((48 : Int) + (u : Int)).toNat = 48 + u := by omega
  simp only [List.map_cons, List.map_nil, this]
theorem db_step {u : Nat} (h : ¬ u < 10) : db (u / 10) ++ db (u % 10) = db u := by
  unfold db
  have e1 : Lib.decDigits u = Lib.decDigits (u / 10) ++ Lib.decDigits (u % 10) := by
    rw [Lib.decDigits_one (show u % 10 < 10 by omega)]
    conv => lhs; rw [Lib.decDigits]
    rw [dif_neg h]
  rw [e1]
  rfl
theorem bytes_append (x y : List UInt8) : (⟨x.toArray⟩ : ByteArray) ++ ⟨y.toArray⟩ = ⟨(x ++ y).toArray⟩ := by
  apply ByteArray.ext
  simp
theorem db_size (u : Nat) (h : u ≤ 9223372036854775808) : (db u).size ≤ 21 := by
  have h21 := Lib.itoa_length_le (-(u : Int)) (by omega) (by omega)
  have e : (db u).size = (Lib.decDigits u).length := by simp [db, ByteArray.size]
  have e2 : (Lib.decDigits u).length ≤ (Lib.itoa (-(u : Int))).length := by
    unfold Lib.itoa
    by_cases h0 : u = 0
    · subst h0
      simp
    · rw [if_pos (by omega)]
      have : (-(u : Int)).natAbs = u := by omega
      rw [this]
      simp
  omega
theorem tdiv_pos (u : Nat) : Int.tdiv (u : Int) 10 = ((u / 10 : Nat) : Int) := by
  rw [Int.tdiv_eq_ediv_of_nonneg (by omega)]
  omega
theorem tmod_pos (u : Nat) : Int.tmod (u : Int) 10 = ((u % 10 : Nat) : Int) := by
  rw [Int.tmod_eq_emod_of_nonneg (by omega)]
  omega
theorem digits_nat : ∀ (n u : Nat), u ≤ n → u ≤ 9223372036854775807 → Ev (fun k => chirographref06_digits.f k (u : Int)) (db u) := by
  intro n
  induction n with
  | zero =>
    intro u hu hm
    refine ⟨1, fun k hk => ?_⟩
    obtain ⟨k, rfl⟩ : ∃ k', k = k' + 1 := ⟨k - 1, by omega⟩
    simp only [chirographref06_digits.f]
    rw [if_neg (by omega), if_neg (by omega), db_one (by omega)]
  | succ n ih =>
    intro u hu hm
    by_cases h : u < 10
    · refine ⟨1, fun k hk => ?_⟩
      obtain ⟨k, rfl⟩ : ∃ k', k = k' + 1 := ⟨k - 1, by omega⟩
      simp only [chirographref06_digits.f]
      rw [if_neg (by omega), if_neg (by omega), db_one h]
    · obtain ⟨K1, h1⟩ := ih (u / 10) (by omega) (by omega)
      obtain ⟨K2, h2⟩ := ih (u % 10) (by omega) (by omega)
      refine ⟨K1 + K2 + 1, fun k hk => ?_⟩
      obtain ⟨k, rfl⟩ : ∃ k', k = k' + 1 := ⟨k - 1, by omega⟩
      have s1 := db_size (u / 10) (by omega)
      have s2 := db_size (u % 10) (by omega)
      have w1 : wrap64 ((u / 10 : Nat) : Int) = ((u / 10 : Nat) : Int) := wrap_id (by omega) (by omega)
      simp only [chirographref06_digits.f]
      have q1 : chirographref06_digits.f k ((u / 10 : Nat) : Int) = _ := h1 k (by omega)
      have q2 : chirographref06_digits.f k ((u % 10 : Nat) : Int) = _ := h2 k (by omega)
      rw [if_neg (by omega), if_pos (by omega), tdiv_pos, tmod_pos, w1, q1, Option.bind_some, q2, Option.bind_some, if_pos (by omega), db_step h]
theorem digits_neg : ∀ (n u : Nat), u ≤ n → 1 ≤ u → u ≤ 9223372036854775808 → Ev (fun k => chirographref06_digits.f k (-(u : Int))) ((⟨#[45]⟩ : ByteArray) ++ db u) := by
  intro n
  induction n with
  | zero => intro u hu h1; omega
  | succ n ih =>
    intro u hu h1 hm
    have s45 : (⟨#[45]⟩ : ByteArray).size = 1 := rfl
    by_cases h : u < 10
    · obtain ⟨K1, e1⟩ := digits_nat u u (Nat.le_refl _) (by omega)
      refine ⟨K1 + 1, fun k hk => ?_⟩
      obtain ⟨k, rfl⟩ : ∃ k', k = k' + 1 := ⟨k - 1, by omega⟩
      have s1 := db_size u (by omega)
      have w1 : wrap64 (-(-(u : Int))) = (u : Int) := by unfold wrap64; omega
      simp only [chirographref06_digits.f]
      have q1 : chirographref06_digits.f k (u : Int) = _ := e1 k (by omega)
      rw [if_pos (by omega), if_neg (by omega), w1, q1, Option.bind_some, if_pos (by omega)]
    · obtain ⟨K1, e1⟩ := ih (u / 10) (by omega) (by omega) (by omega)
      obtain ⟨K2, e2⟩ := digits_nat (u % 10) (u % 10) (Nat.le_refl _) (by omega)
      refine ⟨K1 + K2 + 1, fun k hk => ?_⟩
      obtain ⟨k, rfl⟩ : ∃ k', k = k' + 1 := ⟨k - 1, by omega⟩
      have s1 := db_size (u / 10) (by omega)
      have s2 := db_size (u % 10) (by omega)
      have w1 : wrap64 (Int.tdiv (-(u : Int)) 10) = -((u / 10 : Nat) : Int) := by
        rw [Int.neg_tdiv, tdiv_pos]
        exact wrap_id (by omega) (by omega)
      have w2 : wrap64 (-(Int.tmod (-(u : Int)) 10)) = ((u % 10 : Nat) : Int) := by
        rw [Int.neg_tmod, tmod_pos, Int.neg_neg]
        exact wrap_id (by omega) (by omega)
      simp only [chirographref06_digits.f]
      have q1 : chirographref06_digits.f k (-((u / 10 : Nat) : Int)) = _ := e1 k (by omega)
      have q2 : chirographref06_digits.f k ((u % 10 : Nat) : Int) = _ := e2 k (by omega)
      rw [if_pos (by omega), if_pos (by omega), w1, w2, q1, Option.bind_some, q2, Option.bind_some, if_pos (by rw [ByteArray.size_append]; omega), ByteArray.append_assoc, db_step h]
theorem digits_ev (t : Int) (ht : -9223372036854775808 ≤ t ∧ t ≤ 9223372036854775807) : Ev (fun k => chirographref06_digits.f k t) ⟨(Lib.itoa t).toArray⟩ := by
  by_cases h : t < 0
  · obtain ⟨u, rfl⟩ : ∃ u : Nat, t = -(u : Int) := ⟨t.natAbs, by omega⟩
    have := digits_neg u u (Nat.le_refl _) (by omega) (by omega)
    have e : (⟨(Lib.itoa (-(u : Int))).toArray⟩ : ByteArray) = (⟨#[45]⟩ : ByteArray) ++ db u := by
      rw [Lib.itoa_neg u (by omega)]
      unfold db
      rw [show (⟨#[45]⟩ : ByteArray) = ⟨[45].toArray⟩ from rfl, bytes_append]
      rfl
    rw [e]
    exact this
  · obtain ⟨u, rfl⟩ : ∃ u : Nat, t = (u : Int) := ⟨t.toNat, by omega⟩
    have := digits_nat u u (Nat.le_refl _) (by omega)
    rw [Lib.itoa_nonneg]
    exact this
theorem decimal_ev : ∀ (n u : Nat), u ≤ n → ∀ (s : ByteArray), s.size + u ≤ 1000000000 → Ev (fun k => chirographref04_Decimal.l0 k (u : Int) s) (db u ++ s) := by
  intro n
  induction n with
  | zero =>
    intro u hu s hs
    refine ⟨1, fun k hk => ?_⟩
    obtain ⟨k, rfl⟩ : ∃ k', k = k' + 1 := ⟨k - 1, by omega⟩
    have s1 := db_size u (by omega)
    simp only [chirographref04_Decimal.l0]
    rw [if_neg (by omega), Option.bind_some, db_one (by omega), if_pos (by omega)]
  | succ n ih =>
    intro u hu s hs
    have s1 := db_size u (by omega)
    by_cases h : u < 10
    · refine ⟨1, fun k hk => ?_⟩
      obtain ⟨k, rfl⟩ : ∃ k', k = k' + 1 := ⟨k - 1, by omega⟩
      simp only [chirographref04_Decimal.l0]
      rw [if_neg (by omega), Option.bind_some, db_one h, if_pos (by omega)]
    · have z1 : (db (u % 10)).size = 1 := by
        unfold db
        rw [Lib.decDigits_one (by omega)]
        rfl
      obtain ⟨K1, e1⟩ := ih (u / 10) (by omega) (db (u % 10) ++ s) (by rw [ByteArray.size_append, z1]; omega)
      refine ⟨K1 + 1, fun k hk => ?_⟩
      obtain ⟨k, rfl⟩ : ∃ k', k = k' + 1 := ⟨k - 1, by omega⟩
      have w1 : wrap64 ((u / 10 : Nat) : Int) = ((u / 10 : Nat) : Int) := wrap_id (by omega) (by omega)
      have h2 := e1 k (by omega)
      rw [← ByteArray.append_assoc, db_step h] at h2
      simp only [chirographref04_Decimal.l0]
      rw [if_pos (by omega), Option.bind_some, tmod_pos, tdiv_pos, w1, db_one (by omega), z1, if_pos (by omega)]
      exact h2
theorem dec_ev (u : Nat) (h : u ≤ 1000000000) : Ev (fun k => chirographref04_Decimal.f k (u : Int)) ⟨(Lib.itoa (u : Int)).toArray⟩ := by
  have := decimal_ev u u (Nat.le_refl _) ⟨#[]⟩ (by show 0 + u ≤ _; omega)
  rw [Lib.itoa_nonneg]
  have e : db u ++ (⟨#[]⟩ : ByteArray) = db u := by
    unfold db
    rw [show (⟨#[]⟩ : ByteArray) = ⟨([] : List UInt8).toArray⟩ from rfl, bytes_append, List.append_nil]
  rw [e] at this
  exact this
/-- the document's Key is the program's -/
theorem ref_Key (tag : Int) (l : List Int) (ht : -9223372036854775808 ≤ tag ∧ tag ≤ 9223372036854775807) (hb : Bytes l) (hl : l.length ≤ 1000000) : Ev (fun k => chirographref06_Key.f k tag l) (keyV tag l) := by
  unfold chirographref06_Key.f keyV
  refine Ev.bind (ref_Text tag l hb hl) ?_
  have hs := textV_size tag l
  by_cases h0 : (textV tag l).2 = 0
  · simp only [if_pos h0]
    have hf := foldS_size (textV tag l).1
    refine Ev.bind (ref_Fold (textV tag l).1 (by omega)) ?_
    have e : strOfNums (foldL (bytesOf (textV tag l).1)) = foldS (textV tag l).1 := rfl
    rw [e, if_pos (by omega)]
    exact Ev.now _
  · simp only [if_neg h0]
    refine Ev.bind (digits_ev tag ht) ?_
    have h21 := Lib.itoa_length_le tag ht.1 ht.2
    have hsz : (⟨(Lib.itoa tag).toArray⟩ : ByteArray).size = (Lib.itoa tag).length := by simp [ByteArray.size]
    have s35 : (⟨#[35]⟩ : ByteArray).size = 1 := rfl
    have s58 : (⟨#[58]⟩ : ByteArray).size = 1 := rfl
    rw [if_pos (by omega), if_pos (by rw [ByteArray.size_append]; omega), if_pos (by rw [ByteArray.size_append, ByteArray.size_append, strOfNums_size]; omega)]
    exact Ev.now _
end Go.Proofs.YtpdhbpdfldfnhaaGreatDoor.Rk
/- of RgPMark -/
/- Plain Lean over the printed functions: what name.mark answers. -/
namespace Go.Proofs.YtpdhbpdfldfnhaaGreatDoor.Rk
open Go.RowKit Go.Lib Go.Proofs.YtpdhbpdfldfnhaaGreatDoorW.PrintWords Go.Proofs.YtpdhbpdfldfnhaaGreatDoor.Nm Go.Proofs.YtpdhbpdfldfnhaaGreatDoor.Tx
abbrev At := Go.Proofs.YtpdhbpdfldfnhaaGreatDoor.Nm.S41
/-- a part's mark -/
def mark1 (x : At) : ByteArray := (((((x.f0 ++ (⟨#[61]⟩ : ByteArray)) ++ (⟨(Lib.itoa ((keyV x.f1 x.f2).size : Int)).toArray⟩ : ByteArray)) ++ (⟨#[58]⟩ : ByteArray)) ++ keyV x.f1 x.f2) ++ (⟨#[59]⟩ : ByteArray))
structure Small1 (x : At) : Prop where
  type : x.f0.size ≤ 2000
  data : x.f2.length ≤ 2000
  bytes : Bytes x.f2
  tag : -9223372036854775808 ≤ x.f1 ∧ x.f1 ≤ 9223372036854775807
def SmallSet (s : List At) : Prop := s.length ≤ 200 ∧ ∀ x ∈ s, Small1 x
theorem itoa_size (n : Nat) (h : n ≤ 9223372036854775807) : (⟨(Lib.itoa (n : Int)).toArray⟩ : ByteArray).size ≤ 21 := by
  have h21 := Lib.itoa_length_le (n : Int) (by omega) (by omega)
  have hsz : (⟨(Lib.itoa (n : Int)).toArray⟩ : ByteArray).size = (Lib.itoa (n : Int)).length := by simp [ByteArray.size]
  omega
theorem keyV_size (tag : Int) (l : List Int) (ht : -9223372036854775808 ≤ tag ∧ tag ≤ 9223372036854775807) : (keyV tag l).size ≤ 2 * l.length + 23 := by
  have hs := textV_size tag l
  have s35 : (⟨#[35]⟩ : ByteArray).size = 1 := rfl
  have s58 : (⟨#[58]⟩ : ByteArray).size = 1 := rfl
  have s61 : (⟨#[61]⟩ : ByteArray).size = 1 := rfl
  unfold keyV
  split
  · have hf := foldS_size (textV tag l).1
    rw [ByteArray.size_append, s61]
    omega
  · have h21 := Lib.itoa_length_le tag ht.1 ht.2
    have hsz : (⟨(Lib.itoa tag).toArray⟩ : ByteArray).size = (Lib.itoa tag).length := by simp [ByteArray.size]
    rw [ByteArray.size_append, ByteArray.size_append, ByteArray.size_append, strOfNums_size, s35, s58]
    omega
theorem mark1_size {x : At} (h : Small1 x) : (mark1 x).size ≤ 6047 := by
  have hk := keyV_size x.f1 x.f2 h.tag
  have h1 := h.type
  have h2 := h.data
  have hi := itoa_size (keyV x.f1 x.f2).size (by omega)
  have s58 : (⟨#[58]⟩ : ByteArray).size = 1 := rfl
  have s61 : (⟨#[61]⟩ : ByteArray).size = 1 := rfl
  have s59 : (⟨#[59]⟩ : ByteArray).size = 1 := rfl
  unfold mark1
  rw [ByteArray.size_append, ByteArray.size_append, ByteArray.size_append, ByteArray.size_append, ByteArray.size_append, s58, s61, s59]
  omega
theorem join_flat (xs : List S) : Lib.join xs [] = xs.flatten := by
  cases xs with
  | nil => rfl
  | cons x r =>
    rw [Lib.join_cons, List.flatten_cons]
    congr 1
    unfold Lib.joinTail
    congr 1
    simp
theorem flat_le (m : Nat) : ∀ (xs : List S), (∀ x ∈ xs, x.length ≤ m) → xs.flatten.length ≤ m * xs.length
  | [], _ => by simp
  | x :: r, h => by
    have h1 := h x (by simp)
    have h2 := flat_le m r (fun y hy => h y (by simp [hy]))
    rw [List.flatten_cons, List.length_append, List.length_cons, Nat.mul_add]
    omega
theorem jn_flat (l : List ByteArray) : tl (jn l) = (srt (l.map tl)).flatten := by
  unfold jn
  rw [join_flat, ← sorted_map]
theorem jn_len (l : List ByteArray) (m : Nat) (h : ∀ x ∈ l, x.size ≤ m) : (Lib.join ((srtB l).map (·.data.toList)) []).length ≤ m * l.length := by
  rw [join_flat]
  have h2 := flat_le m ((srtB l).map (·.data.toList)) (fun x hx => by
    rw [show (srtB l).map (·.data.toList) = (srtB l).map tl from rfl, sorted_map] at hx
    have hx2 := (srt_perm (l.map tl)).mem_iff.1 hx
    obtain ⟨y, hy, rfl⟩ := List.mem_map.1 hx2
    have := h y hy
    show y.data.toList.length ≤ m
    rw [Array.length_toList]
    exact this)
  rw [List.length_map, srtB_length] at h2
  exact h2
theorem jn_size (l : List ByteArray) (m : Nat) (h : ∀ x ∈ l, x.size ≤ m) : (jn l).size ≤ m * l.length := by
  have := jn_len l m h
  unfold jn
  simpa [ByteArray.size] using this
/-- a set's mark -/
def markV (s : List At) : ByteArray := jn (s.map mark1) ++ (⟨#[47]⟩ : ByteArray)
theorem marks_le {s : List At} (h : SmallSet s) : ∀ x ∈ s.map mark1, x.size ≤ 6047 := fun x hx => by
  obtain ⟨y, hy, rfl⟩ := List.mem_map.1 hx
  exact mark1_size (h.2 y hy)
theorem markV_size {s : List At} (h : SmallSet s) : (markV s).size ≤ 1209401 := by
  have h1 := jn_size (s.map mark1) 6047 (marks_le h)
  have s47 : (⟨#[47]⟩ : ByteArray).size = 1 := rfl
  have h2 := h.1
  rw [List.length_map] at h1
  unfold markV
  rw [ByteArray.size_append, s47]
  omega
theorem rdT_get (s : List At) (i : Nat) (h : i < s.length) : rd_T41 s (i : Int) = s[i] := by
  unfold rd_T41
  simp [List.getD, List.getElem?_eq_getElem h]
set_option maxHeartbeats 1000000 in
theorem mark_loop (s : List At) (h : SmallSet s) : ∀ (d i : Nat), i + d = s.length → Ev (fun k => name_mark.l0 k ((s.take i).map mark1) s (s.length : Int) (i : Int)) (markV s) := by
  intro d
  induction d with
  | zero =>
    intro i hd
    have hi : i = s.length := by omega
    refine ⟨1, fun k hk => ?_⟩
    obtain ⟨k, rfl⟩ : ∃ k', k = k' + 1 := ⟨k - 1, by omega⟩
    have hok : OkJ (s.map mark1) := by
      have h1 := jn_len (s.map mark1) 6047 (marks_le h)
      have h2 := h.1
      refine ⟨by rw [List.length_map]; omega, Nat.le_trans h1 ?_⟩
      rw [List.length_map]
      omega
    have h3 := markV_size h
    have s47 : (⟨#[47]⟩ : ByteArray).size = 1 := rfl
    unfold markV at h3
    rw [ByteArray.size_append, s47] at h3
    rw [hi, List.take_length]
    simp only [name_mark.l0]
    rw [if_neg (by omega)]
    unfold slices_Sort_string_string.f strings_Join.f
    rw [if_pos hok, Option.bind_some, Option.bind_some, if_pos (by omega)]
    rfl
  | succ d ih =>
    intro i hd
    have hlt : i < s.length := by omega
    have hx := h.2 s[i] (List.getElem_mem hlt)
    obtain ⟨K1, h1⟩ := key_ev s[i].f1 s[i].f2 hx.tag hx.bytes (by have := hx.data; omega)
    obtain ⟨K2, h2⟩ := ih (i + 1) (by omega)
    refine ⟨K1 + K2 + 1, fun k hk => ?_⟩
    obtain ⟨k, rfl⟩ : ∃ k', k = k' + 1 := ⟨k - 1, by omega⟩
    have hk1 : Nm.text_Key.f k s[i].f1 s[i].f2 = some (keyV s[i].f1 s[i].f2) := h1 k (by omega)
    have hk2 := h2 k (by omega)
    have hks := keyV_size s[i].f1 s[i].f2 hx.tag
    have hd1 := hx.data
    have ht1 := hx.type
    have his := itoa_size (keyV s[i].f1 s[i].f2).size (by omega)
    have hit : Nm.strconv_Itoa.f ((keyV s[i].f1 s[i].f2).size : Int) = some ⟨(Lib.itoa ((keyV s[i].f1 s[i].f2).size : Int)).toArray⟩ := by
      unfold Nm.strconv_Itoa.f Tx.itoa_f
      rw [if_pos (by omega)]
    have s58 : (⟨#[58]⟩ : ByteArray).size = 1 := rfl
    have s61 : (⟨#[61]⟩ : ByteArray).size = 1 := rfl
    have s59 : (⟨#[59]⟩ : ByteArray).size = 1 := rfl
    have hl := h.1
    have htk : (s.take (i + 1)).map mark1 = (s.take i).map mark1 ++ [mark1 s[i]] := by
      rw [List.take_add_one, List.getElem?_eq_getElem hlt, List.map_append]
      rfl
    rw [htk] at hk2
    simp only [name_mark.l0]
    rw [rdT_get s i hlt, if_pos (by omega), if_pos (by omega), if_pos (by omega), hk1, Option.bind_some, if_pos (by omega), hit, Option.bind_some]
    simp only [ByteArray.size_append, s58, s61, s59]
    rw [if_pos (by omega), if_pos (by omega), if_pos (by omega), if_pos (by omega), if_pos (by rw [List.length_map, List.length_take]; omega), wrap_next (by omega)]
    exact hk2
theorem mark_ev (s : List At) (h : SmallSet s) : Ev (fun k => name_mark.f k s) (markV s) := by
  have := mark_loop s h s.length 0 (by omega)
  exact this
open Go in
theorem mark_walk (A : Option Addr) (c : Nat) (s : List At) (w : World) (hs : SmallSet s) (hr : Kd.C k41 w A s.length s) (hc : s.length ≤ c) (hT : Tabs w) : Calls Tryz.prog 47 #[.slice A s.length c] w fun e w' => e = .returned (.string (markV s)) ∧ Below w.heap.size w w' := by
  obtain ⟨k, hk⟩ := (mark_ev s hs).rounds
  exact name_mark.calls k A c s _ w hr hc hT hk
end Go.Proofs.YtpdhbpdfldfnhaaGreatDoor.Rk
/- of RgName -/
/- name.Key, walked: the sets' marks, one behind the other. -/
namespace Go.Proofs.YtpdhbpdfldfnhaaGreatDoor.Rk
open Go Go.RowKit Go.Proofs.YtpdhbpdfldfnhaaGreatDoorW.PrintWords Go.Proofs.YtpdhbpdfldfnhaaGreatDoorW.PrintLast Go.Proofs.YtpdhbpdfldfnhaaGreatDoorW.PrintMore Go.Proofs.YtpdhbpdfldfnhaaGreatDoor.Rn Go.Proofs.YtpdhbpdfldfnhaaGreatDoor.Nm Go.Proofs.YtpdhbpdfldfnhaaGreatDoor.Tx
def SmallName (l : List (List At)) : Prop := l.length ≤ 200 ∧ ∀ s ∈ l, SmallSet s
/-- a name's key, as bytes -/
def keyL (l : List (List At)) : S := (l.map fun s => tl (markV s)).flatten
def keyN (l : List (List At)) : ByteArray := bs (keyL l)
theorem keyL_len (l : List (List At)) (h : ∀ s ∈ l, SmallSet s) : (keyL l).length ≤ 1209401 * l.length := by
  have := flat_le 1209401 (l.map fun s => tl (markV s)) (fun x hx => by
    obtain ⟨s, hs, rfl⟩ := List.mem_map.1 hx
    have := markV_size (h s hs)
    show (markV s).data.toList.length ≤ _
    rw [Array.length_toList]
    exact this)
  rw [List.length_map] at this
  exact this
theorem keyL_take (l : List (List At)) (k : Nat) (s : List At) (hs : l[k]? = some s) : keyL (l.take (k + 1)) = keyL (l.take k) ++ tl (markV s) := by
  unfold keyL
  rw [List.take_add_one, hs, List.map_append, List.flatten_append]
  simp
theorem isB_below {T e : TypeId} {B b : Nat} {bs : List Value} {w w1 : World} (h : Lib.IsBuilder T e B b bs w) (hb : Below w.heap.size w w1) : Lib.IsBuilder T e B b bs w1 := by
  rcases h with h | h <;> obtain ⟨h1, v, h2, h3, h4⟩ := h
  · exact .inl ⟨h1, v, blk_below h2 hb, pw_own_below h3 hb, h4⟩
  · exact .inr ⟨h1, v, blk_below h2 hb, pw_own_below h3 hb, h4⟩
theorem str_cells (s : ByteArray) : Lib.strCells s = Lib.byteCells (tl s) := rfl
theorem write_any (b : Nat) (x : S) (s : ByteArray) (w : World) (h : Lib.IsBuilder 57 5 b b (Lib.byteCells x) w) (hl : x.length + s.size ≤ 140737488355328) (hb : b ≤ w.heap.size) :
    Calls Tryz.prog 46 #[.pointer (some ⟨b, 0, none⟩), .string s] w fun e w' => e = .returned (.tuple #[.int .i64 s.size, .nilIface]) ∧ Lib.IsBuilder 57 5 b b (Lib.byteCells (x ++ tl s)) w' ∧ Below b w w' := by
  have hbc : (Lib.byteCells x).length = x.length := by simp [Lib.byteCells]
  refine (Any.Builder_WriteString { Tryz.lays156 with } Tryz.Builder_Extra_156 b b (Lib.byteCells x) s w h (by rw [hbc]; exact hl) hb).mono fun e w' h => ⟨h.1, ?_, h.2.2⟩
  have e : Lib.byteCells x ++ Lib.strCells s = Lib.byteCells (x ++ tl s) := by
    rw [str_cells]
    simp [Lib.byteCells]
  rw [← e]
  exact .inr h.2.1
theorem name_at {w : World} {ad : Addr} {l : List (List At)} (hr : Kd.C (Kd.slice 41 k41) w (some ad) l.length l) (k : Nat) (s : List At) (hs : l[k]? = some s) : ∃ A c, w.cell? (ad.add k) = some (.slice A s.length c) ∧ s.length ≤ c ∧ Kd.C k41 w A s.length s := by
  have hk := (List.getElem?_eq_some_iff.1 hs).1
  obtain ⟨ad', A0, c0, e, hc, hl, hC⟩ := at_L5 hr (k : Int) (by omega) (by omega)
  cases e
  have es : rd_L5 l (k : Int) = s := by
    unfold rd_L5
    rw [Int.toNat_natCast, List.getD, hs]
    rfl
  rw [es] at hc hl hC
  rw [Int.toNat_natCast] at hc
  exact ⟨A0, c0, hc, hl, hC⟩
set_option maxHeartbeats 4000000 in
set_option maxRecDepth 100000 in
theorem nameKey_some (ad : Addr) (n c : Nat) (l : List (List At)) (w : World) (hn : l.length = n) (hs : SmallName l) (hr : Kd.C (Kd.slice 41 k41) w (some ad) l.length l) (hc : n ≤ c) (hT : Tabs w) :
    Calls Tryz.prog 42 #[.slice (some ad) n c] w fun e w' => e = .returned (.string (keyN l)) ∧ Below w.heap.size w w' := by
  have HL := Aside0.mk (And.intro hr (And.intro hs (And.intro hT hn)))
  have hn2 : n ≤ 200 := by rw [← hn]; exact hs.1
  have hz := Lib.fresh_isBuilder 57 5 w
  have HZ := Aside0.mk hz
  clear hr hs hn hT hz
  go_enter Tryz.func42, Tryz.ntmps42
  go_wp2
  obtain ⟨b, hb⟩ : ∃ b, w.heap.size = b := ⟨_, rfl⟩
  have HB0 := Aside0.mk hb
  have HZ2 := Aside0.mk (show Lib.IsBuilder 57 5 b b [] (w.alloc (.cells #[.pointer none, .slice none 0 0] 57)) by rw [← hb]; exact HZ.out)
  rw [hb]
  clear HZ hb
  go_loopw [8] (fun i wr => ∃ k : Nat, i = .int .i64 k ∧ Aside0 (k ≤ n ∧ Lib.IsBuilder 57 5 b b (Lib.byteCells (keyL (l.take k))) wr ∧ Below w.heap.size w wr)) (fun i _ => n - (intOf i).toNat)
  case atStart => exact ⟨0, rfl, ⟨Nat.zero_le _, HZ2.out, below_alloc (Below.refl _ _) _⟩⟩
  case round =>
    obtain ⟨k, rfl, HR⟩ := hrel
    by_cases hlt : k < n
    · obtain ⟨s, hs⟩ : ∃ s, l[k]? = some s := ⟨_, List.getElem?_eq_getElem (by rw [HL.out.2.2.2]; exact hlt)⟩
      obtain ⟨A, cs, hcell0, hcl, hC0⟩ := name_at HL.out.1 k s hs
      have hcell := pw_cell_below HR.out.2.2 hcell0
      have hsm : SmallSet s := HL.out.2.1.2 s (List.mem_of_getElem? hs)
      have HC := Aside0.mk (And.intro (Kd.C_below hC0 HR.out.2.2) (And.intro hcl (And.intro hsm (And.intro hs (HL.out.2.2.1.below HR.out.2.2)))))
      have hlen : (keyL (l.take k)).length + (markV s).size ≤ 140737488355328 := by
        have h1 := keyL_len (l.take k) (fun x hx => HL.out.2.1.2 x (List.mem_of_mem_take hx))
        have h2 := markV_size hsm
        have h3 : (l.take k).length ≤ 200 := by rw [List.length_take]; omega
        omega
      have HLE := Aside0.mk hlen
      have p1 : ((k : Int) < (n : Int)) = True := by simpa using hlt
      have p2 : (0 ≤ (k : Int)) = True := by simp
      clear hcell0 hC0 hcl hsm hs hlen
      go_wp2_with (first
        | (go_at_call 47; (with_reducible refine (mark_walk A cs s wr HC.out.2.2.1 HC.out.1 HC.out.2.1 HC.out.2.2.2.2).mono ?_); rintro e w1 ⟨rfl, hb1⟩
           have HX := Aside0.mk (And.intro hb1 (below_step HR.out.2.2 hb1))
           clear hb1)
        | (go_at_call 46; (with_reducible refine (write_any b (keyL (l.take k)) (markV s) w1 (isB_below HR.out.2.1 HX.out.1) HLE.out (by have := HX.out.2.size; rw [HB0.out] at this; exact this)).mono ?_); rintro e w2 ⟨rfl, hB2, hb2⟩
           rw [← keyL_take l k s HC.out.2.2.2.1] at hB2
           have HY := Aside0.mk (And.intro hB2 (HX.out.2.trans (by rw [HB0.out]; exact hb2)))
           clear hB2 hb2))
      go_roundw
      case rel => exact ⟨k + 1, by go_num, ⟨by omega, HY.out.1, HY.out.2⟩⟩
      case measure => simp [intOf]; omega
    · have hk : k = n := by have := HR.out.1; omega
      have p1 : ((k : Int) < (n : Int)) = False := by simp; omega
      have p2 : decide ((k : Int) < (n : Int)) = false := by simp; omega
      have p3 : decide (k < n) = false := by simp; omega
      have HK := Aside0.mk hk
      clear hk hlt
      have hst := Tryz.Builder_String_any b b (keyL (l.take k)) wr HR.out.2.1 (by have := HR.out.2.2.size; rw [HB0.out] at this; exact this)
      go_wp2_with (go_at_call 48; refine hst.mono ?_; rintro e w3 ⟨rfl, hb3⟩; have HZ := Aside0.mk hb3; clear hst hb3)
      go_ret
      refine ⟨?_, HR.out.2.2.trans (by rw [HB0.out]; exact HZ.out)⟩
      rw [HK.out, ← HL.out.2.2.2, List.take_length]
      rfl
set_option maxHeartbeats 4000000 in
set_option maxRecDepth 100000 in
theorem nameKey_none (A : Option Addr) (c : Nat) (w : World) : Calls Tryz.prog 42 #[.slice A 0 c] w fun e w' => e = .returned (.string ⟨#[]⟩) ∧ Below w.heap.size w w' := by
  have hst := Tryz.Builder_String_empty w.heap.size w.heap.size (w.alloc (.cells #[.pointer none, .slice none 0 0] 57)) (Lib.fresh_isBuilder 57 5 w) (by simp)
  go_enter Tryz.func42, Tryz.ntmps42
  go_wp2
  refine wp_loop_rounds 1 ?_
  rw [rounds_succ]
  go_wp2_with (go_at_call 48; refine hst.mono ?_; rintro e w3 ⟨rfl, hb3⟩; have HZ := Aside0.mk hb3; clear hst hb3)
  go_ret
  exact ⟨rfl, (below_alloc (Below.refl w.heap.size w) _).trans HZ.out⟩
theorem nameKey_walk (A : Option Addr) (c : Nat) (l : List (List At)) (w : World) (hs : SmallName l) (hr : Kd.C (Kd.slice 41 k41) w A l.length l) (hc : l.length ≤ c) (hT : Tabs w) :
    Calls Tryz.prog 42 #[.slice A l.length c] w fun e w' => e = .returned (.string (keyN l)) ∧ Below w.heap.size w w' := by
  cases l with
  | nil => exact nameKey_none A c w
  | cons s t =>
    obtain ⟨ad, rfl, _⟩ := hr.2.2 (by simp)
    exact nameKey_some ad _ c (s :: t) w rfl hs hr hc hT
end Go.Proofs.YtpdhbpdfldfnhaaGreatDoor.Rk
/- of RgNKey -/
/- The document's Key of a name, walked (written by nkeygen.py). -/
namespace Go.Proofs.YtpdhbpdfldfnhaaGreatDoor.Rk
open Go Go.RowKit Go.Proofs.YtpdhbpdfldfnhaaGreatDoorW.PrintWords Go.Proofs.YtpdhbpdfldfnhaaGreatDoorW.PrintLast Go.Proofs.YtpdhbpdfldfnhaaGreatDoorW.PrintMore Go.Proofs.YtpdhbpdfldfnhaaGreatDoor.Rn Go.Proofs.YtpdhbpdfldfnhaaGreatDoor.Nm Go.Proofs.YtpdhbpdfldfnhaaGreatDoor.Tx
theorem keyR_walk (x : At) (hx : Small1 x) (A : Option Addr) (c : Nat) (w : World) (hr : Kd.C (Kd.int .u8) w A x.f2.length x.f2) (hc : x.f2.length ≤ c) : Calls Tryz.prog 43 #[.int .i64 x.f1, .slice A x.f2.length c] w fun e w' => e = .returned (.string (keyV x.f1 x.f2)) ∧ Below w.heap.size w w' := by
  obtain ⟨k, hk⟩ := (ref_Key x.f1 x.f2 hx.tag hx.bytes (by have := hx.data; omega)).rounds
  exact K.chirographref06_Key.calls k x.f1 A c x.f2 _ w hr hc hk
theorem decR_walk (u : Nat) (h : u ≤ 1000000000) (w : World) : Calls Tryz.prog 44 #[.int .i64 u] w fun e w' => e = .returned (.string ⟨(Lib.itoa (u : Int)).toArray⟩) ∧ Below w.heap.size w w' := by
  obtain ⟨k, hk⟩ := (dec_ev u h).rounds
  exact K.chirographref04_Decimal.calls k (u : Int) _ w hk
theorem Own.apart {w w1 : World} {base : Nat} {v : Value} {P : List (Value × ByteArray)} {g : Nat} {cs : Array Value} {t : TypeId} (h : Own w base v P) (hb : w.heap[g]? = some (.cells cs t (0, 0))) (h22 : 22 ≠ t) (h5 : t ≠ 5) (hg : w.grownBy w1 (some g)) : Own w1 base v P :=
  ⟨own_move h.1 (fun k hk => hg.block k (own_lt h.1 k hk) (fun e => own_ne h.1 hb h22 (e.symm.trans hk.symm))), fun p hp => (h.2 p hp).grown hg (fun k e => by cases e; exact ⟨cs, t, _, hb, h5⟩)⟩
theorem part_at {w : World} {A : Option Addr} {s : List At} (hr : Kd.C k41 w A s.length s) (q : Nat) (x : At) (hs : s[q]? = some x) : ∃ ad A2 c2, A = some ad ∧ w.cell? (ad.add (q * 3)) = some (.string x.f0) ∧ w.cell? ⟨(ad.add (q * 3)).block, (ad.add (q * 3)).off + 1, none⟩ = some (.int .i64 x.f1) ∧ w.cell? ⟨(ad.add (q * 3)).block, (ad.add (q * 3)).off + 2, none⟩ = some (.slice A2 x.f2.length c2) ∧ x.f2.length ≤ c2 ∧ Kd.C (Kd.int .u8) w A2 x.f2.length x.f2 := by
  have hk := (List.getElem?_eq_some_iff.1 hs).1
  have h := at_T41 hr (q : Int) (by omega) (by omega)
  have es : rd_T41 s (q : Int) = x := by
    unfold rd_T41
    rw [Int.toNat_natCast, List.getD, hs]
    rfl
  rw [es, Int.toNat_natCast] at h
  exact h
theorem rows_at {w : World} {A : Option Addr} {n c : Nat} {L : List ByteArray} (h : Rows w (.slice A n c) L) (k : Nat) (s : ByteArray) (hs : L[k]? = some s) : ∃ ad u, A = some ad ∧ w.cell? (ad.add k) = some u ∧ Txt w u s := by
  obtain ⟨A', c', e, hl, hc⟩ := h
  injection e with e1 e2 e3
  subst e1
  exact hc k s hs
theorem rows_len {w : World} {v : Value} {L : List ByteArray} (h : Rows w v L) : ∃ A c, v = .slice A L.length c := by
  obtain ⟨A', c', e, hl, hc⟩ := h
  exact ⟨A', c', e⟩
/-- a value that is a text -/
def IsS (v : Value) (s : ByteArray) : Prop := v = .string s
/-- the first texts, one behind the other -/
def catS (L : List ByteArray) : S := (L.map tl).flatten
theorem catS_take (L : List ByteArray) (k : Nat) (s : ByteArray) (hs : L[k]? = some s) : catS (L.take (k + 1)) = catS (L.take k) ++ tl s := by
  unfold catS
  rw [List.take_add_one, hs, List.map_append, List.flatten_append]
  simp
theorem bs_append (x : S) (s : ByteArray) : bs x ++ s = bs (x ++ tl s) := by
  rw [← bs_tl s, tl_bs]
  apply ByteArray.ext
  simp [bs]
theorem bs_size (x : S) : (bs x).size = x.length := by simp [bs, ByteArray.size]
theorem catS_len (L : List ByteArray) (m : Nat) (h : ∀ x ∈ L, x.size ≤ m) : (catS L).length ≤ m * L.length := by
  have := flat_le m (L.map tl) (fun x hx => by
    obtain ⟨s, hs, rfl⟩ := List.mem_map.1 hx
    have := h s hs
    show s.data.toList.length ≤ _
    rw [Array.length_toList]
    exact this)
  rw [List.length_map] at this
  exact this
theorem srtB_mem {L : List ByteArray} {x : ByteArray} (h : x ∈ srtB L) : x ∈ L := by
  unfold srtB at h
  obtain ⟨y, hy, rfl⟩ := List.mem_map.1 h
  obtain ⟨z, hz, rfl⟩ := List.mem_map.1 ((srt_perm _).mem_iff.1 hy)
  rw [bs_tl]
  exact hz
theorem mark_cat (s : List At) : tl (markV s) = catS (srtB (s.map mark1)) ++ [47] := by
  unfold markV catS
  rw [sorted_map, ← jn_flat]
  simp [tl]
set_option maxHeartbeats 8000000 in
set_option maxRecDepth 100000 in
theorem nkey_some (ad : Addr) (n c : Nat) (l : List (List At)) (w : World) (hn : l.length = n) (hs : SmallName l) (hr : Kd.C (Kd.slice 41 k41) w (some ad) l.length l) (hc : n ≤ c) :
    Calls Tryz.prog 40 #[.slice (some ad) n c] w fun e w' => e = .returned (.string (keyN l)) ∧ Below w.heap.size w w' := by
  have HL := Aside0.mk (And.intro hr (And.intro hs hn))
  have hn2 : n ≤ 200 := by rw [← hn]; exact hs.1
  clear hr hs hn
  go_enter Tryz.func40, Tryz.ntmps40
  go_wp2
  go_loopw [3, 4] (fun sv i wr => ∃ (k : Nat) (t : ByteArray), i = .int .i64 k ∧ IsS sv t ∧ Aside0 (k ≤ n ∧ t = bs (keyL (l.take k)) ∧ Below w.heap.size w wr)) (fun _ i _ => n - (intOf i).toNat)
  case atStart => exact ⟨0, ⟨#[]⟩, rfl, rfl, ⟨Nat.zero_le _, rfl, Below.refl _ _⟩⟩
  case round =>
    obtain ⟨k, t, rfl, hsv, HR⟩ := hrel
    obtain rfl : u3 = .string t := hsv
    by_cases hlt : k < n
    · obtain ⟨s, hs⟩ : ∃ s, l[k]? = some s := ⟨_, List.getElem?_eq_getElem (by rw [HL.out.2.2]; exact hlt)⟩
      obtain ⟨As, cs, hcell0, hcl, hC0⟩ := name_at HL.out.1 k s hs
      have hsm : SmallSet s := HL.out.2.1.2 s (List.mem_of_getElem? hs)
      have HC := Aside0.mk (And.intro hC0 (And.intro hsm (And.intro hs hcell0)))
      obtain ⟨m, hm⟩ : ∃ m, s.length = m := ⟨_, rfl⟩
      have hm2 : m ≤ 200 := by rw [← hm]; exact hsm.1
      have hcell : wr.cell? (ad.add k) = some (.slice As m cs) := by rw [← hm]; exact pw_cell_below HR.out.2.2 hcell0
      have HM := Aside0.mk hm
      have p1 : ((k : Int) < (n : Int)) = True := by simpa using hlt
      have p2 : (0 ≤ (k : Int)) = True := by simp
      have HLT := Aside0.mk hlt
      clear hcell0 hcl hC0 hsm hs hm hlt
      go_wp2
      clear hcell
      go_loopw [5, 6] (fun v j wx => ∃ q : Nat, j = .int .i64 q ∧ Aside0 (∃ P, q ≤ m ∧ P.length = q ∧ Own wx w.heap.size v P ∧ Below w.heap.size w wx ∧ P.map Prod.snd = (s.take q).map mark1)) (fun _ j _ => m - (intOf j).toNat)
      case atStart => exact ⟨0, rfl, ⟨[], Nat.zero_le _, rfl, Own.nil _ _, HR.out.2.2, by simp⟩⟩
      case round =>
        obtain ⟨q, rfl, HI⟩ := hrel
        by_cases hq : q < m
        · obtain ⟨x, hx⟩ : ∃ x, s[q]? = some x := ⟨_, List.getElem?_eq_getElem (by rw [HM.out]; exact hq)⟩
          have hsx : Small1 x := HC.out.2.1.2 x (List.mem_of_getElem? hx)
          obtain ⟨aS, A2, c2, eAs, x0, x1, x2, hl2, hC2⟩ := part_at HC.out.1 q x hx
          obtain ⟨P, _, hPl, hO, hB, hPm⟩ := HI.out
          have hcell : wr.cell? (ad.add k) = some (.slice (some aS) m cs) := by rw [← eAs, ← HM.out]; exact pw_cell_below hB HC.out.2.2.2
          have y0 := pw_cell_below hB x0
          have y1 := pw_cell_below hB x1
          have y2 := pw_cell_below hB x2
          have HP := Aside0.mk (And.intro hO (And.intro hB (And.intro hPl (And.intro hPm (And.intro hl2 (And.intro hC2 (And.intro hsx hx)))))))
          have q1 : ((q : Int) < (m : Int)) = True := by simpa using hq
          have q2 : (0 ≤ (q : Int)) = True := by simp
          have HQ := Aside0.mk hq
          clear hO hB hPl hPm hl2 hC2 hsx hx x0 x1 x2 hq eAs HI
          obtain ⟨f0, hf0⟩ : ∃ f, x.f0 = f := ⟨_, rfl⟩
          obtain ⟨n2, hn2'⟩ : ∃ f, x.f2.length = f := ⟨_, rfl⟩
          obtain ⟨f1, hf1⟩ : ∃ f, x.f1 = f := ⟨_, rfl⟩
          rw [hf0] at y0
          rw [hf1] at y1
          rw [hn2'] at y2
          have hkr : ∀ W, Below w.heap.size w W → Calls Tryz.prog 43 #[.int .i64 f1, .slice A2 n2 c2] W fun e w' => e = .returned (.string (keyV x.f1 x.f2)) ∧ Below W.heap.size W w' := fun W hW => by
            rw [← hf1, ← hn2']
            exact keyR_walk x HP.out.2.2.2.2.2.2.1 A2 c2 W (Kd.C_below HP.out.2.2.2.2.2.1 hW) HP.out.2.2.2.2.1
          have hkz := keyV_size x.f1 x.f2 HP.out.2.2.2.2.2.2.1.tag
          have hdz := HP.out.2.2.2.2.2.2.1.data
          have hiz := itoa_size (keyV x.f1 x.f2).size (by omega)
          have htz : f0.size ≤ 2000 := by rw [← hf0]; exact HP.out.2.2.2.2.2.2.1.type
          have hmk : mark1 x = (((((f0 ++ (⟨#[61]⟩ : ByteArray)) ++ (⟨(Lib.itoa ((keyV x.f1 x.f2).size : Int)).toArray⟩ : ByteArray)) ++ (⟨#[58]⟩ : ByteArray)) ++ keyV x.f1 x.f2) ++ (⟨#[59]⟩ : ByteArray)) := by rw [← hf0]; rfl
          have hkz : (keyV x.f1 x.f2).size ≤ 4023 := by omega
          have hdec : ∀ W, Calls Tryz.prog 44 #[.int .i64 ((keyV x.f1 x.f2).size : Int)] W fun e w' => e = .returned (.string ⟨(Lib.itoa ((keyV x.f1 x.f2).size : Int)).toArray⟩) ∧ Below W.heap.size W w' := fun W => decR_walk _ (by omega) W
          generalize keyV x.f1 x.f2 = kv at hkr hkz hiz hmk hdec
          generalize (⟨(Lib.itoa (kv.size : Int)).toArray⟩ : ByteArray) = dv at hiz hmk hdec
          have HK := Aside0.mk (And.intro hkr hdec)
          have HMK := Aside0.mk hmk
          have d1 : (9223372036854775807 < f0.size + 1) = False := eq_false (by omega)
          have d2 : (9223372036854775807 < f0.size + 1 + dv.size) = False := eq_false (by omega)
          have d3 : (9223372036854775807 < f0.size + 1 + dv.size + 1) = False := eq_false (by omega)
          have d4 : (9223372036854775807 < f0.size + 1 + dv.size + 1 + kv.size) = False := eq_false (by omega)
          have d5 : (9223372036854775807 < f0.size + 1 + dv.size + 1 + kv.size + 1) = False := eq_false (by omega)
          have HSZ := Aside0.mk (show f0.size + 1 + dv.size + 1 + kv.size + 1 ≤ 9223372036854775807 by omega)
          have HPL := Aside0.mk (show (P.length + 1) * 24 ≤ 140737488355328 by rw [HP.out.2.2.1]; have := HQ.out; omega)
          clear hkr hdec hmk hiz htz hdz hkz hf0 hf1 hn2'
          go_wp2_with (first
            | ((with_reducible refine gate_dst (N := 7) rfl ?_); refine law_new ?hg (N := 7) ?hd (ob := .cells #[.string ⟨#[]⟩, .int .i64 0, .slice none 0 0] 41 (0, 0)) (V := fun g => .pointer (some ⟨g, 0, none⟩)) ?hr ?_; (case hd => rfl); (case hg => rfl); (case hr => first | (go_simp; done) | (go_simp; rfl))
               intro g7 hg7 w1 b7 hb7
               have B7 := Aside0.mk b7
               have HO1 := Aside0.mk (HP.out.1.below hb7)
               have HB1 := Aside0.mk (below_step HP.out.2.1 hb7)
               have HG7 := Aside0.mk (show w.heap.size ≤ g7 by rw [hg7]; exact HP.out.2.1.size)
               clear b7 hb7 hg7)
            | (have h0_ := B7.out; refine law_store ?q1 41 (.tmp 7) (.tmp 31) ?q2 g7 #[.string f0, .int .i64 f1, .slice A2 n2 c2] ?q3 ?q4 h0_ ?q5 ?q6 ?q7 ?_; (case q1 => rfl); (case q2 => rfl); (case q3 => rfl); (case q4 => rfl); (case q5 => rfl); (case q6 => kernel_rfl); (case q7 => first | rfl | (simp [Value.oneCell']) | kernel_rfl)
               intro w2 b7 hg2 hs2
               have BK1 := Aside0.mk b7
               have HO2 := Aside0.mk (HO1.out.apart h0_ (by decide) (by decide) hg2)
               have HB2 := Aside0.mk (HB1.out.grown hg2 HB1.out.size (fun j hj => by cases hj; exact HG7.out))
               have z1 : w2.cell? ⟨g7, 1, none⟩ = some (.int .i64 f1) := (blk_cell b7 1).trans rfl
               have z2 : w2.cell? ⟨g7, 2, none⟩ = some (.slice A2 n2 c2) := (blk_cell b7 2).trans rfl
               clear b7 hg2 hs2 h0_ B7 HO1 HB1 y0 y1 y2 hcell)
            | (go_at_call 43; refine (HK.out.1 _ HB2.out).mono ?_; rintro e w3 ⟨rfl, hb⟩
               have BK := Aside0.mk (blk_below BK1.out hb)
               have HO := Aside0.mk (HO2.out.below hb)
               have HB := Aside0.mk (below_step HB2.out hb)
               clear hb z1 z2 BK1 HO2 HB2))
          have n0_ := Aside0.mk (blk_drew BK.out)
          have n1_ := Aside0.mk (below_drew1 HB.out)
          have n2_ := Aside0.mk (Own.below HO.out (below_drew1 (Below.refl _ _)))
          clear BK HB HO
          have BK := n0_
          have HB := n1_
          have HO := n2_
          clear n0_ n1_ n2_
          refine start_ (n := 16) (S := fun w' => w'.cell? ⟨g7, 0, none⟩ = some (.string f0)) (ds := []) #[false, false, false, false, false, false, false, false, false, false, false, false, false, false, false, false] (by kernel_rfl) rfl rfl ((blk_cell BK.out 0).trans rfl) (fun hHeld => ?_)
          generalize w3.drew = w10 at BK HB HO hHeld ⊢
          refine pure_ (i := 0) (N := some 37) (v := ?_) (a' := ?_) #[true, false, false, false, false, false, false, false, false, false, false, false, false, false, false, false] rfl rfl (by kernel_rfl) (fun _ _ _ h => h) (Or.inl ⟨by rfl, ?_⟩) ?_ ?_
          rotate_left
          · intro w'
            go_simp
            with_reducible rfl
          rotate_left
          · simp only [Act.put, List.setIfInBounds_toArray, List.set_cons_zero, List.set_cons_succ, i64_w, i32_w]
            rfl
          refine pure_ (i := 1) (N := some 38) (v := ?_) (a' := ?_) #[true, true, false, false, false, false, false, false, false, false, false, false, false, false, false, false] rfl rfl (by kernel_rfl) (fun _ _ _ h => h) (Or.inl ⟨by rfl, ?_⟩) ?_ ?_
          rotate_left
          · intro w'
            go_simp
            with_reducible rfl
          rotate_left
          · simp only [Act.put, List.setIfInBounds_toArray, List.set_cons_zero, List.set_cons_succ, i64_w, i32_w]
            rfl
          refine take_ (i := 2) (N := some 39) (v := ?_) (a' := ?_) #[true, true, true, false, false, false, false, false, false, false, false, false, false, false, false, false] rfl rfl (by kernel_rfl) (fun _ _ _ h => h) (Or.inl ⟨by rfl, ?_⟩) hHeld ?_ ?_
          rotate_left
          · rintro w' s0
            go_simp
            with_reducible rfl
          rotate_left
          · simp only [Act.put, List.setIfInBounds_toArray, List.set_cons_zero, List.set_cons_succ, i64_w, i32_w]
            rfl
          refine pure_ (i := 3) (N := some 40) (v := ?_) (a' := ?_) #[true, true, true, true, false, false, false, false, false, false, false, false, false, false, false, false] rfl rfl (by kernel_rfl) (fun _ _ _ h => h) (Or.inl ⟨by rfl, ?_⟩) ?_ ?_
          rotate_left
          · intro w'
            go_simp
            with_reducible rfl
          rotate_left
          · simp only [Act.put, List.setIfInBounds_toArray, List.set_cons_zero, List.set_cons_succ, i64_w, i32_w]
            rfl
          refine pure_ (i := 4) (N := some 41) (v := ?_) (a' := ?_) #[true, true, true, true, true, false, false, false, false, false, false, false, false, false, false, false] rfl rfl (by kernel_rfl) (fun _ _ _ h => h) (Or.inl ⟨by rfl, ?_⟩) ?_ ?_
          rotate_left
          · intro w'
            go_simp
            with_reducible rfl
          rotate_left
          · simp only [Act.put, List.setIfInBounds_toArray, List.set_cons_zero, List.set_cons_succ, i64_w, i32_w]
            rfl
          refine pure_ (i := 5) (N := some 42) (v := ?_) (a' := ?_) #[true, true, true, true, true, true, false, false, false, false, false, false, false, false, false, false] rfl rfl (by kernel_rfl) (fun _ _ _ h => h) (Or.inl ⟨by rfl, ?_⟩) ?_ ?_
          rotate_left
          · intro w'
            go_simp
            with_reducible rfl
          rotate_left
          · simp only [Act.put, List.setIfInBounds_toArray, List.set_cons_zero, List.set_cons_succ, i64_w, i32_w]
            rfl
          refine pure_ (i := 9) (N := some 46) (v := ?_) (a' := ?_) #[true, true, true, true, true, true, false, false, false, true, false, false, false, false, false, false] rfl rfl (by kernel_rfl) (fun _ _ _ h => h) (Or.inl ⟨by rfl, ?_⟩) ?_ ?_
          rotate_left
          · intro w'
            go_simp
            with_reducible rfl
          rotate_left
          · simp only [Act.put, List.setIfInBounds_toArray, List.set_cons_zero, List.set_cons_succ, i64_w, i32_w]
            rfl
          refine one_ (i := 6) (N := some 43) #[true, true, true, true, true, true, true, false, false, true, false, false, false, false, false, false] rfl rfl (by kernel_rfl) (by decide) (fun K hK => ?_)
          refine goes_ Tryz.func44 (by kernel_rfl) rfl #[.int .i64 (kv.size : Int)] (by rfl) rfl rfl (by (try simp only [List.map_toArray, List.map_cons, List.map_nil]); first | done | rfl) ?_
          refine (HK.out.2 _).mono ?_
          rintro e w20 ⟨rfl, hb⟩
          refine ⟨_, rfl, ?_⟩
          have n0_ := Aside0.mk (blk_below BK.out hb)
          have n1_ := Aside0.mk (below_step HB.out hb)
          have n2_ := Aside0.mk (Own.below HO.out hb)
          clear BK HB HO
          have BK := n0_
          have HB := n1_
          have HO := n2_
          clear n0_ n1_ n2_
          clear hb
          clear hHeld
          refine hK.out _ _ ((blk_cell BK.out 0).trans rfl) (fun hHeld => ?_)
          clear hK K
          refine norm_ (a' := ?_) ?_ ?_
          rotate_left
          · show Act.put _ (some 43) _ = _
            simp only [Act.put, List.setIfInBounds_toArray, List.set_cons_zero, List.set_cons_succ, i64_w, i32_w]
            rfl
          refine pure_ (i := 7) (N := some 44) (v := ?_) (a' := ?_) #[true, true, true, true, true, true, true, true, false, true, false, false, false, false, false, false] rfl rfl (by kernel_rfl) (fun _ _ _ h => h) (Or.inl ⟨by rfl, ?_⟩) ?_ ?_
          rotate_left
          · intro w'
            go_simp
            with_reducible rfl
          rotate_left
          · simp only [Act.put, List.setIfInBounds_toArray, List.set_cons_zero, List.set_cons_succ, i64_w, i32_w]
            rfl
          refine pure_ (i := 8) (N := some 45) (v := ?_) (a' := ?_) #[true, true, true, true, true, true, true, true, true, true, false, false, false, false, false, false] rfl rfl (by kernel_rfl) (fun _ _ _ h => h) (Or.inl ⟨by rfl, ?_⟩) ?_ ?_
          rotate_left
          · intro w'
            go_simp
            with_reducible rfl
          rotate_left
          · simp only [Act.put, List.setIfInBounds_toArray, List.set_cons_zero, List.set_cons_succ, i64_w, i32_w]
            rfl
          refine pure_ (i := 10) (N := some 47) (v := ?_) (a' := ?_) #[true, true, true, true, true, true, true, true, true, true, true, false, false, false, false, false] rfl rfl (by kernel_rfl) (fun _ _ _ h => h) (Or.inl ⟨by rfl, ?_⟩) ?_ ?_
          rotate_left
          · intro w'
            go_simp
            with_reducible rfl
          rotate_left
          · simp only [Act.put, List.setIfInBounds_toArray, List.set_cons_zero, List.set_cons_succ, i64_w, i32_w]
            rfl
          refine pure_ (i := 11) (N := some 48) (v := ?_) (a' := ?_) #[true, true, true, true, true, true, true, true, true, true, true, true, false, false, false, false] rfl rfl (by kernel_rfl) (fun _ _ _ h => h) (Or.inl ⟨by rfl, ?_⟩) ?_ ?_
          rotate_left
          · intro w'
            go_simp
            with_reducible rfl
          rotate_left
          · simp only [Act.put, List.setIfInBounds_toArray, List.set_cons_zero, List.set_cons_succ, i64_w, i32_w]
            rfl
          refine one_ (i := 12) (N := some 49) #[true, true, true, true, true, true, true, true, true, true, true, true, true, false, false, false] rfl rfl (by kernel_rfl) (by decide) (fun K hK => ?_)
          refine runs_ (v := .slice (some ⟨w20.heap.size, 0, none⟩) (((((f0 ++ (⟨#[61]⟩ : ByteArray)) ++ dv) ++ (⟨#[58]⟩ : ByteArray)) ++ kv) ++ (⟨#[59]⟩ : ByteArray)).size (grownCap w20 (((((f0 ++ (⟨#[61]⟩ : ByteArray)) ++ dv) ++ (⟨#[58]⟩ : ByteArray)) ++ kv) ++ (⟨#[59]⟩ : ByteArray)).size 0 5)) (w' := Lib.bytesWorld w20 5 (((((f0 ++ (⟨#[61]⟩ : ByteArray)) ++ dv) ++ (⟨#[58]⟩ : ByteArray)) ++ kv) ++ (⟨#[59]⟩ : ByteArray))) (by rfl) rfl (by have kc := fun (W : World) (s : ByteArray) => Lib.run_convert_string_bytes (P := Tryz.prog) W 9 22 5 s Tryz.underlying9 Tryz.underlying22 Tryz.underlying5; first | (go_simp; done) | (go_simp; rfl)) ?_
          rw [← HMK.out]
          have hb := Joins.below_bytesWorld w20.heap.size w20 5 (mark1 x) (Nat.le_refl _)
          have hszm : (mark1 x).size ≤ 9223372036854775807 := by
            have h61 : (⟨#[61]⟩ : ByteArray).size = 1 := rfl
            have h58 : (⟨#[58]⟩ : ByteArray).size = 1 := rfl
            have h59 : (⟨#[59]⟩ : ByteArray).size = 1 := rfl
            have := HSZ.out
            rw [HMK.out]
            simp only [ByteArray.size_append, h61, h58, h59]
            omega
          have HV := Aside0.mk (Txt.new w20 (mark1 x) (grownCap w20 (mark1 x).size 0 5) hszm)
          clear hszm
          have n0_ := Aside0.mk (blk_below BK.out hb)
          have n1_ := Aside0.mk (below_step HB.out hb)
          have n2_ := Aside0.mk (Own.below HO.out hb)
          clear BK HB HO
          have BK := n0_
          have HB := n1_
          have HO := n2_
          clear n0_ n1_ n2_
          generalize grownCap w20 (mark1 x).size 0 5 = cp_ at HV ⊢
          generalize Lib.bytesWorld w20 5 (mark1 x) = w30 at hb HV BK HB HO ⊢
          generalize w20.heap.size = pv_ at HV ⊢
          clear hb
          obtain ⟨sz_, hsz_⟩ : ∃ z, (mark1 x).size = z := ⟨_, rfl⟩
          rw [hsz_] at HV ⊢
          clear hsz_
          refine hK.out _ _ ((blk_cell BK.out 0).trans rfl) (fun hHeld => ?_)
          clear hK K
          refine norm_ (a' := ?_) ?_ ?_
          rotate_left
          · show Act.put _ (some 49) _ = _
            simp only [Act.put, List.setIfInBounds_toArray, List.set_cons_zero, List.set_cons_succ, i64_w, i32_w]
            rfl
          refine one_ (i := 13) (N := some 50) #[true, true, true, true, true, true, true, true, true, true, true, true, true, true, false, false] rfl rfl (by kernel_rfl) (by decide) (fun K hK => ?_)
          refine runs_ (v := .slice (some ⟨w30.heap.size, 0, none⟩) 1 1) (w' := w30.alloc (.cells #[.slice (some ⟨pv_, 0, none⟩) sz_ cp_] 22)) (by rfl) rfl (by go_simp; done) ?_
          refine hK.out _ _ ((blk_cell (blk_alloc BK.out _) 0).trans rfl) (fun hHeld => ?_)
          clear hK K
          refine norm_ (a' := ?_) ?_ ?_
          rotate_left
          · show Act.put _ (some 50) _ = _
            simp only [Act.put, List.setIfInBounds_toArray, List.set_cons_zero, List.set_cons_succ, i64_w, i32_w]
            rfl
          refine one_ (i := 14) (N := some 51) #[true, true, true, true, true, true, true, true, true, true, true, true, true, true, true, false] rfl rfl (by kernel_rfl) (by decide) (fun K hK => ?_)
          refine step_append_cells (w0 := w) w.heap.size (by rfl) (.tmp 37) (.tmp 50) 51 22 (.slice none 0 0) 1 24 rfl Tryz.underlying51 info22 rfl (by decide) (by decide) u5 P.length (P.map Prod.fst) [.slice (some ⟨pv_, 0, none⟩) sz_ cp_] rfl rfl rfl (by simp [Value.oneCell']) HO.out.1 HB.out HB.out.size HPL.out ?_
          intro v4 w4 hown hb4 hg4 hat4
          have n0_ := Aside0.mk (blk_grown BK.out hg4 (own_ne HO.out.1 BK.out (by decide)))
          have n1_ := Aside0.mk hb4
          have n2_ := Aside0.mk (HO.out.append (p := (.slice (some ⟨pv_, 0, none⟩) sz_ cp_, mark1 x)) HV.out (by simpa using hown) hg4)
          clear BK HB HO HV hown hat4 hg4 hb4
          have BK := n0_
          have HB := n1_
          have HO := n2_
          clear n0_ n1_ n2_
          refine hK.out _ _ ((blk_cell BK.out 0).trans rfl) (fun hHeld => ?_)
          clear hK K
          refine norm_ (a' := ?_) ?_ ?_
          rotate_left
          · show Act.put _ (some 51) _ = _
            simp only [Act.put, List.setIfInBounds_toArray, List.set_cons_zero, List.set_cons_succ, i64_w, i32_w]
            rfl
          refine pure_ (i := 15) (N := some 5) (v := ?_) (a' := ?_) #[true, true, true, true, true, true, true, true, true, true, true, true, true, true, true, true] rfl rfl (by kernel_rfl) (fun _ _ _ h => h) (Or.inl ⟨by rfl, ?_⟩) ?_ ?_
          rotate_left
          · intro w'
            go_simp
            with_reducible rfl
          rotate_left
          · simp only [Act.put, List.setIfInBounds_toArray, List.set_cons_zero, List.set_cons_succ, i64_w, i32_w]
            rfl
          refine done_ (by kernel_rfl) ?_
          clear hHeld BK
          go_wp2
          go_roundw
          case rel => exact ⟨q + 1, by go_num, ⟨P ++ [(.slice (some ⟨pv_, 0, none⟩) sz_ cp_, mark1 x)], HQ.out, by rw [List.length_append, HP.out.2.2.1]; rfl, HO.out, HB.out, by rw [List.map_append, HP.out.2.2.2.1, List.take_add_one, HP.out.2.2.2.2.2.2.2, List.map_append]; rfl⟩⟩
          case measure => simp [intOf]; have := HQ.out; omega
        · have hqm : q = m := by obtain ⟨P, h0, _⟩ := HI.out; omega
          obtain ⟨P, _, hPl, hO, hB, hPm⟩ := HI.out
          have hcell : wr.cell? (ad.add k) = some (.slice As m cs) := by rw [← HM.out]; exact pw_cell_below hB HC.out.2.2.2
          have hrows := hO.rows
          rw [hPm, hqm, ← HM.out, List.take_length] at hrows
          have HP := Aside0.mk (And.intro hrows hB)
          have q1 : ((q : Int) < (m : Int)) = False := by simp; omega
          have q2 : decide ((q : Int) < (m : Int)) = false := by simp; omega
          have q3 : decide (q < m) = false := by simp; omega
          clear hO hB hPl hPm hrows hqm hq HI
          have hsl : ∀ x ∈ srtB (s.map mark1), x.size ≤ 6047 := fun x hx => marks_le HC.out.2.1 x (srtB_mem hx)
          have HSL := Aside0.mk hsl
          have hmk := keyL_take l k s HC.out.2.2.1
          have HMK := Aside0.mk hmk
          have hml : (srtB (s.map mark1)).length = m := by rw [srtB_length, List.length_map]; exact HM.out
          have HLM := Aside0.mk (mark_cat s)
          have hkl := keyL_len (l.take k) (fun y hy => HL.out.2.1.2 y (List.mem_of_mem_take hy))
          have hkl2 : (keyL (l.take k)).length ≤ 1209401 * 200 := by
            have : (l.take k).length ≤ 200 := by rw [List.length_take]; have := HLT.out; omega
            omega
          have hcall := sortedR_walk u5 (s.map mark1) wr HP.out.1 (by rw [List.length_map, HM.out]; omega)
          generalize srtB (s.map mark1) = L at HSL HLM hml hcall
          have HCL := Aside0.mk hcall
          have HLL := Aside0.mk hml
          have HKL := Aside0.mk hkl2
          clear hsl hmk hml hcall hkl hkl2
          go_wp2_with
           (go_at_call 45; refine HCL.out.mono ?_; rintro e w5 ⟨v', rfl, hrw, hb⟩
            obtain ⟨A', c', rfl⟩ := rows_len hrw
            have HB5 := Aside0.mk (below_step HP.out.2 hb)
            rw [HLL.out] at hrw ⊢
            have HR5 := Aside0.mk hrw
            clear hb hrw hcell)
          go_loopw [3, 9] (fun sv j wx => ∃ (q : Nat) (t' : ByteArray), j = .int .i64 q ∧ IsS sv t' ∧ Aside0 (q ≤ m ∧ t' = bs (keyL (l.take k) ++ catS (L.take q)) ∧ Rows wx (.slice A' m c') L ∧ Below w.heap.size w wx)) (fun _ j _ => m - (intOf j).toNat)
          case atStart => exact ⟨0, t, rfl, rfl, ⟨Nat.zero_le _, by rw [HR.out.2.1]; simp [catS], HR5.out, HB5.out⟩⟩
          case round =>
            obtain ⟨q', t', rfl, hsv, HJ⟩ := hrel
            obtain rfl : u3 = .string t' := hsv
            have hcs := catS_len (L.take q') 6047 (fun y hy => HSL.out y (List.mem_of_mem_take hy))
            have hql : (L.take q').length ≤ 200 := by rw [List.length_take]; have := HLL.out; omega
            have htz : t'.size ≤ 243089600 := by rw [HJ.out.2.1, bs_size, List.length_append]; have := HKL.out; omega
            clear hcs hql
            by_cases hq' : q' < m
            · obtain ⟨y, hy⟩ : ∃ y, L[q']? = some y := ⟨_, List.getElem?_eq_getElem (by rw [HLL.out]; exact hq')⟩
              obtain ⟨ay, uy, eAy, cy, ty⟩ := rows_at HJ.out.2.2.1 q' y hy
              have hyz := HSL.out y (List.mem_of_getElem? hy)
              have hcv := ty.conv
              have HY := Aside0.mk hy
              have d1 : (9223372036854775807 < t'.size + y.size) = False := eq_false (by omega)
              have r1 : ((q' : Int) < (m : Int)) = True := by simpa using hq'
              have r2 : (0 ≤ (q' : Int)) = True := by simp
              have HQ' := Aside0.mk hq'
              have hb1 : (q' : Int) ≤ 200 := by omega
              clear hy ty hyz hq'
              go_wp2
              go_roundw
              case rel => exact ⟨q' + 1, t' ++ y, by go_num, rfl, ⟨HQ'.out, by rw [HJ.out.2.1, catS_take L q' y HY.out, bs_append, List.append_assoc], HJ.out.2.2.1, HJ.out.2.2.2⟩⟩
              case measure => simp [intOf]; have := HQ'.out; omega
            · have hqm : q' = m := by have := HJ.out.1; omega
              have r1 : ((q' : Int) < (m : Int)) = False := by simp; omega
              have r2 : decide ((q' : Int) < (m : Int)) = false := by simp; omega
              have r3 : decide (q' < m) = false := by simp; omega
              have d1 : (9223372036854775807 < t'.size + 1) = False := eq_false (by omega)
              have HT := Aside0.mk (show t' ++ (⟨#[47]⟩ : ByteArray) = bs (keyL (l.take (k + 1))) by
                rw [HMK.out, HLM.out, HJ.out.2.1, hqm, ← HLL.out, List.take_length, bs_append, List.append_assoc])
              have hb1 : (k : Int) ≤ 200 := by have := HLT.out; omega
              clear hqm hq' htz
              go_wp2
              go_roundw
              case rel => exact ⟨k + 1, t' ++ (⟨#[47]⟩ : ByteArray), by go_num, rfl, ⟨HLT.out, HT.out, HJ.out.2.2.2⟩⟩
              case measure => simp [intOf]; have := HLT.out; omega
    · have hk : k = n := by have := HR.out.1; omega
      have p1 : ((k : Int) < (n : Int)) = False := by simp; omega
      have p2 : decide ((k : Int) < (n : Int)) = false := by simp; omega
      have p3 : decide (k < n) = false := by simp; omega
      have HK := Aside0.mk hk
      clear hk hlt
      go_wp2
      go_ret
      refine ⟨?_, HR.out.2.2⟩
      rw [HR.out.2.1, HK.out, ← HL.out.2.2, List.take_length]
      rfl
set_option maxHeartbeats 4000000 in
set_option maxRecDepth 100000 in
theorem nkey_none (A : Option Addr) (c : Nat) (w : World) : Calls Tryz.prog 40 #[.slice A 0 c] w fun e w' => e = .returned (.string ⟨#[]⟩) ∧ Below w.heap.size w w' := by
  go_enter Tryz.func40, Tryz.ntmps40
  go_wp2
  refine wp_loop_rounds 1 ?_
  rw [rounds_succ]
  go_wp2
  go_ret
  exact ⟨rfl, Below.refl _ _⟩
theorem nkey_walk (A : Option Addr) (c : Nat) (l : List (List At)) (w : World) (hs : SmallName l) (hr : Kd.C (Kd.slice 41 k41) w A l.length l) (hc : l.length ≤ c) :
    Calls Tryz.prog 40 #[.slice A l.length c] w fun e w' => e = .returned (.string (keyN l)) ∧ Below w.heap.size w w' := by
  cases l with
  | nil => exact nkey_none A c w
  | cons s t =>
    obtain ⟨ad, rfl, _⟩ := hr.2.2 (by simp)
    exact nkey_some ad _ c (s :: t) w rfl hs hr hc
end Go.Proofs.YtpdhbpdfldfnhaaGreatDoor.Rk
/- of RgWithin -/
/- A name within a name, by the program and by the document. -/
namespace Go.Proofs.YtpdhbpdfldfnhaaGreatDoor.Rk
open Go Go.RowKit Go.Proofs.YtpdhbpdfldfnhaaGreatDoorW.PrintWords Go.Proofs.YtpdhbpdfldfnhaaGreatDoorW.PrintLast Go.Proofs.YtpdhbpdfldfnhaaGreatDoorW.PrintMore Go.Proofs.YtpdhbpdfldfnhaaGreatDoor.Rn Go.Proofs.YtpdhbpdfldfnhaaGreatDoor.Nm Go.Proofs.YtpdhbpdfldfnhaaGreatDoor.Tx
def sameB (a b : List (List At)) : Bool := (keyN a).toList == (keyN b).toList
theorem SmallName.take {l : List (List At)} (h : SmallName l) (m : Nat) : SmallName (l.take m) := ⟨by have := h.1; rw [List.length_take]; omega, fun s hs => h.2 s (List.mem_of_mem_take hs)⟩
/-- a value that is a name -/
def NameIs (w : World) (v : Value) (l : List (List At)) : Prop := SmallName l ∧ ∃ A c, v = .slice A l.length c ∧ l.length ≤ c ∧ Kd.C (Kd.slice 41 k41) w A l.length l
theorem NameIs.below {w w1 : World} {v : Value} {l : List (List At)} (h : NameIs w v l) (hb : Below w.heap.size w w1) : NameIs w1 v l := by
  obtain ⟨h0, A, c, e, hl, hC⟩ := h
  exact ⟨h0, A, c, e, hl, Kd.C_below hC hb⟩
theorem key_walk {v : Value} {l : List (List At)} {w : World} (h : NameIs w v l) (hT : Tabs w) : Calls Tryz.prog 42 #[v] w fun e w' => e = .returned (.string (keyN l)) ∧ Below w.heap.size w w' := by
  obtain ⟨h0, A, c, rfl, hl, hC⟩ := h
  exact nameKey_walk A c l w h0 hC hl hT
theorem nkey_at {v : Value} {l : List (List At)} {w : World} (h : NameIs w v l) : Calls Tryz.prog 40 #[v] w fun e w' => e = .returned (.string (keyN l)) ∧ Below w.heap.size w w' := by
  obtain ⟨h0, A, c, rfl, hl, hC⟩ := h
  exact nkey_walk A c l w h0 hC hl
set_option maxHeartbeats 4000000 in
set_option maxRecDepth 100000 in
theorem same_walk (u v : Value) (a b : List (List At)) (w : World) (ha : NameIs w u a) (hb : NameIs w v b) (hT : Tabs w) : Calls Tryz.prog 39 #[u, v] w fun e w' => e = .returned (.bool (sameB a b)) ∧ Below w.heap.size w w' := by
  have HX := Aside0.mk (And.intro ha (And.intro hb hT))
  clear ha hb hT
  go_enter Tryz.func39, Tryz.ntmps39
  go_wp2_with (first
    | (go_at_call 42; (with_reducible refine (key_walk HX.out.1 HX.out.2.2).mono ?_); rintro e w1 ⟨rfl, h1⟩; have HA := Aside0.mk h1; clear h1)
    | (go_at_call 42; (with_reducible refine (key_walk (HX.out.2.1.below HA.out) (HX.out.2.2.below HA.out)).mono ?_); rintro e w2 ⟨rfl, h1⟩; have HB := Aside0.mk h1; clear h1))
  go_ret
  exact ⟨rfl, below_step HA.out HB.out⟩
set_option maxHeartbeats 4000000 in
set_option maxRecDepth 100000 in
theorem nsame_walk (u v : Value) (a b : List (List At)) (w : World) (ha : NameIs w u a) (hb : NameIs w v b) : Calls Tryz.prog 34 #[u, v] w fun e w' => e = .returned (.bool (sameB a b)) ∧ Below w.heap.size w w' := by
  have HX := Aside0.mk (And.intro ha hb)
  clear ha hb
  go_enter Tryz.func34, Tryz.ntmps34
  go_wp2_with (first
    | (go_at_call 40; (with_reducible refine (nkey_at HX.out.1).mono ?_); rintro e w1 ⟨rfl, h1⟩; have HA := Aside0.mk h1; clear h1)
    | (go_at_call 40; (with_reducible refine (nkey_at (HX.out.2.below HA.out)).mono ?_); rintro e w2 ⟨rfl, h1⟩; have HB := Aside0.mk h1; clear h1))
  go_ret
  exact ⟨rfl, below_step HA.out HB.out⟩
def withinB (a b : List (List At)) : Bool := decide (b.length ≤ a.length) && sameB (a.take b.length) b
set_option maxHeartbeats 4000000 in
set_option maxRecDepth 100000 in
theorem within_walk (u v : Value) (a b : List (List At)) (w : World) (ha : NameIs w u a) (hb : NameIs w v b) (hT : Tabs w) : Calls Tryz.prog 29 #[u, v] w fun e w' => e = .returned (.bool (withinB a b)) ∧ Below w.heap.size w w' := by
  obtain ⟨a0, A, c, rfl, al, aC⟩ := ha
  obtain ⟨b0, B, d, rfl, bl, bC⟩ := hb
  by_cases hle : b.length ≤ a.length
  · have hn : NameIs w (.slice A b.length c) (a.take b.length) := by
      have hl : (a.take b.length).length = b.length := by rw [List.length_take]; omega
      refine ⟨a0.take _, A, c, by rw [hl], by rw [hl]; omega, ?_⟩
      exact Kd.C_take aC hle
    have hv : NameIs w (.slice B b.length d) b := ⟨b0, B, d, rfl, bl, bC⟩
    have HS := Aside0.mk (same_walk _ _ _ _ w hn hv hT)
    have hr : withinB a b = sameB (a.take b.length) b := by unfold withinB; rw [decide_eq_true hle]; rfl
    rw [hr]
    have e1 := a0.1
    clear hn hv aC bC a0 b0 hT hr
    generalize sameB (a.take b.length) b = r at HS ⊢
    obtain ⟨n, hn⟩ : ∃ n, a.length = n := ⟨_, rfl⟩
    obtain ⟨m, hm⟩ : ∃ m, b.length = m := ⟨_, rfl⟩
    rw [hn] at hle al e1 ⊢
    rw [hm] at hle bl HS ⊢
    have p1 : decide ((m : Int) ≤ (n : Int)) = true := decide_eq_true (by omega)
    have p2 : decide (m ≤ n) = true := decide_eq_true hle
    have p3 : m ≤ c := by omega
    go_enter Tryz.func29, Tryz.ntmps29
    go_wp2_with (go_at_call 39; refine HS.out.mono ?_; rintro e w1 ⟨rfl, h1⟩; have HA := Aside0.mk h1; clear h1)
    go_ret
    exact ⟨rfl, HA.out⟩
  · have hr : withinB a b = false := by unfold withinB; rw [decide_eq_false hle]; rfl
    rw [hr]
    clear aC bC a0 b0 hT hr
    obtain ⟨n, hn⟩ : ∃ n, a.length = n := ⟨_, rfl⟩
    obtain ⟨m, hm⟩ : ∃ m, b.length = m := ⟨_, rfl⟩
    rw [hn] at hle al ⊢
    rw [hm] at hle bl ⊢
    have p1 : decide ((m : Int) ≤ (n : Int)) = false := decide_eq_false (by omega)
    have p2 : decide (m ≤ n) = false := decide_eq_false hle
    go_enter Tryz.func29, Tryz.ntmps29
    go_wp2
    go_ret
    exact ⟨rfl, Below.refl _ _⟩
set_option maxHeartbeats 4000000 in
set_option maxRecDepth 100000 in
theorem nwithin_walk (u v : Value) (a b : List (List At)) (w : World) (ha : NameIs w u a) (hb : NameIs w v b) : Calls Tryz.prog 16 #[u, v] w fun e w' => e = .returned (.bool (withinB a b)) ∧ Below w.heap.size w w' := by
  obtain ⟨a0, A, c, rfl, al, aC⟩ := ha
  obtain ⟨b0, B, d, rfl, bl, bC⟩ := hb
  by_cases hle : b.length ≤ a.length
  · have hn : NameIs w (.slice A b.length c) (a.take b.length) := by
      have hl : (a.take b.length).length = b.length := by rw [List.length_take]; omega
      refine ⟨a0.take _, A, c, by rw [hl], by rw [hl]; omega, ?_⟩
      exact Kd.C_take aC hle
    have hv : NameIs w (.slice B b.length d) b := ⟨b0, B, d, rfl, bl, bC⟩
    have HS := Aside0.mk (nsame_walk _ _ _ _ w hn hv)
    have hr : withinB a b = sameB (a.take b.length) b := by unfold withinB; rw [decide_eq_true hle]; rfl
    rw [hr]
    have e1 := a0.1
    clear hn hv aC bC a0 b0 hr
    generalize sameB (a.take b.length) b = r at HS ⊢
    obtain ⟨n, hn⟩ : ∃ n, a.length = n := ⟨_, rfl⟩
    obtain ⟨m, hm⟩ : ∃ m, b.length = m := ⟨_, rfl⟩
    rw [hn] at hle al e1 ⊢
    rw [hm] at hle bl HS ⊢
    have p1 : decide ((m : Int) ≤ (n : Int)) = true := decide_eq_true (by omega)
    have p2 : decide (m ≤ n) = true := decide_eq_true hle
    have p3 : m ≤ c := by omega
    go_enter Tryz.func16, Tryz.ntmps16
    go_wp2_with (go_at_call 34; refine HS.out.mono ?_; rintro e w1 ⟨rfl, h1⟩; have HA := Aside0.mk h1; clear h1)
    go_ret
    exact ⟨rfl, HA.out⟩
  · have hr : withinB a b = false := by unfold withinB; rw [decide_eq_false hle]; rfl
    rw [hr]
    clear aC bC a0 b0 hr
    obtain ⟨n, hn⟩ : ∃ n, a.length = n := ⟨_, rfl⟩
    obtain ⟨m, hm⟩ : ∃ m, b.length = m := ⟨_, rfl⟩
    rw [hn] at hle al ⊢
    rw [hm] at hle bl ⊢
    have p1 : decide ((m : Int) ≤ (n : Int)) = false := decide_eq_false (by omega)
    have p2 : decide (m ≤ n) = false := decide_eq_false hle
    go_enter Tryz.func16, Tryz.ntmps16
    go_wp2
    go_ret
    exact ⟨rfl, Below.refl _ _⟩
end Go.Proofs.YtpdhbpdfldfnhaaGreatDoor.Rk
