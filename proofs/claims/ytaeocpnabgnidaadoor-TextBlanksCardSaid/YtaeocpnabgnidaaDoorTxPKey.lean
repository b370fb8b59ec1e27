/- Plain Lean over the printed functions: what text.Text, text.Key and text.Alike answer. -/
import Derived.Test.YtaeocpnabgnidaaDoorTxPFold
import Derived.Lib.ItoaLen
import Derived.Lib.QuoteLoop
set_option linter.unusedVariables false
namespace Go.Proofs.YtaeocpnabgnidaaDoor.Tx
open Go.RowKit Go.Lib Go.Proofs.YtaeocpnabgnidaaDoorW.PrintWords Go.Proofs.YtaeocpnabgnidaaDoor.M

def Bytes (l : List Int) : Prop := ∀ x ∈ l, 0 ≤ x ∧ x < 256
theorem bytes_of_wf {l : List Int} (h : ∀ x ∈ l, (Lit.int .u8 x).wf = true) : Bytes l := by
  intro x hx
  have hx' : 0 ≤ x ∧ x ≤ 255 := by simpa [Lit.wf, IntKind.min, IntKind.max, IntKind.signed, IntKind.bits] using h x hx
  omega
theorem int_of_wf {x : Int} (h : (Lit.int .i64 x).wf = true) : -9223372036854775808 ≤ x ∧ x ≤ 9223372036854775807 := by
  simpa [Lit.wf, IntKind.min, IntKind.max, IntKind.signed, IntKind.bits] using h
theorem ok_of (l : List Int) (h : Bytes l) : okBytes l = true := (okBytes_iff l).2 h

/-- May the byte stand in a string of the kind? -/
def fitsV (tag b : Int) : Bool := decide (text_fits.f tag b = some true)
theorem fits_f (tag b : Int) (h : 0 ≤ b ∧ b < 256) : text_fits.f tag b = some (fitsV tag b) := by
  have hi : ∀ s, strings_IndexByte.f s b = some (Lib.indexByte s.data.toList b.toNat.toUInt8) := fun s => by
    unfold strings_IndexByte.f index_f; rw [if_pos h]
  obtain ⟨r, hr⟩ : ∃ r, text_fits.f tag b = some r := by
    unfold text_fits.f
    simp only [hi, Option.bind_some]
    repeat' split
    all_goals exact ⟨_, rfl⟩
  unfold fitsV
  rw [hr]
  cases r <;> simp

def oneByte (tag : Int) : Prop := tag = 18 ∨ tag = 19 ∨ tag = 22 ∨ tag = 26
instance (tag : Int) : Decidable (oneByte tag) := by unfold oneByte; infer_instance
/-- What text.Text answers. -/
def textV (tag : Int) (l : List Int) : ByteArray × Int :=
  if tag = 30 then (wideS l, wideE l)
  else if tag = 12 then (if validD (strOfNums l).data.toList = true then (strOfNums l, 0) else (⟨#[]⟩, 60))
  else if oneByte tag then (if (l.all fun b => fitsV tag b) = true then (strOfNums l, 0) else (⟨#[]⟩, 60))
  else (⟨#[]⟩, 61)

theorem rd_drop (l : List Int) (i : Nat) (h : i < l.length) : l.drop i = rd l (i : Int) :: l.drop (i + 1) := by
  rw [List.drop_eq_getElem_cons h]
  unfold rd
  simp [List.getD_eq_getElem?_getD, List.getElem?_eq_getElem h]
theorem rd_mem (l : List Int) (i : Nat) (h : i < l.length) : rd l (i : Int) ∈ l := by
  have : rd l (i : Int) ∈ l.drop i := by rw [rd_drop l i h]; exact List.mem_cons_self
  exact List.mem_of_mem_drop this
theorem wrap_next {i : Nat} (h : i ≤ 9000000000000000000) : wrap64 ((i : Int) + 1) = ((i + 1 : Nat) : Int) := by rw [wrap_id (by omega) (by omega)]; omega

theorem text_loop (tag : Int) (x1 l : List Int) (hb : Bytes l) (hl : l.length ≤ 35184372088832) : ∀ (d i : Nat), i + d = l.length →
    Ev (fun k => text_Text.l0 k tag x1 l (l.length : Int) (i : Int)) (if ((l.drop i).all fun b => fitsV tag b) = true then (strOfNums x1, 0) else (⟨#[]⟩, 60)) := by
  intro d
  induction d with
  | zero =>
    intro i hd
    rw [List.drop_of_length_le (by omega)]
    refine Ev.step (f := fun _ => some (strOfNums x1, 0)) (fun k => ?_) (Ev.now _)
    simp only [text_Text.l0]
    rw [if_neg (by omega)]
  | succ d ih =>
    intro i hd
    have hlt : i < l.length := by omega
    rw [rd_drop l i hlt, List.all_cons]
    have hf := fits_f tag (rd l (i : Int)) (hb _ (rd_mem l i hlt))
    cases hv : fitsV tag (rd l (i : Int)) with
    | true =>
      rw [hv] at hf
      rw [Bool.true_and]
      refine Ev.step (fun k => ?_) (ih (i + 1) (by omega))
      simp only [text_Text.l0]
      rw [if_pos (by omega), if_pos (by omega), if_pos (by omega), hf, Option.bind_some, if_pos rfl, wrap_next (by omega)]
    | false =>
      rw [hv] at hf
      rw [Bool.false_and]
      refine Ev.step (f := fun _ => some (⟨#[]⟩, 60)) (fun k => ?_) (Ev.now _)
      simp only [text_Text.l0]
      rw [if_pos (by omega), if_pos (by omega), if_pos (by omega), hf, Option.bind_some, if_neg (by decide)]
theorem text_j0 (tag : Int) (l : List Int) (hb : Bytes l) (hl : l.length ≤ 35184372088832) : Ev (fun k => text_Text.j0 k tag l true) (if (l.all fun b => fitsV tag b) = true then (strOfNums l, 0) else (⟨#[]⟩, 60)) := by
  refine Ev.step (fun k => ?_) (text_loop tag l l hb hl l.length 0 (by omega))
  simp only [text_Text.j0, if_true]
  rfl
theorem text_ev (tag : Int) (l : List Int) (hb : Bytes l) (hl : l.length ≤ 35184372088832) : Ev (fun k => text_Text.f k tag l) (textV tag l) := by
  have hw : text_wide.f l = some (wideS l, wideE l) := by unfold text_wide.f wide_f; rw [if_pos ⟨hl, ok_of l hb⟩]
  have hv : utf8_Valid.f l = some (validD (strOfNums l).data.toList) := by unfold utf8_Valid.f valid_f; rw [if_pos (ok_of l hb)]
  unfold textV
  by_cases h30 : tag = 30
  · rw [if_pos h30]
    refine Ev.congr (f := fun _ => some (wideS l, wideE l)) (fun k => ?_) (Ev.now _)
    unfold text_Text.f
    rw [if_pos h30, hw]
    rfl
  rw [if_neg h30]
  by_cases h12 : tag = 12
  · rw [if_pos h12]
    refine Ev.congr (f := fun _ => some (if validD (strOfNums l).data.toList = true then (strOfNums l, 0) else (⟨#[]⟩, 60))) (fun k => ?_) (Ev.now _)
    unfold text_Text.f
    rw [if_neg h30, if_pos h12, hv, Option.bind_some]
    split <;> rfl
  rw [if_neg h12]
  by_cases ho : oneByte tag
  · rw [if_pos ho]
    refine Ev.congr (fun k => ?_) (text_j0 tag l hb hl)
    unfold text_Text.f
    rw [if_neg h30, if_neg h12]
    rcases ho with h | h | h | h <;> subst h <;> rfl
  · rw [if_neg ho]
    unfold oneByte at ho
    refine Ev.step (f := fun _ => some (⟨#[]⟩, 61)) (fun k => ?_) (Ev.now _)
    unfold text_Text.f
    rw [if_neg h30, if_neg h12, if_neg (by omega), if_neg (by omega), if_neg (by omega)]
    have : (tag == 26) = false := by simp; omega
    rw [this]
    simp only [text_Text.j0]
    rw [if_neg (by decide)]

theorem wideL_length : ∀ (l r : List Int), wideL l = some r → r.length ≤ 2 * l.length
  | [], r, h => by simp [wideL] at h; subst h; simp
  | [_], r, h => by simp [wideL] at h
  | a :: b :: t, r, h => by
    unfold wideL at h
    split at h
    · cases h
    · obtain ⟨x, hx, rfl⟩ := Option.map_eq_some_iff.1 h
      have := wideL_length t x hx
      have h4 := encodeRuneZ_length_le (a * 256 + b)
      simp only [List.length_append, List.length_cons]
      omega
theorem wideS_size (l : List Int) : (wideS l).size ≤ 2 * l.length := by
  unfold wideS
  split
  · rename_i x hx
    rw [strOfNums_size]
    exact wideL_length l x hx
  · exact Nat.zero_le _
theorem textV_size (tag : Int) (l : List Int) : (textV tag l).1.size ≤ 2 * l.length := by
  unfold textV
  have h0 : (⟨#[]⟩ : ByteArray).size ≤ 2 * l.length := Nat.zero_le _
  have h1 : (strOfNums l).size ≤ 2 * l.length := by rw [strOfNums_size]; omega
  repeat' split
  all_goals first | exact wideS_size l | exact h0 | exact h1

def foldS (s : ByteArray) : ByteArray := strOfNums (foldL (bytesOf s))
theorem foldS_size (s : ByteArray) : (foldS s).size ≤ s.size := by
  unfold foldS
  rw [strOfNums_size, ← bytesOf_length]
  exact fold_length _
theorem fold_ev (s : ByteArray) (h : s.size ≤ 35184372088832) : text_Fold.f s = some (foldS s) := by
  unfold text_Fold.f fold_f
  rw [if_pos h]
  rfl

/-- What text.Key answers. -/
def keyV (tag : Int) (l : List Int) : ByteArray :=
  if (textV tag l).2 = 0 then (⟨#[61]⟩ : ByteArray) ++ foldS (textV tag l).1
  else (((⟨#[35]⟩ : ByteArray) ++ ⟨(Lib.itoa tag).toArray⟩) ++ (⟨#[58]⟩ : ByteArray)) ++ strOfNums l
theorem key_ev (tag : Int) (l : List Int) (ht : -9223372036854775808 ≤ tag ∧ tag ≤ 9223372036854775807) (hb : Bytes l) (hl : l.length ≤ 1000000) : Ev (fun k => text_Key.f k tag l) (keyV tag l) := by
  unfold text_Key.f keyV
  refine Ev.bind (text_ev tag l hb (by omega)) ?_
  have hs := textV_size tag l
  by_cases h0 : (textV tag l).2 = 0
  · simp only [if_pos h0]
    have hf := foldS_size (textV tag l).1
    rw [fold_ev _ (by omega), Option.bind_some, if_pos (by omega)]
    exact Ev.now _
  · simp only [if_neg h0]
    have hi : strconv_Itoa.f tag = some ⟨(Lib.itoa tag).toArray⟩ := by unfold strconv_Itoa.f itoa_f; rw [if_pos ht]
    have h21 := Lib.itoa_length_le tag ht.1 ht.2
    have hsz : (⟨(Lib.itoa tag).toArray⟩ : ByteArray).size = (Lib.itoa tag).length := by simp [ByteArray.size]
    have s35 : (⟨#[35]⟩ : ByteArray).size = 1 := rfl
    have s58 : (⟨#[58]⟩ : ByteArray).size = 1 := rfl
    rw [hi, Option.bind_some, if_pos (by omega), if_pos (by rw [ByteArray.size_append]; omega), if_pos (by rw [ByteArray.size_append, ByteArray.size_append, strOfNums_size]; omega)]
    exact Ev.now _
theorem alike_ev (ta tb : Int) (a b : List Int) (hta : -9223372036854775808 ≤ ta ∧ ta ≤ 9223372036854775807) (htb : -9223372036854775808 ≤ tb ∧ tb ≤ 9223372036854775807) (ha : Bytes a) (hb : Bytes b) (la : a.length ≤ 1000000) (lb : b.length ≤ 1000000) :
    Ev (fun k => text_Alike.f k ta a tb b) ((keyV ta a).toList == (keyV tb b).toList) := by
  unfold text_Alike.f
  exact Ev.bind (key_ev ta a hta ha la) (Ev.bind (key_ev tb b htb hb lb) (Ev.now _))
end Go.Proofs.YtaeocpnabgnidaaDoor.Tx
