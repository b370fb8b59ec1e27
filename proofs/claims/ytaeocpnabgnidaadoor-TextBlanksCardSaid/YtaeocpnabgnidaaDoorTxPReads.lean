/- Plain Lean over the printed functions: the document's Text answers as text.Text: pairs of bytes; one byte a character; every kind. -/
import Derived.Test.YtaeocpnabgnidaaDoorTxPRef
set_option linter.unusedVariables false
namespace Go.Proofs.YtaeocpnabgnidaaDoor.Tx
open Go.RowKit Go.Lib Go.Proofs.YtaeocpnabgnidaaDoorW.PrintWords Go.Proofs.YtaeocpnabgnidaaDoor.M

/-! one byte a character -/
set_option maxRecDepth 100000 in
theorem print_all : ∀ n : Fin 256, chirographref06_printable.f 20 (n.val : Int) = some (fitsV 19 (n.val : Int)) := by decide +kernel
set_option maxRecDepth 100000 in
theorem num_all : ∀ n : Fin 256, fitsV 18 (n.val : Int) = (if (n.val : Int) ≥ 48 then (if (n.val : Int) ≤ 57 then true else ((n.val : Int) == 32)) else ((n.val : Int) == 32)) := by decide +kernel
set_option maxRecDepth 100000 in
theorem ia5_all : ∀ n : Fin 256, fitsV 22 (n.val : Int) = decide ((n.val : Int) < 128) := by decide +kernel
set_option maxRecDepth 100000 in
theorem vis_all : ∀ n : Fin 256, fitsV 26 (n.val : Int) = (if (n.val : Int) ≥ 32 then decide ((n.val : Int) ≤ 126) else false) := by decide +kernel
theorem of_all {Q : Int → Prop} (h : ∀ n : Fin 256, Q (n.val : Int)) (c : Int) (hc : 0 ≤ c ∧ c < 256) : Q c := by
  have := h ⟨c.toNat, by omega⟩
  have e : ((⟨c.toNat, by omega⟩ : Fin 256).val : Int) = c := by simp; omega
  rw [e] at this
  exact this
theorem print_ev (c : Int) (hc : 0 ≤ c ∧ c < 256) : Ev (fun k => chirographref06_printable.f k c) (fitsV 19 c) :=
  Ev.of (chirographref06_printable.mono c) (of_all (Q := fun c => chirographref06_printable.f 20 c = some (fitsV 19 c)) print_all c hc)

def done1 (l : List Int) (ok : Bool) (r : ByteArray × Int) : ByteArray × Int := if ok = true then r else (⟨#[]⟩, 60)
theorem one_j6 (tag : Int) (l : List Int) (i : Nat) (c : Int) (ok : Bool) (r : ByteArray × Int) (h26 : tag ≠ 26) (hi : i ≤ 1000000) (h : Ev (fun k => chirographref06_Text.l1 k tag l ((i + 1 : Nat) : Int)) r) :
    Ev (fun k => chirographref06_Text.j6 k tag l (i : Int) c ok) (done1 l ok r) := by
  cases ok with
  | true =>
    refine Ev.step (fun k => ?_) h
    simp only [chirographref06_Text.j6, if_true]
    rw [if_neg h26, wrap_next (by omega)]
  | false =>
    refine Ev.step (f := fun _ => some (⟨#[]⟩, 60)) (fun k => ?_) (Ev.now _)
    simp only [chirographref06_Text.j6]
    rw [if_neg h26, if_neg (by decide)]
theorem one_j6v (l : List Int) (i : Nat) (c : Int) (ok : Bool) (r : ByteArray × Int) (hi : i ≤ 1000000) (h : Ev (fun k => chirographref06_Text.l1 k 26 l ((i + 1 : Nat) : Int)) r) :
    Ev (fun k => chirographref06_Text.j6 k 26 l (i : Int) c ok) (done1 l (if c ≥ 32 then decide (c ≤ 126) else false) r) := by
  by_cases h1 : c ≥ 32
  · by_cases h2 : c ≤ 126
    · rw [if_pos h1, decide_eq_true h2]
      refine Ev.step (fun k => ?_) h
      simp only [chirographref06_Text.j6, if_true]
      rw [if_pos h1, if_pos h2, wrap_next (by omega)]
    · rw [if_pos h1, decide_eq_false h2]
      refine Ev.step (f := fun _ => some (⟨#[]⟩, 60)) (fun k => ?_) (Ev.now _)
      simp only [chirographref06_Text.j6, if_true]
      rw [if_pos h1, if_neg h2]
  · rw [if_neg h1]
    refine Ev.step (f := fun _ => some (⟨#[]⟩, 60)) (fun k => ?_) (Ev.now _)
    simp only [chirographref06_Text.j6, if_true]
    rw [if_neg h1]
theorem one_j4 (tag : Int) (ho : oneByte tag) (l : List Int) (i : Nat) (c : Int) (hc : 0 ≤ c ∧ c < 256) (r : ByteArray × Int) (hi : i ≤ 1000000) (h : Ev (fun k => chirographref06_Text.l1 k tag l ((i + 1 : Nat) : Int)) r) :
    Ev (fun k => chirographref06_Text.j4 k tag l (i : Int) c (if c ≥ 48 then (if c ≤ 57 then true else (c == 32)) else (c == 32))) (done1 l (fitsV tag c) r) := by
  rcases ho with rfl | rfl | rfl | rfl
  · rw [of_all (Q := fun c => fitsV 18 c = (if c ≥ 48 then (if c ≤ 57 then true else (c == 32)) else (c == 32))) num_all c hc]
    refine Ev.step (fun k => by simp only [chirographref06_Text.j4]; rw [if_neg (by decide)]) ?_
    refine Ev.step (fun k => by simp only [chirographref06_Text.j5]; rw [if_neg (by decide)]) ?_
    exact one_j6 18 l i c _ r (by decide) hi h
  · refine Ev.step (fun k => by simp only [chirographref06_Text.j4, if_true]; rfl) ?_
    refine Ev.bind (print_ev c hc) ?_
    refine Ev.step (fun k => by simp only [chirographref06_Text.j5]; rw [if_neg (by decide)]) ?_
    exact one_j6 19 l i c _ r (by decide) hi h
  · rw [of_all (Q := fun c => fitsV 22 c = decide (c < 128)) ia5_all c hc]
    refine Ev.step (fun k => by simp only [chirographref06_Text.j4]; rw [if_neg (by decide)]) ?_
    refine Ev.step (fun k => by simp only [chirographref06_Text.j5, if_true]; rfl) ?_
    exact one_j6 22 l i c _ r (by decide) hi h
  · rw [of_all (Q := fun c => fitsV 26 c = (if c ≥ 32 then decide (c ≤ 126) else false)) vis_all c hc]
    refine Ev.step (fun k => by simp only [chirographref06_Text.j4]; rw [if_neg (by decide)]) ?_
    refine Ev.step (fun k => by simp only [chirographref06_Text.j5]; rw [if_neg (by decide)]) ?_
    exact one_j6v l i c _ r hi h
theorem one_loop (tag : Int) (ho : oneByte tag) (l : List Int) (hb : Bytes l) (hl : l.length ≤ 1000000) : ∀ (d i : Nat), i + d = l.length →
    Ev (fun k => chirographref06_Text.l1 k tag l (i : Int)) (if ((l.drop i).all fun b => fitsV tag b) = true then (strOfNums l, 0) else (⟨#[]⟩, 60)) := by
  intro d
  induction d with
  | zero =>
    intro i hd
    rw [List.drop_of_length_le (by omega)]
    refine Ev.step (f := fun _ => some (strOfNums l, 0)) (fun k => ?_) (Ev.now _)
    simp only [chirographref06_Text.l1]
    rw [if_neg (by omega)]
  | succ d ih =>
    intro i hd
    have hlt : i < l.length := by omega
    have hbi := hb _ (rd_mem l i hlt)
    have key := one_j4 tag ho l i (rd l (i : Int)) hbi _ (by omega) (ih (i + 1) (by omega))
    have e : (if ((l.drop i).all fun b => fitsV tag b) = true then (strOfNums l, (0 : Int)) else (⟨#[]⟩, 60)) = done1 l (fitsV tag (rd l (i : Int))) (if ((l.drop (i + 1)).all fun b => fitsV tag b) = true then (strOfNums l, 0) else (⟨#[]⟩, 60)) := by
      rw [rd_drop l i hlt, List.all_cons]
      unfold done1
      cases fitsV tag (rd l (i : Int)) <;> simp
    rw [e]
    refine Ev.step (fun k => ?_) key
    simp only [chirographref06_Text.l1]
    rw [if_pos (by omega), if_pos (by omega)]
    by_cases h1 : rd l (i : Int) ≥ 48
    · rw [if_pos h1, if_pos h1]
      by_cases h2 : rd l (i : Int) ≤ 57
      · rw [if_pos h2, if_pos h2]
      · rw [if_neg h2, if_neg h2]
    · rw [if_neg h1, if_neg h1]

/-! two bytes a character -/
def doneW (out : List Int) (r : Option (List Int)) : ByteArray × Int := match r with
  | some x => (strOfNums (out ++ x), 0)
  | none => (⟨#[]⟩, 60)
theorem wide_j1 (l out : List Int) (i : Nat) (v : Int) (hv : 0 ≤ v ∧ v < 65536) (hs : ¬ (55296 ≤ v ∧ v < 57344)) (r : ByteArray × Int) (hi : i ≤ 1000000) (ho : out.length ≤ 10000000)
    (h : Ev (fun k => chirographref06_Text.l0 k l (out ++ encodeRuneZ v) ((i + 2 : Nat) : Int)) r) : Ev (fun k => chirographref06_Text.j1 k l out (i : Int) v false) r := by
  have hw : wrap64 ((i : Int) + 2) = ((i + 2 : Nat) : Int) := by rw [wrap_id (by omega) (by omega)]; omega
  have t64 : Int.tdiv v 64 = v / 64 := Int.tdiv_eq_ediv_of_nonneg hv.1
  have t4096 : Int.tdiv v 4096 = v / 4096 := Int.tdiv_eq_ediv_of_nonneg hv.1
  have m64 : Int.tmod v 64 = v % 64 := Int.tmod_eq_emod_of_nonneg hv.1
  refine Ev.step (fun k => ?_) h
  simp only [chirographref06_Text.j1, Option.bind_some]
  rw [if_neg (by decide), hw]
  by_cases h1 : v < 128
  · rw [if_pos h1, if_pos (by omega), encodeRuneZ_one hv.1 (by omega), show v % 256 = v by omega]
  rw [if_neg h1]
  by_cases h2 : v < 2048
  · rw [if_pos h2, t64, m64, if_pos (by simp only [List.length_cons, List.length_nil]; omega), encodeRuneZ_two (by omega) (by omega), wrap_id (x := v / 64) (by omega) (by omega), wrap_id (x := 192 + v / 64) (by omega) (by omega), wrap_id (x := 128 + v % 64) (by omega) (by omega), show (192 + v / 64) % 256 = 192 + v / 64 by omega, show (128 + v % 64) % 256 = 128 + v % 64 by omega]
  · have n64 : Int.tmod (v / 64) 64 = v / 64 % 64 := Int.tmod_eq_emod_of_nonneg (by omega)
    rw [if_neg h2, t64, t4096, m64, wrap_id (x := v / 64) (by omega) (by omega), n64, if_pos (by simp only [List.length_cons, List.length_nil]; omega), encodeRuneZ_three (by omega), wrap_id (x := v / 4096) (by omega) (by omega), wrap_id (x := 224 + v / 4096) (by omega) (by omega), wrap_id (x := 128 + v / 64 % 64) (by omega) (by omega), wrap_id (x := 128 + v % 64) (by omega) (by omega), show (224 + v / 4096) % 256 = 224 + v / 4096 by omega, show (128 + v / 64 % 64) % 256 = 128 + v / 64 % 64 by omega, show (128 + v % 64) % 256 = 128 + v % 64 by omega]
theorem wide_loop (l : List Int) (hb : Bytes l) (hl : l.length ≤ 1000000) : ∀ (d i : Nat) (out : List Int), i + 2 * d = l.length → out.length ≤ 2 * i → Ev (fun k => chirographref06_Text.l0 k l out (i : Int)) (doneW out (wideL (l.drop i))) := by
  intro d
  induction d with
  | zero =>
    intro i out hd ho
    rw [List.drop_of_length_le (by omega)]
    have e : doneW out (wideL []) = (strOfNums out, 0) := by simp [doneW, wideL]
    rw [e]
    refine Ev.step (f := fun _ => some (strOfNums out, 0)) (fun k => ?_) (Ev.now _)
    simp only [chirographref06_Text.l0]
    rw [if_neg (by omega)]
  | succ d ih =>
    intro i out hd ho
    have h0 := hb _ (rd_mem l i (by omega))
    have h1 := hb _ (rd_mem l (i + 1) (by omega))
    rw [rd_drop l i (by omega), rd_drop l (i + 1) (by omega)]
    have ei : ((i + 1 : Nat) : Int) = (i : Int) + 1 := by omega
    rw [ei] at h1 ⊢
    obtain ⟨a, ea⟩ : ∃ a, rd l (i : Int) = a := ⟨_, rfl⟩
    obtain ⟨b, eb⟩ : ∃ b, rd l ((i : Int) + 1) = b := ⟨_, rfl⟩
    rw [ea] at h0 ⊢
    rw [eb] at h1 ⊢
    have w1 : wrap64 ((i : Int) + 1) = (i : Int) + 1 := wrap_id (by omega) (by omega)
    have wv : wrap64 (wrap64 (wrap64 a * 256) + wrap64 b) = a * 256 + b := by
      rw [wrap_id (x := a) (by omega) (by omega), wrap_id (x := a * 256) (by omega) (by omega), wrap_id (x := b) (by omega) (by omega), wrap_id (by omega) (by omega)]
    have body : ∀ k, chirographref06_Text.l0 (k + 1) l out (i : Int) = if a * 256 + b ≥ 55296 then chirographref06_Text.j1 k l out (i : Int) (a * 256 + b) (decide (a * 256 + b ≤ 57343)) else chirographref06_Text.j1 k l out (i : Int) (a * 256 + b) false := fun k => by
      simp only [chirographref06_Text.l0]
      rw [if_pos (by omega), if_pos (by omega), w1, if_pos (by omega), if_pos (by omega), ea, eb, wv]
    show Ev _ (doneW out (wideL (a :: b :: l.drop (i + 1 + 1))))
    unfold wideL
    by_cases hs : 55296 ≤ a * 256 + b ∧ a * 256 + b < 57344
    · rw [if_pos hs]
      refine Ev.step (f := fun k => chirographref06_Text.j1 k l out (i : Int) (a * 256 + b) true) (fun k => ?_) ?_
      · rw [body k, if_pos (by omega), decide_eq_true (by omega)]
      · refine Ev.step (f := fun _ => some (⟨#[]⟩, 60)) (fun k => ?_) (Ev.now _)
        simp only [chirographref06_Text.j1, if_true]
    · rw [if_neg hs]
      have h4 := encodeRuneZ_length_le (a * 256 + b)
      have key := ih (i + 2) (out ++ encodeRuneZ (a * 256 + b)) (by omega) (by rw [List.length_append]; omega)
      have e : doneW out (Option.map (fun x => encodeRuneZ (a * 256 + b) ++ x) (wideL (l.drop (i + 1 + 1)))) = doneW (out ++ encodeRuneZ (a * 256 + b)) (wideL (l.drop (i + 2))) := by
        show doneW out (Option.map (fun x => encodeRuneZ (a * 256 + b) ++ x) (wideL (l.drop (i + 2)))) = _
        cases wideL (l.drop (i + 2)) with
        | none => rfl
        | some x => simp [doneW]
      rw [e]
      refine Ev.step (f := fun k => chirographref06_Text.j1 k l out (i : Int) (a * 256 + b) false) (fun k => ?_) (wide_j1 l out i (a * 256 + b) (by omega) hs _ (by omega) (by omega) key)
      rw [body k]
      by_cases hg : a * 256 + b ≥ 55296
      · rw [if_pos hg, decide_eq_false (by omega)]
      · rw [if_neg hg]

/-- The document's Text, of any kind. -/
theorem ref_Text (tag : Int) (l : List Int) (hb : Bytes l) (hl : l.length ≤ 1000000) : Ev (fun k => chirographref06_Text.f k tag l) (textV tag l) := by
  unfold textV
  by_cases h12 : tag = 12
  · subst h12
    rw [if_neg (by decide), if_pos rfl]
    unfold chirographref06_Text.f
    simp only [if_true]
    refine Ev.bind (utf8_ev l hb hl) ?_
    by_cases hv : validD (strOfNums l).data.toList = true
    · simp only [if_pos hv]
      exact Ev.now _
    · simp only [if_neg hv]
      exact Ev.now _
  by_cases h30 : tag = 30
  · subst h30
    rw [if_pos rfl]
    unfold chirographref06_Text.f
    simp only [if_true]
    by_cases he : (l.length : Int) % 2 = 1
    · refine Ev.congr (f := fun _ => some (⟨#[]⟩, 60)) (fun k => by rw [if_neg (by decide), if_pos he]) ?_
      have := wideL_odd l (by omega)
      unfold wideS wideE
      rw [this]
      exact Ev.now _
    · refine Ev.congr (fun k => by rw [if_neg (by decide), if_neg he]) ?_
      have := wide_loop l hb hl (l.length / 2) 0 [] (by omega) (by simp)
      rw [List.drop_zero] at this
      have e : doneW [] (wideL l) = (wideS l, wideE l) := by
        unfold doneW wideS wideE
        cases wideL l <;> rfl
      rw [e] at this
      exact this
  rw [if_neg h30, if_neg h12]
  by_cases ho : oneByte tag
  · rw [if_pos ho]
    have key := one_loop tag ho l hb hl l.length 0 (by omega)
    rw [List.drop_zero] at key
    have step : Ev (fun k => chirographref06_Text.j2 k tag l true) (if (l.all fun b => fitsV tag b) = true then (strOfNums l, 0) else (⟨#[]⟩, 60)) := by
      refine Ev.step (fun k => ?_) key
      simp only [chirographref06_Text.j2, if_true]
      rfl
    refine Ev.congr (fun k => ?_) step
    unfold chirographref06_Text.f
    rw [if_neg h12, if_neg h30]
    rcases ho with h | h | h | h <;> subst h <;> rfl
  · rw [if_neg ho]
    unfold oneByte at ho
    refine Ev.step (f := fun _ => some (⟨#[]⟩, 61)) (fun k => ?_) (Ev.now _)
    unfold chirographref06_Text.f
    have : (tag == 26) = false := by simp; omega
    rw [if_neg h12, if_neg h30, if_neg (by omega), if_neg (by omega), if_neg (by omega), this]
    simp only [chirographref06_Text.j2]
    rw [if_neg (by decide)]
end Go.Proofs.YtaeocpnabgnidaaDoor.Tx
