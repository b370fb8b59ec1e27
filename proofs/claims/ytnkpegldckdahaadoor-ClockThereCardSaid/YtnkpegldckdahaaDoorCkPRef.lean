/- Plain Lean: what PutGeneral and PutUtc write: the document's side. -/
import Derived.Test.YtnkpegldckdahaaDoorCkGenW
import Derived.Test.YtnkpegldckdahaaDoorCkPParts
set_option linter.unusedVariables false
set_option linter.unusedSimpArgs false
namespace Go.Proofs.YtnkpegldckdahaaDoor.Ck
open Go.RowKit Go.Lib Go.Proofs.YtnkpegldckdahaaDoorW.PrintWords Go.Proofs.YtnkpegldckdahaaDoor.M
theorem rdig (size : Int) (hsz : size ≤ 10) : ∀ (j n : Nat) (l : List UInt8) (i : Int), 0 ≤ i → size - i = j → l.length ≤ 1000 - j → n ≤ 1000000000000 → Ev (fun k => chirographref05_digits.l0 k (n : Int) size (B l) i) (B (dl j n ++ l))
  | 0, n, l, i, h0, hj, hl, hn => by
    refine Ev.value (fun k => ?_)
    simp only [chirographref05_digits.l0]
    rw [if_neg (by omega)]
    rfl
  | j + 1, n, l, i, h0, hj, hl, hn => by
    have e1 : (wrap64 (48 + Int.tmod (n : Int) 10)) % 256 = ((48 + n % 10 : Nat) : Int) := by rw [tm (by omega), w64 (by omega) (by omega)]; omega
    have e2 : strOfNums [((48 + n % 10 : Nat) : Int)] = B [UInt8.ofNat (48 + n % 10)] := by
      unfold strOfNums
      rw [List.map_cons, Int.toNat_natCast]
      rfl
    have e3 : wrap64 (Int.tdiv (n : Int) 10) = ((n / 10 : Nat) : Int) := by rw [td (by omega), w64 (by omega) (by omega)]; omega
    refine Ev.step (f := fun k => chirographref05_digits.l0 k ((n / 10 : Nat) : Int) size (B ([UInt8.ofNat (48 + n % 10)] ++ l)) (i + 1)) (fun k => ?_) ?_
    · simp only [chirographref05_digits.l0, Option.bind_some]
      rw [if_pos (by omega), e1, e2, e3, if_pos (by rw [B_size, B_size]; simp; omega), B_append, w64 (by omega) (by omega)]
    · have := rdig size hsz j (n / 10) ([UInt8.ofNat (48 + n % 10)] ++ l) (i + 1) (by omega) (by omega) (by simp; omega) (by omega)
      rw [← List.append_assoc] at this
      exact this
theorem rdigits (x size : Int) (h0 : 0 ≤ x) (h1 : x ≤ 1000000000000) (hs : 0 ≤ size) (hsz : size ≤ 10) : Ev (fun k => chirographref05_digits.f k x size) (B (dl size.toNat x.toNat)) := by
  obtain ⟨n, rfl⟩ : ∃ n : Nat, x = (n : Int) := ⟨x.toNat, by omega⟩
  have := rdig size hsz size.toNat n [] 0 (by omega) (by omega) (by simp) (by omega)
  rw [List.append_nil] at this
  exact this
theorem rtail (Y M D h i s : Int) (hM : 0 ≤ M ∧ M < 100) (hD : 0 ≤ D ∧ D < 100) (hh : 0 ≤ h ∧ h < 100) (hi : 0 ≤ i ∧ i < 100) (hs : 0 ≤ s ∧ s < 100) : Ev (fun k => chirographref05_tail.f k Y M D h i s) (B (tl M D h i s)) := by
  unfold chirographref05_tail.f
  refine Ev.bind (rdigits M 2 (by omega) (by omega) (by omega) (by omega)) (Ev.bind (rdigits D 2 (by omega) (by omega) (by omega) (by omega)) ?_)
  simp only [B_append, B_size, List.length_append, dl_length]
  rw [show ((2 : Int).toNat) = 2 from rfl]
  simp only [show (2 + 2 ≤ 9223372036854775807) = True by simp, if_true]
  refine Ev.bind (rdigits h 2 (by omega) (by omega) (by omega) (by omega)) ?_
  simp only [B_append, B_size, List.length_append, dl_length]
  rw [show ((2 : Int).toNat) = 2 from rfl]
  simp only [show (2 + 2 + 2 ≤ 9223372036854775807) = True by simp, if_true]
  refine Ev.bind (rdigits i 2 (by omega) (by omega) (by omega) (by omega)) ?_
  simp only [B_append, B_size, List.length_append, dl_length]
  rw [show ((2 : Int).toNat) = 2 from rfl]
  simp only [show (2 + 2 + 2 + 2 ≤ 9223372036854775807) = True by simp, if_true]
  refine Ev.bind (rdigits s 2 (by omega) (by omega) (by omega) (by omega)) ?_
  simp only [B_append, B_size, List.length_append, dl_length]
  rw [show ((2 : Int).toNat) = 2 from rfl]
  simp only [show (2 + 2 + 2 + 2 + 2 ≤ 9223372036854775807) = True by simp, if_true]
  exact Ev.value' (fun k => rfl)
theorem trim_snoc (l : List UInt8) (b c : UInt8) : Lib.trimRightB (l ++ [b]) c = if b = c then Lib.trimRightB l c else l ++ [b] := by
  unfold Lib.trimRightB
  rw [List.reverse_append]
  by_cases h : b = c
  · subst h
    simp [List.dropWhile]
  · rw [if_neg h]
    simp [List.dropWhile, h]
theorem rtrim (s : List UInt8) (hs : s.length ≤ 1000) : ∀ (n : Nat) (l : List UInt8), l.length = n → l.length ≤ 1000 → Lib.trimRightB l 48 ≠ [] → Ev (fun k => chirographref05_PutGeneral.l0 k (B s) (B l)) (B (s ++ 46 :: Lib.trimRightB l 48 ++ [90]), 0)
  | 0, l, h, _, hne => by
    rw [List.length_eq_zero_iff.1 h] at hne
    exact absurd rfl hne
  | n + 1, l, h, hl, hne => by
    obtain ⟨m, b, rfl⟩ : ∃ m b, l = m ++ [b] := ⟨l.dropLast, l.getLast (by intro e; rw [e] at h; cases h), (List.dropLast_concat_getLast _).symm⟩
    have hm : m.length = n := by simpa using h
    have hsz : (B (m ++ [b])).size = m.length + 1 := by rw [B_size]; simp
    have hw : wrap64 (((B (m ++ [b])).size : Int) - 1) = (m.length : Int) := by rw [hsz, w64 (by omega) (by omega)]; omega
    have hb : bt (B (m ++ [b])) (m.length : Int) = (b.toNat : Int) := by
      rw [bt_B _ _ (by simp)]
      simp
    have hx : (B (m ++ [b])).extract 0 m.length = B m := by rw [B_ext]; simp
    rw [trim_snoc] at hne ⊢
    by_cases hc : b = 48
    · subst hc
      rw [if_pos rfl] at hne ⊢
      refine Ev.step (f := fun k => chirographref05_PutGeneral.l0 k (B s) (B m)) (fun k => ?_) (rtrim s hs n m hm (by omega) hne)
      simp only [chirographref05_PutGeneral.l0, hw, hb]
      rw [if_pos (by omega), if_pos (by rw [hsz]; omega), if_pos (by decide), if_pos (by rw [hsz]; omega), Int.toNat_natCast, hx]
    · rw [if_neg hc]
      refine Ev.value (fun k => ?_)
      simp only [chirographref05_PutGeneral.l0, hw, hb]
      have e46 : (⟨#[46]⟩ : ByteArray) = B [46] := rfl
      have e90 : (⟨#[90]⟩ : ByteArray) = B [90] := rfl
      have hb2 : ¬ (b.toNat : Int) = 48 := fun e => hc (UInt8.toNat_inj.1 (by show b.toNat = 48; omega))
      have hml : m.length ≤ 1000 := by omega
      rw [if_pos (by omega), if_pos (by rw [hsz]; omega), if_neg hb2, e46, e90, B_append, B_append, B_append, B_size, B_size, B_size, B_size]
      simp only [List.length_append, List.length_cons, List.length_nil]
      rw [if_pos (by omega), if_pos (by omega), if_pos (by omega)]
      simp
theorem trim_ne (k n : Nat) (h0 : 0 < n) (h : n < 10 ^ k) : Lib.trimRightB (dl k n) 48 ≠ [] := by
  intro hc
  have hall : ∀ (l : List UInt8), Lib.trimRightB l 48 = [] → ∀ b ∈ l, b = 48 := by
    intro l hl b hb
    have key : ∀ (r : List UInt8), r.dropWhile (· == 48) = [] → ∀ b ∈ r, b = 48 := by
      intro r
      induction r with
      | nil => intro _ b hb; cases hb
      | cons x r ih =>
        intro hh b hb
        by_cases hx : x = 48
        · rw [List.dropWhile_cons_of_pos (by simpa using hx)] at hh
          rcases List.mem_cons.1 hb with rfl | hb
          · exact hx
          · exact ih hh b hb
        · rw [List.dropWhile_cons_of_neg (by simpa using hx)] at hh
          cases hh
    unfold Lib.trimRightB at hl
    rw [List.reverse_eq_nil_iff] at hl
    exact key _ hl b (List.mem_reverse.2 hb)
  have hz : ∀ (l : List UInt8), (∀ b ∈ l, b = 48) → val l 0 = 0 := by
    intro l
    induction l with
    | nil => intro _; rfl
    | cons b l ih =>
      intro hh
      show val l (10 * 0 + (b.toNat - 48)) = 0
      rw [hh b (by simp)]
      exact ih (fun c hc => hh c (by simp [hc]))
  have := hz _ (hall _ hc)
  rw [val_dl, Nat.mod_eq_of_lt h] at this
  omega
theorem rgen_ev (sec micro : Int) (ha : -9223372036854775808 ≤ sec ∧ sec ≤ 9223372036854775807) : Ev (fun k => chirographref05_PutGeneral.f k sec micro) (B (putG sec micro).1, (putG sec micro).2) := by
  unfold chirographref05_PutGeneral.f
  have bad : (micro < 0 ∨ micro > 999999) → Ev (fun k => chirographref05_PutGeneral.j0 k sec micro true) (B (putG sec micro).1, (putG sec micro).2) := fun hb => by
    refine Ev.value (fun k => ?_)
    simp only [chirographref05_PutGeneral.j0, if_true]
    unfold putG
    rw [if_pos hb]
    rfl
  by_cases c1 : micro < 0
  · simp only [if_pos c1]
    exact bad (.inl c1)
  simp only [if_neg c1]
  by_cases c2 : micro > 999999
  · simp only [decide_eq_true c2]
    exact bad (.inr c2)
  simp only [decide_eq_false c2]
  refine Ev.step (f := _) (fun k => by simp only [chirographref05_PutGeneral.j0]; rw [if_neg (by decide)]) ?_
  refine Ev.bind (refparts_ev sec ha) ?_
  unfold putG
  rw [if_neg (by omega)]
  by_cases c3 : sec < -62167219200 ∨ sec ≥ 253402300800
  · rw [if_pos c3, partsV_bad c3]
    exact Ev.value' (fun k => rfl)
  rw [if_neg c3]
  obtain ⟨Y, M, D, h, i, s, e, H, es⟩ := partsV_ok (a := sec) (by omega) (by omega)
  have hmo := mo_pos Y M
  obtain ⟨y0, y1, m0, m1, d0, d1, h0, h1, i0, i1, s0, s1⟩ := H
  rw [e]
  simp only [if_true]
  refine Ev.bind (rdigits Y 4 (by omega) (by omega) (by omega) (by omega)) ?_
  refine Ev.bind (rtail Y M D h i s (by omega) (by omega) (by omega) (by omega) (by omega)) ?_
  rw [show ((4 : Int).toNat) = 4 from rfl]
  simp only [B_size, dl_length, tl_length, B_append, show (4 + 10 ≤ 9223372036854775807) = True by simp, if_true]
  unfold genL
  by_cases c4 : micro > 0
  · simp only [if_pos c4]
    refine Ev.bind (rdigits micro 6 (by omega) (by omega) (by omega) (by omega)) ?_
    rw [show ((6 : Int).toNat) = 6 from rfl, if_neg (by omega)]
    have := rtrim (dl 4 Y.toNat ++ tl M D h i s) (by rw [List.length_append, dl_length, tl_length]; decide) 6 (dl 6 micro.toNat) (dl_length _ _) (by rw [dl_length]; decide) (trim_ne 6 micro.toNat (by omega) (by omega))
    exact this
  · obtain rfl : micro = 0 := by omega
    have e90 : (⟨#[90]⟩ : ByteArray) = B [90] := rfl
    refine Ev.value' (fun k => ?_)
    rw [if_neg c4, if_pos (by rw [List.length_append, dl_length, tl_length]; decide), e90, B_append, if_pos rfl, List.append_nil]
theorem rgen_calls (sec micro : Int) (ha : -9223372036854775808 ≤ sec ∧ sec ≤ 9223372036854775807) (w : World) (hT : Tabs w) : Calls Tryd.prog 20 #[.int .i64 sec, .int .i64 micro] w fun e w' => Gives w e w' (lst (B (putG sec micro).1)) (putG sec micro).2 := by
  obtain ⟨k, h⟩ := (rgen_ev sec micro ha).rounds
  exact chirographref05_PutGeneral.calls k sec micro _ _ w h
theorem rpartsG (a0 : Int) (ha : -9223372036854775808 ≤ a0 ∧ a0 ≤ 9223372036854775807) {Y M D h i s x : Int} (e : partsV a0 = (Y, M, D, h, i, s, x)) : PartsGive 15 a0 Y M D h i s x := fun w => by
  obtain ⟨k, hk⟩ := (refparts_ev a0 ha).rounds
  exact chirographref05_Parts.calls k a0 Y M D h i s x w (by rw [hk, e])
theorem dl2_mod (y : Nat) : dl 2 (y % 100) = dl 2 y := by
  simp only [dl]
  rw [show y % 100 / 10 % 10 = y / 10 % 10 by omega, show y % 100 % 10 = y % 10 by omega]
theorem rutc_calls (sec : Int) (ha : -9223372036854775808 ≤ sec ∧ sec ≤ 9223372036854775807) (w : World) (hT : Tabs w) : Calls Tryd.prog 18 #[.int .i64 sec] w fun e w' => Gives w e w' (lst (B (putU sec).1)) (putU sec).2 := by
  by_cases c3 : sec < -62167219200 ∨ sec ≥ 253402300800
  · have e : putU sec = ([], 50) := by unfold putU; rw [if_pos (by omega)]
    rw [e]
    exact utc18_bad sec _ _ _ _ _ _ _ w (rpartsG sec ha (partsV_bad c3)) (.inl (by decide))
  obtain ⟨Y, M, D, h, i, s, e, H, es⟩ := partsV_ok (a := sec) (by omega) (by omega)
  by_cases c4 : Y < 1950 ∨ Y > 2049
  · have e2 : putU sec = ([], 50) := by unfold putU; rw [if_pos (by rw [e]; simp only; omega)]
    rw [e2]
    exact utc18_bad sec _ _ _ _ _ _ _ w (rpartsG sec ha e) (.inr c4)
  have hmo := mo_pos Y M
  obtain ⟨y0, y1, m0, m1, d0, d1, h0, h1, i0, i1, s0, s1⟩ := H
  have e2 : putU sec = (dl 2 Y.toNat ++ tl M D h i s ++ [90], 0) := by
    unfold putU
    rw [if_neg (by rw [e]; simp only; omega), e, dl2_mod]
  rw [e2]
  obtain ⟨k1, hk1⟩ := (rdigits Y 2 (by omega) (by omega) (by omega) (by omega)).rounds
  obtain ⟨k2, hk2⟩ := (rtail Y M D h i s (by omega) (by omega) (by omega) (by omega) (by omega)).rounds
  have := utc18_ok sec Y M D h i s (B (dl 2 Y.toNat)) (B (tl M D h i s)) w hT (rpartsG sec ha e) (by omega) (by omega) (fun w hT => chirographref05_digits.calls k1 Y 2 _ w hk1)
    (fun w hT => chirographref05_tail.calls k2 Y M D h i s _ w hk2) (by rw [B_size, dl_length]; decide) (by rw [B_size, tl_length]; decide)
  rw [show (⟨#[90]⟩ : ByteArray) = B [90] from rfl, B_append, B_append] at this
  exact this
end Go.Proofs.YtnkpegldckdahaaDoor.Ck
