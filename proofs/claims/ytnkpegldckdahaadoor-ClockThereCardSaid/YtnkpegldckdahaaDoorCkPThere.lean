/- Plain Lean: what is put is read, what is read is put. -/
import Derived.Test.YtnkpegldckdahaaDoorCkPRead
import Derived.Test.YtnkpegldckdahaaDoorCkPRef
set_option linter.unusedVariables false
set_option linter.unusedSimpArgs false
namespace Go.Proofs.YtnkpegldckdahaaDoor.Ck
open Go.RowKit Go.Lib Go.Proofs.YtnkpegldckdahaaDoorW.PrintWords Go.Proofs.YtnkpegldckdahaaDoor.M
theorem str_lst (l : List UInt8) : strOfNums (lst (B l)) = B l := by
  rw [lst_B]
  unfold strOfNums B
  rw [List.map_map]
  congr 1
  conv => rhs; rw [← List.map_id l]
  congr 1
  apply List.map_congr_left
  intro b _
  simp
def Form (a b : List UInt8) (p : Bool) : Prop := a.length = 14 ∧ (∀ x ∈ a, isDig x = true) ∧ (∀ x ∈ b, isDig x = true) ∧ (p = true → 1 ≤ b.length ∧ b.length ≤ 6 ∧ b.getLast? ≠ some 48) ∧ (p = false → b = [])
def resG (a b : List UInt8) : Int × Int × Int :=
  if (secR (100 * tw a 0 + tw a 2) (tw (a.drop 4) 0) (tw (a.drop 4) 2) (tw (a.drop 4) 4) (tw (a.drop 4) 6) (tw (a.drop 4) 8)).2 = 0 then
    ((secR (100 * tw a 0 + tw a 2) (tw (a.drop 4) 0) (tw (a.drop 4) 2) (tw (a.drop 4) 4) (tw (a.drop 4) 6) (tw (a.drop 4) 8)).1, mic b, 0)
  else (0, 0, (secR (100 * tw a 0 + tw a 2) (tw (a.drop 4) 0) (tw (a.drop 4) 2) (tw (a.drop 4) 4) (tw (a.drop 4) 6) (tw (a.drop 4) 8)).2)
theorem gen_bad (x y : ByteArray) : Ev (fun k => clock_General.j0 k 0 x y true) (0, 0, 6) := Ev.value (fun k => by simp only [clock_General.j0, if_true])
theorem gen_good (a b : List UInt8) (h14 : a.length = 14) (ha : ∀ x ∈ a, isDig x = true) (hb : ∀ x ∈ b, isDig x = true) (hb6 : b.length ≤ 6) : Ev (fun k => clock_General.j0 k 0 (B a) (B b) false) (resG a b) := by
  have r0 := tw_range a 0 (by omega) ha
  have r2 := tw_range a 2 (by omega) ha
  have hd4 : ∀ x ∈ a.drop 4, isDig x = true := fun x hx => ha x (List.mem_of_mem_drop hx)
  have he : (B a).extract 4 (B a).size = B (a.drop 4) := by rw [B_ext, List.take_of_length_le (by rw [B_size]; simp)]
  refine Ev.step (f := _) (fun k => by simp only [clock_General.j0]; rw [if_neg (by decide)]) ?_
  refine Ev.bind (a := tw a 0) (Ev.value' fun _ => two_eq a 0 (by omega) ha (by omega)) (Ev.bind (a := tw a 2) (Ev.value' fun _ => two_eq a 2 (by omega) ha (by omega)) ?_)
  simp only [he]
  rw [w64 (x := 100 * tw a 0) (by omega) (by omega), w64 (by omega) (by omega)]
  simp only [show (4 ≤ ((B a).size : Int)) = True by rw [B_size]; simp; omega, if_true]
  refine Ev.bind (moment_ev (100 * tw a 0 + tw a 2) (a.drop 4) (by simp; omega) hd4) ?_
  unfold resG
  by_cases hc : (secR (100 * tw a 0 + tw a 2) (tw (a.drop 4) 0) (tw (a.drop 4) 2) (tw (a.drop 4) 4) (tw (a.drop 4) 6) (tw (a.drop 4) 8)).2 = 0
  · simp only [if_pos hc]
    exact mic_loop _ b hb6 hb 6 0 (by omega) (by omega)
  · simp only [if_neg hc]
    exact Ev.value' fun _ => rfl
theorem all_iff (l : List UInt8) : l.all isDig = true ↔ ∀ x ∈ l, isDig x = true := by simp
theorem gen_core (t a b : List UInt8) (p : Bool) (ht : t.length ≤ 5000) (hb5 : b.length ≤ 5000) (hcut : strings_Cut.f (B t) (⟨#[46]⟩ : ByteArray) = some (B a, B b, p)) (hpb : p = false → b = []) :
    (Form a b p → Ev (fun k => clock_General.f k (lst (B (t ++ [90])))) (resG a b)) ∧ (¬ Form a b p → Ev (fun k => clock_General.f k (lst (B (t ++ [90])))) (0, 0, 6)) := by
  have hx : ∀ r, Ev (fun k => if ((B a).size : Int) = 14 then (clock_digits.f (B a)).bind fun t156 => (if t156 = true then ((clock_digits.f (B b)).bind fun t157 => (if t157 = true then (if p = true then (if ((B b).size : Int) < 1 then (clock_General.j0 k 0 (B a) (B b) true) else (if ((B b).size : Int) > 6 then (clock_General.j0 k 0 (B a) (B b) true) else (if 0 ≤ (wrap64 (((B b).size : Int) - 1)) then (if (wrap64 (((B b).size : Int) - 1)) < ((B b).size : Int) then (clock_General.j0 k 0 (B a) (B b) ((bt (B b) (wrap64 (((B b).size : Int) - 1))) == 48)) else (none)) else (none)))) else (clock_General.j0 k 0 (B a) (B b) false)) else (clock_General.j0 k 0 (B a) (B b) true))) else (clock_General.j0 k 0 (B a) (B b) true)) else (clock_General.j0 k 0 (B a) (B b) true)) r → Ev (fun k => clock_General.f k (lst (B (t ++ [90])))) r := by
    intro r hr
    unfold clock_General.f
    refine Ev.bind (a := (B t, true)) (Ev.value' fun _ => by rw [str_lst, suf_eq t 90 (by omega), if_pos rfl]) ?_
    simp only [if_true]
    exact Ev.bind (a := (B a, B b, p)) (Ev.value' fun _ => hcut) hr
  have hsa := B_size a
  have hsb := B_size b
  constructor
  · rintro ⟨h14, ha, hb, hp, hn⟩
    refine hx _ ?_
    simp only [show (((B a).size : Int) = 14) = True by rw [hsa]; simp; omega, if_true, digs_eq, (all_iff a).2 ha, (all_iff b).2 hb, Option.bind_some]
    by_cases hpp : p = true
    · obtain ⟨h1, h6, hl⟩ := hp hpp
      obtain ⟨m, x, rfl⟩ : ∃ m x, b = m ++ [x] := ⟨b.dropLast, b.getLast (by intro e; rw [e] at h1; simp at h1), (List.dropLast_concat_getLast _).symm⟩
      have hm : (m ++ [x]).length = m.length + 1 := by simp
      have hw : wrap64 (((B (m ++ [x])).size : Int) - 1) = (m.length : Int) := by rw [hsb, hm, w64 (by omega) (by omega)]; omega
      have hbt : bt (B (m ++ [x])) (m.length : Int) = (x.toNat : Int) := by rw [bt_B _ _ (by simp)]; simp
      have hx48 : ((x.toNat : Int) == 48) = false := by
        have : x ≠ 48 := by simpa using hl
        simp only [beq_eq_false_iff_ne, ne_eq]
        intro e
        exact this (UInt8.toNat_inj.1 (by show x.toNat = 48; omega))
      simp only [hpp, if_true, hw, hbt, hx48]
      exact Ev.congr (fun k => by rw [if_neg (by rw [hsb]; omega), if_neg (by rw [hsb]; omega), if_pos (by omega), if_pos (by rw [hsb]; omega)]) (gen_good a _ h14 ha hb h6)
    · simp only [if_neg hpp]
      exact gen_good a b h14 ha hb (by rw [hn (by simpa using hpp)]; simp)
  · intro hF
    refine hx _ ?_
    by_cases h14 : a.length = 14
    · simp only [show (((B a).size : Int) = 14) = True by rw [hsa]; simp; omega, if_true, digs_eq]
      refine Ev.bind (a := a.all isDig) (Ev.value' fun _ => rfl) ?_
      by_cases ha : a.all isDig = true
      · simp only [if_pos ha]
        refine Ev.bind (a := b.all isDig) (Ev.value' fun _ => rfl) ?_
        by_cases hb : b.all isDig = true
        · simp only [if_pos hb]
          by_cases hpp : p = true
          · simp only [if_pos hpp]
            by_cases c1 : ((B b).size : Int) < 1
            · simp only [if_pos c1]; exact gen_bad _ _
            simp only [if_neg c1]
            by_cases c2 : ((B b).size : Int) > 6
            · simp only [if_pos c2]; exact gen_bad _ _
            simp only [if_neg c2]
            rw [hsb] at c1 c2
            obtain ⟨m, x, rfl⟩ : ∃ m x, b = m ++ [x] := ⟨b.dropLast, b.getLast (by intro e; rw [e] at c1; simp at c1), (List.dropLast_concat_getLast _).symm⟩
            have hm : (m ++ [x]).length = m.length + 1 := by simp
            have hw : wrap64 (((B (m ++ [x])).size : Int) - 1) = (m.length : Int) := by rw [hsb, hm, w64 (by omega) (by omega)]; omega
            have hbt : bt (B (m ++ [x])) (m.length : Int) = (x.toNat : Int) := by rw [bt_B _ _ (by simp)]; simp
            simp only [hw, hbt]
            have hx48 : ((x.toNat : Int) == 48) = true := by
              by_cases hc : x = 48
              · subst hc; rfl
              · exact absurd ⟨h14, (all_iff a).1 ha, (all_iff _).1 hb, fun _ => ⟨by omega, by omega, by simpa using hc⟩, fun e => by rw [e] at hpp; cases hpp⟩ hF
            exact Ev.congr (fun k => by rw [hx48, if_pos (by omega), if_pos (by rw [hsb]; omega)]) (gen_bad _ _)
          · exact absurd ⟨h14, (all_iff a).1 ha, (all_iff _).1 hb, fun e => absurd e hpp, hpb⟩ hF
        · simp only [if_neg hb]; exact gen_bad _ _
      · simp only [if_neg ha]; exact gen_bad _ _
    · simp only [show (((B a).size : Int) = 14) = False by rw [hsa]; simp; omega, if_false]
      exact gen_bad _ _
theorem list14 {l : List UInt8} (h : l.length = 14) : ∃ x0 x1 x2 x3 x4 x5 x6 x7 x8 x9 x10 x11 x12 x13, l = [x0, x1, x2, x3, x4, x5, x6, x7, x8, x9, x10, x11, x12, x13] := by
  match l, h with
  | [x0, x1, x2, x3, x4, x5, x6, x7, x8, x9, x10, x11, x12, x13], _ => exact ⟨x0, x1, x2, x3, x4, x5, x6, x7, x8, x9, x10, x11, x12, x13, rfl⟩
theorem list12 {l : List UInt8} (h : l.length = 12) : ∃ x0 x1 x2 x3 x4 x5 x6 x7 x8 x9 x10 x11, l = [x0, x1, x2, x3, x4, x5, x6, x7, x8, x9, x10, x11] := by
  match l, h with
  | [x0, x1, x2, x3, x4, x5, x6, x7, x8, x9, x10, x11], _ => exact ⟨x0, x1, x2, x3, x4, x5, x6, x7, x8, x9, x10, x11, rfl⟩
/-- two digits, read and put -/
theorem pair_back {x y : UInt8} (hx : isDig x = true) (hy : isDig y = true) : dl 2 ((val [x, y] 0 : Nat) : Int).toNat = [x, y] := by
  rw [Int.toNat_natCast]
  exact dl_val 2 [x, y] rfl (by simp [hx, hy])
theorem quad_back {x y z t : UInt8} (hx : isDig x = true) (hy : isDig y = true) (hz : isDig z = true) (ht : isDig t = true) : dl 4 (100 * ((val [x, y] 0 : Nat) : Int) + ((val [z, t] 0 : Nat) : Int)).toNat = [x, y, z, t] := by
  have e : (100 * ((val [x, y] 0 : Nat) : Int) + ((val [z, t] 0 : Nat) : Int)).toNat = val [x, y, z, t] 0 := by
    simp only [val]
    omega
  rw [e]
  exact dl_val 4 [x, y, z, t] rfl (by simp [hx, hy, hz, ht])
theorem a_back (a : List UInt8) (h14 : a.length = 14) (ha : ∀ x ∈ a, isDig x = true) : dl 4 (100 * tw a 0 + tw a 2).toNat ++ tl (tw (a.drop 4) 0) (tw (a.drop 4) 2) (tw (a.drop 4) 4) (tw (a.drop 4) 6) (tw (a.drop 4) 8) = a := by
  obtain ⟨x0, x1, x2, x3, x4, x5, x6, x7, x8, x9, x10, x11, x12, x13, rfl⟩ := list14 h14
  simp only [List.mem_cons, List.not_mem_nil, or_false, forall_eq_or_imp, forall_eq] at ha
  obtain ⟨d0, d1, d2, d3, d4, d5, d6, d7, d8, d9, d10, d11, d12, d13⟩ := ha
  have q := quad_back d0 d1 d2 d3
  have p4 := pair_back d4 d5
  have p6 := pair_back d6 d7
  have p8 := pair_back d8 d9
  have p10 := pair_back d10 d11
  have p12 := pair_back d12 d13
  show dl 4 (100 * ((val [x0, x1] 0 : Nat) : Int) + ((val [x2, x3] 0 : Nat) : Int)).toNat ++ (dl 2 ((val [x4, x5] 0 : Nat) : Int).toNat ++ dl 2 ((val [x6, x7] 0 : Nat) : Int).toNat ++ dl 2 ((val [x8, x9] 0 : Nat) : Int).toNat ++ dl 2 ((val [x10, x11] 0 : Nat) : Int).toNat ++ dl 2 ((val [x12, x13] 0 : Nat) : Int).toNat) = _
  rw [q, p4, p6, p8, p10, p12]
  rfl
theorem trim_zeros (l : List UInt8) : ∀ n, Lib.trimRightB (l ++ List.replicate n 48) 48 = Lib.trimRightB l 48
  | 0 => by simp
  | n + 1 => by rw [List.replicate_succ', ← List.append_assoc, trim_snoc, if_pos rfl, trim_zeros l n]
theorem trim_pad : ∀ (k : Nat) (l : List UInt8), l.length = k → Lib.trimRightB l 48 ++ List.replicate (k - (Lib.trimRightB l 48).length) 48 = l
  | 0, l, h => by rw [List.length_eq_zero_iff.1 h]; rfl
  | k + 1, l, h => by
    obtain ⟨m, x, rfl⟩ : ∃ m x, l = m ++ [x] := ⟨l.dropLast, l.getLast (by intro e; rw [e] at h; cases h), (List.dropLast_concat_getLast _).symm⟩
    have hm : m.length = k := by simpa using h
    rw [trim_snoc]
    by_cases hx : x = 48
    · subst hx
      rw [if_pos rfl]
      have ih := trim_pad k m hm
      have hlen := trim_len m 48
      rw [show k + 1 - (Lib.trimRightB m 48).length = (k - (Lib.trimRightB m 48).length) + 1 by omega, List.replicate_succ', ← List.append_assoc, ih]
    · rw [if_neg hx, h]
      simp
theorem trim_last (l : List UInt8) : (Lib.trimRightB l 48).getLast? ≠ some 48 := by
  obtain ⟨n, hn⟩ : ∃ n, l.length = n := ⟨_, rfl⟩
  induction n generalizing l with
  | zero => rw [List.length_eq_zero_iff.1 hn]; simp [Lib.trimRightB]
  | succ n ih =>
    obtain ⟨m, x, rfl⟩ : ∃ m x, l = m ++ [x] := ⟨l.dropLast, l.getLast (by intro e; rw [e] at hn; cases hn), (List.dropLast_concat_getLast _).symm⟩
    rw [trim_snoc]
    by_cases hx : x = 48
    · rw [if_pos hx]
      exact ih m (by simpa using hn)
    · rw [if_neg hx]
      simpa using hx
theorem trim_id (b : List UInt8) (hb : b.getLast? ≠ some 48) : Lib.trimRightB b 48 = b := by
  rcases List.eq_nil_or_concat b with rfl | ⟨m, x, rfl⟩
  · rfl
  · rw [List.concat_eq_append, trim_snoc, if_neg (by simpa using hb)]
theorem trim_mem (l : List UInt8) : ∀ x ∈ Lib.trimRightB l 48, x ∈ l := by
  intro x hx
  unfold Lib.trimRightB at hx
  exact List.mem_reverse.1 ((List.dropWhile_sublist _).mem (List.mem_reverse.1 hx))
theorem mic_back (b : List UInt8) (hb : ∀ x ∈ b, isDig x = true) (h6 : b.length ≤ 6) (hl : b.getLast? ≠ some 48) : Lib.trimRightB (dl 6 (mic b).toNat) 48 = b ∧ 0 ≤ mic b ∧ mic b ≤ 999999 := by
  have hall : ∀ x ∈ b ++ List.replicate (6 - b.length) 48, isDig x = true := by
    intro x hx
    rcases List.mem_append.1 hx with hx | hx
    · exact hb x hx
    · rw [List.eq_of_mem_replicate hx]; decide
  have hlen : (b ++ List.replicate (6 - b.length) 48).length = 6 := by simp; omega
  have hv := val_lt _ hall 0
  rw [hlen] at hv
  unfold mic
  rw [Int.toNat_natCast, dl_val 6 _ hlen hall, trim_zeros, trim_id b hl]
  exact ⟨rfl, by omega, by omega⟩
theorem mic_put (m : Int) (h0 : 0 ≤ m) (h1 : m ≤ 999999) : mic (Lib.trimRightB (dl 6 m.toNat) 48) = m := by
  unfold mic
  rw [trim_pad 6 _ (dl_length _ _), val_dl]
  omega
theorem mic_nil : mic [] = 0 := by decide
/-- what General reads is what PutGeneral puts -/
theorem read_put (l : List UInt8) (hl : l.length ≤ 4000) : ∃ r, Ev (fun k => clock_General.f k (lst (B l))) r ∧ (r.2.2 = 0 → (putG r.1 r.2.1) = (l, 0)) := by
  rcases List.eq_nil_or_concat l with rfl | ⟨t, z, rfl⟩
  · refine ⟨(0, 0, 6), ?_, fun h => absurd h (by decide)⟩
    unfold clock_General.f
    exact Ev.bind (a := (B [], false)) (Ev.value' fun _ => by rw [str_lst, suf_nil]) (Ev.value' fun _ => rfl)
  rw [List.concat_eq_append] at hl ⊢
  have ht : t.length ≤ 4000 := by simp at hl; omega
  by_cases hz : z = 90
  · subst hz
    have main : ∀ (a b : List UInt8) (p : Bool), t = (if p = true then a ++ 46 :: b else a) → strings_Cut.f (B t) (⟨#[46]⟩ : ByteArray) = some (B a, B b, p) → (p = false → b = []) → b.length ≤ 5000 → ∃ r, Ev (fun k => clock_General.f k (lst (B (t ++ [90])))) r ∧ (r.2.2 = 0 → (putG r.1 r.2.1) = (t ++ [90], 0)) := by
      intro a b p hta hcut hpb hb5
      obtain ⟨g1, g2⟩ := gen_core t a b p (by omega) hb5 hcut hpb
      by_cases hF : Form a b p
      · refine ⟨_, g1 hF, fun h0 => ?_⟩
        obtain ⟨h14, ha, hb, hp, hn⟩ := hF
        have hab := a_back a h14 ha
        unfold resG at h0 ⊢
        by_cases hM : May (100 * tw a 0 + tw a 2) (tw (a.drop 4) 0) (tw (a.drop 4) 2) (tw (a.drop 4) 4) (tw (a.drop 4) 6) (tw (a.drop 4) 8)
        · rw [secR_yes hM]
          simp only [if_true]
          have hr := secs_range hM
          have hbl : b.getLast? ≠ some 48 := by
            by_cases hpp : p = true
            · exact (hp hpp).2.2
            · rw [hn (by simpa using hpp)]; simp
          have hb6 : b.length ≤ 6 := by
            by_cases hpp : p = true
            · exact (hp hpp).2.1
            · rw [hn (by simpa using hpp)]; simp
          obtain ⟨hmb, m0, m1⟩ := mic_back b hb hb6 hbl
          unfold putG
          rw [if_neg (by omega), if_neg (by omega), partsV_secs hM]
          simp only
          congr 1
          unfold genL
          rw [hab, hmb]
          by_cases hpp : p = true
          · have hne : mic b ≠ 0 := by
              intro e
              rw [e] at hmb
              have : Lib.trimRightB (dl 6 (0 : Int).toNat) 48 = [] := by decide
              rw [this] at hmb
              have := (hp hpp).1
              rw [← hmb] at this
              simp at this
            rw [if_neg hne, hta, if_pos hpp]
          · have hnb := hn (by simpa using hpp)
            rw [hnb, mic_nil, if_pos rfl, hta, if_neg hpp]
            simp
        · rw [secR_no hM, if_neg (by decide)] at h0
          exact absurd h0 (by decide)
      · exact ⟨_, g2 hF, fun h => absurd h (by decide)⟩
    rcases cut_cases t with h | ⟨a, b, rfl, h⟩
    · exact main t [] false (by simp) (cut_none t h) (fun _ => rfl) (by simp)
    · have hle : a.length + b.length ≤ 1000000 := by simp at ht; omega
      exact main a b true (by simp) (cut_dot a b h hle) (fun e => by cases e) (by simp at ht; omega)
  · refine ⟨(0, 0, 6), ?_, fun h => absurd h (by decide)⟩
    unfold clock_General.f
    exact Ev.bind (a := (B (t ++ [z]), false)) (Ev.value' fun _ => by rw [str_lst, suf_eq t z (by omega), if_neg hz]) (Ev.value' fun _ => rfl)
theorem dl4_pairs (n : Nat) : dl 4 n = dl 2 (n / 100) ++ dl 2 n := by
  simp only [dl, List.nil_append, List.cons_append]
  rw [show n / 10 / 10 / 10 % 10 = n / 100 / 10 % 10 by omega, show n / 10 / 10 % 10 = n / 100 % 10 by omega]
theorem tw_dl (x y : List UInt8) (n : Nat) : tw (x ++ dl 2 n ++ y) x.length = ((n % 100 : Nat) : Int) := by
  unfold tw
  rw [List.append_assoc, List.drop_left' rfl, List.take_left' (dl_length 2 n), val_dl]
/-- what PutGeneral puts is what General reads -/
theorem put_read (sec micro : Int) (h : (putG sec micro).2 = 0) : Ev (fun k => clock_General.f k (lst (B (putG sec micro).1))) (sec, micro, 0) := by
  unfold putG at h ⊢
  by_cases c1 : micro < 0 ∨ micro > 999999
  · rw [if_pos c1] at h
    exact absurd h (by decide)
  rw [if_neg c1] at h ⊢
  by_cases c2 : sec < -62167219200 ∨ sec ≥ 253402300800
  · rw [if_pos c2] at h
    exact absurd h (by decide)
  rw [if_neg c2]
  clear h
  obtain ⟨Y, M, D, hh, i, s, e, H, es⟩ := partsV_ok (a := sec) (by omega) (by omega)
  rw [e]
  simp only
  have hmo := mo_pos Y M
  obtain ⟨y0, y1, m0, m1, d0, d1, h0, h1, i0, i1, s0, s1⟩ := id H
  obtain ⟨a, haa⟩ : ∃ a, dl 4 Y.toNat ++ tl M D hh i s = a := ⟨_, rfl⟩
  have h14 : a.length = 14 := by rw [← haa, List.length_append, dl_length, tl_length]
  have ha : ∀ x ∈ a, isDig x = true := by
    rw [← haa]
    intro x hx
    rcases List.mem_append.1 hx with hx | hx
    · exact dl_digits _ _ x hx
    · exact tl_digits _ _ _ _ _ x hx
  have ha46 : ∀ x ∈ a, x ≠ 46 := fun x hx => dig_ne46 (ha x hx)
  have hY : 100 * tw a 0 + tw a 2 = Y := by
    have e1 := tw_dl [] (dl 2 Y.toNat ++ tl M D hh i s) (Y.toNat / 100)
    have e2 := tw_dl (dl 2 (Y.toNat / 100)) (tl M D hh i s) Y.toNat
    rw [dl_length] at e2
    rw [← haa, dl4_pairs]
    rw [List.append_assoc]
    rw [List.nil_append] at e1
    rw [List.append_assoc] at e2
    rw [show tw (dl 2 (Y.toNat / 100) ++ (dl 2 Y.toNat ++ tl M D hh i s)) 0 = _ from e1, e2]
    omega
  have hd4 : a.drop 4 = tl M D hh i s := by rw [← haa, List.drop_left' (dl_length _ _)]
  have hM : tw (a.drop 4) 0 = M := by
    have e1 := tw_dl [] (dl 2 D.toNat ++ dl 2 hh.toNat ++ dl 2 i.toNat ++ dl 2 s.toNat) M.toNat
    rw [hd4]
    unfold tl
    simp only [List.append_assoc, List.nil_append] at e1 ⊢
    rw [show tw (dl 2 M.toNat ++ (dl 2 D.toNat ++ (dl 2 hh.toNat ++ (dl 2 i.toNat ++ dl 2 s.toNat)))) 0 = _ from e1]
    omega
  have hD : tw (a.drop 4) 2 = D := by
    have e1 := tw_dl (dl 2 M.toNat) (dl 2 hh.toNat ++ dl 2 i.toNat ++ dl 2 s.toNat) D.toNat
    rw [hd4]
    unfold tl
    simp only [List.append_assoc, dl_length] at e1 ⊢
    rw [e1]
    omega
  have hH : tw (a.drop 4) 4 = hh := by
    have e1 := tw_dl (dl 2 M.toNat ++ dl 2 D.toNat) (dl 2 i.toNat ++ dl 2 s.toNat) hh.toNat
    rw [hd4]
    unfold tl
    simp only [List.append_assoc, dl_length, List.length_append] at e1 ⊢
    rw [e1]
    omega
  have hI : tw (a.drop 4) 6 = i := by
    have e1 := tw_dl (dl 2 M.toNat ++ dl 2 D.toNat ++ dl 2 hh.toNat) (dl 2 s.toNat) i.toNat
    rw [hd4]
    unfold tl
    simp only [List.append_assoc, dl_length, List.length_append] at e1 ⊢
    rw [e1]
    omega
  have hS : tw (a.drop 4) 8 = s := by
    have e1 := tw_dl (dl 2 M.toNat ++ dl 2 D.toNat ++ dl 2 hh.toNat ++ dl 2 i.toNat) [] s.toNat
    rw [hd4]
    unfold tl
    simp only [List.append_assoc, dl_length, List.length_append, List.append_nil] at e1 ⊢
    rw [e1]
    omega
  unfold genL
  rw [haa]
  have res : ∀ b, mic b = micro → resG a b = (sec, micro, 0) := by
    intro b hb
    unfold resG
    rw [hY, hM, hD, hH, hI, hS, secR_yes H, hb, es]
    rfl
  by_cases hm : micro = 0
  · rw [if_pos hm, List.append_nil, ← res [] (by rw [mic_nil, hm])]
    exact (gen_core a a [] false (by omega) (by simp) (cut_none a ha46) (fun _ => rfl)).1 ⟨h14, ha, by simp, (fun e => by cases e), fun _ => rfl⟩
  · rw [if_neg hm]
    obtain ⟨b, hbb⟩ : ∃ b, Lib.trimRightB (dl 6 micro.toNat) 48 = b := ⟨_, rfl⟩
    have hb6 : b.length ≤ 6 := by rw [← hbb]; have := trim_len (dl 6 micro.toNat) 48; rw [dl_length] at this; exact this
    have hbd : ∀ x ∈ b, isDig x = true := by rw [← hbb]; exact fun x hx => dl_digits _ _ x (trim_mem _ x hx)
    have hbl : b.getLast? ≠ some 48 := by rw [← hbb]; exact trim_last _
    have hbn : b ≠ [] := by rw [← hbb]; exact trim_ne 6 micro.toNat (by omega) (by omega)
    have hmb : mic b = micro := by rw [← hbb]; exact mic_put micro (by omega) (by omega)
    rw [hbb, ← res b hmb]
    refine (gen_core (a ++ 46 :: b) a b true (by simp; omega) (by omega) (cut_dot a b ha46 (by omega)) (fun e => by cases e)).1 ⟨h14, ha, hbd, fun _ => ⟨?_, hb6, hbl⟩, fun e => by cases e⟩
    rcases b with _ | ⟨x, b⟩
    · exact absurd rfl hbn
    · simp
def yy (t : List UInt8) : Int := if 2000 + tw t 0 ≥ 2050 then 2000 + tw t 0 - 100 else 2000 + tw t 0
def resU (t : List UInt8) : Int × Int := secR (yy t) (tw (t.drop 2) 0) (tw (t.drop 2) 2) (tw (t.drop 2) 4) (tw (t.drop 2) 6) (tw (t.drop 2) 8)
theorem utc_bad (x : ByteArray) : Ev (fun k => clock_Utc.j0 k x true) (0, 6) := Ev.value (fun k => by simp only [clock_Utc.j0, if_true])
theorem utc_good (t : List UInt8) (h12 : t.length = 12) (ht : ∀ x ∈ t, isDig x = true) : Ev (fun k => clock_Utc.j0 k (B t) false) (resU t) := by
  have r0 := tw_range t 0 (by omega) ht
  have hd2 : ∀ x ∈ t.drop 2, isDig x = true := fun x hx => ht x (List.mem_of_mem_drop hx)
  have he : (B t).extract 2 (B t).size = B (t.drop 2) := by rw [B_ext, List.take_of_length_le (by rw [B_size]; simp)]
  have h2 : (2 ≤ ((B t).size : Int)) = True := by rw [B_size]; simp; omega
  refine Ev.step (f := _) (fun k => by simp only [clock_Utc.j0]; rw [if_neg (by decide)]) ?_
  refine Ev.bind (a := tw t 0) (Ev.value' fun _ => two_eq t 0 (by omega) ht (by omega)) ?_
  simp only [he, h2, if_true]
  rw [w64 (x := 2000 + tw t 0) (by omega) (by omega)]
  unfold resU yy
  by_cases hc : 2000 + tw t 0 ≥ 2050
  · simp only [if_pos hc]
    rw [w64 (by omega) (by omega)]
    exact Ev.bind (moment_ev _ (t.drop 2) (by simp; omega) hd2) (Ev.value' fun _ => rfl)
  · simp only [if_neg hc]
    exact Ev.bind (moment_ev _ (t.drop 2) (by simp; omega) hd2) (Ev.value' fun _ => rfl)
theorem utc_core (t : List UInt8) (ht : t.length ≤ 5000) :
    ((t.length = 12 ∧ ∀ x ∈ t, isDig x = true) → Ev (fun k => clock_Utc.f k (lst (B (t ++ [90])))) (resU t)) ∧ (¬ (t.length = 12 ∧ ∀ x ∈ t, isDig x = true) → Ev (fun k => clock_Utc.f k (lst (B (t ++ [90])))) (0, 6)) := by
  have hx : ∀ r, Ev (fun k => if ((B t).size : Int) = 12 then ((clock_digits.f (B t)).bind fun t139 => (clock_Utc.j0 k (B t) (!t139))) else (clock_Utc.j0 k (B t) true)) r → Ev (fun k => clock_Utc.f k (lst (B (t ++ [90])))) r := by
    intro r hr
    unfold clock_Utc.f
    refine Ev.bind (a := (B t, true)) (Ev.value' fun _ => by rw [str_lst, suf_eq t 90 (by omega), if_pos rfl]) ?_
    simp only [if_true]
    exact hr
  have hs := B_size t
  constructor
  · rintro ⟨h12, hd⟩
    refine hx _ ?_
    simp only [show (((B t).size : Int) = 12) = True by rw [hs]; simp; omega, if_true, digs_eq]
    refine Ev.bind (a := t.all isDig) (Ev.value' fun _ => rfl) ?_
    rw [(all_iff t).2 hd]
    exact utc_good t h12 hd
  · intro hF
    refine hx _ ?_
    by_cases h12 : t.length = 12
    · simp only [show (((B t).size : Int) = 12) = True by rw [hs]; simp; omega, if_true, digs_eq]
      refine Ev.bind (a := t.all isDig) (Ev.value' fun _ => rfl) ?_
      have : t.all isDig = false := by
        rw [Bool.eq_false_iff]
        exact fun c => hF ⟨h12, (all_iff t).1 c⟩
      rw [this]
      exact utc_bad _
    · simp only [show (((B t).size : Int) = 12) = False by rw [hs]; simp; omega, if_false]
      exact utc_bad _
theorem t_back (t : List UInt8) (h12 : t.length = 12) (ht : ∀ x ∈ t, isDig x = true) : dl 2 (tw t 0).toNat ++ tl (tw (t.drop 2) 0) (tw (t.drop 2) 2) (tw (t.drop 2) 4) (tw (t.drop 2) 6) (tw (t.drop 2) 8) = t := by
  obtain ⟨x2, x3, x4, x5, x6, x7, x8, x9, x10, x11, x12, x13, rfl⟩ := list12 h12
  simp only [List.mem_cons, List.not_mem_nil, or_false, forall_eq_or_imp, forall_eq] at ht
  obtain ⟨d2, d3, d4, d5, d6, d7, d8, d9, d10, d11, d12, d13⟩ := ht
  have p2 := pair_back d2 d3
  have p4 := pair_back d4 d5
  have p6 := pair_back d6 d7
  have p8 := pair_back d8 d9
  have p10 := pair_back d10 d11
  have p12 := pair_back d12 d13
  show dl 2 ((val [x2, x3] 0 : Nat) : Int).toNat ++ (dl 2 ((val [x4, x5] 0 : Nat) : Int).toNat ++ dl 2 ((val [x6, x7] 0 : Nat) : Int).toNat ++ dl 2 ((val [x8, x9] 0 : Nat) : Int).toNat ++ dl 2 ((val [x10, x11] 0 : Nat) : Int).toNat ++ dl 2 ((val [x12, x13] 0 : Nat) : Int).toNat) = _
  rw [p2, p4, p6, p8, p10, p12]
  rfl
theorem read_putU (l : List UInt8) (hl : l.length ≤ 4000) : ∃ r, Ev (fun k => clock_Utc.f k (lst (B l))) r ∧ (r.2 = 0 → putU r.1 = (l, 0)) := by
  rcases List.eq_nil_or_concat l with rfl | ⟨t, z, rfl⟩
  · refine ⟨(0, 6), ?_, fun h => absurd h (by decide)⟩
    unfold clock_Utc.f
    refine Ev.bind (a := (B [], false)) (Ev.value' fun _ => by rw [str_lst, suf_nil]) ?_
    exact utc_bad _
  rw [List.concat_eq_append] at hl ⊢
  have ht : t.length ≤ 4000 := by simp at hl; omega
  by_cases hz : z = 90
  · subst hz
    obtain ⟨g1, g2⟩ := utc_core t (by omega)
    by_cases hF : t.length = 12 ∧ ∀ x ∈ t, isDig x = true
    · refine ⟨_, g1 hF, fun h0 => ?_⟩
      obtain ⟨h12, hd⟩ := hF
      have hab := t_back t h12 hd
      have r0 := tw_range t 0 (by omega) hd
      unfold resU at h0 ⊢
      by_cases hM : May (yy t) (tw (t.drop 2) 0) (tw (t.drop 2) 2) (tw (t.drop 2) 4) (tw (t.drop 2) 6) (tw (t.drop 2) 8)
      · rw [secR_yes hM]
        have hr := secs_range hM
        have hy : 1950 ≤ yy t ∧ yy t ≤ 2049 ∧ (yy t).toNat % 100 = (tw t 0).toNat := by unfold yy; split <;> omega
        unfold putU
        rw [partsV_secs hM]
        simp only
        rw [if_neg (by omega), hy.2.2, hab]
      · rw [secR_no hM] at h0
        exact absurd h0 (by decide)
    · exact ⟨_, g2 hF, fun h => absurd h (by decide)⟩
  · refine ⟨(0, 6), ?_, fun h => absurd h (by decide)⟩
    unfold clock_Utc.f
    refine Ev.bind (a := (B (t ++ [z]), false)) (Ev.value' fun _ => by rw [str_lst, suf_eq t z (by omega), if_neg hz]) ?_
    exact utc_bad _
theorem put_readU (sec : Int) (h : (putU sec).2 = 0) : Ev (fun k => clock_Utc.f k (lst (B (putU sec).1))) (sec, 0) := by
  unfold putU at h ⊢
  by_cases c2 : sec < -62167219200 ∨ sec ≥ 253402300800 ∨ (partsV sec).1 < 1950 ∨ (partsV sec).1 > 2049
  · rw [if_pos c2] at h
    exact absurd h (by decide)
  rw [if_neg c2]
  clear h
  obtain ⟨Y, M, D, hh, i, s, e, H, es⟩ := partsV_ok (a := sec) (by omega) (by omega)
  rw [e] at c2 ⊢
  simp only at c2 ⊢
  have hmo := mo_pos Y M
  obtain ⟨y0, y1, m0, m1, d0, d1, h0, h1, i0, i1, s0, s1⟩ := id H
  obtain ⟨t, htt⟩ : ∃ t, dl 2 (Y.toNat % 100) ++ tl M D hh i s = t := ⟨_, rfl⟩
  have h12 : t.length = 12 := by rw [← htt, List.length_append, dl_length, tl_length]
  have ht : ∀ x ∈ t, isDig x = true := by
    rw [← htt]
    intro x hx
    rcases List.mem_append.1 hx with hx | hx
    · exact dl_digits _ _ x hx
    · exact tl_digits _ _ _ _ _ x hx
  have hT : tw t 0 = ((Y.toNat % 100 : Nat) : Int) := by
    have e1 := tw_dl [] (tl M D hh i s) (Y.toNat % 100)
    rw [List.nil_append] at e1
    rw [← htt, show tw (dl 2 (Y.toNat % 100) ++ tl M D hh i s) 0 = _ from e1]
    omega
  have hY : yy t = Y := by unfold yy; rw [hT]; split <;> omega
  have hd2 : t.drop 2 = tl M D hh i s := by rw [← htt, List.drop_left' (dl_length _ _)]
  have hM : tw (t.drop 2) 0 = M := by
    have e1 := tw_dl [] (dl 2 D.toNat ++ dl 2 hh.toNat ++ dl 2 i.toNat ++ dl 2 s.toNat) M.toNat
    rw [hd2]
    unfold tl
    simp only [List.append_assoc, List.nil_append] at e1 ⊢
    rw [show tw (dl 2 M.toNat ++ (dl 2 D.toNat ++ (dl 2 hh.toNat ++ (dl 2 i.toNat ++ dl 2 s.toNat)))) 0 = _ from e1]
    omega
  have hD : tw (t.drop 2) 2 = D := by
    have e1 := tw_dl (dl 2 M.toNat) (dl 2 hh.toNat ++ dl 2 i.toNat ++ dl 2 s.toNat) D.toNat
    rw [hd2]
    unfold tl
    simp only [List.append_assoc, dl_length] at e1 ⊢
    rw [e1]
    omega
  have hH : tw (t.drop 2) 4 = hh := by
    have e1 := tw_dl (dl 2 M.toNat ++ dl 2 D.toNat) (dl 2 i.toNat ++ dl 2 s.toNat) hh.toNat
    rw [hd2]
    unfold tl
    simp only [List.append_assoc, dl_length, List.length_append] at e1 ⊢
    rw [e1]
    omega
  have hI : tw (t.drop 2) 6 = i := by
    have e1 := tw_dl (dl 2 M.toNat ++ dl 2 D.toNat ++ dl 2 hh.toNat) (dl 2 s.toNat) i.toNat
    rw [hd2]
    unfold tl
    simp only [List.append_assoc, dl_length, List.length_append] at e1 ⊢
    rw [e1]
    omega
  have hS : tw (t.drop 2) 8 = s := by
    have e1 := tw_dl (dl 2 M.toNat ++ dl 2 D.toNat ++ dl 2 hh.toNat ++ dl 2 i.toNat) [] s.toNat
    rw [hd2]
    unfold tl
    simp only [List.append_assoc, dl_length, List.length_append, List.append_nil] at e1 ⊢
    rw [e1]
    omega
  rw [htt]
  have := (utc_core t (by omega)).1 ⟨h12, ht⟩
  unfold resU at this
  rw [hY, hM, hD, hH, hI, hS, secR_yes H, es] at this
  exact this
end Go.Proofs.YtnkpegldckdahaaDoor.Ck
