/- Plain Lean over the printed functions: the document's Text answers as text.Text. -/
import Derived.Test.YtaeocpnabgnidaaDoorTxPKey
import Derived.Lib.TrimUEq
import Derived.Lib.ValidLaws
set_option linter.unusedVariables false
namespace Go.Proofs.YtaeocpnabgnidaaDoor.Tx
open Go.RowKit Go.Lib Go.Proofs.YtaeocpnabgnidaaDoorW.PrintWords Go.Proofs.YtaeocpnabgnidaaDoor.M

/-- How many bytes of a character begin with b0, n of them standing there; 0: none does. -/
def wholeZ (n : Nat) (b0 b1 b2 b3 : Int) : Int :=
  if b0 < 128 then 1
  else if 192 ≤ b0 ∧ b0 < 224 then (if n < 2 ∨ b1 < 128 ∨ 192 ≤ b1 ∨ (b0 - 192) * 64 + b1 - 128 < 128 then 0 else 2)
  else if 224 ≤ b0 ∧ b0 < 240 then (if n < 3 ∨ b1 < 128 ∨ 192 ≤ b1 ∨ b2 < 128 ∨ 192 ≤ b2 ∨ ((b0 - 224) * 64 + b1 - 128) * 64 + b2 - 128 < 2048 ∨ (55296 ≤ ((b0 - 224) * 64 + b1 - 128) * 64 + b2 - 128 ∧ ((b0 - 224) * 64 + b1 - 128) * 64 + b2 - 128 ≤ 57343) then 0 else 3)
  else if 240 ≤ b0 ∧ b0 < 248 then (if n < 4 ∨ b1 < 128 ∨ 192 ≤ b1 ∨ b2 < 128 ∨ 192 ≤ b2 ∨ b3 < 128 ∨ 192 ≤ b3 ∨ (((b0 - 240) * 64 + b1 - 128) * 64 + b2 - 128) * 64 + b3 - 128 < 65536 ∨ 1114111 < (((b0 - 240) * 64 + b1 - 128) * 64 + b2 - 128) * 64 + b3 - 128 then 0 else 4)
  else 0
set_option maxHeartbeats 4000000 in
theorem wholeZ_decode (n b0 b1 b2 b3 : Nat) (hn : 1 ≤ n) (h0 : b0 < 256) (h1 : b1 < 256) (h2 : b2 < 256) (h3 : b3 < 256) :
    wholeZ n b0 b1 b2 b3 = if (decodeN n b0 b1 b2 b3).1 = 65533 ∧ (decodeN n b0 b1 b2 b3).2 = 1 then 0 else ((decodeN n b0 b1 b2 b3).2 : Int) := by
  by_cases c0 : b0 < 128
  · unfold wholeZ decodeN
    rw [if_pos (by omega), if_pos c0, if_neg (by simp; omega)]
    rfl
  by_cases c1 : b0 < 192
  · have e : decodeN n b0 b1 b2 b3 = (65533, 1) := by
      unfold decodeN
      rw [if_neg c0, if_neg (by omega), if_neg (by omega), if_neg (by omega)]
    rw [e]
    unfold wholeZ
    rw [if_neg (by omega), if_neg (by omega), if_neg (by omega), if_neg (by omega), if_pos ⟨rfl, rfl⟩]
  by_cases c2 : b0 < 224
  · by_cases g : b0 / 32 = 6 ∧ (1 < n ∧ b1 / 64 = 2)
    · by_cases v : b0 % 32 * 64 + b1 % 64 ≥ 128
      · have e : decodeN n b0 b1 b2 b3 = (b0 % 32 * 64 + b1 % 64, 2) := by
          unfold decodeN
          rw [if_neg c0, if_pos g, if_pos v]
        rw [e, if_neg (by simp)]
        unfold wholeZ
        rw [if_neg (by omega), if_pos (by omega), if_neg (by omega)]
        rfl
      · have e : decodeN n b0 b1 b2 b3 = (65533, 1) := by
          unfold decodeN
          rw [if_neg c0, if_pos g, if_neg v]
        rw [e, if_pos ⟨rfl, rfl⟩]
        unfold wholeZ
        rw [if_neg (by omega), if_pos (by omega), if_pos (by omega)]
    · have e : decodeN n b0 b1 b2 b3 = (65533, 1) := by
        unfold decodeN
        rw [if_neg c0, if_neg g, if_neg (by omega), if_neg (by omega)]
      rw [e, if_pos ⟨rfl, rfl⟩]
      unfold wholeZ
      rw [if_neg (by omega), if_pos (by omega), if_pos (by omega)]
  by_cases c3 : b0 < 240
  · by_cases g : b0 / 16 = 14 ∧ (1 < n ∧ b1 / 64 = 2) ∧ (2 < n ∧ b2 / 64 = 2)
    · by_cases v : b0 % 16 * 4096 + b1 % 64 * 64 + b2 % 64 ≥ 2048 ∧ (b0 % 16 * 4096 + b1 % 64 * 64 + b2 % 64 < 55296 ∨ (57344 ≤ b0 % 16 * 4096 + b1 % 64 * 64 + b2 % 64 ∧ b0 % 16 * 4096 + b1 % 64 * 64 + b2 % 64 ≤ 1114111))
      · have e : decodeN n b0 b1 b2 b3 = (b0 % 16 * 4096 + b1 % 64 * 64 + b2 % 64, 3) := by
          unfold decodeN
          rw [if_neg c0, if_neg (by omega), if_pos g, if_pos v]
        rw [e, if_neg (by simp)]
        unfold wholeZ
        rw [if_neg (by omega), if_neg (by omega), if_pos (by omega), if_neg (by omega)]
        rfl
      · have e : decodeN n b0 b1 b2 b3 = (65533, 1) := by
          unfold decodeN
          rw [if_neg c0, if_neg (by omega), if_pos g, if_neg v]
        rw [e, if_pos ⟨rfl, rfl⟩]
        unfold wholeZ
        rw [if_neg (by omega), if_neg (by omega), if_pos (by omega), if_pos (by omega)]
    · have e : decodeN n b0 b1 b2 b3 = (65533, 1) := by
        unfold decodeN
        rw [if_neg c0, if_neg (by omega), if_neg g, if_neg (by omega)]
      rw [e, if_pos ⟨rfl, rfl⟩]
      unfold wholeZ
      rw [if_neg (by omega), if_neg (by omega), if_pos (by omega), if_pos (by omega)]
  by_cases c4 : b0 < 248
  · by_cases g : b0 / 8 = 30 ∧ (1 < n ∧ b1 / 64 = 2) ∧ (2 < n ∧ b2 / 64 = 2) ∧ (3 < n ∧ b3 / 64 = 2)
    · by_cases v : b0 % 8 * 262144 + b1 % 64 * 4096 + b2 % 64 * 64 + b3 % 64 ≥ 65536 ∧ (b0 % 8 * 262144 + b1 % 64 * 4096 + b2 % 64 * 64 + b3 % 64 < 55296 ∨ (57344 ≤ b0 % 8 * 262144 + b1 % 64 * 4096 + b2 % 64 * 64 + b3 % 64 ∧ b0 % 8 * 262144 + b1 % 64 * 4096 + b2 % 64 * 64 + b3 % 64 ≤ 1114111))
      · have e : decodeN n b0 b1 b2 b3 = (b0 % 8 * 262144 + b1 % 64 * 4096 + b2 % 64 * 64 + b3 % 64, 4) := by
          unfold decodeN
          rw [if_neg c0, if_neg (by omega), if_neg (by omega), if_pos g, if_pos v]
        rw [e, if_neg (by simp)]
        unfold wholeZ
        rw [if_neg (by omega), if_neg (by omega), if_neg (by omega), if_pos (by omega), if_neg (by omega)]
        rfl
      · have e : decodeN n b0 b1 b2 b3 = (65533, 1) := by
          unfold decodeN
          rw [if_neg c0, if_neg (by omega), if_neg (by omega), if_pos g, if_neg v]
        rw [e, if_pos ⟨rfl, rfl⟩]
        unfold wholeZ
        rw [if_neg (by omega), if_neg (by omega), if_neg (by omega), if_pos (by omega), if_pos (by omega)]
    · have e : decodeN n b0 b1 b2 b3 = (65533, 1) := by
        unfold decodeN
        rw [if_neg c0, if_neg (by omega), if_neg (by omega), if_neg g]
      rw [e, if_pos ⟨rfl, rfl⟩]
      unfold wholeZ
      rw [if_neg (by omega), if_neg (by omega), if_neg (by omega), if_pos (by omega), if_pos (by omega)]
  · have e : decodeN n b0 b1 b2 b3 = (65533, 1) := by
      unfold decodeN
      rw [if_neg c0, if_neg (by omega), if_neg (by omega), if_neg (by omega)]
    rw [e]
    unfold wholeZ
    rw [if_neg (by omega), if_neg (by omega), if_neg (by omega), if_neg (by omega), if_pos ⟨rfl, rfl⟩]

/-- One byte more of a character. -/
theorem whole_step (k : Nat) (l : List Int) (i n v least x b : Int) (hx : x < i + n) (h0 : 0 ≤ x) (hl : x < l.length) (hn : -9223372036854775808 ≤ i + n ∧ i + n ≤ 9223372036854775807) (hb : rd l x = b) (hb0 : 0 ≤ b ∧ b < 256) (hv : 0 ≤ v ∧ v < 100000000) (hlen : (l.length : Int) ≤ 35184372088832) :
    chirographref06_whole.l0 (k + 1) l i n v least x = if b < 128 ∨ 192 ≤ b then some 0 else chirographref06_whole.l0 k l i n (v * 64 + b - 128) least (x + 1) := by
  simp only [chirographref06_whole.l0]
  rw [wrap_id hn.1 hn.2, if_pos hx, if_pos h0, if_pos hl, hb]
  by_cases c : b < 128
  · rw [if_pos c, if_pos (Or.inl c)]
  rw [if_neg c]
  by_cases d : b ≥ 192
  · rw [if_pos d, if_pos (Or.inr d)]
  rw [if_neg d, if_neg (by omega), wrap_id (x := b) (by omega) (by omega), wrap_id (x := v * 64) (by omega) (by omega), wrap_id (x := v * 64 + b) (by omega) (by omega), wrap_id (x := v * 64 + b - 128) (by omega) (by omega), wrap_id (x := x + 1) (by omega) (by omega)]
theorem whole_end (k : Nat) (l : List Int) (i n v least : Int) (hn : -9223372036854775808 ≤ i + n ∧ i + n ≤ 9223372036854775807) :
    chirographref06_whole.l0 (k + 1) l i n v least (i + n) = some (if v < least ∨ 1114111 < v ∨ (55296 ≤ v ∧ v ≤ 57343) then 0 else n) := by
  simp only [chirographref06_whole.l0]
  rw [wrap_id hn.1 hn.2, if_neg (by omega)]
  by_cases c : v < least
  · rw [if_pos c, if_pos (Or.inl c)]
  rw [if_neg c]
  by_cases d : v > 1114111
  · rw [if_pos d, if_pos (Or.inr (Or.inl d))]
  rw [if_neg d]
  by_cases e : v ≥ 55296
  · rw [if_pos e]
    by_cases f : v ≤ 57343
    · rw [if_pos f, if_pos (by omega)]
    · rw [if_neg f, if_neg (by omega)]
  · rw [if_neg e, if_neg (by omega)]

theorem rd_byte {l : List Int} (hb : Bytes l) (x : Int) : 0 ≤ rd l x ∧ rd l x < 256 := by
  unfold rd
  rw [List.getD_eq_getElem?_getD]
  cases h : l[x.toNat]? with
  | none => simp
  | some y => exact hb y (List.mem_of_getElem? h)
set_option maxHeartbeats 4000000 in
theorem whole_f (l : List Int) (hb : Bytes l) (hl : l.length ≤ 1000000) (i : Nat) (hi : i < l.length) (m : Nat) :
    chirographref06_whole.f (m + 9) l (i : Int) = some (wholeZ (l.length - i) (rd l (i : Int)) (rd l ((i : Int) + 1)) (rd l ((i : Int) + 2)) (rd l ((i : Int) + 3))) := by
  have r0 := rd_byte hb (i : Int)
  have r1 := rd_byte hb ((i : Int) + 1)
  have r2 := rd_byte hb ((i : Int) + 2)
  have r3 := rd_byte hb ((i : Int) + 3)
  obtain ⟨b0, e0⟩ : ∃ b, rd l (i : Int) = b := ⟨_, rfl⟩
  obtain ⟨b1, e1⟩ : ∃ b, rd l ((i : Int) + 1) = b := ⟨_, rfl⟩
  obtain ⟨b2, e2⟩ : ∃ b, rd l ((i : Int) + 2) = b := ⟨_, rfl⟩
  obtain ⟨b3, e3⟩ : ∃ b, rd l ((i : Int) + 3) = b := ⟨_, rfl⟩
  rw [e0] at r0
  rw [e1] at r1
  rw [e2] at r2
  rw [e3] at r3
  rw [e0, e1, e2, e3]
  have j2 : ∀ (k : Nat) (n v least : Int), 0 ≤ n ∧ n ≤ 10 → chirographref06_whole.j2 (k + 1) l (i : Int) n v least = if (i : Int) + n > l.length then some 0 else chirographref06_whole.l0 k l (i : Int) n v least ((i : Int) + 1) := by
    intro k n v least hn
    simp only [chirographref06_whole.j2]
    rw [wrap_id (x := (i : Int) + n) (by omega) (by omega), wrap_id (x := (i : Int) + 1) (by omega) (by omega)]
  unfold chirographref06_whole.f
  rw [e0, wrap_id (x := b0) (by omega) (by omega), if_pos (by omega), if_pos (by omega)]
  by_cases c0 : b0 < 128
  · unfold wholeZ
    rw [if_pos c0, if_pos c0]
  rw [if_neg c0]
  by_cases c1 : b0 < 192
  · unfold wholeZ
    rw [if_neg (by omega), if_neg c0, if_neg (by omega), if_neg (by omega), if_neg (by omega)]
    simp only [chirographref06_whole.j0]
    rw [if_neg (by decide), if_neg (by omega)]
    simp only [chirographref06_whole.j1]
    rw [if_neg (by decide), if_neg (by omega)]
  rw [if_pos (by omega)]
  by_cases c2 : b0 < 224
  · unfold wholeZ
    rw [decide_eq_true c2, if_neg c0, if_pos ⟨by omega, c2⟩]
    simp only [chirographref06_whole.j0, if_true]
    rw [wrap_id (x := b0 - 192) (by omega) (by omega), j2 _ _ _ _ (by omega)]
    by_cases g : (i : Int) + 2 > l.length
    · rw [if_pos g, if_pos (by omega)]
    rw [if_neg g, whole_step _ l i 2 (b0 - 192) 128 _ b1 (by omega) (by omega) (by omega) (by omega) e1 r1 (by omega) (by omega)]
    by_cases g1 : b1 < 128 ∨ 192 ≤ b1
    · rw [if_pos g1, if_pos (by omega)]
    rw [if_neg g1, show (i : Int) + 1 + 1 = (i : Int) + 2 by omega, whole_end _ _ _ _ _ _ (by omega)]
    by_cases v : (b0 - 192) * 64 + b1 - 128 < 128
    · rw [if_pos (by omega), if_pos (by omega)]
    · rw [if_neg (by omega), if_neg (by omega)]
  rw [decide_eq_false c2]
  by_cases c3 : b0 < 240
  · unfold wholeZ
    rw [if_neg c0, if_neg (by omega), if_pos ⟨by omega, c3⟩]
    simp only [chirographref06_whole.j0]
    rw [if_neg (by decide), if_pos (by omega), decide_eq_true c3]
    simp only [chirographref06_whole.j1, if_true]
    rw [wrap_id (x := b0 - 224) (by omega) (by omega), j2 _ _ _ _ (by omega)]
    by_cases g : (i : Int) + 3 > l.length
    · rw [if_pos g, if_pos (by omega)]
    rw [if_neg g, whole_step _ l i 3 (b0 - 224) 2048 _ b1 (by omega) (by omega) (by omega) (by omega) e1 r1 (by omega) (by omega)]
    by_cases g1 : b1 < 128 ∨ 192 ≤ b1
    · rw [if_pos g1, if_pos (by omega)]
    rw [if_neg g1, show (i : Int) + 1 + 1 = (i : Int) + 2 by omega, whole_step _ l i 3 ((b0 - 224) * 64 + b1 - 128) 2048 _ b2 (by omega) (by omega) (by omega) (by omega) e2 r2 (by omega) (by omega)]
    by_cases g2 : b2 < 128 ∨ 192 ≤ b2
    · rw [if_pos g2, if_pos (by omega)]
    rw [if_neg g2, show (i : Int) + 2 + 1 = (i : Int) + 3 by omega, whole_end _ _ _ _ _ _ (by omega)]
    by_cases v : ((b0 - 224) * 64 + b1 - 128) * 64 + b2 - 128 < 2048 ∨ (55296 ≤ ((b0 - 224) * 64 + b1 - 128) * 64 + b2 - 128 ∧ ((b0 - 224) * 64 + b1 - 128) * 64 + b2 - 128 ≤ 57343)
    · rw [if_pos (by omega), if_pos (by omega)]
    · rw [if_neg (by omega), if_neg (by omega)]
  by_cases c4 : b0 < 248
  · unfold wholeZ
    rw [if_neg c0, if_neg (by omega), if_neg (by omega), if_pos ⟨by omega, c4⟩]
    simp only [chirographref06_whole.j0]
    rw [if_neg (by decide), if_pos (by omega), decide_eq_false c3]
    simp only [chirographref06_whole.j1]
    rw [if_neg (by decide), if_pos (by omega), if_pos c4, wrap_id (x := b0 - 240) (by omega) (by omega), j2 _ _ _ _ (by omega)]
    by_cases g : (i : Int) + 4 > l.length
    · rw [if_pos g, if_pos (by omega)]
    rw [if_neg g, whole_step _ l i 4 (b0 - 240) 65536 _ b1 (by omega) (by omega) (by omega) (by omega) e1 r1 (by omega) (by omega)]
    by_cases g1 : b1 < 128 ∨ 192 ≤ b1
    · rw [if_pos g1, if_pos (by omega)]
    rw [if_neg g1, show (i : Int) + 1 + 1 = (i : Int) + 2 by omega, whole_step _ l i 4 ((b0 - 240) * 64 + b1 - 128) 65536 _ b2 (by omega) (by omega) (by omega) (by omega) e2 r2 (by omega) (by omega)]
    by_cases g2 : b2 < 128 ∨ 192 ≤ b2
    · rw [if_pos g2, if_pos (by omega)]
    rw [if_neg g2, show (i : Int) + 2 + 1 = (i : Int) + 3 by omega, whole_step _ l i 4 (((b0 - 240) * 64 + b1 - 128) * 64 + b2 - 128) 65536 _ b3 (by omega) (by omega) (by omega) (by omega) e3 r3 (by omega) (by omega)]
    by_cases g3 : b3 < 128 ∨ 192 ≤ b3
    · rw [if_pos g3, if_pos (by omega)]
    rw [if_neg g3, show (i : Int) + 3 + 1 = (i : Int) + 4 by omega, whole_end _ _ _ _ _ _ (by omega)]
    by_cases v : (((b0 - 240) * 64 + b1 - 128) * 64 + b2 - 128) * 64 + b3 - 128 < 65536 ∨ 1114111 < (((b0 - 240) * 64 + b1 - 128) * 64 + b2 - 128) * 64 + b3 - 128
    · rw [if_pos (by omega), if_pos (by omega)]
    · rw [if_neg (by omega), if_neg (by omega)]
  · unfold wholeZ
    rw [if_neg c0, if_neg (by omega), if_neg (by omega), if_neg (by omega)]
    simp only [chirographref06_whole.j0]
    rw [if_neg (by decide), if_pos (by omega), decide_eq_false c3]
    simp only [chirographref06_whole.j1]
    rw [if_neg (by decide), if_pos (by omega), if_neg c4]
theorem whole_ev (l : List Int) (hb : Bytes l) (hl : l.length ≤ 1000000) (i : Nat) (hi : i < l.length) :
    Ev (fun k => chirographref06_whole.f k l (i : Int)) (wholeZ (l.length - i) (rd l (i : Int)) (rd l ((i : Int) + 1)) (rd l ((i : Int) + 2)) (rd l ((i : Int) + 3))) :=
  ⟨9, fun k hk => by
    obtain ⟨m, rfl⟩ : ∃ m, k = m + 9 := ⟨k - 9, by omega⟩
    exact whole_f l hb hl i hi m⟩

/-- The list of bytes. -/
def b8 (l : List Int) : List UInt8 := (strOfNums l).data.toList
theorem b8_length (l : List Int) : (b8 l).length = l.length := by simp [b8, strOfNums]
theorem b8_get (l : List Int) (hb : Bytes l) (i : Nat) : (((b8 l).getD i 0).toNat : Int) = rd l (i : Int) := by
  unfold b8 strOfNums rd
  simp only [List.getD_eq_getElem?_getD, List.getElem?_map, Int.toNat_natCast]
  cases h : l[i]? with
  | none => simp
  | some x =>
    have := hb x (List.mem_of_getElem? h)
    simp only [Option.map_some, Option.getD_some, UInt8.toNat_ofNat']
    omega
theorem whole_decode (l : List Int) (hb : Bytes l) (i : Nat) (hi : i < l.length) :
    wholeZ (l.length - i) (rd l (i : Int)) (rd l ((i : Int) + 1)) (rd l ((i : Int) + 2)) (rd l ((i : Int) + 3)) = if (decodeL ((b8 l).drop i)).1 = 65533 ∧ (decodeL ((b8 l).drop i)).2 = 1 then 0 else ((decodeL ((b8 l).drop i)).2 : Int) := by
  have g : ∀ j : Nat, ((((b8 l).drop i).getD j 0).toNat : Int) = rd l ((i : Int) + j) := fun j => by
    have := b8_get l hb (i + j)
    rw [List.getD_eq_getElem?_getD, List.getElem?_drop, ← List.getD_eq_getElem?_getD, this]
    congr 1
  have w : ∀ j : Nat, (((b8 l).drop i).getD j 0).toNat < 256 := fun j => UInt8.toNat_lt _
  rw [decodeL_N]
  have hlen : ((b8 l).drop i).length = l.length - i := by rw [List.length_drop, b8_length]
  have := wholeZ_decode ((b8 l).drop i).length _ _ _ _ (by omega) (w 0) (w 1) (w 2) (w 3)
  rw [g 0, g 1, g 2, g 3, hlen] at this
  rw [hlen]
  have z : (i : Int) + ((0 : Nat) : Int) = (i : Int) := by omega
  rw [z] at this
  exact this
theorem utf8_loop (l : List Int) (hb : Bytes l) (hl : l.length ≤ 1000000) : ∀ (n i : Nat), i ≤ l.length → l.length - i ≤ n → Ev (fun k => chirographref06_utf8.l0 k l (i : Int)) (validGoD n ((b8 l).drop i)) := by
  intro n
  induction n with
  | zero =>
    intro i hi hn
    refine Ev.step (f := fun _ => some true) (fun k => ?_) (Ev.now _)
    simp only [chirographref06_utf8.l0]
    rw [if_neg (by omega)]
  | succ n ih =>
    intro i hi hn
    by_cases hlt : i < l.length
    · have hne : ¬ (b8 l).drop i = [] := by
        intro hc
        have := congrArg List.length hc
        rw [List.length_drop, b8_length] at this
        simp at this
        omega
      have hw := decodeL_width ((b8 l).drop i)
      have hle := decodeL_le ((b8 l).drop i) hne
      rw [List.length_drop, b8_length] at hle
      unfold validGoD
      rw [if_neg hne]
      refine Ev.step (fun k => by simp only [chirographref06_utf8.l0]; rw [if_pos (by omega)]) ?_
      refine Ev.bind (whole_ev l hb hl i hlt) ?_
      rw [whole_decode l hb i hlt]
      by_cases hbad : (decodeL ((b8 l).drop i)).1 = 65533 ∧ (decodeL ((b8 l).drop i)).2 = 1
      · simp only [if_pos hbad]
        exact Ev.now _
      · simp only [if_neg hbad]
        refine Ev.congr (fun k => ?_) (by
          have := ih (i + (decodeL ((b8 l).drop i)).2) (by omega) (by omega)
          rw [← List.drop_drop] at this
          exact this)
        rw [if_neg (by omega), wrap_id (by omega) (by omega)]
        congr 1
    · unfold validGoD
      rw [List.drop_of_length_le (by rw [b8_length]; omega), if_pos rfl]
      refine Ev.step (f := fun _ => some true) (fun k => ?_) (Ev.now _)
      simp only [chirographref06_utf8.l0]
      rw [if_neg (by omega)]
theorem utf8_ev (l : List Int) (hb : Bytes l) (hl : l.length ≤ 1000000) : Ev (fun k => chirographref06_utf8.f k l) (validD (strOfNums l).data.toList) := by
  have := utf8_loop l hb hl l.length 0 (by omega) (by omega)
  rw [List.drop_zero] at this
  have e : validD (strOfNums l).data.toList = validGoD l.length (b8 l) := by unfold validD; rw [← b8_length l]; rfl
  rw [e]
  exact this
end Go.Proofs.YtaeocpnabgnidaaDoor.Tx
