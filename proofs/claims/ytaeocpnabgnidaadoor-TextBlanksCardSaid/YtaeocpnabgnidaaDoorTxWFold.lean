/- text.Fold: what it answers, for every text: the bytes folded one by one. -/
import Derived.Test.YtaeocpnabgnidaaDoorShelf
import Derived.Test.YtaeocpnabgnidaaDoorTabs0
import Derived.Test.YtaeocpnabgnidaaDoorTxRune
import Derived.Test.YtaeocpnabgnidaaDoorWWords
import Derived.Laws.Strings2
import Derived.Lib.AppendStr
import Derived.Lib.ValidAsc
import Derived.Lib.OthersKept
import Derived.OwnWalk
import Derived.WalkKit
import Derived.BigCall
import Derived.Outline
import Derived.Deep.DeepMust
set_option linter.unusedVariables false
namespace Go.Proofs.YtaeocpnabgnidaaDoor.Tx
open Go.RowKit Go.Lib Go.Proofs.YtaeocpnabgnidaaDoorW.PrintWords

theorem info5 : (Tryd.prog.info? 5).map (fun i => (i.zero, i.size, i.bytes)) = some (some (.int .u8 0), 1, 1) := by kernel_rfl

/-- What is carried from round to round. -/
structure FoldAt (s : ByteArray) (w : World) (K pos : Nat) (acc : List Int) (bl : Bool) (v : Value) (wr : World) : Prop where
  own : wr.ownsRow w.heap.size 5 1 v acc.length (nums .u8 acc)
  iter : wr.heap[K]? = some (.stringIter s pos)
  above : w.heap.size ≤ K
  below : Below w.heap.size w wr
  run : Hid (runF ([], false) ((bts s).take pos) = (acc, bl))
  len : acc.length ≤ 2 * pos
  le : pos ≤ s.size

theorem own_iter_ne {W : World} {base e n K pos : Nat} {v : Value} {xs : List Value} {s : ByteArray} (h : W.ownsRow base e 1 v n xs) (hk : W.heap[K]? = some (.stringIter s pos)) : some K ≠ v.ownBlock := by
  rcases h.2 with ⟨rfl, _⟩ | ⟨g, cap, cur, rfl, _, hb, _⟩
  · simp [Value.ownBlock]
  · intro hc
    simp [Value.ownBlock] at hc
    subst hc
    rw [hb] at hk
    cases hk
theorem iter_grown {W W' : World} {row : Option Nat} {K pos : Nat} {s : ByteArray} (hg : W.grownBy W' row) (hk : W.heap[K]? = some (.stringIter s pos)) (hne : some K ≠ row) : W'.heap[K]? = some (.stringIter s pos) := by
  rw [hg.block K (Array.getElem?_eq_some_iff.1 hk).1 hne]
  exact hk
theorem iterPos_at {W : World} {K pos : Nat} {s : ByteArray} (hk : W.heap[K]? = some (.stringIter s pos)) : W.iterPos K = pos := by simp [World.iterPos, hk]

theorem iter_below {W W' : World} {K pos : Nat} {s : ByteArray} (hb : Below W.heap.size W W') (hk : W.heap[K]? = some (.stringIter s pos)) : W'.heap[K]? = some (.stringIter s pos) := by
  rw [hb.block K (Array.getElem?_eq_some_iff.1 hk).1]
  exact hk
/-- One character on. -/
theorem FoldAt.next {s : ByteArray} {w wr W : World} {K pos n : Nat} {acc acc' : List Int} {bl bl' : Bool} {v v' : Value} (h : FoldAt s w K pos acc bl v wr) (hn : pos + n ≤ s.size)
    (hrun : runF (acc, bl) (((s.data.toList.drop pos).take n).map fun b => (b.toNat : Int)) = (acc', bl')) (hl : acc'.length ≤ acc.length + 2 * n)
    (own : W.ownsRow w.heap.size 5 1 v' acc'.length (nums .u8 acc')) (iter : W.heap[K]? = some (.stringIter s (pos + n))) (below : Below w.heap.size w W) : FoldAt s w K (pos + n) acc' bl' v' W :=
  ⟨own, iter, h.above, below, by
    have e := h.run.out
    show _ = _
    rw [take_next, runF_append, e, hrun], by have := h.len; omega, hn⟩
theorem own_iterAt {W : World} {base e n K pos p : Nat} {v : Value} {xs : List Value} {s : ByteArray} (h : W.ownsRow base e 1 v n xs) (hk : W.heap[K]? = some (.stringIter s pos)) : (W.iterAt K s p).ownsRow base e 1 v n xs := by
  refine ⟨h.1, ?_⟩
  rcases h.2 with h0 | ⟨g, cap, cur, rfl, hg, hb, h3⟩
  · exact .inl h0
  · refine .inr ⟨g, cap, cur, rfl, hg, ?_, h3⟩
    rw [iterAt_other W K g s p (by
      rintro rfl
      rw [hk] at hb
      cases hb)]
    exact hb
/-- The iterator alone has moved. -/
theorem FoldAt.moved {s : ByteArray} {w wr : World} {K pos : Nat} {acc : List Int} {bl : Bool} {v : Value} (h : FoldAt s w K pos acc bl v wr) (p : Nat) :
    (wr.iterAt K s p).ownsRow w.heap.size 5 1 v acc.length (nums .u8 acc) ∧ (wr.iterAt K s p).heap[K]? = some (.stringIter s p) ∧ Below w.heap.size w (wr.iterAt K s p) ∧ w.heap.size ≤ (wr.iterAt K s p).heap.size :=
  ⟨own_iterAt h.own h.iter, iterAt_heap wr K s pos p h.iter, below_iterAt h.below h.above s p, by rw [iterAt_size]; exact h.below.size⟩

/-- A byte below 128 that is no blank: what is owed, and the byte. -/
theorem run_one (acc : List Int) (bl : Bool) (b : Int) (hb : b ≠ 32) : runF (acc, bl) [b] = ((if bl = true ∧ acc ≠ [] then acc ++ [32] else acc) ++ [low b], false) := by
  rw [runF_cons, runF_nil]
  unfold stepF
  rw [if_neg hb]
theorem drop_one (s : ByteArray) (pos : Nat) (h : pos < s.size) : ((s.data.toList.drop pos).take 1).map (fun b => (b.toNat : Int)) = [((s[pos]'h).toNat : Int)] := by
  have hl : pos < s.data.toList.length := by rw [list_length]; exact h
  rw [List.drop_eq_getElem_cons hl]
  simp
  rfl
theorem nums_snoc (k : IntKind) (l : List Int) (x : Int) : nums k l ++ [.int k x] = nums k (l ++ [x]) := by simp [nums]
theorem cells_one {r : Int} (h0 : 0 ≤ r) (h1 : r ≤ 127) : runeCells r = nums .u8 [r] := by simp [runeCells, encodeRuneZ_one h0 h1, nums]

theorem _root_.Go.World.grownBy.refl_ {row : Option Nat} (W : World) : W.grownBy W row := ⟨rfl, rfl, rfl, Nat.le_refl _, fun _ _ _ => rfl⟩
/-- Behind AppendRune of a character below 128. -/
theorem pushed {s : ByteArray} {w wr W0 W1 W2 : World} {K pos : Nat} {acc acc' : List Int} {bl : Bool} {v v1 v2 : Value} {C D : Int} {o : Obj} {row : Option Nat} (h : FoldAt s w K pos acc bl v wr) (hp : pos < s.size)
    (hd : ((s.data.toList.drop pos).take 1).map (fun b => (b.toNat : Int)) = [C]) (hr : runF (acc, bl) [C] = ((if bl = true ∧ acc ≠ [] then acc ++ [32] else acc) ++ [low C], false)) (he : (if bl = true ∧ acc ≠ [] then acc ++ [32] else acc) ++ [low C] = acc' ++ [D])
    (hl : acc'.length ≤ acc.length + 1) (h0 : 0 ≤ D) (h1 : D ≤ 127) (hit : W0.heap[K]? = some (.stringIter s (pos + 1))) (hb0 : Below w.heap.size w W0) (hg : W0.grownBy W1 row) (hne : some K ≠ row)
    (hown1 : W1.ownsRow w.heap.size 5 1 v1 acc'.length (nums .u8 acc')) (hb1 : Below w.heap.size w W1) (hown2 : W2.ownsRow w.heap.size 5 1 v2 (acc'.length + (runeCells D).length) (nums .u8 acc' ++ runeCells D)) (hg2 : (W1.alloc o).grownBy W2 v1.ownBlock) :
    FoldAt s w K (pos + 1) (acc' ++ [D]) false v2 W2 := by
  have hi1 := iter_grown hg hit hne
  have hi2 := iter_grown hg2 (iter_grown (World.grownBy_alloc W1 o none) hi1 (by simp)) (own_iter_ne hown1 hi1)
  have hb2 : Below w.heap.size w W2 := (hb1.alloc hb1.size o).grown hg2 (by simp; have := hb1.size; omega) (fun k hk => own_base hown1 k hk)
  rw [cells_one h0 h1] at hown2
  refine h.next (n := 1) (by omega) (by rw [hd, hr, he]) (by simp; omega) ?_ hi2 hb2
  rw [nums_append]
  simpa [nums] using hown2

def bytesAt (s : ByteArray) (pos n : Nat) : List Int := ((s.data.toList.drop pos).take n).map fun b => (b.toNat : Int)
theorem bytesAt_length (s : ByteArray) (pos n : Nat) (h : pos + n ≤ s.size) : (bytesAt s pos n).length = n := by
  simp only [bytesAt, List.length_map, List.length_take, List.length_drop, list_length]
  omega
/-- Behind a character's bytes, all from 128 on. -/
theorem pushedN {s : ByteArray} {w wr W : World} {K pos n : Nat} {acc acc' : List Int} {bl : Bool} {v v2 : Value} (h : FoldAt s w K pos acc bl v wr) (hn : pos + n ≤ s.size) (h1 : 1 ≤ n)
    (hall : ∀ x ∈ (s.data.toList.drop pos).take n, 128 ≤ x.toNat) (he : (if bl = true ∧ acc ≠ [] then acc ++ [32] else acc) = acc') (hl : acc'.length ≤ acc.length + 1)
    (own : W.ownsRow w.heap.size 5 1 v2 (acc'.length + n) (nums .u8 acc' ++ nums .u8 (bytesAt s pos n))) (iter : W.heap[K]? = some (.stringIter s (pos + n))) (below : Below w.heap.size w W) :
    FoldAt s w K (pos + n) (acc' ++ bytesAt s pos n) false v2 W := by
  have hbl := bytesAt_length s pos n hn
  refine h.next (n := n) hn ?_ (by rw [List.length_append, hbl]; omega) ?_ iter below
  · have := runF_plain (bytesAt s pos n) (acc, bl) (by intro hc; rw [hc] at hbl; simp at hbl; omega) (fun b hb => by
      obtain ⟨x, hx, rfl⟩ := List.mem_map.1 hb
      have := hall x hx
      omega)
    rw [← he]
    exact this
  · rw [nums_append, List.length_append, hbl]
    exact own
theorem cells_at (s : ByteArray) (pos n c : Nat) (h : encodeRune (c : Int) = (s.data.toList.drop pos).take n) : runeCells (c : Int) = nums .u8 (bytesAt s pos n) := by
  rw [← byteCells_encodeRune, h]
  simp [byteCells, nums, bytesAt, Function.comp_def]
theorem cells_ext (s : ByteArray) (pos n : Nat) (h : pos + n ≤ s.size) : strCells (s.extract pos (pos + n)) = nums .u8 (bytesAt s pos n) := by
  unfold strCells nums bytesAt
  rw [Lib.extract_data]
  simp [Function.comp_def]
theorem decodeGo_at (s : ByteArray) (pos : Nat) (h : pos < s.size) : decodeGo (s.extract pos s.size) = Utf8.decode s pos := by
  have e := ext_list s pos
  have e2 : s.extract pos s.size = ⟨(s.data.toList.drop pos).toArray⟩ := by
    rw [← e]
  unfold decodeGo
  rw [if_neg (by rw [ext_size]; omega), e2]
  exact decodeL_drop s pos

set_option maxHeartbeats 4000000 in
set_option maxRecDepth 100000 in
theorem fold_walk (s : ByteArray) (w : World) (hs : s.size ≤ 35184372088832) (hT : Tabs w) :
    Calls Tryd.prog 15 #[.string s] w fun e w' => e = .returned (.string (strOfNums (foldL (bts s)))) ∧ Below w.heap.size w w' := by
  obtain ⟨i0, hi, hz0, hz1, hz2⟩ := info_parts info5
  go_enter Tryd.func15, Tryd.ntmps15
  go_wp2_with (at_make; refine wpList_make_own _ rfl _ _ 22 rfl w.heap.size 5 i0 (.int .u8 0) 1 Tryd.underlying22 hi hz0 hz1 .i64 .i64 _ s.size rfl rfl rfl (by rw [hz2]; omega) (by unfold maxLen; omega) (Nat.le_refl _) ?_)
  intro w1 hown1 hgrow1
  have hb1 : Below w.heap.size w w1 := (Below.refl _ w).grown hgrow1 (Nat.le_refl _) (by simp)
  go_wp2
  have hK : w.heap.size ≤ w1.heap.size := hb1.size
  go_loopw [3, 4] (fun v b wr => ∃ (pos : Nat) (acc : List Int) (bl : Bool), b = .bool bl ∧ FoldAt s w w1.heap.size pos acc bl v wr) (fun _ _ wr => s.size - wr.iterPos w1.heap.size)
  case atStart =>
    exact ⟨0, [], false, rfl, ⟨hown1.alloc _, World.iter_heap w1 s 0, hK, hb1.alloc hK _, rfl, by simp, by omega⟩⟩
  case round =>
    obtain ⟨pos, acc, bl, rfl, hF⟩ := hrel
    have hit := hF.iter
    have hsz : w1.heap.size < wr.heap.size := (Array.getElem?_eq_some_iff.1 hit).1
    by_cases hp : pos < s.size
    · by_cases hb : (s[pos]'hp).toNat < 128
      · obtain ⟨C, hC⟩ : ∃ C : Int, ((s[pos]'hp).toNat : Int) = C := ⟨_, rfl⟩
        have hC0 : 0 ≤ C := by omega
        have hC1 : C < 128 := by omega
        have hd1 := drop_one s pos hp
        rw [hC] at hd1
        have hnx0 := fun ty => Lib.run_next_ascii_at (P := Tryd.prog) wr w1.heap.size s pos ty hit hp hb
        rw [hC] at hnx0
        have hnx := hnx0
        clear hnx0
        have HC := Lib.hid hC
        have HD := Lib.hid hd1
        clear hC hd1
        obtain ⟨hown2, hit2, hbl2, hsz2⟩ := hF.moved (pos + 1)
        by_cases h32 : C = 32
        · subst h32
          go_wp2
          go_roundw
          case rel => exact ⟨pos + 1, acc, true, rfl, hF.next (by omega) (by rw [HD.out]; rfl) (by omega) hown2 hit2 hbl2⟩
          case measure => simp only [iterPos_at hit2, iterPos_at hit]; omega
        · have h32b : (C == 32) = false := by simpa using h32
          obtain ⟨A, c, rfl⟩ := own_slice hF.own
          have hal : acc.length ≤ 2 * s.size := by have := hF.len; have := hF.le; omega
          by_cases hfl : bl = true ∧ acc ≠ []
          · obtain ⟨rfl, hne⟩ := hfl
            have hpos : 0 < acc.length := List.length_pos_iff.2 hne
            have hposZ : (0 : Int) < (acc.length : Int) := by omega
            by_cases hup : 65 ≤ C ∧ C ≤ 90
            · obtain ⟨hu0, hu1⟩ := hup
              have hre : (C + 32 == 65533) = false := by simp; omega
              have hlow : low C = C + 32 := by unfold low; rw [if_pos ⟨hu0, hu1⟩]
              have HL := Lib.hid hlow
              clear hlow
              go_wp2_with (at_builtin; go_must (refine print_append_num (w0 := w) w.heap.size rfl (.tmp 28) (.tmp 29) 22 5 .u8 1 rfl Tryd.underlying22 info5 (by decide) (.slice A acc.length c) acc 32 rfl rfl hown2 hbl2 hsz2 (by omega) ?_; intro v3 w3 hown3 hbl3 hgrow3 hat3))
              go_wp2_with (go_at_call 26; go_must (refine (Tryd.utf8_AppendRune_plain w.heap.size v3 _ _ (C + 32) (by omega) (by omega) _ hown3 (by simp; omega) hbl3.size).mono ?_; rintro e w4 ⟨v4, rfl, hown4, o4, hgrow4⟩))
              have hP := pushed (acc' := acc ++ [32]) (D := (C + 32)) hF hp HD.out (run_one _ _ _ h32) (by rw [if_pos ⟨rfl, hne⟩, HL.out]) (by simp) (by omega) (by omega) hit2 hbl2 hgrow3 (own_iter_ne hown2 hit2) hown3 hbl3 hown4 hgrow4
              go_roundw
              case rel => exact ⟨pos + 1, acc ++ [32] ++ [(C + 32)], false, rfl, hP⟩
              case measure => rw [iterPos_at hP.iter, iterPos_at hit]; omega
            · have hre : (C == 65533) = false := by simp; omega
              have hlow : low C = C := by unfold low; rw [if_neg hup]
              have HL := Lib.hid hlow
              clear hlow
              have hup2 : C < 65 ∨ 90 < C := by omega
              rcases hup2 with hup2 | hup2
              · go_wp2_with (at_builtin; go_must (refine print_append_num (w0 := w) w.heap.size rfl (.tmp 28) (.tmp 29) 22 5 .u8 1 rfl Tryd.underlying22 info5 (by decide) (.slice A acc.length c) acc 32 rfl rfl hown2 hbl2 hsz2 (by omega) ?_; intro v3 w3 hown3 hbl3 hgrow3 hat3))
                go_wp2_with (go_at_call 26; go_must (refine (Tryd.utf8_AppendRune_plain w.heap.size v3 _ _ C (by omega) (by omega) _ hown3 (by simp; omega) hbl3.size).mono ?_; rintro e w4 ⟨v4, rfl, hown4, o4, hgrow4⟩))
                have hP := pushed (acc' := acc ++ [32]) (D := C) hF hp HD.out (run_one _ _ _ h32) (by rw [if_pos ⟨rfl, hne⟩, HL.out]) (by simp) (by omega) (by omega) hit2 hbl2 hgrow3 (own_iter_ne hown2 hit2) hown3 hbl3 hown4 hgrow4
                go_roundw
                case rel => exact ⟨pos + 1, acc ++ [32] ++ [C], false, rfl, hP⟩
                case measure => rw [iterPos_at hP.iter, iterPos_at hit]; omega
              · go_wp2_with (at_builtin; go_must (refine print_append_num (w0 := w) w.heap.size rfl (.tmp 28) (.tmp 29) 22 5 .u8 1 rfl Tryd.underlying22 info5 (by decide) (.slice A acc.length c) acc 32 rfl rfl hown2 hbl2 hsz2 (by omega) ?_; intro v3 w3 hown3 hbl3 hgrow3 hat3))
                go_wp2_with (go_at_call 26; go_must (refine (Tryd.utf8_AppendRune_plain w.heap.size v3 _ _ C (by omega) (by omega) _ hown3 (by simp; omega) hbl3.size).mono ?_; rintro e w4 ⟨v4, rfl, hown4, o4, hgrow4⟩))
                have hP := pushed (acc' := acc ++ [32]) (D := C) hF hp HD.out (run_one _ _ _ h32) (by rw [if_pos ⟨rfl, hne⟩, HL.out]) (by simp) (by omega) (by omega) hit2 hbl2 hgrow3 (own_iter_ne hown2 hit2) hown3 hbl3 hown4 hgrow4
                go_roundw
                case rel => exact ⟨pos + 1, acc ++ [32] ++ [C], false, rfl, hP⟩
                case measure => rw [iterPos_at hP.iter, iterPos_at hit]; omega
          · cases bl with
            | false =>
              by_cases hup : 65 ≤ C ∧ C ≤ 90
              · obtain ⟨hu0, hu1⟩ := hup
                have hre : (C + 32 == 65533) = false := by simp; omega
                have hlow : low C = C + 32 := by unfold low; rw [if_pos ⟨hu0, hu1⟩]
                have HL := Lib.hid hlow
                clear hlow
                go_wp2_with (go_at_call 26; go_must (refine (Tryd.utf8_AppendRune_plain w.heap.size (.slice A acc.length c) _ _ (C + 32) (by omega) (by omega) _ hown2 (by omega) hsz2).mono ?_; rintro e w4 ⟨v4, rfl, hown4, o4, hgrow4⟩))
                have hP := pushed (acc' := acc) (D := (C + 32)) (row := none) hF hp HD.out (run_one _ _ _ h32) (by rw [if_neg (by simp), HL.out]) (by omega) (by omega) (by omega) hit2 hbl2 (World.grownBy.refl_ _) (by simp) hown2 hbl2 hown4 hgrow4
                go_roundw
                case rel => exact ⟨pos + 1, acc ++ [(C + 32)], false, rfl, hP⟩
                case measure => rw [iterPos_at hP.iter, iterPos_at hit]; omega
              · have hre : (C == 65533) = false := by simp; omega
                have hlow : low C = C := by unfold low; rw [if_neg hup]
                have HL := Lib.hid hlow
                clear hlow
                have hup2 : C < 65 ∨ 90 < C := by omega
                rcases hup2 with hup2 | hup2
                · go_wp2_with (go_at_call 26; go_must (refine (Tryd.utf8_AppendRune_plain w.heap.size (.slice A acc.length c) _ _ C (by omega) (by omega) _ hown2 (by omega) hsz2).mono ?_; rintro e w4 ⟨v4, rfl, hown4, o4, hgrow4⟩))
                  have hP := pushed (acc' := acc) (D := C) (row := none) hF hp HD.out (run_one _ _ _ h32) (by rw [if_neg (by simp), HL.out]) (by omega) (by omega) (by omega) hit2 hbl2 (World.grownBy.refl_ _) (by simp) hown2 hbl2 hown4 hgrow4
                  go_roundw
                  case rel => exact ⟨pos + 1, acc ++ [C], false, rfl, hP⟩
                  case measure => rw [iterPos_at hP.iter, iterPos_at hit]; omega
                · go_wp2_with (go_at_call 26; go_must (refine (Tryd.utf8_AppendRune_plain w.heap.size (.slice A acc.length c) _ _ C (by omega) (by omega) _ hown2 (by omega) hsz2).mono ?_; rintro e w4 ⟨v4, rfl, hown4, o4, hgrow4⟩))
                  have hP := pushed (acc' := acc) (D := C) (row := none) hF hp HD.out (run_one _ _ _ h32) (by rw [if_neg (by simp), HL.out]) (by omega) (by omega) (by omega) hit2 hbl2 (World.grownBy.refl_ _) (by simp) hown2 hbl2 hown4 hgrow4
                  go_roundw
                  case rel => exact ⟨pos + 1, acc ++ [C], false, rfl, hP⟩
                  case measure => rw [iterPos_at hP.iter, iterPos_at hit]; omega
            | true =>
              have he : acc = [] := by simpa using hfl
              subst he
              by_cases hup : 65 ≤ C ∧ C ≤ 90
              · obtain ⟨hu0, hu1⟩ := hup
                have hre : (C + 32 == 65533) = false := by simp; omega
                have hlow : low C = C + 32 := by unfold low; rw [if_pos ⟨hu0, hu1⟩]
                have HL := Lib.hid hlow
                clear hlow
                go_wp2_with (go_at_call 26; go_must (refine (Tryd.utf8_AppendRune_plain w.heap.size (.slice A 0 c) 0 (nums .u8 []) (C + 32) (by omega) (by omega) _ hown2 (by omega) hsz2).mono ?_; rintro e w4 ⟨v4, rfl, hown4, o4, hgrow4⟩))
                have hP := pushed (acc' := []) (D := (C + 32)) (row := none) hF hp HD.out (run_one _ _ _ h32) (by rw [if_neg (by simp), HL.out]) (by omega) (by omega) (by omega) hit2 hbl2 (World.grownBy.refl_ _) (by simp) hown2 hbl2 hown4 hgrow4
                go_roundw
                case rel => exact ⟨pos + 1, [] ++ [(C + 32)], false, rfl, hP⟩
                case measure => rw [iterPos_at hP.iter, iterPos_at hit]; omega
              · have hre : (C == 65533) = false := by simp; omega
                have hlow : low C = C := by unfold low; rw [if_neg hup]
                have HL := Lib.hid hlow
                clear hlow
                have hup2 : C < 65 ∨ 90 < C := by omega
                rcases hup2 with hup2 | hup2
                · go_wp2_with (go_at_call 26; go_must (refine (Tryd.utf8_AppendRune_plain w.heap.size (.slice A 0 c) 0 (nums .u8 []) C (by omega) (by omega) _ hown2 (by omega) hsz2).mono ?_; rintro e w4 ⟨v4, rfl, hown4, o4, hgrow4⟩))
                  have hP := pushed (acc' := []) (D := C) (row := none) hF hp HD.out (run_one _ _ _ h32) (by rw [if_neg (by simp), HL.out]) (by omega) (by omega) (by omega) hit2 hbl2 (World.grownBy.refl_ _) (by simp) hown2 hbl2 hown4 hgrow4
                  go_roundw
                  case rel => exact ⟨pos + 1, [] ++ [C], false, rfl, hP⟩
                  case measure => rw [iterPos_at hP.iter, iterPos_at hit]; omega
                · go_wp2_with (go_at_call 26; go_must (refine (Tryd.utf8_AppendRune_plain w.heap.size (.slice A 0 c) 0 (nums .u8 []) C (by omega) (by omega) _ hown2 (by omega) hsz2).mono ?_; rintro e w4 ⟨v4, rfl, hown4, o4, hgrow4⟩))
                  have hP := pushed (acc' := []) (D := C) (row := none) hF hp HD.out (run_one _ _ _ h32) (by rw [if_neg (by simp), HL.out]) (by omega) (by omega) (by omega) hit2 hbl2 (World.grownBy.refl_ _) (by simp) hown2 hbl2 hown4 hgrow4
                  go_roundw
                  case rel => exact ⟨pos + 1, [] ++ [C], false, rfl, hP⟩
                  case measure => rw [iterPos_at hP.iter, iterPos_at hit]; omega
      · obtain ⟨hn1, hn, hall, henc⟩ := rune_high s pos hp (by omega)
        have hhi := decode_high s pos hp (by omega)
        have hle := decode_le s pos
        have hgo := decodeGo_at s pos hp
        have hnx := fun ty => Lib.run_next_any_at (P := Tryd.prog) wr w1.heap.size s pos ty hit hp
        obtain ⟨cp, hcp⟩ : ∃ cp, (Utf8.decode s pos).1 = cp := ⟨_, rfl⟩
        obtain ⟨n, hnn⟩ : ∃ n, (Utf8.decode s pos).2 = n := ⟨_, rfl⟩
        have hgo2 : decodeGo (s.extract pos s.size) = (cp, n) := by rw [hgo, ← hcp, ← hnn]
        rw [hcp] at hhi hle henc
        rw [hnn] at hhi hn1 hn hall henc
        simp only [hcp, hnn] at hnx
        clear hgo hcp hnn
        have hcp0 := hhi.1
        have HA := Lib.hid hall
        have HG := Lib.hid hgo2
        clear hall hgo2 hhi
        obtain ⟨hown2, hit2, hbl2, hsz2⟩ := hF.moved (pos + n)
        obtain ⟨A, c, rfl⟩ := own_slice hF.own
        have hal : acc.length ≤ 2 * s.size := by have := hF.len; have := hF.le; omega
        have h32b : ((cp : Int) == 32) = false := by simp; omega
        have h90 : (90 : Int) < (cp : Int) := by omega
        by_cases hbad : cp = 65533
        · subst hbad
          clear henc
          have hd : ∀ W, Tabs W → Calls Tryd.prog 25 #[.string (s.extract pos s.size)] W fun e w' => e = .returned (.tuple #[.int .i32 65533, .int .i64 n]) ∧ Below W.heap.size W w' := by
            intro W hTW
            have := Tryd.utf8_DecodeRuneInString (s.extract pos s.size) W hTW.u8
            rw [HG.out] at this
            exact this
          have HD := Lib.hid hd
          have hes : (s.extract pos (pos + n)).size = n := by rw [size_eq, Lib.extract_data, List.length_take, List.length_drop, list_length]; omega
          have HES := Lib.hid hes
          have hsl : ∀ W, (Instr.slice 9 (.string s) (some (.int .i64 (pos : Int))) (some (.int .i64 ((pos : Int) + (n : Int)))) none).run Tryd.prog W = .ok (.string (s.extract pos (pos + n))) W := fun W => by
            have h := run_slice_string (P := Tryd.prog) (w := W) 9 s .i64 .i64 (pos : Int) ((pos : Int) + (n : Int)) Tryd.underlying9 (by omega) (by omega) (by omega)
            rw [show ((pos : Int) + (n : Int)).toNat = pos + n by omega, Int.toNat_natCast] at h
            exact h
          clear hd hes
          by_cases hfl : bl = true ∧ acc ≠ []
          · obtain ⟨rfl, hne⟩ := hfl
            have hpos : 0 < acc.length := List.length_pos_iff.2 hne
            have hposZ : (0 : Int) < (acc.length : Int) := by omega
            go_wp2_with (at_builtin; go_must (refine print_append_num (w0 := w) w.heap.size rfl (.tmp 28) (.tmp 29) 22 5 .u8 1 rfl Tryd.underlying22 info5 (by decide) (.slice A acc.length c) acc 32 rfl rfl hown2 hbl2 hsz2 (by omega) ?_; intro v3 w3 hown3 hbl3 hgrow3 hat3))
            have hit3 := iter_grown hgrow3 hit2 (own_iter_ne hown2 hit2)
            go_wp2_with (first | (go_at_call 25; go_must (refine (HD.out _ (hT.below hbl3)).mono ?_; rintro e w5 ⟨rfl, hb5⟩); have hbl5 : Below w.heap.size w w5 := hbl3.trans (hb5.mono hbl3.size); have hown5 := pw_own_below hown3 hb5; have hit5 := iter_below hb5 hit3) | (at_builtin; go_must (refine Lib.wpList_append_own_string _ rfl (.tmp 48) (.tmp 54) 22 9 rfl w.heap.size 5 i0 Tryd.underlying22 Tryd.underlying9 hi hz0 hz1 hz2 v3 _ _ rfl hown5 (s.extract pos (pos + n)) rfl (by rw [HES.out]; unfold maxLen; first | omega | (simp; omega)) (by rw [HES.out]; first | omega | (simp; omega)) hbl5.size ?_; intro v4 w4 hown4 hgrow4 hnil4)))
            have hit4 := iter_grown hgrow4 hit5 (own_iter_ne hown5 hit5)
            have hbl4 : Below w.heap.size w w4 := hbl5.grown hgrow4 hbl5.size (fun k hk => own_base hown5 k hk)
            rw [cells_ext s pos n hn, HES.out] at hown4
            have hP := pushedN (acc' := (acc ++ [32])) hF hn hn1 HA.out (by rw [if_pos ⟨rfl, hne⟩]) (by first | omega | simp) hown4 hit4 hbl4
            go_roundw
            case rel => exact ⟨pos + n, _, false, rfl, hP⟩
            case measure => rw [iterPos_at hP.iter, iterPos_at hit]; omega
          · cases bl with
            | false =>
              go_wp2_with (first | (go_at_call 25; go_must (refine (HD.out _ (hT.below hbl2)).mono ?_; rintro e w5 ⟨rfl, hb5⟩); have hbl5 : Below w.heap.size w w5 := hbl2.trans (hb5.mono hbl2.size); have hown5 := pw_own_below hown2 hb5; have hit5 := iter_below hb5 hit2) | (at_builtin; go_must (refine Lib.wpList_append_own_string _ rfl (.tmp 48) (.tmp 54) 22 9 rfl w.heap.size 5 i0 Tryd.underlying22 Tryd.underlying9 hi hz0 hz1 hz2 (.slice A acc.length c) _ _ rfl hown5 (s.extract pos (pos + n)) rfl (by rw [HES.out]; unfold maxLen; first | omega | (simp; omega)) (by rw [HES.out]; first | omega | (simp; omega)) hbl5.size ?_; intro v4 w4 hown4 hgrow4 hnil4)))
              have hit4 := iter_grown hgrow4 hit5 (own_iter_ne hown5 hit5)
              have hbl4 : Below w.heap.size w w4 := hbl5.grown hgrow4 hbl5.size (fun k hk => own_base hown5 k hk)
              rw [cells_ext s pos n hn, HES.out] at hown4
              have hP := pushedN (acc' := acc) hF hn hn1 HA.out (by rw [if_neg (by simp)]) (by first | omega | simp) hown4 hit4 hbl4
              go_roundw
              case rel => exact ⟨pos + n, _, false, rfl, hP⟩
              case measure => rw [iterPos_at hP.iter, iterPos_at hit]; omega
            | true =>
              have he : acc = [] := by simpa using hfl
              subst he
              go_wp2_with (first | (go_at_call 25; go_must (refine (HD.out _ (hT.below hbl2)).mono ?_; rintro e w5 ⟨rfl, hb5⟩); have hbl5 : Below w.heap.size w w5 := hbl2.trans (hb5.mono hbl2.size); have hown5 := pw_own_below hown2 hb5; have hit5 := iter_below hb5 hit2) | (at_builtin; go_must (refine Lib.wpList_append_own_string _ rfl (.tmp 48) (.tmp 54) 22 9 rfl w.heap.size 5 i0 Tryd.underlying22 Tryd.underlying9 hi hz0 hz1 hz2 (.slice A 0 c) 0 (nums .u8 []) rfl hown5 (s.extract pos (pos + n)) rfl (by rw [HES.out]; unfold maxLen; first | omega | (simp; omega)) (by rw [HES.out]; first | omega | (simp; omega)) hbl5.size ?_; intro v4 w4 hown4 hgrow4 hnil4)))
              have hit4 := iter_grown hgrow4 hit5 (own_iter_ne hown5 hit5)
              have hbl4 : Below w.heap.size w w4 := hbl5.grown hgrow4 hbl5.size (fun k hk => own_base hown5 k hk)
              rw [cells_ext s pos n hn, HES.out] at hown4
              have hP := pushedN (acc' := ([] : List Int)) hF hn hn1 HA.out (by rw [if_neg (by simp)]) (by first | omega | simp) hown4 hit4 hbl4
              go_roundw
              case rel => exact ⟨pos + n, _, false, rfl, hP⟩
              case measure => rw [iterPos_at hP.iter, iterPos_at hit]; omega
        · have hne5 : ((cp : Int) == 65533) = false := by simp; omega
          have HC := Lib.hid (cells_at s pos n cp (henc hbad))
          clear henc
          by_cases hfl : bl = true ∧ acc ≠ []
          · obtain ⟨rfl, hne⟩ := hfl
            have hpos : 0 < acc.length := List.length_pos_iff.2 hne
            have hposZ : (0 : Int) < (acc.length : Int) := by omega
            go_wp2_with (at_builtin; go_must (refine print_append_num (w0 := w) w.heap.size rfl (.tmp 28) (.tmp 29) 22 5 .u8 1 rfl Tryd.underlying22 info5 (by decide) (.slice A acc.length c) acc 32 rfl rfl hown2 hbl2 hsz2 (by omega) ?_; intro v3 w3 hown3 hbl3 hgrow3 hat3))
            have hit3 := iter_grown hgrow3 hit2 (own_iter_ne hown2 hit2)
            go_wp2_with fail
            refine (Tryd.utf8_AppendRune_plain w.heap.size v3 _ _ cp (by omega) (by omega) _ hown3 (by first | omega | (simp; omega)) hbl3.size).mono ?_
            rintro e w4 ⟨v4, rfl, hown4, o4, hgrow4⟩
            go_wp2_with fail
            have hit4 := iter_grown hgrow4 (iter_grown (World.grownBy_alloc _ o4 none) hit3 (by simp)) (own_iter_ne hown3 hit3)
            have hbl4 : Below w.heap.size w w4 := (hbl3.alloc hbl3.size o4).grown hgrow4 (by simp; have := hbl3.size; omega) (fun k hk => own_base hown3 k hk)
            rw [HC.out] at hown4
            have hlc : (nums .u8 (bytesAt s pos n)).length = n := by rw [nums_length, bytesAt_length s pos n hn]
            rw [hlc] at hown4
            have hP := pushedN (acc' := (acc ++ [32])) hF hn hn1 HA.out (by rw [if_pos ⟨rfl, hne⟩]) (by first | omega | simp) hown4 hit4 hbl4
            go_roundw
            case rel => exact ⟨pos + n, _, false, rfl, hP⟩
            case measure => rw [iterPos_at hP.iter, iterPos_at hit]; omega
          · cases bl with
            | false =>
              go_wp2_with fail
              refine (Tryd.utf8_AppendRune_plain w.heap.size (.slice A acc.length c) _ _ cp (by omega) (by omega) _ hown2 (by first | omega | (simp; omega)) hbl2.size).mono ?_
              rintro e w4 ⟨v4, rfl, hown4, o4, hgrow4⟩
              go_wp2_with fail
              have hit4 := iter_grown hgrow4 (iter_grown (World.grownBy_alloc _ o4 none) hit2 (by simp)) (own_iter_ne hown2 hit2)
              have hbl4 : Below w.heap.size w w4 := (hbl2.alloc hbl2.size o4).grown hgrow4 (by simp; have := hbl2.size; omega) (fun k hk => own_base hown2 k hk)
              rw [HC.out] at hown4
              have hlc : (nums .u8 (bytesAt s pos n)).length = n := by rw [nums_length, bytesAt_length s pos n hn]
              rw [hlc] at hown4
              have hP := pushedN (acc' := acc) hF hn hn1 HA.out (by rw [if_neg (by simp)]) (by first | omega | simp) hown4 hit4 hbl4
              go_roundw
              case rel => exact ⟨pos + n, _, false, rfl, hP⟩
              case measure => rw [iterPos_at hP.iter, iterPos_at hit]; omega
            | true =>
              have he : acc = [] := by simpa using hfl
              subst he
              go_wp2_with fail
              refine (Tryd.utf8_AppendRune_plain w.heap.size (.slice A 0 c) 0 (nums .u8 []) cp (by omega) (by omega) _ hown2 (by first | omega | (simp; omega)) hbl2.size).mono ?_
              rintro e w4 ⟨v4, rfl, hown4, o4, hgrow4⟩
              go_wp2_with fail
              have hit4 := iter_grown hgrow4 (iter_grown (World.grownBy_alloc _ o4 none) hit2 (by simp)) (own_iter_ne hown2 hit2)
              have hbl4 : Below w.heap.size w w4 := (hbl2.alloc hbl2.size o4).grown hgrow4 (by simp; have := hbl2.size; omega) (fun k hk => own_base hown2 k hk)
              rw [HC.out] at hown4
              have hlc : (nums .u8 (bytesAt s pos n)).length = n := by rw [nums_length, bytesAt_length s pos n hn]
              rw [hlc] at hown4
              have hP := pushedN (acc' := ([] : List Int)) hF hn hn1 HA.out (by rw [if_neg (by simp)]) (by first | omega | simp) hown4 hit4 hbl4
              go_roundw
              case rel => exact ⟨pos + n, _, false, rfl, hP⟩
              case measure => rw [iterPos_at hP.iter, iterPos_at hit]; omega
    · have hnx : ∀ ty, (Instr.next (.pointer (some ⟨w1.heap.size, 0, none⟩)) true ty).run Tryd.prog wr = _ := fun ty => Lib.run_next_end_at wr w1.heap.size s pos ty hit hp
      obtain ⟨A, c, rfl⟩ := own_slice hF.own
      have hcv := own_string (P := Tryd.prog) (src := 22) (dst := 9) Tryd.underlying22 Tryd.underlying5 Tryd.underlying9 hF.own
      go_wp2
      go_ret
      have hpe : pos = s.size := by have := hF.le; omega
      have hr := hF.run.out
      rw [hpe, List.take_of_length_le (by rw [bts_length]; omega)] at hr
      refine ⟨?_, hF.below⟩
      show Ending.returned (.string (strOfNums acc)) = _
      unfold foldL
      rw [hr]
end Go.Proofs.YtaeocpnabgnidaaDoor.Tx
