/- text.wide: what it answers, for every slice of bytes: pairs of bytes as characters. -/
import Derived.Test.YtaeocpnabgnidaaDoorShelf
import Derived.Test.YtaeocpnabgnidaaDoorTxFold
import Derived.Test.YtaeocpnabgnidaaDoorWWords
import Derived.Lib.RuneBytes
import Derived.Laws.BitsLemmas
import Derived.OwnWalk
import Derived.WalkKit
import Derived.BigCall
import Derived.BigQuiet
import Derived.Deep.QuietTactic
import Derived.Deep.DeepMust
import Derived.Outline
set_option linter.unusedVariables false
namespace Go.Proofs.YtaeocpnabgnidaaDoor.Tx
open Go.RowKit Go.Lib Go.Proofs.YtaeocpnabgnidaaDoorW.PrintWords

def wideL : List Int → Option (List Int)
  | [] => some []
  | [_] => none
  | a :: b :: r => if 55296 ≤ a * 256 + b ∧ a * 256 + b < 57344 then none else (wideL r).map (encodeRuneZ (a * 256 + b) ++ ·)
theorem wideL_odd : ∀ (l : List Int), l.length % 2 = 1 → wideL l = none
  | [], h => by simp at h
  | [_], _ => rfl
  | a :: b :: r, h => by
    unfold wideL
    rw [wideL_odd r (by simp at h; omega)]
    simp
theorem wideL_two (l : List Int) (h : 2 ≤ l.length) : wideL l = if 55296 ≤ l.getD 0 0 * 256 + l.getD 1 0 ∧ l.getD 0 0 * 256 + l.getD 1 0 < 57344 then none else (wideL (l.drop 2)).map (encodeRuneZ (l.getD 0 0 * 256 + l.getD 1 0) ++ ·) := by
  match l, h with
  | a :: b :: r, _ => rfl
def wideS (l : List Int) : ByteArray := match wideL l with
  | some x => strOfNums x
  | none => ⟨#[]⟩
def wideE (l : List Int) : Int := if (wideL l).isSome then 0 else 60

theorem info5w : (Tryd.prog.info? 5).map (fun i => (i.zero, i.size, i.bytes)) = some (some (.int .u8 0), 1, 1) := by kernel_rfl
theorem runeCells_nums (r : Int) : runeCells r = nums .u8 (encodeRuneZ r) := rfl

theorem byte_at {l : List Int} (h : ∀ x ∈ l, 0 ≤ x ∧ x < 256) (i : Nat) (hi : i < l.length) : 0 ≤ l.getD i 0 ∧ l.getD i 0 < 256 := by
  rw [List.getD_eq_getElem?_getD, List.getElem?_eq_getElem hi]
  exact h _ (List.getElem_mem hi)
theorem wide_step (l acc : List Int) (i : Nat) (hi : i + 2 ≤ l.length) {a b : Int} (ha : l.getD i 0 = a) (hb : l.getD (i + 1) 0 = b) (h : wideL l = (wideL (l.drop i)).map (acc ++ ·)) :
    wideL l = if 55296 ≤ a * 256 + b ∧ a * 256 + b < 57344 then none else (wideL (l.drop (i + 2))).map ((acc ++ encodeRuneZ (a * 256 + b)) ++ ·) := by
  have e := wideL_two (l.drop i) (by rw [List.length_drop]; omega)
  have e0 : (l.drop i).getD 0 0 = a := by rw [← ha]; simp [List.getD_eq_getElem?_getD, List.getElem?_drop]
  have e1 : (l.drop i).getD 1 0 = b := by rw [← hb]; simp [List.getD_eq_getElem?_getD, List.getElem?_drop]
  rw [e0, e1, List.drop_drop] at e
  rw [h, e]
  split
  · rfl
  · rw [Option.map_map]
    congr 1
    funext x
    simp
set_option maxHeartbeats 4000000 in
set_option maxRecDepth 100000 in
theorem wide_walk (A : Option Addr) (c : Nat) (l : List Int) (w : World) (hr : ReadsInt w .u8 A l.length l) (hc : l.length ≤ c) (hl : l.length ≤ 35184372088832) (hb : ∀ x ∈ l, 0 ≤ x ∧ x < 256) :
    Calls Tryd.prog 19 #[.slice A l.length c] w fun e w' => e = .returned (.tuple #[.string (wideS l), .int .i64 (wideE l)]) ∧ Below w.heap.size w w' := by
  obtain ⟨i0, hi, hz0, hz1, hz2⟩ := info_parts info5w
  by_cases hodd : l.length % 2 = 1
  · have hoz : ((l.length : Int) % 2 != 0) = true := by simp; omega
    have he : wideS l = ⟨#[]⟩ ∧ wideE l = 60 := by
      unfold wideS wideE
      rw [wideL_odd l hodd]
      exact ⟨rfl, rfl⟩
    have HE := Lib.hid he
    clear he hr
    go_enter Tryd.func19, Tryd.ntmps19
    go_wp2
    go_ret2
    exact ⟨by rw [HE.out.1, HE.out.2]; rfl, Below.refl _ _⟩
  · have hoz : ((l.length : Int) % 2 != 0) = false := by simp; omega
    have hev : l.length % 2 = 0 := by omega
    go_enter Tryd.func19, Tryd.ntmps19
    go_wp2_with (at_make; refine wpList_make_own _ rfl _ _ 22 rfl w.heap.size 5 i0 (.int .u8 0) 1 Tryd.underlying22 hi hz0 hz1 .i64 .i64 _ (l.length * 2) rfl rfl (by omega) (by rw [hz2]; omega) (by unfold maxLen; omega) (Nat.le_refl _) ?_)
    intro w1 hown1 hgrow1
    have hb1 : Below w.heap.size w w1 := (Below.refl _ w).grown hgrow1 (Nat.le_refl _) (by simp)
    go_wp2
    obtain ⟨n, hn⟩ : ∃ n, l.length = n := ⟨_, rfl⟩
    have HN := Lib.hid hn
    rw [hn] at hr hc hl hoz hev hown1 ⊢
    clear hn
    have HB := Lib.hid hb
    have HR := Lib.hid hr
    clear hb hr
    go_loopw [4, 5] (fun v iv wr => ∃ (i : Nat) (acc : List Int), i ≤ n ∧ i % 2 = 0 ∧ iv = .int .i64 (i : Int) ∧ wr.ownsRow w.heap.size 5 1 v acc.length (nums .u8 acc) ∧ Below w.heap.size w wr ∧ acc.length ≤ 2 * i ∧ Hid (wideL l = (wideL (l.drop i)).map (acc ++ ·))) (fun _ iv _ => n - (RowKit.intOf iv).toNat)
    case atStart => exact ⟨0, [], by omega, rfl, rfl, hown1, hb1, by simp, by show _ = _; simp⟩
    case round =>
      obtain ⟨i, acc, hk, hie, rfl, hown, hbl, hac, hrun⟩ := hrel
      clear hown1 hgrow1
      by_cases hlt : i < n
      · have hlz : (i : Int) < (n : Int) := by omega
        have hlt1 : i + 1 < n := by omega
        have hlz1 : (i : Int) + 1 < (n : Int) := by omega
        have hrr := ReadsInt.below HR.out hbl
        obtain ⟨ad, rfl, hcell⟩ := hrr.2.2 (by omega)
        have hca := hcell i (by omega)
        have hcb := hcell (i + 1) (by omega)
        have hka : l.length = n := HN.out
        obtain ⟨a, ha⟩ : ∃ a, l.getD i 0 = a := ⟨_, rfl⟩
        obtain ⟨b, hbb⟩ : ∃ b, l.getD (i + 1) 0 = b := ⟨_, rfl⟩
        have hab := byte_at HB.out i (by omega)
        have hbb2 := byte_at HB.out (i + 1) (by omega)
        rw [ha] at hca hab
        rw [hbb] at hcb hbb2
        have hcb' := hcb
        unfold Addr.add at hcb'
        rw [if_neg (by omega)] at hcb'
        have hstep := Lib.hid (wide_step l acc i (by omega) ha hbb hrun.out)
        obtain ⟨ha0, ha1⟩ := hab
        obtain ⟨hb0, hb1'⟩ := hbb2
        clear hrr hcell ha hbb hka
        obtain ⟨C, hC⟩ : ∃ C, a * 256 + b = C := ⟨_, rfl⟩
        have hor : bits .or .i32 (a * 256) b = C := by
          rw [bits_join .i32 31 (by decide) wraps_i32 8 (a * 256) b (by omega) (by omega) (by omega) hb0 (by omega) (by omega), hC]
        have hC0 : 0 ≤ C := by omega
        have hC1 : C < 65536 := by omega
        rw [hC] at hstep
        clear hC
        by_cases hsur : 55296 ≤ C ∧ C < 57344
        · have he : wideS l = ⟨#[]⟩ ∧ wideE l = 60 := by
            unfold wideS wideE
            rw [hstep.out, if_pos hsur]
            exact ⟨rfl, rfl⟩
          have HE := Lib.hid he
          obtain ⟨hs0, hs1⟩ := hsur
          clear he hstep hrun
          go_wp2
          go_quiet (fail)
          go_wp2
          go_ret2
          exact ⟨by rw [HE.out.1, HE.out.2]; rfl, ⟨hbl.os, hbl.tape, hbl.output, hbl.size, hbl.block⟩⟩
        · have hs2 := hstep.out
          rw [if_neg hsur] at hs2
          have HS := Lib.hid hs2
          obtain ⟨A2, c2, rfl⟩ := own_slice hown
          have hsur2 : C < 55296 ∨ 57344 ≤ C := by omega
          clear hs2 hstep hrun hsur
          rcases hsur2 with hs0 | hs0
          · go_wp2
            go_quiet (fail)
            have hown2 : (wr.drewN nq).ownsRow w.heap.size 5 1 (.slice A2 acc.length c2) acc.length (nums .u8 acc) := hown
            have hbl2 : Below w.heap.size w (wr.drewN nq) := ⟨hbl.os, hbl.tape, hbl.output, hbl.size, hbl.block⟩
            generalize wr.drewN nq = wq at hown2 hbl2 ⊢
            go_wp2_with (go_at_call 26; go_must (refine (Tryd.utf8_AppendRune_plain w.heap.size (.slice A2 acc.length c2) _ _ C (by omega) (by omega) _ hown2 (by omega) hbl2.size).mono ?_; rintro e w4 ⟨v4, rfl, hown4, o4, hgrow4⟩))
            have hbl4 : Below w.heap.size w w4 := (hbl2.alloc hbl2.size o4).grown hgrow4 (by simp; have := hbl2.size; omega) (fun k hk => own_base hown2 k hk)
            rw [runeCells_nums, ← nums_append, nums_length] at hown4
            have hlen := encodeRuneZ_length C
            go_roundw
            case rel => exact ⟨i + 2, acc ++ encodeRuneZ C, by omega, by omega, by go_num, by rw [List.length_append]; exact hown4, hbl4, by rw [List.length_append]; omega, HS.out⟩
            case measure => simp [RowKit.intOf]; omega
          · go_wp2
            go_quiet (fail)
            have hown2 : (wr.drewN nq).ownsRow w.heap.size 5 1 (.slice A2 acc.length c2) acc.length (nums .u8 acc) := hown
            have hbl2 : Below w.heap.size w (wr.drewN nq) := ⟨hbl.os, hbl.tape, hbl.output, hbl.size, hbl.block⟩
            generalize wr.drewN nq = wq at hown2 hbl2 ⊢
            go_wp2_with (go_at_call 26; go_must (refine (Tryd.utf8_AppendRune_plain w.heap.size (.slice A2 acc.length c2) _ _ C (by omega) (by omega) _ hown2 (by omega) hbl2.size).mono ?_; rintro e w4 ⟨v4, rfl, hown4, o4, hgrow4⟩))
            have hbl4 : Below w.heap.size w w4 := (hbl2.alloc hbl2.size o4).grown hgrow4 (by simp; have := hbl2.size; omega) (fun k hk => own_base hown2 k hk)
            rw [runeCells_nums, ← nums_append, nums_length] at hown4
            have hlen := encodeRuneZ_length C
            go_roundw
            case rel => exact ⟨i + 2, acc ++ encodeRuneZ C, by omega, by omega, by go_num, by rw [List.length_append]; exact hown4, hbl4, by rw [List.length_append]; omega, HS.out⟩
            case measure => simp [RowKit.intOf]; omega
      · have hlz : ¬ ((i : Int) < (n : Int)) := by omega
        obtain ⟨A2, c2, rfl⟩ := own_slice hown
        have hcv := own_string (P := Tryd.prog) (src := 22) (dst := 9) Tryd.underlying22 Tryd.underlying5 Tryd.underlying9 hown
        have hd : l.drop i = [] := List.drop_of_length_le (by have := HN.out; omega)
        have hr := hrun.out
        rw [hd] at hr
        have he : wideS l = strOfNums acc ∧ wideE l = 0 := by
          unfold wideS wideE
          rw [hr]
          simp [wideL]
        have HE := Lib.hid he
        clear he hr hd
        go_wp2
        go_ret2
        exact ⟨by rw [HE.out.1, HE.out.2]; rfl, hbl⟩
end Go.Proofs.YtaeocpnabgnidaaDoor.Tx
