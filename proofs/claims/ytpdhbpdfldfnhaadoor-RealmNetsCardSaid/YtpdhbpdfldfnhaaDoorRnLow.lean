/- realm.lower, walked: letters A to Z as the small ones. -/
import Derived.Test.YtpdhbpdfldfnhaaDoorProg
import Derived.Below
import Derived.Deep.Draws
import Derived.Deep.AppendLies
import Derived.Maps.AppendAt
import Derived.OwnWalk
import Derived.Laws.BytesArg
import Derived.Laws.MakeOwn
import Derived.Laws.OwnMore
import Derived.Deep.OwnRows
import Derived.Tactics
import Derived.Lib.ConvBytes
import Derived.Laws.Slices
import Derived.WalkKit
import Derived.KernelRfl
import Derived.RowKit3
import Derived.Deep.LoopGhost
import Derived.Deep.QuietTactic
import Derived.BigQuiet
import Derived.WideLaws
import Derived.Deep.DeepCutAuto
import Derived.Deep.CutBlock
import Derived.Deep.RegionHeld3
import Derived.Laws.Rows
import Derived.Lib.AppendStr
import Derived.ArgAppend
import Derived.Laws.IdiomCopy
import Derived.OrdersHeld
import Derived.Laws.BitsLemmas
import Derived.RowKit
import Derived.Test.YtpdhbpdfldfnhaaDoorWWords
import Derived.Test.YtpdhbpdfldfnhaaDoorWLast
import Derived.Test.YtpdhbpdfldfnhaaDoorWTab
import Derived.Test.YtpdhbpdfldfnhaaDoorWFour
import Derived.Test.YtpdhbpdfldfnhaaDoorWQPut
import Derived.Test.YtpdhbpdfldfnhaaDoorWApart
import Derived.Test.YtpdhbpdfldfnhaaDoorWArr
import Derived.Test.YtpdhbpdfldfnhaaDoorWZeros
import Derived.Test.YtpdhbpdfldfnhaaDoorWFoot
import Derived.Test.YtpdhbpdfldfnhaaDoorWKept
import Derived.Test.YtpdhbpdfldfnhaaDoorWShare
import Derived.Test.YtpdhbpdfldfnhaaDoorWN
import Derived.Test.YtpdhbpdfldfnhaaDoorWFootNe
import Derived.Test.YtpdhbpdfldfnhaaDoorWAt
import Derived.Test.YtpdhbpdfldfnhaaDoorWEqStruct
import Derived.Test.YtpdhbpdfldfnhaaDoorWRepsOne
import Derived.Test.YtpdhbpdfldfnhaaDoorWInv
import Derived.Test.YtpdhbpdfldfnhaaDoorWInvWords
import Derived.Test.YtpdhbpdfldfnhaaDoorWGuard
import Derived.Test.YtpdhbpdfldfnhaaDoorWNEv
import Derived.Test.YtpdhbpdfldfnhaaDoorWMore
import Derived.Lib.SmallJoins
set_option linter.unusedVariables false
set_option linter.unusedSimpArgs false
namespace Go.Proofs.YtpdhbpdfldfnhaaDoor.Rn
open Go Go.RowKit Go.Proofs.YtpdhbpdfldfnhaaDoorW.PrintWords Go.Proofs.YtpdhbpdfldfnhaaDoorW.PrintLast Go.Proofs.YtpdhbpdfldfnhaaDoorW.PrintMore
/-- a row of bytes that a conversion has made -/
def BRow (w : World) (g n : Nat) (xs : List Int) : Prop := ∃ cs lo, w.heap[g]? = some (.cells cs 5 (lo, lo + 1)) ∧ n ≤ lo ∧ n ≤ cs.size ∧ xs.length = n ∧ ∀ (j : Nat) x, xs[j]? = some x → cs[j]? = some (.int .u8 x)
theorem BRow.cell {w : World} {g n : Nat} {xs : List Int} (h : BRow w g n xs) (j : Nat) (hj : j < n) : w.cell? ⟨g, j, none⟩ = some (.int .u8 (xs.getD j 0)) := by
  obtain ⟨cs, lo, hg, _, _, hl, hc⟩ := h
  rw [cell_of_row w g j cs 5 _ hg]
  refine hc j _ ?_
  rw [List.getElem?_eq_getElem (by omega)]
  simp [List.getD, List.getElem?_eq_getElem (show j < xs.length by omega)]
theorem BRow.frozen {w : World} {g n : Nat} {xs : List Int} (h : BRow w g n xs) (j : Nat) (hj : j < n) : w.frozen? ⟨g, j, none⟩ = false := by
  obtain ⟨cs, lo, hg, h1, _⟩ := h
  unfold World.frozen?
  rw [hg]
  simp
  omega
theorem BRow.set {w : World} {g n : Nat} {xs : List Int} (h : BRow w g n xs) (k : Nat) (y : Int) : BRow (w.setCell ⟨g, k, none⟩ (.int .u8 y)) g n (xs.set k y) := by
  obtain ⟨cs, lo, hg, h1, h2, hl, hc⟩ := h
  refine ⟨cs.setIfInBounds k (.int .u8 y), lo, by simp [World.setCell, Array.getElem?_modify, hg], h1, by simpa using h2, by simpa using hl, fun j x hj => ?_⟩
  rw [List.getElem?_set] at hj
  by_cases hkj : k = j
  · subst hkj
    have hlt : k < xs.length := by
      rcases Nat.lt_or_ge k xs.length with h | h
      · exact h
      · rw [if_pos rfl, if_neg (by omega)] at hj
        cases hj
    rw [if_pos rfl, if_pos hlt] at hj
    cases hj
    rw [Array.getElem?_setIfInBounds_self, if_pos (by omega)]
  · rw [if_neg hkj] at hj
    rw [Array.getElem?_setIfInBounds_ne hkj]
    exact hc j x hj
theorem BRow.new (w : World) (s : ByteArray) : BRow (Lib.bytesWorld w 5 s) w.heap.size s.size (bytesOf s) := by
  refine ⟨_, _, Lib.bytesWorld_at_new w 5 s, ?_, ?_, bytesOf_length s, fun j x hj => ?_⟩
  · simp [Lib.bytesCells]
  · simp [Lib.bytesCells]
  · have hlt : j < s.size := by
      have := (List.getElem?_eq_some_iff.1 hj).1
      rw [bytesOf_length] at this
      exact this
    have h := Lib.bytesWorld_cell w 5 s j hlt
    rw [cell_of_row _ _ j _ 5 _ (Lib.bytesWorld_at_new w 5 s)] at h
    rw [h]
    unfold bytesOf at hj
    rw [List.getElem?_map] at hj
    obtain ⟨b, hb, rfl⟩ := Option.map_eq_some_iff.1 hj
    simp [List.getD, hb]
def lowI (x : Int) : Int := if 65 ≤ x ∧ x ≤ 90 then x + 32 else x
/-- the bytes, the first k made small -/
def mixed (s : ByteArray) (k : Nat) : List Int := ((bytesOf s).take k).map lowI ++ (bytesOf s).drop k
def lowered (s : ByteArray) : ByteArray := strOfNums ((bytesOf s).map lowI)
theorem mixed_zero (s : ByteArray) : mixed s 0 = bytesOf s := by simp [mixed]
theorem mixed_all (s : ByteArray) : mixed s s.size = (bytesOf s).map lowI := by
  unfold mixed
  rw [← bytesOf_length s, List.take_length, List.drop_length, List.append_nil]
theorem mixed_get (s : ByteArray) (k : Nat) (hk : k < s.size) : (mixed s k).getD k 0 = (bytesOf s).getD k 0 := by
  have hl := bytesOf_length s
  unfold mixed
  rw [List.getD, List.getD, List.getElem?_append_right (by simp; omega)]
  simp [show min k (bytesOf s).length = k by omega]
theorem mixed_set (s : ByteArray) (k : Nat) (hk : k < s.size) : (mixed s k).set k (lowI ((bytesOf s).getD k 0)) = mixed s (k + 1) := by
  have hl := bytesOf_length s
  have hkl : k < (bytesOf s).length := by omega
  unfold mixed
  have h1 : (((bytesOf s).take k).map lowI).length = k := by simp; omega
  rw [List.set_append_right _ _ (by omega), h1, Nat.sub_self, List.drop_eq_getElem_cons hkl, List.set_cons_zero, List.take_add_one, List.getElem?_eq_getElem hkl, List.map_append]
  simp [List.getD, List.getElem?_eq_getElem hkl]
theorem mixed_same (s : ByteArray) (k : Nat) (hk : k < s.size) (h : lowI ((bytesOf s).getD k 0) = (bytesOf s).getD k 0) : mixed s k = mixed s (k + 1) := by
  rw [← mixed_set s k hk, h]
  have hl := bytesOf_length s
  have hkm : k < (mixed s k).length := by simp [mixed]; omega
  have := mixed_get s k hk
  rw [← this]
  simp [List.getD, List.getElem?_eq_getElem hkm]
theorem byte_range (s : ByteArray) (k : Nat) : 0 ≤ (bytesOf s).getD k 0 ∧ (bytesOf s).getD k 0 ≤ 255 := by
  unfold bytesOf
  rw [List.getD, List.getElem?_map]
  cases h : s.data.toList[k]? with
  | none => simp
  | some b =>
    have := b.toNat_lt
    simp
    omega
set_option maxHeartbeats 4000000 in
set_option maxRecDepth 100000 in
theorem lower_walk (s : ByteArray) (w : World) (hs : s.size ≤ 1000000000) : Calls Tryd.prog 10 #[.string s] w fun e w' => e = .returned (.string (lowered s)) ∧ Below w.heap.size w w' := by
  have kc := fun (w : World) (s : ByteArray) => Lib.run_convert_string_bytes (P := Tryd.prog) w 9 22 5 s Tryd.underlying9 Tryd.underlying22 Tryd.underlying5
  go_enter Tryd.func10, Tryd.ntmps10
  go_wp2
  have hrow := BRow.new w s
  have hbel := Joins.below_bytesWorld w.heap.size w 5 s (Nat.le_refl _)
  generalize Lib.bytesWorld w 5 s = w1 at hrow hbel ⊢
  obtain ⟨cap, hcap⟩ : ∃ c, grownCap w s.size 0 5 = c := ⟨_, rfl⟩
  rw [hcap]
  obtain ⟨g, hg⟩ : ∃ g, w.heap.size = g := ⟨_, rfl⟩
  rw [hg] at hrow ⊢
  have HG := Aside0.mk hg
  have HI := Aside0.mk (And.intro hrow (show Below w.heap.size w w1 by rw [hg] at hbel ⊢; exact hbel))
  clear hrow hbel hcap hg
  obtain ⟨n, hn⟩ : ∃ n, s.size = n := ⟨_, rfl⟩
  rw [hn] at hs HI ⊢
  have HN := Aside0.mk hn
  clear hn
  go_loopw [10] (fun i wr => ∃ (k : Nat), k ≤ n ∧ i = .int .i64 k ∧ Aside0 (BRow wr g n (mixed s k)) ∧ Aside0 (Below w.heap.size w wr)) (fun i _ => n - (intOf i).toNat)
  case atStart => exact ⟨0, Nat.zero_le _, rfl, ⟨by rw [mixed_zero]; exact HI.out.1⟩, ⟨HI.out.2⟩⟩
  case round =>
    obtain ⟨k, hk, rfl, HR, HW⟩ := hrel
    clear HI kc
    by_cases hlt : k < n
    · have hks : k < s.size := by rw [HN.out]; exact hlt
      have hcell := HR.out.cell k hlt
      have hfro := HR.out.frozen k hlt
      rw [mixed_get s k hks] at hcell
      have hrg := byte_range s k
      have HS := Aside0.mk (mixed_set s k hks)
      have HM := Aside0.mk (mixed_same s k hks)
      generalize (bytesOf s).getD k 0 = x at hcell hrg HS HM
      have p1 : ((k : Int) < (n : Int)) = True := by simpa using hlt
      have p2 : (0 ≤ (k : Int)) = True := by simp
      clear hks
      by_cases h65 : 65 ≤ x
      · by_cases h90 : x ≤ 90
        · have HL := Aside0.mk (show lowI x = x + 32 from if_pos ⟨h65, h90⟩)
          go_wp2
          go_roundw
          case rel => exact ⟨k + 1, by omega, by go_num, ⟨by rw [← HS.out, HL.out]; exact HR.out.set k (x + 32)⟩, ⟨HW.out.setCell (Nat.le_of_eq HG.out) _⟩⟩
          case measure => simp [intOf]; omega
        · have HL := Aside0.mk (show lowI x = x from if_neg (fun h => h90 h.2))
          go_wp2
          go_roundw
          case rel => exact ⟨k + 1, by omega, by go_num, ⟨by rw [← HM.out HL.out]; exact HR.out⟩, ⟨HW.out⟩⟩
          case measure => simp [intOf]; omega
      · have HL := Aside0.mk (show lowI x = x from if_neg (fun h => h65 h.1))
        go_wp2
        go_roundw
        case rel => exact ⟨k + 1, by omega, by go_num, ⟨by rw [← HM.out HL.out]; exact HR.out⟩, ⟨HW.out⟩⟩
        case measure => simp [intOf]; omega
    · have e : k = n := by omega
      subst e
      have hrow : BRow wr g k ((bytesOf s).map lowI) := by rw [← mixed_all s, HN.out]; exact HR.out
      have kd := run_convert_bytes_arg (P := Tryd.prog) wr 22 5 Tryd.underlying22 Tryd.underlying5 g 0 k cap ((bytesOf s).map lowI) (by rw [List.length_map, bytesOf_length]; exact HN.out) (fun i hi => by rw [Nat.zero_add]; exact hrow.cell i hi) 9 Tryd.underlying9
      clear hrow
      go_wp2
      go_ret
      exact ⟨rfl, HW.out⟩
def lower_f (s : ByteArray) : Option ByteArray := if s.size ≤ 1000000000 then some (lowered s) else none
theorem lower_calls (a0 : ByteArray) (r : ByteArray) (w : World) (h : lower_f a0 = some r) : Calls Tryd.prog 10 #[.string a0] w fun e w' => e = .returned (.string r) ∧ Below w.heap.size w w' := by
  unfold lower_f at h
  split at h
  · cases h
    exact lower_walk a0 w (by assumption)
  · cases h
end Go.Proofs.YtpdhbpdfldfnhaaDoor.Rn
