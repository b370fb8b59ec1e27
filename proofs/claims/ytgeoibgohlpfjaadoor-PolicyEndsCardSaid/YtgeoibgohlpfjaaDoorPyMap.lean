/- policy.set walked: what the map that it makes says of each text: how often it stands in the list. -/
import Derived.Test.YtgeoibgohlpfjaaDoorPyHead
set_option linter.unusedVariables false
set_option linter.unusedSimpArgs false
namespace Go.Proofs.YtgeoibgohlpfjaaDoor.Py
open Go Go.RowKit Go.WideMaps Go.Maps Go.Proofs.YtgeoibgohlpfjaaDoorW.PrintWords Go.Proofs.YtgeoibgohlpfjaaDoorW.PrintLast Go.Proofs.YtgeoibgohlpfjaaDoorW.PrintMore

theorem law : Keyed Tryd.prog 9 := string_keyed Tryd.underlying9
theorem zero3 (w : World) : (zeroValue 3).run Tryd.prog w = .ok (.int .i64 0) w := by kernel_rfl

/-- a text as a key -/
def kl (s : ByteArray) : Lit := .string s.data.toList
theorem kl_inj {s t : ByteArray} (h : kl s = kl t) : s = t := by
  unfold kl at h
  injection h with h
  cases s; cases t
  congr
  exact Array.toList_inj.1 h
theorem kl_key (s : ByteArray) : WideAt.IsKeyLit (kl s) := trivial
/-- how often a text stands in a list -/
def cnt (ss : List ByteArray) (s : ByteArray) : Nat := ss.countP fun t => decide (t = s)
theorem cnt_le (ss : List ByteArray) (s : ByteArray) : cnt ss s ≤ ss.length := List.countP_le_length
theorem cnt_pos (ss : List ByteArray) (s : ByteArray) : 0 < cnt ss s ↔ s ∈ ss := by
  unfold cnt
  rw [List.countP_pos_iff]
  simp
theorem cnt_snoc (ss : List ByteArray) (t s : ByteArray) : cnt (ss ++ [t]) s = cnt ss s + if t = s then 1 else 0 := by
  unfold cnt
  rw [List.countP_append]
  simp [List.countP_cons]

abbrev I (z : Int) : DataW Unit := .lit (.int .i64 z)
theorem I_inj {a b : Int} (h : I a = I b) : a = b := by
  injection h with h
  injection h with _ h
/-- what the map reads as -/
structure Tells (D : DataW Unit) (ss : List ByteArray) : Prop where
  map : IsMap D
  at_ : ∀ s, D.atKey (kl s) (I 0) = I (cnt ss s)
  only : ∀ k, Maps.has D k = true → ∃ s ∈ ss, k = kl s
  all : ∀ s ∈ ss, Maps.has D (kl s) = true
theorem Tells.empty : Tells (.map []) [] where
  map := isMap_empty
  at_ := fun s => rfl
  only := fun k h => by cases h
  all := fun s h => by cases h
theorem Tells.step {D : DataW Unit} {ss : List ByteArray} (h : Tells D ss) (s : ByteArray) : Tells (D.put (kl s) (I (cnt ss s + 1 : Nat))) (ss ++ [s]) where
  map := h.map.put _ _
  at_ := fun t => by
    by_cases e : t = s
    · subst e
      rw [atKey_put_same h.map (kl_key _), cnt_snoc]
      simp
    · rw [atKey_put_other (fun e2 => e (kl_inj e2)), h.at_, cnt_snoc, if_neg (fun e2 => e e2.symm)]
      rfl
  only := fun k hk => by
    by_cases e : k = kl s
    · exact ⟨s, by simp, e⟩
    · rw [has_put_other e] at hk
      obtain ⟨t, ht, e2⟩ := h.only k hk
      exact ⟨t, by simp [ht], e2⟩
  all := fun t ht => by
    by_cases e : t = s
    · subst e
      exact has_put_same h.map (kl_key _) _
    · rw [has_put_other (fun e2 => e (kl_inj e2))]
      exact h.all t (by
        rcases List.mem_append.1 ht with h1 | h1
        · exact h1
        · simp at h1
          exact absurd h1 e)

/-- a block that is a map telling of a list -/
def MapIs (w : World) (b : Nat) (ss : List ByteArray) : Prop := ∃ D, w.ownsMap Tryd.prog 9 (plainElem Tryd.prog 3) b ss.length D ∧ Tells D ss
theorem MapIs.kept {w w' : World} {b : Nat} {ss : List ByteArray} {row : Option Nat} (h : MapIs w b ss) (hg : w.grownBy w' row) (hne : some b ≠ row) : MapIs w' b ss := by
  obtain ⟨D, h1, h2⟩ := h
  exact ⟨D, h1.kept hg hne, h2⟩
theorem MapIs.lt {w : World} {b : Nat} {ss : List ByteArray} (h : MapIs w b ss) : b < w.heap.size := by
  obtain ⟨D, h1, h2⟩ := h
  exact h1.lt
theorem MapIs.below {w w' : World} {b : Nat} {ss : List ByteArray} (h : MapIs w b ss) (hb : Below w.heap.size w w') : MapIs w' b ss :=
  h.kept (row := none) ⟨hb.os, hb.tape, hb.output, hb.size, fun k hk _ => hb.block k hk⟩ (by simp)
def Fits (ss : List ByteArray) : Prop := ∀ s ∈ ss, s.size ≤ maxLen
theorem key_of {s : ByteArray} (hs : s.size ≤ maxLen) : keyOf Tryd.prog 9 (.string s) = some (kl s) := keyOf_string_mk Tryd.underlying9 hs
theorem MapIs.look {w : World} {b : Nat} {ss : List ByteArray} (h : MapIs w b ss) {s : ByteArray} (hs : s.size ≤ maxLen) :
    (Instr.lookup 65 (.map (some b)) (.string s) false).run Tryd.prog w = .ok (.int .i64 (cnt ss s)) w := by
  obtain ⟨D, h1, h2⟩ := h
  obtain ⟨c, hrun, hat, _⟩ := h1.lookup_int law Tryd.underlying65 Tryd.underlying3 (zero3 _) (key_of hs)
  have hat2 : I (cnt ss s) = I c := (h2.at_ s).symm.trans hat
  rw [I_inj hat2]
  exact hrun

theorem size_take {α : Type} (l : List α) (n : Nat) (h : n ≤ l.length) : (l.take n).length = n := by simp; omega
theorem take_snoc (ss : List ByteArray) (k : Nat) (hk : k < ss.length) : ss.take (k + 1) = ss.take k ++ [rdOf ByteArray.empty ss k] := by
  rw [List.take_add_one, List.getElem?_eq_getElem hk]
  simp [rdOf, List.getD, List.getElem?_eq_getElem hk]
theorem rd_mem (ss : List ByteArray) (k : Nat) (hk : k < ss.length) : rdOf ByteArray.empty ss k ∈ ss := by
  simp [rdOf, List.getD, List.getElem?_eq_getElem hk]

theorem run_makeHint (n : Int) (w : World) : (Instr.makeMap 65 (some (.int .i64 n))).run Tryd.prog w = .ok (.map (some w.heap.size)) (w.alloc (.map #[] 0)) := by
  simp [Instr.makeMap, run_underlying Tryd.underlying65, asInt, asIntOf, Result.andThen]
set_option maxHeartbeats 4000000 in
set_option maxRecDepth 100000 in
theorem set_walk (A : Option Addr) (c : Nat) (ss : List ByteArray) (w : World) (hr : Kd.C Kd.string w A ss.length ss) (hf : Fits ss) (hl : ss.length < 4611686018427387904) :
    Calls Tryd.prog 29 #[.slice A ss.length c] w fun e w' => e = .returned (.map (some w.heap.size)) ∧ MapIs w' w.heap.size ss ∧ Below w.heap.size w w' := by
  have hmm := run_makeHint
  go_enter Tryd.func29, Tryd.ntmps29
  go_wp2
  go_loopw [11] (fun i wr => ∃ k : Nat, k ≤ ss.length ∧ i = .int .i64 k ∧ (∃ D, wr.ownsMap Tryd.prog 9 (plainElem Tryd.prog 3) w.heap.size k D ∧ Tells D (ss.take k)) ∧ Below w.heap.size w wr)
    (fun i _ => ss.length - (intOf i).toNat)
  case atStart => exact ⟨0, Nat.zero_le _, rfl, ⟨.map [], World.ownsMap_made _ _ _ _, by simpa using Tells.empty⟩, (Below.refl _ _).alloc (Nat.le_refl _) _⟩
  case round =>
    obtain ⟨k, hk, rfl, ⟨D, hown, htell⟩, hnx⟩ := hrel
    by_cases hlt : k < ss.length
    · obtain ⟨ad, rfl, hcx⟩ := Kd.at_string (Kd.C_below hr hnx) k (by omega) (by exact_mod_cast hlt)
      have hmem := rd_mem ss k hlt
      have htk := take_snoc ss k hlt
      generalize rdOf ByteArray.empty ss k = s at hcx hmem htk
      have hkey := key_of (hf s hmem)
      obtain ⟨c0, hrun, hat, _⟩ := hown.lookup_int law Tryd.underlying65 Tryd.underlying3 (zero3 _) hkey
      have hat2 : I (cnt (ss.take k) s) = I c0 := (htell.at_ s).symm.trans hat
      obtain rfl := I_inj hat2
      have hle := cnt_le (ss.take k) s
      have hwr : wrap64 ((cnt (ss.take k) s : Int) + 1) = ((cnt (ss.take k) s + 1 : Nat) : Int) := by
        rw [List.length_take] at hle
        have : ((cnt (ss.take k) s + 1 : Nat) : Int) = (cnt (ss.take k) s : Int) + 1 := by omega
        rw [this]
        unfold wrap64
        omega
      have T1 := htell.step s
      rw [← htk] at T1
      have e1 : ((cnt (ss.take k) s + 1 : Nat) : Int) = (cnt (ss.take k) s : Int) + 1 := by omega
      rw [e1] at T1
      have p1 : ((k : Int) < (ss.length : Int)) = True := by simpa using hlt
      have p2 : (0 ≤ (k : Int)) = True := by simp
      simp only [Int.toNat_natCast] at hcx
      go_wp2_with (first
        | (at_mapUpdate; refine wpList_mapUpdate_own _ rfl _ _ _ 65 rfl 9 3 law Tryd.underlying65 _ w.heap.size k _ rfl hown (by unfold maxLen; omega) _ _ _ rfl rfl hkey _ [] (plainElem_int Tryd.underlying3 (wrap64_wf _)) ?_)
        | go_in)
      intro w1 hown1 hgrow1
      have R2 := hnx.grown hgrow1 hnx.size (fun j hj => by cases hj; exact Nat.le_refl _)
      clear hown hrun hkey hgrow1
      go_wp2
      go_roundw
      case rel => exact ⟨k + 1, by omega, by go_num, ⟨_, hown1, T1⟩, R2⟩
      case measure => simp [intOf]; omega
    · have e : k = ss.length := by omega
      subst e
      go_wp2
      go_ret
      exact ⟨rfl, ⟨D, hown, by simpa using htell⟩, hnx⟩
end Go.Proofs.YtgeoibgohlpfjaaDoor.Py
