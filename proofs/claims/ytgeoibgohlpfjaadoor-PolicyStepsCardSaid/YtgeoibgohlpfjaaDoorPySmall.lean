/- Small functions of policies, the program's and the document's, walked. -/
import Derived.Test.YtgeoibgohlpfjaaDoorPyBase
set_option linter.unusedVariables false
set_option linter.unusedSimpArgs false
namespace Go.Proofs.YtgeoibgohlpfjaaDoor.Py
open Go Go.RowKit Go.Proofs.YtgeoibgohlpfjaaDoorW.PrintWords Go.Proofs.YtgeoibgohlpfjaaDoorW.PrintLast Go.Proofs.YtgeoibgohlpfjaaDoorW.PrintMore
theorem toList_ne {a b : ByteArray} (h : a ≠ b) : a.toList ≠ b.toList := fun e => h (by rw [ByteArray.toList_eq, ByteArray.toList_eq] at e; exact tl_inj e)
theorem beq_false {a b : ByteArray} (h : a ≠ b) : (a.toList == b.toList) = false := beq_eq_false_iff_ne.mpr (toList_ne h)
theorem bne_true {a b : ByteArray} (h : a ≠ b) : (a.toList != b.toList) = true := bne_iff_ne.mpr (toList_ne h)
/-- does a text stand in a list? -/
def memB (s : ByteArray) (ss : List ByteArray) : Bool := ss.any fun t => decide (t = s)
theorem memB_iff (s : ByteArray) (ss : List ByteArray) : memB s ss = true ↔ s ∈ ss := by
  unfold memB
  rw [List.any_eq_true]
  constructor
  · rintro ⟨t, ht, h⟩
    have := of_decide_eq_true h
    rwa [← this]
  · exact fun h => ⟨s, h, by simp⟩
theorem memB_true {s : ByteArray} {ss : List ByteArray} (h : s ∈ ss) : memB s ss = true := (memB_iff s ss).2 h
theorem memB_false {s : ByteArray} {ss : List ByteArray} (h : s ∉ ss) : memB s ss = false := by
  cases e : memB s ss with
  | false => rfl
  | true => exact absurd ((memB_iff s ss).1 e) h
theorem not_in_snoc {s : ByteArray} {ss : List ByteArray} {k : Nat} (hk : k < ss.length) (h : s ∉ ss.take k) (hne : rdOf ByteArray.empty ss k ≠ s) : s ∉ ss.take (k + 1) := by
  rw [take_snoc ss k hk]
  simp only [List.mem_append, List.mem_singleton]
  rintro (h1 | h1)
  · exact h h1
  · exact hne h1.symm
set_option maxHeartbeats 4000000 in
set_option maxRecDepth 100000 in
theorem in_walk (s : ByteArray) (v : Value) (ss : List ByteArray) (w : World) (hr : Strs w v ss) (hl : ss.length < 4611686018427387904) :
    Calls Tryd.prog 33 #[.string s, v] w fun e w' => e = .returned (.bool (memB s ss)) ∧ Below w.heap.size w w' := by
  obtain ⟨A, c, rfl, hc, hr⟩ := hr
  go_enter Tryd.func33, Tryd.ntmps33
  go_wp2
  go_loop [5] (fun i => ∃ k : Nat, k ≤ ss.length ∧ i = .int .i64 k ∧ s ∉ ss.take k) (fun i => ss.length - (intOf i).toNat)
  case atStart => exact ⟨0, Nat.zero_le _, rfl, by simp⟩
  case round =>
    obtain ⟨k, hk, rfl, hni⟩ := hrel
    by_cases hlt : k < ss.length
    · obtain ⟨ad, rfl, hcx⟩ := Kd.at_string hr k (by omega) (by exact_mod_cast hlt)
      have hmem := rd_mem ss k hlt
      have hno := fun h => not_in_snoc hlt hni h
      generalize rdOf ByteArray.empty ss k = t at hcx hmem hno
      have p1 : ((k : Int) < (ss.length : Int)) = True := by simpa using hlt
      have p2 : (0 ≤ (k : Int)) = True := by simp
      simp only [Int.toNat_natCast] at hcx
      by_cases hts : t = s
      · subst hts
        have HM := Aside0.mk hmem
        clear hmem hno hni
        go_wp2
        go_ret
        exact ⟨by rw [memB_true HM.out]; rfl, Below.refl _ _⟩
      · have hb := beq_false hts
        have HN := Aside0.mk (hno hts)
        clear hno hni hts hmem
        go_wp2
        go_round
        case rel => exact ⟨k + 1, by omega, by go_num, HN.out⟩
        case measure => simp [intOf]; omega
    · have e : k = ss.length := by omega
      subst e
      rw [List.take_length] at hni
      have HN := Aside0.mk hni
      clear hni
      go_wp2
      go_ret
      exact ⟨by rw [memB_false HN.out]; rfl, Below.refl _ _⟩
set_option maxHeartbeats 4000000 in
set_option maxRecDepth 100000 in
theorem has_walk (s : ByteArray) (v : Value) (ss : List ByteArray) (w : World) (hr : Strs w v ss) (hl : ss.length < 4611686018427387904) :
    Calls Tryd.prog 25 #[v, .string s] w fun e w' => e = .returned (.bool (memB s ss)) ∧ Below w.heap.size w w' := by
  obtain ⟨A, c, rfl, hc, hr⟩ := hr
  go_enter Tryd.func25, Tryd.ntmps25
  go_wp2
  go_loop [5] (fun i => ∃ k : Nat, k ≤ ss.length ∧ i = .int .i64 k ∧ s ∉ ss.take k) (fun i => ss.length - (intOf i).toNat)
  case atStart => exact ⟨0, Nat.zero_le _, rfl, by simp⟩
  case round =>
    obtain ⟨k, hk, rfl, hni⟩ := hrel
    by_cases hlt : k < ss.length
    · obtain ⟨ad, rfl, hcx⟩ := Kd.at_string hr k (by omega) (by exact_mod_cast hlt)
      have hmem := rd_mem ss k hlt
      have hno := fun h => not_in_snoc hlt hni h
      generalize rdOf ByteArray.empty ss k = t at hcx hmem hno
      have p1 : ((k : Int) < (ss.length : Int)) = True := by simpa using hlt
      have p2 : (0 ≤ (k : Int)) = True := by simp
      simp only [Int.toNat_natCast] at hcx
      by_cases hts : t = s
      · subst hts
        have HM := Aside0.mk hmem
        clear hmem hno hni
        go_wp2
        go_ret
        exact ⟨by rw [memB_true HM.out]; rfl, Below.refl _ _⟩
      · have hb := beq_false hts
        have HN := Aside0.mk (hno hts)
        clear hno hni hts hmem
        go_wp2
        go_round
        case rel => exact ⟨k + 1, by omega, by go_num, HN.out⟩
        case measure => simp [intOf]; omega
    · have e : k = ss.length := by omega
      subst e
      rw [List.take_length] at hni
      have HN := Aside0.mk hni
      clear hni
      go_wp2
      go_ret
      exact ⟨by rw [memB_false HN.out]; rfl, Below.refl _ _⟩
theorem alike_snoc {ss tt : List ByteArray} {k : Nat} (h1 : k < ss.length) (h2 : k < tt.length) (h : ss.take k = tt.take k) (he : rdOf ByteArray.empty ss k = rdOf ByteArray.empty tt k) : ss.take (k + 1) = tt.take (k + 1) := by
  rw [take_snoc ss k h1, take_snoc tt k h2, h, he]
theorem unlike {ss tt : List ByteArray} {k : Nat} (he : rdOf ByteArray.empty ss k ≠ rdOf ByteArray.empty tt k) : ss ≠ tt := fun e => he (by rw [e])
set_option maxHeartbeats 4000000 in
set_option maxRecDepth 100000 in
theorem texts_walk (v u : Value) (ss tt : List ByteArray) (w : World) (hr : Strs w v ss) (hu : Strs w u tt) (hl : ss.length < 4611686018427387904) (hl2 : tt.length < 4611686018427387904) :
    Calls Tryd.prog 20 #[v, u] w fun e w' => e = .returned (.bool (decide (ss = tt))) ∧ Below w.heap.size w w' := by
  obtain ⟨A, c, rfl, hc, hr⟩ := hr
  obtain ⟨B, d, rfl, hd, hu⟩ := hu
  by_cases hlen : ss.length = tt.length
  · rw [← hlen] at hu
    rw [← hlen]
    go_enter Tryd.func20, Tryd.ntmps20
    go_wp2
    go_loopw [5] (fun i wr => ∃ k : Nat, k ≤ ss.length ∧ i = .int .i64 k ∧ ss.take k = tt.take k ∧ Below w.heap.size w wr) (fun i _ => ss.length - (intOf i).toNat)
    case atStart => exact ⟨0, Nat.zero_le _, rfl, by simp, Below.refl _ _⟩
    case round =>
      obtain ⟨k, hk, rfl, hni, hnx⟩ := hrel
      have HX := Aside0.mk hnx
      by_cases hlt : k < ss.length
      · obtain ⟨ad, rfl, hcx⟩ := Kd.at_string (Kd.C_below hr hnx) k (by omega) (by exact_mod_cast hlt)
        obtain ⟨bd, rfl, hcy⟩ := Kd.at_string (Kd.C_below hu hnx) k (by omega) (by exact_mod_cast hlt)
        have hno := fun h => alike_snoc hlt (by omega) hni h
        have hun := @unlike ss tt k
        generalize rdOf ByteArray.empty ss k = s at hcx hno hun
        generalize rdOf ByteArray.empty tt k = t at hcy hno hun
        have p1 : ((k : Int) < (ss.length : Int)) = True := by simpa using hlt
        have p2 : (0 ≤ (k : Int)) = True := by simp
        simp only [Int.toNat_natCast] at hcx hcy
        by_cases hts : s = t
        · subst hts
          have HM := Aside0.mk (hno rfl)
          clear hno hni hun hnx hlen
          go_wp2
          go_quiet (fail)
          go_wp2
          go_roundw
          case rel => exact ⟨k + 1, by omega, by go_num, HM.out, pw_below_drewN HX.out _⟩
          case measure => simp [intOf]; omega
        · have hb := beq_false hts
          have hb2 := bne_true hts
          have HN := Aside0.mk (hun hts)
          clear hno hni hts hun hnx hlen
          go_wp2
          go_quiet (fail)
          go_wp2
          go_ret
          exact ⟨by rw [decide_eq_false HN.out]; rfl, pw_below_drewN HX.out _⟩
      · have e : k = ss.length := by omega
        subst e
        rw [List.take_length, hlen, List.take_length] at hni
        have HN := Aside0.mk hni
        clear hni hnx hlen
        go_wp2
        go_ret
        exact ⟨by rw [decide_eq_true HN.out]; rfl, HX.out⟩
  · have HN := Aside0.mk (show ss ≠ tt from fun e => hlen (by rw [e]))
    have hb : (((ss.length : Nat) : Int) == ((tt.length : Nat) : Int)) = false := by simpa using (by exact_mod_cast hlen : ¬ ((ss.length : Nat) : Int) = ((tt.length : Nat) : Int))
    have hb2 : (((ss.length : Nat) : Int) != ((tt.length : Nat) : Int)) = true := by simpa using (by exact_mod_cast hlen : ¬ ((ss.length : Nat) : Int) = ((tt.length : Nat) : Int))
    go_enter Tryd.func20, Tryd.ntmps20
    go_wp2
    go_ret
    exact ⟨by rw [decide_eq_false HN.out]; rfl, Below.refl _ _⟩
end Go.Proofs.YtgeoibgohlpfjaaDoor.Py
