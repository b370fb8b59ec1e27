/- The law's live: the page's examples, walked. -/
import Derived.Test.YtgeoibgohlpfjaaDoorPyChain
set_option linter.unusedVariables false
set_option linter.unusedSimpArgs false
namespace Go.Proofs.YtgeoibgohlpfjaaDoor.Py
open Go Go.RowKit Go.Maps Go.Proofs.YtgeoibgohlpfjaaDoorW.PrintWords Go.Proofs.YtgeoibgohlpfjaaDoorW.PrintLast Go.Proofs.YtgeoibgohlpfjaaDoorW.PrintMore
theorem strs_block {w : World} {b : Nat} {l : List ByteArray} {fr : Nat × Nat} (h : w.heap[b]? = some (.cells (l.map Value.string).toArray 9 fr)) (hl : l.length ≤ 9223372036854775807) : Strs w (.slice (some ⟨b, 0, none⟩) l.length l.length) l := by
  refine ⟨_, _, rfl, Nat.le_refl _, ⟨rfl, hl, fun _ => ⟨_, rfl, fun j p hp => ⟨[.string p], rfl, rfl, fun i u hu => ?_⟩⟩⟩⟩
  have hi : i = 0 := by
    have := (List.getElem?_eq_some_iff.1 hu).1
    simp at this
    omega
  subst hi
  cases hu
  show w.cell? ((⟨b, 0, none⟩ : Addr).add (j * Kd.string.sz + 0)) = _
  have e2 : (⟨b, 0, none⟩ : Addr).add (j * Kd.string.sz + 0) = ⟨b, j, none⟩ := by
    show (⟨b, 0, none⟩ : Addr).add (j * 1 + 0) = _
    simp [Addr.add]
    omega
  rw [e2, cell_of_row w b j _ _ _ h]
  simp [hp]
theorem bits_one {w : World} {b : Nat} {fr : Nat × Nat} {pv : Value} {x : Cb} (h : w.heap[b]? = some (.cells #[pv, .int .i64 x.req, .int .i64 x.inh, .bool x.own] 30 fr)) (hs : Strs w pv (x.pol.map bs)) : Bits w (.slice (some ⟨b, 0, none⟩) 1 1) [x] := by
  refine ⟨_, _, rfl, Nat.le_refl _, by simp, fun _ => ⟨_, rfl, fun k c hk => ?_⟩⟩
  have hk0 : k = 0 := by
    have := (List.getElem?_eq_some_iff.1 hk).1
    simp at this
    omega
  subst hk0
  cases hk
  have e : (⟨b, 0, none⟩ : Addr).add (0 * 4) = ⟨b, 0, none⟩ := by simp [Addr.add]
  rw [e]
  exact ⟨pv, by rw [cell_of_row w b 0 _ _ _ h]; rfl, by rw [cell_of_row w b (0 + 1) _ _ _ h]; rfl, by rw [cell_of_row w b (0 + 2) _ _ _ h]; rfl, by rw [cell_of_row w b (0 + 3) _ _ _ h]; rfl, hs⟩
abbrev s123 : S := [49, 46, 50, 46, 51]
abbrev s124 : S := [49, 46, 50, 46, 52]
abbrev s125 : S := [49, 46, 50, 46, 53]
abbrev cA : Cb := ⟨[s123, s124], -1, -1, false⟩
abbrev cB : Cb := ⟨[], -1, -1, false⟩
theorem norm_one (s : S) : norm [s] = [s] := norm_id (by simp [SS])
theorem runA : runV [cA] [s124, s125] true false = some [s124] := by
  show (stepV (startV 1 true false) cA true).bind (fun q => endV q cA [s124, s125]) = _
  have h1 : stepV (startV 1 true false) cA true = some ⟨norm [s123, s124], 0, 2⟩ := by
    unfold stepV
    rw [if_neg (by decide)]
    have e : gather (startV 1 true false).set (startV 1 true false).any cA.pol cA.own true = [s123, s124] := by decide
    rw [e]
    rfl
  rw [h1, Option.bind_some]
  have h2 : norm [s123, s124] = [s123, s124] := norm_id (by simp [SS, lt']; decide)
  rw [h2]
  unfold endV
  rw [if_neg (by decide)]
  have e : asked [s123, s124] [s124, s125] = [s124] := by decide
  show some (norm (asked [s123, s124] [s124, s125])) = _
  rw [e, norm_one]
theorem runB1 : runV [cB] [] true false = none := by
  show (stepV (startV 1 true false) cB true).bind (fun q => endV q cB []) = _
  unfold stepV
  rw [if_pos (by decide)]
  rfl
theorem runB2 : runV [cB] [] false false = some [] := by
  show (stepV (startV 1 false false) cB true).bind (fun q => endV q cB []) = _
  have h1 : stepV (startV 1 false false) cB true = some ⟨norm [], 2, 2⟩ := by
    unfold stepV
    rw [if_neg (by decide)]
    have e : gather (startV 1 false false).set (startV 1 false false).any cB.pol cB.own true = [] := by decide
    rw [e]
    rfl
  rw [h1, Option.bind_some, norm_nil]
  unfold endV
  rw [if_neg (by decide)]
  show some (norm (asked [] [])) = _
  have e : asked [] [] = [] := by decide
  rw [e, norm_nil]
theorem run_at {w : World} {v uv : Value} {l : List Cb} {user : List S} {ex inh : Bool} {r : Option (List S)} (hr : runV l user ex inh = r) (hv : Certs w v l) (hu : Strs w uv (user.map bs)) (hl : l.length ≤ 30) (hpol : ∀ c ∈ l, c.pol.length ≤ 1000 ∧ FitS c.pol) (hul : user.length ≤ 1000000) (fu : FitS user) :
    Calls Tryd.prog 21 #[v, uv, .bool ex, .bool inh] w (EndPost r w) := by
  rw [← hr]
  exact run_walk v uv l user ex inh w hv hu hl hpol hul fu
theorem pol_A : ∀ c ∈ [cA], c.pol.length ≤ 1000 ∧ FitS c.pol := by
  intro c hc
  simp at hc
  subst hc
  refine ⟨by decide, fun s hs => ?_⟩
  simp at hs
  rcases hs with rfl | rfl <;> decide
theorem pol_B : ∀ c ∈ [cB], c.pol.length ≤ 1000 ∧ FitS c.pol := by
  intro c hc
  simp at hc
  subst hc
  exact ⟨by decide, fun s hs => by simp at hs⟩
abbrev t123 : ByteArray := ⟨#[49, 46, 50, 46, 51]⟩
abbrev t124 : ByteArray := ⟨#[49, 46, 50, 46, 52]⟩
abbrev t125 : ByteArray := ⟨#[49, 46, 50, 46, 53]⟩
theorem chain_a (w : World) : Calls Tryd.prog 22 #[.slice (some ⟨w.heap.size + 1, 0, none⟩) 1 1] ((w.alloc (.cells #[.string t123, .string t124] 9)).alloc (.cells #[.slice (some ⟨w.heap.size, 0, none⟩) 2 2, .int .i64 (-1), .int .i64 (-1), .bool false] 30))
    fun e w' => ∃ v', e = .returned v' ∧ Certs w' v' [cA] ∧ Below w.heap.size w w' := by
  have h1 : Strs (w.alloc (.cells #[.string t123, .string t124] 9)) (.slice (some ⟨w.heap.size, 0, none⟩) 2 2) [t123, t124] := strs_block (l := [t123, t124]) (blk_new w _) (by simp)
  have h2 := blk_new (w.alloc (.cells #[.string t123, .string t124] 9)) (.cells #[.slice (some ⟨w.heap.size, 0, none⟩) 2 2, .int .i64 (-1), .int .i64 (-1), .bool false] 30)
  rw [World.size_alloc] at h2
  exact (chain_walk _ [cA] _ (bits_one (x := cA) h2 (h1.below (below_alloc (Below.refl _ _) _))) (by simp)).mono fun e w' ⟨v', he, hc, hb⟩ => ⟨v', he, hc, below_step (below_alloc (below_alloc (Below.refl _ _) _) _) hb⟩
theorem chain_b (w : World) : Calls Tryd.prog 22 #[.slice (some ⟨w.heap.size, 0, none⟩) 1 1] (w.alloc (.cells #[.slice none 0 0, .int .i64 (-1), .int .i64 (-1), .bool false] 30))
    fun e w' => ∃ v', e = .returned v' ∧ Certs w' v' [cB] ∧ Below w.heap.size w w' :=
  (chain_walk _ [cB] _ (bits_one (x := cB) (blk_new w _) (Strs.nil _)) (by simp)).mono fun e w' ⟨v', he, hc, hb⟩ => ⟨v', he, hc, below_step (below_alloc (Below.refl _ _) _) hb⟩
theorem run_a {w : World} {v : Value} (hv : Certs w v [cA]) : Calls Tryd.prog 21 #[v, .slice (some ⟨w.heap.size, 0, none⟩) 2 2, .bool true, .bool false] (w.alloc (.cells #[.string t124, .string t125] 9)) fun e w' => ∃ A c, e = .returned (.tuple #[.slice A 1 c, .bool true]) ∧ Strs w' (.slice A 1 c) [t124] ∧ Below w.heap.size w w' :=
  (run_at runA (hv.below (below_alloc (Below.refl _ _) _)) (strs_block (l := [t124, t125]) (blk_new w _) (by simp)) (by simp) pol_A (by simp) (fun s hs => by
    simp at hs
    rcases hs with rfl | rfl <;> decide)).mono fun e w' ⟨⟨v', he, hs⟩, hb⟩ => by
    obtain ⟨A, c, rfl, hc, hr⟩ := hs
    exact ⟨A, c, he, ⟨A, c, rfl, hc, hr⟩, below_step (below_alloc (Below.refl _ _) _) hb⟩
theorem run_b1 {w : World} {v : Value} (hv : Certs w v [cB]) : Calls Tryd.prog 21 #[v, .slice none 0 0, .bool true, .bool false] w fun e w' => e = .returned (.tuple #[.slice none 0 0, .bool false]) ∧ Below w.heap.size w w' :=
  (run_at runB1 hv (Strs.nil _) (by simp) pol_B (by simp) (fun s hs => by simp at hs)).mono fun e w' ⟨he, hb⟩ => ⟨he, hb⟩
theorem run_b2 {w : World} {v : Value} (hv : Certs w v [cB]) : Calls Tryd.prog 21 #[v, .slice none 0 0, .bool false, .bool false] w fun e w' => ∃ A c, e = .returned (.tuple #[.slice A 0 c, .bool true]) ∧ Below w.heap.size w w' :=
  (run_at runB2 hv (Strs.nil _) (by simp) pol_B (by simp) (fun s hs => by simp at hs)).mono fun e w' ⟨⟨v', he, hs⟩, hb⟩ => by
    obtain ⟨A, c, rfl, hc, hr⟩ := hs
    exact ⟨A, c, he, hb⟩
theorem texts_one {w : World} {A : Option Addr} {c : Nat} (hs : Strs w (.slice A 1 c) [t124]) : Calls Tryd.prog 20 #[.slice A 1 c, .slice (some ⟨w.heap.size, 0, none⟩) 1 1] (w.alloc (.cells #[.string t124] 9)) fun e w' => e = .returned (.bool true) ∧ Below w.heap.size w w' := by
  have h := texts_walk _ _ [t124] [t124] _ (hs.below (below_alloc (Below.refl w.heap.size w) (.cells #[.string t124] 9))) (strs_block (l := [t124]) (blk_new w _) (by simp)) (by simp) (by simp)
  rw [decide_eq_true rfl] at h
  exact h.mono fun e w' ⟨he, hb⟩ => ⟨he, below_step (below_alloc (Below.refl _ _) _) hb⟩
set_option maxHeartbeats 8000000 in
set_option maxRecDepth 100000 in
theorem live_walk (w : World) : Calls Tryd.prog 13 #[] w fun e w' => e = .returned (.bool true) ∧ Below w.heap.size w w' := by
  go_enter Tryd.func13, Tryd.ntmps13
  go_wp2_with (first
    | (go_at_call 22; (with_reducible refine (chain_a w).mono ?_); rintro e w1 ⟨va, rfl, ha, hb1⟩; have HA := Aside0.mk (And.intro ha hb1); clear ha hb1)
    | (go_at_call 22; (with_reducible refine (chain_b w1).mono ?_); rintro e w2 ⟨vb, rfl, hvb, hb2⟩
       have HB := Aside0.mk (And.intro hvb (And.intro (HA.out.1.below hb2) (below_step HA.out.2 hb2)))
       clear hvb hb2)
    | (go_at_call 21; (with_reducible refine (run_a HB.out.2.1).mono ?_); rintro e w3 ⟨A1, c1, rfl, hs3, hb3⟩
       have HC := Aside0.mk (And.intro (HB.out.1.below hb3) (And.intro hs3 (below_step HB.out.2.2 hb3)))
       clear hs3 hb3)
    | (go_at_call 21; (with_reducible refine (run_b1 HC.out.1).mono ?_); rintro e w4 ⟨rfl, hb4⟩
       have HD := Aside0.mk (And.intro (HC.out.1.below hb4) (And.intro (HC.out.2.1.below hb4) (below_step HC.out.2.2 hb4)))
       clear hb4)
    | (go_at_call 21; (with_reducible refine (run_b2 HD.out.1).mono ?_); rintro e w5 ⟨A2, c2, rfl, hb5⟩
       have HE := Aside0.mk (And.intro (HD.out.2.1.below hb5) (below_step HD.out.2.2 hb5))
       clear hb5)
    | (go_at_call 20; (with_reducible refine (texts_one HE.out.1).mono ?_); rintro e w6 ⟨rfl, hb6⟩
       have HF := Aside0.mk (below_step HE.out.2 hb6)
       clear hb6))
  go_ret
  exact ⟨rfl, HF.out⟩
end Go.Proofs.YtgeoibgohlpfjaaDoor.Py
