/- The reference's Put of what is there, and the law's among, walked. -/
import Derived.Test.YtgeoibgohlpfjaaDoorPyOrders
set_option linter.unusedVariables false
set_option linter.unusedSimpArgs false
namespace Go.Proofs.YtgeoibgohlpfjaaDoor.Py
open Go Go.RowKit Go.Maps Go.Proofs.YtgeoibgohlpfjaaDoorW.PrintWords Go.Proofs.YtgeoibgohlpfjaaDoorW.PrintLast Go.Proofs.YtgeoibgohlpfjaaDoorW.PrintMore
set_option maxHeartbeats 4000000 in
set_option maxRecDepth 100000 in
/-- a text that is there is not put -/
theorem put_there {w : World} {A : Option Addr} {n c : Nat} {ss : List ByteArray} {s : ByteArray} (h : Strs w (.slice A n c) ss) (hl : ss.length < 4611686018427387904) (hm : s ∈ ss) :
    Calls Tryd.prog 27 #[.slice A n c, .string s] w fun e w' => e = .returned (.slice A n c) ∧ Below w.heap.size w w' := by
  have HM := Aside0.mk (memB_true hm)
  have HS := Aside0.mk (And.intro h hl)
  clear hm h hl
  go_enter Tryd.func27, Tryd.ntmps27
  go_wp2_with
    (go_at_call 33; refine (in_walk s _ ss w HS.out.1 HS.out.2).mono ?_; rintro e w1 ⟨rfl, hb1⟩; rw [HM.out]; have HA := Aside0.mk hb1; clear hb1)
  go_ret
  exact ⟨rfl, HA.out⟩
set_option maxHeartbeats 4000000 in
set_option maxRecDepth 100000 in
theorem among_walk (v u : Value) (xs ys : List ByteArray) (w : World) (hx : Strs w v xs) (hy : Strs w u ys) (hxl : xs.length < 4611686018427387904) (hyl : ys.length < 4611686018427387904) (hm : ∀ x ∈ xs, x ∈ ys) :
    Calls Tryd.prog 26 #[v, u] w fun e w' => e = .returned (.bool true) ∧ Below w.heap.size w w' := by
  obtain ⟨A, c, rfl, hr⟩ := hx.openB
  obtain ⟨B, d, rfl, hq⟩ := hy.openB
  have HY := Aside0.mk hy
  have HYL := Aside0.mk hyl
  clear hx hy hq
  go_enter Tryd.func26, Tryd.ntmps26
  go_wp2
  go_loopw [5] (fun i wr => ∃ (k : Nat), k ≤ xs.length ∧ i = .int .i64 k ∧ Aside0 (Below w.heap.size w wr)) (fun i _ => xs.length - (intOf i).toNat)
  case atStart => exact ⟨0, Nat.zero_le _, rfl, ⟨Below.refl _ _⟩⟩
  case round =>
    obtain ⟨k, hk, rfl, HW⟩ := hrel
    by_cases hlt : k < xs.length
    · obtain ⟨ad, rfl, hcx⟩ := Kd.at_string (Kd.C_below hr HW.out) k (by omega) (by exact_mod_cast hlt)
      have hmem := hm _ (rd_mem xs k hlt)
      generalize rdOf ByteArray.empty xs k = t at hcx hmem
      have HM := Aside0.mk hmem
      clear hmem
      have p1 : ((k : Int) < (xs.length : Int)) = True := by simpa using hlt
      have p2 : (0 ≤ (k : Int)) = True := by simp
      simp only [Int.toNat_natCast] at hcx
      clear hyl
      generalize ys.length = m at HY ⊢
      go_wp2_with (first
        | (go_at_call 27; (with_reducible refine (put_there (HY.out.below HW.out) HYL.out HM.out).mono ?_); rintro e w1 ⟨rfl, hb1⟩; have HA := Aside0.mk (below_step HW.out hb1); clear hb1)
        | (go_at_call 20; refine (texts_walk _ _ ys ys w1 (HY.out.below HA.out) (HY.out.below HA.out) HYL.out HYL.out).mono ?_; rintro e w2 ⟨rfl, hb2⟩; rw [decide_eq_true rfl]; have HB := Aside0.mk (below_step HA.out hb2); clear hb2))
      go_roundw
      case rel => exact ⟨k + 1, by omega, by go_num, ⟨HB.out⟩⟩
      case measure => simp [intOf]; omega
    · have e : k = xs.length := by omega
      subst e
      go_wp2
      go_ret
      exact ⟨rfl, HW.out⟩
end Go.Proofs.YtgeoibgohlpfjaaDoor.Py
