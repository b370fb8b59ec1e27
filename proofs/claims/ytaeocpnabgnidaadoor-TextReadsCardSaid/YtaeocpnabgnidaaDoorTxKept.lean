/- LentBytes and KeptBytes: the two bytes behind a lent slice are found again. (The two walks are the kit's printed ones, turned to what lies behind the slice.) -/
import Derived.Test.YtaeocpnabgnidaaDoorMx5
set_option linter.unusedVariables false
set_option linter.unusedSimpArgs false
namespace Go.Proofs.YtaeocpnabgnidaaDoor.Tx
open Go.RowKit Go.Proofs.YtaeocpnabgnidaaDoorW.PrintWords Go.Proofs.YtaeocpnabgnidaaDoorW.PrintLast Go.Proofs.YtaeocpnabgnidaaDoorW.PrintMore Go.Proofs.YtaeocpnabgnidaaDoor.M

theorem cut_cap {P : Program} (t e : TypeId) (kh : IntKind) {i : TypeInfo} (ht : P.underlying t = some (.slice e)) (hi : P.info? e = some i) (A : Option Addr) (n c : Nat) (j : Int) (h0 : 0 ≤ j) (hm : j ≤ c) :
    ∀ W : World, (Instr.slice t (.slice A n c) none (some (.int kh j)) none).run P W = .ok (.slice A j.toNat c) W := by
  intro W
  have hel : P.elem t = e := by simp [Program.elem, ht]
  have hu : P.underlying t = some (.slice (P.elem t)) := by rw [hel]; exact ht
  have ha : (A.map fun x => x.add 0) = A := by cases A <;> simp [Addr.add]
  rw [run_slice_h W t A n c hu kh j h0 hm, hel]
  simp [sizeOf, typeInfo, hi, sliced, Result.andThen, ha]

theorem C_cut {w : World} {A : Option Addr} {l : List Int} (h : Kd.C (Kd.int .u8) w A (l ++ [90, 165]).length (l ++ [90, 165])) : Kd.C (Kd.int .u8) w A l.length l := by
  have := (Kd.reads_of_C (enc := Value.int .u8) (d := (0 : Int)) (h1 := fun _ => rfl) h).take_ l.length (by rw [List.length_append]; omega)
  rw [List.take_left' rfl] at this
  exact Kd.C_of_reads (h1 := fun _ => rfl) this
set_option maxHeartbeats 8000000 in
set_option maxRecDepth 100000 in
theorem kept_calls (k : Nat) (A0 : Option Addr) (c0 : Nat) (l0 : List Int) (A1 : Option Addr) (c1 : Nat) (l1 : List Int) (r : Bool) (w : World) (hrL : Kd.C (Kd.int .u8) w A0 (l0 ++ [90, 165]).length (l0 ++ [90, 165])) (hcL : l0.length + 2 ≤ c0) (hs : l0.length ≤ 1000000) (hr1 : Kd.C (Kd.int .u8) w A1 l1.length l1) (hc1 : l1.length ≤ c1) (h : chirographref01_SameBytes.f k l0 l1 = some r) :
    Calls Tryd.prog 14 #[.slice A0 l0.length c0, .slice A1 l1.length c1] w fun e w' => e = .returned (.bool r) ∧ Drawn0 w w' := by
  have HR1 := Aside0.mk hr1
  have HC1 := Aside0.mk hc1
  have HC0 : Aside0 (l0.length ≤ c0) := Aside0.mk (by omega)
  have A6 := Aside0.mk h
  clear hr1 hc1 h
  obtain ⟨L, hL⟩ : ∃ L, l0 ++ [90, 165] = L := ⟨_, rfl⟩
  have hlen : L.length = l0.length + 2 := by rw [← hL]; simp
  have h90 : rd L (l0.length : Int) = 90 := by rw [← hL]; simp [rd, List.getD_eq_getElem?_getD]
  have h165 : rd L ((l0.length : Int) + 1) = 165 := by
    rw [← hL]
    have e : ((l0.length : Int) + 1).toNat = l0.length + 1 := by omega
    simp [rd, List.getD_eq_getElem?_getD, e]
  have HR0 : Aside0 (Kd.C (Kd.int .u8) w A0 l0.length l0) := Aside0.mk (C_cut hrL)
  rw [hL] at hrL
  have HR182 := Aside0.mk hrL
  clear hrL hL
  obtain ⟨ji3, hji3⟩ : ∃ j_ : Int, (wrap64 ((l0.length : Int) + 2)) = j_ := ⟨_, rfl⟩
  have hji3w : (IntKind.i64.wrap ((l0.length : Int) + 2)) = ji3 := (i64_w _).trans hji3
  have hj3 : ji3 = (l0.length : Int) + 2 := by rw [← hji3]; unfold wrap64; omega
  obtain ⟨ji11, hji11⟩ : ∃ j_ : Int, (wrap64 ((l0.length : Int) + 1)) = j_ := ⟨_, rfl⟩
  have hji11w : (IntKind.i64.wrap ((l0.length : Int) + 1)) = ji11 := (i64_w _).trans hji11
  have hj11 : ji11 = (l0.length : Int) + 1 := by rw [← hji11]; unfold wrap64; omega
  rw [← hj11] at h165
  obtain ⟨i014, hi014, _, hsz14, _⟩ := info_parts info5
  have hcut14 := cut_cap (P := Tryd.prog) 22 5 .i64 Tryd.underlying22 hi014 A0 l0.length c0 ji3 (by omega) (by omega)
  have e14 : ji3.toNat = L.length := by omega
  rw [e14] at hcut14
  clear hi014 hsz14 e14
  cases r with
  | true =>
    have c8b0 : decide (0 ≤ (l0.length : Int)) = true := decide_eq_true (by omega)
    have c9b0 : decide ((l0.length : Int) < (L.length : Int)) = true := decide_eq_true (by omega)
    have c9b1 : decide (l0.length < L.length) = true := decide_eq_true (by omega)
    have c10b0 : (rd L (l0.length : Int) == 90) = true := beq_iff_eq.mpr h90
    have c12b0 : decide (0 ≤ ji11) = true := decide_eq_true (by omega)
    have c13b0 : decide (ji11 < (L.length : Int)) = true := decide_eq_true (by omega)
    have c14b0 : (rd L ji11 == 165) = true := beq_iff_eq.mpr h165
    clear hj3 hj11 hlen h90 hcL hs
    go_enter Tryd.func14, Tryd.ntmps14
    go_wp2_with (first | ((with_reducible refine gate_callee (f := 24) rfl ?_); refine goesL_ (some 13) rfl rfl Tryd.func24 (by kernel_rfl) rfl #[.slice A0 l0.length c0, .slice A1 l1.length c1] rfl (by (try simp only [List.map_toArray, List.map_cons, List.map_nil]); first | done | rfl) ?_; (with_reducible refine (chirographref01_SameBytes.calls k _ _ l0 _ _ l1 true _ ?side1 ?side2 ?side3 ?side4 A6.out).mono ?_); (case side1 => exact HR0.out); (case side2 => exact HC0.out); (case side3 => exact HR1.out); (case side4 => exact HC1.out); rintro e w' ⟨rfl, ⟨nd, rfl⟩⟩; refine ⟨_, rfl, ?_⟩; have p184 : 0 ≤ ((l0.length : Int) : Int) := of_decide_eq_true (by first | (with_reducible assumption) | assumption); have q184 : (l0.length : Int) < (L.length : Int) := of_decide_eq_true (by first | (with_reducible assumption) | assumption); obtain ⟨ad184, e184, hx184_0⟩ := Kd.at_int HR182.out (l0.length : Int) p184 q184; cases e184; (try simp only [Go.IntWalk.toNatUp] at hx184_0); replace p184 := eq_true p184; replace q184 := eq_true q184; have p185 : 0 ≤ ((ji11) : Int) := of_decide_eq_true (by first | (with_reducible assumption) | assumption); have q185 : (ji11) < (L.length : Int) := of_decide_eq_true (by first | (with_reducible assumption) | assumption); obtain ⟨ad185, e185, hx185_0⟩ := Kd.at_int HR182.out (ji11) p185 q185; obtain rfl : ad184 = ad185 := (by injection e185); replace p185 := eq_true p185; replace q185 := eq_true q185))
    go_ret
    exact ⟨by first | rfl | (simp; done) | (simp only [← hji3, ← hji11] <;> (first | rfl | simp)) | (simp [*]; done), by repeat (first | exact Drawn0.refl _ | apply Drawn0.step)⟩
  | false =>
    clear hj3 hj11 hlen h90 h165 hcL hs
    go_enter Tryd.func14, Tryd.ntmps14
    go_wp2_with (first | ((with_reducible refine gate_callee (f := 24) rfl ?_); refine goesL_ (some 13) rfl rfl Tryd.func24 (by kernel_rfl) rfl #[.slice A0 l0.length c0, .slice A1 l1.length c1] rfl (by (try simp only [List.map_toArray, List.map_cons, List.map_nil]); first | done | rfl) ?_; (with_reducible refine (chirographref01_SameBytes.calls k _ _ l0 _ _ l1 false _ ?side1 ?side2 ?side3 ?side4 A6.out).mono ?_); (case side1 => exact HR0.out); (case side2 => exact HC0.out); (case side3 => exact HR1.out); (case side4 => exact HC1.out); rintro e w' ⟨rfl, ⟨nd, rfl⟩⟩; refine ⟨_, rfl, ?_⟩))
    go_ret
    exact ⟨by first | rfl | (simp; done) | (simp [*]; done), by repeat (first | exact Drawn0.refl _ | apply Drawn0.step)⟩
end Go.Proofs.YtaeocpnabgnidaaDoor.Tx
