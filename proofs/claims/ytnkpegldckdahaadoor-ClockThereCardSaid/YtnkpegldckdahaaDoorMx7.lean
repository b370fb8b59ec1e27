-- Printed by the session's hookprint.py (the kit's print, some functions given by hand).
import Derived.Test.YtnkpegldckdahaaDoorMx0
import Derived.Test.YtnkpegldckdahaaDoorMx1
import Derived.Test.YtnkpegldckdahaaDoorMx2
import Derived.Test.YtnkpegldckdahaaDoorMx3
import Derived.Test.YtnkpegldckdahaaDoorMx4
import Derived.Test.YtnkpegldckdahaaDoorMx6
namespace Go.Proofs.YtnkpegldckdahaaDoor.M
open Go.RowKit Go.Proofs.YtnkpegldckdahaaDoorW.PrintWords Go.Proofs.YtnkpegldckdahaaDoorW.PrintLast Go.Proofs.YtnkpegldckdahaaDoorW.PrintMore
attribute [local go_sem] max2_int min2_int max_two min_two max_three min_three max_four min_four   -- for this text's walks alone
set_option linter.unusedVariables false
set_option linter.unusedSimpArgs false

attribute [local go_sem high] eqA23
/-! ### chirographlaw05_live: function 13, by hand -/
theorem lit_C (w : World) (l : List Int) (fz : Nat × Nat) (hl : l.length ≤ 9223372036854775807) : Kd.C (Kd.int .u8) (w.alloc (.cells (nums .u8 l).toArray 5 fz)) (some ⟨w.heap.size, 0, none⟩) l.length l := by
  refine Kd.C_of_reads (enc := Value.int .u8) (d := (0 : Int)) (h1 := fun _ => rfl) ⟨rfl, hl, fun _ => ⟨_, rfl, fun j hj => ?_⟩⟩
  have e : (⟨w.heap.size, 0, none⟩ : Addr).add j = ⟨w.heap.size, j, none⟩ := by unfold Addr.add; split <;> simp_all
  rw [e]
  have hb : (w.alloc (.cells (nums .u8 l).toArray 5 fz)).heap[w.heap.size]? = some (.cells (nums .u8 l).toArray 5 fz) := by
    show (w.heap.push _)[w.heap.size]? = _
    simp
  simp only [World.cell?, hb]
  simp [nums, List.getElem?_map, List.getElem?_eq_getElem hj, List.getD_eq_getElem?_getD]
theorem live_below {w0 w w' : World} {o : Obj} (h : Below w0.heap.size w0 w) (hb : Below (w.alloc o).heap.size (w.alloc o) w') : Below w0.heap.size w0 w' :=
  below_step (h.alloc h.size o) hb
set_option maxRecDepth 100000 in
theorem live_f1 : clock_Seconds.f 40 2000 3 1 0 0 0 = some (951868800, 0) := by kernel_rfl
set_option maxRecDepth 100000 in
theorem live_f2 : clock_Utc.f 40 [53, 48, 48, 49, 48, 49, 48, 48, 48, 48, 48, 48, 90] = some (-631152000, 0) := by kernel_rfl
set_option maxRecDepth 100000 in
theorem live_f3 : clock_General.f 40 [50, 48, 50, 52, 48, 50, 50, 57, 49, 50, 48, 48, 48, 48, 46, 53, 90] = some (1709208000, 500000, 0) := by kernel_rfl
set_option maxRecDepth 100000 in
theorem live_f4 : clock_PutGeneral.f 40 0 0 = some (⟨#[49, 57, 55, 48, 48, 49, 48, 49, 48, 48, 48, 48, 48, 48, 90]⟩, 0) := by kernel_rfl
theorem live_f5 : clock_Parts.f (-1) = some (1969, 12, 31, 23, 59, 59, 0) := by kernel_rfl
theorem live_k2 (w W : World) (hb : Below w.heap.size w W) : Calls Tryd.prog 23 #[.slice (some ⟨W.heap.size, 0, none⟩) 13 13] (W.alloc (.cells #[.int .u8 53, .int .u8 48, .int .u8 48, .int .u8 49, .int .u8 48, .int .u8 49, .int .u8 48, .int .u8 48, .int .u8 48, .int .u8 48, .int .u8 48, .int .u8 48, .int .u8 90] 5 (13, 14))) fun e w' => e = .returned (.tuple #[.int .i64 (-631152000), .int .i64 0]) ∧ Below w.heap.size w w' :=
  (clock_Utc.calls 40 (some ⟨W.heap.size, 0, none⟩) 13 [53, 48, 48, 49, 48, 49, 48, 48, 48, 48, 48, 48, 90] _ _ (W.alloc (.cells #[.int .u8 53, .int .u8 48, .int .u8 48, .int .u8 49, .int .u8 48, .int .u8 49, .int .u8 48, .int .u8 48, .int .u8 48, .int .u8 48, .int .u8 48, .int .u8 48, .int .u8 90] 5 (13, 14))) (lit_C W [53, 48, 48, 49, 48, 49, 48, 48, 48, 48, 48, 48, 90] (13, 14) (by decide)) (by decide) live_f2).mono fun e w' h => ⟨h.1, live_below hb h.2⟩
theorem live_k3 (w W : World) (hb : Below w.heap.size w W) : Calls Tryd.prog 22 #[.slice (some ⟨W.heap.size, 0, none⟩) 17 17] (W.alloc (.cells #[.int .u8 50, .int .u8 48, .int .u8 50, .int .u8 52, .int .u8 48, .int .u8 50, .int .u8 50, .int .u8 57, .int .u8 49, .int .u8 50, .int .u8 48, .int .u8 48, .int .u8 48, .int .u8 48, .int .u8 46, .int .u8 53, .int .u8 90] 5 (17, 18))) fun e w' => e = .returned (.tuple #[.int .i64 1709208000, .int .i64 500000, .int .i64 0]) ∧ Below w.heap.size w w' :=
  (clock_General.calls 40 (some ⟨W.heap.size, 0, none⟩) 17 [50, 48, 50, 52, 48, 50, 50, 57, 49, 50, 48, 48, 48, 48, 46, 53, 90] _ _ _ (W.alloc (.cells #[.int .u8 50, .int .u8 48, .int .u8 50, .int .u8 52, .int .u8 48, .int .u8 50, .int .u8 50, .int .u8 57, .int .u8 49, .int .u8 50, .int .u8 48, .int .u8 48, .int .u8 48, .int .u8 48, .int .u8 46, .int .u8 53, .int .u8 90] 5 (17, 18))) (lit_C W [50, 48, 50, 52, 48, 50, 50, 57, 49, 50, 48, 48, 48, 48, 46, 53, 90] (17, 18) (by decide)) (by decide) live_f3).mono fun e w' h => ⟨h.1, live_below hb h.2⟩
theorem live_s : strOfNums (Ck.lst (⟨#[49, 57, 55, 48, 48, 49, 48, 49, 48, 48, 48, 48, 48, 48, 90]⟩ : ByteArray)) = (⟨#[49, 57, 55, 48, 48, 49, 48, 49, 48, 48, 48, 48, 48, 48, 90]⟩ : ByteArray) := by kernel_rfl
theorem live_cv {w : World} {A : Option Addr} (c : Nat) (h : Kd.C (Kd.int .u8) w A (Ck.lst (⟨#[49, 57, 55, 48, 48, 49, 48, 49, 48, 48, 48, 48, 48, 48, 90]⟩ : ByteArray)).length (Ck.lst (⟨#[49, 57, 55, 48, 48, 49, 48, 49, 48, 48, 48, 48, 48, 48, 90]⟩ : ByteArray))) : (convert 39 9 (.slice A (Ck.lst (⟨#[49, 57, 55, 48, 48, 49, 48, 49, 48, 48, 48, 48, 48, 48, 90]⟩ : ByteArray)).length c)).run Tryd.prog w = .ok (.string (⟨#[49, 57, 55, 48, 48, 49, 48, 49, 48, 48, 48, 48, 48, 48, 90]⟩ : ByteArray)) w := by
  have g := Kd.C_string (P := Tryd.prog) (A := A) (c := c) Tryd.underlying39 Tryd.underlying5 Tryd.underlying9 h
  rw [live_s] at g
  exact g
set_option maxHeartbeats 8000000 in
set_option maxRecDepth 100000 in
theorem live_walk (w : World) (hT_ : Go.Proofs.YtnkpegldckdahaaDoor.Tabs w) : Calls Tryd.prog 13 #[] w fun e w' => e = .returned (.bool true) ∧ Below w.heap.size w w' := by
  have HB := Aside0.mk (Below.refl w.heap.size w)
  have kc := fun (w : World) (C : Array Value) (n c : Nat) => Go.Lib.run_convert_bytes_const (P := Tryd.prog) w 39 5 C n c Tryd.underlying39 Tryd.underlying5
  go_enter Tryd.func13, Tryd.ntmps13
  go_upto_region 6 with (first
    | (go_at_call 10; (with_reducible refine (clock_Seconds.calls 40 2000 3 1 0 0 0 _ _ _ live_f1).mono ?_); rintro e w1 ⟨rfl, hb⟩; have n0_ := Aside0.mk (below_step (by repeat (first | (with_reducible first | exact HB.out | apply below_alloc | apply pw_below_drewN | apply below_drew1) | exact HB.out)) hb); clear HB hb; have HB := n0_; clear n0_)
    | (go_at_call 23; (with_reducible refine (live_k2 w _ (by repeat (first | (with_reducible first | exact HB.out | apply below_alloc | apply pw_below_drewN | apply below_drew1) | exact HB.out))).mono ?_); rintro e w2 ⟨rfl, hb⟩; have n0_ := Aside0.mk (hb); clear HB hb; have HB := n0_; clear n0_)
    | (go_at_call 22; (with_reducible refine (live_k3 w _ (by repeat (first | (with_reducible first | exact HB.out | apply below_alloc | apply pw_below_drewN | apply below_drew1) | exact HB.out))).mono ?_); rintro e w3 ⟨rfl, hb⟩; have n0_ := Aside0.mk (hb); clear HB hb; have HB := n0_; clear n0_)
    | (go_at_call 19; (with_reducible refine (clock_PutGeneral.calls 40 0 0 _ _ _ (Tabs.below hT_ (by repeat (first | (with_reducible first | exact HB.out | apply below_alloc | apply pw_below_drewN | apply below_drew1) | exact HB.out))) live_f4).mono ?_); rintro e w4 ⟨A, c, rfl, hcap, hk, hb⟩; have HK := Aside0.mk hk; clear hk; have n0_ := Aside0.mk (below_step (by repeat (first | (with_reducible first | exact HB.out | apply below_alloc | apply pw_below_drewN | apply below_drew1) | exact HB.out)) hb); clear HB hb; have HB := n0_; clear n0_)
    | (go_at_call 14; (with_reducible refine (clock_Parts.calls (-1) 1969 12 31 23 59 59 0 _ live_f5).mono ?_); rintro e w5 ⟨rfl, hb⟩; have n1_ := Aside0.mk (Kd.C_below HK.out hb); clear HK; have HK := n1_; clear n1_; have n0_ := Aside0.mk (below_step (by repeat (first | (with_reducible first | exact HB.out | apply below_alloc | apply pw_below_drewN | apply below_drew1) | exact HB.out)) hb); clear HB hb; have HB := n0_; clear n0_))
  have n0_ := Aside0.mk (HB.out.alloc HB.out.size (.cells #[.int .i64 1969, .int .i64 12, .int .i64 31, .int .i64 23, .int .i64 59, .int .i64 59] 23 (0, 0)))
  have BK := Aside0.mk (blk_new w5 (.cells #[.int .i64 1969, .int .i64 12, .int .i64 31, .int .i64 23, .int .i64 59, .int .i64 59] 23 (0, 0)))
  have n1_ := Aside0.mk (Kd.C_alloc HK.out (.cells #[.int .i64 1969, .int .i64 12, .int .i64 31, .int .i64 23, .int .i64 59, .int .i64 59] 23 (0, 0)))
  clear HB HK
  have HB := n0_
  have HK := n1_
  clear n0_ n1_
  generalize w5.alloc (.cells #[.int .i64 1969, .int .i64 12, .int .i64 31, .int .i64 23, .int .i64 59, .int .i64 59] 23 (0, 0)) = W at HB BK HK ⊢
  generalize w5.heap.size = g at BK ⊢
  have hcv := live_cv c HK.out
  have c0 : W.cell? ⟨g, 0, none⟩ = some (.int .i64 1969) := (blk_cell BK.out 0).trans rfl
  have c1 : W.cell? ⟨g, 1, none⟩ = some (.int .i64 12) := (blk_cell BK.out 1).trans rfl
  have c2 : W.cell? ⟨g, 2, none⟩ = some (.int .i64 31) := (blk_cell BK.out 2).trans rfl
  have c3 : W.cell? ⟨g, 3, none⟩ = some (.int .i64 23) := (blk_cell BK.out 3).trans rfl
  have c4 : W.cell? ⟨g, 4, none⟩ = some (.int .i64 59) := (blk_cell BK.out 4).trans rfl
  have c5 : W.cell? ⟨g, 5, none⟩ = some (.int .i64 59) := (blk_cell BK.out 5).trans rfl
  go_wp2_with (go_at_call 12; (with_reducible refine (chirographlaw05_num.calls 0 0 _ rfl).mono ?_); rintro e w9 ⟨rfl, hd⟩; have hb := Ck.drawn_below hd; have n0_ := Aside0.mk (blk_below (g := g) (o := (.cells #[.int .i64 1969, .int .i64 12, .int .i64 31, .int .i64 23, .int .i64 59, .int .i64 59] 23 (0, 0))) BK.out hb); have n1_ := Aside0.mk (Kd.C_below HK.out hb); have n2_ := Aside0.mk (below_step HB.out hb); clear BK HK HB hb hd; (try clear hcv); (try clear c0 c1 c2 c3 c4 c5); have BK := n0_; have HK := n1_; have HB := n2_; clear n0_ n1_ n2_; have hcv := live_cv c HK.out; have c0 : w9.cell? ⟨g, 0, none⟩ = some (.int .i64 1969) := (blk_cell BK.out 0).trans rfl; have c1 : w9.cell? ⟨g, 1, none⟩ = some (.int .i64 12) := (blk_cell BK.out 1).trans rfl; have c2 : w9.cell? ⟨g, 2, none⟩ = some (.int .i64 31) := (blk_cell BK.out 2).trans rfl; have c3 : w9.cell? ⟨g, 3, none⟩ = some (.int .i64 23) := (blk_cell BK.out 3).trans rfl; have c4 : w9.cell? ⟨g, 4, none⟩ = some (.int .i64 59) := (blk_cell BK.out 4).trans rfl; have c5 : w9.cell? ⟨g, 5, none⟩ = some (.int .i64 59) := (blk_cell BK.out 5).trans rfl)
  go_ret
  exact ⟨rfl, HB.out⟩
def chirographlaw05_live.f : Option Bool := some true
theorem chirographlaw05_live.calls (r : Bool) (w : World) (hT_ : Go.Proofs.YtnkpegldckdahaaDoor.Tabs w) (h : chirographlaw05_live.f = some r) : Calls Tryd.prog 13 #[] w fun e w' => e = .returned (.bool r) ∧ Below w.heap.size w w' := by
  cases h
  exact live_walk w hT_

/-! ### chirographref05_leap: function 39 -/
def chirographref05_leap.f (a0 : Int) : Option (Bool) := if (Int.tmod a0 400) = 0 then (some true) else (if (Int.tmod a0 4) = 0 then (some ((Int.tmod a0 100) != 0)) else (some false))
set_option maxHeartbeats 8000000 in
set_option maxRecDepth 100000 in
theorem chirographref05_leap.calls (a0 : Int) (r : Bool) (w : World) (h : chirographref05_leap.f a0 = some r) :
    Calls Tryd.prog 39 #[.int .i64 a0] w fun e w' => e = .returned (.bool r) ∧ Drawn0 w w' := by
  have H : (if (Int.tmod a0 400) = 0 then (some true) else (if (Int.tmod a0 4) = 0 then (some ((Int.tmod a0 100) != 0)) else (some false))) = some r := h
  clear h
  by_cases c2 : (Int.tmod a0 400) = 0
  · rw [if_pos c2] at H
    have c2b0 : ((Int.tmod a0 400) == 0) = true := beq_iff_eq.mpr c2
    have c2b1 : ((Int.tmod a0 400) != 0) = false := bne_eq_false_iff_eq.mpr c2
    clear c2
    obtain rfl := Option.some.inj H
    go_enter Tryd.func39, Tryd.ntmps39
    go_wp2
    go_ret
    exact ⟨by first | rfl | (simp; done) | (simp [*]; done), by repeat (first | exact Drawn0.refl _ | apply Drawn0.step)⟩
  · rw [if_neg c2] at H
    have c2b0 : ((Int.tmod a0 400) == 0) = false := beq_eq_false_iff_ne.mpr c2
    have c2b1 : ((Int.tmod a0 400) != 0) = true := bne_iff_ne.mpr c2
    by_cases c3 : (Int.tmod a0 4) = 0
    · rw [if_pos c3] at H
      have c3b0 : ((Int.tmod a0 4) == 0) = true := beq_iff_eq.mpr c3
      have c3b1 : ((Int.tmod a0 4) != 0) = false := bne_eq_false_iff_eq.mpr c3
      clear c3
      obtain rfl := Option.some.inj H
      go_enter Tryd.func39, Tryd.ntmps39
      go_wp2
      go_ret
      exact ⟨by first | rfl | (simp; done) | (simp [*]; done), by repeat (first | exact Drawn0.refl _ | apply Drawn0.step)⟩
    · rw [if_neg c3] at H
      have c3b0 : ((Int.tmod a0 4) == 0) = false := beq_eq_false_iff_ne.mpr c3
      have c3b1 : ((Int.tmod a0 4) != 0) = true := bne_iff_ne.mpr c3
      obtain rfl := Option.some.inj H
      go_enter Tryd.func39, Tryd.ntmps39
      go_wp2
      go_ret
      exact ⟨by first | rfl | (simp; done) | (simp [*]; done), by repeat (first | exact Drawn0.refl _ | apply Drawn0.step)⟩

/-! ### chirographref05_year: function 27 -/
def chirographref05_year.f (a0 : Int) : Option (Int) := (chirographref05_leap.f a0).bind fun t145 => (if t145 = true then (some 366) else (some 365))
set_option maxHeartbeats 8000000 in
set_option maxRecDepth 100000 in
theorem chirographref05_year.calls (a0 : Int) (r : Int) (w : World) (h : chirographref05_year.f a0 = some r) :
    Calls Tryd.prog 27 #[.int .i64 a0] w fun e w' => e = .returned (.int .i64 r) ∧ Drawn0 w w' := by
  have H : ((chirographref05_leap.f a0).bind fun t145 => (if t145 = true then (some 366) else (some 365))) = some r := h
  clear h
  replace H := Option.bind_eq_some_iff.mp H
  obtain ⟨t145, A20, H⟩ := H
  replace H : (if t145 = true then (some 366) else (some 365)) = some r := H
  have A2 := Aside0.mk A20
  clear A20
  by_cases c3 : t145 = true
  · subst c3
    have H1 : (some 366) = some r := by rw [if_pos rfl] at H; exact H
    clear H
    have H := H1
    clear H1
    obtain rfl := Option.some.inj H
    go_enter Tryd.func27, Tryd.ntmps27
    go_wp2_with (first | ((with_reducible refine gate_callee (f := 39) rfl ?_); refine goesL_ (some 4) rfl rfl Tryd.func39 (by kernel_rfl) rfl #[.int .i64 a0] rfl (by (try simp only [List.map_toArray, List.map_cons, List.map_nil]); first | done | rfl | (simp only [List.length_drop, List.length_take]; rfl)) ?_; (with_reducible refine (chirographref05_leap.calls a0 true _ A2.out).mono ?_); rintro e w' ⟨rfl, ⟨nd, rfl⟩⟩; refine ⟨_, rfl, ?_⟩))
    go_ret
    exact ⟨by first | rfl | (simp; done) | (simp [*]; done), by repeat (first | exact Drawn0.refl _ | apply Drawn0.step)⟩
  · replace c3 := Bool.eq_false_iff.mpr c3
    subst c3
    have H1 : (some 365) = some r := by rw [if_neg (show ¬ (false = true) by decide)] at H; exact H
    clear H
    have H := H1
    clear H1
    obtain rfl := Option.some.inj H
    go_enter Tryd.func27, Tryd.ntmps27
    go_wp2_with (first | ((with_reducible refine gate_callee (f := 39) rfl ?_); refine goesL_ (some 4) rfl rfl Tryd.func39 (by kernel_rfl) rfl #[.int .i64 a0] rfl (by (try simp only [List.map_toArray, List.map_cons, List.map_nil]); first | done | rfl | (simp only [List.length_drop, List.length_take]; rfl)) ?_; (with_reducible refine (chirographref05_leap.calls a0 false _ A2.out).mono ?_); rintro e w' ⟨rfl, ⟨nd, rfl⟩⟩; refine ⟨_, rfl, ?_⟩))
    go_ret
    exact ⟨by first | rfl | (simp; done) | (simp [*]; done), by repeat (first | exact Drawn0.refl _ | apply Drawn0.step)⟩

/-! ### chirographref05_month: function 28 -/
def chirographref05_month.f (a0 : Int) (a1 : Int) : Option (Int) := if a1 = 2 then ((chirographref05_year.f a0).bind fun t146 => (some (wrap64 (t146 - 337)))) else (if a1 = 4 then (some 30) else (if a1 = 6 then (some 30) else (if a1 = 9 then (some 30) else (if a1 = 11 then (some 30) else (some 31)))))
set_option maxHeartbeats 8000000 in
set_option maxRecDepth 100000 in
theorem chirographref05_month.calls (a0 : Int) (a1 : Int) (r : Int) (w : World) (h : chirographref05_month.f a0 a1 = some r) :
    Calls Tryd.prog 28 #[.int .i64 a0, .int .i64 a1] w fun e w' => e = .returned (.int .i64 r) ∧ Drawn0 w w' := by
  have H : (if a1 = 2 then ((chirographref05_year.f a0).bind fun t146 => (some (wrap64 (t146 - 337)))) else (if a1 = 4 then (some 30) else (if a1 = 6 then (some 30) else (if a1 = 9 then (some 30) else (if a1 = 11 then (some 30) else (some 31)))))) = some r := h
  clear h
  by_cases c3 : a1 = 2
  · rw [if_pos c3] at H
    have c3b0 : (a1 == 2) = true := beq_iff_eq.mpr c3
    have c3b1 : (a1 != 2) = false := bne_eq_false_iff_eq.mpr c3
    clear c3
    replace H := Option.bind_eq_some_iff.mp H
    obtain ⟨t146, A40, H⟩ := H
    replace H : (some (wrap64 (t146 - 337))) = some r := H
    have A4 := Aside0.mk A40
    clear A40
    obtain rfl := Option.some.inj H
    go_enter Tryd.func28, Tryd.ntmps28
    go_wp2_with (first | ((with_reducible refine gate_callee (f := 27) rfl ?_); refine goesL_ (some 9) rfl rfl Tryd.func27 (by kernel_rfl) rfl #[.int .i64 a0] rfl (by (try simp only [List.map_toArray, List.map_cons, List.map_nil]); first | done | rfl | (simp only [List.length_drop, List.length_take]; rfl)) ?_; (with_reducible refine (chirographref05_year.calls a0 t146 _ A4.out).mono ?_); rintro e w' ⟨rfl, ⟨nd, rfl⟩⟩; refine ⟨_, rfl, ?_⟩))
    go_ret
    exact ⟨by first | rfl | (simp; done) | (simp [*]; done), by repeat (first | exact Drawn0.refl _ | apply Drawn0.step)⟩
  · rw [if_neg c3] at H
    have c3b0 : (a1 == 2) = false := beq_eq_false_iff_ne.mpr c3
    have c3b1 : (a1 != 2) = true := bne_iff_ne.mpr c3
    by_cases c5 : a1 = 4
    · rw [if_pos c5] at H
      have c5b0 : (a1 == 4) = true := beq_iff_eq.mpr c5
      have c5b1 : (a1 != 4) = false := bne_eq_false_iff_eq.mpr c5
      clear c5
      obtain rfl := Option.some.inj H
      go_enter Tryd.func28, Tryd.ntmps28
      go_wp2
      go_ret
      exact ⟨by first | rfl | (simp; done) | (simp [*]; done), by repeat (first | exact Drawn0.refl _ | apply Drawn0.step)⟩
    · rw [if_neg c5] at H
      have c5b0 : (a1 == 4) = false := beq_eq_false_iff_ne.mpr c5
      have c5b1 : (a1 != 4) = true := bne_iff_ne.mpr c5
      by_cases c6 : a1 = 6
      · rw [if_pos c6] at H
        have c6b0 : (a1 == 6) = true := beq_iff_eq.mpr c6
        have c6b1 : (a1 != 6) = false := bne_eq_false_iff_eq.mpr c6
        clear c6
        obtain rfl := Option.some.inj H
        go_enter Tryd.func28, Tryd.ntmps28
        go_wp2
        go_ret
        exact ⟨by first | rfl | (simp; done) | (simp [*]; done), by repeat (first | exact Drawn0.refl _ | apply Drawn0.step)⟩
      · rw [if_neg c6] at H
        have c6b0 : (a1 == 6) = false := beq_eq_false_iff_ne.mpr c6
        have c6b1 : (a1 != 6) = true := bne_iff_ne.mpr c6
        by_cases c7 : a1 = 9
        · rw [if_pos c7] at H
          have c7b0 : (a1 == 9) = true := beq_iff_eq.mpr c7
          have c7b1 : (a1 != 9) = false := bne_eq_false_iff_eq.mpr c7
          clear c7
          obtain rfl := Option.some.inj H
          go_enter Tryd.func28, Tryd.ntmps28
          go_wp2
          go_ret
          exact ⟨by first | rfl | (simp; done) | (simp [*]; done), by repeat (first | exact Drawn0.refl _ | apply Drawn0.step)⟩
        · rw [if_neg c7] at H
          have c7b0 : (a1 == 9) = false := beq_eq_false_iff_ne.mpr c7
          have c7b1 : (a1 != 9) = true := bne_iff_ne.mpr c7
          by_cases c8 : a1 = 11
          · rw [if_pos c8] at H
            have c8b0 : (a1 == 11) = true := beq_iff_eq.mpr c8
            have c8b1 : (a1 != 11) = false := bne_eq_false_iff_eq.mpr c8
            clear c8
            obtain rfl := Option.some.inj H
            go_enter Tryd.func28, Tryd.ntmps28
            go_wp2
            go_ret
            exact ⟨by first | rfl | (simp; done) | (simp [*]; done), by repeat (first | exact Drawn0.refl _ | apply Drawn0.step)⟩
          · rw [if_neg c8] at H
            have c8b0 : (a1 == 11) = false := beq_eq_false_iff_ne.mpr c8
            have c8b1 : (a1 != 11) = true := bne_iff_ne.mpr c8
            obtain rfl := Option.some.inj H
            go_enter Tryd.func28, Tryd.ntmps28
            go_wp2
            go_ret
            exact ⟨by first | rfl | (simp; done) | (simp [*]; done), by repeat (first | exact Drawn0.refl _ | apply Drawn0.step)⟩

end Go.Proofs.YtnkpegldckdahaaDoor.M
