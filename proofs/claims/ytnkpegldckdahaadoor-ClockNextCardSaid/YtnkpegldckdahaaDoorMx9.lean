-- Printed by the session's hookprint.py (the kit's print, some functions given by hand).
import Derived.Test.YtnkpegldckdahaaDoorMx0
import Derived.Test.YtnkpegldckdahaaDoorMx1
import Derived.Test.YtnkpegldckdahaaDoorMx2
import Derived.Test.YtnkpegldckdahaaDoorMx3
import Derived.Test.YtnkpegldckdahaaDoorMx7
namespace Go.Proofs.YtnkpegldckdahaaDoor.M
open Go.RowKit Go.Proofs.YtnkpegldckdahaaDoorW.PrintWords Go.Proofs.YtnkpegldckdahaaDoorW.PrintLast Go.Proofs.YtnkpegldckdahaaDoorW.PrintMore
attribute [local go_sem] max2_int min2_int max_two min_two max_three min_three max_four min_four   -- for this text's walks alone
set_option linter.unusedVariables false
set_option linter.unusedSimpArgs false

attribute [local go_sem high] eqA23
/-! ### chirographlaw05_ClockNext: function 7 -/
mutual
def chirographlaw05_ClockNext.j0 : Nat → Bool → Int → Int → Int → Int → Int → Int → Int → Int → Int → Int → Int → Int → Option (Bool)
  | 0, _, _, _, _, _, _, _, _, _, _, _, _, _ => none
  | k + 1, x28, x218000, x218001, x218002, x218003, x218004, x218005, x226000, x226001, x226002, x226003, x226004, x226005 => if x28 = true then ((chirographlaw05_live.f).bind fun t228 => (some t228)) else (if x226005 = (wrap64 (x218005 + 1)) then (if (x226000 == x218000 && (x226001 == x218001 && (x226002 == x218002 && (x226003 == x218003 && (x226004 == x218004))))) = true then ((chirographlaw05_live.f).bind fun t229 => (some t229)) else (some false)) else (if x218005 = 59 then (chirographlaw05_ClockNext.j1 k (x226005 != 0) x218000 x218001 x218002 x218003 x218004 x218005 x226000 x226001 x226002 x226003 x226004 x226005) else (chirographlaw05_ClockNext.j1 k true x218000 x218001 x218002 x218003 x218004 x218005 x226000 x226001 x226002 x226003 x226004 x226005)))
def chirographlaw05_ClockNext.j1 : Nat → Bool → Int → Int → Int → Int → Int → Int → Int → Int → Int → Int → Int → Int → Option (Bool)
  | 0, _, _, _, _, _, _, _, _, _, _, _, _, _ => none
  | k + 1, x52, x218000, x218001, x218002, x218003, x218004, x218005, x226000, x226001, x226002, x226003, x226004, x226005 => if x52 = true then (some false) else (if x218004 < 59 then (if (x226000 == x218000 && (x226001 == x218001 && (x226002 == x218002 && (x226003 == x218003 && (x226004 == (wrap64 (x218004 + 1)) && (x226005 == 0)))))) = true then ((chirographlaw05_live.f).bind fun t230 => (some t230)) else (some false)) else (if x218003 < 23 then (if (x226000 == x218000 && (x226001 == x218001 && (x226002 == x218002 && (x226003 == (wrap64 (x218003 + 1)) && (x226004 == 0 && (x226005 == 0)))))) = true then ((chirographlaw05_live.f).bind fun t231 => (some t231)) else (some false)) else (if x226004 = 0 then (chirographlaw05_ClockNext.j2 k (x226003 != 0) x218000 x218001 x218002 x218003 x218004 x218005 x226000 x226001 x226002 x226003 x226004 x226005) else (chirographlaw05_ClockNext.j2 k true x218000 x218001 x218002 x218003 x218004 x218005 x226000 x226001 x226002 x226003 x226004 x226005))))
def chirographlaw05_ClockNext.j2 : Nat → Bool → Int → Int → Int → Int → Int → Int → Int → Int → Int → Int → Int → Int → Option (Bool)
  | 0, _, _, _, _, _, _, _, _, _, _, _, _, _ => none
  | k + 1, x98, x218000, x218001, x218002, x218003, x218004, x218005, x226000, x226001, x226002, x226003, x226004, x226005 => if x98 = true then (some false) else (if x226002 = 1 then (if x226001 = 1 then (if x218002 = 31 then (if x218001 = 12 then (if x226000 = (wrap64 (x218000 + 1)) then ((chirographlaw05_live.f).bind fun t233 => (some t233)) else (some false)) else (some false)) else (some false)) else (if x218002 ≥ 28 then (if x226001 = (wrap64 (x218001 + 1)) then (if x226000 = x218000 then ((chirographlaw05_live.f).bind fun t234 => (some t234)) else (some false)) else (some false)) else (some false))) else (if x226002 = (wrap64 (x218002 + 1)) then (if x226001 = x218001 then (if x226000 = x218000 then ((chirographlaw05_live.f).bind fun t232 => (some t232)) else (some false)) else (some false)) else (some false)))
end
def chirographlaw05_ClockNext.f (k : Nat) (a0 : Int) : Option (Bool) := if a0 > 1125899906842624 then ((chirographlaw05_live.f).bind fun t209 => (some t209)) else ((clock_Parts.f a0).bind fun bt210 => ((clock_Parts.f (wrap64 (a0 + 1))).bind fun bt218 => ((chirographlaw05_num.f bt210.2.2.2.2.2.2).bind fun t226 => (if t226 = 0 then ((chirographlaw05_num.f bt218.2.2.2.2.2.2).bind fun t227 => (chirographlaw05_ClockNext.j0 k (t227 != 0) bt210.1 bt210.2.1 bt210.2.2.1 bt210.2.2.2.1 bt210.2.2.2.2.1 bt210.2.2.2.2.2.1 bt218.1 bt218.2.1 bt218.2.2.1 bt218.2.2.2.1 bt218.2.2.2.2.1 bt218.2.2.2.2.2.1)) else (chirographlaw05_ClockNext.j0 k true bt210.1 bt210.2.1 bt210.2.2.1 bt210.2.2.2.1 bt210.2.2.2.2.1 bt210.2.2.2.2.2.1 bt218.1 bt218.2.1 bt218.2.2.1 bt218.2.2.2.1 bt218.2.2.2.2.1 bt218.2.2.2.2.2.1)))))
theorem chirographlaw05_ClockNext.mono_l : ∀ k, (∀ y0 y1 y2 y3 y4 y5 y6 y7 y8 y9 y10 y11 y12, LeO (chirographlaw05_ClockNext.j0 k y0 y1 y2 y3 y4 y5 y6 y7 y8 y9 y10 y11 y12) (chirographlaw05_ClockNext.j0 (k + 1) y0 y1 y2 y3 y4 y5 y6 y7 y8 y9 y10 y11 y12)) ∧ (∀ y0 y1 y2 y3 y4 y5 y6 y7 y8 y9 y10 y11 y12, LeO (chirographlaw05_ClockNext.j1 k y0 y1 y2 y3 y4 y5 y6 y7 y8 y9 y10 y11 y12) (chirographlaw05_ClockNext.j1 (k + 1) y0 y1 y2 y3 y4 y5 y6 y7 y8 y9 y10 y11 y12)) ∧ (∀ y0 y1 y2 y3 y4 y5 y6 y7 y8 y9 y10 y11 y12, LeO (chirographlaw05_ClockNext.j2 k y0 y1 y2 y3 y4 y5 y6 y7 y8 y9 y10 y11 y12) (chirographlaw05_ClockNext.j2 (k + 1) y0 y1 y2 y3 y4 y5 y6 y7 y8 y9 y10 y11 y12))
  | 0 => ⟨fun _ _ _ _ _ _ _ _ _ _ _ _ _ r h => by simp [chirographlaw05_ClockNext.j0] at h, fun _ _ _ _ _ _ _ _ _ _ _ _ _ r h => by simp [chirographlaw05_ClockNext.j1] at h, fun _ _ _ _ _ _ _ _ _ _ _ _ _ r h => by simp [chirographlaw05_ClockNext.j2] at h⟩
  | k + 1 => by
    obtain ⟨ih0, ih1, ih2⟩ := chirographlaw05_ClockNext.mono_l k
    refine ⟨?_, ?_, ?_⟩
    · intro y0 y1 y2 y3 y4 y5 y6 y7 y8 y9 y10 y11 y12
      unfold chirographlaw05_ClockNext.j0
      repeat' first
      | (with_reducible exact ih0 _ _ _ _ _ _ _ _ _ _ _ _ _)
      | (with_reducible exact ih1 _ _ _ _ _ _ _ _ _ _ _ _ _)
      | (with_reducible exact ih2 _ _ _ _ _ _ _ _ _ _ _ _ _)
      | (with_reducible exact LeO.refl _)
      | (with_reducible exact LeO.none _)
      | (with_reducible refine LeO.ite ?_ ?_)
      | (with_reducible refine LeO.bind ?_ (fun _ => ?_))
      | exact ih0 _ _ _ _ _ _ _ _ _ _ _ _ _
      | exact ih1 _ _ _ _ _ _ _ _ _ _ _ _ _
      | exact ih2 _ _ _ _ _ _ _ _ _ _ _ _ _
      | exact LeO.none _
      | refine LeO.ite ?_ ?_
      | refine LeO.bind ?_ (fun _ => ?_)
    · intro y0 y1 y2 y3 y4 y5 y6 y7 y8 y9 y10 y11 y12
      unfold chirographlaw05_ClockNext.j1
      repeat' first
      | (with_reducible exact ih0 _ _ _ _ _ _ _ _ _ _ _ _ _)
      | (with_reducible exact ih1 _ _ _ _ _ _ _ _ _ _ _ _ _)
      | (with_reducible exact ih2 _ _ _ _ _ _ _ _ _ _ _ _ _)
      | (with_reducible exact LeO.refl _)
      | (with_reducible exact LeO.none _)
      | (with_reducible refine LeO.ite ?_ ?_)
      | (with_reducible refine LeO.bind ?_ (fun _ => ?_))
      | exact ih0 _ _ _ _ _ _ _ _ _ _ _ _ _
      | exact ih1 _ _ _ _ _ _ _ _ _ _ _ _ _
      | exact ih2 _ _ _ _ _ _ _ _ _ _ _ _ _
      | exact LeO.none _
      | refine LeO.ite ?_ ?_
      | refine LeO.bind ?_ (fun _ => ?_)
    · intro y0 y1 y2 y3 y4 y5 y6 y7 y8 y9 y10 y11 y12
      unfold chirographlaw05_ClockNext.j2
      repeat' first
      | (with_reducible exact ih0 _ _ _ _ _ _ _ _ _ _ _ _ _)
      | (with_reducible exact ih1 _ _ _ _ _ _ _ _ _ _ _ _ _)
      | (with_reducible exact ih2 _ _ _ _ _ _ _ _ _ _ _ _ _)
      | (with_reducible exact LeO.refl _)
      | (with_reducible exact LeO.none _)
      | (with_reducible refine LeO.ite ?_ ?_)
      | (with_reducible refine LeO.bind ?_ (fun _ => ?_))
      | exact ih0 _ _ _ _ _ _ _ _ _ _ _ _ _
      | exact ih1 _ _ _ _ _ _ _ _ _ _ _ _ _
      | exact ih2 _ _ _ _ _ _ _ _ _ _ _ _ _
      | exact LeO.none _
      | refine LeO.ite ?_ ?_
      | refine LeO.bind ?_ (fun _ => ?_)
theorem chirographlaw05_ClockNext.mono : ∀ a0 k, LeO (chirographlaw05_ClockNext.f k a0) (chirographlaw05_ClockNext.f (k + 1) a0) := by
  intro a0 k
  obtain ⟨ih0, ih1, ih2⟩ := chirographlaw05_ClockNext.mono_l k
  unfold chirographlaw05_ClockNext.f
  repeat' first
      | (with_reducible exact ih0 _ _ _ _ _ _ _ _ _ _ _ _ _)
      | (with_reducible exact ih1 _ _ _ _ _ _ _ _ _ _ _ _ _)
      | (with_reducible exact ih2 _ _ _ _ _ _ _ _ _ _ _ _ _)
      | (with_reducible exact LeO.refl _)
      | (with_reducible exact LeO.none _)
      | (with_reducible refine LeO.ite ?_ ?_)
      | (with_reducible refine LeO.bind ?_ (fun _ => ?_))
      | exact ih0 _ _ _ _ _ _ _ _ _ _ _ _ _
      | exact ih1 _ _ _ _ _ _ _ _ _ _ _ _ _
      | exact ih2 _ _ _ _ _ _ _ _ _ _ _ _ _
      | exact LeO.none _
      | refine LeO.ite ?_ ?_
      | refine LeO.bind ?_ (fun _ => ?_)
set_option maxHeartbeats 8000000 in
set_option maxRecDepth 100000 in
theorem chirographlaw05_ClockNext.calls (k : Nat) (a0 : Int) (r : Bool) (w : World) (hT_ : Go.Proofs.YtnkpegldckdahaaDoor.Tabs w) (h : chirographlaw05_ClockNext.f k a0 = some r) :
    Calls Tryd.prog 7 #[.int .i64 a0] w fun e w' => e = .returned (.bool r) ∧ Below w.heap.size w w' := by
  have hu23 := Tryd.underlying23
  have HB := Aside0.mk (Below.refl w.heap.size w)
  have H : (if a0 > 1125899906842624 then ((chirographlaw05_live.f).bind fun t209 => (some t209)) else ((clock_Parts.f a0).bind fun bt210 => ((clock_Parts.f (wrap64 (a0 + 1))).bind fun bt218 => ((chirographlaw05_num.f bt210.2.2.2.2.2.2).bind fun t226 => (if t226 = 0 then ((chirographlaw05_num.f bt218.2.2.2.2.2.2).bind fun t227 => (chirographlaw05_ClockNext.j0 k (t227 != 0) bt210.1 bt210.2.1 bt210.2.2.1 bt210.2.2.2.1 bt210.2.2.2.2.1 bt210.2.2.2.2.2.1 bt218.1 bt218.2.1 bt218.2.2.1 bt218.2.2.2.1 bt218.2.2.2.2.1 bt218.2.2.2.2.2.1)) else (chirographlaw05_ClockNext.j0 k true bt210.1 bt210.2.1 bt210.2.2.1 bt210.2.2.2.1 bt210.2.2.2.2.1 bt210.2.2.2.2.2.1 bt218.1 bt218.2.1 bt218.2.2.1 bt218.2.2.2.1 bt218.2.2.2.2.1 bt218.2.2.2.2.2.1)))))) = some r := h
  clear h
  by_cases c2 : a0 > 1125899906842624
  · rw [if_pos c2] at H
    have c2b0 : decide (1125899906842624 < a0) = true := decide_eq_true c2
    clear c2
    replace H := Option.bind_eq_some_iff.mp H
    obtain ⟨t209, A30, H⟩ := H
    replace H : (some t209) = some r := H
    have A3 := Aside0.mk A30
    clear A30
    obtain rfl := Option.some.inj H
    go_enter Tryd.func7, Tryd.ntmps7
    go_wp2_with (first | ((with_reducible refine gate_callee (f := 13) rfl ?_); refine goesL_ (some 9) rfl rfl Tryd.func13 (by kernel_rfl) rfl #[] rfl (by (try simp only [List.map_toArray, List.map_cons, List.map_nil]); first | done | rfl | (simp only [List.length_drop, List.length_take]; rfl)) ?_; (with_reducible refine (chirographlaw05_live.calls  t209 _ ?side1 A3.out).mono ?_); (case side1 => exact Go.Proofs.YtnkpegldckdahaaDoor.Tabs.below hT_ (by repeat (first | (with_reducible first | exact HB.out | apply below_alloc | apply pw_below_drewN | apply below_drew1) | exact HB.out))); rintro e w4 ⟨rfl, hb⟩; refine ⟨_, rfl, ?_⟩; have n0_ := Aside0.mk (below_step (by repeat (first | (with_reducible first | exact HB.out | apply below_alloc | apply pw_below_drewN | apply below_drew1) | exact HB.out)) hb); clear HB; have HB := n0_; clear n0_; (try clear hb); (try clear hb2); (try clear hk); (try clear hi)))
    go_ret
    exact ⟨by first | rfl | (simp [errW_none, errW_some] <;> rfl) | (simp [*, errW_none, errW_some] <;> rfl), by repeat (first | (with_reducible first | exact HB.out | apply below_alloc | apply pw_below_drewN | apply below_drew1) | exact HB.out)⟩
  · rw [if_neg c2] at H
    have c2b0 : decide (1125899906842624 < a0) = false := decide_eq_false c2
    clear c2
    replace H := Option.bind_eq_some_iff.mp H
    obtain ⟨⟨t210, t211, t212, t213, t214, t215, t216⟩, A50, H⟩ := H
    replace H : ((clock_Parts.f (wrap64 (a0 + 1))).bind fun bt218 => ((chirographlaw05_num.f t216).bind fun t226 => (if t226 = 0 then ((chirographlaw05_num.f bt218.2.2.2.2.2.2).bind fun t227 => (chirographlaw05_ClockNext.j0 k (t227 != 0) t210 t211 t212 t213 t214 t215 bt218.1 bt218.2.1 bt218.2.2.1 bt218.2.2.2.1 bt218.2.2.2.2.1 bt218.2.2.2.2.2.1)) else (chirographlaw05_ClockNext.j0 k true t210 t211 t212 t213 t214 t215 bt218.1 bt218.2.1 bt218.2.2.1 bt218.2.2.2.1 bt218.2.2.2.2.1 bt218.2.2.2.2.2.1)))) = some r := H
    have A5 := Aside0.mk A50
    clear A50
    replace H := Option.bind_eq_some_iff.mp H
    obtain ⟨⟨t218, t219, t220, t221, t222, t223, t224⟩, A60, H⟩ := H
    replace H : ((chirographlaw05_num.f t216).bind fun t226 => (if t226 = 0 then ((chirographlaw05_num.f t224).bind fun t227 => (chirographlaw05_ClockNext.j0 k (t227 != 0) t210 t211 t212 t213 t214 t215 t218 t219 t220 t221 t222 t223)) else (chirographlaw05_ClockNext.j0 k true t210 t211 t212 t213 t214 t215 t218 t219 t220 t221 t222 t223))) = some r := H
    have A6 := Aside0.mk A60
    clear A60
    have HC7 := Aside0.mk H
    clear H
    go_enter Tryd.func7, Tryd.ntmps7
    go_upto_region 5 with (first | ((with_reducible refine gate_callee (f := 14) rfl ?_); refine goesL_ (some 12) rfl rfl Tryd.func14 (by kernel_rfl) rfl #[.int .i64 a0] rfl (by (try simp only [List.map_toArray, List.map_cons, List.map_nil]); first | done | rfl | (simp only [List.length_drop, List.length_take]; rfl)) ?_; (with_reducible refine (clock_Parts.calls a0 t210 t211 t212 t213 t214 t215 t216 _ A5.out).mono ?_); rintro e w8 ⟨rfl, hb⟩; refine ⟨_, rfl, ?_⟩; have n0_ := Aside0.mk (below_step (by repeat (first | (with_reducible first | exact HB.out | apply below_alloc | apply pw_below_drewN | apply below_drew1) | exact HB.out)) hb); clear HB; have HB := n0_; clear n0_; (try clear hb); (try clear hb2); (try clear hk); (try clear hi)) | ((with_reducible refine gate_dst (N := 3) rfl ?_); refine box_event ?hg (N := 3) ?hd (cs := #[.int .i64 0, .int .i64 0, .int .i64 0, .int .i64 0, .int .i64 0, .int .i64 0]) (t := 23) ?hr ?_; (case hd => rfl); (case hg => rfl); (case hr => first | (go_simp; done) | (go_simp; rfl)); intro gb217 hg w9 hbox hb; have n0_ := Aside0.mk (below_step (by repeat (first | (with_reducible first | exact HB.out | apply below_alloc | apply pw_below_drewN | apply below_drew1) | exact HB.out)) hb); have n1_ := Aside0.mk (hbox); have n2_ := Aside0.mk ((by rw [hg]; exact (below_size (by repeat (first | (with_reducible first | exact HB.out | apply below_alloc | apply pw_below_drewN | apply below_drew1) | exact HB.out))) : w.heap.size ≤ gb217)); have n3_ := Aside0.mk ((by rw [hg]; exact (below_size (by repeat (first | (with_reducible first | exact HB.out | apply below_alloc | apply pw_below_drewN | apply below_drew1) | exact HB.out))) : w.heap.size ≤ gb217)); clear HB; have HB := n0_; have BK217 := n1_; have GW217 := n2_; have GE217 := n3_; clear n0_ n1_ n2_ n3_; clear hb hbox hg; have hcz10_0 : w9.cell? ⟨gb217, 0, none⟩ = some (.int .i64 0) := (blk_cell BK217.out 0).trans rfl; have hcz10_1 : w9.cell? ⟨gb217, 1, none⟩ = some (.int .i64 0) := (blk_cell BK217.out 1).trans rfl; have hcz10_2 : w9.cell? ⟨gb217, 2, none⟩ = some (.int .i64 0) := (blk_cell BK217.out 2).trans rfl; have hcz10_3 : w9.cell? ⟨gb217, 3, none⟩ = some (.int .i64 0) := (blk_cell BK217.out 3).trans rfl; have hcz10_4 : w9.cell? ⟨gb217, 4, none⟩ = some (.int .i64 0) := (blk_cell BK217.out 4).trans rfl; have hcz10_5 : w9.cell? ⟨gb217, 5, none⟩ = some (.int .i64 0) := (blk_cell BK217.out 5).trans rfl; have hfz10_0 := blk_frozen BK217.out 0; have hfz10_1 := blk_frozen BK217.out 1; have hfz10_2 := blk_frozen BK217.out 2; have hfz10_3 := blk_frozen BK217.out 3; have hfz10_4 := blk_frozen BK217.out 4; have hfz10_5 := blk_frozen BK217.out 5) | ((with_reducible refine gate_callee (f := 14) rfl ?_); refine goesL_ (some 18) rfl rfl Tryd.func14 (by kernel_rfl) rfl #[.int .i64 (wrap64 (a0 + 1))] rfl (by (try simp only [List.map_toArray, List.map_cons, List.map_nil]); first | done | rfl | (simp only [List.length_drop, List.length_take]; rfl)) ?_; (with_reducible refine (clock_Parts.calls (wrap64 (a0 + 1)) t218 t219 t220 t221 t222 t223 t224 _ A6.out).mono ?_); rintro e w11 ⟨rfl, hb⟩; refine ⟨_, rfl, ?_⟩; have n0_ := Aside0.mk (blk_below (g := gb217) (o := .cells #[.int .i64 t210, .int .i64 t211, .int .i64 t212, .int .i64 t213, .int .i64 t214, .int .i64 t215] 23 (0, 0)) (by (with_reducible repeat (first | refine blk_drewN ?_ _ | refine blk_drew ?_ | refine blk_alloc ?_ _)); refine blk_put (cs := #[.int .i64 t210, .int .i64 t211, .int .i64 t212, .int .i64 t213, .int .i64 t214, .int .i64 0]) ?_ 5 _ rfl; (with_reducible repeat (first | refine blk_drewN ?_ _ | refine blk_drew ?_ | refine blk_alloc ?_ _)); refine blk_put (cs := #[.int .i64 t210, .int .i64 t211, .int .i64 t212, .int .i64 t213, .int .i64 0, .int .i64 0]) ?_ 4 _ rfl; (with_reducible repeat (first | refine blk_drewN ?_ _ | refine blk_drew ?_ | refine blk_alloc ?_ _)); refine blk_put (cs := #[.int .i64 t210, .int .i64 t211, .int .i64 t212, .int .i64 0, .int .i64 0, .int .i64 0]) ?_ 3 _ rfl; (with_reducible repeat (first | refine blk_drewN ?_ _ | refine blk_drew ?_ | refine blk_alloc ?_ _)); refine blk_put (cs := #[.int .i64 t210, .int .i64 t211, .int .i64 0, .int .i64 0, .int .i64 0, .int .i64 0]) ?_ 2 _ rfl; (with_reducible repeat (first | refine blk_drewN ?_ _ | refine blk_drew ?_ | refine blk_alloc ?_ _)); refine blk_put (cs := #[.int .i64 t210, .int .i64 0, .int .i64 0, .int .i64 0, .int .i64 0, .int .i64 0]) ?_ 1 _ rfl; (with_reducible repeat (first | refine blk_drewN ?_ _ | refine blk_drew ?_ | refine blk_alloc ?_ _)); refine blk_put (cs := #[.int .i64 0, .int .i64 0, .int .i64 0, .int .i64 0, .int .i64 0, .int .i64 0]) ?_ 0 _ rfl; (with_reducible repeat (first | refine blk_drewN ?_ _ | refine blk_drew ?_ | refine blk_alloc ?_ _)); exact BK217.out) hb); have n1_ := Aside0.mk (below_step (by repeat (first | (with_reducible first | exact HB.out | apply below_alloc | apply pw_below_drewN | apply below_drew1 | refine below_set ?_ GE217.out) | exact HB.out)) hb); clear BK217; clear HB; have BK217 := n0_; have HB := n1_; clear n0_ n1_; (try clear hb); (try clear hb2); (try clear hk); (try clear hi)) | ((with_reducible refine gate_dst (N := 5) rfl ?_); refine box_event ?hg (N := 5) ?hd (cs := #[.int .i64 0, .int .i64 0, .int .i64 0, .int .i64 0, .int .i64 0, .int .i64 0]) (t := 23) ?hr ?_; (case hd => rfl); (case hg => rfl); (case hr => first | (go_simp; done) | (go_simp; rfl)); intro gb225 hg w12 hbox hb; have n0_ := Aside0.mk (blk_below (g := gb217) (o := .cells #[.int .i64 t210, .int .i64 t211, .int .i64 t212, .int .i64 t213, .int .i64 t214, .int .i64 t215] 23 (0, 0)) (by (with_reducible repeat (first | refine blk_drewN ?_ _ | refine blk_drew ?_ | refine blk_alloc ?_ _)); exact BK217.out) hb); have n1_ := Aside0.mk (below_step (by repeat (first | (with_reducible first | exact HB.out | apply below_alloc | apply pw_below_drewN | apply below_drew1 | refine below_set ?_ GE217.out) | exact HB.out)) hb); have n2_ := Aside0.mk (hbox); have n3_ := Aside0.mk ((by rw [hg]; exact (below_size (by repeat (first | (with_reducible first | exact HB.out | apply below_alloc | apply pw_below_drewN | apply below_drew1 | refine below_set ?_ GE217.out) | exact HB.out))) : w.heap.size ≤ gb225)); have n4_ := Aside0.mk ((by rw [hg]; exact (below_size (by repeat (first | (with_reducible first | exact HB.out | apply below_alloc | apply pw_below_drewN | apply below_drew1 | refine below_set ?_ GE217.out) | exact HB.out))) : w.heap.size ≤ gb225)); have n5_ := Aside0.mk ((by rw [hg]; exact Nat.ne_of_lt (blk_lt (g := gb217) (o := .cells #[.int .i64 t210, .int .i64 t211, .int .i64 t212, .int .i64 t213, .int .i64 t214, .int .i64 t215] 23 (0, 0)) (by (with_reducible repeat (first | refine blk_drewN ?_ _ | refine blk_drew ?_ | refine blk_alloc ?_ _)); exact BK217.out)) : gb217 ≠ gb225)); have n6_ := Aside0.mk ((by rw [hg]; exact Nat.ne_of_gt (blk_lt (g := gb217) (o := .cells #[.int .i64 t210, .int .i64 t211, .int .i64 t212, .int .i64 t213, .int .i64 t214, .int .i64 t215] 23 (0, 0)) (by (with_reducible repeat (first | refine blk_drewN ?_ _ | refine blk_drew ?_ | refine blk_alloc ?_ _)); exact BK217.out)) : gb225 ≠ gb217)); clear BK217; clear HB; have BK217 := n0_; have HB := n1_; have BK225 := n2_; have GW225 := n3_; have GE225 := n4_; have NB217_225 := n5_; have NB225_217 := n6_; clear n0_ n1_ n2_ n3_ n4_ n5_ n6_; clear hb hbox hg; have hnb13 := NB225_217.out; have hnc13 := NB217_225.out; have hcz14_0 : w12.cell? ⟨gb225, 0, none⟩ = some (.int .i64 0) := (blk_cell BK225.out 0).trans rfl; have hcz14_1 : w12.cell? ⟨gb225, 1, none⟩ = some (.int .i64 0) := (blk_cell BK225.out 1).trans rfl; have hcz14_2 : w12.cell? ⟨gb225, 2, none⟩ = some (.int .i64 0) := (blk_cell BK225.out 2).trans rfl; have hcz14_3 : w12.cell? ⟨gb225, 3, none⟩ = some (.int .i64 0) := (blk_cell BK225.out 3).trans rfl; have hcz14_4 : w12.cell? ⟨gb225, 4, none⟩ = some (.int .i64 0) := (blk_cell BK225.out 4).trans rfl; have hcz14_5 : w12.cell? ⟨gb225, 5, none⟩ = some (.int .i64 0) := (blk_cell BK225.out 5).trans rfl; have hfz14_0 := blk_frozen BK225.out 0; have hfz14_1 := blk_frozen BK225.out 1; have hfz14_2 := blk_frozen BK225.out 2; have hfz14_3 := blk_frozen BK225.out 3; have hfz14_4 := blk_frozen BK225.out 4; have hfz14_5 := blk_frozen BK225.out 5))
    (try simp only [Act.put, List.setIfInBounds_toArray, List.set_cons_zero, List.set_cons_succ])
    go_cut [28] (fun v28 wc => ∃ (kq : Nat) (x28_6 : Bool), v28 = .bool x28_6 ∧ Aside0 (chirographlaw05_ClockNext.j0 kq x28_6 t210 t211 t212 t213 t214 t215 t218 t219 t220 t221 t222 t223 = some r) ∧ Aside0 (kq ≤ k) ∧ Aside0 (wc.heap[gb217]? = some (.cells #[.int .i64 t210, .int .i64 t211, .int .i64 t212, .int .i64 t213, .int .i64 t214, .int .i64 t215] 23 (0, 0))) ∧ Aside0 (wc.heap[gb225]? = some (.cells #[.int .i64 t218, .int .i64 t219, .int .i64 t220, .int .i64 t221, .int .i64 t222, .int .i64 t223] 23 (0, 0))) ∧ Aside0 (Below w.heap.size w wc))
    case first =>
      have H := HC7.out
      clear HC7
      replace H := Option.bind_eq_some_iff.mp H
      obtain ⟨t226, A150, H⟩ := H
      replace H : (if t226 = 0 then ((chirographlaw05_num.f t224).bind fun t227 => (chirographlaw05_ClockNext.j0 k (t227 != 0) t210 t211 t212 t213 t214 t215 t218 t219 t220 t221 t222 t223)) else (chirographlaw05_ClockNext.j0 k true t210 t211 t212 t213 t214 t215 t218 t219 t220 t221 t222 t223)) = some r := H
      have A15 := Aside0.mk A150
      clear A150
      by_cases c16 : t226 = 0
      · rw [if_pos c16] at H
        have c16b0 : (t226 == 0) = true := beq_iff_eq.mpr c16
        have c16b1 : (t226 != 0) = false := bne_eq_false_iff_eq.mpr c16
        clear c16
        (first | rw [c16b0] | (simp only [i64_w, i32_w]; rw [c16b0]) | skip)
        replace H := Option.bind_eq_some_iff.mp H
        obtain ⟨t227, A170, H⟩ := H
        replace H : (chirographlaw05_ClockNext.j0 k (t227 != 0) t210 t211 t212 t213 t214 t215 t218 t219 t220 t221 t222 t223) = some r := H
        have A17 := Aside0.mk A170
        clear A170
        have H' := Aside0.mk H
        clear H
        go_wp2_with (first | ((with_reducible refine gate_callee (f := 12) rfl ?_); refine goesL_ (some 22) rfl rfl Tryd.func12 (by kernel_rfl) rfl #[.int .i64 t216] rfl (by (try simp only [List.map_toArray, List.map_cons, List.map_nil]); first | done | rfl | (simp only [List.length_drop, List.length_take]; rfl)) ?_; (with_reducible refine (chirographlaw05_num.calls t216 t226 _ A15.out).mono ?_); rintro e w' ⟨rfl, ⟨nd, rfl⟩⟩; refine ⟨_, rfl, ?_⟩) | (go_at_call 12; (with_reducible refine (chirographlaw05_num.calls t224 t227 _ A17.out).mono ?_); rintro e w' ⟨rfl, ⟨nd, rfl⟩⟩))
        go_meet
        case rel => exact ⟨_, ((t227 != 0)), (by first | rfl | (simp; done) | (simp [*]; done)), H', ⟨by first | omega | exact Nat.le_refl _⟩, ⟨by (with_reducible repeat (first | refine blk_drewN ?_ _ | refine blk_drew ?_ | refine blk_alloc ?_ _)); refine blk_far ?_ NB217_225.out _; (with_reducible repeat (first | refine blk_drewN ?_ _ | refine blk_drew ?_ | refine blk_alloc ?_ _)); refine blk_far ?_ NB217_225.out _; (with_reducible repeat (first | refine blk_drewN ?_ _ | refine blk_drew ?_ | refine blk_alloc ?_ _)); refine blk_far ?_ NB217_225.out _; (with_reducible repeat (first | refine blk_drewN ?_ _ | refine blk_drew ?_ | refine blk_alloc ?_ _)); refine blk_far ?_ NB217_225.out _; (with_reducible repeat (first | refine blk_drewN ?_ _ | refine blk_drew ?_ | refine blk_alloc ?_ _)); refine blk_far ?_ NB217_225.out _; (with_reducible repeat (first | refine blk_drewN ?_ _ | refine blk_drew ?_ | refine blk_alloc ?_ _)); refine blk_far ?_ NB217_225.out _; (with_reducible repeat (first | refine blk_drewN ?_ _ | refine blk_drew ?_ | refine blk_alloc ?_ _)); exact BK217.out⟩, ⟨by (with_reducible repeat (first | refine blk_drewN ?_ _ | refine blk_drew ?_ | refine blk_alloc ?_ _)); refine blk_put (cs := #[.int .i64 t218, .int .i64 t219, .int .i64 t220, .int .i64 t221, .int .i64 t222, .int .i64 0]) ?_ 5 _ rfl; (with_reducible repeat (first | refine blk_drewN ?_ _ | refine blk_drew ?_ | refine blk_alloc ?_ _)); refine blk_put (cs := #[.int .i64 t218, .int .i64 t219, .int .i64 t220, .int .i64 t221, .int .i64 0, .int .i64 0]) ?_ 4 _ rfl; (with_reducible repeat (first | refine blk_drewN ?_ _ | refine blk_drew ?_ | refine blk_alloc ?_ _)); refine blk_put (cs := #[.int .i64 t218, .int .i64 t219, .int .i64 t220, .int .i64 0, .int .i64 0, .int .i64 0]) ?_ 3 _ rfl; (with_reducible repeat (first | refine blk_drewN ?_ _ | refine blk_drew ?_ | refine blk_alloc ?_ _)); refine blk_put (cs := #[.int .i64 t218, .int .i64 t219, .int .i64 0, .int .i64 0, .int .i64 0, .int .i64 0]) ?_ 2 _ rfl; (with_reducible repeat (first | refine blk_drewN ?_ _ | refine blk_drew ?_ | refine blk_alloc ?_ _)); refine blk_put (cs := #[.int .i64 t218, .int .i64 0, .int .i64 0, .int .i64 0, .int .i64 0, .int .i64 0]) ?_ 1 _ rfl; (with_reducible repeat (first | refine blk_drewN ?_ _ | refine blk_drew ?_ | refine blk_alloc ?_ _)); refine blk_put (cs := #[.int .i64 0, .int .i64 0, .int .i64 0, .int .i64 0, .int .i64 0, .int .i64 0]) ?_ 0 _ rfl; (with_reducible repeat (first | refine blk_drewN ?_ _ | refine blk_drew ?_ | refine blk_alloc ?_ _)); exact BK225.out⟩, ⟨by repeat (first | (with_reducible first | exact HB.out | apply below_alloc | apply pw_below_drewN | apply below_drew1 | refine below_set ?_ GE217.out | refine below_set ?_ GE225.out) | exact HB.out)⟩⟩
      · rw [if_neg c16] at H
        have c16b0 : (t226 == 0) = false := beq_eq_false_iff_ne.mpr c16
        have c16b1 : (t226 != 0) = true := bne_iff_ne.mpr c16
        (first | rw [c16b0] | (simp only [i64_w, i32_w]; rw [c16b0]) | skip)
        have H' := Aside0.mk H
        clear H
        go_wp2_with (first | ((with_reducible refine gate_callee (f := 12) rfl ?_); refine goesL_ (some 22) rfl rfl Tryd.func12 (by kernel_rfl) rfl #[.int .i64 t216] rfl (by (try simp only [List.map_toArray, List.map_cons, List.map_nil]); first | done | rfl | (simp only [List.length_drop, List.length_take]; rfl)) ?_; (with_reducible refine (chirographlaw05_num.calls t216 t226 _ A15.out).mono ?_); rintro e w' ⟨rfl, ⟨nd, rfl⟩⟩; refine ⟨_, rfl, ?_⟩))
        go_meet
        case rel => exact ⟨_, (true), (by first | rfl | (simp; done) | (simp [*]; done)), H', ⟨by first | omega | exact Nat.le_refl _⟩, ⟨by (with_reducible repeat (first | refine blk_drewN ?_ _ | refine blk_drew ?_ | refine blk_alloc ?_ _)); refine blk_far ?_ NB217_225.out _; (with_reducible repeat (first | refine blk_drewN ?_ _ | refine blk_drew ?_ | refine blk_alloc ?_ _)); refine blk_far ?_ NB217_225.out _; (with_reducible repeat (first | refine blk_drewN ?_ _ | refine blk_drew ?_ | refine blk_alloc ?_ _)); refine blk_far ?_ NB217_225.out _; (with_reducible repeat (first | refine blk_drewN ?_ _ | refine blk_drew ?_ | refine blk_alloc ?_ _)); refine blk_far ?_ NB217_225.out _; (with_reducible repeat (first | refine blk_drewN ?_ _ | refine blk_drew ?_ | refine blk_alloc ?_ _)); refine blk_far ?_ NB217_225.out _; (with_reducible repeat (first | refine blk_drewN ?_ _ | refine blk_drew ?_ | refine blk_alloc ?_ _)); refine blk_far ?_ NB217_225.out _; (with_reducible repeat (first | refine blk_drewN ?_ _ | refine blk_drew ?_ | refine blk_alloc ?_ _)); exact BK217.out⟩, ⟨by (with_reducible repeat (first | refine blk_drewN ?_ _ | refine blk_drew ?_ | refine blk_alloc ?_ _)); refine blk_put (cs := #[.int .i64 t218, .int .i64 t219, .int .i64 t220, .int .i64 t221, .int .i64 t222, .int .i64 0]) ?_ 5 _ rfl; (with_reducible repeat (first | refine blk_drewN ?_ _ | refine blk_drew ?_ | refine blk_alloc ?_ _)); refine blk_put (cs := #[.int .i64 t218, .int .i64 t219, .int .i64 t220, .int .i64 t221, .int .i64 0, .int .i64 0]) ?_ 4 _ rfl; (with_reducible repeat (first | refine blk_drewN ?_ _ | refine blk_drew ?_ | refine blk_alloc ?_ _)); refine blk_put (cs := #[.int .i64 t218, .int .i64 t219, .int .i64 t220, .int .i64 0, .int .i64 0, .int .i64 0]) ?_ 3 _ rfl; (with_reducible repeat (first | refine blk_drewN ?_ _ | refine blk_drew ?_ | refine blk_alloc ?_ _)); refine blk_put (cs := #[.int .i64 t218, .int .i64 t219, .int .i64 0, .int .i64 0, .int .i64 0, .int .i64 0]) ?_ 2 _ rfl; (with_reducible repeat (first | refine blk_drewN ?_ _ | refine blk_drew ?_ | refine blk_alloc ?_ _)); refine blk_put (cs := #[.int .i64 t218, .int .i64 0, .int .i64 0, .int .i64 0, .int .i64 0, .int .i64 0]) ?_ 1 _ rfl; (with_reducible repeat (first | refine blk_drewN ?_ _ | refine blk_drew ?_ | refine blk_alloc ?_ _)); refine blk_put (cs := #[.int .i64 0, .int .i64 0, .int .i64 0, .int .i64 0, .int .i64 0, .int .i64 0]) ?_ 0 _ rfl; (with_reducible repeat (first | refine blk_drewN ?_ _ | refine blk_drew ?_ | refine blk_alloc ?_ _)); exact BK225.out⟩, ⟨by repeat (first | (with_reducible first | exact HB.out | apply below_alloc | apply pw_below_drewN | apply below_drew1 | refine below_set ?_ GE217.out | refine below_set ?_ GE225.out) | exact HB.out)⟩⟩
    case rest =>
      clear HC7
      try clear c1
      try clear c2
      try clear c2b0
      try clear p2
      try clear p6
      try clear c7
      try clear c12
      try clear c13
      try clear c14
      try clear c16
      try clear c16b0
      try clear c16b1
      try clear hcz10_0
      try clear hcz10_1
      try clear hcz10_2
      try clear hcz10_3
      try clear hcz10_4
      try clear hcz10_5
      try clear hcz14_0
      try clear hcz14_1
      try clear hcz14_2
      try clear hcz14_3
      try clear hcz14_4
      try clear hcz14_5
      try clear hfz10_0
      try clear hfz10_1
      try clear hfz10_2
      try clear hfz10_3
      try clear hfz10_4
      try clear hfz10_5
      try clear hfz14_0
      try clear hfz14_1
      try clear hfz14_2
      try clear hfz14_3
      try clear hfz14_4
      try clear hfz14_5
      obtain ⟨kq, x28_6, rfl, HA, HJ6, BK217, BK225, HB⟩ := hcut
      cases kq with
      | zero => exact absurd HA.out (by simp [chirographlaw05_ClockNext.j0])
      | succ kj6 =>
        have H := HA.out
        clear HA
        simp only [chirographlaw05_ClockNext.j0] at H
        by_cases c18 : x28_6 = true
        · subst c18
          have H1 : ((chirographlaw05_live.f).bind fun t228 => (some t228)) = some r := by rw [if_pos rfl] at H; exact H
          clear H
          have H := H1
          clear H1
          replace H := Option.bind_eq_some_iff.mp H
          obtain ⟨t228, A190, H⟩ := H
          replace H : (some t228) = some r := H
          have A19 := Aside0.mk A190
          clear A190
          obtain rfl := Option.some.inj H
          go_wp2_with (first | ((with_reducible refine gate_callee (f := 13) rfl ?_); refine goesL_ (some 29) rfl rfl Tryd.func13 (by kernel_rfl) rfl #[] rfl (by (try simp only [List.map_toArray, List.map_cons, List.map_nil]); first | done | rfl | (simp only [List.length_drop, List.length_take]; rfl)) ?_; (with_reducible refine (chirographlaw05_live.calls  t228 _ ?side1 A19.out).mono ?_); (case side1 => exact Go.Proofs.YtnkpegldckdahaaDoor.Tabs.below hT_ (by repeat (first | (with_reducible first | exact HB.out | apply below_alloc | apply pw_below_drewN | apply below_drew1 | refine below_set ?_ GE217.out | refine below_set ?_ GE225.out) | exact HB.out))); rintro e w20 ⟨rfl, hb⟩; refine ⟨_, rfl, ?_⟩; have n0_ := Aside0.mk (blk_below (g := gb217) (o := .cells #[.int .i64 t210, .int .i64 t211, .int .i64 t212, .int .i64 t213, .int .i64 t214, .int .i64 t215] 23 (0, 0)) (by (with_reducible repeat (first | refine blk_drewN ?_ _ | refine blk_drew ?_ | refine blk_alloc ?_ _)); exact BK217.out) hb); have n1_ := Aside0.mk (blk_below (g := gb225) (o := .cells #[.int .i64 t218, .int .i64 t219, .int .i64 t220, .int .i64 t221, .int .i64 t222, .int .i64 t223] 23 (0, 0)) (by (with_reducible repeat (first | refine blk_drewN ?_ _ | refine blk_drew ?_ | refine blk_alloc ?_ _)); exact BK225.out) hb); have n2_ := Aside0.mk (below_step (by repeat (first | (with_reducible first | exact HB.out | apply below_alloc | apply pw_below_drewN | apply below_drew1 | refine below_set ?_ GE217.out | refine below_set ?_ GE225.out) | exact HB.out)) hb); clear BK217; clear BK225; clear HB; have BK217 := n0_; have BK225 := n1_; have HB := n2_; clear n0_ n1_ n2_; (try clear hb); (try clear hb2); (try clear hk); (try clear hi)))
          go_ret
          exact ⟨by first | rfl | (simp [errW_none, errW_some] <;> rfl) | (simp [*, errW_none, errW_some] <;> rfl), by repeat (first | (with_reducible first | exact HB.out | apply below_alloc | apply pw_below_drewN | apply below_drew1 | refine below_set ?_ GE217.out | refine below_set ?_ GE225.out) | exact HB.out)⟩
        · replace c18 := Bool.eq_false_iff.mpr c18
          subst c18
          have H1 : (if t223 = (wrap64 (t215 + 1)) then (if (t218 == t210 && (t219 == t211 && (t220 == t212 && (t221 == t213 && (t222 == t214))))) = true then ((chirographlaw05_live.f).bind fun t229 => (some t229)) else (some false)) else (if t215 = 59 then (chirographlaw05_ClockNext.j1 kj6 (t223 != 0) t210 t211 t212 t213 t214 t215 t218 t219 t220 t221 t222 t223) else (chirographlaw05_ClockNext.j1 kj6 true t210 t211 t212 t213 t214 t215 t218 t219 t220 t221 t222 t223))) = some r := by rw [if_neg (show ¬ (false = true) by decide)] at H; exact H
          clear H
          have H := H1
          clear H1
          by_cases c21 : t223 = (wrap64 (t215 + 1))
          · rw [if_pos c21] at H
            have c21b0 : (t223 == (wrap64 (t215 + 1))) = true := beq_iff_eq.mpr c21
            have c21b1 : (t223 != (wrap64 (t215 + 1))) = false := bne_eq_false_iff_eq.mpr c21
            clear c21
            by_cases c22 : (t218 == t210 && (t219 == t211 && (t220 == t212 && (t221 == t213 && (t222 == t214))))) = true
            · rw [if_pos c22] at H
              have c22b0 : (t218 == t210 && (t219 == t211 && (t220 == t212 && (t221 == t213 && (t222 == t214))))) = true := c22
              (try (have c22b1 : decide (t218 = t210 && (t219 == t211 && (t220 == t212 && (t221 == t213 && (t222 == t214))))) = true := by simpa using c22))
              (try (have c22b2 : (t218 == t210 && (t219 == t211 && (t220 == t212 && (t221 == t213 && (t222 == t214))))) = true := by simpa using c22))
              clear c22
              replace H := Option.bind_eq_some_iff.mp H
              obtain ⟨t229, A230, H⟩ := H
              replace H : (some t229) = some r := H
              have A23 := Aside0.mk A230
              clear A230
              obtain rfl := Option.some.inj H
              have hnb24 := NB225_217.out
              have hnc24 := NB217_225.out
              have hcz25_0 : wc.cell? ⟨gb225, 0, none⟩ = some (.int .i64 t218) := (blk_cell BK225.out 0).trans rfl
              have hcz25_1 : wc.cell? ⟨gb225, 1, none⟩ = some (.int .i64 t219) := (blk_cell BK225.out 1).trans rfl
              have hcz25_2 : wc.cell? ⟨gb225, 2, none⟩ = some (.int .i64 t220) := (blk_cell BK225.out 2).trans rfl
              have hcz25_3 : wc.cell? ⟨gb225, 3, none⟩ = some (.int .i64 t221) := (blk_cell BK225.out 3).trans rfl
              have hcz25_4 : wc.cell? ⟨gb225, 4, none⟩ = some (.int .i64 t222) := (blk_cell BK225.out 4).trans rfl
              have hcz25_5 : wc.cell? ⟨gb225, 5, none⟩ = some (.int .i64 t223) := (blk_cell BK225.out 5).trans rfl
              have hfz25_0 := blk_frozen BK225.out 0
              have hfz25_1 := blk_frozen BK225.out 1
              have hfz25_2 := blk_frozen BK225.out 2
              have hfz25_3 := blk_frozen BK225.out 3
              have hfz25_4 := blk_frozen BK225.out 4
              have hfz25_5 := blk_frozen BK225.out 5
              have hcz26_0 : wc.cell? ⟨gb217, 0, none⟩ = some (.int .i64 t210) := (blk_cell BK217.out 0).trans rfl
              have hcz26_1 : wc.cell? ⟨gb217, 1, none⟩ = some (.int .i64 t211) := (blk_cell BK217.out 1).trans rfl
              have hcz26_2 : wc.cell? ⟨gb217, 2, none⟩ = some (.int .i64 t212) := (blk_cell BK217.out 2).trans rfl
              have hcz26_3 : wc.cell? ⟨gb217, 3, none⟩ = some (.int .i64 t213) := (blk_cell BK217.out 3).trans rfl
              have hcz26_4 : wc.cell? ⟨gb217, 4, none⟩ = some (.int .i64 t214) := (blk_cell BK217.out 4).trans rfl
              have hcz26_5 : wc.cell? ⟨gb217, 5, none⟩ = some (.int .i64 t215) := (blk_cell BK217.out 5).trans rfl
              have hfz26_0 := blk_frozen BK217.out 0
              have hfz26_1 := blk_frozen BK217.out 1
              have hfz26_2 := blk_frozen BK217.out 2
              have hfz26_3 := blk_frozen BK217.out 3
              have hfz26_4 := blk_frozen BK217.out 4
              have hfz26_5 := blk_frozen BK217.out 5
              go_wp2_with (first | (go_at_call 13; (with_reducible refine (chirographlaw05_live.calls  t229 _ ?side1 A23.out).mono ?_); (case side1 => exact Go.Proofs.YtnkpegldckdahaaDoor.Tabs.below hT_ (by repeat (first | (with_reducible first | exact HB.out | apply below_alloc | apply pw_below_drewN | apply below_drew1 | refine below_set ?_ GE217.out | refine below_set ?_ GE225.out) | exact HB.out))); rintro e w27 ⟨rfl, hb⟩; have n0_ := Aside0.mk (blk_below (g := gb217) (o := .cells #[.int .i64 t210, .int .i64 t211, .int .i64 t212, .int .i64 t213, .int .i64 t214, .int .i64 t223] 23 (0, 0)) (by (with_reducible repeat (first | refine blk_drewN ?_ _ | refine blk_drew ?_ | refine blk_alloc ?_ _)); refine blk_put (cs := #[.int .i64 t210, .int .i64 t211, .int .i64 t212, .int .i64 t213, .int .i64 t214, .int .i64 t215]) ?_ 5 _ rfl; (with_reducible repeat (first | refine blk_drewN ?_ _ | refine blk_drew ?_ | refine blk_alloc ?_ _)); exact BK217.out) hb); have n1_ := Aside0.mk (blk_below (g := gb225) (o := .cells #[.int .i64 t218, .int .i64 t219, .int .i64 t220, .int .i64 t221, .int .i64 t222, .int .i64 t223] 23 (0, 0)) (by (with_reducible repeat (first | refine blk_drewN ?_ _ | refine blk_drew ?_ | refine blk_alloc ?_ _)); refine blk_far ?_ NB225_217.out _; (with_reducible repeat (first | refine blk_drewN ?_ _ | refine blk_drew ?_ | refine blk_alloc ?_ _)); exact BK225.out) hb); have n2_ := Aside0.mk (below_step (by repeat (first | (with_reducible first | exact HB.out | apply below_alloc | apply pw_below_drewN | apply below_drew1 | refine below_set ?_ GE217.out | refine below_set ?_ GE225.out) | exact HB.out)) hb); clear BK217; clear BK225; clear HB; have BK217 := n0_; have BK225 := n1_; have HB := n2_; clear n0_ n1_ n2_; (try clear hb); (try clear hb2); (try clear hk); (try clear hi)))
              go_ret
              exact ⟨by first | rfl | (simp [errW_none, errW_some] <;> rfl) | (simp [*, errW_none, errW_some] <;> rfl), by repeat (first | (with_reducible first | exact HB.out | apply below_alloc | apply pw_below_drewN | apply below_drew1 | refine below_set ?_ GE217.out | refine below_set ?_ GE225.out) | exact HB.out)⟩
            · rw [if_neg c22] at H
              have c22b0 : (t218 == t210 && (t219 == t211 && (t220 == t212 && (t221 == t213 && (t222 == t214))))) = false := by simpa using c22
              (try (have c22b1 : decide (t218 = t210 && (t219 == t211 && (t220 == t212 && (t221 == t213 && (t222 == t214))))) = false := by simpa using c22))
              (try (have c22b2 : (t218 == t210 && (t219 == t211 && (t220 == t212 && (t221 == t213 && (t222 == t214))))) = false := by simpa using c22))
              (try (have c22b3 : ¬ (t218 = t210 && (t219 == t211 && (t220 == t212 && (t221 == t213 && (t222 == t214))))) := by simpa using c22))
              clear c22
              obtain rfl := Option.some.inj H
              have hnb28 := NB225_217.out
              have hnc28 := NB217_225.out
              have hcz29_0 : wc.cell? ⟨gb225, 0, none⟩ = some (.int .i64 t218) := (blk_cell BK225.out 0).trans rfl
              have hcz29_1 : wc.cell? ⟨gb225, 1, none⟩ = some (.int .i64 t219) := (blk_cell BK225.out 1).trans rfl
              have hcz29_2 : wc.cell? ⟨gb225, 2, none⟩ = some (.int .i64 t220) := (blk_cell BK225.out 2).trans rfl
              have hcz29_3 : wc.cell? ⟨gb225, 3, none⟩ = some (.int .i64 t221) := (blk_cell BK225.out 3).trans rfl
              have hcz29_4 : wc.cell? ⟨gb225, 4, none⟩ = some (.int .i64 t222) := (blk_cell BK225.out 4).trans rfl
              have hcz29_5 : wc.cell? ⟨gb225, 5, none⟩ = some (.int .i64 t223) := (blk_cell BK225.out 5).trans rfl
              have hfz29_0 := blk_frozen BK225.out 0
              have hfz29_1 := blk_frozen BK225.out 1
              have hfz29_2 := blk_frozen BK225.out 2
              have hfz29_3 := blk_frozen BK225.out 3
              have hfz29_4 := blk_frozen BK225.out 4
              have hfz29_5 := blk_frozen BK225.out 5
              have hcz30_0 : wc.cell? ⟨gb217, 0, none⟩ = some (.int .i64 t210) := (blk_cell BK217.out 0).trans rfl
              have hcz30_1 : wc.cell? ⟨gb217, 1, none⟩ = some (.int .i64 t211) := (blk_cell BK217.out 1).trans rfl
              have hcz30_2 : wc.cell? ⟨gb217, 2, none⟩ = some (.int .i64 t212) := (blk_cell BK217.out 2).trans rfl
              have hcz30_3 : wc.cell? ⟨gb217, 3, none⟩ = some (.int .i64 t213) := (blk_cell BK217.out 3).trans rfl
              have hcz30_4 : wc.cell? ⟨gb217, 4, none⟩ = some (.int .i64 t214) := (blk_cell BK217.out 4).trans rfl
              have hcz30_5 : wc.cell? ⟨gb217, 5, none⟩ = some (.int .i64 t215) := (blk_cell BK217.out 5).trans rfl
              have hfz30_0 := blk_frozen BK217.out 0
              have hfz30_1 := blk_frozen BK217.out 1
              have hfz30_2 := blk_frozen BK217.out 2
              have hfz30_3 := blk_frozen BK217.out 3
              have hfz30_4 := blk_frozen BK217.out 4
              have hfz30_5 := blk_frozen BK217.out 5
              go_wp2
              go_ret
              exact ⟨by first | rfl | (simp [errW_none, errW_some] <;> rfl) | (simp [*, errW_none, errW_some] <;> rfl), by repeat (first | (with_reducible first | exact HB.out | apply below_alloc | apply pw_below_drewN | apply below_drew1 | refine below_set ?_ GE217.out | refine below_set ?_ GE225.out) | exact HB.out)⟩
          · rw [if_neg c21] at H
            have c21b0 : (t223 == (wrap64 (t215 + 1))) = false := beq_eq_false_iff_ne.mpr c21
            have c21b1 : (t223 != (wrap64 (t215 + 1))) = true := bne_iff_ne.mpr c21
            have HC31 := Aside0.mk H
            clear H
            have hnb32 := NB225_217.out
            have hnc32 := NB217_225.out
            have hcz33_0 : wc.cell? ⟨gb225, 0, none⟩ = some (.int .i64 t218) := (blk_cell BK225.out 0).trans rfl
            have hcz33_1 : wc.cell? ⟨gb225, 1, none⟩ = some (.int .i64 t219) := (blk_cell BK225.out 1).trans rfl
            have hcz33_2 : wc.cell? ⟨gb225, 2, none⟩ = some (.int .i64 t220) := (blk_cell BK225.out 2).trans rfl
            have hcz33_3 : wc.cell? ⟨gb225, 3, none⟩ = some (.int .i64 t221) := (blk_cell BK225.out 3).trans rfl
            have hcz33_4 : wc.cell? ⟨gb225, 4, none⟩ = some (.int .i64 t222) := (blk_cell BK225.out 4).trans rfl
            have hcz33_5 : wc.cell? ⟨gb225, 5, none⟩ = some (.int .i64 t223) := (blk_cell BK225.out 5).trans rfl
            have hfz33_0 := blk_frozen BK225.out 0
            have hfz33_1 := blk_frozen BK225.out 1
            have hfz33_2 := blk_frozen BK225.out 2
            have hfz33_3 := blk_frozen BK225.out 3
            have hfz33_4 := blk_frozen BK225.out 4
            have hfz33_5 := blk_frozen BK225.out 5
            have hcz34_0 : wc.cell? ⟨gb217, 0, none⟩ = some (.int .i64 t210) := (blk_cell BK217.out 0).trans rfl
            have hcz34_1 : wc.cell? ⟨gb217, 1, none⟩ = some (.int .i64 t211) := (blk_cell BK217.out 1).trans rfl
            have hcz34_2 : wc.cell? ⟨gb217, 2, none⟩ = some (.int .i64 t212) := (blk_cell BK217.out 2).trans rfl
            have hcz34_3 : wc.cell? ⟨gb217, 3, none⟩ = some (.int .i64 t213) := (blk_cell BK217.out 3).trans rfl
            have hcz34_4 : wc.cell? ⟨gb217, 4, none⟩ = some (.int .i64 t214) := (blk_cell BK217.out 4).trans rfl
            have hcz34_5 : wc.cell? ⟨gb217, 5, none⟩ = some (.int .i64 t215) := (blk_cell BK217.out 5).trans rfl
            have hfz34_0 := blk_frozen BK217.out 0
            have hfz34_1 := blk_frozen BK217.out 1
            have hfz34_2 := blk_frozen BK217.out 2
            have hfz34_3 := blk_frozen BK217.out 3
            have hfz34_4 := blk_frozen BK217.out 4
            have hfz34_5 := blk_frozen BK217.out 5
            go_upto_region 10 with (fail)
            go_cut [52] (fun v52 wc => ∃ (kq : Nat) (x52_30 : Bool), v52 = .bool x52_30 ∧ Aside0 (chirographlaw05_ClockNext.j1 kq x52_30 t210 t211 t212 t213 t214 t215 t218 t219 t220 t221 t222 t223 = some r) ∧ Aside0 (kq ≤ kj6) ∧ Aside0 (wc.heap[gb217]? = some (.cells #[.int .i64 t210, .int .i64 t211, .int .i64 t212, .int .i64 t213, .int .i64 t214, .int .i64 t215] 23 (0, 0))) ∧ Aside0 (wc.heap[gb225]? = some (.cells #[.int .i64 t218, .int .i64 t219, .int .i64 t220, .int .i64 t221, .int .i64 t222, .int .i64 t223] 23 (0, 0))) ∧ Aside0 (Below w.heap.size w wc))
            case first =>
              have H := HC31.out
              clear HC31
              by_cases c35 : t215 = 59
              · rw [if_pos c35] at H
                have c35b0 : (t215 == 59) = true := beq_iff_eq.mpr c35
                have c35b1 : (t215 != 59) = false := bne_eq_false_iff_eq.mpr c35
                clear c35
                (first | rw [c35b0] | (simp only [i64_w, i32_w]; rw [c35b0]) | skip)
                have H' := Aside0.mk H
                clear H
                have hnb36 := NB217_225.out
                have hnc36 := NB225_217.out
                have hcz37_0 : wc.cell? ⟨gb217, 0, none⟩ = some (.int .i64 t210) := (blk_cell BK217.out 0).trans rfl
                have hcz37_1 : wc.cell? ⟨gb217, 1, none⟩ = some (.int .i64 t211) := (blk_cell BK217.out 1).trans rfl
                have hcz37_2 : wc.cell? ⟨gb217, 2, none⟩ = some (.int .i64 t212) := (blk_cell BK217.out 2).trans rfl
                have hcz37_3 : wc.cell? ⟨gb217, 3, none⟩ = some (.int .i64 t213) := (blk_cell BK217.out 3).trans rfl
                have hcz37_4 : wc.cell? ⟨gb217, 4, none⟩ = some (.int .i64 t214) := (blk_cell BK217.out 4).trans rfl
                have hcz37_5 : wc.cell? ⟨gb217, 5, none⟩ = some (.int .i64 t215) := (blk_cell BK217.out 5).trans rfl
                have hfz37_0 := blk_frozen BK217.out 0
                have hfz37_1 := blk_frozen BK217.out 1
                have hfz37_2 := blk_frozen BK217.out 2
                have hfz37_3 := blk_frozen BK217.out 3
                have hfz37_4 := blk_frozen BK217.out 4
                have hfz37_5 := blk_frozen BK217.out 5
                have hcz38_0 : wc.cell? ⟨gb225, 0, none⟩ = some (.int .i64 t218) := (blk_cell BK225.out 0).trans rfl
                have hcz38_1 : wc.cell? ⟨gb225, 1, none⟩ = some (.int .i64 t219) := (blk_cell BK225.out 1).trans rfl
                have hcz38_2 : wc.cell? ⟨gb225, 2, none⟩ = some (.int .i64 t220) := (blk_cell BK225.out 2).trans rfl
                have hcz38_3 : wc.cell? ⟨gb225, 3, none⟩ = some (.int .i64 t221) := (blk_cell BK225.out 3).trans rfl
                have hcz38_4 : wc.cell? ⟨gb225, 4, none⟩ = some (.int .i64 t222) := (blk_cell BK225.out 4).trans rfl
                have hcz38_5 : wc.cell? ⟨gb225, 5, none⟩ = some (.int .i64 t223) := (blk_cell BK225.out 5).trans rfl
                have hfz38_0 := blk_frozen BK225.out 0
                have hfz38_1 := blk_frozen BK225.out 1
                have hfz38_2 := blk_frozen BK225.out 2
                have hfz38_3 := blk_frozen BK225.out 3
                have hfz38_4 := blk_frozen BK225.out 4
                have hfz38_5 := blk_frozen BK225.out 5
                go_wp2
                go_meet
                case rel => exact ⟨_, ((t223 != 0)), (by first | rfl | (simp; done) | (simp [*]; done)), H', ⟨by have := HJ6.out; first | omega | exact Nat.le_refl _⟩, ⟨by (with_reducible repeat (first | refine blk_drewN ?_ _ | refine blk_drew ?_ | refine blk_alloc ?_ _)); exact BK217.out⟩, ⟨by (with_reducible repeat (first | refine blk_drewN ?_ _ | refine blk_drew ?_ | refine blk_alloc ?_ _)); exact BK225.out⟩, ⟨by repeat (first | (with_reducible first | exact HB.out | apply below_alloc | apply pw_below_drewN | apply below_drew1 | refine below_set ?_ GE217.out | refine below_set ?_ GE225.out) | exact HB.out)⟩⟩
              · rw [if_neg c35] at H
                have c35b0 : (t215 == 59) = false := beq_eq_false_iff_ne.mpr c35
                have c35b1 : (t215 != 59) = true := bne_iff_ne.mpr c35
                (first | rw [c35b0] | (simp only [i64_w, i32_w]; rw [c35b0]) | skip)
                have H' := Aside0.mk H
                clear H
                have hnb39 := NB217_225.out
                have hnc39 := NB225_217.out
                have hcz40_0 : wc.cell? ⟨gb217, 0, none⟩ = some (.int .i64 t210) := (blk_cell BK217.out 0).trans rfl
                have hcz40_1 : wc.cell? ⟨gb217, 1, none⟩ = some (.int .i64 t211) := (blk_cell BK217.out 1).trans rfl
                have hcz40_2 : wc.cell? ⟨gb217, 2, none⟩ = some (.int .i64 t212) := (blk_cell BK217.out 2).trans rfl
                have hcz40_3 : wc.cell? ⟨gb217, 3, none⟩ = some (.int .i64 t213) := (blk_cell BK217.out 3).trans rfl
                have hcz40_4 : wc.cell? ⟨gb217, 4, none⟩ = some (.int .i64 t214) := (blk_cell BK217.out 4).trans rfl
                have hcz40_5 : wc.cell? ⟨gb217, 5, none⟩ = some (.int .i64 t215) := (blk_cell BK217.out 5).trans rfl
                have hfz40_0 := blk_frozen BK217.out 0
                have hfz40_1 := blk_frozen BK217.out 1
                have hfz40_2 := blk_frozen BK217.out 2
                have hfz40_3 := blk_frozen BK217.out 3
                have hfz40_4 := blk_frozen BK217.out 4
                have hfz40_5 := blk_frozen BK217.out 5
                go_wp2
                go_meet
                case rel => exact ⟨_, (true), (by first | rfl | (simp; done) | (simp [*]; done)), H', ⟨by have := HJ6.out; first | omega | exact Nat.le_refl _⟩, ⟨by (with_reducible repeat (first | refine blk_drewN ?_ _ | refine blk_drew ?_ | refine blk_alloc ?_ _)); exact BK217.out⟩, ⟨by (with_reducible repeat (first | refine blk_drewN ?_ _ | refine blk_drew ?_ | refine blk_alloc ?_ _)); exact BK225.out⟩, ⟨by repeat (first | (with_reducible first | exact HB.out | apply below_alloc | apply pw_below_drewN | apply below_drew1 | refine below_set ?_ GE217.out | refine below_set ?_ GE225.out) | exact HB.out)⟩⟩
            case rest =>
              clear HC31
              try clear c1
              try clear c2
              try clear c2b0
              try clear p2
              try clear c3
              try clear p6
              try clear c7
              try clear c12
              try clear c13
              try clear c14
              try clear c16
              try clear c16b0
              try clear c16b1
              try clear c18
              try clear c21
              try clear c21b0
              try clear c21b1
              try clear c22
              try clear c22b0
              try clear c22b1
              try clear c22b2
              try clear c24
              try clear c28
              try clear c32
              try clear c35
              try clear c35b0
              try clear c35b1
              try clear c36
              try clear c39
              try clear hcz10_0
              try clear hcz10_1
              try clear hcz10_2
              try clear hcz10_3
              try clear hcz10_4
              try clear hcz10_5
              try clear hcz14_0
              try clear hcz14_1
              try clear hcz14_2
              try clear hcz14_3
              try clear hcz14_4
              try clear hcz14_5
              try clear hcz25_0
              try clear hcz25_1
              try clear hcz25_2
              try clear hcz25_3
              try clear hcz25_4
              try clear hcz25_5
              try clear hcz26_0
              try clear hcz26_1
              try clear hcz26_2
              try clear hcz26_3
              try clear hcz26_4
              try clear hcz26_5
              try clear hcz29_0
              try clear hcz29_1
              try clear hcz29_2
              try clear hcz29_3
              try clear hcz29_4
              try clear hcz29_5
              try clear hcz30_0
              try clear hcz30_1
              try clear hcz30_2
              try clear hcz30_3
              try clear hcz30_4
              try clear hcz30_5
              try clear hcz33_0
              try clear hcz33_1
              try clear hcz33_2
              try clear hcz33_3
              try clear hcz33_4
              try clear hcz33_5
              try clear hcz34_0
              try clear hcz34_1
              try clear hcz34_2
              try clear hcz34_3
              try clear hcz34_4
              try clear hcz34_5
              try clear hcz37_0
              try clear hcz37_1
              try clear hcz37_2
              try clear hcz37_3
              try clear hcz37_4
              try clear hcz37_5
              try clear hcz38_0
              try clear hcz38_1
              try clear hcz38_2
              try clear hcz38_3
              try clear hcz38_4
              try clear hcz38_5
              try clear hcz40_0
              try clear hcz40_1
              try clear hcz40_2
              try clear hcz40_3
              try clear hcz40_4
              try clear hcz40_5
              try clear hfz10_0
              try clear hfz10_1
              try clear hfz10_2
              try clear hfz10_3
              try clear hfz10_4
              try clear hfz10_5
              try clear hfz14_0
              try clear hfz14_1
              try clear hfz14_2
              try clear hfz14_3
              try clear hfz14_4
              try clear hfz14_5
              try clear hfz25_0
              try clear hfz25_1
              try clear hfz25_2
              try clear hfz25_3
              try clear hfz25_4
              try clear hfz25_5
              try clear hfz26_0
              try clear hfz26_1
              try clear hfz26_2
              try clear hfz26_3
              try clear hfz26_4
              try clear hfz26_5
              try clear hfz29_0
              try clear hfz29_1
              try clear hfz29_2
              try clear hfz29_3
              try clear hfz29_4
              try clear hfz29_5
              try clear hfz30_0
              try clear hfz30_1
              try clear hfz30_2
              try clear hfz30_3
              try clear hfz30_4
              try clear hfz30_5
              try clear hfz33_0
              try clear hfz33_1
              try clear hfz33_2
              try clear hfz33_3
              try clear hfz33_4
              try clear hfz33_5
              try clear hfz34_0
              try clear hfz34_1
              try clear hfz34_2
              try clear hfz34_3
              try clear hfz34_4
              try clear hfz34_5
              try clear hfz37_0
              try clear hfz37_1
              try clear hfz37_2
              try clear hfz37_3
              try clear hfz37_4
              try clear hfz37_5
              try clear hfz38_0
              try clear hfz38_1
              try clear hfz38_2
              try clear hfz38_3
              try clear hfz38_4
              try clear hfz38_5
              try clear hfz40_0
              try clear hfz40_1
              try clear hfz40_2
              try clear hfz40_3
              try clear hfz40_4
              try clear hfz40_5
              try clear p2
              try clear p6
              obtain ⟨kq, x52_30, rfl, HA, HJ30, BK217, BK225, HB⟩ := hcut
              cases kq with
              | zero => exact absurd HA.out (by simp [chirographlaw05_ClockNext.j1])
              | succ kj30 =>
                have H := HA.out
                clear HA
                simp only [chirographlaw05_ClockNext.j1] at H
                by_cases c41 : x52_30 = true
                · subst c41
                  have H1 : (some false) = some r := by rw [if_pos rfl] at H; exact H
                  clear H
                  have H := H1
                  clear H1
                  obtain rfl := Option.some.inj H
                  go_wp2
                  go_ret
                  exact ⟨by first | rfl | (simp [errW_none, errW_some] <;> rfl) | (simp [*, errW_none, errW_some] <;> rfl), by repeat (first | (with_reducible first | exact HB.out | apply below_alloc | apply pw_below_drewN | apply below_drew1 | refine below_set ?_ GE217.out | refine below_set ?_ GE225.out) | exact HB.out)⟩
                · replace c41 := Bool.eq_false_iff.mpr c41
                  subst c41
                  have H1 : (if t214 < 59 then (if (t218 == t210 && (t219 == t211 && (t220 == t212 && (t221 == t213 && (t222 == (wrap64 (t214 + 1)) && (t223 == 0)))))) = true then ((chirographlaw05_live.f).bind fun t230 => (some t230)) else (some false)) else (if t213 < 23 then (if (t218 == t210 && (t219 == t211 && (t220 == t212 && (t221 == (wrap64 (t213 + 1)) && (t222 == 0 && (t223 == 0)))))) = true then ((chirographlaw05_live.f).bind fun t231 => (some t231)) else (some false)) else (if t222 = 0 then (chirographlaw05_ClockNext.j2 kj30 (t221 != 0) t210 t211 t212 t213 t214 t215 t218 t219 t220 t221 t222 t223) else (chirographlaw05_ClockNext.j2 kj30 true t210 t211 t212 t213 t214 t215 t218 t219 t220 t221 t222 t223)))) = some r := by rw [if_neg (show ¬ (false = true) by decide)] at H; exact H
                  clear H
                  have H := H1
                  clear H1
                  by_cases c42 : t214 < 59
                  · rw [if_pos c42] at H
                    have c42b0 : decide (t214 < 59) = true := decide_eq_true c42
                    clear c42
                    by_cases c43 : (t218 == t210 && (t219 == t211 && (t220 == t212 && (t221 == t213 && (t222 == (wrap64 (t214 + 1)) && (t223 == 0)))))) = true
                    · rw [if_pos c43] at H
                      have c43b0 : (t218 == t210 && (t219 == t211 && (t220 == t212 && (t221 == t213 && (t222 == (wrap64 (t214 + 1)) && (t223 == 0)))))) = true := c43
                      (try (have c43b1 : decide (t218 = t210 && (t219 == t211 && (t220 == t212 && (t221 == t213 && (t222 == (wrap64 (t214 + 1)) && (t223 == 0)))))) = true := by simpa using c43))
                      (try (have c43b2 : (t218 == t210 && (t219 == t211 && (t220 == t212 && (t221 == t213 && (t222 == (wrap64 (t214 + 1)) && (t223 == 0)))))) = true := by simpa using c43))
                      clear c43
                      replace H := Option.bind_eq_some_iff.mp H
                      obtain ⟨t230, A440, H⟩ := H
                      replace H : (some t230) = some r := H
                      have A44 := Aside0.mk A440
                      clear A440
                      obtain rfl := Option.some.inj H
                      have hnb45 := NB217_225.out
                      have hnc45 := NB225_217.out
                      have hcz46_0 : wc.cell? ⟨gb217, 0, none⟩ = some (.int .i64 t210) := (blk_cell BK217.out 0).trans rfl
                      have hcz46_1 : wc.cell? ⟨gb217, 1, none⟩ = some (.int .i64 t211) := (blk_cell BK217.out 1).trans rfl
                      have hcz46_2 : wc.cell? ⟨gb217, 2, none⟩ = some (.int .i64 t212) := (blk_cell BK217.out 2).trans rfl
                      have hcz46_3 : wc.cell? ⟨gb217, 3, none⟩ = some (.int .i64 t213) := (blk_cell BK217.out 3).trans rfl
                      have hcz46_4 : wc.cell? ⟨gb217, 4, none⟩ = some (.int .i64 t214) := (blk_cell BK217.out 4).trans rfl
                      have hcz46_5 : wc.cell? ⟨gb217, 5, none⟩ = some (.int .i64 t215) := (blk_cell BK217.out 5).trans rfl
                      have hfz46_0 := blk_frozen BK217.out 0
                      have hfz46_1 := blk_frozen BK217.out 1
                      have hfz46_2 := blk_frozen BK217.out 2
                      have hfz46_3 := blk_frozen BK217.out 3
                      have hfz46_4 := blk_frozen BK217.out 4
                      have hfz46_5 := blk_frozen BK217.out 5
                      have hcz47_0 : wc.cell? ⟨gb225, 0, none⟩ = some (.int .i64 t218) := (blk_cell BK225.out 0).trans rfl
                      have hcz47_1 : wc.cell? ⟨gb225, 1, none⟩ = some (.int .i64 t219) := (blk_cell BK225.out 1).trans rfl
                      have hcz47_2 : wc.cell? ⟨gb225, 2, none⟩ = some (.int .i64 t220) := (blk_cell BK225.out 2).trans rfl
                      have hcz47_3 : wc.cell? ⟨gb225, 3, none⟩ = some (.int .i64 t221) := (blk_cell BK225.out 3).trans rfl
                      have hcz47_4 : wc.cell? ⟨gb225, 4, none⟩ = some (.int .i64 t222) := (blk_cell BK225.out 4).trans rfl
                      have hcz47_5 : wc.cell? ⟨gb225, 5, none⟩ = some (.int .i64 t223) := (blk_cell BK225.out 5).trans rfl
                      have hfz47_0 := blk_frozen BK225.out 0
                      have hfz47_1 := blk_frozen BK225.out 1
                      have hfz47_2 := blk_frozen BK225.out 2
                      have hfz47_3 := blk_frozen BK225.out 3
                      have hfz47_4 := blk_frozen BK225.out 4
                      have hfz47_5 := blk_frozen BK225.out 5
                      go_wp2_with (first | (go_at_call 13; (with_reducible refine (chirographlaw05_live.calls  t230 _ ?side1 A44.out).mono ?_); (case side1 => exact Go.Proofs.YtnkpegldckdahaaDoor.Tabs.below hT_ (by repeat (first | (with_reducible first | exact HB.out | apply below_alloc | apply pw_below_drewN | apply below_drew1 | refine below_set ?_ GE217.out | refine below_set ?_ GE225.out) | exact HB.out))); rintro e w48 ⟨rfl, hb⟩; have n0_ := Aside0.mk (blk_below (g := gb217) (o := .cells #[.int .i64 t210, .int .i64 t211, .int .i64 t212, .int .i64 t213, .int .i64 t214, .int .i64 t215] 23 (0, 0)) (by (with_reducible repeat (first | refine blk_drewN ?_ _ | refine blk_drew ?_ | refine blk_alloc ?_ _)); exact BK217.out) hb); have n1_ := Aside0.mk (blk_below (g := gb225) (o := .cells #[.int .i64 t218, .int .i64 t219, .int .i64 t220, .int .i64 t221, .int .i64 t222, .int .i64 t223] 23 (0, 0)) (by (with_reducible repeat (first | refine blk_drewN ?_ _ | refine blk_drew ?_ | refine blk_alloc ?_ _)); exact BK225.out) hb); have n2_ := Aside0.mk (below_step (by repeat (first | (with_reducible first | exact HB.out | apply below_alloc | apply pw_below_drewN | apply below_drew1 | refine below_set ?_ GE217.out | refine below_set ?_ GE225.out) | exact HB.out)) hb); clear BK217; clear BK225; clear HB; have BK217 := n0_; have BK225 := n1_; have HB := n2_; clear n0_ n1_ n2_; (try clear hb); (try clear hb2); (try clear hk); (try clear hi)))
                      go_ret
                      exact ⟨by first | rfl | (simp [errW_none, errW_some] <;> rfl) | (simp [*, errW_none, errW_some] <;> rfl), by repeat (first | (with_reducible first | exact HB.out | apply below_alloc | apply pw_below_drewN | apply below_drew1 | refine below_set ?_ GE217.out | refine below_set ?_ GE225.out) | exact HB.out)⟩
                    · rw [if_neg c43] at H
                      have c43b0 : (t218 == t210 && (t219 == t211 && (t220 == t212 && (t221 == t213 && (t222 == (wrap64 (t214 + 1)) && (t223 == 0)))))) = false := by simpa using c43
                      (try (have c43b1 : decide (t218 = t210 && (t219 == t211 && (t220 == t212 && (t221 == t213 && (t222 == (wrap64 (t214 + 1)) && (t223 == 0)))))) = false := by simpa using c43))
                      (try (have c43b2 : (t218 == t210 && (t219 == t211 && (t220 == t212 && (t221 == t213 && (t222 == (wrap64 (t214 + 1)) && (t223 == 0)))))) = false := by simpa using c43))
                      (try (have c43b3 : ¬ (t218 = t210 && (t219 == t211 && (t220 == t212 && (t221 == t213 && (t222 == (wrap64 (t214 + 1)) && (t223 == 0)))))) := by simpa using c43))
                      clear c43
                      obtain rfl := Option.some.inj H
                      have hnb49 := NB217_225.out
                      have hnc49 := NB225_217.out
                      have hcz50_0 : wc.cell? ⟨gb217, 0, none⟩ = some (.int .i64 t210) := (blk_cell BK217.out 0).trans rfl
                      have hcz50_1 : wc.cell? ⟨gb217, 1, none⟩ = some (.int .i64 t211) := (blk_cell BK217.out 1).trans rfl
                      have hcz50_2 : wc.cell? ⟨gb217, 2, none⟩ = some (.int .i64 t212) := (blk_cell BK217.out 2).trans rfl
                      have hcz50_3 : wc.cell? ⟨gb217, 3, none⟩ = some (.int .i64 t213) := (blk_cell BK217.out 3).trans rfl
                      have hcz50_4 : wc.cell? ⟨gb217, 4, none⟩ = some (.int .i64 t214) := (blk_cell BK217.out 4).trans rfl
                      have hcz50_5 : wc.cell? ⟨gb217, 5, none⟩ = some (.int .i64 t215) := (blk_cell BK217.out 5).trans rfl
                      have hfz50_0 := blk_frozen BK217.out 0
                      have hfz50_1 := blk_frozen BK217.out 1
                      have hfz50_2 := blk_frozen BK217.out 2
                      have hfz50_3 := blk_frozen BK217.out 3
                      have hfz50_4 := blk_frozen BK217.out 4
                      have hfz50_5 := blk_frozen BK217.out 5
                      have hcz51_0 : wc.cell? ⟨gb225, 0, none⟩ = some (.int .i64 t218) := (blk_cell BK225.out 0).trans rfl
                      have hcz51_1 : wc.cell? ⟨gb225, 1, none⟩ = some (.int .i64 t219) := (blk_cell BK225.out 1).trans rfl
                      have hcz51_2 : wc.cell? ⟨gb225, 2, none⟩ = some (.int .i64 t220) := (blk_cell BK225.out 2).trans rfl
                      have hcz51_3 : wc.cell? ⟨gb225, 3, none⟩ = some (.int .i64 t221) := (blk_cell BK225.out 3).trans rfl
                      have hcz51_4 : wc.cell? ⟨gb225, 4, none⟩ = some (.int .i64 t222) := (blk_cell BK225.out 4).trans rfl
                      have hcz51_5 : wc.cell? ⟨gb225, 5, none⟩ = some (.int .i64 t223) := (blk_cell BK225.out 5).trans rfl
                      have hfz51_0 := blk_frozen BK225.out 0
                      have hfz51_1 := blk_frozen BK225.out 1
                      have hfz51_2 := blk_frozen BK225.out 2
                      have hfz51_3 := blk_frozen BK225.out 3
                      have hfz51_4 := blk_frozen BK225.out 4
                      have hfz51_5 := blk_frozen BK225.out 5
                      go_wp2
                      go_ret
                      exact ⟨by first | rfl | (simp [errW_none, errW_some] <;> rfl) | (simp [*, errW_none, errW_some] <;> rfl), by repeat (first | (with_reducible first | exact HB.out | apply below_alloc | apply pw_below_drewN | apply below_drew1 | refine below_set ?_ GE217.out | refine below_set ?_ GE225.out) | exact HB.out)⟩
                  · rw [if_neg c42] at H
                    have c42b0 : decide (t214 < 59) = false := decide_eq_false c42
                    clear c42
                    by_cases c52 : t213 < 23
                    · rw [if_pos c52] at H
                      have c52b0 : decide (t213 < 23) = true := decide_eq_true c52
                      clear c52
                      by_cases c53 : (t218 == t210 && (t219 == t211 && (t220 == t212 && (t221 == (wrap64 (t213 + 1)) && (t222 == 0 && (t223 == 0)))))) = true
                      · rw [if_pos c53] at H
                        have c53b0 : (t218 == t210 && (t219 == t211 && (t220 == t212 && (t221 == (wrap64 (t213 + 1)) && (t222 == 0 && (t223 == 0)))))) = true := c53
                        (try (have c53b1 : decide (t218 = t210 && (t219 == t211 && (t220 == t212 && (t221 == (wrap64 (t213 + 1)) && (t222 == 0 && (t223 == 0)))))) = true := by simpa using c53))
                        (try (have c53b2 : (t218 == t210 && (t219 == t211 && (t220 == t212 && (t221 == (wrap64 (t213 + 1)) && (t222 == 0 && (t223 == 0)))))) = true := by simpa using c53))
                        clear c53
                        replace H := Option.bind_eq_some_iff.mp H
                        obtain ⟨t231, A540, H⟩ := H
                        replace H : (some t231) = some r := H
                        have A54 := Aside0.mk A540
                        clear A540
                        obtain rfl := Option.some.inj H
                        have hnb55 := NB217_225.out
                        have hnc55 := NB225_217.out
                        have hcz56_0 : wc.cell? ⟨gb217, 0, none⟩ = some (.int .i64 t210) := (blk_cell BK217.out 0).trans rfl
                        have hcz56_1 : wc.cell? ⟨gb217, 1, none⟩ = some (.int .i64 t211) := (blk_cell BK217.out 1).trans rfl
                        have hcz56_2 : wc.cell? ⟨gb217, 2, none⟩ = some (.int .i64 t212) := (blk_cell BK217.out 2).trans rfl
                        have hcz56_3 : wc.cell? ⟨gb217, 3, none⟩ = some (.int .i64 t213) := (blk_cell BK217.out 3).trans rfl
                        have hcz56_4 : wc.cell? ⟨gb217, 4, none⟩ = some (.int .i64 t214) := (blk_cell BK217.out 4).trans rfl
                        have hcz56_5 : wc.cell? ⟨gb217, 5, none⟩ = some (.int .i64 t215) := (blk_cell BK217.out 5).trans rfl
                        have hfz56_0 := blk_frozen BK217.out 0
                        have hfz56_1 := blk_frozen BK217.out 1
                        have hfz56_2 := blk_frozen BK217.out 2
                        have hfz56_3 := blk_frozen BK217.out 3
                        have hfz56_4 := blk_frozen BK217.out 4
                        have hfz56_5 := blk_frozen BK217.out 5
                        have hcz57_0 : wc.cell? ⟨gb225, 0, none⟩ = some (.int .i64 t218) := (blk_cell BK225.out 0).trans rfl
                        have hcz57_1 : wc.cell? ⟨gb225, 1, none⟩ = some (.int .i64 t219) := (blk_cell BK225.out 1).trans rfl
                        have hcz57_2 : wc.cell? ⟨gb225, 2, none⟩ = some (.int .i64 t220) := (blk_cell BK225.out 2).trans rfl
                        have hcz57_3 : wc.cell? ⟨gb225, 3, none⟩ = some (.int .i64 t221) := (blk_cell BK225.out 3).trans rfl
                        have hcz57_4 : wc.cell? ⟨gb225, 4, none⟩ = some (.int .i64 t222) := (blk_cell BK225.out 4).trans rfl
                        have hcz57_5 : wc.cell? ⟨gb225, 5, none⟩ = some (.int .i64 t223) := (blk_cell BK225.out 5).trans rfl
                        have hfz57_0 := blk_frozen BK225.out 0
                        have hfz57_1 := blk_frozen BK225.out 1
                        have hfz57_2 := blk_frozen BK225.out 2
                        have hfz57_3 := blk_frozen BK225.out 3
                        have hfz57_4 := blk_frozen BK225.out 4
                        have hfz57_5 := blk_frozen BK225.out 5
                        go_wp2_with (first | (go_at_call 13; (with_reducible refine (chirographlaw05_live.calls  t231 _ ?side1 A54.out).mono ?_); (case side1 => exact Go.Proofs.YtnkpegldckdahaaDoor.Tabs.below hT_ (by repeat (first | (with_reducible first | exact HB.out | apply below_alloc | apply pw_below_drewN | apply below_drew1 | refine below_set ?_ GE217.out | refine below_set ?_ GE225.out) | exact HB.out))); rintro e w58 ⟨rfl, hb⟩; have n0_ := Aside0.mk (blk_below (g := gb217) (o := .cells #[.int .i64 t210, .int .i64 t211, .int .i64 t212, .int .i64 t213, .int .i64 t214, .int .i64 t215] 23 (0, 0)) (by (with_reducible repeat (first | refine blk_drewN ?_ _ | refine blk_drew ?_ | refine blk_alloc ?_ _)); exact BK217.out) hb); have n1_ := Aside0.mk (blk_below (g := gb225) (o := .cells #[.int .i64 t218, .int .i64 t219, .int .i64 t220, .int .i64 t221, .int .i64 t222, .int .i64 t223] 23 (0, 0)) (by (with_reducible repeat (first | refine blk_drewN ?_ _ | refine blk_drew ?_ | refine blk_alloc ?_ _)); exact BK225.out) hb); have n2_ := Aside0.mk (below_step (by repeat (first | (with_reducible first | exact HB.out | apply below_alloc | apply pw_below_drewN | apply below_drew1 | refine below_set ?_ GE217.out | refine below_set ?_ GE225.out) | exact HB.out)) hb); clear BK217; clear BK225; clear HB; have BK217 := n0_; have BK225 := n1_; have HB := n2_; clear n0_ n1_ n2_; (try clear hb); (try clear hb2); (try clear hk); (try clear hi)))
                        go_ret
                        exact ⟨by first | rfl | (simp [errW_none, errW_some] <;> rfl) | (simp [*, errW_none, errW_some] <;> rfl), by repeat (first | (with_reducible first | exact HB.out | apply below_alloc | apply pw_below_drewN | apply below_drew1 | refine below_set ?_ GE217.out | refine below_set ?_ GE225.out) | exact HB.out)⟩
                      · rw [if_neg c53] at H
                        have c53b0 : (t218 == t210 && (t219 == t211 && (t220 == t212 && (t221 == (wrap64 (t213 + 1)) && (t222 == 0 && (t223 == 0)))))) = false := by simpa using c53
                        (try (have c53b1 : decide (t218 = t210 && (t219 == t211 && (t220 == t212 && (t221 == (wrap64 (t213 + 1)) && (t222 == 0 && (t223 == 0)))))) = false := by simpa using c53))
                        (try (have c53b2 : (t218 == t210 && (t219 == t211 && (t220 == t212 && (t221 == (wrap64 (t213 + 1)) && (t222 == 0 && (t223 == 0)))))) = false := by simpa using c53))
                        (try (have c53b3 : ¬ (t218 = t210 && (t219 == t211 && (t220 == t212 && (t221 == (wrap64 (t213 + 1)) && (t222 == 0 && (t223 == 0)))))) := by simpa using c53))
                        clear c53
                        obtain rfl := Option.some.inj H
                        have hnb59 := NB217_225.out
                        have hnc59 := NB225_217.out
                        have hcz60_0 : wc.cell? ⟨gb217, 0, none⟩ = some (.int .i64 t210) := (blk_cell BK217.out 0).trans rfl
                        have hcz60_1 : wc.cell? ⟨gb217, 1, none⟩ = some (.int .i64 t211) := (blk_cell BK217.out 1).trans rfl
                        have hcz60_2 : wc.cell? ⟨gb217, 2, none⟩ = some (.int .i64 t212) := (blk_cell BK217.out 2).trans rfl
                        have hcz60_3 : wc.cell? ⟨gb217, 3, none⟩ = some (.int .i64 t213) := (blk_cell BK217.out 3).trans rfl
                        have hcz60_4 : wc.cell? ⟨gb217, 4, none⟩ = some (.int .i64 t214) := (blk_cell BK217.out 4).trans rfl
                        have hcz60_5 : wc.cell? ⟨gb217, 5, none⟩ = some (.int .i64 t215) := (blk_cell BK217.out 5).trans rfl
                        have hfz60_0 := blk_frozen BK217.out 0
                        have hfz60_1 := blk_frozen BK217.out 1
                        have hfz60_2 := blk_frozen BK217.out 2
                        have hfz60_3 := blk_frozen BK217.out 3
                        have hfz60_4 := blk_frozen BK217.out 4
                        have hfz60_5 := blk_frozen BK217.out 5
                        have hcz61_0 : wc.cell? ⟨gb225, 0, none⟩ = some (.int .i64 t218) := (blk_cell BK225.out 0).trans rfl
                        have hcz61_1 : wc.cell? ⟨gb225, 1, none⟩ = some (.int .i64 t219) := (blk_cell BK225.out 1).trans rfl
                        have hcz61_2 : wc.cell? ⟨gb225, 2, none⟩ = some (.int .i64 t220) := (blk_cell BK225.out 2).trans rfl
                        have hcz61_3 : wc.cell? ⟨gb225, 3, none⟩ = some (.int .i64 t221) := (blk_cell BK225.out 3).trans rfl
                        have hcz61_4 : wc.cell? ⟨gb225, 4, none⟩ = some (.int .i64 t222) := (blk_cell BK225.out 4).trans rfl
                        have hcz61_5 : wc.cell? ⟨gb225, 5, none⟩ = some (.int .i64 t223) := (blk_cell BK225.out 5).trans rfl
                        have hfz61_0 := blk_frozen BK225.out 0
                        have hfz61_1 := blk_frozen BK225.out 1
                        have hfz61_2 := blk_frozen BK225.out 2
                        have hfz61_3 := blk_frozen BK225.out 3
                        have hfz61_4 := blk_frozen BK225.out 4
                        have hfz61_5 := blk_frozen BK225.out 5
                        go_wp2
                        go_ret
                        exact ⟨by first | rfl | (simp [errW_none, errW_some] <;> rfl) | (simp [*, errW_none, errW_some] <;> rfl), by repeat (first | (with_reducible first | exact HB.out | apply below_alloc | apply pw_below_drewN | apply below_drew1 | refine below_set ?_ GE217.out | refine below_set ?_ GE225.out) | exact HB.out)⟩
                    · rw [if_neg c52] at H
                      have c52b0 : decide (t213 < 23) = false := decide_eq_false c52
                      clear c52
                      have HC62 := Aside0.mk H
                      clear H
                      have hnb63 := NB217_225.out
                      have hnc63 := NB225_217.out
                      have hcz64_0 : wc.cell? ⟨gb217, 0, none⟩ = some (.int .i64 t210) := (blk_cell BK217.out 0).trans rfl
                      have hcz64_1 : wc.cell? ⟨gb217, 1, none⟩ = some (.int .i64 t211) := (blk_cell BK217.out 1).trans rfl
                      have hcz64_2 : wc.cell? ⟨gb217, 2, none⟩ = some (.int .i64 t212) := (blk_cell BK217.out 2).trans rfl
                      have hcz64_3 : wc.cell? ⟨gb217, 3, none⟩ = some (.int .i64 t213) := (blk_cell BK217.out 3).trans rfl
                      have hcz64_4 : wc.cell? ⟨gb217, 4, none⟩ = some (.int .i64 t214) := (blk_cell BK217.out 4).trans rfl
                      have hcz64_5 : wc.cell? ⟨gb217, 5, none⟩ = some (.int .i64 t215) := (blk_cell BK217.out 5).trans rfl
                      have hfz64_0 := blk_frozen BK217.out 0
                      have hfz64_1 := blk_frozen BK217.out 1
                      have hfz64_2 := blk_frozen BK217.out 2
                      have hfz64_3 := blk_frozen BK217.out 3
                      have hfz64_4 := blk_frozen BK217.out 4
                      have hfz64_5 := blk_frozen BK217.out 5
                      go_upto_region 16 with (fail)
                      go_cut [98] (fun v98 wc => ∃ (kq : Nat) (x98_61 : Bool), v98 = .bool x98_61 ∧ Aside0 (chirographlaw05_ClockNext.j2 kq x98_61 t210 t211 t212 t213 t214 t215 t218 t219 t220 t221 t222 t223 = some r) ∧ Aside0 (kq ≤ kj30) ∧ Aside0 (wc.heap[gb217]? = some (.cells #[.int .i64 t210, .int .i64 t211, .int .i64 t212, .int .i64 t213, .int .i64 t214, .int .i64 t215] 23 (0, 0))) ∧ Aside0 (wc.heap[gb225]? = some (.cells #[.int .i64 t218, .int .i64 t219, .int .i64 t220, .int .i64 t221, .int .i64 t222, .int .i64 t223] 23 (0, 0))) ∧ Aside0 (Below w.heap.size w wc))
                      case first =>
                        have H := HC62.out
                        clear HC62
                        by_cases c65 : t222 = 0
                        · rw [if_pos c65] at H
                          have c65b0 : (t222 == 0) = true := beq_iff_eq.mpr c65
                          have c65b1 : (t222 != 0) = false := bne_eq_false_iff_eq.mpr c65
                          clear c65
                          (first | rw [c65b0] | (simp only [i64_w, i32_w]; rw [c65b0]) | skip)
                          have H' := Aside0.mk H
                          clear H
                          have hnb66 := NB225_217.out
                          have hnc66 := NB217_225.out
                          have hcz67_0 : wc.cell? ⟨gb225, 0, none⟩ = some (.int .i64 t218) := (blk_cell BK225.out 0).trans rfl
                          have hcz67_1 : wc.cell? ⟨gb225, 1, none⟩ = some (.int .i64 t219) := (blk_cell BK225.out 1).trans rfl
                          have hcz67_2 : wc.cell? ⟨gb225, 2, none⟩ = some (.int .i64 t220) := (blk_cell BK225.out 2).trans rfl
                          have hcz67_3 : wc.cell? ⟨gb225, 3, none⟩ = some (.int .i64 t221) := (blk_cell BK225.out 3).trans rfl
                          have hcz67_4 : wc.cell? ⟨gb225, 4, none⟩ = some (.int .i64 t222) := (blk_cell BK225.out 4).trans rfl
                          have hcz67_5 : wc.cell? ⟨gb225, 5, none⟩ = some (.int .i64 t223) := (blk_cell BK225.out 5).trans rfl
                          have hfz67_0 := blk_frozen BK225.out 0
                          have hfz67_1 := blk_frozen BK225.out 1
                          have hfz67_2 := blk_frozen BK225.out 2
                          have hfz67_3 := blk_frozen BK225.out 3
                          have hfz67_4 := blk_frozen BK225.out 4
                          have hfz67_5 := blk_frozen BK225.out 5
                          go_wp2
                          go_meet
                          case rel => exact ⟨_, ((t221 != 0)), (by first | rfl | (simp; done) | (simp [*]; done)), H', ⟨by have := HJ6.out; have := HJ30.out; first | omega | exact Nat.le_refl _⟩, ⟨by (with_reducible repeat (first | refine blk_drewN ?_ _ | refine blk_drew ?_ | refine blk_alloc ?_ _)); exact BK217.out⟩, ⟨by (with_reducible repeat (first | refine blk_drewN ?_ _ | refine blk_drew ?_ | refine blk_alloc ?_ _)); exact BK225.out⟩, ⟨by repeat (first | (with_reducible first | exact HB.out | apply below_alloc | apply pw_below_drewN | apply below_drew1 | refine below_set ?_ GE217.out | refine below_set ?_ GE225.out) | exact HB.out)⟩⟩
                        · rw [if_neg c65] at H
                          have c65b0 : (t222 == 0) = false := beq_eq_false_iff_ne.mpr c65
                          have c65b1 : (t222 != 0) = true := bne_iff_ne.mpr c65
                          (first | rw [c65b0] | (simp only [i64_w, i32_w]; rw [c65b0]) | skip)
                          have H' := Aside0.mk H
                          clear H
                          have hnb68 := NB225_217.out
                          have hnc68 := NB217_225.out
                          have hcz69_0 : wc.cell? ⟨gb225, 0, none⟩ = some (.int .i64 t218) := (blk_cell BK225.out 0).trans rfl
                          have hcz69_1 : wc.cell? ⟨gb225, 1, none⟩ = some (.int .i64 t219) := (blk_cell BK225.out 1).trans rfl
                          have hcz69_2 : wc.cell? ⟨gb225, 2, none⟩ = some (.int .i64 t220) := (blk_cell BK225.out 2).trans rfl
                          have hcz69_3 : wc.cell? ⟨gb225, 3, none⟩ = some (.int .i64 t221) := (blk_cell BK225.out 3).trans rfl
                          have hcz69_4 : wc.cell? ⟨gb225, 4, none⟩ = some (.int .i64 t222) := (blk_cell BK225.out 4).trans rfl
                          have hcz69_5 : wc.cell? ⟨gb225, 5, none⟩ = some (.int .i64 t223) := (blk_cell BK225.out 5).trans rfl
                          have hfz69_0 := blk_frozen BK225.out 0
                          have hfz69_1 := blk_frozen BK225.out 1
                          have hfz69_2 := blk_frozen BK225.out 2
                          have hfz69_3 := blk_frozen BK225.out 3
                          have hfz69_4 := blk_frozen BK225.out 4
                          have hfz69_5 := blk_frozen BK225.out 5
                          go_wp2
                          go_meet
                          case rel => exact ⟨_, (true), (by first | rfl | (simp; done) | (simp [*]; done)), H', ⟨by have := HJ6.out; have := HJ30.out; first | omega | exact Nat.le_refl _⟩, ⟨by (with_reducible repeat (first | refine blk_drewN ?_ _ | refine blk_drew ?_ | refine blk_alloc ?_ _)); exact BK217.out⟩, ⟨by (with_reducible repeat (first | refine blk_drewN ?_ _ | refine blk_drew ?_ | refine blk_alloc ?_ _)); exact BK225.out⟩, ⟨by repeat (first | (with_reducible first | exact HB.out | apply below_alloc | apply pw_below_drewN | apply below_drew1 | refine below_set ?_ GE217.out | refine below_set ?_ GE225.out) | exact HB.out)⟩⟩
                      case rest =>
                        clear HC62
                        try clear c1
                        try clear c2
                        try clear c2b0
                        try clear p2
                        try clear c3
                        try clear c4
                        try clear c5
                        try clear c6
                        try clear p6
                        try clear c7
                        try clear c12
                        try clear c13
                        try clear c14
                        try clear c16
                        try clear c16b0
                        try clear c16b1
                        try clear c18
                        try clear c21
                        try clear c21b0
                        try clear c21b1
                        try clear c22
                        try clear c22b0
                        try clear c22b1
                        try clear c22b2
                        try clear c24
                        try clear c28
                        try clear c32
                        try clear c35
                        try clear c35b0
                        try clear c35b1
                        try clear c36
                        try clear c39
                        try clear c41
                        try clear c42
                        try clear c42b0
                        try clear c43
                        try clear c43b0
                        try clear c43b1
                        try clear c43b2
                        try clear c45
                        try clear c49
                        try clear c52
                        try clear c52b0
                        try clear c53
                        try clear c53b0
                        try clear c53b1
                        try clear c53b2
                        try clear c55
                        try clear c59
                        try clear c63
                        try clear p64
                        try clear c65
                        try clear c65b0
                        try clear c65b1
                        try clear c66
                        try clear c68
                        try clear hcz10_0
                        try clear hcz10_1
                        try clear hcz10_2
                        try clear hcz10_3
                        try clear hcz10_4
                        try clear hcz10_5
                        try clear hcz14_0
                        try clear hcz14_1
                        try clear hcz14_2
                        try clear hcz14_3
                        try clear hcz14_4
                        try clear hcz14_5
                        try clear hcz25_0
                        try clear hcz25_1
                        try clear hcz25_2
                        try clear hcz25_3
                        try clear hcz25_4
                        try clear hcz25_5
                        try clear hcz26_0
                        try clear hcz26_1
                        try clear hcz26_2
                        try clear hcz26_3
                        try clear hcz26_4
                        try clear hcz26_5
                        try clear hcz29_0
                        try clear hcz29_1
                        try clear hcz29_2
                        try clear hcz29_3
                        try clear hcz29_4
                        try clear hcz29_5
                        try clear hcz30_0
                        try clear hcz30_1
                        try clear hcz30_2
                        try clear hcz30_3
                        try clear hcz30_4
                        try clear hcz30_5
                        try clear hcz33_0
                        try clear hcz33_1
                        try clear hcz33_2
                        try clear hcz33_3
                        try clear hcz33_4
                        try clear hcz33_5
                        try clear hcz34_0
                        try clear hcz34_1
                        try clear hcz34_2
                        try clear hcz34_3
                        try clear hcz34_4
                        try clear hcz34_5
                        try clear hcz37_0
                        try clear hcz37_1
                        try clear hcz37_2
                        try clear hcz37_3
                        try clear hcz37_4
                        try clear hcz37_5
                        try clear hcz38_0
                        try clear hcz38_1
                        try clear hcz38_2
                        try clear hcz38_3
                        try clear hcz38_4
                        try clear hcz38_5
                        try clear hcz40_0
                        try clear hcz40_1
                        try clear hcz40_2
                        try clear hcz40_3
                        try clear hcz40_4
                        try clear hcz40_5
                        try clear hcz46_0
                        try clear hcz46_1
                        try clear hcz46_2
                        try clear hcz46_3
                        try clear hcz46_4
                        try clear hcz46_5
                        try clear hcz47_0
                        try clear hcz47_1
                        try clear hcz47_2
                        try clear hcz47_3
                        try clear hcz47_4
                        try clear hcz47_5
                        try clear hcz50_0
                        try clear hcz50_1
                        try clear hcz50_2
                        try clear hcz50_3
                        try clear hcz50_4
                        try clear hcz50_5
                        try clear hcz51_0
                        try clear hcz51_1
                        try clear hcz51_2
                        try clear hcz51_3
                        try clear hcz51_4
                        try clear hcz51_5
                        try clear hcz56_0
                        try clear hcz56_1
                        try clear hcz56_2
                        try clear hcz56_3
                        try clear hcz56_4
                        try clear hcz56_5
                        try clear hcz57_0
                        try clear hcz57_1
                        try clear hcz57_2
                        try clear hcz57_3
                        try clear hcz57_4
                        try clear hcz57_5
                        try clear hcz60_0
                        try clear hcz60_1
                        try clear hcz60_2
                        try clear hcz60_3
                        try clear hcz60_4
                        try clear hcz60_5
                        try clear hcz61_0
                        try clear hcz61_1
                        try clear hcz61_2
                        try clear hcz61_3
                        try clear hcz61_4
                        try clear hcz61_5
                        try clear hcz64_0
                        try clear hcz64_1
                        try clear hcz64_2
                        try clear hcz64_3
                        try clear hcz64_4
                        try clear hcz64_5
                        try clear hcz67_0
                        try clear hcz67_1
                        try clear hcz67_2
                        try clear hcz67_3
                        try clear hcz67_4
                        try clear hcz67_5
                        try clear hcz69_0
                        try clear hcz69_1
                        try clear hcz69_2
                        try clear hcz69_3
                        try clear hcz69_4
                        try clear hcz69_5
                        try clear hfz10_0
                        try clear hfz10_1
                        try clear hfz10_2
                        try clear hfz10_3
                        try clear hfz10_4
                        try clear hfz10_5
                        try clear hfz14_0
                        try clear hfz14_1
                        try clear hfz14_2
                        try clear hfz14_3
                        try clear hfz14_4
                        try clear hfz14_5
                        try clear hfz25_0
                        try clear hfz25_1
                        try clear hfz25_2
                        try clear hfz25_3
                        try clear hfz25_4
                        try clear hfz25_5
                        try clear hfz26_0
                        try clear hfz26_1
                        try clear hfz26_2
                        try clear hfz26_3
                        try clear hfz26_4
                        try clear hfz26_5
                        try clear hfz29_0
                        try clear hfz29_1
                        try clear hfz29_2
                        try clear hfz29_3
                        try clear hfz29_4
                        try clear hfz29_5
                        try clear hfz30_0
                        try clear hfz30_1
                        try clear hfz30_2
                        try clear hfz30_3
                        try clear hfz30_4
                        try clear hfz30_5
                        try clear hfz33_0
                        try clear hfz33_1
                        try clear hfz33_2
                        try clear hfz33_3
                        try clear hfz33_4
                        try clear hfz33_5
                        try clear hfz34_0
                        try clear hfz34_1
                        try clear hfz34_2
                        try clear hfz34_3
                        try clear hfz34_4
                        try clear hfz34_5
                        try clear hfz37_0
                        try clear hfz37_1
                        try clear hfz37_2
                        try clear hfz37_3
                        try clear hfz37_4
                        try clear hfz37_5
                        try clear hfz38_0
                        try clear hfz38_1
                        try clear hfz38_2
                        try clear hfz38_3
                        try clear hfz38_4
                        try clear hfz38_5
                        try clear hfz40_0
                        try clear hfz40_1
                        try clear hfz40_2
                        try clear hfz40_3
                        try clear hfz40_4
                        try clear hfz40_5
                        try clear hfz46_0
                        try clear hfz46_1
                        try clear hfz46_2
                        try clear hfz46_3
                        try clear hfz46_4
                        try clear hfz46_5
                        try clear hfz47_0
                        try clear hfz47_1
                        try clear hfz47_2
                        try clear hfz47_3
                        try clear hfz47_4
                        try clear hfz47_5
                        try clear hfz50_0
                        try clear hfz50_1
                        try clear hfz50_2
                        try clear hfz50_3
                        try clear hfz50_4
                        try clear hfz50_5
                        try clear hfz51_0
                        try clear hfz51_1
                        try clear hfz51_2
                        try clear hfz51_3
                        try clear hfz51_4
                        try clear hfz51_5
                        try clear hfz56_0
                        try clear hfz56_1
                        try clear hfz56_2
                        try clear hfz56_3
                        try clear hfz56_4
                        try clear hfz56_5
                        try clear hfz57_0
                        try clear hfz57_1
                        try clear hfz57_2
                        try clear hfz57_3
                        try clear hfz57_4
                        try clear hfz57_5
                        try clear hfz60_0
                        try clear hfz60_1
                        try clear hfz60_2
                        try clear hfz60_3
                        try clear hfz60_4
                        try clear hfz60_5
                        try clear hfz61_0
                        try clear hfz61_1
                        try clear hfz61_2
                        try clear hfz61_3
                        try clear hfz61_4
                        try clear hfz61_5
                        try clear hfz64_0
                        try clear hfz64_1
                        try clear hfz64_2
                        try clear hfz64_3
                        try clear hfz64_4
                        try clear hfz64_5
                        try clear hfz67_0
                        try clear hfz67_1
                        try clear hfz67_2
                        try clear hfz67_3
                        try clear hfz67_4
                        try clear hfz67_5
                        try clear hfz69_0
                        try clear hfz69_1
                        try clear hfz69_2
                        try clear hfz69_3
                        try clear hfz69_4
                        try clear hfz69_5
                        try clear p2
                        try clear p6
                        obtain ⟨kq, x98_61, rfl, HA, HJ61, BK217, BK225, HB⟩ := hcut
                        cases kq with
                        | zero => exact absurd HA.out (by simp [chirographlaw05_ClockNext.j2])
                        | succ kj61 =>
                          have H := HA.out
                          clear HA
                          simp only [chirographlaw05_ClockNext.j2] at H
                          by_cases c70 : x98_61 = true
                          · subst c70
                            have H1 : (some false) = some r := by rw [if_pos rfl] at H; exact H
                            clear H
                            have H := H1
                            clear H1
                            obtain rfl := Option.some.inj H
                            go_wp2
                            go_ret
                            exact ⟨by first | rfl | (simp [errW_none, errW_some] <;> rfl) | (simp [*, errW_none, errW_some] <;> rfl), by repeat (first | (with_reducible first | exact HB.out | apply below_alloc | apply pw_below_drewN | apply below_drew1 | refine below_set ?_ GE217.out | refine below_set ?_ GE225.out) | exact HB.out)⟩
                          · replace c70 := Bool.eq_false_iff.mpr c70
                            subst c70
                            have H1 : (if t220 = 1 then (if t219 = 1 then (if t212 = 31 then (if t211 = 12 then (if t218 = (wrap64 (t210 + 1)) then ((chirographlaw05_live.f).bind fun t233 => (some t233)) else (some false)) else (some false)) else (some false)) else (if t212 ≥ 28 then (if t219 = (wrap64 (t211 + 1)) then (if t218 = t210 then ((chirographlaw05_live.f).bind fun t234 => (some t234)) else (some false)) else (some false)) else (some false))) else (if t220 = (wrap64 (t212 + 1)) then (if t219 = t211 then (if t218 = t210 then ((chirographlaw05_live.f).bind fun t232 => (some t232)) else (some false)) else (some false)) else (some false))) = some r := by rw [if_neg (show ¬ (false = true) by decide)] at H; exact H
                            clear H
                            have H := H1
                            clear H1
                            by_cases c71 : t220 = 1
                            · rw [if_pos c71] at H
                              have c71b0 : (t220 == 1) = true := beq_iff_eq.mpr c71
                              have c71b1 : (t220 != 1) = false := bne_eq_false_iff_eq.mpr c71
                              clear c71
                              by_cases c72 : t219 = 1
                              · rw [if_pos c72] at H
                                have c72b0 : (t219 == 1) = true := beq_iff_eq.mpr c72
                                have c72b1 : (t219 != 1) = false := bne_eq_false_iff_eq.mpr c72
                                clear c72
                                by_cases c73 : t212 = 31
                                · rw [if_pos c73] at H
                                  have c73b0 : (t212 == 31) = true := beq_iff_eq.mpr c73
                                  have c73b1 : (t212 != 31) = false := bne_eq_false_iff_eq.mpr c73
                                  clear c73
                                  by_cases c74 : t211 = 12
                                  · rw [if_pos c74] at H
                                    have c74b0 : (t211 == 12) = true := beq_iff_eq.mpr c74
                                    have c74b1 : (t211 != 12) = false := bne_eq_false_iff_eq.mpr c74
                                    clear c74
                                    by_cases c75 : t218 = (wrap64 (t210 + 1))
                                    · rw [if_pos c75] at H
                                      have c75b0 : (t218 == (wrap64 (t210 + 1))) = true := beq_iff_eq.mpr c75
                                      have c75b1 : (t218 != (wrap64 (t210 + 1))) = false := bne_eq_false_iff_eq.mpr c75
                                      clear c75
                                      replace H := Option.bind_eq_some_iff.mp H
                                      obtain ⟨t233, A760, H⟩ := H
                                      replace H : (some t233) = some r := H
                                      have A76 := Aside0.mk A760
                                      clear A760
                                      obtain rfl := Option.some.inj H
                                      have hnb77 := NB225_217.out
                                      have hnc77 := NB217_225.out
                                      have hcz78_0 : wc.cell? ⟨gb225, 0, none⟩ = some (.int .i64 t218) := (blk_cell BK225.out 0).trans rfl
                                      have hcz78_1 : wc.cell? ⟨gb225, 1, none⟩ = some (.int .i64 t219) := (blk_cell BK225.out 1).trans rfl
                                      have hcz78_2 : wc.cell? ⟨gb225, 2, none⟩ = some (.int .i64 t220) := (blk_cell BK225.out 2).trans rfl
                                      have hcz78_3 : wc.cell? ⟨gb225, 3, none⟩ = some (.int .i64 t221) := (blk_cell BK225.out 3).trans rfl
                                      have hcz78_4 : wc.cell? ⟨gb225, 4, none⟩ = some (.int .i64 t222) := (blk_cell BK225.out 4).trans rfl
                                      have hcz78_5 : wc.cell? ⟨gb225, 5, none⟩ = some (.int .i64 t223) := (blk_cell BK225.out 5).trans rfl
                                      have hfz78_0 := blk_frozen BK225.out 0
                                      have hfz78_1 := blk_frozen BK225.out 1
                                      have hfz78_2 := blk_frozen BK225.out 2
                                      have hfz78_3 := blk_frozen BK225.out 3
                                      have hfz78_4 := blk_frozen BK225.out 4
                                      have hfz78_5 := blk_frozen BK225.out 5
                                      have hcz79_0 : wc.cell? ⟨gb217, 0, none⟩ = some (.int .i64 t210) := (blk_cell BK217.out 0).trans rfl
                                      have hcz79_1 : wc.cell? ⟨gb217, 1, none⟩ = some (.int .i64 t211) := (blk_cell BK217.out 1).trans rfl
                                      have hcz79_2 : wc.cell? ⟨gb217, 2, none⟩ = some (.int .i64 t212) := (blk_cell BK217.out 2).trans rfl
                                      have hcz79_3 : wc.cell? ⟨gb217, 3, none⟩ = some (.int .i64 t213) := (blk_cell BK217.out 3).trans rfl
                                      have hcz79_4 : wc.cell? ⟨gb217, 4, none⟩ = some (.int .i64 t214) := (blk_cell BK217.out 4).trans rfl
                                      have hcz79_5 : wc.cell? ⟨gb217, 5, none⟩ = some (.int .i64 t215) := (blk_cell BK217.out 5).trans rfl
                                      have hfz79_0 := blk_frozen BK217.out 0
                                      have hfz79_1 := blk_frozen BK217.out 1
                                      have hfz79_2 := blk_frozen BK217.out 2
                                      have hfz79_3 := blk_frozen BK217.out 3
                                      have hfz79_4 := blk_frozen BK217.out 4
                                      have hfz79_5 := blk_frozen BK217.out 5
                                      go_wp2_with (first | (go_at_call 13; (with_reducible refine (chirographlaw05_live.calls  t233 _ ?side1 A76.out).mono ?_); (case side1 => exact Go.Proofs.YtnkpegldckdahaaDoor.Tabs.below hT_ (by repeat (first | (with_reducible first | exact HB.out | apply below_alloc | apply pw_below_drewN | apply below_drew1 | refine below_set ?_ GE217.out | refine below_set ?_ GE225.out) | exact HB.out))); rintro e w80 ⟨rfl, hb⟩; have n0_ := Aside0.mk (blk_below (g := gb217) (o := .cells #[.int .i64 t210, .int .i64 t211, .int .i64 t212, .int .i64 t213, .int .i64 t214, .int .i64 t215] 23 (0, 0)) (by (with_reducible repeat (first | refine blk_drewN ?_ _ | refine blk_drew ?_ | refine blk_alloc ?_ _)); exact BK217.out) hb); have n1_ := Aside0.mk (blk_below (g := gb225) (o := .cells #[.int .i64 t218, .int .i64 t219, .int .i64 t220, .int .i64 t221, .int .i64 t222, .int .i64 t223] 23 (0, 0)) (by (with_reducible repeat (first | refine blk_drewN ?_ _ | refine blk_drew ?_ | refine blk_alloc ?_ _)); exact BK225.out) hb); have n2_ := Aside0.mk (below_step (by repeat (first | (with_reducible first | exact HB.out | apply below_alloc | apply pw_below_drewN | apply below_drew1 | refine below_set ?_ GE217.out | refine below_set ?_ GE225.out) | exact HB.out)) hb); clear BK217; clear BK225; clear HB; have BK217 := n0_; have BK225 := n1_; have HB := n2_; clear n0_ n1_ n2_; (try clear hb); (try clear hb2); (try clear hk); (try clear hi)))
                                      go_ret
                                      exact ⟨by first | rfl | (simp [errW_none, errW_some] <;> rfl) | (simp [*, errW_none, errW_some] <;> rfl), by repeat (first | (with_reducible first | exact HB.out | apply below_alloc | apply pw_below_drewN | apply below_drew1 | refine below_set ?_ GE217.out | refine below_set ?_ GE225.out) | exact HB.out)⟩
                                    · rw [if_neg c75] at H
                                      have c75b0 : (t218 == (wrap64 (t210 + 1))) = false := beq_eq_false_iff_ne.mpr c75
                                      have c75b1 : (t218 != (wrap64 (t210 + 1))) = true := bne_iff_ne.mpr c75
                                      obtain rfl := Option.some.inj H
                                      have hnb81 := NB225_217.out
                                      have hnc81 := NB217_225.out
                                      have hcz82_0 : wc.cell? ⟨gb225, 0, none⟩ = some (.int .i64 t218) := (blk_cell BK225.out 0).trans rfl
                                      have hcz82_1 : wc.cell? ⟨gb225, 1, none⟩ = some (.int .i64 t219) := (blk_cell BK225.out 1).trans rfl
                                      have hcz82_2 : wc.cell? ⟨gb225, 2, none⟩ = some (.int .i64 t220) := (blk_cell BK225.out 2).trans rfl
                                      have hcz82_3 : wc.cell? ⟨gb225, 3, none⟩ = some (.int .i64 t221) := (blk_cell BK225.out 3).trans rfl
                                      have hcz82_4 : wc.cell? ⟨gb225, 4, none⟩ = some (.int .i64 t222) := (blk_cell BK225.out 4).trans rfl
                                      have hcz82_5 : wc.cell? ⟨gb225, 5, none⟩ = some (.int .i64 t223) := (blk_cell BK225.out 5).trans rfl
                                      have hfz82_0 := blk_frozen BK225.out 0
                                      have hfz82_1 := blk_frozen BK225.out 1
                                      have hfz82_2 := blk_frozen BK225.out 2
                                      have hfz82_3 := blk_frozen BK225.out 3
                                      have hfz82_4 := blk_frozen BK225.out 4
                                      have hfz82_5 := blk_frozen BK225.out 5
                                      have hcz83_0 : wc.cell? ⟨gb217, 0, none⟩ = some (.int .i64 t210) := (blk_cell BK217.out 0).trans rfl
                                      have hcz83_1 : wc.cell? ⟨gb217, 1, none⟩ = some (.int .i64 t211) := (blk_cell BK217.out 1).trans rfl
                                      have hcz83_2 : wc.cell? ⟨gb217, 2, none⟩ = some (.int .i64 t212) := (blk_cell BK217.out 2).trans rfl
                                      have hcz83_3 : wc.cell? ⟨gb217, 3, none⟩ = some (.int .i64 t213) := (blk_cell BK217.out 3).trans rfl
                                      have hcz83_4 : wc.cell? ⟨gb217, 4, none⟩ = some (.int .i64 t214) := (blk_cell BK217.out 4).trans rfl
                                      have hcz83_5 : wc.cell? ⟨gb217, 5, none⟩ = some (.int .i64 t215) := (blk_cell BK217.out 5).trans rfl
                                      have hfz83_0 := blk_frozen BK217.out 0
                                      have hfz83_1 := blk_frozen BK217.out 1
                                      have hfz83_2 := blk_frozen BK217.out 2
                                      have hfz83_3 := blk_frozen BK217.out 3
                                      have hfz83_4 := blk_frozen BK217.out 4
                                      have hfz83_5 := blk_frozen BK217.out 5
                                      go_wp2
                                      go_ret
                                      exact ⟨by first | rfl | (simp [errW_none, errW_some] <;> rfl) | (simp [*, errW_none, errW_some] <;> rfl), by repeat (first | (with_reducible first | exact HB.out | apply below_alloc | apply pw_below_drewN | apply below_drew1 | refine below_set ?_ GE217.out | refine below_set ?_ GE225.out) | exact HB.out)⟩
                                  · rw [if_neg c74] at H
                                    have c74b0 : (t211 == 12) = false := beq_eq_false_iff_ne.mpr c74
                                    have c74b1 : (t211 != 12) = true := bne_iff_ne.mpr c74
                                    obtain rfl := Option.some.inj H
                                    have hnb84 := NB225_217.out
                                    have hnc84 := NB217_225.out
                                    have hcz85_0 : wc.cell? ⟨gb225, 0, none⟩ = some (.int .i64 t218) := (blk_cell BK225.out 0).trans rfl
                                    have hcz85_1 : wc.cell? ⟨gb225, 1, none⟩ = some (.int .i64 t219) := (blk_cell BK225.out 1).trans rfl
                                    have hcz85_2 : wc.cell? ⟨gb225, 2, none⟩ = some (.int .i64 t220) := (blk_cell BK225.out 2).trans rfl
                                    have hcz85_3 : wc.cell? ⟨gb225, 3, none⟩ = some (.int .i64 t221) := (blk_cell BK225.out 3).trans rfl
                                    have hcz85_4 : wc.cell? ⟨gb225, 4, none⟩ = some (.int .i64 t222) := (blk_cell BK225.out 4).trans rfl
                                    have hcz85_5 : wc.cell? ⟨gb225, 5, none⟩ = some (.int .i64 t223) := (blk_cell BK225.out 5).trans rfl
                                    have hfz85_0 := blk_frozen BK225.out 0
                                    have hfz85_1 := blk_frozen BK225.out 1
                                    have hfz85_2 := blk_frozen BK225.out 2
                                    have hfz85_3 := blk_frozen BK225.out 3
                                    have hfz85_4 := blk_frozen BK225.out 4
                                    have hfz85_5 := blk_frozen BK225.out 5
                                    have hcz86_0 : wc.cell? ⟨gb217, 0, none⟩ = some (.int .i64 t210) := (blk_cell BK217.out 0).trans rfl
                                    have hcz86_1 : wc.cell? ⟨gb217, 1, none⟩ = some (.int .i64 t211) := (blk_cell BK217.out 1).trans rfl
                                    have hcz86_2 : wc.cell? ⟨gb217, 2, none⟩ = some (.int .i64 t212) := (blk_cell BK217.out 2).trans rfl
                                    have hcz86_3 : wc.cell? ⟨gb217, 3, none⟩ = some (.int .i64 t213) := (blk_cell BK217.out 3).trans rfl
                                    have hcz86_4 : wc.cell? ⟨gb217, 4, none⟩ = some (.int .i64 t214) := (blk_cell BK217.out 4).trans rfl
                                    have hcz86_5 : wc.cell? ⟨gb217, 5, none⟩ = some (.int .i64 t215) := (blk_cell BK217.out 5).trans rfl
                                    have hfz86_0 := blk_frozen BK217.out 0
                                    have hfz86_1 := blk_frozen BK217.out 1
                                    have hfz86_2 := blk_frozen BK217.out 2
                                    have hfz86_3 := blk_frozen BK217.out 3
                                    have hfz86_4 := blk_frozen BK217.out 4
                                    have hfz86_5 := blk_frozen BK217.out 5
                                    go_wp2
                                    go_ret
                                    exact ⟨by first | rfl | (simp [errW_none, errW_some] <;> rfl) | (simp [*, errW_none, errW_some] <;> rfl), by repeat (first | (with_reducible first | exact HB.out | apply below_alloc | apply pw_below_drewN | apply below_drew1 | refine below_set ?_ GE217.out | refine below_set ?_ GE225.out) | exact HB.out)⟩
                                · rw [if_neg c73] at H
                                  have c73b0 : (t212 == 31) = false := beq_eq_false_iff_ne.mpr c73
                                  have c73b1 : (t212 != 31) = true := bne_iff_ne.mpr c73
                                  obtain rfl := Option.some.inj H
                                  have hnb87 := NB225_217.out
                                  have hnc87 := NB217_225.out
                                  have hcz88_0 : wc.cell? ⟨gb225, 0, none⟩ = some (.int .i64 t218) := (blk_cell BK225.out 0).trans rfl
                                  have hcz88_1 : wc.cell? ⟨gb225, 1, none⟩ = some (.int .i64 t219) := (blk_cell BK225.out 1).trans rfl
                                  have hcz88_2 : wc.cell? ⟨gb225, 2, none⟩ = some (.int .i64 t220) := (blk_cell BK225.out 2).trans rfl
                                  have hcz88_3 : wc.cell? ⟨gb225, 3, none⟩ = some (.int .i64 t221) := (blk_cell BK225.out 3).trans rfl
                                  have hcz88_4 : wc.cell? ⟨gb225, 4, none⟩ = some (.int .i64 t222) := (blk_cell BK225.out 4).trans rfl
                                  have hcz88_5 : wc.cell? ⟨gb225, 5, none⟩ = some (.int .i64 t223) := (blk_cell BK225.out 5).trans rfl
                                  have hfz88_0 := blk_frozen BK225.out 0
                                  have hfz88_1 := blk_frozen BK225.out 1
                                  have hfz88_2 := blk_frozen BK225.out 2
                                  have hfz88_3 := blk_frozen BK225.out 3
                                  have hfz88_4 := blk_frozen BK225.out 4
                                  have hfz88_5 := blk_frozen BK225.out 5
                                  have hcz89_0 : wc.cell? ⟨gb217, 0, none⟩ = some (.int .i64 t210) := (blk_cell BK217.out 0).trans rfl
                                  have hcz89_1 : wc.cell? ⟨gb217, 1, none⟩ = some (.int .i64 t211) := (blk_cell BK217.out 1).trans rfl
                                  have hcz89_2 : wc.cell? ⟨gb217, 2, none⟩ = some (.int .i64 t212) := (blk_cell BK217.out 2).trans rfl
                                  have hcz89_3 : wc.cell? ⟨gb217, 3, none⟩ = some (.int .i64 t213) := (blk_cell BK217.out 3).trans rfl
                                  have hcz89_4 : wc.cell? ⟨gb217, 4, none⟩ = some (.int .i64 t214) := (blk_cell BK217.out 4).trans rfl
                                  have hcz89_5 : wc.cell? ⟨gb217, 5, none⟩ = some (.int .i64 t215) := (blk_cell BK217.out 5).trans rfl
                                  have hfz89_0 := blk_frozen BK217.out 0
                                  have hfz89_1 := blk_frozen BK217.out 1
                                  have hfz89_2 := blk_frozen BK217.out 2
                                  have hfz89_3 := blk_frozen BK217.out 3
                                  have hfz89_4 := blk_frozen BK217.out 4
                                  have hfz89_5 := blk_frozen BK217.out 5
                                  go_wp2
                                  go_ret
                                  exact ⟨by first | rfl | (simp [errW_none, errW_some] <;> rfl) | (simp [*, errW_none, errW_some] <;> rfl), by repeat (first | (with_reducible first | exact HB.out | apply below_alloc | apply pw_below_drewN | apply below_drew1 | refine below_set ?_ GE217.out | refine below_set ?_ GE225.out) | exact HB.out)⟩
                              · rw [if_neg c72] at H
                                have c72b0 : (t219 == 1) = false := beq_eq_false_iff_ne.mpr c72
                                have c72b1 : (t219 != 1) = true := bne_iff_ne.mpr c72
                                by_cases c90 : t212 ≥ 28
                                · rw [if_pos c90] at H
                                  have c90b0 : decide (28 ≤ t212) = true := decide_eq_true c90
                                  clear c90
                                  by_cases c91 : t219 = (wrap64 (t211 + 1))
                                  · rw [if_pos c91] at H
                                    have c91b0 : (t219 == (wrap64 (t211 + 1))) = true := beq_iff_eq.mpr c91
                                    have c91b1 : (t219 != (wrap64 (t211 + 1))) = false := bne_eq_false_iff_eq.mpr c91
                                    clear c91
                                    by_cases c92 : t218 = t210
                                    · rw [if_pos c92] at H
                                      have c92b0 : (t218 == t210) = true := beq_iff_eq.mpr c92
                                      have c92b1 : (t218 != t210) = false := bne_eq_false_iff_eq.mpr c92
                                      clear c92
                                      replace H := Option.bind_eq_some_iff.mp H
                                      obtain ⟨t234, A930, H⟩ := H
                                      replace H : (some t234) = some r := H
                                      have A93 := Aside0.mk A930
                                      clear A930
                                      obtain rfl := Option.some.inj H
                                      have hnb94 := NB225_217.out
                                      have hnc94 := NB217_225.out
                                      have hcz95_0 : wc.cell? ⟨gb225, 0, none⟩ = some (.int .i64 t218) := (blk_cell BK225.out 0).trans rfl
                                      have hcz95_1 : wc.cell? ⟨gb225, 1, none⟩ = some (.int .i64 t219) := (blk_cell BK225.out 1).trans rfl
                                      have hcz95_2 : wc.cell? ⟨gb225, 2, none⟩ = some (.int .i64 t220) := (blk_cell BK225.out 2).trans rfl
                                      have hcz95_3 : wc.cell? ⟨gb225, 3, none⟩ = some (.int .i64 t221) := (blk_cell BK225.out 3).trans rfl
                                      have hcz95_4 : wc.cell? ⟨gb225, 4, none⟩ = some (.int .i64 t222) := (blk_cell BK225.out 4).trans rfl
                                      have hcz95_5 : wc.cell? ⟨gb225, 5, none⟩ = some (.int .i64 t223) := (blk_cell BK225.out 5).trans rfl
                                      have hfz95_0 := blk_frozen BK225.out 0
                                      have hfz95_1 := blk_frozen BK225.out 1
                                      have hfz95_2 := blk_frozen BK225.out 2
                                      have hfz95_3 := blk_frozen BK225.out 3
                                      have hfz95_4 := blk_frozen BK225.out 4
                                      have hfz95_5 := blk_frozen BK225.out 5
                                      have hcz96_0 : wc.cell? ⟨gb217, 0, none⟩ = some (.int .i64 t210) := (blk_cell BK217.out 0).trans rfl
                                      have hcz96_1 : wc.cell? ⟨gb217, 1, none⟩ = some (.int .i64 t211) := (blk_cell BK217.out 1).trans rfl
                                      have hcz96_2 : wc.cell? ⟨gb217, 2, none⟩ = some (.int .i64 t212) := (blk_cell BK217.out 2).trans rfl
                                      have hcz96_3 : wc.cell? ⟨gb217, 3, none⟩ = some (.int .i64 t213) := (blk_cell BK217.out 3).trans rfl
                                      have hcz96_4 : wc.cell? ⟨gb217, 4, none⟩ = some (.int .i64 t214) := (blk_cell BK217.out 4).trans rfl
                                      have hcz96_5 : wc.cell? ⟨gb217, 5, none⟩ = some (.int .i64 t215) := (blk_cell BK217.out 5).trans rfl
                                      have hfz96_0 := blk_frozen BK217.out 0
                                      have hfz96_1 := blk_frozen BK217.out 1
                                      have hfz96_2 := blk_frozen BK217.out 2
                                      have hfz96_3 := blk_frozen BK217.out 3
                                      have hfz96_4 := blk_frozen BK217.out 4
                                      have hfz96_5 := blk_frozen BK217.out 5
                                      go_wp2_with (first | (go_at_call 13; (with_reducible refine (chirographlaw05_live.calls  t234 _ ?side1 A93.out).mono ?_); (case side1 => exact Go.Proofs.YtnkpegldckdahaaDoor.Tabs.below hT_ (by repeat (first | (with_reducible first | exact HB.out | apply below_alloc | apply pw_below_drewN | apply below_drew1 | refine below_set ?_ GE217.out | refine below_set ?_ GE225.out) | exact HB.out))); rintro e w97 ⟨rfl, hb⟩; have n0_ := Aside0.mk (blk_below (g := gb217) (o := .cells #[.int .i64 t210, .int .i64 t211, .int .i64 t212, .int .i64 t213, .int .i64 t214, .int .i64 t215] 23 (0, 0)) (by (with_reducible repeat (first | refine blk_drewN ?_ _ | refine blk_drew ?_ | refine blk_alloc ?_ _)); exact BK217.out) hb); have n1_ := Aside0.mk (blk_below (g := gb225) (o := .cells #[.int .i64 t218, .int .i64 t219, .int .i64 t220, .int .i64 t221, .int .i64 t222, .int .i64 t223] 23 (0, 0)) (by (with_reducible repeat (first | refine blk_drewN ?_ _ | refine blk_drew ?_ | refine blk_alloc ?_ _)); exact BK225.out) hb); have n2_ := Aside0.mk (below_step (by repeat (first | (with_reducible first | exact HB.out | apply below_alloc | apply pw_below_drewN | apply below_drew1 | refine below_set ?_ GE217.out | refine below_set ?_ GE225.out) | exact HB.out)) hb); clear BK217; clear BK225; clear HB; have BK217 := n0_; have BK225 := n1_; have HB := n2_; clear n0_ n1_ n2_; (try clear hb); (try clear hb2); (try clear hk); (try clear hi)))
                                      go_ret
                                      exact ⟨by first | rfl | (simp [errW_none, errW_some] <;> rfl) | (simp [*, errW_none, errW_some] <;> rfl), by repeat (first | (with_reducible first | exact HB.out | apply below_alloc | apply pw_below_drewN | apply below_drew1 | refine below_set ?_ GE217.out | refine below_set ?_ GE225.out) | exact HB.out)⟩
                                    · rw [if_neg c92] at H
                                      have c92b0 : (t218 == t210) = false := beq_eq_false_iff_ne.mpr c92
                                      have c92b1 : (t218 != t210) = true := bne_iff_ne.mpr c92
                                      obtain rfl := Option.some.inj H
                                      have hnb98 := NB225_217.out
                                      have hnc98 := NB217_225.out
                                      have hcz99_0 : wc.cell? ⟨gb225, 0, none⟩ = some (.int .i64 t218) := (blk_cell BK225.out 0).trans rfl
                                      have hcz99_1 : wc.cell? ⟨gb225, 1, none⟩ = some (.int .i64 t219) := (blk_cell BK225.out 1).trans rfl
                                      have hcz99_2 : wc.cell? ⟨gb225, 2, none⟩ = some (.int .i64 t220) := (blk_cell BK225.out 2).trans rfl
                                      have hcz99_3 : wc.cell? ⟨gb225, 3, none⟩ = some (.int .i64 t221) := (blk_cell BK225.out 3).trans rfl
                                      have hcz99_4 : wc.cell? ⟨gb225, 4, none⟩ = some (.int .i64 t222) := (blk_cell BK225.out 4).trans rfl
                                      have hcz99_5 : wc.cell? ⟨gb225, 5, none⟩ = some (.int .i64 t223) := (blk_cell BK225.out 5).trans rfl
                                      have hfz99_0 := blk_frozen BK225.out 0
                                      have hfz99_1 := blk_frozen BK225.out 1
                                      have hfz99_2 := blk_frozen BK225.out 2
                                      have hfz99_3 := blk_frozen BK225.out 3
                                      have hfz99_4 := blk_frozen BK225.out 4
                                      have hfz99_5 := blk_frozen BK225.out 5
                                      have hcz100_0 : wc.cell? ⟨gb217, 0, none⟩ = some (.int .i64 t210) := (blk_cell BK217.out 0).trans rfl
                                      have hcz100_1 : wc.cell? ⟨gb217, 1, none⟩ = some (.int .i64 t211) := (blk_cell BK217.out 1).trans rfl
                                      have hcz100_2 : wc.cell? ⟨gb217, 2, none⟩ = some (.int .i64 t212) := (blk_cell BK217.out 2).trans rfl
                                      have hcz100_3 : wc.cell? ⟨gb217, 3, none⟩ = some (.int .i64 t213) := (blk_cell BK217.out 3).trans rfl
                                      have hcz100_4 : wc.cell? ⟨gb217, 4, none⟩ = some (.int .i64 t214) := (blk_cell BK217.out 4).trans rfl
                                      have hcz100_5 : wc.cell? ⟨gb217, 5, none⟩ = some (.int .i64 t215) := (blk_cell BK217.out 5).trans rfl
                                      have hfz100_0 := blk_frozen BK217.out 0
                                      have hfz100_1 := blk_frozen BK217.out 1
                                      have hfz100_2 := blk_frozen BK217.out 2
                                      have hfz100_3 := blk_frozen BK217.out 3
                                      have hfz100_4 := blk_frozen BK217.out 4
                                      have hfz100_5 := blk_frozen BK217.out 5
                                      go_wp2
                                      go_ret
                                      exact ⟨by first | rfl | (simp [errW_none, errW_some] <;> rfl) | (simp [*, errW_none, errW_some] <;> rfl), by repeat (first | (with_reducible first | exact HB.out | apply below_alloc | apply pw_below_drewN | apply below_drew1 | refine below_set ?_ GE217.out | refine below_set ?_ GE225.out) | exact HB.out)⟩
                                  · rw [if_neg c91] at H
                                    have c91b0 : (t219 == (wrap64 (t211 + 1))) = false := beq_eq_false_iff_ne.mpr c91
                                    have c91b1 : (t219 != (wrap64 (t211 + 1))) = true := bne_iff_ne.mpr c91
                                    obtain rfl := Option.some.inj H
                                    have hnb101 := NB225_217.out
                                    have hnc101 := NB217_225.out
                                    have hcz102_0 : wc.cell? ⟨gb225, 0, none⟩ = some (.int .i64 t218) := (blk_cell BK225.out 0).trans rfl
                                    have hcz102_1 : wc.cell? ⟨gb225, 1, none⟩ = some (.int .i64 t219) := (blk_cell BK225.out 1).trans rfl
                                    have hcz102_2 : wc.cell? ⟨gb225, 2, none⟩ = some (.int .i64 t220) := (blk_cell BK225.out 2).trans rfl
                                    have hcz102_3 : wc.cell? ⟨gb225, 3, none⟩ = some (.int .i64 t221) := (blk_cell BK225.out 3).trans rfl
                                    have hcz102_4 : wc.cell? ⟨gb225, 4, none⟩ = some (.int .i64 t222) := (blk_cell BK225.out 4).trans rfl
                                    have hcz102_5 : wc.cell? ⟨gb225, 5, none⟩ = some (.int .i64 t223) := (blk_cell BK225.out 5).trans rfl
                                    have hfz102_0 := blk_frozen BK225.out 0
                                    have hfz102_1 := blk_frozen BK225.out 1
                                    have hfz102_2 := blk_frozen BK225.out 2
                                    have hfz102_3 := blk_frozen BK225.out 3
                                    have hfz102_4 := blk_frozen BK225.out 4
                                    have hfz102_5 := blk_frozen BK225.out 5
                                    have hcz103_0 : wc.cell? ⟨gb217, 0, none⟩ = some (.int .i64 t210) := (blk_cell BK217.out 0).trans rfl
                                    have hcz103_1 : wc.cell? ⟨gb217, 1, none⟩ = some (.int .i64 t211) := (blk_cell BK217.out 1).trans rfl
                                    have hcz103_2 : wc.cell? ⟨gb217, 2, none⟩ = some (.int .i64 t212) := (blk_cell BK217.out 2).trans rfl
                                    have hcz103_3 : wc.cell? ⟨gb217, 3, none⟩ = some (.int .i64 t213) := (blk_cell BK217.out 3).trans rfl
                                    have hcz103_4 : wc.cell? ⟨gb217, 4, none⟩ = some (.int .i64 t214) := (blk_cell BK217.out 4).trans rfl
                                    have hcz103_5 : wc.cell? ⟨gb217, 5, none⟩ = some (.int .i64 t215) := (blk_cell BK217.out 5).trans rfl
                                    have hfz103_0 := blk_frozen BK217.out 0
                                    have hfz103_1 := blk_frozen BK217.out 1
                                    have hfz103_2 := blk_frozen BK217.out 2
                                    have hfz103_3 := blk_frozen BK217.out 3
                                    have hfz103_4 := blk_frozen BK217.out 4
                                    have hfz103_5 := blk_frozen BK217.out 5
                                    go_wp2
                                    go_ret
                                    exact ⟨by first | rfl | (simp [errW_none, errW_some] <;> rfl) | (simp [*, errW_none, errW_some] <;> rfl), by repeat (first | (with_reducible first | exact HB.out | apply below_alloc | apply pw_below_drewN | apply below_drew1 | refine below_set ?_ GE217.out | refine below_set ?_ GE225.out) | exact HB.out)⟩
                                · rw [if_neg c90] at H
                                  have c90b0 : decide (28 ≤ t212) = false := decide_eq_false c90
                                  clear c90
                                  obtain rfl := Option.some.inj H
                                  have hnb104 := NB225_217.out
                                  have hnc104 := NB217_225.out
                                  have hcz105_0 : wc.cell? ⟨gb225, 0, none⟩ = some (.int .i64 t218) := (blk_cell BK225.out 0).trans rfl
                                  have hcz105_1 : wc.cell? ⟨gb225, 1, none⟩ = some (.int .i64 t219) := (blk_cell BK225.out 1).trans rfl
                                  have hcz105_2 : wc.cell? ⟨gb225, 2, none⟩ = some (.int .i64 t220) := (blk_cell BK225.out 2).trans rfl
                                  have hcz105_3 : wc.cell? ⟨gb225, 3, none⟩ = some (.int .i64 t221) := (blk_cell BK225.out 3).trans rfl
                                  have hcz105_4 : wc.cell? ⟨gb225, 4, none⟩ = some (.int .i64 t222) := (blk_cell BK225.out 4).trans rfl
                                  have hcz105_5 : wc.cell? ⟨gb225, 5, none⟩ = some (.int .i64 t223) := (blk_cell BK225.out 5).trans rfl
                                  have hfz105_0 := blk_frozen BK225.out 0
                                  have hfz105_1 := blk_frozen BK225.out 1
                                  have hfz105_2 := blk_frozen BK225.out 2
                                  have hfz105_3 := blk_frozen BK225.out 3
                                  have hfz105_4 := blk_frozen BK225.out 4
                                  have hfz105_5 := blk_frozen BK225.out 5
                                  have hcz106_0 : wc.cell? ⟨gb217, 0, none⟩ = some (.int .i64 t210) := (blk_cell BK217.out 0).trans rfl
                                  have hcz106_1 : wc.cell? ⟨gb217, 1, none⟩ = some (.int .i64 t211) := (blk_cell BK217.out 1).trans rfl
                                  have hcz106_2 : wc.cell? ⟨gb217, 2, none⟩ = some (.int .i64 t212) := (blk_cell BK217.out 2).trans rfl
                                  have hcz106_3 : wc.cell? ⟨gb217, 3, none⟩ = some (.int .i64 t213) := (blk_cell BK217.out 3).trans rfl
                                  have hcz106_4 : wc.cell? ⟨gb217, 4, none⟩ = some (.int .i64 t214) := (blk_cell BK217.out 4).trans rfl
                                  have hcz106_5 : wc.cell? ⟨gb217, 5, none⟩ = some (.int .i64 t215) := (blk_cell BK217.out 5).trans rfl
                                  have hfz106_0 := blk_frozen BK217.out 0
                                  have hfz106_1 := blk_frozen BK217.out 1
                                  have hfz106_2 := blk_frozen BK217.out 2
                                  have hfz106_3 := blk_frozen BK217.out 3
                                  have hfz106_4 := blk_frozen BK217.out 4
                                  have hfz106_5 := blk_frozen BK217.out 5
                                  go_wp2
                                  go_ret
                                  exact ⟨by first | rfl | (simp [errW_none, errW_some] <;> rfl) | (simp [*, errW_none, errW_some] <;> rfl), by repeat (first | (with_reducible first | exact HB.out | apply below_alloc | apply pw_below_drewN | apply below_drew1 | refine below_set ?_ GE217.out | refine below_set ?_ GE225.out) | exact HB.out)⟩
                            · rw [if_neg c71] at H
                              have c71b0 : (t220 == 1) = false := beq_eq_false_iff_ne.mpr c71
                              have c71b1 : (t220 != 1) = true := bne_iff_ne.mpr c71
                              by_cases c107 : t220 = (wrap64 (t212 + 1))
                              · rw [if_pos c107] at H
                                have c107b0 : (t220 == (wrap64 (t212 + 1))) = true := beq_iff_eq.mpr c107
                                have c107b1 : (t220 != (wrap64 (t212 + 1))) = false := bne_eq_false_iff_eq.mpr c107
                                clear c107
                                by_cases c108 : t219 = t211
                                · rw [if_pos c108] at H
                                  have c108b0 : (t219 == t211) = true := beq_iff_eq.mpr c108
                                  have c108b1 : (t219 != t211) = false := bne_eq_false_iff_eq.mpr c108
                                  clear c108
                                  by_cases c109 : t218 = t210
                                  · rw [if_pos c109] at H
                                    have c109b0 : (t218 == t210) = true := beq_iff_eq.mpr c109
                                    have c109b1 : (t218 != t210) = false := bne_eq_false_iff_eq.mpr c109
                                    clear c109
                                    replace H := Option.bind_eq_some_iff.mp H
                                    obtain ⟨t232, A1100, H⟩ := H
                                    replace H : (some t232) = some r := H
                                    have A110 := Aside0.mk A1100
                                    clear A1100
                                    obtain rfl := Option.some.inj H
                                    have hnb111 := NB225_217.out
                                    have hnc111 := NB217_225.out
                                    have hcz112_0 : wc.cell? ⟨gb225, 0, none⟩ = some (.int .i64 t218) := (blk_cell BK225.out 0).trans rfl
                                    have hcz112_1 : wc.cell? ⟨gb225, 1, none⟩ = some (.int .i64 t219) := (blk_cell BK225.out 1).trans rfl
                                    have hcz112_2 : wc.cell? ⟨gb225, 2, none⟩ = some (.int .i64 t220) := (blk_cell BK225.out 2).trans rfl
                                    have hcz112_3 : wc.cell? ⟨gb225, 3, none⟩ = some (.int .i64 t221) := (blk_cell BK225.out 3).trans rfl
                                    have hcz112_4 : wc.cell? ⟨gb225, 4, none⟩ = some (.int .i64 t222) := (blk_cell BK225.out 4).trans rfl
                                    have hcz112_5 : wc.cell? ⟨gb225, 5, none⟩ = some (.int .i64 t223) := (blk_cell BK225.out 5).trans rfl
                                    have hfz112_0 := blk_frozen BK225.out 0
                                    have hfz112_1 := blk_frozen BK225.out 1
                                    have hfz112_2 := blk_frozen BK225.out 2
                                    have hfz112_3 := blk_frozen BK225.out 3
                                    have hfz112_4 := blk_frozen BK225.out 4
                                    have hfz112_5 := blk_frozen BK225.out 5
                                    have hcz113_0 : wc.cell? ⟨gb217, 0, none⟩ = some (.int .i64 t210) := (blk_cell BK217.out 0).trans rfl
                                    have hcz113_1 : wc.cell? ⟨gb217, 1, none⟩ = some (.int .i64 t211) := (blk_cell BK217.out 1).trans rfl
                                    have hcz113_2 : wc.cell? ⟨gb217, 2, none⟩ = some (.int .i64 t212) := (blk_cell BK217.out 2).trans rfl
                                    have hcz113_3 : wc.cell? ⟨gb217, 3, none⟩ = some (.int .i64 t213) := (blk_cell BK217.out 3).trans rfl
                                    have hcz113_4 : wc.cell? ⟨gb217, 4, none⟩ = some (.int .i64 t214) := (blk_cell BK217.out 4).trans rfl
                                    have hcz113_5 : wc.cell? ⟨gb217, 5, none⟩ = some (.int .i64 t215) := (blk_cell BK217.out 5).trans rfl
                                    have hfz113_0 := blk_frozen BK217.out 0
                                    have hfz113_1 := blk_frozen BK217.out 1
                                    have hfz113_2 := blk_frozen BK217.out 2
                                    have hfz113_3 := blk_frozen BK217.out 3
                                    have hfz113_4 := blk_frozen BK217.out 4
                                    have hfz113_5 := blk_frozen BK217.out 5
                                    go_wp2_with (first | (go_at_call 13; (with_reducible refine (chirographlaw05_live.calls  t232 _ ?side1 A110.out).mono ?_); (case side1 => exact Go.Proofs.YtnkpegldckdahaaDoor.Tabs.below hT_ (by repeat (first | (with_reducible first | exact HB.out | apply below_alloc | apply pw_below_drewN | apply below_drew1 | refine below_set ?_ GE217.out | refine below_set ?_ GE225.out) | exact HB.out))); rintro e w114 ⟨rfl, hb⟩; have n0_ := Aside0.mk (blk_below (g := gb217) (o := .cells #[.int .i64 t210, .int .i64 t211, .int .i64 t212, .int .i64 t213, .int .i64 t214, .int .i64 t215] 23 (0, 0)) (by (with_reducible repeat (first | refine blk_drewN ?_ _ | refine blk_drew ?_ | refine blk_alloc ?_ _)); exact BK217.out) hb); have n1_ := Aside0.mk (blk_below (g := gb225) (o := .cells #[.int .i64 t218, .int .i64 t219, .int .i64 t220, .int .i64 t221, .int .i64 t222, .int .i64 t223] 23 (0, 0)) (by (with_reducible repeat (first | refine blk_drewN ?_ _ | refine blk_drew ?_ | refine blk_alloc ?_ _)); exact BK225.out) hb); have n2_ := Aside0.mk (below_step (by repeat (first | (with_reducible first | exact HB.out | apply below_alloc | apply pw_below_drewN | apply below_drew1 | refine below_set ?_ GE217.out | refine below_set ?_ GE225.out) | exact HB.out)) hb); clear BK217; clear BK225; clear HB; have BK217 := n0_; have BK225 := n1_; have HB := n2_; clear n0_ n1_ n2_; (try clear hb); (try clear hb2); (try clear hk); (try clear hi)))
                                    go_ret
                                    exact ⟨by first | rfl | (simp [errW_none, errW_some] <;> rfl) | (simp [*, errW_none, errW_some] <;> rfl), by repeat (first | (with_reducible first | exact HB.out | apply below_alloc | apply pw_below_drewN | apply below_drew1 | refine below_set ?_ GE217.out | refine below_set ?_ GE225.out) | exact HB.out)⟩
                                  · rw [if_neg c109] at H
                                    have c109b0 : (t218 == t210) = false := beq_eq_false_iff_ne.mpr c109
                                    have c109b1 : (t218 != t210) = true := bne_iff_ne.mpr c109
                                    obtain rfl := Option.some.inj H
                                    have hnb115 := NB225_217.out
                                    have hnc115 := NB217_225.out
                                    have hcz116_0 : wc.cell? ⟨gb225, 0, none⟩ = some (.int .i64 t218) := (blk_cell BK225.out 0).trans rfl
                                    have hcz116_1 : wc.cell? ⟨gb225, 1, none⟩ = some (.int .i64 t219) := (blk_cell BK225.out 1).trans rfl
                                    have hcz116_2 : wc.cell? ⟨gb225, 2, none⟩ = some (.int .i64 t220) := (blk_cell BK225.out 2).trans rfl
                                    have hcz116_3 : wc.cell? ⟨gb225, 3, none⟩ = some (.int .i64 t221) := (blk_cell BK225.out 3).trans rfl
                                    have hcz116_4 : wc.cell? ⟨gb225, 4, none⟩ = some (.int .i64 t222) := (blk_cell BK225.out 4).trans rfl
                                    have hcz116_5 : wc.cell? ⟨gb225, 5, none⟩ = some (.int .i64 t223) := (blk_cell BK225.out 5).trans rfl
                                    have hfz116_0 := blk_frozen BK225.out 0
                                    have hfz116_1 := blk_frozen BK225.out 1
                                    have hfz116_2 := blk_frozen BK225.out 2
                                    have hfz116_3 := blk_frozen BK225.out 3
                                    have hfz116_4 := blk_frozen BK225.out 4
                                    have hfz116_5 := blk_frozen BK225.out 5
                                    have hcz117_0 : wc.cell? ⟨gb217, 0, none⟩ = some (.int .i64 t210) := (blk_cell BK217.out 0).trans rfl
                                    have hcz117_1 : wc.cell? ⟨gb217, 1, none⟩ = some (.int .i64 t211) := (blk_cell BK217.out 1).trans rfl
                                    have hcz117_2 : wc.cell? ⟨gb217, 2, none⟩ = some (.int .i64 t212) := (blk_cell BK217.out 2).trans rfl
                                    have hcz117_3 : wc.cell? ⟨gb217, 3, none⟩ = some (.int .i64 t213) := (blk_cell BK217.out 3).trans rfl
                                    have hcz117_4 : wc.cell? ⟨gb217, 4, none⟩ = some (.int .i64 t214) := (blk_cell BK217.out 4).trans rfl
                                    have hcz117_5 : wc.cell? ⟨gb217, 5, none⟩ = some (.int .i64 t215) := (blk_cell BK217.out 5).trans rfl
                                    have hfz117_0 := blk_frozen BK217.out 0
                                    have hfz117_1 := blk_frozen BK217.out 1
                                    have hfz117_2 := blk_frozen BK217.out 2
                                    have hfz117_3 := blk_frozen BK217.out 3
                                    have hfz117_4 := blk_frozen BK217.out 4
                                    have hfz117_5 := blk_frozen BK217.out 5
                                    go_wp2
                                    go_ret
                                    exact ⟨by first | rfl | (simp [errW_none, errW_some] <;> rfl) | (simp [*, errW_none, errW_some] <;> rfl), by repeat (first | (with_reducible first | exact HB.out | apply below_alloc | apply pw_below_drewN | apply below_drew1 | refine below_set ?_ GE217.out | refine below_set ?_ GE225.out) | exact HB.out)⟩
                                · rw [if_neg c108] at H
                                  have c108b0 : (t219 == t211) = false := beq_eq_false_iff_ne.mpr c108
                                  have c108b1 : (t219 != t211) = true := bne_iff_ne.mpr c108
                                  obtain rfl := Option.some.inj H
                                  have hnb118 := NB225_217.out
                                  have hnc118 := NB217_225.out
                                  have hcz119_0 : wc.cell? ⟨gb225, 0, none⟩ = some (.int .i64 t218) := (blk_cell BK225.out 0).trans rfl
                                  have hcz119_1 : wc.cell? ⟨gb225, 1, none⟩ = some (.int .i64 t219) := (blk_cell BK225.out 1).trans rfl
                                  have hcz119_2 : wc.cell? ⟨gb225, 2, none⟩ = some (.int .i64 t220) := (blk_cell BK225.out 2).trans rfl
                                  have hcz119_3 : wc.cell? ⟨gb225, 3, none⟩ = some (.int .i64 t221) := (blk_cell BK225.out 3).trans rfl
                                  have hcz119_4 : wc.cell? ⟨gb225, 4, none⟩ = some (.int .i64 t222) := (blk_cell BK225.out 4).trans rfl
                                  have hcz119_5 : wc.cell? ⟨gb225, 5, none⟩ = some (.int .i64 t223) := (blk_cell BK225.out 5).trans rfl
                                  have hfz119_0 := blk_frozen BK225.out 0
                                  have hfz119_1 := blk_frozen BK225.out 1
                                  have hfz119_2 := blk_frozen BK225.out 2
                                  have hfz119_3 := blk_frozen BK225.out 3
                                  have hfz119_4 := blk_frozen BK225.out 4
                                  have hfz119_5 := blk_frozen BK225.out 5
                                  have hcz120_0 : wc.cell? ⟨gb217, 0, none⟩ = some (.int .i64 t210) := (blk_cell BK217.out 0).trans rfl
                                  have hcz120_1 : wc.cell? ⟨gb217, 1, none⟩ = some (.int .i64 t211) := (blk_cell BK217.out 1).trans rfl
                                  have hcz120_2 : wc.cell? ⟨gb217, 2, none⟩ = some (.int .i64 t212) := (blk_cell BK217.out 2).trans rfl
                                  have hcz120_3 : wc.cell? ⟨gb217, 3, none⟩ = some (.int .i64 t213) := (blk_cell BK217.out 3).trans rfl
                                  have hcz120_4 : wc.cell? ⟨gb217, 4, none⟩ = some (.int .i64 t214) := (blk_cell BK217.out 4).trans rfl
                                  have hcz120_5 : wc.cell? ⟨gb217, 5, none⟩ = some (.int .i64 t215) := (blk_cell BK217.out 5).trans rfl
                                  have hfz120_0 := blk_frozen BK217.out 0
                                  have hfz120_1 := blk_frozen BK217.out 1
                                  have hfz120_2 := blk_frozen BK217.out 2
                                  have hfz120_3 := blk_frozen BK217.out 3
                                  have hfz120_4 := blk_frozen BK217.out 4
                                  have hfz120_5 := blk_frozen BK217.out 5
                                  go_wp2
                                  go_ret
                                  exact ⟨by first | rfl | (simp [errW_none, errW_some] <;> rfl) | (simp [*, errW_none, errW_some] <;> rfl), by repeat (first | (with_reducible first | exact HB.out | apply below_alloc | apply pw_below_drewN | apply below_drew1 | refine below_set ?_ GE217.out | refine below_set ?_ GE225.out) | exact HB.out)⟩
                              · rw [if_neg c107] at H
                                have c107b0 : (t220 == (wrap64 (t212 + 1))) = false := beq_eq_false_iff_ne.mpr c107
                                have c107b1 : (t220 != (wrap64 (t212 + 1))) = true := bne_iff_ne.mpr c107
                                obtain rfl := Option.some.inj H
                                have hnb121 := NB225_217.out
                                have hnc121 := NB217_225.out
                                have hcz122_0 : wc.cell? ⟨gb225, 0, none⟩ = some (.int .i64 t218) := (blk_cell BK225.out 0).trans rfl
                                have hcz122_1 : wc.cell? ⟨gb225, 1, none⟩ = some (.int .i64 t219) := (blk_cell BK225.out 1).trans rfl
                                have hcz122_2 : wc.cell? ⟨gb225, 2, none⟩ = some (.int .i64 t220) := (blk_cell BK225.out 2).trans rfl
                                have hcz122_3 : wc.cell? ⟨gb225, 3, none⟩ = some (.int .i64 t221) := (blk_cell BK225.out 3).trans rfl
                                have hcz122_4 : wc.cell? ⟨gb225, 4, none⟩ = some (.int .i64 t222) := (blk_cell BK225.out 4).trans rfl
                                have hcz122_5 : wc.cell? ⟨gb225, 5, none⟩ = some (.int .i64 t223) := (blk_cell BK225.out 5).trans rfl
                                have hfz122_0 := blk_frozen BK225.out 0
                                have hfz122_1 := blk_frozen BK225.out 1
                                have hfz122_2 := blk_frozen BK225.out 2
                                have hfz122_3 := blk_frozen BK225.out 3
                                have hfz122_4 := blk_frozen BK225.out 4
                                have hfz122_5 := blk_frozen BK225.out 5
                                have hcz123_0 : wc.cell? ⟨gb217, 0, none⟩ = some (.int .i64 t210) := (blk_cell BK217.out 0).trans rfl
                                have hcz123_1 : wc.cell? ⟨gb217, 1, none⟩ = some (.int .i64 t211) := (blk_cell BK217.out 1).trans rfl
                                have hcz123_2 : wc.cell? ⟨gb217, 2, none⟩ = some (.int .i64 t212) := (blk_cell BK217.out 2).trans rfl
                                have hcz123_3 : wc.cell? ⟨gb217, 3, none⟩ = some (.int .i64 t213) := (blk_cell BK217.out 3).trans rfl
                                have hcz123_4 : wc.cell? ⟨gb217, 4, none⟩ = some (.int .i64 t214) := (blk_cell BK217.out 4).trans rfl
                                have hcz123_5 : wc.cell? ⟨gb217, 5, none⟩ = some (.int .i64 t215) := (blk_cell BK217.out 5).trans rfl
                                have hfz123_0 := blk_frozen BK217.out 0
                                have hfz123_1 := blk_frozen BK217.out 1
                                have hfz123_2 := blk_frozen BK217.out 2
                                have hfz123_3 := blk_frozen BK217.out 3
                                have hfz123_4 := blk_frozen BK217.out 4
                                have hfz123_5 := blk_frozen BK217.out 5
                                go_wp2
                                go_ret
                                exact ⟨by first | rfl | (simp [errW_none, errW_some] <;> rfl) | (simp [*, errW_none, errW_some] <;> rfl), by repeat (first | (with_reducible first | exact HB.out | apply below_alloc | apply pw_below_drewN | apply below_drew1 | refine below_set ?_ GE217.out | refine below_set ?_ GE225.out) | exact HB.out)⟩

/-- THE ONE PURE STATEMENT of chirographlaw05_ClockNext: yours. -/
def chirographlaw05_ClockNext.Pure : Prop := ∀ (a0 : Int), (Lit.int .i64 a0).wf = true → ∃ k, chirographlaw05_ClockNext.f k a0 = some true
theorem chirographlaw05_ClockNext.walk (P : chirographlaw05_ClockNext.Pure) (a0 : Int) (w : World) (w0 : (Lit.int .i64 a0).wf = true) (hT_ : Go.Proofs.YtnkpegldckdahaaDoor.Tabs w) :
    Calls Tryd.prog 7 #[.int .i64 a0] w fun e w' => e = .returned (.bool true) ∧ Below w.heap.size w w' := by
  obtain ⟨k, h⟩ := P a0 w0
  refine (chirographlaw05_ClockNext.calls k a0 true w hT_ h).mono ?_
  rintro e w' ⟨rfl, hd⟩
  exact ⟨rfl, hd⟩

end Go.Proofs.YtnkpegldckdahaaDoor.M
