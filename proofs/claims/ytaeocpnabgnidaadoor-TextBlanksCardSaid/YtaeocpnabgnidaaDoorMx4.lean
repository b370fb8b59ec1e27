-- Printed by the session's hookprint.py (the kit's print, some functions given by hand).
import Derived.Test.YtaeocpnabgnidaaDoorMx0
import Derived.Test.YtaeocpnabgnidaaDoorMx2
import Derived.Test.YtaeocpnabgnidaaDoorMx3
namespace Go.Proofs.YtaeocpnabgnidaaDoor.M
open Go.RowKit Go.Proofs.YtaeocpnabgnidaaDoorW.PrintWords Go.Proofs.YtaeocpnabgnidaaDoorW.PrintLast Go.Proofs.YtaeocpnabgnidaaDoorW.PrintMore
attribute [local go_sem] max2_int min2_int max_two min_two max_three min_three max_four min_four   -- for this text's walks alone
set_option linter.unusedVariables false
set_option linter.unusedSimpArgs false

/-! ### chirographref06_Text: function 12 -/
mutual
def chirographref06_Text.l0 : Nat → List Int → List Int → Int → Option (ByteArray × Int)
  | 0, _, _, _ => none
  | k + 1, x1, x6, x7 => if x7 < (x1.length : Int) then (if 0 ≤ x7 then (if 0 ≤ (wrap64 (x7 + 1)) then (if (wrap64 (x7 + 1)) < (x1.length : Int) then (if (wrap64 ((wrap64 ((wrap64 (rd x1 x7)) * 256)) + (wrap64 (rd x1 (wrap64 (x7 + 1)))))) ≥ 55296 then (chirographref06_Text.j1 k x1 x6 x7 (wrap64 ((wrap64 ((wrap64 (rd x1 x7)) * 256)) + (wrap64 (rd x1 (wrap64 (x7 + 1)))))) (decide ((wrap64 ((wrap64 ((wrap64 (rd x1 x7)) * 256)) + (wrap64 (rd x1 (wrap64 (x7 + 1)))))) ≤ 57343))) else (chirographref06_Text.j1 k x1 x6 x7 (wrap64 ((wrap64 ((wrap64 (rd x1 x7)) * 256)) + (wrap64 (rd x1 (wrap64 (x7 + 1)))))) false)) else (none)) else (none)) else (none)) else (some (strOfNums x6, 0))
def chirographref06_Text.j1 : Nat → List Int → List Int → Int → Int → Bool → Option (ByteArray × Int)
  | 0, _, _, _, _, _ => none
  | k + 1, x1, x6, x7, x8, x61 => if x61 = true then (some ((⟨#[]⟩ : ByteArray), 60)) else (if x8 < 128 then (if x6.length < 140737488355328 then (chirographref06_Text.l0 k x1 (x6 ++ [(x8) % 256]) (wrap64 (x7 + 2))) else (none)) else (if x8 < 2048 then ((some (([(wrap64 (192 + (wrap64 (Int.tdiv x8 64)))) % 256, (wrap64 (128 + (Int.tmod x8 64))) % 256] : List Int) : List Int)).bind fun y142 => (if x6.length + y142.length < 140737488355328 then (chirographref06_Text.l0 k x1 (x6 ++ y142) (wrap64 (x7 + 2))) else (none))) else ((some (([(wrap64 (224 + (wrap64 (Int.tdiv x8 4096)))) % 256, (wrap64 (128 + (Int.tmod (wrap64 (Int.tdiv x8 64)) 64))) % 256, (wrap64 (128 + (Int.tmod x8 64))) % 256] : List Int) : List Int)).bind fun y148 => (if x6.length + y148.length < 140737488355328 then (chirographref06_Text.l0 k x1 (x6 ++ y148) (wrap64 (x7 + 2))) else (none)))))
def chirographref06_Text.j2 : Nat → Int → List Int → Bool → Option (ByteArray × Int)
  | 0, _, _, _ => none
  | k + 1, x0, x1, x92 => if x92 = true then (chirographref06_Text.l1 k x0 x1 0) else (some ((⟨#[]⟩ : ByteArray), 61))
def chirographref06_Text.l1 : Nat → Int → List Int → Int → Option (ByteArray × Int)
  | 0, _, _, _ => none
  | k + 1, x0, x1, x9 => if x9 < (x1.length : Int) then (if 0 ≤ x9 then (if (rd x1 x9) ≥ 48 then (if (rd x1 x9) ≤ 57 then (chirographref06_Text.j4 k x0 x1 x9 (rd x1 x9) true) else (chirographref06_Text.j4 k x0 x1 x9 (rd x1 x9) ((rd x1 x9) == 32))) else (chirographref06_Text.j4 k x0 x1 x9 (rd x1 x9) ((rd x1 x9) == 32))) else (none)) else (some (strOfNums x1, 0))
def chirographref06_Text.j4 : Nat → Int → List Int → Int → Int → Bool → Option (ByteArray × Int)
  | 0, _, _, _, _, _ => none
  | k + 1, x0, x1, x9, x10, x11 => if x0 = 19 then ((chirographref06_printable.f k x10).bind fun t155 => (chirographref06_Text.j5 k x0 x1 x9 x10 t155)) else (chirographref06_Text.j5 k x0 x1 x9 x10 x11)
def chirographref06_Text.j5 : Nat → Int → List Int → Int → Int → Bool → Option (ByteArray × Int)
  | 0, _, _, _, _, _ => none
  | k + 1, x0, x1, x9, x10, x11 => if x0 = 22 then (chirographref06_Text.j6 k x0 x1 x9 x10 (decide (x10 < 128))) else (chirographref06_Text.j6 k x0 x1 x9 x10 x11)
def chirographref06_Text.j6 : Nat → Int → List Int → Int → Int → Bool → Option (ByteArray × Int)
  | 0, _, _, _, _, _ => none
  | k + 1, x0, x1, x9, x10, x11 => if x0 = 26 then (if x10 ≥ 32 then (if x10 ≤ 126 then (chirographref06_Text.l1 k x0 x1 (wrap64 (x9 + 1))) else (some ((⟨#[]⟩ : ByteArray), 60))) else (some ((⟨#[]⟩ : ByteArray), 60))) else (if x11 = true then (chirographref06_Text.l1 k x0 x1 (wrap64 (x9 + 1))) else (some ((⟨#[]⟩ : ByteArray), 60)))
end
def chirographref06_Text.f (k : Nat) (a0 : Int) (l1 : List Int) : Option (ByteArray × Int) := if a0 = 12 then ((chirographref06_utf8.f k l1).bind fun t136 => (if t136 = true then (some (strOfNums l1, 0)) else (some ((⟨#[]⟩ : ByteArray), 60)))) else (if a0 = 30 then (if ((l1.length : Int) % 2) = 1 then (some ((⟨#[]⟩ : ByteArray), 60)) else (chirographref06_Text.l0 k l1 ([] : List Int) 0)) else (if a0 = 18 then (chirographref06_Text.j2 k a0 l1 (a0 == 18)) else (if a0 = 19 then (chirographref06_Text.j2 k a0 l1 (a0 == 19)) else (if a0 = 22 then (chirographref06_Text.j2 k a0 l1 (a0 == 22)) else (chirographref06_Text.j2 k a0 l1 (a0 == 26))))))
theorem chirographref06_Text.mono_l : ∀ k, (∀ y0 y1 y2, LeO (chirographref06_Text.l0 k y0 y1 y2) (chirographref06_Text.l0 (k + 1) y0 y1 y2)) ∧ (∀ y0 y1 y2 y3 y4, LeO (chirographref06_Text.j1 k y0 y1 y2 y3 y4) (chirographref06_Text.j1 (k + 1) y0 y1 y2 y3 y4)) ∧ (∀ y0 y1 y2, LeO (chirographref06_Text.j2 k y0 y1 y2) (chirographref06_Text.j2 (k + 1) y0 y1 y2)) ∧ (∀ y0 y1 y2, LeO (chirographref06_Text.l1 k y0 y1 y2) (chirographref06_Text.l1 (k + 1) y0 y1 y2)) ∧ (∀ y0 y1 y2 y3 y4, LeO (chirographref06_Text.j4 k y0 y1 y2 y3 y4) (chirographref06_Text.j4 (k + 1) y0 y1 y2 y3 y4)) ∧ (∀ y0 y1 y2 y3 y4, LeO (chirographref06_Text.j5 k y0 y1 y2 y3 y4) (chirographref06_Text.j5 (k + 1) y0 y1 y2 y3 y4)) ∧ (∀ y0 y1 y2 y3 y4, LeO (chirographref06_Text.j6 k y0 y1 y2 y3 y4) (chirographref06_Text.j6 (k + 1) y0 y1 y2 y3 y4))
  | 0 => ⟨fun _ _ _ r h => by simp [chirographref06_Text.l0] at h, fun _ _ _ _ _ r h => by simp [chirographref06_Text.j1] at h, fun _ _ _ r h => by simp [chirographref06_Text.j2] at h, fun _ _ _ r h => by simp [chirographref06_Text.l1] at h, fun _ _ _ _ _ r h => by simp [chirographref06_Text.j4] at h, fun _ _ _ _ _ r h => by simp [chirographref06_Text.j5] at h, fun _ _ _ _ _ r h => by simp [chirographref06_Text.j6] at h⟩
  | k + 1 => by
    obtain ⟨ih0, ih1, ih2, ih3, ih4, ih5, ih6⟩ := chirographref06_Text.mono_l k
    refine ⟨?_, ?_, ?_, ?_, ?_, ?_, ?_⟩
    · intro y0 y1 y2
      unfold chirographref06_Text.l0
      repeat' first
      | (with_reducible exact ih0 _ _ _)
      | (with_reducible exact ih1 _ _ _ _ _)
      | (with_reducible exact ih2 _ _ _)
      | (with_reducible exact ih3 _ _ _)
      | (with_reducible exact ih4 _ _ _ _ _)
      | (with_reducible exact ih5 _ _ _ _ _)
      | (with_reducible exact ih6 _ _ _ _ _)
      | (with_reducible exact chirographref06_printable.mono _ _)
      | (with_reducible exact chirographref06_utf8.mono _ _)
      | (with_reducible exact LeO.refl _)
      | (with_reducible exact LeO.none _)
      | (with_reducible refine LeO.ite ?_ ?_)
      | (with_reducible refine LeO.bind ?_ (fun _ => ?_))
      | exact ih0 _ _ _
      | exact ih1 _ _ _ _ _
      | exact ih2 _ _ _
      | exact ih3 _ _ _
      | exact ih4 _ _ _ _ _
      | exact ih5 _ _ _ _ _
      | exact ih6 _ _ _ _ _
      | exact chirographref06_printable.mono _ _
      | exact chirographref06_utf8.mono _ _
      | exact LeO.none _
      | refine LeO.ite ?_ ?_
      | refine LeO.bind ?_ (fun _ => ?_)
    · intro y0 y1 y2 y3 y4
      unfold chirographref06_Text.j1
      repeat' first
      | (with_reducible exact ih0 _ _ _)
      | (with_reducible exact ih1 _ _ _ _ _)
      | (with_reducible exact ih2 _ _ _)
      | (with_reducible exact ih3 _ _ _)
      | (with_reducible exact ih4 _ _ _ _ _)
      | (with_reducible exact ih5 _ _ _ _ _)
      | (with_reducible exact ih6 _ _ _ _ _)
      | (with_reducible exact chirographref06_printable.mono _ _)
      | (with_reducible exact chirographref06_utf8.mono _ _)
      | (with_reducible exact LeO.refl _)
      | (with_reducible exact LeO.none _)
      | (with_reducible refine LeO.ite ?_ ?_)
      | (with_reducible refine LeO.bind ?_ (fun _ => ?_))
      | exact ih0 _ _ _
      | exact ih1 _ _ _ _ _
      | exact ih2 _ _ _
      | exact ih3 _ _ _
      | exact ih4 _ _ _ _ _
      | exact ih5 _ _ _ _ _
      | exact ih6 _ _ _ _ _
      | exact chirographref06_printable.mono _ _
      | exact chirographref06_utf8.mono _ _
      | exact LeO.none _
      | refine LeO.ite ?_ ?_
      | refine LeO.bind ?_ (fun _ => ?_)
    · intro y0 y1 y2
      unfold chirographref06_Text.j2
      repeat' first
      | (with_reducible exact ih0 _ _ _)
      | (with_reducible exact ih1 _ _ _ _ _)
      | (with_reducible exact ih2 _ _ _)
      | (with_reducible exact ih3 _ _ _)
      | (with_reducible exact ih4 _ _ _ _ _)
      | (with_reducible exact ih5 _ _ _ _ _)
      | (with_reducible exact ih6 _ _ _ _ _)
      | (with_reducible exact chirographref06_printable.mono _ _)
      | (with_reducible exact chirographref06_utf8.mono _ _)
      | (with_reducible exact LeO.refl _)
      | (with_reducible exact LeO.none _)
      | (with_reducible refine LeO.ite ?_ ?_)
      | (with_reducible refine LeO.bind ?_ (fun _ => ?_))
      | exact ih0 _ _ _
      | exact ih1 _ _ _ _ _
      | exact ih2 _ _ _
      | exact ih3 _ _ _
      | exact ih4 _ _ _ _ _
      | exact ih5 _ _ _ _ _
      | exact ih6 _ _ _ _ _
      | exact chirographref06_printable.mono _ _
      | exact chirographref06_utf8.mono _ _
      | exact LeO.none _
      | refine LeO.ite ?_ ?_
      | refine LeO.bind ?_ (fun _ => ?_)
    · intro y0 y1 y2
      unfold chirographref06_Text.l1
      repeat' first
      | (with_reducible exact ih0 _ _ _)
      | (with_reducible exact ih1 _ _ _ _ _)
      | (with_reducible exact ih2 _ _ _)
      | (with_reducible exact ih3 _ _ _)
      | (with_reducible exact ih4 _ _ _ _ _)
      | (with_reducible exact ih5 _ _ _ _ _)
      | (with_reducible exact ih6 _ _ _ _ _)
      | (with_reducible exact chirographref06_printable.mono _ _)
      | (with_reducible exact chirographref06_utf8.mono _ _)
      | (with_reducible exact LeO.refl _)
      | (with_reducible exact LeO.none _)
      | (with_reducible refine LeO.ite ?_ ?_)
      | (with_reducible refine LeO.bind ?_ (fun _ => ?_))
      | exact ih0 _ _ _
      | exact ih1 _ _ _ _ _
      | exact ih2 _ _ _
      | exact ih3 _ _ _
      | exact ih4 _ _ _ _ _
      | exact ih5 _ _ _ _ _
      | exact ih6 _ _ _ _ _
      | exact chirographref06_printable.mono _ _
      | exact chirographref06_utf8.mono _ _
      | exact LeO.none _
      | refine LeO.ite ?_ ?_
      | refine LeO.bind ?_ (fun _ => ?_)
    · intro y0 y1 y2 y3 y4
      unfold chirographref06_Text.j4
      repeat' first
      | (with_reducible exact ih0 _ _ _)
      | (with_reducible exact ih1 _ _ _ _ _)
      | (with_reducible exact ih2 _ _ _)
      | (with_reducible exact ih3 _ _ _)
      | (with_reducible exact ih4 _ _ _ _ _)
      | (with_reducible exact ih5 _ _ _ _ _)
      | (with_reducible exact ih6 _ _ _ _ _)
      | (with_reducible exact chirographref06_printable.mono _ _)
      | (with_reducible exact chirographref06_utf8.mono _ _)
      | (with_reducible exact LeO.refl _)
      | (with_reducible exact LeO.none _)
      | (with_reducible refine LeO.ite ?_ ?_)
      | (with_reducible refine LeO.bind ?_ (fun _ => ?_))
      | exact ih0 _ _ _
      | exact ih1 _ _ _ _ _
      | exact ih2 _ _ _
      | exact ih3 _ _ _
      | exact ih4 _ _ _ _ _
      | exact ih5 _ _ _ _ _
      | exact ih6 _ _ _ _ _
      | exact chirographref06_printable.mono _ _
      | exact chirographref06_utf8.mono _ _
      | exact LeO.none _
      | refine LeO.ite ?_ ?_
      | refine LeO.bind ?_ (fun _ => ?_)
    · intro y0 y1 y2 y3 y4
      unfold chirographref06_Text.j5
      repeat' first
      | (with_reducible exact ih0 _ _ _)
      | (with_reducible exact ih1 _ _ _ _ _)
      | (with_reducible exact ih2 _ _ _)
      | (with_reducible exact ih3 _ _ _)
      | (with_reducible exact ih4 _ _ _ _ _)
      | (with_reducible exact ih5 _ _ _ _ _)
      | (with_reducible exact ih6 _ _ _ _ _)
      | (with_reducible exact chirographref06_printable.mono _ _)
      | (with_reducible exact chirographref06_utf8.mono _ _)
      | (with_reducible exact LeO.refl _)
      | (with_reducible exact LeO.none _)
      | (with_reducible refine LeO.ite ?_ ?_)
      | (with_reducible refine LeO.bind ?_ (fun _ => ?_))
      | exact ih0 _ _ _
      | exact ih1 _ _ _ _ _
      | exact ih2 _ _ _
      | exact ih3 _ _ _
      | exact ih4 _ _ _ _ _
      | exact ih5 _ _ _ _ _
      | exact ih6 _ _ _ _ _
      | exact chirographref06_printable.mono _ _
      | exact chirographref06_utf8.mono _ _
      | exact LeO.none _
      | refine LeO.ite ?_ ?_
      | refine LeO.bind ?_ (fun _ => ?_)
    · intro y0 y1 y2 y3 y4
      unfold chirographref06_Text.j6
      repeat' first
      | (with_reducible exact ih0 _ _ _)
      | (with_reducible exact ih1 _ _ _ _ _)
      | (with_reducible exact ih2 _ _ _)
      | (with_reducible exact ih3 _ _ _)
      | (with_reducible exact ih4 _ _ _ _ _)
      | (with_reducible exact ih5 _ _ _ _ _)
      | (with_reducible exact ih6 _ _ _ _ _)
      | (with_reducible exact chirographref06_printable.mono _ _)
      | (with_reducible exact chirographref06_utf8.mono _ _)
      | (with_reducible exact LeO.refl _)
      | (with_reducible exact LeO.none _)
      | (with_reducible refine LeO.ite ?_ ?_)
      | (with_reducible refine LeO.bind ?_ (fun _ => ?_))
      | exact ih0 _ _ _
      | exact ih1 _ _ _ _ _
      | exact ih2 _ _ _
      | exact ih3 _ _ _
      | exact ih4 _ _ _ _ _
      | exact ih5 _ _ _ _ _
      | exact ih6 _ _ _ _ _
      | exact chirographref06_printable.mono _ _
      | exact chirographref06_utf8.mono _ _
      | exact LeO.none _
      | refine LeO.ite ?_ ?_
      | refine LeO.bind ?_ (fun _ => ?_)
theorem chirographref06_Text.mono : ∀ a0 a1 k, LeO (chirographref06_Text.f k a0 a1) (chirographref06_Text.f (k + 1) a0 a1) := by
  intro a0 a1 k
  obtain ⟨ih0, ih1, ih2, ih3, ih4, ih5, ih6⟩ := chirographref06_Text.mono_l k
  unfold chirographref06_Text.f
  repeat' first
      | (with_reducible exact ih0 _ _ _)
      | (with_reducible exact ih1 _ _ _ _ _)
      | (with_reducible exact ih2 _ _ _)
      | (with_reducible exact ih3 _ _ _)
      | (with_reducible exact ih4 _ _ _ _ _)
      | (with_reducible exact ih5 _ _ _ _ _)
      | (with_reducible exact ih6 _ _ _ _ _)
      | (with_reducible exact chirographref06_printable.mono _ _)
      | (with_reducible exact chirographref06_utf8.mono _ _)
      | (with_reducible exact LeO.refl _)
      | (with_reducible exact LeO.none _)
      | (with_reducible refine LeO.ite ?_ ?_)
      | (with_reducible refine LeO.bind ?_ (fun _ => ?_))
      | exact ih0 _ _ _
      | exact ih1 _ _ _ _ _
      | exact ih2 _ _ _
      | exact ih3 _ _ _
      | exact ih4 _ _ _ _ _
      | exact ih5 _ _ _ _ _
      | exact ih6 _ _ _ _ _
      | exact chirographref06_printable.mono _ _
      | exact chirographref06_utf8.mono _ _
      | exact LeO.none _
      | refine LeO.ite ?_ ?_
      | refine LeO.bind ?_ (fun _ => ?_)
set_option maxHeartbeats 8000000 in
set_option maxRecDepth 100000 in
theorem chirographref06_Text.calls (k : Nat) (a0 : Int) (A1 : Option Addr) (c1 : Nat) (l1 : List Int) (r1 : ByteArray) (r2 : Int) (w : World) (hr1 : Kd.C (Kd.int .u8) w A1 l1.length l1) (hc1 : l1.length ≤ c1) (h : chirographref06_Text.f k a0 l1 = some (r1, r2)) :
    Calls Tryd.prog 12 #[.int .i64 a0, .slice A1 l1.length c1] w fun e w' => e = .returned (.tuple #[.string r1, .int .i64 r2]) ∧ Below w.heap.size w w' := by
  have HR1 := Aside0.mk hr1
  have HC1 := Aside0.mk hc1
  clear hr1 hc1
  have HB := Aside0.mk (Below.refl w.heap.size w)
  have H : (if a0 = 12 then ((chirographref06_utf8.f k l1).bind fun t136 => (if t136 = true then (some (strOfNums l1, 0)) else (some ((⟨#[]⟩ : ByteArray), 60)))) else (if a0 = 30 then (if ((l1.length : Int) % 2) = 1 then (some ((⟨#[]⟩ : ByteArray), 60)) else (chirographref06_Text.l0 k l1 ([] : List Int) 0)) else (if a0 = 18 then (chirographref06_Text.j2 k a0 l1 (a0 == 18)) else (if a0 = 19 then (chirographref06_Text.j2 k a0 l1 (a0 == 19)) else (if a0 = 22 then (chirographref06_Text.j2 k a0 l1 (a0 == 22)) else (chirographref06_Text.j2 k a0 l1 (a0 == 26))))))) = some (r1, r2) := h
  clear h
  by_cases c3 : a0 = 12
  · rw [if_pos c3] at H
    have c3b0 : (a0 == 12) = true := beq_iff_eq.mpr c3
    have c3b1 : (a0 != 12) = false := bne_eq_false_iff_eq.mpr c3
    clear c3
    replace H := Option.bind_eq_some_iff.mp H
    obtain ⟨t136, A40, H⟩ := H
    replace H : (if t136 = true then (some (strOfNums l1, 0)) else (some ((⟨#[]⟩ : ByteArray), 60))) = some (r1, r2) := H
    have A4 := Aside0.mk A40
    clear A40
    by_cases c5 : t136 = true
    · subst c5
      have H1 : (some (strOfNums l1, 0)) = some (r1, r2) := by rw [if_pos rfl] at H; exact H
      clear H
      have H := H1
      clear H1
      simp only [Option.some.injEq, Prod.mk.injEq] at H
      obtain ⟨rfl, rfl⟩ := H
      go_enter Tryd.func12, Tryd.ntmps12
      go_wp2_with (first | (go_at_call 22; (with_reducible refine (chirographref06_utf8.calls k _ _ l1 true _ ?side1 ?side2 A4.out).mono ?_); (case side1 => repeat (first | exact HR1.out | (with_reducible refine Kd.C_alloc ?_ _) | (with_reducible refine Kd.C_drewN ?_ _) | (with_reducible refine Kd.C_drew ?_))); (case side2 => exact HC1.out); rintro e w' ⟨rfl, ⟨nd, rfl⟩⟩; (try first | exact ⟨rfl, _, World.drewN_drewN _ _ _⟩ | exact ⟨rfl, _, Eq.trans (World.drewN_drewN _ _ _) (congrArg (World.drewN _) (Nat.add_assoc _ _ _))⟩); have hcv6 := Kd.C_string (P := Tryd.prog) (A := A1) (c := c1) Tryd.underlying22 Tryd.underlying5 Tryd.underlying9 (Kd.C_drewN HR1.out nd)))
      repeat (go_quiet (first | (go_at_call 22; (with_reducible refine (chirographref06_utf8.calls k _ _ l1 true _ ?side1 ?side2 A4.out).mono ?_); (case side1 => repeat (first | exact HR1.out | (with_reducible refine Kd.C_alloc ?_ _) | (with_reducible refine Kd.C_drewN ?_ _) | (with_reducible refine Kd.C_drew ?_))); (case side2 => exact HC1.out); rintro e w' ⟨rfl, ⟨nd, rfl⟩⟩; (try first | exact ⟨rfl, _, World.drewN_drewN _ _ _⟩ | exact ⟨rfl, _, Eq.trans (World.drewN_drewN _ _ _) (congrArg (World.drewN _) (Nat.add_assoc _ _ _))⟩); have hcv6 := Kd.C_string (P := Tryd.prog) (A := A1) (c := c1) Tryd.underlying22 Tryd.underlying5 Tryd.underlying9 (Kd.C_drewN HR1.out nd))); try go_wp2_with (first | (go_at_call 22; (with_reducible refine (chirographref06_utf8.calls k _ _ l1 true _ ?side1 ?side2 A4.out).mono ?_); (case side1 => repeat (first | exact HR1.out | (with_reducible refine Kd.C_alloc ?_ _) | (with_reducible refine Kd.C_drewN ?_ _) | (with_reducible refine Kd.C_drew ?_))); (case side2 => exact HC1.out); rintro e w' ⟨rfl, ⟨nd, rfl⟩⟩; (try first | exact ⟨rfl, _, World.drewN_drewN _ _ _⟩ | exact ⟨rfl, _, Eq.trans (World.drewN_drewN _ _ _) (congrArg (World.drewN _) (Nat.add_assoc _ _ _))⟩); have hcv6 := Kd.C_string (P := Tryd.prog) (A := A1) (c := c1) Tryd.underlying22 Tryd.underlying5 Tryd.underlying9 (Kd.C_drewN HR1.out nd))))
      go_ret2
      exact ⟨by first | rfl | (simp [errW_none, errW_some] <;> rfl) | (simp [*, errW_none, errW_some] <;> rfl), by repeat (first | (with_reducible first | exact HB.out | apply below_alloc | apply pw_below_drewN | apply below_drew1) | exact HB.out)⟩
    · replace c5 := Bool.eq_false_iff.mpr c5
      subst c5
      have H1 : (some ((⟨#[]⟩ : ByteArray), 60)) = some (r1, r2) := by rw [if_neg (show ¬ (false = true) by decide)] at H; exact H
      clear H
      have H := H1
      clear H1
      simp only [Option.some.injEq, Prod.mk.injEq] at H
      obtain ⟨rfl, rfl⟩ := H
      go_enter Tryd.func12, Tryd.ntmps12
      go_wp2_with (first | (go_at_call 22; (with_reducible refine (chirographref06_utf8.calls k _ _ l1 false _ ?side1 ?side2 A4.out).mono ?_); (case side1 => repeat (first | exact HR1.out | (with_reducible refine Kd.C_alloc ?_ _) | (with_reducible refine Kd.C_drewN ?_ _) | (with_reducible refine Kd.C_drew ?_))); (case side2 => exact HC1.out); rintro e w' ⟨rfl, ⟨nd, rfl⟩⟩; (try first | exact ⟨rfl, _, World.drewN_drewN _ _ _⟩ | exact ⟨rfl, _, Eq.trans (World.drewN_drewN _ _ _) (congrArg (World.drewN _) (Nat.add_assoc _ _ _))⟩)))
      repeat (go_quiet (first | (go_at_call 22; (with_reducible refine (chirographref06_utf8.calls k _ _ l1 false _ ?side1 ?side2 A4.out).mono ?_); (case side1 => repeat (first | exact HR1.out | (with_reducible refine Kd.C_alloc ?_ _) | (with_reducible refine Kd.C_drewN ?_ _) | (with_reducible refine Kd.C_drew ?_))); (case side2 => exact HC1.out); rintro e w' ⟨rfl, ⟨nd, rfl⟩⟩; (try first | exact ⟨rfl, _, World.drewN_drewN _ _ _⟩ | exact ⟨rfl, _, Eq.trans (World.drewN_drewN _ _ _) (congrArg (World.drewN _) (Nat.add_assoc _ _ _))⟩))); try go_wp2_with (first | (go_at_call 22; (with_reducible refine (chirographref06_utf8.calls k _ _ l1 false _ ?side1 ?side2 A4.out).mono ?_); (case side1 => repeat (first | exact HR1.out | (with_reducible refine Kd.C_alloc ?_ _) | (with_reducible refine Kd.C_drewN ?_ _) | (with_reducible refine Kd.C_drew ?_))); (case side2 => exact HC1.out); rintro e w' ⟨rfl, ⟨nd, rfl⟩⟩; (try first | exact ⟨rfl, _, World.drewN_drewN _ _ _⟩ | exact ⟨rfl, _, Eq.trans (World.drewN_drewN _ _ _) (congrArg (World.drewN _) (Nat.add_assoc _ _ _))⟩))))
      go_ret2
      exact ⟨by first | rfl | (simp [errW_none, errW_some] <;> rfl) | (simp [*, errW_none, errW_some] <;> rfl), by repeat (first | (with_reducible first | exact HB.out | apply below_alloc | apply pw_below_drewN | apply below_drew1) | exact HB.out)⟩
  · rw [if_neg c3] at H
    have c3b0 : (a0 == 12) = false := beq_eq_false_iff_ne.mpr c3
    have c3b1 : (a0 != 12) = true := bne_iff_ne.mpr c3
    by_cases c7 : a0 = 30
    · rw [if_pos c7] at H
      have c7b0 : (a0 == 30) = true := beq_iff_eq.mpr c7
      have c7b1 : (a0 != 30) = false := bne_eq_false_iff_eq.mpr c7
      clear c7
      by_cases c8 : ((l1.length : Int) % 2) = 1
      · rw [if_pos c8] at H
        have c8b0 : (((l1.length : Int) % 2) == 1) = true := beq_iff_eq.mpr c8
        have c8b1 : (((l1.length : Int) % 2) != 1) = false := bne_eq_false_iff_eq.mpr c8
        clear c8
        simp only [Option.some.injEq, Prod.mk.injEq] at H
        obtain ⟨rfl, rfl⟩ := H
        go_enter Tryd.func12, Tryd.ntmps12
        go_wp2
        repeat (go_quiet (fail); try go_wp2)
        go_ret2
        exact ⟨by first | rfl | (simp [errW_none, errW_some] <;> rfl) | (simp [*, errW_none, errW_some] <;> rfl), by repeat (first | (with_reducible first | exact HB.out | apply below_alloc | apply pw_below_drewN | apply below_drew1) | exact HB.out)⟩
      · rw [if_neg c8] at H
        have c8b0 : (((l1.length : Int) % 2) == 1) = false := beq_eq_false_iff_ne.mpr c8
        have c8b1 : (((l1.length : Int) % 2) != 1) = true := bne_iff_ne.mpr c8
        have H' := Aside0.mk H
        clear H
        go_enter Tryd.func12, Tryd.ntmps12
        go_wp2
        repeat (go_quiet (fail); try go_wp2)
        go_loopg [6, 7] k (fun kq v6 v7 w' => ∃ (x6_1 : List Int) (x7_1 : Int), v7 = .int .i64 x7_1 ∧ Aside0 (chirographref06_Text.l0 kq l1 x6_1 x7_1 = some (r1, r2)) ∧ Aside0 (kq ≤ k) ∧ Aside0 (Kd.R (Kd.int .u8) 5 w' w.heap.size (fun _ => True) v6 x6_1) ∧ Aside0 (Below w.heap.size w w'))
        case atStart => exact ⟨(([] : List Int)), (0), (by first | rfl | (simp; done) | (simp [*]; done)), H', ⟨Nat.le_refl _⟩, ⟨by first | exact Kd.R_nil _ _ _ _ _ | exact Kd.N_nil _ _ _ _ _ | exact Kd.V_nil _ _ _ _ _ | exact Kd.Q_nil _ _ _ _ _ | exact Kd.S_nil _ _ _ _ _⟩, ⟨by repeat (first | (with_reducible first | exact HB.out | apply below_alloc | apply pw_below_drewN | apply below_drew1) | exact HB.out)⟩⟩
        case round =>
          clear H'
          try clear c1
          try clear p2
          try clear c3
          try clear c3b0
          try clear c3b1
          try clear c5
          try clear hcv6
          try clear c7
          try clear c7b0
          try clear c7b1
          try clear c8
          try clear c8b0
          try clear c8b1
          obtain ⟨x6_1, x7_1, rfl, HA, HK1, HO_6, HB⟩ := hrel
          cases gk with
          | zero => exact absurd HA.out (by simp [chirographref06_Text.l0])
          | succ k1 =>
            have H := HA.out
            clear HA
            simp only [chirographref06_Text.l0] at H
            by_cases c9 : x7_1 < (l1.length : Int)
            · rw [if_pos c9] at H
              have c9b0 : decide (x7_1 < (l1.length : Int)) = true := decide_eq_true c9
              clear c9
              by_cases c10 : 0 ≤ x7_1
              · rw [if_pos c10] at H
                have c10b0 : decide (0 ≤ x7_1) = true := decide_eq_true c10
                clear c10
                obtain ⟨ji11, hji11⟩ : ∃ j_ : Int, (wrap64 (x7_1 + 1)) = j_ := ⟨_, rfl⟩
                replace H : (if 0 ≤ (ji11) then (if (ji11) < (l1.length : Int) then (if (wrap64 ((wrap64 ((wrap64 (rd l1 x7_1)) * 256)) + (wrap64 (rd l1 (ji11))))) ≥ 55296 then (chirographref06_Text.j1 k1 l1 x6_1 x7_1 (wrap64 ((wrap64 ((wrap64 (rd l1 x7_1)) * 256)) + (wrap64 (rd l1 (ji11))))) (decide ((wrap64 ((wrap64 ((wrap64 (rd l1 x7_1)) * 256)) + (wrap64 (rd l1 (ji11))))) ≤ 57343))) else (chirographref06_Text.j1 k1 l1 x6_1 x7_1 (wrap64 ((wrap64 ((wrap64 (rd l1 x7_1)) * 256)) + (wrap64 (rd l1 (ji11))))) false)) else (none)) else (none)) = some (r1, r2) := by first | (rw [hji11] at H; exact H) | (simp only [hji11] at H ⊢; exact H)
                have hji11w : (IntKind.i64.wrap (x7_1 + 1)) = ji11 := (i64_w _).trans hji11
                by_cases c12 : 0 ≤ (ji11)
                · rw [if_pos c12] at H
                  have c12b0 : decide (0 ≤ (ji11)) = true := decide_eq_true c12
                  clear c12
                  by_cases c13 : (ji11) < (l1.length : Int)
                  · rw [if_pos c13] at H
                    have c13b0 : decide ((ji11) < (l1.length : Int)) = true := decide_eq_true c13
                    clear c13
                    have HC14 := Aside0.mk H
                    clear H
                    have p137 : 0 ≤ (x7_1 : Int) := of_decide_eq_true (by first | (with_reducible assumption) | assumption)
                    have q137 : x7_1 < (l1.length : Int) := of_decide_eq_true (by first | (with_reducible assumption) | assumption)
                    obtain ⟨ad137, e137, hx137_0⟩ := Kd.at_int HR1.out x7_1 p137 q137
                    cases e137
                    replace hx137_0 := (HB.out.cell (World.block_lt_of_cell? w _ hx137_0)).trans hx137_0
                    replace p137 := eq_true p137
                    replace q137 := eq_true q137
                    have p138 : 0 ≤ ((ji11) : Int) := of_decide_eq_true (by first | (with_reducible assumption) | assumption)
                    have q138 : (ji11) < (l1.length : Int) := of_decide_eq_true (by first | (with_reducible assumption) | assumption)
                    obtain ⟨ad138, e138, hx138_0⟩ := Kd.at_int HR1.out (ji11) p138 q138
                    obtain rfl : ad137 = ad138 := (by injection e138)
                    replace hx138_0 := (HB.out.cell (World.block_lt_of_cell? w _ hx138_0)).trans hx138_0
                    replace p138 := eq_true p138
                    replace q138 := eq_true q138
                    go_upto_region 15 with (fail)
                    repeat (go_quiet (fail); go_upto_region 15 with (fail))
                    go_cut [61] (fun v61 wc => ∃ (kq : Nat) (x61_13 : Bool), v61 = .bool x61_13 ∧ Aside0 (chirographref06_Text.j1 kq l1 x6_1 x7_1 (wrap64 ((wrap64 ((wrap64 (rd l1 x7_1)) * 256)) + (wrap64 (rd l1 (ji11))))) x61_13 = some (r1, r2)) ∧ Aside0 (kq ≤ k1) ∧ Aside0 (Kd.R (Kd.int .u8) 5 wc w.heap.size (fun _ => True) u6 x6_1) ∧ Aside0 (Below w.heap.size w wc))
                    case first =>
                      have H := HC14.out
                      clear HC14
                      by_cases c15 : (wrap64 ((wrap64 ((wrap64 (rd l1 x7_1)) * 256)) + (wrap64 (rd l1 (ji11))))) ≥ 55296
                      · rw [if_pos c15] at H
                        have c15b0 : decide (55296 ≤ (wrap64 ((wrap64 ((wrap64 (rd l1 x7_1)) * 256)) + (wrap64 (rd l1 (ji11)))))) = true := decide_eq_true c15
                        clear c15
                        (first | rw [c15b0] | (simp only [i64_w, i32_w]; rw [c15b0]) | skip)
                        have H' := Aside0.mk H
                        clear H
                        go_wp2
                        repeat (go_quiet (fail); try go_wp2)
                        go_meet
                        case rel => exact ⟨_, (decide ((wrap64 ((wrap64 ((wrap64 (rd l1 x7_1)) * 256)) + (wrap64 (rd l1 (ji11))))) ≤ 57343)), (by first | rfl | (simp; done) | (simp only [← hji11] <;> (first | rfl | simp)) | (simp [*]; done)), H', ⟨by have := HK1.out; first | omega | exact Nat.le_refl _⟩, ⟨by (with_reducible repeat (first | apply Kd.R_alloc | apply Kd.R_drewN | apply Kd.R_drew)); exact HO_6.out⟩, ⟨by repeat (first | (with_reducible first | exact HB.out | apply below_alloc | apply pw_below_drewN | apply below_drew1) | exact HB.out)⟩⟩
                      · rw [if_neg c15] at H
                        have c15b0 : decide (55296 ≤ (wrap64 ((wrap64 ((wrap64 (rd l1 x7_1)) * 256)) + (wrap64 (rd l1 (ji11)))))) = false := decide_eq_false c15
                        clear c15
                        (first | rw [c15b0] | (simp only [i64_w, i32_w]; rw [c15b0]) | skip)
                        have H' := Aside0.mk H
                        clear H
                        go_wp2
                        repeat (go_quiet (fail); try go_wp2)
                        go_meet
                        case rel => exact ⟨_, (false), (by first | rfl | (simp; done) | (simp [*]; done)), H', ⟨by have := HK1.out; first | omega | exact Nat.le_refl _⟩, ⟨by (with_reducible repeat (first | apply Kd.R_alloc | apply Kd.R_drewN | apply Kd.R_drew)); exact HO_6.out⟩, ⟨by repeat (first | (with_reducible first | exact HB.out | apply below_alloc | apply pw_below_drewN | apply below_drew1) | exact HB.out)⟩⟩
                    case rest =>
                      clear HC14
                      try clear c1
                      try clear p1
                      try clear q1
                      try clear hx1
                      try clear p2
                      try clear c3
                      try clear c3b0
                      try clear c3b1
                      try clear c5
                      try clear p6
                      try clear hcv6
                      try clear c7
                      try clear c7b0
                      try clear c7b1
                      try clear c8
                      try clear c8b0
                      try clear c8b1
                      try clear c9
                      try clear c9b0
                      try clear c10
                      try clear c10b0
                      try clear c12
                      try clear c12b0
                      try clear c13
                      try clear c13b0
                      try clear p13
                      try clear q13
                      try clear hx13
                      try clear c15
                      try clear c15b0
                      try clear hx137_0
                      try clear hx138_0
                      try clear p137
                      try clear p138
                      try clear p2
                      try clear q137
                      try clear q138
                      obtain ⟨kq, x61_13, rfl, HA, HJ13, HO_6, HB⟩ := hcut
                      cases kq with
                      | zero => exact absurd HA.out (by simp [chirographref06_Text.j1])
                      | succ kj13 =>
                        have H := HA.out
                        clear HA
                        simp only [chirographref06_Text.j1] at H
                        by_cases c16 : x61_13 = true
                        · subst c16
                          have H1 : (some ((⟨#[]⟩ : ByteArray), 60)) = some (r1, r2) := by rw [if_pos rfl] at H; exact H
                          clear H
                          have H := H1
                          clear H1
                          simp only [Option.some.injEq, Prod.mk.injEq] at H
                          obtain ⟨rfl, rfl⟩ := H
                          go_wp2
                          repeat (go_quiet (fail); try go_wp2)
                          go_ret2
                          exact ⟨by first | rfl | (simp [errW_none, errW_some] <;> rfl) | (simp only [← hji11]; first | rfl | (simp [errW_none, errW_some] <;> rfl)) | (simp [*, errW_none, errW_some] <;> rfl), by repeat (first | (with_reducible first | exact HB.out | apply below_alloc | apply pw_below_drewN | apply below_drew1) | exact HB.out)⟩
                        · replace c16 := Bool.eq_false_iff.mpr c16
                          subst c16
                          have H1 : (if (wrap64 ((wrap64 ((wrap64 (rd l1 x7_1)) * 256)) + (wrap64 (rd l1 (ji11))))) < 128 then (if x6_1.length < 140737488355328 then (chirographref06_Text.l0 kj13 l1 (x6_1 ++ [((wrap64 ((wrap64 ((wrap64 (rd l1 x7_1)) * 256)) + (wrap64 (rd l1 (ji11)))))) % 256]) (wrap64 (x7_1 + 2))) else (none)) else (if (wrap64 ((wrap64 ((wrap64 (rd l1 x7_1)) * 256)) + (wrap64 (rd l1 (ji11))))) < 2048 then ((some (([(wrap64 (192 + (wrap64 (Int.tdiv (wrap64 ((wrap64 ((wrap64 (rd l1 x7_1)) * 256)) + (wrap64 (rd l1 (ji11))))) 64)))) % 256, (wrap64 (128 + (Int.tmod (wrap64 ((wrap64 ((wrap64 (rd l1 x7_1)) * 256)) + (wrap64 (rd l1 (ji11))))) 64))) % 256] : List Int) : List Int)).bind fun y142 => (if x6_1.length + y142.length < 140737488355328 then (chirographref06_Text.l0 kj13 l1 (x6_1 ++ y142) (wrap64 (x7_1 + 2))) else (none))) else ((some (([(wrap64 (224 + (wrap64 (Int.tdiv (wrap64 ((wrap64 ((wrap64 (rd l1 x7_1)) * 256)) + (wrap64 (rd l1 (ji11))))) 4096)))) % 256, (wrap64 (128 + (Int.tmod (wrap64 (Int.tdiv (wrap64 ((wrap64 ((wrap64 (rd l1 x7_1)) * 256)) + (wrap64 (rd l1 (ji11))))) 64)) 64))) % 256, (wrap64 (128 + (Int.tmod (wrap64 ((wrap64 ((wrap64 (rd l1 x7_1)) * 256)) + (wrap64 (rd l1 (ji11))))) 64))) % 256] : List Int) : List Int)).bind fun y148 => (if x6_1.length + y148.length < 140737488355328 then (chirographref06_Text.l0 kj13 l1 (x6_1 ++ y148) (wrap64 (x7_1 + 2))) else (none))))) = some (r1, r2) := by rw [if_neg (show ¬ (false = true) by decide)] at H; exact H
                          clear H
                          have H := H1
                          clear H1
                          by_cases c17 : (wrap64 ((wrap64 ((wrap64 (rd l1 x7_1)) * 256)) + (wrap64 (rd l1 (ji11))))) < 128
                          · rw [if_pos c17] at H
                            have c17b0 : decide ((wrap64 ((wrap64 ((wrap64 (rd l1 x7_1)) * 256)) + (wrap64 (rd l1 (ji11))))) < 128) = true := decide_eq_true c17
                            clear c17
                            by_cases c18 : x6_1.length < 140737488355328
                            · rw [if_pos c18] at H
                              have LMc18 := Aside0.mk c18
                              clear c18
                              obtain ⟨y139, hy139⟩ : ∃ y_ : List Int, y_ = (x6_1 ++ [((wrap64 ((wrap64 ((wrap64 (rd l1 x7_1)) * 256)) + (wrap64 (rd l1 (ji11)))))) % 256]) := ⟨_, rfl⟩
                              replace H : (chirographref06_Text.l0 kj13 l1 y139 (wrap64 (x7_1 + 2))) = some (r1, r2) := by first | (rw [hy139]; with_reducible exact H) | (have H2_ := (Option.bind_some _ _).symm.trans H; rw [hy139]; with_reducible exact H2_) | (have H2_ := (Option.bind_some _ _).symm.trans H; with_reducible exact H2_) | with_reducible exact H | (rw [hy139]; exact H) | exact H
                              have Ny139 := Aside0.mk hy139
                              clear hy139
                              have H' := Aside0.mk H
                              clear H
                              go_wp2_with (first | ((with_reducible refine gate_builtin (b := .append) (xs := #[.tmp 71, .tmp 74]) rfl ?_); at_builtin; refine Kd.R_append (Kd.int .u8) (w0 := w) w.heap.size rfl (.tmp 71) (.tmp 74) 22 5 (.int .u8 0) 1 rfl Tryd.underlying22 info5 rfl (by decide) (by omega) u6 x6_1 (((wrap64 ((wrap64 ((wrap64 (rd l1 x7_1)) * 256)) + (wrap64 (rd l1 (ji11)))))) % 256) [.int .u8 (((wrap64 ((wrap64 ((wrap64 (rd l1 x7_1)) * 256)) + (wrap64 (rd l1 (ji11)))))) % 256)] (fun _ => True) (fun _ => False) rfl rfl ?aP (fun _ hk => hk.elim) ?aF ?aO ?aB ?aS ?aL ?_; (case aP => exact rfl); (case aB => exact (by repeat (first | (with_reducible first | exact HB.out | apply below_alloc | apply pw_below_drewN | apply below_drew1) | exact HB.out))); (case aF => exact (fun _ _ => trivial)); (case aO => exact (by (with_reducible repeat (first | apply Kd.R_alloc | apply Kd.R_drewN | apply Kd.R_drew)); exact HO_6.out)); (case aS => exact (below_size (by repeat (first | (with_reducible first | exact HB.out | apply below_alloc | apply pw_below_drewN | apply below_drew1) | exact HB.out)))); (case aL => have := LMc18.out; omega); intro v140 w19 ho hb hg hat; rw [← Ny139.out] at ho; have n0_ := Aside0.mk (hb); have n1_ := Aside0.mk (ho); clear HB; clear HO_6; have HB := n0_; have HO141 := n1_; clear n0_ n1_; clear ho hb hg hat))
                              repeat (go_quiet (first | ((with_reducible refine gate_builtin (b := .append) (xs := #[.tmp 71, .tmp 74]) rfl ?_); at_builtin; refine Kd.R_append (Kd.int .u8) (w0 := w) w.heap.size rfl (.tmp 71) (.tmp 74) 22 5 (.int .u8 0) 1 rfl Tryd.underlying22 info5 rfl (by decide) (by omega) u6 x6_1 (((wrap64 ((wrap64 ((wrap64 (rd l1 x7_1)) * 256)) + (wrap64 (rd l1 (ji11)))))) % 256) [.int .u8 (((wrap64 ((wrap64 ((wrap64 (rd l1 x7_1)) * 256)) + (wrap64 (rd l1 (ji11)))))) % 256)] (fun _ => True) (fun _ => False) rfl rfl ?aP (fun _ hk => hk.elim) ?aF ?aO ?aB ?aS ?aL ?_; (case aP => exact rfl); (case aB => exact (by repeat (first | (with_reducible first | exact HB.out | apply below_alloc | apply pw_below_drewN | apply below_drew1) | exact HB.out))); (case aF => exact (fun _ _ => trivial)); (case aO => exact (by (with_reducible repeat (first | apply Kd.R_alloc | apply Kd.R_drewN | apply Kd.R_drew)); exact HO_6.out)); (case aS => exact (below_size (by repeat (first | (with_reducible first | exact HB.out | apply below_alloc | apply pw_below_drewN | apply below_drew1) | exact HB.out)))); (case aL => have := LMc18.out; omega); intro v140 w19 ho hb hg hat; rw [← Ny139.out] at ho; have n0_ := Aside0.mk (hb); have n1_ := Aside0.mk (ho); clear HB; clear HO_6; have HB := n0_; have HO141 := n1_; clear n0_ n1_; clear ho hb hg hat)); try go_wp2_with (first | ((with_reducible refine gate_builtin (b := .append) (xs := #[.tmp 71, .tmp 74]) rfl ?_); at_builtin; refine Kd.R_append (Kd.int .u8) (w0 := w) w.heap.size rfl (.tmp 71) (.tmp 74) 22 5 (.int .u8 0) 1 rfl Tryd.underlying22 info5 rfl (by decide) (by omega) u6 x6_1 (((wrap64 ((wrap64 ((wrap64 (rd l1 x7_1)) * 256)) + (wrap64 (rd l1 (ji11)))))) % 256) [.int .u8 (((wrap64 ((wrap64 ((wrap64 (rd l1 x7_1)) * 256)) + (wrap64 (rd l1 (ji11)))))) % 256)] (fun _ => True) (fun _ => False) rfl rfl ?aP (fun _ hk => hk.elim) ?aF ?aO ?aB ?aS ?aL ?_; (case aP => exact rfl); (case aB => exact (by repeat (first | (with_reducible first | exact HB.out | apply below_alloc | apply pw_below_drewN | apply below_drew1) | exact HB.out))); (case aF => exact (fun _ _ => trivial)); (case aO => exact (by (with_reducible repeat (first | apply Kd.R_alloc | apply Kd.R_drewN | apply Kd.R_drew)); exact HO_6.out)); (case aS => exact (below_size (by repeat (first | (with_reducible first | exact HB.out | apply below_alloc | apply pw_below_drewN | apply below_drew1) | exact HB.out)))); (case aL => have := LMc18.out; omega); intro v140 w19 ho hb hg hat; rw [← Ny139.out] at ho; have n0_ := Aside0.mk (hb); have n1_ := Aside0.mk (ho); clear HB; clear HO_6; have HB := n0_; have HO141 := n1_; clear n0_ n1_; clear ho hb hg hat)))
                              go_roundg kj13
                              case measure => have := HK1.out; have := HJ13.out; omega
                              case rel => exact ⟨(y139), (wrap64 (x7_1 + 2)), (by first | rfl | (simp; done) | (simp [*]; done)), H', ⟨by have := HK1.out; have := HJ13.out; omega⟩, ⟨by (with_reducible repeat (first | apply Kd.R_alloc | apply Kd.R_drewN | apply Kd.R_drew)); exact HO141.out⟩, ⟨by repeat (first | (with_reducible first | exact HB.out | apply below_alloc | apply pw_below_drewN | apply below_drew1) | exact HB.out)⟩⟩
                            · rw [if_neg c18] at H
                              exact absurd H (by simp)
                          · rw [if_neg c17] at H
                            have c17b0 : decide ((wrap64 ((wrap64 ((wrap64 (rd l1 x7_1)) * 256)) + (wrap64 (rd l1 (ji11))))) < 128) = false := decide_eq_false c17
                            clear c17
                            by_cases c20 : (wrap64 ((wrap64 ((wrap64 (rd l1 x7_1)) * 256)) + (wrap64 (rd l1 (ji11))))) < 2048
                            · rw [if_pos c20] at H
                              have c20b0 : decide ((wrap64 ((wrap64 ((wrap64 (rd l1 x7_1)) * 256)) + (wrap64 (rd l1 (ji11))))) < 2048) = true := decide_eq_true c20
                              clear c20
                              obtain ⟨y142, hy142⟩ : ∃ y_ : List Int, y_ = (([(wrap64 (192 + (wrap64 (Int.tdiv (wrap64 ((wrap64 ((wrap64 (rd l1 x7_1)) * 256)) + (wrap64 (rd l1 (ji11))))) 64)))) % 256, (wrap64 (128 + (Int.tmod (wrap64 ((wrap64 ((wrap64 (rd l1 x7_1)) * 256)) + (wrap64 (rd l1 (ji11))))) 64))) % 256] : List Int)) := ⟨_, rfl⟩
                              replace H : (if x6_1.length + y142.length < 140737488355328 then (chirographref06_Text.l0 kj13 l1 (x6_1 ++ y142) (wrap64 (x7_1 + 2))) else (none)) = some (r1, r2) := by first | (rw [hy142]; with_reducible exact H) | (have H2_ := (Option.bind_some _ _).symm.trans H; rw [hy142]; with_reducible exact H2_) | (have H2_ := (Option.bind_some _ _).symm.trans H; with_reducible exact H2_) | with_reducible exact H | (rw [hy142]; exact H) | exact H
                              have Ny142 := Aside0.mk hy142
                              clear hy142
                              by_cases c21 : x6_1.length + y142.length < 140737488355328
                              · rw [if_pos c21] at H
                                have LMc21 := Aside0.mk c21
                                clear c21
                                obtain ⟨y145, hy145⟩ : ∃ y_ : List Int, y_ = (x6_1 ++ y142) := ⟨_, rfl⟩
                                replace H : (chirographref06_Text.l0 kj13 l1 y145 (wrap64 (x7_1 + 2))) = some (r1, r2) := by first | (rw [hy145]; with_reducible exact H) | (have H2_ := (Option.bind_some _ _).symm.trans H; rw [hy145]; with_reducible exact H2_) | (have H2_ := (Option.bind_some _ _).symm.trans H; with_reducible exact H2_) | with_reducible exact H | (rw [hy145]; exact H) | exact H
                                have Ny145 := Aside0.mk hy145
                                clear hy145
                                have H' := Aside0.mk H
                                clear H
                                go_wp2_with (first | ((with_reducible refine gate_dst (N := 88) rfl ?_); refine Kd.R_lit (Kd.int .u8) _ 5 ?hg (N := 88) ?hd (xs := ([(wrap64 (192 + (wrap64 (Int.tdiv (wrap64 ((wrap64 ((wrap64 (rd l1 x7_1)) * 256)) + (wrap64 (rd l1 (ji11))))) 64)))) % 256, (wrap64 (128 + (Int.tmod (wrap64 ((wrap64 ((wrap64 (rd l1 x7_1)) * 256)) + (wrap64 (rd l1 (ji11))))) 64))) % 256] : List Int)) (inner := [.int .u8 ((wrap64 (192 + (wrap64 (Int.tdiv (wrap64 ((wrap64 ((wrap64 (rd l1 x7_1)) * 256)) + (wrap64 (rd l1 (ji11))))) 64)))) % 256), .int .u8 ((wrap64 (128 + (Int.tmod (wrap64 ((wrap64 ((wrap64 (rd l1 x7_1)) * 256)) + (wrap64 (rd l1 (ji11))))) 64))) % 256)]) (ok := fun _ => True) (okp := fun _ => True) ?hr ?hp (fun _ hk => hk) trivial (Below.refl _ _) (Nat.le_refl _) (by simp) ?_; (case hd => rfl); (case hg => rfl); (case hr => first | (go_simp; done) | (go_simp; rfl)); (case hp => exact (Reps.one (show Kd.M (Kd.int .u8) _ _ _ ((wrap64 (192 + (wrap64 (Int.tdiv (wrap64 ((wrap64 ((wrap64 (rd l1 x7_1)) * 256)) + (wrap64 (rd l1 (ji11))))) 64)))) % 256) [.int .u8 ((wrap64 (192 + (wrap64 (Int.tdiv (wrap64 ((wrap64 ((wrap64 (rd l1 x7_1)) * 256)) + (wrap64 (rd l1 (ji11))))) 64)))) % 256)] from rfl) (Reps.one (show Kd.M (Kd.int .u8) _ _ _ ((wrap64 (128 + (Int.tmod (wrap64 ((wrap64 ((wrap64 (rd l1 x7_1)) * 256)) + (wrap64 (rd l1 (ji11))))) 64))) % 256) [.int .u8 ((wrap64 (128 + (Int.tmod (wrap64 ((wrap64 ((wrap64 (rd l1 x7_1)) * 256)) + (wrap64 (rd l1 (ji11))))) 64))) % 256)] from rfl) (Reps.none _ _)))); intro v143 w22 ho23 hb hg_ hnew_; clear hg_ hnew_; (first | rw [← Ny142.out] at ho23 | (simp only [Int.reduceToNat] at ho23; rw [← Ny142.out] at ho23)); have n0_ := Aside0.mk (Kd.R_elder' (by (with_reducible repeat (first | apply Kd.R_alloc | apply Kd.R_drewN | apply Kd.R_drew)); exact HO_6.out) (Kd.R_base ho23) hb); have n1_ := Aside0.mk (Kd.R_lower (Kd.R_new' ho23 (Kd.R_lt (by (with_reducible repeat (first | apply Kd.R_alloc | apply Kd.R_drewN | apply Kd.R_drew)); exact HO_6.out))) (below_size (by repeat (first | (with_reducible first | exact HB.out | apply below_alloc | apply pw_below_drewN | apply below_drew1) | exact HB.out)))); have n2_ := Aside0.mk (below_step (by repeat (first | (with_reducible first | exact HB.out | apply below_alloc | apply pw_below_drewN | apply below_drew1) | exact HB.out)) hb); clear HO_6; clear HB; have HO_6 := n0_; have HO144 := n1_; have HB := n2_; clear n0_ n1_ n2_; clear hb ho23; obtain ⟨Ao25, co25, eo25⟩ := Kd.R_slice HO144.out; subst eo25) | ((with_reducible refine gate_builtin (b := .append) (xs := #[.tmp 79, .tmp 88]) rfl ?_); at_builtin; refine Kd.R_append_rows (Kd.int .u8) (w0 := w) w.heap.size rfl (.tmp 79) (.tmp 88) 22 5 (.int .u8 0) 1 rfl Tryd.underlying22 info5 rfl (by decide) (by omega) u6 x6_1 y142 _ _ _ (fun k_ => some k_ ≠ (.slice Ao25 y142.length co25 : Value).ownBlock) (fun _ => False) rfl rfl ?aO ?aR (fun _ _ h => h) (fun _ h => h.elim) ?aF ?aB ?aS ?aL ?_; (case aR => repeat (first | exact (Kd.R_reads' HO144.out).2.2 | (with_reducible refine Kd.C_alloc ?_ _) | (with_reducible refine Kd.C_drewN ?_ _) | (with_reducible refine Kd.C_drew ?_))); (case aB => exact (by repeat (first | (with_reducible first | exact HB.out | apply below_alloc | apply pw_below_drewN | apply below_drew1) | exact HB.out))); (case aF => exact (fun k_ hk => Kd.fresh' (Kd.R_lt (by (with_reducible repeat (first | apply Kd.R_alloc | apply Kd.R_drewN | apply Kd.R_drew)); exact HO144.out)) k_ hk)); (case aO => exact (by (with_reducible repeat (first | apply Kd.R_alloc | apply Kd.R_drewN | apply Kd.R_drew)); exact Kd.R_mono HO_6.out (fun _ hk => hk.2))); (case aS => exact (below_size (by repeat (first | (with_reducible first | exact HB.out | apply below_alloc | apply pw_below_drewN | apply below_drew1) | exact HB.out)))); (case aL => have := LMc21.out; omega); intro v146 w24 ho hb hg hat; rw [← Ny145.out] at ho; have n0_ := Aside0.mk (Kd.R_after (ok := (fun _ => True)) (by (with_reducible repeat (first | apply Kd.R_alloc | apply Kd.R_drewN | apply Kd.R_drew)); exact HO144.out) hg hat); have n1_ := Aside0.mk (hb); have n2_ := Aside0.mk (ho); clear HO144; clear HB; clear HO_6; have HO144 := n0_; have HB := n1_; have HO147 := n2_; clear n0_ n1_ n2_; clear ho hb hg hat))
                                repeat (go_quiet (first | ((with_reducible refine gate_dst (N := 88) rfl ?_); refine Kd.R_lit (Kd.int .u8) _ 5 ?hg (N := 88) ?hd (xs := ([(wrap64 (192 + (wrap64 (Int.tdiv (wrap64 ((wrap64 ((wrap64 (rd l1 x7_1)) * 256)) + (wrap64 (rd l1 (ji11))))) 64)))) % 256, (wrap64 (128 + (Int.tmod (wrap64 ((wrap64 ((wrap64 (rd l1 x7_1)) * 256)) + (wrap64 (rd l1 (ji11))))) 64))) % 256] : List Int)) (inner := [.int .u8 ((wrap64 (192 + (wrap64 (Int.tdiv (wrap64 ((wrap64 ((wrap64 (rd l1 x7_1)) * 256)) + (wrap64 (rd l1 (ji11))))) 64)))) % 256), .int .u8 ((wrap64 (128 + (Int.tmod (wrap64 ((wrap64 ((wrap64 (rd l1 x7_1)) * 256)) + (wrap64 (rd l1 (ji11))))) 64))) % 256)]) (ok := fun _ => True) (okp := fun _ => True) ?hr ?hp (fun _ hk => hk) trivial (Below.refl _ _) (Nat.le_refl _) (by simp) ?_; (case hd => rfl); (case hg => rfl); (case hr => first | (go_simp; done) | (go_simp; rfl)); (case hp => exact (Reps.one (show Kd.M (Kd.int .u8) _ _ _ ((wrap64 (192 + (wrap64 (Int.tdiv (wrap64 ((wrap64 ((wrap64 (rd l1 x7_1)) * 256)) + (wrap64 (rd l1 (ji11))))) 64)))) % 256) [.int .u8 ((wrap64 (192 + (wrap64 (Int.tdiv (wrap64 ((wrap64 ((wrap64 (rd l1 x7_1)) * 256)) + (wrap64 (rd l1 (ji11))))) 64)))) % 256)] from rfl) (Reps.one (show Kd.M (Kd.int .u8) _ _ _ ((wrap64 (128 + (Int.tmod (wrap64 ((wrap64 ((wrap64 (rd l1 x7_1)) * 256)) + (wrap64 (rd l1 (ji11))))) 64))) % 256) [.int .u8 ((wrap64 (128 + (Int.tmod (wrap64 ((wrap64 ((wrap64 (rd l1 x7_1)) * 256)) + (wrap64 (rd l1 (ji11))))) 64))) % 256)] from rfl) (Reps.none _ _)))); intro v143 w22 ho23 hb hg_ hnew_; clear hg_ hnew_; (first | rw [← Ny142.out] at ho23 | (simp only [Int.reduceToNat] at ho23; rw [← Ny142.out] at ho23)); have n0_ := Aside0.mk (Kd.R_elder' (by (with_reducible repeat (first | apply Kd.R_alloc | apply Kd.R_drewN | apply Kd.R_drew)); exact HO_6.out) (Kd.R_base ho23) hb); have n1_ := Aside0.mk (Kd.R_lower (Kd.R_new' ho23 (Kd.R_lt (by (with_reducible repeat (first | apply Kd.R_alloc | apply Kd.R_drewN | apply Kd.R_drew)); exact HO_6.out))) (below_size (by repeat (first | (with_reducible first | exact HB.out | apply below_alloc | apply pw_below_drewN | apply below_drew1) | exact HB.out)))); have n2_ := Aside0.mk (below_step (by repeat (first | (with_reducible first | exact HB.out | apply below_alloc | apply pw_below_drewN | apply below_drew1) | exact HB.out)) hb); clear HO_6; clear HB; have HO_6 := n0_; have HO144 := n1_; have HB := n2_; clear n0_ n1_ n2_; clear hb ho23; obtain ⟨Ao25, co25, eo25⟩ := Kd.R_slice HO144.out; subst eo25) | ((with_reducible refine gate_builtin (b := .append) (xs := #[.tmp 79, .tmp 88]) rfl ?_); at_builtin; refine Kd.R_append_rows (Kd.int .u8) (w0 := w) w.heap.size rfl (.tmp 79) (.tmp 88) 22 5 (.int .u8 0) 1 rfl Tryd.underlying22 info5 rfl (by decide) (by omega) u6 x6_1 y142 _ _ _ (fun k_ => some k_ ≠ (.slice Ao25 y142.length co25 : Value).ownBlock) (fun _ => False) rfl rfl ?aO ?aR (fun _ _ h => h) (fun _ h => h.elim) ?aF ?aB ?aS ?aL ?_; (case aR => repeat (first | exact (Kd.R_reads' HO144.out).2.2 | (with_reducible refine Kd.C_alloc ?_ _) | (with_reducible refine Kd.C_drewN ?_ _) | (with_reducible refine Kd.C_drew ?_))); (case aB => exact (by repeat (first | (with_reducible first | exact HB.out | apply below_alloc | apply pw_below_drewN | apply below_drew1) | exact HB.out))); (case aF => exact (fun k_ hk => Kd.fresh' (Kd.R_lt (by (with_reducible repeat (first | apply Kd.R_alloc | apply Kd.R_drewN | apply Kd.R_drew)); exact HO144.out)) k_ hk)); (case aO => exact (by (with_reducible repeat (first | apply Kd.R_alloc | apply Kd.R_drewN | apply Kd.R_drew)); exact Kd.R_mono HO_6.out (fun _ hk => hk.2))); (case aS => exact (below_size (by repeat (first | (with_reducible first | exact HB.out | apply below_alloc | apply pw_below_drewN | apply below_drew1) | exact HB.out)))); (case aL => have := LMc21.out; omega); intro v146 w24 ho hb hg hat; rw [← Ny145.out] at ho; have n0_ := Aside0.mk (Kd.R_after (ok := (fun _ => True)) (by (with_reducible repeat (first | apply Kd.R_alloc | apply Kd.R_drewN | apply Kd.R_drew)); exact HO144.out) hg hat); have n1_ := Aside0.mk (hb); have n2_ := Aside0.mk (ho); clear HO144; clear HB; clear HO_6; have HO144 := n0_; have HB := n1_; have HO147 := n2_; clear n0_ n1_ n2_; clear ho hb hg hat)); try go_wp2_with (first | ((with_reducible refine gate_dst (N := 88) rfl ?_); refine Kd.R_lit (Kd.int .u8) _ 5 ?hg (N := 88) ?hd (xs := ([(wrap64 (192 + (wrap64 (Int.tdiv (wrap64 ((wrap64 ((wrap64 (rd l1 x7_1)) * 256)) + (wrap64 (rd l1 (ji11))))) 64)))) % 256, (wrap64 (128 + (Int.tmod (wrap64 ((wrap64 ((wrap64 (rd l1 x7_1)) * 256)) + (wrap64 (rd l1 (ji11))))) 64))) % 256] : List Int)) (inner := [.int .u8 ((wrap64 (192 + (wrap64 (Int.tdiv (wrap64 ((wrap64 ((wrap64 (rd l1 x7_1)) * 256)) + (wrap64 (rd l1 (ji11))))) 64)))) % 256), .int .u8 ((wrap64 (128 + (Int.tmod (wrap64 ((wrap64 ((wrap64 (rd l1 x7_1)) * 256)) + (wrap64 (rd l1 (ji11))))) 64))) % 256)]) (ok := fun _ => True) (okp := fun _ => True) ?hr ?hp (fun _ hk => hk) trivial (Below.refl _ _) (Nat.le_refl _) (by simp) ?_; (case hd => rfl); (case hg => rfl); (case hr => first | (go_simp; done) | (go_simp; rfl)); (case hp => exact (Reps.one (show Kd.M (Kd.int .u8) _ _ _ ((wrap64 (192 + (wrap64 (Int.tdiv (wrap64 ((wrap64 ((wrap64 (rd l1 x7_1)) * 256)) + (wrap64 (rd l1 (ji11))))) 64)))) % 256) [.int .u8 ((wrap64 (192 + (wrap64 (Int.tdiv (wrap64 ((wrap64 ((wrap64 (rd l1 x7_1)) * 256)) + (wrap64 (rd l1 (ji11))))) 64)))) % 256)] from rfl) (Reps.one (show Kd.M (Kd.int .u8) _ _ _ ((wrap64 (128 + (Int.tmod (wrap64 ((wrap64 ((wrap64 (rd l1 x7_1)) * 256)) + (wrap64 (rd l1 (ji11))))) 64))) % 256) [.int .u8 ((wrap64 (128 + (Int.tmod (wrap64 ((wrap64 ((wrap64 (rd l1 x7_1)) * 256)) + (wrap64 (rd l1 (ji11))))) 64))) % 256)] from rfl) (Reps.none _ _)))); intro v143 w22 ho23 hb hg_ hnew_; clear hg_ hnew_; (first | rw [← Ny142.out] at ho23 | (simp only [Int.reduceToNat] at ho23; rw [← Ny142.out] at ho23)); have n0_ := Aside0.mk (Kd.R_elder' (by (with_reducible repeat (first | apply Kd.R_alloc | apply Kd.R_drewN | apply Kd.R_drew)); exact HO_6.out) (Kd.R_base ho23) hb); have n1_ := Aside0.mk (Kd.R_lower (Kd.R_new' ho23 (Kd.R_lt (by (with_reducible repeat (first | apply Kd.R_alloc | apply Kd.R_drewN | apply Kd.R_drew)); exact HO_6.out))) (below_size (by repeat (first | (with_reducible first | exact HB.out | apply below_alloc | apply pw_below_drewN | apply below_drew1) | exact HB.out)))); have n2_ := Aside0.mk (below_step (by repeat (first | (with_reducible first | exact HB.out | apply below_alloc | apply pw_below_drewN | apply below_drew1) | exact HB.out)) hb); clear HO_6; clear HB; have HO_6 := n0_; have HO144 := n1_; have HB := n2_; clear n0_ n1_ n2_; clear hb ho23; obtain ⟨Ao25, co25, eo25⟩ := Kd.R_slice HO144.out; subst eo25) | ((with_reducible refine gate_builtin (b := .append) (xs := #[.tmp 79, .tmp 88]) rfl ?_); at_builtin; refine Kd.R_append_rows (Kd.int .u8) (w0 := w) w.heap.size rfl (.tmp 79) (.tmp 88) 22 5 (.int .u8 0) 1 rfl Tryd.underlying22 info5 rfl (by decide) (by omega) u6 x6_1 y142 _ _ _ (fun k_ => some k_ ≠ (.slice Ao25 y142.length co25 : Value).ownBlock) (fun _ => False) rfl rfl ?aO ?aR (fun _ _ h => h) (fun _ h => h.elim) ?aF ?aB ?aS ?aL ?_; (case aR => repeat (first | exact (Kd.R_reads' HO144.out).2.2 | (with_reducible refine Kd.C_alloc ?_ _) | (with_reducible refine Kd.C_drewN ?_ _) | (with_reducible refine Kd.C_drew ?_))); (case aB => exact (by repeat (first | (with_reducible first | exact HB.out | apply below_alloc | apply pw_below_drewN | apply below_drew1) | exact HB.out))); (case aF => exact (fun k_ hk => Kd.fresh' (Kd.R_lt (by (with_reducible repeat (first | apply Kd.R_alloc | apply Kd.R_drewN | apply Kd.R_drew)); exact HO144.out)) k_ hk)); (case aO => exact (by (with_reducible repeat (first | apply Kd.R_alloc | apply Kd.R_drewN | apply Kd.R_drew)); exact Kd.R_mono HO_6.out (fun _ hk => hk.2))); (case aS => exact (below_size (by repeat (first | (with_reducible first | exact HB.out | apply below_alloc | apply pw_below_drewN | apply below_drew1) | exact HB.out)))); (case aL => have := LMc21.out; omega); intro v146 w24 ho hb hg hat; rw [← Ny145.out] at ho; have n0_ := Aside0.mk (Kd.R_after (ok := (fun _ => True)) (by (with_reducible repeat (first | apply Kd.R_alloc | apply Kd.R_drewN | apply Kd.R_drew)); exact HO144.out) hg hat); have n1_ := Aside0.mk (hb); have n2_ := Aside0.mk (ho); clear HO144; clear HB; clear HO_6; have HO144 := n0_; have HB := n1_; have HO147 := n2_; clear n0_ n1_ n2_; clear ho hb hg hat)))
                                go_roundg kj13
                                case measure => have := HK1.out; have := HJ13.out; omega
                                case rel => exact ⟨(y145), (wrap64 (x7_1 + 2)), (by first | rfl | (simp; done) | (simp [*]; done)), H', ⟨by have := HK1.out; have := HJ13.out; omega⟩, ⟨by (with_reducible repeat (first | apply Kd.R_alloc | apply Kd.R_drewN | apply Kd.R_drew)); exact Kd.R_mono HO147.out (fun _ hk => trivial)⟩, ⟨by repeat (first | (with_reducible first | exact HB.out | apply below_alloc | apply pw_below_drewN | apply below_drew1) | exact HB.out)⟩⟩
                              · rw [if_neg c21] at H
                                exact absurd H (by simp)
                            · rw [if_neg c20] at H
                              have c20b0 : decide ((wrap64 ((wrap64 ((wrap64 (rd l1 x7_1)) * 256)) + (wrap64 (rd l1 (ji11))))) < 2048) = false := decide_eq_false c20
                              clear c20
                              obtain ⟨y148, hy148⟩ : ∃ y_ : List Int, y_ = (([(wrap64 (224 + (wrap64 (Int.tdiv (wrap64 ((wrap64 ((wrap64 (rd l1 x7_1)) * 256)) + (wrap64 (rd l1 (ji11))))) 4096)))) % 256, (wrap64 (128 + (Int.tmod (wrap64 (Int.tdiv (wrap64 ((wrap64 ((wrap64 (rd l1 x7_1)) * 256)) + (wrap64 (rd l1 (ji11))))) 64)) 64))) % 256, (wrap64 (128 + (Int.tmod (wrap64 ((wrap64 ((wrap64 (rd l1 x7_1)) * 256)) + (wrap64 (rd l1 (ji11))))) 64))) % 256] : List Int)) := ⟨_, rfl⟩
                              replace H : (if x6_1.length + y148.length < 140737488355328 then (chirographref06_Text.l0 kj13 l1 (x6_1 ++ y148) (wrap64 (x7_1 + 2))) else (none)) = some (r1, r2) := by first | (rw [hy148]; with_reducible exact H) | (have H2_ := (Option.bind_some _ _).symm.trans H; rw [hy148]; with_reducible exact H2_) | (have H2_ := (Option.bind_some _ _).symm.trans H; with_reducible exact H2_) | with_reducible exact H | (rw [hy148]; exact H) | exact H
                              have Ny148 := Aside0.mk hy148
                              clear hy148
                              by_cases c26 : x6_1.length + y148.length < 140737488355328
                              · rw [if_pos c26] at H
                                have LMc26 := Aside0.mk c26
                                clear c26
                                obtain ⟨y151, hy151⟩ : ∃ y_ : List Int, y_ = (x6_1 ++ y148) := ⟨_, rfl⟩
                                replace H : (chirographref06_Text.l0 kj13 l1 y151 (wrap64 (x7_1 + 2))) = some (r1, r2) := by first | (rw [hy151]; with_reducible exact H) | (have H2_ := (Option.bind_some _ _).symm.trans H; rw [hy151]; with_reducible exact H2_) | (have H2_ := (Option.bind_some _ _).symm.trans H; with_reducible exact H2_) | with_reducible exact H | (rw [hy151]; exact H) | exact H
                                have Ny151 := Aside0.mk hy151
                                clear hy151
                                have H' := Aside0.mk H
                                clear H
                                go_wp2_with (first | ((with_reducible refine gate_dst (N := 59) rfl ?_); refine Kd.R_lit (Kd.int .u8) _ 5 ?hg (N := 59) ?hd (xs := ([(wrap64 (224 + (wrap64 (Int.tdiv (wrap64 ((wrap64 ((wrap64 (rd l1 x7_1)) * 256)) + (wrap64 (rd l1 (ji11))))) 4096)))) % 256, (wrap64 (128 + (Int.tmod (wrap64 (Int.tdiv (wrap64 ((wrap64 ((wrap64 (rd l1 x7_1)) * 256)) + (wrap64 (rd l1 (ji11))))) 64)) 64))) % 256, (wrap64 (128 + (Int.tmod (wrap64 ((wrap64 ((wrap64 (rd l1 x7_1)) * 256)) + (wrap64 (rd l1 (ji11))))) 64))) % 256] : List Int)) (inner := [.int .u8 ((wrap64 (224 + (wrap64 (Int.tdiv (wrap64 ((wrap64 ((wrap64 (rd l1 x7_1)) * 256)) + (wrap64 (rd l1 (ji11))))) 4096)))) % 256), .int .u8 ((wrap64 (128 + (Int.tmod (wrap64 (Int.tdiv (wrap64 ((wrap64 ((wrap64 (rd l1 x7_1)) * 256)) + (wrap64 (rd l1 (ji11))))) 64)) 64))) % 256), .int .u8 ((wrap64 (128 + (Int.tmod (wrap64 ((wrap64 ((wrap64 (rd l1 x7_1)) * 256)) + (wrap64 (rd l1 (ji11))))) 64))) % 256)]) (ok := fun _ => True) (okp := fun _ => True) ?hr ?hp (fun _ hk => hk) trivial (Below.refl _ _) (Nat.le_refl _) (by simp) ?_; (case hd => rfl); (case hg => rfl); (case hr => first | (go_simp; done) | (go_simp; rfl)); (case hp => exact (Reps.one (show Kd.M (Kd.int .u8) _ _ _ ((wrap64 (224 + (wrap64 (Int.tdiv (wrap64 ((wrap64 ((wrap64 (rd l1 x7_1)) * 256)) + (wrap64 (rd l1 (ji11))))) 4096)))) % 256) [.int .u8 ((wrap64 (224 + (wrap64 (Int.tdiv (wrap64 ((wrap64 ((wrap64 (rd l1 x7_1)) * 256)) + (wrap64 (rd l1 (ji11))))) 4096)))) % 256)] from rfl) (Reps.one (show Kd.M (Kd.int .u8) _ _ _ ((wrap64 (128 + (Int.tmod (wrap64 (Int.tdiv (wrap64 ((wrap64 ((wrap64 (rd l1 x7_1)) * 256)) + (wrap64 (rd l1 (ji11))))) 64)) 64))) % 256) [.int .u8 ((wrap64 (128 + (Int.tmod (wrap64 (Int.tdiv (wrap64 ((wrap64 ((wrap64 (rd l1 x7_1)) * 256)) + (wrap64 (rd l1 (ji11))))) 64)) 64))) % 256)] from rfl) (Reps.one (show Kd.M (Kd.int .u8) _ _ _ ((wrap64 (128 + (Int.tmod (wrap64 ((wrap64 ((wrap64 (rd l1 x7_1)) * 256)) + (wrap64 (rd l1 (ji11))))) 64))) % 256) [.int .u8 ((wrap64 (128 + (Int.tmod (wrap64 ((wrap64 ((wrap64 (rd l1 x7_1)) * 256)) + (wrap64 (rd l1 (ji11))))) 64))) % 256)] from rfl) (Reps.none _ _))))); intro v149 w27 ho28 hb hg_ hnew_; clear hg_ hnew_; (first | rw [← Ny148.out] at ho28 | (simp only [Int.reduceToNat] at ho28; rw [← Ny148.out] at ho28)); have n0_ := Aside0.mk (Kd.R_elder' (by (with_reducible repeat (first | apply Kd.R_alloc | apply Kd.R_drewN | apply Kd.R_drew)); exact HO_6.out) (Kd.R_base ho28) hb); have n1_ := Aside0.mk (Kd.R_lower (Kd.R_new' ho28 (Kd.R_lt (by (with_reducible repeat (first | apply Kd.R_alloc | apply Kd.R_drewN | apply Kd.R_drew)); exact HO_6.out))) (below_size (by repeat (first | (with_reducible first | exact HB.out | apply below_alloc | apply pw_below_drewN | apply below_drew1) | exact HB.out)))); have n2_ := Aside0.mk (below_step (by repeat (first | (with_reducible first | exact HB.out | apply below_alloc | apply pw_below_drewN | apply below_drew1) | exact HB.out)) hb); clear HO_6; clear HB; have HO_6 := n0_; have HO150 := n1_; have HB := n2_; clear n0_ n1_ n2_; clear hb ho28; obtain ⟨Ao30, co30, eo30⟩ := Kd.R_slice HO150.out; subst eo30) | ((with_reducible refine gate_builtin (b := .append) (xs := #[.tmp 45, .tmp 59]) rfl ?_); at_builtin; refine Kd.R_append_rows (Kd.int .u8) (w0 := w) w.heap.size rfl (.tmp 45) (.tmp 59) 22 5 (.int .u8 0) 1 rfl Tryd.underlying22 info5 rfl (by decide) (by omega) u6 x6_1 y148 _ _ _ (fun k_ => some k_ ≠ (.slice Ao30 y148.length co30 : Value).ownBlock) (fun _ => False) rfl rfl ?aO ?aR (fun _ _ h => h) (fun _ h => h.elim) ?aF ?aB ?aS ?aL ?_; (case aR => repeat (first | exact (Kd.R_reads' HO150.out).2.2 | (with_reducible refine Kd.C_alloc ?_ _) | (with_reducible refine Kd.C_drewN ?_ _) | (with_reducible refine Kd.C_drew ?_))); (case aB => exact (by repeat (first | (with_reducible first | exact HB.out | apply below_alloc | apply pw_below_drewN | apply below_drew1) | exact HB.out))); (case aF => exact (fun k_ hk => Kd.fresh' (Kd.R_lt (by (with_reducible repeat (first | apply Kd.R_alloc | apply Kd.R_drewN | apply Kd.R_drew)); exact HO150.out)) k_ hk)); (case aO => exact (by (with_reducible repeat (first | apply Kd.R_alloc | apply Kd.R_drewN | apply Kd.R_drew)); exact Kd.R_mono HO_6.out (fun _ hk => hk.2))); (case aS => exact (below_size (by repeat (first | (with_reducible first | exact HB.out | apply below_alloc | apply pw_below_drewN | apply below_drew1) | exact HB.out)))); (case aL => have := LMc26.out; omega); intro v152 w29 ho hb hg hat; rw [← Ny151.out] at ho; have n0_ := Aside0.mk (Kd.R_after (ok := (fun _ => True)) (by (with_reducible repeat (first | apply Kd.R_alloc | apply Kd.R_drewN | apply Kd.R_drew)); exact HO150.out) hg hat); have n1_ := Aside0.mk (hb); have n2_ := Aside0.mk (ho); clear HO150; clear HB; clear HO_6; have HO150 := n0_; have HB := n1_; have HO153 := n2_; clear n0_ n1_ n2_; clear ho hb hg hat))
                                repeat (go_quiet (first | ((with_reducible refine gate_dst (N := 59) rfl ?_); refine Kd.R_lit (Kd.int .u8) _ 5 ?hg (N := 59) ?hd (xs := ([(wrap64 (224 + (wrap64 (Int.tdiv (wrap64 ((wrap64 ((wrap64 (rd l1 x7_1)) * 256)) + (wrap64 (rd l1 (ji11))))) 4096)))) % 256, (wrap64 (128 + (Int.tmod (wrap64 (Int.tdiv (wrap64 ((wrap64 ((wrap64 (rd l1 x7_1)) * 256)) + (wrap64 (rd l1 (ji11))))) 64)) 64))) % 256, (wrap64 (128 + (Int.tmod (wrap64 ((wrap64 ((wrap64 (rd l1 x7_1)) * 256)) + (wrap64 (rd l1 (ji11))))) 64))) % 256] : List Int)) (inner := [.int .u8 ((wrap64 (224 + (wrap64 (Int.tdiv (wrap64 ((wrap64 ((wrap64 (rd l1 x7_1)) * 256)) + (wrap64 (rd l1 (ji11))))) 4096)))) % 256), .int .u8 ((wrap64 (128 + (Int.tmod (wrap64 (Int.tdiv (wrap64 ((wrap64 ((wrap64 (rd l1 x7_1)) * 256)) + (wrap64 (rd l1 (ji11))))) 64)) 64))) % 256), .int .u8 ((wrap64 (128 + (Int.tmod (wrap64 ((wrap64 ((wrap64 (rd l1 x7_1)) * 256)) + (wrap64 (rd l1 (ji11))))) 64))) % 256)]) (ok := fun _ => True) (okp := fun _ => True) ?hr ?hp (fun _ hk => hk) trivial (Below.refl _ _) (Nat.le_refl _) (by simp) ?_; (case hd => rfl); (case hg => rfl); (case hr => first | (go_simp; done) | (go_simp; rfl)); (case hp => exact (Reps.one (show Kd.M (Kd.int .u8) _ _ _ ((wrap64 (224 + (wrap64 (Int.tdiv (wrap64 ((wrap64 ((wrap64 (rd l1 x7_1)) * 256)) + (wrap64 (rd l1 (ji11))))) 4096)))) % 256) [.int .u8 ((wrap64 (224 + (wrap64 (Int.tdiv (wrap64 ((wrap64 ((wrap64 (rd l1 x7_1)) * 256)) + (wrap64 (rd l1 (ji11))))) 4096)))) % 256)] from rfl) (Reps.one (show Kd.M (Kd.int .u8) _ _ _ ((wrap64 (128 + (Int.tmod (wrap64 (Int.tdiv (wrap64 ((wrap64 ((wrap64 (rd l1 x7_1)) * 256)) + (wrap64 (rd l1 (ji11))))) 64)) 64))) % 256) [.int .u8 ((wrap64 (128 + (Int.tmod (wrap64 (Int.tdiv (wrap64 ((wrap64 ((wrap64 (rd l1 x7_1)) * 256)) + (wrap64 (rd l1 (ji11))))) 64)) 64))) % 256)] from rfl) (Reps.one (show Kd.M (Kd.int .u8) _ _ _ ((wrap64 (128 + (Int.tmod (wrap64 ((wrap64 ((wrap64 (rd l1 x7_1)) * 256)) + (wrap64 (rd l1 (ji11))))) 64))) % 256) [.int .u8 ((wrap64 (128 + (Int.tmod (wrap64 ((wrap64 ((wrap64 (rd l1 x7_1)) * 256)) + (wrap64 (rd l1 (ji11))))) 64))) % 256)] from rfl) (Reps.none _ _))))); intro v149 w27 ho28 hb hg_ hnew_; clear hg_ hnew_; (first | rw [← Ny148.out] at ho28 | (simp only [Int.reduceToNat] at ho28; rw [← Ny148.out] at ho28)); have n0_ := Aside0.mk (Kd.R_elder' (by (with_reducible repeat (first | apply Kd.R_alloc | apply Kd.R_drewN | apply Kd.R_drew)); exact HO_6.out) (Kd.R_base ho28) hb); have n1_ := Aside0.mk (Kd.R_lower (Kd.R_new' ho28 (Kd.R_lt (by (with_reducible repeat (first | apply Kd.R_alloc | apply Kd.R_drewN | apply Kd.R_drew)); exact HO_6.out))) (below_size (by repeat (first | (with_reducible first | exact HB.out | apply below_alloc | apply pw_below_drewN | apply below_drew1) | exact HB.out)))); have n2_ := Aside0.mk (below_step (by repeat (first | (with_reducible first | exact HB.out | apply below_alloc | apply pw_below_drewN | apply below_drew1) | exact HB.out)) hb); clear HO_6; clear HB; have HO_6 := n0_; have HO150 := n1_; have HB := n2_; clear n0_ n1_ n2_; clear hb ho28; obtain ⟨Ao30, co30, eo30⟩ := Kd.R_slice HO150.out; subst eo30) | ((with_reducible refine gate_builtin (b := .append) (xs := #[.tmp 45, .tmp 59]) rfl ?_); at_builtin; refine Kd.R_append_rows (Kd.int .u8) (w0 := w) w.heap.size rfl (.tmp 45) (.tmp 59) 22 5 (.int .u8 0) 1 rfl Tryd.underlying22 info5 rfl (by decide) (by omega) u6 x6_1 y148 _ _ _ (fun k_ => some k_ ≠ (.slice Ao30 y148.length co30 : Value).ownBlock) (fun _ => False) rfl rfl ?aO ?aR (fun _ _ h => h) (fun _ h => h.elim) ?aF ?aB ?aS ?aL ?_; (case aR => repeat (first | exact (Kd.R_reads' HO150.out).2.2 | (with_reducible refine Kd.C_alloc ?_ _) | (with_reducible refine Kd.C_drewN ?_ _) | (with_reducible refine Kd.C_drew ?_))); (case aB => exact (by repeat (first | (with_reducible first | exact HB.out | apply below_alloc | apply pw_below_drewN | apply below_drew1) | exact HB.out))); (case aF => exact (fun k_ hk => Kd.fresh' (Kd.R_lt (by (with_reducible repeat (first | apply Kd.R_alloc | apply Kd.R_drewN | apply Kd.R_drew)); exact HO150.out)) k_ hk)); (case aO => exact (by (with_reducible repeat (first | apply Kd.R_alloc | apply Kd.R_drewN | apply Kd.R_drew)); exact Kd.R_mono HO_6.out (fun _ hk => hk.2))); (case aS => exact (below_size (by repeat (first | (with_reducible first | exact HB.out | apply below_alloc | apply pw_below_drewN | apply below_drew1) | exact HB.out)))); (case aL => have := LMc26.out; omega); intro v152 w29 ho hb hg hat; rw [← Ny151.out] at ho; have n0_ := Aside0.mk (Kd.R_after (ok := (fun _ => True)) (by (with_reducible repeat (first | apply Kd.R_alloc | apply Kd.R_drewN | apply Kd.R_drew)); exact HO150.out) hg hat); have n1_ := Aside0.mk (hb); have n2_ := Aside0.mk (ho); clear HO150; clear HB; clear HO_6; have HO150 := n0_; have HB := n1_; have HO153 := n2_; clear n0_ n1_ n2_; clear ho hb hg hat)); try go_wp2_with (first | ((with_reducible refine gate_dst (N := 59) rfl ?_); refine Kd.R_lit (Kd.int .u8) _ 5 ?hg (N := 59) ?hd (xs := ([(wrap64 (224 + (wrap64 (Int.tdiv (wrap64 ((wrap64 ((wrap64 (rd l1 x7_1)) * 256)) + (wrap64 (rd l1 (ji11))))) 4096)))) % 256, (wrap64 (128 + (Int.tmod (wrap64 (Int.tdiv (wrap64 ((wrap64 ((wrap64 (rd l1 x7_1)) * 256)) + (wrap64 (rd l1 (ji11))))) 64)) 64))) % 256, (wrap64 (128 + (Int.tmod (wrap64 ((wrap64 ((wrap64 (rd l1 x7_1)) * 256)) + (wrap64 (rd l1 (ji11))))) 64))) % 256] : List Int)) (inner := [.int .u8 ((wrap64 (224 + (wrap64 (Int.tdiv (wrap64 ((wrap64 ((wrap64 (rd l1 x7_1)) * 256)) + (wrap64 (rd l1 (ji11))))) 4096)))) % 256), .int .u8 ((wrap64 (128 + (Int.tmod (wrap64 (Int.tdiv (wrap64 ((wrap64 ((wrap64 (rd l1 x7_1)) * 256)) + (wrap64 (rd l1 (ji11))))) 64)) 64))) % 256), .int .u8 ((wrap64 (128 + (Int.tmod (wrap64 ((wrap64 ((wrap64 (rd l1 x7_1)) * 256)) + (wrap64 (rd l1 (ji11))))) 64))) % 256)]) (ok := fun _ => True) (okp := fun _ => True) ?hr ?hp (fun _ hk => hk) trivial (Below.refl _ _) (Nat.le_refl _) (by simp) ?_; (case hd => rfl); (case hg => rfl); (case hr => first | (go_simp; done) | (go_simp; rfl)); (case hp => exact (Reps.one (show Kd.M (Kd.int .u8) _ _ _ ((wrap64 (224 + (wrap64 (Int.tdiv (wrap64 ((wrap64 ((wrap64 (rd l1 x7_1)) * 256)) + (wrap64 (rd l1 (ji11))))) 4096)))) % 256) [.int .u8 ((wrap64 (224 + (wrap64 (Int.tdiv (wrap64 ((wrap64 ((wrap64 (rd l1 x7_1)) * 256)) + (wrap64 (rd l1 (ji11))))) 4096)))) % 256)] from rfl) (Reps.one (show Kd.M (Kd.int .u8) _ _ _ ((wrap64 (128 + (Int.tmod (wrap64 (Int.tdiv (wrap64 ((wrap64 ((wrap64 (rd l1 x7_1)) * 256)) + (wrap64 (rd l1 (ji11))))) 64)) 64))) % 256) [.int .u8 ((wrap64 (128 + (Int.tmod (wrap64 (Int.tdiv (wrap64 ((wrap64 ((wrap64 (rd l1 x7_1)) * 256)) + (wrap64 (rd l1 (ji11))))) 64)) 64))) % 256)] from rfl) (Reps.one (show Kd.M (Kd.int .u8) _ _ _ ((wrap64 (128 + (Int.tmod (wrap64 ((wrap64 ((wrap64 (rd l1 x7_1)) * 256)) + (wrap64 (rd l1 (ji11))))) 64))) % 256) [.int .u8 ((wrap64 (128 + (Int.tmod (wrap64 ((wrap64 ((wrap64 (rd l1 x7_1)) * 256)) + (wrap64 (rd l1 (ji11))))) 64))) % 256)] from rfl) (Reps.none _ _))))); intro v149 w27 ho28 hb hg_ hnew_; clear hg_ hnew_; (first | rw [← Ny148.out] at ho28 | (simp only [Int.reduceToNat] at ho28; rw [← Ny148.out] at ho28)); have n0_ := Aside0.mk (Kd.R_elder' (by (with_reducible repeat (first | apply Kd.R_alloc | apply Kd.R_drewN | apply Kd.R_drew)); exact HO_6.out) (Kd.R_base ho28) hb); have n1_ := Aside0.mk (Kd.R_lower (Kd.R_new' ho28 (Kd.R_lt (by (with_reducible repeat (first | apply Kd.R_alloc | apply Kd.R_drewN | apply Kd.R_drew)); exact HO_6.out))) (below_size (by repeat (first | (with_reducible first | exact HB.out | apply below_alloc | apply pw_below_drewN | apply below_drew1) | exact HB.out)))); have n2_ := Aside0.mk (below_step (by repeat (first | (with_reducible first | exact HB.out | apply below_alloc | apply pw_below_drewN | apply below_drew1) | exact HB.out)) hb); clear HO_6; clear HB; have HO_6 := n0_; have HO150 := n1_; have HB := n2_; clear n0_ n1_ n2_; clear hb ho28; obtain ⟨Ao30, co30, eo30⟩ := Kd.R_slice HO150.out; subst eo30) | ((with_reducible refine gate_builtin (b := .append) (xs := #[.tmp 45, .tmp 59]) rfl ?_); at_builtin; refine Kd.R_append_rows (Kd.int .u8) (w0 := w) w.heap.size rfl (.tmp 45) (.tmp 59) 22 5 (.int .u8 0) 1 rfl Tryd.underlying22 info5 rfl (by decide) (by omega) u6 x6_1 y148 _ _ _ (fun k_ => some k_ ≠ (.slice Ao30 y148.length co30 : Value).ownBlock) (fun _ => False) rfl rfl ?aO ?aR (fun _ _ h => h) (fun _ h => h.elim) ?aF ?aB ?aS ?aL ?_; (case aR => repeat (first | exact (Kd.R_reads' HO150.out).2.2 | (with_reducible refine Kd.C_alloc ?_ _) | (with_reducible refine Kd.C_drewN ?_ _) | (with_reducible refine Kd.C_drew ?_))); (case aB => exact (by repeat (first | (with_reducible first | exact HB.out | apply below_alloc | apply pw_below_drewN | apply below_drew1) | exact HB.out))); (case aF => exact (fun k_ hk => Kd.fresh' (Kd.R_lt (by (with_reducible repeat (first | apply Kd.R_alloc | apply Kd.R_drewN | apply Kd.R_drew)); exact HO150.out)) k_ hk)); (case aO => exact (by (with_reducible repeat (first | apply Kd.R_alloc | apply Kd.R_drewN | apply Kd.R_drew)); exact Kd.R_mono HO_6.out (fun _ hk => hk.2))); (case aS => exact (below_size (by repeat (first | (with_reducible first | exact HB.out | apply below_alloc | apply pw_below_drewN | apply below_drew1) | exact HB.out)))); (case aL => have := LMc26.out; omega); intro v152 w29 ho hb hg hat; rw [← Ny151.out] at ho; have n0_ := Aside0.mk (Kd.R_after (ok := (fun _ => True)) (by (with_reducible repeat (first | apply Kd.R_alloc | apply Kd.R_drewN | apply Kd.R_drew)); exact HO150.out) hg hat); have n1_ := Aside0.mk (hb); have n2_ := Aside0.mk (ho); clear HO150; clear HB; clear HO_6; have HO150 := n0_; have HB := n1_; have HO153 := n2_; clear n0_ n1_ n2_; clear ho hb hg hat)))
                                go_roundg kj13
                                case measure => have := HK1.out; have := HJ13.out; omega
                                case rel => exact ⟨(y151), (wrap64 (x7_1 + 2)), (by first | rfl | (simp; done) | (simp [*]; done)), H', ⟨by have := HK1.out; have := HJ13.out; omega⟩, ⟨by (with_reducible repeat (first | apply Kd.R_alloc | apply Kd.R_drewN | apply Kd.R_drew)); exact Kd.R_mono HO153.out (fun _ hk => trivial)⟩, ⟨by repeat (first | (with_reducible first | exact HB.out | apply below_alloc | apply pw_below_drewN | apply below_drew1) | exact HB.out)⟩⟩
                              · rw [if_neg c26] at H
                                exact absurd H (by simp)
                  · rw [if_neg c13] at H
                    exact absurd H (by simp)
                · rw [if_neg c12] at H
                  exact absurd H (by simp)
              · rw [if_neg c10] at H
                exact absurd H (by simp)
            · rw [if_neg c9] at H
              have c9b0 : decide (x7_1 < (l1.length : Int)) = false := decide_eq_false c9
              clear c9
              simp only [Option.some.injEq, Prod.mk.injEq] at H
              obtain ⟨rfl, rfl⟩ := H
              have hcv31 := own_string (P := Tryd.prog) Tryd.underlying22 Tryd.underlying5 Tryd.underlying9 (Kd.own_of_R HO_6.out)
              go_wp2
              repeat (go_quiet (fail); try go_wp2)
              go_ret2
              exact ⟨by first | rfl | (simp [errW_none, errW_some] <;> rfl) | (simp [*, errW_none, errW_some] <;> rfl), by repeat (first | (with_reducible first | exact HB.out | apply below_alloc | apply pw_below_drewN | apply below_drew1) | exact HB.out)⟩
    · rw [if_neg c7] at H
      have c7b0 : (a0 == 30) = false := beq_eq_false_iff_ne.mpr c7
      have c7b1 : (a0 != 30) = true := bne_iff_ne.mpr c7
      have HC32 := Aside0.mk H
      clear H
      go_enter Tryd.func12, Tryd.ntmps12
      go_upto_if 92 with (fail)
      repeat (go_quiet (fail); go_upto_if 92 with (fail))
      go_cut [92] (fun v92 wc => ∃ (kq : Nat) (x92_31 : Bool), v92 = .bool x92_31 ∧ Aside0 (chirographref06_Text.j2 kq a0 l1 x92_31 = some (r1, r2)) ∧ Aside0 (kq ≤ k) ∧ Aside0 (Below w.heap.size w wc))
      case first =>
        have H := HC32.out
        clear HC32
        by_cases c33 : a0 = 18
        · rw [if_pos c33] at H
          have c33b0 : (a0 == 18) = true := beq_iff_eq.mpr c33
          have c33b1 : (a0 != 18) = false := bne_eq_false_iff_eq.mpr c33
          clear c33
          (first | rw [c33b0] | (simp only [i64_w, i32_w]; rw [c33b0]) | skip)
          have H' := Aside0.mk H
          clear H
          go_wp2
          repeat (go_quiet (fail); try go_wp2)
          go_meet
          case rel => exact ⟨_, ((a0 == 18)), (by first | rfl | (simp; done) | (simp [*]; done)), H', ⟨by first | omega | exact Nat.le_refl _⟩, ⟨by repeat (first | (with_reducible first | exact HB.out | apply below_alloc | apply pw_below_drewN | apply below_drew1) | exact HB.out)⟩⟩
        · rw [if_neg c33] at H
          have c33b0 : (a0 == 18) = false := beq_eq_false_iff_ne.mpr c33
          have c33b1 : (a0 != 18) = true := bne_iff_ne.mpr c33
          (first | rw [c33b0] | (simp only [i64_w, i32_w]; rw [c33b0]) | skip)
          by_cases c34 : a0 = 19
          · rw [if_pos c34] at H
            have c34b0 : (a0 == 19) = true := beq_iff_eq.mpr c34
            have c34b1 : (a0 != 19) = false := bne_eq_false_iff_eq.mpr c34
            clear c34
            have H' := Aside0.mk H
            clear H
            go_wp2
            repeat (go_quiet (fail); try go_wp2)
            go_meet
            case rel => exact ⟨_, ((a0 == 19)), (by first | rfl | (simp; done) | (simp [*]; done)), H', ⟨by first | omega | exact Nat.le_refl _⟩, ⟨by repeat (first | (with_reducible first | exact HB.out | apply below_alloc | apply pw_below_drewN | apply below_drew1) | exact HB.out)⟩⟩
          · rw [if_neg c34] at H
            have c34b0 : (a0 == 19) = false := beq_eq_false_iff_ne.mpr c34
            have c34b1 : (a0 != 19) = true := bne_iff_ne.mpr c34
            by_cases c35 : a0 = 22
            · rw [if_pos c35] at H
              have c35b0 : (a0 == 22) = true := beq_iff_eq.mpr c35
              have c35b1 : (a0 != 22) = false := bne_eq_false_iff_eq.mpr c35
              clear c35
              have H' := Aside0.mk H
              clear H
              go_wp2
              repeat (go_quiet (fail); try go_wp2)
              go_meet
              case rel => exact ⟨_, ((a0 == 22)), (by first | rfl | (simp; done) | (simp [*]; done)), H', ⟨by first | omega | exact Nat.le_refl _⟩, ⟨by repeat (first | (with_reducible first | exact HB.out | apply below_alloc | apply pw_below_drewN | apply below_drew1) | exact HB.out)⟩⟩
            · rw [if_neg c35] at H
              have c35b0 : (a0 == 22) = false := beq_eq_false_iff_ne.mpr c35
              have c35b1 : (a0 != 22) = true := bne_iff_ne.mpr c35
              have H' := Aside0.mk H
              clear H
              go_wp2
              repeat (go_quiet (fail); try go_wp2)
              go_meet
              case rel => exact ⟨_, ((a0 == 26)), (by first | rfl | (simp; done) | (simp [*]; done)), H', ⟨by first | omega | exact Nat.le_refl _⟩, ⟨by repeat (first | (with_reducible first | exact HB.out | apply below_alloc | apply pw_below_drewN | apply below_drew1) | exact HB.out)⟩⟩
      case rest =>
        clear HC32
        try clear c1
        try clear p1
        try clear q1
        try clear hx1
        try clear c2
        try clear p2
        try clear c3
        try clear c3b0
        try clear c3b1
        try clear hcv3
        try clear c5
        try clear p6
        try clear hcv6
        try clear c7
        try clear c7b0
        try clear c7b1
        try clear c8
        try clear c8b0
        try clear c8b1
        try clear c9
        try clear c9b0
        try clear c10
        try clear c10b0
        try clear c12
        try clear c12b0
        try clear c13
        try clear c13b0
        try clear p13
        try clear q13
        try clear hx13
        try clear c15
        try clear c15b0
        try clear c16
        try clear c17
        try clear c17b0
        try clear c18
        try clear c20
        try clear c20b0
        try clear c21
        try clear c26
        try clear hcv31
        try clear c33
        try clear c33b0
        try clear c33b1
        try clear c34
        try clear c34b0
        try clear c34b1
        try clear c35
        try clear c35b0
        try clear c35b1
        try clear hx137_0
        try clear hx138_0
        try clear p1
        try clear p13
        try clear p137
        try clear p138
        try clear p2
        try clear p6
        try clear q1
        try clear q13
        try clear q137
        try clear q138
        obtain ⟨kq, x92_31, rfl, HA, HJ31, HB⟩ := hcut
        cases kq with
        | zero => exact absurd HA.out (by simp [chirographref06_Text.j2])
        | succ kj31 =>
          have H := HA.out
          clear HA
          simp only [chirographref06_Text.j2] at H
          by_cases c36 : x92_31 = true
          · subst c36
            have H1 : (chirographref06_Text.l1 kj31 a0 l1 0) = some (r1, r2) := by rw [if_pos rfl] at H; exact H
            clear H
            have H := H1
            clear H1
            have H' := Aside0.mk H
            clear H
            go_wp2
            repeat (go_quiet (fail); try go_wp2)
            go_loopg [9] kj31 (fun kq v9 w' => ∃ (x9_2 : Int), v9 = .int .i64 x9_2 ∧ Aside0 (chirographref06_Text.l1 kq a0 l1 x9_2 = some (r1, r2)) ∧ Aside0 (kq ≤ kj31) ∧ Aside0 (Below w.heap.size w w'))
            case atStart => exact ⟨(0), (by first | rfl | (simp; done) | (simp [*]; done)), H', ⟨Nat.le_refl _⟩, ⟨by repeat (first | (with_reducible first | exact HB.out | apply below_alloc | apply pw_below_drewN | apply below_drew1) | exact HB.out)⟩⟩
            case round =>
              clear H'
              try clear c1
              try clear p1
              try clear q1
              try clear hx1
              try clear c2
              try clear p2
              try clear c3
              try clear c3b0
              try clear c3b1
              try clear hcv3
              try clear c5
              try clear p6
              try clear hcv6
              try clear c7
              try clear c7b0
              try clear c7b1
              try clear c8
              try clear c8b0
              try clear c8b1
              try clear c9
              try clear c9b0
              try clear c10
              try clear c10b0
              try clear c12
              try clear c12b0
              try clear c13
              try clear c13b0
              try clear p13
              try clear q13
              try clear hx13
              try clear c15
              try clear c15b0
              try clear c16
              try clear c17
              try clear c17b0
              try clear c18
              try clear c20
              try clear c20b0
              try clear c21
              try clear c26
              try clear hcv31
              try clear c33
              try clear c33b0
              try clear c33b1
              try clear c34
              try clear c34b0
              try clear c34b1
              try clear c35
              try clear c35b0
              try clear c35b1
              try clear c36
              try clear hx137_0
              try clear hx138_0
              try clear p1
              try clear p13
              try clear p137
              try clear p138
              try clear p2
              try clear p6
              try clear q1
              try clear q13
              try clear q137
              try clear q138
              obtain ⟨x9_2, rfl, HA, HK2, HB⟩ := hrel
              cases gk with
              | zero => exact absurd HA.out (by simp [chirographref06_Text.l1])
              | succ k2 =>
                have H := HA.out
                clear HA
                simp only [chirographref06_Text.l1] at H
                by_cases c37 : x9_2 < (l1.length : Int)
                · rw [if_pos c37] at H
                  have c37b0 : decide (x9_2 < (l1.length : Int)) = true := decide_eq_true c37
                  clear c37
                  by_cases c38 : 0 ≤ x9_2
                  · rw [if_pos c38] at H
                    have c38b0 : decide (0 ≤ x9_2) = true := decide_eq_true c38
                    clear c38
                    have HC39 := Aside0.mk H
                    clear H
                    have p154 : 0 ≤ (x9_2 : Int) := of_decide_eq_true (by first | (with_reducible assumption) | assumption)
                    have q154 : x9_2 < (l1.length : Int) := of_decide_eq_true (by first | (with_reducible assumption) | assumption)
                    obtain ⟨ad154, e154, hx154_0⟩ := Kd.at_int HR1.out x9_2 p154 q154
                    cases e154
                    replace hx154_0 := (HB.out.cell (World.block_lt_of_cell? w _ hx154_0)).trans hx154_0
                    replace p154 := eq_true p154
                    replace q154 := eq_true q154
                    go_upto_region 30 with (fail)
                    repeat (go_quiet (fail); go_upto_region 30 with (fail))
                    go_cut [11] (fun v11 wc => ∃ (kq : Nat) (x11_38 : Bool), v11 = .bool x11_38 ∧ Aside0 (chirographref06_Text.j4 kq a0 l1 x9_2 (rd l1 x9_2) x11_38 = some (r1, r2)) ∧ Aside0 (kq ≤ k2) ∧ Aside0 (Below w.heap.size w wc))
                    case first =>
                      have H := HC39.out
                      clear HC39
                      by_cases c40 : (rd l1 x9_2) ≥ 48
                      · rw [if_pos c40] at H
                        have c40b0 : decide (48 ≤ (rd l1 x9_2)) = true := decide_eq_true c40
                        clear c40
                        (first | rw [c40b0] | (simp only [i64_w, i32_w]; rw [c40b0]) | skip)
                        by_cases c41 : (rd l1 x9_2) ≤ 57
                        · rw [if_pos c41] at H
                          have c41b0 : decide ((rd l1 x9_2) ≤ 57) = true := decide_eq_true c41
                          clear c41
                          have H' := Aside0.mk H
                          clear H
                          go_wp2
                          repeat (go_quiet (fail); try go_wp2)
                          go_meet
                          case rel => exact ⟨_, (true), (by first | rfl | (simp; done) | (simp [*]; done)), H', ⟨by have := HJ31.out; have := HK2.out; first | omega | exact Nat.le_refl _⟩, ⟨by repeat (first | (with_reducible first | exact HB.out | apply below_alloc | apply pw_below_drewN | apply below_drew1) | exact HB.out)⟩⟩
                        · rw [if_neg c41] at H
                          have c41b0 : decide ((rd l1 x9_2) ≤ 57) = false := decide_eq_false c41
                          clear c41
                          have H' := Aside0.mk H
                          clear H
                          go_wp2
                          repeat (go_quiet (fail); try go_wp2)
                          go_meet
                          case rel => exact ⟨_, (((rd l1 x9_2) == 32)), (by first | rfl | (simp; done) | (simp [*]; done)), H', ⟨by have := HJ31.out; have := HK2.out; first | omega | exact Nat.le_refl _⟩, ⟨by repeat (first | (with_reducible first | exact HB.out | apply below_alloc | apply pw_below_drewN | apply below_drew1) | exact HB.out)⟩⟩
                      · rw [if_neg c40] at H
                        have c40b0 : decide (48 ≤ (rd l1 x9_2)) = false := decide_eq_false c40
                        clear c40
                        (first | rw [c40b0] | (simp only [i64_w, i32_w]; rw [c40b0]) | skip)
                        have H' := Aside0.mk H
                        clear H
                        go_wp2
                        repeat (go_quiet (fail); try go_wp2)
                        go_meet
                        case rel => exact ⟨_, (((rd l1 x9_2) == 32)), (by first | rfl | (simp; done) | (simp [*]; done)), H', ⟨by have := HJ31.out; have := HK2.out; first | omega | exact Nat.le_refl _⟩, ⟨by repeat (first | (with_reducible first | exact HB.out | apply below_alloc | apply pw_below_drewN | apply below_drew1) | exact HB.out)⟩⟩
                    case rest =>
                      clear HC39
                      try clear c1
                      try clear p1
                      try clear q1
                      try clear hx1
                      try clear c2
                      try clear p2
                      try clear c3
                      try clear c3b0
                      try clear c3b1
                      try clear hcv3
                      try clear c4
                      try clear c5
                      try clear p6
                      try clear hcv6
                      try clear c7
                      try clear c7b0
                      try clear c7b1
                      try clear c8
                      try clear c8b0
                      try clear c8b1
                      try clear c9
                      try clear c9b0
                      try clear c10
                      try clear c10b0
                      try clear c12
                      try clear c12b0
                      try clear c13
                      try clear c13b0
                      try clear p13
                      try clear q13
                      try clear hx13
                      try clear c15
                      try clear c15b0
                      try clear p15
                      try clear q15
                      try clear hx15
                      try clear c16
                      try clear c17
                      try clear c17b0
                      try clear c18
                      try clear c20
                      try clear c20b0
                      try clear c21
                      try clear c26
                      try clear hcv31
                      try clear c33
                      try clear c33b0
                      try clear c33b1
                      try clear c34
                      try clear c34b0
                      try clear c34b1
                      try clear c35
                      try clear c35b0
                      try clear c35b1
                      try clear c36
                      try clear c37
                      try clear c37b0
                      try clear c38
                      try clear c38b0
                      try clear c40
                      try clear c40b0
                      try clear c41
                      try clear c41b0
                      try clear hx137_0
                      try clear hx138_0
                      try clear hx154_0
                      try clear p1
                      try clear p13
                      try clear p137
                      try clear p138
                      try clear p154
                      try clear p2
                      try clear p6
                      try clear q1
                      try clear q13
                      try clear q137
                      try clear q138
                      try clear q154
                      obtain ⟨kq, x11_38, rfl, HA, HJ38, HB⟩ := hcut
                      cases kq with
                      | zero => exact absurd HA.out (by simp [chirographref06_Text.j4])
                      | succ kj38 =>
                        have H := HA.out
                        clear HA
                        simp only [chirographref06_Text.j4] at H
                        have HC42 := Aside0.mk H
                        clear H
                        go_upto_if 118 with (fail)
                        repeat (go_quiet (fail); go_upto_if 118 with (fail))
                        go_cut [11] (fun v11 wc => ∃ (kq : Nat) (x11_41 : Bool), v11 = .bool x11_41 ∧ Aside0 (chirographref06_Text.j5 kq a0 l1 x9_2 (rd l1 x9_2) x11_41 = some (r1, r2)) ∧ Aside0 (kq ≤ kj38) ∧ Aside0 (Below w.heap.size w wc))
                        case first =>
                          have H := HC42.out
                          clear HC42
                          by_cases c43 : a0 = 19
                          · rw [if_pos c43] at H
                            have c43b0 : (a0 == 19) = true := beq_iff_eq.mpr c43
                            have c43b1 : (a0 != 19) = false := bne_eq_false_iff_eq.mpr c43
                            clear c43
                            (first | rw [c43b0] | (simp only [i64_w, i32_w]; rw [c43b0]) | skip)
                            replace H := Option.bind_eq_some_iff.mp H
                            obtain ⟨t155, A440, H⟩ := H
                            replace H : (chirographref06_Text.j5 kj38 a0 l1 x9_2 (rd l1 x9_2) t155) = some (r1, r2) := H
                            have A44 := Aside0.mk A440
                            clear A440
                            have H' := Aside0.mk H
                            clear H
                            go_wp2_with (first | (go_at_call 23; (with_reducible refine (chirographref06_printable.calls kj38 (rd l1 x9_2) t155 _ A44.out).mono ?_); rintro e w' ⟨rfl, ⟨nd, rfl⟩⟩; (try first | exact ⟨rfl, _, World.drewN_drewN _ _ _⟩ | exact ⟨rfl, _, Eq.trans (World.drewN_drewN _ _ _) (congrArg (World.drewN _) (Nat.add_assoc _ _ _))⟩)))
                            repeat (go_quiet (first | (go_at_call 23; (with_reducible refine (chirographref06_printable.calls kj38 (rd l1 x9_2) t155 _ A44.out).mono ?_); rintro e w' ⟨rfl, ⟨nd, rfl⟩⟩; (try first | exact ⟨rfl, _, World.drewN_drewN _ _ _⟩ | exact ⟨rfl, _, Eq.trans (World.drewN_drewN _ _ _) (congrArg (World.drewN _) (Nat.add_assoc _ _ _))⟩))); try go_wp2_with (first | (go_at_call 23; (with_reducible refine (chirographref06_printable.calls kj38 (rd l1 x9_2) t155 _ A44.out).mono ?_); rintro e w' ⟨rfl, ⟨nd, rfl⟩⟩; (try first | exact ⟨rfl, _, World.drewN_drewN _ _ _⟩ | exact ⟨rfl, _, Eq.trans (World.drewN_drewN _ _ _) (congrArg (World.drewN _) (Nat.add_assoc _ _ _))⟩))))
                            go_meet
                            case rel => exact ⟨_, (t155), (by first | rfl | (simp; done) | (simp [*]; done)), H', ⟨by have := HJ31.out; have := HK2.out; have := HJ38.out; first | omega | exact Nat.le_refl _⟩, ⟨by repeat (first | (with_reducible first | exact HB.out | apply below_alloc | apply pw_below_drewN | apply below_drew1) | exact HB.out)⟩⟩
                          · rw [if_neg c43] at H
                            have c43b0 : (a0 == 19) = false := beq_eq_false_iff_ne.mpr c43
                            have c43b1 : (a0 != 19) = true := bne_iff_ne.mpr c43
                            (first | rw [c43b0] | (simp only [i64_w, i32_w]; rw [c43b0]) | skip)
                            have H' := Aside0.mk H
                            clear H
                            go_wp2
                            repeat (go_quiet (fail); try go_wp2)
                            go_meet
                            case rel => exact ⟨_, (x11_38), (by first | rfl | (simp; done) | (simp [*]; done)), H', ⟨by have := HJ31.out; have := HK2.out; have := HJ38.out; first | omega | exact Nat.le_refl _⟩, ⟨by repeat (first | (with_reducible first | exact HB.out | apply below_alloc | apply pw_below_drewN | apply below_drew1) | exact HB.out)⟩⟩
                        case rest =>
                          clear HC42
                          try clear c1
                          try clear p1
                          try clear q1
                          try clear hx1
                          try clear c2
                          try clear p2
                          try clear c3
                          try clear c3b0
                          try clear c3b1
                          try clear hcv3
                          try clear c4
                          try clear c5
                          try clear p6
                          try clear hcv6
                          try clear c7
                          try clear c7b0
                          try clear c7b1
                          try clear c8
                          try clear c8b0
                          try clear c8b1
                          try clear c9
                          try clear c9b0
                          try clear c10
                          try clear c10b0
                          try clear c12
                          try clear c12b0
                          try clear c13
                          try clear c13b0
                          try clear p13
                          try clear q13
                          try clear hx13
                          try clear c15
                          try clear c15b0
                          try clear p15
                          try clear q15
                          try clear hx15
                          try clear c16
                          try clear c17
                          try clear c17b0
                          try clear c18
                          try clear c20
                          try clear c20b0
                          try clear c21
                          try clear c26
                          try clear hcv31
                          try clear c33
                          try clear c33b0
                          try clear c33b1
                          try clear c34
                          try clear c34b0
                          try clear c34b1
                          try clear c35
                          try clear c35b0
                          try clear c35b1
                          try clear c36
                          try clear c37
                          try clear c37b0
                          try clear c38
                          try clear c38b0
                          try clear c40
                          try clear c40b0
                          try clear c41
                          try clear c41b0
                          try clear c43
                          try clear c43b0
                          try clear c43b1
                          try clear hx137_0
                          try clear hx138_0
                          try clear hx154_0
                          try clear p1
                          try clear p13
                          try clear p137
                          try clear p138
                          try clear p15
                          try clear p154
                          try clear p2
                          try clear p6
                          try clear q1
                          try clear q13
                          try clear q137
                          try clear q138
                          try clear q15
                          try clear q154
                          obtain ⟨kq, x11_41, rfl, HA, HJ41, HB⟩ := hcut
                          cases kq with
                          | zero => exact absurd HA.out (by simp [chirographref06_Text.j5])
                          | succ kj41 =>
                            have H := HA.out
                            clear HA
                            simp only [chirographref06_Text.j5] at H
                            have HC45 := Aside0.mk H
                            clear H
                            go_upto_if 122 with (fail)
                            repeat (go_quiet (fail); go_upto_if 122 with (fail))
                            go_cut [11] (fun v11 wc => ∃ (kq : Nat) (x11_44 : Bool), v11 = .bool x11_44 ∧ Aside0 (chirographref06_Text.j6 kq a0 l1 x9_2 (rd l1 x9_2) x11_44 = some (r1, r2)) ∧ Aside0 (kq ≤ kj41) ∧ Aside0 (Below w.heap.size w wc))
                            case first =>
                              have H := HC45.out
                              clear HC45
                              by_cases c46 : a0 = 22
                              · rw [if_pos c46] at H
                                have c46b0 : (a0 == 22) = true := beq_iff_eq.mpr c46
                                have c46b1 : (a0 != 22) = false := bne_eq_false_iff_eq.mpr c46
                                clear c46
                                (first | rw [c46b0] | (simp only [i64_w, i32_w]; rw [c46b0]) | skip)
                                have H' := Aside0.mk H
                                clear H
                                go_wp2
                                repeat (go_quiet (fail); try go_wp2)
                                go_meet
                                case rel => exact ⟨_, (decide ((rd l1 x9_2) < 128)), (by first | rfl | (simp; done) | (simp [*]; done)), H', ⟨by have := HJ31.out; have := HK2.out; have := HJ38.out; have := HJ41.out; first | omega | exact Nat.le_refl _⟩, ⟨by repeat (first | (with_reducible first | exact HB.out | apply below_alloc | apply pw_below_drewN | apply below_drew1) | exact HB.out)⟩⟩
                              · rw [if_neg c46] at H
                                have c46b0 : (a0 == 22) = false := beq_eq_false_iff_ne.mpr c46
                                have c46b1 : (a0 != 22) = true := bne_iff_ne.mpr c46
                                (first | rw [c46b0] | (simp only [i64_w, i32_w]; rw [c46b0]) | skip)
                                have H' := Aside0.mk H
                                clear H
                                go_wp2
                                repeat (go_quiet (fail); try go_wp2)
                                go_meet
                                case rel => exact ⟨_, (x11_41), (by first | rfl | (simp; done) | (simp [*]; done)), H', ⟨by have := HJ31.out; have := HK2.out; have := HJ38.out; have := HJ41.out; first | omega | exact Nat.le_refl _⟩, ⟨by repeat (first | (with_reducible first | exact HB.out | apply below_alloc | apply pw_below_drewN | apply below_drew1) | exact HB.out)⟩⟩
                            case rest =>
                              clear HC45
                              try clear c1
                              try clear p1
                              try clear q1
                              try clear hx1
                              try clear c2
                              try clear p2
                              try clear c3
                              try clear c3b0
                              try clear c3b1
                              try clear hcv3
                              try clear c4
                              try clear c5
                              try clear p6
                              try clear hcv6
                              try clear c7
                              try clear c7b0
                              try clear c7b1
                              try clear c8
                              try clear c8b0
                              try clear c8b1
                              try clear c9
                              try clear c9b0
                              try clear c10
                              try clear c10b0
                              try clear c12
                              try clear c12b0
                              try clear c13
                              try clear c13b0
                              try clear p13
                              try clear q13
                              try clear hx13
                              try clear c15
                              try clear c15b0
                              try clear p15
                              try clear q15
                              try clear hx15
                              try clear c16
                              try clear c17
                              try clear c17b0
                              try clear c18
                              try clear c20
                              try clear c20b0
                              try clear c21
                              try clear c26
                              try clear hcv31
                              try clear c33
                              try clear c33b0
                              try clear c33b1
                              try clear c34
                              try clear c34b0
                              try clear c34b1
                              try clear c35
                              try clear c35b0
                              try clear c35b1
                              try clear c36
                              try clear c37
                              try clear c37b0
                              try clear c38
                              try clear c38b0
                              try clear c40
                              try clear c40b0
                              try clear c41
                              try clear c41b0
                              try clear c43
                              try clear c43b0
                              try clear c43b1
                              try clear c46
                              try clear c46b0
                              try clear c46b1
                              try clear hx137_0
                              try clear hx138_0
                              try clear hx154_0
                              try clear p1
                              try clear p13
                              try clear p137
                              try clear p138
                              try clear p15
                              try clear p154
                              try clear p2
                              try clear p6
                              try clear q1
                              try clear q13
                              try clear q137
                              try clear q138
                              try clear q15
                              try clear q154
                              obtain ⟨kq, x11_44, rfl, HA, HJ44, HB⟩ := hcut
                              cases kq with
                              | zero => exact absurd HA.out (by simp [chirographref06_Text.j6])
                              | succ kj44 =>
                                have H := HA.out
                                clear HA
                                simp only [chirographref06_Text.j6] at H
                                by_cases c47 : a0 = 26
                                · rw [if_pos c47] at H
                                  have c47b0 : (a0 == 26) = true := beq_iff_eq.mpr c47
                                  have c47b1 : (a0 != 26) = false := bne_eq_false_iff_eq.mpr c47
                                  clear c47
                                  by_cases c48 : (rd l1 x9_2) ≥ 32
                                  · rw [if_pos c48] at H
                                    have c48b0 : decide (32 ≤ (rd l1 x9_2)) = true := decide_eq_true c48
                                    clear c48
                                    by_cases c49 : (rd l1 x9_2) ≤ 126
                                    · rw [if_pos c49] at H
                                      have c49b0 : decide ((rd l1 x9_2) ≤ 126) = true := decide_eq_true c49
                                      clear c49
                                      have H' := Aside0.mk H
                                      clear H
                                      go_wp2
                                      repeat (go_quiet (fail); try go_wp2)
                                      go_roundg kj44
                                      case measure => have := HJ31.out; have := HK2.out; have := HJ38.out; have := HJ41.out; have := HJ44.out; omega
                                      case rel => exact ⟨(wrap64 (x9_2 + 1)), (by first | rfl | (simp; done) | (simp [*]; done)), H', ⟨by have := HJ31.out; have := HK2.out; have := HJ38.out; have := HJ41.out; have := HJ44.out; omega⟩, ⟨by repeat (first | (with_reducible first | exact HB.out | apply below_alloc | apply pw_below_drewN | apply below_drew1) | exact HB.out)⟩⟩
                                    · rw [if_neg c49] at H
                                      have c49b0 : decide ((rd l1 x9_2) ≤ 126) = false := decide_eq_false c49
                                      clear c49
                                      simp only [Option.some.injEq, Prod.mk.injEq] at H
                                      obtain ⟨rfl, rfl⟩ := H
                                      go_wp2
                                      repeat (go_quiet (fail); try go_wp2)
                                      go_ret2
                                      exact ⟨by first | rfl | (simp [errW_none, errW_some] <;> rfl) | (simp [*, errW_none, errW_some] <;> rfl), by repeat (first | (with_reducible first | exact HB.out | apply below_alloc | apply pw_below_drewN | apply below_drew1) | exact HB.out)⟩
                                  · rw [if_neg c48] at H
                                    have c48b0 : decide (32 ≤ (rd l1 x9_2)) = false := decide_eq_false c48
                                    clear c48
                                    simp only [Option.some.injEq, Prod.mk.injEq] at H
                                    obtain ⟨rfl, rfl⟩ := H
                                    go_wp2
                                    repeat (go_quiet (fail); try go_wp2)
                                    go_ret2
                                    exact ⟨by first | rfl | (simp [errW_none, errW_some] <;> rfl) | (simp [*, errW_none, errW_some] <;> rfl), by repeat (first | (with_reducible first | exact HB.out | apply below_alloc | apply pw_below_drewN | apply below_drew1) | exact HB.out)⟩
                                · rw [if_neg c47] at H
                                  have c47b0 : (a0 == 26) = false := beq_eq_false_iff_ne.mpr c47
                                  have c47b1 : (a0 != 26) = true := bne_iff_ne.mpr c47
                                  by_cases c50 : x11_44 = true
                                  · subst c50
                                    have H1 : (chirographref06_Text.l1 kj44 a0 l1 (wrap64 (x9_2 + 1))) = some (r1, r2) := by rw [if_pos rfl] at H; exact H
                                    clear H
                                    have H := H1
                                    clear H1
                                    have H' := Aside0.mk H
                                    clear H
                                    go_wp2
                                    repeat (go_quiet (fail); try go_wp2)
                                    go_roundg kj44
                                    case measure => have := HJ31.out; have := HK2.out; have := HJ38.out; have := HJ41.out; have := HJ44.out; omega
                                    case rel => exact ⟨(wrap64 (x9_2 + 1)), (by first | rfl | (simp; done) | (simp [*]; done)), H', ⟨by have := HJ31.out; have := HK2.out; have := HJ38.out; have := HJ41.out; have := HJ44.out; omega⟩, ⟨by repeat (first | (with_reducible first | exact HB.out | apply below_alloc | apply pw_below_drewN | apply below_drew1) | exact HB.out)⟩⟩
                                  · replace c50 := Bool.eq_false_iff.mpr c50
                                    subst c50
                                    have H1 : (some ((⟨#[]⟩ : ByteArray), 60)) = some (r1, r2) := by rw [if_neg (show ¬ (false = true) by decide)] at H; exact H
                                    clear H
                                    have H := H1
                                    clear H1
                                    simp only [Option.some.injEq, Prod.mk.injEq] at H
                                    obtain ⟨rfl, rfl⟩ := H
                                    go_wp2
                                    repeat (go_quiet (fail); try go_wp2)
                                    go_ret2
                                    exact ⟨by first | rfl | (simp [errW_none, errW_some] <;> rfl) | (simp [*, errW_none, errW_some] <;> rfl), by repeat (first | (with_reducible first | exact HB.out | apply below_alloc | apply pw_below_drewN | apply below_drew1) | exact HB.out)⟩
                  · rw [if_neg c38] at H
                    exact absurd H (by simp)
                · rw [if_neg c37] at H
                  have c37b0 : decide (x9_2 < (l1.length : Int)) = false := decide_eq_false c37
                  clear c37
                  simp only [Option.some.injEq, Prod.mk.injEq] at H
                  obtain ⟨rfl, rfl⟩ := H
                  have hcv51 := Kd.C_string (P := Tryd.prog) (A := A1) (c := c1) Tryd.underlying22 Tryd.underlying5 Tryd.underlying9 (Kd.C_below HR1.out HB.out)
                  go_wp2
                  repeat (go_quiet (fail); try go_wp2)
                  go_ret2
                  exact ⟨by first | rfl | (simp [errW_none, errW_some] <;> rfl) | (simp [*, errW_none, errW_some] <;> rfl), by repeat (first | (with_reducible first | exact HB.out | apply below_alloc | apply pw_below_drewN | apply below_drew1) | exact HB.out)⟩
          · replace c36 := Bool.eq_false_iff.mpr c36
            subst c36
            have H1 : (some ((⟨#[]⟩ : ByteArray), 61)) = some (r1, r2) := by rw [if_neg (show ¬ (false = true) by decide)] at H; exact H
            clear H
            have H := H1
            clear H1
            simp only [Option.some.injEq, Prod.mk.injEq] at H
            obtain ⟨rfl, rfl⟩ := H
            go_wp2
            repeat (go_quiet (fail); try go_wp2)
            go_ret2
            exact ⟨by first | rfl | (simp [errW_none, errW_some] <;> rfl) | (simp [*, errW_none, errW_some] <;> rfl), by repeat (first | (with_reducible first | exact HB.out | apply below_alloc | apply pw_below_drewN | apply below_drew1) | exact HB.out)⟩

end Go.Proofs.YtaeocpnabgnidaaDoor.M
