/- unicode/utf8.Valid: whether a slice's bytes are UTF-8, for every slice: the library's own text walked; the plain side is Lib.validD. -/
import Derived.Test.YtaeocpnabgnidaaDoorTabs0
import Derived.Test.YtaeocpnabgnidaaDoorTxWWord
import Derived.Test.YtaeocpnabgnidaaDoorTxRune
import Derived.Shelf.Unicode.DecodeAny
import Derived.Lib.ValidAsc
import Derived.Laws.BitsAllLaws
import Derived.Deep.LoopGhost
import Derived.Deep.DeepMust
import Derived.Below
import Derived.BigQuiet
import Derived.Deep.CutBlock
import Derived.Deep.DeepCutAuto
set_option linter.unusedVariables false
namespace Go.Proofs.YtaeocpnabgnidaaDoor.Tx
open Go.RowKit Go.Lib Go.Proofs.YtaeocpnabgnidaaDoorW.PrintWords

theorem info5b : ∃ i, Tryd.prog.info? 5 = some i ∧ i.size = 1 := by
  obtain ⟨i, hi, h⟩ := Option.map_eq_some_iff.1 (show (Tryd.prog.info? 5).map (fun i => (i.zero, i.size, i.bytes)) = some (some (.int .u8 0), 1, 1) by kernel_rfl)
  simp only [Prod.mk.injEq] at h
  exact ⟨i, hi, h.2.1⟩

theorem ReadsB.below {w w1 : World} {A : Option Addr} {t : ByteArray} (h : ReadsB w A t) (hb : Below w.heap.size w w1) : ReadsB w1 A t := ReadsInt.below h hb
theorem bytesOf_ext (t : ByteArray) (k : Nat) : bytesOf (t.extract k t.size) = (bytesOf t).drop k := by
  unfold bytesOf
  rw [ext_list, List.map_drop]
/-- p[k:]: what it is, and what it reads. -/
theorem cutB (A : Option Addr) (t : ByteArray) (k : Nat) (hk : k ≤ t.size) (kz : Int) (hz : kz = (k : Int)) :
    ∃ (A' : Option Addr) (t' : ByteArray), t.extract k t.size = t' ∧ t'.size + k = t.size ∧ (∀ W : World, (Instr.slice 22 (.slice A t.size t.size) (some (.int .i64 kz)) none none).run Tryd.prog W = .ok (.slice A' t'.size t'.size) W) ∧
      ∀ w, ReadsB w A t → ReadsB w A' t' := by
  obtain ⟨i, hi, hsz⟩ := info5b
  obtain ⟨A', h1, h2⟩ := print_cut (P := Tryd.prog) 22 5 .i64 Tryd.underlying22 hi hsz A t.size t.size k hk
  refine ⟨A', _, rfl, by rw [ext_size]; omega, fun W => ?_, fun w h => ?_⟩
  · rw [hz, h1, ext_size]
  · have := h2 w .u8 (bytesOf t) (Nat.le_refl _) h
    unfold ReadsB
    rw [bytesOf_ext, ext_size]
    exact this
theorem full3 (A : Option Addr) (n c : Nat) (hn : n ≤ c) : ∀ W : World, (Instr.slice 22 (.slice A n c) none (some (.int .i64 (n : Int))) (some (.int .i64 (n : Int)))).run Tryd.prog W = .ok (.slice A n n) W := by
  intro W
  obtain ⟨i, hi, hsz⟩ := info5b
  have h0 : (0 : Int) ≤ (n : Int) ∧ (n : Int) ≤ (c : Int) := by omega
  have h1 : (0 : Int) ≤ (n : Int) ∧ (n : Int) ≤ (n : Int) := by omega
  have hA : A.map (fun a => a.add 0) = A := by cases A <;> simp [Addr.add]
  simp [Instr.slice, run_underlying Tryd.underlying22, Instr.sliceBounds, Instr.sliceBound, asIntOf, h0, sizeOf, typeInfo, hi, go_sem]
  intro hcn
  omega

set_option maxRecDepth 100000 in
theorem and7 : ∀ X : Fin 256, bits .and .u8 ((X.val : Nat) : Int) 7 = ((X.val % 8 : Nat) : Int) := by decide

/-- A word of eight bytes: its number, what tells of it, and that the mask tells whether all are below 128. -/
theorem word_fact (B : Option Addr) (t : ByteArray) (h : 8 ≤ t.size) :
    ∃ X : Nat, X < 18446744073709551616 ∧ (∀ W, ReadsB W B t → Calls Tryd.prog 28 #[.slice B t.size t.size] W fun e w' => e = .returned (.int .u64 (X : Int)) ∧ ∃ q, w' = W.drewN q) ∧ (X &&& 9259542123273814144 = 0 ↔ Asc t 8) :=
  ⟨_, word_lt t, fun W hr => word_walk B t.size t W hr h, word_asc t h⟩
theorem ReadsB.drewN {w : World} {A : Option Addr} {t : ByteArray} (h : ReadsB w A t) (q : Nat) : ReadsB (w.drewN q) A t := h
theorem cell_of_heap {W w : World} (h : W.heap = w.heap) (a : Addr) : W.cell? a = w.cell? a := by unfold World.cell?; rw [h]
theorem ReadsB.of_heap {W w : World} {A : Option Addr} {t : ByteArray} (hr : ReadsB w A t) (h : W.heap = w.heap) : ReadsB W A t :=
  ⟨hr.1, hr.2.1, fun hn => by
    obtain ⟨ad, e, hc⟩ := hr.2.2 hn
    exact ⟨ad, e, fun j hj => (cell_of_heap h _).trans (hc j hj)⟩⟩
/-- The same, in every world with the same memory. -/
theorem word_heap (B : Option Addr) (t : ByteArray) (h : 8 ≤ t.size) (w : World) (hr : ReadsB w B t) :
    ∃ X : Nat, X < 18446744073709551616 ∧ (∀ W : World, W.heap = w.heap → Calls Tryd.prog 28 #[.slice B t.size t.size] W fun e w' => e = .returned (.int .u64 (X : Int)) ∧ ∃ q, w' = W.drewN q) ∧ (X &&& 9259542123273814144 = 0 ↔ Asc t 8) := by
  obtain ⟨X, h1, h2, h3⟩ := word_fact B t h
  exact ⟨X, h1, fun W hW => h2 W (hr.of_heap hW), h3⟩
theorem below_drewQ {B : Nat} {a w : World} (h : Below B a w) (q : Nat) : Below B a (w.drewN q) := ⟨h.os, h.tape, h.output, h.size, h.block⟩
theorem low_all {t : ByteArray} {a b : Nat} {t2 : ByteArray} (e : t.extract a t.size = t2) (ha : Asc t a) (hb : Asc t2 b) : Asc t (a + b) := asc_add t a b ha (by rw [e]; exact hb)
theorem valid_cut {t t2 : ByteArray} {a : Nat} {ANS : Bool} (e : t.extract a t.size = t2) (ha : Asc t a) (hv : validD t.data.toList = ANS) : validD t2.data.toList = ANS := by rw [← e, valid_skip t a ha]; exact hv

theorem cell_new0 (w : World) (a b : Value) (T : TypeId) : (w.alloc (.cells #[a, b] T)).cell? ⟨w.heap.size, 0, none⟩ = some a := by
  unfold World.cell?
  rw [heap_alloc_new]
  rfl
theorem cell_new1 (w : World) (a b : Value) (T : TypeId) : (w.alloc (.cells #[a, b] T)).cell? ⟨w.heap.size, 1, none⟩ = some b := by
  unfold World.cell?
  rw [heap_alloc_new]
  rfl
theorem lead_at (t : ByteArray) (h0 : 0 < t.size) {x0 x1 x2 x3 : UInt8} {ANS : Bool} (hx0 : t.get! 0 = x0) (hx1 : t.get! 1 = x1) (hx2 : t.get! 2 = x2) (hx3 : t.get! 3 = x3) (hge : 128 ≤ x0.toNat) (hv : Lib.validD t.data.toList = ANS) :
    ANS = match Lib.checkN t.size x1.toNat x2.toNat x3.toNat (Lib.firstT x0.toNat % 8) (Lib.accLo (Lib.firstT x0.toNat / 16)) (Lib.accHi (Lib.firstT x0.toNat / 16)) with
      | none => false
      | some k => Lib.validD (t.data.toList.drop k) := by
  have hne : t.data.toList ≠ [] := fun h => by rw [Lib.size_eq, h] at h0; simp at h0
  have hlead := Lib.validD_lead t.data.toList hne (by rw [Lib.getD_get!', hx0]; exact hge)
  rw [Lib.getD_get!', Lib.getD_get!', Lib.getD_get!', Lib.getD_get!', hx0, hx1, hx2, hx3, ← Lib.size_eq, hv] at hlead
  exact hlead

set_option maxHeartbeats 16000000 in
set_option maxRecDepth 1000000 in
theorem valid_walk (A : Option Addr) (c : Nat) (s : ByteArray) (w : World) (hr : ReadsB w A s) (hc : s.size ≤ c) (hT : Tabs w) :
    Calls Tryd.prog 20 #[.slice A s.size c] w fun e w' => e = .returned (.bool (Lib.validD s.data.toList)) ∧ Below w.heap.size w w' := by
  obtain ⟨ANS, hANS⟩ : ∃ ANS, Lib.validD s.data.toList = ANS := ⟨_, rfl⟩
  rw [hANS]
  have hf3 := full3 A s.size c hc
  have hmax : s.size ≤ 9223372036854775807 := hr.2.1
  go_enter Tryd.func20, Tryd.ntmps20
  go_wp2
  go_loopg [0] (s.size + 1) (fun gk s0 wx => Below w.heap.size w wx ∧ ∃ (B : Option Addr) (t : ByteArray), s0 = .slice B t.size t.size ∧ ReadsB wx B t ∧ Lib.validD t.data.toList = ANS ∧ t.size < gk ∧ t.size ≤ s.size)
  case atStart => exact ⟨Below.refl _ _, A, s, rfl, hr, hANS, by omega, by omega⟩
  case round =>
    obtain ⟨hbw, B, t, rfl, hrd, hv, hg, hts⟩ := hrel
    clear hANS hf3 hr
    have hTr := hT.below hbw
    have hV := Lib.hid hv
    clear hv
    by_cases h0 : 0 < t.size
    · obtain ⟨g', rfl⟩ : ∃ g', gk = g' + 1 := ⟨gk - 1, by omega⟩
      have h0z : (0 : Int) < (t.size : Int) := by omega
      obtain ⟨ad, rfl⟩ := hrd.addr h0
      obtain ⟨x0, hx0⟩ : ∃ x0, t.get! 0 = x0 := ⟨_, rfl⟩
      have c0 := hrd.cell0 h0
      rw [hx0] at c0
      have hx0lt : x0.toNat < 256 := x0.toNat_lt
      by_cases hasc : x0.toNat < 128
      · as_aux_lemma =>
        have hascz : (x0.toNat : Int) < 128 := by omega
        have a1 : Lib.Asc t 1 := Lib.asc_one t h0 (by rw [hx0]; exact hasc)
        obtain ⟨B1, t1, e1, z1, r1, rd1⟩ := cutB (some ad) t 1 (by omega) 1 rfl
        have v1 := Lib.hid (valid_cut e1 a1 hV.out)
        have hrd1 := rd1 wr hrd
        clear hTr hT a1 e1 hx0 rd1
        by_cases c8 : 8 < t1.size
        · have c8z : (8 : Int) < (t1.size : Int) := by omega
          obtain ⟨X1, lX1, cX1, kX1⟩ := word_fact B1 t1 (by omega)
          have hand1 : bits .and .u64 (X1 : Int) 9259542123273814144 = ((X1 &&& 9259542123273814144 : Nat) : Int) := u64_and_nat X1 9259542123273814144 lX1 (by omega)
          obtain ⟨Z1, hZ1⟩ : ∃ Z1, X1 &&& 9259542123273814144 = Z1 := ⟨_, rfl⟩
          rw [hZ1] at hand1 kX1
          have KX1 := Lib.hid kX1
          have CX1 := Lib.hid (cX1 wr hrd1)
          clear kX1 cX1 hZ1
          by_cases hz1 : Z1 = 0
          · have hz1b : ((Z1 : Int) == 0) = true := by simp [hz1]
            have a8 : Lib.Asc t1 8 := KX1.out.1 hz1
            obtain ⟨B2, t2, e2, z2, r2, rd2⟩ := cutB B1 t1 8 (by omega) 8 rfl
            have v2 := Lib.hid (valid_cut e2 a8 v1.out)
            clear a8 e2
            go_wp2_with (go_at_call 28; go_must (refine CX1.out.mono ?_; rintro e W1 ⟨rfl, q1, rfl⟩))
            have hb1 : Below w.heap.size w (wr.drewN q1) := below_drewQ hbw q1
            have hrd2 := rd2 _ (hrd1.drewN q1)
            generalize wr.drewN q1 = wq at hb1 hrd2 ⊢
            clear CX1 hbw rd2 hrd hrd1 r1 r2 c0
            by_cases c16 : 16 < t2.size
            · have c16z : (16 : Int) < (t2.size : Int) := by omega
              obtain ⟨B3, t3, e3, z3, r3, rd3⟩ := cutB B2 t2 8 (by omega) 8 rfl
              have hrd3 := rd3 _ hrd2
              obtain ⟨X2, lX2, cX2, kX2⟩ := word_heap B2 t2 (by omega) wq hrd2
              obtain ⟨X3, lX3, cX3, kX3⟩ := word_heap B3 t3 (by omega) wq hrd3
              have hor2 : bits .or .u64 (X2 : Int) (X3 : Int) = ((X2 ||| X3 : Nat) : Int) := u64_or_nat X2 X3 lX2 lX3
              have lor2 : X2 ||| X3 < 18446744073709551616 := Nat.or_lt_two_pow (n := 64) lX2 lX3
              have hand2 : bits .and .u64 ((X2 ||| X3 : Nat) : Int) 9259542123273814144 = (((X2 ||| X3) &&& 9259542123273814144 : Nat) : Int) := u64_and_nat _ 9259542123273814144 lor2 (by omega)
              have k2 : (X2 ||| X3) &&& 9259542123273814144 = 0 → Lib.Asc t2 16 := fun h => by
                obtain ⟨h2, h3⟩ := (Lib.or_mask X2 X3 _).1 h
                exact low_all (a := 8) (b := 8) e3 (kX2.1 h2) (kX3.1 h3)
              obtain ⟨O2, hO2⟩ : ∃ O2, X2 ||| X3 = O2 := ⟨_, rfl⟩
              rw [hO2] at hor2 hand2 k2
              obtain ⟨Z2, hZ2⟩ : ∃ Z2, O2 &&& 9259542123273814144 = Z2 := ⟨_, rfl⟩
              rw [hZ2] at hand2 k2
              have K2 := Lib.hid k2
              have CX2 := Lib.hid cX2
              have CX3 := Lib.hid cX3
              clear kX2 kX3 cX2 cX3 k2 lor2 hO2 hZ2 e3 rd3
              by_cases hz2 : Z2 = 0
              · have hz2b : ((Z2 : Int) == 0) = true := by simp [hz2]
                obtain ⟨B4, t4, e4, z4, r4, rd4⟩ := cutB B2 t2 16 (by omega) 16 rfl
                have v4 := Lib.hid (valid_cut e4 (K2.out hz2) v2.out)
                have hrd4 := rd4 _ hrd2
                clear e4 rd4
                go_quiet (first | (go_at_call 28; with_reducible refine Calls.quiet_of (CX2.out _ rfl)) | (go_at_call 28; with_reducible refine Calls.quiet_of (CX3.out _ rfl)))
                have hb2 : Below w.heap.size w (wq.drewN nq) := below_drewQ hb1 nq
                have hrd5 := hrd4.drewN nq
                generalize wq.drewN nq = wp at hb2 hrd5 ⊢
                clear CX2 CX3 hb1 hrd2 hrd3 hrd4 r3 K2 lX2 lX3 hor2 hand2 hz2b
                go_wp2
                go_loopg [0] (t4.size + 1) (fun g2 s0 wx => Below w.heap.size w wx ∧ ∃ (B : Option Addr) (u : ByteArray), s0 = .slice B u.size u.size ∧ ReadsB wx B u ∧ Hid (Lib.validD u.data.toList = ANS) ∧ u.size < g2 ∧ u.size ≤ t4.size)
                case atStart => exact ⟨hb2, B4, t4, rfl, hrd5, v4, by omega, Nat.le_refl _⟩
                case round =>
                  obtain ⟨hbu, D0, u, rfl, hru, vu, hgu, hut⟩ := hrel
                  clear hb2 hrd5 r4
                  by_cases c32 : 32 < u.size
                  · obtain ⟨g3, rfl⟩ : ∃ g3, gk = g3 + 1 := ⟨gk - 1, by omega⟩
                    have c32z : (32 : Int) < (u.size : Int) := by omega
                    obtain ⟨D1, u1, f1, y1, s1, k1⟩ := cutB D0 u 8 (by omega) 8 rfl
                    obtain ⟨D2, u2, f2, y2, s2, k2⟩ := cutB D0 u 16 (by omega) 16 rfl
                    obtain ⟨D3, u3, f3, y3, s3, k3⟩ := cutB D0 u 24 (by omega) 24 rfl
                    obtain ⟨Y0, lY0, cY0, kY0⟩ := word_heap D0 u (by omega) _ hru
                    obtain ⟨Y1, lY1, cY1, kY1⟩ := word_heap D1 u1 (by omega) _ (k1 _ hru)
                    obtain ⟨Y2, lY2, cY2, kY2⟩ := word_heap D2 u2 (by omega) _ (k2 _ hru)
                    obtain ⟨Y3, lY3, cY3, kY3⟩ := word_heap D3 u3 (by omega) _ (k3 _ hru)
                    have CY0 := Lib.hid cY0
                    have CY1 := Lib.hid cY1
                    have CY2 := Lib.hid cY2
                    have CY3 := Lib.hid cY3
                    clear cY0 cY1 cY2 cY3 k1 k2 k3
                    have ho1 : bits .or .u64 (Y0 : Int) (Y1 : Int) = ((Y0 ||| Y1 : Nat) : Int) := u64_or_nat Y0 Y1 lY0 lY1
                    have ho2 : bits .or .u64 (Y2 : Int) (Y3 : Int) = ((Y2 ||| Y3 : Nat) : Int) := u64_or_nat Y2 Y3 lY2 lY3
                    have lo1 : Y0 ||| Y1 < 18446744073709551616 := Nat.or_lt_two_pow (n := 64) lY0 lY1
                    have lo2 : Y2 ||| Y3 < 18446744073709551616 := Nat.or_lt_two_pow (n := 64) lY2 lY3
                    have ho3 : bits .or .u64 ((Y0 ||| Y1 : Nat) : Int) ((Y2 ||| Y3 : Nat) : Int) = (((Y0 ||| Y1) ||| (Y2 ||| Y3) : Nat) : Int) := u64_or_nat _ _ lo1 lo2
                    have lo3 : (Y0 ||| Y1) ||| (Y2 ||| Y3) < 18446744073709551616 := Nat.or_lt_two_pow (n := 64) lo1 lo2
                    have hand3 : bits .and .u64 (((Y0 ||| Y1) ||| (Y2 ||| Y3) : Nat) : Int) 9259542123273814144 = ((((Y0 ||| Y1) ||| (Y2 ||| Y3)) &&& 9259542123273814144 : Nat) : Int) := u64_and_nat _ 9259542123273814144 lo3 (by omega)
                    have k3 : ((Y0 ||| Y1) ||| (Y2 ||| Y3)) &&& 9259542123273814144 = 0 → Lib.Asc u 32 := fun h => by
                      obtain ⟨h01, h23⟩ := (Lib.or_mask _ _ _).1 h
                      obtain ⟨h0, h1⟩ := (Lib.or_mask _ _ _).1 h01
                      obtain ⟨h2, h3⟩ := (Lib.or_mask _ _ _).1 h23
                      exact low_all (a := 24) (b := 8) f3 (low_all (a := 16) (b := 8) f2 (low_all (a := 8) (b := 8) f1 (kY0.1 h0) (kY1.1 h1)) (kY2.1 h2)) (kY3.1 h3)
                    obtain ⟨P1, hP1⟩ : ∃ P1, Y0 ||| Y1 = P1 := ⟨_, rfl⟩
                    obtain ⟨P2, hP2⟩ : ∃ P2, Y2 ||| Y3 = P2 := ⟨_, rfl⟩
                    rw [hP1, hP2] at ho3 hand3 k3
                    rw [hP1] at ho1
                    rw [hP2] at ho2
                    obtain ⟨P3, hP3⟩ : ∃ P3, P1 ||| P2 = P3 := ⟨_, rfl⟩
                    rw [hP3] at ho3 hand3 k3
                    obtain ⟨Z3, hZ3⟩ : ∃ Z3, P3 &&& 9259542123273814144 = Z3 := ⟨_, rfl⟩
                    rw [hZ3] at hand3 k3
                    have K3 := Lib.hid k3
                    clear kY0 kY1 kY2 kY3 lo1 lo2 lo3 hP1 hP2 hP3 hZ3 k3 f1 f2 f3
                    by_cases hz3 : Z3 = 0
                    · have hz3b : ((Z3 : Int) == 0) = true := by simp [hz3]
                      obtain ⟨D4, u4, f4, y4, s4, k4⟩ := cutB D0 u 32 (by omega) 32 rfl
                      have vu4 := Lib.hid (valid_cut f4 (K3.out hz3) vu.out)
                      have hru4 := k4 _ hru
                      clear f4 k4
                      go_wp2_with fail
                      go_quiet (first | (go_at_call 28; with_reducible refine Calls.quiet_of (CY0.out _ rfl)) | (go_at_call 28; with_reducible refine Calls.quiet_of (CY1.out _ rfl)) | (go_at_call 28; with_reducible refine Calls.quiet_of (CY2.out _ rfl)) | (go_at_call 28; with_reducible refine Calls.quiet_of (CY3.out _ rfl)))
                      go_wp2
                      go_roundg g3
                      case measure => omega
                      case rel => exact ⟨below_drewQ hbu nq, _, u4, rfl, hru4.drewN nq, vu4, by omega, by omega⟩
                    · have hz3b : ((Z3 : Int) == 0) = false := by simp; omega
                      go_wp2_with fail
                      go_quiet (first | (go_at_call 28; with_reducible refine Calls.quiet_of (CY0.out _ rfl)) | (go_at_call 28; with_reducible refine Calls.quiet_of (CY1.out _ rfl)) | (go_at_call 28; with_reducible refine Calls.quiet_of (CY2.out _ rfl)) | (go_at_call 28; with_reducible refine Calls.quiet_of (CY3.out _ rfl)))
                      go_wp2
                      go_roundg g'
                      case measure => omega
                      case rel => exact ⟨below_drewQ hbu nq, _, u, rfl, hru.drewN nq, vu.out, by omega, by omega⟩
                  · have c32z : ¬ ((32 : Int) < (u.size : Int)) := by omega
                    have c32b : decide ((32 : Int) < (u.size : Int)) = false := decide_eq_false c32z
                    go_wp2_with fail
                    go_quiet (fail)
                    go_wp2
                    go_roundg g'
                    case measure => omega
                    case rel => exact ⟨below_drewQ hbu nq, _, u, rfl, hru.drewN nq, vu.out, by omega, by omega⟩
              · have hz2b : ((Z2 : Int) == 0) = false := by simp; omega
                go_quiet (first | (go_at_call 28; with_reducible refine Calls.quiet_of (CX2.out _ rfl)) | (go_at_call 28; with_reducible refine Calls.quiet_of (CX3.out _ rfl)))
                go_wp2
                go_roundg g'
                case measure => omega
                case rel => exact ⟨below_drewQ hb1 nq, _, t2, rfl, hrd2.drewN nq, v2.out, by omega, by omega⟩
            · have c16z : ¬ ((16 : Int) < (t2.size : Int)) := by omega
              have c16b : decide ((16 : Int) < (t2.size : Int)) = false := decide_eq_false c16z
              go_quiet (fail)
              go_wp2
              go_roundg g'
              case measure => omega
              case rel => exact ⟨below_drewQ hb1 nq, _, t2, rfl, hrd2.drewN nq, v2.out, by omega, by omega⟩
          · have hz1b : ((Z1 : Int) == 0) = false := by simp; omega
            go_wp2_with (go_at_call 28; go_must (refine CX1.out.mono ?_; rintro e W1 ⟨rfl, q1, rfl⟩))
            go_roundg g'
            case measure => omega
            case rel => exact ⟨below_drewQ hbw q1, _, t1, rfl, hrd1.drewN q1, v1.out, by omega, by omega⟩
        · have c8z : ¬ ((8 : Int) < (t1.size : Int)) := by omega
          go_wp2
          go_roundg g'
          case measure => omega
          case rel => exact ⟨hbw, _, t1, rfl, hrd1, v1.out, by omega, by omega⟩
      · have hge : 128 ≤ x0.toNat := by omega
        have hascz : ¬ ((x0.toNat : Int) < 128) := by omega
        obtain ⟨x1, hx1⟩ : ∃ x1, t.get! 1 = x1 := ⟨_, rfl⟩
        obtain ⟨x2, hx2⟩ : ∃ x2, t.get! 2 = x2 := ⟨_, rfl⟩
        obtain ⟨x3, hx3⟩ : ∃ x3, t.get! 3 = x3 := ⟨_, rfl⟩
        have l1 := x1.toNat_lt; have l2 := x2.toNat_lt; have l3 := x3.toNat_lt
        have hlead := lead_at t h0 hx0 hx1 hx2 hx3 hge hV.out
        have hc0 := hTr.u8.1 x0.toNat hx0lt
        have hXlt : Lib.firstT x0.toNat < 256 := by rcases Lib.firstT_cases x0.toNat with h | h | h | h | h | h | h | h | h <;> omega
        obtain ⟨X, hX⟩ : ∃ X, Lib.firstT x0.toNat = X := ⟨_, rfl⟩
        rw [hX] at hc0 hXlt hlead
        have h7 := and7 ⟨X, hXlt⟩
        simp only at h7
        have ha0 : wr.cell? ⟨1, X / 16 * 2, none⟩ = some (.int .u8 (Lib.accLo (X / 16))) := by rw [Nat.mul_comm]; exact (hTr.u8.2 (X / 16) (by omega)).1
        have ha1 : wr.cell? ⟨1, X / 16 * 2 + 1, none⟩ = some (.int .u8 (Lib.accHi (X / 16))) := by rw [Nat.mul_comm]; exact (hTr.u8.2 (X / 16) (by omega)).2
        obtain ⟨LO, hLO⟩ : ∃ LO, Lib.accLo (X / 16) = LO := ⟨_, rfl⟩
        obtain ⟨HI, hHI⟩ : ∃ HI, Lib.accHi (X / 16) = HI := ⟨_, rfl⟩
        rw [hLO] at ha0 hlead
        rw [hHI] at ha1 hlead
        obtain ⟨SZ, hSZ⟩ : ∃ SZ, X % 8 = SZ := ⟨_, rfl⟩
        rw [hSZ] at hlead
        clear hTr hT hX hLO hHI
        by_cases s2 : SZ = 2
        · as_aux_lemma =>
          subst s2
          have hSZz : (X : Int) % 8 = 2 := by omega
          simp only [Lib.checkN, Nat.reduceEqDiff, if_true, if_false] at hlead
          replace hlead : ANS = if t.size < 2 ∨ x1.toNat < LO ∨ HI < x1.toNat then false else Lib.validD (t.data.toList.drop 2) := by
            rw [hlead]
            by_cases hh : t.size < 2 ∨ x1.toNat < LO ∨ HI < x1.toNat
            · rw [if_pos hh, if_pos hh]
            · rw [if_neg hh, if_neg hh]
          have hbz : Below w.heap.size w (wr.alloc (.cells #[.int .u8 (LO : Int), .int .u8 (HI : Int)] 52)) := hbw.alloc hbw.size _
          have hrz := hrd.below ((Below.refl wr.heap.size wr).alloc (Nat.le_refl _) (.cells #[.int .u8 (LO : Int), .int .u8 (HI : Int)] 52))
          have hz0 := cell_new0 wr (.int .u8 (LO : Int)) (.int .u8 (HI : Int)) 52
          have hz9 := cell_new1 wr (.int .u8 (LO : Int)) (.int .u8 (HI : Int)) 52
          go_wp2_with fail
          generalize wr.alloc (.cells #[.int .u8 (LO : Int), .int .u8 (HI : Int)] 52) = wz at hbz hrz hz0 hz9 ⊢
          obtain ⟨bz, hbzz⟩ : ∃ bz, wr.heap.size = bz := ⟨_, rfl⟩
          rw [hbzz] at hz0 hz9 ⊢
          clear hbzz c0 hc0 ha0 ha1 hbw hrd
          by_cases q0 : t.size < 2
          · have q0z : ((t.size : Int) < 2) := by omega
            rw [if_pos (by omega)] at hlead
            have HL := Lib.hid hlead
            clear hlead
            go_quiet (fail)
            go_wp2
            go_ret
            exact ⟨by show Ending.returned (.bool false) = _; rw [HL.out], below_drewQ hbz _⟩
          · have q0z : ¬ ((t.size : Int) < 2) := by omega
            have hz1 : (1 : Int) < (t.size : Int) := by omega
            have hp1 : 1 < t.size := by omega
            have c1 := hrz.cellS 0 (by omega)
            rw [hx1] at c1
            by_cases q1 : x1.toNat < LO
            · have q1z : ((x1.toNat : Int) < (LO : Int)) := by omega
              rw [if_pos (by omega)] at hlead
              have HL := Lib.hid hlead
              clear hlead
              go_quiet (fail)
              go_wp2
              go_ret
              exact ⟨by show Ending.returned (.bool false) = _; rw [HL.out], below_drewQ hbz _⟩
            · have q1z : ¬ ((x1.toNat : Int) < (LO : Int)) := by omega
              by_cases q2 : HI < x1.toNat
              · have q2z : ((HI : Int) < (x1.toNat : Int)) := by omega
                rw [if_pos (by omega)] at hlead
                have HL := Lib.hid hlead
                clear hlead
                go_quiet (fail)
                go_wp2
                go_ret
                exact ⟨by show Ending.returned (.bool false) = _; rw [HL.out], below_drewQ hbz _⟩
              · have q2z : ¬ ((HI : Int) < (x1.toNat : Int)) := by omega
                rw [if_neg (by omega)] at hlead
                obtain ⟨B1, t1, e1, z1, r1, rd1⟩ := cutB (some ad) t 2 (by omega) 2 rfl
                have v1 : Hid (Lib.validD t1.data.toList = ANS) := by
                  have e := hlead.symm
                  rw [← ext_list, e1] at e
                  exact e
                clear hlead e1
                go_quiet (fail)
                have hr9 := rd1 _ (hrz.drewN nq)
                go_wp2
                go_roundg g'
                case measure => omega
                case rel => exact ⟨below_drewQ hbz nq, _, t1, rfl, hr9, v1.out, by omega, by omega⟩
        by_cases s3 : SZ = 3
        · as_aux_lemma =>
          subst s3
          have hSZz : (X : Int) % 8 = 3 := by omega
          simp only [Lib.checkN, Nat.reduceEqDiff, if_true, if_false] at hlead
          replace hlead : ANS = if t.size < 3 ∨ x1.toNat < LO ∨ HI < x1.toNat ∨ x2.toNat < 128 ∨ 191 < x2.toNat then false else Lib.validD (t.data.toList.drop 3) := by
            rw [hlead]
            by_cases hh : t.size < 3 ∨ x1.toNat < LO ∨ HI < x1.toNat ∨ x2.toNat < 128 ∨ 191 < x2.toNat
            · rw [if_pos hh, if_pos hh]
            · rw [if_neg hh, if_neg hh]
          have hbz : Below w.heap.size w (wr.alloc (.cells #[.int .u8 (LO : Int), .int .u8 (HI : Int)] 52)) := hbw.alloc hbw.size _
          have hrz := hrd.below ((Below.refl wr.heap.size wr).alloc (Nat.le_refl _) (.cells #[.int .u8 (LO : Int), .int .u8 (HI : Int)] 52))
          have hz0 := cell_new0 wr (.int .u8 (LO : Int)) (.int .u8 (HI : Int)) 52
          have hz9 := cell_new1 wr (.int .u8 (LO : Int)) (.int .u8 (HI : Int)) 52
          go_wp2_with fail
          generalize wr.alloc (.cells #[.int .u8 (LO : Int), .int .u8 (HI : Int)] 52) = wz at hbz hrz hz0 hz9 ⊢
          obtain ⟨bz, hbzz⟩ : ∃ bz, wr.heap.size = bz := ⟨_, rfl⟩
          rw [hbzz] at hz0 hz9 ⊢
          clear hbzz c0 hc0 ha0 ha1 hbw hrd
          by_cases q0 : t.size < 3
          · have q0z : ((t.size : Int) < 3) := by omega
            rw [if_pos (by omega)] at hlead
            have HL := Lib.hid hlead
            clear hlead
            go_quiet (fail)
            go_wp2
            go_ret
            exact ⟨by show Ending.returned (.bool false) = _; rw [HL.out], below_drewQ hbz _⟩
          · have q0z : ¬ ((t.size : Int) < 3) := by omega
            have hz1 : (1 : Int) < (t.size : Int) := by omega
            have hp1 : 1 < t.size := by omega
            have c1 := hrz.cellS 0 (by omega)
            rw [hx1] at c1
            have hz2 : (2 : Int) < (t.size : Int) := by omega
            have hp2 : 2 < t.size := by omega
            have c2 := hrz.cellS 1 (by omega)
            rw [hx2] at c2
            by_cases q1 : x1.toNat < LO
            · have q1z : ((x1.toNat : Int) < (LO : Int)) := by omega
              rw [if_pos (by omega)] at hlead
              have HL := Lib.hid hlead
              clear hlead
              go_quiet (fail)
              go_wp2
              go_ret
              exact ⟨by show Ending.returned (.bool false) = _; rw [HL.out], below_drewQ hbz _⟩
            · have q1z : ¬ ((x1.toNat : Int) < (LO : Int)) := by omega
              by_cases q2 : HI < x1.toNat
              · have q2z : ((HI : Int) < (x1.toNat : Int)) := by omega
                rw [if_pos (by omega)] at hlead
                have HL := Lib.hid hlead
                clear hlead
                go_quiet (fail)
                go_wp2
                go_ret
                exact ⟨by show Ending.returned (.bool false) = _; rw [HL.out], below_drewQ hbz _⟩
              · have q2z : ¬ ((HI : Int) < (x1.toNat : Int)) := by omega
                by_cases q3 : x2.toNat < 128
                · have q3z : ((x2.toNat : Int) < 128) := by omega
                  rw [if_pos (by omega)] at hlead
                  have HL := Lib.hid hlead
                  clear hlead
                  go_quiet (fail)
                  go_wp2
                  go_ret
                  exact ⟨by show Ending.returned (.bool false) = _; rw [HL.out], below_drewQ hbz _⟩
                · have q3z : ¬ ((x2.toNat : Int) < 128) := by omega
                  by_cases q4 : 191 < x2.toNat
                  · have q4z : ((191 : Int) < (x2.toNat : Int)) := by omega
                    rw [if_pos (by omega)] at hlead
                    have HL := Lib.hid hlead
                    clear hlead
                    go_quiet (fail)
                    go_wp2
                    go_ret
                    exact ⟨by show Ending.returned (.bool false) = _; rw [HL.out], below_drewQ hbz _⟩
                  · have q4z : ¬ ((191 : Int) < (x2.toNat : Int)) := by omega
                    rw [if_neg (by omega)] at hlead
                    obtain ⟨B1, t1, e1, z1, r1, rd1⟩ := cutB (some ad) t 3 (by omega) 3 rfl
                    have v1 : Hid (Lib.validD t1.data.toList = ANS) := by
                      have e := hlead.symm
                      rw [← ext_list, e1] at e
                      exact e
                    clear hlead e1
                    go_quiet (fail)
                    have hr9 := rd1 _ (hrz.drewN nq)
                    go_wp2
                    go_roundg g'
                    case measure => omega
                    case rel => exact ⟨below_drewQ hbz nq, _, t1, rfl, hr9, v1.out, by omega, by omega⟩
        by_cases s4 : SZ = 4
        · as_aux_lemma =>
          subst s4
          have hSZz : (X : Int) % 8 = 4 := by omega
          simp only [Lib.checkN, Nat.reduceEqDiff, if_true, if_false] at hlead
          replace hlead : ANS = if t.size < 4 ∨ x1.toNat < LO ∨ HI < x1.toNat ∨ x2.toNat < 128 ∨ 191 < x2.toNat ∨ x3.toNat < 128 ∨ 191 < x3.toNat then false else Lib.validD (t.data.toList.drop 4) := by
            rw [hlead]
            by_cases hh : t.size < 4 ∨ x1.toNat < LO ∨ HI < x1.toNat ∨ x2.toNat < 128 ∨ 191 < x2.toNat ∨ x3.toNat < 128 ∨ 191 < x3.toNat
            · rw [if_pos hh, if_pos hh]
            · rw [if_neg hh, if_neg hh]
          have hbz : Below w.heap.size w (wr.alloc (.cells #[.int .u8 (LO : Int), .int .u8 (HI : Int)] 52)) := hbw.alloc hbw.size _
          have hrz := hrd.below ((Below.refl wr.heap.size wr).alloc (Nat.le_refl _) (.cells #[.int .u8 (LO : Int), .int .u8 (HI : Int)] 52))
          have hz0 := cell_new0 wr (.int .u8 (LO : Int)) (.int .u8 (HI : Int)) 52
          have hz9 := cell_new1 wr (.int .u8 (LO : Int)) (.int .u8 (HI : Int)) 52
          go_wp2_with fail
          generalize wr.alloc (.cells #[.int .u8 (LO : Int), .int .u8 (HI : Int)] 52) = wz at hbz hrz hz0 hz9 ⊢
          obtain ⟨bz, hbzz⟩ : ∃ bz, wr.heap.size = bz := ⟨_, rfl⟩
          rw [hbzz] at hz0 hz9 ⊢
          clear hbzz c0 hc0 ha0 ha1 hbw hrd
          by_cases q0 : t.size < 4
          · have q0z : ((t.size : Int) < 4) := by omega
            rw [if_pos (by omega)] at hlead
            have HL := Lib.hid hlead
            clear hlead
            go_quiet (fail)
            go_wp2
            go_ret
            exact ⟨by show Ending.returned (.bool false) = _; rw [HL.out], below_drewQ hbz _⟩
          · have q0z : ¬ ((t.size : Int) < 4) := by omega
            have hz1 : (1 : Int) < (t.size : Int) := by omega
            have hp1 : 1 < t.size := by omega
            have c1 := hrz.cellS 0 (by omega)
            rw [hx1] at c1
            have hz2 : (2 : Int) < (t.size : Int) := by omega
            have hp2 : 2 < t.size := by omega
            have c2 := hrz.cellS 1 (by omega)
            rw [hx2] at c2
            have hz3 : (3 : Int) < (t.size : Int) := by omega
            have hp3 : 3 < t.size := by omega
            have c3 := hrz.cellS 2 (by omega)
            rw [hx3] at c3
            by_cases q1 : x1.toNat < LO
            · have q1z : ((x1.toNat : Int) < (LO : Int)) := by omega
              rw [if_pos (by omega)] at hlead
              have HL := Lib.hid hlead
              clear hlead
              go_quiet (fail)
              go_wp2
              go_ret
              exact ⟨by show Ending.returned (.bool false) = _; rw [HL.out], below_drewQ hbz _⟩
            · have q1z : ¬ ((x1.toNat : Int) < (LO : Int)) := by omega
              by_cases q2 : HI < x1.toNat
              · have q2z : ((HI : Int) < (x1.toNat : Int)) := by omega
                rw [if_pos (by omega)] at hlead
                have HL := Lib.hid hlead
                clear hlead
                go_quiet (fail)
                go_wp2
                go_ret
                exact ⟨by show Ending.returned (.bool false) = _; rw [HL.out], below_drewQ hbz _⟩
              · have q2z : ¬ ((HI : Int) < (x1.toNat : Int)) := by omega
                by_cases q3 : x2.toNat < 128
                · have q3z : ((x2.toNat : Int) < 128) := by omega
                  rw [if_pos (by omega)] at hlead
                  have HL := Lib.hid hlead
                  clear hlead
                  go_quiet (fail)
                  go_wp2
                  go_ret
                  exact ⟨by show Ending.returned (.bool false) = _; rw [HL.out], below_drewQ hbz _⟩
                · have q3z : ¬ ((x2.toNat : Int) < 128) := by omega
                  by_cases q4 : 191 < x2.toNat
                  · have q4z : ((191 : Int) < (x2.toNat : Int)) := by omega
                    rw [if_pos (by omega)] at hlead
                    have HL := Lib.hid hlead
                    clear hlead
                    go_quiet (fail)
                    go_wp2
                    go_ret
                    exact ⟨by show Ending.returned (.bool false) = _; rw [HL.out], below_drewQ hbz _⟩
                  · have q4z : ¬ ((191 : Int) < (x2.toNat : Int)) := by omega
                    by_cases q5 : x3.toNat < 128
                    · have q5z : ((x3.toNat : Int) < 128) := by omega
                      rw [if_pos (by omega)] at hlead
                      have HL := Lib.hid hlead
                      clear hlead
                      go_quiet (fail)
                      go_wp2
                      go_ret
                      exact ⟨by show Ending.returned (.bool false) = _; rw [HL.out], below_drewQ hbz _⟩
                    · have q5z : ¬ ((x3.toNat : Int) < 128) := by omega
                      by_cases q6 : 191 < x3.toNat
                      · have q6z : ((191 : Int) < (x3.toNat : Int)) := by omega
                        rw [if_pos (by omega)] at hlead
                        have HL := Lib.hid hlead
                        clear hlead
                        go_quiet (fail)
                        go_wp2
                        go_ret
                        exact ⟨by show Ending.returned (.bool false) = _; rw [HL.out], below_drewQ hbz _⟩
                      · have q6z : ¬ ((191 : Int) < (x3.toNat : Int)) := by omega
                        rw [if_neg (by omega)] at hlead
                        obtain ⟨B1, t1, e1, z1, r1, rd1⟩ := cutB (some ad) t 4 (by omega) 4 rfl
                        have v1 : Hid (Lib.validD t1.data.toList = ANS) := by
                          have e := hlead.symm
                          rw [← ext_list, e1] at e
                          exact e
                        clear hlead e1
                        go_quiet (fail)
                        have hr9 := rd1 _ (hrz.drewN nq)
                        go_wp2
                        go_roundg g'
                        case measure => omega
                        case rel => exact ⟨below_drewQ hbz nq, _, t1, rfl, hr9, v1.out, by omega, by omega⟩
        have hn2 : ((X : Int) % 8 == 2) = false := by simp; omega
        have hn3 : ((X : Int) % 8 == 3) = false := by simp; omega
        have hn4 : ((X : Int) % 8 == 4) = false := by simp; omega
        have hbad : ANS = false := by rw [hlead]; unfold Lib.checkN; rw [if_neg s2, if_neg s3, if_neg s4]
        have HB := Lib.hid hbad
        clear hbad hlead
        go_wp2
        go_ret
        exact ⟨by show Ending.returned (.bool false) = _; rw [HB.out], hbw.alloc hbw.size _⟩
    · have h0z : ¬ ((0 : Int) < (t.size : Int)) := by omega
      go_wp2
      go_ret
      refine ⟨?_, hbw⟩
      have : t.data.toList = [] := by
        have := list_length t
        exact List.eq_nil_of_length_eq_zero (by omega)
      have e := hV.out
      rw [this] at e
      rw [← e]
      rfl
end Go.Proofs.YtaeocpnabgnidaaDoor.Tx
