/- The law TextReads: its walk. -/
import Derived.Test.YtaeocpnabgnidaaDoorTxKept
import Derived.Test.YtaeocpnabgnidaaDoorTxLent
import Derived.Test.YtaeocpnabgnidaaDoorTxPReads
set_option linter.unusedVariables false
set_option linter.unusedSimpArgs false
namespace Go.Proofs.YtaeocpnabgnidaaDoor.Tx
open Go.RowKit Go.Proofs.YtaeocpnabgnidaaDoorW.PrintWords Go.Proofs.YtaeocpnabgnidaaDoorW.PrintLast Go.Proofs.YtaeocpnabgnidaaDoorW.PrintMore Go.Proofs.YtaeocpnabgnidaaDoor.M
set_option maxHeartbeats 8000000 in
set_option maxRecDepth 100000 in
theorem reads_long (a0 : Int) (A1 : Option Addr) (c1 : Nat) (l1 : List Int) (w : World) (hT_ : Tabs w) (hl : 16384 < l1.length) :
    Calls Tryd.prog 3 #[.int .i64 a0, .slice A1 l1.length c1] w fun e w' => e = .returned (.bool true) ∧ Below w.heap.size w w' := by
  have HB := Aside0.mk (Below.refl w.heap.size w)
  have c3b0 : decide (16384 < (l1.length : Int)) = true := decide_eq_true (by omega)
  have c3b1 : decide (16384 < l1.length) = true := decide_eq_true hl
  clear hl
  go_enter Tryd.func3, Tryd.ntmps3
  go_wp2_with (go_at_call 9; (with_reducible refine (chirographlaw06_live.calls true _ ?side1 rfl).mono ?_); (case side1 => exact Tabs.below hT_ (by repeat (first | (with_reducible first | exact HB.out | apply below_alloc | apply pw_below_drewN | apply below_drew1) | exact HB.out))); rintro e w5 ⟨rfl, hb⟩; have n0_ := Aside0.mk (below_step (by repeat (first | (with_reducible first | exact HB.out | apply below_alloc | apply pw_below_drewN | apply below_drew1) | exact HB.out)) hb); clear HB; have HB := n0_; clear n0_ hb)
  go_ret
  exact ⟨rfl, HB.out⟩
set_option maxHeartbeats 8000000 in
set_option maxRecDepth 100000 in
theorem reads_main (k : Nat) (a0 : Int) (A1 : Option Addr) (c1 : Nat) (l1 : List Int) (s : ByteArray) (n : Int) (w : World) (hr1 : Kd.C (Kd.int .u8) w A1 l1.length l1) (hc1 : l1.length ≤ c1) (hT_ : Tabs w) (hl : l1.length ≤ 16384)
    (h1 : text_Text.f k a0 l1 = some (s, n)) (h2 : chirographref06_Text.f k a0 l1 = some (s, n)) (h3 : chirographref01_SameBytes.f k l1 l1 = some true) (t : List Int) (h4 : chirographref01_LentBytes.f l1 = some t) :
    Calls Tryd.prog 3 #[.int .i64 a0, .slice A1 l1.length c1] w fun e w' => e = .returned (.bool true) ∧ Below w.heap.size w w' := by
  have HR1 := Aside0.mk hr1
  have HC1 := Aside0.mk hc1
  clear hr1 hc1
  have HB := Aside0.mk (Below.refl w.heap.size w)
  have A7 := Aside0.mk h1
  have A8 := Aside0.mk h2
  have A12 := Aside0.mk h3
  have A6 := Aside0.mk h4
  have HM : Aside0 (l1.length ≤ 1000000) := Aside0.mk (by omega)
  clear h1 h2 h3 h4
  have c3b0 : decide (16384 < (l1.length : Int)) = false := decide_eq_false (by omega)
  have c3b1 : decide (16384 < l1.length) = false := decide_eq_false (by omega)
  have c9b0 : (s.toList == s.toList) = true := beq_self_eq_true _
  have c11b0 : (n == n) = true := beq_self_eq_true _
  clear hl
  go_enter Tryd.func3, Tryd.ntmps3
  go_wp2_with (first
    | ((with_reducible refine gate_callee (f := 10) rfl ?_); refine goesL_ (some 15) rfl rfl Tryd.func10 (by kernel_rfl) rfl #[.slice A1 l1.length c1] rfl (by (try simp only [List.map_toArray, List.map_cons, List.map_nil]); first | done | rfl) ?_; (with_reducible refine (chirographref01_LentBytes.lent _ _ l1 t _ ?side1 ?side2 A6.out).mono ?_); (case side1 => exact HR1.out); (case side2 => exact HC1.out); rintro e w15 ⟨Ao, co, rfl, hcap, ho0, hb⟩; refine ⟨_, rfl, ?_⟩; have HL := Aside0.mk (Kd.R_reads' ho0).2.2; have HCO := Aside0.mk hcap; have n1_ := Aside0.mk (below_step HB.out hb); clear HB ho0 hcap hb; have HB := n1_; clear n1_)
    | ((with_reducible refine gate_callee (f := 11) rfl ?_); refine goesL_ (some 19) rfl rfl Tryd.func11 (by kernel_rfl) rfl #[.int .i64 a0, .slice Ao l1.length co] rfl (by (try simp only [List.map_toArray, List.map_cons, List.map_nil]); first | done | rfl) ?_; (with_reducible refine (text_Text.calls k a0 _ _ l1 s n _ ?side1 ?side2 ?side3 A7.out).mono ?_); (case side1 => repeat (first | exact C_cut HL.out | (with_reducible refine Kd.C_alloc ?_ _) | (with_reducible refine Kd.C_drewN ?_ _) | (with_reducible refine Kd.C_drew ?_))); (case side2 => have := HCO.out; omega); (case side3 => exact Tabs.below hT_ (by repeat (first | (with_reducible first | exact HB.out | apply below_alloc | apply pw_below_drewN | apply below_drew1) | exact HB.out))); rintro e w17 ⟨rfl, hb⟩; refine ⟨_, rfl, ?_⟩; have n0_ := Aside0.mk (Kd.C_below (by repeat (first | exact HL.out | (with_reducible refine Kd.C_alloc ?_ _) | (with_reducible refine Kd.C_drewN ?_ _) | (with_reducible refine Kd.C_drew ?_))) hb); have n1_ := Aside0.mk (below_step (by repeat (first | (with_reducible first | exact HB.out | apply below_alloc | apply pw_below_drewN | apply below_drew1) | exact HB.out)) hb); clear HL HB hb; have HL := n0_; have HB := n1_; clear n0_ n1_)
    | ((with_reducible refine gate_callee (f := 12) rfl ?_); refine goesL_ (some 25) rfl rfl Tryd.func12 (by kernel_rfl) rfl #[.int .i64 a0, .slice A1 l1.length c1] rfl (by (try simp only [List.map_toArray, List.map_cons, List.map_nil]); first | done | rfl) ?_; (with_reducible refine (chirographref06_Text.calls k a0 _ _ l1 s n _ ?side1 ?side2 A8.out).mono ?_); (case side1 => repeat (first | exact (Kd.C_below HR1.out HB.out) | (with_reducible refine Kd.C_alloc ?_ _) | (with_reducible refine Kd.C_drewN ?_ _) | (with_reducible refine Kd.C_drew ?_))); (case side2 => exact HC1.out); rintro e w18 ⟨rfl, hb⟩; refine ⟨_, rfl, ?_⟩; have n0_ := Aside0.mk (Kd.C_below (by repeat (first | exact HL.out | (with_reducible refine Kd.C_alloc ?_ _) | (with_reducible refine Kd.C_drewN ?_ _) | (with_reducible refine Kd.C_drew ?_))) hb); have n1_ := Aside0.mk (below_step (by repeat (first | (with_reducible first | exact HB.out | apply below_alloc | apply pw_below_drewN | apply below_drew1) | exact HB.out)) hb); clear HL HB hb; have HL := n0_; have HB := n1_; clear n0_ n1_)
    | (go_at_call 13; (with_reducible refine (chirographlaw06_num.calls n n _ rfl).mono ?_); rintro e w' ⟨rfl, ⟨nd, rfl⟩⟩)
    | (go_at_call 14; (with_reducible refine (kept_calls k _ _ l1 _ _ l1 true _ ?side1 HCO.out HM.out ?side3 ?side4 A12.out).mono ?_); (case side1 => repeat (first | exact HL.out | (with_reducible refine Kd.C_alloc ?_ _) | (with_reducible refine Kd.C_drewN ?_ _) | (with_reducible refine Kd.C_drew ?_))); (case side3 => repeat (first | exact (Kd.C_below HR1.out (by repeat (first | (with_reducible first | exact HB.out | apply below_alloc | apply pw_below_drewN | apply below_drew1) | exact HB.out))) | (with_reducible refine Kd.C_alloc ?_ _) | (with_reducible refine Kd.C_drewN ?_ _) | (with_reducible refine Kd.C_drew ?_))); (case side4 => exact HC1.out); rintro e w' ⟨rfl, ⟨nd, rfl⟩⟩)
    | (go_at_call 9; (with_reducible refine (chirographlaw06_live.calls true _ ?side1 rfl).mono ?_); (case side1 => exact Tabs.below hT_ (by repeat (first | (with_reducible first | exact HB.out | apply below_alloc | apply pw_below_drewN | apply below_drew1) | exact HB.out))); rintro e w19 ⟨rfl, hb⟩; have n1_ := Aside0.mk (below_step (by repeat (first | (with_reducible first | exact HB.out | apply below_alloc | apply pw_below_drewN | apply below_drew1) | exact HB.out)) hb); clear HB hb; have HB := n1_; clear n1_))
  go_ret
  exact ⟨rfl, by repeat (first | (with_reducible first | exact HB.out | apply below_alloc | apply pw_below_drewN | apply below_drew1) | exact HB.out)⟩
theorem same_ev (l : List Int) (hl : l.length ≤ 1000000) : Ev (fun k => chirographref01_SameBytes.f k l l) true := by
  have loop : ∀ (d i : Nat), i + d = l.length → Ev (fun k => chirographref01_SameBytes.l0 k l l (i : Int)) true := by
    intro d
    induction d with
    | zero =>
      intro i hd
      refine Ev.step (f := fun _ => some true) (fun k => ?_) (Ev.now _)
      simp only [chirographref01_SameBytes.l0]
      rw [if_neg (by omega)]
    | succ d ih =>
      intro i hd
      refine Ev.step (fun k => ?_) (ih (i + 1) (by omega))
      simp only [chirographref01_SameBytes.l0, if_true]
      rw [if_pos (by omega), if_pos (by omega), if_pos (by omega), wrap_next (by omega)]
  unfold chirographref01_SameBytes.f
  simp only [if_true]
  exact loop l.length 0 (by omega)
theorem lent_f (l : List Int) (hl : l.length ≤ 1000000) : ∃ t, chirographref01_LentBytes.f l = some t := by
  unfold chirographref01_LentBytes.f
  simp only [Option.bind_some, List.nil_append, List.length_nil]
  rw [if_pos (by omega), if_pos (by simp only [List.length_cons, List.length_nil]; omega), if_pos (by omega), if_pos (by rw [List.length_append]; omega)]
  exact ⟨_, rfl⟩
theorem reads_walk (a0 : Int) (a1 : Option Addr) (len1 cap1 : Nat) (z1 : List Int) (w : World) (w0 : (Lit.int .i64 a0).wf = true) (w1 : (a1 = none ∧ len1 = 0 ∧ cap1 = 0 ∧ z1 = []) ∨ ∃ x, a1 = some x ∧ len1 ≤ cap1 ∧ cap1 ≤ maxLen ∧ z1.length = cap1 ∧ (∀ i, i < z1.length → w.cell? (x.add i) = some (.int .u8 (z1.getD i 0))) ∧ ∀ n ∈ z1, (Lit.int .u8 n).wf = true) (y1 : len1 * 1 ≤ 140737488351232) (hT_ : Tabs w) :
    Calls Tryd.prog 3 #[.int .i64 a0, .slice a1 len1 cap1] w fun e w' => e = .returned (.bool true) ∧ Below w.heap.size w w' := by
  obtain ⟨l1, rfl, hr1, hm1, hw1, hc1⟩ := ReadsInt.ofRowC w1
  rcases Nat.lt_or_ge 16384 l1.length with hl | hl
  · exact reads_long a0 _ _ l1 w hT_ hl
  · have hb := bytes_of_wf hw1
    obtain ⟨K1, h1⟩ := text_ev a0 l1 hb (by omega)
    obtain ⟨K2, h2⟩ := ref_Text a0 l1 hb (by omega)
    obtain ⟨K3, h3⟩ := same_ev l1 (by omega)
    obtain ⟨t, h4⟩ := lent_f l1 (by omega)
    exact reads_main (K1 + K2 + K3) a0 _ _ l1 (textV a0 l1).1 (textV a0 l1).2 w (Kd.C_of_reads (d := (0 : Int)) (h1 := fun _ => rfl) hr1) hc1 hT_ hl (h1 _ (by omega)) (h2 _ (by omega)) (h3 _ (by omega)) t h4
end Go.Proofs.YtaeocpnabgnidaaDoor.Tx
