/- ClockPuts: its walk, by hand: what is put by the program is what is put by the document. Its condition: the numbers are ints. -/
import Derived.Test.YtnkpegldckdahaaDoorCkPRef
set_option linter.unusedVariables false
set_option linter.unusedSimpArgs false
namespace Go.Proofs.YtnkpegldckdahaaDoor.Ck
open Go.RowKit Go.Lib Go.Proofs.YtnkpegldckdahaaDoorW.PrintWords Go.Proofs.YtnkpegldckdahaaDoorW.PrintLast Go.Proofs.YtnkpegldckdahaaDoorW.PrintMore Go.Proofs.YtnkpegldckdahaaDoor.M
theorem same_l0 (l : List Int) (hl : l.length ≤ 1000000000) : ∀ (n : Nat) (i : Int), 0 ≤ i → (l.length : Int) - i = n → Ev (fun k => chirographref01_SameBytes.l0 k l l i) true
  | 0, i, h0, hi => by
    refine Ev.value (fun k => ?_)
    simp only [chirographref01_SameBytes.l0]
    rw [if_neg (by omega)]
  | n + 1, i, h0, hi => by
    refine Ev.step (f := fun k => chirographref01_SameBytes.l0 k l l (i + 1)) (fun k => ?_) (same_l0 l hl n (i + 1) (by omega) (by omega))
    simp only [chirographref01_SameBytes.l0]
    rw [if_pos (by omega), if_pos h0, if_pos (by omega), if_pos trivial, w64 (by omega) (by omega)]
theorem same_ev (l : List Int) (hl : l.length ≤ 1000000000) : Ev (fun k => chirographref01_SameBytes.f k l l) true := by
  unfold chirographref01_SameBytes.f
  simp only [if_true]
  exact same_l0 l hl l.length 0 (by omega) (by omega)
theorem same_calls (A1 A2 : Option Addr) (c1 c2 : Nat) (l m : List Int) (hlm : l = m) (hl : l.length ≤ 1000000000) (w : World) (h1 : Kd.C (Kd.int .u8) w A1 l.length l) (g1 : l.length ≤ c1) (h2 : Kd.C (Kd.int .u8) w A2 m.length m) (g2 : m.length ≤ c2) :
    Calls Tryd.prog 21 #[.slice A1 l.length c1, .slice A2 m.length c2] w fun e w' => e = .returned (.bool true) ∧ Below w.heap.size w w' := by
  subst hlm
  obtain ⟨k, h⟩ := (same_ev l hl).rounds
  exact (chirographref01_SameBytes.calls k A1 c1 l A2 c2 l true w h1 g1 h2 g2 h).mono fun e w' h => ⟨h.1, drawn_below h.2⟩
theorem num_calls (n : Int) (w : World) : Calls Tryd.prog 12 #[.int .i64 n] w fun e w' => e = .returned (.int .i64 n) ∧ Below w.heap.size w w' :=
  (chirographlaw05_num.calls n n w rfl).mono fun e w' h => ⟨h.1, drawn_below h.2⟩
theorem live_calls (w : World) (hT : Tabs w) : Calls Tryd.prog 13 #[] w fun e w' => e = .returned (.bool true) ∧ Below w.heap.size w w' := chirographlaw05_live.calls true w hT rfl
theorem genL_length (Y M D h i s m : Int) : (genL Y M D h i s m).length ≤ 30 := by
  unfold genL
  split
  · simp [dl_length, tl_length]
  · have := trim_len (dl 6 m.toNat) 48
    rw [dl_length] at this
    simp [dl_length, tl_length]
    omega
theorem putG_length (a b : Int) : (lst (B (putG a b).1)).length ≤ 1000000000 := by
  rw [lst_length, B_size]
  unfold putG
  split
  · simp
  · split
    · simp
    · have := genL_length (partsV a).1 (partsV a).2.1 (partsV a).2.2.1 (partsV a).2.2.2.1 (partsV a).2.2.2.2.1 (partsV a).2.2.2.2.2.1 b
      simp only
      omega
theorem putU_length (a : Int) : (lst (B (putU a).1)).length ≤ 1000000000 := by
  rw [lst_length, B_size]
  unfold putU
  split
  · simp
  · simp [dl_length, tl_length]
set_option maxHeartbeats 8000000 in
set_option maxRecDepth 100000 in
theorem puts_walk (a0 a1 : Int) (w : World) (w0 : (Lit.int .i64 a0).wf = true) (w1 : (Lit.int .i64 a1).wf = true) (hT : Tabs w) : Calls Tryd.prog 8 #[.int .i64 a0, .int .i64 a1] w fun e w' => e = .returned (.bool true) ∧ Below w.heap.size w w' := by
  have hi := Aside0.mk (int_of_wf w0)
  have HLU := Aside0.mk (putU_length a0)
  have HLG := Aside0.mk (putG_length a0 a1)
  have CU := utc_calls a0
  have CG := gen_calls a0 a1
  have RU := rutc_calls a0 hi.out
  have RG := rgen_calls a0 a1 hi.out
  generalize putU a0 = U at CU RU HLU
  generalize putG a0 a1 = G at CG RG HLG
  obtain ⟨ul, ue⟩ := U
  obtain ⟨gl, ge⟩ := G
  simp only at CU RU HLU CG RG HLG
  generalize lst (B ul) = lu at CU RU HLU
  generalize lst (B gl) = lg at CG RG HLG
  unfold Gives at CU RU CG RG
  have HB := Aside0.mk (Below.refl w.heap.size w)
  go_enter Tryd.func8, Tryd.ntmps8
  go_upto_region 5 with (first
    | (go_at_call 17; (with_reducible refine (CU _ (Tabs.below hT (by repeat (first | (with_reducible first | exact HB.out | apply below_alloc | apply pw_below_drewN | apply below_drew1) | exact HB.out)))).mono ?_); rintro e w1 ⟨A1, c1, rfl, hc, hk, hb⟩; have b0_ := Aside0.mk (below_step (by repeat (first | (with_reducible first | exact HB.out | apply below_alloc | apply pw_below_drewN | apply below_drew1) | exact HB.out)) hb); have nk_ := Aside0.mk hk; have nc_ := Aside0.mk hc; clear hk hc; clear HB hb ; have HB := b0_; have HK1 := nk_; have HC1 := nc_; clear b0_  nk_ nc_)
    | (go_at_call 18; (with_reducible refine (RU _ (Tabs.below hT (by repeat (first | (with_reducible first | exact HB.out | apply below_alloc | apply pw_below_drewN | apply below_drew1) | exact HB.out)))).mono ?_); rintro e w2 ⟨A2, c2, rfl, hc, hk, hb⟩; have k0_ := Aside0.mk (Kd.C_below HK1.out hb); have b0_ := Aside0.mk (below_step (by repeat (first | (with_reducible first | exact HB.out | apply below_alloc | apply pw_below_drewN | apply below_drew1) | exact HB.out)) hb); have nk_ := Aside0.mk hk; have nc_ := Aside0.mk hc; clear hk hc; clear HB hb HK1; have HB := b0_; have HK1 := k0_; have HK2 := nk_; have HC2 := nc_; clear b0_ k0_ nk_ nc_)
    | (go_at_call 19; (with_reducible refine (CG _ (Tabs.below hT (by repeat (first | (with_reducible first | exact HB.out | apply below_alloc | apply pw_below_drewN | apply below_drew1) | exact HB.out)))).mono ?_); rintro e w3 ⟨A3, c3, rfl, hc, hk, hb⟩; have k0_ := Aside0.mk (Kd.C_below HK1.out hb); have k1_ := Aside0.mk (Kd.C_below HK2.out hb); have b0_ := Aside0.mk (below_step (by repeat (first | (with_reducible first | exact HB.out | apply below_alloc | apply pw_below_drewN | apply below_drew1) | exact HB.out)) hb); have nk_ := Aside0.mk hk; have nc_ := Aside0.mk hc; clear hk hc; clear HB hb HK1 HK2; have HB := b0_; have HK1 := k0_; have HK2 := k1_; have HK3 := nk_; have HC3 := nc_; clear b0_ k0_ k1_ nk_ nc_)
    | (go_at_call 20; (with_reducible refine (RG _ (Tabs.below hT (by repeat (first | (with_reducible first | exact HB.out | apply below_alloc | apply pw_below_drewN | apply below_drew1) | exact HB.out)))).mono ?_); rintro e w4 ⟨A4, c4, rfl, hc, hk, hb⟩; have k0_ := Aside0.mk (Kd.C_below HK1.out hb); have k1_ := Aside0.mk (Kd.C_below HK2.out hb); have k2_ := Aside0.mk (Kd.C_below HK3.out hb); have b0_ := Aside0.mk (below_step (by repeat (first | (with_reducible first | exact HB.out | apply below_alloc | apply pw_below_drewN | apply below_drew1) | exact HB.out)) hb); have nk_ := Aside0.mk hk; have nc_ := Aside0.mk hc; clear hk hc; clear HB hb HK1 HK2 HK3; have HB := b0_; have HK1 := k0_; have HK2 := k1_; have HK3 := k2_; have HK4 := nk_; have HC4 := nc_; clear b0_ k0_ k1_ k2_ nk_ nc_))
  go_wp2_with (first
    | (go_at_call 21; (with_reducible refine (same_calls A1 A2 c1 c2 lu lu rfl HLU.out _ HK1.out HC1.out HK2.out HC2.out).mono ?_); rintro e w5 ⟨rfl, hb⟩; have k0_ := Aside0.mk (Kd.C_below HK1.out hb); have k1_ := Aside0.mk (Kd.C_below HK2.out hb); have k2_ := Aside0.mk (Kd.C_below HK3.out hb); have k3_ := Aside0.mk (Kd.C_below HK4.out hb); have b0_ := Aside0.mk (below_step (by repeat (first | (with_reducible first | exact HB.out | apply below_alloc | apply pw_below_drewN | apply below_drew1) | exact HB.out)) hb); clear HB hb HK1 HK2 HK3 HK4; have HB := b0_; have HK1 := k0_; have HK2 := k1_; have HK3 := k2_; have HK4 := k3_; clear b0_ k0_ k1_ k2_ k3_)
    | (go_at_call 21; (with_reducible refine (same_calls A3 A4 c3 c4 lg lg rfl HLG.out _ HK3.out HC3.out HK4.out HC4.out).mono ?_); rintro e w6 ⟨rfl, hb⟩; have k0_ := Aside0.mk (Kd.C_below HK1.out hb); have k1_ := Aside0.mk (Kd.C_below HK2.out hb); have k2_ := Aside0.mk (Kd.C_below HK3.out hb); have k3_ := Aside0.mk (Kd.C_below HK4.out hb); have b0_ := Aside0.mk (below_step (by repeat (first | (with_reducible first | exact HB.out | apply below_alloc | apply pw_below_drewN | apply below_drew1) | exact HB.out)) hb); clear HB hb HK1 HK2 HK3 HK4; have HB := b0_; have HK1 := k0_; have HK2 := k1_; have HK3 := k2_; have HK4 := k3_; clear b0_ k0_ k1_ k2_ k3_)
    | (go_at_call 12; (with_reducible refine (num_calls ue _).mono ?_); rintro e w7 ⟨rfl, hb⟩; have k0_ := Aside0.mk (Kd.C_below HK1.out hb); have k1_ := Aside0.mk (Kd.C_below HK2.out hb); have k2_ := Aside0.mk (Kd.C_below HK3.out hb); have k3_ := Aside0.mk (Kd.C_below HK4.out hb); have b0_ := Aside0.mk (below_step (by repeat (first | (with_reducible first | exact HB.out | apply below_alloc | apply pw_below_drewN | apply below_drew1) | exact HB.out)) hb); clear HB hb HK1 HK2 HK3 HK4; have HB := b0_; have HK1 := k0_; have HK2 := k1_; have HK3 := k2_; have HK4 := k3_; clear b0_ k0_ k1_ k2_ k3_)
    | (go_at_call 12; (with_reducible refine (num_calls ge _).mono ?_); rintro e w8 ⟨rfl, hb⟩; have k0_ := Aside0.mk (Kd.C_below HK1.out hb); have k1_ := Aside0.mk (Kd.C_below HK2.out hb); have k2_ := Aside0.mk (Kd.C_below HK3.out hb); have k3_ := Aside0.mk (Kd.C_below HK4.out hb); have b0_ := Aside0.mk (below_step (by repeat (first | (with_reducible first | exact HB.out | apply below_alloc | apply pw_below_drewN | apply below_drew1) | exact HB.out)) hb); clear HB hb HK1 HK2 HK3 HK4; have HB := b0_; have HK1 := k0_; have HK2 := k1_; have HK3 := k2_; have HK4 := k3_; clear b0_ k0_ k1_ k2_ k3_)
    | (go_at_call 13; (with_reducible refine (live_calls _ (Tabs.below hT (by repeat (first | (with_reducible first | exact HB.out | apply below_alloc | apply pw_below_drewN | apply below_drew1) | exact HB.out)))).mono ?_); rintro e w9 ⟨rfl, hb⟩; have k0_ := Aside0.mk (Kd.C_below HK1.out hb); have k1_ := Aside0.mk (Kd.C_below HK2.out hb); have k2_ := Aside0.mk (Kd.C_below HK3.out hb); have k3_ := Aside0.mk (Kd.C_below HK4.out hb); have b0_ := Aside0.mk (below_step (by repeat (first | (with_reducible first | exact HB.out | apply below_alloc | apply pw_below_drewN | apply below_drew1) | exact HB.out)) hb); clear HB hb HK1 HK2 HK3 HK4; have HB := b0_; have HK1 := k0_; have HK2 := k1_; have HK3 := k2_; have HK4 := k3_; clear b0_ k0_ k1_ k2_ k3_))
  go_ret
  exact ⟨by first | rfl | (simp; done), HB.out⟩
end Go.Proofs.YtnkpegldckdahaaDoor.Ck
