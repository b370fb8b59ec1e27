/- policy.Step walked (written by stepgen.py). -/
import Derived.Test.YtgeoibgohlpfjaaDoorPyRange
set_option linter.unusedVariables false
set_option linter.unusedSimpArgs false
namespace Go.Proofs.YtgeoibgohlpfjaaDoor.Py
open Go Go.RowKit Go.Maps Go.Proofs.YtgeoibgohlpfjaaDoorW.PrintWords Go.Proofs.YtgeoibgohlpfjaaDoorW.PrintLast Go.Proofs.YtgeoibgohlpfjaaDoorW.PrintMore
/-- a value that is a certificate, its policies as lists of bytes -/
def CertOf (w : World) (v : Value) (c : Cb) : Prop := CertIs w v ⟨c.pol.map bs, c.req, c.inh, c.own⟩
theorem CertOf.below {w w' : World} {v : Value} {c : Cb} (h : CertOf w v c) (hb : Below w.heap.size w w') : CertOf w' v c := CertIs.below h hb
theorem FitS.fits {l : List S} (h : FitS l) : Fits (l.map bs) := by
  intro s hs
  obtain ⟨x, hx, rfl⟩ := List.mem_map.1 hs
  have := h x hx
  have e : (bs x).size = x.length := by simp [bs, ByteArray.size]
  omega
/-- two lists of texts that are read, each short -/
def ReadS (w : World) (A : Option Addr) (n c : Nat) (ss : List ByteArray) : Prop := Strs w (.slice A n c) ss ∧ Fits ss ∧ n ≤ 1000000
def Both (w : World) (A : Option Addr) (n0 cA : Nat) (pp : List ByteArray) (C : Option Addr) (n1 cC : Nat) (cc : List ByteArray) : Prop := ReadS w A n0 cA pp ∧ ReadS w C n1 cC cc
theorem ReadS.below {w w' : World} {A : Option Addr} {n c : Nat} {ss : List ByteArray} (h : ReadS w A n c ss) (hb : Below w.heap.size w w') : ReadS w' A n c ss := ⟨h.1.below hb, h.2⟩
theorem Both.below {w w' : World} {A : Option Addr} {n0 cA : Nat} {pp : List ByteArray} {C : Option Addr} {n1 cC : Nat} {cc : List ByteArray} (h : Both w A n0 cA pp C n1 cC cc) (hb : Below w.heap.size w w') : Both w' A n0 cA pp C n1 cC cc := ⟨h.1.below hb, h.2.below hb⟩
theorem Both.drew {w : World} {A : Option Addr} {n0 cA : Nat} {pp : List ByteArray} {C : Option Addr} {n1 cC : Nat} {cc : List ByteArray} (h : Both w A n0 cA pp C n1 cC cc) : Both w.drew A n0 cA pp C n1 cC cc := h.below (below_drew1 (Below.refl _ _))
theorem set_at {w : World} {A : Option Addr} {n c : Nat} {ss : List ByteArray} (h : Strs w (.slice A n c) ss) (hf : Fits ss) (hn : n ≤ 1000000) :
    Calls Tryd.prog 29 #[.slice A n c] w fun e w' => e = .returned (.map (some w.heap.size)) ∧ MapIs w' w.heap.size ss ∧ Below w.heap.size w w' := by
  obtain ⟨A', c', e, hc, hr⟩ := h
  injection e with e1 e2 e3
  subst e1 e2 e3
  exact set_walk _ _ ss w hr hf (by omega)
theorem own_of {w : World} {v : Value} {pol : List S} {req inh : Int} {own : Bool} (h : CertOf w v ⟨pol, req, inh, own⟩) : Calls Tryd.prog 28 #[v] w fun e w' => e = .returned (.bool own) ∧ Below w.heap.size w w' := own_walk v _ w h
theorem hR_base {w : World} {base : Nat} {ok : Nat → Prop} {v : Value} {xs : List ByteArray} (h : Kd.R Kd.string 9 w base ok v xs) (k : Nat) (hk : v.ownBlock = some k) : base ≤ k := by
  obtain ⟨_, inner, ho, _⟩ := h
  exact own_base ho k hk
theorem rd_row {w : World} {A : Option Addr} {n c : Nat} {ss : List ByteArray} (h : ReadS w A n c ss) : ReadsRow (Kd.string.K w) Kd.string.sz w A n ss := by
  obtain ⟨A', c', e, _, hr⟩ := h.1
  injection e with e1 e2 e3
  subst e1 e2 e3
  exact hr
/-- what Step gives -/
def StepPost (r : Option Pl) (w : World) (e : Ending) (w' : World) : Prop :=
  (match r with
  | some q => ∃ v, e = .returned (.tuple #[v, .bool true]) ∧ PolIs w' v q
  | none => e = .returned (.tuple #[.agg #[nilS, .int .i64 0, .int .i64 0], .bool false])) ∧ Below w.heap.size w w'
set_option maxHeartbeats 8000000 in
set_option maxRecDepth 100000 in
theorem step_walk (v cv : Value) (p : Pl) (c : Cb) (last : Bool) (w : World) (hv : PolIs w v p) (hc : CertOf w cv c) (hp : p.set.length ≤ 1000000) (hcl : c.pol.length ≤ 1000000) (fp : FitS p.set) (fc : FitS c.pol)
    (h1 : p.ex ≤ 9223372036854775807) (h2 : p.any ≤ 9223372036854775807) : Calls Tryd.prog 15 #[v, cv, .bool last] w (StepPost (stepV p c last) w) := by
  obtain ⟨sv, rfl, hs⟩ := hv
  have hc0 := hc
  obtain ⟨pv, n, rfl, hpv, hn⟩ := hc
  obtain ⟨A, cA, rfl, hcA, hnA⟩ := hs.open_
  obtain ⟨C, cC, rfl, hcC, hnC⟩ := hpv.open_
  have HB0 := Aside0.mk (show Both w A p.set.length cA (p.set.map bs) C c.pol.length cC (c.pol.map bs) from ⟨⟨hs, fp.fits, hp⟩, hpv, fc.fits, hcl⟩)
  have HC0 := Aside0.mk hc0
  obtain ⟨pol, req, inh, own⟩ := c
  obtain ⟨pset, pex, pany⟩ := p
  simp only at HB0 HC0 h1 h2 hp hcl ⊢
  generalize (if own = true then n else nilS) = s at HC0 ⊢
  clear hc0 hs hpv hn hcA hnA hcC hnC fp fc
  generalize hstep : stepV ⟨pset, pex, pany⟩ ⟨pol, req, inh, own⟩ last = r
  have HP := Aside0.mk hstep
  clear hstep
  generalize hn0 : pset.length = n0 at HB0 hp ⊢
  generalize hn1 : pol.length = n1 at HB0 HC0 hcl ⊢
  have HB := Aside0.mk (Below.refl w.heap.size w)
  go_enter Tryd.func15, Tryd.ntmps15
  go_wp2_with (first
    | ((with_reducible refine gate_dst (N := 3) rfl ?_); refine law_new ?hg (N := 3) ?hd (ob := .cells #[.slice A n0 cA, .int .i64 pex, .int .i64 pany] 25 (0, 0)) (V := fun g => .pointer (some ⟨g, 0, none⟩)) ?hr ?_; (case hd => rfl); (case hg => rfl); (case hr => first | (go_simp; done) | (go_simp; rfl))
       intro g1 hg1 w1 b1 hb1
       have B1 := Aside0.mk b1
       clear b1
       have HS := Aside0.mk (HB0.out.below hb1)
       have HC := Aside0.mk (HC0.out.below hb1)
       have HBx := Aside0.mk (below_step HB.out hb1)
       clear HB hb1 hg1 HB0 HC0)
    | ((with_reducible refine gate_dst (N := 4) rfl ?_); refine law_new ?hg (N := 4) ?hd (ob := .cells (certC (.slice C n1 cC) n s req inh) 48 (0, 0)) (V := fun g => .pointer (some ⟨g, 0, none⟩)) ?hr ?_; (case hd => rfl); (case hg => rfl); (case hr => first | (go_simp; done) | (go_simp; rfl))
       intro g2 hg2 w2 b2 hb2
       have B2 := Aside0.mk b2
       clear b2
       have B1x := Aside0.mk (blk_below B1.out hb2)
       have HSx := Aside0.mk (HS.out.below hb2)
       have HCx := Aside0.mk (HC.out.below hb2)
       have HB := Aside0.mk (below_step HBx.out hb2)
       clear HBx hb2 hg2 B1 HS HC)
    | ((with_reducible refine gate_dst (N := 6) rfl ?_); refine law_new ?hg (N := 6) ?hd (ob := .cells #[nilS, .int .i64 0, .int .i64 0] 25 (0, 0)) (V := fun g => .pointer (some ⟨g, 0, none⟩)) ?hr ?_; (case hd => rfl); (case hg => rfl); (case hr => first | (go_simp; done) | (go_simp; rfl))
       intro g3 hg3 w3 b3 hb3
       have B3 := Aside0.mk b3
       clear b3
       have B1 := Aside0.mk (blk_below B1x.out hb3)
       have B2x := Aside0.mk (blk_below B2.out hb3)
       have HS := Aside0.mk (HSx.out.below hb3)
       have HC := Aside0.mk (HCx.out.below hb3)
       have HBx := Aside0.mk (below_step HB.out hb3)
       have HG3 := Aside0.mk (show w.heap.size ≤ g3 by rw [hg3]; exact HB.out.size)
       clear HB hb3 hg3 B1x B2 HSx HCx)
    | ((with_reducible refine gate_dst (N := 14) rfl ?_); refine law_load rfl 48 _ rfl g2 rfl B2x.out _ Tryd.underlying48 rfl (by kernel_rfl) ?_)
    | (go_at_call 28; refine (own_of HC.out).mono ?_; rintro e w4 ⟨rfl, hb4⟩
       have B3x := Aside0.mk (blk_below B3.out hb4)
       have B1x := Aside0.mk (blk_below B1.out hb4)
       have B2 := Aside0.mk (blk_below B2x.out hb4)
       have HSx := Aside0.mk (HS.out.below hb4)
       have HB := Aside0.mk (below_step HBx.out hb4)
       clear HBx hb4 B1 B2x B3 HS HC))
  have B1 := B1x
  have B3 := B3x
  have HS := HSx
  clear B1x B3x HSx
  have n0_ := Aside0.mk (blk_drew B1.out)
  have n1_ := Aside0.mk (blk_drew B2.out)
  have n2_ := Aside0.mk (blk_drew B3.out)
  have n3_ := Aside0.mk (below_drew1 HB.out)
  have n4_ := Aside0.mk (Both.drew HS.out)
  clear B1 B2 B3 HB HS
  have B1 := n0_
  have B2 := n1_
  have B3 := n2_
  have HB := n3_
  have HS := n4_
  clear n0_ n1_ n2_ n3_ n4_
  refine start_ (n := 8) (S := fun w' => w'.cell? ⟨g1, 0, none⟩ = some (.slice A n0 cA) ∧ w'.cell? ⟨g2, 25, none⟩ = some (.slice C n1 cC)) (ds := []) #[false, false, false, false, false, false, false, false] (by kernel_rfl) rfl rfl ⟨(blk_cell B1.out 0).trans rfl, (blk_cell B2.out 25).trans rfl⟩ (fun hHeld => ?_)
  generalize w4.drew = w10 at B1 B2 B3 HB HS hHeld ⊢
  refine pure_ (i := 0) (N := some 16) (v := ?_) (a' := ?_) #[true, false, false, false, false, false, false, false] rfl rfl (by kernel_rfl) (fun _ _ _ h => h) (Or.inl ⟨by rfl, ?_⟩) ?_ ?_
  rotate_left
  · intro w'
    go_simp
    with_reducible rfl
  rotate_left
  · simp only [Act.put, List.setIfInBounds_toArray, List.set_cons_zero, List.set_cons_succ, i64_w, i32_w]
    rfl
  refine take_ (i := 1) (N := some 17) (v := ?_) (a' := ?_) #[true, true, false, false, false, false, false, false] rfl rfl (by kernel_rfl) (fun _ _ _ h => h) (Or.inl ⟨by rfl, ?_⟩) hHeld ?_ ?_
  rotate_left
  · rintro w' ⟨s0, s1⟩
    go_simp
    with_reducible rfl
  rotate_left
  · simp only [Act.put, List.setIfInBounds_toArray, List.set_cons_zero, List.set_cons_succ, i64_w, i32_w]
    rfl
  refine pure_ (i := 3) (N := some 19) (v := ?_) (a' := ?_) #[true, true, false, true, false, false, false, false] rfl rfl (by kernel_rfl) (fun _ _ _ h => h) (Or.inl ⟨by rfl, ?_⟩) ?_ ?_
  rotate_left
  · intro w'
    go_simp
    with_reducible rfl
  rotate_left
  · simp only [Act.put, List.setIfInBounds_toArray, List.set_cons_zero, List.set_cons_succ, i64_w, i32_w]
    rfl
  refine take_ (i := 4) (N := some 20) (v := ?_) (a' := ?_) #[true, true, false, true, true, false, false, false] rfl rfl (by kernel_rfl) (fun _ _ _ h => h) (Or.inl ⟨by rfl, ?_⟩) hHeld ?_ ?_
  rotate_left
  · rintro w' ⟨s0, s1⟩
    go_simp
    with_reducible rfl
  rotate_left
  · simp only [Act.put, List.setIfInBounds_toArray, List.set_cons_zero, List.set_cons_succ, i64_w, i32_w]
    rfl
  refine one_ (i := 2) (N := some 18) #[true, true, true, true, true, false, false, false] rfl rfl (by kernel_rfl) (by decide) (fun K hK => ?_)
  refine goes_ Tryd.func29 (by kernel_rfl) rfl #[.slice A n0 cA] (by rfl) rfl rfl (by (try simp only [List.map_toArray, List.map_cons, List.map_nil]); first | done | rfl) ?_
  refine (set_at HS.out.1.1 HS.out.1.2.1 HS.out.1.2.2).mono ?_
  rintro e w20 ⟨rfl, hm1, hb⟩
  refine ⟨_, rfl, ?_⟩
  have HM1 := Aside0.mk hm1
  have n0_ := Aside0.mk (blk_below B1.out hb)
  have n1_ := Aside0.mk (blk_below B2.out hb)
  have n2_ := Aside0.mk (blk_below B3.out hb)
  have n3_ := Aside0.mk (below_step HB.out hb)
  have n4_ := Aside0.mk (Both.below HS.out hb)
  clear B1 B2 B3 HB HS
  have B1 := n0_
  have B2 := n1_
  have B3 := n2_
  have HB := n3_
  have HS := n4_
  clear n0_ n1_ n2_ n3_ n4_
  clear hm1 hb
  generalize w10.heap.size = m1 at HM1 hK ⊢
  clear hHeld
  refine hK.out _ _ ⟨(blk_cell B1.out 0).trans rfl, (blk_cell B2.out 25).trans rfl⟩ (fun hHeld => ?_)
  clear hK K
  refine norm_ (a' := ?_) ?_ ?_
  rotate_left
  · show Act.put _ (some 18) _ = _
    simp only [Act.put, List.setIfInBounds_toArray, List.set_cons_zero, List.set_cons_succ, i64_w, i32_w]
    rfl
  refine one_ (i := 5) (N := some 21) #[true, true, true, true, true, true, false, false] rfl rfl (by kernel_rfl) (by decide) (fun K hK => ?_)
  refine goes_ Tryd.func29 (by kernel_rfl) rfl #[.slice C n1 cC] (by rfl) rfl rfl (by (try simp only [List.map_toArray, List.map_cons, List.map_nil]); first | done | rfl) ?_
  refine (set_at HS.out.2.1 HS.out.2.2.1 HS.out.2.2.2).mono ?_
  rintro e w30 ⟨rfl, hm2, hb⟩
  refine ⟨_, rfl, ?_⟩
  have HM2 := Aside0.mk hm2
  have n0_ := Aside0.mk (blk_below B1.out hb)
  have n1_ := Aside0.mk (blk_below B2.out hb)
  have n2_ := Aside0.mk (blk_below B3.out hb)
  have n3_ := Aside0.mk (below_step HB.out hb)
  have n4_ := Aside0.mk (Both.below HS.out hb)
  have n5_ := Aside0.mk (MapIs.below HM1.out hb)
  clear B1 B2 B3 HB HS HM1
  have B1 := n0_
  have B2 := n1_
  have B3 := n2_
  have HB := n3_
  have HS := n4_
  have HM1 := n5_
  clear n0_ n1_ n2_ n3_ n4_ n5_
  clear hm2 hb
  generalize w20.heap.size = m2 at HM2 hK ⊢
  clear hHeld
  refine hK.out _ _ ⟨(blk_cell B1.out 0).trans rfl, (blk_cell B2.out 25).trans rfl⟩ (fun hHeld => ?_)
  clear hK K
  refine norm_ (a' := ?_) ?_ ?_
  rotate_left
  · show Act.put _ (some 21) _ = _
    simp only [Act.put, List.setIfInBounds_toArray, List.set_cons_zero, List.set_cons_succ, i64_w, i32_w]
    rfl
  refine pure_ (i := 6) (N := some 9) (v := ?_) (a' := ?_) #[true, true, true, true, true, true, true, false] rfl rfl (by kernel_rfl) (fun _ _ _ h => h) (Or.inl ⟨by rfl, ?_⟩) ?_ ?_
  rotate_left
  · intro w'
    go_simp
    with_reducible rfl
  rotate_left
  · simp only [Act.put, List.setIfInBounds_toArray, List.set_cons_zero, List.set_cons_succ, i64_w, i32_w]
    rfl
  refine pure_ (i := 7) (N := some 10) (v := ?_) (a' := ?_) #[true, true, true, true, true, true, true, true] rfl rfl (by kernel_rfl) (fun _ _ _ h => h) (Or.inl ⟨by rfl, ?_⟩) ?_ ?_
  rotate_left
  · intro w'
    go_simp
    with_reducible rfl
  rotate_left
  · simp only [Act.put, List.setIfInBounds_toArray, List.set_cons_zero, List.set_cons_succ, i64_w, i32_w]
    rfl
  refine done_ (by kernel_rfl) ?_
  clear hHeld
  obtain ⟨D, hown, htell⟩ := HM2.out
  have hnD : Maps.size D ≤ 1000000 := by
    have := hown.size_le
    have h := HS.out.2.2.2
    rw [List.length_map] at this
    omega
  have HT := Aside0.mk htell
  have HO := Aside0.mk hown
  clear hown htell hn0 hn1
  generalize hpp : pset.map bs = pp at HS HM1
  generalize hcc : pol.map bs = cc at HS HM2 HT HO
  have hpl : pp.length ≤ 1000000 := by
    obtain ⟨A', c', e, h1, h2⟩ := HS.out.1.1
    have := HS.out.1.2.2
    injection e with e1 e2
    omega
  have hcl2 : cc.length ≤ 1000000 := by
    obtain ⟨A', c', e, h1, h2⟩ := HS.out.2.1
    have := HS.out.2.2.2
    injection e with e1 e2
    omega
  have HPC := Aside0.mk (And.intro hpp hcc)
  clear hpp hcc
  go_wp2_with
    (at_range; refine wpList_range_own _ rfl _ 65 rfl 9 3 law Tryd.underlying65 _ m2 _ _ rfl HO.out ?_; intro w31 hrg0 hg0 hs0)
  go_frame
  have hb31 : Below w30.heap.size w30 w31 := (Below.refl _ _).grown hg0 (Nat.le_refl _) (by simp)
  have hlt2 := HM2.out.lt
  have hz31 : w31.heap.size = w30.heap.size + 1 := hs0
  have hA0 := AccOk.start (pp := pp) HT.out
  generalize hr : w30.heap.size = rr at hrg0 hs0 hz31 hlt2 ⊢
  have hlen0 : ([] : List ByteArray).length + Maps.size D ≤ Maps.size D := by simp
  go_loopw [11] (fun v wr => ∃ (left : Lit → Bool) (cnt : Nat) (acc : List ByteArray), Aside0 (wr.ranges Tryd.prog 9 (plainElem Tryd.prog 3) m2 rr cc.length D left cnt) ∧ Aside0 (acc.length + cnt ≤ Maps.size D) ∧ Aside0 (Kd.R Kd.string 9 wr rr (fun k => k ≠ rr) v acc) ∧ Aside0 (AccOk pp cc D left acc) ∧ Aside0 (Below w30.heap.size w30 wr))
    (fun _ wr => wr.rangeLeft m2 rr)
  case atStart => exact ⟨_, _, [], ⟨hrg0⟩, ⟨hlen0⟩, ⟨Kd.R_nil _ _ _ _ _⟩, ⟨hA0⟩, ⟨hb31⟩⟩
  case round =>
    obtain ⟨left, cnt, acc, HR, HL, HK, HA, HW⟩ := hrel
    clear hrg0 hb31 hg0 hs0 hA0 hlen0
    go_wp2_with
      (at_next; refine wpList_next_ranges _ rfl _ rfl 9 law (plainElem Tryd.prog 3) Value.string (Value.int .i64) inv_key inv_val m2 rr cc.length D _ _ rfl HR.out ?_ ?_)
    · intro hc0 hl0
      have HF := Aside0.mk (HA.out.done hl0)
      have hla : acc.length ≤ 1000000 := by have := HL.out; omega
      have HZ := Aside0.mk HR.out.lt
      clear hc0 hl0 HA HR HL
      obtain ⟨a2, h20, h21, h2i, hl2⟩ := look_cnt HM2.out (s := bAny) (by decide) hcl2
      have hl2 := hl2 wr HW.out
      have hp2 : wr.cell? ⟨g1, 2, none⟩ = some (.int .i64 pany) := by rw [cell_of_row _ g1 2 _ _ _ (blk_below B1.out HW.out)]; rfl
      obtain ⟨gt, hgt⟩ : ∃ gt : Bool, gt = (memB bAny cc && (decide (0 < pany) || (own && !last))) := ⟨_, rfl⟩
      have HG := Aside0.mk hgt
      clear hgt
      have HI := Aside0.mk h2i
      clear h2i
      go_upto_region 9 with fail
      go_cut [57] (fun t wx => Aside0 (t = .bool gt ∧ wx = wr))
      case first =>
        by_cases ha : 0 < a2
        · have hin := HI.out.1 ha
          by_cases hp : 0 < pany
          · have hg : gt = true := by rw [HG.out]; rw [memB_true hin]; simp [hp]
            subst hg
            clear hin
            go_wp2_with fail
            go_meet
            case rel => exact ⟨⟨rfl, rfl⟩⟩
          · cases own with
            | false =>
              have hg : gt = false := by rw [HG.out]; simp [hp]
              subst hg
              clear hin
              go_wp2_with fail
              go_meet
              case rel => exact ⟨⟨rfl, rfl⟩⟩
            | true =>
              cases last with
              | false =>
                have hg : gt = true := by rw [HG.out]; rw [memB_true hin]; simp
                subst hg
                clear hin
                go_wp2_with fail
                go_meet
                case rel => exact ⟨⟨rfl, rfl⟩⟩
              | true =>
                have hg : gt = false := by rw [HG.out]; simp [hp]
                subst hg
                clear hin
                go_wp2_with fail
                go_meet
                case rel => exact ⟨⟨rfl, rfl⟩⟩
        · have hg : gt = false := by rw [HG.out]; rw [memB_false (fun h => ha (HI.out.2 h))]; rfl
          subst hg
          go_wp2_with fail
          go_meet
          case rel => exact ⟨⟨rfl, rfl⟩⟩
      case rest =>
        obtain ⟨⟨rfl, rfl⟩⟩ := hcut
        go_upto_if 57 with fail
        go_cut [11] (fun v wx => Aside0 (∃ L, Kd.R Kd.string 9 wx rr (fun k => k ≠ rr) v L ∧ L.length ≤ 2000000 ∧ Below w30.heap.size w30 wx ∧ ∀ s, s ∈ L ↔ s ∈ acc ∨ (gt = true ∧ s ∈ pp)))
        case first =>
          cases gt with
          | false =>
            go_wp2_with fail
            go_meet
            case rel => exact ⟨⟨acc, HK.out, by omega, HW.out, fun s => by simp⟩⟩
          | true =>
            have hp0 : wc.cell? ⟨g1, 0, none⟩ = some (.slice A n0 cA) := by rw [cell_of_row _ g1 0 _ _ _ (blk_below B1.out HW.out)]; rfl
            have hbase : rr ≤ wc.heap.size := by have := HW.out.size; omega
            have hz := HZ.out
            have HBW := Aside0.mk (show Below rr w30 wc by rw [← hr]; exact HW.out)
            have HRd := Aside0.mk (HS.out.1.below HW.out)
            clear hl2
            go_wp2_with
              (at_builtin; refine Kd.R_append_rows Kd.string (w0 := w30) rr rfl (.tmp 58) (.tmp 60) 23 9 (.string ⟨#[]⟩) 16 rfl Tryd.underlying23 info9 rfl (by decide) (by decide) _ acc pp A n0 cA (fun k => k ≠ rr) (fun _ => False) rfl rfl HK.out (rd_row HRd.out) (fun _ _ h => h) (fun _ h => h.elim) (fun k hk e => by omega) HBW.out hbase (by omega) ?_
               intro v1 w33 hR hBl hgr hat1)
            go_meet
            case rel => exact ⟨⟨acc ++ pp, hR, by rw [List.length_append]; omega, by rw [hr]; exact hBl, fun s => by simp⟩⟩
        case rest =>
          obtain ⟨⟨L, hR, hLl, hW2, hL2⟩⟩ := hcut
          clear HK HW hp2 hl2
          have HK := Aside0.mk hR
          have hgat := gather_iff HF.out hL2 HG.out HPC.out.1 HPC.out.2
          have HN := Aside0.mk (nil_iff_of hgat)
          have HE := Aside0.mk (nrm_eq hgat)
          clear hR hL2 hgat HF HG HI
          obtain ⟨Av, cv', rfl⟩ := Kd.R_slice HK.out
          have hp1 : wc.cell? ⟨g1, 1, none⟩ = some (.int .i64 pex) := by rw [cell_of_row _ g1 1 _ _ _ (blk_below B1.out hW2)]; rfl
          by_cases hL : L = []
          · have hl0 : (((L.length : Nat) : Int) == 0) = true := by rw [hL]; rfl
            have hLE := Aside0.mk hL
            clear hL
            by_cases hx : pex ≤ 0
            · have hst : r = none := by rw [← HP.out]; unfold stepV; rw [if_pos ⟨HN.out.1 hLE.out, hx⟩]
              subst hst
              have b3 := Aside0.mk (blk_below B3.out hW2)
              have HWx := Aside0.mk hW2
              clear hW2
              go_wp2_with
                (refine law_store rfl 25 _ _ rfl g3 #[nilS, .int .i64 0, .int .i64 0] rfl rfl b3.out rfl (by kernel_rfl) (strs_one_cell (Strs.nil w)) ?_
                 intro w51 b3y hg51 hs51
                 have HE1 := Aside0.mk (And.intro b3y ((below_step HB.out HWx.out).grown hg51 (below_step HB.out HWx.out).size (fun j hj => by cases hj; exact HG3.out)))
                 clear b3y hg51 hs51)
              refine bodyPost_ret (results_cell_tmp rfl _ _ g3 25 _ (0, 0) _ _ rfl rfl HE1.out.1 Tryd.underlying25 rfl (by kernel_rfl)) rfl ?_
              exact ⟨rfl, HE1.out.2⟩
            · have hst : r = some ⟨norm (gather pset pany pol own last), if last = true then pex else down pex req (!own), if last = true then pany else down pany inh (!own)⟩ := by rw [← HP.out]; unfold stepV; rw [if_neg (fun h => hx h.2)]
              have HST := Aside0.mk hst
              clear hst
              go_upto_region 13 with fail
              clear hp1 hl0
              have HW := Aside0.mk hW2
              have b1w := B1.out
              have B1x := Aside0.mk (blk_below B1.out HW.out)
              clear B1
              have B1 := B1x
              clear B1x
              have n0_ := Aside0.mk (blk_drew B1.out)
              have n1_ := Aside0.mk (Kd.R_drew HK.out)
              have n2_ := Aside0.mk (below_drew1 HW.out)
              clear B1 HK HW
              have B1 := n0_
              have HK := n1_
              have HW := n2_
              clear n0_ n1_ n2_
              refine start_ (n := 9) (S := fun w' => w'.cell? ⟨g1, 1, none⟩ = some (.int .i64 pex) ∧ w'.cell? ⟨g1, 2, none⟩ = some (.int .i64 pany)) (ds := []) #[false, false, false, false, false, false, false, false, false] (by kernel_rfl) rfl rfl ⟨(blk_cell B1.out 1).trans rfl, (blk_cell B1.out 2).trans rfl⟩ (fun hHeld => ?_)
              generalize wc.drew = w40 at B1 HK HW hHeld ⊢
              refine pure_ (i := 0) (N := some 71) (v := ?_) (a' := ?_) #[true, false, false, false, false, false, false, false, false] rfl rfl (by kernel_rfl) (fun _ _ _ h => h) (Or.inl ⟨by rfl, ?_⟩) ?_ ?_
              rotate_left
              · intro w'
                go_simp
                with_reducible rfl
              rotate_left
              · simp only [Act.put, List.setIfInBounds_toArray, List.set_cons_zero, List.set_cons_succ, i64_w, i32_w]
                rfl
              refine pure_ (i := 2) (N := some 73) (v := ?_) (a' := ?_) #[true, false, true, false, false, false, false, false, false] rfl rfl (by kernel_rfl) (fun _ _ _ h => h) (Or.inl ⟨by rfl, ?_⟩) ?_ ?_
              rotate_left
              · intro w'
                go_simp
                with_reducible rfl
              rotate_left
              · simp only [Act.put, List.setIfInBounds_toArray, List.set_cons_zero, List.set_cons_succ, i64_w, i32_w]
                rfl
              refine take_ (i := 3) (N := some 74) (v := ?_) (a' := ?_) #[true, false, true, true, false, false, false, false, false] rfl rfl (by kernel_rfl) (fun _ _ _ h => h) (Or.inl ⟨by rfl, ?_⟩) hHeld ?_ ?_
              rotate_left
              · rintro w' ⟨s0, s1⟩
                go_simp
                with_reducible rfl
              rotate_left
              · simp only [Act.put, List.setIfInBounds_toArray, List.set_cons_zero, List.set_cons_succ, i64_w, i32_w]
                rfl
              refine pure_ (i := 4) (N := some 75) (v := ?_) (a' := ?_) #[true, false, true, true, true, false, false, false, false] rfl rfl (by kernel_rfl) (fun _ _ _ h => h) (Or.inl ⟨by rfl, ?_⟩) ?_ ?_
              rotate_left
              · intro w'
                go_simp
                with_reducible rfl
              rotate_left
              · simp only [Act.put, List.setIfInBounds_toArray, List.set_cons_zero, List.set_cons_succ, i64_w, i32_w]
                rfl
              refine take_ (i := 5) (N := some 76) (v := ?_) (a' := ?_) #[true, false, true, true, true, true, false, false, false] rfl rfl (by kernel_rfl) (fun _ _ _ h => h) (Or.inl ⟨by rfl, ?_⟩) hHeld ?_ ?_
              rotate_left
              · rintro w' ⟨s0, s1⟩
                go_simp
                with_reducible rfl
              rotate_left
              · simp only [Act.put, List.setIfInBounds_toArray, List.set_cons_zero, List.set_cons_succ, i64_w, i32_w]
                rfl
              refine join_ (σ := Option Addr × Nat × Nat × Nat) 0 #[true, true, true, true, true, true, true, true, true] (fun s => [(72, .slice s.1 s.2.1 s.2.2.1), (77, .agg #[.slice s.1 s.2.1 s.2.2.1, .int .i64 pex, .int .i64 pany]), (13, .pointer (some ⟨s.2.2.2, 0, none⟩))]) (fun s w' => Strs w' (.slice s.1 s.2.1 s.2.2.1) (nrm L) ∧ w'.heap[s.2.2.2]? = some (.cells #[.slice s.1 s.2.1 s.2.2.1, .int .i64 pex, .int .i64 pany] 25 (0, 0)) ∧ Below w30.heap.size w30 w' ∧ w30.heap.size ≤ s.2.2.2) ?contB ?ordersB
              case ordersB =>
                intro hcont
                refine two_ (i := 1) (j := 7) (Ni := some 72) (Nj := some 13) #[true, true, true, true, true, true, false, false, false] #[true, false, true, true, true, true, false, true, false] rfl rfl rfl rfl (by kernel_rfl) (by decide) (by decide) (fun K hK => ?_) (fun K hK => ?_)
                · refine goes_ Tryd.func30 (by kernel_rfl) rfl #[.slice Av L.length cv'] (by rfl) rfl rfl (by (try simp only [List.map_toArray, List.map_cons, List.map_nil]); first | done | rfl) ?_
                  refine (sorted_at (Kd.R_reads' HK.out).2.2 hLl).mono ?_
                  rintro e wA ⟨Bv, mv, dv, rfl, hst, hb⟩
                  refine ⟨_, rfl, ?_⟩
                  have b1 := blk_below B1.out hb
                  have hw := below_step HW.out hb
                  refine hK.out _ _ ⟨(blk_cell b1 1).trans rfl, (blk_cell b1 2).trans rfl⟩ (fun _ => ?_)
                  clear hK K
                  refine norm_ (a' := ?_) ?_ ?_
                  rotate_left
                  · show Act.put _ (some 72) _ = _
                    simp only [Act.put, List.setIfInBounds_toArray, List.set_cons_zero, List.set_cons_succ, i64_w, i32_w]
                    rfl
                  refine pure_ (i := 6) (N := some 77) (v := ?_) (a' := ?_) #[true, true, true, true, true, true, true, false, false] rfl rfl (by kernel_rfl) (fun _ _ _ h => h) (Or.inl ⟨by rfl, ?_⟩) ?_ ?_
                  rotate_left
                  · intro w'
                    go_simp
                    with_reducible rfl
                  rotate_left
                  · simp only [Act.put, List.setIfInBounds_toArray, List.set_cons_zero, List.set_cons_succ, i64_w, i32_w]
                    rfl
                  refine one_ (i := 7) (N := some 13) #[true, true, true, true, true, true, true, true, false] rfl rfl (by kernel_rfl) (by decide) (fun K hK => ?_)
                  refine runs_ (v := .pointer (some ⟨wA.heap.size, 0, none⟩)) (w' := wA.alloc (.cells #[nilS, .int .i64 0, .int .i64 0] 25)) (by rfl) rfl (by first | (go_simp; done) | (go_simp; rfl)) ?_
                  refine hK.out _ _ ⟨(blk_cell (blk_alloc b1 _) 1).trans rfl, (blk_cell (blk_alloc b1 _) 2).trans rfl⟩ (fun _ => ?_)
                  clear hK K
                  refine norm_ (a' := ?_) ?_ ?_
                  rotate_left
                  · show Act.put _ (some 13) _ = _
                    simp only [Act.put, List.setIfInBounds_toArray, List.set_cons_zero, List.set_cons_succ, i64_w, i32_w]
                    rfl
                  refine one_ (i := 8) (N := none) #[true, true, true, true, true, true, true, true, true] rfl rfl (by kernel_rfl) (by decide) (fun K hK => ?_)
                  refine store_ (by rfl) rfl 25 (.tmp 13) (.tmp 77) rfl wA.heap.size #[.slice Bv mv dv, .int .i64 pex, .int .i64 pany] rfl rfl (blk_new wA _) rfl (by kernel_rfl) (strs_one_cell hst) ?_
                  intro w1 hg5 hgr hsz
                  have hb1 : Below wA.heap.size wA w1 := (below_alloc (Below.refl _ _) _).grown hgr (by simp) (fun j hj => by cases hj; exact Nat.le_refl _)
                  refine hK.out _ _ ⟨(blk_cell (blk_below b1 hb1) 1).trans rfl, (blk_cell (blk_below b1 hb1) 2).trans rfl⟩ (fun _ => ?_)
                  exact hcont (Bv, mv, dv, wA.heap.size) w1 ⟨hst.below hb1, hg5, below_step hw hb1, hw.size⟩
                · refine runs_ (v := .pointer (some ⟨w40.heap.size, 0, none⟩)) (w' := w40.alloc (.cells #[nilS, .int .i64 0, .int .i64 0] 25)) (by rfl) rfl (by first | (go_simp; done) | (go_simp; rfl)) ?_
                  have hb0 : Below w40.heap.size w40 (w40.alloc (.cells #[nilS, .int .i64 0, .int .i64 0] 25)) := below_alloc (Below.refl _ _) _
                  have b5 := blk_new w40 (.cells #[nilS, .int .i64 0, .int .i64 0] 25)
                  have b1 := blk_below B1.out hb0
                  have hk := Kd.R_below HK.out hb0
                  have hw := below_step HW.out hb0
                  have hgs := HW.out.size
                  refine hK.out _ _ ⟨(blk_cell b1 1).trans rfl, (blk_cell b1 2).trans rfl⟩ (fun _ => ?_)
                  clear hK K
                  generalize w40.alloc (.cells #[nilS, .int .i64 0, .int .i64 0] 25) = w41 at hb0 b5 b1 hk hw ⊢
                  generalize w40.heap.size = g5 at b5 hgs ⊢
                  refine norm_ (a' := ?_) ?_ ?_
                  rotate_left
                  · show Act.put _ (some 13) _ = _
                    simp only [Act.put, List.setIfInBounds_toArray, List.set_cons_zero, List.set_cons_succ, i64_w, i32_w]
                    rfl
                  refine one_ (i := 1) (N := some 72) #[true, true, true, true, true, true, false, true, false] rfl rfl (by kernel_rfl) (by decide) (fun K hK => ?_)
                  refine goes_ Tryd.func30 (by kernel_rfl) rfl #[.slice Av L.length cv'] (by rfl) rfl rfl (by (try simp only [List.map_toArray, List.map_cons, List.map_nil]); first | done | rfl) ?_
                  refine (sorted_at (Kd.R_reads' hk).2.2 hLl).mono ?_
                  rintro e wA ⟨Bv, mv, dv, rfl, hst, hb⟩
                  refine ⟨_, rfl, ?_⟩
                  refine hK.out _ _ ⟨(blk_cell (blk_below b1 hb) 1).trans rfl, (blk_cell (blk_below b1 hb) 2).trans rfl⟩ (fun _ => ?_)
                  clear hK K
                  refine norm_ (a' := ?_) ?_ ?_
                  rotate_left
                  · show Act.put _ (some 72) _ = _
                    simp only [Act.put, List.setIfInBounds_toArray, List.set_cons_zero, List.set_cons_succ, i64_w, i32_w]
                    rfl
                  refine pure_ (i := 6) (N := some 77) (v := ?_) (a' := ?_) #[true, true, true, true, true, true, true, true, false] rfl rfl (by kernel_rfl) (fun _ _ _ h => h) (Or.inl ⟨by rfl, ?_⟩) ?_ ?_
                  rotate_left
                  · intro w'
                    go_simp
                    with_reducible rfl
                  rotate_left
                  · simp only [Act.put, List.setIfInBounds_toArray, List.set_cons_zero, List.set_cons_succ, i64_w, i32_w]
                    rfl
                  refine one_ (i := 8) (N := none) #[true, true, true, true, true, true, true, true, true] rfl rfl (by kernel_rfl) (by decide) (fun K hK => ?_)
                  refine store_ (by rfl) rfl 25 (.tmp 13) (.tmp 77) rfl g5 #[.slice Bv mv dv, .int .i64 pex, .int .i64 pany] rfl rfl (blk_below b5 hb) rfl (by kernel_rfl) (strs_one_cell hst) ?_
                  intro w1 hg5 hgr hsz
                  have hw2 : Below w30.heap.size w30 w1 := (below_step hw hb).grown hgr (below_step hw hb).size (fun j hj => by cases hj; exact hgs)
                  have hst2 : Strs w1 (.slice Bv mv dv) (nrm L) := strs_grown hst hgr (blk_below b5 hb)
                  refine hK.out _ _ ⟨(blk_cell (blk_below b1w hw2) 1).trans rfl, (blk_cell (blk_below b1w hw2) 2).trans rfl⟩ (fun _ => ?_)
                  exact hcont (Bv, mv, dv, g5) w1 ⟨hst2, hg5, hw2, hgs⟩
              rintro ⟨Bv, mv, dv, g5⟩ w50 ⟨hst, hg5, hw50, hge⟩
              simp only at hst hg5 hge
              refine norm_ (a' := ?_) ?_ ?_
              rotate_left
              · simp only [putAll, Act.put, List.setIfInBounds_toArray, List.set_cons_zero, List.set_cons_succ]
                rfl
              refine done_ (by kernel_rfl) ?_
              have b1 := Aside0.mk (blk_below b1w hw50)
              have b2 := Aside0.mk (blk_below B2.out hw50)
              have b3 := Aside0.mk (blk_below B3.out hw50)
              have b5 := Aside0.mk hg5
              have HS5 := Aside0.mk hst
              have HW5 := Aside0.mk hw50
              have HGS := Aside0.mk hge
              have B1n := Aside0.mk (blk_lt b1w)
              have B2n := Aside0.mk (blk_lt B2.out)
              have B3n := Aside0.mk (blk_lt B3.out)
              clear hg5 hst hw50 hge b1w HK HW hHeld B1
              cases last with
              | true =>
                go_wp2_with (first
                  | ((with_reducible refine gate_dst (N := 96) rfl ?_); refine law_load rfl 25 _ rfl g5 rfl b5.out _ Tryd.underlying25 rfl (by kernel_rfl) ?_)
                  | (refine law_store rfl 25 _ _ rfl g3 #[.slice Bv mv dv, .int .i64 pex, .int .i64 pany] rfl rfl b3.out rfl (by kernel_rfl) (strs_one_cell HS5.out) ?_
                     intro w51 b3y hg51 hs51
                     have HE1 := Aside0.mk (And.intro b3y (And.intro (strs_grown HS5.out hg51 b3.out) ((below_step HB.out HW5.out).grown hg51 (below_step HB.out HW5.out).size (fun j hj => by cases hj; exact HG3.out))))
                     clear b3y hg51 hs51))
                obtain rfl := HST.out
                refine bodyPost_ret (results_cell_tmp rfl _ _ g3 25 _ (0, 0) _ _ rfl rfl HE1.out.1 Tryd.underlying25 rfl (by kernel_rfl)) rfl ?_
                exact ⟨⟨_, rfl, pol_of HE1.out.2.1 HE.out rfl rfl⟩, HE1.out.2.2⟩
              | false =>
                go_wp2_with (first
                  | ((with_reducible refine gate_dst (N := 81) rfl ?_); refine law_load1 rfl 3 _ rfl g1 1 rfl b1.out (.int .i64 pex) rfl _ Tryd.underlying3 rfl ?_)
                  | ((with_reducible refine gate_dst (N := 83) rfl ?_); refine law_load1 rfl 3 _ rfl g2 26 rfl b2.out (.int .i64 req) rfl _ Tryd.underlying3 rfl ?_)
                  | (go_at_call 31; (with_reducible refine (down_walk pex req (!own) _ h1).mono ?_); rintro e w_ ⟨rfl, hs_⟩; subst w_)
                  | (refine law_store1 rfl 3 (.tmp 87) (.tmp 86) rfl g5 1 (.int .i64 (down pex req (!own))) rfl rfl b5.out (by simp) (by kernel_rfl) rfl rfl ?_
                     intro w51 b5y hg51 hs51
                     have hgs5 := HGS.out
                     have HE1 := Aside0.mk (And.intro (strs_grown HS5.out hg51 b5.out) (HW5.out.grown hg51 HW5.out.size (fun j hj => by cases hj; exact hgs5)))
                     have b5' := Aside0.mk b5y
                     have b1' := Aside0.mk (blk_grown b1.out hg51 (fun e => b1n hgs5 B1n.out (Option.some.inj e)))
                     have b2' := Aside0.mk (blk_grown b2.out hg51 (fun e => b1n hgs5 B2n.out (Option.some.inj e)))
                     have b3' := Aside0.mk (blk_grown b3.out hg51 (fun e => b1n hgs5 B3n.out (Option.some.inj e)))
                     clear b5y hg51 hs51 hgs5)
                  | ((with_reducible refine gate_dst (N := 89) rfl ?_); refine law_load1 rfl 3 _ rfl g1 2 rfl b1'.out (.int .i64 pany) rfl _ Tryd.underlying3 rfl ?_)
                  | ((with_reducible refine gate_dst (N := 91) rfl ?_); refine law_load1 rfl 3 _ rfl g2 27 rfl b2'.out (.int .i64 inh) rfl _ Tryd.underlying3 rfl ?_)
                  | (go_at_call 31; (with_reducible refine (down_walk pany inh (!own) _ h2).mono ?_); rintro e w_ ⟨rfl, hs_⟩; subst w_)
                  | (refine law_store1 rfl 3 (.tmp 95) (.tmp 94) rfl g5 2 (.int .i64 (down pany inh (!own))) rfl rfl b5'.out (by simp) (by kernel_rfl) rfl rfl ?_
                     intro w52 b5z hg52 hs52
                     have hgs5 := HGS.out
                     have HE2 := Aside0.mk (And.intro (strs_grown HE1.out.1 hg52 b5'.out) (HE1.out.2.grown hg52 HE1.out.2.size (fun j hj => by cases hj; exact hgs5)))
                     have b5'' := Aside0.mk b5z
                     have b3'' := Aside0.mk (blk_grown b3'.out hg52 (fun e => b1n hgs5 B3n.out (Option.some.inj e)))
                     clear b5z hg52 hs52 hgs5)
                  | ((with_reducible refine gate_dst (N := 96) rfl ?_); refine law_load rfl 25 _ rfl g5 rfl b5''.out _ Tryd.underlying25 rfl (by kernel_rfl) ?_)
                  | (refine law_store rfl 25 _ _ rfl g3 #[.slice Bv mv dv, .int .i64 (down pex req (!own)), .int .i64 (down pany inh (!own))] rfl rfl b3''.out rfl (by kernel_rfl) (strs_one_cell HE2.out.1) ?_
                     intro w53 b3y hg53 hs53
                     have HE3 := Aside0.mk (And.intro b3y (And.intro (strs_grown HE2.out.1 hg53 b3''.out) ((below_step HB.out HE2.out.2).grown hg53 (below_step HB.out HE2.out.2).size (fun j hj => by cases hj; exact HG3.out))))
                     clear b3y hg53 hs53))
                obtain rfl := HST.out
                refine bodyPost_ret (results_cell_tmp rfl _ _ g3 25 _ (0, 0) _ _ rfl rfl HE3.out.1 Tryd.underlying25 rfl (by kernel_rfl)) rfl ?_
                exact ⟨⟨_, rfl, pol_of HE3.out.2.1 HE.out rfl rfl⟩, HE3.out.2.2⟩
          · have hl0 : (((L.length : Nat) : Int) == 0) = false := by
              rw [beq_eq_false_iff_ne]
              intro e
              exact hL (List.eq_nil_of_length_eq_zero (by omega))
            have hst : r = some ⟨norm (gather pset pany pol own last), if last = true then pex else down pex req (!own), if last = true then pany else down pany inh (!own)⟩ := by rw [← HP.out]; unfold stepV; rw [if_neg (fun h => hL (HN.out.2 h.1))]
            have HST := Aside0.mk hst
            clear hst hL
            go_upto_region 13 with fail
            clear hp1 hl0
            have HW := Aside0.mk hW2
            have b1w := B1.out
            have B1x := Aside0.mk (blk_below B1.out HW.out)
            clear B1
            have B1 := B1x
            clear B1x
            have n0_ := Aside0.mk (blk_drew B1.out)
            have n1_ := Aside0.mk (Kd.R_drew HK.out)
            have n2_ := Aside0.mk (below_drew1 HW.out)
            clear B1 HK HW
            have B1 := n0_
            have HK := n1_
            have HW := n2_
            clear n0_ n1_ n2_
            refine start_ (n := 9) (S := fun w' => w'.cell? ⟨g1, 1, none⟩ = some (.int .i64 pex) ∧ w'.cell? ⟨g1, 2, none⟩ = some (.int .i64 pany)) (ds := []) #[false, false, false, false, false, false, false, false, false] (by kernel_rfl) rfl rfl ⟨(blk_cell B1.out 1).trans rfl, (blk_cell B1.out 2).trans rfl⟩ (fun hHeld => ?_)
            generalize wc.drew = w40 at B1 HK HW hHeld ⊢
            refine pure_ (i := 0) (N := some 71) (v := ?_) (a' := ?_) #[true, false, false, false, false, false, false, false, false] rfl rfl (by kernel_rfl) (fun _ _ _ h => h) (Or.inl ⟨by rfl, ?_⟩) ?_ ?_
            rotate_left
            · intro w'
              go_simp
              with_reducible rfl
            rotate_left
            · simp only [Act.put, List.setIfInBounds_toArray, List.set_cons_zero, List.set_cons_succ, i64_w, i32_w]
              rfl
            refine pure_ (i := 2) (N := some 73) (v := ?_) (a' := ?_) #[true, false, true, false, false, false, false, false, false] rfl rfl (by kernel_rfl) (fun _ _ _ h => h) (Or.inl ⟨by rfl, ?_⟩) ?_ ?_
            rotate_left
            · intro w'
              go_simp
              with_reducible rfl
            rotate_left
            · simp only [Act.put, List.setIfInBounds_toArray, List.set_cons_zero, List.set_cons_succ, i64_w, i32_w]
              rfl
            refine take_ (i := 3) (N := some 74) (v := ?_) (a' := ?_) #[true, false, true, true, false, false, false, false, false] rfl rfl (by kernel_rfl) (fun _ _ _ h => h) (Or.inl ⟨by rfl, ?_⟩) hHeld ?_ ?_
            rotate_left
            · rintro w' ⟨s0, s1⟩
              go_simp
              with_reducible rfl
            rotate_left
            · simp only [Act.put, List.setIfInBounds_toArray, List.set_cons_zero, List.set_cons_succ, i64_w, i32_w]
              rfl
            refine pure_ (i := 4) (N := some 75) (v := ?_) (a' := ?_) #[true, false, true, true, true, false, false, false, false] rfl rfl (by kernel_rfl) (fun _ _ _ h => h) (Or.inl ⟨by rfl, ?_⟩) ?_ ?_
            rotate_left
            · intro w'
              go_simp
              with_reducible rfl
            rotate_left
            · simp only [Act.put, List.setIfInBounds_toArray, List.set_cons_zero, List.set_cons_succ, i64_w, i32_w]
              rfl
            refine take_ (i := 5) (N := some 76) (v := ?_) (a' := ?_) #[true, false, true, true, true, true, false, false, false] rfl rfl (by kernel_rfl) (fun _ _ _ h => h) (Or.inl ⟨by rfl, ?_⟩) hHeld ?_ ?_
            rotate_left
            · rintro w' ⟨s0, s1⟩
              go_simp
              with_reducible rfl
            rotate_left
            · simp only [Act.put, List.setIfInBounds_toArray, List.set_cons_zero, List.set_cons_succ, i64_w, i32_w]
              rfl
            refine join_ (σ := Option Addr × Nat × Nat × Nat) 0 #[true, true, true, true, true, true, true, true, true] (fun s => [(72, .slice s.1 s.2.1 s.2.2.1), (77, .agg #[.slice s.1 s.2.1 s.2.2.1, .int .i64 pex, .int .i64 pany]), (13, .pointer (some ⟨s.2.2.2, 0, none⟩))]) (fun s w' => Strs w' (.slice s.1 s.2.1 s.2.2.1) (nrm L) ∧ w'.heap[s.2.2.2]? = some (.cells #[.slice s.1 s.2.1 s.2.2.1, .int .i64 pex, .int .i64 pany] 25 (0, 0)) ∧ Below w30.heap.size w30 w' ∧ w30.heap.size ≤ s.2.2.2) ?cont ?orders
            case orders =>
              intro hcont
              refine two_ (i := 1) (j := 7) (Ni := some 72) (Nj := some 13) #[true, true, true, true, true, true, false, false, false] #[true, false, true, true, true, true, false, true, false] rfl rfl rfl rfl (by kernel_rfl) (by decide) (by decide) (fun K hK => ?_) (fun K hK => ?_)
              · refine goes_ Tryd.func30 (by kernel_rfl) rfl #[.slice Av L.length cv'] (by rfl) rfl rfl (by (try simp only [List.map_toArray, List.map_cons, List.map_nil]); first | done | rfl) ?_
                refine (sorted_at (Kd.R_reads' HK.out).2.2 hLl).mono ?_
                rintro e wA ⟨Bv, mv, dv, rfl, hst, hb⟩
                refine ⟨_, rfl, ?_⟩
                have b1 := blk_below B1.out hb
                have hw := below_step HW.out hb
                refine hK.out _ _ ⟨(blk_cell b1 1).trans rfl, (blk_cell b1 2).trans rfl⟩ (fun _ => ?_)
                clear hK K
                refine norm_ (a' := ?_) ?_ ?_
                rotate_left
                · show Act.put _ (some 72) _ = _
                  simp only [Act.put, List.setIfInBounds_toArray, List.set_cons_zero, List.set_cons_succ, i64_w, i32_w]
                  rfl
                refine pure_ (i := 6) (N := some 77) (v := ?_) (a' := ?_) #[true, true, true, true, true, true, true, false, false] rfl rfl (by kernel_rfl) (fun _ _ _ h => h) (Or.inl ⟨by rfl, ?_⟩) ?_ ?_
                rotate_left
                · intro w'
                  go_simp
                  with_reducible rfl
                rotate_left
                · simp only [Act.put, List.setIfInBounds_toArray, List.set_cons_zero, List.set_cons_succ, i64_w, i32_w]
                  rfl
                refine one_ (i := 7) (N := some 13) #[true, true, true, true, true, true, true, true, false] rfl rfl (by kernel_rfl) (by decide) (fun K hK => ?_)
                refine runs_ (v := .pointer (some ⟨wA.heap.size, 0, none⟩)) (w' := wA.alloc (.cells #[nilS, .int .i64 0, .int .i64 0] 25)) (by rfl) rfl (by first | (go_simp; done) | (go_simp; rfl)) ?_
                refine hK.out _ _ ⟨(blk_cell (blk_alloc b1 _) 1).trans rfl, (blk_cell (blk_alloc b1 _) 2).trans rfl⟩ (fun _ => ?_)
                clear hK K
                refine norm_ (a' := ?_) ?_ ?_
                rotate_left
                · show Act.put _ (some 13) _ = _
                  simp only [Act.put, List.setIfInBounds_toArray, List.set_cons_zero, List.set_cons_succ, i64_w, i32_w]
                  rfl
                refine one_ (i := 8) (N := none) #[true, true, true, true, true, true, true, true, true] rfl rfl (by kernel_rfl) (by decide) (fun K hK => ?_)
                refine store_ (by rfl) rfl 25 (.tmp 13) (.tmp 77) rfl wA.heap.size #[.slice Bv mv dv, .int .i64 pex, .int .i64 pany] rfl rfl (blk_new wA _) rfl (by kernel_rfl) (strs_one_cell hst) ?_
                intro w1 hg5 hgr hsz
                have hb1 : Below wA.heap.size wA w1 := (below_alloc (Below.refl _ _) _).grown hgr (by simp) (fun j hj => by cases hj; exact Nat.le_refl _)
                refine hK.out _ _ ⟨(blk_cell (blk_below b1 hb1) 1).trans rfl, (blk_cell (blk_below b1 hb1) 2).trans rfl⟩ (fun _ => ?_)
                exact hcont (Bv, mv, dv, wA.heap.size) w1 ⟨hst.below hb1, hg5, below_step hw hb1, hw.size⟩
              · refine runs_ (v := .pointer (some ⟨w40.heap.size, 0, none⟩)) (w' := w40.alloc (.cells #[nilS, .int .i64 0, .int .i64 0] 25)) (by rfl) rfl (by first | (go_simp; done) | (go_simp; rfl)) ?_
                have hb0 : Below w40.heap.size w40 (w40.alloc (.cells #[nilS, .int .i64 0, .int .i64 0] 25)) := below_alloc (Below.refl _ _) _
                have b5 := blk_new w40 (.cells #[nilS, .int .i64 0, .int .i64 0] 25)
                have b1 := blk_below B1.out hb0
                have hk := Kd.R_below HK.out hb0
                have hw := below_step HW.out hb0
                have hgs := HW.out.size
                refine hK.out _ _ ⟨(blk_cell b1 1).trans rfl, (blk_cell b1 2).trans rfl⟩ (fun _ => ?_)
                clear hK K
                generalize w40.alloc (.cells #[nilS, .int .i64 0, .int .i64 0] 25) = w41 at hb0 b5 b1 hk hw ⊢
                generalize w40.heap.size = g5 at b5 hgs ⊢
                refine norm_ (a' := ?_) ?_ ?_
                rotate_left
                · show Act.put _ (some 13) _ = _
                  simp only [Act.put, List.setIfInBounds_toArray, List.set_cons_zero, List.set_cons_succ, i64_w, i32_w]
                  rfl
                refine one_ (i := 1) (N := some 72) #[true, true, true, true, true, true, false, true, false] rfl rfl (by kernel_rfl) (by decide) (fun K hK => ?_)
                refine goes_ Tryd.func30 (by kernel_rfl) rfl #[.slice Av L.length cv'] (by rfl) rfl rfl (by (try simp only [List.map_toArray, List.map_cons, List.map_nil]); first | done | rfl) ?_
                refine (sorted_at (Kd.R_reads' hk).2.2 hLl).mono ?_
                rintro e wA ⟨Bv, mv, dv, rfl, hst, hb⟩
                refine ⟨_, rfl, ?_⟩
                refine hK.out _ _ ⟨(blk_cell (blk_below b1 hb) 1).trans rfl, (blk_cell (blk_below b1 hb) 2).trans rfl⟩ (fun _ => ?_)
                clear hK K
                refine norm_ (a' := ?_) ?_ ?_
                rotate_left
                · show Act.put _ (some 72) _ = _
                  simp only [Act.put, List.setIfInBounds_toArray, List.set_cons_zero, List.set_cons_succ, i64_w, i32_w]
                  rfl
                refine pure_ (i := 6) (N := some 77) (v := ?_) (a' := ?_) #[true, true, true, true, true, true, true, true, false] rfl rfl (by kernel_rfl) (fun _ _ _ h => h) (Or.inl ⟨by rfl, ?_⟩) ?_ ?_
                rotate_left
                · intro w'
                  go_simp
                  with_reducible rfl
                rotate_left
                · simp only [Act.put, List.setIfInBounds_toArray, List.set_cons_zero, List.set_cons_succ, i64_w, i32_w]
                  rfl
                refine one_ (i := 8) (N := none) #[true, true, true, true, true, true, true, true, true] rfl rfl (by kernel_rfl) (by decide) (fun K hK => ?_)
                refine store_ (by rfl) rfl 25 (.tmp 13) (.tmp 77) rfl g5 #[.slice Bv mv dv, .int .i64 pex, .int .i64 pany] rfl rfl (blk_below b5 hb) rfl (by kernel_rfl) (strs_one_cell hst) ?_
                intro w1 hg5 hgr hsz
                have hw2 : Below w30.heap.size w30 w1 := (below_step hw hb).grown hgr (below_step hw hb).size (fun j hj => by cases hj; exact hgs)
                have hst2 : Strs w1 (.slice Bv mv dv) (nrm L) := strs_grown hst hgr (blk_below b5 hb)
                refine hK.out _ _ ⟨(blk_cell (blk_below b1w hw2) 1).trans rfl, (blk_cell (blk_below b1w hw2) 2).trans rfl⟩ (fun _ => ?_)
                exact hcont (Bv, mv, dv, g5) w1 ⟨hst2, hg5, hw2, hgs⟩
            rintro ⟨Bv, mv, dv, g5⟩ w50 ⟨hst, hg5, hw50, hge⟩
            simp only at hst hg5 hge
            refine norm_ (a' := ?_) ?_ ?_
            rotate_left
            · simp only [putAll, Act.put, List.setIfInBounds_toArray, List.set_cons_zero, List.set_cons_succ]
              rfl
            refine done_ (by kernel_rfl) ?_
            have b1 := Aside0.mk (blk_below b1w hw50)
            have b2 := Aside0.mk (blk_below B2.out hw50)
            have b3 := Aside0.mk (blk_below B3.out hw50)
            have b5 := Aside0.mk hg5
            have HS5 := Aside0.mk hst
            have HW5 := Aside0.mk hw50
            have HGS := Aside0.mk hge
            have B1n := Aside0.mk (blk_lt b1w)
            have B2n := Aside0.mk (blk_lt B2.out)
            have B3n := Aside0.mk (blk_lt B3.out)
            clear hg5 hst hw50 hge b1w HK HW hHeld B1
            cases last with
            | true =>
              go_wp2_with (first
                | ((with_reducible refine gate_dst (N := 96) rfl ?_); refine law_load rfl 25 _ rfl g5 rfl b5.out _ Tryd.underlying25 rfl (by kernel_rfl) ?_)
                | (refine law_store rfl 25 _ _ rfl g3 #[.slice Bv mv dv, .int .i64 pex, .int .i64 pany] rfl rfl b3.out rfl (by kernel_rfl) (strs_one_cell HS5.out) ?_
                   intro w51 b3y hg51 hs51
                   have HE1 := Aside0.mk (And.intro b3y (And.intro (strs_grown HS5.out hg51 b3.out) ((below_step HB.out HW5.out).grown hg51 (below_step HB.out HW5.out).size (fun j hj => by cases hj; exact HG3.out))))
                   clear b3y hg51 hs51))
              obtain rfl := HST.out
              refine bodyPost_ret (results_cell_tmp rfl _ _ g3 25 _ (0, 0) _ _ rfl rfl HE1.out.1 Tryd.underlying25 rfl (by kernel_rfl)) rfl ?_
              exact ⟨⟨_, rfl, pol_of HE1.out.2.1 HE.out rfl rfl⟩, HE1.out.2.2⟩
            | false =>
              go_wp2_with (first
                | ((with_reducible refine gate_dst (N := 81) rfl ?_); refine law_load1 rfl 3 _ rfl g1 1 rfl b1.out (.int .i64 pex) rfl _ Tryd.underlying3 rfl ?_)
                | ((with_reducible refine gate_dst (N := 83) rfl ?_); refine law_load1 rfl 3 _ rfl g2 26 rfl b2.out (.int .i64 req) rfl _ Tryd.underlying3 rfl ?_)
                | (go_at_call 31; (with_reducible refine (down_walk pex req (!own) _ h1).mono ?_); rintro e w_ ⟨rfl, hs_⟩; subst w_)
                | (refine law_store1 rfl 3 (.tmp 87) (.tmp 86) rfl g5 1 (.int .i64 (down pex req (!own))) rfl rfl b5.out (by simp) (by kernel_rfl) rfl rfl ?_
                   intro w51 b5y hg51 hs51
                   have hgs5 := HGS.out
                   have HE1 := Aside0.mk (And.intro (strs_grown HS5.out hg51 b5.out) (HW5.out.grown hg51 HW5.out.size (fun j hj => by cases hj; exact hgs5)))
                   have b5' := Aside0.mk b5y
                   have b1' := Aside0.mk (blk_grown b1.out hg51 (fun e => b1n hgs5 B1n.out (Option.some.inj e)))
                   have b2' := Aside0.mk (blk_grown b2.out hg51 (fun e => b1n hgs5 B2n.out (Option.some.inj e)))
                   have b3' := Aside0.mk (blk_grown b3.out hg51 (fun e => b1n hgs5 B3n.out (Option.some.inj e)))
                   clear b5y hg51 hs51 hgs5)
                | ((with_reducible refine gate_dst (N := 89) rfl ?_); refine law_load1 rfl 3 _ rfl g1 2 rfl b1'.out (.int .i64 pany) rfl _ Tryd.underlying3 rfl ?_)
                | ((with_reducible refine gate_dst (N := 91) rfl ?_); refine law_load1 rfl 3 _ rfl g2 27 rfl b2'.out (.int .i64 inh) rfl _ Tryd.underlying3 rfl ?_)
                | (go_at_call 31; (with_reducible refine (down_walk pany inh (!own) _ h2).mono ?_); rintro e w_ ⟨rfl, hs_⟩; subst w_)
                | (refine law_store1 rfl 3 (.tmp 95) (.tmp 94) rfl g5 2 (.int .i64 (down pany inh (!own))) rfl rfl b5'.out (by simp) (by kernel_rfl) rfl rfl ?_
                   intro w52 b5z hg52 hs52
                   have hgs5 := HGS.out
                   have HE2 := Aside0.mk (And.intro (strs_grown HE1.out.1 hg52 b5'.out) (HE1.out.2.grown hg52 HE1.out.2.size (fun j hj => by cases hj; exact hgs5)))
                   have b5'' := Aside0.mk b5z
                   have b3'' := Aside0.mk (blk_grown b3'.out hg52 (fun e => b1n hgs5 B3n.out (Option.some.inj e)))
                   clear b5z hg52 hs52 hgs5)
                | ((with_reducible refine gate_dst (N := 96) rfl ?_); refine law_load rfl 25 _ rfl g5 rfl b5''.out _ Tryd.underlying25 rfl (by kernel_rfl) ?_)
                | (refine law_store rfl 25 _ _ rfl g3 #[.slice Bv mv dv, .int .i64 (down pex req (!own)), .int .i64 (down pany inh (!own))] rfl rfl b3''.out rfl (by kernel_rfl) (strs_one_cell HE2.out.1) ?_
                   intro w53 b3y hg53 hs53
                   have HE3 := Aside0.mk (And.intro b3y (And.intro (strs_grown HE2.out.1 hg53 b3''.out) ((below_step HB.out HE2.out.2).grown hg53 (below_step HB.out HE2.out.2).size (fun j hj => by cases hj; exact HG3.out))))
                   clear b3y hg53 hs53))
              obtain rfl := HST.out
              refine bodyPost_ret (results_cell_tmp rfl _ _ g3 25 _ (0, 0) _ _ rfl rfl HE3.out.1 Tryd.underlying25 rfl (by kernel_rfl)) rfl ?_
              exact ⟨⟨_, rfl, pol_of HE3.out.2.1 HE.out rfl rfl⟩, HE3.out.2.2⟩
    · intro x c kl_ y ps w32 cnt1 hkey hlk hy hat hrg1 hlt hg1 hs1 hen
      obtain ⟨rfl, hxs⟩ := key_inv hkey
      have HR1 := Aside0.mk hrg1
      have HK1 := Aside0.mk (Kd.R_grown HK.out hg1 (fun k hk e => hk (Option.some.inj e)))
      have HW1 := Aside0.mk (HW.out.grown hg1 HW.out.size (fun j hj => by cases hj; exact Nat.le_of_eq hr))
      have HM := Aside0.mk (show w32.rangeLeft m2 rr < wr.rangeLeft m2 rr by rw [hrg1.left_eq, HR.out.left_eq]; exact hlt)
      have HC1 := Aside0.mk hlt
      have HLK := Aside0.mk hlk
      obtain ⟨a1, h10, h11, h1i, hl1⟩ := look_cnt HM1.out hxs hpl
      obtain ⟨a2, h20, h21, h2i, hl2⟩ := look_cnt HM1.out (s := bAny) (by decide) hpl
      have hl1 := hl1 w32 HW1.out
      have hl2 := hl2 w32 HW1.out
      clear hrg1 hg1 hlt hkey hlk hy hat hs1
      by_cases hany : x = bAny
      · have HS1 := Aside0.mk (HA.out.skip x (fun h => h.1 hany) HLK.out)
        subst hany
        clear h1i h2i hl1 hl2
        go_wp2
        go_roundw
        case rel => exact ⟨_, _, acc, ⟨HR1.out⟩, ⟨by have := HL.out; have := HC1.out; omega⟩, ⟨HK1.out⟩, ⟨HS1.out⟩, ⟨HW1.out⟩⟩
        case measure => exact HM.out
      · have hb := any_ne hany
        by_cases hin : x ∈ pp ∨ bAny ∈ pp
        · have HS1 := Aside0.mk (HA.out.take HT.out x ⟨hany, hin⟩ HLK.out)
          have hsum : 0 < a1 + a2 := by
            rcases hin with h | h
            · have := h1i.2 h; omega
            · have := h2i.2 h; omega
          clear h1i h2i hin hany
          have hbase : rr ≤ w32.heap.size := by have := HW1.out.size; omega
          have hrlt : rr < w32.heap.size := HR1.out.lt
          have HBW := Aside0.mk (show Below rr w30 w32 by rw [← hr]; exact HW1.out)
          have HO1 := Aside0.mk HK1.out.1
          go_wp2_with
            (at_builtin; refine Kd.R_append Kd.string (w0 := w30) rr rfl (.tmp 39) (.tmp 41) 23 9 (.string ⟨#[]⟩) 16 rfl Tryd.underlying23 info9 rfl (by decide) (by decide) _ acc x [.string x] (fun k => k ≠ rr) (fun _ => False) rfl rfl rfl (fun _ h => h.elim) (fun k hk e => by omega) HK1.out HBW.out hbase (by have := HL.out; omega) ?_
             intro v1 w33 hR hBl hgr hat1)
          have hne : ∀ k, Value.ownBlock u11 = some k → rr ≤ k ∧ k ≠ rr := fun k hk => ⟨hR_base HK1.out k hk, HO1.out k hk⟩
          have hR2 := HR1.out.kept hgr (fun e => by have := hne m2 e.symm; omega) (fun e => by have := hne rr e.symm; omega)
          have HM2x := Aside0.mk (show w33.rangeLeft m2 rr < wr.rangeLeft m2 rr by rw [hR2.left_eq, HR.out.left_eq]; exact HC1.out)
          have HB2 := Aside0.mk (show Below w30.heap.size w30 w33 by rw [hr]; exact hBl)
          have HR2 := Aside0.mk hR2
          have HK2 := Aside0.mk hR
          clear hgr hat1 hne hR2 hR hBl hbase hrlt hsum hb
          go_roundw
          case rel => exact ⟨_, _, acc ++ [x], ⟨HR2.out⟩, ⟨by have := HL.out; have := HC1.out; rw [List.length_append]; simp; omega⟩, ⟨HK2.out⟩, ⟨HS1.out⟩, ⟨HB2.out⟩⟩
          case measure => exact HM2x.out
        · have HS1 := Aside0.mk (HA.out.skip x (fun h => hin h.2) HLK.out)
          have hsum : a1 + a2 ≤ 0 := by
            have g1 : ¬ 0 < a1 := fun h => hin (.inl (h1i.1 h))
            have g2 : ¬ 0 < a2 := fun h => hin (.inr (h2i.1 h))
            omega
          clear h1i h2i hin hany
          go_wp2
          go_roundw
          case rel => exact ⟨_, _, acc, ⟨HR1.out⟩, ⟨by have := HL.out; have := HC1.out; omega⟩, ⟨HK1.out⟩, ⟨HS1.out⟩, ⟨HW1.out⟩⟩
          case measure => exact HM.out
end Go.Proofs.YtgeoibgohlpfjaaDoor.Py
