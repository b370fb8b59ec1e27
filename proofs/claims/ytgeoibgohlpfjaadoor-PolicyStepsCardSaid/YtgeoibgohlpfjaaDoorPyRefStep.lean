/- The reference's Step, walked (written by refstepgen.py). -/
import Derived.Test.YtgeoibgohlpfjaaDoorPyRefKey
import Derived.Test.YtgeoibgohlpfjaaDoorPyRefEnd
set_option linter.unusedVariables false
set_option linter.unusedSimpArgs false
namespace Go.Proofs.YtgeoibgohlpfjaaDoor.Py
open Go Go.RowKit Go.Maps Go.Proofs.YtgeoibgohlpfjaaDoorW.PrintWords Go.Proofs.YtgeoibgohlpfjaaDoorW.PrintLast Go.Proofs.YtgeoibgohlpfjaaDoorW.PrintMore Go.Proofs.YtgeoibgohlpfjaaDoor.PPut
theorem mem_gather {set pol : List S} {any : Int} {own last : Bool} (x : S) : x ∈ gather set any pol own last ↔ (x ∈ pol ∧ x ≠ anyP ∧ (x ∈ set ∨ anyP ∈ set)) ∨ ((anyP ∈ pol ∧ (any > 0 ∨ (own = true ∧ last = false))) ∧ x ∈ set) := by
  unfold gather
  rw [List.mem_append, List.mem_filter, decide_eq_true_eq]
  by_cases h : anyP ∈ pol ∧ (any > 0 ∨ (own = true ∧ last = false))
  · rw [if_pos h]
    exact ⟨fun h1 => h1.imp id (fun h2 => ⟨h, h2⟩), fun h1 => h1.imp id (fun h2 => h2.2)⟩
  · rw [if_neg h]
    refine ⟨fun h1 => h1.imp id (fun h2 => ?_), fun h1 => h1.imp id (fun h2 => absurd h2.1 h)⟩
    simp at h2
theorem norm_nil_iff (G : List S) : norm G = [] ↔ G = [] := by
  rw [List.eq_nil_iff_forall_not_mem, List.eq_nil_iff_forall_not_mem]
  exact ⟨fun h x hx => h x ((norm_mem G x).2 hx), fun h x hx => h x ((norm_mem G x).1 hx)⟩
theorem put_norm (G : List S) (s : S) : put (norm G) s = norm (G ++ [s]) := ss_ext (put_ss (norm_ss G) s) (norm_ss _) (fun x => by
  rw [put_mem, norm_mem, norm_mem, List.mem_append, List.mem_singleton]
  exact Or.comm)
theorem gather_len (set pol : List S) (any : Int) (own last : Bool) : (gather set any pol own last).length ≤ pol.length + set.length := by
  unfold gather
  rw [List.length_append]
  have := List.length_filter_le (fun s => decide (s ≠ anyP ∧ (s ∈ set ∨ anyP ∈ set))) pol
  split
  · omega
  · simp only [List.length_nil]
    omega
section
variable {set pol pol' : List S} {any : Int} {own last : Bool} {s : S}
theorem gk_put (hs : pol' = pol ++ [s]) (hne : s ≠ anyP) (hin : s ∈ set ∨ anyP ∈ set) : norm (gather set any pol own last ++ [s]) = norm (gather set any pol' own last) := norm_ext fun x => by
  subst hs
  rw [List.mem_append, List.mem_singleton, mem_gather, mem_gather, List.mem_append, List.mem_append, List.mem_singleton, List.mem_singleton]
  constructor
  · rintro ((⟨h1, h2, h3⟩ | ⟨⟨h1, h2⟩, h3⟩) | rfl)
    · exact .inl ⟨.inl h1, h2, h3⟩
    · exact .inr ⟨⟨.inl h1, h2⟩, h3⟩
    · exact .inl ⟨.inr rfl, hne, hin⟩
  · rintro (⟨h1 | rfl, h2, h3⟩ | ⟨⟨h1 | h1, h2⟩, h3⟩)
    · exact .inl (.inl ⟨h1, h2, h3⟩)
    · exact .inr rfl
    · exact .inl (.inr ⟨⟨h1, h2⟩, h3⟩)
    · exact absurd h1.symm hne
theorem gk_skip (hs : pol' = pol ++ [s]) (hne : s ≠ anyP) (hin : ¬ (s ∈ set ∨ anyP ∈ set)) : norm (gather set any pol own last) = norm (gather set any pol' own last) := norm_ext fun x => by
  subst hs
  rw [mem_gather, mem_gather, List.mem_append, List.mem_append, List.mem_singleton, List.mem_singleton]
  constructor
  · rintro (⟨h1, h2, h3⟩ | ⟨⟨h1, h2⟩, h3⟩)
    · exact .inl ⟨.inl h1, h2, h3⟩
    · exact .inr ⟨⟨.inl h1, h2⟩, h3⟩
  · rintro (⟨h1 | rfl, h2, h3⟩ | ⟨⟨h1 | h1, h2⟩, h3⟩)
    · exact .inl ⟨h1, h2, h3⟩
    · exact absurd h3 hin
    · exact .inr ⟨⟨h1, h2⟩, h3⟩
    · exact absurd h1.symm hne
theorem gk_all (hs : pol' = pol ++ [anyP]) (hg : any > 0 ∨ (own = true ∧ last = false)) : norm (gather set any pol own last ++ set) = norm (gather set any pol' own last) := norm_ext fun x => by
  subst hs
  rw [List.mem_append, mem_gather, mem_gather, List.mem_append, List.mem_append, List.mem_singleton, List.mem_singleton]
  constructor
  · rintro ((⟨h1, h2, h3⟩ | ⟨⟨h1, h2⟩, h3⟩) | h3)
    · exact .inl ⟨.inl h1, h2, h3⟩
    · exact .inr ⟨⟨.inl h1, h2⟩, h3⟩
    · exact .inr ⟨⟨.inr rfl, hg⟩, h3⟩
  · rintro (⟨h1 | h1, h2, h3⟩ | ⟨⟨h1 | h1, h2⟩, h3⟩)
    · exact .inl (.inl ⟨h1, h2, h3⟩)
    · exact absurd h1 h2
    · exact .inl (.inr ⟨⟨h1, h2⟩, h3⟩)
    · exact .inr h3
theorem gk_none (hs : pol' = pol ++ [anyP]) (hg : ¬ (any > 0 ∨ (own = true ∧ last = false))) : norm (gather set any pol own last) = norm (gather set any pol' own last) := norm_ext fun x => by
  subst hs
  rw [mem_gather, mem_gather, List.mem_append, List.mem_append, List.mem_singleton, List.mem_singleton]
  constructor
  · rintro (⟨h1, h2, h3⟩ | ⟨⟨h1, h2⟩, h3⟩)
    · exact .inl ⟨.inl h1, h2, h3⟩
    · exact .inr ⟨⟨.inl h1, h2⟩, h3⟩
  · rintro (⟨h1 | h1, h2, h3⟩ | ⟨⟨h1 | h1, h2⟩, h3⟩)
    · exact .inl ⟨h1, h2, h3⟩
    · exact absurd h1 h2
    · exact .inr ⟨⟨h1, h2⟩, h3⟩
    · exact absurd h2 hg
end
/-- Put on a row of the call's own, beside a block of another kind -/
theorem put_beside {w0 w : World} {v : Value} {G : List S} {x : ByteArray} {s : S} {g : Nat} {ob : Obj} (hx : x = bs s) (hg : w.heap[g]? = some ob) (hB : Below w0.heap.size w0 w) (h : Kd.R Kd.string 9 w w0.heap.size (fun k => k ≠ g) v ((norm G).map bs)) (hl : G.length ≤ 900000) :
    Calls Tryd.prog 27 #[v, .string x] w fun e w' => ∃ A n c, e = .returned (.slice A n c) ∧ Kd.R Kd.string 9 w' w0.heap.size (fun k => k ≠ g) (.slice A n c) ((norm (G ++ [s])).map bs) ∧ Below w0.heap.size w0 w' ∧ w'.heap[g]? = some ob := by
  subst hx
  have hlen : (norm G).length ≤ 900000 := Nat.le_trans (norm_length G) hl
  obtain ⟨r, hr, he⟩ := put_f ((norm G).map bs) (bs s) (by rw [List.length_map]; exact hlen) (by rw [map_tl_bs]; exact norm_ss G)
  have hlt := blk_lt hg
  refine (chirographref15_Put.calls 1000002 (fun k => k ≠ g) v _ (bs s) r w0 w hB h hr).mono fun e w' ⟨v', h1, h2, h3, h4⟩ => ?_
  have hre : r = (norm (G ++ [s])).map bs := by
    rw [← put_norm, ← tl_bs s, ← map_tl_bs (norm G), ← he, List.map_map]
    exact (List.map_id'' (fun x => bs_tl x) r).symm
  subst hre
  obtain ⟨A, c, rfl⟩ := Kd.R_slice h2
  refine ⟨A, _, c, h1, Kd.R_mono h2 (fun k hk => ?_), h3, (h4.2 g hlt (by simp)).trans hg⟩
  rcases hk with hk | hk
  · exact hk
  · omega
theorem ownR_of {w : World} {v : Value} {pol : List S} {req inh : Int} {own : Bool} (h : CertOf w v ⟨pol, req, inh, own⟩) : Calls Tryd.prog 32 #[v] w fun e w' => e = .returned (.bool own) ∧ Below w.heap.size w w' := ownR_walk v _ w h
set_option maxHeartbeats 8000000 in
set_option maxRecDepth 100000 in
theorem stepR_walk (v cv : Value) (p : Pl) (c : Cb) (last : Bool) (w : World) (hv : PolIs w v p) (hc : CertOf w cv c) (hp : p.set.length ≤ 200000) (hcl : c.pol.length ≤ 200000)
    (h1 : p.ex ≤ 9223372036854775807) (h2 : p.any ≤ 9223372036854775807) : Calls Tryd.prog 17 #[v, cv, .bool last] w (StepPost (stepV p c last) w) := by
  obtain ⟨sv, rfl, hs⟩ := hv
  have hc0 := hc
  obtain ⟨pv, n, rfl, hpv, hn⟩ := hc
  obtain ⟨A, cA, rfl, hcA, hnA⟩ := hs.open_
  obtain ⟨C, cC, rfl, hcC, hnC⟩ := hpv.open_
  have HB0 := Aside0.mk (And.intro hs hpv)
  have HC0 := Aside0.mk hc0
  obtain ⟨pol, req, inh, own⟩ := c
  obtain ⟨pset, pex, pany⟩ := p
  simp only at HB0 HC0 h1 h2 hp hcl ⊢
  generalize (if own = true then n else nilS) = s at HC0 ⊢
  clear hc0 hs hpv hn hcA hnA hcC hnC
  generalize hstep : stepV ⟨pset, pex, pany⟩ ⟨pol, req, inh, own⟩ last = r
  have HP := Aside0.mk hstep
  clear hstep
  obtain ⟨n0, hn0⟩ : ∃ n0, pset.length = n0 := ⟨_, rfl⟩
  obtain ⟨n1, hn1⟩ : ∃ n1, pol.length = n1 := ⟨_, rfl⟩
  rw [hn0] at HB0 hp ⊢
  rw [hn1] at HB0 HC0 hcl ⊢
  have HN := Aside0.mk (And.intro hn0 hn1)
  clear hn0 hn1
  have HB := Aside0.mk (Below.refl w.heap.size w)
  go_enter Tryd.func17, Tryd.ntmps17
  go_upto_region 3 with (first
    | ((with_reducible refine gate_dst (N := 3) rfl ?_); refine law_new ?hg (N := 3) ?hd (ob := .cells #[.slice A n0 cA, .int .i64 pex, .int .i64 pany] 25 (0, 0)) (V := fun g => .pointer (some ⟨g, 0, none⟩)) ?hr ?_; (case hd => rfl); (case hg => rfl); (case hr => first | (go_simp; done) | (go_simp; rfl))
       intro g1 hg1 w1 b1 hb1
       have B1 := Aside0.mk b1
       clear b1
       have HS := Aside0.mk (And.intro (HB0.out.1.below hb1) (HB0.out.2.below hb1))
       have HC := Aside0.mk (HC0.out.below hb1)
       have HBx := Aside0.mk (below_step HB.out hb1)
       clear HB hb1 hg1 HB0 HC0)
    | ((with_reducible refine gate_dst (N := 4) rfl ?_); refine law_new ?hg (N := 4) ?hd (ob := .cells (certC (.slice C n1 cC) n s req inh) 48 (0, 0)) (V := fun g => .pointer (some ⟨g, 0, none⟩)) ?hr ?_; (case hd => rfl); (case hg => rfl); (case hr => first | (go_simp; done) | (go_simp; rfl))
       intro g2 hg2 w2 b2 hb2
       have B2 := Aside0.mk b2
       clear b2
       have B1x := Aside0.mk (blk_below B1.out hb2)
       have HSx := Aside0.mk (And.intro (HS.out.1.below hb2) (HS.out.2.below hb2))
       have HCx := Aside0.mk (HC.out.below hb2)
       have HB := Aside0.mk (below_step HBx.out hb2)
       clear HBx hb2 hg2 B1 HS HC)
    | ((with_reducible refine gate_dst (N := 6) rfl ?_); refine law_new ?hg (N := 6) ?hd (ob := .cells #[nilS, .int .i64 0, .int .i64 0] 25 (0, 0)) (V := fun g => .pointer (some ⟨g, 0, none⟩)) ?hr ?_; (case hd => rfl); (case hg => rfl); (case hr => first | (go_simp; done) | (go_simp; rfl))
       intro g3 hg3 w3 b3 hb3
       have B3 := Aside0.mk b3
       clear b3
       have B1 := Aside0.mk (blk_below B1x.out hb3)
       have B2x := Aside0.mk (blk_below B2.out hb3)
       have HS := Aside0.mk (And.intro (HSx.out.1.below hb3) (HSx.out.2.below hb3))
       have HC := Aside0.mk (HCx.out.below hb3)
       have HBx := Aside0.mk (below_step HB.out hb3)
       have HG3 := Aside0.mk (show w.heap.size ≤ g3 by rw [hg3]; exact HB.out.size)
       clear HB hb3 hg3 B1x B2 HSx HCx)
    | ((with_reducible refine gate_dst (N := 14) rfl ?_); refine law_load rfl 48 _ rfl g2 rfl B2x.out _ Tryd.underlying48 rfl (by kernel_rfl) ?_)
    | (go_at_call 32; refine (ownR_of HC.out).mono ?_; rintro e w4 ⟨rfl, hb4⟩
       have B3x := Aside0.mk (blk_below B3.out hb4)
       have B1x := Aside0.mk (blk_below B1.out hb4)
       have B2 := Aside0.mk (blk_below B2x.out hb4)
       have HSx := Aside0.mk (And.intro (HS.out.1.below hb4) (HS.out.2.below hb4))
       have HB := Aside0.mk (below_step HBx.out hb4)
       clear HBx hb4 B1 B2x B3 HS HC)
    | ((with_reducible refine gate_dst (N := 17) rfl ?_); refine law_load1 rfl 3 _ rfl g1 1 rfl B1x.out (.int .i64 pex) rfl _ Tryd.underlying3 rfl ?_)
    | ((with_reducible refine gate_dst (N := 19) rfl ?_); refine law_load1 rfl 3 _ rfl g1 2 rfl B1x.out (.int .i64 pany) rfl _ Tryd.underlying3 rfl ?_)
    | ((with_reducible refine gate_dst (N := 9) rfl ?_); refine law_new ?hg (N := 9) ?hd (ob := .cells #[nilS, .int .i64 0, .int .i64 0] 25 (0, 0)) (V := fun g => .pointer (some ⟨g, 0, none⟩)) ?hr ?_; (case hd => rfl); (case hg => rfl); (case hr => first | (go_simp; done) | (go_simp; rfl))
       intro g5 hg5 w5 b5 hb5
       have B5 := Aside0.mk b5
       have HW5 := Aside0.mk hb5
       have HG5 := Aside0.mk (show w4.heap.size ≤ g5 from Nat.le_of_eq hg5.symm)
       clear b5 hb5 hg5)
    | (refine law_store rfl 25 _ _ rfl g5 #[nilS, .int .i64 pex, .int .i64 pany] rfl rfl B5.out rfl (by kernel_rfl) (strs_one_cell (Strs.nil w)) ?_
       intro w6 b6 hg6 hs6
       have B5x := Aside0.mk b6
       have HW := Aside0.mk (HW5.out.grown hg6 HW5.out.size (fun j hj => by cases hj; exact HG5.out))
       clear b6 hg6 hs6 B5 HW5))
  have HBW := HB
  have B1w := B1x
  have B2w := B2
  have B3w := B3x
  have HSw := HSx
  clear HB B1x B2 B3x HSx
  generalize hpp : pset.map bs = pp at HSw
  generalize hcc : pol.map bs = cc at HSw
  have hpl : pp.length = n0 := by rw [← hpp, List.length_map]; exact HN.out.1
  have HPC := Aside0.mk (And.intro hpp (And.intro hcc hpl))
  clear hpp hcc hpl
  have hp0 : w6.cell? ⟨g1, 0, none⟩ = some (.slice A n0 cA) := by rw [cell_of_row _ g1 0 _ _ _ (blk_below B1w.out HW.out)]; rfl
  go_upto_region 4 with
    (go_at_call 33; refine (in_walk bAny _ pp w6 (HSw.out.1.below HW.out) (by have := HPC.out.2.2; omega)).mono ?_; rintro e w7 ⟨rfl, hb7⟩
     have B5 := Aside0.mk (blk_below B5x.out hb7)
     have HWx := Aside0.mk (below_step HW.out hb7)
     clear hb7 B5x HW)
  have HW := HWx
  clear HWx hp0
  obtain ⟨all, hall⟩ : ∃ b, memB bAny pp = b := ⟨_, rfl⟩
  rw [hall]
  have HALL := Aside0.mk hall
  clear hall
  go_wp2
  go_loopw [11] (fun i wr => ∃ (k : Nat) (Q : Option Addr) (nq cq : Nat), k ≤ n1 ∧ i = .int .i64 k ∧ Aside0 (wr.heap[g5]? = some (.cells #[.slice Q nq cq, .int .i64 pex, .int .i64 pany] 25 (0, 0))) ∧ Aside0 (Kd.R Kd.string 9 wr w4.heap.size (fun j => j ≠ g5) (.slice Q nq cq) ((norm (gather pset pany (pol.take k) own last)).map bs)) ∧ Aside0 (Below w4.heap.size w4 wr)) (fun i _ => n1 - (intOf i).toNat)
  case atStart => exact ⟨0, none, 0, 0, Nat.zero_le _, rfl, ⟨B5.out⟩, ⟨by rw [List.take_zero]; simp only [gather, List.filter_nil, List.not_mem_nil, false_and, if_false, List.append_nil, norm_nil, List.map_nil]; exact Kd.R_nil _ _ _ _ _⟩, ⟨HW.out⟩⟩
  case round =>
    obtain ⟨k, Q, nq, cq, hk, rfl, HQ, HR, HWr⟩ := hrel
    clear B5 HW
    have hp0 : wr.cell? ⟨g1, 0, none⟩ = some (.slice A n0 cA) := by rw [cell_of_row _ g1 0 _ _ _ (blk_below B1w.out HWr.out)]; rfl
    have hp2 : wr.cell? ⟨g1, 2, none⟩ = some (.int .i64 pany) := by rw [cell_of_row _ g1 2 _ _ _ (blk_below B1w.out HWr.out)]; rfl
    have hc25 : wr.cell? ⟨g2, 25, none⟩ = some (.slice C n1 cC) := by rw [cell_of_row _ g2 25 _ _ _ (blk_below B2w.out HWr.out)]; rfl
    have hq0 : wr.cell? ⟨g5, 0, none⟩ = some (.slice Q nq cq) := by rw [cell_of_row _ g5 0 _ _ _ HQ.out]; rfl
    by_cases hlt : k < n1
    · have hku : k < pol.length := by rw [HN.out.2]; exact hlt
      obtain ⟨ad, hU, hcx⟩ := Kd.at_string (rd_Cs (HSw.out.2.below HWr.out)) k (by omega) (by exact_mod_cast hlt)
      subst hU
      rw [← HPC.out.2.1, rd_map pol k hku] at hcx
      have hts := take_s pol k hku
      have hgl := gather_len pset (pol.take k) pany own last
      rw [List.length_take, HN.out.1, HN.out.2] at hgl
      generalize pol[k] = sx at hcx hts
      generalize hx : bs sx = x at hcx
      have HX := Aside0.mk hx
      have HT := Aside0.mk hts
      have HGL := Aside0.mk (show (gather pset pany (pol.take k) own last).length ≤ 400000 by omega)
      have p1 : ((k : Int) < (n1 : Int)) = True := by simpa using hlt
      have p2 : (0 ≤ (k : Int)) = True := by simp
      simp only [Int.toNat_natCast] at hcx
      clear hts hx hgl hku
      by_cases hany : x = bAny
      · subst hany
        have hsx : sx = anyP := bs_inj (HX.out.trans bs_any.symm)
        have HTA := Aside0.mk (show pol.take (k + 1) = pol.take k ++ [anyP] by rw [HT.out, hsx])
        clear hsx
        obtain ⟨gt, hgt⟩ : ∃ gt : Bool, gt = (decide (0 < pany) || (own && !last)) := ⟨_, rfl⟩
        have HG := Aside0.mk hgt
        clear hgt
        go_upto_region 10 with fail
        go_cut [65] (fun t wx => Aside0 (t = .bool gt ∧ wx = wr))
        case first =>
          by_cases hpa : 0 < pany
          · have hg : gt = true := by rw [HG.out]; simp [hpa]
            subst hg
            go_wp2_with fail
            go_meet
            case rel => exact ⟨⟨rfl, rfl⟩⟩
          · cases own with
            | false =>
              have hg : gt = false := by rw [HG.out]; simp [hpa]
              subst hg
              go_wp2_with fail
              go_meet
              case rel => exact ⟨⟨rfl, rfl⟩⟩
            | true =>
              cases last with
              | false =>
                have hg : gt = true := by rw [HG.out]; simp
                subst hg
                go_wp2_with fail
                go_meet
                case rel => exact ⟨⟨rfl, rfl⟩⟩
              | true =>
                have hg : gt = false := by rw [HG.out]; simp [hpa]
                subst hg
                go_wp2_with fail
                go_meet
                case rel => exact ⟨⟨rfl, rfl⟩⟩
        case rest =>
          obtain ⟨⟨rfl, rfl⟩⟩ := hcut
          have hgo : gt = true ↔ (pany > 0 ∨ (own = true ∧ last = false)) := by
            rw [HG.out]
            simp
          cases gt with
          | false =>
            have HE := Aside0.mk (gk_none (set := pset) HTA.out (fun h => by have := hgo.2 h; cases this))
            clear hgo
            go_wp2
            go_roundw
            case rel => exact ⟨k + 1, Q, nq, cq, by omega, by go_num, ⟨HQ.out⟩, ⟨by rw [← HE.out]; exact HR.out⟩, ⟨HWr.out⟩⟩
            case measure => simp [intOf]; omega
          | true =>
            have HE := Aside0.mk (gk_all (set := pset) HTA.out (hgo.1 rfl))
            clear hgo
            clear hp0 hp2 hc25 hq0 hcx p1 p2
            generalize hG : gather pset pany (pol.take k) own last = G at HR HGL HE
            go_wp2
            go_loopw [13] (fun j wq => ∃ (q : Nat) (Q2 : Option Addr) (nq2 cq2 : Nat), q ≤ n0 ∧ j = .int .i64 q ∧ Aside0 (wq.heap[g5]? = some (.cells #[.slice Q2 nq2 cq2, .int .i64 pex, .int .i64 pany] 25 (0, 0))) ∧ Aside0 (Kd.R Kd.string 9 wq w4.heap.size (fun j => j ≠ g5) (.slice Q2 nq2 cq2) ((norm (G ++ pset.take q)).map bs)) ∧ Aside0 (Below w4.heap.size w4 wq)) (fun j _ => n0 - (intOf j).toNat)
            case atStart => exact ⟨0, Q, nq, cq, Nat.zero_le _, rfl, ⟨HQ.out⟩, ⟨by rw [List.take_zero, List.append_nil]; exact HR.out⟩, ⟨HWr.out⟩⟩
            case round =>
              obtain ⟨q, Q2, nq2, cq2, hq, rfl, HQ2, HR2, HW2⟩ := hrel
              have hp0 : wr.cell? ⟨g1, 0, none⟩ = some (.slice A n0 cA) := by rw [cell_of_row _ g1 0 _ _ _ (blk_below B1w.out HW2.out)]; rfl
              by_cases hqlt : q < n0
              · have hqu : q < pset.length := by rw [HN.out.1]; exact hqlt
                obtain ⟨ap, hA, hcy⟩ := Kd.at_string (rd_Cs HSw.out.1) q (by omega) (by exact_mod_cast hqlt)
                subst hA
                rw [← HPC.out.1, rd_map pset q hqu] at hcy
                have htq := take_s pset q hqu
                generalize pset[q] = sy at hcy htq
                generalize hy : bs sy = y at hcy
                have HY := Aside0.mk hy
                have HTQ := Aside0.mk (show G ++ pset.take (q + 1) = (G ++ pset.take q) ++ [sy] by rw [htq, List.append_assoc])
                have HGL2 := Aside0.mk (show (G ++ pset.take q).length ≤ 700000 by have := HGL.out; rw [List.length_append, List.length_take, HN.out.1]; omega)
                simp only [Int.toNat_natCast] at hcy
                have hcy0 := Aside0.mk hcy
                clear hcy htq hy hqu
                have p1 : ((q : Int) < (n0 : Int)) = True := by simpa using hqlt
                have p2 : (0 ≤ (q : Int)) = True := by simp
                go_upto_region 14 with fail
                have n0_ := Aside0.mk (blk_drew HQ2.out)
                have n1_ := Aside0.mk (Kd.R_drew HR2.out)
                have n2_ := Aside0.mk (below_drew1 HW2.out)
                clear HQ2 HR2 HW2
                have HQ2 := n0_
                have HR2 := n1_
                have HW2 := n2_
                clear n0_ n1_ n2_
                refine start_ (n := 10) (S := fun w' => w'.cell? ⟨g5, 0, none⟩ = some (.slice Q2 nq2 cq2) ∧ w'.cell? ⟨g1, 0, none⟩ = some (.slice (some ap) n0 cA) ∧ w'.cell? (ap.add q) = some (.string y)) (ds := [9]) #[false, false, false, false, false, false, false, false, false, false] (by kernel_rfl) rfl rfl ⟨(blk_cell HQ2.out 0).trans rfl, (blk_cell (blk_below B1w.out HW2.out) 0).trans rfl, cell_below HW2.out hcy0.out⟩ (fun hHeld => ?_)
                generalize wr.drew = w10 at HQ2 HR2 HW2 hHeld ⊢
                refine pure_ (i := 0) (N := some 73) (v := ?_) (a' := ?_) #[true, false, false, false, false, false, false, false, false, false] rfl rfl (by kernel_rfl) (fun _ _ _ h => h) (Or.inl ⟨by rfl, ?_⟩) ?_ ?_
                rotate_left
                · intro w'
                  go_simp
                  with_reducible rfl
                rotate_left
                · simp only [Act.put, List.setIfInBounds_toArray, List.set_cons_zero, List.set_cons_succ, i64_w, i32_w]
                  rfl
                refine take_ (i := 1) (N := some 74) (v := ?_) (a' := ?_) #[true, true, false, false, false, false, false, false, false, false] rfl rfl (by kernel_rfl) (fun _ _ _ h => h) (Or.inl ⟨by rfl, ?_⟩) hHeld ?_ ?_
                rotate_left
                · rintro w' ⟨s0, s1, s2⟩
                  go_simp
                  with_reducible rfl
                rotate_left
                · simp only [Act.put, List.setIfInBounds_toArray, List.set_cons_zero, List.set_cons_succ, i64_w, i32_w]
                  rfl
                refine pure_ (i := 2) (N := some 75) (v := ?_) (a' := ?_) #[true, true, true, false, false, false, false, false, false, false] rfl rfl (by kernel_rfl) (fun _ _ _ h => h) (Or.inl ⟨by rfl, ?_⟩) ?_ ?_
                rotate_left
                · intro w'
                  go_simp
                  with_reducible rfl
                rotate_left
                · simp only [Act.put, List.setIfInBounds_toArray, List.set_cons_zero, List.set_cons_succ, i64_w, i32_w]
                  rfl
                refine take_ (i := 3) (N := some 76) (v := ?_) (a' := ?_) #[true, true, true, true, false, false, false, false, false, false] rfl rfl (by kernel_rfl) (fun _ _ _ h => h) (Or.inl ⟨by rfl, ?_⟩) hHeld ?_ ?_
                rotate_left
                · rintro w' ⟨s0, s1, s2⟩
                  go_simp
                  with_reducible rfl
                rotate_left
                · simp only [Act.put, List.setIfInBounds_toArray, List.set_cons_zero, List.set_cons_succ, i64_w, i32_w]
                  rfl
                refine pure_ (i := 4) (N := some 77) (v := ?_) (a' := ?_) #[true, true, true, true, true, false, false, false, false, false] rfl rfl (by kernel_rfl) (fun _ _ _ h => h) (Or.inl ⟨by rfl, ?_⟩) ?_ ?_
                rotate_left
                · intro w'
                  go_simp
                  with_reducible rfl
                rotate_left
                · simp only [Act.put, List.setIfInBounds_toArray, List.set_cons_zero, List.set_cons_succ, i64_w, i32_w]
                  rfl
                refine pure_ (i := 5) (N := some 78) (v := ?_) (a' := ?_) #[true, true, true, true, true, true, false, false, false, false] rfl rfl (by kernel_rfl) (fun _ _ _ h => h) (Or.inl ⟨by rfl, ?_⟩) ?_ ?_
                rotate_left
                · intro w'
                  go_simp
                  with_reducible rfl
                rotate_left
                · simp only [Act.put, List.setIfInBounds_toArray, List.set_cons_zero, List.set_cons_succ, i64_w, i32_w]
                  rfl
                refine take_ (i := 6) (N := some 79) (v := ?_) (a' := ?_) #[true, true, true, true, true, true, true, false, false, false] rfl rfl (by kernel_rfl) (fun _ _ _ h => h) (Or.inl ⟨by rfl, ?_⟩) hHeld ?_ ?_
                rotate_left
                · rintro w' ⟨s0, s1, s2⟩
                  go_simp
                  with_reducible rfl
                rotate_left
                · simp only [Act.put, List.setIfInBounds_toArray, List.set_cons_zero, List.set_cons_succ, i64_w, i32_w]
                  rfl
                refine one_ (i := 7) (N := some 80) #[true, true, true, true, true, true, true, true, false, false] rfl rfl (by kernel_rfl) (by decide) (fun K hK => ?_)
                refine goes_ Tryd.func27 (by kernel_rfl) rfl #[.slice Q2 nq2 cq2, .string y] (by rfl) rfl rfl (by (try simp only [List.map_toArray, List.map_cons, List.map_nil]); first | done | rfl) ?_
                refine (put_beside HY.out.symm HQ2.out HW2.out HR2.out (by have := HGL2.out; omega)).mono ?_
                rintro e w8 ⟨A2, n2, c2, rfl, hr2, hb2, hq2⟩
                refine ⟨_, rfl, ?_⟩
                clear HQ2 HR2 HW2
                have HQ2 := Aside0.mk hq2
                have HR2 := Aside0.mk hr2
                have HW2 := Aside0.mk hb2
                clear hr2 hb2 hq2
                clear hHeld
                refine hK.out _ _ ⟨(blk_cell HQ2.out 0).trans rfl, (blk_cell (blk_below B1w.out HW2.out) 0).trans rfl, cell_below HW2.out hcy0.out⟩ (fun hHeld => ?_)
                clear hK K
                refine norm_ (a' := ?_) ?_ ?_
                rotate_left
                · show Act.put _ (some 80) _ = _
                  simp only [Act.put, List.setIfInBounds_toArray, List.set_cons_zero, List.set_cons_succ, i64_w, i32_w]
                  rfl
                refine pure_ (i := 8) (N := some 81) (v := ?_) (a' := ?_) #[true, true, true, true, true, true, true, true, true, false] rfl rfl (by kernel_rfl) (fun _ _ _ h => h) (Or.inl ⟨by rfl, ?_⟩) ?_ ?_
                rotate_left
                · intro w'
                  go_simp
                  with_reducible rfl
                rotate_left
                · simp only [Act.put, List.setIfInBounds_toArray, List.set_cons_zero, List.set_cons_succ, i64_w, i32_w]
                  rfl
                refine last_ (i := 9) (N := none) #[true, true, true, true, true, true, true, true, true, true] rfl rfl (by kernel_rfl) (by decide) (fun K hK => ?_)
                refine store1_ (by rfl) rfl 23 (.tmp 81) (.tmp 80) rfl g5 0 (.slice A2 n2 c2) rfl rfl HQ2.out (by simp) (by kernel_rfl) rfl rfl ?_
                intro w9 b9 hg9 hs9
                have HF := Aside0.mk (And.intro (show w9.heap[g5]? = some (.cells #[.slice A2 n2 c2, .int .i64 pex, .int .i64 pany] 25 (0, 0)) from b9) (And.intro (Kd.R_grown HR2.out hg9 (fun j hj e => hj (Option.some.inj e))) (HW2.out.grown hg9 HW2.out.size (fun j hj => by cases hj; exact HG5.out))))
                clear b9 hg9 hs9 hHeld HQ2 HR2 HW2
                refine hK.out _ _ ?_
                clear hK K
                refine norm_ (a' := ?_) ?_ ?_
                rotate_left
                · show Act.put _ (none) _ = _
                  simp only [Act.put, List.setIfInBounds_toArray, List.set_cons_zero, List.set_cons_succ, i64_w, i32_w]
                  rfl
                refine done_ (by kernel_rfl) ?_
                go_wp2
                go_roundw
                case rel => exact ⟨q + 1, A2, n2, c2, by omega, by go_num, ⟨HF.out.1⟩, ⟨by rw [HTQ.out]; exact HF.out.2.1⟩, ⟨HF.out.2.2⟩⟩
                case measure => simp [intOf]; omega
              · have e : q = n0 := by omega
                subst e
                have HE2 := Aside0.mk (show Kd.R Kd.string 9 wr w4.heap.size (fun j => j ≠ g5) (.slice Q2 nq2 cq2) ((norm (gather pset pany (pol.take (k + 1)) own last)).map bs) by have h := HR2.out; rw [← HN.out.1, List.take_length, HE.out] at h; exact h)
                go_wp2
                go_roundw
                case rel => exact ⟨k + 1, Q2, nq2, cq2, by omega, by go_num, ⟨HQ2.out⟩, ⟨HE2.out⟩, ⟨HW2.out⟩⟩
                case measure => simp [intOf]; omega
      · have hb := any_ne hany
        have hne : sx ≠ anyP := fun e => hany (HX.out.symm.trans (by rw [e]; rfl))
        have HNE := Aside0.mk hne
        clear hne hany
        cases all with
        | true =>
          have hin : sx ∈ pset ∨ anyP ∈ pset := .inr (any_of_memB.1 (by rw [HPC.out.1]; exact HALL.out))
          have HE := Aside0.mk (gk_put (set := pset) (any := pany) (own := own) (last := last) HT.out HNE.out hin)
          clear hin
          go_wp2_with (first
            | (go_at_call 27; (with_reducible refine (put_beside HX.out.symm (HQ).out (HWr).out (HR).out (by have := HGL.out; omega)).mono ?_); rintro e w8 ⟨A2, n2, c2, rfl, hr2, hb2, hq2⟩
               have HP2 := Aside0.mk (And.intro hr2 (And.intro hb2 hq2))
               clear hr2 hb2 hq2)
            | (have h0_ := HP2.out.2.2; refine law_store1 ?q1 23 (.tmp 51) (.tmp 50) ?q2 g5 0 (.slice A2 n2 c2) ?q3 ?q4 h0_ ?q5 ?q6 ?q7 ?q8 ?_; (case q1 => rfl); (case q2 => rfl); (case q3 => rfl); (case q4 => rfl); (case q5 => simp); (case q6 => kernel_rfl); (case q7 => rfl); (case q8 => rfl)
               intro w9 b9 hg9 hs9
               have HF := Aside0.mk (And.intro (show w9.heap[g5]? = some (.cells #[.slice A2 n2 c2, .int .i64 pex, .int .i64 pany] 25 (0, 0)) from b9) (And.intro (Kd.R_grown HP2.out.1 hg9 (fun j hj e => hj (Option.some.inj e))) (HP2.out.2.1.grown hg9 HP2.out.2.1.size (fun j hj => by cases hj; exact HG5.out))))
               clear b9 hg9 hs9 h0_ HP2))
          go_roundw
          case rel => exact ⟨k + 1, A2, n2, c2, by omega, by go_num, ⟨HF.out.1⟩, ⟨by rw [← HE.out]; exact HF.out.2.1⟩, ⟨HF.out.2.2⟩⟩
          case measure => simp [intOf]; omega
        | false =>
          have hna : anyP ∉ pset := fun h => by
            have := any_of_memB.2 h
            rw [HPC.out.1, HALL.out] at this
            cases this
          by_cases hsp : sx ∈ pset
          · have HE := Aside0.mk (gk_put (set := pset) (any := pany) (own := own) (last := last) HT.out HNE.out (.inl hsp))
            have hm : memB x pp = true := by rw [← HPC.out.1, ← HX.out]; exact mem_of_memB.2 hsp
            clear hna hsp
            go_wp2_with (first
              | (go_at_call 33; refine (in_walk x _ pp wr (HSw.out.1.below HWr.out) (by have := HPC.out.2.2; omega)).mono ?_; rintro e w7 ⟨rfl, hb7⟩; rw [hm]
                 have HQi := Aside0.mk (blk_below HQ.out hb7)
                 have HRi := Aside0.mk (Kd.R_below HR.out hb7)
                 have HWi := Aside0.mk (below_step HWr.out hb7)
                 have hq0i : w7.cell? ⟨g5, 0, none⟩ = some (.slice Q nq cq) := by rw [cell_of_row _ g5 0 _ _ _ HQi.out]; rfl
                 clear hb7)
              | (go_at_call 27; (with_reducible refine (put_beside HX.out.symm (HQi).out (HWi).out (HRi).out (by have := HGL.out; omega)).mono ?_); rintro e w8 ⟨A2, n2, c2, rfl, hr2, hb2, hq2⟩
                 have HP2 := Aside0.mk (And.intro hr2 (And.intro hb2 hq2))
                 clear hr2 hb2 hq2)
              | (have h0_ := HP2.out.2.2; refine law_store1 ?q1 23 (.tmp 51) (.tmp 50) ?q2 g5 0 (.slice A2 n2 c2) ?q3 ?q4 h0_ ?q5 ?q6 ?q7 ?q8 ?_; (case q1 => rfl); (case q2 => rfl); (case q3 => rfl); (case q4 => rfl); (case q5 => simp); (case q6 => kernel_rfl); (case q7 => rfl); (case q8 => rfl)
                 intro w9 b9 hg9 hs9
                 have HF := Aside0.mk (And.intro (show w9.heap[g5]? = some (.cells #[.slice A2 n2 c2, .int .i64 pex, .int .i64 pany] 25 (0, 0)) from b9) (And.intro (Kd.R_grown HP2.out.1 hg9 (fun j hj e => hj (Option.some.inj e))) (HP2.out.2.1.grown hg9 HP2.out.2.1.size (fun j hj => by cases hj; exact HG5.out))))
                 clear b9 hg9 hs9 h0_ HP2))
            go_roundw
            case rel => exact ⟨k + 1, A2, n2, c2, by omega, by go_num, ⟨HF.out.1⟩, ⟨by rw [← HE.out]; exact HF.out.2.1⟩, ⟨HF.out.2.2⟩⟩
            case measure => simp [intOf]; omega
          · have HE := Aside0.mk (gk_skip (set := pset) (any := pany) (own := own) (last := last) HT.out HNE.out (fun h => h.elim hsp hna))
            have hm : memB x pp = false := by
              rw [← Bool.not_eq_true, ← HPC.out.1, ← HX.out]
              exact fun h => hsp (mem_of_memB.1 h)
            clear hna hsp
            go_wp2_with
              (go_at_call 33; refine (in_walk x _ pp wr (HSw.out.1.below HWr.out) (by have := HPC.out.2.2; omega)).mono ?_; rintro e w7 ⟨rfl, hb7⟩; rw [hm]
               have HQi := Aside0.mk (blk_below HQ.out hb7)
               have HRi := Aside0.mk (Kd.R_below HR.out hb7)
               have HWi := Aside0.mk (below_step HWr.out hb7)
               have hq0i : w7.cell? ⟨g5, 0, none⟩ = some (.slice Q nq cq) := by rw [cell_of_row _ g5 0 _ _ _ HQi.out]; rfl
               clear hb7)
            go_roundw
            case rel => exact ⟨k + 1, Q, nq, cq, by omega, by go_num, ⟨HQi.out⟩, ⟨by rw [← HE.out]; exact HRi.out⟩, ⟨HWi.out⟩⟩
            case measure => simp [intOf]; omega
    · have e : k = n1 := by omega
      subst e
      have hRG : Kd.R Kd.string 9 wr w4.heap.size (fun j => j ≠ g5) (.slice Q nq cq) ((norm (gather pset pany pol own last)).map bs) := by have h := HR.out; rw [← HN.out.2, List.take_length] at h; exact h
      have hnq := (Kd.R_reads' hRG).1
      rw [List.length_map] at hnq
      have HNIL := Aside0.mk (show nq = 0 ↔ gather pset pany pol own last = [] by rw [hnq, List.length_eq_zero_iff]; exact norm_nil_iff _)
      have HSQ := Aside0.mk (strs_of_R hRG)
      clear hRG hnq HR hp2
      have hp1 : wr.cell? ⟨g1, 1, none⟩ = some (.int .i64 pex) := by rw [cell_of_row _ g1 1 _ _ _ (blk_below B1w.out HWr.out)]; rfl
      generalize hLL : (norm (gather pset pany pol own last)).map bs = LL at HSQ
      have HLL := Aside0.mk hLL
      obtain ⟨bad, hbad⟩ : ∃ b : Bool, b = (decide (nq = 0) && decide (pex ≤ 0)) := ⟨_, rfl⟩
      have HBAD := Aside0.mk hbad
      clear hbad hLL
      go_upto_region 15 with fail
      go_cut [90] (fun t wx => Aside0 (t = .bool bad ∧ wx = wr))
      case first =>
        by_cases hz : nq = 0
        · by_cases hx : pex ≤ 0
          · have hg : bad = true := by rw [HBAD.out, decide_eq_true hz, decide_eq_true hx]; rfl
            subst hg
            subst hz
            go_wp2_with fail
            go_meet
            case rel => exact ⟨⟨rfl, rfl⟩⟩
          · have hg : bad = false := by rw [HBAD.out, decide_eq_true hz, decide_eq_false hx]; rfl
            subst hg
            subst hz
            go_wp2_with fail
            go_meet
            case rel => exact ⟨⟨rfl, rfl⟩⟩
        · have hl0 : ((nq : Int) == 0) = false := by rw [beq_eq_false_iff_ne]; omega
          have hg : bad = false := by rw [HBAD.out, decide_eq_false hz]; rfl
          subst hg
          clear hz
          go_wp2_with fail
          go_meet
          case rel => exact ⟨⟨rfl, rfl⟩⟩
      case rest =>
      obtain ⟨⟨rfl, rfl⟩⟩ := hcut
      clear hp0 hp1 hq0 hc25
      cases bad with
      | true =>
        have hst : r = none := by
          have hb := HBAD.out
          rw [eq_comm, Bool.and_eq_true, decide_eq_true_eq, decide_eq_true_eq] at hb
          rw [← HP.out]
          unfold stepV
          rw [if_pos ⟨HNIL.out.1 hb.1, hb.2⟩]
        subst hst
        have B3 := Aside0.mk (blk_below B3w.out HWr.out)
        go_wp2_with
          (have h0_ := B3.out; refine law_store ?q1 25 (.tmp 6) (.tmp 91) ?q2 g3 #[nilS, .int .i64 0, .int .i64 0] ?q3 ?q4 h0_ ?q5 ?q6 ?q7 ?_; (case q1 => rfl); (case q2 => rfl); (case q3 => rfl); (case q4 => rfl); (case q5 => rfl); (case q6 => kernel_rfl); (case q7 => exact strs_one_cell (Strs.nil w))
           intro w51 b3y hg51 hs51
           have HE1 := Aside0.mk (And.intro b3y ((below_step HBW.out HWr.out).grown hg51 (below_step HBW.out HWr.out).size (fun j hj => by cases hj; exact HG3.out)))
           clear b3y hg51 hs51 h0_ B3)
        refine bodyPost_ret (results_cell_tmp rfl _ _ g3 25 _ (0, 0) _ _ rfl rfl HE1.out.1 Tryd.underlying25 rfl (by kernel_rfl)) rfl ?_
        exact ⟨rfl, HE1.out.2⟩
      | false =>
        have hst : r = some ⟨norm (gather pset pany pol own last), if last = true then pex else down pex req (!own), if last = true then pany else down pany inh (!own)⟩ := by
          rw [← HP.out]
          unfold stepV
          rw [if_neg (fun h => by
            have hb := HBAD.out
            rw [decide_eq_true (HNIL.out.2 h.1), decide_eq_true h.2] at hb
            cases hb)]
        have HST := Aside0.mk hst
        clear hst HBAD HNIL
        cases last with
        | true =>
          have B3 := Aside0.mk (blk_below B3w.out HWr.out)
          go_wp2_with (first
            | ((with_reducible refine gate_dst (N := 93) rfl ?_); refine law_load rfl 25 _ rfl g5 rfl HQ.out _ Tryd.underlying25 rfl (by kernel_rfl) ?_)
            | (have h0_ := B3.out; refine law_store ?q1 25 (.tmp 6) (.tmp 93) ?q2 g3 #[.slice Q nq cq, .int .i64 (pex), .int .i64 (pany)] ?q3 ?q4 h0_ ?q5 ?q6 ?q7 ?_; (case q1 => rfl); (case q2 => rfl); (case q3 => rfl); (case q4 => rfl); (case q5 => rfl); (case q6 => kernel_rfl); (case q7 => exact strs_one_cell HSQ.out)
               intro w51 b3y hg51 hs51
               have HE1 := Aside0.mk (And.intro b3y (And.intro (strs_grown HSQ.out hg51 h0_) ((below_step HBW.out HWr.out).grown hg51 (below_step HBW.out HWr.out).size (fun j hj => by cases hj; exact HG3.out))))
               clear b3y hg51 hs51 h0_ B3))
          obtain rfl := HST.out
          refine bodyPost_ret (results_cell_tmp rfl _ _ g3 25 _ (0, 0) _ _ rfl rfl HE1.out.1 Tryd.underlying25 rfl (by kernel_rfl)) rfl ?_
          exact ⟨⟨_, rfl, _, rfl, by rw [HLL.out]; exact HE1.out.2.1⟩, HE1.out.2.2⟩
        | false =>
          obtain ⟨m1, hm1⟩ : ∃ m1 : Int, m1 = (if (!own) = true ∧ pex > 0 then pex - 1 else pex) := ⟨_, rfl⟩
          obtain ⟨m2, hm2⟩ : ∃ m2 : Int, m2 = (if (!own) = true ∧ pany > 0 then pany - 1 else pany) := ⟨_, rfl⟩
          have HM := Aside0.mk (And.intro hm1 hm2)
          clear hm1 hm2
          have hq1 : wc.cell? ⟨g5, 1, none⟩ = some (.int .i64 pex) := (blk_cell HQ.out 1).trans rfl
          have hq2 : wc.cell? ⟨g5, 2, none⟩ = some (.int .i64 pany) := (blk_cell HQ.out 2).trans rfl
          obtain ⟨b, hb⟩ : ∃ b : Bool, b = (!own && decide (0 < pex)) := ⟨_, rfl⟩
          have HBb := Aside0.mk hb
          clear hb
          go_upto_region 19 with fail
          go_cut [100] (fun t wx => Aside0 (t = .bool b ∧ wx = wc))
          case first =>
            cases own with
            | true =>
              have hg : b = false := by rw [HBb.out]; rfl
              subst hg
              go_wp2_with fail
              go_meet
              case rel => exact ⟨⟨rfl, rfl⟩⟩
            | false =>
              by_cases hx : 0 < pex
              · have hg : b = true := by rw [HBb.out, decide_eq_true hx]; rfl
                subst hg
                go_wp2_with fail
                go_meet
                case rel => exact ⟨⟨rfl, rfl⟩⟩
              · have hg : b = false := by rw [HBb.out, decide_eq_false hx]; rfl
                subst hg
                go_wp2_with fail
                go_meet
                case rel => exact ⟨⟨rfl, rfl⟩⟩
          case rest =>
          obtain ⟨⟨rfl, rfl⟩⟩ := hcut
          go_upto_if 100 with fail
          go_cut [] (fun wx => Aside0 (wx.heap[g5]? = some (.cells #[.slice Q nq cq, .int .i64 m1, .int .i64 pany] 25 (0, 0)) ∧ Strs wx (.slice Q nq cq) LL ∧ Below w4.heap.size w4 wx))
          case first =>
            cases b with
            | true =>
              have HV := Aside0.mk (show m1 = pex - 1 by
                have hb := HBb.out
                rw [eq_comm, Bool.and_eq_true, decide_eq_true_eq] at hb
                rw [HM.out.1, if_pos hb])
              have hx : 0 < pex := by
                have hb := HBb.out
                rw [eq_comm, Bool.and_eq_true, decide_eq_true_eq] at hb
                exact hb.2
              go_wp2_with
                (have h0_ := HQ.out; refine law_store1 ?q1 3 (.tmp 104) (.tmp 103) ?q2 g5 1 (.int .i64 (pex - 1)) ?q3 ?q4 h0_ ?q5 ?q6 ?q7 ?q8 ?_; (case q1 => rfl); (case q2 => rfl); (case q3 => rfl); (case q4 => rfl); (case q5 => simp); (case q6 => kernel_rfl); (case q7 => rfl); (case q8 => rfl)
                 intro w9 b9 hg9 hs9
                 have HF := Aside0.mk (And.intro b9 (And.intro (strs_grown HSQ.out hg9 h0_) (HWr.out.grown hg9 HWr.out.size (fun j hj => by cases hj; exact HG5.out))))
                 clear b9 hg9 hs9 h0_ HQ)
              go_meet
              case rel => exact ⟨⟨by rw [HV.out]; exact HF.out.1, HF.out.2.1, HF.out.2.2⟩⟩
            | false =>
              have HV := Aside0.mk (show m1 = pex by
                have hb := HBb.out
                rw [HM.out.1, if_neg (fun h => by rw [h.1, decide_eq_true h.2] at hb; cases hb)])
              go_wp2_with fail
              go_meet
              case rel => exact ⟨⟨by rw [HV.out]; exact HQ.out, HSQ.out, HWr.out⟩⟩
          case rest =>
          have h_ := hcut.out
          clear hcut HQ HSQ HWr HBb hq1 hq2
          have HQ := Aside0.mk h_.1
          have HSQ := Aside0.mk h_.2.1
          have HWr := Aside0.mk h_.2.2
          clear h_
          have hq1 : wc.cell? ⟨g5, 1, none⟩ = some (.int .i64 m1) := (blk_cell HQ.out 1).trans rfl
          have hq2 : wc.cell? ⟨g5, 2, none⟩ = some (.int .i64 pany) := (blk_cell HQ.out 2).trans rfl
          obtain ⟨b, hb⟩ : ∃ b : Bool, b = (!own && decide (0 < pany)) := ⟨_, rfl⟩
          have HBb := Aside0.mk hb
          clear hb
          go_upto_region 21 with fail
          go_cut [111] (fun t wx => Aside0 (t = .bool b ∧ wx = wc))
          case first =>
            cases own with
            | true =>
              have hg : b = false := by rw [HBb.out]; rfl
              subst hg
              go_wp2_with fail
              go_meet
              case rel => exact ⟨⟨rfl, rfl⟩⟩
            | false =>
              by_cases hx : 0 < pany
              · have hg : b = true := by rw [HBb.out, decide_eq_true hx]; rfl
                subst hg
                go_wp2_with fail
                go_meet
                case rel => exact ⟨⟨rfl, rfl⟩⟩
              · have hg : b = false := by rw [HBb.out, decide_eq_false hx]; rfl
                subst hg
                go_wp2_with fail
                go_meet
                case rel => exact ⟨⟨rfl, rfl⟩⟩
          case rest =>
          obtain ⟨⟨rfl, rfl⟩⟩ := hcut
          go_upto_if 111 with fail
          go_cut [] (fun wx => Aside0 (wx.heap[g5]? = some (.cells #[.slice Q nq cq, .int .i64 m1, .int .i64 m2] 25 (0, 0)) ∧ Strs wx (.slice Q nq cq) LL ∧ Below w4.heap.size w4 wx))
          case first =>
            cases b with
            | true =>
              have HV := Aside0.mk (show m2 = pany - 1 by
                have hb := HBb.out
                rw [eq_comm, Bool.and_eq_true, decide_eq_true_eq] at hb
                rw [HM.out.2, if_pos hb])
              have hx : 0 < pany := by
                have hb := HBb.out
                rw [eq_comm, Bool.and_eq_true, decide_eq_true_eq] at hb
                exact hb.2
              go_wp2_with
                (have h0_ := HQ.out; refine law_store1 ?q1 3 (.tmp 115) (.tmp 114) ?q2 g5 2 (.int .i64 (pany - 1)) ?q3 ?q4 h0_ ?q5 ?q6 ?q7 ?q8 ?_; (case q1 => rfl); (case q2 => rfl); (case q3 => rfl); (case q4 => rfl); (case q5 => simp); (case q6 => kernel_rfl); (case q7 => rfl); (case q8 => rfl)
                 intro w9 b9 hg9 hs9
                 have HF := Aside0.mk (And.intro b9 (And.intro (strs_grown HSQ.out hg9 h0_) (HWr.out.grown hg9 HWr.out.size (fun j hj => by cases hj; exact HG5.out))))
                 clear b9 hg9 hs9 h0_ HQ)
              go_meet
              case rel => exact ⟨⟨by rw [HV.out]; exact HF.out.1, HF.out.2.1, HF.out.2.2⟩⟩
            | false =>
              have HV := Aside0.mk (show m2 = pany by
                have hb := HBb.out
                rw [HM.out.2, if_neg (fun h => by rw [h.1, decide_eq_true h.2] at hb; cases hb)])
              go_wp2_with fail
              go_meet
              case rel => exact ⟨⟨by rw [HV.out]; exact HQ.out, HSQ.out, HWr.out⟩⟩
          case rest =>
          have h_ := hcut.out
          clear hcut HQ HSQ HWr HBb hq1 hq2
          have HQ := Aside0.mk h_.1
          have HSQ := Aside0.mk h_.2.1
          have HWr := Aside0.mk h_.2.2
          clear h_
          have hq1 : wc.cell? ⟨g5, 1, none⟩ = some (.int .i64 m1) := (blk_cell HQ.out 1).trans rfl
          have hq2 : wc.cell? ⟨g5, 2, none⟩ = some (.int .i64 m2) := (blk_cell HQ.out 2).trans rfl
          have hr26 : wc.cell? ⟨g2, 26, none⟩ = some (.int .i64 req) := (blk_cell (blk_below B2w.out HWr.out) 26).trans rfl
          obtain ⟨b, hb⟩ : ∃ b : Bool, b = (decide (0 ≤ req) && decide (req < m1)) := ⟨_, rfl⟩
          have HBb := Aside0.mk hb
          clear hb
          go_upto_region 23 with fail
          go_cut [125] (fun t wx => Aside0 (t = .bool b ∧ wx = wc))
          case first =>
            by_cases h0_ : 0 ≤ req
            · by_cases hx : req < m1
              · have hg : b = true := by rw [HBb.out, decide_eq_true h0_, decide_eq_true hx]; rfl
                subst hg
                go_wp2_with fail
                go_meet
                case rel => exact ⟨⟨rfl, rfl⟩⟩
              · have hg : b = false := by rw [HBb.out, decide_eq_true h0_, decide_eq_false hx]; rfl
                subst hg
                go_wp2_with fail
                go_meet
                case rel => exact ⟨⟨rfl, rfl⟩⟩
            · have hg : b = false := by rw [HBb.out, decide_eq_false h0_]; rfl
              subst hg
              go_wp2_with fail
              go_meet
              case rel => exact ⟨⟨rfl, rfl⟩⟩
          case rest =>
          obtain ⟨⟨rfl, rfl⟩⟩ := hcut
          go_upto_if 125 with fail
          go_cut [] (fun wx => Aside0 (wx.heap[g5]? = some (.cells #[.slice Q nq cq, .int .i64 (down pex req (!own)), .int .i64 m2] 25 (0, 0)) ∧ Strs wx (.slice Q nq cq) LL ∧ Below w4.heap.size w4 wx))
          case first =>
            cases b with
            | true =>
              have HV := Aside0.mk (show (down pex req (!own)) = req by
                have hb := HBb.out
                rw [eq_comm, Bool.and_eq_true, decide_eq_true_eq, decide_eq_true_eq] at hb
                unfold down
                simp only [← HM.out.1]
                rw [if_pos hb.1]
                omega)
              go_wp2_with
                (have h0_ := HQ.out; refine law_store1 ?q1 3 (.tmp 128) (.tmp 127) ?q2 g5 1 (.int .i64 (req)) ?q3 ?q4 h0_ ?q5 ?q6 ?q7 ?q8 ?_; (case q1 => rfl); (case q2 => rfl); (case q3 => rfl); (case q4 => rfl); (case q5 => simp); (case q6 => kernel_rfl); (case q7 => rfl); (case q8 => rfl)
                 intro w9 b9 hg9 hs9
                 have HF := Aside0.mk (And.intro b9 (And.intro (strs_grown HSQ.out hg9 h0_) (HWr.out.grown hg9 HWr.out.size (fun j hj => by cases hj; exact HG5.out))))
                 clear b9 hg9 hs9 h0_ HQ)
              go_meet
              case rel => exact ⟨⟨by rw [HV.out]; exact HF.out.1, HF.out.2.1, HF.out.2.2⟩⟩
            | false =>
              have HV := Aside0.mk (show (down pex req (!own)) = m1 by
                have hb := HBb.out
                unfold down
                simp only [← HM.out.1]
                by_cases h0_ : 0 ≤ req
                · rw [if_pos h0_]
                  rw [decide_eq_true h0_, Bool.true_and, eq_comm, decide_eq_false_iff_not] at hb
                  omega
                · rw [if_neg h0_])
              go_wp2_with fail
              go_meet
              case rel => exact ⟨⟨by rw [HV.out]; exact HQ.out, HSQ.out, HWr.out⟩⟩
          case rest =>
          have h_ := hcut.out
          clear hcut HQ HSQ HWr HBb hq1 hq2 hr26
          have HQ := Aside0.mk h_.1
          have HSQ := Aside0.mk h_.2.1
          have HWr := Aside0.mk h_.2.2
          clear h_
          have hq1 : wc.cell? ⟨g5, 1, none⟩ = some (.int .i64 (down pex req (!own))) := (blk_cell HQ.out 1).trans rfl
          have hq2 : wc.cell? ⟨g5, 2, none⟩ = some (.int .i64 m2) := (blk_cell HQ.out 2).trans rfl
          have hr27 : wc.cell? ⟨g2, 27, none⟩ = some (.int .i64 inh) := (blk_cell (blk_below B2w.out HWr.out) 27).trans rfl
          obtain ⟨b, hb⟩ : ∃ b : Bool, b = (decide (0 ≤ inh) && decide (inh < m2)) := ⟨_, rfl⟩
          have HBb := Aside0.mk hb
          clear hb
          go_upto_region 25 with fail
          go_cut [138] (fun t wx => Aside0 (t = .bool b ∧ wx = wc))
          case first =>
            by_cases h0_ : 0 ≤ inh
            · by_cases hx : inh < m2
              · have hg : b = true := by rw [HBb.out, decide_eq_true h0_, decide_eq_true hx]; rfl
                subst hg
                go_wp2_with fail
                go_meet
                case rel => exact ⟨⟨rfl, rfl⟩⟩
              · have hg : b = false := by rw [HBb.out, decide_eq_true h0_, decide_eq_false hx]; rfl
                subst hg
                go_wp2_with fail
                go_meet
                case rel => exact ⟨⟨rfl, rfl⟩⟩
            · have hg : b = false := by rw [HBb.out, decide_eq_false h0_]; rfl
              subst hg
              go_wp2_with fail
              go_meet
              case rel => exact ⟨⟨rfl, rfl⟩⟩
          case rest =>
          obtain ⟨⟨rfl, rfl⟩⟩ := hcut
          go_upto_if 138 with fail
          go_cut [] (fun wx => Aside0 (wx.heap[g5]? = some (.cells #[.slice Q nq cq, .int .i64 (down pex req (!own)), .int .i64 (down pany inh (!own))] 25 (0, 0)) ∧ Strs wx (.slice Q nq cq) LL ∧ Below w4.heap.size w4 wx))
          case first =>
            cases b with
            | true =>
              have HV := Aside0.mk (show (down pany inh (!own)) = inh by
                have hb := HBb.out
                rw [eq_comm, Bool.and_eq_true, decide_eq_true_eq, decide_eq_true_eq] at hb
                unfold down
                simp only [← HM.out.2]
                rw [if_pos hb.1]
                omega)
              go_wp2_with
                (have h0_ := HQ.out; refine law_store1 ?q1 3 (.tmp 141) (.tmp 140) ?q2 g5 2 (.int .i64 (inh)) ?q3 ?q4 h0_ ?q5 ?q6 ?q7 ?q8 ?_; (case q1 => rfl); (case q2 => rfl); (case q3 => rfl); (case q4 => rfl); (case q5 => simp); (case q6 => kernel_rfl); (case q7 => rfl); (case q8 => rfl)
                 intro w9 b9 hg9 hs9
                 have HF := Aside0.mk (And.intro b9 (And.intro (strs_grown HSQ.out hg9 h0_) (HWr.out.grown hg9 HWr.out.size (fun j hj => by cases hj; exact HG5.out))))
                 clear b9 hg9 hs9 h0_ HQ)
              go_meet
              case rel => exact ⟨⟨by rw [HV.out]; exact HF.out.1, HF.out.2.1, HF.out.2.2⟩⟩
            | false =>
              have HV := Aside0.mk (show (down pany inh (!own)) = m2 by
                have hb := HBb.out
                unfold down
                simp only [← HM.out.2]
                by_cases h0_ : 0 ≤ inh
                · rw [if_pos h0_]
                  rw [decide_eq_true h0_, Bool.true_and, eq_comm, decide_eq_false_iff_not] at hb
                  omega
                · rw [if_neg h0_])
              go_wp2_with fail
              go_meet
              case rel => exact ⟨⟨by rw [HV.out]; exact HQ.out, HSQ.out, HWr.out⟩⟩
          case rest =>
          have h_ := hcut.out
          clear hcut HQ HSQ HWr HBb hq1 hq2 hr27
          have HQ := Aside0.mk h_.1
          have HSQ := Aside0.mk h_.2.1
          have HWr := Aside0.mk h_.2.2
          clear h_
          have B3 := Aside0.mk (blk_below B3w.out HWr.out)
          go_wp2_with (first
            | ((with_reducible refine gate_dst (N := 142) rfl ?_); refine law_load rfl 25 _ rfl g5 rfl HQ.out _ Tryd.underlying25 rfl (by kernel_rfl) ?_)
            | (have h0_ := B3.out; refine law_store ?q1 25 (.tmp 6) (.tmp 142) ?q2 g3 #[.slice Q nq cq, .int .i64 (down pex req (!own)), .int .i64 (down pany inh (!own))] ?q3 ?q4 h0_ ?q5 ?q6 ?q7 ?_; (case q1 => rfl); (case q2 => rfl); (case q3 => rfl); (case q4 => rfl); (case q5 => rfl); (case q6 => kernel_rfl); (case q7 => exact strs_one_cell HSQ.out)
               intro w51 b3y hg51 hs51
               have HE1 := Aside0.mk (And.intro b3y (And.intro (strs_grown HSQ.out hg51 h0_) ((below_step HBW.out HWr.out).grown hg51 (below_step HBW.out HWr.out).size (fun j hj => by cases hj; exact HG3.out))))
               clear b3y hg51 hs51 h0_ B3))
          obtain rfl := HST.out
          refine bodyPost_ret (results_cell_tmp rfl _ _ g3 25 _ (0, 0) _ _ rfl rfl HE1.out.1 Tryd.underlying25 rfl (by kernel_rfl)) rfl ?_
          exact ⟨⟨_, rfl, _, rfl, by rw [HLL.out]; exact HE1.out.2.1⟩, HE1.out.2.2⟩
end Go.Proofs.YtgeoibgohlpfjaaDoor.Py
