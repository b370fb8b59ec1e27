/- The reference's End, walked (written by refendgen.py). -/
import Derived.Test.YtgeoibgohlpfjaaDoorPyPlain9
set_option linter.unusedVariables false
set_option linter.unusedSimpArgs false
namespace Go.Proofs.YtgeoibgohlpfjaaDoor.Py
open Go Go.RowKit Go.Maps Go.Proofs.YtgeoibgohlpfjaaDoorW.PrintWords Go.Proofs.YtgeoibgohlpfjaaDoorW.PrintLast Go.Proofs.YtgeoibgohlpfjaaDoorW.PrintMore
theorem mem_of_memB {l : List S} {s : S} : memB (bs s) (l.map bs) = true ↔ s ∈ l := (memB_iff _ _).trans (mem_bs s l)
theorem any_of_memB {l : List S} : memB bAny (l.map bs) = true ↔ anyP ∈ l := by
  rw [← bs_any]
  exact mem_of_memB
/-- what the reference's End gathers is what is asked for -/
theorem asked_R {pset user acc1 acc : List S} {free go2 : Bool} {n2 : Nat} (hn : user.length = n2) (hf : free = (decide (n2 = 0) || memB bAny (user.map bs))) (hg : go2 = (!free && memB bAny (pset.map bs)))
    (h1 : ∀ x, x ∈ acc1 ↔ x ∈ pset ∧ (free = true ∨ x ∈ user)) (h2 : ∀ x, x ∈ acc ↔ x ∈ acc1 ∨ (go2 = true ∧ x ∈ user)) (x : S) : x ∈ acc ↔ x ∈ asked pset user := by
  have hfr : free = true ↔ ¬ (user ≠ [] ∧ anyP ∉ user) := by
    rw [hf, Bool.or_eq_true, decide_eq_true_eq, any_of_memB, ← hn, List.length_eq_zero_iff]
    by_cases h : user = []
    · simp [h]
    · simp [h]
  have hgo : go2 = true ↔ (free = false ∧ anyP ∈ pset) := by
    rw [hg, Bool.and_eq_true, any_of_memB, Bool.not_eq_true']
  rw [h2, h1]
  unfold asked
  by_cases hc : user ≠ [] ∧ anyP ∉ user
  · have hff : free = false := by
      rw [← Bool.not_eq_true]
      exact fun h => hfr.1 h hc
    rw [if_pos hc]
    by_cases hp : anyP ∈ pset
    · rw [if_pos hp, hgo.2 ⟨hff, hp⟩, hff]
      constructor
      · rintro (⟨_, h | h⟩ | ⟨_, h⟩)
        · cases h
        · exact h
        · exact h
      · exact fun h => .inr ⟨rfl, h⟩
    · have hgf : go2 = false := by
        rw [← Bool.not_eq_true]
        exact fun h => hp (hgo.1 h).2
      rw [if_neg hp, hgf, hff, List.mem_filter]
      simp only [Bool.false_eq_true, false_or, false_and, or_false, decide_eq_true_eq]
      exact And.comm
  · have hft : free = true := hfr.2 hc
    have hgf : go2 = false := by rw [hg, hft]; rfl
    rw [if_neg hc, hgf, hft]
    simp
theorem e1_put {pk pk' user acc : List S} {free : Bool} {sx : S} (h : ∀ x, x ∈ acc ↔ x ∈ pk ∧ (free = true ∨ x ∈ user)) (ht : pk' = pk ++ [sx]) (hin : free = true ∨ sx ∈ user) : ∀ x, x ∈ put acc sx ↔ x ∈ pk' ∧ (free = true ∨ x ∈ user) := fun x => by
  rw [put_mem, h, ht, List.mem_append, List.mem_singleton]
  constructor
  · rintro (rfl | ⟨h1, h2⟩)
    · exact ⟨.inr rfl, hin⟩
    · exact ⟨.inl h1, h2⟩
  · rintro ⟨h1 | rfl, h2⟩
    · exact .inr ⟨h1, h2⟩
    · exact .inl rfl
theorem e1_skip {pk pk' user acc : List S} {free : Bool} {sx : S} (h : ∀ x, x ∈ acc ↔ x ∈ pk ∧ (free = true ∨ x ∈ user)) (ht : pk' = pk ++ [sx]) (hin : ¬ (free = true ∨ sx ∈ user)) : ∀ x, x ∈ acc ↔ x ∈ pk' ∧ (free = true ∨ x ∈ user) := fun x => by
  rw [h, ht, List.mem_append, List.mem_singleton]
  constructor
  · rintro ⟨h1, h2⟩
    exact ⟨.inl h1, h2⟩
  · rintro ⟨h1 | rfl, h2⟩
    · exact ⟨h1, h2⟩
    · exact absurd h2 hin
set_option maxHeartbeats 8000000 in
set_option maxRecDepth 100000 in
theorem endR_walk (v cv uv : Value) (p : Pl) (c : Cb) (user : List S) (w : World) (hv : PolIs w v p) (hc : CertOf w cv c) (hu : Strs w uv (user.map bs)) (hp : p.set.length ≤ 400000) (hul : user.length ≤ 400000)
    (h1 : p.ex ≤ 9223372036854775807) : Calls Tryd.prog 19 #[v, cv, uv] w (EndPost (endV p c user) w) := by
  obtain ⟨sv, rfl, hs⟩ := hv
  obtain ⟨pv, n, rfl, hpv, hn⟩ := hc
  obtain ⟨A, cA, rfl, hcA, hnA⟩ := hs.open_
  obtain ⟨U, cU, rfl, hcU, hnU⟩ := hu.open_
  have HB0 := Aside0.mk (And.intro hs hu)
  obtain ⟨C, cC, rfl, hcC, hnC⟩ := hpv.open_
  obtain ⟨pol, req, inh, own⟩ := c
  obtain ⟨pset, pex, pany⟩ := p
  simp only at HB0 h1 hp ⊢
  generalize (if own = true then n else nilS) = s
  clear hs hpv hn hcA hnA hcU hnU hcC hnC hu
  generalize hstep : endV ⟨pset, pex, pany⟩ ⟨pol, req, inh, own⟩ user = r
  have HP := Aside0.mk hstep
  clear hstep
  obtain ⟨n0, hn0⟩ : ∃ n0, pset.length = n0 := ⟨_, rfl⟩
  obtain ⟨n2, hn2⟩ : ∃ n2, user.length = n2 := ⟨_, rfl⟩
  rw [hn0] at HB0 hp ⊢
  rw [hn2] at HB0 hul ⊢
  have HN := Aside0.mk (And.intro hn0 hn2)
  clear hn0 hn2
  generalize pol.length = n1
  have HB := Aside0.mk (Below.refl w.heap.size w)
  go_enter Tryd.func19, Tryd.ntmps19
  go_upto_region 2 with (first
    | ((with_reducible refine gate_dst (N := 3) rfl ?_); refine law_new ?hg (N := 3) ?hd (ob := .cells #[.slice A n0 cA, .int .i64 pex, .int .i64 pany] 25 (0, 0)) (V := fun g => .pointer (some ⟨g, 0, none⟩)) ?hr ?_; (case hd => rfl); (case hg => rfl); (case hr => first | (go_simp; done) | (go_simp; rfl))
       intro g1 hg1 w1 b1 hb1
       have B1 := Aside0.mk b1
       clear b1
       have HS := Aside0.mk (And.intro (HB0.out.1.below hb1) (HB0.out.2.below hb1))
       have HBx := Aside0.mk (below_step HB.out hb1)
       clear HB hb1 hg1 HB0)
    | ((with_reducible refine gate_dst (N := 4) rfl ?_); refine law_new ?hg (N := 4) ?hd (ob := .cells (certC (.slice C n1 cC) n s req inh) 48 (0, 0)) (V := fun g => .pointer (some ⟨g, 0, none⟩)) ?hr ?_; (case hd => rfl); (case hg => rfl); (case hr => first | (go_simp; done) | (go_simp; rfl))
       intro g2 hg2 w2 b2 hb2
       have B2 := Aside0.mk b2
       clear b2
       have B1x := Aside0.mk (blk_below B1.out hb2)
       have HSx := Aside0.mk (And.intro (HS.out.1.below hb2) (HS.out.2.below hb2))
       have HB := Aside0.mk (below_step HBx.out hb2)
       clear HBx hb2 hg2 B1 HS)
    | ((with_reducible refine gate_dst (N := 14) rfl ?_); refine law_load1 rfl 3 _ rfl g1 1 rfl B1x.out (.int .i64 pex) rfl _ Tryd.underlying3 rfl ?_))
  have B1 := B1x
  have HS := HSx
  clear B1x HSx
  have hq : w2.cell? ⟨g2, 26, none⟩ = some (.int .i64 req) := by rw [cell_of_row _ g2 26 _ _ _ B2.out]; rfl
  go_upto_if 16 with fail
  go_cut [8] (fun v wx => Aside0 (v = .int .i64 (down pex (-1) true) ∧ w2 = wx))
  case first =>
    by_cases hx : 0 < pex
    · have HX : Aside0 (down pex (-1) true = pex - 1) := ⟨by simp [down, hx]⟩
      go_wp2_with fail
      go_meet
      case rel => exact ⟨⟨by rw [HX.out], rfl⟩⟩
    · have HX : Aside0 (down pex (-1) true = pex) := ⟨by simp [down, hx]⟩
      go_wp2_with fail
      go_meet
      case rel => exact ⟨⟨by rw [HX.out], rfl⟩⟩
  case rest =>
  obtain ⟨⟨rfl, rfl⟩⟩ := hcut
  go_upto_if 21 with fail
  go_cut [8] (fun v wx => Aside0 (v = .int .i64 (endX pex req) ∧ w2 = wx))
  case first =>
    by_cases hreq : req = 0
    · have hb : (req == 0) = true := by simpa using hreq
      have HX : Aside0 (endX pex req = 0) := ⟨by unfold endX; rw [if_pos hreq]⟩
      clear hreq
      go_wp2_with fail
      go_meet
      case rel => exact ⟨⟨by rw [HX.out], rfl⟩⟩
    · have hb : (req == 0) = false := by simpa using hreq
      have HX : Aside0 (endX pex req = down pex (-1) true) := ⟨by unfold endX; rw [if_neg hreq]⟩
      clear hreq
      go_wp2_with fail
      go_meet
      case rel => exact ⟨⟨by rw [HX.out], rfl⟩⟩
  case rest =>
  obtain ⟨⟨rfl, rfl⟩⟩ := hcut
  clear hq
  have HS2 := HS
  generalize hpp : pset.map bs = pp at HS2
  generalize huu : user.map bs = uu at HS2
  have HPU := Aside0.mk (And.intro hpp (And.intro huu (And.intro (show pp.length = n0 by rw [← hpp, List.length_map]; exact HN.out.1) (show uu.length = n2 by rw [← huu, List.length_map]; exact HN.out.2))))
  clear hpp huu HS
  obtain ⟨free, hf⟩ : ∃ b : Bool, b = (decide (n2 = 0) || memB bAny uu) := ⟨_, rfl⟩
  have HF := Aside0.mk hf
  clear hf
  go_upto_region 7 with fail
  go_cut [10] (fun t wx => Aside0 (t = .bool free ∧ Below w2.heap.size w2 wx))
  case first =>
    by_cases hz : n2 = 0
    · have hg : free = true := by rw [HF.out, decide_eq_true hz]; rfl
      subst hg
      subst hz
      go_wp2_with fail
      go_meet
      case rel => exact ⟨⟨rfl, Below.refl _ _⟩⟩
    · have hl0 : ((n2 : Int) == 0) = false := by rw [beq_eq_false_iff_ne]; omega
      have hm : memB bAny uu = free := by rw [HF.out, decide_eq_false hz]; rfl
      clear hz
      go_wp2_with (go_at_call 33; refine (in_walk bAny _ uu w2 HS2.out.2 (by have := HPU.out.2.2.2; omega)).mono ?_; rintro e w7 ⟨rfl, hb⟩; rw [hm]; have HB7 := Aside0.mk hb; clear hb)
      go_meet
      case rel => exact ⟨⟨rfl, HB7.out⟩⟩
  case rest =>
  obtain ⟨⟨rfl, hbw⟩⟩ := hcut
  have HWC := Aside0.mk hbw
  clear hbw
  go_wp2
  go_loopw [9, 11] (fun v i wr => ∃ (k : Nat) (acc : List S), k ≤ n0 ∧ i = .int .i64 k ∧ Aside0 (SS acc ∧ acc.length ≤ k ∧ ∀ x, x ∈ acc ↔ x ∈ pset.take k ∧ (free = true ∨ x ∈ user)) ∧ Aside0 (Kd.R Kd.string 9 wr w2.heap.size (fun _ => True) v (acc.map bs)) ∧ Aside0 (Below w2.heap.size w2 wr)) (fun _ i _ => n0 - (intOf i).toNat)
  case atStart => exact ⟨0, [], Nat.zero_le _, rfl, ⟨List.Pairwise.nil, Nat.le_refl _, fun x => by simp⟩, ⟨Kd.R_nil _ _ _ _ _⟩, ⟨HWC.out⟩⟩
  case round =>
    obtain ⟨k, acc, hk, rfl, HA, HK, HW⟩ := hrel
    clear HWC
    have hp0 : wr.cell? ⟨g1, 0, none⟩ = some (.slice A n0 cA) := by rw [cell_of_row _ g1 0 _ _ _ (blk_below B1.out HW.out)]; rfl
    by_cases hlt : k < n0
    · have hku : k < pset.length := by rw [HN.out.1]; exact hlt
      obtain ⟨ad, hA, hcx⟩ := Kd.at_string (rd_Cs (HS2.out.1.below HW.out)) k (by omega) (by exact_mod_cast hlt)
      subst hA
      rw [← HPU.out.1, rd_map pset k hku] at hcx
      have hts := take_s pset k hku
      generalize pset[k] = sx at hcx hts
      generalize hx : bs sx = x at hcx
      have HX := Aside0.mk hx
      have HXT := Aside0.mk (show tl x = sx by rw [← hx, tl_bs])
      have HT := Aside0.mk hts
      have p1 : ((k : Int) < (n0 : Int)) = True := by simpa using hlt
      have p2 : (0 ≤ (k : Int)) = True := by simp
      simp only [Int.toNat_natCast] at hcx
      have HPS := Aside0.mk (And.intro (put_ss HA.out.1 sx) (show (put acc sx).length ≤ k + 1 by have := put_len acc sx; have := HA.out.2.1; omega))
      clear hts hx hku
      cases free with
      | true =>
        have HM := Aside0.mk (e1_put (user := user) HA.out.2.2 HT.out (.inl rfl))
        go_wp2_with (go_at_call 27; refine (put_at HW.out HK.out (by have := HA.out.2.1; omega) HA.out.1).mono ?_; rintro e w9 ⟨v9, rfl, hr_, hb_⟩; have HP9 := Aside0.mk (And.intro hr_ hb_); clear hr_ hb_)
        go_roundw
        case rel => exact ⟨k + 1, put acc sx, by omega, by go_num, ⟨HPS.out.1, HPS.out.2, HM.out⟩, ⟨by have h := HP9.out.1; rw [HXT.out] at h; exact h⟩, ⟨HP9.out.2⟩⟩
        case measure => simp [intOf]; omega
      | false =>
        by_cases hin : sx ∈ user
        · have HM := Aside0.mk (e1_put (free := false) (user := user) HA.out.2.2 HT.out (.inr hin))
          have hm : memB x uu = true := by rw [← HPU.out.2.1, ← HX.out]; exact mem_of_memB.2 hin
          clear hin
          go_wp2_with (first
            | (go_at_call 33; refine (in_walk x _ uu wr (HS2.out.2.below HW.out) (by have := HPU.out.2.2.2; omega)).mono ?_; rintro e w7 ⟨rfl, hb⟩; rw [hm]
               have HK7 := Aside0.mk (Kd.R_below HK.out hb)
               have HW7 := Aside0.mk (below_step HW.out hb)
               have hp7 := cell_below hb hp0
               have hc7 := cell_below hb hcx
               clear hb)
            | (go_at_call 27; refine (put_at HW7.out HK7.out (by have := HA.out.2.1; omega) HA.out.1).mono ?_; rintro e w9 ⟨v9, rfl, hr_, hb_⟩; have HP9 := Aside0.mk (And.intro hr_ hb_); clear hr_ hb_))
          go_roundw
          case rel => exact ⟨k + 1, put acc sx, by omega, by go_num, ⟨HPS.out.1, HPS.out.2, HM.out⟩, ⟨by have h := HP9.out.1; rw [HXT.out] at h; exact h⟩, ⟨HP9.out.2⟩⟩
          case measure => simp [intOf]; omega
        · have HM := Aside0.mk (e1_skip (free := false) (user := user) HA.out.2.2 HT.out (fun h => h.elim (fun h => by cases h) hin))
          have hm : memB x uu = false := by
            rw [← Bool.not_eq_true, ← HPU.out.2.1, ← HX.out]
            exact fun h => hin (mem_of_memB.1 h)
          clear hin
          go_wp2_with
            (go_at_call 33; refine (in_walk x _ uu wr (HS2.out.2.below HW.out) (by have := HPU.out.2.2.2; omega)).mono ?_; rintro e w7 ⟨rfl, hb⟩; rw [hm]
             have HK7 := Aside0.mk (Kd.R_below HK.out hb)
             have HW7 := Aside0.mk (below_step HW.out hb)
             clear hb)
          go_roundw
          case rel => exact ⟨k + 1, acc, by omega, by go_num, ⟨HA.out.1, by have := HA.out.2.1; omega, HM.out⟩, ⟨HK7.out⟩, ⟨HW7.out⟩⟩
          case measure => simp [intOf]; omega
    · have e : k = n0 := by omega
      subst e
      have HA1 := Aside0.mk (show ∀ x, x ∈ acc ↔ x ∈ pset ∧ (free = true ∨ x ∈ user) by have h := HA.out.2.2; rw [← HN.out.1, List.take_length] at h; exact h)
      have HAS := Aside0.mk (And.intro HA.out.1 HA.out.2.1)
      clear HA
      obtain ⟨go2, hg2⟩ : ∃ b : Bool, b = (!free && memB bAny pp) := ⟨_, rfl⟩
      have HG := Aside0.mk hg2
      clear hg2
      have HAR := Aside0.mk (fun (m : List S) (hm : ∀ x, x ∈ m ↔ x ∈ acc ∨ (go2 = true ∧ x ∈ user)) => asked_R (acc := m) (acc1 := acc) HN.out.2 (by rw [HPU.out.2.1]; exact HF.out) (show go2 = (!free && memB bAny (pset.map bs)) by rw [HPU.out.1]; exact HG.out) HA1.out hm)
      clear HA1
      generalize acc = acc1 at HK HAS HAR
      go_wp2
      clear hp0
      go_loopw [9, 12] (fun v i wq => ∃ (q : Nat) (acc : List S), q ≤ n2 ∧ i = .int .i64 q ∧ Aside0 (SS acc ∧ acc.length ≤ k + q ∧ (∀ x, x ∈ acc ↔ x ∈ acc1 ∨ x ∈ user.take q) ∧ (q = 0 ∨ go2 = true)) ∧ Aside0 (Kd.R Kd.string 9 wq w2.heap.size (fun _ => True) v (acc.map bs)) ∧ Aside0 (Below w2.heap.size w2 wq)) (fun _ i _ => n2 - (intOf i).toNat)
      case atStart => exact ⟨0, acc1, Nat.zero_le _, rfl, ⟨HAS.out.1, by have := HAS.out.2; omega, fun x => by simp, .inl rfl⟩, ⟨HK.out⟩, ⟨HW.out⟩⟩
      case round =>
        obtain ⟨q, acc, hq, rfl, HA, HQ, HV⟩ := hrel
        clear HK HW HAS
        obtain ⟨Av, cv, rfl⟩ := Kd.R_slice HQ.out
        generalize hnv : (acc.map bs).length = nv at HQ ⊢
        have HNV := Aside0.mk hnv
        clear hnv
        have hp0 : wr.cell? ⟨g1, 0, none⟩ = some (.slice A k cA) := by rw [cell_of_row _ g1 0 _ _ _ (blk_below B1.out HV.out)]; rfl
        by_cases hqlt : q < n2
        · have p1 : ((q : Int) < (n2 : Int)) = True := by simpa using hqlt
          have p2 : (0 ≤ (q : Int)) = True := by simp
          cases free with
          | true =>
            have HMEM := Aside0.mk (HAR.out acc (fun x => by
              have hgf : go2 = false := by rw [HG.out]; rfl
              rcases HA.out.2.2.2 with h0 | h0
              · rw [HA.out.2.2.1, h0, List.take_zero, hgf]
                simp
              · rw [hgf] at h0
                cases h0))
            have HE := Aside0.mk (ss_ext HA.out.1 (norm_ss (asked pset user)) (fun x => by rw [norm_mem]; exact HMEM.out x))
            have HRS := Aside0.mk (show Strs wr (.slice Av nv cv) ((norm (asked pset user)).map bs) by rw [← HE.out]; exact strs_of_R HQ.out)
            have HBZ := Aside0.mk (below_step HB.out HV.out)
            have HNIL := Aside0.mk (show asked pset user = [] ↔ nv = 0 by
              have h1 : asked pset user = [] ↔ acc = [] := by
                rw [List.eq_nil_iff_forall_not_mem, List.eq_nil_iff_forall_not_mem]
                exact ⟨fun h x hx => h x ((HMEM.out x).1 hx), fun h x hx => h x ((HMEM.out x).2 hx)⟩
              rw [h1, ← HNV.out, List.length_map, List.length_eq_zero_iff])
            clear HMEM HE HQ HV
            by_cases hx : 0 < endX pex req
            · have hst : r = some (norm (asked pset user)) := by rw [← HP.out]; unfold endV; rw [if_neg (fun h => by have := h.2; simp only at this; omega)]
              have HST := Aside0.mk hst
              clear hst
              go_wp2_with fail
              go_ret2
              obtain rfl := HST.out
              exact ⟨⟨_, rfl, HRS.out⟩, HBZ.out⟩
            · by_cases hz : nv = 0
              · have hst : r = none := by rw [← HP.out]; unfold endV; rw [if_pos ⟨HNIL.out.2 hz, by simp only; omega⟩]
                subst hst
                subst hz
                go_wp2_with fail
                go_ret2
                exact ⟨rfl, HBZ.out⟩
              · have hst : r = some (norm (asked pset user)) := by rw [← HP.out]; unfold endV; rw [if_neg (fun h => hz (HNIL.out.1 h.1))]
                have HST := Aside0.mk hst
                have hz0 : 0 < nv := by omega
                clear hst hz
                go_wp2_with fail
                go_ret2
                obtain rfl := HST.out
                exact ⟨⟨_, rfl, HRS.out⟩, HBZ.out⟩
          | false =>
            by_cases hany : anyP ∈ pset
            · have hm : memB bAny pp = true := by rw [← HPU.out.1]; exact any_of_memB.2 hany
              have hqu : q < user.length := by rw [HN.out.2]; exact hqlt
              obtain ⟨ad, hU, hcx⟩ := Kd.at_string (rd_Cs (HS2.out.2.below HV.out)) q (by omega) (by exact_mod_cast hqlt)
              subst hU
              rw [← HPU.out.2.1, rd_map user q hqu] at hcx
              have hts := take_s user q hqu
              generalize user[q] = sx at hcx hts
              generalize hx : bs sx = x at hcx
              have HXT := Aside0.mk (show tl x = sx by rw [← hx, tl_bs])
              have HM := Aside0.mk (show ∀ y, y ∈ put acc sx ↔ y ∈ acc1 ∨ y ∈ user.take (q + 1) from fun y => by
                rw [put_mem, HA.out.2.2.1, hts, List.mem_append, List.mem_singleton]
                constructor
                · rintro (h | h | h)
                  · exact .inr (.inr h)
                  · exact .inl h
                  · exact .inr (.inl h)
                · rintro (h | h | h)
                  · exact .inr (.inl h)
                  · exact .inr (.inr h)
                  · exact .inl h)
              have HG2 := Aside0.mk (show go2 = true by rw [HG.out, hm]; rfl)
              have HPS := Aside0.mk (And.intro (put_ss HA.out.1 sx) (show (put acc sx).length ≤ k + (q + 1) by have := put_len acc sx; have := HA.out.2.1; omega))
              simp only [Int.toNat_natCast] at hcx
              clear hts hx hqu hany
              go_wp2_with (first
                | (go_at_call 33; refine (in_walk bAny _ pp wr (HS2.out.1.below HV.out) (by have := HPU.out.2.2.1; omega)).mono ?_; rintro e w7 ⟨rfl, hb⟩; rw [hm]
                   have HK7 := Aside0.mk (Kd.R_below HQ.out hb)
                   have HW7 := Aside0.mk (below_step HV.out hb)
                   have hc7 := cell_below hb hcx
                   clear hb)
                | (go_at_call 27; refine (put_at HW7.out HK7.out (by have := HA.out.2.1; omega) HA.out.1).mono ?_; rintro e w9 ⟨v9, rfl, hr_, hb_⟩; have HP9 := Aside0.mk (And.intro hr_ hb_); clear hr_ hb_))
              go_roundw
              case rel => exact ⟨q + 1, put acc sx, by omega, by go_num, ⟨HPS.out.1, HPS.out.2, HM.out, .inr HG2.out⟩, ⟨by have h := HP9.out.1; rw [HXT.out] at h; exact h⟩, ⟨HP9.out.2⟩⟩
              case measure => simp [intOf]; omega
            · have hm : memB bAny pp = false := by rw [← Bool.not_eq_true, ← HPU.out.1]; exact fun h => hany (any_of_memB.1 h)
              have HMEM := Aside0.mk (HAR.out acc (fun x => by
                have hgf : go2 = false := by rw [HG.out, hm]; rfl
                rcases HA.out.2.2.2 with h0 | h0
                · rw [HA.out.2.2.1, h0, List.take_zero, hgf]
                  simp
                · rw [hgf] at h0
                  cases h0))
              clear hany
              go_upto_region 17 with
                (go_at_call 33; refine (in_walk bAny _ pp wr (HS2.out.1.below HV.out) (by have := HPU.out.2.2.1; omega)).mono ?_; rintro e w7 ⟨rfl, hb⟩; rw [hm]
                 have HK7 := Aside0.mk (Kd.R_below HQ.out hb)
                 have HW7 := Aside0.mk (below_step HV.out hb)
                 clear hb)
              have HE := Aside0.mk (ss_ext HA.out.1 (norm_ss (asked pset user)) (fun x => by rw [norm_mem]; exact HMEM.out x))
              have HRS := Aside0.mk (show Strs w7 (.slice Av nv cv) ((norm (asked pset user)).map bs) by rw [← HE.out]; exact strs_of_R HK7.out)
              have HBZ := Aside0.mk (below_step HB.out HW7.out)
              have HNIL := Aside0.mk (show asked pset user = [] ↔ nv = 0 by
                have h1 : asked pset user = [] ↔ acc = [] := by
                  rw [List.eq_nil_iff_forall_not_mem, List.eq_nil_iff_forall_not_mem]
                  exact ⟨fun h x hx => h x ((HMEM.out x).1 hx), fun h x hx => h x ((HMEM.out x).2 hx)⟩
                rw [h1, ← HNV.out, List.length_map, List.length_eq_zero_iff])
              clear HMEM HE HK7 HW7
              by_cases hx : 0 < endX pex req
              · have hst : r = some (norm (asked pset user)) := by rw [← HP.out]; unfold endV; rw [if_neg (fun h => by have := h.2; simp only at this; omega)]
                have HST := Aside0.mk hst
                clear hst
                go_wp2_with fail
                go_ret2
                obtain rfl := HST.out
                exact ⟨⟨_, rfl, HRS.out⟩, HBZ.out⟩
              · by_cases hz : nv = 0
                · have hst : r = none := by rw [← HP.out]; unfold endV; rw [if_pos ⟨HNIL.out.2 hz, by simp only; omega⟩]
                  subst hst
                  subst hz
                  go_wp2_with fail
                  go_ret2
                  exact ⟨rfl, HBZ.out⟩
                · have hst : r = some (norm (asked pset user)) := by rw [← HP.out]; unfold endV; rw [if_neg (fun h => hz (HNIL.out.1 h.1))]
                  have HST := Aside0.mk hst
                  have hz0 : 0 < nv := by omega
                  clear hst hz
                  go_wp2_with fail
                  go_ret2
                  obtain rfl := HST.out
                  exact ⟨⟨_, rfl, HRS.out⟩, HBZ.out⟩
        · have e : q = n2 := by omega
          subst e
          have HMEM := Aside0.mk (HAR.out acc (fun x => by
            have hfull : user.take q = user := by rw [← HN.out.2, List.take_length]
            rcases HA.out.2.2.2 with h0 | h0
            · have hnil : user = [] := List.eq_nil_of_length_eq_zero (by rw [HN.out.2]; exact h0)
              rw [HA.out.2.2.1, hfull, hnil]
              simp
            · rw [HA.out.2.2.1, hfull, h0]
              simp))
          have HE := Aside0.mk (ss_ext HA.out.1 (norm_ss (asked pset user)) (fun x => by rw [norm_mem]; exact HMEM.out x))
          have HRS := Aside0.mk (show Strs wr (.slice Av nv cv) ((norm (asked pset user)).map bs) by rw [← HE.out]; exact strs_of_R HQ.out)
          have HBZ := Aside0.mk (below_step HB.out HV.out)
          have HNIL := Aside0.mk (show asked pset user = [] ↔ nv = 0 by
            have h1 : asked pset user = [] ↔ acc = [] := by
              rw [List.eq_nil_iff_forall_not_mem, List.eq_nil_iff_forall_not_mem]
              exact ⟨fun h x hx => h x ((HMEM.out x).1 hx), fun h x hx => h x ((HMEM.out x).2 hx)⟩
            rw [h1, ← HNV.out, List.length_map, List.length_eq_zero_iff])
          clear HMEM HE HQ HV
          by_cases hx : 0 < endX pex req
          · have hst : r = some (norm (asked pset user)) := by rw [← HP.out]; unfold endV; rw [if_neg (fun h => by have := h.2; simp only at this; omega)]
            have HST := Aside0.mk hst
            clear hst
            go_wp2_with fail
            go_ret2
            obtain rfl := HST.out
            exact ⟨⟨_, rfl, HRS.out⟩, HBZ.out⟩
          · by_cases hz : nv = 0
            · have hst : r = none := by rw [← HP.out]; unfold endV; rw [if_pos ⟨HNIL.out.2 hz, by simp only; omega⟩]
              subst hst
              subst hz
              go_wp2_with fail
              go_ret2
              exact ⟨rfl, HBZ.out⟩
            · have hst : r = some (norm (asked pset user)) := by rw [← HP.out]; unfold endV; rw [if_neg (fun h => hz (HNIL.out.1 h.1))]
              have HST := Aside0.mk hst
              have hz0 : 0 < nv := by omega
              clear hst hz
              go_wp2_with fail
              go_ret2
              obtain rfl := HST.out
              exact ⟨⟨_, rfl, HRS.out⟩, HBZ.out⟩
end Go.Proofs.YtgeoibgohlpfjaaDoor.Py
