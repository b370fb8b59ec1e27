/- policy.End walked (written by endgen.py). -/
import Derived.Test.YtgeoibgohlpfjaaDoorPyStep
set_option linter.unusedVariables false
set_option linter.unusedSimpArgs false
namespace Go.Proofs.YtgeoibgohlpfjaaDoor.Py
open Go Go.RowKit Go.Maps Go.Proofs.YtgeoibgohlpfjaaDoorW.PrintWords Go.Proofs.YtgeoibgohlpfjaaDoorW.PrintLast Go.Proofs.YtgeoibgohlpfjaaDoorW.PrintMore
theorem rd_C {w : World} {A : Option Addr} {n c : Nat} {ss : List ByteArray} (h : ReadS w A n c ss) : Kd.C Kd.string w A n ss := by
  obtain ⟨A', c', e, _, hr⟩ := h.1
  injection e with e1 e2 e3
  subst e1 e2 e3
  exact hr
/-- what is asked for is what the plain end asks for -/
theorem asked_iff {pset user : List S} {gt : Bool} {L pp uu : List ByteArray} {n2 : Nat} (hL : ∀ s, s ∈ L ↔ (if gt = true then (if memB bAny pp = true then s ∈ uu else s ∈ uu ∧ s ∈ pp) else s ∈ pp))
    (hg : gt = (decide (0 < n2) && !memB bAny uu)) (hpp : pset.map bs = pp) (huu : user.map bs = uu) (hn : uu.length = n2) (x : S) : x ∈ L.map tl ↔ x ∈ asked pset user := by
  subst hpp huu
  have ha : ∀ l : List S, bAny ∈ l.map bs ↔ anyP ∈ l := fun l => by rw [← bs_any]; exact mem_bs anyP l
  have hgt : gt = true ↔ (user ≠ [] ∧ anyP ∉ user) := by
    rw [hg, Bool.and_eq_true, Bool.not_eq_true']
    have h1 : memB bAny (user.map bs) = false ↔ anyP ∉ user := by
      rw [← ha, ← memB_iff]
      simp
    have h2 : 0 < n2 ↔ user ≠ [] := by
      rw [← hn, List.length_map, List.length_pos_iff]
    rw [h1, decide_eq_true_eq, h2]
  rw [mem_tl, hL]
  unfold asked
  by_cases hc : user ≠ [] ∧ anyP ∉ user
  · rw [if_pos (hgt.2 hc), if_pos hc]
    by_cases hp : anyP ∈ pset
    · rw [if_pos ((memB_iff _ _).2 ((ha _).2 hp)), if_pos hp, mem_bs]
    · rw [if_neg (fun h => hp ((ha _).1 ((memB_iff _ _).1 h))), if_neg hp, mem_bs, mem_bs, List.mem_filter]
      simp
  · rw [if_neg (fun h => hc (hgt.1 h)), if_neg hc, mem_bs]
/-- what End gives -/
def EndPost (r : Option (List S)) (w : World) (e : Ending) (w' : World) : Prop :=
  (match r with
  | some l => ∃ v, e = .returned (.tuple #[v, .bool true]) ∧ Strs w' v (l.map bs)
  | none => e = .returned (.tuple #[nilS, .bool false])) ∧ Below w.heap.size w w'
set_option maxHeartbeats 8000000 in
set_option maxRecDepth 100000 in
theorem end_walk (v cv uv : Value) (p : Pl) (c : Cb) (user : List S) (w : World) (hv : PolIs w v p) (hc : CertOf w cv c) (hu : Strs w uv (user.map bs)) (hp : p.set.length ≤ 1000000) (hul : user.length ≤ 1000000) (fp : FitS p.set) (fu : FitS user)
    (h1 : p.ex ≤ 9223372036854775807) : Calls Tryd.prog 18 #[v, cv, uv] w (EndPost (endV p c user) w) := by
  obtain ⟨sv, rfl, hs⟩ := hv
  obtain ⟨pv, n, rfl, hpv, hn⟩ := hc
  obtain ⟨A, cA, rfl, hcA, hnA⟩ := hs.open_
  obtain ⟨U, cU, rfl, hcU, hnU⟩ := hu.open_
  have HB0 := Aside0.mk (show Both w A p.set.length cA (p.set.map bs) U user.length cU (user.map bs) from ⟨⟨hs, fp.fits, hp⟩, hu, fu.fits, hul⟩)
  obtain ⟨C, cC, rfl, hcC, hnC⟩ := hpv.open_
  obtain ⟨pol, req, inh, own⟩ := c
  obtain ⟨pset, pex, pany⟩ := p
  simp only at HB0 h1 hp ⊢
  generalize (if own = true then n else nilS) = s
  clear hs hpv hn hcA hnA hcU hnU fp fu hcC hnC hu
  generalize hstep : endV ⟨pset, pex, pany⟩ ⟨pol, req, inh, own⟩ user = r
  have HP := Aside0.mk hstep
  clear hstep
  generalize hn0 : pset.length = n0 at HB0 hp ⊢
  generalize hn2 : user.length = n2 at HB0 hul ⊢
  generalize pol.length = n1
  have HB := Aside0.mk (Below.refl w.heap.size w)
  go_enter Tryd.func18, Tryd.ntmps18
  go_upto_region 2 with (first
    | ((with_reducible refine gate_dst (N := 3) rfl ?_); refine law_new ?hg (N := 3) ?hd (ob := .cells #[.slice A n0 cA, .int .i64 pex, .int .i64 pany] 25 (0, 0)) (V := fun g => .pointer (some ⟨g, 0, none⟩)) ?hr ?_; (case hd => rfl); (case hg => rfl); (case hr => first | (go_simp; done) | (go_simp; rfl))
       intro g1 hg1 w1 b1 hb1
       have B1 := Aside0.mk b1
       clear b1
       have HS := Aside0.mk (HB0.out.below hb1)
       have HBx := Aside0.mk (below_step HB.out hb1)
       clear HB hb1 hg1 HB0)
    | ((with_reducible refine gate_dst (N := 4) rfl ?_); refine law_new ?hg (N := 4) ?hd (ob := .cells (certC (.slice C n1 cC) n s req inh) 48 (0, 0)) (V := fun g => .pointer (some ⟨g, 0, none⟩)) ?hr ?_; (case hd => rfl); (case hg => rfl); (case hr => first | (go_simp; done) | (go_simp; rfl))
       intro g2 hg2 w2 b2 hb2
       have B2 := Aside0.mk b2
       clear b2
       have B1x := Aside0.mk (blk_below B1.out hb2)
       have HSx := Aside0.mk (HS.out.below hb2)
       have HB := Aside0.mk (below_step HBx.out hb2)
       clear HBx hb2 hg2 B1 HS)
    | ((with_reducible refine gate_dst (N := 15) rfl ?_); refine law_load1 rfl 3 _ rfl g1 1 rfl B1x.out (.int .i64 pex) rfl _ Tryd.underlying3 rfl ?_)
    | (go_at_call 31; (with_reducible refine (down_walk pex (-1) true _ h1).mono ?_); rintro e w_ ⟨rfl, hs_⟩; subst w_))
  have B1 := B1x
  have HS := HSx
  clear B1x HSx
  have hq : w2.cell? ⟨g2, 26, none⟩ = some (.int .i64 req) := by rw [cell_of_row _ g2 26 _ _ _ B2.out]; rfl
  go_upto_if 19 with fail
  go_cut [8] (fun v wx => Aside0 (v = .int .i64 (endX pex req) ∧ wx = w2))
  case first =>
    by_cases hreq : req = 0
    · have hb : (req == 0) = true := by simpa using hreq
      have HX : Aside0 (endX pex req = 0) := ⟨by unfold endX; rw [if_pos hreq]⟩
      clear hreq
      go_wp2_with fail
      go_meet
      case rel => exact ⟨⟨by rw [HX.out], rfl⟩⟩
    · have hb : (req == 0) = false := by simpa using hreq
      have HX : Aside0 (endX pex req = down pex (-1) true) := ⟨by unfold endX; rw [if_neg hreq]⟩
      clear hreq
      go_wp2_with fail
      go_meet
      case rel => exact ⟨⟨by rw [HX.out], rfl⟩⟩
  case rest =>
    obtain ⟨⟨rfl, rfl⟩⟩ := hcut
    clear hq
    go_upto_region 4 with fail
    have n0_ := Aside0.mk (blk_drew B1.out)
    have n1_ := Aside0.mk (below_drew1 HB.out)
    have n2_ := Aside0.mk (Both.drew HS.out)
    clear B1 HB HS
    have B1 := n0_
    have HB := n1_
    have HS := n2_
    clear n0_ n1_ n2_
    refine start_ (n := 7) (S := fun w' => w'.cell? ⟨g1, 0, none⟩ = some (.slice A n0 cA)) (ds := []) #[false, false, false, false, false, false, false] (by kernel_rfl) rfl rfl ((blk_cell B1.out 0).trans rfl) (fun hHeld => ?_)
    generalize wc.drew = w10 at B1 HB HS hHeld ⊢
    refine pure_ (i := 0) (N := some 20) (v := ?_) (a' := ?_) #[true, false, false, false, false, false, false] rfl rfl (by kernel_rfl) (fun _ _ _ h => h) (Or.inl ⟨by rfl, ?_⟩) ?_ ?_
    rotate_left
    · intro w'
      go_simp
      with_reducible rfl
    rotate_left
    · simp only [Act.put, List.setIfInBounds_toArray, List.set_cons_zero, List.set_cons_succ, i64_w, i32_w]
      rfl
    refine pure_ (i := 2) (N := some 22) (v := ?_) (a' := ?_) #[true, false, true, false, false, false, false] rfl rfl (by kernel_rfl) (fun _ _ _ h => h) (Or.inl ⟨by rfl, ?_⟩) ?_ ?_
    rotate_left
    · intro w'
      go_simp
      with_reducible rfl
    rotate_left
    · simp only [Act.put, List.setIfInBounds_toArray, List.set_cons_zero, List.set_cons_succ, i64_w, i32_w]
      rfl
    refine take_ (i := 3) (N := some 23) (v := ?_) (a' := ?_) #[true, false, true, true, false, false, false] rfl rfl (by kernel_rfl) (fun _ _ _ h => h) (Or.inl ⟨by rfl, ?_⟩) hHeld ?_ ?_
    rotate_left
    · rintro w' s0
      go_simp
      with_reducible rfl
    rotate_left
    · simp only [Act.put, List.setIfInBounds_toArray, List.set_cons_zero, List.set_cons_succ, i64_w, i32_w]
      rfl
    refine one_ (i := 1) (N := some 21) #[true, true, true, true, false, false, false] rfl rfl (by kernel_rfl) (by decide) (fun K hK => ?_)
    refine goes_ Tryd.func29 (by kernel_rfl) rfl #[.slice U n2 cU] (by rfl) rfl rfl (by (try simp only [List.map_toArray, List.map_cons, List.map_nil]); first | done | rfl) ?_
    refine (set_at HS.out.2.1 HS.out.2.2.1 HS.out.2.2.2).mono ?_
    rintro e w20 ⟨rfl, hm1, hb⟩
    refine ⟨_, rfl, ?_⟩
    have HM1 := Aside0.mk hm1
    have n0_ := Aside0.mk (blk_below B1.out hb)
    have n1_ := Aside0.mk (below_step HB.out hb)
    have n2_ := Aside0.mk (Both.below HS.out hb)
    clear B1 HB HS
    have B1 := n0_
    have HB := n1_
    have HS := n2_
    clear n0_ n1_ n2_
    clear hm1 hb
    generalize w10.heap.size = m1 at HM1 hK ⊢
    clear hHeld
    refine hK.out _ _ ((blk_cell B1.out 0).trans rfl) (fun hHeld => ?_)
    clear hK K
    refine norm_ (a' := ?_) ?_ ?_
    rotate_left
    · show Act.put _ (some 21) _ = _
      simp only [Act.put, List.setIfInBounds_toArray, List.set_cons_zero, List.set_cons_succ, i64_w, i32_w]
      rfl
    refine one_ (i := 4) (N := some 24) #[true, true, true, true, true, false, false] rfl rfl (by kernel_rfl) (by decide) (fun K hK => ?_)
    refine goes_ Tryd.func29 (by kernel_rfl) rfl #[.slice A n0 cA] (by rfl) rfl rfl (by (try simp only [List.map_toArray, List.map_cons, List.map_nil]); first | done | rfl) ?_
    refine (set_at HS.out.1.1 HS.out.1.2.1 HS.out.1.2.2).mono ?_
    rintro e w30 ⟨rfl, hm2, hb⟩
    refine ⟨_, rfl, ?_⟩
    have HM2 := Aside0.mk hm2
    have n0_ := Aside0.mk (blk_below B1.out hb)
    have n1_ := Aside0.mk (below_step HB.out hb)
    have n2_ := Aside0.mk (Both.below HS.out hb)
    have n3_ := Aside0.mk (MapIs.below HM1.out hb)
    clear B1 HB HS HM1
    have B1 := n0_
    have HB := n1_
    have HS := n2_
    have HM1 := n3_
    clear n0_ n1_ n2_ n3_
    clear hm2 hb
    generalize w20.heap.size = m2 at HM2 hK ⊢
    clear hHeld
    refine hK.out _ _ ((blk_cell B1.out 0).trans rfl) (fun hHeld => ?_)
    clear hK K
    refine norm_ (a' := ?_) ?_ ?_
    rotate_left
    · show Act.put _ (some 24) _ = _
      simp only [Act.put, List.setIfInBounds_toArray, List.set_cons_zero, List.set_cons_succ, i64_w, i32_w]
      rfl
    refine pure_ (i := 5) (N := some 9) (v := ?_) (a' := ?_) #[true, true, true, true, true, true, false] rfl rfl (by kernel_rfl) (fun _ _ _ h => h) (Or.inl ⟨by rfl, ?_⟩) ?_ ?_
    rotate_left
    · intro w'
      go_simp
      with_reducible rfl
    rotate_left
    · simp only [Act.put, List.setIfInBounds_toArray, List.set_cons_zero, List.set_cons_succ, i64_w, i32_w]
      rfl
    refine pure_ (i := 6) (N := some 10) (v := ?_) (a' := ?_) #[true, true, true, true, true, true, true] rfl rfl (by kernel_rfl) (fun _ _ _ h => h) (Or.inl ⟨by rfl, ?_⟩) ?_ ?_
    rotate_left
    · intro w'
      go_simp
      with_reducible rfl
    rotate_left
    · simp only [Act.put, List.setIfInBounds_toArray, List.set_cons_zero, List.set_cons_succ, i64_w, i32_w]
      rfl
    refine done_ (by kernel_rfl) ?_
    clear hHeld
    generalize hpp : pset.map bs = pp at HS HM2
    generalize huu : user.map bs = uu at HS HM1
    have hpl : pp.length ≤ 1000000 := by
      obtain ⟨A', c', e, h1, h2⟩ := HS.out.1.1
      have := HS.out.1.2.2
      injection e with e1 e2
      omega
    have hun : uu.length = n2 := by rw [← huu, List.length_map]; exact hn2
    have HPU := Aside0.mk (And.intro hpp (And.intro huu hun))
    clear hpp huu hn0 hn2
    obtain ⟨a1, h10, h11, h1i, hl1⟩ := look_cnt HM1.out (s := bAny) (by decide) (by omega)
    have hl1 := hl1 w30 (Below.refl _ _)
    obtain ⟨a2, h20, h21, h2i, hl2⟩ := look_cnt HM2.out (s := bAny) (by decide) hpl
    have hl2 := hl2 w30 (Below.refl _ _)
    have HI := Aside0.mk (And.intro h1i h2i)
    have hp0 : w30.cell? ⟨g1, 0, none⟩ = some (.slice A n0 cA) := by rw [cell_of_row _ g1 0 _ _ _ B1.out]; rfl
    obtain ⟨gt, hgt⟩ : ∃ gt : Bool, gt = (decide (0 < n2) && !memB bAny uu) := ⟨_, rfl⟩
    have HG := Aside0.mk hgt
    clear hgt h1i h2i hun
    go_upto_region 6 with fail
    go_cut [34] (fun t wx => Aside0 (t = .bool gt ∧ wx = w30))
    case first =>
      by_cases hz : 0 < n2
      · have hzi : (0 : Int) < (n2 : Int) := by omega
        by_cases ha : 0 < a1
        · have hg : gt = false := by rw [HG.out, memB_true (HI.out.1.1 ha)]; simp
          have hb : (a1 == 0) = false := by rw [beq_eq_false_iff_ne]; omega
          subst hg
          go_wp2_with fail
          go_meet
          case rel => exact ⟨⟨rfl, rfl⟩⟩
        · have hg : gt = true := by rw [HG.out, memB_false (fun h => ha (HI.out.1.2 h))]; simp [hz]
          have hb : a1 = 0 := by omega
          subst hg hb
          go_wp2_with fail
          go_meet
          case rel => exact ⟨⟨rfl, rfl⟩⟩
      · have hg : gt = false := by rw [HG.out]; simp [hz]
        have hb : n2 = 0 := by omega
        subst hg hb
        go_wp2_with fail
        go_meet
        case rel => exact ⟨⟨rfl, rfl⟩⟩
    case rest =>
      obtain ⟨⟨rfl, rfl⟩⟩ := hcut
      go_upto_if 34 with fail
      go_cut [11] (fun v wx => Aside0 (∃ Av L cv, v = .slice Av L.length cv ∧ Kd.C Kd.string wx Av L.length L ∧ L.length ≤ 2000000 ∧ Below wc.heap.size wc wx ∧ ∀ s, s ∈ L ↔ (if gt = true then (if memB bAny pp = true then s ∈ uu else s ∈ uu ∧ s ∈ pp) else s ∈ pp)))
      case first =>
        cases gt with
        | false =>
          go_wp2_with fail
          go_meet
          case rel =>
            obtain ⟨A', c', e, hc', hr'⟩ := HS.out.1.1
            injection e with e1 e2 e3
            subst e1 e2 e3
            exact ⟨⟨_, pp, _, rfl, hr', by omega, Below.refl _ _, fun s => by simp⟩⟩
        | true =>
          by_cases ha : 0 < a2
          · have hb : (a2 == 0) = false := by rw [beq_eq_false_iff_ne]; omega
            have hin := Aside0.mk (HI.out.2.1 ha)
            go_wp2_with fail
            go_meet
            case rel =>
              obtain ⟨A', c', e, hc', hr'⟩ := HS.out.2.1
              injection e with e1 e2 e3
              subst e1 e2 e3
              exact ⟨⟨_, uu, _, rfl, hr', by omega, Below.refl _ _, fun s => by rw [if_pos trivial, if_pos (memB_true hin.out)]⟩⟩
          · have hb : a2 = 0 := by omega
            have hnin := Aside0.mk (show bAny ∉ pp from fun h => ha (HI.out.2.2 h))
            subst hb
            go_wp2_with fail
            clear hl1 hl2 hp0
            go_loopw [11, 41] (fun v i wr => ∃ (k : Nat) (acc : List ByteArray), k ≤ n2 ∧ i = .int .i64 k ∧ Aside0 (acc.length ≤ k) ∧ Aside0 (Kd.R Kd.string 9 wr wc.heap.size (fun _ => True) v acc) ∧ Aside0 (∀ s, s ∈ acc ↔ s ∈ uu.take k ∧ s ∈ pp) ∧ Aside0 (Below wc.heap.size wc wr)) (fun _ i _ => n2 - (intOf i).toNat)
            case atStart => exact ⟨0, [], Nat.zero_le _, rfl, ⟨Nat.le_refl _⟩, ⟨Kd.R_nil _ _ _ _ _⟩, ⟨fun s => by simp⟩, ⟨Below.refl _ _⟩⟩
            case round =>
              obtain ⟨k, acc, hk, rfl, HL, HK, HA, HW⟩ := hrel
              by_cases hlt : k < n2
              · have hku : k < uu.length := by rw [HPU.out.2.2]; exact hlt
                obtain ⟨ad, hU, hcx⟩ := Kd.at_string (rd_C (HS.out.2.below HW.out)) k (by omega) (by exact_mod_cast hlt)
                subst hU
                have hmem := rd_mem uu k hku
                have hsn := take_snoc uu k hku
                have hfit := HS.out.2.2.1 _ hmem
                generalize rdOf ByteArray.empty uu k = x at hcx hmem hsn hfit
                obtain ⟨a3, h30, h31, h3i, hl3⟩ := look_cnt HM2.out hfit hpl
                have hl3 := hl3 wr HW.out
                have HSN := Aside0.mk hsn
                have p1 : ((k : Int) < (n2 : Int)) = True := by simpa using hlt
                have p2 : (0 ≤ (k : Int)) = True := by simp
                simp only [Int.toNat_natCast] at hcx
                clear hsn hmem hku hfit
                by_cases ha3 : 0 < a3
                · have hx := h3i.1 ha3
                  have HA1 : Aside0 (∀ s, s ∈ acc ++ [x] ↔ s ∈ uu.take (k + 1) ∧ s ∈ pp) := ⟨fun s => by
                    rw [HSN.out, List.mem_append, List.mem_append, HA.out, List.mem_singleton]
                    constructor
                    · rintro (h | rfl)
                      · exact ⟨.inl h.1, h.2⟩
                      · exact ⟨.inr rfl, hx⟩
                    · rintro ⟨h | rfl, h2⟩
                      · exact .inl ⟨h, h2⟩
                      · exact .inr rfl⟩
                  have hbase : wc.heap.size ≤ wr.heap.size := HW.out.size
                  clear hx h3i
                  go_wp2_with
                    (at_builtin; refine Kd.R_append Kd.string (w0 := wc) wc.heap.size rfl (.tmp 49) (.tmp 51) 23 9 (.string ⟨#[]⟩) 16 rfl Tryd.underlying23 info9 rfl (by decide) (by decide) _ acc x [.string x] (fun _ => True) (fun _ => False) rfl rfl rfl (fun _ h => h.elim) (fun _ _ => trivial) HK.out HW.out hbase (by have := HL.out; omega) ?_
                     intro v1 w33 hR hBl hgr hat1)
                  have HK2 := Aside0.mk hR
                  have HW2 := Aside0.mk hBl
                  clear hgr hat1 hR hBl hbase
                  go_roundw
                  case rel => exact ⟨k + 1, acc ++ [x], by omega, by go_num, ⟨by have := HL.out; rw [List.length_append]; simp; omega⟩, ⟨HK2.out⟩, ⟨HA1.out⟩, ⟨HW2.out⟩⟩
                  case measure => simp [intOf]; omega
                · have hx : x ∉ pp := fun h => ha3 (h3i.2 h)
                  have HA1 : Aside0 (∀ s, s ∈ acc ↔ s ∈ uu.take (k + 1) ∧ s ∈ pp) := ⟨fun s => by
                    rw [HSN.out, List.mem_append, HA.out, List.mem_singleton]
                    constructor
                    · rintro h
                      exact ⟨.inl h.1, h.2⟩
                    · rintro ⟨h | rfl, h2⟩
                      · exact ⟨h, h2⟩
                      · exact absurd h2 hx⟩
                  clear hx h3i
                  go_wp2
                  go_roundw
                  case rel => exact ⟨k + 1, acc, by omega, by go_num, ⟨by have := HL.out; omega⟩, ⟨HK.out⟩, ⟨HA1.out⟩, ⟨HW.out⟩⟩
                  case measure => simp [intOf]; omega
              · have e : k = n2 := by omega
                subst e
                go_wp2_with fail
                go_meet
                case rel =>
                  obtain ⟨Av, cv, rfl⟩ := Kd.R_slice HK.out
                  exact ⟨⟨Av, acc, cv, rfl, (Kd.R_reads' HK.out).2.2, by have := HL.out; omega, HW.out, fun s => by
                    rw [if_pos trivial, memB_false hnin.out, if_neg (by decide), HA.out, ← HPU.out.2.2, List.take_length]⟩⟩
      case rest =>
        obtain ⟨⟨Av, L, cv, rfl, hR, hLl, hW2, hL2⟩⟩ := hcut
        have hask := asked_iff hL2 HG.out HPU.out.1 HPU.out.2.1 HPU.out.2.2
        have HN := Aside0.mk (nil_iff_of hask)
        have HE := Aside0.mk (nrm_eq hask)
        have HW := Aside0.mk (below_step HB.out hW2)
        have HRx := Aside0.mk hR
        clear hW2 hR hL2 hask hl1 hl2 hp0 HG HI
        by_cases hno : L = [] ∧ endX pex req ≤ 0
        · obtain ⟨hL, hx⟩ := hno
          have hst : r = none := by rw [← HP.out]; unfold endV; rw [if_pos ⟨HN.out.1 hL, hx⟩]
          subst hL hst
          go_wp2_with fail
          go_ret2
          exact ⟨rfl, HW.out⟩
        · have hst : r = some (norm (asked pset user)) := by rw [← HP.out]; unfold endV; rw [if_neg (fun h => hno ⟨HN.out.2 h.1, h.2⟩)]
          have HST := Aside0.mk hst
          clear hst
          by_cases hL : L = []
          · have hx : ¬ endX pex req ≤ 0 := fun h => hno ⟨hL, h⟩
            have hx0 : 0 < endX pex req := by omega
            clear hno
            subst hL
            go_wp2_with
              (go_at_call 30; refine (sorted_at HRx.out hLl).mono ?_; rintro e w40 ⟨Bv, mv, dv, rfl, hst, hb⟩
               have HF := Aside0.mk (And.intro hst hb)
               clear hst hb)
            go_ret2
            obtain rfl := HST.out
            exact ⟨⟨_, rfl, by rw [← HE.out]; exact HF.out.1⟩, below_step HW.out HF.out.2⟩
          · have hl0 : (((L.length : Nat) : Int) == 0) = false := by
              rw [beq_eq_false_iff_ne]
              intro e
              exact hL (List.eq_nil_of_length_eq_zero (by omega))
            clear hno hL
            go_wp2_with
              (go_at_call 30; refine (sorted_at HRx.out hLl).mono ?_; rintro e w40 ⟨Bv, mv, dv, rfl, hst, hb⟩
               have HF := Aside0.mk (And.intro hst hb)
               clear hst hb)
            go_ret2
            obtain rfl := HST.out
            exact ⟨⟨_, rfl, by rw [← HE.out]; exact HF.out.1⟩, below_step HW.out HF.out.2⟩
end Go.Proofs.YtgeoibgohlpfjaaDoor.Py
