/- The law PolicySteps, walked (written by stepsgen.py). -/
import Derived.Test.YtgeoibgohlpfjaaDoorPyRefStep
set_option linter.unusedVariables false
set_option linter.unusedSimpArgs false
namespace Go.Proofs.YtgeoibgohlpfjaaDoor.Py
open Go Go.RowKit Go.Maps Go.Proofs.YtgeoibgohlpfjaaDoorW.PrintWords Go.Proofs.YtgeoibgohlpfjaaDoorW.PrintLast Go.Proofs.YtgeoibgohlpfjaaDoorW.PrintMore
theorem range_blk {w : World} {g : Nat} {cs : Array Value} {t : TypeId} {fr : Nat × Nat} (h : w.heap[g]? = some (.cells cs t fr)) : w.rangeAt g 0 cs.toList := fun j v hv => by
  rw [Nat.zero_add, cell_of_row w g j cs t fr h]
  simpa using hv
theorem pol_mk {w : World} {p : Pl} {A : Option Addr} {n c : Nat} (h : Strs w (.slice A n c) (p.set.map bs)) : PolIs w (.agg #[.slice A n c, .int .i64 p.ex, .int .i64 p.any]) p := ⟨_, rfl, h⟩
/-- what a step gives, as a state (that of no policies where there is none) -/
def none0 : Pl := ⟨[], 0, 0⟩
theorem StepPost.vals {r : Option Pl} {w : World} {e : Ending} {w' : World} (h : StepPost r w e w') : ∃ A n c, e = .returned (.tuple #[.agg #[.slice A n c, .int .i64 (r.getD none0).ex, .int .i64 (r.getD none0).any], .bool r.isSome]) ∧ Strs w' (.slice A n c) ((r.getD none0).set.map bs) ∧ Below w.heap.size w w' := by
  obtain ⟨h, hb⟩ := h
  cases r with
  | none => exact ⟨none, 0, 0, h, Strs.nil _, hb⟩
  | some q =>
    obtain ⟨v, he, sv, rfl, hs⟩ := h
    obtain ⟨A, c, rfl, _, _⟩ := hs.open_
    exact ⟨A, _, c, he, hs, hb⟩
theorem stepV_len {p : Pl} {c : Cb} {last : Bool} (h1 : p.set.length ≤ 200) (h2 : c.pol.length ≤ 200) : ((stepV p c last).getD none0).set.length ≤ 1000 := by
  unfold stepV
  split
  · simp [none0]
  · have h := norm_length (gather p.set p.any c.pol c.own last)
    have h2 := gather_len p.set c.pol p.any c.own last
    simp only [Option.getD_some]
    omega
set_option maxHeartbeats 8000000 in
set_option maxRecDepth 100000 in
theorem steps_big (A : Option Addr) (n0 cA : Nat) (ex any : Int) (P : Option Addr) (np cP : Nat) (req inh : Int) (own last : Bool) (w : World) (hbig : 200 < n0) :
    Calls Tryd.prog 4 #[.agg #[.slice A n0 cA, .int .i64 ex, .int .i64 any], .agg #[.slice P np cP, .int .i64 req, .int .i64 inh, .bool own], .bool last] w fun e w' => e = .returned (.bool true) ∧ Below w.heap.size w w' := by
  have p0 : (200 < (n0 : Int)) = True := by simp; omega
  have HB := Aside0.mk (Below.refl w.heap.size w)
  go_enter Tryd.func4, Tryd.ntmps4
  go_wp2_with (first
    | ((with_reducible refine gate_dst (N := 3) rfl ?_); refine law_new ?hg (N := 3) ?hd (ob := .cells #[.slice A n0 cA, .int .i64 ex, .int .i64 any] 25 (0, 0)) (V := fun g => .pointer (some ⟨g, 0, none⟩)) ?hr ?_; (case hd => rfl); (case hg => rfl); (case hr => first | (go_simp; done) | (go_simp; rfl))
       intro g1 hg1 w1 b1 hb1
       have B1 := Aside0.mk b1
       have HBx := Aside0.mk (below_step HB.out hb1)
       clear b1 HB hb1 hg1)
    | ((with_reducible refine gate_dst (N := 4) rfl ?_); refine law_new ?hg (N := 4) ?hd (ob := .cells #[.slice P np cP, .int .i64 req, .int .i64 inh, .bool own] 30 (0, 0)) (V := fun g => .pointer (some ⟨g, 0, none⟩)) ?hr ?_; (case hd => rfl); (case hg => rfl); (case hr => first | (go_simp; done) | (go_simp; rfl))
       intro g2 hg2 w2 b2 hb2
       have B2 := Aside0.mk b2
       have B1x := Aside0.mk (blk_below B1.out hb2)
       have HB := Aside0.mk (below_step HBx.out hb2)
       clear b2 HBx hb2 hg2 B1)
    | ((with_reducible refine gate_dst (N := 13) rfl ?_); refine law_load1 rfl 23 _ rfl g1 0 rfl B1x.out (.slice A n0 cA) rfl _ Tryd.underlying23 rfl ?_)
    | (go_at_call 13; (with_reducible refine (live_walk w2).mono ?_); rintro e w3 ⟨rfl, hb3⟩; have HZ := Aside0.mk (below_step HB.out hb3); clear hb3))
  go_ret
  exact ⟨rfl, HZ.out⟩
set_option maxHeartbeats 16000000 in
set_option maxRecDepth 100000 in
theorem steps_main (A : Option Addr) (n0 cA : Nat) (p : Pl) (P : Option Addr) (np cP : Nat) (b : Cb) (last : Bool) (w : World) (hs : Strs w (.slice A n0 cA) (p.set.map bs)) (hn0 : p.set.length = n0) (fp : FitS p.set) (he0 : I64 p.ex) (ha0 : I64 p.any)
    (hp : Strs w (.slice P np cP) (b.pol.map bs)) (hb0 : BitOk b) (hbig : ¬ 200 < n0) :
    Calls Tryd.prog 4 #[.agg #[.slice A n0 cA, .int .i64 p.ex, .int .i64 p.any], .agg #[.slice P np cP, .int .i64 b.req, .int .i64 b.inh, .bool b.own], .bool last] w fun e w' => e = .returned (.bool true) ∧ Below w.heap.size w w' := by
  have HS0 := Aside0.mk (And.intro hs hp)
  have HN := Aside0.mk hn0
  have HF := Aside0.mk (And.intro fp (And.intro he0 (And.intro ha0 hb0)))
  clear hs hn0 fp he0 ha0 hp hb0
  have p0 : (200 < (n0 : Int)) = False := by simp; omega
  have HB := Aside0.mk (Below.refl w.heap.size w)
  obtain ⟨hug, hh⟩ : ∃ h : Bool, hugeB [b] [] = h := ⟨_, rfl⟩
  have HH := Aside0.mk hh
  clear hh
  go_enter Tryd.func4, Tryd.ntmps4
  go_upto_if 20 with (first
    | ((with_reducible refine gate_dst (N := 3) rfl ?_); refine law_new ?hg (N := 3) ?hd (ob := .cells #[.slice A n0 cA, .int .i64 p.ex, .int .i64 p.any] 25 (0, 0)) (V := fun g => .pointer (some ⟨g, 0, none⟩)) ?hr ?_; (case hd => rfl); (case hg => rfl); (case hr => first | (go_simp; done) | (go_simp; rfl))
       intro g1 hg1 w1 b1 hb1
       have B1 := Aside0.mk b1
       have HBx := Aside0.mk (below_step HB.out hb1)
       clear b1 HB hb1 hg1)
    | ((with_reducible refine gate_dst (N := 4) rfl ?_); refine law_new ?hg (N := 4) ?hd (ob := .cells #[.slice P np cP, .int .i64 b.req, .int .i64 b.inh, .bool b.own] 30 (0, 0)) (V := fun g => .pointer (some ⟨g, 0, none⟩)) ?hr ?_; (case hd => rfl); (case hg => rfl); (case hr => first | (go_simp; done) | (go_simp; rfl))
       intro g2 hg2 w2 b2 hb2
       have B2 := Aside0.mk b2
       have B1x := Aside0.mk (blk_below B1.out hb2)
       have HB := Aside0.mk (below_step HBx.out hb2)
       have k0 : w2.cell? ⟨g2, 0, none⟩ = some (.slice P np cP) := (blk_cell B2.out 0).trans rfl
       have k1 : w2.cell? ⟨g2, 1, none⟩ = some (.int .i64 b.req) := (blk_cell B2.out 1).trans rfl
       have k2 : w2.cell? ⟨g2, 2, none⟩ = some (.int .i64 b.inh) := (blk_cell B2.out 2).trans rfl
       have k3 : w2.cell? ⟨g2, 3, none⟩ = some (.bool b.own) := (blk_cell B2.out 3).trans rfl
       clear b2 HBx hb2 hg2 B1)
    | ((with_reducible refine gate_dst (N := 13) rfl ?_); refine law_load1 rfl 23 _ rfl g1 0 rfl B1x.out (.slice A n0 cA) rfl _ Tryd.underlying23 rfl ?_)
    | (go_at_call 14; refine (huge_walk _ _ [b] [] _ (bits_one (blk_new w2 _) (HS0.out.2.below (below_alloc HB.out _))) (Strs.nil _) (Nat.zero_le _)).mono ?_; rintro e w_ ⟨rfl, hs_⟩; subst w_; rw [HH.out]))
  have hb3 : Below w2.heap.size w2 (w2.alloc (.cells #[.slice P np cP, .int .i64 b.req, .int .i64 b.inh, .bool b.own] 30)) := below_alloc (Below.refl _ _) _
  generalize w2.alloc (.cells #[.slice P np cP, .int .i64 b.req, .int .i64 b.inh, .bool b.own] 30) = w3 at hb3 ⊢
  have HBy := Aside0.mk (below_step HB.out hb3)
  have HBlk := Aside0.mk (And.intro (blk_below B1x.out hb3) (blk_below B2.out hb3))
  clear hb3 HB B1x B2 k0 k1 k2 k3
  cases hug with
  | true =>
    go_wp2_with (go_at_call 13; (with_reducible refine (live_walk w3).mono ?_); rintro e w4 ⟨rfl, hb4⟩; have HZ := Aside0.mk (below_step HBy.out hb4); clear hb4)
    go_ret
    exact ⟨rfl, HZ.out⟩
  | false =>
    have hpl := (not_huge HH.out).2.2 b (by simp)
    have HL := Aside0.mk hpl
    clear hpl
    have B1 := Aside0.mk HBlk.out.1
    have B2 := Aside0.mk HBlk.out.2
    have HB := Aside0.mk HBy.out
    have HP := Aside0.mk (show (p.set.map bs).length = n0 by rw [List.length_map]; exact HN.out)
    clear HBlk HBy
    have hlen := stepV_len (p := p) (c := b) (last := last) (by rw [HN.out]; omega) HL.out
    generalize hr : stepV p b last = r at hlen
    have HR := Aside0.mk (And.intro hr hlen)
    clear hr hlen
    go_upto_region 5 with (first
      | ((with_reducible refine gate_dst (N := 22) rfl ?_); refine law_load rfl 25 _ rfl g1 rfl B1.out _ Tryd.underlying25 rfl (by kernel_rfl) ?_)
      | ((with_reducible refine gate_dst (N := 7) rfl ?_); refine law_new ?hg (N := 7) ?hd (ob := .cells #[nilS, .int .i64 0, .int .i64 0] 25 (0, 0)) (V := fun g => .pointer (some ⟨g, 0, none⟩)) ?hr ?_; (case hd => rfl); (case hg => rfl); (case hr => first | (go_simp; done) | (go_simp; rfl))
         intro g7 hg7 w4 b7 hb7
         have B7 := Aside0.mk b7
         have HG := Aside0.mk (show g1 < g7 ∧ g2 < g7 ∧ w.heap.size ≤ g7 by rw [hg7]; exact ⟨blk_lt B1.out, blk_lt B2.out, HB.out.size⟩)
         have B1x := Aside0.mk (blk_below B1.out hb7)
         have B2x := Aside0.mk (blk_below B2.out hb7)
         have HBx := Aside0.mk (below_step HB.out hb7)
         clear b7 hb7 hg7 B1 B2 HB)
      | (have h0_ := B7.out; refine law_store ?q1 25 (.tmp 7) (.tmp 22) ?q2 g7 #[.slice A n0 cA, .int .i64 p.ex, .int .i64 p.any] ?q3 ?q4 h0_ ?q5 ?q6 ?q7 ?_; (case q1 => rfl); (case q2 => rfl); (case q3 => rfl); (case q4 => rfl); (case q5 => rfl); (case q6 => kernel_rfl); (case q7 => exact strs_one_cell HS0.out.1)
         intro w5 b5 hg5 hs5
         have B7x := Aside0.mk b5
         have B1 := Aside0.mk (blk_grown B1x.out hg5 (fun e => by have h1 := Option.some.inj e; have h2 := HG.out.1; omega))
         have B2 := Aside0.mk (blk_grown B2x.out hg5 (fun e => by have h1 := Option.some.inj e; have h2 := HG.out.2.1; omega))
         have HB := Aside0.mk (HBx.out.grown hg5 HBx.out.size (fun j hj => by cases hj; exact HG.out.2.2))
         clear b5 hg5 hs5 h0_ B7 B1x B2x HBx)
      | ((with_reducible refine gate_dst (N := 23) rfl ?_); refine Kd.R_lit Kd.string w5.heap.size 9 ?hg (N := 23) ?hd (xs := ([] : List ByteArray)) (inner := []) (ok := fun _ => True) (okp := fun _ => True) ?hr ?hp (fun _ hk => hk) trivial (Below.refl _ _) (Nat.le_refl _) (by simp) ?_; (case hd => rfl); (case hg => rfl); (case hr => first | (go_simp; done) | (go_simp; rfl)); (case hp => exact (Reps.none _ _))
         intro v8 w8 hR_ hB_ hg_ hnew_
         have HL8 := Aside0.mk (And.intro hR_ hB_)
         clear hR_ hB_ hg_ hnew_)
      | ((with_reducible refine gate_dst (N := 25) rfl ?_); refine law_load1 rfl 23 _ rfl g1 0 rfl (blk_below B1.out HL8.out.2) (.slice A n0 cA) rfl _ Tryd.underlying23 rfl ?_)
      | (at_builtin; refine Kd.R_append_rows Kd.string (w0 := w5) w5.heap.size rfl (.tmp 23) (.tmp 25) 23 9 (.string ⟨#[]⟩) 16 rfl Tryd.underlying23 info9 rfl (by decide) (by decide) _ ([] : List ByteArray) (p.set.map bs) A n0 cA (fun _ => True) (fun _ => False) rfl rfl HL8.out.1 (row_of (HS0.out.1.below (below_step HB.out HL8.out.2))) (fun _ _ h => h) (fun _ h => h.elim) (fun _ _ => trivial) HL8.out.2 HL8.out.2.size (by simp only [List.length_nil]; omega) ?_
         intro v9 w9 hR_ hB_ hg_ hat_
         obtain ⟨Q, cQ, rfl⟩ : ∃ A c, v9 = .slice A n0 c := by
           obtain ⟨A', c', e⟩ := Kd.R_slice hR_
           rw [List.nil_append, HP.out] at e
           exact ⟨A', c', e⟩
         have HQx := Aside0.mk (show Strs w9 (.slice Q n0 cQ) (p.set.map bs) from strs_of_R hR_)
         have B7 := Aside0.mk (blk_below B7x.out hB_)
         have B1x := Aside0.mk (blk_below B1.out hB_)
         have B2x := Aside0.mk (blk_below B2.out hB_)
         have HBx := Aside0.mk (below_step HB.out hB_)
         clear hR_ hB_ hg_ hat_ HL8 B1 B2 B7x HB)
      | (have h1_ := HQx.out; have h0_ := B7.out; refine law_store1 ?q1 23 (.tmp 27) (.tmp 26) ?q2 g7 0 (.slice Q n0 cQ) ?q3 ?q4 h0_ ?q5 ?q6 ?q7 ?q8 ?_; (case q1 => rfl); (case q2 => rfl); (case q3 => rfl); (case q4 => rfl); (case q5 => simp); (case q6 => kernel_rfl); (case q7 => rfl); (case q8 => rfl)
         intro w10 b5 hg5 hs5
         have HQ := Aside0.mk (strs_grown h1_ hg5 h0_)
         have B7x := Aside0.mk (show w10.heap[g7]? = some (.cells #[.slice Q n0 cQ, .int .i64 p.ex, .int .i64 p.any] 25 (0, 0)) from b5)
         have B1 := Aside0.mk (blk_grown B1x.out hg5 (fun e => by have h1 := Option.some.inj e; have h2 := HG.out.1; omega))
         have B2 := Aside0.mk (blk_grown B2x.out hg5 (fun e => by have h1 := Option.some.inj e; have h2 := HG.out.2.1; omega))
         have HB := Aside0.mk (HBx.out.grown hg5 HBx.out.size (fun j hj => by cases hj; exact HG.out.2.2))
         clear b5 hg5 hs5 h0_ h1_ B7 B1x B2x HBx HQx))
    have B7 := B7x
    clear B7x
    have n0_ := Aside0.mk (blk_drew B1.out)
    have n1_ := Aside0.mk (blk_drew B2.out)
    have n2_ := Aside0.mk (blk_drew B7.out)
    have n3_ := Aside0.mk (below_drew1 HB.out)
    have n4_ := Aside0.mk (Strs.below HQ.out (below_drew1 (Below.refl _ _)))
    clear B1 B2 B7 HB HQ
    have B1 := n0_
    have B2 := n1_
    have B7 := n2_
    have HB := n3_
    have HQ := n4_
    clear n0_ n1_ n2_ n3_ n4_
    refine start_ (n := 11) (S := fun w' => w'.rangeAt g7 0 [.slice Q n0 cQ, .int .i64 p.ex, .int .i64 p.any] ∧ w'.rangeAt g2 0 [.slice P np cP, .int .i64 b.req, .int .i64 b.inh, .bool b.own]) (ds := []) #[false, false, false, false, false, false, false, false, false, false, false] (by kernel_rfl) rfl rfl ⟨range_blk B7.out, range_blk B2.out⟩ (fun hHeld => ?_)
    generalize w10.drew = w20 at B1 B2 B7 HB HQ hHeld ⊢
    refine take_ (i := 0) (N := some 29) (v := .agg #[.slice Q n0 cQ, .int .i64 p.ex, .int .i64 p.any]) (a' := ?_) #[true, false, false, false, false, false, false, false, false, false, false] rfl rfl (by kernel_rfl) (fun _ _ _ h => h) (yieldsIf_load_mid (by rfl) 25 (.tmp 7) rfl g7 0 rfl [.slice Q n0 cQ, .int .i64 p.ex, .int .i64 p.any] _ (fun _ h => h.1) Tryd.underlying25 rfl (by kernel_rfl)) hHeld ?_ ?_
    rotate_left
    · simp only [Act.put, List.setIfInBounds_toArray, List.set_cons_zero, List.set_cons_succ, i64_w, i32_w]
      rfl
    refine take_ (i := 1) (N := some 30) (v := .agg #[.slice P np cP, .int .i64 b.req, .int .i64 b.inh, .bool b.own]) (a' := ?_) #[true, true, false, false, false, false, false, false, false, false, false] rfl rfl (by kernel_rfl) (fun _ _ _ h => h) (yieldsIf_load_mid (by rfl) 30 (.tmp 4) rfl g2 0 rfl [.slice P np cP, .int .i64 b.req, .int .i64 b.inh, .bool b.own] _ (fun _ h => h.2) Tryd.underlying30 rfl (by kernel_rfl)) hHeld ?_ ?_
    rotate_left
    · simp only [Act.put, List.setIfInBounds_toArray, List.set_cons_zero, List.set_cons_succ, i64_w, i32_w]
      rfl
    refine pure_ (i := 3) (N := some 32) (v := ?_) (a' := ?_) #[true, true, false, true, false, false, false, false, false, false, false] rfl rfl (by kernel_rfl) (fun _ _ _ h => h) (Or.inl ⟨by rfl, ?_⟩) ?_ ?_
    rotate_left
    · intro w'
      go_simp
      with_reducible rfl
    rotate_left
    · simp only [Act.put, List.setIfInBounds_toArray, List.set_cons_zero, List.set_cons_succ, i64_w, i32_w]
      rfl
    refine join_ (σ := Value × Option Addr × Nat × Nat × Nat) 1 #[true, true, true, true, true, true, true, true, true, true, false] (fun s => [(31, s.1), (33, .tuple #[.agg #[.slice s.2.1 s.2.2.1 s.2.2.2.1, .int .i64 (r.getD none0).ex, .int .i64 (r.getD none0).any], .bool r.isSome]), (28, .tuple #[.agg #[.slice s.2.1 s.2.2.1 s.2.2.2.1, .int .i64 (r.getD none0).ex, .int .i64 (r.getD none0).any], .bool r.isSome]), (34, .agg #[.slice s.2.1 s.2.2.1 s.2.2.2.1, .int .i64 (r.getD none0).ex, .int .i64 (r.getD none0).any]), (35, .bool r.isSome), (8, .pointer (some ⟨s.2.2.2.2, 0, none⟩))]) (fun s w' => Strs w' (.slice s.2.1 s.2.2.1 s.2.2.2.1) ((r.getD none0).set.map bs) ∧ w'.heap[s.2.2.2.2]? = some (.cells #[.slice s.2.1 s.2.2.1 s.2.2.2.1, .int .i64 (r.getD none0).ex, .int .i64 (r.getD none0).any] 25 (0, 0)) ∧ Below w20.heap.size w20 w' ∧ w20.heap.size ≤ s.2.2.2.2) ?cont28 ?orders28
    case orders28 =>
      intro hcont
      have hw : Below w20.heap.size w20 w20 := Below.refl _ _
      refine two_ (i := 2) (j := 8) (Ni := some 31) (Nj := some 8) #[true, true, true, true, false, false, false, false, false, false, false] #[true, true, false, true, false, false, false, false, true, false, false] rfl rfl rfl rfl (by kernel_rfl) (by decide) (by decide) (fun K hK => ?_) (fun K hK => ?_)
      · refine goes_ Tryd.func16 (by kernel_rfl) rfl #[.agg #[.slice P np cP, .int .i64 b.req, .int .i64 b.inh, .bool b.own]] (by rfl) rfl rfl (by (try simp only [List.map_toArray, List.map_cons, List.map_nil]); first | done | rfl) ?_
        refine (of_at (b := b) (HS0.out.2.below (below_step HB.out hw))).mono ?_
        rintro e wA ⟨nB, nb, cb, nS, ns, cs, rfl, hcr, hb⟩
        refine ⟨_, rfl, ?_⟩
        have hcert := (hcr.cert hb).2
        have hw := below_step hw hb
        clear hcr hb
        refine hK.out _ _ ⟨range_blk (blk_below B7.out hw), range_blk (blk_below B2.out hw)⟩ (fun _ => ?_)
        clear hK K
        refine norm_ (a' := ?_) ?_ ?_
        rotate_left
        · show Act.put _ (some 31) _ = _
          simp only [Act.put, List.setIfInBounds_toArray, List.set_cons_zero, List.set_cons_succ, i64_w, i32_w]
          rfl
        refine two_ (i := 4) (j := 8) (Ni := some 33) (Nj := some 8) #[true, true, true, true, true, false, false, false, false, false, false] #[true, true, true, true, false, false, false, false, true, false, false] rfl rfl rfl rfl (by kernel_rfl) (by decide) (by decide) (fun K hK => ?_) (fun K hK => ?_)
        · refine goes_ Tryd.func15 (by kernel_rfl) rfl #[.agg #[.slice Q n0 cQ, .int .i64 p.ex, .int .i64 p.any], .agg (certC (.slice P np cP) (.slice nB nb cb) (.slice nS ns cs) b.req b.inh), .bool last] (by rfl) rfl rfl (by (try simp only [List.map_toArray, List.map_cons, List.map_nil]); first | done | rfl) ?_
          refine (step_walk _ _ p b last _ ⟨_, rfl, HQ.out.below hw⟩ hcert (by rw [HN.out]; omega) (by have := HL.out; omega) HF.out.1 HF.out.2.2.2.1 HF.out.2.1.2 HF.out.2.2.1.2).mono ?_
          rintro e wC hpost
          rw [HR.out.1] at hpost
          obtain ⟨A1, m1, c1, rfl, hst, hb⟩ := hpost.vals
          refine ⟨_, rfl, ?_⟩
          clear hpost hcert
          have hw := below_step hw hb
          clear hb
          refine hK.out _ _ ⟨range_blk (blk_below B7.out hw), range_blk (blk_below B2.out hw)⟩ (fun _ => ?_)
          clear hK K
          refine norm_ (a' := ?_) ?_ ?_
          rotate_left
          · show Act.put _ (some 33) _ = _
            simp only [Act.put, List.setIfInBounds_toArray, List.set_cons_zero, List.set_cons_succ, i64_w, i32_w]
            rfl
          refine pure_ (i := 5) (N := some 28) (v := ?_) (a' := ?_) #[true, true, true, true, true, true, false, false, false, false, false] rfl rfl (by kernel_rfl) (fun _ _ _ h => h) (Or.inl ⟨by rfl, ?_⟩) ?_ ?_
          rotate_left
          · intro w'
            go_simp
            with_reducible rfl
          rotate_left
          · simp only [Act.put, List.setIfInBounds_toArray, List.set_cons_zero, List.set_cons_succ, i64_w, i32_w]
            rfl
          refine pure_ (i := 6) (N := some 34) (v := ?_) (a' := ?_) #[true, true, true, true, true, true, true, false, false, false, false] rfl rfl (by kernel_rfl) (fun _ _ _ h => h) (Or.inl ⟨by rfl, ?_⟩) ?_ ?_
          rotate_left
          · intro w'
            go_simp
            with_reducible rfl
          rotate_left
          · simp only [Act.put, List.setIfInBounds_toArray, List.set_cons_zero, List.set_cons_succ, i64_w, i32_w]
            rfl
          refine pure_ (i := 7) (N := some 35) (v := ?_) (a' := ?_) #[true, true, true, true, true, true, true, true, false, false, false] rfl rfl (by kernel_rfl) (fun _ _ _ h => h) (Or.inl ⟨by rfl, ?_⟩) ?_ ?_
          rotate_left
          · intro w'
            go_simp
            with_reducible rfl
          rotate_left
          · simp only [Act.put, List.setIfInBounds_toArray, List.set_cons_zero, List.set_cons_succ, i64_w, i32_w]
            rfl
          refine one_ (i := 8) (N := some 8) #[true, true, true, true, true, true, true, true, true, false, false] rfl rfl (by kernel_rfl) (by decide) (fun K hK => ?_)
          refine runs_ (v := .pointer (some ⟨wC.heap.size, 0, none⟩)) (w' := wC.alloc (.cells #[nilS, .int .i64 0, .int .i64 0] 25)) (by rfl) rfl (by first | (go_simp; done) | (go_simp; rfl)) ?_
          have hb0 : Below wC.heap.size wC (wC.alloc (.cells #[nilS, .int .i64 0, .int .i64 0] 25)) := below_alloc (Below.refl _ _) _
          have hb5 := blk_new wC (.cells #[nilS, .int .i64 0, .int .i64 0] 25)
          obtain ⟨G, hG⟩ : ∃ g, g = wC.heap.size := ⟨_, rfl⟩
          rw [← hG] at hb5 ⊢
          have hge : w20.heap.size ≤ G := by rw [hG]; exact hw.size
          have hst := hst.below hb0
          have hw := below_step hw hb0
          clear hb0
          generalize wC.alloc (.cells #[nilS, .int .i64 0, .int .i64 0] 25) = wB at *
          refine hK.out _ _ ⟨range_blk (blk_below B7.out hw), range_blk (blk_below B2.out hw)⟩ (fun _ => ?_)
          clear hK K
          refine norm_ (a' := ?_) ?_ ?_
          rotate_left
          · show Act.put _ (some 8) _ = _
            simp only [Act.put, List.setIfInBounds_toArray, List.set_cons_zero, List.set_cons_succ, i64_w, i32_w]
            rfl
          refine one_ (i := 9) (N := none) #[true, true, true, true, true, true, true, true, true, true, false] rfl rfl (by kernel_rfl) (by decide) (fun K hK => ?_)
          refine store_ (by rfl) rfl 25 (.tmp 8) (.tmp 34) rfl G #[.slice A1 m1 c1, .int .i64 (r.getD none0).ex, .int .i64 (r.getD none0).any] rfl rfl hb5 rfl (by kernel_rfl) (strs_one_cell hst) ?_
          intro w1 hg5 hgr hsz
          have hst := strs_grown hst hgr hb5
          have hw := hw.grown hgr hw.size (fun j hj => by cases hj; exact hge)
          refine hK.out _ _ ⟨range_blk (blk_below B7.out hw), range_blk (blk_below B2.out hw)⟩ (fun _ => ?_)
          exact hcont (_, A1, m1, c1, G) w1 ⟨hst, hg5, hw, hge⟩
        · refine runs_ (v := .pointer (some ⟨wA.heap.size, 0, none⟩)) (w' := wA.alloc (.cells #[nilS, .int .i64 0, .int .i64 0] 25)) (by rfl) rfl (by first | (go_simp; done) | (go_simp; rfl)) ?_
          have hb0 : Below wA.heap.size wA (wA.alloc (.cells #[nilS, .int .i64 0, .int .i64 0] 25)) := below_alloc (Below.refl _ _) _
          have hb5 := blk_new wA (.cells #[nilS, .int .i64 0, .int .i64 0] 25)
          obtain ⟨G, hG⟩ : ∃ g, g = wA.heap.size := ⟨_, rfl⟩
          rw [← hG] at hb5 ⊢
          have hge : w20.heap.size ≤ G := by rw [hG]; exact hw.size
          have hcert := hcert.below hb0
          have hw := below_step hw hb0
          clear hb0
          generalize wA.alloc (.cells #[nilS, .int .i64 0, .int .i64 0] 25) = wB at *
          refine hK.out _ _ ⟨range_blk (blk_below B7.out hw), range_blk (blk_below B2.out hw)⟩ (fun _ => ?_)
          clear hK K
          refine norm_ (a' := ?_) ?_ ?_
          rotate_left
          · show Act.put _ (some 8) _ = _
            simp only [Act.put, List.setIfInBounds_toArray, List.set_cons_zero, List.set_cons_succ, i64_w, i32_w]
            rfl
          refine one_ (i := 4) (N := some 33) #[true, true, true, true, true, false, false, false, true, false, false] rfl rfl (by kernel_rfl) (by decide) (fun K hK => ?_)
          refine goes_ Tryd.func15 (by kernel_rfl) rfl #[.agg #[.slice Q n0 cQ, .int .i64 p.ex, .int .i64 p.any], .agg (certC (.slice P np cP) (.slice nB nb cb) (.slice nS ns cs) b.req b.inh), .bool last] (by rfl) rfl rfl (by (try simp only [List.map_toArray, List.map_cons, List.map_nil]); first | done | rfl) ?_
          refine (step_walk _ _ p b last _ ⟨_, rfl, HQ.out.below hw⟩ hcert (by rw [HN.out]; omega) (by have := HL.out; omega) HF.out.1 HF.out.2.2.2.1 HF.out.2.1.2 HF.out.2.2.1.2).mono ?_
          rintro e wC hpost
          rw [HR.out.1] at hpost
          obtain ⟨A1, m1, c1, rfl, hst, hb⟩ := hpost.vals
          refine ⟨_, rfl, ?_⟩
          clear hpost hcert
          have hb5 := blk_below hb5 hb
          have hw := below_step hw hb
          clear hb
          refine hK.out _ _ ⟨range_blk (blk_below B7.out hw), range_blk (blk_below B2.out hw)⟩ (fun _ => ?_)
          clear hK K
          refine norm_ (a' := ?_) ?_ ?_
          rotate_left
          · show Act.put _ (some 33) _ = _
            simp only [Act.put, List.setIfInBounds_toArray, List.set_cons_zero, List.set_cons_succ, i64_w, i32_w]
            rfl
          refine pure_ (i := 5) (N := some 28) (v := ?_) (a' := ?_) #[true, true, true, true, true, true, false, false, true, false, false] rfl rfl (by kernel_rfl) (fun _ _ _ h => h) (Or.inl ⟨by rfl, ?_⟩) ?_ ?_
          rotate_left
          · intro w'
            go_simp
            with_reducible rfl
          rotate_left
          · simp only [Act.put, List.setIfInBounds_toArray, List.set_cons_zero, List.set_cons_succ, i64_w, i32_w]
            rfl
          refine pure_ (i := 6) (N := some 34) (v := ?_) (a' := ?_) #[true, true, true, true, true, true, true, false, true, false, false] rfl rfl (by kernel_rfl) (fun _ _ _ h => h) (Or.inl ⟨by rfl, ?_⟩) ?_ ?_
          rotate_left
          · intro w'
            go_simp
            with_reducible rfl
          rotate_left
          · simp only [Act.put, List.setIfInBounds_toArray, List.set_cons_zero, List.set_cons_succ, i64_w, i32_w]
            rfl
          refine pure_ (i := 7) (N := some 35) (v := ?_) (a' := ?_) #[true, true, true, true, true, true, true, true, true, false, false] rfl rfl (by kernel_rfl) (fun _ _ _ h => h) (Or.inl ⟨by rfl, ?_⟩) ?_ ?_
          rotate_left
          · intro w'
            go_simp
            with_reducible rfl
          rotate_left
          · simp only [Act.put, List.setIfInBounds_toArray, List.set_cons_zero, List.set_cons_succ, i64_w, i32_w]
            rfl
          refine one_ (i := 9) (N := none) #[true, true, true, true, true, true, true, true, true, true, false] rfl rfl (by kernel_rfl) (by decide) (fun K hK => ?_)
          refine store_ (by rfl) rfl 25 (.tmp 8) (.tmp 34) rfl G #[.slice A1 m1 c1, .int .i64 (r.getD none0).ex, .int .i64 (r.getD none0).any] rfl rfl hb5 rfl (by kernel_rfl) (strs_one_cell hst) ?_
          intro w1 hg5 hgr hsz
          have hst := strs_grown hst hgr hb5
          have hw := hw.grown hgr hw.size (fun j hj => by cases hj; exact hge)
          refine hK.out _ _ ⟨range_blk (blk_below B7.out hw), range_blk (blk_below B2.out hw)⟩ (fun _ => ?_)
          exact hcont (_, A1, m1, c1, G) w1 ⟨hst, hg5, hw, hge⟩
      · refine runs_ (v := .pointer (some ⟨w20.heap.size, 0, none⟩)) (w' := w20.alloc (.cells #[nilS, .int .i64 0, .int .i64 0] 25)) (by rfl) rfl (by first | (go_simp; done) | (go_simp; rfl)) ?_
        have hb0 : Below w20.heap.size w20 (w20.alloc (.cells #[nilS, .int .i64 0, .int .i64 0] 25)) := below_alloc (Below.refl _ _) _
        have hb5 := blk_new w20 (.cells #[nilS, .int .i64 0, .int .i64 0] 25)
        obtain ⟨G, hG⟩ : ∃ g, g = w20.heap.size := ⟨_, rfl⟩
        rw [← hG] at hb5 ⊢
        have hge : w20.heap.size ≤ G := by rw [hG]; exact hw.size
        have hw := below_step hw hb0
        clear hb0
        generalize w20.alloc (.cells #[nilS, .int .i64 0, .int .i64 0] 25) = wB at *
        refine hK.out _ _ ⟨range_blk (blk_below B7.out hw), range_blk (blk_below B2.out hw)⟩ (fun _ => ?_)
        clear hK K
        refine norm_ (a' := ?_) ?_ ?_
        rotate_left
        · show Act.put _ (some 8) _ = _
          simp only [Act.put, List.setIfInBounds_toArray, List.set_cons_zero, List.set_cons_succ, i64_w, i32_w]
          rfl
        refine one_ (i := 2) (N := some 31) #[true, true, true, true, false, false, false, false, true, false, false] rfl rfl (by kernel_rfl) (by decide) (fun K hK => ?_)
        refine goes_ Tryd.func16 (by kernel_rfl) rfl #[.agg #[.slice P np cP, .int .i64 b.req, .int .i64 b.inh, .bool b.own]] (by rfl) rfl rfl (by (try simp only [List.map_toArray, List.map_cons, List.map_nil]); first | done | rfl) ?_
        refine (of_at (b := b) (HS0.out.2.below (below_step HB.out hw))).mono ?_
        rintro e wA ⟨nB, nb, cb, nS, ns, cs, rfl, hcr, hb⟩
        refine ⟨_, rfl, ?_⟩
        have hcert := (hcr.cert hb).2
        have hb5 := blk_below hb5 hb
        have hw := below_step hw hb
        clear hcr hb
        refine hK.out _ _ ⟨range_blk (blk_below B7.out hw), range_blk (blk_below B2.out hw)⟩ (fun _ => ?_)
        clear hK K
        refine norm_ (a' := ?_) ?_ ?_
        rotate_left
        · show Act.put _ (some 31) _ = _
          simp only [Act.put, List.setIfInBounds_toArray, List.set_cons_zero, List.set_cons_succ, i64_w, i32_w]
          rfl
        refine one_ (i := 4) (N := some 33) #[true, true, true, true, true, false, false, false, true, false, false] rfl rfl (by kernel_rfl) (by decide) (fun K hK => ?_)
        refine goes_ Tryd.func15 (by kernel_rfl) rfl #[.agg #[.slice Q n0 cQ, .int .i64 p.ex, .int .i64 p.any], .agg (certC (.slice P np cP) (.slice nB nb cb) (.slice nS ns cs) b.req b.inh), .bool last] (by rfl) rfl rfl (by (try simp only [List.map_toArray, List.map_cons, List.map_nil]); first | done | rfl) ?_
        refine (step_walk _ _ p b last _ ⟨_, rfl, HQ.out.below hw⟩ hcert (by rw [HN.out]; omega) (by have := HL.out; omega) HF.out.1 HF.out.2.2.2.1 HF.out.2.1.2 HF.out.2.2.1.2).mono ?_
        rintro e wC hpost
        rw [HR.out.1] at hpost
        obtain ⟨A1, m1, c1, rfl, hst, hb⟩ := hpost.vals
        refine ⟨_, rfl, ?_⟩
        clear hpost hcert
        have hb5 := blk_below hb5 hb
        have hw := below_step hw hb
        clear hb
        refine hK.out _ _ ⟨range_blk (blk_below B7.out hw), range_blk (blk_below B2.out hw)⟩ (fun _ => ?_)
        clear hK K
        refine norm_ (a' := ?_) ?_ ?_
        rotate_left
        · show Act.put _ (some 33) _ = _
          simp only [Act.put, List.setIfInBounds_toArray, List.set_cons_zero, List.set_cons_succ, i64_w, i32_w]
          rfl
        refine pure_ (i := 5) (N := some 28) (v := ?_) (a' := ?_) #[true, true, true, true, true, true, false, false, true, false, false] rfl rfl (by kernel_rfl) (fun _ _ _ h => h) (Or.inl ⟨by rfl, ?_⟩) ?_ ?_
        rotate_left
        · intro w'
          go_simp
          with_reducible rfl
        rotate_left
        · simp only [Act.put, List.setIfInBounds_toArray, List.set_cons_zero, List.set_cons_succ, i64_w, i32_w]
          rfl
        refine pure_ (i := 6) (N := some 34) (v := ?_) (a' := ?_) #[true, true, true, true, true, true, true, false, true, false, false] rfl rfl (by kernel_rfl) (fun _ _ _ h => h) (Or.inl ⟨by rfl, ?_⟩) ?_ ?_
        rotate_left
        · intro w'
          go_simp
          with_reducible rfl
        rotate_left
        · simp only [Act.put, List.setIfInBounds_toArray, List.set_cons_zero, List.set_cons_succ, i64_w, i32_w]
          rfl
        refine pure_ (i := 7) (N := some 35) (v := ?_) (a' := ?_) #[true, true, true, true, true, true, true, true, true, false, false] rfl rfl (by kernel_rfl) (fun _ _ _ h => h) (Or.inl ⟨by rfl, ?_⟩) ?_ ?_
        rotate_left
        · intro w'
          go_simp
          with_reducible rfl
        rotate_left
        · simp only [Act.put, List.setIfInBounds_toArray, List.set_cons_zero, List.set_cons_succ, i64_w, i32_w]
          rfl
        refine one_ (i := 9) (N := none) #[true, true, true, true, true, true, true, true, true, true, false] rfl rfl (by kernel_rfl) (by decide) (fun K hK => ?_)
        refine store_ (by rfl) rfl 25 (.tmp 8) (.tmp 34) rfl G #[.slice A1 m1 c1, .int .i64 (r.getD none0).ex, .int .i64 (r.getD none0).any] rfl rfl hb5 rfl (by kernel_rfl) (strs_one_cell hst) ?_
        intro w1 hg5 hgr hsz
        have hst := strs_grown hst hgr hb5
        have hw := hw.grown hgr hw.size (fun j hj => by cases hj; exact hge)
        refine hK.out _ _ ⟨range_blk (blk_below B7.out hw), range_blk (blk_below B2.out hw)⟩ (fun _ => ?_)
        exact hcont (_, A1, m1, c1, G) w1 ⟨hst, hg5, hw, hge⟩
    rintro ⟨cv, A28, m28, c28, G5⟩ w280 ⟨hst, hg5, hw, hge⟩
    simp only at hst hg5 hge
    refine norm_ (a' := ?_) ?_ ?_
    rotate_left
    · simp only [putAll, Act.put, List.setIfInBounds_toArray, List.set_cons_zero, List.set_cons_succ]
      rfl
    refine pure_ (i := 10) (N := some 9) (v := ?_) (a' := ?_) #[true, true, true, true, true, true, true, true, true, true, true] rfl rfl (by kernel_rfl) (fun _ _ _ h => h) (Or.inl ⟨by rfl, ?_⟩) ?_ ?_
    rotate_left
    · intro w'
      go_simp
      with_reducible rfl
    rotate_left
    · simp only [Act.put, List.setIfInBounds_toArray, List.set_cons_zero, List.set_cons_succ, i64_w, i32_w]
      rfl
    refine done_ (by kernel_rfl) ?_
    clear hHeld
    have n0_ := Aside0.mk (blk_below B1.out hw)
    have n1_ := Aside0.mk (blk_below B2.out hw)
    have n2_ := Aside0.mk (blk_below B7.out hw)
    have n3_ := Aside0.mk (below_step HB.out hw)
    have n4_ := Aside0.mk (Strs.below HQ.out hw)
    clear B1 B2 B7 HB HQ
    have B1 := n0_
    have B2 := n1_
    have B7 := n2_
    have HB := n3_
    have HQ := n4_
    clear n0_ n1_ n2_ n3_ n4_
    have B8 := Aside0.mk hg5
    have HX := Aside0.mk hst
    clear hg5 hst hge hw
    go_upto_region 6 with fail
    have n0_ := Aside0.mk (blk_drew B1.out)
    have n1_ := Aside0.mk (blk_drew B2.out)
    have n2_ := Aside0.mk (blk_drew B7.out)
    have n3_ := Aside0.mk (below_drew1 HB.out)
    have n4_ := Aside0.mk (Strs.below HQ.out (below_drew1 (Below.refl _ _)))
    have n5_ := Aside0.mk (blk_drew B8.out)
    have n6_ := Aside0.mk (Strs.below HX.out (below_drew1 (Below.refl _ _)))
    clear B1 B2 B7 HB HQ B8 HX
    have B1 := n0_
    have B2 := n1_
    have B7 := n2_
    have HB := n3_
    have HQ := n4_
    have B8 := n5_
    have HX := n6_
    clear n0_ n1_ n2_ n3_ n4_ n5_ n6_
    refine start_ (n := 11) (S := fun w' => w'.rangeAt g1 0 [.slice A n0 cA, .int .i64 p.ex, .int .i64 p.any] ∧ w'.rangeAt g2 0 [.slice P np cP, .int .i64 b.req, .int .i64 b.inh, .bool b.own]) (ds := []) #[false, false, false, false, false, false, false, false, false, false, false] (by kernel_rfl) rfl rfl ⟨range_blk B1.out, range_blk B2.out⟩ (fun hHeld => ?_)
    generalize w280.drew = w30 at B1 B2 B7 HB HQ B8 HX hHeld ⊢
    refine take_ (i := 0) (N := some 37) (v := .agg #[.slice A n0 cA, .int .i64 p.ex, .int .i64 p.any]) (a' := ?_) #[true, false, false, false, false, false, false, false, false, false, false] rfl rfl (by kernel_rfl) (fun _ _ _ h => h) (yieldsIf_load_mid (by rfl) 25 (.tmp 3) rfl g1 0 rfl [.slice A n0 cA, .int .i64 p.ex, .int .i64 p.any] _ (fun _ h => h.1) Tryd.underlying25 rfl (by kernel_rfl)) hHeld ?_ ?_
    rotate_left
    · simp only [Act.put, List.setIfInBounds_toArray, List.set_cons_zero, List.set_cons_succ, i64_w, i32_w]
      rfl
    refine take_ (i := 1) (N := some 38) (v := .agg #[.slice P np cP, .int .i64 b.req, .int .i64 b.inh, .bool b.own]) (a' := ?_) #[true, true, false, false, false, false, false, false, false, false, false] rfl rfl (by kernel_rfl) (fun _ _ _ h => h) (yieldsIf_load_mid (by rfl) 30 (.tmp 4) rfl g2 0 rfl [.slice P np cP, .int .i64 b.req, .int .i64 b.inh, .bool b.own] _ (fun _ h => h.2) Tryd.underlying30 rfl (by kernel_rfl)) hHeld ?_ ?_
    rotate_left
    · simp only [Act.put, List.setIfInBounds_toArray, List.set_cons_zero, List.set_cons_succ, i64_w, i32_w]
      rfl
    refine pure_ (i := 3) (N := some 40) (v := ?_) (a' := ?_) #[true, true, false, true, false, false, false, false, false, false, false] rfl rfl (by kernel_rfl) (fun _ _ _ h => h) (Or.inl ⟨by rfl, ?_⟩) ?_ ?_
    rotate_left
    · intro w'
      go_simp
      with_reducible rfl
    rotate_left
    · simp only [Act.put, List.setIfInBounds_toArray, List.set_cons_zero, List.set_cons_succ, i64_w, i32_w]
      rfl
    refine join_ (σ := Value × Option Addr × Nat × Nat × Nat) 1 #[true, true, true, true, true, true, true, true, true, true, false] (fun s => [(39, s.1), (41, .tuple #[.agg #[.slice s.2.1 s.2.2.1 s.2.2.2.1, .int .i64 (r.getD none0).ex, .int .i64 (r.getD none0).any], .bool r.isSome]), (36, .tuple #[.agg #[.slice s.2.1 s.2.2.1 s.2.2.2.1, .int .i64 (r.getD none0).ex, .int .i64 (r.getD none0).any], .bool r.isSome]), (42, .agg #[.slice s.2.1 s.2.2.1 s.2.2.2.1, .int .i64 (r.getD none0).ex, .int .i64 (r.getD none0).any]), (43, .bool r.isSome), (10, .pointer (some ⟨s.2.2.2.2, 0, none⟩))]) (fun s w' => Strs w' (.slice s.2.1 s.2.2.1 s.2.2.2.1) ((r.getD none0).set.map bs) ∧ w'.heap[s.2.2.2.2]? = some (.cells #[.slice s.2.1 s.2.2.1 s.2.2.2.1, .int .i64 (r.getD none0).ex, .int .i64 (r.getD none0).any] 25 (0, 0)) ∧ Below w30.heap.size w30 w' ∧ w30.heap.size ≤ s.2.2.2.2) ?cont36 ?orders36
    case orders36 =>
      intro hcont
      have hw : Below w30.heap.size w30 w30 := Below.refl _ _
      refine two_ (i := 2) (j := 8) (Ni := some 39) (Nj := some 10) #[true, true, true, true, false, false, false, false, false, false, false] #[true, true, false, true, false, false, false, false, true, false, false] rfl rfl rfl rfl (by kernel_rfl) (by decide) (by decide) (fun K hK => ?_) (fun K hK => ?_)
      · refine goes_ Tryd.func16 (by kernel_rfl) rfl #[.agg #[.slice P np cP, .int .i64 b.req, .int .i64 b.inh, .bool b.own]] (by rfl) rfl rfl (by (try simp only [List.map_toArray, List.map_cons, List.map_nil]); first | done | rfl) ?_
        refine (of_at (b := b) (HS0.out.2.below (below_step HB.out hw))).mono ?_
        rintro e wA ⟨nB, nb, cb, nS, ns, cs, rfl, hcr, hb⟩
        refine ⟨_, rfl, ?_⟩
        have hcert := (hcr.cert hb).2
        have hw := below_step hw hb
        clear hcr hb
        refine hK.out _ _ ⟨range_blk (blk_below B1.out hw), range_blk (blk_below B2.out hw)⟩ (fun _ => ?_)
        clear hK K
        refine norm_ (a' := ?_) ?_ ?_
        rotate_left
        · show Act.put _ (some 39) _ = _
          simp only [Act.put, List.setIfInBounds_toArray, List.set_cons_zero, List.set_cons_succ, i64_w, i32_w]
          rfl
        refine two_ (i := 4) (j := 8) (Ni := some 41) (Nj := some 10) #[true, true, true, true, true, false, false, false, false, false, false] #[true, true, true, true, false, false, false, false, true, false, false] rfl rfl rfl rfl (by kernel_rfl) (by decide) (by decide) (fun K hK => ?_) (fun K hK => ?_)
        · refine goes_ Tryd.func17 (by kernel_rfl) rfl #[.agg #[.slice A n0 cA, .int .i64 p.ex, .int .i64 p.any], .agg (certC (.slice P np cP) (.slice nB nb cb) (.slice nS ns cs) b.req b.inh), .bool last] (by rfl) rfl rfl (by (try simp only [List.map_toArray, List.map_cons, List.map_nil]); first | done | rfl) ?_
          refine (stepR_walk _ _ p b last _ ⟨_, rfl, HS0.out.1.below (below_step HB.out hw)⟩ hcert (by rw [HN.out]; omega) (by have := HL.out; omega) HF.out.2.1.2 HF.out.2.2.1.2).mono ?_
          rintro e wC hpost
          rw [HR.out.1] at hpost
          obtain ⟨A1, m1, c1, rfl, hst, hb⟩ := hpost.vals
          refine ⟨_, rfl, ?_⟩
          clear hpost hcert
          have hw := below_step hw hb
          clear hb
          refine hK.out _ _ ⟨range_blk (blk_below B1.out hw), range_blk (blk_below B2.out hw)⟩ (fun _ => ?_)
          clear hK K
          refine norm_ (a' := ?_) ?_ ?_
          rotate_left
          · show Act.put _ (some 41) _ = _
            simp only [Act.put, List.setIfInBounds_toArray, List.set_cons_zero, List.set_cons_succ, i64_w, i32_w]
            rfl
          refine pure_ (i := 5) (N := some 36) (v := ?_) (a' := ?_) #[true, true, true, true, true, true, false, false, false, false, false] rfl rfl (by kernel_rfl) (fun _ _ _ h => h) (Or.inl ⟨by rfl, ?_⟩) ?_ ?_
          rotate_left
          · intro w'
            go_simp
            with_reducible rfl
          rotate_left
          · simp only [Act.put, List.setIfInBounds_toArray, List.set_cons_zero, List.set_cons_succ, i64_w, i32_w]
            rfl
          refine pure_ (i := 6) (N := some 42) (v := ?_) (a' := ?_) #[true, true, true, true, true, true, true, false, false, false, false] rfl rfl (by kernel_rfl) (fun _ _ _ h => h) (Or.inl ⟨by rfl, ?_⟩) ?_ ?_
          rotate_left
          · intro w'
            go_simp
            with_reducible rfl
          rotate_left
          · simp only [Act.put, List.setIfInBounds_toArray, List.set_cons_zero, List.set_cons_succ, i64_w, i32_w]
            rfl
          refine pure_ (i := 7) (N := some 43) (v := ?_) (a' := ?_) #[true, true, true, true, true, true, true, true, false, false, false] rfl rfl (by kernel_rfl) (fun _ _ _ h => h) (Or.inl ⟨by rfl, ?_⟩) ?_ ?_
          rotate_left
          · intro w'
            go_simp
            with_reducible rfl
          rotate_left
          · simp only [Act.put, List.setIfInBounds_toArray, List.set_cons_zero, List.set_cons_succ, i64_w, i32_w]
            rfl
          refine one_ (i := 8) (N := some 10) #[true, true, true, true, true, true, true, true, true, false, false] rfl rfl (by kernel_rfl) (by decide) (fun K hK => ?_)
          refine runs_ (v := .pointer (some ⟨wC.heap.size, 0, none⟩)) (w' := wC.alloc (.cells #[nilS, .int .i64 0, .int .i64 0] 25)) (by rfl) rfl (by first | (go_simp; done) | (go_simp; rfl)) ?_
          have hb0 : Below wC.heap.size wC (wC.alloc (.cells #[nilS, .int .i64 0, .int .i64 0] 25)) := below_alloc (Below.refl _ _) _
          have hb5 := blk_new wC (.cells #[nilS, .int .i64 0, .int .i64 0] 25)
          obtain ⟨G, hG⟩ : ∃ g, g = wC.heap.size := ⟨_, rfl⟩
          rw [← hG] at hb5 ⊢
          have hge : w30.heap.size ≤ G := by rw [hG]; exact hw.size
          have hst := hst.below hb0
          have hw := below_step hw hb0
          clear hb0
          generalize wC.alloc (.cells #[nilS, .int .i64 0, .int .i64 0] 25) = wB at *
          refine hK.out _ _ ⟨range_blk (blk_below B1.out hw), range_blk (blk_below B2.out hw)⟩ (fun _ => ?_)
          clear hK K
          refine norm_ (a' := ?_) ?_ ?_
          rotate_left
          · show Act.put _ (some 10) _ = _
            simp only [Act.put, List.setIfInBounds_toArray, List.set_cons_zero, List.set_cons_succ, i64_w, i32_w]
            rfl
          refine one_ (i := 9) (N := none) #[true, true, true, true, true, true, true, true, true, true, false] rfl rfl (by kernel_rfl) (by decide) (fun K hK => ?_)
          refine store_ (by rfl) rfl 25 (.tmp 10) (.tmp 42) rfl G #[.slice A1 m1 c1, .int .i64 (r.getD none0).ex, .int .i64 (r.getD none0).any] rfl rfl hb5 rfl (by kernel_rfl) (strs_one_cell hst) ?_
          intro w1 hg5 hgr hsz
          have hst := strs_grown hst hgr hb5
          have hw := hw.grown hgr hw.size (fun j hj => by cases hj; exact hge)
          refine hK.out _ _ ⟨range_blk (blk_below B1.out hw), range_blk (blk_below B2.out hw)⟩ (fun _ => ?_)
          exact hcont (_, A1, m1, c1, G) w1 ⟨hst, hg5, hw, hge⟩
        · refine runs_ (v := .pointer (some ⟨wA.heap.size, 0, none⟩)) (w' := wA.alloc (.cells #[nilS, .int .i64 0, .int .i64 0] 25)) (by rfl) rfl (by first | (go_simp; done) | (go_simp; rfl)) ?_
          have hb0 : Below wA.heap.size wA (wA.alloc (.cells #[nilS, .int .i64 0, .int .i64 0] 25)) := below_alloc (Below.refl _ _) _
          have hb5 := blk_new wA (.cells #[nilS, .int .i64 0, .int .i64 0] 25)
          obtain ⟨G, hG⟩ : ∃ g, g = wA.heap.size := ⟨_, rfl⟩
          rw [← hG] at hb5 ⊢
          have hge : w30.heap.size ≤ G := by rw [hG]; exact hw.size
          have hcert := hcert.below hb0
          have hw := below_step hw hb0
          clear hb0
          generalize wA.alloc (.cells #[nilS, .int .i64 0, .int .i64 0] 25) = wB at *
          refine hK.out _ _ ⟨range_blk (blk_below B1.out hw), range_blk (blk_below B2.out hw)⟩ (fun _ => ?_)
          clear hK K
          refine norm_ (a' := ?_) ?_ ?_
          rotate_left
          · show Act.put _ (some 10) _ = _
            simp only [Act.put, List.setIfInBounds_toArray, List.set_cons_zero, List.set_cons_succ, i64_w, i32_w]
            rfl
          refine one_ (i := 4) (N := some 41) #[true, true, true, true, true, false, false, false, true, false, false] rfl rfl (by kernel_rfl) (by decide) (fun K hK => ?_)
          refine goes_ Tryd.func17 (by kernel_rfl) rfl #[.agg #[.slice A n0 cA, .int .i64 p.ex, .int .i64 p.any], .agg (certC (.slice P np cP) (.slice nB nb cb) (.slice nS ns cs) b.req b.inh), .bool last] (by rfl) rfl rfl (by (try simp only [List.map_toArray, List.map_cons, List.map_nil]); first | done | rfl) ?_
          refine (stepR_walk _ _ p b last _ ⟨_, rfl, HS0.out.1.below (below_step HB.out hw)⟩ hcert (by rw [HN.out]; omega) (by have := HL.out; omega) HF.out.2.1.2 HF.out.2.2.1.2).mono ?_
          rintro e wC hpost
          rw [HR.out.1] at hpost
          obtain ⟨A1, m1, c1, rfl, hst, hb⟩ := hpost.vals
          refine ⟨_, rfl, ?_⟩
          clear hpost hcert
          have hb5 := blk_below hb5 hb
          have hw := below_step hw hb
          clear hb
          refine hK.out _ _ ⟨range_blk (blk_below B1.out hw), range_blk (blk_below B2.out hw)⟩ (fun _ => ?_)
          clear hK K
          refine norm_ (a' := ?_) ?_ ?_
          rotate_left
          · show Act.put _ (some 41) _ = _
            simp only [Act.put, List.setIfInBounds_toArray, List.set_cons_zero, List.set_cons_succ, i64_w, i32_w]
            rfl
          refine pure_ (i := 5) (N := some 36) (v := ?_) (a' := ?_) #[true, true, true, true, true, true, false, false, true, false, false] rfl rfl (by kernel_rfl) (fun _ _ _ h => h) (Or.inl ⟨by rfl, ?_⟩) ?_ ?_
          rotate_left
          · intro w'
            go_simp
            with_reducible rfl
          rotate_left
          · simp only [Act.put, List.setIfInBounds_toArray, List.set_cons_zero, List.set_cons_succ, i64_w, i32_w]
            rfl
          refine pure_ (i := 6) (N := some 42) (v := ?_) (a' := ?_) #[true, true, true, true, true, true, true, false, true, false, false] rfl rfl (by kernel_rfl) (fun _ _ _ h => h) (Or.inl ⟨by rfl, ?_⟩) ?_ ?_
          rotate_left
          · intro w'
            go_simp
            with_reducible rfl
          rotate_left
          · simp only [Act.put, List.setIfInBounds_toArray, List.set_cons_zero, List.set_cons_succ, i64_w, i32_w]
            rfl
          refine pure_ (i := 7) (N := some 43) (v := ?_) (a' := ?_) #[true, true, true, true, true, true, true, true, true, false, false] rfl rfl (by kernel_rfl) (fun _ _ _ h => h) (Or.inl ⟨by rfl, ?_⟩) ?_ ?_
          rotate_left
          · intro w'
            go_simp
            with_reducible rfl
          rotate_left
          · simp only [Act.put, List.setIfInBounds_toArray, List.set_cons_zero, List.set_cons_succ, i64_w, i32_w]
            rfl
          refine one_ (i := 9) (N := none) #[true, true, true, true, true, true, true, true, true, true, false] rfl rfl (by kernel_rfl) (by decide) (fun K hK => ?_)
          refine store_ (by rfl) rfl 25 (.tmp 10) (.tmp 42) rfl G #[.slice A1 m1 c1, .int .i64 (r.getD none0).ex, .int .i64 (r.getD none0).any] rfl rfl hb5 rfl (by kernel_rfl) (strs_one_cell hst) ?_
          intro w1 hg5 hgr hsz
          have hst := strs_grown hst hgr hb5
          have hw := hw.grown hgr hw.size (fun j hj => by cases hj; exact hge)
          refine hK.out _ _ ⟨range_blk (blk_below B1.out hw), range_blk (blk_below B2.out hw)⟩ (fun _ => ?_)
          exact hcont (_, A1, m1, c1, G) w1 ⟨hst, hg5, hw, hge⟩
      · refine runs_ (v := .pointer (some ⟨w30.heap.size, 0, none⟩)) (w' := w30.alloc (.cells #[nilS, .int .i64 0, .int .i64 0] 25)) (by rfl) rfl (by first | (go_simp; done) | (go_simp; rfl)) ?_
        have hb0 : Below w30.heap.size w30 (w30.alloc (.cells #[nilS, .int .i64 0, .int .i64 0] 25)) := below_alloc (Below.refl _ _) _
        have hb5 := blk_new w30 (.cells #[nilS, .int .i64 0, .int .i64 0] 25)
        obtain ⟨G, hG⟩ : ∃ g, g = w30.heap.size := ⟨_, rfl⟩
        rw [← hG] at hb5 ⊢
        have hge : w30.heap.size ≤ G := by rw [hG]; exact hw.size
        have hw := below_step hw hb0
        clear hb0
        generalize w30.alloc (.cells #[nilS, .int .i64 0, .int .i64 0] 25) = wB at *
        refine hK.out _ _ ⟨range_blk (blk_below B1.out hw), range_blk (blk_below B2.out hw)⟩ (fun _ => ?_)
        clear hK K
        refine norm_ (a' := ?_) ?_ ?_
        rotate_left
        · show Act.put _ (some 10) _ = _
          simp only [Act.put, List.setIfInBounds_toArray, List.set_cons_zero, List.set_cons_succ, i64_w, i32_w]
          rfl
        refine one_ (i := 2) (N := some 39) #[true, true, true, true, false, false, false, false, true, false, false] rfl rfl (by kernel_rfl) (by decide) (fun K hK => ?_)
        refine goes_ Tryd.func16 (by kernel_rfl) rfl #[.agg #[.slice P np cP, .int .i64 b.req, .int .i64 b.inh, .bool b.own]] (by rfl) rfl rfl (by (try simp only [List.map_toArray, List.map_cons, List.map_nil]); first | done | rfl) ?_
        refine (of_at (b := b) (HS0.out.2.below (below_step HB.out hw))).mono ?_
        rintro e wA ⟨nB, nb, cb, nS, ns, cs, rfl, hcr, hb⟩
        refine ⟨_, rfl, ?_⟩
        have hcert := (hcr.cert hb).2
        have hb5 := blk_below hb5 hb
        have hw := below_step hw hb
        clear hcr hb
        refine hK.out _ _ ⟨range_blk (blk_below B1.out hw), range_blk (blk_below B2.out hw)⟩ (fun _ => ?_)
        clear hK K
        refine norm_ (a' := ?_) ?_ ?_
        rotate_left
        · show Act.put _ (some 39) _ = _
          simp only [Act.put, List.setIfInBounds_toArray, List.set_cons_zero, List.set_cons_succ, i64_w, i32_w]
          rfl
        refine one_ (i := 4) (N := some 41) #[true, true, true, true, true, false, false, false, true, false, false] rfl rfl (by kernel_rfl) (by decide) (fun K hK => ?_)
        refine goes_ Tryd.func17 (by kernel_rfl) rfl #[.agg #[.slice A n0 cA, .int .i64 p.ex, .int .i64 p.any], .agg (certC (.slice P np cP) (.slice nB nb cb) (.slice nS ns cs) b.req b.inh), .bool last] (by rfl) rfl rfl (by (try simp only [List.map_toArray, List.map_cons, List.map_nil]); first | done | rfl) ?_
        refine (stepR_walk _ _ p b last _ ⟨_, rfl, HS0.out.1.below (below_step HB.out hw)⟩ hcert (by rw [HN.out]; omega) (by have := HL.out; omega) HF.out.2.1.2 HF.out.2.2.1.2).mono ?_
        rintro e wC hpost
        rw [HR.out.1] at hpost
        obtain ⟨A1, m1, c1, rfl, hst, hb⟩ := hpost.vals
        refine ⟨_, rfl, ?_⟩
        clear hpost hcert
        have hb5 := blk_below hb5 hb
        have hw := below_step hw hb
        clear hb
        refine hK.out _ _ ⟨range_blk (blk_below B1.out hw), range_blk (blk_below B2.out hw)⟩ (fun _ => ?_)
        clear hK K
        refine norm_ (a' := ?_) ?_ ?_
        rotate_left
        · show Act.put _ (some 41) _ = _
          simp only [Act.put, List.setIfInBounds_toArray, List.set_cons_zero, List.set_cons_succ, i64_w, i32_w]
          rfl
        refine pure_ (i := 5) (N := some 36) (v := ?_) (a' := ?_) #[true, true, true, true, true, true, false, false, true, false, false] rfl rfl (by kernel_rfl) (fun _ _ _ h => h) (Or.inl ⟨by rfl, ?_⟩) ?_ ?_
        rotate_left
        · intro w'
          go_simp
          with_reducible rfl
        rotate_left
        · simp only [Act.put, List.setIfInBounds_toArray, List.set_cons_zero, List.set_cons_succ, i64_w, i32_w]
          rfl
        refine pure_ (i := 6) (N := some 42) (v := ?_) (a' := ?_) #[true, true, true, true, true, true, true, false, true, false, false] rfl rfl (by kernel_rfl) (fun _ _ _ h => h) (Or.inl ⟨by rfl, ?_⟩) ?_ ?_
        rotate_left
        · intro w'
          go_simp
          with_reducible rfl
        rotate_left
        · simp only [Act.put, List.setIfInBounds_toArray, List.set_cons_zero, List.set_cons_succ, i64_w, i32_w]
          rfl
        refine pure_ (i := 7) (N := some 43) (v := ?_) (a' := ?_) #[true, true, true, true, true, true, true, true, true, false, false] rfl rfl (by kernel_rfl) (fun _ _ _ h => h) (Or.inl ⟨by rfl, ?_⟩) ?_ ?_
        rotate_left
        · intro w'
          go_simp
          with_reducible rfl
        rotate_left
        · simp only [Act.put, List.setIfInBounds_toArray, List.set_cons_zero, List.set_cons_succ, i64_w, i32_w]
          rfl
        refine one_ (i := 9) (N := none) #[true, true, true, true, true, true, true, true, true, true, false] rfl rfl (by kernel_rfl) (by decide) (fun K hK => ?_)
        refine store_ (by rfl) rfl 25 (.tmp 10) (.tmp 42) rfl G #[.slice A1 m1 c1, .int .i64 (r.getD none0).ex, .int .i64 (r.getD none0).any] rfl rfl hb5 rfl (by kernel_rfl) (strs_one_cell hst) ?_
        intro w1 hg5 hgr hsz
        have hst := strs_grown hst hgr hb5
        have hw := hw.grown hgr hw.size (fun j hj => by cases hj; exact hge)
        refine hK.out _ _ ⟨range_blk (blk_below B1.out hw), range_blk (blk_below B2.out hw)⟩ (fun _ => ?_)
        exact hcont (_, A1, m1, c1, G) w1 ⟨hst, hg5, hw, hge⟩
    rintro ⟨cv, A36, m36, c36, G6⟩ w360 ⟨hst, hg5, hw, hge⟩
    simp only at hst hg5 hge
    refine norm_ (a' := ?_) ?_ ?_
    rotate_left
    · simp only [putAll, Act.put, List.setIfInBounds_toArray, List.set_cons_zero, List.set_cons_succ]
      rfl
    refine pure_ (i := 10) (N := some 11) (v := ?_) (a' := ?_) #[true, true, true, true, true, true, true, true, true, true, true] rfl rfl (by kernel_rfl) (fun _ _ _ h => h) (Or.inl ⟨by rfl, ?_⟩) ?_ ?_
    rotate_left
    · intro w'
      go_simp
      with_reducible rfl
    rotate_left
    · simp only [Act.put, List.setIfInBounds_toArray, List.set_cons_zero, List.set_cons_succ, i64_w, i32_w]
      rfl
    refine done_ (by kernel_rfl) ?_
    clear hHeld
    have n0_ := Aside0.mk (blk_below B1.out hw)
    have n1_ := Aside0.mk (blk_below B2.out hw)
    have n2_ := Aside0.mk (blk_below B7.out hw)
    have n3_ := Aside0.mk (below_step HB.out hw)
    have n4_ := Aside0.mk (Strs.below HQ.out hw)
    have n5_ := Aside0.mk (blk_below B8.out hw)
    have n6_ := Aside0.mk (Strs.below HX.out hw)
    clear B1 B2 B7 HB HQ B8 HX
    have B1 := n0_
    have B2 := n1_
    have B7 := n2_
    have HB := n3_
    have HQ := n4_
    have B8 := n5_
    have HX := n6_
    clear n0_ n1_ n2_ n3_ n4_ n5_ n6_
    have B10 := Aside0.mk hg5
    have HY := Aside0.mk hst
    clear hg5 hst hge hw
    go_wp2_with (first
      | ((with_reducible refine gate_dst (N := 44) rfl ?_); refine law_load rfl 25 _ rfl G5 rfl B8.out _ Tryd.underlying25 rfl (by kernel_rfl) ?_)
      | ((with_reducible refine gate_dst (N := 45) rfl ?_); refine law_load rfl 25 _ rfl G6 rfl B10.out _ Tryd.underlying25 rfl (by kernel_rfl) ?_)
      | (go_at_call 10; have h0_ := HX.out; (with_reducible refine (same_walk _ _ (r.getD none0) _ (pol_mk HX.out) (pol_mk HY.out) (by have := HR.out.2; omega)).mono ?_); rintro e w71 ⟨rfl, hb_⟩
         have B7z := Aside0.mk (blk_below B7.out hb_)
         have B1z := Aside0.mk (blk_below B1.out hb_)
         have HQz := Aside0.mk (HQ.out.below hb_)
         have HZ1 := Aside0.mk (below_step HB.out hb_)
         have k0 : w71.cell? ⟨g7, 0, none⟩ = some (.slice Q n0 cQ) := (blk_cell B7z.out 0).trans rfl
         have j0 : w71.cell? ⟨g1, 0, none⟩ = some (.slice A n0 cA) := (blk_cell B1z.out 0).trans rfl
         have k1 : w71.cell? ⟨g7, 1, none⟩ = some (.int .i64 p.ex) := (blk_cell B7z.out 1).trans rfl
         have j1 : w71.cell? ⟨g1, 1, none⟩ = some (.int .i64 p.ex) := (blk_cell B1z.out 1).trans rfl
         have k2 : w71.cell? ⟨g7, 2, none⟩ = some (.int .i64 p.any) := (blk_cell B7z.out 2).trans rfl
         have j2 : w71.cell? ⟨g1, 2, none⟩ = some (.int .i64 p.any) := (blk_cell B1z.out 2).trans rfl
         clear hb_ HX h0_ B7 B1)
      | (go_at_call 10; have h0_ := HQz.out; (with_reducible refine (same_walk _ _ p _ (pol_mk HQz.out) (pol_mk (HS0.out.1.below HZ1.out)) (by have := HN.out; omega)).mono ?_); rintro e w72 ⟨rfl, hb_⟩
         have HZ2 := Aside0.mk (below_step HZ1.out hb_)
         clear hb_ HQz h0_)
      | (go_at_call 13; (with_reducible refine (live_walk w72).mono ?_); rintro e w73 ⟨rfl, hb_⟩; have HI := Aside0.mk (below_step HZ2.out hb_); clear hb_))
    go_ret
    exact ⟨rfl, HI.out⟩
theorem steps_row (v : Value) (p : Pl) (bv : Value) (b : Cb) (last : Bool) (w : World) (hv : PolIs w v p ∧ FitS p.set ∧ I64 p.ex ∧ I64 p.any) (hb : BitIs w bv b ∧ BitOk b) :
    Calls Tryd.prog 4 #[v, bv, .bool last] w fun e w' => e = .returned (.bool true) ∧ Below w.heap.size w w' := by
  obtain ⟨⟨sv, rfl, hs⟩, fp, he, ha⟩ := hv
  obtain ⟨⟨pv, rfl, hp⟩, hok⟩ := hb
  obtain ⟨A, cA, rfl, _, _⟩ := hs.open_
  obtain ⟨P, cP, rfl, _, _⟩ := hp.open_
  by_cases hbig : 200 < p.set.length
  · exact steps_big A _ cA _ _ P _ cP _ _ _ last w hbig
  · exact steps_main A _ cA p P _ cP b last w hs rfl fp he ha hp hok hbig
end Go.Proofs.YtgeoibgohlpfjaaDoor.Py
