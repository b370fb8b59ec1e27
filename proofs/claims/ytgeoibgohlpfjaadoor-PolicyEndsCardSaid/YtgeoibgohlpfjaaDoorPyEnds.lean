/- The law PolicyEnds, walked (written by endsgen.py). -/
import Derived.Test.YtgeoibgohlpfjaaDoorPyRefEnd
set_option linter.unusedVariables false
set_option linter.unusedSimpArgs false
namespace Go.Proofs.YtgeoibgohlpfjaaDoor.Py
open Go Go.RowKit Go.Maps Go.Proofs.YtgeoibgohlpfjaaDoorW.PrintWords Go.Proofs.YtgeoibgohlpfjaaDoorW.PrintLast Go.Proofs.YtgeoibgohlpfjaaDoorW.PrintMore
theorem range_blk {w : World} {g : Nat} {cs : Array Value} {t : TypeId} {fr : Nat × Nat} (h : w.heap[g]? = some (.cells cs t fr)) : w.rangeAt g 0 cs.toList := fun j v hv => by
  rw [Nat.zero_add, cell_of_row w g j cs t fr h]
  simpa using hv
theorem EndPost.vals {r : Option (List S)} {w : World} {e : Ending} {w' : World} (h : EndPost r w e w') : ∃ A n c, e = .returned (.tuple #[.slice A n c, .bool r.isSome]) ∧ Strs w' (.slice A n c) ((r.getD []).map bs) ∧ Below w.heap.size w w' := by
  obtain ⟨h, hb⟩ := h
  cases r with
  | none => exact ⟨none, 0, 0, h, Strs.nil _, hb⟩
  | some l =>
    obtain ⟨v, he, hs⟩ := h
    obtain ⟨A, c, rfl, _, _⟩ := hs.open_
    exact ⟨A, _, c, he, hs, hb⟩
theorem endV_len {p : Pl} {c : Cb} {user : List S} (h1 : p.set.length ≤ 200) (h2 : user.length ≤ 200) : ((endV p c user).getD []).length ≤ 1000 := by
  cases hr : endV p c user with
  | none => simp
  | some l =>
    have := endV_length hr
    simp only [Option.getD_some]
    omega
set_option maxHeartbeats 8000000 in
set_option maxRecDepth 100000 in
theorem ends_big (A : Option Addr) (n0 cA : Nat) (ex any : Int) (P : Option Addr) (np cP : Nat) (req inh : Int) (own : Bool) (uv : Value) (w : World) (hbig : 200 < n0) :
    Calls Tryd.prog 5 #[.agg #[.slice A n0 cA, .int .i64 ex, .int .i64 any], .agg #[.slice P np cP, .int .i64 req, .int .i64 inh, .bool own], uv] w fun e w' => e = .returned (.bool true) ∧ Below w.heap.size w w' := by
  have p0 : (200 < (n0 : Int)) = True := by simp; omega
  have HB := Aside0.mk (Below.refl w.heap.size w)
  go_enter Tryd.func5, Tryd.ntmps5
  go_wp2_with (first
    | ((with_reducible refine gate_dst (N := 3) rfl ?_); refine law_new ?hg (N := 3) ?hd (ob := .cells #[.slice A n0 cA, .int .i64 ex, .int .i64 any] 25 (0, 0)) (V := fun g => .pointer (some ⟨g, 0, none⟩)) ?hr ?_; (case hd => rfl); (case hg => rfl); (case hr => first | (go_simp; done) | (go_simp; rfl))
       intro g1 hg1 w1 b1 hb1
       have B1 := Aside0.mk b1
       have HBx := Aside0.mk (below_step HB.out hb1)
       clear b1 HB hb1 hg1)
    | ((with_reducible refine gate_dst (N := 4) rfl ?_); refine law_new ?hg (N := 4) ?hd (ob := .cells #[.slice P np cP, .int .i64 req, .int .i64 inh, .bool own] 30 (0, 0)) (V := fun g => .pointer (some ⟨g, 0, none⟩)) ?hr ?_; (case hd => rfl); (case hg => rfl); (case hr => first | (go_simp; done) | (go_simp; rfl))
       intro g2 hg2 w2 b2 hb2
       have B2 := Aside0.mk b2
       have B1x := Aside0.mk (blk_below B1.out hb2)
       have HB := Aside0.mk (below_step HBx.out hb2)
       clear b2 HBx hb2 hg2 B1)
    | ((with_reducible refine gate_dst (N := 12) rfl ?_); refine law_load1 rfl 23 _ rfl g1 0 rfl B1x.out (.slice A n0 cA) rfl _ Tryd.underlying23 rfl ?_)
    | (go_at_call 13; (with_reducible refine (live_walk w2).mono ?_); rintro e w3 ⟨rfl, hb3⟩; have HZ := Aside0.mk (below_step HB.out hb3); clear hb3))
  go_ret
  exact ⟨rfl, HZ.out⟩
set_option maxHeartbeats 8000000 in
set_option maxRecDepth 100000 in
theorem ends_main (A : Option Addr) (n0 cA : Nat) (p : Pl) (P : Option Addr) (np cP : Nat) (b : Cb) (U : Option Addr) (n2 cU : Nat) (user : List S) (w : World) (hs : Strs w (.slice A n0 cA) (p.set.map bs)) (hn0 : p.set.length = n0) (fp : FitS p.set) (he0 : I64 p.ex) (ha0 : I64 p.any)
    (hp : Strs w (.slice P np cP) (b.pol.map bs)) (hb0 : BitOk b) (hu : Strs w (.slice U n2 cU) (user.map bs)) (fu : FitS user) (hn2 : user.length = n2) (hnU : n2 ≤ 9223372036854775807) (hbig : ¬ 200 < n0) :
    Calls Tryd.prog 5 #[.agg #[.slice A n0 cA, .int .i64 p.ex, .int .i64 p.any], .agg #[.slice P np cP, .int .i64 b.req, .int .i64 b.inh, .bool b.own], .slice U n2 cU] w fun e w' => e = .returned (.bool true) ∧ Below w.heap.size w w' := by
  have HS0 := Aside0.mk (And.intro hs (And.intro hp hu))
  have HN := Aside0.mk (And.intro hn0 (And.intro hn2 hnU))
  have HF := Aside0.mk (And.intro fp (And.intro fu (And.intro he0 (And.intro ha0 hb0))))
  clear hs hn0 fp he0 ha0 hp hb0 hu fu hn2 hnU
  have p0 : (200 < (n0 : Int)) = False := by simp; omega
  have HB := Aside0.mk (Below.refl w.heap.size w)
  obtain ⟨hug, hh⟩ : ∃ h : Bool, hugeB [b] user = h := ⟨_, rfl⟩
  have HH := Aside0.mk hh
  clear hh
  go_enter Tryd.func5, Tryd.ntmps5
  go_upto_if 20 with (first
    | ((with_reducible refine gate_dst (N := 3) rfl ?_); refine law_new ?hg (N := 3) ?hd (ob := .cells #[.slice A n0 cA, .int .i64 p.ex, .int .i64 p.any] 25 (0, 0)) (V := fun g => .pointer (some ⟨g, 0, none⟩)) ?hr ?_; (case hd => rfl); (case hg => rfl); (case hr => first | (go_simp; done) | (go_simp; rfl))
       intro g1 hg1 w1 b1 hb1
       have B1 := Aside0.mk b1
       have HBx := Aside0.mk (below_step HB.out hb1)
       clear b1 HB hb1 hg1)
    | ((with_reducible refine gate_dst (N := 4) rfl ?_); refine law_new ?hg (N := 4) ?hd (ob := .cells #[.slice P np cP, .int .i64 b.req, .int .i64 b.inh, .bool b.own] 30 (0, 0)) (V := fun g => .pointer (some ⟨g, 0, none⟩)) ?hr ?_; (case hd => rfl); (case hg => rfl); (case hr => first | (go_simp; done) | (go_simp; rfl))
       intro g2 hg2 w2 b2 hb2
       have B2 := Aside0.mk b2
       have B1x := Aside0.mk (blk_below B1.out hb2)
       have HB := Aside0.mk (below_step HBx.out hb2)
       have k0 : w2.cell? ⟨g2, 0, none⟩ = some (.slice P np cP) := (blk_cell B2.out 0).trans rfl
       have k1 : w2.cell? ⟨g2, 1, none⟩ = some (.int .i64 b.req) := (blk_cell B2.out 1).trans rfl
       have k2 : w2.cell? ⟨g2, 2, none⟩ = some (.int .i64 b.inh) := (blk_cell B2.out 2).trans rfl
       have k3 : w2.cell? ⟨g2, 3, none⟩ = some (.bool b.own) := (blk_cell B2.out 3).trans rfl
       clear b2 HBx hb2 hg2 B1)
    | ((with_reducible refine gate_dst (N := 12) rfl ?_); refine law_load1 rfl 23 _ rfl g1 0 rfl B1x.out (.slice A n0 cA) rfl _ Tryd.underlying23 rfl ?_)
    | (go_at_call 14; refine (huge_walk _ _ [b] user _ (bits_one (blk_new w2 _) (HS0.out.2.1.below (below_alloc HB.out _))) (HS0.out.2.2.below (below_alloc HB.out _)) (by rw [HN.out.2.1]; exact HN.out.2.2)).mono ?_; rintro e w_ ⟨rfl, hs_⟩; subst w_; rw [HH.out]))
  have hb3 : Below w2.heap.size w2 (w2.alloc (.cells #[.slice P np cP, .int .i64 b.req, .int .i64 b.inh, .bool b.own] 30)) := below_alloc (Below.refl _ _) _
  generalize w2.alloc (.cells #[.slice P np cP, .int .i64 b.req, .int .i64 b.inh, .bool b.own] 30) = w3 at hb3 ⊢
  have HBy := Aside0.mk (below_step HB.out hb3)
  have HBlk := Aside0.mk (And.intro (blk_below B1x.out hb3) (blk_below B2.out hb3))
  clear hb3 HB B1x B2 k0 k1 k2 k3
  cases hug with
  | true =>
    go_wp2_with (go_at_call 13; (with_reducible refine (live_walk w3).mono ?_); rintro e w4 ⟨rfl, hb4⟩; have HZ := Aside0.mk (below_step HBy.out hb4); clear hb4)
    go_ret
    exact ⟨rfl, HZ.out⟩
  | false =>
    obtain ⟨_, hul, hpl⟩ := not_huge HH.out
    have hpl := hpl b (by simp)
    have HL := Aside0.mk (And.intro hul hpl)
    clear hul hpl
    have B1 := Aside0.mk HBlk.out.1
    have B2 := Aside0.mk HBlk.out.2
    have HB := Aside0.mk HBy.out
    clear HBlk HBy
    have hlen := endV_len (p := p) (c := b) (user := user) (by rw [HN.out.1]; omega) HL.out.1
    generalize hr : endV p b user = r at hlen
    have HR := Aside0.mk (And.intro hr hlen)
    clear hr hlen
    go_upto_region 3 with fail
    have n0_ := Aside0.mk (blk_drew B1.out)
    have n1_ := Aside0.mk (blk_drew B2.out)
    have n2_ := Aside0.mk (below_drew1 HB.out)
    clear B1 B2 HB
    have B1 := n0_
    have B2 := n1_
    have HB := n2_
    clear n0_ n1_ n2_
    refine start_ (n := 10) (S := fun w' => w'.rangeAt g1 0 [.slice A n0 cA, .int .i64 p.ex, .int .i64 p.any] ∧ w'.rangeAt g2 0 [.slice P np cP, .int .i64 b.req, .int .i64 b.inh, .bool b.own]) (ds := []) #[false, false, false, false, false, false, false, false, false, false] (by kernel_rfl) rfl rfl ⟨range_blk B1.out, range_blk B2.out⟩ (fun hHeld => ?_)
    generalize w3.drew = w50 at B1 B2 HB hHeld ⊢
    refine take_ (i := 0) (N := some 23) (v := .agg #[.slice A n0 cA, .int .i64 p.ex, .int .i64 p.any]) (a' := ?_) #[true, false, false, false, false, false, false, false, false, false] rfl rfl (by kernel_rfl) (fun _ _ _ h => h) (yieldsIf_load_mid (by rfl) 25 (.tmp 3) rfl g1 0 rfl [.slice A n0 cA, .int .i64 p.ex, .int .i64 p.any] _ (fun _ h => h.1) Tryd.underlying25 rfl (by kernel_rfl)) hHeld ?_ ?_
    rotate_left
    · simp only [Act.put, List.setIfInBounds_toArray, List.set_cons_zero, List.set_cons_succ, i64_w, i32_w]
      rfl
    refine take_ (i := 1) (N := some 24) (v := .agg #[.slice P np cP, .int .i64 b.req, .int .i64 b.inh, .bool b.own]) (a' := ?_) #[true, true, false, false, false, false, false, false, false, false] rfl rfl (by kernel_rfl) (fun _ _ _ h => h) (yieldsIf_load_mid (by rfl) 30 (.tmp 4) rfl g2 0 rfl [.slice P np cP, .int .i64 b.req, .int .i64 b.inh, .bool b.own] _ (fun _ h => h.2) Tryd.underlying30 rfl (by kernel_rfl)) hHeld ?_ ?_
    rotate_left
    · simp only [Act.put, List.setIfInBounds_toArray, List.set_cons_zero, List.set_cons_succ, i64_w, i32_w]
      rfl
    refine pure_ (i := 3) (N := some 26) (v := ?_) (a' := ?_) #[true, true, false, true, false, false, false, false, false, false] rfl rfl (by kernel_rfl) (fun _ _ _ h => h) (Or.inl ⟨by rfl, ?_⟩) ?_ ?_
    rotate_left
    · intro w'
      go_simp
      with_reducible rfl
    rotate_left
    · simp only [Act.put, List.setIfInBounds_toArray, List.set_cons_zero, List.set_cons_succ, i64_w, i32_w]
      rfl
    refine one_ (i := 2) (N := some 25) #[true, true, true, true, false, false, false, false, false, false] rfl rfl (by kernel_rfl) (by decide) (fun K hK => ?_)
    refine goes_ Tryd.func16 (by kernel_rfl) rfl #[.agg #[.slice P np cP, .int .i64 b.req, .int .i64 b.inh, .bool b.own]] (by rfl) rfl rfl (by (try simp only [List.map_toArray, List.map_cons, List.map_nil]); first | done | rfl) ?_
    refine (of_at (b := b) (HS0.out.2.1.below HB.out)).mono ?_
    rintro e w51 ⟨nB, nb, cb, nS, ns, cs, rfl, hcr, hb⟩
    refine ⟨_, rfl, ?_⟩
    have HCR := Aside0.mk (hcr.cert hb).2
    have n0_ := Aside0.mk (blk_below B1.out hb)
    have n1_ := Aside0.mk (blk_below B2.out hb)
    have n2_ := Aside0.mk (below_step HB.out hb)
    clear B1 B2 HB
    have B1 := n0_
    have B2 := n1_
    have HB := n2_
    clear n0_ n1_ n2_
    clear hb hcr
    clear hHeld
    refine hK.out _ _ ⟨range_blk B1.out, range_blk B2.out⟩ (fun hHeld => ?_)
    clear hK K
    refine norm_ (a' := ?_) ?_ ?_
    rotate_left
    · show Act.put _ (some 25) _ = _
      simp only [Act.put, List.setIfInBounds_toArray, List.set_cons_zero, List.set_cons_succ, i64_w, i32_w]
      rfl
    refine one_ (i := 4) (N := some 27) #[true, true, true, true, true, false, false, false, false, false] rfl rfl (by kernel_rfl) (by decide) (fun K hK => ?_)
    refine goes_ Tryd.func18 (by kernel_rfl) rfl #[.agg #[.slice A n0 cA, .int .i64 p.ex, .int .i64 p.any], .agg (certC (.slice P np cP) (.slice nB nb cb) (.slice nS ns cs) b.req b.inh), .slice U n2 cU] (by rfl) rfl rfl (by (try simp only [List.map_toArray, List.map_cons, List.map_nil]); first | done | rfl) ?_
    refine (end_walk _ _ _ p b user _ ⟨_, rfl, HS0.out.1.below HB.out⟩ HCR.out (HS0.out.2.2.below HB.out) (by rw [HN.out.1]; omega) (by have := HL.out.1; omega) HF.out.1 HF.out.2.1 HF.out.2.2.1.2).mono ?_
    rintro e w52 hpost
    rw [HR.out.1] at hpost
    obtain ⟨A1, m1, c1, rfl, hs1, hb⟩ := hpost.vals
    refine ⟨_, rfl, ?_⟩
    clear hpost HCR
    have n0_ := Aside0.mk (blk_below B1.out hb)
    have n1_ := Aside0.mk (blk_below B2.out hb)
    have n2_ := Aside0.mk (below_step HB.out hb)
    clear B1 B2 HB
    have B1 := n0_
    have B2 := n1_
    have HB := n2_
    clear n0_ n1_ n2_
    clear hb
    clear hHeld
    refine hK.out _ _ ⟨range_blk B1.out, range_blk B2.out⟩ (fun hHeld => ?_)
    clear hK K
    refine norm_ (a' := ?_) ?_ ?_
    rotate_left
    · show Act.put _ (some 27) _ = _
      simp only [Act.put, List.setIfInBounds_toArray, List.set_cons_zero, List.set_cons_succ, i64_w, i32_w]
      rfl
    refine pure_ (i := 5) (N := some 22) (v := ?_) (a' := ?_) #[true, true, true, true, true, true, false, false, false, false] rfl rfl (by kernel_rfl) (fun _ _ _ h => h) (Or.inl ⟨by rfl, ?_⟩) ?_ ?_
    rotate_left
    · intro w'
      go_simp
      with_reducible rfl
    rotate_left
    · simp only [Act.put, List.setIfInBounds_toArray, List.set_cons_zero, List.set_cons_succ, i64_w, i32_w]
      rfl
    refine pure_ (i := 6) (N := some 28) (v := ?_) (a' := ?_) #[true, true, true, true, true, true, true, false, false, false] rfl rfl (by kernel_rfl) (fun _ _ _ h => h) (Or.inl ⟨by rfl, ?_⟩) ?_ ?_
    rotate_left
    · intro w'
      go_simp
      with_reducible rfl
    rotate_left
    · simp only [Act.put, List.setIfInBounds_toArray, List.set_cons_zero, List.set_cons_succ, i64_w, i32_w]
      rfl
    refine pure_ (i := 7) (N := some 29) (v := ?_) (a' := ?_) #[true, true, true, true, true, true, true, true, false, false] rfl rfl (by kernel_rfl) (fun _ _ _ h => h) (Or.inl ⟨by rfl, ?_⟩) ?_ ?_
    rotate_left
    · intro w'
      go_simp
      with_reducible rfl
    rotate_left
    · simp only [Act.put, List.setIfInBounds_toArray, List.set_cons_zero, List.set_cons_succ, i64_w, i32_w]
      rfl
    refine pure_ (i := 8) (N := some 7) (v := ?_) (a' := ?_) #[true, true, true, true, true, true, true, true, true, false] rfl rfl (by kernel_rfl) (fun _ _ _ h => h) (Or.inl ⟨by rfl, ?_⟩) ?_ ?_
    rotate_left
    · intro w'
      go_simp
      with_reducible rfl
    rotate_left
    · simp only [Act.put, List.setIfInBounds_toArray, List.set_cons_zero, List.set_cons_succ, i64_w, i32_w]
      rfl
    refine pure_ (i := 9) (N := some 8) (v := ?_) (a' := ?_) #[true, true, true, true, true, true, true, true, true, true] rfl rfl (by kernel_rfl) (fun _ _ _ h => h) (Or.inl ⟨by rfl, ?_⟩) ?_ ?_
    rotate_left
    · intro w'
      go_simp
      with_reducible rfl
    rotate_left
    · simp only [Act.put, List.setIfInBounds_toArray, List.set_cons_zero, List.set_cons_succ, i64_w, i32_w]
      rfl
    refine done_ (by kernel_rfl) ?_
    have HE1 := Aside0.mk hs1
    clear hHeld hs1
    go_upto_region 4 with fail
    have n0_ := Aside0.mk (blk_drew B1.out)
    have n1_ := Aside0.mk (blk_drew B2.out)
    have n2_ := Aside0.mk (below_drew1 HB.out)
    have n3_ := Aside0.mk (Strs.below HE1.out (below_drew1 (Below.refl _ _)))
    clear B1 B2 HB HE1
    have B1 := n0_
    have B2 := n1_
    have HB := n2_
    have HE1 := n3_
    clear n0_ n1_ n2_ n3_
    refine start_ (n := 10) (S := fun w' => w'.rangeAt g1 0 [.slice A n0 cA, .int .i64 p.ex, .int .i64 p.any] ∧ w'.rangeAt g2 0 [.slice P np cP, .int .i64 b.req, .int .i64 b.inh, .bool b.own]) (ds := []) #[false, false, false, false, false, false, false, false, false, false] (by kernel_rfl) rfl rfl ⟨range_blk B1.out, range_blk B2.out⟩ (fun hHeld => ?_)
    generalize w52.drew = w60 at B1 B2 HB HE1 hHeld ⊢
    refine take_ (i := 0) (N := some 31) (v := .agg #[.slice A n0 cA, .int .i64 p.ex, .int .i64 p.any]) (a' := ?_) #[true, false, false, false, false, false, false, false, false, false] rfl rfl (by kernel_rfl) (fun _ _ _ h => h) (yieldsIf_load_mid (by rfl) 25 (.tmp 3) rfl g1 0 rfl [.slice A n0 cA, .int .i64 p.ex, .int .i64 p.any] _ (fun _ h => h.1) Tryd.underlying25 rfl (by kernel_rfl)) hHeld ?_ ?_
    rotate_left
    · simp only [Act.put, List.setIfInBounds_toArray, List.set_cons_zero, List.set_cons_succ, i64_w, i32_w]
      rfl
    refine take_ (i := 1) (N := some 32) (v := .agg #[.slice P np cP, .int .i64 b.req, .int .i64 b.inh, .bool b.own]) (a' := ?_) #[true, true, false, false, false, false, false, false, false, false] rfl rfl (by kernel_rfl) (fun _ _ _ h => h) (yieldsIf_load_mid (by rfl) 30 (.tmp 4) rfl g2 0 rfl [.slice P np cP, .int .i64 b.req, .int .i64 b.inh, .bool b.own] _ (fun _ h => h.2) Tryd.underlying30 rfl (by kernel_rfl)) hHeld ?_ ?_
    rotate_left
    · simp only [Act.put, List.setIfInBounds_toArray, List.set_cons_zero, List.set_cons_succ, i64_w, i32_w]
      rfl
    refine pure_ (i := 3) (N := some 34) (v := ?_) (a' := ?_) #[true, true, false, true, false, false, false, false, false, false] rfl rfl (by kernel_rfl) (fun _ _ _ h => h) (Or.inl ⟨by rfl, ?_⟩) ?_ ?_
    rotate_left
    · intro w'
      go_simp
      with_reducible rfl
    rotate_left
    · simp only [Act.put, List.setIfInBounds_toArray, List.set_cons_zero, List.set_cons_succ, i64_w, i32_w]
      rfl
    refine one_ (i := 2) (N := some 33) #[true, true, true, true, false, false, false, false, false, false] rfl rfl (by kernel_rfl) (by decide) (fun K hK => ?_)
    refine goes_ Tryd.func16 (by kernel_rfl) rfl #[.agg #[.slice P np cP, .int .i64 b.req, .int .i64 b.inh, .bool b.own]] (by rfl) rfl rfl (by (try simp only [List.map_toArray, List.map_cons, List.map_nil]); first | done | rfl) ?_
    refine (of_at (b := b) (HS0.out.2.1.below HB.out)).mono ?_
    rintro e w61 ⟨nB, nb, cb, nS, ns, cs, rfl, hcr, hb⟩
    refine ⟨_, rfl, ?_⟩
    have HCR := Aside0.mk (hcr.cert hb).2
    have n0_ := Aside0.mk (blk_below B1.out hb)
    have n1_ := Aside0.mk (blk_below B2.out hb)
    have n2_ := Aside0.mk (below_step HB.out hb)
    have n3_ := Aside0.mk (Strs.below HE1.out hb)
    clear B1 B2 HB HE1
    have B1 := n0_
    have B2 := n1_
    have HB := n2_
    have HE1 := n3_
    clear n0_ n1_ n2_ n3_
    clear hb hcr
    clear hHeld
    refine hK.out _ _ ⟨range_blk B1.out, range_blk B2.out⟩ (fun hHeld => ?_)
    clear hK K
    refine norm_ (a' := ?_) ?_ ?_
    rotate_left
    · show Act.put _ (some 33) _ = _
      simp only [Act.put, List.setIfInBounds_toArray, List.set_cons_zero, List.set_cons_succ, i64_w, i32_w]
      rfl
    refine one_ (i := 4) (N := some 35) #[true, true, true, true, true, false, false, false, false, false] rfl rfl (by kernel_rfl) (by decide) (fun K hK => ?_)
    refine goes_ Tryd.func19 (by kernel_rfl) rfl #[.agg #[.slice A n0 cA, .int .i64 p.ex, .int .i64 p.any], .agg (certC (.slice P np cP) (.slice nB nb cb) (.slice nS ns cs) b.req b.inh), .slice U n2 cU] (by rfl) rfl rfl (by (try simp only [List.map_toArray, List.map_cons, List.map_nil]); first | done | rfl) ?_
    refine (endR_walk _ _ _ p b user _ ⟨_, rfl, HS0.out.1.below HB.out⟩ HCR.out (HS0.out.2.2.below HB.out) (by rw [HN.out.1]; omega) (by have := HL.out.1; omega) HF.out.2.2.1.1 HF.out.2.2.1.2).mono ?_
    rintro e w62 hpost
    rw [HR.out.1] at hpost
    obtain ⟨A2, m2, c2, rfl, hs2, hb⟩ := hpost.vals
    refine ⟨_, rfl, ?_⟩
    clear hpost HCR
    have n0_ := Aside0.mk (blk_below B1.out hb)
    have n1_ := Aside0.mk (blk_below B2.out hb)
    have n2_ := Aside0.mk (below_step HB.out hb)
    have n3_ := Aside0.mk (Strs.below HE1.out hb)
    clear B1 B2 HB HE1
    have B1 := n0_
    have B2 := n1_
    have HB := n2_
    have HE1 := n3_
    clear n0_ n1_ n2_ n3_
    clear hb
    clear hHeld
    refine hK.out _ _ ⟨range_blk B1.out, range_blk B2.out⟩ (fun hHeld => ?_)
    clear hK K
    refine norm_ (a' := ?_) ?_ ?_
    rotate_left
    · show Act.put _ (some 35) _ = _
      simp only [Act.put, List.setIfInBounds_toArray, List.set_cons_zero, List.set_cons_succ, i64_w, i32_w]
      rfl
    refine pure_ (i := 5) (N := some 30) (v := ?_) (a' := ?_) #[true, true, true, true, true, true, false, false, false, false] rfl rfl (by kernel_rfl) (fun _ _ _ h => h) (Or.inl ⟨by rfl, ?_⟩) ?_ ?_
    rotate_left
    · intro w'
      go_simp
      with_reducible rfl
    rotate_left
    · simp only [Act.put, List.setIfInBounds_toArray, List.set_cons_zero, List.set_cons_succ, i64_w, i32_w]
      rfl
    refine pure_ (i := 6) (N := some 36) (v := ?_) (a' := ?_) #[true, true, true, true, true, true, true, false, false, false] rfl rfl (by kernel_rfl) (fun _ _ _ h => h) (Or.inl ⟨by rfl, ?_⟩) ?_ ?_
    rotate_left
    · intro w'
      go_simp
      with_reducible rfl
    rotate_left
    · simp only [Act.put, List.setIfInBounds_toArray, List.set_cons_zero, List.set_cons_succ, i64_w, i32_w]
      rfl
    refine pure_ (i := 7) (N := some 37) (v := ?_) (a' := ?_) #[true, true, true, true, true, true, true, true, false, false] rfl rfl (by kernel_rfl) (fun _ _ _ h => h) (Or.inl ⟨by rfl, ?_⟩) ?_ ?_
    rotate_left
    · intro w'
      go_simp
      with_reducible rfl
    rotate_left
    · simp only [Act.put, List.setIfInBounds_toArray, List.set_cons_zero, List.set_cons_succ, i64_w, i32_w]
      rfl
    refine pure_ (i := 8) (N := some 9) (v := ?_) (a' := ?_) #[true, true, true, true, true, true, true, true, true, false] rfl rfl (by kernel_rfl) (fun _ _ _ h => h) (Or.inl ⟨by rfl, ?_⟩) ?_ ?_
    rotate_left
    · intro w'
      go_simp
      with_reducible rfl
    rotate_left
    · simp only [Act.put, List.setIfInBounds_toArray, List.set_cons_zero, List.set_cons_succ, i64_w, i32_w]
      rfl
    refine pure_ (i := 9) (N := some 10) (v := ?_) (a' := ?_) #[true, true, true, true, true, true, true, true, true, true] rfl rfl (by kernel_rfl) (fun _ _ _ h => h) (Or.inl ⟨by rfl, ?_⟩) ?_ ?_
    rotate_left
    · intro w'
      go_simp
      with_reducible rfl
    rotate_left
    · simp only [Act.put, List.setIfInBounds_toArray, List.set_cons_zero, List.set_cons_succ, i64_w, i32_w]
      rfl
    refine done_ (by kernel_rfl) ?_
    have HE2 := Aside0.mk hs2
    clear hHeld hs2
    go_wp2_with (first
      | (go_at_call 20; refine (texts_walk _ _ _ _ w62 HE1.out HE2.out (by rw [List.length_map]; have := HR.out.2; omega) (by rw [List.length_map]; have := HR.out.2; omega)).mono ?_; rintro e w7 ⟨rfl, hb7⟩; rw [decide_eq_true rfl]
         have HG := Aside0.mk (below_step HB.out hb7); clear hb7)
      | (go_at_call 13; (with_reducible refine (live_walk w7).mono ?_); rintro e w8 ⟨rfl, hb8⟩; have HI := Aside0.mk (below_step HG.out hb8); clear hb8))
    go_ret
    exact ⟨rfl, HI.out⟩
theorem ends_row (v : Value) (p : Pl) (bv : Value) (b : Cb) (uv : Value) (user : List S) (w : World) (hv : PolIs w v p ∧ FitS p.set ∧ I64 p.ex ∧ I64 p.any) (hb : BitIs w bv b ∧ BitOk b) (hu : Strs w uv (user.map bs) ∧ FitS user) :
    Calls Tryd.prog 5 #[v, bv, uv] w fun e w' => e = .returned (.bool true) ∧ Below w.heap.size w w' := by
  obtain ⟨⟨sv, rfl, hs⟩, fp, he, ha⟩ := hv
  obtain ⟨⟨pv, rfl, hp⟩, hok⟩ := hb
  obtain ⟨hu, fu⟩ := hu
  obtain ⟨A, cA, rfl, _, _⟩ := hs.open_
  obtain ⟨P, cP, rfl, _, _⟩ := hp.open_
  obtain ⟨U, cU, rfl, _, hnU⟩ := hu.open_
  by_cases hbig : 200 < p.set.length
  · exact ends_big A _ cA _ _ P _ cP _ _ _ _ w hbig
  · exact ends_main A _ cA p P _ cP b U _ cU user w hs rfl fp he ha hp hok hu fu rfl hnU hbig
end Go.Proofs.YtgeoibgohlpfjaaDoor.Py
