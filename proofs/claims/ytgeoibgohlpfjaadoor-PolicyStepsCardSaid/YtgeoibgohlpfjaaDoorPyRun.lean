/- policy.Run walked. -/
import Derived.Test.YtgeoibgohlpfjaaDoorPyEnd
set_option linter.unusedVariables false
set_option linter.unusedSimpArgs false
namespace Go.Proofs.YtgeoibgohlpfjaaDoor.Py
open Go Go.RowKit Go.Maps Go.Proofs.YtgeoibgohlpfjaaDoorW.PrintWords Go.Proofs.YtgeoibgohlpfjaaDoorW.PrintLast Go.Proofs.YtgeoibgohlpfjaaDoorW.PrintMore
/-- a certificate's value, its slices written out -/
theorem CertOf.open_ {w : World} {v : Value} {c : Cb} (h : CertOf w v c) : ∃ C cC B nb cb S ns cs, v = .agg (certC (.slice C c.pol.length cC) (.slice B nb cb) (.slice S ns cs) c.req c.inh) := by
  obtain ⟨pv, n, rfl, hp, hn⟩ := h
  obtain ⟨C, cC, rfl, _, _⟩ := hp.open_
  obtain ⟨b1, b2, b3, rfl, _⟩ := hn
  obtain ⟨pol, req, inh, own⟩ := c
  cases own with
  | true => exact ⟨C, cC, _, _, _, _, _, _, rfl⟩
  | false => exact ⟨C, cC, _, _, _, _, _, _, rfl⟩
/-- certificates that lie in a row of the call's own -/
def Certs (w : World) (v : Value) (l : List Cb) : Prop :=
  (l = [] ∧ v = nilS) ∨ ∃ g cap cur, v = .slice (some ⟨g, 0, none⟩) l.length cap ∧ l.length ≤ cap ∧ w.heap[g]? = some (.cells cur 48 (0, 0)) ∧
    ∀ k c, l[k]? = some c → ∃ cs : Array Value, cs.size = 31 ∧ (∀ (j : Nat) u, cs.toList[j]? = some u → cur[k * 31 + j]? = some u) ∧ CertOf w (.agg cs) c
theorem Certs.below {w w' : World} {v : Value} {l : List Cb} (h : Certs w v l) (hb : Below w.heap.size w w') : Certs w' v l := by
  rcases h with h | ⟨g, cap, cur, e, hc, hg, hk⟩
  · exact .inl h
  · refine .inr ⟨g, cap, cur, e, hc, blk_below hg hb, fun k c hkc => ?_⟩
    obtain ⟨cs, h1, h2, h3⟩ := hk k c hkc
    exact ⟨cs, h1, h2, h3.below hb⟩
/-! ### what holds along the way -/
structure Ok (p : Pl) (m : Nat) : Prop where
  len : p.set.length ≤ m
  fit : FitS p.set
  ex : p.ex ≤ 9
  any : p.any ≤ 9
theorem down_le (n b : Int) (less : Bool) (h : n ≤ 9) : down n b less ≤ 9 := by
  cases less with
  | false =>
    simp only [down, Int.min_def, Bool.false_eq_true, false_and, if_false]
    repeat' split
    all_goals omega
  | true =>
    simp only [down, Int.min_def, true_and]
    repeat' split
    all_goals omega
theorem norm_length (l : List S) : (norm l).length ≤ l.length := by
  have h := length_nrm (l.map bs)
  unfold nrm at h
  rw [List.length_map, List.length_map, List.map_map] at h
  have e : l.map (tl ∘ bs) = l := by
    rw [List.map_congr_left (fun x _ => show (tl ∘ bs) x = id x from tl_bs x), List.map_id]
  rw [e] at h
  exact h
theorem gather_length (set : List S) (any : Int) (pol : List S) (own last : Bool) : (gather set any pol own last).length ≤ pol.length + set.length := by
  unfold gather
  rw [List.length_append]
  have := List.length_filter_le (fun s => decide (s ≠ anyP ∧ (s ∈ set ∨ anyP ∈ set))) pol
  split
  · omega
  · rw [List.length_nil]; omega
theorem gather_fit {set pol : List S} (any : Int) (own last : Bool) (h1 : FitS set) (h2 : FitS pol) : FitS (gather set any pol own last) := by
  intro s hs
  unfold gather at hs
  rcases List.mem_append.1 hs with h | h
  · exact h2 s (List.mem_filter.1 h).1
  · split at h
    · exact h1 s h
    · simp at h
theorem Ok.step {p q : Pl} {m : Nat} {c : Cb} {last : Bool} (h : Ok p m) (hc : FitS c.pol) (hs : stepV p c last = some q) : Ok q (c.pol.length + m) := by
  unfold stepV at hs
  split at hs
  · cases hs
  · cases hs
    refine ⟨?_, ?_, ?_, ?_⟩
    · have h1 := norm_length (gather p.set p.any c.pol c.own last)
      have h2 := gather_length p.set p.any c.pol c.own last
      have h3 := h.len
      simp only
      omega
    · intro s hs
      rw [norm_mem] at hs
      exact gather_fit p.any c.own last h.fit hc s hs
    · simp only
      split
      · exact h.ex
      · exact down_le _ _ _ h.ex
    · simp only
      split
      · exact h.any
      · exact down_le _ _ _ h.any
theorem Ok.weaken {p : Pl} {m n : Nat} (h : Ok p m) (hmn : m ≤ n) : Ok p n := ⟨Nat.le_trans h.len hmn, h.fit, h.ex, h.any⟩
theorem Ok.start (n : Int) (ex inh : Bool) : Ok (startV n ex inh) 1 := by
  unfold startV
  refine ⟨by simp, ?_, ?_, ?_⟩
  · intro s hs
    simp at hs
    subst hs
    decide
  · simp only
    split <;> omega
  · simp only
    split <;> omega
theorem runFrom_last {user : List S} {p : Pl} {l : List Cb} {k : Nat} (hk : k + 1 = l.length) (hlt : k < l.length) : runFrom user p (l.drop k) = (stepV p l[k] true).bind fun q => endV q l[k] user := by
  have e : l.drop k = [l[k]] := by
    rw [List.drop_eq_getElem_cons hlt, List.drop_of_length_le (by omega)]
  rw [e]
  rfl
theorem runFrom_more {user : List S} {p : Pl} {l : List Cb} {k : Nat} (hk : k + 1 ≠ l.length) (hlt : k < l.length) : runFrom user p (l.drop k) = (stepV p l[k] false).bind fun q => runFrom user q (l.drop (k + 1)) := by
  rw [List.drop_eq_getElem_cons hlt]
  cases h : l.drop (k + 1) with
  | nil =>
    have : (l.drop (k + 1)).length = 0 := by rw [h]; rfl
    rw [List.length_drop] at this
    omega
  | cons d m => rfl
section
variable {P : Program} {ops : Array Oper} {o : Oper} {rest : List Oper} {a : Act} {Q : Exit → Act → World → Prop}
/-- an element of a row is read whole -/
theorem law_load_at {W : World} (hgd : o.guard = none) (t : TypeId) (x : Operand) (ho : o.op = .load t x) (g k : Nat) (hx : a.eval x = .pointer (some ⟨g, k, none⟩))
    {cur cs : Array Value} {e : TypeId} {fr : Nat × Nat} (hb : W.heap[g]? = some (.cells cur e fr)) (hcs : ∀ (j : Nat) u, cs.toList[j]? = some u → cur[k + j]? = some u) (d : TypeDesc) (hu : P.underlying t = some d) (hd : d.isRow = true) (hi : (P.info? t).map (·.size) = some cs.size)
    (h : wpList P ops Q rest (a.put o.dst (.agg cs)) W) : wpList P ops Q (o :: rest) a W := by
  refine wpList_load_mid hgd t x ho g k hx cs.toList d (fun j v hv => ?_) hu hd (by simpa using hi) (by simpa using h)
  rw [cell_of_row W g (k + j) cur e fr hb]
  exact hcs j v hv
end
theorem EndPost.none_ {w w' : World} {e : Ending} (he : e = .returned (.tuple #[nilS, .bool false])) (hb : Below w.heap.size w w') : EndPost none w e w' := ⟨he, hb⟩
/-- Step at values written out -/
theorem step_at {w : World} {A C B S : Option Addr} {c cC nb cb ns cs : Nat} {p : Pl} {x : Cb} {last : Bool} {m : Nat} (hs : Strs w (.slice A p.set.length c) (p.set.map bs)) (hc : CertOf w (.agg (certC (.slice C x.pol.length cC) (.slice B nb cb) (.slice S ns cs) x.req x.inh)) x) (ho : Ok p m) (hm : m ≤ 1000000) (hx : x.pol.length ≤ 1000 ∧ FitS x.pol) :
    Calls Tryd.prog 15 #[.agg #[.slice A p.set.length c, .int .i64 p.ex, .int .i64 p.any], .agg (certC (.slice C x.pol.length cC) (.slice B nb cb) (.slice S ns cs) x.req x.inh), .bool last] w (StepPost (stepV p x last) w) :=
  step_walk _ _ p x last w ⟨_, rfl, hs⟩ hc (by have := ho.len; omega) (by omega) ho.fit hx.2 (by have := ho.ex; omega) (by have := ho.any; omega)
theorem end_at {w : World} {A C B S U : Option Addr} {c cC nb cb ns cs cU n2 : Nat} {p : Pl} {x : Cb} {user : List Py.S} {m : Nat} (hs : Strs w (.slice A p.set.length c) (p.set.map bs)) (hc : CertOf w (.agg (certC (.slice C x.pol.length cC) (.slice B nb cb) (.slice S ns cs) x.req x.inh)) x) (hu : Strs w (.slice U n2 cU) (user.map bs)) (ho : Ok p m) (hm : m ≤ 1000000) (hul : user.length ≤ 1000000) (fu : FitS user) :
    Calls Tryd.prog 18 #[.agg #[.slice A p.set.length c, .int .i64 p.ex, .int .i64 p.any], .agg (certC (.slice C x.pol.length cC) (.slice B nb cb) (.slice S ns cs) x.req x.inh), .slice U n2 cU] w (EndPost (endV p x user) w) :=
  end_walk _ _ _ p x user w ⟨_, rfl, hs⟩ hc hu (by have := ho.len; omega) hul ho.fit fu (by have := ho.ex; omega)
/-- the state's block -/
def StateAt (w : World) (g : Nat) (p : Pl) : Prop := ∃ A c, w.heap[g]? = some (.cells #[.slice A p.set.length c, .int .i64 p.ex, .int .i64 p.any] 25 (0, 0)) ∧ Strs w (.slice A p.set.length c) (p.set.map bs)
set_option maxHeartbeats 8000000 in
set_option maxRecDepth 100000 in
theorem run_walk (v uv : Value) (l : List Cb) (user : List S) (ex inh : Bool) (w : World) (hv : Certs w v l) (hu : Strs w uv (user.map bs)) (hl : l.length ≤ 30) (hpol : ∀ c ∈ l, c.pol.length ≤ 1000 ∧ FitS c.pol) (hul : user.length ≤ 1000000) (fu : FitS user) :
    Calls Tryd.prog 21 #[v, uv, .bool ex, .bool inh] w (EndPost (runV l user ex inh) w) := by
  obtain ⟨VA, vc, rfl⟩ : ∃ A c, v = .slice A l.length c := by
    rcases hv with ⟨rfl, rfl⟩ | ⟨g, cap, cur, rfl, _⟩
    · exact ⟨none, 0, rfl⟩
    · exact ⟨_, _, rfl⟩
  obtain ⟨U, cU, rfl, hcU, hnU⟩ := hu.open_
  have HV := Aside0.mk (And.intro hv (And.intro hu (And.intro hpol fu)))
  clear hv hu hpol fu hcU hnU
  generalize hr : runV l user ex inh = r
  have HR0 := Aside0.mk hr
  clear hr
  obtain ⟨n, hn⟩ : ∃ n, l.length = n := ⟨_, rfl⟩
  rw [hn]
  obtain ⟨n2, hn2⟩ : ∃ n, user.length = n := ⟨_, rfl⟩
  rw [hn2]
  have HN := Aside0.mk (And.intro hn hn2)
  rw [hn] at hl HV
  rw [hn2] at hul HV
  clear hn hn2
  go_enter Tryd.func21, Tryd.ntmps21
  go_wp2_with
    (go_at_call 11; refine (start_walk n ex inh w).mono ?_; rintro e w1 ⟨v0, rfl, hp, hb⟩
     obtain ⟨sv, rfl, hs⟩ := hp
     obtain ⟨A0, c0, rfl, _, _⟩ := hs.open_
     have HS0 := Aside0.mk (And.intro hs hb)
     clear hs hb)
  have hb2 : Below w.heap.size w (w1.alloc (.cells #[.slice A0 (startV n ex inh).set.length c0, .int .i64 (startV n ex inh).ex, .int .i64 (startV n ex inh).any] 25)) := below_alloc HS0.out.2 _
  have hst0 : StateAt (w1.alloc (.cells #[.slice A0 (startV n ex inh).set.length c0, .int .i64 (startV n ex inh).ex, .int .i64 (startV n ex inh).any] 25)) w1.heap.size (startV n ex inh) := ⟨A0, c0, blk_new w1 _, HS0.out.1.below (below_alloc (Below.refl _ _) _)⟩
  have hr0 : runFrom user (startV n ex inh) (l.drop 0) = r := by rw [← HR0.out, ← HN.out.1]; rfl
  have hG : w.heap.size ≤ w1.heap.size := HS0.out.2.size
  have hok0 := Ok.start n ex inh
  have HI := Aside0.mk (And.intro hst0 (And.intro hr0 (And.intro hok0 hb2)))
  have HGG := Aside0.mk hG
  clear hst0 hr0 hG hok0 hb2 HS0
  generalize w1.alloc (.cells #[.slice A0 (startV n ex inh).set.length c0, .int .i64 (startV n ex inh).ex, .int .i64 (startV n ex inh).any] 25) = w2 at HI ⊢
  generalize w1.heap.size = g10 at HI HGG ⊢
  go_loopw [23] (fun i wr => ∃ (k : Nat) (p : Pl), k ≤ n ∧ i = .int .i64 k ∧ Aside0 (StateAt wr g10 p) ∧ Aside0 (runFrom user p (l.drop k) = r) ∧ Aside0 (Ok p (1 + 1000 * k)) ∧ Aside0 (Below w.heap.size w wr)) (fun i _ => n - (intOf i).toNat)
  case atStart => exact ⟨0, startV n ex inh, Nat.zero_le _, rfl, ⟨HI.out.1⟩, ⟨HI.out.2.1⟩, ⟨HI.out.2.2.1⟩, ⟨HI.out.2.2.2⟩⟩
  case round =>
    obtain ⟨k, p, hk, rfl, HST, HR, HO, HW⟩ := hrel
    clear HI
    by_cases hlt : k < n
    · have hltl : k < l.length := by rw [HN.out.1]; exact hlt
      have hcv := HV.out.1.below HW.out
      rcases hcv with ⟨rfl, _⟩ | ⟨g, cap, cur, e, hcap, hgb, hcs⟩
      · simp at hltl
      · obtain ⟨cs, hcs1, hcs2, hcs3⟩ := hcs k l[k] (List.getElem?_eq_getElem hltl)
        obtain ⟨C, cC, B, nb, cb, S, ns, csn, hagg⟩ := hcs3.open_
        injection hagg with hagg
        injection e with e1 e2 e3
        subst e1 hagg
        have p1 : ((k : Int) < (n : Int)) = True := by simpa using hlt
        have p2 : (0 ≤ (k : Int)) = True := by simp
        have HC := Aside0.mk hcs3
        have HCS := Aside0.mk (And.intro hgb hcs2)
        clear hcs hcs1 hcs2 hcs3 hgb e2 e3 hcap
        obtain ⟨A, c, hblk, hstr⟩ := HST.out
        have HB10 := Aside0.mk (And.intro hblk hstr)
        have HX0 := Aside0.mk (HV.out.2.2.1 l[k] (List.getElem_mem hltl))
        have hrl := HR.out
        clear hblk hstr HST HR
        by_cases hlast : k + 1 = n
        · rw [runFrom_last (by rw [HN.out.1]; exact hlast) hltl] at hrl
          have hlb : ((k : Int) == (n : Int) - 1) = true := by rw [beq_iff_eq]; omega
          have hn0 : 0 < n := by omega
          generalize l[k] = x at *
          clear hltl
          rcases hsv : stepV p x true with _ | q
          · rw [hsv] at hrl
            have HRL := Aside0.mk hrl
            have HSV := Aside0.mk hsv
            clear hrl hsv hlast
            go_wp2_with (first
              | ((with_reducible refine gate_dst (N := 27) rfl ?_); refine law_load_at rfl 48 _ rfl g (k * 31) rfl HCS.out.1 HCS.out.2 _ Tryd.underlying48 rfl (by kernel_rfl) ?_)
              | ((with_reducible refine gate_dst (N := 12) rfl ?_); refine law_new ?hg (N := 12) ?hd (ob := .cells (certC nilS nilS nilS 0 0) 48 (0, 0)) (V := fun g => .pointer (some ⟨g, 0, none⟩)) ?hr ?_; (case hd => rfl); (case hg => rfl); (case hr => first | (go_simp; done) | (go_simp; rfl))
                 intro g12 hg12 w12 b12 hb12
                 have B12 := Aside0.mk b12
                 have HX12 := Aside0.mk hb12
                 have HGE := Aside0.mk (show wr.heap.size ≤ g12 from Nat.le_of_eq hg12.symm)
                 clear b12 hb12 hg12)
              | (refine law_store rfl 48 (.tmp 12) (.tmp 27) rfl g12 (certC (.slice C x.pol.length cC) (.slice B nb cb) (.slice S ns csn) x.req x.inh) rfl rfl B12.out rfl (by kernel_rfl) (certC_one _ _ _ _ _ _ _ _ _ _ _) ?_
                 intro w13 b13 hg13 hs13
                 have HX := Aside0.mk (HX12.out.grown hg13 HX12.out.size (fun j hj => by cases hj; exact HGE.out))
                 have B13 := Aside0.mk b13
                 clear b13 hg13 hs13 B12 HX12)
              | ((with_reducible refine gate_dst (N := 34) rfl ?_); refine law_load rfl 25 _ rfl g10 rfl (blk_below HB10.out.1 HX.out) _ Tryd.underlying25 rfl (by kernel_rfl) ?_)
              | ((with_reducible refine gate_dst (N := 35) rfl ?_); refine law_load rfl 48 _ rfl g12 rfl B13.out _ Tryd.underlying48 rfl (by kernel_rfl) ?_)
              | (go_at_call 15; refine (step_at (last := true) (HB10.out.2.below HX.out) (HC.out.below HX.out) HO.out (by omega) HX0.out).mono ?_; rintro e w14 hpost; rw [HSV.out] at hpost; obtain ⟨rfl, hb14⟩ := hpost; have HX2 := Aside0.mk (below_step HX.out hb14); clear hb14))
            have hrn : r = none := by rw [← HRL.out]; rfl
            subst hrn
            go_ret2
            exact ⟨rfl, below_alloc (below_step HW.out HX2.out) _⟩
          · rw [hsv] at hrl
            have HRL := Aside0.mk hrl
            have HSV := Aside0.mk hsv
            clear hrl hsv hlast
            rcases hev : endV q x user with _ | lf
            · have HEV := Aside0.mk hev
              clear hev
              go_wp2_with (first
                | ((with_reducible refine gate_dst (N := 27) rfl ?_); refine law_load_at rfl 48 _ rfl g (k * 31) rfl HCS.out.1 HCS.out.2 _ Tryd.underlying48 rfl (by kernel_rfl) ?_)
                | ((with_reducible refine gate_dst (N := 12) rfl ?_); refine law_new ?hg (N := 12) ?hd (ob := .cells (certC nilS nilS nilS 0 0) 48 (0, 0)) (V := fun g => .pointer (some ⟨g, 0, none⟩)) ?hr ?_; (case hd => rfl); (case hg => rfl); (case hr => first | (go_simp; done) | (go_simp; rfl))
                   intro g12 hg12 w12 b12 hb12
                   have B12 := Aside0.mk b12
                   have HX12 := Aside0.mk hb12
                   have HGE := Aside0.mk (show wr.heap.size ≤ g12 from Nat.le_of_eq hg12.symm)
                   clear b12 hb12 hg12)
                | (refine law_store rfl 48 (.tmp 12) (.tmp 27) rfl g12 (certC (.slice C x.pol.length cC) (.slice B nb cb) (.slice S ns csn) x.req x.inh) rfl rfl B12.out rfl (by kernel_rfl) (certC_one _ _ _ _ _ _ _ _ _ _ _) ?_
                   intro w13 b13 hg13 hs13
                   have HX := Aside0.mk (HX12.out.grown hg13 HX12.out.size (fun j hj => by cases hj; exact HGE.out))
                   have B13 := Aside0.mk b13
                   clear b13 hg13 hs13 B12 HX12)
                | ((with_reducible refine gate_dst (N := 34) rfl ?_); refine law_load rfl 25 _ rfl g10 rfl (blk_below HB10.out.1 HX.out) _ Tryd.underlying25 rfl (by kernel_rfl) ?_)
                | ((with_reducible refine gate_dst (N := 35) rfl ?_); refine law_load rfl 48 _ rfl g12 rfl B13.out _ Tryd.underlying48 rfl (by kernel_rfl) ?_)
                | (go_at_call 15; refine (step_at (last := true) (HB10.out.2.below HX.out) (HC.out.below HX.out) HO.out (by omega) HX0.out).mono ?_; rintro e w14 hpost; rw [HSV.out] at hpost; obtain ⟨⟨v14, rfl, sv14, rfl, hs14⟩, hb14⟩ := hpost
                   obtain ⟨A2, c2, rfl, _, _⟩ := hs14.open_
                   have HX2 := Aside0.mk (And.intro (below_step HX.out hb14) (And.intro hs14 (blk_below B13.out hb14)))
                   clear hb14 hs14)
                | ((with_reducible refine gate_dst (N := 44) rfl ?_); refine law_load rfl 48 _ rfl g12 rfl (blk_alloc HX2.out.2.2 _) _ Tryd.underlying48 rfl (by kernel_rfl) ?_)
                | (go_at_call 18; refine (end_at (HX2.out.2.1.below (below_alloc (Below.refl _ _) _)) (HC.out.below (below_alloc HX2.out.1 _)) (HV.out.2.1.below (below_alloc (below_step HW.out HX2.out.1) _)) (HO.out.step HX0.out.2 HSV.out) (by have := HX0.out.1; omega) (by rw [HN.out.2]; exact hul) HV.out.2.2.2).mono ?_; rintro e w16 hpost; rw [HEV.out] at hpost; obtain ⟨rfl, hb16⟩ := hpost; have HE1 := Aside0.mk (And.intro trivial (below_step (below_alloc (below_step HW.out HX2.out.1) _) hb16)); clear hb16))
              have hrn : r = none := by rw [← HRL.out]; exact HEV.out
              subst hrn
              go_ret2
              exact ⟨rfl, HE1.out.2⟩
            · have HEV := Aside0.mk hev
              clear hev
              go_wp2_with (first
                | ((with_reducible refine gate_dst (N := 27) rfl ?_); refine law_load_at rfl 48 _ rfl g (k * 31) rfl HCS.out.1 HCS.out.2 _ Tryd.underlying48 rfl (by kernel_rfl) ?_)
                | ((with_reducible refine gate_dst (N := 12) rfl ?_); refine law_new ?hg (N := 12) ?hd (ob := .cells (certC nilS nilS nilS 0 0) 48 (0, 0)) (V := fun g => .pointer (some ⟨g, 0, none⟩)) ?hr ?_; (case hd => rfl); (case hg => rfl); (case hr => first | (go_simp; done) | (go_simp; rfl))
                   intro g12 hg12 w12 b12 hb12
                   have B12 := Aside0.mk b12
                   have HX12 := Aside0.mk hb12
                   have HGE := Aside0.mk (show wr.heap.size ≤ g12 from Nat.le_of_eq hg12.symm)
                   clear b12 hb12 hg12)
                | (refine law_store rfl 48 (.tmp 12) (.tmp 27) rfl g12 (certC (.slice C x.pol.length cC) (.slice B nb cb) (.slice S ns csn) x.req x.inh) rfl rfl B12.out rfl (by kernel_rfl) (certC_one _ _ _ _ _ _ _ _ _ _ _) ?_
                   intro w13 b13 hg13 hs13
                   have HX := Aside0.mk (HX12.out.grown hg13 HX12.out.size (fun j hj => by cases hj; exact HGE.out))
                   have B13 := Aside0.mk b13
                   clear b13 hg13 hs13 B12 HX12)
                | ((with_reducible refine gate_dst (N := 34) rfl ?_); refine law_load rfl 25 _ rfl g10 rfl (blk_below HB10.out.1 HX.out) _ Tryd.underlying25 rfl (by kernel_rfl) ?_)
                | ((with_reducible refine gate_dst (N := 35) rfl ?_); refine law_load rfl 48 _ rfl g12 rfl B13.out _ Tryd.underlying48 rfl (by kernel_rfl) ?_)
                | (go_at_call 15; refine (step_at (last := true) (HB10.out.2.below HX.out) (HC.out.below HX.out) HO.out (by omega) HX0.out).mono ?_; rintro e w14 hpost; rw [HSV.out] at hpost; obtain ⟨⟨v14, rfl, sv14, rfl, hs14⟩, hb14⟩ := hpost
                   obtain ⟨A2, c2, rfl, _, _⟩ := hs14.open_
                   have HX2 := Aside0.mk (And.intro (below_step HX.out hb14) (And.intro hs14 (blk_below B13.out hb14)))
                   clear hb14 hs14)
                | ((with_reducible refine gate_dst (N := 44) rfl ?_); refine law_load rfl 48 _ rfl g12 rfl (blk_alloc HX2.out.2.2 _) _ Tryd.underlying48 rfl (by kernel_rfl) ?_)
                | (go_at_call 18; refine (end_at (HX2.out.2.1.below (below_alloc (Below.refl _ _) _)) (HC.out.below (below_alloc HX2.out.1 _)) (HV.out.2.1.below (below_alloc (below_step HW.out HX2.out.1) _)) (HO.out.step HX0.out.2 HSV.out) (by have := HX0.out.1; omega) (by rw [HN.out.2]; exact hul) HV.out.2.2.2).mono ?_; rintro e w16 hpost; rw [HEV.out] at hpost; obtain ⟨⟨v16, rfl, hs16⟩, hb16⟩ := hpost; have HE1 := Aside0.mk (And.intro hs16 (below_step (below_alloc (below_step HW.out HX2.out.1) _) hb16)); clear hb16 hs16))
              have hrn : r = some lf := by rw [← HRL.out]; exact HEV.out
              subst hrn
              go_ret2
              exact ⟨⟨_, rfl, HE1.out.1⟩, HE1.out.2⟩
        · rw [runFrom_more (by rw [HN.out.1]; exact hlast) hltl] at hrl
          have hlb : ((k : Int) == (n : Int) - 1) = false := by rw [beq_eq_false_iff_ne]; omega
          have hn0 : 0 < n := by omega
          generalize l[k] = x at *
          clear hltl
          rcases hsv : stepV p x false with _ | q
          · rw [hsv] at hrl
            have HRL := Aside0.mk hrl
            have HSV := Aside0.mk hsv
            clear hrl hsv hlast
            go_wp2_with (first
              | ((with_reducible refine gate_dst (N := 27) rfl ?_); refine law_load_at rfl 48 _ rfl g (k * 31) rfl HCS.out.1 HCS.out.2 _ Tryd.underlying48 rfl (by kernel_rfl) ?_)
              | ((with_reducible refine gate_dst (N := 12) rfl ?_); refine law_new ?hg (N := 12) ?hd (ob := .cells (certC nilS nilS nilS 0 0) 48 (0, 0)) (V := fun g => .pointer (some ⟨g, 0, none⟩)) ?hr ?_; (case hd => rfl); (case hg => rfl); (case hr => first | (go_simp; done) | (go_simp; rfl))
                 intro g12 hg12 w12 b12 hb12
                 have B12 := Aside0.mk b12
                 have HX12 := Aside0.mk hb12
                 have HGE := Aside0.mk (show wr.heap.size ≤ g12 from Nat.le_of_eq hg12.symm)
                 clear b12 hb12 hg12)
              | (refine law_store rfl 48 (.tmp 12) (.tmp 27) rfl g12 (certC (.slice C x.pol.length cC) (.slice B nb cb) (.slice S ns csn) x.req x.inh) rfl rfl B12.out rfl (by kernel_rfl) (certC_one _ _ _ _ _ _ _ _ _ _ _) ?_
                 intro w13 b13 hg13 hs13
                 have HX := Aside0.mk (HX12.out.grown hg13 HX12.out.size (fun j hj => by cases hj; exact HGE.out))
                 have B13 := Aside0.mk b13
                 clear b13 hg13 hs13 B12 HX12)
              | ((with_reducible refine gate_dst (N := 34) rfl ?_); refine law_load rfl 25 _ rfl g10 rfl (blk_below HB10.out.1 HX.out) _ Tryd.underlying25 rfl (by kernel_rfl) ?_)
              | ((with_reducible refine gate_dst (N := 35) rfl ?_); refine law_load rfl 48 _ rfl g12 rfl B13.out _ Tryd.underlying48 rfl (by kernel_rfl) ?_)
              | (go_at_call 15; refine (step_at (last := false) (HB10.out.2.below HX.out) (HC.out.below HX.out) HO.out (by omega) HX0.out).mono ?_; rintro e w14 hpost; rw [HSV.out] at hpost; obtain ⟨rfl, hb14⟩ := hpost; have HX2 := Aside0.mk (below_step HX.out hb14); clear hb14))
            have hrn : r = none := by rw [← HRL.out]; rfl
            subst hrn
            go_ret2
            exact ⟨rfl, below_alloc (below_step HW.out HX2.out) _⟩
          · rw [hsv] at hrl
            have HRL := Aside0.mk hrl
            have HSV := Aside0.mk hsv
            clear hrl hsv hlast
            go_wp2_with (first
              | ((with_reducible refine gate_dst (N := 27) rfl ?_); refine law_load_at rfl 48 _ rfl g (k * 31) rfl HCS.out.1 HCS.out.2 _ Tryd.underlying48 rfl (by kernel_rfl) ?_)
              | ((with_reducible refine gate_dst (N := 12) rfl ?_); refine law_new ?hg (N := 12) ?hd (ob := .cells (certC nilS nilS nilS 0 0) 48 (0, 0)) (V := fun g => .pointer (some ⟨g, 0, none⟩)) ?hr ?_; (case hd => rfl); (case hg => rfl); (case hr => first | (go_simp; done) | (go_simp; rfl))
                 intro g12 hg12 w12 b12 hb12
                 have B12 := Aside0.mk b12
                 have HX12 := Aside0.mk hb12
                 have HGE := Aside0.mk (show wr.heap.size ≤ g12 from Nat.le_of_eq hg12.symm)
                 clear b12 hb12 hg12)
              | (refine law_store rfl 48 (.tmp 12) (.tmp 27) rfl g12 (certC (.slice C x.pol.length cC) (.slice B nb cb) (.slice S ns csn) x.req x.inh) rfl rfl B12.out rfl (by kernel_rfl) (certC_one _ _ _ _ _ _ _ _ _ _ _) ?_
                 intro w13 b13 hg13 hs13
                 have HX := Aside0.mk (HX12.out.grown hg13 HX12.out.size (fun j hj => by cases hj; exact HGE.out))
                 have B13 := Aside0.mk b13
                 clear b13 hg13 hs13 B12 HX12)
              | ((with_reducible refine gate_dst (N := 34) rfl ?_); refine law_load rfl 25 _ rfl g10 rfl (blk_below HB10.out.1 HX.out) _ Tryd.underlying25 rfl (by kernel_rfl) ?_)
              | ((with_reducible refine gate_dst (N := 35) rfl ?_); refine law_load rfl 48 _ rfl g12 rfl B13.out _ Tryd.underlying48 rfl (by kernel_rfl) ?_)
              | (go_at_call 15; refine (step_at (last := false) (HB10.out.2.below HX.out) (HC.out.below HX.out) HO.out (by omega) HX0.out).mono ?_; rintro e w14 hpost; rw [HSV.out] at hpost; obtain ⟨⟨v14, rfl, sv14, rfl, hs14⟩, hb14⟩ := hpost
                 obtain ⟨A2, c2, rfl, _, _⟩ := hs14.open_
                 have HX2 := Aside0.mk (And.intro (below_step HX.out hb14) (And.intro hs14 (blk_below B13.out hb14)))
                 clear hb14 hs14)
              | (refine law_store rfl 25 (.tmp 10) (.tmp 49) rfl g10 #[.slice A2 q.set.length c2, .int .i64 q.ex, .int .i64 q.any] rfl rfl (blk_alloc (blk_below HB10.out.1 HX2.out.1) _) rfl (by kernel_rfl) (strs_one_cell HX2.out.2.1) ?_
                 intro w15 b15 hg15 hs15
                 have HE1 := Aside0.mk (And.intro b15 (And.intro (strs_grown (HX2.out.2.1.below (below_alloc (Below.refl _ _) _)) hg15 (blk_alloc (blk_below HB10.out.1 HX2.out.1) _)) ((below_alloc (below_step HW.out HX2.out.1) _).grown hg15 (below_alloc (below_step HW.out HX2.out.1) _).size (fun j hj => by cases hj; exact HGG.out))))
                 clear b15 hg15 hs15))
            have HOK := Aside0.mk (HO.out.step HX0.out.2 HSV.out)
            go_roundw
            case rel => exact ⟨k + 1, q, by omega, by go_num, ⟨⟨A2, c2, HE1.out.1, HE1.out.2.1⟩⟩, ⟨HRL.out⟩, ⟨HOK.out.weaken (by have := HX0.out.1; omega)⟩, ⟨HE1.out.2.2⟩⟩
            case measure => simp [intOf]; omega
    · have e : k = n := by omega
      subst e
      have hr1 : r = none := by rw [← HR.out, ← HN.out.1, List.drop_length]; rfl
      subst hr1
      go_wp2
      go_ret2
      exact ⟨rfl, HW.out⟩
end Go.Proofs.YtgeoibgohlpfjaaDoor.Py
