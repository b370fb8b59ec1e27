/- The reference's Run, walked (written by refrungen.py). -/
import Derived.Test.YtgeoibgohlpfjaaDoorPyRefStep
set_option linter.unusedVariables false
set_option linter.unusedSimpArgs false
namespace Go.Proofs.YtgeoibgohlpfjaaDoor.Py
open Go Go.RowKit Go.Maps Go.Proofs.YtgeoibgohlpfjaaDoorW.PrintWords Go.Proofs.YtgeoibgohlpfjaaDoorW.PrintLast Go.Proofs.YtgeoibgohlpfjaaDoorW.PrintMore
/-- what is left of a run ahead of certificate k -/
structure RunRest (l : List Cb) (user : List S) (r : Option (List S)) (k : Nat) (p : Pl) : Prop where
  more : k < l.length → runFrom user p (l.drop k) = r
  done : k = l.length → ∀ x, l[l.length - 1]? = some x → endV p x user = r
  nil : l = [] → r = none
theorem RunRest.start {l : List Cb} {user : List S} {ex inh : Bool} : RunRest l user (runV l user ex inh) 0 (startV l.length ex inh) where
  more := fun _ => rfl
  done := fun h x hx => by
    have : l.length - 1 < l.length := (List.getElem?_eq_some_iff.1 hx).1
    omega
  nil := fun h => by subst h; rfl
theorem RunRest.none_ {l : List Cb} {user : List S} {r : Option (List S)} {k : Nat} {p : Pl} (h : RunRest l user r k p) (hlt : k < l.length) {last : Bool} (hl : last = decide (k + 1 = l.length)) (hs : stepV p l[k] last = none) : r = none := by
  rw [← h.more hlt]
  by_cases he : k + 1 = l.length
  · rw [hl, decide_eq_true he] at hs
    rw [runFrom_last he hlt, hs]
    rfl
  · rw [hl, decide_eq_false he] at hs
    rw [runFrom_more he hlt, hs]
    rfl
theorem RunRest.some_ {l : List Cb} {user : List S} {r : Option (List S)} {k : Nat} {p q : Pl} (h : RunRest l user r k p) (hlt : k < l.length) {last : Bool} (hl : last = decide (k + 1 = l.length)) (hs : stepV p l[k] last = some q) : RunRest l user r (k + 1) q where
  more := fun h1 => by
    have he : k + 1 ≠ l.length := by omega
    rw [hl, decide_eq_false he] at hs
    rw [← h.more hlt, runFrom_more he hlt, hs]
    rfl
  done := fun he x hx => by
    rw [hl, decide_eq_true he] at hs
    rw [← h.more hlt, runFrom_last he hlt, hs]
    have hx2 : l[k]? = some x := by
      have : k = l.length - 1 := by omega
      rw [this]
      exact hx
    rw [List.getElem?_eq_getElem hlt] at hx2
    cases hx2
    rfl
  nil := h.nil
theorem EndPost.vals2 {r : Option (List S)} {w : World} {e : Ending} {w' : World} (h : EndPost r w e w') : ∃ A n c, e = .returned (.tuple #[.slice A n c, .bool r.isSome]) ∧ (r = none → Value.slice A n c = nilS) ∧ Strs w' (.slice A n c) ((r.getD []).map bs) ∧ Below w.heap.size w w' := by
  obtain ⟨h, hb⟩ := h
  cases r with
  | none => exact ⟨none, 0, 0, h, fun _ => rfl, Strs.nil _, hb⟩
  | some l =>
    obtain ⟨v, he, hs⟩ := h
    obtain ⟨A, c, rfl, _, _⟩ := hs.open_
    exact ⟨A, _, c, he, (fun h => by cases h), hs, hb⟩
theorem EndPost.of_vals {r : Option (List S)} {w w' : World} {A : Option Addr} {n c : Nat} (h0 : r = none → Value.slice A n c = nilS) (hs : Strs w' (.slice A n c) ((r.getD []).map bs)) (hb : Below w.heap.size w w') : EndPost r w (.returned (.tuple #[.slice A n c, .bool r.isSome])) w' := by
  cases r with
  | none => exact ⟨by rw [h0 rfl]; rfl, hb⟩
  | some l => exact ⟨⟨_, rfl, hs⟩, hb⟩
def noneP : Pl := ⟨[], 0, 0⟩
theorem StepPost.vals3 {r : Option Pl} {w : World} {e : Ending} {w' : World} (h : StepPost r w e w') : ∃ A n c, e = .returned (.tuple #[.agg #[.slice A n c, .int .i64 (r.getD noneP).ex, .int .i64 (r.getD noneP).any], .bool r.isSome]) ∧ Strs w' (.slice A n c) ((r.getD noneP).set.map bs) ∧ Below w.heap.size w w' := by
  obtain ⟨h, hb⟩ := h
  cases r with
  | none => exact ⟨none, 0, 0, h, Strs.nil _, hb⟩
  | some q =>
    obtain ⟨v, he, sv, rfl, hs⟩ := h
    obtain ⟨A, c, rfl, _, _⟩ := hs.open_
    exact ⟨A, _, c, he, hs, hb⟩
theorem stepR_at {w : World} {A C B S : Option Addr} {c cC nb cb ns cs : Nat} {p : Pl} {x : Cb} {last : Bool} {m : Nat} (hs : Strs w (.slice A p.set.length c) (p.set.map bs)) (hc : CertOf w (.agg (certC (.slice C x.pol.length cC) (.slice B nb cb) (.slice S ns cs) x.req x.inh)) x) (ho : Ok p m) (hm : m ≤ 200000) (hx : x.pol.length ≤ 1000 ∧ FitS x.pol) :
    Calls Tryd.prog 17 #[.agg #[.slice A p.set.length c, .int .i64 p.ex, .int .i64 p.any], .agg (certC (.slice C x.pol.length cC) (.slice B nb cb) (.slice S ns cs) x.req x.inh), .bool last] w (StepPost (stepV p x last) w) :=
  stepR_walk _ _ p x last w ⟨_, rfl, hs⟩ hc (by have := ho.len; omega) (by omega) (by have := ho.ex; omega) (by have := ho.any; omega)
theorem range_at {w : World} {g k : Nat} {cur cs : Array Value} {e : TypeId} {fr : Nat × Nat} (hb : w.heap[g]? = some (.cells cur e fr)) (hcs : ∀ (j : Nat) u, cs.toList[j]? = some u → cur[k + j]? = some u) : w.rangeAt g k cs.toList := fun j v hv => by
  rw [cell_of_row w g (k + j) cur e fr hb]
  exact hcs j v hv
theorem range_blk0 {w : World} {g : Nat} {cs : Array Value} {t : TypeId} {fr : Nat × Nat} (h : w.heap[g]? = some (.cells cs t fr)) : w.rangeAt g 0 cs.toList := fun j v hv => by
  rw [Nat.zero_add, cell_of_row w g j cs t fr h]
  simpa using hv
set_option maxHeartbeats 16000000 in
set_option maxRecDepth 100000 in
theorem runR_walk (v uv : Value) (l : List Cb) (user : List S) (ex inh : Bool) (w : World) (hv : Certs w v l) (hu : Strs w uv (user.map bs)) (hl : l.length ≤ 30) (hpol : ∀ c ∈ l, c.pol.length ≤ 1000 ∧ FitS c.pol) (hul : user.length ≤ 400000) :
    Calls Tryd.prog 23 #[v, uv, .bool ex, .bool inh] w (EndPost (runV l user ex inh) w) := by
  obtain ⟨VA, vc, rfl⟩ : ∃ A c, v = .slice A l.length c := by
    rcases hv with ⟨rfl, rfl⟩ | ⟨g, cap, cur, rfl, _⟩
    · exact ⟨none, 0, rfl⟩
    · exact ⟨_, _, rfl⟩
  obtain ⟨U, cU, rfl, hcU, hnU⟩ := hu.open_
  have HV := Aside0.mk (And.intro hv (And.intro hu hpol))
  clear hv hu hpol hcU hnU
  have hrr : RunRest l user (runV l user ex inh) 0 (startV l.length ex inh) := RunRest.start
  generalize runV l user ex inh = r at hrr ⊢
  obtain ⟨n, hn⟩ : ∃ n, l.length = n := ⟨_, rfl⟩
  rw [hn]
  obtain ⟨n2, hn2⟩ : ∃ n, user.length = n := ⟨_, rfl⟩
  rw [hn2]
  have HN := Aside0.mk (And.intro hn hn2)
  rw [hn] at hl HV hrr
  rw [hn2] at hul HV
  have HR0 := Aside0.mk hrr
  clear hn hn2 hrr
  go_enter Tryd.func23, Tryd.ntmps23
  go_wp2_with (first
    | (go_at_call 12; refine (startR_walk n ex inh w).mono ?_; rintro e w1 ⟨v0, rfl, hp, hb⟩
       obtain ⟨sv, rfl, hs⟩ := hp
       obtain ⟨A0, c0, rfl, _, _⟩ := hs.open_
       have HS0 := Aside0.mk (And.intro hs hb)
       clear hs hb))
  have hb2 : Below w.heap.size w (w1.alloc (.cells #[.slice A0 (startV n ex inh).set.length c0, .int .i64 (startV n ex inh).ex, .int .i64 (startV n ex inh).any] 25)) := below_alloc HS0.out.2 _
  have hst0 : StateAt (w1.alloc (.cells #[.slice A0 (startV n ex inh).set.length c0, .int .i64 (startV n ex inh).ex, .int .i64 (startV n ex inh).any] 25)) w1.heap.size (startV n ex inh) := ⟨A0, c0, blk_new w1 _, HS0.out.1.below (below_alloc (Below.refl _ _) _)⟩
  have hG : w.heap.size ≤ w1.heap.size := HS0.out.2.size
  have hok0 := Ok.start n ex inh
  have HI := Aside0.mk (And.intro hst0 (And.intro hok0 hb2))
  have HGG := Aside0.mk hG
  clear hst0 hG hok0 hb2 HS0
  generalize w1.alloc (.cells #[.slice A0 (startV n ex inh).set.length c0, .int .i64 (startV n ex inh).ex, .int .i64 (startV n ex inh).any] 25) = w2 at HI ⊢
  generalize w1.heap.size = g10 at HI HGG ⊢
  go_loopw [11] (fun i wr => ∃ (k : Nat) (p : Pl), k ≤ n ∧ i = .int .i64 k ∧ Aside0 (StateAt wr g10 p) ∧ Aside0 (RunRest l user r k p) ∧ Aside0 (Ok p (1 + 1000 * k)) ∧ Aside0 (Below w.heap.size w wr)) (fun i _ => n - (intOf i).toNat)
  case atStart => exact ⟨0, startV n ex inh, Nat.zero_le _, rfl, ⟨HI.out.1⟩, ⟨HR0.out⟩, ⟨HI.out.2.1⟩, ⟨HI.out.2.2⟩⟩
  case round =>
    obtain ⟨k, p, hk, rfl, HST, HR, HO, HW⟩ := hrel
    clear HI HR0
    obtain ⟨A, c, hblk, hstr⟩ := HST.out
    have B10 := Aside0.mk hblk
    have HS := Aside0.mk hstr
    clear hblk hstr HST
    by_cases hlt : k < n
    · have hltl : k < l.length := by rw [HN.out.1]; exact hlt
      have hcv := HV.out.1.below HW.out
      rcases hcv with ⟨rfl, _⟩ | ⟨g, cap, cur, e, hcap, hgb, hcs⟩
      · simp at hltl
      obtain ⟨cs, hcs1, hcs2, hcs3⟩ := hcs k l[k] (List.getElem?_eq_getElem hltl)
      obtain ⟨C, cC, B, nb, cb, S, ns, csn, hagg⟩ := hcs3.open_
      injection hagg with hagg
      injection e with e1 e2 e3
      subst e1 hagg
      have p1 : ((k : Int) < (n : Int)) = True := by simpa using hlt
      have p2 : (0 ≤ (k : Int)) = True := by simp
      have HC := Aside0.mk hcs3
      have HCS := Aside0.mk (And.intro hgb hcs2)
      clear hcs hcs1 hcs2 hcs3 hgb e2 e3 hcap
      have HX0 := Aside0.mk (HV.out.2.2 l[k] (List.getElem_mem hltl))
      obtain ⟨last, hla⟩ : ∃ b : Bool, b = decide (k + 1 = l.length) := ⟨_, rfl⟩
      have hlb : ((k : Int) == (n : Int) - 1) = last := by
        rw [hla, HN.out.1]
        by_cases he : k + 1 = n
        · rw [decide_eq_true he, beq_iff_eq]; omega
        · rw [decide_eq_false he, beq_eq_false_iff_ne]; omega
      have hn0 : 0 < n := by omega
      have hlw : ((k : Int) == wrap64 ((n : Int) - 1)) = last := by
        rw [show wrap64 ((n : Int) - 1) = (n : Int) - 1 by unfold wrap64; omega]
        exact hlb
      have HNX := Aside0.mk (And.intro (HR.out.none_ hltl hla) (fun (q : Pl) hq => HR.out.some_ (q := q) hltl hla hq))
      clear hla HR
      generalize l[k] = x at *
      clear hltl
      generalize hsv : stepV p x last = sv at HNX
      have HSV := Aside0.mk hsv
      clear hsv
      go_upto_region 5 with fail
      have n0_ := Aside0.mk (blk_drew B10.out)
      have n1_ := Aside0.mk (Strs.below HS.out (below_drew1 (Below.refl _ _)))
      have n2_ := Aside0.mk (below_drew1 HW.out)
      have n3_ := Aside0.mk (CertOf.below HC.out (below_drew1 (Below.refl _ _)))
      have n4_ := Aside0.mk (And.intro (blk_drew HCS.out.1) HCS.out.2)
      clear B10 HS HW HC HCS
      have B10 := n0_
      have HS := n1_
      have HW := n2_
      have HC := n3_
      have HCS := n4_
      clear n0_ n1_ n2_ n3_ n4_
      refine start_ (n := 17) (S := fun w' => w'.rangeAt g10 0 [.slice A p.set.length c, .int .i64 p.ex, .int .i64 p.any] ∧ w'.rangeAt g (k * 31) (certC (.slice C x.pol.length cC) (.slice B nb cb) (.slice S ns csn) x.req x.inh).toList) (ds := []) #[false, false, false, false, false, false, false, false, false, false, false, false, false, false, false, false, false] (by kernel_rfl) rfl rfl ⟨range_blk0 B10.out, range_at HCS.out.1 HCS.out.2⟩ (fun hHeld => ?_)
      generalize wr.drew = w20 at B10 HS HW HC HCS hHeld ⊢
      refine take_ (i := 0) (N := some 26) (v := .agg #[.slice A p.set.length c, .int .i64 p.ex, .int .i64 p.any]) (a' := ?_) #[true, false, false, false, false, false, false, false, false, false, false, false, false, false, false, false, false] rfl rfl (by kernel_rfl) (fun _ _ _ h => h) (yieldsIf_load_mid (by rfl) 25 (.tmp 10) rfl g10 0 rfl [.slice A p.set.length c, .int .i64 p.ex, .int .i64 p.any] _ (fun _ h => h.1) Tryd.underlying25 rfl (by kernel_rfl)) hHeld ?_ ?_
      rotate_left
      · simp only [Act.put, List.setIfInBounds_toArray, List.set_cons_zero, List.set_cons_succ, i64_w, i32_w]
        rfl
      refine pure_ (i := 1) (N := some 27) (v := ?_) (a' := ?_) #[true, true, false, false, false, false, false, false, false, false, false, false, false, false, false, false, false] rfl rfl (by kernel_rfl) (fun _ _ _ h => h) (Or.inl ⟨by rfl, ?_⟩) ?_ ?_
      rotate_left
      · intro w'
        go_simp
        with_reducible rfl
      rotate_left
      · simp only [Act.put, List.setIfInBounds_toArray, List.set_cons_zero, List.set_cons_succ, i64_w, i32_w]
        rfl
      refine pure_ (i := 2) (N := some 28) (v := ?_) (a' := ?_) #[true, true, true, false, false, false, false, false, false, false, false, false, false, false, false, false, false] rfl rfl (by kernel_rfl) (fun _ _ _ h => h) (Or.inl ⟨by rfl, ?_⟩) ?_ ?_
      rotate_left
      · intro w'
        go_simp
        with_reducible rfl
      rotate_left
      · simp only [Act.put, List.setIfInBounds_toArray, List.set_cons_zero, List.set_cons_succ, i64_w, i32_w]
        rfl
      refine pure_ (i := 3) (N := some 29) (v := ?_) (a' := ?_) #[true, true, true, true, false, false, false, false, false, false, false, false, false, false, false, false, false] rfl rfl (by kernel_rfl) (fun _ _ _ h => h) (Or.inl ⟨by rfl, ?_⟩) ?_ ?_
      rotate_left
      · intro w'
        go_simp
        with_reducible rfl
      rotate_left
      · simp only [Act.put, List.setIfInBounds_toArray, List.set_cons_zero, List.set_cons_succ, i64_w, i32_w]
        rfl
      refine take_ (i := 4) (N := some 30) (v := .agg (certC (.slice C x.pol.length cC) (.slice B nb cb) (.slice S ns csn) x.req x.inh)) (a' := ?_) #[true, true, true, true, true, false, false, false, false, false, false, false, false, false, false, false, false] rfl rfl (by kernel_rfl) (fun _ _ _ h => h) (yieldsIf_load_mid (by rfl) 48 (.tmp 29) rfl g (k * 31) rfl (certC (.slice C x.pol.length cC) (.slice B nb cb) (.slice S ns csn) x.req x.inh).toList _ (fun _ h => h.2) Tryd.underlying48 rfl (by kernel_rfl)) hHeld ?_ ?_
      rotate_left
      · simp only [Act.put, List.setIfInBounds_toArray, List.set_cons_zero, List.set_cons_succ, i64_w, i32_w]
        rfl
      refine pure_ (i := 5) (N := some 31) (v := ?_) (a' := ?_) #[true, true, true, true, true, true, false, false, false, false, false, false, false, false, false, false, false] rfl rfl (by kernel_rfl) (fun _ _ _ h => h) (Or.inl ⟨by rfl, ?_⟩) ?_ ?_
      rotate_left
      · intro w'
        go_simp
        with_reducible rfl
      rotate_left
      · simp only [Act.put, List.setIfInBounds_toArray, List.set_cons_zero, List.set_cons_succ, i64_w, i32_w]
        rfl
      refine pure_ (i := 6) (N := some 32) (v := ?_) (a' := ?_) #[true, true, true, true, true, true, true, false, false, false, false, false, false, false, false, false, false] rfl rfl (by kernel_rfl) (fun _ _ _ h => h) (Or.inl ⟨by rfl, ?_⟩) ?_ ?_
      rotate_left
      · intro w'
        go_simp
        with_reducible rfl
      rotate_left
      · simp only [Act.put, List.setIfInBounds_toArray, List.set_cons_zero, List.set_cons_succ, i64_w, i32_w]
        rfl
      refine pure_ (i := 7) (N := some 33) (v := ?_) (a' := ?_) #[true, true, true, true, true, true, true, true, false, false, false, false, false, false, false, false, false] rfl rfl (by kernel_rfl) (fun _ _ _ h => h) (Or.inl ⟨by rfl, ?_⟩) ?_ ?_
      rotate_left
      · intro w'
        go_simp
        with_reducible rfl
      rotate_left
      · simp only [Act.put, List.setIfInBounds_toArray, List.set_cons_zero, List.set_cons_succ, i64_w, i32_w]
        rfl
      refine pure_ (i := 8) (N := some 34) (v := ?_) (a' := ?_) #[true, true, true, true, true, true, true, true, true, false, false, false, false, false, false, false, false] rfl rfl (by kernel_rfl) (fun _ _ _ h => h) (Or.inl ⟨by rfl, ?_⟩) ?_ ?_
      rotate_left
      · intro w'
        go_simp
        with_reducible rfl
      rotate_left
      · simp only [Act.put, List.setIfInBounds_toArray, List.set_cons_zero, List.set_cons_succ, i64_w, i32_w]
        rfl
      refine pure_ (i := 9) (N := some 35) (v := ?_) (a' := ?_) #[true, true, true, true, true, true, true, true, true, true, false, false, false, false, false, false, false] rfl rfl (by kernel_rfl) (fun _ _ _ h => h) (Or.inl ⟨by rfl, ?_⟩) ?_ ?_
      rotate_left
      · intro w'
        go_simp
        with_reducible rfl
      rotate_left
      · simp only [Act.put, List.setIfInBounds_toArray, List.set_cons_zero, List.set_cons_succ, i64_w, i32_w]
        rfl
      try rw [hlw]
      refine join_ (σ := Option Addr × Nat × Nat × Nat) 1 #[true, true, true, true, true, true, true, true, true, true, true, true, true, true, true, true, false] (fun s => [(36, .tuple #[.agg #[.slice s.1 s.2.1 s.2.2.1, .int .i64 (sv.getD noneP).ex, .int .i64 (sv.getD noneP).any], .bool sv.isSome]), (25, .tuple #[.agg #[.slice s.1 s.2.1 s.2.2.1, .int .i64 (sv.getD noneP).ex, .int .i64 (sv.getD noneP).any], .bool sv.isSome]), (37, .agg #[.slice s.1 s.2.1 s.2.2.1, .int .i64 (sv.getD noneP).ex, .int .i64 (sv.getD noneP).any]), (38, .bool sv.isSome), (12, .pointer (some ⟨s.2.2.2, 0, none⟩))]) (fun s w' => Strs w' (.slice s.1 s.2.1 s.2.2.1) ((sv.getD noneP).set.map bs) ∧ w'.heap[s.2.2.2]? = some (.cells #[.slice s.1 s.2.1 s.2.2.1, .int .i64 (sv.getD noneP).ex, .int .i64 (sv.getD noneP).any] 25 (0, 0)) ∧ Below w20.heap.size w20 w') ?cont5 ?orders5
      case orders5 =>
        intro hcont
        have hw : Below w20.heap.size w20 w20 := Below.refl _ _
        refine two_ (i := 10) (j := 14) (Ni := some 36) (Nj := some 12) #[true, true, true, true, true, true, true, true, true, true, true, false, false, false, false, false, false] #[true, true, true, true, true, true, true, true, true, true, false, false, false, false, true, false, false] rfl rfl rfl rfl (by kernel_rfl) (by decide) (by decide) (fun K hK => ?_) (fun K hK => ?_)
        · refine goes_ Tryd.func17 (by kernel_rfl) rfl #[.agg #[.slice A p.set.length c, .int .i64 p.ex, .int .i64 p.any], .agg (certC (.slice C x.pol.length cC) (.slice B nb cb) (.slice S ns csn) x.req x.inh), .bool last] (by rfl) rfl rfl (by (try simp only [List.map_toArray, List.map_cons, List.map_nil]); first | done | rfl) ?_
          refine (stepR_at (last := last) (HS.out.below hw) (HC.out.below hw) HO.out (by omega) HX0.out).mono ?_
          rintro e wC hpost
          rw [HSV.out] at hpost
          obtain ⟨A1, m1, c1, rfl, hst, hb⟩ := hpost.vals3
          refine ⟨_, rfl, ?_⟩
          clear hpost
          have hw := below_step hw hb
          clear hb
          refine hK.out _ _ ⟨range_blk0 (blk_below B10.out hw), range_at (blk_below HCS.out.1 hw) HCS.out.2⟩ (fun _ => ?_)
          clear hK K
          refine norm_ (a' := ?_) ?_ ?_
          rotate_left
          · show Act.put _ (some 36) _ = _
            simp only [Act.put, List.setIfInBounds_toArray, List.set_cons_zero, List.set_cons_succ, i64_w, i32_w]
            rfl
          refine pure_ (i := 11) (N := some 25) (v := ?_) (a' := ?_) #[true, true, true, true, true, true, true, true, true, true, true, true, false, false, false, false, false] rfl rfl (by kernel_rfl) (fun _ _ _ h => h) (Or.inl ⟨by rfl, ?_⟩) ?_ ?_
          rotate_left
          · intro w'
            go_simp
            with_reducible rfl
          rotate_left
          · simp only [Act.put, List.setIfInBounds_toArray, List.set_cons_zero, List.set_cons_succ, i64_w, i32_w]
            rfl
          refine pure_ (i := 12) (N := some 37) (v := ?_) (a' := ?_) #[true, true, true, true, true, true, true, true, true, true, true, true, true, false, false, false, false] rfl rfl (by kernel_rfl) (fun _ _ _ h => h) (Or.inl ⟨by rfl, ?_⟩) ?_ ?_
          rotate_left
          · intro w'
            go_simp
            with_reducible rfl
          rotate_left
          · simp only [Act.put, List.setIfInBounds_toArray, List.set_cons_zero, List.set_cons_succ, i64_w, i32_w]
            rfl
          refine pure_ (i := 13) (N := some 38) (v := ?_) (a' := ?_) #[true, true, true, true, true, true, true, true, true, true, true, true, true, true, false, false, false] rfl rfl (by kernel_rfl) (fun _ _ _ h => h) (Or.inl ⟨by rfl, ?_⟩) ?_ ?_
          rotate_left
          · intro w'
            go_simp
            with_reducible rfl
          rotate_left
          · simp only [Act.put, List.setIfInBounds_toArray, List.set_cons_zero, List.set_cons_succ, i64_w, i32_w]
            rfl
          refine one_ (i := 14) (N := some 12) #[true, true, true, true, true, true, true, true, true, true, true, true, true, true, true, false, false] rfl rfl (by kernel_rfl) (by decide) (fun K hK => ?_)
          refine runs_ (v := .pointer (some ⟨wC.heap.size, 0, none⟩)) (w' := wC.alloc (.cells #[nilS, .int .i64 0, .int .i64 0] 25)) (by rfl) rfl (by first | (go_simp; done) | (go_simp; rfl)) ?_
          have hb0 : Below wC.heap.size wC (wC.alloc (.cells #[nilS, .int .i64 0, .int .i64 0] 25)) := below_alloc (Below.refl _ _) _
          have hb5 := blk_new wC (.cells #[nilS, .int .i64 0, .int .i64 0] 25)
          obtain ⟨G, hG⟩ : ∃ g, g = wC.heap.size := ⟨_, rfl⟩
          rw [← hG] at hb5 ⊢
          have hge : w20.heap.size ≤ G := by rw [hG]; exact hw.size
          have hst := hst.below hb0
          have hw := below_step hw hb0
          clear hb0
          generalize wC.alloc (.cells #[nilS, .int .i64 0, .int .i64 0] 25) = wB at *
          refine hK.out _ _ ⟨range_blk0 (blk_below B10.out hw), range_at (blk_below HCS.out.1 hw) HCS.out.2⟩ (fun _ => ?_)
          clear hK K
          refine norm_ (a' := ?_) ?_ ?_
          rotate_left
          · show Act.put _ (some 12) _ = _
            simp only [Act.put, List.setIfInBounds_toArray, List.set_cons_zero, List.set_cons_succ, i64_w, i32_w]
            rfl
          refine one_ (i := 15) (N := none) #[true, true, true, true, true, true, true, true, true, true, true, true, true, true, true, true, false] rfl rfl (by kernel_rfl) (by decide) (fun K hK => ?_)
          refine store_ (by rfl) rfl 25 (.tmp 12) (.tmp 37) rfl G #[.slice A1 m1 c1, .int .i64 (sv.getD noneP).ex, .int .i64 (sv.getD noneP).any] rfl rfl hb5 rfl (by kernel_rfl) (strs_one_cell hst) ?_
          intro w1 hg5 hgr hsz
          have hst := strs_grown hst hgr hb5
          have hw := hw.grown hgr hw.size (fun j hj => by cases hj; exact hge)
          refine hK.out _ _ ⟨range_blk0 (blk_below B10.out hw), range_at (blk_below HCS.out.1 hw) HCS.out.2⟩ (fun _ => ?_)
          exact hcont (A1, m1, c1, G) w1 ⟨hst, hg5, hw⟩
        · refine runs_ (v := .pointer (some ⟨w20.heap.size, 0, none⟩)) (w' := w20.alloc (.cells #[nilS, .int .i64 0, .int .i64 0] 25)) (by rfl) rfl (by first | (go_simp; done) | (go_simp; rfl)) ?_
          have hb0 : Below w20.heap.size w20 (w20.alloc (.cells #[nilS, .int .i64 0, .int .i64 0] 25)) := below_alloc (Below.refl _ _) _
          have hb5 := blk_new w20 (.cells #[nilS, .int .i64 0, .int .i64 0] 25)
          obtain ⟨G, hG⟩ : ∃ g, g = w20.heap.size := ⟨_, rfl⟩
          rw [← hG] at hb5 ⊢
          have hge : w20.heap.size ≤ G := by rw [hG]; exact hw.size
          have hw := below_step hw hb0
          clear hb0
          generalize w20.alloc (.cells #[nilS, .int .i64 0, .int .i64 0] 25) = wB at *
          refine hK.out _ _ ⟨range_blk0 (blk_below B10.out hw), range_at (blk_below HCS.out.1 hw) HCS.out.2⟩ (fun _ => ?_)
          clear hK K
          refine norm_ (a' := ?_) ?_ ?_
          rotate_left
          · show Act.put _ (some 12) _ = _
            simp only [Act.put, List.setIfInBounds_toArray, List.set_cons_zero, List.set_cons_succ, i64_w, i32_w]
            rfl
          refine one_ (i := 10) (N := some 36) #[true, true, true, true, true, true, true, true, true, true, true, false, false, false, true, false, false] rfl rfl (by kernel_rfl) (by decide) (fun K hK => ?_)
          refine goes_ Tryd.func17 (by kernel_rfl) rfl #[.agg #[.slice A p.set.length c, .int .i64 p.ex, .int .i64 p.any], .agg (certC (.slice C x.pol.length cC) (.slice B nb cb) (.slice S ns csn) x.req x.inh), .bool last] (by rfl) rfl rfl (by (try simp only [List.map_toArray, List.map_cons, List.map_nil]); first | done | rfl) ?_
          refine (stepR_at (last := last) (HS.out.below hw) (HC.out.below hw) HO.out (by omega) HX0.out).mono ?_
          rintro e wC hpost
          rw [HSV.out] at hpost
          obtain ⟨A1, m1, c1, rfl, hst, hb⟩ := hpost.vals3
          refine ⟨_, rfl, ?_⟩
          clear hpost
          have hb5 := blk_below hb5 hb
          have hw := below_step hw hb
          clear hb
          refine hK.out _ _ ⟨range_blk0 (blk_below B10.out hw), range_at (blk_below HCS.out.1 hw) HCS.out.2⟩ (fun _ => ?_)
          clear hK K
          refine norm_ (a' := ?_) ?_ ?_
          rotate_left
          · show Act.put _ (some 36) _ = _
            simp only [Act.put, List.setIfInBounds_toArray, List.set_cons_zero, List.set_cons_succ, i64_w, i32_w]
            rfl
          refine pure_ (i := 11) (N := some 25) (v := ?_) (a' := ?_) #[true, true, true, true, true, true, true, true, true, true, true, true, false, false, true, false, false] rfl rfl (by kernel_rfl) (fun _ _ _ h => h) (Or.inl ⟨by rfl, ?_⟩) ?_ ?_
          rotate_left
          · intro w'
            go_simp
            with_reducible rfl
          rotate_left
          · simp only [Act.put, List.setIfInBounds_toArray, List.set_cons_zero, List.set_cons_succ, i64_w, i32_w]
            rfl
          refine pure_ (i := 12) (N := some 37) (v := ?_) (a' := ?_) #[true, true, true, true, true, true, true, true, true, true, true, true, true, false, true, false, false] rfl rfl (by kernel_rfl) (fun _ _ _ h => h) (Or.inl ⟨by rfl, ?_⟩) ?_ ?_
          rotate_left
          · intro w'
            go_simp
            with_reducible rfl
          rotate_left
          · simp only [Act.put, List.setIfInBounds_toArray, List.set_cons_zero, List.set_cons_succ, i64_w, i32_w]
            rfl
          refine pure_ (i := 13) (N := some 38) (v := ?_) (a' := ?_) #[true, true, true, true, true, true, true, true, true, true, true, true, true, true, true, false, false] rfl rfl (by kernel_rfl) (fun _ _ _ h => h) (Or.inl ⟨by rfl, ?_⟩) ?_ ?_
          rotate_left
          · intro w'
            go_simp
            with_reducible rfl
          rotate_left
          · simp only [Act.put, List.setIfInBounds_toArray, List.set_cons_zero, List.set_cons_succ, i64_w, i32_w]
            rfl
          refine one_ (i := 15) (N := none) #[true, true, true, true, true, true, true, true, true, true, true, true, true, true, true, true, false] rfl rfl (by kernel_rfl) (by decide) (fun K hK => ?_)
          refine store_ (by rfl) rfl 25 (.tmp 12) (.tmp 37) rfl G #[.slice A1 m1 c1, .int .i64 (sv.getD noneP).ex, .int .i64 (sv.getD noneP).any] rfl rfl hb5 rfl (by kernel_rfl) (strs_one_cell hst) ?_
          intro w1 hg5 hgr hsz
          have hst := strs_grown hst hgr hb5
          have hw := hw.grown hgr hw.size (fun j hj => by cases hj; exact hge)
          refine hK.out _ _ ⟨range_blk0 (blk_below B10.out hw), range_at (blk_below HCS.out.1 hw) HCS.out.2⟩ (fun _ => ?_)
          exact hcont (A1, m1, c1, G) w1 ⟨hst, hg5, hw⟩
      rintro ⟨A25, m25, c25, G5⟩ w50 ⟨hst, hg5, hw⟩
      simp only at hst hg5
      refine norm_ (a' := ?_) ?_ ?_
      rotate_left
      · simp only [putAll, Act.put, List.setIfInBounds_toArray, List.set_cons_zero, List.set_cons_succ]
        rfl
      refine pure_ (i := 16) (N := some 13) (v := ?_) (a' := ?_) #[true, true, true, true, true, true, true, true, true, true, true, true, true, true, true, true, true] rfl rfl (by kernel_rfl) (fun _ _ _ h => h) (Or.inl ⟨by rfl, ?_⟩) ?_ ?_
      rotate_left
      · intro w'
        go_simp
        with_reducible rfl
      rotate_left
      · simp only [Act.put, List.setIfInBounds_toArray, List.set_cons_zero, List.set_cons_succ, i64_w, i32_w]
        rfl
      refine done_ (by kernel_rfl) ?_
      clear hHeld
      have n0_ := Aside0.mk (blk_below B10.out hw)
      have n1_ := Aside0.mk (Strs.below HS.out hw)
      have n2_ := Aside0.mk (below_step HW.out hw)
      have n3_ := Aside0.mk (CertOf.below HC.out hw)
      have n4_ := Aside0.mk (And.intro (blk_below HCS.out.1 hw) HCS.out.2)
      clear B10 HS HW HC HCS
      have B10 := n0_
      have HS := n1_
      have HW := n2_
      have HC := n3_
      have HCS := n4_
      clear n0_ n1_ n2_ n3_ n4_
      clear hw
      have HSX := Aside0.mk hst
      have B12 := Aside0.mk hg5
      clear hst hg5
      cases sv with
      | none =>
        have hrn : r = none := HNX.out.1 rfl
        subst hrn
        go_wp2_with fail
        go_ret2
        exact ⟨rfl, HW.out⟩
      | some q =>
        have HOK := Aside0.mk (HO.out.step HX0.out.2 HSV.out)
        have HRX := Aside0.mk (HNX.out.2 q rfl)
        obtain ⟨hm1, _⟩ := HSX.out.at_
        rw [List.length_map] at hm1
        simp only [Option.getD_some] at hm1
        subst hm1
        go_wp2_with (first
          | ((with_reducible refine gate_dst (N := 41) rfl ?_); refine law_load rfl 25 _ rfl G5 rfl B12.out _ Tryd.underlying25 rfl (by kernel_rfl) ?_)
          | (have h0_ := B10.out; refine law_store ?q1 25 (.tmp 10) (.tmp 41) ?q2 g10 #[.slice A25 q.set.length c25, .int .i64 q.ex, .int .i64 q.any] ?q3 ?q4 h0_ ?q5 ?q6 ?q7 ?_; (case q1 => rfl); (case q2 => rfl); (case q3 => rfl); (case q4 => rfl); (case q5 => rfl); (case q6 => kernel_rfl); (case q7 => exact strs_one_cell HSX.out)
             intro w15 b15 hg15 hs15
             have HE1 := Aside0.mk (And.intro b15 (And.intro (strs_grown HSX.out hg15 h0_) (HW.out.grown hg15 HW.out.size (fun j hj => by cases hj; exact HGG.out))))
             clear b15 hg15 hs15 h0_ B10))
        go_roundw
        case rel => exact ⟨k + 1, q, by omega, by go_num, ⟨⟨A25, c25, HE1.out.1, HE1.out.2.1⟩⟩, ⟨HRX.out⟩, ⟨HOK.out.weaken (by have := HX0.out.1; omega)⟩, ⟨HE1.out.2.2⟩⟩
        case measure => simp [intOf]; omega
    · have e : k = n := by omega
      subst e
      by_cases hk0 : k = 0
      · have hln : l = [] := List.eq_nil_of_length_eq_zero (by rw [HN.out.1]; exact hk0)
        have hrn : r = none := HR.out.nil hln
        subst hrn
        subst hk0
        go_wp2
        go_ret2
        exact ⟨rfl, HW.out⟩
      · obtain ⟨m, rfl⟩ : ∃ m, k = m + 1 := ⟨k - 1, by omega⟩
        have hltl : m < l.length := by rw [HN.out.1]; omega
        have hcv := HV.out.1.below HW.out
        rcases hcv with ⟨rfl, _⟩ | ⟨g, cap, cur, e, hcap, hgb, hcs⟩
        · simp at hltl
        obtain ⟨cs, hcs1, hcs2, hcs3⟩ := hcs m l[m] (List.getElem?_eq_getElem hltl)
        obtain ⟨C, cC, B, nb, cb, S, ns, csn, hagg⟩ := hcs3.open_
        injection hagg with hagg
        injection e with e1 e2 e3
        subst e1 hagg
        have hend : endV p l[m] user = r := HR.out.done HN.out.1.symm l[m] (by
          have : l.length - 1 = m := by rw [HN.out.1]; rfl
          rw [this, List.getElem?_eq_getElem hltl])
        have HC := Aside0.mk hcs3
        have HCS := Aside0.mk (And.intro hgb hcs2)
        have HX0 := Aside0.mk (HV.out.2.2 l[m] (List.getElem_mem hltl))
        clear hcs hcs1 hcs2 hcs3 hgb e2 e3 hcap HR hk0 hlt
        generalize l[m] = x at *
        clear hltl
        have HEND := Aside0.mk hend
        clear hend
        have hmm : ((((m + 1 : Nat) : Int)) == 0) = false := by rw [beq_eq_false_iff_ne]; omega
        have hwm : wrap64 (m : Int) = m := by unfold wrap64; omega
        have p3 : (0 ≤ (m : Int)) = True := by simp
        have p4 : ((m : Int) < (m : Int) + 1) = True := by simp; omega
        go_upto_region 11 with fail
        have n0_ := Aside0.mk (blk_drew B10.out)
        have n1_ := Aside0.mk (Strs.below HS.out (below_drew1 (Below.refl _ _)))
        have n2_ := Aside0.mk (below_drew1 HW.out)
        have n3_ := Aside0.mk (CertOf.below HC.out (below_drew1 (Below.refl _ _)))
        have n4_ := Aside0.mk (And.intro (blk_drew HCS.out.1) HCS.out.2)
        clear B10 HS HW HC HCS
        have B10 := n0_
        have HS := n1_
        have HW := n2_
        have HC := n3_
        have HCS := n4_
        clear n0_ n1_ n2_ n3_ n4_
        refine start_ (n := 13) (S := fun w' => w'.rangeAt g10 0 [.slice A p.set.length c, .int .i64 p.ex, .int .i64 p.any] ∧ w'.rangeAt g (m * 31) (certC (.slice C x.pol.length cC) (.slice B nb cb) (.slice S ns csn) x.req x.inh).toList) (ds := []) #[false, false, false, false, false, false, false, false, false, false, false, false, false] (by kernel_rfl) rfl rfl ⟨range_blk0 B10.out, range_at HCS.out.1 HCS.out.2⟩ (fun hHeld => ?_)
        generalize wr.drew = w20 at B10 HS HW HC HCS hHeld ⊢
        refine take_ (i := 0) (N := some 45) (v := .agg #[.slice A p.set.length c, .int .i64 p.ex, .int .i64 p.any]) (a' := ?_) #[true, false, false, false, false, false, false, false, false, false, false, false, false] rfl rfl (by kernel_rfl) (fun _ _ _ h => h) (yieldsIf_load_mid (by rfl) 25 (.tmp 10) rfl g10 0 rfl [.slice A p.set.length c, .int .i64 p.ex, .int .i64 p.any] _ (fun _ h => h.1) Tryd.underlying25 rfl (by kernel_rfl)) hHeld ?_ ?_
        rotate_left
        · simp only [Act.put, List.setIfInBounds_toArray, List.set_cons_zero, List.set_cons_succ, i64_w, i32_w]
          rfl
        refine pure_ (i := 1) (N := some 46) (v := ?_) (a' := ?_) #[true, true, false, false, false, false, false, false, false, false, false, false, false] rfl rfl (by kernel_rfl) (fun _ _ _ h => h) (Or.inl ⟨by rfl, ?_⟩) ?_ ?_
        rotate_left
        · intro w'
          go_simp
          with_reducible rfl
        rotate_left
        · simp only [Act.put, List.setIfInBounds_toArray, List.set_cons_zero, List.set_cons_succ, i64_w, i32_w]
          rfl
        refine pure_ (i := 2) (N := some 47) (v := ?_) (a' := ?_) #[true, true, true, false, false, false, false, false, false, false, false, false, false] rfl rfl (by kernel_rfl) (fun _ _ _ h => h) (Or.inl ⟨by rfl, ?_⟩) ?_ ?_
        rotate_left
        · intro w'
          go_simp
          with_reducible rfl
        rotate_left
        · simp only [Act.put, List.setIfInBounds_toArray, List.set_cons_zero, List.set_cons_succ, i64_w, i32_w]
          rfl
        refine pure_ (i := 3) (N := some 48) (v := ?_) (a' := ?_) #[true, true, true, true, false, false, false, false, false, false, false, false, false] rfl rfl (by kernel_rfl) (fun _ _ _ h => h) (Or.inl ⟨by rfl, ?_⟩) ?_ ?_
        rotate_left
        · intro w'
          go_simp
          with_reducible rfl
        rotate_left
        · simp only [Act.put, List.setIfInBounds_toArray, List.set_cons_zero, List.set_cons_succ, i64_w, i32_w]
          rfl
        refine pure_ (i := 4) (N := some 49) (v := ?_) (a' := ?_) #[true, true, true, true, true, false, false, false, false, false, false, false, false] rfl rfl (by kernel_rfl) (fun _ _ _ h => h) (Or.inl ⟨by rfl, ?_⟩) ?_ ?_
        rotate_left
        · intro w'
          go_simp
          with_reducible rfl
        rotate_left
        · simp only [Act.put, List.setIfInBounds_toArray, List.set_cons_zero, List.set_cons_succ, i64_w, i32_w]
          rfl
        refine pure_ (i := 5) (N := some 50) (v := ?_) (a' := ?_) #[true, true, true, true, true, true, false, false, false, false, false, false, false] rfl rfl (by kernel_rfl) (fun _ _ _ h => h) (Or.inl ⟨by rfl, ?_⟩) ?_ ?_
        rotate_left
        · intro w'
          go_simp
          with_reducible rfl
        rotate_left
        · simp only [Act.put, List.setIfInBounds_toArray, List.set_cons_zero, List.set_cons_succ, i64_w, i32_w]
          rfl
        refine take_ (i := 6) (N := some 51) (v := .agg (certC (.slice C x.pol.length cC) (.slice B nb cb) (.slice S ns csn) x.req x.inh)) (a' := ?_) #[true, true, true, true, true, true, true, false, false, false, false, false, false] rfl rfl (by kernel_rfl) (fun _ _ _ h => h) (yieldsIf_load_mid (by rfl) 48 (.tmp 50) rfl g (m * 31) rfl (certC (.slice C x.pol.length cC) (.slice B nb cb) (.slice S ns csn) x.req x.inh).toList _ (fun _ h => h.2) Tryd.underlying48 rfl (by kernel_rfl)) hHeld ?_ ?_
        rotate_left
        · simp only [Act.put, List.setIfInBounds_toArray, List.set_cons_zero, List.set_cons_succ, i64_w, i32_w]
          rfl
        refine pure_ (i := 7) (N := some 52) (v := ?_) (a' := ?_) #[true, true, true, true, true, true, true, true, false, false, false, false, false] rfl rfl (by kernel_rfl) (fun _ _ _ h => h) (Or.inl ⟨by rfl, ?_⟩) ?_ ?_
        rotate_left
        · intro w'
          go_simp
          with_reducible rfl
        rotate_left
        · simp only [Act.put, List.setIfInBounds_toArray, List.set_cons_zero, List.set_cons_succ, i64_w, i32_w]
          rfl
        refine one_ (i := 8) (N := some 53) #[true, true, true, true, true, true, true, true, true, false, false, false, false] rfl rfl (by kernel_rfl) (by decide) (fun K hK => ?_)
        refine goes_ Tryd.func19 (by kernel_rfl) rfl #[.agg #[.slice A p.set.length c, .int .i64 p.ex, .int .i64 p.any], .agg (certC (.slice C x.pol.length cC) (.slice B nb cb) (.slice S ns csn) x.req x.inh), .slice U n2 cU] (by rfl) rfl rfl (by (try simp only [List.map_toArray, List.map_cons, List.map_nil]); first | done | rfl) ?_
        refine (endR_walk _ _ _ p x user _ ⟨_, rfl, HS.out⟩ HC.out (HV.out.2.1.below HW.out) (by have := HO.out.len; omega) (by rw [HN.out.2]; exact hul) (by have := HO.out.ex; omega)).mono ?_
        rintro e w21 hpost
        rw [HEND.out] at hpost
        obtain ⟨A1, m1, c1, rfl, h0_, hst, hb⟩ := hpost.vals2
        refine ⟨_, rfl, ?_⟩
        have HZ := Aside0.mk (And.intro h0_ (And.intro hst hb))
        clear hpost h0_ hst
        have n0_ := Aside0.mk (blk_below B10.out hb)
        have n1_ := Aside0.mk (Strs.below HS.out hb)
        have n2_ := Aside0.mk (below_step HW.out hb)
        have n3_ := Aside0.mk (CertOf.below HC.out hb)
        have n4_ := Aside0.mk (And.intro (blk_below HCS.out.1 hb) HCS.out.2)
        clear B10 HS HW HC HCS
        have B10 := n0_
        have HS := n1_
        have HW := n2_
        have HC := n3_
        have HCS := n4_
        clear n0_ n1_ n2_ n3_ n4_
        clear hb
        clear hHeld
        refine hK.out _ _ ⟨range_blk0 B10.out, range_at HCS.out.1 HCS.out.2⟩ (fun hHeld => ?_)
        clear hK K
        refine norm_ (a' := ?_) ?_ ?_
        rotate_left
        · show Act.put _ (some 53) _ = _
          simp only [Act.put, List.setIfInBounds_toArray, List.set_cons_zero, List.set_cons_succ, i64_w, i32_w]
          rfl
        refine pure_ (i := 9) (N := some 54) (v := ?_) (a' := ?_) #[true, true, true, true, true, true, true, true, true, true, false, false, false] rfl rfl (by kernel_rfl) (fun _ _ _ h => h) (Or.inl ⟨by rfl, ?_⟩) ?_ ?_
        rotate_left
        · intro w'
          go_simp
          with_reducible rfl
        rotate_left
        · simp only [Act.put, List.setIfInBounds_toArray, List.set_cons_zero, List.set_cons_succ, i64_w, i32_w]
          rfl
        refine pure_ (i := 10) (N := some 55) (v := ?_) (a' := ?_) #[true, true, true, true, true, true, true, true, true, true, true, false, false] rfl rfl (by kernel_rfl) (fun _ _ _ h => h) (Or.inl ⟨by rfl, ?_⟩) ?_ ?_
        rotate_left
        · intro w'
          go_simp
          with_reducible rfl
        rotate_left
        · simp only [Act.put, List.setIfInBounds_toArray, List.set_cons_zero, List.set_cons_succ, i64_w, i32_w]
          rfl
        refine pure_ (i := 11) (N := some 8) (v := ?_) (a' := ?_) #[true, true, true, true, true, true, true, true, true, true, true, true, false] rfl rfl (by kernel_rfl) (fun _ _ _ h => h) (Or.inl ⟨by rfl, ?_⟩) ?_ ?_
        rotate_left
        · intro w'
          go_simp
          with_reducible rfl
        rotate_left
        · simp only [Act.put, List.setIfInBounds_toArray, List.set_cons_zero, List.set_cons_succ, i64_w, i32_w]
          rfl
        refine pure_ (i := 12) (N := some 9) (v := ?_) (a' := ?_) #[true, true, true, true, true, true, true, true, true, true, true, true, true] rfl rfl (by kernel_rfl) (fun _ _ _ h => h) (Or.inl ⟨by rfl, ?_⟩) ?_ ?_
        rotate_left
        · intro w'
          go_simp
          with_reducible rfl
        rotate_left
        · simp only [Act.put, List.setIfInBounds_toArray, List.set_cons_zero, List.set_cons_succ, i64_w, i32_w]
          rfl
        refine done_ (by kernel_rfl) ?_
        clear hHeld
        go_wp2_with fail
        go_ret2
        exact EndPost.of_vals HZ.out.1 HZ.out.2.1 HW.out
end Go.Proofs.YtgeoibgohlpfjaaDoor.Py
