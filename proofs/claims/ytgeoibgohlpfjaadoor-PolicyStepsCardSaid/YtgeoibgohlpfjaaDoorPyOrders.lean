/- The law PolicyOrders, walked (written by ordergen.py). -/
import Derived.Test.YtgeoibgohlpfjaaDoorPyBack
set_option linter.unusedVariables false
set_option linter.unusedSimpArgs false
namespace Go.Proofs.YtgeoibgohlpfjaaDoor.Py
open Go Go.RowKit Go.Maps Go.Proofs.YtgeoibgohlpfjaaDoorW.PrintWords Go.Proofs.YtgeoibgohlpfjaaDoorW.PrintLast Go.Proofs.YtgeoibgohlpfjaaDoorW.PrintMore
section
variable {P : Program} {ops : Array Oper} {Q : Exit → Act → World → Prop}
/-- a cell of a block is stored, in a region that draws its order -/
theorem store1_ {oi : Oper} {a : Act} {W : World} {K : Act → World → Prop} (hw : Region.wanted oi (yielded ops a.tmps) = true) (hN : oi.dst = none) (t : TypeId) (x y : Operand) (ho : oi.op = .store t x y) (g k : Nat) (v : Value) (hx : a.eval x = .pointer (some ⟨g, k, none⟩)) (hy : a.eval y = v)
    {cs : Array Value} {e : TypeId} (hb : W.heap[g]? = some (.cells cs e (0, 0))) (hk : k < cs.size) (hi : (P.info? t).map (·.size) = some 1) (h1 : v.oneCell' = true) (hv : v.cells = #[v])
    (h : ∀ w1, w1.heap[g]? = some (.cells (cs.setIfInBounds k v) e (0, 0)) → W.grownBy w1 (some g) → w1.heap.size = W.heap.size → K (a.put none undef) w1) : if Region.wanted oi (yielded ops a.tmps) = true then Oper.wp P oi a W K Q else K (a.put none undef) W := by
  rw [if_pos hw]
  have hst := run_storeCells_cells (P := P) g k [v] 0 W (fun j hj => by
    have : j = 0 := by simpa using hj
    subst this
    simp [cell_of_row W g k cs e (0, 0) hb, hk]) (fun j hj => by simp [World.frozen?, hb]) (by simpa using h1)
  simp only [World.setCells, Nat.add_zero] at hst
  cases hq : P.info? t with
  | none => simp [hq] at hi
  | some i =>
    have hs : i.size = 1 := by simpa [hq] using hi
    have hrun : (storeVar t ⟨g, k, none⟩ v).run P W = .ok () (W.setCell ⟨g, k, none⟩ v) := by
      simp [storeVar, sizeOf, typeInfo, hq, hs, hv, hst]
    unfold Oper.wp execOp
    simp only [ho, hx, hy, Instr.storeAt, Instr.sureAddr, Sem.run_bind, Sem.run_pure, Result.andThen_ok, hrun]
    show K (a.put oi.dst undef) _
    rw [hN]
    exact h _ (blk_set hb k v) ⟨rfl, rfl, rfl, by simp [World.setCell], fun j hj hne => Below.heap_setCell W _ v j (fun e => hne (by rw [e]))⟩ (by simp [World.setCell])
end
/-- texts in a row of the call's own -/
def OwnS (w : World) (base : Nat) (v : Value) (ss : List ByteArray) : Prop := w.ownsRow base 9 1 v ss.length (encs Value.string ss)
theorem own_str {w : World} {base : Nat} {ok : Nat → Prop} {v : Value} {ss : List ByteArray} (h : Kd.R Kd.string 9 w base ok v ss) : OwnS w base v ss := Kd.own_of_R h
theorem OwnS.strs {w : World} {base : Nat} {v : Value} {ss : List ByteArray} (h : OwnS w base v ss) : Strs w v ss := strs_of_R (ok := fun _ => True) (Kd.R_of_own h (fun _ _ => trivial))
/-- the cells of a small certificate of the call's own -/
def BitRow (w : World) (base : Nat) (x : Cb) (cs : List Value) : Prop := ∃ pv, cs = [pv, .int .i64 x.req, .int .i64 x.inh, .bool x.own] ∧ OwnS w base pv (x.pol.map bs)
def RowB (w : World) (base : Nat) (v : Value) (l : List Cb) : Prop := OwnRow (BitRow w base) 30 4 w base v l
theorem BitRow.below {w w' : World} {base : Nat} (hb : Below w.heap.size w w') (x : Cb) (cs : List Value) (h : BitRow w base x cs) : BitRow w' base x cs := by
  obtain ⟨pv, e, h⟩ := h
  exact ⟨pv, e, pw_own_below h hb⟩
theorem RowB.below {w w' : World} {base : Nat} {v : Value} {l : List Cb} (h : RowB w base v l) (hb : Below w.heap.size w w') : RowB w' base v l := (h.imp_ (BitRow.below hb)).below hb
/-- while a row of texts of the call's own that is younger, or a block of another kind, is written -/
theorem OwnS.apart {w w' : World} {base : Nat} {v : Value} {ss : List ByteArray} {g : Nat} {cs : Array Value} {t : TypeId} {fr : Nat × Nat} (h : OwnS w base v ss) (hg : w.grownBy w' (some g)) (hb : w.heap[g]? = some (.cells cs t fr)) (ht : t ≠ 9) : OwnS w' base v ss := by
  refine own_other h hg ?_
  rcases h.2 with ⟨rfl, _⟩ | ⟨g', cap, cur, rfl, _, hh, _⟩
  · exact .inl rfl
  · refine .inr fun e => ?_
    have : g' = g := by simpa [Value.ownBlock] using e
    subst this
    rw [hh] at hb
    cases hb
    exact ht rfl
theorem RowB.apart {w w' : World} {base : Nat} {v : Value} {l : List Cb} {g : Nat} {cs : Array Value} {t : TypeId} {fr : Nat × Nat} (h : RowB w base v l) (hg : w.grownBy w' (some g)) (hb : w.heap[g]? = some (.cells cs t fr)) (ht : t ≠ 9) (hn : v.ownBlock ≠ some g) : RowB w' base v l := by
  refine (h.imp_ fun x cs hc => ?_).other hg (.inr hn)
  obtain ⟨pv, e, h1⟩ := hc
  exact ⟨pv, e, h1.apart hg hb ht⟩
theorem RowB.ne_new {w : World} {base : Nat} {v : Value} {l : List Cb} (h : RowB w base v l) {g : Nat} (hg : w.heap.size ≤ g) : v.ownBlock ≠ some g := by
  obtain ⟨inner, ho, _⟩ := h
  rcases ho.2 with ⟨rfl, h0⟩ | ⟨g', cap, cur, rfl, hgb, hh, _⟩
  · simp [Value.ownBlock]
  · have := blk_lt hh
    intro e
    have : g' = g := by simpa [Value.ownBlock] using e
    omega
theorem BitRow.grown {w w' : World} {base : Nat} {v : Value} {l : List Cb} {R : Cb → List Value → Prop} (ho : OwnRow R 30 4 w base v l) (hg : w.grownBy w' v.ownBlock) (x : Cb) (cs : List Value) (h : BitRow w base x cs) : BitRow w' base x cs := by
  obtain ⟨pv, e, h⟩ := h
  refine ⟨pv, e, ?_⟩
  obtain ⟨inner, ho, _⟩ := ho
  rcases ho.2 with ⟨rfl, h0⟩ | ⟨g, cap, cur, rfl, hgb, hh, _⟩
  · refine own_other h hg ?_
    cases hq : pv.ownBlock with
    | none => exact .inl rfl
    | some q => exact .inr (by simp [Value.ownBlock])
  · exact h.apart hg hh (by decide)
theorem add0 (g n : Nat) : Addr.add ⟨g, 0, none⟩ n = ⟨g, n, none⟩ := by
  unfold Addr.add
  by_cases h : n = 0
  · subst h
    rfl
  · rw [if_neg h, Nat.zero_add]
theorem bits_of_own {w : World} {base : Nat} {v : Value} {l : List Cb} (h : RowB w base v l) (hl : l.length ≤ 1000) : Bits w v l := by
  obtain ⟨inner, ho, hr⟩ := h
  rcases ho.2 with ⟨rfl, h0⟩ | ⟨g, cap, cur, rfl, hg, hh, h1, h2, h3, h4⟩
  · exact ⟨none, 0, by rw [h0], by omega, by omega, fun h => by omega⟩
  · refine ⟨some ⟨g, 0, none⟩, cap, rfl, h1, by omega, fun _ => ⟨_, rfl, fun k b hk => ?_⟩⟩
    obtain ⟨pv, h6, h7⟩ := hr.2 k b hk
    have hat : ∀ (j : Nat) u, ([pv, .int .i64 b.req, .int .i64 b.inh, .bool b.own] : List Value)[j]? = some u → w.cell? ⟨g, k * 4 + j, none⟩ = some u := by
      intro j u hj
      have hj4 : j < 4 := by simpa using (List.getElem?_eq_some_iff.1 hj).1
      rw [← h6, List.getElem?_take_of_lt hj4, List.getElem?_drop, ← h4] at hj
      have hlt : k * 4 + j < l.length * 4 := by
        have := (List.getElem?_eq_some_iff.1 hk).1
        omega
      rw [List.getElem?_take_of_lt hlt] at hj
      rw [cell_of_row w g (k * 4 + j) cur 30 (0, 0) hh, ← hj, Array.getElem?_toList]
    rw [add0]
    exact ⟨pv, hat 0 pv rfl, hat 1 _ rfl, hat 2 _ rfl, hat 3 _ rfl, h7.strs⟩
/-- a list twice: turned about, then as it is -/
def dbl (b : Cb) : Cb := ⟨b.pol.reverse ++ b.pol, b.req, b.inh, b.own⟩
theorem like_dbl (l : List S) : Like l (l.reverse ++ l) := fun x => by simp
theorem clikes_dbl : ∀ l : List Cb, CLikes l (l.map dbl)
  | [] => trivial
  | c :: l => ⟨⟨like_dbl c.pol, rfl, rfl, rfl⟩, clikes_dbl l⟩
theorem run_dbl (l : List Cb) (user : List S) (ex inh : Bool) : runV (l.map dbl) (user.reverse ++ user) ex inh = runV l user ex inh := by
  unfold runV
  rw [List.length_map]
  exact (run_like (like_dbl user) l (l.map dbl) _ (clikes_dbl l)).symm
theorem asked_length (set user : List S) : (asked set user).length ≤ set.length + user.length := by
  unfold asked
  split
  · split
    · omega
    · have := List.length_filter_le (fun s => decide (s ∈ set)) user
      omega
  · omega
theorem endV_length {p : Pl} {c : Cb} {user lf : List S} (h : endV p c user = some lf) : lf.length ≤ p.set.length + user.length := by
  unfold endV at h
  split at h
  · cases h
  · cases h
    exact Nat.le_trans (norm_length _) (asked_length _ _)
set_option maxRecDepth 100000 in
theorem runFrom_length {user lf : List S} : ∀ (l : List Cb) (p : Pl) (m : Nat), Ok p m → (∀ c ∈ l, c.pol.length ≤ 1000 ∧ FitS c.pol) → runFrom user p l = some lf → lf.length ≤ m + 1000 * l.length + user.length
  | [], _, _, _, _, h => by cases h
  | [c], p, m, ho, hp, h => by
    obtain ⟨q, h1, h2⟩ := Option.bind_eq_some_iff.1 (show (stepV p c true).bind (fun q => endV q c user) = some lf from h)
    have hc := hp c (by simp)
    have := (ho.step hc.2 h1).len
    have := endV_length h2
    simp only [List.length_cons, List.length_nil]
    omega
  | c :: d :: l, p, m, ho, hp, h => by
    obtain ⟨q, h1, h2⟩ := Option.bind_eq_some_iff.1 (show (stepV p c false).bind (fun q => runFrom user q (d :: l)) = some lf from h)
    have hc := hp c (by simp)
    have := runFrom_length (d :: l) q _ (ho.step hc.2 h1) (fun c hc => hp c (List.mem_cons_of_mem _ hc)) h2
    simp only [List.length_cons] at this ⊢
    omega
theorem runV_length {l : List Cb} {user lf : List S} {ex inh : Bool} (hl : l.length ≤ 30) (hp : ∀ c ∈ l, c.pol.length ≤ 1000 ∧ FitS c.pol) (hu : user.length ≤ 1000000) (h : runV l user ex inh = some lf) : lf.length ≤ 1100000 := by
  have := runFrom_length l _ _ (Ok.start l.length ex inh) hp h
  omega
/-- what Run gives, in one form -/
theorem run_vals {w : World} {v uv : Value} {l : List Cb} {user : List S} {ex inh : Bool} {r : Option (List S)} (hr : runV l user ex inh = r) (hv : Certs w v l) (hu : Strs w uv (user.map bs)) (hl : l.length ≤ 30) (hpol : ∀ c ∈ l, c.pol.length ≤ 1000 ∧ FitS c.pol) (hul : user.length ≤ 1000000) (fu : FitS user) :
    Calls Tryd.prog 21 #[v, uv, .bool ex, .bool inh] w fun e w' => ∃ A n c, e = .returned (.tuple #[.slice A n c, .bool r.isSome]) ∧ Strs w' (.slice A n c) ((r.getD []).map bs) ∧ Below w.heap.size w w' :=
  (run_at hr hv hu hl hpol hul fu).mono fun e w' ⟨h, hb⟩ => by
    cases r with
    | none => exact ⟨none, 0, 0, h, Strs.nil _, hb⟩
    | some lf =>
      obtain ⟨v', he, hs⟩ := h
      obtain ⟨A, c, rfl, _, _⟩ := hs.open_
      exact ⟨A, _, c, he, hs, hb⟩
theorem Strs.at_ {w : World} {A : Option Addr} {n c : Nat} {ss : List ByteArray} (h : Strs w (.slice A n c) ss) : n = ss.length ∧ n ≤ c := by
  obtain ⟨A', c', e, h1, _⟩ := h
  injection e with e1 e2 e3
  subst e2 e3
  exact ⟨rfl, h1⟩
theorem row_of {w : World} {A : Option Addr} {n c : Nat} {ss : List ByteArray} (h : Strs w (.slice A n c) ss) : ReadsRow (Kd.string.K w) Kd.string.sz w A n ss := by
  obtain ⟨A', c', e, _, hr⟩ := h
  injection e with e1 e2 e3
  subst e1 e2 e3
  exact hr
theorem back_at {w : World} {A : Option Addr} {n c : Nat} {ss : List ByteArray} (h : Strs w (.slice A n c) ss) (hn : n ≤ 1000000) :
    Calls Tryd.prog 24 #[.slice A n c] w fun e w' => ∃ B d, e = .returned (.slice B n d) ∧ Kd.R Kd.string 9 w' w.heap.size (fun _ => True) (.slice B n d) ss.reverse ∧ Below w.heap.size w w' := by
  obtain ⟨rfl, _⟩ := h.at_
  exact back_walk _ ss w h hn
theorem info30 : (Tryd.prog.info? 30).map (fun i => (i.zero, i.size, i.bytes)) = some (some (.agg #[nilS, .int .i64 0, .int .i64 0, .bool false]), 4, 48) := by kernel_rfl
theorem bit_cells_one (A : Option Addr) (n c : Nat) (req inh : Int) (own : Bool) : ∀ u ∈ [Value.slice A n c, .int .i64 req, .int .i64 inh, .bool own], u.oneCell' = true := by
  intro u hu
  simp at hu
  rcases hu with rfl | rfl | rfl | rfl <;> rfl
theorem bit_all_one (A : Option Addr) (n c : Nat) (req inh : Int) (own : Bool) : (#[Value.slice A n c, .int .i64 req, .int .i64 inh, .bool own] : Array Value).all (·.oneCell') = true := by
  rw [Array.all_eq_true_iff_forall_mem]
  intro u hu
  exact bit_cells_one A n c req inh own u (by simpa using hu)
theorem BitRow.lower {w : World} {base base' : Nat} {x : Cb} {A : Option Addr} {n c : Nat} (h : OwnS w base (.slice A n c) (x.pol.map bs)) (hb : base' ≤ base) : BitRow w base' x [.slice A n c, .int .i64 x.req, .int .i64 x.inh, .bool x.own] := ⟨_, rfl, own_weaken h hb⟩
theorem not_huge {l : List Cb} {user : List S} (h : hugeB l user = false) : l.length ≤ 30 ∧ user.length ≤ 200 ∧ ∀ b ∈ l, b.pol.length ≤ 200 := by
  unfold hugeB at h
  simp at h
  exact ⟨h.1.1, h.1.2, fun b hb => h.2 b hb⟩
set_option maxHeartbeats 8000000 in
set_option maxRecDepth 100000 in
theorem orders_walk (v uv : Value) (l : List Cb) (user : List S) (ex inh : Bool) (w : World) (hv : Bits w v l) (hok : ∀ b ∈ l, BitOk b) (hu : Strs w uv (user.map bs)) (fu : FitS user) :
    Calls Tryd.prog 7 #[v, uv, .bool ex, .bool inh] w fun e w' => e = .returned (.bool true) ∧ Below w.heap.size w w' := by
  obtain ⟨U, cU, rfl, hcU, hnU⟩ := hu.open_
  have HV0 := Aside0.mk (And.intro hv hu)
  obtain ⟨VA, vc, rfl, hc, hle, hr⟩ := hv
  have HV := Aside0.mk hr
  clear hr hc hle hcU
  by_cases hug : hugeB l user = true
  · clear hok fu HV
    go_enter Tryd.func7, Tryd.ntmps7
    go_wp2_with (first
      | (go_at_call 14; refine (huge_walk _ _ l user w HV0.out.1 HV0.out.2 hnU).mono ?_; rintro e w_ ⟨rfl, hs_⟩; subst w_; rw [hug])
      | (go_at_call 13; (with_reducible refine (live_walk w).mono ?_); rintro e w1 ⟨rfl, hb1⟩; have HA := Aside0.mk hb1; clear hb1))
    go_ret
    exact ⟨rfl, HA.out⟩
  rw [Bool.not_eq_true] at hug
  obtain ⟨hl, hul, hpl⟩ := not_huge hug
  have HP := Aside0.mk (And.intro hok (And.intro fu hpl))
  clear hok fu hpl
  obtain ⟨n, hn⟩ : ∃ n, l.length = n := ⟨_, rfl⟩
  obtain ⟨nu, hnu⟩ : ∃ n, user.length = n := ⟨_, rfl⟩
  rw [hn] at hl
  rw [hn, hnu] at HV0
  rw [hnu] at hul hnU
  rw [hn, hnu]
  have HN := Aside0.mk (And.intro hn hnu)
  have HH := Aside0.mk hug
  clear hn hnu hug
  go_enter Tryd.func7, Tryd.ntmps7
  go_wp2_with
    (go_at_call 14; refine (huge_walk _ _ l user w HV0.out.1 HV0.out.2 (by rw [HN.out.2]; exact hnU)).mono ?_; rintro e w_ ⟨rfl, hs_⟩; subst w_; rw [HH.out])
  go_loopw [9, 10] (fun v i wr => ∃ (k : Nat), k ≤ n ∧ i = .int .i64 k ∧ Aside0 (RowB wr w.heap.size v ((l.take k).map dbl)) ∧ Aside0 (Below w.heap.size w wr)) (fun _ i _ => n - (intOf i).toNat)
  case atStart => exact ⟨0, Nat.zero_le _, rfl, ⟨OwnRow.none_ _ _ _ _ _⟩, ⟨Below.refl _ _⟩⟩
  case round =>
    obtain ⟨k, hk, rfl, HO, HW⟩ := hrel
    by_cases hlt : k < n
    · have hltl : k < l.length := by rw [HN.out.1]; exact hlt
      obtain ⟨ad, rfl, hat⟩ := HV.out (by omega)
      have hb0 := hat k l[k] (List.getElem?_eq_getElem hltl)
      have hb := hb0.below HW.out
      have HT := Aside0.mk (show (l.take (k + 1)).map dbl = (l.take k).map dbl ++ [dbl l[k]] by rw [List.take_add_one, List.getElem?_eq_getElem hltl, List.map_append]; rfl)
      have hlen : ((l.take k).map dbl).length = k := by rw [List.length_map, List.length_take]; omega
      have hnp := HP.out.2.2 l[k] (List.getElem_mem hltl)
      generalize l[k] = x at hb0 hb HT hnp
      generalize (l.take k).map dbl = acc at HO HT hlen
      obtain ⟨pv0, hd0, _, _, _, hst0⟩ := hb0
      have hd1 := cell_below HW.out hd0
      obtain ⟨pv, hc0, hc1, hc2, hc3, hst⟩ := hb
      obtain rfl : pv = pv0 := Option.some.inj (hc0.symm.trans hd1)
      obtain ⟨P, pc, rfl, hpc, hpr⟩ := hst.open_
      have HS := Aside0.mk hst0
      have hss : (dbl x).pol.map bs = (x.pol.map bs).reverse ++ x.pol.map bs := by simp [dbl]
      have hsl : (x.pol.map bs).length = x.pol.length := List.length_map ..
      have p1 : ((k : Int) < (n : Int)) = True := by simpa using hlt
      have p2 : (0 ≤ (k : Int)) = True := by simp
      have HL := Aside0.mk hlen
      clear hat hpc hpr hltl hst hlen hst0 hd0 hd1
      generalize x.pol.map bs = ss at HS hss hsl
      generalize x.pol.length = np at *
      have HNP := Aside0.mk (And.intro hnp hsl)
      have HSS := Aside0.mk hss
      clear hnp hss hsl
      go_wp2_with (first
        | ((with_reducible refine gate_dst (N := 11) rfl ?_); refine law_new ?hg (N := 11) ?hd (ob := .cells #[nilS, .int .i64 0, .int .i64 0, .bool false] 30 (0, 0)) (V := fun g => .pointer (some ⟨g, 0, none⟩)) ?hr ?_; (case hd => rfl); (case hg => rfl); (case hr => first | (go_simp; done) | (go_simp; rfl))
           intro g11 hg11 w1 b1 hb1
           have B1 := Aside0.mk b1
           have HX1 := Aside0.mk hb1
           have HG := Aside0.mk (show w.heap.size ≤ g11 by rw [hg11]; exact HW.out.size)
           have HGX := Aside0.mk (show wr.heap.size ≤ g11 from Nat.le_of_eq hg11.symm)
           have HNE := Aside0.mk (HO.out.ne_new (Nat.le_of_eq hg11.symm))
           clear b1 hb1 hg11)
        | (refine law_store rfl 30 (.tmp 11) (.tmp 29) rfl g11 #[.slice P np pc, .int .i64 x.req, .int .i64 x.inh, .bool x.own] rfl rfl B1.out rfl (by kernel_rfl) (bit_all_one _ _ _ _ _ _) ?_
           intro w2 b2 hg2 hs2
           have HX := Aside0.mk (HX1.out.grown hg2 HX1.out.size (fun j hj => by cases hj; exact HGX.out))
           have B11 := Aside0.mk b2
           clear b2 hg2 hs2 B1 HX1))
      have n0_ := Aside0.mk (below_step HW.out HX.out)
      have n1_ := Aside0.mk (HO.out.below HX.out)
      clear HW HO HX HGX hc0 hc1 hc2 hc3
      have HW := n0_
      have HO := n1_
      clear n0_ n1_
      have n0_ := Aside0.mk (blk_drew B11.out)
      have n1_ := Aside0.mk (below_drew1 HW.out)
      have n2_ := Aside0.mk (RowB.below HO.out (below_drew1 (Below.refl _ _)))
      clear B11 HW HO
      have B11 := n0_
      have HW := n1_
      have HO := n2_
      clear n0_ n1_ n2_
      refine start_ (n := 8) (S := fun w' => w'.cell? ⟨g11, 0, none⟩ = some (.slice P np pc)) (ds := [7]) #[false, false, false, false, false, false, false, false] (by kernel_rfl) rfl rfl ((blk_cell B11.out 0).trans rfl) (fun hHeld => ?_)
      generalize w2.drew = w10 at B11 HW HO hHeld ⊢
      have HSZ := Aside0.mk HW.out.size
      refine pure_ (i := 0) (N := some 30) (v := ?_) (a' := ?_) #[true, false, false, false, false, false, false, false] rfl rfl (by kernel_rfl) (fun _ _ _ h => h) (Or.inl ⟨by rfl, ?_⟩) ?_ ?_
      rotate_left
      · intro w'
        go_simp
        with_reducible rfl
      rotate_left
      · simp only [Act.put, List.setIfInBounds_toArray, List.set_cons_zero, List.set_cons_succ, i64_w, i32_w]
        rfl
      refine take_ (i := 1) (N := some 31) (v := ?_) (a' := ?_) #[true, true, false, false, false, false, false, false] rfl rfl (by kernel_rfl) (fun _ _ _ h => h) (Or.inl ⟨by rfl, ?_⟩) hHeld ?_ ?_
      rotate_left
      · rintro w' s0
        go_simp
        with_reducible rfl
      rotate_left
      · simp only [Act.put, List.setIfInBounds_toArray, List.set_cons_zero, List.set_cons_succ, i64_w, i32_w]
        rfl
      refine pure_ (i := 3) (N := some 33) (v := ?_) (a' := ?_) #[true, true, false, true, false, false, false, false] rfl rfl (by kernel_rfl) (fun _ _ _ h => h) (Or.inl ⟨by rfl, ?_⟩) ?_ ?_
      rotate_left
      · intro w'
        go_simp
        with_reducible rfl
      rotate_left
      · simp only [Act.put, List.setIfInBounds_toArray, List.set_cons_zero, List.set_cons_succ, i64_w, i32_w]
        rfl
      refine take_ (i := 4) (N := some 34) (v := ?_) (a' := ?_) #[true, true, false, true, true, false, false, false] rfl rfl (by kernel_rfl) (fun _ _ _ h => h) (Or.inl ⟨by rfl, ?_⟩) hHeld ?_ ?_
      rotate_left
      · rintro w' s0
        go_simp
        with_reducible rfl
      rotate_left
      · simp only [Act.put, List.setIfInBounds_toArray, List.set_cons_zero, List.set_cons_succ, i64_w, i32_w]
        rfl
      refine one_ (i := 2) (N := some 32) #[true, true, true, true, true, false, false, false] rfl rfl (by kernel_rfl) (by decide) (fun K hK => ?_)
      have HX10 := Aside0.mk (And.intro B11.out (And.intro HW.out HO.out))
      refine goes_ Tryd.func24 (by kernel_rfl) rfl #[.slice P np pc] (by rfl) rfl rfl (by (try simp only [List.map_toArray, List.map_cons, List.map_nil]); first | done | rfl) ?_
      refine (back_at (HS.out.below HW.out) (by have := HNP.out.1; omega)).mono ?_
      rintro e w20 ⟨A2, c2, rfl, hk2, hb⟩
      refine ⟨_, rfl, ?_⟩
      have HK2 := Aside0.mk (And.intro hk2 hb)
      have n0_ := Aside0.mk (blk_below B11.out hb)
      have n1_ := Aside0.mk (below_step HW.out hb)
      have n2_ := Aside0.mk (RowB.below HO.out hb)
      clear B11 HW HO
      have B11 := n0_
      have HW := n1_
      have HO := n2_
      clear n0_ n1_ n2_
      clear hk2 hb
      clear hHeld
      refine hK.out _ _ ((blk_cell B11.out 0).trans rfl) (fun hHeld => ?_)
      clear hK K
      refine norm_ (a' := ?_) ?_ ?_
      rotate_left
      · show Act.put _ (some 32) _ = _
        simp only [Act.put, List.setIfInBounds_toArray, List.set_cons_zero, List.set_cons_succ, i64_w, i32_w]
        rfl
      refine one_ (i := 5) (N := some 35) #[true, true, true, true, true, true, false, false] rfl rfl (by kernel_rfl) (by decide) (fun K hK => ?_)
      refine Kd.R_append_rows_step Kd.string (w0 := w10) w10.heap.size (by rfl) (.tmp 32) (.tmp 34) 23 9 (.string ⟨#[]⟩) 16 rfl Tryd.underlying23 info9 rfl (by decide) (by decide) (.slice A2 np c2) ss.reverse ss P np pc (fun _ => True) (fun _ => False) rfl rfl HK2.out.1 (row_of (HS.out.below HW.out)) (fun _ _ h => h) (fun _ h => h.elim) (fun _ _ => trivial) HK2.out.2 HK2.out.2.size (by rw [List.length_reverse, HNP.out.2]; have := HNP.out.1; omega) ?_
      intro v30 w30 hR hBl hgr hat1
      have HV3 := Aside0.mk (own_str hR)
      clear B11 HW HO HK2 hat1 hgr
      have B11 := Aside0.mk (blk_below HX10.out.1 hBl)
      have HO := Aside0.mk (HX10.out.2.2.below hBl)
      have HW := Aside0.mk (below_step HX10.out.2.1 hBl)
      clear hBl HX10
      obtain ⟨A3, c3, rfl⟩ := Kd.R_slice hR
      clear hR
      generalize (ss.reverse ++ ss).length = n3 at HV3 ⊢
      clear hHeld
      refine hK.out _ _ ((blk_cell B11.out 0).trans rfl) (fun hHeld => ?_)
      clear hK K
      refine norm_ (a' := ?_) ?_ ?_
      rotate_left
      · show Act.put _ (some 35) _ = _
        simp only [Act.put, List.setIfInBounds_toArray, List.set_cons_zero, List.set_cons_succ, i64_w, i32_w]
        rfl
      refine pure_ (i := 6) (N := some 36) (v := ?_) (a' := ?_) #[true, true, true, true, true, true, true, false] rfl rfl (by kernel_rfl) (fun _ _ _ h => h) (Or.inl ⟨by rfl, ?_⟩) ?_ ?_
      rotate_left
      · intro w'
        go_simp
        with_reducible rfl
      rotate_left
      · simp only [Act.put, List.setIfInBounds_toArray, List.set_cons_zero, List.set_cons_succ, i64_w, i32_w]
        rfl
      refine last_ (i := 7) (N := none) #[true, true, true, true, true, true, true, true] rfl rfl (by kernel_rfl) (by decide) (fun K hK => ?_)
      refine store1_ (by rfl) rfl 23 (.tmp 36) (.tmp 35) rfl g11 0 (.slice A3 n3 c3) rfl rfl B11.out (by simp) (by kernel_rfl) rfl rfl ?_
      intro w31 b31 hg31 hs31
      have n1_ := Aside0.mk (RowB.apart HO.out hg31 B11.out (by decide) HNE.out)
      have n2_ := Aside0.mk (HW.out.grown hg31 HW.out.size (fun j hj => by cases hj; exact HG.out))
      have n3_ := Aside0.mk (HV3.out.apart hg31 B11.out (by decide))
      clear HW HO HV3 hg31 hs31
      have HO := n1_
      have HW := n2_
      have HV3 := n3_
      clear n1_ n2_ n3_
      clear hHeld B11
      have B11 := Aside0.mk b31
      clear b31
      refine hK.out _ _ ?_
      clear hK K
      refine norm_ (a' := ?_) ?_ ?_
      rotate_left
      · show Act.put _ (none) _ = _
        simp only [Act.put, List.setIfInBounds_toArray, List.set_cons_zero, List.set_cons_succ, i64_w, i32_w]
        rfl
      refine done_ (by kernel_rfl) ?_
      have B2 := Aside0.mk (show w31.heap[g11]? = some (.cells #[.slice A3 n3 c3, .int .i64 x.req, .int .i64 x.inh, .bool x.own] 30 (0, 0)) by have h := B11.out; simpa using h)
      have hrow : BitRow w31 w.heap.size (dbl x) [.slice A3 n3 c3, .int .i64 x.req, .int .i64 x.inh, .bool x.own] := BitRow.lower (x := dbl x) (by rw [HSS.out]; exact HV3.out) HSZ.out
      have HC := Aside0.mk hrow
      clear hrow B11
      go_wp2_with (first
        | ((with_reducible refine gate_dst (N := 38) rfl ?_); refine law_load rfl 30 _ rfl g11 rfl B2.out _ Tryd.underlying30 rfl (by kernel_rfl) ?_)
        | (at_builtin; refine OwnRow.append (w0 := w) w.heap.size rfl (.tmp 37) (.tmp 39) 32 30 (.agg #[nilS, .int .i64 0, .int .i64 0, .bool false]) 4 48 rfl Tryd.underlying32 info30 rfl (by decide) (by decide) _ acc (dbl x) [.slice A3 n3 c3, .int .i64 x.req, .int .i64 x.inh, .bool x.own] rfl rfl HC.out rfl (bit_cells_one _ _ _ _ _ _) HO.out HW.out HW.out.size (by rw [HL.out]; omega) ?_
           intro v1 w3 hown3 hbl3 hgrow3 hat3
           have HE := Aside0.mk (And.intro (hown3.imp_ (BitRow.grown HO.out hgrow3)) hbl3)
           clear hown3 hbl3 hgrow3 hat3))
      go_roundw
      case rel => exact ⟨k + 1, by omega, by go_num, ⟨by rw [HT.out]; exact HE.out.1⟩, ⟨HE.out.2⟩⟩
      case measure => simp [intOf]; omega
    · have e : k = n := by omega
      subst e
      have hm : Bits wr u9 (l.map dbl) := by
        have h := HO.out
        rw [← HN.out.1, List.take_length] at h
        exact bits_of_own h (by rw [List.length_map, HN.out.1]; omega)
      have HM := Aside0.mk hm
      generalize hr : runV l user ex inh = r
      have hr2 := (run_dbl l user ex inh).trans hr
      have HR := Aside0.mk (And.intro hr hr2)
      have hp1 : ∀ c ∈ l, c.pol.length ≤ 1000 ∧ FitS c.pol := fun c hc => ⟨by have := HP.out.2.2 c hc; omega, (HP.out.1 c hc).1⟩
      have hp2 : ∀ c ∈ l.map dbl, c.pol.length ≤ 1000 ∧ FitS c.pol := by
        intro c hc
        obtain ⟨b, hb, rfl⟩ := List.mem_map.1 hc
        have h1 := HP.out.2.2 b hb
        have h2 := (HP.out.1 b hb).1
        refine ⟨by simp [dbl]; omega, fun s hs => h2 s ?_⟩
        simpa [dbl] using hs
      have hrl : (r.getD []).length ≤ 1100000 := by
        cases r with
        | none => simp
        | some lf => exact runV_length (by rw [HN.out.1]; exact hl) hp1 (by rw [HN.out.2]; omega) hr
      have HQ := Aside0.mk (And.intro hp1 (And.intro hp2 hrl))
      clear hm hr hr2 hp1 hp2 hrl HO
      have hrm : ((user.reverse ++ user).map bs) = (user.map bs).reverse ++ user.map bs := by simp
      have hfr : FitS (user.reverse ++ user) := fun s hs => HP.out.2.1 s (by simpa using hs)
      have HRM := Aside0.mk (And.intro hrm hfr)
      clear hrm hfr
      go_wp2_with (first
        | (go_at_call 22; (with_reducible refine (chain_walk _ l wr (HV0.out.1.below HW.out) (by rw [HN.out.1]; exact hl)).mono ?_); rintro e w1 ⟨v1, rfl, hv1, hb1⟩
           have HA := Aside0.mk (And.intro hv1 (below_step HW.out hb1)); have HA2 := Aside0.mk (HM.out.below hb1); clear hv1 hb1)
        | (go_at_call 21; (with_reducible refine (run_vals HR.out.1 HA.out.1 (HV0.out.2.below HA.out.2) (by rw [HN.out.1]; exact hl) HQ.out.1 (by rw [HN.out.2]; omega) HP.out.2.1).mono ?_); rintro e w2 ⟨A2, n2, c2, rfl, hs2, hb2⟩
           have HB := Aside0.mk (And.intro hs2 (below_step HA.out.2 hb2)); have HB2 := Aside0.mk (HA2.out.below hb2); clear hs2 hb2)
        | (go_at_call 22; (with_reducible refine (chain_walk _ (l.map dbl) w2 HB2.out (by rw [List.length_map, HN.out.1]; exact hl)).mono ?_); rintro e w3 ⟨v3, rfl, hv3, hb3⟩
           have HC := Aside0.mk (And.intro hv3 (And.intro (HB.out.1.below hb3) (below_step HB.out.2 hb3))); clear hv3 hb3)
        | (go_at_call 24; (with_reducible refine (back_at (HV0.out.2.below HC.out.2.2) (by omega)).mono ?_); rintro e w4 ⟨B4, d4, rfl, hk4, hb4⟩
           have HD := Aside0.mk (And.intro (HC.out.1.below hb4) (And.intro (HC.out.2.1.below hb4) (below_step HC.out.2.2 hb4))); have HD2 := Aside0.mk (And.intro hk4 hb4); clear hk4 hb4)
        | (at_builtin; refine Kd.R_append_rows Kd.string (w0 := w3) w3.heap.size rfl (.tmp 54) (.tmp 55) 23 9 (.string ⟨#[]⟩) 16 rfl Tryd.underlying23 info9 rfl (by decide) (by decide) _ _ _ U nu cU (fun _ => True) (fun _ => False) rfl rfl HD2.out.1 (row_of (HV0.out.2.below HD.out.2.2)) (fun _ _ h => h) (fun _ h => h.elim) (fun _ _ => trivial) HD2.out.2 HD2.out.2.size (by rw [List.length_reverse, List.length_map, HN.out.2]; omega) ?_
           intro v5 w5 hR5 hBl5 hgr5 hat5
           have HE := Aside0.mk (And.intro (HC.out.1.below hBl5) (And.intro (HC.out.2.1.below hBl5) (And.intro (show Strs w5 v5 ((user.reverse ++ user).map bs) by rw [HRM.out.1]; exact strs_of_R hR5) (below_step HC.out.2.2 hBl5))))
           clear hR5 hBl5 hgr5 hat5)
        | (go_at_call 21; (with_reducible refine (run_vals HR.out.2 HE.out.1 HE.out.2.2.1 (by rw [List.length_map, HN.out.1]; exact hl) HQ.out.2.1 (by rw [List.length_append, List.length_reverse, HN.out.2]; omega) HRM.out.2).mono ?_); rintro e w6 ⟨A6, n6, c6, rfl, hs6, hb6⟩
           have HF := Aside0.mk (And.intro hs6 (And.intro (HE.out.2.1.below hb6) (below_step HE.out.2.2.2 hb6))); clear hs6 hb6)
        | (go_at_call 20; refine (texts_walk _ _ _ _ w6 HF.out.2.1 HF.out.1 (by rw [List.length_map]; have := HQ.out.2.2; omega) (by rw [List.length_map]; have := HQ.out.2.2; omega)).mono ?_; rintro e w7 ⟨rfl, hb7⟩; rw [decide_eq_true rfl]
           have HG := Aside0.mk (below_step HF.out.2.2 hb7); clear hb7)
        | (go_at_call 13; (with_reducible refine (live_walk w7).mono ?_); rintro e w8 ⟨rfl, hb8⟩; have HI := Aside0.mk (below_step HG.out hb8); clear hb8))
      go_ret
      exact ⟨rfl, HI.out⟩
theorem orders_row (v : Value) (l : List Cb) (uv : Value) (user : List S) (ex inh : Bool) (w : World) (hv : Bits w v l ∧ ∀ b ∈ l, BitOk b) (hu : Strs w uv (user.map bs) ∧ FitS user) :
    Calls Tryd.prog 7 #[v, uv, .bool ex, .bool inh] w fun e w' => e = .returned (.bool true) ∧ Below w.heap.size w w' := orders_walk v uv l user ex inh w hv.1 hv.2 hu.1 hu.2
end Go.Proofs.YtgeoibgohlpfjaaDoor.Py
