/- The law's chain: certificates out of what counts of them, walked. -/
import Derived.Test.YtgeoibgohlpfjaaDoorPyRun
set_option linter.unusedVariables false
set_option linter.unusedSimpArgs false
namespace Go.Proofs.YtgeoibgohlpfjaaDoor.Py
open Go Go.RowKit Go.Maps Go.Proofs.YtgeoibgohlpfjaaDoorW.PrintWords Go.Proofs.YtgeoibgohlpfjaaDoorW.PrintLast Go.Proofs.YtgeoibgohlpfjaaDoorW.PrintMore
theorem info48 : (Tryd.prog.info? 48).map (fun i => (i.zero, i.size, i.bytes)) = some (some (.agg (certC nilS nilS nilS 0 0)), 31, 520) := by kernel_rfl
theorem cert_cells_one (A B C : Option Addr) (n1 n2 n3 c1 c2 c3 : Nat) (req inh : Int) : ∀ u ∈ (certC (.slice A n1 c1) (.slice B n2 c2) (.slice C n3 c3) req inh).toList, u.oneCell' = true := by
  intro u hu
  have h := certC_one A B C n1 n2 n3 c1 c2 c3 req inh
  rw [Array.all_eq_true_iff_forall_mem] at h
  exact h u (by simpa using hu)
/-- a certificate's cells; its policies lie in the world w0 -/
def CertRow (w0 w : World) (x : Cb) (cs : List Value) : Prop := ∃ pv n, cs = (certC pv n (if x.own = true then n else nilS) x.req x.inh).toList ∧ Strs w0 pv (x.pol.map bs) ∧ NameAt w n
theorem CertRow.below {w0 w w' : World} (hb : Below w.heap.size w w') (x : Cb) (cs : List Value) (h : CertRow w0 w x cs) : CertRow w0 w' x cs := by
  obtain ⟨pv, n, e, h1, h2⟩ := h
  exact ⟨pv, n, e, h1, h2.below hb⟩
theorem NameAt.own_grown {w w' : World} {base : Nat} {v n : Value} {l : List Cb} {R : Cb → List Value → Prop} (h : NameAt w n) (ho : OwnRow R 48 31 w base v l) (hg : w.grownBy w' v.ownBlock) : NameAt w' n := by
  obtain ⟨inner, ho, _⟩ := ho
  rcases ho.2 with ⟨rfl, h0⟩ | ⟨g, cap, cur, rfl, hgb, hh, _⟩
  · obtain ⟨b1, b2, b3, e, h1, h2, h3⟩ := h
    exact ⟨b1, b2, b3, e, blk_grown h1 hg (by simp [Value.ownBlock]), blk_grown h2 hg (by simp [Value.ownBlock]), blk_grown h3 hg (by simp [Value.ownBlock])⟩
  · exact h.grown hg hh (by decide) (by decide) (by decide)
theorem CertRow.grown {w0 w w' : World} {base : Nat} {v : Value} {l : List Cb} {R : Cb → List Value → Prop} (ho : OwnRow R 48 31 w base v l) (hg : w.grownBy w' v.ownBlock) (x : Cb) (cs : List Value) (h : CertRow w0 w x cs) : CertRow w0 w' x cs := by
  obtain ⟨pv, n, e, h1, h2⟩ := h
  exact ⟨pv, n, e, h1, h2.own_grown ho hg⟩
theorem CertRow.cert {w0 w : World} {x : Cb} {cs : List Value} (h : CertRow w0 w x cs) (hb : Below w0.heap.size w0 w) : cs.length = 31 ∧ CertOf w (.agg cs.toArray) x := by
  obtain ⟨pv, n, rfl, h1, h2⟩ := h
  exact ⟨rfl, pv, n, rfl, h1.below hb, h2⟩
/-- the law's of, its values written out -/
theorem of_at {w0 w : World} {A : Option Addr} {n c : Nat} {b : Cb} (hs : Strs w0 (.slice A n c) (b.pol.map bs)) :
    Calls Tryd.prog 16 #[.agg #[.slice A n c, .int .i64 b.req, .int .i64 b.inh, .bool b.own]] w fun e w' => ∃ B nb cb S ns cs, e = .returned (.agg (certC (.slice A n c) (.slice B nb cb) (.slice S ns cs) b.req b.inh)) ∧ CertRow w0 w' b (certC (.slice A n c) (.slice B nb cb) (.slice S ns cs) b.req b.inh).toList ∧ Below w.heap.size w w' :=
  (of_walk A n c b.req b.inh b.own w).mono fun e w' ⟨nv, he, hn, hb⟩ => by
    subst he
    have hc : CertRow w0 w' b (certC (.slice A n c) nv (if b.own = true then nv else nilS) b.req b.inh).toList := ⟨.slice A n c, nv, rfl, hs, hn⟩
    obtain ⟨b1, b2, b3, rfl, _⟩ := hn
    obtain ⟨pol, req, inh, own⟩ := b
    cases own with
    | true => exact ⟨_, _, _, _, _, _, rfl, hc, hb⟩
    | false => exact ⟨_, _, _, _, _, _, rfl, hc, hb⟩
theorem certs_of_own {w0 w : World} {base : Nat} {v : Value} {l : List Cb} (h : OwnRow (CertRow w0 w) 48 31 w base v l) (hb : Below w0.heap.size w0 w) : Certs w v l := by
  obtain ⟨inner, ho, hr⟩ := h
  rcases ho.2 with ⟨rfl, h0⟩ | ⟨g, cap, cur, rfl, hg, hh, h1, h2, h3, h4⟩
  · exact .inl ⟨List.eq_nil_of_length_eq_zero h0, rfl⟩
  · refine .inr ⟨g, cap, cur, rfl, h1, hh, fun k c hk => ?_⟩
    obtain ⟨h5, h6⟩ := (hr.2 k c hk).cert hb
    refine ⟨((inner.drop (k * 31)).take 31).toArray, by simpa using h5, fun j u hu => ?_, h6⟩
    have hu' : ((inner.drop (k * 31)).take 31)[j]? = some u := hu
    have hj : j < 31 := by
      have := (List.getElem?_eq_some_iff.1 hu').1
      omega
    rw [List.getElem?_take_of_lt hj, List.getElem?_drop, ← h4] at hu'
    have hlt : k * 31 + j < l.length * 31 := by
      have := (List.getElem?_eq_some_iff.1 hk).1
      omega
    rw [List.getElem?_take_of_lt hlt] at hu'
    rw [← hu', Array.getElem?_toList]
set_option maxHeartbeats 8000000 in
set_option maxRecDepth 100000 in
theorem chain_walk (v : Value) (l : List Cb) (w : World) (hv : Bits w v l) (hl : l.length ≤ 30) :
    Calls Tryd.prog 22 #[v] w fun e w' => ∃ v', e = .returned v' ∧ Certs w' v' l ∧ Below w.heap.size w w' := by
  obtain ⟨A, c, rfl, hc, hle, hr⟩ := hv
  have HV := Aside0.mk hr
  clear hr hc hle
  obtain ⟨n, hn⟩ : ∃ n, l.length = n := ⟨_, rfl⟩
  rw [hn] at hl HV ⊢
  have HN := Aside0.mk hn
  clear hn
  go_enter Tryd.func22, Tryd.ntmps22
  go_wp2
  go_loopw [3, 4] (fun v i wr => ∃ (k : Nat), k ≤ n ∧ i = .int .i64 k ∧ Aside0 (OwnRow (CertRow w wr) 48 31 wr w.heap.size v (l.take k)) ∧ Aside0 (Below w.heap.size w wr)) (fun _ i _ => n - (intOf i).toNat)
  case atStart => exact ⟨0, Nat.zero_le _, rfl, ⟨OwnRow.none_ _ _ _ _ _⟩, ⟨Below.refl _ _⟩⟩
  case round =>
    obtain ⟨k, hk, rfl, HO, HW⟩ := hrel
    by_cases hlt : k < n
    · have hltl : k < l.length := by rw [HN.out]; exact hlt
      obtain ⟨ad, rfl, hat⟩ := HV.out (by omega)
      have hb0 := hat k l[k] (List.getElem?_eq_getElem hltl)
      have hb := hb0.below HW.out
      have HT := Aside0.mk (show l.take (k + 1) = l.take k ++ [l[k]] by rw [List.take_add_one, List.getElem?_eq_getElem hltl]; rfl)
      have hlen : (l.take k).length = k := by rw [List.length_take]; omega
      generalize l[k] = x at hb0 hb HT
      obtain ⟨pv0, hd0, _, _, _, hst0⟩ := hb0
      have hd1 := cell_below HW.out hd0
      obtain ⟨pv, hc0, hc1, hc2, hc3, hst⟩ := hb
      obtain rfl : pv = pv0 := Option.some.inj (hc0.symm.trans hd1)
      obtain ⟨P, pc, rfl, hpc, hpr⟩ := hst.open_
      have HS := Aside0.mk hst0
      have p1 : ((k : Int) < (n : Int)) = True := by simpa using hlt
      have p2 : (0 ≤ (k : Int)) = True := by simp
      have HL := Aside0.mk hlen
      clear hat hpc hpr hltl hst hlen hst0 hd0 hd1
      generalize x.pol.length = np at *
      go_wp2_with (first
        | (go_at_call 16; refine (of_at (w0 := w) HS.out).mono ?_; rintro e w2 ⟨B, nb, cb, S', ns, csn, rfl, hct, hb2⟩
           have HC := Aside0.mk (And.intro hct hb2)
           have HO2 := Aside0.mk ((HO.out.imp_ (CertRow.below hb2)).below hb2)
           have HB2 := Aside0.mk (below_step HW.out hb2)
           clear hct hb2 hc0 hc1 hc2 hc3)
        | (at_builtin; refine OwnRow.append (w0 := w) w.heap.size rfl (.tmp 11) (.tmp 17) 56 48 (.agg (certC nilS nilS nilS 0 0)) 31 520 rfl Tryd.underlying56 info48 rfl (by decide) (by decide) _ (l.take k) x (certC (.slice P np pc) (.slice B nb cb) (.slice S' ns csn) x.req x.inh).toList rfl rfl HC.out.1 rfl (cert_cells_one _ _ _ _ _ _ _ _ _ _ _) HO2.out HB2.out HB2.out.size (by rw [HL.out]; omega) ?_
           intro v1 w3 hown3 hbl3 hgrow3 hat3
           have HE := Aside0.mk (And.intro (hown3.imp_ (CertRow.grown HO2.out hgrow3)) hbl3)
           clear hown3 hbl3 hgrow3 hat3))
      go_roundw
      case rel => exact ⟨k + 1, by omega, by go_num, ⟨by rw [HT.out]; exact HE.out.1⟩, ⟨HE.out.2⟩⟩
      case measure => simp [intOf]; omega
    · have e : k = n := by omega
      subst e
      go_wp2
      go_ret
      exact ⟨_, rfl, by have := HO.out; rw [← HN.out, List.take_length] at this; exact certs_of_own this HW.out, HW.out⟩
end Go.Proofs.YtgeoibgohlpfjaaDoor.Py
