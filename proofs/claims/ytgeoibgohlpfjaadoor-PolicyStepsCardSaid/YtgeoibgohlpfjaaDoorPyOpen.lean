/- The laws' arguments, opened: lists of texts, what counts of certificates, states of policies; and a world in which the tables lie. -/
import Derived.Test.YtgeoibgohlpfjaaDoorPySame
import Derived.Test.YtgeoibgohlpfjaaDoorRows
import Derived.Deep.Slices
import Derived.Deep.Fields
import Derived.ChangeSame
import Derived.Lib.SmallJoins
import Derived.WalkKit
import Derived.KernelRfl
import Derived.Lib.LaidU8
set_option linter.unusedVariables false
set_option linter.unusedSimpArgs false
namespace Go.Proofs.YtgeoibgohlpfjaaDoor.Py
open Go Go.RowKit Go.ChangeShapes Go.WideShapes Go.Deep Go.Proofs.YtgeoibgohlpfjaaDoorW.PrintWords Go.Proofs.YtgeoibgohlpfjaaDoorW.PrintLast Go.Proofs.YtgeoibgohlpfjaaDoorW.PrintMore
section
variable {H : Type} {enc : TypeId × Value → H} {w : World} {base : Nat} {held : Bool}
set_option maxRecDepth 100000 in
theorem strs_of_cells {w : World} {a : Addr} {len cap : Nat} {ss : List ByteArray} (hl : len ≤ cap) (hm : cap ≤ maxLen) (hz : len ≤ ss.length) (hcell : ∀ i, i < ss.length → w.cell? (a.add i) = some (.string (ss.getD i ByteArray.empty))) : Strs w (.slice (some a) len cap) (ss.take len) := by
  have hlen : (ss.take len).length = len := by rw [List.length_take]; omega
  refine ⟨some a, cap, by rw [hlen], by rw [hlen]; exact hl, ⟨rfl, by rw [hlen]; unfold maxLen at hm; omega, fun _ => ⟨a, rfl, fun j p hp => ⟨[.string p], rfl, rfl, fun i u hu => ?_⟩⟩⟩⟩
  have hi : i = 0 := by
    have := (List.getElem?_eq_some_iff.1 hu).1
    simp at this
    omega
  subst hi
  cases hu
  have hj : j < len := by
    have := (List.getElem?_eq_some_iff.1 hp).1
    omega
  rw [List.getElem?_take_of_lt hj] at hp
  show w.cell? (a.add (j * Kd.string.sz + 0)) = _
  have e2 : j * Kd.string.sz + 0 = j := by
    show j * 1 + 0 = j
    omega
  rw [e2, hcell j (by omega), List.getD_eq_getElem?_getD, hp]
  rfl
theorem map_bs_tl (ss : List ByteArray) : (ss.map tl).map bs = ss := by
  rw [List.map_map, List.map_congr_left (fun x _ => show (bs ∘ tl) x = id x from bs_tl x), List.map_id]
set_option maxRecDepth 100000 in
theorem fits_of {ss : List ByteArray} (h : ∀ s ∈ ss, s.size ≤ maxLen) : FitS (ss.map tl) := by
  intro s hs
  obtain ⟨t, ht, rfl⟩ := List.mem_map.1 hs
  have e : (tl t).length = t.size := Array.length_toList
  rw [e]
  exact h t ht
set_option maxRecDepth 100000 in
theorem open_strs {fuel : Nat} {v : Value} {x : DataW H × List MemPlace} (h : DataW.trod enc Tryd.prog w base (fun _ => true) held fuel 23 [v] = some x) : ∃ l : List S, Strs w v (l.map bs) ∧ FitS l := by
  rcases open_strings Tryd.underlying23 Tryd.underlying9 (by kernel_rfl) h with ⟨hcs, _⟩ | ⟨a, len, cap, ss, hcs, _, hl, hm, hz, _, hcell, hws⟩
  · simp at hcs
    subst hcs
    exact ⟨[], Strs.nil w, fun s hs => by simp at hs⟩
  · simp at hcs
    subst hcs
    have hz' : ss.length = cap := by simpa using hz
    refine ⟨(ss.take len).map tl, ?_, fits_of (fun s hs => hws s (List.mem_of_mem_take hs))⟩
    rw [map_bs_tl]
    exact strs_of_cells hl hm (by omega) hcell
theorem cells_slice {P : Program} {t e : TypeId} {r : Reach} {b0 : Nat} {v : Value} (ht : P.underlying t = some (.slice e)) (hv : Value.okWide P w r b0 t v) : v.cells.toList = [v] := by
  obtain ⟨a, len, cap, rfl⟩ := okWide_slice ht hv
  rfl
set_option maxRecDepth 100000 in
theorem open_strs_arg {r : Reach} {b0 : Nat} {v : Value} {d : DataW H} {p : List MemPlace} (hv : Value.okWide Tryd.prog w r b0 23 v) (h : DataW.Trod enc Tryd.prog w base (fun _ => true) held 23 v d p) : ∃ l : List S, Strs w v (l.map bs) ∧ FitS l := by
  obtain ⟨fuel, hf⟩ := h
  rw [cells_slice Tryd.underlying23 hv] at hf
  exact open_strs hf
def I64 (x : Int) : Prop := -9223372036854775808 ≤ x ∧ x ≤ 9223372036854775807
theorem i64_of {x : Int} (h : (Lit.int .i64 x).wf = true) : I64 x := by
  simp [Lit.wf] at h
  exact h
/-- what counts of a certificate, in bounds -/
def BitOk (b : Cb) : Prop := FitS b.pol ∧ I64 b.req ∧ I64 b.inh
set_option maxRecDepth 100000 in
theorem open_bit {r : Reach} {b0 : Nat} {v : Value} {d : DataW H} {p : List MemPlace} (hv : Value.okWide Tryd.prog w r b0 30 v) (h : DataW.Trod enc Tryd.prog w base (fun _ => true) held 30 v d p) :
    ∃ (pv : Value) (b : Cb), v = .agg #[pv, .int .i64 b.req, .int .i64 b.inh, .bool b.own] ∧ Strs w pv (b.pol.map bs) ∧ BitOk b := by
  obtain ⟨v0, v1, v2, v3, y0, y1, y2, y3, n, rfl, _, _, h0, h1, h2, h3⟩ := Joins.open_agg4 Tryd.underlying30 (by kernel_rfl) (by kernel_rfl) hv h
  obtain ⟨l, hl, hf⟩ := open_strs h0
  obtain ⟨x1, e1, _, w1⟩ := DataW.trod_int Tryd.underlying3 h1
  obtain ⟨x2, e2, _, w2⟩ := DataW.trod_int Tryd.underlying3 h2
  obtain ⟨x3, e3, _⟩ := DataW.trod_bool Tryd.underlying4 h3
  simp at e1 e2 e3
  subst e1 e2 e3
  exact ⟨v0, ⟨l, x1, x2, x3⟩, rfl, hl, hf, i64_of w1, i64_of w2⟩
set_option maxRecDepth 100000 in
theorem open_pol {r : Reach} {b0 : Nat} {v : Value} {d : DataW H} {p : List MemPlace} (hv : Value.okWide Tryd.prog w r b0 25 v) (h : DataW.Trod enc Tryd.prog w base (fun _ => true) held 25 v d p) :
    ∃ q : Pl, PolIs w v q ∧ FitS q.set ∧ I64 q.ex ∧ I64 q.any := by
  obtain ⟨v0, v1, v2, y0, y1, y2, n, rfl, _, _, h0, h1, h2⟩ := Joins.open_agg3 Tryd.underlying25 (by kernel_rfl) (by kernel_rfl) hv h
  obtain ⟨l, hl, hf⟩ := open_strs h0
  obtain ⟨x1, e1, _, w1⟩ := DataW.trod_int Tryd.underlying3 h1
  obtain ⟨x2, e2, _, w2⟩ := DataW.trod_int Tryd.underlying3 h2
  simp at e1 e2
  subst e1 e2
  exact ⟨⟨l, x1, x2⟩, ⟨v0, rfl, hl⟩, hf, i64_of w1, i64_of w2⟩
theorem open_slice_fields {P : Program} {spare : Nat → Bool} {t e : TypeId} {fs : Array Field} {fuel : Nat} {cs : List Value} {x : DataW H × List MemPlace} (ht : P.underlying t = some (.slice e)) (he : P.underlying e = some (.struct fs))
    (hone : oneCellFields P fs = true) (hC : P.cellsOf e = fs.size) (h : DataW.trod enc P w base spare held fuel t cs = some x) :
    (cs = [.slice none 0 0] ∧ x = (.nil, [])) ∨
    ∃ (a : Addr) (len cap m : Nat), cs = [.slice (some a) len cap] ∧ len ≤ cap ∧ cap ≤ maxLen ∧ m = (if spare a.block then cap else len) ∧
      ∀ i, i < m → ∃ (n : Nat), ∀ (j : Nat) (f : Field), fs[j]? = some f → ∃ (v : Value) (y : DataW H × List MemPlace), w.cell? (a.add (i * fs.size + j)) = some v ∧ DataW.trod enc P w base spare held n f.type [v] = some y := by
  rcases open_slice ht h with h0 | ⟨a, len, cap, m, n, D, Pl, hcs, hb, hl, hm, hmm, hx, hi⟩
  · exact .inl h0
  · refine .inr ⟨a, len, cap, m, hcs, hl, hm, hmm, fun i him => ?_⟩
    obtain ⟨cs', hc, ht'⟩ := hi i him
    rw [hC] at hc
    obtain ⟨ys, n', hn', hy, hlen, hyl, hf⟩ := DataW.trod_struct he ht'
    obtain ⟨_, hcl, hat⟩ := World.cells?_some hc
    refine ⟨n', fun j f hj => ?_⟩
    obtain ⟨ho, hk⟩ := hone_of hone j f hj
    have hjl : j < fs.size := (Array.getElem?_eq_some_iff.1 hj).1
    have hcell := hat j hjl
    have hv : cs'[j]? = some (cs'[j]'(by omega)) := List.getElem?_eq_getElem (by omega)
    have h1 := hf j f hj
    rw [ho, hk] at h1
    have hone' : (cs'.drop j).take 1 = [cs'[j]'(by omega)] := by
      rw [List.drop_eq_getElem_cons (by omega)]
      rfl
    rw [hone'] at h1
    have hys : ys[j]? = some (ys[j]'(by omega)) := List.getElem?_eq_getElem (by omega)
    refine ⟨_, _, ?_, h1.trans hys⟩
    rw [← Go.Deep.add_add, hcell, hv]
theorem add_parts (a : Addr) (k j : Nat) {x : Value} (h : w.cell? (a.add (k * 4 + j)) = some x) (hj : 0 < j) : w.cell? ⟨(a.add (k * 4)).block, (a.add (k * 4)).off + j, none⟩ = some x := by
  have e1 : a.add (k * 4 + j) = ⟨a.block, a.off + (k * 4 + j), none⟩ := by
    unfold Addr.add
    rw [if_neg (by omega)]
  have e2 : (a.add (k * 4)).block = a.block := by
    unfold Addr.add
    split <;> rfl
  have e3 : (a.add (k * 4)).off = a.off + k * 4 := by
    unfold Addr.add
    split
    · omega
    · rfl
  rw [e2, e3, Nat.add_assoc, ← e1]
  exact h
set_option maxRecDepth 100000 in
theorem open_bits {r : Reach} {b0 : Nat} {v : Value} {d : DataW H} {p : List MemPlace} (hv : Value.okWide Tryd.prog w r b0 32 v) (h : DataW.Trod enc Tryd.prog w base (fun _ => true) held 32 v d p) :
    ∃ l : List Cb, Bits w v l ∧ ∀ b ∈ l, BitOk b := by
  obtain ⟨fuel, hf⟩ := h
  rw [cells_slice Tryd.underlying32 hv] at hf
  rcases open_slice_fields Tryd.underlying32 Tryd.underlying30 (by kernel_rfl) (by kernel_rfl) hf with ⟨hcs, _⟩ | ⟨a, len, cap, m, hcs, hl, hm, hmm, hi⟩
  · simp at hcs
    subst hcs
    exact ⟨[], ⟨none, 0, rfl, Nat.le_refl _, by simp, fun h => by simp at h⟩, fun b hb => by simp at hb⟩
  · simp at hcs
    subst hcs
    have hm' : m = cap := by simpa using hmm
    have each : ∀ i, i < len → ∃ b : Cb, BitAt w (a.add (i * 4)) b ∧ BitOk b := by
      intro i hil
      obtain ⟨n, hn⟩ := hi i (by omega)
      obtain ⟨v0, y0, c0, t0⟩ := hn 0 _ rfl
      obtain ⟨v1, y1, c1, t1⟩ := hn 1 _ rfl
      obtain ⟨v2, y2, c2, t2⟩ := hn 2 _ rfl
      obtain ⟨v3, y3, c3, t3⟩ := hn 3 _ rfl
      obtain ⟨l, hl, hf⟩ := open_strs t0
      obtain ⟨x1, e1, _, w1⟩ := DataW.trod_int Tryd.underlying3 t1
      obtain ⟨x2, e2, _, w2⟩ := DataW.trod_int Tryd.underlying3 t2
      obtain ⟨x3, e3, _⟩ := DataW.trod_bool Tryd.underlying4 t3
      simp at e1 e2 e3
      subst e1 e2 e3
      exact ⟨⟨l, x1, x2, x3⟩, ⟨v0, c0, add_parts a i 1 c1 (by omega), add_parts a i 2 c2 (by omega), add_parts a i 3 c3 (by omega), hl⟩, hf, i64_of w1, i64_of w2⟩
    have all : ∀ m, m ≤ len → ∃ l : List Cb, l.length = m ∧ (∀ k b, l[k]? = some b → BitAt w (a.add (k * 4)) b) ∧ ∀ b ∈ l, BitOk b := by
      intro m
      induction m with
      | zero => exact fun _ => ⟨[], rfl, fun k b hk => by simp at hk, fun b hb => by simp at hb⟩
      | succ m ih =>
        intro hm
        obtain ⟨l, h1, h2, h3⟩ := ih (by omega)
        obtain ⟨b, hb1, hb2⟩ := each m (by omega)
        refine ⟨l ++ [b], by simp [h1], fun k c hk => ?_, fun c hc => ?_⟩
        · rcases Nat.lt_or_ge k l.length with hlt | hge
          · rw [List.getElem?_append_left hlt] at hk
            exact h2 k c hk
          · rw [List.getElem?_append_right hge] at hk
            have hk0 : k - l.length = 0 := by
              have := (List.getElem?_eq_some_iff.1 hk).1
              simp at this
              omega
            rw [hk0] at hk
            cases hk
            have : k = m := by omega
            subst this
            exact hb1
        · rcases List.mem_append.1 hc with h | h
          · exact h3 c h
          · simp at h
            subst h
            exact hb2
    obtain ⟨l, h1, h2, h3⟩ := all len (Nat.le_refl _)
    exact ⟨l, ⟨some a, cap, by rw [h1], by omega, by unfold maxLen at hm; omega, fun _ => ⟨a, rfl, h2⟩⟩, h3⟩
/-- a value that is what counts of a certificate -/
def BitIs (w : World) (v : Value) (b : Cb) : Prop := ∃ pv, v = .agg #[pv, .int .i64 b.req, .int .i64 b.inh, .bool b.own] ∧ Strs w pv (b.pol.map bs)
set_option maxRecDepth 100000 in
theorem open_bit_is {r : Reach} {b0 : Nat} {v : Value} {d : DataW H} {p : List MemPlace} (hv : Value.okWide Tryd.prog w r b0 30 v) (h : DataW.Trod enc Tryd.prog w base (fun _ => true) held 30 v d p) :
    ∃ b : Cb, BitIs w v b ∧ BitOk b := by
  obtain ⟨pv, b, e, h1, h2⟩ := open_bit hv h
  exact ⟨b, ⟨pv, e, h1⟩, h2⟩
end
end Go.Proofs.YtgeoibgohlpfjaaDoor.Py
