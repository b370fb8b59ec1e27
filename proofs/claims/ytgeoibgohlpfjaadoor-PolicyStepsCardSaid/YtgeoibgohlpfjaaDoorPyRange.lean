/- Facts for a range over a map of texts that a call has made. -/
import Derived.Test.YtgeoibgohlpfjaaDoorPySame
import Derived.Test.YtgeoibgohlpfjaaDoorPyName
import Derived.Sort.MapsRangeIn
set_option linter.unusedVariables false
set_option linter.unusedSimpArgs false
namespace Go.Proofs.YtgeoibgohlpfjaaDoor.Py
open Go Go.RowKit Go.Maps Go.Proofs.YtgeoibgohlpfjaaDoorW.PrintWords Go.Proofs.YtgeoibgohlpfjaaDoorW.PrintLast Go.Proofs.YtgeoibgohlpfjaaDoorW.PrintMore
theorem key_inv {x : ByteArray} {k : Lit} (h : keyOf Tryd.prog 9 (.string x) = some k) : k = kl x ∧ x.size ≤ maxLen := by
  have hu := Tryd.underlying9
  simp [keyOf, hu, mapKey] at h
  exact ⟨h.2.symm, h.1⟩
theorem same_key (s x : ByteArray) : (kl s).sameKey (kl x) = decide (s = x) := by
  by_cases h : s = x
  · subst h
    simp [Lit.sameKey, kl]
  · rw [decide_eq_false h]
    exact Maps.sameKey_ne (fun e => h (kl_inj e))
theorem any_list : bAny.toList = [50, 46, 53, 46, 50, 57, 46, 51, 50, 46, 48] := by rw [ByteArray.toList_eq]
theorem any_ne {x : ByteArray} (h : x ≠ bAny) : (x.toList == [50, 46, 53, 46, 50, 57, 46, 51, 50, 46, 48]) = false := by
  rw [← any_list]
  exact beq_false h
/-- what has been taken of the policies that a certificate has -/
structure AccOk (pp cc : List ByteArray) (D : DataW Unit) (left : Lit → Bool) (acc : List ByteArray) : Prop where
  left_has : ∀ k, left k = true → Maps.has D k = true
  acc_iff : ∀ s, s ∈ acc ↔ (s ∈ cc ∧ left (kl s) = false ∧ s ≠ bAny ∧ (s ∈ pp ∨ bAny ∈ pp))
theorem AccOk.start {pp cc : List ByteArray} {D : DataW Unit} (h : Tells D cc) : AccOk pp cc D (Maps.has D) [] where
  left_has := fun k hk => hk
  acc_iff := fun s => by
    simp only [List.not_mem_nil, false_iff]
    rintro ⟨h1, h2, _⟩
    rw [h.all s h1] at h2
    cases h2
def strike (left : Lit → Bool) (k : Lit) : Lit → Bool := fun z => left z && !z.sameKey k
theorem strike_self (left : Lit → Bool) (s : ByteArray) : strike left (kl s) (kl s) = false := by simp [strike, same_key]
theorem strike_other (left : Lit → Bool) {s x : ByteArray} (h : s ≠ x) : strike left (kl x) (kl s) = left (kl s) := by simp [strike, same_key, h]
theorem strike_has {left : Lit → Bool} {k z : Lit} (h : strike left k z = true) : left z = true := by
  unfold strike at h
  rw [Bool.and_eq_true] at h
  exact h.1
theorem AccOk.skip {pp cc : List ByteArray} {D : DataW Unit} {left : Lit → Bool} {acc : List ByteArray} (h : AccOk pp cc D left acc) (x : ByteArray) (hx : ¬ (x ≠ bAny ∧ (x ∈ pp ∨ bAny ∈ pp))) (hl : left (kl x) = true) : AccOk pp cc D (strike left (kl x)) acc where
  left_has := fun k hk => h.left_has k (strike_has hk)
  acc_iff := fun s => by
    by_cases e : s = x
    · subst e
      rw [h.acc_iff, hl]
      constructor
      · rintro ⟨_, h2, _⟩
        cases h2
      · rintro ⟨_, _, h3⟩
        exact absurd h3 hx
    · rw [h.acc_iff, strike_other _ e]
theorem AccOk.take {pp cc : List ByteArray} {D : DataW Unit} {left : Lit → Bool} {acc : List ByteArray} (h : AccOk pp cc D left acc) (ht : Tells D cc) (x : ByteArray) (hx : x ≠ bAny ∧ (x ∈ pp ∨ bAny ∈ pp)) (hl : left (kl x) = true) : AccOk pp cc D (strike left (kl x)) (acc ++ [x]) where
  left_has := fun k hk => h.left_has k (strike_has hk)
  acc_iff := fun s => by
    rw [List.mem_append, List.mem_singleton]
    by_cases e : s = x
    · subst e
      obtain ⟨t, ht1, ht2⟩ := ht.only _ (h.left_has _ hl)
      have := kl_inj ht2
      subst this
      simp only [or_true, true_iff]
      exact ⟨ht1, strike_self _ _, hx⟩
    · rw [h.acc_iff, strike_other _ e]
      simp [e]
/-- all have come -/
theorem AccOk.done {pp cc : List ByteArray} {D : DataW Unit} {left : Lit → Bool} {acc : List ByteArray} (h : AccOk pp cc D left acc) (hl : ∀ k, left k = false) (s : ByteArray) : s ∈ acc ↔ (s ∈ cc ∧ s ≠ bAny ∧ (s ∈ pp ∨ bAny ∈ pp)) := by
  rw [h.acc_iff, hl]
  simp
theorem inv_key : ∀ key k, keyOf Tryd.prog 9 key = some k → ∃ x, key = Value.string x := fun key k h => Maps.keyOf_string_inv Tryd.underlying9 h
theorem inv_val : ∀ v (y : DataW Unit × List MemPlace), plainElem Tryd.prog 3 v = some y → ∃ c, v = Value.int .i64 c := fun v y h => by
  obtain ⟨c, rfl, _⟩ := plainElem_int_inv Tryd.underlying3 h
  exact ⟨c, rfl⟩
theorem look_cnt {w : World} {b : Nat} {ss : List ByteArray} (h : MapIs w b ss) {s : ByteArray} (hs : s.size ≤ maxLen) (hn : ss.length ≤ 1000000) :
    ∃ a : Int, 0 ≤ a ∧ a ≤ 1000000 ∧ (0 < a ↔ s ∈ ss) ∧ ∀ w1, Below w.heap.size w w1 → (Instr.lookup 65 (.map (some b)) (.string s) false).run Tryd.prog w1 = .ok (.int .i64 a) w1 := by
  have := cnt_le ss s
  refine ⟨cnt ss s, by omega, by omega, ?_, fun w1 hb => (h.below hb).look hs⟩
  rw [← cnt_pos]
  omega
section
variable {P : Program} {ops : Array Oper} {Q : Exit → Act → World → Prop}
/-- a store of a whole block, in a region that draws its order -/
theorem store_ {oi : Oper} {a : Act} {W : World} {K : Act → World → Prop} (hw : Region.wanted oi (yielded ops a.tmps) = true) (hN : oi.dst = none) (t : TypeId) (x y : Operand) (ho : oi.op = .store t x y) (g : Nat) (cs' : Array Value) (hx : a.eval x = .pointer (some ⟨g, 0, none⟩)) (hy : a.eval y = .agg cs')
    {cs : Array Value} {e : TypeId} (hb : W.heap[g]? = some (.cells cs e (0, 0))) (hs : cs.size = cs'.size) (hi : (P.info? t).map (·.size) = some cs'.size) (h1 : cs'.all (·.oneCell') = true)
    (h : ∀ w1, w1.heap[g]? = some (.cells cs' e (0, 0)) → W.grownBy w1 (some g) → w1.heap.size = W.heap.size → K (a.put none undef) w1) : if Region.wanted oi (yielded ops a.tmps) = true then Oper.wp P oi a W K Q else K (a.put none undef) W := by
  rw [if_pos hw]
  unfold Oper.wp execOp
  simp only [ho, hx, hy, Instr.storeAt, Instr.sureAddr, Sem.run_bind, Sem.run_pure, Result.andThen_ok, run_storeVar_row W g e t cs cs' hb hi hs h1]
  show K (a.put oi.dst undef) _
  rw [hN]
  refine h _ ?_ ⟨rfl, rfl, rfl, by simp [World.setRow], fun k hk hne => ?_⟩ (by simp [World.setRow])
  · simp [World.setRow, Array.getElem?_modify, hb]
  · have : g ≠ k := fun e => hne (by rw [e])
    simp [World.setRow, Array.getElem?_modify, this]
end
theorem bs_inj {x y : S} (h : bs x = bs y) : x = y := by rw [← tl_bs x, h, tl_bs]
theorem mem_bs (x : S) (l : List S) : bs x ∈ l.map bs ↔ x ∈ l := by
  rw [List.mem_map]
  constructor
  · rintro ⟨y, hy, e⟩
    rwa [← bs_inj e]
  · exact fun h => ⟨x, h, rfl⟩
theorem mem_tl (x : S) (l : List ByteArray) : x ∈ l.map tl ↔ bs x ∈ l := by
  rw [List.mem_map]
  constructor
  · rintro ⟨y, hy, e⟩
    rw [← e, bs_tl]
    exact hy
  · exact fun h => ⟨bs x, h, tl_bs x⟩
/-- what has been gathered is what the plain step gathers -/
theorem gather_iff {pset pol : List S} {pany : Int} {own last gt : Bool} {L acc pp cc : List ByteArray} (hF : ∀ s, s ∈ acc ↔ s ∈ cc ∧ s ≠ bAny ∧ (s ∈ pp ∨ bAny ∈ pp)) (hL : ∀ s, s ∈ L ↔ s ∈ acc ∨ (gt = true ∧ s ∈ pp))
    (hg : gt = (memB bAny cc && (decide (0 < pany) || (own && !last)))) (hpp : pset.map bs = pp) (hcc : pol.map bs = cc) (x : S) : x ∈ L.map tl ↔ x ∈ gather pset pany pol own last := by
  subst hpp hcc
  have ha : ∀ l : List S, bAny ∈ l.map bs ↔ anyP ∈ l := fun l => by rw [← bs_any]; exact mem_bs anyP l
  have hgt : gt = true ↔ (anyP ∈ pol ∧ (pany > 0 ∨ (own = true ∧ last = false))) := by
    rw [hg, Bool.and_eq_true, memB_iff, ha]
    simp
  have hne : bs x ≠ bAny ↔ x ≠ anyP := by
    rw [← bs_any]
    exact ⟨fun h e => h (by rw [e]), fun h e => h (bs_inj e)⟩
  rw [mem_tl, hL, hF, hgt, mem_bs, mem_bs, ha, hne]
  unfold gather
  rw [List.mem_append, List.mem_filter]
  simp only [decide_eq_true_eq]
  constructor
  · rintro (⟨h1, h2, h3⟩ | ⟨h1, h2⟩)
    · exact .inl ⟨h1, h2, h3⟩
    · exact .inr (by rw [if_pos h1]; exact h2)
  · rintro (⟨h1, h2, h3⟩ | h)
    · exact .inl ⟨h1, h2, h3⟩
    · split at h
      · rename_i h1
        exact .inr ⟨h1, h⟩
      · simp at h
theorem nil_iff_of {L : List ByteArray} {G : List S} (h : ∀ x, x ∈ L.map tl ↔ x ∈ G) : L = [] ↔ G = [] := by
  have : Like (L.map tl) G := h
  rw [← this.nil, List.map_eq_nil_iff]
theorem nrm_eq {L : List ByteArray} {G : List S} (h : ∀ x, x ∈ L.map tl ↔ x ∈ G) : nrm L = (norm G).map bs := by
  unfold nrm
  rw [norm_ext h]
theorem sorted_at {w : World} {A : Option Addr} {c : Nat} {L : List ByteArray} (hr : Kd.C Kd.string w A L.length L) (hl : L.length ≤ 2000000) :
    Calls Tryd.prog 30 #[.slice A L.length c] w fun e w' => ∃ B m d, e = .returned (.slice B m d) ∧ Strs w' (.slice B m d) (nrm L) ∧ Below w.heap.size w w' := (sorted_walk A c L w hr (by omega)).mono fun e w' ⟨v, he, hs, hb⟩ => by
  obtain ⟨B, d, rfl, h1, h2⟩ := hs
  exact ⟨B, _, d, he, ⟨B, d, rfl, h1, h2⟩, hb⟩
section
variable {P : Program}
theorem results_cell_tmp {fn : Func} {p q : Tmp} {ty : TypeId} (h : fn.results = #[.cell p ty, .tmp q]) (tmps : Array Value) (w : World) (g : Nat) (t : TypeId) (cs : Array Value) (fr : Nat × Nat) (d : TypeDesc) (x : Value)
    (hp : tmps.getD p undef = .pointer (some ⟨g, 0, none⟩)) (hq : tmps.getD q undef = x) (hg : w.heap[g]? = some (.cells cs t fr))
    (hu : P.underlying ty = some d) (hd : (match d with | .struct _ | .array _ _ => true | _ => false) = true) (hi : (P.info? ty).map (·.size) = some cs.size) :
    (results fn tmps).run P w = .ok (.tuple #[.agg cs, x]) w := by
  have hp' : tmps[p]?.getD undef = .pointer (some ⟨g, 0, none⟩) := by simpa using hp
  have hq' : tmps[q]?.getD undef = x := by simpa using hq
  simp [results, h, hp', hq', asAddr, run_loadVar_row w g t ty cs fr d hg hu hd hi]
end
theorem strs_one_cell {w : World} {v : Value} {l : List ByteArray} {a b : Int} (h : Strs w v l) : (#[v, .int .i64 a, .int .i64 b] : Array Value).all (·.oneCell') = true := by
  obtain ⟨A, c, rfl, _, _⟩ := h
  rw [Array.all_eq_true_iff_forall_mem]
  simp [Value.oneCell']
/-- a list that is read stays while a block of another kind is written -/
theorem strs_grown' {w w' : World} {v : Value} {l : List ByteArray} {g : Nat} {cs : Array Value} {t : TypeId} {fr : Nat × Nat} (h : Strs w v l) (hg : w.grownBy w' (some g)) (hb : w.heap[g]? = some (.cells cs t fr)) (hns : ∀ (k : Nat) (p : ByteArray), cs[k]? ≠ some (Value.string p)) : Strs w' v l := by
  obtain ⟨A, c, e, hc, h1, h2, h3⟩ := h
  refine ⟨A, c, e, hc, h1, h2, fun h0 => ?_⟩
  obtain ⟨a, rfl, hat⟩ := h3 h0
  refine ⟨a, rfl, fun j p hp => ?_⟩
  obtain ⟨cs', h4, h5, h6⟩ := hat j p hp
  refine ⟨cs', h4, h5, fun i u hu => ?_⟩
  have h7 := h6 i u hu
  have hcs : cs' = [Value.string p] := h5
  subst hcs
  have hi : i = 0 := by
    have := (List.getElem?_eq_some_iff.1 hu).1
    simp at this
    omega
  subst hi
  cases hu
  generalize a.add (j * Kd.string.sz + 0) = q at h7 ⊢
  have hlt : q.block < w.heap.size := by
    rcases Nat.lt_or_ge q.block w.heap.size with h | h
    · exact h
    · simp [World.cell?, Array.getElem?_eq_none h] at h7
  by_cases hq : q.block = g
  · exfalso
    subst hq
    simp only [World.cell?, hb] at h7
    split at h7
    · cases h7
    · exact hns _ _ h7
  · rw [← h7]
    have := hg.block _ hlt (fun e2 => hq (Option.some.inj e2))
    simp [World.cell?, this]
theorem no_str (A : Option Addr) (n c : Nat) (a b : Int) : ∀ (k : Nat) (p : ByteArray), (#[.slice A n c, .int .i64 a, .int .i64 b] : Array Value)[k]? ≠ some (Value.string p) := by
  intro k p h
  match k, h with
  | 0, h => cases h
  | 1, h => cases h
  | 2, h => cases h
  | k + 3, h => simp at h
theorem strs_grown {w w' : World} {v : Value} {l : List ByteArray} {g : Nat} {A : Option Addr} {n c : Nat} {a b : Int} (h : Strs w v l) (hg : w.grownBy w' (some g)) (hb : w.heap[g]? = some (.cells #[.slice A n c, .int .i64 a, .int .i64 b] 25 (0, 0))) : Strs w' v l :=
  strs_grown' h hg hb (no_str A n c a b)
theorem b1n {a b c : Nat} (h1 : b ≤ c) (h2 : a < b) : a ≠ c := by omega
theorem pol_of {w : World} {v : Value} {G : List S} {L : List ByteArray} {x y ex any : Int} (hs : Strs w v (nrm L)) (hE : nrm L = (norm G).map bs) (h1 : ex = x) (h2 : any = y) : PolIs w (.agg #[v, .int .i64 x, .int .i64 y]) ⟨norm G, ex, any⟩ := by
  subst h1 h2
  rw [hE] at hs
  exact ⟨v, rfl, hs⟩
end Go.Proofs.YtgeoibgohlpfjaaDoor.Py
