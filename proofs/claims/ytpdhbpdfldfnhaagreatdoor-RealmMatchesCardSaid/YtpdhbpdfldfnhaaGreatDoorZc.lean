/- Laws at operations; texts sorted; the page's examples; hosts, mails and nets by both (joined by assemble.py). -/
import Derived.Test.YtpdhbpdfldfnhaaGreatDoorZb
import Derived.Deep.MidRow
import Derived.Sort.Walk0
import Derived.Laws.BitsAllLaws
set_option linter.unusedVariables false
set_option linter.unusedSimpArgs false
/- of RnLaws -/
/- Laws at an operation, for walks in which a block of many cells is written and read whole (of the session's policy texts). -/
namespace Go.Proofs.YtpdhbpdfldfnhaaGreatDoor.Rn
open Go Go.RowKit Go.Proofs.YtpdhbpdfldfnhaaGreatDoorW.PrintWords Go.Proofs.YtpdhbpdfldfnhaaGreatDoorW.PrintLast Go.Proofs.YtpdhbpdfldfnhaaGreatDoorW.PrintMore
section
variable {P : Program} {ops : Array Oper} {o : Oper} {rest : List Oper} {a : Act} {Q : Exit → Act → World → Prop}
/-- a new block, whatever made it -/
theorem law_new {W : World} (hgd : o.guard = none) {N : Tmp} (_hd : o.dst = some N) {ob : Obj} {V : Nat → Value}
    (hrun : (execOp a.eval o).run P W = .ok (.value (V W.heap.size)) (W.alloc ob))
    (h : ∀ g, g = W.heap.size → ∀ w1, w1.heap[g]? = some ob → Below W.heap.size W w1 → wpList P ops Q rest (a.put o.dst (V g)) w1) : wpList P ops Q (o :: rest) a W :=
  Kd.event_run hgd hrun (h _ rfl _ (blk_new W _) (below_alloc (Below.refl _ _) _))
/-- a cell of a block is read -/
theorem law_load1 {W : World} (hgd : o.guard = none) (t : TypeId) (x : Operand) (ho : o.op = .load t x) (g k : Nat) (hx : a.eval x = .pointer (some ⟨g, k, none⟩))
    {cs : Array Value} {e : TypeId} {fr : Nat × Nat} (hb : W.heap[g]? = some (.cells cs e fr)) (v : Value) (hv : cs[k]? = some v) (d : TypeDesc) (hu : P.underlying t = some d) (hd : d.isRow = false)
    (h : wpList P ops Q rest (a.put o.dst v) W) : wpList P ops Q (o :: rest) a W := by
  refine Kd.event_run (v := v) hgd ?_ h
  have hc : W.cell? ⟨g, k, none⟩ = some v := by rw [cell_of_row W g k cs e fr hb]; exact hv
  have hagg : (isAgg t).run P W = .ok false W := by
    unfold isAgg
    rw [Sem.run_bind, run_underlying hu W]
    cases d <;> simp_all
  unfold execOp
  simp only [ho, hx, Instr.loadAt, Instr.sureAddr, Sem.run_bind, Sem.run_pure, Result.andThen_ok, loadVar, hagg]
  simp [load, Sem.run, hc]
/-- the whole of a block is read -/
theorem law_load {W : World} (hgd : o.guard = none) (t : TypeId) (x : Operand) (ho : o.op = .load t x) (g : Nat) (hx : a.eval x = .pointer (some ⟨g, 0, none⟩))
    {cs : Array Value} {e : TypeId} {fr : Nat × Nat} (hb : W.heap[g]? = some (.cells cs e fr)) (d : TypeDesc) (hu : P.underlying t = some d) (hd : d.isRow = true) (hi : (P.info? t).map (·.size) = some cs.size)
    (h : wpList P ops Q rest (a.put o.dst (.agg cs)) W) : wpList P ops Q (o :: rest) a W := by
  refine wpList_load_mid hgd t x ho g 0 hx cs.toList d (fun j v hv => ?_) hu hd (by simpa using hi) (by simpa using h)
  rw [Nat.zero_add, cell_of_row W g j cs e fr hb]
  simpa using hv
/-- a whole block is written -/
theorem law_store {W : World} (hgd : o.guard = none) (t : TypeId) (x y : Operand) (ho : o.op = .store t x y) (g : Nat) (cs' : Array Value) (hx : a.eval x = .pointer (some ⟨g, 0, none⟩)) (hy : a.eval y = .agg cs')
    {cs : Array Value} {e : TypeId} (hb : W.heap[g]? = some (.cells cs e (0, 0))) (hs : cs.size = cs'.size) (hi : (P.info? t).map (·.size) = some cs'.size) (h1 : cs'.all (·.oneCell') = true)
    (h : ∀ w1, w1.heap[g]? = some (.cells cs' e (0, 0)) → W.grownBy w1 (some g) → w1.heap.size = W.heap.size → wpList P ops Q rest (a.put o.dst undef) w1) : wpList P ops Q (o :: rest) a W := by
  refine wpList_plain hgd fun _ hK => ?_
  unfold Oper.wp execOp
  simp only [ho, hx, hy, Instr.storeAt, Instr.sureAddr, Sem.run_bind, Sem.run_pure, Result.andThen_ok, run_storeVar_row W g e t cs cs' hb hi hs h1]
  refine hK _ _ (h _ ?_ ⟨rfl, rfl, rfl, by simp [World.setRow], fun k hk hne => ?_⟩ (by simp [World.setRow]))
  · simp [World.setRow, Array.getElem?_modify, hb]
  · have : g ≠ k := fun e => hne (by rw [e])
    simp [World.setRow, Array.getElem?_modify, this]
/-- a cell of a block is written -/
theorem law_store1 {W : World} (hgd : o.guard = none) (t : TypeId) (x y : Operand) (ho : o.op = .store t x y) (g k : Nat) (v : Value) (hx : a.eval x = .pointer (some ⟨g, k, none⟩)) (hy : a.eval y = v)
    {cs : Array Value} {e : TypeId} (hb : W.heap[g]? = some (.cells cs e (0, 0))) (hk : k < cs.size) (hi : (P.info? t).map (·.size) = some 1) (h1 : v.oneCell' = true) (hv : v.cells = #[v])
    (h : ∀ w1, w1.heap[g]? = some (.cells (cs.setIfInBounds k v) e (0, 0)) → W.grownBy w1 (some g) → w1.heap.size = W.heap.size → wpList P ops Q rest (a.put o.dst undef) w1) : wpList P ops Q (o :: rest) a W := by
  refine wpList_plain hgd fun _ hK => ?_
  have hst := run_storeCells_cells (P := P) g k [v] 0 W (fun j hj => by
    have : j = 0 := by simpa using hj
    subst this
    simp [cell_of_row W g k cs e (0, 0) hb, hk]) (fun j hj => by simp [World.frozen?, hb]) (by simpa using h1)
  simp only [World.setCells, Nat.add_zero] at hst
  cases hq : P.info? t with
  | none => simp [hq] at hi
  | some i =>
    have hs : i.size = 1 := by simpa [hq] using hi
    have hrun : (storeVar t ⟨g, k, none⟩ v).run P W = .ok () (W.setCell ⟨g, k, none⟩ v) := by
      simp [storeVar, sizeOf, typeInfo, hq, hs, hv, hst]
    unfold Oper.wp execOp
    simp only [ho, hx, hy, Instr.storeAt, Instr.sureAddr, Sem.run_bind, Sem.run_pure, Result.andThen_ok, hrun]
    exact hK _ _ (h _ (blk_set hb k v) ⟨rfl, rfl, rfl, by simp [World.setCell], fun j hj hne => Below.heap_setCell W _ v j (fun e => hne (by rw [e]))⟩ (by simp [World.setCell]))
end
section
variable {P : Program}
theorem results_cell_tmp {fn : Func} {p q : Tmp} {ty : TypeId} (h : fn.results = #[.cell p ty, .tmp q]) (tmps : Array Value) (w : World) (g : Nat) (t : TypeId) (cs : Array Value) (fr : Nat × Nat) (d : TypeDesc) (x : Value)
    (hp : tmps.getD p undef = .pointer (some ⟨g, 0, none⟩)) (hq : tmps.getD q undef = x) (hg : w.heap[g]? = some (.cells cs t fr))
    (hu : P.underlying ty = some d) (hd : (match d with | .struct _ | .array _ _ => true | _ => false) = true) (hi : (P.info? ty).map (·.size) = some cs.size) :
    (results fn tmps).run P w = .ok (.tuple #[.agg cs, x]) w := by
  have hp' : tmps[p]?.getD undef = .pointer (some ⟨g, 0, none⟩) := by simpa using hp
  have hq' : tmps[q]?.getD undef = x := by simpa using hq
  simp [results, h, hp', hq', asAddr, run_loadVar_row w g t ty cs fr d hg hu hd hi]
end
end Go.Proofs.YtpdhbpdfldfnhaaGreatDoor.Rn
/- of RgSort -/
/- Plain Lean: lists of texts in order: what any sorting gives; a text that goes to its place from the right. -/
namespace Go.Proofs.YtpdhbpdfldfnhaaGreatDoor.Rk
abbrev S := List UInt8
abbrev tl (s : ByteArray) : S := s.data.toList
abbrev bs (l : S) : ByteArray := ⟨l.toArray⟩
theorem tl_bs (l : S) : tl (bs l) = l := by simp [tl, bs]
theorem bs_tl (s : ByteArray) : bs (tl s) = s := by simp [tl, bs]
theorem tl_inj {s t : ByteArray} (h : tl s = tl t) : s = t := by rw [← bs_tl s, h, bs_tl]
def srt (l : List S) : List S := l.mergeSort fun x y => decide (x ≤ y)
theorem srt_le (l : List S) : (srt l).Pairwise (fun a b => a ≤ b) := by
  have tr : ∀ a b c : S, decide (a ≤ b) = true → decide (b ≤ c) = true → decide (a ≤ c) = true := fun a b c h1 h2 => by simp only [decide_eq_true_eq] at *; exact List.le_trans h1 h2
  have tot_ : ∀ a b : S, (decide (a ≤ b) || decide (b ≤ a)) = true := fun a b => by simp only [Bool.or_eq_true, decide_eq_true_eq]; exact List.le_total a b
  exact (List.pairwise_mergeSort tr tot_ l).imp (fun h => of_decide_eq_true h)
theorem srt_perm (l : List S) : (srt l).Perm l := List.mergeSort_perm l _
theorem srt_of {l m : List S} (h : l.Pairwise (fun a b => a ≤ b)) (hp : l.Perm m) : l = srt m :=
  List.Perm.eq_of_pairwise (le := fun a b => a ≤ b) (fun a b _ _ h1 h2 => List.le_antisymm h1 h2) h (srt_le m) (hp.trans (srt_perm m).symm)
/-- the texts, in order -/
def srtB (l : List ByteArray) : List ByteArray := (srt (l.map tl)).map bs
theorem srtB_length (l : List ByteArray) : (srtB l).length = l.length := by
  unfold srtB srt
  rw [List.length_map, List.length_mergeSort, List.length_map]
theorem srtB_of {l m : List ByteArray} (h : (l.map tl).Pairwise (fun a b => a ≤ b)) (hp : l.Perm m) : l = srtB m := by
  unfold srtB
  rw [← srt_of h (hp.map tl), List.map_map]
  have : bs ∘ tl = id := funext bs_tl
  rw [this, List.map_id]
section
variable {V : Type}
/-- a row, in which the text at place q goes to the left -/
structure Ins (q : Nat) (L P : List (V × ByteArray)) : Prop where
  out : ∃ A x B, L = A ++ x :: B ∧ A.length = q ∧ ((A ++ B).map fun p => tl p.2).Pairwise (fun a b => a ≤ b) ∧ (∀ b ∈ B, tl x.2 ≤ tl b.2) ∧ L.Perm P
def Ord (L : List (V × ByteArray)) : Prop := (L.map fun p => tl p.2).Pairwise (fun a b => a ≤ b)
theorem Ins.start {L : List (V × ByteArray)} (h : Ord L) (x : V × ByteArray) : Ins L.length (L ++ [x]) (L ++ [x]) :=
  ⟨L, x, [], rfl, rfl, by rw [List.append_nil]; exact h, by simp, List.Perm.refl _⟩
theorem Ins.lt {q : Nat} {L P : List (V × ByteArray)} (h : Ins q L P) : q < L.length := by
  obtain ⟨A, x, B, rfl, rfl, _⟩ := h.out
  simp
theorem Ins.len {q : Nat} {L P : List (V × ByteArray)} (h : Ins q L P) : L.length = P.length := by
  obtain ⟨A, x, B, rfl, rfl, _, _, hp⟩ := h.out
  exact hp.length_eq
/-- it stands at its place -/
theorem Ins.stop {q : Nat} {L P : List (V × ByteArray)} (h : Ins q L P) (hs : q = 0 ∨ ∃ x y, L[q]? = some x ∧ L[q - 1]? = some y ∧ tl y.2 ≤ tl x.2) : Ord L := by
  obtain ⟨A, x, B, rfl, rfl, h1, h2, hp⟩ := h.out
  unfold Ord
  rw [List.map_append, List.pairwise_append] at h1
  obtain ⟨hA, hB, hAB⟩ := h1
  rw [List.map_append, List.map_cons, List.pairwise_append]
  refine ⟨hA, List.pairwise_cons.2 ⟨fun z hz => ?_, hB⟩, fun a ha b hb => ?_⟩
  · obtain ⟨p, hp, rfl⟩ := List.mem_map.1 hz
    exact h2 p hp
  · rcases List.mem_cons.1 hb with rfl | hb
    · rcases hs with h0 | ⟨x', y, e1, e2, hle⟩
      · have : A = [] := List.eq_nil_of_length_eq_zero h0
        subst this
        simp at ha
      · rw [List.getElem?_append_right (Nat.le_refl _), Nat.sub_self] at e1
        cases e1
        rcases List.eq_nil_or_concat A with rfl | ⟨A0, y', rfl⟩
        · simp at ha
        · have e3 : (A0.concat y' ++ x :: B)[(A0.concat y').length - 1]? = some y' := by
            rw [List.concat_eq_append, List.length_append, List.length_singleton, Nat.add_sub_cancel, List.append_assoc, List.getElem?_append_right (Nat.le_refl _), Nat.sub_self]
            rfl
          rw [e3] at e2
          cases e2
          rw [List.concat_eq_append, List.map_append, List.pairwise_append] at hA
          rw [List.concat_eq_append, List.map_append] at ha
          rcases List.mem_append.1 ha with ha | ha
          · exact List.le_trans (hA.2.2 a ha (tl y.2) (by simp)) hle
          · simp at ha
            subst ha
            exact hle
    · exact hAB a ha b hb
/-- a step to the left -/
theorem Ins.step {q : Nat} {L P : List (V × ByteArray)} (h : Ins (q + 1) L P) (x y : V × ByteArray) (e1 : L[q + 1]? = some x) (e2 : L[q]? = some y) (hlt : ¬ tl y.2 ≤ tl x.2) : Ins q ((L.set (q + 1) y).set q x) P := by
  obtain ⟨A, x', B, rfl, hA, h1, h2, hp⟩ := h.out
  rcases List.eq_nil_or_concat A with rfl | ⟨A0, y', rfl⟩
  · simp at hA
  rw [List.concat_eq_append] at *
  have hl : A0.length = q := by simpa using hA
  subst hl
  have e3 : (A0 ++ [y'] ++ x' :: B) = A0 ++ y' :: x' :: B := by simp
  rw [e3] at e1 e2 hp ⊢
  have : x' = x := by
    rw [List.getElem?_append_right (by omega)] at e1
    simpa using e1
  subst this
  have : y' = y := by
    rw [List.getElem?_append_right (by omega)] at e2
    simpa using e2
  subst this
  have e4 : ((A0 ++ y' :: x' :: B).set (A0.length + 1) y').set A0.length x' = A0 ++ x' :: y' :: B := by
    rw [List.set_append_right _ _ (by omega), List.set_append_right _ _ (by omega)]
    simp
  rw [e4]
  refine ⟨A0, x', y' :: B, rfl, rfl, ?_, fun b hb => ?_, ?_⟩
  · simpa using h1
  · rcases List.mem_cons.1 hb with rfl | hb
    · rcases List.le_total (tl x'.2) (tl b.2) with h | h
      · exact h
      · exact absurd h hlt
    · exact h2 b hb
  · refine List.Perm.trans ?_ hp
    exact List.Perm.append_left _ (List.Perm.swap _ _ _)
theorem Ins.at_ {q : Nat} {L P : List (V × ByteArray)} (h : Ins q L P) : ∃ x, L[q]? = some x := ⟨_, List.getElem?_eq_getElem h.lt⟩
theorem Ins.perm {q : Nat} {L P : List (V × ByteArray)} (h : Ins q L P) : L.Perm P := by
  obtain ⟨A, x', B, rfl, hA, h1, h2, hp⟩ := h.out
  exact hp
end
end Go.Proofs.YtpdhbpdfldfnhaaGreatDoor.Rk
/- of RgTxt -/
/- Texts that lie in memory as rows of bytes; rows of such texts. -/
namespace Go.Proofs.YtpdhbpdfldfnhaaGreatDoor.Rk
open Go Go.RowKit Go.Proofs.YtpdhbpdfldfnhaaGreatDoorW.PrintWords Go.Proofs.YtpdhbpdfldfnhaaGreatDoorW.PrintLast Go.Proofs.YtpdhbpdfldfnhaaGreatDoorW.PrintMore Go.Proofs.YtpdhbpdfldfnhaaGreatDoor.Rn
/-- an operation that runs and yields a value in another world -/
theorem runs_ {P : Program} {ops : Array Oper} {Q : Exit → Act → World → Prop} {oi : Oper} {N : Option Tmp} {a : Act} {w w' : World} {K : Act → World → Prop} {v : Value} (hw : Region.wanted oi (yielded ops a.tmps) = true) (hN : oi.dst = N) (hrun : (execOp a.eval oi).run P w = .ok (.value v) w')
    (h : K (a.put N v) w') : if Region.wanted oi (yielded ops a.tmps) = true then Oper.wp P oi a w K Q else K (a.put N undef) w := by
  rw [if_pos hw]
  subst hN
  unfold Oper.wp
  rw [hrun]
  exact h
theorem nums_str (s : ByteArray) : strOfNums (bytesOf s) = s := by
  unfold strOfNums bytesOf
  have : (s.data.toList.map fun b => (b.toNat : Int)).map (fun n => UInt8.ofNat n.toNat) = s.data.toList := by
    rw [List.map_map]
    have e : ((fun n : Int => UInt8.ofNat n.toNat) ∘ fun b : UInt8 => (b.toNat : Int)) = id := by
      funext b
      simp
    rw [e, List.map_id]
  rw [this]
def Txt (w : World) (u : Value) (s : ByteArray) : Prop := s.size ≤ 9223372036854775807 ∧ ∃ g c cs fr, u = .slice (some ⟨g, 0, none⟩) s.size c ∧ w.heap[g]? = some (.cells cs 5 fr) ∧ ∀ (j : Nat) x, (bytesOf s)[j]? = some x → cs[j]? = some (.int .u8 x)
theorem Txt.move {w w1 : World} {u : Value} {s : ByteArray} (h : Txt w u s) (hm : ∀ (g : Nat) (cs : Array Value) (fr : Nat × Nat), w.heap[g]? = some (.cells cs 5 fr) → w1.heap[g]? = w.heap[g]?) : Txt w1 u s := by
  obtain ⟨h0, g, c, cs, fr, rfl, hg, hc⟩ := h
  exact ⟨h0, g, c, cs, fr, rfl, (hm g cs fr hg).trans hg, hc⟩
theorem Txt.below {w w1 : World} {u : Value} {s : ByteArray} (h : Txt w u s) (hb : Below w.heap.size w w1) : Txt w1 u s := h.move fun g cs fr hg => hb.block g (blk_lt hg)
theorem Txt.grown {w w1 : World} {u : Value} {s : ByteArray} (h : Txt w u s) {row : Option Nat} (hg : w.grownBy w1 row) (hr : ∀ g, row = some g → ∃ cs t fr, w.heap[g]? = some (.cells cs t fr) ∧ t ≠ 5) : Txt w1 u s := h.move fun g cs fr hgg => hg.block g (blk_lt hgg) (fun e => by
  obtain ⟨cs', t, fr', h1, h2⟩ := hr g e.symm
  rw [hgg] at h1
  injection h1 with h1
  injection h1 with _ h1
  exact h2 h1.symm)
theorem Txt.conv {w : World} {u : Value} {s : ByteArray} (h : Txt w u s) : (convert 22 9 u).run Tryz.prog w = .ok (.string s) w := by
  obtain ⟨h0, g, c, cs, fr, rfl, hg, hc⟩ := h
  have hl := bytesOf_length s
  have hC : (Kd.int .u8).C w (some ⟨g, 0, none⟩) s.size (bytesOf s) := by
    refine Kd.C_of_reads (enc := Value.int .u8) (d := (0 : Int)) (h1 := fun _ => rfl) ⟨hl, h0, fun _ => ⟨_, rfl, fun j hj => ?_⟩⟩
    rw [add_plain, cell_of_row w g j cs 5 fr hg]
    have hjl : j < (bytesOf s).length := by omega
    rw [hc j _ (List.getElem?_eq_getElem hjl)]
    simp [List.getD, List.getElem?_eq_getElem hjl]
  have := Kd.C_string (P := Tryz.prog) (src := 22) (dst := 9) (c := c) Tryz.underlying22 Tryz.underlying5 Tryz.underlying9 hC
  rw [nums_str] at this
  exact this
theorem Txt.new (w : World) (s : ByteArray) (c : Nat) (hs : s.size ≤ 9223372036854775807) : Txt (Lib.bytesWorld w 5 s) (.slice (some ⟨w.heap.size, 0, none⟩) s.size c) s := by
  obtain ⟨cs, lo, hg, _, _, _, hc⟩ := BRow.new w s
  exact ⟨hs, w.heap.size, c, cs, _, rfl, hg, hc⟩
theorem Txt.one {w : World} {u : Value} {s : ByteArray} (h : Txt w u s) : u.oneCell' = true := by
  obtain ⟨h0, g, c, cs, fr, rfl, hg, hc⟩ := h
  rfl
/-- a row of texts -/
def Rows (w : World) (v : Value) (L : List ByteArray) : Prop := ∃ A c, v = .slice A L.length c ∧ L.length ≤ c ∧ ∀ (k : Nat) s, L[k]? = some s → ∃ ad u, A = some ad ∧ w.cell? (ad.add k) = some u ∧ Txt w u s
theorem Rows.below {w w1 : World} {v : Value} {L : List ByteArray} (h : Rows w v L) (hb : Below w.heap.size w w1) : Rows w1 v L := by
  obtain ⟨A, c, rfl, hl, hc⟩ := h
  refine ⟨A, c, rfl, hl, fun k s hk => ?_⟩
  obtain ⟨ad, u, e, h1, h2⟩ := hc k s hk
  exact ⟨ad, u, e, pw_cell_below hb h1, h2.below hb⟩
/-- a row of the call's own, and its texts -/
def Own (w : World) (base : Nat) (v : Value) (P : List (Value × ByteArray)) : Prop := w.ownsRow base 22 1 v P.length (P.map Prod.fst) ∧ ∀ p ∈ P, Txt w p.1 p.2
theorem Own.nil (w : World) (base : Nat) : Own w base (.slice none 0 0) [] := ⟨own_nil _ _ _ _, by simp⟩
theorem Own.below {w w1 : World} {base : Nat} {v : Value} {P : List (Value × ByteArray)} (h : Own w base v P) (hb : Below w.heap.size w w1) : Own w1 base v P := ⟨pw_own_below h.1 hb, fun p hp => (h.2 p hp).below hb⟩
theorem Own.rows {w : World} {base : Nat} {v : Value} {P : List (Value × ByteArray)} (h : Own w base v P) : Rows w v (P.map Prod.snd) := by
  rcases h.1.2 with ⟨e, h0⟩ | ⟨g, cap, cur, e, hg, hh, h1, h2, h3, h4⟩
  · have : P = [] := List.eq_nil_of_length_eq_zero h0
    subst this
    exact ⟨none, 0, by rw [e]; rfl, by simp, fun k s hk => by simp at hk⟩
  · refine ⟨some ⟨g, 0, none⟩, cap, by rw [e, List.length_map], by rw [List.length_map]; exact h1, fun k s hk => ?_⟩
    rw [List.getElem?_map, Option.map_eq_some_iff] at hk
    obtain ⟨p, hp, rfl⟩ := hk
    refine ⟨_, p.1, rfl, ?_, h.2 p (List.mem_of_getElem? hp)⟩
    exact h.1.cells (g := g) (by rw [e]; rfl) k p.1 (by rw [List.getElem?_map, hp]; rfl)
theorem Own.at_ {w : World} {base g n c : Nat} {P : List (Value × ByteArray)} (h : Own w base (.slice (some ⟨g, 0, none⟩) n c) P) (k : Nat) (p : Value × ByteArray) (hp : P[k]? = some p) : w.cell? ⟨g, k, none⟩ = some p.1 ∧ w.frozen? ⟨g, k, none⟩ = false ∧ Txt w p.1 p.2 := by
  refine ⟨?_, ?_, h.2 p (List.mem_of_getElem? hp)⟩
  · have := h.1.cells (g := g) rfl k p.1 (by rw [List.getElem?_map, hp]; rfl)
    rw [add_plain] at this
    exact this
  · obtain ⟨cells, hc⟩ := own_typed h.1 g rfl
    simp [World.frozen?, hc]
theorem Own.append {w w1 : World} {base : Nat} {v v1 : Value} {P : List (Value × ByteArray)} {p : Value × ByteArray} (h : Own w base v P) (hp : Txt w p.1 p.2) (ho : w1.ownsRow base 22 1 v1 (P.map Prod.fst ++ [p.1]).length (P.map Prod.fst ++ [p.1])) (hg : w.grownBy w1 v.ownBlock) : Own w1 base v1 (P ++ [p]) := by
  have hr : ∀ g, v.ownBlock = some g → ∃ cs t fr, w.heap[g]? = some (.cells cs t fr) ∧ t ≠ 5 := fun g e => by
    obtain ⟨cells, hc⟩ := own_typed h.1 g e
    exact ⟨cells, 22, _, hc, by decide⟩
  refine ⟨by simpa using ho, fun q hq => ?_⟩
  rcases List.mem_append.1 hq with hq | hq
  · exact (h.2 q hq).grown hg hr
  · rw [List.mem_singleton.1 hq]
    exact hp.grown hg hr
theorem Own.swap {w : World} {base g n c : Nat} {P : List (Value × ByteArray)} (h : Own w base (.slice (some ⟨g, 0, none⟩) n c) P) (q : Nat) (x y : Value × ByteArray) (hx : P[q + 1]? = some x) (hy : P[q]? = some y) :
    Own ((w.setCell ⟨g, q + 1, none⟩ y.1).setCell ⟨g, q, none⟩ x.1) base (.slice (some ⟨g, 0, none⟩) n c) ((P.set (q + 1) y).set q x) ∧ ∀ B w0, Below B w0 w → base = B → Below B w0 ((w.setCell ⟨g, q + 1, none⟩ y.1).setCell ⟨g, q, none⟩ x.1) := by
  have hn : n = P.length := by
    rcases h.1.2 with ⟨e, h0⟩ | ⟨g', cap, cur, e, hg, hh, h1, h2, h3, h4⟩
    · cases e
    · cases e
      rfl
  subst hn
  have hgb : base ≤ g := own_base h.1 g rfl
  obtain ⟨o1, g1⟩ := h.1.stored (q + 1) y.1
  obtain ⟨o2, g2⟩ := o1.stored q x.1
  have hx2 := h.2 x (List.mem_of_getElem? hx)
  have hy2 := h.2 y (List.mem_of_getElem? hy)
  have r1 : ∀ k, some g = some k → ∃ cs t fr, w.heap[k]? = some (.cells cs t fr) ∧ t ≠ 5 := fun k e => by
    cases e
    obtain ⟨cells, hc⟩ := own_typed h.1 g rfl
    exact ⟨cells, 22, _, hc, by decide⟩
  have r2 : ∀ k, some g = some k → ∃ cs t fr, (w.setCell ⟨g, q + 1, none⟩ y.1).heap[k]? = some (.cells cs t fr) ∧ t ≠ 5 := fun k e => by
    cases e
    obtain ⟨cells, hc⟩ := own_typed o1 g rfl
    exact ⟨cells, 22, _, hc, by decide⟩
  have e : (((P.set (q + 1) y).set q x).map Prod.fst) = (((P.map Prod.fst).set (q + 1) y.1).set q x.1) := by rw [List.map_set, List.map_set]
  refine ⟨⟨?_, fun p hp => ?_⟩, fun B w0 hB hb => ?_⟩
  · rw [e]
    simpa using o2
  · have : p ∈ P := by
      rcases List.mem_or_eq_of_mem_set hp with hp | rfl
      · rcases List.mem_or_eq_of_mem_set hp with hp | rfl
        · exact hp
        · exact List.mem_of_getElem? hy
      · exact List.mem_of_getElem? hx
    exact ((h.2 p this).grown g1 r1).grown g2 r2
  · subst hb
    exact (hB.setCell hgb _).setCell hgb _
end Go.Proofs.YtpdhbpdfldfnhaaGreatDoor.Rk
/- of RgSorted -/
/- The document's sorted, walked: rows of bytes in the order of their bytes (written by sortedgen.py). -/
namespace Go.Proofs.YtpdhbpdfldfnhaaGreatDoor.Rk
open Go Go.RowKit Go.Proofs.YtpdhbpdfldfnhaaGreatDoorW.PrintWords Go.Proofs.YtpdhbpdfldfnhaaGreatDoorW.PrintLast Go.Proofs.YtpdhbpdfldfnhaaGreatDoorW.PrintMore Go.Proofs.YtpdhbpdfldfnhaaGreatDoor.Rn
theorem info22 : (Tryz.prog.info? 22).map (fun i => (i.zero, i.size, i.bytes)) = some (some (.slice none 0 0), 1, 24) := by kernel_rfl
theorem info22s : (Tryz.prog.info? 22).map (·.size) = some 1 := by kernel_rfl
theorem Own.some_ {w : World} {base : Nat} {v : Value} {P : List (Value × ByteArray)} (h : Own w base v P) (h0 : 0 < P.length) : ∃ g m c, v = .slice (some ⟨g, 0, none⟩) m c ∧ m = P.length := by
  rcases h.1.2 with ⟨e, h1⟩ | ⟨g', cap, cur, e, hg, hh, h1, h2, h3, h4⟩
  · omega
  · exact ⟨g', _, cap, e, rfl⟩
theorem drewC {w : World} {A B : Addr} {u v : Value} {s t : ByteArray} (h : w.cell? A = some u ∧ w.cell? B = some v ∧ (convert 22 9 u).run Tryz.prog w = .ok (.string s) w ∧ (convert 22 9 v).run Tryz.prog w = .ok (.string t) w) (hu : ∀ W, Below w.heap.size w W → (convert 22 9 u).run Tryz.prog W = .ok (.string s) W) (hv : ∀ W, Below w.heap.size w W → (convert 22 9 v).run Tryz.prog W = .ok (.string t) W) :
    w.drew.cell? A = some u ∧ w.drew.cell? B = some v ∧ (convert 22 9 u).run Tryz.prog w.drew = .ok (.string s) w.drew ∧ (convert 22 9 v).run Tryz.prog w.drew = .ok (.string t) w.drew :=
  ⟨h.1, h.2.1, hu _ (below_drew1 (Below.refl _ _)), hv _ (below_drew1 (Below.refl _ _))⟩
theorem Txt.slice_ {w : World} {u : Value} {s : ByteArray} (h : Txt w u s) : ∃ g z c, u = .slice (some ⟨g, 0, none⟩) z c := by
  obtain ⟨_, g, c, _, _, e, _⟩ := h
  exact ⟨g, _, c, e⟩
set_option maxHeartbeats 4000000 in
set_option maxRecDepth 100000 in
theorem sorted_walk (ad : Addr) (n c : Nat) (L : List ByteArray) (w : World) (hn : L.length = n) (hc : n ≤ c) (hr : ∀ (k : Nat) s, L[k]? = some s → ∃ u, w.cell? (ad.add k) = some u ∧ Txt w u s) (hl : n ≤ 1000000) :
    Calls Tryz.prog 45 #[.slice (some ad) n c] w fun e w' => ∃ v', e = .returned v' ∧ Rows w' v' (srtB L) ∧ Below w.heap.size w w' := by
  have HL := Aside0.mk hr
  have HN := Aside0.mk hn
  clear hr hn
  go_enter Tryz.func45, Tryz.ntmps45
  go_wp2
  go_loopw [3, 4] (fun o i wr => ∃ (P : List (Value × ByteArray)) (k : Nat), i = .int .i64 k ∧ Aside0 (P.length = k ∧ k ≤ n ∧ Own wr w.heap.size o P ∧ Below w.heap.size w wr ∧ Ord P ∧ (P.map Prod.snd).Perm (L.take k))) (fun _ i _ => n - (intOf i).toNat)
  case atStart => exact ⟨[], 0, rfl, ⟨rfl, Nat.zero_le _, Own.nil _ _, Below.refl _ _, by simp [Ord], by simp⟩⟩
  case round =>
    obtain ⟨P, k, rfl, HR⟩ := hrel
    by_cases hlt : k < n
    · obtain ⟨s, hs⟩ : ∃ s, L[k]? = some s := ⟨_, List.getElem?_eq_getElem (by rw [HN.out]; exact hlt)⟩
      obtain ⟨u, hcell0, ht0⟩ := HL.out k s hs
      obtain ⟨g0, z0, c0, rfl⟩ := ht0.slice_
      have hcell := pw_cell_below HR.out.2.2.2.1 hcell0
      have HT := Aside0.mk (ht0.below HR.out.2.2.2.1)
      have HS := Aside0.mk hs
      have HO := Aside0.mk (show wr.ownsRow w.heap.size 22 1 u3 (P.map Prod.fst).length (P.map Prod.fst) by rw [List.length_map]; exact HR.out.2.2.1.1)
      have HPl := Aside0.mk (show ((P.map Prod.fst).length + 1) * 24 ≤ 140737488355328 by rw [List.length_map, HR.out.1]; omega)
      have p1 : ((k : Int) < (n : Int)) = True := by simpa using hlt
      have p2 : (0 ≤ (k : Int)) = True := by simp
      clear hcell0 ht0 hs
      go_wp2_with
       (at_builtin; refine print_append (w0 := w) w.heap.size rfl (.tmp 12) (.tmp 17) 51 22 (.slice none 0 0) 24 rfl Tryz.underlying51 info22 rfl (by decide) u3 (P.map Prod.fst) (.slice (some ⟨g0, 0, none⟩) z0 c0) ?ap1 ?ap2 HT.out.one ?ap3 ?ap4 ?ap5 HPl.out ?_; (case ap1 => rfl); (case ap2 => rfl); (case ap3 => exact HO.out); (case ap4 => exact HR.out.2.2.2.1); (case ap5 => exact HR.out.2.2.2.1.size); intro v1 w1 hown hbl hgrow hat
        have hO := HR.out.2.2.1.append (p := (.slice (some ⟨g0, 0, none⟩) z0 c0, s)) HT.out hown hgrow
        obtain ⟨g, m, cap, rfl, hm⟩ := hO.some_ (by simp)
        have HM := Aside0.mk (show m = k + 1 by rw [hm, List.length_append, HR.out.1]; rfl)
        have HX := Aside0.mk (And.intro hO hbl)
        have hm1 : 1 ≤ m := by rw [HM.out]; omega
        have hm2 : m ≤ 1000001 := by rw [HM.out]; omega
        clear hown hbl hgrow hat hO hcell hm)
      go_loopw [5] (fun j wx => ∃ (q : Nat), j = .int .i64 q ∧ Aside0 (∃ Q, q ≤ k ∧ Own wx w.heap.size (.slice (some ⟨g, 0, none⟩) m cap) Q ∧ Below w.heap.size w wx ∧ Ins q Q (P ++ [(.slice (some ⟨g0, 0, none⟩) z0 c0, s)]))) (fun j _ => (intOf j).toNat)
      case atStart => exact ⟨k, by rw [show (k : Int) = (m : Int) - 1 by rw [HM.out]; omega], ⟨P ++ [(.slice (some ⟨g0, 0, none⟩) z0 c0, s)], Nat.le_refl _, HX.out.1, HX.out.2, by have := Ins.start HR.out.2.2.2.2.1 (.slice (some ⟨g0, 0, none⟩) z0 c0, s); rw [HR.out.1] at this; exact this⟩⟩
      case round =>
        obtain ⟨q, rfl, HI⟩ := hrel
        have fin : ∀ (Q : List (Value × ByteArray)), Ins q Q (P ++ [(.slice (some ⟨g0, 0, none⟩) z0 c0, s)]) → Ord Q → Q.length = k + 1 ∧ (Q.map Prod.snd).Perm (L.take (k + 1)) := fun Q hQ ho => by
          refine ⟨by rw [hQ.len, List.length_append, HR.out.1]; rfl, (hQ.perm.map Prod.snd).trans ?_⟩
          rw [List.map_append, List.take_add_one, HS.out]
          exact List.Perm.append HR.out.2.2.2.2.2 (List.Perm.refl _)
        have FIN := Aside0.mk fin
        clear fin
        by_cases hq : q = 0
        · have p3 : (0 < (q : Int)) = False := by simp [hq]
          have p4 : decide (0 < (q : Int)) = false := by simp [hq]
          have p5 : decide (0 < q) = false := by simp [hq]
          have HQ := Aside0.mk hq
          clear hq
          go_wp2
          go_quiet (fail)
          go_wp2
          go_roundw
          case rel =>
            obtain ⟨Q, hq0, hO, hB, hI⟩ := HI.out
            have ho := hI.stop (.inl HQ.out)
            obtain ⟨f1, f2⟩ := FIN.out Q hI ho
            exact ⟨Q, k + 1, by go_num, ⟨f1, by omega, hO.below (pw_below_drewN (Below.refl _ _) _), pw_below_drewN hB _, ho, f2⟩⟩
          case measure => simp [intOf]; omega
        · obtain ⟨p, rfl⟩ : ∃ p, q = p + 1 := ⟨q - 1, by omega⟩
          clear hq
          obtain ⟨Q, hq0, hO, hB, hI⟩ := HI.out
          obtain ⟨x, hx⟩ := hI.at_
          obtain ⟨y, hy⟩ : ∃ y, Q[p]? = some y := ⟨_, List.getElem?_eq_getElem (by have := hI.lt; omega)⟩
          obtain ⟨cx, fx, tx⟩ := hO.at_ (p + 1) x hx
          obtain ⟨cy, fy, ty⟩ := hO.at_ p y hy
          have kx := tx.conv
          have ky := ty.conv
          have kx2 := fun W (hW : Below wr.heap.size wr W) => (tx.below hW).conv
          have ky2 := fun W (hW : Below wr.heap.size wr W) => (ty.below hW).conv
          obtain ⟨⟨gx, zx, qx, ex⟩, ⟨gy, zy, qy, ey⟩⟩ := And.intro tx.slice_ ty.slice_
          obtain ⟨xv, xs⟩ := x
          obtain ⟨yv, ys⟩ := y
          simp only at ex ey cx cy kx ky kx2 ky2
          subst ex ey
          have HQ := Aside0.mk (And.intro hO (And.intro hB (And.intro hI (And.intro hx (And.intro hy (And.intro hq0 (And.intro fx fy)))))))
          have HC := Aside0.mk (drewC (And.intro cx (And.intro cy (And.intro kx ky))) kx2 ky2)
          have p3 : (0 < (p : Int) + 1) = True := eq_true (by omega)
          have p4 : decide (0 < (p : Int) + 1) = true := decide_eq_true (by omega)
          have p5 : (p : Int) + 1 < (m : Int) := by have := HM.out; omega
          have p7 : 0 ≤ (p : Int) + 1 := by omega
          have p8 : wrap64 (p : Int) = (p : Int) := by have := HQ.out.2.2.2.2.2.1; unfold wrap64; omega
          have p9 : (p : Int) < (m : Int) := by have := HM.out; omega
          have p10 : p < m := by have := HM.out; omega
          have p6 : p + 1 < m := by have := HM.out; omega
          clear hO hB hI hx hy hq0 fx fy cx cy kx ky kx2 ky2 tx ty HI
          go_wp2
          refine start_ (n := 16) (S := fun w' => w'.cell? ⟨g, p + 1, none⟩ = some (.slice (some ⟨gx, 0, none⟩) zx qx) ∧ w'.cell? ⟨g, p, none⟩ = some (.slice (some ⟨gy, 0, none⟩) zy qy) ∧ (convert 22 9 (.slice (some ⟨gx, 0, none⟩) zx qx)).run Tryz.prog w' = .ok (.string xs) w' ∧ (convert 22 9 (.slice (some ⟨gy, 0, none⟩) zy qy)).run Tryz.prog w' = .ok (.string ys) w') (ds := []) #[false, false, false, false, false, false, false, false, false, false, false, false, false, false, false, false] (by kernel_rfl) rfl rfl HC.out (fun hHeld => ?_)
          refine pure_ (i := 0) (N := some 22) (v := ?_) (a' := ?_) #[true, false, false, false, false, false, false, false, false, false, false, false, false, false, false, false] rfl rfl (by kernel_rfl) (fun _ _ _ h => h) (Or.inl ⟨by rfl, ?_⟩) ?_ ?_
          rotate_left
          · intro w'
            first | (go_simp; with_reducible rfl) | (go_simp; done) | (go_simp; trace_state; fail)
          rotate_left
          · simp only [Act.put, List.setIfInBounds_toArray, List.set_cons_zero, List.set_cons_succ, i64_w, i32_w]
            rfl
          refine pure_ (i := 1) (N := some 23) (v := ?_) (a' := ?_) #[true, true, false, false, false, false, false, false, false, false, false, false, false, false, false, false] rfl rfl (by kernel_rfl) (fun _ _ _ h => h) (Or.inl ⟨by rfl, ?_⟩) ?_ ?_
          rotate_left
          · intro w'
            first | (go_simp; with_reducible rfl) | (go_simp; done) | (go_simp; trace_state; fail)
          rotate_left
          · simp only [Act.put, List.setIfInBounds_toArray, List.set_cons_zero, List.set_cons_succ, i64_w, i32_w]
            rfl
          refine pure_ (i := 2) (N := some 24) (v := ?_) (a' := ?_) #[true, true, true, false, false, false, false, false, false, false, false, false, false, false, false, false] rfl rfl (by kernel_rfl) (fun _ _ _ h => h) (Or.inl ⟨by rfl, ?_⟩) ?_ ?_
          rotate_left
          · intro w'
            first | (go_simp; with_reducible rfl) | (go_simp; done) | (go_simp; trace_state; fail)
          rotate_left
          · simp only [Act.put, List.setIfInBounds_toArray, List.set_cons_zero, List.set_cons_succ, i64_w, i32_w]
            rfl
          refine pure_ (i := 3) (N := some 25) (v := ?_) (a' := ?_) #[true, true, true, true, false, false, false, false, false, false, false, false, false, false, false, false] rfl rfl (by kernel_rfl) (fun _ _ _ h => h) (Or.inl ⟨by rfl, ?_⟩) ?_ ?_
          rotate_left
          · intro w'
            first | (go_simp; with_reducible rfl) | (go_simp; done) | (go_simp; trace_state; fail)
          rotate_left
          · simp only [Act.put, List.setIfInBounds_toArray, List.set_cons_zero, List.set_cons_succ, i64_w, i32_w]
            rfl
          refine pure_ (i := 4) (N := some 26) (v := ?_) (a' := ?_) #[true, true, true, true, true, false, false, false, false, false, false, false, false, false, false, false] rfl rfl (by kernel_rfl) (fun _ _ _ h => h) (Or.inl ⟨by rfl, ?_⟩) ?_ ?_
          rotate_left
          · intro w'
            first | (go_simp; with_reducible rfl) | (go_simp; done) | (go_simp; trace_state; fail)
          rotate_left
          · simp only [Act.put, List.setIfInBounds_toArray, List.set_cons_zero, List.set_cons_succ, i64_w, i32_w]
            rfl
          refine pure_ (i := 5) (N := some 27) (v := ?_) (a' := ?_) #[true, true, true, true, true, true, false, false, false, false, false, false, false, false, false, false] rfl rfl (by kernel_rfl) (fun _ _ _ h => h) (Or.inl ⟨by rfl, ?_⟩) ?_ ?_
          rotate_left
          · intro w'
            first | (go_simp; with_reducible rfl) | (go_simp; done) | (go_simp; trace_state; fail)
          rotate_left
          · simp only [Act.put, List.setIfInBounds_toArray, List.set_cons_zero, List.set_cons_succ, i64_w, i32_w]
            rfl
          refine take_ (i := 6) (N := some 28) (v := ?_) (a' := ?_) #[true, true, true, true, true, true, true, false, false, false, false, false, false, false, false, false] rfl rfl (by kernel_rfl) (fun _ _ _ h => h) (Or.inl ⟨by rfl, ?_⟩) hHeld ?_ ?_
          rotate_left
          · rintro w' ⟨s0, s1, s2, s3⟩
            first | (go_simp; with_reducible rfl) | (go_simp; done) | (go_simp; trace_state; fail)
          rotate_left
          · simp only [Act.put, List.setIfInBounds_toArray, List.set_cons_zero, List.set_cons_succ, i64_w, i32_w]
            rfl
          refine take_ (i := 7) (N := some 29) (v := ?_) (a' := ?_) #[true, true, true, true, true, true, true, true, false, false, false, false, false, false, false, false] rfl rfl (by kernel_rfl) (fun _ _ _ h => h) (Or.inl ⟨by rfl, ?_⟩) hHeld ?_ ?_
          rotate_left
          · rintro w' ⟨s0, s1, s2, s3⟩
            first | (go_simp; with_reducible rfl) | (go_simp; done) | exact s2
          rotate_left
          · simp only [Act.put, List.setIfInBounds_toArray, List.set_cons_zero, List.set_cons_succ, i64_w, i32_w]
            rfl
          refine pure_ (i := 8) (N := some 30) (v := ?_) (a' := ?_) #[true, true, true, true, true, true, true, true, true, false, false, false, false, false, false, false] rfl rfl (by kernel_rfl) (fun _ _ _ h => h) (Or.inl ⟨by rfl, ?_⟩) ?_ ?_
          rotate_left
          · intro w'
            first | (go_simp; with_reducible rfl) | (go_simp; done) | (go_simp; trace_state; fail)
          rotate_left
          · simp only [Act.put, List.setIfInBounds_toArray, List.set_cons_zero, List.set_cons_succ, i64_w, i32_w]
            rfl
          refine pure_ (i := 9) (N := some 31) (v := ?_) (a' := ?_) #[true, true, true, true, true, true, true, true, true, true, false, false, false, false, false, false] rfl rfl (by kernel_rfl) (fun _ _ _ h => h) (Or.inl ⟨by rfl, ?_⟩) ?_ ?_
          rotate_left
          · intro w'
            first | (go_simp; with_reducible rfl) | (go_simp; done) | (go_simp; trace_state; fail)
          rotate_left
          · simp only [Act.put, List.setIfInBounds_toArray, List.set_cons_zero, List.set_cons_succ, i64_w, i32_w]
            rfl
          refine pure_ (i := 10) (N := some 32) (v := ?_) (a' := ?_) #[true, true, true, true, true, true, true, true, true, true, true, false, false, false, false, false] rfl rfl (by kernel_rfl) (fun _ _ _ h => h) (Or.inl ⟨by rfl, ?_⟩) ?_ ?_
          rotate_left
          · intro w'
            first | (go_simp; with_reducible rfl) | (go_simp; done) | (go_simp; trace_state; fail)
          rotate_left
          · simp only [Act.put, List.setIfInBounds_toArray, List.set_cons_zero, List.set_cons_succ, i64_w, i32_w]
            rfl
          refine pure_ (i := 11) (N := some 33) (v := ?_) (a' := ?_) #[true, true, true, true, true, true, true, true, true, true, true, true, false, false, false, false] rfl rfl (by kernel_rfl) (fun _ _ _ h => h) (Or.inl ⟨by rfl, ?_⟩) ?_ ?_
          rotate_left
          · intro w'
            first | (go_simp; with_reducible rfl) | (go_simp; done) | (go_simp; trace_state; fail)
          rotate_left
          · simp only [Act.put, List.setIfInBounds_toArray, List.set_cons_zero, List.set_cons_succ, i64_w, i32_w]
            rfl
          refine take_ (i := 12) (N := some 34) (v := ?_) (a' := ?_) #[true, true, true, true, true, true, true, true, true, true, true, true, true, false, false, false] rfl rfl (by kernel_rfl) (fun _ _ _ h => h) (Or.inl ⟨by rfl, ?_⟩) hHeld ?_ ?_
          rotate_left
          · rintro w' ⟨s0, s1, s2, s3⟩
            first | (go_simp; with_reducible rfl) | (go_simp; done) | (go_simp; trace_state; fail)
          rotate_left
          · simp only [Act.put, List.setIfInBounds_toArray, List.set_cons_zero, List.set_cons_succ, i64_w, i32_w]
            rfl
          refine take_ (i := 13) (N := some 35) (v := ?_) (a' := ?_) #[true, true, true, true, true, true, true, true, true, true, true, true, true, true, false, false] rfl rfl (by kernel_rfl) (fun _ _ _ h => h) (Or.inl ⟨by rfl, ?_⟩) hHeld ?_ ?_
          rotate_left
          · rintro w' ⟨s0, s1, s2, s3⟩
            first | (go_simp; with_reducible rfl) | (go_simp; done) | exact s3
          rotate_left
          · simp only [Act.put, List.setIfInBounds_toArray, List.set_cons_zero, List.set_cons_succ, i64_w, i32_w]
            rfl
          refine pure_ (i := 14) (N := some 36) (v := ?_) (a' := ?_) #[true, true, true, true, true, true, true, true, true, true, true, true, true, true, true, false] rfl rfl (by kernel_rfl) (fun _ _ _ h => h) (Or.inl ⟨by rfl, ?_⟩) ?_ ?_
          rotate_left
          · intro w'
            first | (go_simp; with_reducible rfl) | (go_simp; done) | (go_simp; trace_state; fail)
          rotate_left
          · simp only [Act.put, List.setIfInBounds_toArray, List.set_cons_zero, List.set_cons_succ, i64_w, i32_w]
            rfl
          refine pure_ (i := 15) (N := some 37) (v := ?_) (a' := ?_) #[true, true, true, true, true, true, true, true, true, true, true, true, true, true, true, true] rfl rfl (by kernel_rfl) (fun _ _ _ h => h) (Or.inl ⟨by rfl, ?_⟩) ?_ ?_
          rotate_left
          · intro w'
            first | (go_simp; with_reducible rfl) | (go_simp; done) | (go_simp; trace_state; fail)
          rotate_left
          · simp only [Act.put, List.setIfInBounds_toArray, List.set_cons_zero, List.set_cons_succ, i64_w, i32_w]
            rfl
          refine done_ (by kernel_rfl) ?_
          have O9 := Aside0.mk (HQ.out.1.below (below_drew1 (Below.refl wr.heap.size wr)))
          have B9 := Aside0.mk (below_drew1 HQ.out.2.1)
          have I9 := Aside0.mk HQ.out.2.2
          clear HQ HC
          generalize wr.drew = w10 at hHeld O9 B9 ⊢
          obtain ⟨cx, cy, _, _⟩ := hHeld
          have fx := (O9.out.at_ (p + 1) _ I9.out.2.1).2.1
          have fy := (O9.out.at_ p _ I9.out.2.2.1).2.1
          cases hb : Op.bytesLess xs.toList ys.toList with
          | true =>
            go_wp2
            refine start_ (n := 18) (S := fun w' => w'.cell? ⟨g, p + 1, none⟩ = some (.slice (some ⟨gx, 0, none⟩) zx qx) ∧ w'.cell? ⟨g, p, none⟩ = some (.slice (some ⟨gy, 0, none⟩) zy qy)) (ds := [15, 17]) #[false, false, false, false, false, false, false, false, false, false, false, false, false, false, false, false, false, false] (by kernel_rfl) rfl rfl ⟨cx, cy⟩ (fun hHeld => ?_)
            have O8 := Aside0.mk (O9.out.below (below_drew1 (Below.refl w10.heap.size w10)))
            have B8 := Aside0.mk (below_drew1 B9.out)
            clear O9 B9 cx cy fx fy hHeld
            generalize w10.drew = w9 at O8 B8 ⊢
            have O9 := O8
            have B9 := B8
            clear O8 B8
            have hHeld := And.intro (O9.out.at_ (p + 1) _ I9.out.2.1).1 (O9.out.at_ p _ I9.out.2.2.1).1
            have fx := (O9.out.at_ (p + 1) _ I9.out.2.1).2.1
            have fy := (O9.out.at_ p _ I9.out.2.2.1).2.1
            obtain ⟨cx, cy⟩ := And.intro hHeld.1 hHeld.2
            refine pure_ (i := 0) (N := some 40) (v := ?_) (a' := ?_) #[true, false, false, false, false, false, false, false, false, false, false, false, false, false, false, false, false, false] rfl rfl (by kernel_rfl) (fun _ _ _ h => h) (Or.inl ⟨by rfl, ?_⟩) ?_ ?_
            rotate_left
            · intro w'
              first | (go_simp; with_reducible rfl) | (go_simp; done) | (go_simp; trace_state; fail)
            rotate_left
            · simp only [Act.put, List.setIfInBounds_toArray, List.set_cons_zero, List.set_cons_succ, i64_w, i32_w]
              rfl
            refine pure_ (i := 1) (N := some 41) (v := ?_) (a' := ?_) #[true, true, false, false, false, false, false, false, false, false, false, false, false, false, false, false, false, false] rfl rfl (by kernel_rfl) (fun _ _ _ h => h) (Or.inl ⟨by rfl, ?_⟩) ?_ ?_
            rotate_left
            · intro w'
              first | (go_simp; with_reducible rfl) | (go_simp; done) | (go_simp; trace_state; fail)
            rotate_left
            · simp only [Act.put, List.setIfInBounds_toArray, List.set_cons_zero, List.set_cons_succ, i64_w, i32_w]
              rfl
            refine pure_ (i := 2) (N := some 42) (v := ?_) (a' := ?_) #[true, true, true, false, false, false, false, false, false, false, false, false, false, false, false, false, false, false] rfl rfl (by kernel_rfl) (fun _ _ _ h => h) (Or.inl ⟨by rfl, ?_⟩) ?_ ?_
            rotate_left
            · intro w'
              first | (go_simp; with_reducible rfl) | (go_simp; done) | (go_simp; trace_state; fail)
            rotate_left
            · simp only [Act.put, List.setIfInBounds_toArray, List.set_cons_zero, List.set_cons_succ, i64_w, i32_w]
              rfl
            refine pure_ (i := 3) (N := some 43) (v := ?_) (a' := ?_) #[true, true, true, true, false, false, false, false, false, false, false, false, false, false, false, false, false, false] rfl rfl (by kernel_rfl) (fun _ _ _ h => h) (Or.inl ⟨by rfl, ?_⟩) ?_ ?_
            rotate_left
            · intro w'
              first | (go_simp; with_reducible rfl) | (go_simp; done) | (go_simp; trace_state; fail)
            rotate_left
            · simp only [Act.put, List.setIfInBounds_toArray, List.set_cons_zero, List.set_cons_succ, i64_w, i32_w]
              rfl
            refine pure_ (i := 4) (N := some 44) (v := ?_) (a' := ?_) #[true, true, true, true, true, false, false, false, false, false, false, false, false, false, false, false, false, false] rfl rfl (by kernel_rfl) (fun _ _ _ h => h) (Or.inl ⟨by rfl, ?_⟩) ?_ ?_
            rotate_left
            · intro w'
              first | (go_simp; with_reducible rfl) | (go_simp; done) | (go_simp; trace_state; fail)
            rotate_left
            · simp only [Act.put, List.setIfInBounds_toArray, List.set_cons_zero, List.set_cons_succ, i64_w, i32_w]
              rfl
            refine pure_ (i := 5) (N := some 45) (v := ?_) (a' := ?_) #[true, true, true, true, true, true, false, false, false, false, false, false, false, false, false, false, false, false] rfl rfl (by kernel_rfl) (fun _ _ _ h => h) (Or.inl ⟨by rfl, ?_⟩) ?_ ?_
            rotate_left
            · intro w'
              first | (go_simp; with_reducible rfl) | (go_simp; done) | (go_simp; trace_state; fail)
            rotate_left
            · simp only [Act.put, List.setIfInBounds_toArray, List.set_cons_zero, List.set_cons_succ, i64_w, i32_w]
              rfl
            refine pure_ (i := 6) (N := some 46) (v := ?_) (a' := ?_) #[true, true, true, true, true, true, true, false, false, false, false, false, false, false, false, false, false, false] rfl rfl (by kernel_rfl) (fun _ _ _ h => h) (Or.inl ⟨by rfl, ?_⟩) ?_ ?_
            rotate_left
            · intro w'
              first | (go_simp; with_reducible rfl) | (go_simp; done) | (go_simp; trace_state; fail)
            rotate_left
            · simp only [Act.put, List.setIfInBounds_toArray, List.set_cons_zero, List.set_cons_succ, i64_w, i32_w]
              rfl
            refine pure_ (i := 7) (N := some 47) (v := ?_) (a' := ?_) #[true, true, true, true, true, true, true, true, false, false, false, false, false, false, false, false, false, false] rfl rfl (by kernel_rfl) (fun _ _ _ h => h) (Or.inl ⟨by rfl, ?_⟩) ?_ ?_
            rotate_left
            · intro w'
              first | (go_simp; with_reducible rfl) | (go_simp; done) | (go_simp; trace_state; fail)
            rotate_left
            · simp only [Act.put, List.setIfInBounds_toArray, List.set_cons_zero, List.set_cons_succ, i64_w, i32_w]
              rfl
            refine pure_ (i := 8) (N := some 48) (v := ?_) (a' := ?_) #[true, true, true, true, true, true, true, true, true, false, false, false, false, false, false, false, false, false] rfl rfl (by kernel_rfl) (fun _ _ _ h => h) (Or.inl ⟨by rfl, ?_⟩) ?_ ?_
            rotate_left
            · intro w'
              first | (go_simp; with_reducible rfl) | (go_simp; done) | (go_simp; trace_state; fail)
            rotate_left
            · simp only [Act.put, List.setIfInBounds_toArray, List.set_cons_zero, List.set_cons_succ, i64_w, i32_w]
              rfl
            refine take_ (i := 9) (N := some 49) (v := ?_) (a' := ?_) #[true, true, true, true, true, true, true, true, true, true, false, false, false, false, false, false, false, false] rfl rfl (by kernel_rfl) (fun _ _ _ h => h) (Or.inl ⟨by rfl, ?_⟩) hHeld ?_ ?_
            rotate_left
            · rintro w' ⟨s0, s1⟩
              first | (go_simp; with_reducible rfl) | (go_simp; done) | (go_simp; trace_state; fail)
            rotate_left
            · simp only [Act.put, List.setIfInBounds_toArray, List.set_cons_zero, List.set_cons_succ, i64_w, i32_w]
              rfl
            refine pure_ (i := 10) (N := some 50) (v := ?_) (a' := ?_) #[true, true, true, true, true, true, true, true, true, true, true, false, false, false, false, false, false, false] rfl rfl (by kernel_rfl) (fun _ _ _ h => h) (Or.inl ⟨by rfl, ?_⟩) ?_ ?_
            rotate_left
            · intro w'
              first | (go_simp; with_reducible rfl) | (go_simp; done) | (go_simp; trace_state; fail)
            rotate_left
            · simp only [Act.put, List.setIfInBounds_toArray, List.set_cons_zero, List.set_cons_succ, i64_w, i32_w]
              rfl
            refine pure_ (i := 11) (N := some 51) (v := ?_) (a' := ?_) #[true, true, true, true, true, true, true, true, true, true, true, true, false, false, false, false, false, false] rfl rfl (by kernel_rfl) (fun _ _ _ h => h) (Or.inl ⟨by rfl, ?_⟩) ?_ ?_
            rotate_left
            · intro w'
              first | (go_simp; with_reducible rfl) | (go_simp; done) | (go_simp; trace_state; fail)
            rotate_left
            · simp only [Act.put, List.setIfInBounds_toArray, List.set_cons_zero, List.set_cons_succ, i64_w, i32_w]
              rfl
            refine pure_ (i := 12) (N := some 52) (v := ?_) (a' := ?_) #[true, true, true, true, true, true, true, true, true, true, true, true, true, false, false, false, false, false] rfl rfl (by kernel_rfl) (fun _ _ _ h => h) (Or.inl ⟨by rfl, ?_⟩) ?_ ?_
            rotate_left
            · intro w'
              first | (go_simp; with_reducible rfl) | (go_simp; done) | (go_simp; trace_state; fail)
            rotate_left
            · simp only [Act.put, List.setIfInBounds_toArray, List.set_cons_zero, List.set_cons_succ, i64_w, i32_w]
              rfl
            refine take_ (i := 13) (N := some 53) (v := ?_) (a' := ?_) #[true, true, true, true, true, true, true, true, true, true, true, true, true, true, false, false, false, false] rfl rfl (by kernel_rfl) (fun _ _ _ h => h) (Or.inl ⟨by rfl, ?_⟩) hHeld ?_ ?_
            rotate_left
            · rintro w' ⟨s0, s1⟩
              first | (go_simp; with_reducible rfl) | (go_simp; done) | (go_simp; trace_state; fail)
            rotate_left
            · simp only [Act.put, List.setIfInBounds_toArray, List.set_cons_zero, List.set_cons_succ, i64_w, i32_w]
              rfl
            refine pure_ (i := 14) (N := some 54) (v := ?_) (a' := ?_) #[true, true, true, true, true, true, true, true, true, true, true, true, true, true, true, false, false, false] rfl rfl (by kernel_rfl) (fun _ _ _ h => h) (Or.inl ⟨by rfl, ?_⟩) ?_ ?_
            rotate_left
            · intro w'
              first | (go_simp; with_reducible rfl) | (go_simp; done) | (go_simp; trace_state; fail)
            rotate_left
            · simp only [Act.put, List.setIfInBounds_toArray, List.set_cons_zero, List.set_cons_succ, i64_w, i32_w]
              rfl
            refine last_ (i := 15) (N := none) #[true, true, true, true, true, true, true, true, true, true, true, true, true, true, true, true, false, false] rfl rfl (by kernel_rfl) (by decide) (fun K hK => ?_)
            refine skip_ (w1 := ?_) (by rfl) rfl ?_ ?_
            rotate_left
            · go_simp
              rfl
            refine hK.out _ _ ?_
            clear hK K
            refine pure_ (i := 16) (N := some 55) (v := ?_) (a' := ?_) #[true, true, true, true, true, true, true, true, true, true, true, true, true, true, true, true, true, false] rfl rfl (by kernel_rfl) (fun _ _ _ h => h) (Or.inl ⟨by rfl, ?_⟩) ?_ ?_
            rotate_left
            · intro w'
              first | (go_simp; with_reducible rfl) | (go_simp; done) | (go_simp; trace_state; fail)
            rotate_left
            · simp only [Act.put, List.setIfInBounds_toArray, List.set_cons_zero, List.set_cons_succ, i64_w, i32_w]
              rfl
            refine last_ (i := 17) (N := none) #[true, true, true, true, true, true, true, true, true, true, true, true, true, true, true, true, true, true] rfl rfl (by kernel_rfl) (by decide) (fun K hK => ?_)
            refine skip_ (w1 := ?_) (by rfl) rfl ?_ ?_
            rotate_left
            · go_simp
              rfl
            refine hK.out _ _ ?_
            clear hK K
            refine done_ (by kernel_rfl) ?_
            go_wp2
            go_roundw
            case rel =>
              have hb2 : tl xs < tl ys := by
                have := hb
                rw [Go.Proofs.bytesLess_eq, Lib.toList_data, Lib.toList_data] at this
                exact of_decide_eq_true this
              obtain ⟨s1, s2⟩ := O9.out.swap p _ _ I9.out.2.1 I9.out.2.2.1
              exact ⟨p, by go_num, ⟨_, by have := I9.out.2.2.2.1; omega, s1, s2 _ _ B9.out rfl, I9.out.1.step _ _ I9.out.2.1 I9.out.2.2.1 (fun h => (List.not_le.2 hb2) h)⟩⟩
            case measure => simp [intOf]
          | false =>
            go_wp2
            go_roundw
            case rel =>
              have hb2 : tl ys ≤ tl xs := by
                have := hb
                rw [Go.Proofs.bytesLess_eq, Lib.toList_data, Lib.toList_data] at this
                exact List.not_lt.1 (of_decide_eq_false this)
              have ho := I9.out.1.stop (.inr ⟨_, _, I9.out.2.1, I9.out.2.2.1, hb2⟩)
              obtain ⟨f1, f2⟩ := FIN.out _ I9.out.1 ho
              exact ⟨_, k + 1, by go_num, ⟨f1, by omega, O9.out, B9.out, ho, f2⟩⟩
            case measure => simp [intOf]; omega
    · have hk : k = n := by have := HR.out.2.1; omega
      have p1 : ((k : Int) < (n : Int)) = False := by simp; omega
      have p2 : decide ((k : Int) < (n : Int)) = false := by simp; omega
      have p3 : decide (k < n) = false := by simp; omega
      have HK := Aside0.mk hk
      clear hk hlt
      go_wp2
      go_ret
      refine ⟨_, rfl, ?_, HR.out.2.2.2.1⟩
      have h1 := HR.out.2.2.1.rows
      have h2 := HR.out.2.2.2.2.2
      rw [HK.out, ← HN.out, List.take_length] at h2
      rw [srtB_of (by have := HR.out.2.2.2.2.1; unfold Ord at this; rwa [List.map_map]) h2] at h1
      exact h1
set_option maxHeartbeats 4000000 in
set_option maxRecDepth 100000 in
theorem sorted_none (c : Nat) (w : World) : Calls Tryz.prog 45 #[.slice none 0 c] w fun e w' => ∃ v', e = .returned v' ∧ Rows w' v' (srtB []) ∧ Below w.heap.size w w' := by
  go_enter Tryz.func45, Tryz.ntmps45
  go_wp2
  refine wp_loop_rounds 1 ?_
  rw [rounds_succ]
  go_wp2
  go_ret
  exact ⟨_, rfl, ⟨none, 0, by rw [srtB_length]; rfl, by rw [srtB_length]; exact Nat.le_refl _, fun k s hk => by simp [srtB, srt] at hk⟩, Below.refl _ _⟩
theorem sortedR_walk (v : Value) (L : List ByteArray) (w : World) (hv : Rows w v L) (hl : L.length ≤ 1000000) : Calls Tryz.prog 45 #[v] w fun e w' => ∃ v', e = .returned v' ∧ Rows w' v' (srtB L) ∧ Below w.heap.size w w' := by
  obtain ⟨A, c, rfl, hc, hr⟩ := hv
  cases L with
  | nil => 
    cases A with
    | none => exact sorted_none c w
    | some ad => exact sorted_walk ad 0 c [] w rfl hc (fun k s hk => by simp at hk) (by omega)
  | cons s l =>
    obtain ⟨ad, u, rfl, _⟩ := hr 0 s rfl
    refine sorted_walk ad _ c (s :: l) w rfl hc (fun k s' hk => ?_) hl
    obtain ⟨ad', u', e, h1, h2⟩ := hr k s' hk
    cases e
    exact ⟨u', h1, h2⟩
end Go.Proofs.YtpdhbpdfldfnhaaGreatDoor.Rk
/- of RnLive -/
/- The page's examples of the realm, walked. -/
namespace Go.Proofs.YtpdhbpdfldfnhaaGreatDoor.Rn
open Go Go.RowKit Go.Proofs.YtpdhbpdfldfnhaaGreatDoorW.PrintWords Go.Proofs.YtpdhbpdfldfnhaaGreatDoorW.PrintLast Go.Proofs.YtpdhbpdfldfnhaaGreatDoorW.PrintMore Go.Proofs.YtpdhbpdfldfnhaaGreatDoor.Rm
abbrev nilS : Value := .slice none 0 0
abbrev genC (k : Int) (s : ByteArray) : Array Value := #[.int .i64 k, .string s, nilS, nilS]
abbrev sa : ByteArray := ⟨#[97]⟩
abbrev sb : ByteArray := ⟨#[98]⟩
theorem host_ab (w : World) : Calls Tryz.prog 9 #[.string sa, .string sb] w fun e w' => e = .returned (.bool false) ∧ Below w.heap.size w w' := realm_Host.calls 10 sa sb false w (by kernel_rfl)
set_option maxHeartbeats 4000000 in
set_option maxRecDepth 100000 in
theorem match_ab (w : World) : Calls Tryz.prog 27 #[.agg (genC 2 sa), .agg (genC 2 sb)] w fun e w' => e = .returned (.bool false) ∧ Below w.heap.size w w' := by
  have HB := Aside0.mk (below_alloc (below_alloc (Below.refl w.heap.size w) (.cells (genC 2 sa) 25)) (.cells (genC 2 sb) 25))
  go_enter Tryz.func27, Tryz.ntmps27
  go_wp2_with (go_at_call 9; refine (host_ab _).mono ?_; rintro e w1 ⟨rfl, hb⟩; have HZ := Aside0.mk (below_step HB.out hb); clear hb)
  go_ret
  exact ⟨rfl, HZ.out⟩
theorem gen_cell {w : World} {g : Nat} {k : Int} {s : ByteArray} (h : w.heap[g]? = some (.cells (genC k s) 25 (0, 0))) :
    w.cell? ⟨g, 0, none⟩ = some (.int .i64 k) ∧ w.cell? ⟨g, 1, none⟩ = some (.string s) ∧ w.cell? ⟨g, 2, none⟩ = some nilS ∧ w.cell? ⟨g, 3, none⟩ = some nilS := ⟨(blk_cell h 0).trans rfl, (blk_cell h 1).trans rfl, (blk_cell h 2).trans rfl, (blk_cell h 3).trans rfl⟩
set_option maxHeartbeats 4000000 in
set_option maxRecDepth 100000 in
theorem kind_walk (w : World) (g8 : Nat) (k : Int) (s s8 : ByteArray) (h8 : w.heap[g8]? = some (.cells (genC 2 s8) 25 (0, 0))) : Calls Tryz.prog 25 #[.agg (genC k s), .pointer (some ⟨g8, 0, none⟩)] w fun e w' => e = .returned (.bool (k == 2)) ∧ Below w.heap.size w w' := by
  have c8 : ∀ o, (w.alloc o).cell? ⟨g8, 0, none⟩ = some (.int .i64 2) := fun o => (gen_cell (blk_alloc h8 o)).1
  have HB := Aside0.mk (below_alloc (Below.refl w.heap.size w) (.cells (genC k s) 25))
  clear h8
  go_enter Tryz.func25, Tryz.ntmps25
  go_wp2
  go_ret
  exact ⟨rfl, HB.out⟩
/-- the function value that holds one of a kind against a base -/
abbrev dnsF : Value := .func (.func 27) #[] #[]
set_option maxHeartbeats 4000000 in
set_option maxRecDepth 100000 in
theorem hit_walk (w : World) (g8 g9 : Nat) (h8 : w.heap[g8]? = some (.cells (genC 2 sa) 25 (0, 0))) (h9 : w.heap[g9]? = some (.cells #[dnsF] 35 (0, 0))) :
    Calls Tryz.prog 23 #[.agg (genC 2 sb), .pointer (some ⟨g8, 0, none⟩), .pointer (some ⟨g9, 0, none⟩)] w fun e w' => e = .returned (.bool false) ∧ Below w.heap.size w w' := by
  have c8 : ∀ o, (w.alloc o).cell? ⟨g8, 0, none⟩ = some (.int .i64 2) := fun o => (gen_cell (blk_alloc h8 o)).1
  have c81 : ∀ o, (w.alloc o).cell? ⟨g8, 1, none⟩ = some (.string sa) := fun o => (gen_cell (blk_alloc h8 o)).2.1
  have c82 : ∀ o, (w.alloc o).cell? ⟨g8, 2, none⟩ = some nilS := fun o => (gen_cell (blk_alloc h8 o)).2.2.1
  have c83 : ∀ o, (w.alloc o).cell? ⟨g8, 3, none⟩ = some nilS := fun o => (gen_cell (blk_alloc h8 o)).2.2.2
  have c9 : ∀ o, (w.alloc o).cell? ⟨g9, 0, none⟩ = some dnsF := fun o => (blk_cell (blk_alloc h9 o) 0).trans rfl
  have HB := Aside0.mk (below_alloc (Below.refl w.heap.size w) (.cells (genC 2 sb) 25))
  clear h8 h9
  go_enter Tryz.func23, Tryz.ntmps23
  go_wp2_with (go_at_call 27; refine (match_ab _).mono ?_; rintro e w1 ⟨rfl, hb⟩; have HZ := Aside0.mk (below_step HB.out hb); clear hb)
  go_ret
  exact ⟨rfl, HZ.out⟩
/-- one gen in a row: is there one of which the function says so? -/
def GenAt (w : World) (gb : Nat) (k : Int) (s : ByteArray) : Prop := w.heap[gb]? = some (.cells (genC k s) 25 (0, 0))
set_option maxHeartbeats 4000000 in
set_option maxRecDepth 100000 in
theorem index_no (w : World) (gb g8 g9 : Nat) (hb : GenAt w gb 1 sb) (h8 : GenAt w g8 2 sa) :
    Calls Tryz.prog 38 #[.slice (some ⟨gb, 0, none⟩) 1 1, .func (.func 25) #[] #[.pointer (some ⟨g8, 0, none⟩)]] w fun e w' => e = .returned (.int .i64 (-1)) ∧ Below w.heap.size w w' := by
  obtain ⟨b0, b1, b2, b3⟩ := gen_cell hb
  have H8 := Aside0.mk h8
  clear hb
  go_enter Tryz.func38, Tryz.ntmps38
  go_wp2
  go_loopw [8] (fun i wr => (i = .int .i64 0 ∧ wr = w) ∨ (i = .int .i64 1 ∧ Aside0 (Below w.heap.size w wr))) (fun i _ => 1 - (intOf i).toNat)
  case atStart => exact .inl ⟨rfl, rfl⟩
  case round =>
    rcases hrel with ⟨rfl, rfl⟩ | ⟨rfl, HW⟩
    · go_wp2_with (go_at_call 25; refine (kind_walk wr g8 1 sb sa H8.out).mono ?_; rintro e w1 ⟨rfl, hb⟩; have HZ := Aside0.mk hb; clear hb)
      go_roundw
      case rel => exact .inr ⟨rfl, ⟨HZ.out⟩⟩
      case measure => simp [intOf]
    · go_wp2
      go_ret
      exact ⟨rfl, HW.out⟩
set_option maxHeartbeats 4000000 in
set_option maxRecDepth 100000 in
theorem index_hit (w : World) (gb g8 g9 : Nat) (hb : GenAt w gb 2 sb) (h8 : GenAt w g8 2 sa) (h9 : w.heap[g9]? = some (.cells #[dnsF] 35 (0, 0))) :
    Calls Tryz.prog 38 #[.slice (some ⟨gb, 0, none⟩) 1 1, .func (.func 23) #[] #[.pointer (some ⟨g8, 0, none⟩), .pointer (some ⟨g9, 0, none⟩)]] w fun e w' => e = .returned (.int .i64 (-1)) ∧ Below w.heap.size w w' := by
  obtain ⟨b0, b1, b2, b3⟩ := gen_cell hb
  have H8 := Aside0.mk (And.intro h8 h9)
  clear hb
  go_enter Tryz.func38, Tryz.ntmps38
  go_wp2
  go_loopw [8] (fun i wr => (i = .int .i64 0 ∧ wr = w) ∨ (i = .int .i64 1 ∧ Aside0 (Below w.heap.size w wr))) (fun i _ => 1 - (intOf i).toNat)
  case atStart => exact .inl ⟨rfl, rfl⟩
  case round =>
    rcases hrel with ⟨rfl, rfl⟩ | ⟨rfl, HW⟩
    · go_wp2_with (go_at_call 23; refine (hit_walk wr g8 g9 H8.out.1 H8.out.2).mono ?_; rintro e w1 ⟨rfl, hb⟩; have HZ := Aside0.mk hb; clear hb)
      go_roundw
      case rel => exact .inr ⟨rfl, ⟨HZ.out⟩⟩
      case measure => simp [intOf]
    · go_wp2
      go_ret
      exact ⟨rfl, HW.out⟩
set_option maxHeartbeats 4000000 in
set_option maxRecDepth 100000 in
theorem index_yes (w : World) (gb g8 g9 : Nat) (hb : GenAt w gb 2 sb) (h8 : GenAt w g8 2 sa) :
    Calls Tryz.prog 38 #[.slice (some ⟨gb, 0, none⟩) 1 1, .func (.func 25) #[] #[.pointer (some ⟨g8, 0, none⟩)]] w fun e w' => e = .returned (.int .i64 (0)) ∧ Below w.heap.size w w' := by
  obtain ⟨b0, b1, b2, b3⟩ := gen_cell hb
  have H8 := Aside0.mk h8
  clear hb
  go_enter Tryz.func38, Tryz.ntmps38
  go_wp2
  go_loopw [8] (fun i wr => i = .int .i64 0 ∧ wr = w) (fun i _ => 1 - (intOf i).toNat)
  case atStart => exact ⟨rfl, rfl⟩
  case round =>
    obtain ⟨rfl, rfl⟩ := hrel
    · go_wp2_with (go_at_call 25; refine (kind_walk wr g8 2 sb sa H8.out).mono ?_; rintro e w1 ⟨rfl, hb⟩; have HZ := Aside0.mk hb; clear hb)
      go_ret
      exact ⟨rfl, HZ.out⟩
set_option maxHeartbeats 4000000 in
set_option maxRecDepth 100000 in
theorem index_nil (f : Value) (w : World) : Calls Tryz.prog 38 #[nilS, f] w fun e w' => e = .returned (.int .i64 (-1)) ∧ Below w.heap.size w w' := by
  have HB := Aside0.mk (Below.refl w.heap.size w)
  go_enter Tryz.func38, Tryz.ntmps38
  go_wp2
  go_loopw [8] (fun i wr => i = .int .i64 0 ∧ wr = w) (fun i _ => 1 - (intOf i).toNat)
  case atStart => exact ⟨rfl, rfl⟩
  case round =>
    obtain ⟨rfl, rfl⟩ := hrel
    go_wp2
    go_ret
    exact ⟨rfl, HB.out⟩
theorem contains_of {v f : Value} {w : World} {x : Int} {b : Bool} (hx : b = decide (0 ≤ x)) (h : Calls Tryz.prog 38 #[v, f] w fun e w' => e = .returned (.int .i64 x) ∧ Below w.heap.size w w') :
    Calls Tryz.prog 24 #[v, f] w fun e w' => e = .returned (.bool b) ∧ Below w.heap.size w w' := by
  have HX := Aside0.mk hx
  go_enter Tryz.func24, Tryz.ntmps24
  go_wp2_with (go_at_call 38; refine h.mono ?_; rintro e w1 ⟨rfl, hb⟩; have HZ := Aside0.mk hb; clear hb)
  go_ret
  exact ⟨by rw [HX.out]; rfl, HZ.out⟩
set_option maxHeartbeats 4000000 in
set_option maxRecDepth 100000 in
theorem of_dns (w : World) : Calls Tryz.prog 13 #[.int .i64 2] w fun e w' => e = .returned (.tuple #[.agg #[dnsF], .bool true]) ∧ Below w.heap.size w w' := by
  go_enter Tryz.func13, Tryz.ntmps13
  go_wp2_with (first
    | ((with_reducible refine gate_dst (N := 2) rfl ?_); refine law_new ?hg (N := 2) ?hd (ob := .cells #[.nilFunc] 35 (0, 0)) (V := fun g => .pointer (some ⟨g, 0, none⟩)) ?hr ?_; (case hd => rfl); (case hg => rfl); (case hr => first | (go_simp; done) | (go_simp; rfl))
       intro g2 hg2 w2 b2 hb2
       have B2 := Aside0.mk b2
       have HB := Aside0.mk hb2
       have HG := Aside0.mk (Nat.le_of_eq hg2.symm)
       clear b2 hb2 hg2)
    | (have h0_ := B2.out; refine law_store ?q1 35 (.tmp 2) (.tmp 10) ?q2 g2 #[dnsF] ?q3 ?q4 h0_ ?q5 ?q6 ?q7 ?_; (case q1 => rfl); (case q2 => rfl); (case q3 => rfl); (case q4 => rfl); (case q5 => rfl); (case q6 => kernel_rfl); (case q7 => first | rfl | (simp [Value.oneCell']) | kernel_rfl)
       intro w3 b3 hg3 hs3
       have HE := Aside0.mk (And.intro b3 (HB.out.grown hg3 HB.out.size (fun j hj => by cases hj; exact HG.out)))
       clear b3 hg3 hs3 h0_ B2))
  refine bodyPost_ret (results_cell_tmp rfl _ _ g2 35 _ (0, 0) _ _ rfl rfl HE.out.1 Tryz.underlying35 rfl (by kernel_rfl)) rfl ?_
  exact ⟨rfl, HE.out.2⟩
set_option maxHeartbeats 4000000 in
set_option maxRecDepth 100000 in
/-- the page's question: one name, another one permitted -/
theorem allowed_no (w : World) (ga gb : Nat) (ha : GenAt w ga 2 sa) (hb : GenAt w gb 2 sb) :
    Calls Tryz.prog 12 #[.slice (some ⟨ga, 0, none⟩) 1 1, .slice (some ⟨gb, 0, none⟩) 1 1, nilS] w fun e w' => e = .returned (.bool false) ∧ Below w.heap.size w w' := by
  obtain ⟨a0, a1, a2, a3⟩ := gen_cell ha
  have HB0 := Aside0.mk hb
  clear ha hb
  go_enter Tryz.func12, Tryz.ntmps12
  go_wp2
  go_loopw [14] (fun i wr => i = .int .i64 0 ∧ wr = w) (fun i _ => 1 - (intOf i).toNat)
  case atStart => exact ⟨rfl, rfl⟩
  case round =>
    obtain ⟨rfl, rfl⟩ := hrel
    go_wp2_with (first
      | ((with_reducible refine gate_dst (N := 8) rfl ?_); refine law_new ?hg (N := 8) ?hd (ob := .cells (genC 0 ⟨#[]⟩) 25 (0, 0)) (V := fun g => .pointer (some ⟨g, 0, none⟩)) ?hr ?_; (case hd => rfl); (case hg => rfl); (case hr => first | (go_simp; done) | (go_simp; rfl))
         intro g8 hg8 w1 b8 hb8
         have B8 := Aside0.mk b8
         have HBx := Aside0.mk hb8
         have HG8 := Aside0.mk (Nat.le_of_eq hg8.symm)
         clear b8 hb8 hg8)
      | (have h0_ := B8.out; refine law_store ?q1 25 (.tmp 8) (.tmp 17) ?q2 g8 (genC 2 sa) ?q3 ?q4 h0_ ?q5 ?q6 ?q7 ?_; (case q1 => rfl); (case q2 => rfl); (case q3 => rfl); (case q4 => rfl); (case q5 => rfl); (case q6 => kernel_rfl); (case q7 => first | rfl | (simp [Value.oneCell']) | kernel_rfl)
         intro w2 b8 hg2 hs2
         have B8x := Aside0.mk b8
         have HB := Aside0.mk (HBx.out.grown hg2 HBx.out.size (fun j hj => by cases hj; exact HG8.out))
         clear b8 hg2 hs2 h0_ B8 HBx)
      | ((with_reducible refine gate_dst (N := 20) rfl ?_); refine law_load1 rfl 3 _ rfl g8 0 rfl B8x.out (.int .i64 2) rfl _ Tryz.underlying3 rfl ?_)
      | (go_at_call 13; refine (of_dns _).mono ?_; rintro e w3 ⟨rfl, hb⟩
         have B8y := Aside0.mk (blk_below B8x.out hb)
         have HBy := Aside0.mk (below_step HB.out hb)
         clear hb B8x HB)
      | ((with_reducible refine gate_dst (N := 9) rfl ?_); refine law_new ?hg (N := 9) ?hd (ob := .cells #[.nilFunc] 35 (0, 0)) (V := fun g => .pointer (some ⟨g, 0, none⟩)) ?hr ?_; (case hd => rfl); (case hg => rfl); (case hr => first | (go_simp; done) | (go_simp; rfl))
         intro g9 hg9 w4 b9 hb9
         have B9 := Aside0.mk b9
         have B8z := Aside0.mk (blk_below B8y.out hb9)
         have HNE := Aside0.mk (show g8 < g9 by rw [hg9]; exact blk_lt B8y.out)
         have HBz := Aside0.mk (below_step HBy.out hb9)
         have HG9 := Aside0.mk (show wr.heap.size ≤ g9 by rw [hg9]; exact HBy.out.size)
         clear b9 hb9 hg9 B8y HBy)
      | (have h0_ := B9.out; refine law_store ?q1 35 (.tmp 9) (.tmp 22) ?q2 g9 #[dnsF] ?q3 ?q4 h0_ ?q5 ?q6 ?q7 ?_; (case q1 => rfl); (case q2 => rfl); (case q3 => rfl); (case q4 => rfl); (case q5 => rfl); (case q6 => kernel_rfl); (case q7 => first | rfl | (simp [Value.oneCell']) | kernel_rfl)
         intro w5 b9 hg5 hs5
         have B9x := Aside0.mk b9
         have B8w := Aside0.mk (blk_grown B8z.out hg5 (fun e => by have h1 := Option.some.inj e; have h2 := HNE.out; omega))
         have HBw := Aside0.mk (HBz.out.grown hg5 HBz.out.size (fun j hj => by cases hj; exact HG9.out))
         clear b9 hg5 hs5 h0_ B9 B8z HBz)
      | (go_at_call 24; have h0_ := B9x.out; refine (contains_of (b := false) rfl (index_nil _ _)).mono ?_; rintro e w6 ⟨rfl, hb⟩
         have HC6 := Aside0.mk (And.intro (blk_below B8w.out hb) (And.intro (blk_below h0_ hb) (below_step HBw.out hb)))
         clear hb h0_ B9x B8w HBw)
      | (go_at_call 24; have h0_ := HC6.out; refine (contains_of (b := true) rfl (index_yes _ gb g8 g8 (blk_below HB0.out h0_.2.2) h0_.1)).mono ?_; rintro e w7 ⟨rfl, hb⟩
         have HC7 := Aside0.mk (And.intro (blk_below h0_.1 hb) (And.intro (blk_below h0_.2.1 hb) (below_step h0_.2.2 hb)))
         clear hb h0_ HC6)
      | (go_at_call 24; have h0_ := HC7.out; refine (contains_of (b := false) rfl (index_hit _ gb g8 g9 (blk_below HB0.out h0_.2.2) h0_.1 h0_.2.1)).mono ?_; rintro e w8 ⟨rfl, hb⟩
         have HZ := Aside0.mk (below_step h0_.2.2 hb)
         clear hb h0_ HC7))
    go_ret
    exact ⟨rfl, HZ.out⟩
end Go.Proofs.YtpdhbpdfldfnhaaGreatDoor.Rn
/- of RnPage -/
/- The page's examples of the realm, walked: the law's live. -/
namespace Go.Proofs.YtpdhbpdfldfnhaaGreatDoor.Rn
open Go Go.RowKit Go.Proofs.YtpdhbpdfldfnhaaGreatDoorW.PrintWords Go.Proofs.YtpdhbpdfldfnhaaGreatDoorW.PrintLast Go.Proofs.YtpdhbpdfldfnhaaGreatDoorW.PrintMore Go.Proofs.YtpdhbpdfldfnhaaGreatDoor.Rm
theorem bytes_block {w : World} {b : Nat} {l : List Int} {fr : Nat × Nat} (h : w.heap[b]? = some (.cells (l.map (Value.int .u8)).toArray 5 fr)) (hl : l.length ≤ 9223372036854775807) : Kd.C (Kd.int .u8) w (some ⟨b, 0, none⟩) l.length l := by
  refine ⟨rfl, hl, fun _ => ⟨_, rfl, fun j p hp => ⟨[.int .u8 p], rfl, rfl, fun i u hu => ?_⟩⟩⟩
  have hi : i = 0 := by
    have := (List.getElem?_eq_some_iff.1 hu).1
    simp at this
    omega
  subst hi
  cases hu
  show w.cell? ((⟨b, 0, none⟩ : Addr).add (j * (Kd.int .u8).sz + 0)) = _
  have e2 : (⟨b, 0, none⟩ : Addr).add (j * (Kd.int .u8).sz + 0) = ⟨b, j, none⟩ := by
    show (⟨b, 0, none⟩ : Addr).add (j * 1 + 0) = _
    simp [Addr.add]
    omega
  rw [e2, cell_of_row w b j _ _ _ h]
  simp [hp]
set_option maxHeartbeats 4000000 in
set_option maxRecDepth 100000 in
/-- the page's other question: one of another kind permitted -/
theorem allowed_yes (w : World) (ga gb : Nat) (ha : GenAt w ga 2 sa) (hb : GenAt w gb 1 sb) :
    Calls Tryz.prog 12 #[.slice (some ⟨ga, 0, none⟩) 1 1, .slice (some ⟨gb, 0, none⟩) 1 1, nilS] w fun e w' => e = .returned (.bool true) ∧ Below w.heap.size w w' := by
  obtain ⟨a0, a1, a2, a3⟩ := gen_cell ha
  have HB0 := Aside0.mk hb
  clear ha hb
  go_enter Tryz.func12, Tryz.ntmps12
  go_wp2
  go_loopw [14] (fun i wr => (i = .int .i64 0 ∧ wr = w) ∨ (i = .int .i64 1 ∧ Aside0 (Below w.heap.size w wr))) (fun i _ => 1 - (intOf i).toNat)
  case atStart => exact .inl ⟨rfl, rfl⟩
  case round =>
    rcases hrel with ⟨rfl, rfl⟩ | ⟨rfl, HW⟩
    case inr =>
      go_wp2
      go_ret
      exact ⟨rfl, HW.out⟩
    go_wp2_with (first
      | ((with_reducible refine gate_dst (N := 8) rfl ?_); refine law_new ?hg (N := 8) ?hd (ob := .cells (genC 0 ⟨#[]⟩) 25 (0, 0)) (V := fun g => .pointer (some ⟨g, 0, none⟩)) ?hr ?_; (case hd => rfl); (case hg => rfl); (case hr => first | (go_simp; done) | (go_simp; rfl))
         intro g8 hg8 w1 b8 hb8
         have B8 := Aside0.mk b8
         have HBx := Aside0.mk hb8
         have HG8 := Aside0.mk (Nat.le_of_eq hg8.symm)
         clear b8 hb8 hg8)
      | (have h0_ := B8.out; refine law_store ?q1 25 (.tmp 8) (.tmp 17) ?q2 g8 (genC 2 sa) ?q3 ?q4 h0_ ?q5 ?q6 ?q7 ?_; (case q1 => rfl); (case q2 => rfl); (case q3 => rfl); (case q4 => rfl); (case q5 => rfl); (case q6 => kernel_rfl); (case q7 => first | rfl | (simp [Value.oneCell']) | kernel_rfl)
         intro w2 b8 hg2 hs2
         have B8x := Aside0.mk b8
         have HB := Aside0.mk (HBx.out.grown hg2 HBx.out.size (fun j hj => by cases hj; exact HG8.out))
         clear b8 hg2 hs2 h0_ B8 HBx)
      | ((with_reducible refine gate_dst (N := 20) rfl ?_); refine law_load1 rfl 3 _ rfl g8 0 rfl B8x.out (.int .i64 2) rfl _ Tryz.underlying3 rfl ?_)
      | (go_at_call 13; refine (of_dns _).mono ?_; rintro e w3 ⟨rfl, hb⟩
         have B8y := Aside0.mk (blk_below B8x.out hb)
         have HBy := Aside0.mk (below_step HB.out hb)
         clear hb B8x HB)
      | ((with_reducible refine gate_dst (N := 9) rfl ?_); refine law_new ?hg (N := 9) ?hd (ob := .cells #[.nilFunc] 35 (0, 0)) (V := fun g => .pointer (some ⟨g, 0, none⟩)) ?hr ?_; (case hd => rfl); (case hg => rfl); (case hr => first | (go_simp; done) | (go_simp; rfl))
         intro g9 hg9 w4 b9 hb9
         have B9 := Aside0.mk b9
         have B8z := Aside0.mk (blk_below B8y.out hb9)
         have HNE := Aside0.mk (show g8 < g9 by rw [hg9]; exact blk_lt B8y.out)
         have HBz := Aside0.mk (below_step HBy.out hb9)
         have HG9 := Aside0.mk (show wr.heap.size ≤ g9 by rw [hg9]; exact HBy.out.size)
         clear b9 hb9 hg9 B8y HBy)
      | (have h0_ := B9.out; refine law_store ?q1 35 (.tmp 9) (.tmp 22) ?q2 g9 #[dnsF] ?q3 ?q4 h0_ ?q5 ?q6 ?q7 ?_; (case q1 => rfl); (case q2 => rfl); (case q3 => rfl); (case q4 => rfl); (case q5 => rfl); (case q6 => kernel_rfl); (case q7 => first | rfl | (simp [Value.oneCell']) | kernel_rfl)
         intro w5 b9 hg5 hs5
         have B9x := Aside0.mk b9
         have B8w := Aside0.mk (blk_grown B8z.out hg5 (fun e => by have h1 := Option.some.inj e; have h2 := HNE.out; omega))
         have HBw := Aside0.mk (HBz.out.grown hg5 HBz.out.size (fun j hj => by cases hj; exact HG9.out))
         clear b9 hg5 hs5 h0_ B9 B8z HBz)
      | (go_at_call 24; have h0_ := B9x.out; refine (contains_of (b := false) rfl (index_nil _ _)).mono ?_; rintro e w6 ⟨rfl, hb⟩
         have HC6 := Aside0.mk (And.intro (blk_below B8w.out hb) (And.intro (blk_below h0_ hb) (below_step HBw.out hb)))
         clear hb h0_ B9x B8w HBw)
      | (go_at_call 24; have h0_ := HC6.out; refine (contains_of (b := false) rfl (index_no _ gb g8 g8 (blk_below HB0.out h0_.2.2) h0_.1)).mono ?_; rintro e w7 ⟨rfl, hb⟩
         have HZ := Aside0.mk (below_step h0_.2.2 hb)
         clear hb h0_ HC6))
    go_roundw
    case rel => exact .inr ⟨rfl, ⟨HZ.out⟩⟩
    case measure => simp [intOf]
abbrev cells4 : Array Value := #[.int .u8 10, .int .u8 1, .int .u8 2, .int .u8 3]
abbrev cells8 : Array Value := #[.int .u8 10, .int .u8 1, .int .u8 0, .int .u8 0, .int .u8 255, .int .u8 255, .int .u8 0, .int .u8 0]
theorem net_page (w : World) : Calls Tryz.prog 11 #[.slice (some ⟨w.heap.size, 0, none⟩) 4 4, .slice (some ⟨w.heap.size + 1, 0, none⟩) 8 8] ((w.alloc (.cells cells4 5)).alloc (.cells cells8 5)) fun e w' => e = .returned (.bool true) ∧ Below w.heap.size w w' := by
  have h4 : ((w.alloc (.cells cells4 5)).alloc (.cells cells8 5)).heap[w.heap.size]? = some (.cells cells4 5 (0, 0)) := blk_alloc (blk_new w _) _
  have h8 : ((w.alloc (.cells cells4 5)).alloc (.cells cells8 5)).heap[w.heap.size + 1]? = some (.cells cells8 5 (0, 0)) := by
    have h := blk_new (w.alloc (.cells cells4 5)) (.cells cells8 5)
    rw [World.size_alloc] at h
    exact h
  have hb : Below w.heap.size w ((w.alloc (.cells cells4 5)).alloc (.cells cells8 5)) := below_alloc (below_alloc (Below.refl _ _) _) _
  refine (realm_Net.calls 20 (some ⟨w.heap.size, 0, none⟩) 4 [10, 1, 2, 3] (some ⟨w.heap.size + 1, 0, none⟩) 8 [10, 1, 0, 0, 255, 255, 0, 0] true _ (bytes_block (l := [10, 1, 2, 3]) h4 (by decide)) (by decide) (bytes_block (l := [10, 1, 0, 0, 255, 255, 0, 0]) h8 (by decide)) (by decide) (by kernel_rfl)).mono fun e w' h => ⟨h.1, ?_⟩
  obtain ⟨nd, rfl⟩ := h.2
  exact pw_below_drewN hb nd
theorem host_at (a b : ByteArray) (r : Bool) (h : realm_Host.f 10 a b = some r) (w : World) : Calls Tryz.prog 9 #[.string a, .string b] w fun e w' => e = .returned (.bool r) ∧ Below w.heap.size w w' := realm_Host.calls 10 a b r w h
theorem mail_at (a b : ByteArray) (r : Bool) (h : realm_Mail.f 40 a b = some r) (w : World) : Calls Tryz.prog 10 #[.string a, .string b] w fun e w' => e = .returned (.bool r) ∧ Below w.heap.size w w' := realm_Mail.calls 40 a b r w h
set_option maxHeartbeats 8000000 in
set_option maxRecDepth 100000 in
theorem live_walk (w : World) : Calls Tryz.prog 5 #[] w fun e w' => e = .returned (.bool true) ∧ Below w.heap.size w w' := by
  go_enter Tryz.func5, Tryz.ntmps5
  go_wp2_with (first
    | ((with_reducible refine gate_dst (N := 4) rfl ?_); refine law_new ?hg (N := 4) ?hd (ob := .cells (genC 2 sa) 25 (0, 0)) (V := fun g => .slice (some ⟨g, 0, none⟩) 1 1) ?hr ?_; (case hd => rfl); (case hg => rfl); (case hr => first | (go_simp; done) | (go_simp; rfl))
       intro ga hga w1 b1 hb1
       have A1 := Aside0.mk (And.intro b1 hb1)
       clear b1 hb1 hga)
    | ((with_reducible refine gate_dst (N := 6) rfl ?_); refine law_new ?hg (N := 6) ?hd (ob := .cells (genC 2 sb) 25 (0, 0)) (V := fun g => .slice (some ⟨g, 0, none⟩) 1 1) ?hr ?_; (case hd => rfl); (case hg => rfl); (case hr => first | (go_simp; done) | (go_simp; rfl))
       intro gb hgb w2 b2 hb2
       have A2 := Aside0.mk (And.intro (blk_below A1.out.1 hb2) (And.intro b2 (below_step A1.out.2 hb2)))
       clear b2 hb2 hgb A1)
    | (go_at_call 9; have h0_ := A2.out; refine (host_at _ _ true (by kernel_rfl) _).mono ?_; rintro e w3 ⟨rfl, hb⟩
       have A3 := Aside0.mk (And.intro (blk_below h0_.1 hb) (And.intro (blk_below h0_.2.1 hb) (below_step h0_.2.2 hb)))
       clear hb h0_ A2)
    | (go_at_call 9; have h0_ := A3.out; refine (host_at _ _ false (by kernel_rfl) _).mono ?_; rintro e w4 ⟨rfl, hb⟩
       have A4 := Aside0.mk (And.intro (blk_below h0_.1 hb) (And.intro (blk_below h0_.2.1 hb) (below_step h0_.2.2 hb)))
       clear hb h0_ A3)
    | (go_at_call 9; have h0_ := A4.out; refine (host_at _ _ false (by kernel_rfl) _).mono ?_; rintro e w5 ⟨rfl, hb⟩
       have A5 := Aside0.mk (And.intro (blk_below h0_.1 hb) (And.intro (blk_below h0_.2.1 hb) (below_step h0_.2.2 hb)))
       clear hb h0_ A4)
    | (go_at_call 10; have h0_ := A5.out; refine (mail_at _ _ true (by kernel_rfl) _).mono ?_; rintro e w6 ⟨rfl, hb⟩
       have A6 := Aside0.mk (And.intro (blk_below h0_.1 hb) (And.intro (blk_below h0_.2.1 hb) (below_step h0_.2.2 hb)))
       clear hb h0_ A5)
    | (go_at_call 10; have h0_ := A6.out; refine (mail_at _ _ false (by kernel_rfl) _).mono ?_; rintro e w7 ⟨rfl, hb⟩
       have A7 := Aside0.mk (And.intro (blk_below h0_.1 hb) (And.intro (blk_below h0_.2.1 hb) (below_step h0_.2.2 hb)))
       clear hb h0_ A6)
    | (go_at_call 11; have h0_ := A7.out; refine (net_page w7).mono ?_; rintro e w8 ⟨rfl, hb⟩
       have A8 := Aside0.mk (And.intro (blk_below h0_.1 hb) (And.intro (blk_below h0_.2.1 hb) (below_step h0_.2.2 hb)))
       clear hb h0_ A7)
    | (go_at_call 12; have h0_ := A8.out; refine (allowed_no _ ga gb h0_.1 h0_.2.1).mono ?_; rintro e w9 ⟨rfl, hb⟩
       have A9 := Aside0.mk (And.intro (blk_below h0_.1 hb) (below_step h0_.2.2 hb))
       clear hb h0_ A8)
    | (go_at_call 12; have h0_ := A9.out; refine (allowed_yes _ ga w9.heap.size (blk_alloc h0_.1 _) (blk_new w9 _)).mono ?_; rintro e w10 ⟨rfl, hb⟩
       have HZ := Aside0.mk (below_step (below_alloc h0_.2 _) hb)
       clear hb h0_ A9))
  go_ret
  exact ⟨rfl, HZ.out⟩
end Go.Proofs.YtpdhbpdfldfnhaaGreatDoor.Rn
/- of RnNet -/
/- The law RealmNets: the two answers are one, and its walk. -/
namespace Go.Proofs.YtpdhbpdfldfnhaaGreatDoor.Rn
open Go Go.RowKit Go.Proofs.YtpdhbpdfldfnhaaGreatDoorW.PrintWords Go.Proofs.YtpdhbpdfldfnhaaGreatDoorW.PrintLast Go.Proofs.YtpdhbpdfldfnhaaGreatDoorW.PrintMore Go.Proofs.YtpdhbpdfldfnhaaGreatDoor.Rm
theorem xor_zero (a b : Nat) : a ^^^ b = 0 ↔ a = b := by
  constructor
  · intro h
    apply Nat.eq_of_testBit_eq
    intro i
    have h1 : (a ^^^ b).testBit i = false := by rw [h, Nat.zero_testBit]
    rw [Nat.testBit_xor] at h1
    revert h1
    cases a.testBit i <;> cases b.testBit i <;> simp
  · rintro rfl
    exact Nat.xor_self a
theorem mask_nat (a b m : Nat) : (a ^^^ b) &&& m = 0 ↔ a &&& m = b &&& m := by
  rw [← xor_zero (a &&& m) (b &&& m)]
  have : (a ^^^ b) &&& m = (a &&& m) ^^^ (b &&& m) := by
    apply Nat.eq_of_testBit_eq
    intro i
    simp only [Nat.testBit_and, Nat.testBit_xor]
    cases a.testBit i <;> cases b.testBit i <;> cases m.testBit i <;> rfl
  rw [this]
theorem mask_iff {a b m : Int} (ha : 0 ≤ a ∧ a ≤ 255) (hb : 0 ≤ b ∧ b ≤ 255) (hm : 0 ≤ m ∧ m ≤ 255) : Go.bits .and .u8 (Go.bits .xor .u8 a b) m = 0 ↔ Go.bits .and .u8 a m = Go.bits .and .u8 b m := by
  obtain ⟨x, rfl⟩ : ∃ x : Nat, (x : Int) = a := ⟨a.toNat, by omega⟩
  obtain ⟨y, rfl⟩ : ∃ x : Nat, (x : Int) = b := ⟨b.toNat, by omega⟩
  obtain ⟨z, rfl⟩ : ∃ x : Nat, (x : Int) = m := ⟨m.toNat, by omega⟩
  have hx : x < 256 := by omega
  have hy : y < 256 := by omega
  have hz : z < 256 := by omega
  have hxy : x ^^^ y < 256 := Nat.xor_lt_two_pow (n := 8) hx hy
  rw [u8_xor_nat x y hx hy, u8_and_nat _ z hxy hz, u8_and_nat x z hx hz, u8_and_nat y z hy hz]
  have h := mask_nat x y z
  constructor
  · intro e
    have := h.1 (by exact_mod_cast e)
    rw [this]
  · intro e
    have := h.2 (by exact_mod_cast e)
    rw [this]
    rfl
def Bytes (xs : List Int) : Prop := ∀ x ∈ xs, 0 ≤ x ∧ x ≤ 255
theorem rd_byte {xs : List Int} (h : Bytes xs) (i : Int) : 0 ≤ rd xs i ∧ rd xs i ≤ 255 := by
  unfold rd
  rw [List.getD]
  cases hq : xs[i.toNat]? with
  | none => simp
  | some x => exact h x (List.mem_of_getElem? hq)
theorem wrap64_low {x : Int} (h0 : 0 ≤ x) (h1 : x ≤ 1000000) : wrap64 x = x := by
  unfold wrap64
  omega
theorem net_loop (x0 x1 : List Int) (n : Nat) (hn : x0.length = n) (h1 : x1.length = 2 * n) (hn2 : n ≤ 2000) (hb0 : Bytes x0) (hb1 : Bytes x1) : ∀ (d i : Nat), i + d = n →
    ∃ r, realm_Net.l0 (d + 1) x0 x1 (n : Int) (n : Int) (i : Int) = some r ∧ chirographref14_Net.l0 (d + 1) x0 x1 (i : Int) = some r
  | 0, i, h => by
    refine ⟨true, ?_, ?_⟩
    · unfold realm_Net.l0
      rw [if_neg (by omega)]
    · unfold chirographref14_Net.l0
      rw [if_neg (by omega)]
  | d + 1, i, h => by
    obtain ⟨r, hr1, hr2⟩ := net_loop x0 x1 n hn h1 hn2 hb0 hb1 d (i + 1) (by omega)
    have w1 : wrap64 ((n : Int) + (i : Int)) = ((n + i : Nat) : Int) := by rw [wrap64_low (by omega) (by omega)]; omega
    have w2 : wrap64 ((i : Int) + 1) = ((i + 1 : Nat) : Int) := by rw [wrap64_low (by omega) (by omega)]; omega
    have hm := mask_iff (rd_byte hb0 (i : Int)) (rd_byte hb1 (i : Int)) (rd_byte hb1 ((n + i : Nat) : Int))
    unfold realm_Net.l0 chirographref14_Net.l0
    rw [hn, h1, w1, w2, if_pos (show (i : Int) < (n : Int) by omega), if_pos (show (0 : Int) ≤ (i : Int) by omega), if_pos (show (i : Int) < (n : Int) by omega), if_pos (show (i : Int) < ((2 * n : Nat) : Int) by omega), if_pos (show (0 : Int) ≤ ((n + i : Nat) : Int) by omega), if_pos (show ((n + i : Nat) : Int) < ((2 * n : Nat) : Int) by omega)]
    by_cases hq : Go.bits .and .u8 (rd x0 (i : Int)) (rd x1 ((n + i : Nat) : Int)) = Go.bits .and .u8 (rd x1 (i : Int)) (rd x1 ((n + i : Nat) : Int))
    · refine ⟨r, ?_, ?_⟩
      · rw [if_pos (hm.2 hq)]
        exact hr1
      · simp only [if_pos hq, show (i : Int) < (n : Int) by omega, show (0 : Int) ≤ (i : Int) by omega, show (0 : Int) ≤ ((n + i : Nat) : Int) by omega, show ((n + i : Nat) : Int) < ((2 * n : Nat) : Int) by omega, show (i : Int) < ((2 * n : Nat) : Int) by omega, if_true]
        exact hr2
    · refine ⟨false, ?_, ?_⟩
      · rw [if_neg (fun h => hq (hm.1 h))]
      · simp only [if_neg hq, show (i : Int) < (n : Int) by omega, show (0 : Int) ≤ (i : Int) by omega, show (0 : Int) ≤ ((n + i : Nat) : Int) by omega, show ((n + i : Nat) : Int) < ((2 * n : Nat) : Int) by omega, show (i : Int) < ((2 * n : Nat) : Int) by omega, if_true]
theorem jA (k : Nat) (x0 x1 : List Int) (x5 : Int) : realm_Net.j0 (k + 2) x0 x1 x5 true = some false := by simp [realm_Net.j0]
theorem jB (k : Nat) (x0 x1 : List Int) (x5 : Int) : realm_Net.j0 (k + 2) x0 x1 x5 false = realm_Net.l0 (k + 1) x0 x1 x5 x5 0 := by simp [realm_Net.j0]
theorem jC (k : Nat) (x0 x1 : List Int) : chirographref14_Net.j0 (k + 2) x0 x1 true = some false := by simp [chirographref14_Net.j0]
theorem jD (k : Nat) (x0 x1 : List Int) : chirographref14_Net.j0 (k + 2) x0 x1 false = chirographref14_Net.l0 (k + 1) x0 x1 0 := by simp [chirographref14_Net.j0]
theorem net_eq (x0 x1 : List Int) (h0 : x0.length ≤ 2000) (h1 : x1.length ≤ 2000) (hb0 : Bytes x0) (hb1 : Bytes x1) : ∃ k r, realm_Net.f k x0 x1 = some r ∧ chirographref14_Net.f k x0 x1 = some r := by
  obtain ⟨n, hn⟩ : ∃ n, x0.length = n := ⟨_, rfl⟩
  obtain ⟨m, hm⟩ : ∃ m, x1.length = m := ⟨_, rfl⟩
  rw [hn] at h0
  rw [hm] at h1
  have w1 : wrap64 (2 * (n : Int)) = 2 * (n : Int) := wrap64_low (by omega) (by omega)
  have w2 : wrap64 ((m : Int) / 2) = (m : Int) / 2 := wrap64_low (by omega) (by omega)
  refine ⟨n + 2, ?_⟩
  unfold realm_Net.f chirographref14_Net.f
  rw [hn, hm, w1, w2]
  by_cases hz : (n : Int) = 0
  · refine ⟨false, ?_, ?_⟩
    · rw [if_pos hz]
      exact jA _ _ _ _
    · rw [if_pos hz]
      exact jC _ _ _
  rw [if_neg hz, if_neg hz]
  by_cases he : m = 2 * n
  · obtain ⟨r, hr1, hr2⟩ := net_loop x0 x1 n hn (by rw [hm, he]) h0 hb0 hb1 n 0 (by omega)
    refine ⟨r, ?_, ?_⟩
    · have : ((m : Int) != 2 * (n : Int)) = false := by rw [bne_eq_false_iff_eq]; omega
      rw [this]
      rw [jB]
      exact hr1
    · have : ((m : Int) / 2 != (n : Int)) = false := by rw [bne_eq_false_iff_eq]; omega
      rw [if_neg (by omega), this]
      rw [jD]
      exact hr2
  · refine ⟨false, ?_, ?_⟩
    · have : ((m : Int) != 2 * (n : Int)) = true := by rw [bne_iff_ne]; omega
      rw [this]
      exact jA _ _ _ _
    · by_cases ho : (m : Int) % 2 = 1
      · rw [if_pos ho]
        exact jC _ _ _
      · have : ((m : Int) / 2 != (n : Int)) = true := by rw [bne_iff_ne]; omega
        rw [if_neg ho, this]
        exact jC _ _ _
theorem bytes_of_wf {xs : List Int} (h : ∀ x ∈ xs, (Lit.int .u8 x).wf = true) : Bytes xs := fun x hx => by
  have h2 : IntKind.u8.min ≤ x ∧ x ≤ IntKind.u8.max := by simpa [Lit.wf] using h x hx
  exact h2
end Go.Proofs.YtpdhbpdfldfnhaaGreatDoor.Rn
/- of RgHost -/
/- The great seat: a host below a base, by the program and by the document: one answer. -/
namespace Go.Proofs.YtpdhbpdfldfnhaaGreatDoor.Rn
open Go Go.RowKit Go.Proofs.YtpdhbpdfldfnhaaGreatDoorW.PrintWords Go.Proofs.YtpdhbpdfldfnhaaGreatDoorW.PrintLast Go.Proofs.YtpdhbpdfldfnhaaGreatDoorW.PrintMore Go.Proofs.YtpdhbpdfldfnhaaGreatDoor.Rm
theorem bt_bytes (s : ByteArray) (k : Nat) : bt s (k : Int) = (bytesOf s).getD k 0 := by
  rw [← rd_bytesOf]
  rfl
theorem small_loop (s : ByteArray) (hs : s.size ≤ 1000000) : ∀ (d i : Nat) (acc : List Int), i + d = s.size → acc.length = i → chirographref14_small.l0 (d + 1) s acc (i : Int) = some (strOfNums (acc ++ ((bytesOf s).drop i).map lowI))
  | 0, i, acc, h, ha => by
    unfold chirographref14_small.l0
    rw [if_neg (by omega), List.drop_of_length_le (by rw [bytesOf_length]; omega)]
    simp
  | d + 1, i, acc, h, ha => by
    have hl : i < (bytesOf s).length := by rw [bytesOf_length]; omega
    have w2 : wrap64 ((i : Int) + 1) = ((i + 1 : Nat) : Int) := by rw [wrap64_low (by omega) (by omega)]; omega
    have hb := byte_range s i
    have hx : (bytesOf s).getD i 0 = (bytesOf s)[i] := by simp [List.getD, List.getElem?_eq_getElem hl]
    unfold chirographref14_small.l0
    rw [if_pos (show (i : Int) < (s.size : Int) by omega), if_pos (show (0 : Int) ≤ (i : Int) by omega), bt_bytes, w2, List.drop_eq_getElem_cons hl, List.map_cons, ← hx]
    generalize (bytesOf s).getD i 0 = x at hb
    have hacc : acc.length < 140737488355328 := by omega
    by_cases h1 : x ≥ 65
    · by_cases h2 : x ≤ 90
      · rw [if_pos h1, if_pos h2, if_pos hacc, small_loop s hs d (i + 1) _ (by omega) (by simp [ha])]
        have e : (x + 97 - 65) % 256 = lowI x := by
          unfold lowI
          rw [if_pos ⟨h1, h2⟩]
          omega
        rw [e]
        simp
      · have e : lowI x = x := if_neg (fun h => h2 h.2)
        rw [if_pos h1, if_neg h2, if_pos hacc, small_loop s hs d (i + 1) _ (by omega) (by simp [ha]), e]
        simp
    · have e : lowI x = x := if_neg (fun h => h1 h.1)
      rw [if_neg h1, if_pos hacc, small_loop s hs d (i + 1) _ (by omega) (by simp [ha]), e]
      simp
theorem small_eq (s : ByteArray) (hs : s.size ≤ 1000000) (k : Nat) (hk : s.size < k) : chirographref14_small.f k s = some (lowered s) := by
  have h := small_loop s hs s.size 0 [] (by omega) rfl
  rw [List.drop_zero, List.nil_append] at h
  exact at_rounds (g := fun k => chirographref14_small.f k s) (fun k => chirographref14_small.mono s k) (k := s.size + 1) (by omega) h
theorem tl_extract (a : ByteArray) (i : Nat) : (a.extract i a.size).toList = a.toList.drop i := by
  rw [ByteArray.toList_eq, ByteArray.toList_eq, ByteArray.data_extract, Array.toList_extract]
  have : a.size = a.data.toList.length := Array.length_toList.symm
  rw [this, List.extract_eq_take_drop, List.take_of_length_le]
  rw [List.length_drop]
  exact Nat.le_refl _
theorem tl_size (a : ByteArray) : a.toList.length = a.size := by
  rw [ByteArray.toList_eq]
  exact Array.length_toList
theorem tl_dot (a : ByteArray) : ((⟨#[46]⟩ : ByteArray) ++ a).toList = 46 :: a.toList := by
  rw [ByteArray.toList_eq, ByteArray.toList_eq, ByteArray.data_append, Array.toList_append]
  rfl
theorem size_dot (a : ByteArray) : ((⟨#[46]⟩ : ByteArray) ++ a).size = 1 + a.size := by
  rw [ByteArray.size_append]
  rfl
/-- does the one end in the other? -/
def suf (H B : List UInt8) : Bool := decide (B.length ≤ H.length) && (H.drop (H.length - B.length) == B)
/-- and is it longer? -/
def longer (H B : List UInt8) : Bool := decide (B.length < H.length) && (H.drop (H.length - B.length) == B)
theorem suf_eq (a b : ByteArray) (ha : a.size ≤ 1000000) (hb : b.size ≤ 1000000) : strings_HasSuffix.f a b = some (suf a.toList b.toList) := by
  unfold strings_HasSuffix.f stringslite_HasSuffix.f suf
  rw [tl_size, tl_size]
  by_cases h : b.size ≤ a.size
  · have w1 : wrap64 ((a.size : Int) - (b.size : Int)) = ((a.size - b.size : Nat) : Int) := by rw [wrap64_low (by omega) (by omega)]; omega
    rw [if_pos (by omega), w1, if_pos (by omega), if_pos (by omega), Int.toNat_natCast, tl_extract, decide_eq_true h]
    simp
  · rw [if_neg (by omega), decide_eq_false h]
    simp
theorem below_eq (a b : ByteArray) (ha : a.size ≤ 1000000) (hb : b.size ≤ 1000000) : realm_below.f a b = some (longer a.toList b.toList) := by
  unfold realm_below.f longer
  rw [suf_eq a b ha hb, tl_size, tl_size]
  unfold suf
  rw [tl_size, tl_size]
  by_cases h : b.size < a.size
  · rw [if_pos (by omega), decide_eq_true (by omega : b.size ≤ a.size), decide_eq_true h]
    simp
  · rw [if_neg (by omega), decide_eq_false h]
    simp
theorem ends_eq (a b : ByteArray) (ha : a.size ≤ 1000001) (hb : b.size ≤ 1000001) : chirographref14_ends.f a b = some (longer a.toList b.toList) := by
  unfold chirographref14_ends.f longer
  rw [tl_size, tl_size]
  by_cases h : b.size < a.size
  · have w1 : wrap64 ((a.size : Int) - (b.size : Int)) = ((a.size - b.size : Nat) : Int) := by unfold wrap64; omega
    rw [if_pos (by omega), w1, if_pos (by omega), if_pos (by omega), Int.toNat_natCast, tl_extract, decide_eq_true h]
    simp
  · rw [if_neg (by omega), decide_eq_false h]
    simp
theorem dot_suf (H B : List UInt8) : suf H (46 :: B) = longer (46 :: H) (46 :: B) := by
  unfold suf longer
  by_cases h : B.length < H.length
  · have e : (46 :: H).length - (46 :: B).length = (H.length - (46 :: B).length) + 1 := by simp; omega
    rw [e, List.drop_succ_cons, decide_eq_true (show (46 :: B).length ≤ H.length by simp; omega), decide_eq_true (show (46 :: B).length < (46 :: H).length by simp; omega)]
  · rw [decide_eq_false (show ¬ (46 :: B).length ≤ H.length by simp; omega), decide_eq_false (show ¬ (46 :: B).length < (46 :: H).length by simp; omega), Bool.false_and, Bool.false_and]
theorem lowered_size (s : ByteArray) : (lowered s).size = s.size := by
  show (lowered s).data.size = _
  unfold lowered strOfNums
  simp [bytesOf_length]
theorem low_eq (s : ByteArray) (hs : s.size ≤ 1000000) : realm_lower.f s = some (lowered s) := by
  show lower_f s = _
  unfold lower_f
  rw [if_pos (by omega)]
theorem nil_size (b : ByteArray) (h : b.toList ≠ []) : 0 < b.size := by
  rcases Nat.eq_zero_or_pos b.size with h0 | h0
  · exact absurd (List.eq_nil_of_length_eq_zero (by rw [tl_size]; exact h0)) h
  · exact h0
theorem host_eq (a b : ByteArray) (ha : a.size ≤ 900000) (hb : b.size ≤ 900000) : ∃ k r, realm_Host.f k a b = some r ∧ chirographref14_Host.f k a b = some r := by
  refine ⟨a.size + b.size + 2, ?_⟩
  unfold realm_Host.f chirographref14_Host.f
  rw [low_eq a (by omega), low_eq b (by omega), small_eq a (by omega) _ (by omega), small_eq b (by omega) _ (by omega)]
  simp only [Option.bind_some]
  have h1 := lowered_size a
  have h2 := lowered_size b
  generalize lowered a = h at h1
  generalize lowered b = c at h2
  have hs : h.size ≤ 900000 := by omega
  have cs : c.size ≤ 900000 := by omega
  generalize a.size + b.size = m
  by_cases e1 : c.toList = []
  · refine ⟨true, ?_, ?_⟩
    · rw [if_pos e1]
      simp [realm_Host.j0]
    · rw [if_pos e1]
  rw [if_neg e1, if_neg e1]
  by_cases e2 : h.toList = c.toList
  · refine ⟨true, ?_, ?_⟩
    · rw [e2]
      simp [realm_Host.j0]
    · rw [if_pos e2]
  have e3 : (h.toList == c.toList) = false := by rw [beq_eq_false_iff_ne]; exact e2
  have hc := nil_size c e1
  rw [if_neg e2, e3, if_pos (by omega), if_pos (by omega), ends_eq _ _ (by rw [size_dot]; omega) (by rw [size_dot]; omega), tl_dot, tl_dot, ← dot_suf, ends_eq h c (by omega) (by omega)]
  simp only [realm_Host.j0, Bool.false_eq_true, if_false, Option.bind_some]
  rw [below_eq h c (by omega) (by omega), suf_eq h _ (by omega) (by rw [size_dot]; omega), tl_dot]
  simp only [Option.bind_some, if_pos (show (0 : Int) < (c.size : Int) by omega), if_pos (show 1 + c.size ≤ 9223372036854775807 by omega)]
  by_cases e4 : bt c 0 = 46
  · simp only [if_pos e4]
    cases hl : longer h.toList c.toList <;> cases hsf : suf h.toList (46 :: c.toList) <;> simp
  · simp only [if_neg e4]
    cases hsf : suf h.toList (46 :: c.toList) <;> simp
end Go.Proofs.YtpdhbpdfldfnhaaGreatDoor.Rn
/- of RgMail -/
/- The great seat: an address against a base, by the program and by the document: one answer. -/
namespace Go.Proofs.YtpdhbpdfldfnhaaGreatDoor.Rn
open Go Go.RowKit Go.Proofs.YtpdhbpdfldfnhaaGreatDoorW.PrintWords Go.Proofs.YtpdhbpdfldfnhaaGreatDoorW.PrintLast Go.Proofs.YtpdhbpdfldfnhaaGreatDoorW.PrintMore Go.Proofs.YtpdhbpdfldfnhaaGreatDoor.Rm
theorem last_same (s : ByteArray) : ∀ (k : Nat) (i : Int), bytealg_LastIndexByteString.l0 k s 64 i = chirographref14_last.l0 k s i
  | 0, i => by simp [bytealg_LastIndexByteString.l0, chirographref14_last.l0]
  | k + 1, i => by
    unfold bytealg_LastIndexByteString.l0 chirographref14_last.l0
    rw [last_same s k]
theorem last_loop (s : ByteArray) (hs : s.size ≤ 1000000) : ∀ (n : Nat), n ≤ s.size → ∃ r : Int, chirographref14_last.l0 (n + 1) s ((n : Int) - 1) = some r ∧ -1 ≤ r ∧ r < n
  | 0, h => by
    refine ⟨-1, ?_, by omega, by omega⟩
    unfold chirographref14_last.l0
    rw [if_neg (by omega)]
  | n + 1, h => by
    obtain ⟨r, h1, h2, h3⟩ := last_loop s hs n (by omega)
    have e : ((n + 1 : Nat) : Int) - 1 = (n : Int) := by omega
    have w1 : wrap64 ((n : Int) - 1) = (n : Int) - 1 := by unfold wrap64; omega
    rw [e]
    unfold chirographref14_last.l0
    rw [if_pos (by omega), if_pos (by omega), if_pos (by omega), w1]
    by_cases hb : bt s (n : Int) = 64
    · exact ⟨n, by rw [if_pos hb], by omega, by omega⟩
    · exact ⟨r, by rw [if_neg hb]; exact h1, h2, by omega⟩
theorem last_some (s : ByteArray) (hs : s.size ≤ 1000000) : ∃ r : Int, -1 ≤ r ∧ r < s.size ∧ ∀ k, s.size < k → chirographref14_last.f k s = some r ∧ strings_LastIndexByte.f k s 64 = some r := by
  obtain ⟨r, h1, h2, h3⟩ := last_loop s hs s.size (Nat.le_refl _)
  have w1 : wrap64 ((s.size : Int) - 1) = (s.size : Int) - 1 := by unfold wrap64; omega
  refine ⟨r, h2, h3, fun k hk => ?_⟩
  have hf : chirographref14_last.f k s = some r := at_rounds (g := fun k => chirographref14_last.f k s) (fun k => chirographref14_last.mono s k) (k := s.size + 1) (by omega) (by
    show chirographref14_last.f (s.size + 1) s = some r
    unfold chirographref14_last.f
    rw [w1]
    exact h1)
  refine ⟨hf, ?_⟩
  unfold strings_LastIndexByte.f bytealg_LastIndexByteString.f
  unfold chirographref14_last.f at hf
  rw [last_same, hf]
  rfl
theorem tl_take (a : ByteArray) (n : Nat) : (a.extract 0 n).toList = a.toList.take n := by
  rw [ByteArray.toList_eq, ByteArray.toList_eq, ByteArray.data_extract, Array.toList_extract, List.extract_eq_take_drop]
  simp
theorem sz_drop (a : ByteArray) (i : Nat) : (a.extract i a.size).size = a.size - i := by
  rw [← tl_size, tl_extract, List.length_drop, tl_size]
/-- what stands ahead of the last @, and the house behind it -/
def boxOf (a : ByteArray) (r : Int) : ByteArray := a.extract 0 r.toNat
def houseOf (a : ByteArray) (r : Int) : ByteArray := lowered (a.extract (r + 1).toNat a.size)
theorem cut_eq (a : ByteArray) (ha : a.size ≤ 1000000) {r : Int} {k : Nat} (h1 : -1 ≤ r) (h2 : r < a.size) (hf : strings_LastIndexByte.f k a 64 = some r) :
    realm_cut.f k a = some (if r < 0 then (⟨#[]⟩, lowered a, false) else (boxOf a r, houseOf a r, true)) := by
  unfold realm_cut.f
  rw [hf, Option.bind_some]
  by_cases hr : r < 0
  · rw [if_pos hr, if_pos hr, low_eq a ha]
    rfl
  · have w1 : wrap64 (r + 1) = r + 1 := wrap64_low (by omega) (by omega)
    rw [if_neg hr, if_neg hr, if_pos (by omega), if_pos (by omega), w1, if_pos (by omega), if_pos (by omega), low_eq _ (by rw [sz_drop]; omega)]
    rfl
theorem box_nil (a : ByteArray) {r : Int} (h1 : 0 ≤ r) (h2 : r < a.size) : (boxOf a r).toList = [] ↔ r = 0 := by
  unfold boxOf
  rw [tl_take]
  constructor
  · intro h
    have := congrArg List.length h
    rw [List.length_take, tl_size] at this
    simp only [List.length_nil] at this
    omega
  · rintro rfl
    rfl
theorem house_nil (a : ByteArray) {r : Int} (h1 : 0 ≤ r) (h2 : r < a.size) : (houseOf a r).toList = [] ↔ r = (a.size : Int) - 1 := by
  have hs : (houseOf a r).size = a.size - (r + 1).toNat := by
    unfold houseOf
    rw [lowered_size, sz_drop]
  constructor
  · intro h
    have := congrArg List.length h
    rw [tl_size, hs] at this
    simp only [List.length_nil] at this
    omega
  · intro h
    refine List.eq_nil_of_length_eq_zero ?_
    rw [tl_size, hs]
    omega
theorem tl_lowered (s : ByteArray) : (lowered s).toList = (bytesOf s).map fun x => UInt8.ofNat (lowI x).toNat := by
  rw [ByteArray.toList_eq]
  unfold lowered strOfNums
  simp [List.map_map, Function.comp_def]
theorem dot_low {x : Int} (h : 0 ≤ x ∧ x ≤ 255) : (UInt8.ofNat (lowI x).toNat == 46) = decide (x = 46) := by
  obtain ⟨n, rfl⟩ : ∃ n : Nat, (n : Int) = x := ⟨x.toNat, by omega⟩
  have hn : n < 256 := by omega
  have hall : ∀ m : Fin 256, (UInt8.ofNat (lowI ((m : Nat) : Int)).toNat == 46) = decide (((m : Nat) : Int) = 46) := by decide +kernel
  exact hall ⟨n, hn⟩
theorem prefix_eq (b : ByteArray) (hb : 0 < b.size) (hs : b.size ≤ 1000000) : strings_HasPrefix.f (lowered b) (⟨#[46]⟩ : ByteArray) = some (decide (bt b 0 = 46)) := by
  have h1 : (⟨#[46]⟩ : ByteArray).size = 1 := rfl
  unfold strings_HasPrefix.f stringslite_HasPrefix.f
  rw [h1, lowered_size, if_pos (by omega), if_pos (by omega), if_pos (by omega), tl_take, tl_lowered]
  have hl : 0 < (bytesOf b).length := by rw [bytesOf_length]; exact hb
  have hr := byte_range b 0
  have e : bt b 0 = (bytesOf b).getD 0 0 := bt_bytes b 0
  cases hq : bytesOf b with
  | nil => rw [hq] at hl; simp at hl
  | cons x rest =>
    rw [hq] at hr e
    have hx : 0 ≤ x ∧ x ≤ 255 := by simpa [List.getD] using hr
    have hbt : bt b 0 = x := by rw [e]; rfl
    have hd := dot_low hx
    have e2 : ((⟨#[46]⟩ : ByteArray).toList : List UInt8) = [46] := by rw [ByteArray.toList_eq]
    have g : ∀ (y : UInt8) (l : List UInt8), (List.take ((1 : Nat) : Int).toNat (y :: l) == [46]) = (y == 46) := fun y l => by
      rw [Int.toNat_natCast]
      simp
    rw [List.map_cons, e2, g, hd, hbt]
    rfl
theorem mail_eq (a b : ByteArray) (ha : a.size ≤ 900000) (hb : b.size ≤ 900000) : ∃ k r, realm_Mail.f k a b = some r ∧ chirographref14_Mail.f k a b = some r := by
  obtain ⟨ra, a1, a2, a3⟩ := last_some a (by omega)
  obtain ⟨rb, b1, b2, b3⟩ := last_some b (by omega)
  refine ⟨a.size + b.size + 3, ?_⟩
  obtain ⟨a4, a5⟩ := a3 (a.size + b.size + 3) (by omega)
  have b4 := (b3 (a.size + b.size + 2) (by omega)).1
  have b5 := (b3 (a.size + b.size + 2) (by omega)).2
  unfold realm_Mail.f chirographref14_Mail.f
  rw [cut_eq a (by omega) a1 a2 a5, a4]
  simp only [Option.bind_some]
  have w0 : wrap64 ((a.size : Int) - 1) = (a.size : Int) - 1 := by unfold wrap64; omega
  rw [w0]
  by_cases hra : ra < 0
  · refine ⟨false, ?_, ?_⟩
    · rw [if_pos hra]
      simp [realm_Mail.j0]
    · rw [if_pos (by omega)]
      simp [chirographref14_Mail.j0]
  rw [if_neg hra]
  simp only [if_true]
  by_cases h0 : ra = 0
  · refine ⟨false, ?_, ?_⟩
    · rw [if_pos ((box_nil a (by omega) a2).2 h0)]
      simp [realm_Mail.j0]
    · rw [if_pos (by omega)]
      simp [chirographref14_Mail.j0]
  rw [if_neg (fun h => h0 ((box_nil a (by omega) a2).1 h)), if_neg (show ¬ ra < 1 by omega)]
  by_cases he : ra = (a.size : Int) - 1
  · refine ⟨false, ?_, ?_⟩
    · have : ((houseOf a ra).toList == ([] : List UInt8)) = true := by rw [beq_iff_eq]; exact (house_nil a (by omega) a2).2 he
      rw [this]
      simp [realm_Mail.j0]
    · have : (ra == (a.size : Int) - 1) = true := by rw [beq_iff_eq]; exact he
      rw [this]
      simp [chirographref14_Mail.j0]
  have e1 : ((houseOf a ra).toList == ([] : List UInt8)) = false := by rw [beq_eq_false_iff_ne]; exact fun h => he ((house_nil a (by omega) a2).1 h)
  have e2 : (ra == (a.size : Int) - 1) = false := by rw [beq_eq_false_iff_ne]; exact he
  rw [e1, e2]
  have w1 : wrap64 (ra + 1) = ra + 1 := wrap64_low (by omega) (by omega)
  have hsm : chirographref14_small.f (a.size + b.size + 2) (a.extract (ra + 1).toNat a.size) = some (houseOf a ra) := small_eq _ (by rw [sz_drop]; omega) _ (by rw [sz_drop]; omega)
  have hhs : (houseOf a ra).size ≤ 900000 := by
    unfold houseOf
    rw [lowered_size, sz_drop]
    omega
  simp only [realm_Mail.j0, chirographref14_Mail.j0, Bool.false_eq_true, if_false]
  rw [cut_eq b (by omega) b1 b2 b5, Option.bind_some, if_pos (show 0 ≤ ra by omega), if_pos (show ra ≤ (a.size : Int) by omega), w1, if_pos (show 0 ≤ ra + 1 by omega), if_pos (show ra + 1 ≤ (a.size : Int) by omega), hsm, Option.bind_some, b4, Option.bind_some]
  by_cases hrb : rb < 0
  · rw [if_neg (show ¬ rb ≥ 0 by omega), if_pos hrb]
    simp only [Bool.false_eq_true, if_false]
    by_cases hz : b.size = 0
    · have hbn : b.toList = [] := List.eq_nil_of_length_eq_zero (by rw [tl_size]; exact hz)
      have hln : (lowered b).toList = [] := List.eq_nil_of_length_eq_zero (by rw [tl_size, lowered_size]; exact hz)
      have hpf : strings_HasPrefix.f (lowered b) (⟨#[46]⟩ : ByteArray) = some false := by
        have h1 : (⟨#[46]⟩ : ByteArray).size = 1 := rfl
        unfold strings_HasPrefix.f stringslite_HasPrefix.f
        rw [h1, lowered_size, if_neg (by omega)]
        rfl
      refine ⟨true, ?_, ?_⟩
      · rw [hpf]
        simp [hln]
      · rw [if_pos hbn]
    · have hbn : b.toList ≠ [] := fun h => hz (by rw [← tl_size, h]; rfl)
      have hln : (lowered b).toList ≠ [] := fun h => hz (by rw [← lowered_size, ← tl_size, h]; rfl)
      rw [prefix_eq b (by omega) (by omega), Option.bind_some, if_neg hbn, if_pos (show (0 : Int) < (b.size : Int) by omega), small_eq b (by omega) _ (by omega)]
      by_cases hd : bt b 0 = 46
      · rw [decide_eq_true hd, if_pos rfl, if_pos hd, below_eq _ _ (by omega) (by rw [lowered_size]; omega), Option.bind_some, Option.bind_some, ends_eq _ _ (by omega) (by rw [lowered_size]; omega)]
        exact ⟨_, rfl, rfl⟩
      · rw [decide_eq_false hd, if_neg (by decide), if_neg hd, if_neg hln, Option.bind_some]
        exact ⟨_, rfl, rfl⟩
  · have w2 : wrap64 (rb + 1) = rb + 1 := wrap64_low (by omega) (by omega)
    rw [if_pos (show rb ≥ 0 by omega), if_neg hrb, if_pos (show 0 ≤ rb by omega), if_pos (show rb ≤ (b.size : Int) by omega), w2]
    simp only [if_true]
    have hsm2 : chirographref14_small.f (a.size + b.size + 2) (b.extract (rb + 1).toNat b.size) = some (houseOf b rb) := small_eq _ (by rw [sz_drop]; omega) _ (by rw [sz_drop]; omega)
    by_cases hbx : (boxOf a ra).toList = (boxOf b rb).toList
    · rw [if_pos hbx]
      have hbx2 : (a.extract 0 ra.toNat).toList = (b.extract 0 rb.toNat).toList := hbx
      rw [if_pos hbx2, if_pos (show 0 ≤ rb + 1 by omega), if_pos (show rb + 1 ≤ (b.size : Int) by omega), hsm2]
      exact ⟨_, rfl, rfl⟩
    · have hbx2 : ¬ (a.extract 0 ra.toNat).toList = (b.extract 0 rb.toNat).toList := hbx
      rw [if_neg hbx, if_neg hbx2]
      exact ⟨_, rfl, rfl⟩
end Go.Proofs.YtpdhbpdfldfnhaaGreatDoor.Rn
