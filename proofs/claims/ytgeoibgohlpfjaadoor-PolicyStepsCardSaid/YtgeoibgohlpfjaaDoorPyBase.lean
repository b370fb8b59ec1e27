/- The policy claims' base: plain laws of the statements, maps, strings, blocks (joined by merge.py). -/
import Derived.Test.YtgeoibgohlpfjaaDoorProg
import Derived.Below
import Derived.Deep.Draws
import Derived.Deep.AppendLies
import Derived.Maps.AppendAt
import Derived.OwnWalk
import Derived.Laws.BytesArg
import Derived.Laws.MakeOwn
import Derived.Laws.OwnMore
import Derived.Deep.OwnRows
import Derived.Tactics
import Derived.Lib.ConvBytes
import Derived.Laws.Slices
import Derived.WalkKit
import Derived.KernelRfl
import Derived.RowKit3
import Derived.Deep.LoopGhost
import Derived.Deep.QuietTactic
import Derived.BigQuiet
import Derived.WideLaws
import Derived.Deep.DeepCutAuto
import Derived.Deep.CutBlock
import Derived.Deep.RegionHeld3
import Derived.Laws.Rows
import Derived.Lib.AppendStr
import Derived.ArgAppend
import Derived.Laws.IdiomCopy
import Derived.OrdersHeld
import Derived.Laws.BitsLemmas
import Derived.RowKit
import Derived.Test.YtgeoibgohlpfjaaDoorWWords
import Derived.Test.YtgeoibgohlpfjaaDoorWLast
import Derived.Test.YtgeoibgohlpfjaaDoorWTab
import Derived.Test.YtgeoibgohlpfjaaDoorWFour
import Derived.Test.YtgeoibgohlpfjaaDoorWQPut
import Derived.Test.YtgeoibgohlpfjaaDoorWApart
import Derived.Test.YtgeoibgohlpfjaaDoorWArr
import Derived.Test.YtgeoibgohlpfjaaDoorWZeros
import Derived.Test.YtgeoibgohlpfjaaDoorWFoot
import Derived.Test.YtgeoibgohlpfjaaDoorWKept
import Derived.Test.YtgeoibgohlpfjaaDoorWShare
import Derived.Test.YtgeoibgohlpfjaaDoorWN
import Derived.Test.YtgeoibgohlpfjaaDoorWFootNe
import Derived.Test.YtgeoibgohlpfjaaDoorWAt
import Derived.Test.YtgeoibgohlpfjaaDoorWEqStruct
import Derived.Test.YtgeoibgohlpfjaaDoorWRepsOne
import Derived.Test.YtgeoibgohlpfjaaDoorWInv
import Derived.Test.YtgeoibgohlpfjaaDoorWInvWords
import Derived.Test.YtgeoibgohlpfjaaDoorWGuard
import Derived.Test.YtgeoibgohlpfjaaDoorWNEv
import Derived.Test.YtgeoibgohlpfjaaDoorWMore
import Derived.Maps.Own
import Derived.Maps.Ext
import Derived.Maps.RangeWalk
import Derived.SliceStrings
import Derived.Lib.SlicesCompact
import Derived.Sort.KeysCollected
import Derived.Lib.RowBridge
import Derived.Deep.MidRow
import Derived.Lib.SlBytesConst
set_option linter.unusedVariables false
set_option linter.unusedSimpArgs false
/- The words and laws that the session's texts on policies lean on. -/
/- Plain Lean: lists of texts in order, each once: what sorting and compacting gives, and what putting one by one gives. -/
namespace Go.Proofs.YtgeoibgohlpfjaaDoor.Py
open Go.Lib
abbrev S := List UInt8
def lt' (x y : S) : Prop := x ≤ y ∧ x ≠ y
theorem lt'_trans {x y z : S} (h : lt' x y) (g : lt' y z) : lt' x z := by
  refine ⟨List.le_trans h.1 g.1, ?_⟩
  rintro rfl
  exact h.2 (List.le_antisymm h.1 g.1)
theorem lt'_or (x y : S) : x = y ∨ lt' x y ∨ lt' y x := by
  by_cases h : x = y
  · exact .inl h
  · rcases List.le_total x y with h1 | h1
    · exact .inr (.inl ⟨h1, h⟩)
    · exact .inr (.inr ⟨h1, fun e => h e.symm⟩)
def SS (l : List S) : Prop := l.Pairwise lt'
theorem SS.nodup {l : List S} (h : SS l) : l.Nodup := h.imp (fun h => h.2)
theorem ss_ext {l m : List S} (hl : SS l) (hm : SS m) (h : ∀ x, x ∈ l ↔ x ∈ m) : l = m := by
  have hp : l.Perm m := (List.perm_ext_iff_of_nodup hl.nodup hm.nodup).2 h
  exact List.Perm.eq_of_pairwise (le := fun a b => a ≤ b) (fun a b _ _ h1 h2 => List.le_antisymm h1 h2) (hl.imp fun h => h.1) (hm.imp fun h => h.1) hp
/-- sorted, each once -/
def norm (l : List S) : List S := Lib.compact (l.mergeSort fun x y => decide (x ≤ y))
theorem compactUpTo_mem (d : Array S) : ∀ m x, x ∈ compactUpTo d m ↔ ∃ j, j < m ∧ d[j]! = x
  | 0, x => by simp [compactUpTo]
  | m + 1, x => by
    rw [compactUpTo_succ, List.mem_append, compactUpTo_mem d m]
    constructor
    · rintro (⟨j, hj, e⟩ | h)
      · exact ⟨j, by omega, e⟩
      · split at h
        · simp at h
          exact ⟨m, by omega, h.symm⟩
        · simp at h
    · rintro ⟨j, hj, rfl⟩
      by_cases hjm : j = m
      · subst hjm
        by_cases hk : keeps d j = true
        · rw [if_pos hk]
          exact .inr (by simp)
        · have : ¬ (j = 0 ∨ d[j]! ≠ d[j - 1]!) := by simpa [keeps] using hk
          have h0 : j ≠ 0 := fun e => this (.inl e)
          have h1 : d[j]! = d[j - 1]! := by
            by_cases e : d[j]! = d[j - 1]!
            · exact e
            · exact absurd (.inr e) this
          exact .inl ⟨j - 1, by omega, h1.symm⟩
      · exact .inl ⟨j, by omega, rfl⟩
theorem compactUpTo_ss (d : Array S) (hd : ∀ i j, i < j → j < d.size → d[i]! ≤ d[j]!) : ∀ m, m ≤ d.size → SS (compactUpTo d m)
  | 0, _ => by simp [compactUpTo, SS]
  | m + 1, hm => by
    rw [compactUpTo_succ]
    have ih := compactUpTo_ss d hd m (by omega)
    by_cases hk : keeps d m = true
    · rw [if_pos hk]
      refine List.pairwise_append.2 ⟨ih, by simp, fun x hx y hy => ?_⟩
      simp at hy
      subst hy
      obtain ⟨j, hj, rfl⟩ := (compactUpTo_mem d m x).1 hx
      have hk' : m = 0 ∨ d[m]! ≠ d[m - 1]! := by simpa [keeps] using hk
      have hne : d[m]! ≠ d[m - 1]! := by rcases hk' with h | h; omega; exact h
      have h1 := hd (m - 1) m (by omega) (by omega)
      by_cases hjm : j = m - 1
      · subst hjm
        exact ⟨h1, fun e => hne e.symm⟩
      · have h2 := hd j (m - 1) (by omega) (by omega)
        refine ⟨List.le_trans h2 h1, fun e => hne ?_⟩
        exact List.le_antisymm (by rw [← e]; exact h2) h1
    · rw [if_neg hk, List.append_nil]
      exact ih
theorem sort_le (l : List S) : (l.mergeSort fun x y => decide (x ≤ y)).Pairwise (fun a b => a ≤ b) := by
  have tr : ∀ a b c : S, decide (a ≤ b) = true → decide (b ≤ c) = true → decide (a ≤ c) = true := fun a b c h1 h2 => by simp only [decide_eq_true_eq] at *; exact List.le_trans h1 h2
  have tot_ : ∀ a b : S, (decide (a ≤ b) || decide (b ≤ a)) = true := fun a b => by simp only [Bool.or_eq_true, decide_eq_true_eq]; exact List.le_total a b
  exact (List.pairwise_mergeSort tr tot_ l).imp (fun h => of_decide_eq_true h)
theorem norm_ss (l : List S) : SS (norm l) := by
  unfold norm compact
  refine compactUpTo_ss _ (fun i j hij hj => ?_) _ (by simp)
  have h := List.pairwise_iff_getElem.1 (sort_le l) i j (by simp at hj ⊢; omega) (by simpa using hj) hij
  simpa [getElem!_pos, show i < l.length by simp at hj; omega, show j < l.length by simpa using hj] using h
theorem norm_mem (l : List S) (x : S) : x ∈ norm l ↔ x ∈ l := by
  unfold norm compact
  rw [compactUpTo_mem]
  have hp := List.mergeSort_perm l (fun x y => decide (x ≤ y))
  rw [← hp.mem_iff, List.mem_iff_getElem]
  constructor
  · rintro ⟨j, hj, e⟩
    refine ⟨j, hj, ?_⟩
    rw [← e]
    simp [List.getElem?_eq_getElem hj]
  · rintro ⟨j, hj, e⟩
    refine ⟨j, hj, ?_⟩
    rw [← e]
    simp [List.getElem?_eq_getElem hj]
theorem norm_ext {l m : List S} (h : ∀ x, x ∈ l ↔ x ∈ m) : norm l = norm m := ss_ext (norm_ss l) (norm_ss m) (fun x => by rw [norm_mem, norm_mem]; exact h x)
theorem norm_id {l : List S} (h : SS l) : norm l = l := ss_ext (norm_ss l) h (fun x => norm_mem l x)
theorem norm_nil : norm [] = [] := norm_id List.Pairwise.nil
/-- a text into a list, in its place -/
def ins (s : S) : List S → List S
  | [] => [s]
  | x :: l => if s ≤ x then s :: x :: l else x :: ins s l
theorem ins_mem (s : S) : ∀ (l : List S) (x : S), x ∈ ins s l ↔ x = s ∨ x ∈ l
  | [], x => by simp [ins]
  | y :: l, x => by
    unfold ins
    split
    · simp
    · rw [List.mem_cons, ins_mem s l, List.mem_cons]
      constructor
      · rintro (h | h | h)
        · exact .inr (.inl h)
        · exact .inl h
        · exact .inr (.inr h)
      · rintro (h | h | h)
        · exact .inr (.inl h)
        · exact .inl h
        · exact .inr (.inr h)
theorem ins_ss (s : S) : ∀ (l : List S), SS l → s ∉ l → SS (ins s l)
  | [], _, _ => by simp [ins, SS]
  | x :: l, h, hn => by
    have hx := List.pairwise_cons.1 h
    have hsx : s ≠ x := fun e => hn (by simp [e])
    unfold ins
    split
    · rename_i hle
      refine List.pairwise_cons.2 ⟨fun y hy => ?_, h⟩
      rcases List.mem_cons.1 hy with rfl | hy
      · exact ⟨hle, hsx⟩
      · exact lt'_trans ⟨hle, hsx⟩ (hx.1 y hy)
    · rename_i hle
      have hxs : lt' x s := by
        rcases List.le_total s x with h1 | h1
        · exact absurd h1 hle
        · exact ⟨h1, fun e => hsx e.symm⟩
      refine List.pairwise_cons.2 ⟨fun y hy => ?_, ins_ss s l hx.2 (fun c => hn (by simp [c]))⟩
      rcases (ins_mem s l y).1 hy with rfl | hy
      · exact hxs
      · exact hx.1 y hy
def put (l : List S) (s : S) : List S := if s ∈ l then l else ins s l
theorem put_mem (l : List S) (s x : S) : x ∈ put l s ↔ x = s ∨ x ∈ l := by
  unfold put
  split
  · rename_i h
    constructor
    · exact .inr
    · rintro (rfl | h2)
      · exact h
      · exact h2
  · exact ins_mem s l x
theorem put_ss {l : List S} (h : SS l) (s : S) : SS (put l s) := by
  unfold put
  split
  · exact h
  · rename_i hn
    exact ins_ss s l h hn
theorem puts_mem : ∀ (m l : List S) (x : S), x ∈ m.foldl put l ↔ x ∈ l ∨ x ∈ m
  | [], l, x => by simp
  | s :: m, l, x => by
    rw [List.foldl_cons, puts_mem m, put_mem, List.mem_cons]
    constructor
    · rintro ((h | h) | h)
      · exact .inr (.inl h)
      · exact .inl h
      · exact .inr (.inr h)
    · rintro (h | h | h)
      · exact .inl (.inr h)
      · exact .inl (.inl h)
      · exact .inr h
theorem puts_ss : ∀ (m l : List S), SS l → SS (m.foldl put l)
  | [], l, h => h
  | s :: m, l, h => puts_ss m _ (put_ss h s)
theorem puts_norm (m : List S) : m.foldl put [] = norm m := ss_ext (puts_ss m [] List.Pairwise.nil) (norm_ss m) (fun x => by rw [puts_mem, norm_mem]; simp)
end Go.Proofs.YtgeoibgohlpfjaaDoor.Py
/- Plain Lean: policies along certificates: what a step, the end, the whole answers, and what holds of it whatever the certificates. -/
namespace Go.Proofs.YtgeoibgohlpfjaaDoor.Py
/-- "2.5.29.32.0" -/
def anyP : S := [50, 46, 53, 46, 50, 57, 46, 51, 50, 46, 48]
structure Cb where
  pol : List S
  req : Int
  inh : Int
  own : Bool
structure Pl where
  set : List S
  ex : Int
  any : Int
def gather (set : List S) (any : Int) (pol : List S) (own last : Bool) : List S :=
  (pol.filter fun s => decide (s ≠ anyP ∧ (s ∈ set ∨ anyP ∈ set))) ++ (if anyP ∈ pol ∧ (any > 0 ∨ (own = true ∧ last = false)) then set else [])
def down (n bound : Int) (less : Bool) : Int :=
  let m := if less = true ∧ n > 0 then n - 1 else n
  if bound ≥ 0 then min m bound else m
def stepV (p : Pl) (c : Cb) (last : Bool) : Option Pl :=
  if gather p.set p.any c.pol c.own last = [] ∧ p.ex ≤ 0 then none
  else some ⟨norm (gather p.set p.any c.pol c.own last), if last = true then p.ex else down p.ex c.req (!c.own), if last = true then p.any else down p.any c.inh (!c.own)⟩
def asked (set user : List S) : List S := if user ≠ [] ∧ anyP ∉ user then (if anyP ∈ set then user else user.filter fun s => decide (s ∈ set)) else set
def endX (ex req : Int) : Int := if req = 0 then 0 else down ex (-1) true
def endV (p : Pl) (c : Cb) (user : List S) : Option (List S) :=
  if asked p.set user = [] ∧ endX p.ex c.req ≤ 0 then none else some (norm (asked p.set user))
def startV (n : Int) (explicit inhibit : Bool) : Pl :=
  let m := 1 + min (max n 0) 8
  ⟨[anyP], if explicit = true then 0 else m, if inhibit = true then 0 else m⟩
def runFrom (user : List S) : Pl → List Cb → Option (List S)
  | _, [] => none
  | p, [c] => (stepV p c true).bind fun q => endV q c user
  | p, c :: d :: l => (stepV p c false).bind fun q => runFrom user q (d :: l)
def runV (l : List Cb) (user : List S) (explicit inhibit : Bool) : Option (List S) := runFrom user (startV l.length explicit inhibit) l

/-! ### the order plays no part -/
def Like (l m : List S) : Prop := ∀ x, x ∈ l ↔ x ∈ m
theorem Like.nil {l m : List S} (h : Like l m) : l = [] ↔ m = [] := by
  constructor
  · rintro rfl
    exact List.eq_nil_iff_forall_not_mem.2 fun x hx => by simpa using (h x).2 hx
  · rintro rfl
    exact List.eq_nil_iff_forall_not_mem.2 fun x hx => by simpa using (h x).1 hx
theorem gather_like (set : List S) (any : Int) {a b : List S} (h : Like a b) (own last : Bool) : Like (gather set any a own last) (gather set any b own last) := by
  intro x
  unfold gather
  simp only [List.mem_append, List.mem_filter, h x, h anyP]
theorem gather_like2 {s t : List S} (any : Int) (a : List S) (h : Like s t) (own last : Bool) : Like (gather s any a own last) (gather t any a own last) := by
  intro x
  unfold gather
  simp only [List.mem_append, List.mem_filter, h x, h anyP]
  split <;> simp [h x]
theorem step_like (p : Pl) (c d : Cb) (last : Bool) (h : Like c.pol d.pol) (h1 : c.req = d.req) (h2 : c.inh = d.inh) (h3 : c.own = d.own) : stepV p c last = stepV p d last := by
  unfold stepV
  have g := gather_like p.set p.any h c.own last
  rw [← h3, ← h1, ← h2, norm_ext g]
  simp only [g.nil]
theorem asked_like (set : List S) {u v : List S} (h : Like u v) : Like (asked set u) (asked set v) := by
  intro x
  unfold asked
  simp only [ne_eq, h.nil, h anyP]
  split
  · split
    · exact h x
    · simp only [List.mem_filter, h x]
  · exact Iff.rfl
theorem end_like (p : Pl) (c d : Cb) {u v : List S} (h1 : c.req = d.req) (hu : Like u v) : endV p c u = endV p d v := by
  unfold endV
  have g := asked_like p.set hu
  rw [← h1, norm_ext g]
  simp only [g.nil]
def CLike (c d : Cb) : Prop := Like c.pol d.pol ∧ c.req = d.req ∧ c.inh = d.inh ∧ c.own = d.own
def CLikes : List Cb → List Cb → Prop
  | [], [] => True
  | c :: l, d :: m => CLike c d ∧ CLikes l m
  | [], _ :: _ => False
  | _ :: _, [] => False
theorem run_like {u v : List S} (hu : Like u v) : ∀ (l m : List Cb) (p : Pl), CLikes l m → runFrom u p l = runFrom v p m
  | [], [], _, _ => rfl
  | [c], [d], p, ⟨⟨h0, h1, h2, h3⟩, _⟩ => by
    show (stepV p c true).bind _ = (stepV p d true).bind _
    rw [step_like p c d true h0 h1 h2 h3]
    congr 1
    funext q
    exact end_like q c d h1 hu
  | c :: c2 :: l, d :: d2 :: m, p, ⟨⟨h0, h1, h2, h3⟩, ht⟩ => by
    show (stepV p c false).bind _ = (stepV p d false).bind _
    rw [step_like p c d false h0 h1 h2 h3]
    congr 1
    funext q
    exact run_like hu (c2 :: l) (d2 :: m) q ht
  | [_], _ :: _ :: _, _, ⟨_, h⟩ => h.elim
  | _ :: _ :: _, [_], _, ⟨_, h⟩ => h.elim

/-! ### who asks for more -/
/-- one state allows at least what another one does -/
structure More (p q : Pl) : Prop where
  set : ∀ x, x ∈ p.set → x ∈ q.set
  ex : p.ex ≤ q.ex
  any : p.any ≤ q.any
theorem down_mono {a b : Int} (h : a ≤ b) (bound : Int) (less : Bool) : down a bound less ≤ down b bound less := by
  cases less with
  | false =>
    simp only [down, Int.min_def, Bool.false_eq_true, false_and, if_false]
    repeat' split
    all_goals omega
  | true =>
    simp only [down, Int.min_def, true_and]
    repeat' split
    all_goals omega
theorem gather_mono {p q : Pl} (h : More p q) (c : Cb) (last : Bool) : ∀ x, x ∈ gather p.set p.any c.pol c.own last → x ∈ gather q.set q.any c.pol c.own last := by
  intro x
  unfold gather
  simp only [List.mem_append, List.mem_filter, decide_eq_true_eq]
  rintro (⟨h1, h2, h3⟩ | h1)
  · refine .inl ⟨h1, h2, ?_⟩
    rcases h3 with h3 | h3
    · exact .inl (h.set _ h3)
    · exact .inr (h.set _ h3)
  · split at h1
    · rename_i hc
      right
      rw [if_pos ⟨hc.1, by rcases hc.2 with h4 | h4; exact .inl (by have := h.any; omega); exact .inr h4⟩]
      exact h.set _ h1
    · simp at h1
theorem step_mono {p q p' : Pl} (h : More p q) (c : Cb) (last : Bool) (hs : stepV p c last = some p') : ∃ q', stepV q c last = some q' ∧ More p' q' := by
  unfold stepV at hs ⊢
  have g := gather_mono h c last
  split at hs
  · cases hs
  · rename_i hn
    cases hs
    rw [if_neg ?_]
    · refine ⟨_, rfl, ⟨fun x hx => ?_, ?_, ?_⟩⟩
      · simp only [norm_mem] at hx ⊢
        exact g x hx
      · simp only
        split
        · exact h.ex
        · exact down_mono h.ex _ _
      · simp only
        split
        · exact h.any
        · exact down_mono h.any _ _
    · rintro ⟨h1, h2⟩
      have he : gather p.set p.any c.pol c.own last = [] := List.eq_nil_iff_forall_not_mem.2 fun x hx => by
        have := g x hx
        rw [h1] at this
        simp at this
      exact hn ⟨he, by have := h.ex; omega⟩
theorem endX_mono {a b : Int} (h : a ≤ b) (req : Int) : endX a req ≤ endX b req := by
  unfold endX
  split
  · exact Int.le_refl _
  · exact down_mono h _ _
/-- asking for at least as much -/
def Wider (u v : List S) : Prop := ∀ set, asked set u ≠ [] → asked set v ≠ []
theorem asked_mono {s t : List S} (h : ∀ x, x ∈ s → x ∈ t) (u : List S) : ∀ x, x ∈ asked s u → x ∈ asked t u := by
  intro x
  unfold asked
  split
  · split
    · rename_i ha
      rw [if_pos (h _ ha)]
      exact id
    · intro hx
      rw [List.mem_filter] at hx
      split
      · exact hx.1
      · rw [List.mem_filter]
        exact ⟨hx.1, by simpa using h x (by simpa using hx.2)⟩
  · exact h x
theorem end_mono {p q : Pl} (h : More p q) (c : Cb) {u v : List S} (hw : Wider u v) (he : endV p c u ≠ none) : endV q c v ≠ none := by
  unfold endV at he ⊢
  split at he
  · exact absurd rfl he
  · rename_i hn
    rw [if_neg ?_]
    · simp
    · rintro ⟨h1, h2⟩
      refine hn ⟨?_, by have := endX_mono h.ex c.req; omega⟩
      by_cases hc : asked p.set u = []
      · exact hc
      · exfalso
        obtain ⟨x, hx⟩ := List.exists_mem_of_ne_nil _ hc
        have hx2 := asked_mono h.set u x hx
        exact hw q.set (List.ne_nil_of_mem hx2) h1
theorem runFrom_mono {u v : List S} (hw : Wider u v) : ∀ (l : List Cb) (p q : Pl), More p q → runFrom u p l ≠ none → runFrom v q l ≠ none
  | [], _, _, _, h => h
  | [c], p, q, h, hr => by
    simp only [runFrom] at hr ⊢
    cases hs : stepV p c true with
    | none => rw [hs] at hr; exact absurd rfl hr
    | some p' =>
      obtain ⟨q', hq, hm⟩ := step_mono h c true hs
      rw [hs] at hr
      rw [hq]
      exact end_mono hm c hw hr
  | c :: d :: l, p, q, h, hr => by
    simp only [runFrom] at hr ⊢
    cases hs : stepV p c false with
    | none => rw [hs] at hr; exact absurd rfl hr
    | some p' =>
      obtain ⟨q', hq, hm⟩ := step_mono h c false hs
      rw [hs] at hr
      rw [hq]
      exact runFrom_mono hw (d :: l) p' q' hm hr
theorem wider_refl (u : List S) : Wider u u := fun _ h => h
theorem wider_more (u : List S) (m : S) (hu : u ≠ []) : Wider u (u ++ [m]) := by
  intro set h
  unfold asked at h ⊢
  by_cases ha : anyP ∈ u
  · rw [if_neg (by simp [ha])] at h
    rw [if_neg (by simp [ha])]
    exact h
  · rw [if_pos ⟨hu, ha⟩] at h
    by_cases hs : anyP ∈ set
    · split
      · simp
      · exact List.ne_nil_of_mem hs
    · rw [if_neg hs] at h
      obtain ⟨x, hx⟩ := List.exists_mem_of_ne_nil _ h
      rw [List.mem_filter] at hx
      have hxs : x ∈ set := by simpa using hx.2
      split
      · exact List.ne_nil_of_mem (List.mem_filter.2 ⟨by simp [hx.1], hx.2⟩)
      · exact List.ne_nil_of_mem hxs
theorem wider_nil (u : List S) : Wider u [] := by
  intro set h
  unfold asked at h ⊢
  rw [if_neg (by simp)]
  split at h
  · rename_i hc
    split at h
    · rename_i hs
      exact List.ne_nil_of_mem hs
    · obtain ⟨x, hx⟩ := List.exists_mem_of_ne_nil _ h
      rw [List.mem_filter] at hx
      have hxs : x ∈ set := by simpa using hx.2
      exact List.ne_nil_of_mem hxs
  · exact h
theorem start_explicit (n : Int) (e i : Bool) : More (startV n e i) (startV n false i) := by
  refine ⟨fun _ h => h, ?_, Int.le_refl _⟩
  simp only [startV]
  split <;> simp <;> omega
theorem start_inhibit (n : Int) (e i : Bool) : More (startV n e i) (startV n e false) := by
  refine ⟨fun _ h => h, Int.le_refl _, ?_⟩
  simp only [startV]
  split <;> simp <;> omega
/-- what is answered is among those that were asked for -/
theorem run_among (u : List S) (hu : u ≠ []) (ha : anyP ∉ u) : ∀ (l : List Cb) (p : Pl) (x : List S), runFrom u p l = some x → ∀ s ∈ x, s ∈ u
  | [], _, _, h => by cases h
  | [c], p, x, h => by
    simp only [runFrom] at h
    cases hs : stepV p c true with
    | none => rw [hs] at h; cases h
    | some q =>
      rw [hs] at h
      simp only [Option.bind_some, endV] at h
      split at h
      · cases h
      · cases h
        intro s hs2
        rw [norm_mem] at hs2
        unfold asked at hs2
        rw [if_pos ⟨hu, ha⟩] at hs2
        split at hs2
        · exact hs2
        · exact (List.mem_filter.1 hs2).1
  | c :: d :: l, p, x, h => by
    simp only [runFrom] at h
    cases hs : stepV p c false with
    | none => rw [hs] at h; cases h
    | some q =>
      rw [hs] at h
      exact run_among u hu ha (d :: l) q x h
end Go.Proofs.YtgeoibgohlpfjaaDoor.Py
/- policy.set walked: what the map that it makes says of each text: how often it stands in the list. -/
namespace Go.Proofs.YtgeoibgohlpfjaaDoor.Py
open Go Go.RowKit Go.WideMaps Go.Maps Go.Proofs.YtgeoibgohlpfjaaDoorW.PrintWords Go.Proofs.YtgeoibgohlpfjaaDoorW.PrintLast Go.Proofs.YtgeoibgohlpfjaaDoorW.PrintMore

theorem law : Keyed Tryd.prog 9 := string_keyed Tryd.underlying9
theorem zero3 (w : World) : (zeroValue 3).run Tryd.prog w = .ok (.int .i64 0) w := by kernel_rfl

/-- a text as a key -/
def kl (s : ByteArray) : Lit := .string s.data.toList
theorem kl_inj {s t : ByteArray} (h : kl s = kl t) : s = t := by
  unfold kl at h
  injection h with h
  cases s; cases t
  congr
  exact Array.toList_inj.1 h
theorem kl_key (s : ByteArray) : WideAt.IsKeyLit (kl s) := trivial
/-- how often a text stands in a list -/
def cnt (ss : List ByteArray) (s : ByteArray) : Nat := ss.countP fun t => decide (t = s)
theorem cnt_le (ss : List ByteArray) (s : ByteArray) : cnt ss s ≤ ss.length := List.countP_le_length
theorem cnt_pos (ss : List ByteArray) (s : ByteArray) : 0 < cnt ss s ↔ s ∈ ss := by
  unfold cnt
  rw [List.countP_pos_iff]
  simp
theorem cnt_snoc (ss : List ByteArray) (t s : ByteArray) : cnt (ss ++ [t]) s = cnt ss s + if t = s then 1 else 0 := by
  unfold cnt
  rw [List.countP_append]
  simp [List.countP_cons]

abbrev I (z : Int) : DataW Unit := .lit (.int .i64 z)
theorem I_inj {a b : Int} (h : I a = I b) : a = b := by
  injection h with h
  injection h with _ h
/-- what the map reads as -/
structure Tells (D : DataW Unit) (ss : List ByteArray) : Prop where
  map : IsMap D
  at_ : ∀ s, D.atKey (kl s) (I 0) = I (cnt ss s)
  only : ∀ k, Maps.has D k = true → ∃ s ∈ ss, k = kl s
  all : ∀ s ∈ ss, Maps.has D (kl s) = true
theorem Tells.empty : Tells (.map []) [] where
  map := isMap_empty
  at_ := fun s => rfl
  only := fun k h => by cases h
  all := fun s h => by cases h
theorem Tells.step {D : DataW Unit} {ss : List ByteArray} (h : Tells D ss) (s : ByteArray) : Tells (D.put (kl s) (I (cnt ss s + 1 : Nat))) (ss ++ [s]) where
  map := h.map.put _ _
  at_ := fun t => by
    by_cases e : t = s
    · subst e
      rw [atKey_put_same h.map (kl_key _), cnt_snoc]
      simp
    · rw [atKey_put_other (fun e2 => e (kl_inj e2)), h.at_, cnt_snoc, if_neg (fun e2 => e e2.symm)]
      rfl
  only := fun k hk => by
    by_cases e : k = kl s
    · exact ⟨s, by simp, e⟩
    · rw [has_put_other e] at hk
      obtain ⟨t, ht, e2⟩ := h.only k hk
      exact ⟨t, by simp [ht], e2⟩
  all := fun t ht => by
    by_cases e : t = s
    · subst e
      exact has_put_same h.map (kl_key _) _
    · rw [has_put_other (fun e2 => e (kl_inj e2))]
      exact h.all t (by
        rcases List.mem_append.1 ht with h1 | h1
        · exact h1
        · simp at h1
          exact absurd h1 e)

/-- a block that is a map telling of a list -/
def MapIs (w : World) (b : Nat) (ss : List ByteArray) : Prop := ∃ D, w.ownsMap Tryd.prog 9 (plainElem Tryd.prog 3) b ss.length D ∧ Tells D ss
theorem MapIs.kept {w w' : World} {b : Nat} {ss : List ByteArray} {row : Option Nat} (h : MapIs w b ss) (hg : w.grownBy w' row) (hne : some b ≠ row) : MapIs w' b ss := by
  obtain ⟨D, h1, h2⟩ := h
  exact ⟨D, h1.kept hg hne, h2⟩
theorem MapIs.lt {w : World} {b : Nat} {ss : List ByteArray} (h : MapIs w b ss) : b < w.heap.size := by
  obtain ⟨D, h1, h2⟩ := h
  exact h1.lt
theorem MapIs.below {w w' : World} {b : Nat} {ss : List ByteArray} (h : MapIs w b ss) (hb : Below w.heap.size w w') : MapIs w' b ss :=
  h.kept (row := none) ⟨hb.os, hb.tape, hb.output, hb.size, fun k hk _ => hb.block k hk⟩ (by simp)
def Fits (ss : List ByteArray) : Prop := ∀ s ∈ ss, s.size ≤ maxLen
theorem key_of {s : ByteArray} (hs : s.size ≤ maxLen) : keyOf Tryd.prog 9 (.string s) = some (kl s) := keyOf_string_mk Tryd.underlying9 hs
theorem MapIs.look {w : World} {b : Nat} {ss : List ByteArray} (h : MapIs w b ss) {s : ByteArray} (hs : s.size ≤ maxLen) :
    (Instr.lookup 65 (.map (some b)) (.string s) false).run Tryd.prog w = .ok (.int .i64 (cnt ss s)) w := by
  obtain ⟨D, h1, h2⟩ := h
  obtain ⟨c, hrun, hat, _⟩ := h1.lookup_int law Tryd.underlying65 Tryd.underlying3 (zero3 _) (key_of hs)
  have hat2 : I (cnt ss s) = I c := (h2.at_ s).symm.trans hat
  rw [I_inj hat2]
  exact hrun

theorem size_take {α : Type} (l : List α) (n : Nat) (h : n ≤ l.length) : (l.take n).length = n := by simp; omega
theorem take_snoc (ss : List ByteArray) (k : Nat) (hk : k < ss.length) : ss.take (k + 1) = ss.take k ++ [rdOf ByteArray.empty ss k] := by
  rw [List.take_add_one, List.getElem?_eq_getElem hk]
  simp [rdOf, List.getD, List.getElem?_eq_getElem hk]
theorem rd_mem (ss : List ByteArray) (k : Nat) (hk : k < ss.length) : rdOf ByteArray.empty ss k ∈ ss := by
  simp [rdOf, List.getD, List.getElem?_eq_getElem hk]

theorem run_makeHint (n : Int) (w : World) : (Instr.makeMap 65 (some (.int .i64 n))).run Tryd.prog w = .ok (.map (some w.heap.size)) (w.alloc (.map #[] 0)) := by
  simp [Instr.makeMap, run_underlying Tryd.underlying65, asInt, asIntOf, Result.andThen]
set_option maxHeartbeats 4000000 in
set_option maxRecDepth 100000 in
theorem set_walk (A : Option Addr) (c : Nat) (ss : List ByteArray) (w : World) (hr : Kd.C Kd.string w A ss.length ss) (hf : Fits ss) (hl : ss.length < 4611686018427387904) :
    Calls Tryd.prog 29 #[.slice A ss.length c] w fun e w' => e = .returned (.map (some w.heap.size)) ∧ MapIs w' w.heap.size ss ∧ Below w.heap.size w w' := by
  have hmm := run_makeHint
  go_enter Tryd.func29, Tryd.ntmps29
  go_wp2
  go_loopw [11] (fun i wr => ∃ k : Nat, k ≤ ss.length ∧ i = .int .i64 k ∧ (∃ D, wr.ownsMap Tryd.prog 9 (plainElem Tryd.prog 3) w.heap.size k D ∧ Tells D (ss.take k)) ∧ Below w.heap.size w wr)
    (fun i _ => ss.length - (intOf i).toNat)
  case atStart => exact ⟨0, Nat.zero_le _, rfl, ⟨.map [], World.ownsMap_made _ _ _ _, by simpa using Tells.empty⟩, (Below.refl _ _).alloc (Nat.le_refl _) _⟩
  case round =>
    obtain ⟨k, hk, rfl, ⟨D, hown, htell⟩, hnx⟩ := hrel
    by_cases hlt : k < ss.length
    · obtain ⟨ad, rfl, hcx⟩ := Kd.at_string (Kd.C_below hr hnx) k (by omega) (by exact_mod_cast hlt)
      have hmem := rd_mem ss k hlt
      have htk := take_snoc ss k hlt
      generalize rdOf ByteArray.empty ss k = s at hcx hmem htk
      have hkey := key_of (hf s hmem)
      obtain ⟨c0, hrun, hat, _⟩ := hown.lookup_int law Tryd.underlying65 Tryd.underlying3 (zero3 _) hkey
      have hat2 : I (cnt (ss.take k) s) = I c0 := (htell.at_ s).symm.trans hat
      obtain rfl := I_inj hat2
      have hle := cnt_le (ss.take k) s
      have hwr : wrap64 ((cnt (ss.take k) s : Int) + 1) = ((cnt (ss.take k) s + 1 : Nat) : Int) := by
        rw [List.length_take] at hle
        have : ((cnt (ss.take k) s + 1 : Nat) : Int) = (cnt (ss.take k) s : Int) + 1 := by omega
        rw [this]
        unfold wrap64
        omega
      have T1 := htell.step s
      rw [← htk] at T1
      have e1 : ((cnt (ss.take k) s + 1 : Nat) : Int) = (cnt (ss.take k) s : Int) + 1 := by omega
      rw [e1] at T1
      have p1 : ((k : Int) < (ss.length : Int)) = True := by simpa using hlt
      have p2 : (0 ≤ (k : Int)) = True := by simp
      simp only [Int.toNat_natCast] at hcx
      go_wp2_with (first
        | (at_mapUpdate; refine wpList_mapUpdate_own _ rfl _ _ _ 65 rfl 9 3 law Tryd.underlying65 _ w.heap.size k _ rfl hown (by unfold maxLen; omega) _ _ _ rfl rfl hkey _ [] (plainElem_int Tryd.underlying3 (wrap64_wf _)) ?_)
        | go_in)
      intro w1 hown1 hgrow1
      have R2 := hnx.grown hgrow1 hnx.size (fun j hj => by cases hj; exact Nat.le_refl _)
      clear hown hrun hkey hgrow1
      go_wp2
      go_roundw
      case rel => exact ⟨k + 1, by omega, by go_num, ⟨_, hown1, T1⟩, R2⟩
      case measure => simp [intOf]; omega
    · have e : k = ss.length := by omega
      subst e
      go_wp2
      go_ret
      exact ⟨rfl, ⟨D, hown, by simpa using htell⟩, hnx⟩
end Go.Proofs.YtgeoibgohlpfjaaDoor.Py
/- Slices of texts that are read; lists of texts in order. -/
namespace Go.Proofs.YtgeoibgohlpfjaaDoor.Py
open Go Go.RowKit Go.Proofs.YtgeoibgohlpfjaaDoorW.PrintWords Go.Proofs.YtgeoibgohlpfjaaDoorW.PrintLast Go.Proofs.YtgeoibgohlpfjaaDoorW.PrintMore

abbrev tl (s : ByteArray) : S := s.data.toList
abbrev bs (l : S) : ByteArray := ⟨l.toArray⟩
theorem tl_bs (l : S) : tl (bs l) = l := by simp [tl, bs]
theorem bs_tl (s : ByteArray) : bs (tl s) = s := by simp [tl, bs]
theorem tl_inj {s t : ByteArray} (h : tl s = tl t) : s = t := by rw [← bs_tl s, h, bs_tl]
def nrm (ss : List ByteArray) : List ByteArray := (norm (ss.map tl)).map bs
theorem nrm_tl (ss : List ByteArray) : (nrm ss).map tl = norm (ss.map tl) := by
  unfold nrm
  rw [List.map_map, List.map_congr_left (fun l _ => show (tl ∘ bs) l = id l from tl_bs l), List.map_id]
theorem mem_nrm (ss : List ByteArray) (s : ByteArray) : s ∈ nrm ss ↔ s ∈ ss := by
  unfold nrm
  rw [List.mem_map]
  constructor
  · rintro ⟨l, hl, rfl⟩
    rw [norm_mem, List.mem_map] at hl
    obtain ⟨t, ht, rfl⟩ := hl
    rwa [bs_tl]
  · intro h
    exact ⟨tl s, (norm_mem _ _).2 (List.mem_map_of_mem h), bs_tl s⟩
theorem length_nrm (ss : List ByteArray) : (nrm ss).length ≤ ss.length := by
  unfold nrm
  rw [List.length_map]
  refine Nat.le_trans (Lib.compact_length_le _) ?_
  simp

/-- a value that is a slice of texts, to be read -/
def Strs (w : World) (v : Value) (l : List ByteArray) : Prop := ∃ A c, v = .slice A l.length c ∧ l.length ≤ c ∧ Kd.C Kd.string w A l.length l
theorem Strs.below {w w' : World} {v : Value} {l : List ByteArray} (h : Strs w v l) (hb : Below w.heap.size w w') : Strs w' v l := by
  obtain ⟨A, c, e, h1, h2⟩ := h
  exact ⟨A, c, e, h1, Kd.C_below h2 hb⟩
theorem Strs.nil (w : World) : Strs w (.slice none 0 0) [] := ⟨none, 0, rfl, Nat.le_refl _, rfl, by simp, fun h => absurd h (by simp)⟩
end Go.Proofs.YtgeoibgohlpfjaaDoor.Py
/- Laws at an operation, for walks in which a block of many cells is written and read whole. -/
namespace Go.Proofs.YtgeoibgohlpfjaaDoor.Py
open Go Go.RowKit Go.Proofs.YtgeoibgohlpfjaaDoorW.PrintWords Go.Proofs.YtgeoibgohlpfjaaDoorW.PrintLast Go.Proofs.YtgeoibgohlpfjaaDoorW.PrintMore
section
variable {P : Program} {ops : Array Oper} {o : Oper} {rest : List Oper} {a : Act} {Q : Exit → Act → World → Prop}
/-- a new block, whatever made it -/
theorem law_new {W : World} (hgd : o.guard = none) {N : Tmp} (_hd : o.dst = some N) {ob : Obj} {V : Nat → Value}
    (hrun : (execOp a.eval o).run P W = .ok (.value (V W.heap.size)) (W.alloc ob))
    (h : ∀ g, g = W.heap.size → ∀ w1, w1.heap[g]? = some ob → Below W.heap.size W w1 → wpList P ops Q rest (a.put o.dst (V g)) w1) : wpList P ops Q (o :: rest) a W :=
  Kd.event_run hgd hrun (h _ rfl _ (blk_new W _) (below_alloc (Below.refl _ _) _))
/-- a cell of a block is read -/
theorem law_load1 {W : World} (hgd : o.guard = none) (t : TypeId) (x : Operand) (ho : o.op = .load t x) (g k : Nat) (hx : a.eval x = .pointer (some ⟨g, k, none⟩))
    {cs : Array Value} {e : TypeId} {fr : Nat × Nat} (hb : W.heap[g]? = some (.cells cs e fr)) (v : Value) (hv : cs[k]? = some v) (d : TypeDesc) (hu : P.underlying t = some d) (hd : d.isRow = false)
    (h : wpList P ops Q rest (a.put o.dst v) W) : wpList P ops Q (o :: rest) a W := by
  refine Kd.event_run (v := v) hgd ?_ h
  have hc : W.cell? ⟨g, k, none⟩ = some v := by rw [cell_of_row W g k cs e fr hb]; exact hv
  have hagg : (isAgg t).run P W = .ok false W := by
    unfold isAgg
    rw [Sem.run_bind, run_underlying hu W]
    cases d <;> simp_all
  unfold execOp
  simp only [ho, hx, Instr.loadAt, Instr.sureAddr, Sem.run_bind, Sem.run_pure, Result.andThen_ok, loadVar, hagg]
  simp [load, Sem.run, hc]
/-- the whole of a block is read -/
theorem law_load {W : World} (hgd : o.guard = none) (t : TypeId) (x : Operand) (ho : o.op = .load t x) (g : Nat) (hx : a.eval x = .pointer (some ⟨g, 0, none⟩))
    {cs : Array Value} {e : TypeId} {fr : Nat × Nat} (hb : W.heap[g]? = some (.cells cs e fr)) (d : TypeDesc) (hu : P.underlying t = some d) (hd : d.isRow = true) (hi : (P.info? t).map (·.size) = some cs.size)
    (h : wpList P ops Q rest (a.put o.dst (.agg cs)) W) : wpList P ops Q (o :: rest) a W := by
  refine wpList_load_mid hgd t x ho g 0 hx cs.toList d (fun j v hv => ?_) hu hd (by simpa using hi) (by simpa using h)
  rw [Nat.zero_add, cell_of_row W g j cs e fr hb]
  simpa using hv
/-- a whole block is written -/
theorem law_store {W : World} (hgd : o.guard = none) (t : TypeId) (x y : Operand) (ho : o.op = .store t x y) (g : Nat) (cs' : Array Value) (hx : a.eval x = .pointer (some ⟨g, 0, none⟩)) (hy : a.eval y = .agg cs')
    {cs : Array Value} {e : TypeId} (hb : W.heap[g]? = some (.cells cs e (0, 0))) (hs : cs.size = cs'.size) (hi : (P.info? t).map (·.size) = some cs'.size) (h1 : cs'.all (·.oneCell') = true)
    (h : ∀ w1, w1.heap[g]? = some (.cells cs' e (0, 0)) → W.grownBy w1 (some g) → w1.heap.size = W.heap.size → wpList P ops Q rest (a.put o.dst undef) w1) : wpList P ops Q (o :: rest) a W := by
  refine wpList_plain hgd fun _ hK => ?_
  unfold Oper.wp execOp
  simp only [ho, hx, hy, Instr.storeAt, Instr.sureAddr, Sem.run_bind, Sem.run_pure, Result.andThen_ok, run_storeVar_row W g e t cs cs' hb hi hs h1]
  refine hK _ _ (h _ ?_ ⟨rfl, rfl, rfl, by simp [World.setRow], fun k hk hne => ?_⟩ (by simp [World.setRow]))
  · simp [World.setRow, Array.getElem?_modify, hb]
  · have : g ≠ k := fun e => hne (by rw [e])
    simp [World.setRow, Array.getElem?_modify, this]
/-- a cell of a block is written -/
theorem law_store1 {W : World} (hgd : o.guard = none) (t : TypeId) (x y : Operand) (ho : o.op = .store t x y) (g k : Nat) (v : Value) (hx : a.eval x = .pointer (some ⟨g, k, none⟩)) (hy : a.eval y = v)
    {cs : Array Value} {e : TypeId} (hb : W.heap[g]? = some (.cells cs e (0, 0))) (hk : k < cs.size) (hi : (P.info? t).map (·.size) = some 1) (h1 : v.oneCell' = true) (hv : v.cells = #[v])
    (h : ∀ w1, w1.heap[g]? = some (.cells (cs.setIfInBounds k v) e (0, 0)) → W.grownBy w1 (some g) → w1.heap.size = W.heap.size → wpList P ops Q rest (a.put o.dst undef) w1) : wpList P ops Q (o :: rest) a W := by
  refine wpList_plain hgd fun _ hK => ?_
  have hst := run_storeCells_cells (P := P) g k [v] 0 W (fun j hj => by
    have : j = 0 := by simpa using hj
    subst this
    simp [cell_of_row W g k cs e (0, 0) hb, hk]) (fun j hj => by simp [World.frozen?, hb]) (by simpa using h1)
  simp only [World.setCells, Nat.add_zero] at hst
  cases hq : P.info? t with
  | none => simp [hq] at hi
  | some i =>
    have hs : i.size = 1 := by simpa [hq] using hi
    have hrun : (storeVar t ⟨g, k, none⟩ v).run P W = .ok () (W.setCell ⟨g, k, none⟩ v) := by
      simp [storeVar, sizeOf, typeInfo, hq, hs, hv, hst]
    unfold Oper.wp execOp
    simp only [ho, hx, hy, Instr.storeAt, Instr.sureAddr, Sem.run_bind, Sem.run_pure, Result.andThen_ok, hrun]
    exact hK _ _ (h _ (blk_set hb k v) ⟨rfl, rfl, rfl, by simp [World.setCell], fun j hj hne => Below.heap_setCell W _ v j (fun e => hne (by rw [e]))⟩ (by simp [World.setCell]))
end
end Go.Proofs.YtgeoibgohlpfjaaDoor.Py
/- chirographlaw15.of walked. -/
namespace Go.Proofs.YtgeoibgohlpfjaaDoor.Py
open Go Go.RowKit Go.Proofs.YtgeoibgohlpfjaaDoorW.PrintWords Go.Proofs.YtgeoibgohlpfjaaDoorW.PrintLast Go.Proofs.YtgeoibgohlpfjaaDoorW.PrintMore

abbrev nilS : Value := .slice none 0 0
/-- the cells of a certificate with just that -/
abbrev certC (pv n s : Value) (req inh : Int) : Array Value :=
  #[nilS, nilS, nilS, n, s, .int .i64 0, .int .i64 0, .int .i64 0, nilS, nilS, nilS, nilS, .int .i64 0, .int .i64 0, .int .i64 0, .int .i64 0, nilS, .bool false, .int .i64 0, .int .i64 0, nilS, .bool false, nilS, nilS, nilS, pv, .int .i64 req, .int .i64 inh, nilS, nilS, .bool false]
theorem certC_one (A B C : Option Addr) (n1 n2 n3 c1 c2 c3 : Nat) (req inh : Int) : (certC (.slice A n1 c1) (.slice B n2 c2) (.slice C n3 c3) req inh).all (·.oneCell') = true := by
  rw [Array.all_eq_true_iff_forall_mem]
  simp [Value.oneCell']
/-- "2.5.4.10" -/
abbrev tyO : ByteArray := ⟨#[50, 46, 53, 46, 52, 46, 49, 48]⟩
/-- where the name lies -/
def NameAt (w : World) (n : Value) : Prop := ∃ b1 b2 b3, n = .slice (some ⟨b1, 0, none⟩) 1 1 ∧ w.heap[b1]? = some (.cells #[.slice (some ⟨b2, 0, none⟩) 1 1] 70 (0, 0)) ∧
  w.heap[b2]? = some (.cells #[.string tyO, .int .i64 12, .slice (some ⟨b3, 0, none⟩) 1 1] 69 (0, 0)) ∧ w.heap[b3]? = some (.cells #[.int .u8 97] 5 (1, 2))
theorem NameAt.below {w w' : World} {n : Value} (h : NameAt w n) (hb : Below w.heap.size w w') : NameAt w' n := by
  obtain ⟨b1, b2, b3, e, h1, h2, h3⟩ := h
  exact ⟨b1, b2, b3, e, blk_below h1 hb, blk_below h2 hb, blk_below h3 hb⟩
/-- .. while a row of another type is written -/
theorem NameAt.grown {w w' : World} {n : Value} {g : Nat} {cs : Array Value} {t : TypeId} (h : NameAt w n) (hg : w.grownBy w' (some g)) (hr : w.heap[g]? = some (.cells cs t (0, 0))) (h70 : t ≠ 70) (h69 : t ≠ 69) (h5 : t ≠ 5) : NameAt w' n := by
  obtain ⟨b1, b2, b3, e, h1, h2, h3⟩ := h
  refine ⟨b1, b2, b3, e, blk_grown h1 hg fun e => ?_, blk_grown h2 hg fun e => ?_, blk_grown h3 hg fun e => ?_⟩
  · injection e with e
    subst e
    rw [hr] at h1
    injection h1 with h1
    injection h1 with _ h1
    exact h70 h1
  · injection e with e
    subst e
    rw [hr] at h2
    injection h2 with h2
    injection h2 with _ h2
    exact h69 h2
  · injection e with e
    subst e
    rw [hr] at h3
    injection h3 with h3
    injection h3 with _ h3
    exact h5 h3

/-- a certificate -/
structure Cx where
  pol : List ByteArray
  req : Int
  inh : Int
  own : Bool
/-- a value that is that certificate -/
def CertIs (w : World) (v : Value) (c : Cx) : Prop := ∃ pv n, v = .agg (certC pv n (if c.own = true then n else nilS) c.req c.inh) ∧ Strs w pv c.pol ∧ NameAt w n
theorem CertIs.below {w w' : World} {v : Value} {c : Cx} (h : CertIs w v c) (hb : Below w.heap.size w w') : CertIs w' v c := by
  obtain ⟨pv, n, e, h1, h2⟩ := h
  exact ⟨pv, n, e, h1.below hb, h2.below hb⟩

theorem kcw (w w1 : World) (g : Nat) (hg : g = w1.heap.size) (C : Array Value) (n c : Nat) : (convert 35 35 (.slice (some ⟨g, 0, none⟩) n c)).run Tryd.prog (w1.alloc (.cells C 5)) = .ok (.slice (some ⟨g, 0, none⟩) n c) (w1.alloc (.cells C 5 (C.size, C.size + 1))) := by
  subst hg
  exact Go.Lib.run_convert_bytes_const (P := Tryd.prog) w1 35 5 C n c Tryd.underlying35 Tryd.underlying5

set_option maxHeartbeats 4000000 in
set_option maxRecDepth 100000 in
theorem of_walk (A : Option Addr) (n c : Nat) (req inh : Int) (own : Bool) (w : World) :
    Calls Tryd.prog 16 #[.agg #[.slice A n c, .int .i64 req, .int .i64 inh, .bool own]] w fun e w' => ∃ nv, e = .returned (.agg (certC (.slice A n c) nv (if own = true then nv else nilS) req inh)) ∧ NameAt w' nv ∧ Below w.heap.size w w' := by
  have HB := Aside0.mk (Below.refl w.heap.size w)
  have kc := fun (W : World) (C : Array Value) (n c : Nat) => Go.Lib.run_convert_bytes_const (P := Tryd.prog) W 35 5 C n c Tryd.underlying35 Tryd.underlying5
  go_enter Tryd.func16, Tryd.ntmps16
  go_wp2_with (first
    | ((with_reducible refine gate_dst (N := 1) rfl ?_); refine law_new ?hg (N := 1) ?hd (ob := .cells #[.slice A n c, .int .i64 req, .int .i64 inh, .bool own] 30 (0, 0)) (V := fun g => .pointer (some ⟨g, 0, none⟩)) ?hr ?_; (case hd => rfl); (case hg => rfl); (case hr => go_simp; done)
       intro g1 hg1 w1 B1 hb1
       have HB1 := Aside0.mk (below_step HB.out hb1)
       have hle1 : w.heap.size ≤ g1 := by rw [hg1]; exact HB.out.size
       clear HB hb1 hg1)
    | ((with_reducible refine gate_dst (N := 2) rfl ?_); refine law_new ?hg (N := 2) ?hd (ob := .cells (certC nilS nilS nilS 0 0) 48 (0, 0)) (V := fun g => .pointer (some ⟨g, 0, none⟩)) ?hr ?_; (case hd => rfl); (case hg => rfl); (case hr => first | (go_simp; done) | (go_simp; rfl))
       intro g2 hg2 w2 B2 hb2
       have B1 := blk_below B1 hb2
       have HB2 := Aside0.mk (below_step HB1.out hb2)
       have hle2 : w.heap.size ≤ g2 := by rw [hg2]; exact HB1.out.size
       clear HB1 hb2 hg2)
    | ((with_reducible refine gate_dst (N := 9) rfl ?_); refine law_new ?hg (N := 9) ?hd (ob := .cells #[.slice (some ⟨w2.heap.size + 1, 0, none⟩) 1 1] 70 (0, 0)) (V := fun g => .slice (some ⟨g, 0, none⟩) 1 1) ?hr ?_; (case hd => rfl); (case hg => rfl); (case hr => first | (go_simp; done) | (go_simp; rfl))
       intro g3 hg3 w3 B3 hb3
       have HN3 : NameAt w3 (.slice (some ⟨g3, 0, none⟩) 1 1) := by
         refine ⟨g3, w2.heap.size + 1, w2.heap.size, rfl, B3, blk_below ?_ hb3, blk_below (blk_alloc (blk_new w2 _) _) hb3⟩
         have := blk_new (w2.alloc (.cells #[.int .u8 97] 5 (1, 2))) (.cells #[.string tyO, .int .i64 12, .slice (some ⟨w2.heap.size, 0, none⟩) 1 1] 69)
         rwa [World.size_alloc] at this
       have HB3 := Aside0.mk (below_step (below_alloc (below_alloc HB2.out _) _) hb3)
       have B2 := blk_below (blk_alloc (blk_alloc B2 _) _) hb3
       have B1 := blk_below (blk_alloc (blk_alloc B1 _) _) hb3
       clear HB2 hb3 hg3 B3)
    | (refine law_load1 rfl 23 _ rfl g1 0 rfl B1 (.slice A n c) rfl _ Tryd.underlying23 rfl ?_)
    | (refine law_load1 rfl 3 _ rfl g1 1 rfl B1 (.int .i64 req) rfl _ Tryd.underlying3 rfl ?_)
    | (refine law_load1 rfl 3 _ rfl g1 2 rfl B1 (.int .i64 inh) rfl _ Tryd.underlying3 rfl ?_)
    | (refine law_load1 rfl 4 _ rfl g1 3 rfl B1 _ rfl _ Tryd.underlying4 rfl ?_)
    | ((with_reducible refine gate_dst (N := 4) rfl ?_); refine law_new ?hg (N := 4) ?hd (ob := .cells (certC nilS nilS nilS 0 0) 48 (0, 0)) (V := fun g => .pointer (some ⟨g, 0, none⟩)) ?hr ?_; (case hd => rfl); (case hg => rfl); (case hr => first | (go_simp; done) | (go_simp; rfl))
       intro g4 hg4 w4 B4 hb4
       have hne : g4 ≠ g2 := by have := blk_lt B2; omega
       have hne1 : g4 ≠ g1 := by have := blk_lt B1; omega
       have HN4 := HN3.below hb4
       have HB4 := Aside0.mk (below_step HB3.out hb4)
       have hle4 : w.heap.size ≤ g4 := by rw [hg4]; exact HB3.out.size
       have B2 := blk_below B2 hb4
       have B1 := blk_below B1 hb4
       clear HB3 HN3 hb4 hg4)
    | (refine law_store rfl 48 _ _ rfl g4 (certC (.slice A n c) (.slice (some ⟨g3, 0, none⟩) 1 1) (.slice (some ⟨g3, 0, none⟩) 1 1) req inh) rfl rfl B4 rfl (by kernel_rfl) (certC_one _ _ _ _ _ _ _ _ _ _ _) ?_
       intro w5 B5 hg5 hs5
       have HN5 := HN4.grown hg5 B4 (by decide) (by decide) (by decide)
       have HB5 := Aside0.mk (HB4.out.grown hg5 HB4.out.size (fun j hj => by cases hj; exact hle4))
       have B2 := blk_grown B2 hg5 (fun e => hne (Option.some.inj e).symm)
       have B1 := blk_grown B1 hg5 (fun e => hne1 (Option.some.inj e).symm)
       clear HB4 HN4 hg5 hs5 B4)
    | (refine law_store1 rfl 36 _ _ rfl g4 4 nilS rfl rfl B5 (by simp) (by kernel_rfl) rfl rfl ?_
       intro w6 B6 hg6 hs6
       have HN5 := HN5.grown hg6 B5 (by decide) (by decide) (by decide)
       have HB5 := Aside0.mk (HB5.out.grown hg6 HB5.out.size (fun j hj => by cases hj; exact hle4))
       have B2 := blk_grown B2 hg6 (fun e => hne (Option.some.inj e).symm)
       have B5 : w6.heap[g4]? = some (.cells (certC (.slice A n c) (.slice (some ⟨g3, 0, none⟩) 1 1) nilS req inh) 48 (0, 0)) := B6
       clear hg6 hs6 B6)
    | (refine law_load rfl 48 _ rfl g4 rfl B5 _ Tryd.underlying48 rfl (by kernel_rfl) ?_)
    | (refine law_store rfl 48 _ _ rfl g2 (certC (.slice A n c) (.slice (some ⟨g3, 0, none⟩) 1 1) _ req inh) rfl rfl B2 rfl (by kernel_rfl) (certC_one _ _ _ _ _ _ _ _ _ _ _) ?_
       intro w7 B7 hg7 hs7
       have HN7 := HN5.grown hg7 B2 (by decide) (by decide) (by decide)
       have HB7 := Aside0.mk (HB5.out.grown hg7 HB5.out.size (fun j hj => by cases hj; exact hle2)))
    | go_in)
  all_goals
    refine bodyPost_ret (results_cell_row rfl _ _ g2 48 _ (0, 0) _ rfl B7 Tryd.underlying48 rfl (by kernel_rfl)) rfl ?_
    refine ⟨.slice (some ⟨g3, 0, none⟩) 1 1, ?_, HN7, HB7.out⟩
    cases own
    · first | rfl | contradiction | (exfalso; simp at *; done)
    · first | rfl | contradiction | (exfalso; simp at *; done)
end Go.Proofs.YtgeoibgohlpfjaaDoor.Py
