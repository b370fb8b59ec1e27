/- Plain Lean: policies along certificates: what a step, the end, the whole answers, and what holds of it whatever the certificates. -/
import Derived.Test.YtgeoibgohlpfjaaDoorPyNorm
set_option linter.unusedVariables false
namespace Go.Proofs.YtgeoibgohlpfjaaDoor.Py
/-- "2.5.29.32.0" -/
def anyP : S := [50, 46, 53, 46, 50, 57, 46, 51, 50, 46, 48]
structure Cb where
  pol : List S
  req : Int
  inh : Int
  own : Bool
structure Pl where
  set : List S
  ex : Int
  any : Int
def gather (set : List S) (any : Int) (pol : List S) (own last : Bool) : List S :=
  (pol.filter fun s => decide (s ≠ anyP ∧ (s ∈ set ∨ anyP ∈ set))) ++ (if anyP ∈ pol ∧ (any > 0 ∨ (own = true ∧ last = false)) then set else [])
def down (n bound : Int) (less : Bool) : Int :=
  let m := if less = true ∧ n > 0 then n - 1 else n
  if bound ≥ 0 then min m bound else m
def stepV (p : Pl) (c : Cb) (last : Bool) : Option Pl :=
  if gather p.set p.any c.pol c.own last = [] ∧ p.ex ≤ 0 then none
  else some ⟨norm (gather p.set p.any c.pol c.own last), if last = true then p.ex else down p.ex c.req (!c.own), if last = true then p.any else down p.any c.inh (!c.own)⟩
def asked (set user : List S) : List S := if user ≠ [] ∧ anyP ∉ user then (if anyP ∈ set then user else user.filter fun s => decide (s ∈ set)) else set
def endX (ex req : Int) : Int := if req = 0 then 0 else down ex (-1) true
def endV (p : Pl) (c : Cb) (user : List S) : Option (List S) :=
  if asked p.set user = [] ∧ endX p.ex c.req ≤ 0 then none else some (norm (asked p.set user))
def startV (n : Int) (explicit inhibit : Bool) : Pl :=
  let m := 1 + min (max n 0) 8
  ⟨[anyP], if explicit = true then 0 else m, if inhibit = true then 0 else m⟩
def runFrom (user : List S) : Pl → List Cb → Option (List S)
  | _, [] => none
  | p, [c] => (stepV p c true).bind fun q => endV q c user
  | p, c :: d :: l => (stepV p c false).bind fun q => runFrom user q (d :: l)
def runV (l : List Cb) (user : List S) (explicit inhibit : Bool) : Option (List S) := runFrom user (startV l.length explicit inhibit) l

/-! ### the order plays no part -/
def Like (l m : List S) : Prop := ∀ x, x ∈ l ↔ x ∈ m
theorem Like.nil {l m : List S} (h : Like l m) : l = [] ↔ m = [] := by
  constructor
  · rintro rfl
    exact List.eq_nil_iff_forall_not_mem.2 fun x hx => by simpa using (h x).2 hx
  · rintro rfl
    exact List.eq_nil_iff_forall_not_mem.2 fun x hx => by simpa using (h x).1 hx
theorem gather_like (set : List S) (any : Int) {a b : List S} (h : Like a b) (own last : Bool) : Like (gather set any a own last) (gather set any b own last) := by
  intro x
  unfold gather
  simp only [List.mem_append, List.mem_filter, h x, h anyP]
theorem gather_like2 {s t : List S} (any : Int) (a : List S) (h : Like s t) (own last : Bool) : Like (gather s any a own last) (gather t any a own last) := by
  intro x
  unfold gather
  simp only [List.mem_append, List.mem_filter, h x, h anyP]
  split <;> simp [h x]
theorem step_like (p : Pl) (c d : Cb) (last : Bool) (h : Like c.pol d.pol) (h1 : c.req = d.req) (h2 : c.inh = d.inh) (h3 : c.own = d.own) : stepV p c last = stepV p d last := by
  unfold stepV
  have g := gather_like p.set p.any h c.own last
  rw [← h3, ← h1, ← h2, norm_ext g]
  simp only [g.nil]
theorem asked_like (set : List S) {u v : List S} (h : Like u v) : Like (asked set u) (asked set v) := by
  intro x
  unfold asked
  simp only [ne_eq, h.nil, h anyP]
  split
  · split
    · exact h x
    · simp only [List.mem_filter, h x]
  · exact Iff.rfl
theorem end_like (p : Pl) (c d : Cb) {u v : List S} (h1 : c.req = d.req) (hu : Like u v) : endV p c u = endV p d v := by
  unfold endV
  have g := asked_like p.set hu
  rw [← h1, norm_ext g]
  simp only [g.nil]
def CLike (c d : Cb) : Prop := Like c.pol d.pol ∧ c.req = d.req ∧ c.inh = d.inh ∧ c.own = d.own
def CLikes : List Cb → List Cb → Prop
  | [], [] => True
  | c :: l, d :: m => CLike c d ∧ CLikes l m
  | [], _ :: _ => False
  | _ :: _, [] => False
theorem run_like {u v : List S} (hu : Like u v) : ∀ (l m : List Cb) (p : Pl), CLikes l m → runFrom u p l = runFrom v p m
  | [], [], _, _ => rfl
  | [c], [d], p, ⟨⟨h0, h1, h2, h3⟩, _⟩ => by
    show (stepV p c true).bind _ = (stepV p d true).bind _
    rw [step_like p c d true h0 h1 h2 h3]
    congr 1
    funext q
    exact end_like q c d h1 hu
  | c :: c2 :: l, d :: d2 :: m, p, ⟨⟨h0, h1, h2, h3⟩, ht⟩ => by
    show (stepV p c false).bind _ = (stepV p d false).bind _
    rw [step_like p c d false h0 h1 h2 h3]
    congr 1
    funext q
    exact run_like hu (c2 :: l) (d2 :: m) q ht
  | [_], _ :: _ :: _, _, ⟨_, h⟩ => h.elim
  | _ :: _ :: _, [_], _, ⟨_, h⟩ => h.elim

/-! ### who asks for more -/
/-- one state allows at least what another one does -/
structure More (p q : Pl) : Prop where
  set : ∀ x, x ∈ p.set → x ∈ q.set
  ex : p.ex ≤ q.ex
  any : p.any ≤ q.any
theorem down_mono {a b : Int} (h : a ≤ b) (bound : Int) (less : Bool) : down a bound less ≤ down b bound less := by
  cases less with
  | false =>
    simp only [down, Int.min_def, Bool.false_eq_true, false_and, if_false]
    repeat' split
    all_goals omega
  | true =>
    simp only [down, Int.min_def, true_and]
    repeat' split
    all_goals omega
theorem gather_mono {p q : Pl} (h : More p q) (c : Cb) (last : Bool) : ∀ x, x ∈ gather p.set p.any c.pol c.own last → x ∈ gather q.set q.any c.pol c.own last := by
  intro x
  unfold gather
  simp only [List.mem_append, List.mem_filter, decide_eq_true_eq]
  rintro (⟨h1, h2, h3⟩ | h1)
  · refine .inl ⟨h1, h2, ?_⟩
    rcases h3 with h3 | h3
    · exact .inl (h.set _ h3)
    · exact .inr (h.set _ h3)
  · split at h1
    · rename_i hc
      right
      rw [if_pos ⟨hc.1, by rcases hc.2 with h4 | h4; exact .inl (by have := h.any; omega); exact .inr h4⟩]
      exact h.set _ h1
    · simp at h1
theorem step_mono {p q p' : Pl} (h : More p q) (c : Cb) (last : Bool) (hs : stepV p c last = some p') : ∃ q', stepV q c last = some q' ∧ More p' q' := by
  unfold stepV at hs ⊢
  have g := gather_mono h c last
  split at hs
  · cases hs
  · rename_i hn
    cases hs
    rw [if_neg ?_]
    · refine ⟨_, rfl, ⟨fun x hx => ?_, ?_, ?_⟩⟩
      · simp only [norm_mem] at hx ⊢
        exact g x hx
      · simp only
        split
        · exact h.ex
        · exact down_mono h.ex _ _
      · simp only
        split
        · exact h.any
        · exact down_mono h.any _ _
    · rintro ⟨h1, h2⟩
      have he : gather p.set p.any c.pol c.own last = [] := List.eq_nil_iff_forall_not_mem.2 fun x hx => by
        have := g x hx
        rw [h1] at this
        simp at this
      exact hn ⟨he, by have := h.ex; omega⟩
theorem endX_mono {a b : Int} (h : a ≤ b) (req : Int) : endX a req ≤ endX b req := by
  unfold endX
  split
  · exact Int.le_refl _
  · exact down_mono h _ _
/-- asking for at least as much -/
def Wider (u v : List S) : Prop := ∀ set, asked set u ≠ [] → asked set v ≠ []
theorem asked_mono {s t : List S} (h : ∀ x, x ∈ s → x ∈ t) (u : List S) : ∀ x, x ∈ asked s u → x ∈ asked t u := by
  intro x
  unfold asked
  split
  · split
    · rename_i ha
      rw [if_pos (h _ ha)]
      exact id
    · intro hx
      rw [List.mem_filter] at hx
      split
      · exact hx.1
      · rw [List.mem_filter]
        exact ⟨hx.1, by simpa using h x (by simpa using hx.2)⟩
  · exact h x
theorem end_mono {p q : Pl} (h : More p q) (c : Cb) {u v : List S} (hw : Wider u v) (he : endV p c u ≠ none) : endV q c v ≠ none := by
  unfold endV at he ⊢
  split at he
  · exact absurd rfl he
  · rename_i hn
    rw [if_neg ?_]
    · simp
    · rintro ⟨h1, h2⟩
      refine hn ⟨?_, by have := endX_mono h.ex c.req; omega⟩
      by_cases hc : asked p.set u = []
      · exact hc
      · exfalso
        obtain ⟨x, hx⟩ := List.exists_mem_of_ne_nil _ hc
        have hx2 := asked_mono h.set u x hx
        exact hw q.set (List.ne_nil_of_mem hx2) h1
theorem runFrom_mono {u v : List S} (hw : Wider u v) : ∀ (l : List Cb) (p q : Pl), More p q → runFrom u p l ≠ none → runFrom v q l ≠ none
  | [], _, _, _, h => h
  | [c], p, q, h, hr => by
    simp only [runFrom] at hr ⊢
    cases hs : stepV p c true with
    | none => rw [hs] at hr; exact absurd rfl hr
    | some p' =>
      obtain ⟨q', hq, hm⟩ := step_mono h c true hs
      rw [hs] at hr
      rw [hq]
      exact end_mono hm c hw hr
  | c :: d :: l, p, q, h, hr => by
    simp only [runFrom] at hr ⊢
    cases hs : stepV p c false with
    | none => rw [hs] at hr; exact absurd rfl hr
    | some p' =>
      obtain ⟨q', hq, hm⟩ := step_mono h c false hs
      rw [hs] at hr
      rw [hq]
      exact runFrom_mono hw (d :: l) p' q' hm hr
theorem wider_refl (u : List S) : Wider u u := fun _ h => h
theorem wider_more (u : List S) (m : S) (hu : u ≠ []) : Wider u (u ++ [m]) := by
  intro set h
  unfold asked at h ⊢
  by_cases ha : anyP ∈ u
  · rw [if_neg (by simp [ha])] at h
    rw [if_neg (by simp [ha])]
    exact h
  · rw [if_pos ⟨hu, ha⟩] at h
    by_cases hs : anyP ∈ set
    · split
      · simp
      · exact List.ne_nil_of_mem hs
    · rw [if_neg hs] at h
      obtain ⟨x, hx⟩ := List.exists_mem_of_ne_nil _ h
      rw [List.mem_filter] at hx
      have hxs : x ∈ set := by simpa using hx.2
      split
      · exact List.ne_nil_of_mem (List.mem_filter.2 ⟨by simp [hx.1], hx.2⟩)
      · exact List.ne_nil_of_mem hxs
theorem wider_nil (u : List S) : Wider u [] := by
  intro set h
  unfold asked at h ⊢
  rw [if_neg (by simp)]
  split at h
  · rename_i hc
    split at h
    · rename_i hs
      exact List.ne_nil_of_mem hs
    · obtain ⟨x, hx⟩ := List.exists_mem_of_ne_nil _ h
      rw [List.mem_filter] at hx
      have hxs : x ∈ set := by simpa using hx.2
      exact List.ne_nil_of_mem hxs
  · exact h
theorem start_explicit (n : Int) (e i : Bool) : More (startV n e i) (startV n false i) := by
  refine ⟨fun _ h => h, ?_, Int.le_refl _⟩
  simp only [startV]
  split <;> simp <;> omega
theorem start_inhibit (n : Int) (e i : Bool) : More (startV n e i) (startV n e false) := by
  refine ⟨fun _ h => h, Int.le_refl _, ?_⟩
  simp only [startV]
  split <;> simp <;> omega
/-- what is answered is among those that were asked for -/
theorem run_among (u : List S) (hu : u ≠ []) (ha : anyP ∉ u) : ∀ (l : List Cb) (p : Pl) (x : List S), runFrom u p l = some x → ∀ s ∈ x, s ∈ u
  | [], _, _, h => by cases h
  | [c], p, x, h => by
    simp only [runFrom] at h
    cases hs : stepV p c true with
    | none => rw [hs] at h; cases h
    | some q =>
      rw [hs] at h
      simp only [Option.bind_some, endV] at h
      split at h
      · cases h
      · cases h
        intro s hs2
        rw [norm_mem] at hs2
        unfold asked at hs2
        rw [if_pos ⟨hu, ha⟩] at hs2
        split at hs2
        · exact hs2
        · exact (List.mem_filter.1 hs2).1
  | c :: d :: l, p, x, h => by
    simp only [runFrom] at h
    cases hs : stepV p c false with
    | none => rw [hs] at h; cases h
    | some q =>
      rw [hs] at h
      exact run_among u hu ha (d :: l) q x h
end Go.Proofs.YtgeoibgohlpfjaaDoor.Py
