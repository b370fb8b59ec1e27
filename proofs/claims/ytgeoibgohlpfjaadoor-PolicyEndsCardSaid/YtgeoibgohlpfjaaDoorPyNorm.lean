/- Plain Lean: lists of texts in order, each once: what sorting and compacting gives, and what putting one by one gives. -/
import Derived.Lib.SlicesCompact
import Derived.Sort.KeysCollected
set_option linter.unusedVariables false
namespace Go.Proofs.YtgeoibgohlpfjaaDoor.Py
open Go.Lib
abbrev S := List UInt8
def lt' (x y : S) : Prop := x ≤ y ∧ x ≠ y
theorem lt'_trans {x y z : S} (h : lt' x y) (g : lt' y z) : lt' x z := by
  refine ⟨List.le_trans h.1 g.1, ?_⟩
  rintro rfl
  exact h.2 (List.le_antisymm h.1 g.1)
theorem lt'_or (x y : S) : x = y ∨ lt' x y ∨ lt' y x := by
  by_cases h : x = y
  · exact .inl h
  · rcases List.le_total x y with h1 | h1
    · exact .inr (.inl ⟨h1, h⟩)
    · exact .inr (.inr ⟨h1, fun e => h e.symm⟩)
def SS (l : List S) : Prop := l.Pairwise lt'
theorem SS.nodup {l : List S} (h : SS l) : l.Nodup := h.imp (fun h => h.2)
theorem ss_ext {l m : List S} (hl : SS l) (hm : SS m) (h : ∀ x, x ∈ l ↔ x ∈ m) : l = m := by
  have hp : l.Perm m := (List.perm_ext_iff_of_nodup hl.nodup hm.nodup).2 h
  exact List.Perm.eq_of_pairwise (le := fun a b => a ≤ b) (fun a b _ _ h1 h2 => List.le_antisymm h1 h2) (hl.imp fun h => h.1) (hm.imp fun h => h.1) hp
/-- sorted, each once -/
def norm (l : List S) : List S := Lib.compact (l.mergeSort fun x y => decide (x ≤ y))
theorem compactUpTo_mem (d : Array S) : ∀ m x, x ∈ compactUpTo d m ↔ ∃ j, j < m ∧ d[j]! = x
  | 0, x => by simp [compactUpTo]
  | m + 1, x => by
    rw [compactUpTo_succ, List.mem_append, compactUpTo_mem d m]
    constructor
    · rintro (⟨j, hj, e⟩ | h)
      · exact ⟨j, by omega, e⟩
      · split at h
        · simp at h
          exact ⟨m, by omega, h.symm⟩
        · simp at h
    · rintro ⟨j, hj, rfl⟩
      by_cases hjm : j = m
      · subst hjm
        by_cases hk : keeps d j = true
        · rw [if_pos hk]
          exact .inr (by simp)
        · have : ¬ (j = 0 ∨ d[j]! ≠ d[j - 1]!) := by simpa [keeps] using hk
          have h0 : j ≠ 0 := fun e => this (.inl e)
          have h1 : d[j]! = d[j - 1]! := by
            by_cases e : d[j]! = d[j - 1]!
            · exact e
            · exact absurd (.inr e) this
          exact .inl ⟨j - 1, by omega, h1.symm⟩
      · exact .inl ⟨j, by omega, rfl⟩
theorem compactUpTo_ss (d : Array S) (hd : ∀ i j, i < j → j < d.size → d[i]! ≤ d[j]!) : ∀ m, m ≤ d.size → SS (compactUpTo d m)
  | 0, _ => by simp [compactUpTo, SS]
  | m + 1, hm => by
    rw [compactUpTo_succ]
    have ih := compactUpTo_ss d hd m (by omega)
    by_cases hk : keeps d m = true
    · rw [if_pos hk]
      refine List.pairwise_append.2 ⟨ih, by simp, fun x hx y hy => ?_⟩
      simp at hy
      subst hy
      obtain ⟨j, hj, rfl⟩ := (compactUpTo_mem d m x).1 hx
      have hk' : m = 0 ∨ d[m]! ≠ d[m - 1]! := by simpa [keeps] using hk
      have hne : d[m]! ≠ d[m - 1]! := by rcases hk' with h | h; omega; exact h
      have h1 := hd (m - 1) m (by omega) (by omega)
      by_cases hjm : j = m - 1
      · subst hjm
        exact ⟨h1, fun e => hne e.symm⟩
      · have h2 := hd j (m - 1) (by omega) (by omega)
        refine ⟨List.le_trans h2 h1, fun e => hne ?_⟩
        exact List.le_antisymm (by rw [← e]; exact h2) h1
    · rw [if_neg hk, List.append_nil]
      exact ih
theorem sort_le (l : List S) : (l.mergeSort fun x y => decide (x ≤ y)).Pairwise (fun a b => a ≤ b) := by
  have tr : ∀ a b c : S, decide (a ≤ b) = true → decide (b ≤ c) = true → decide (a ≤ c) = true := fun a b c h1 h2 => by simp only [decide_eq_true_eq] at *; exact List.le_trans h1 h2
  have to : ∀ a b : S, (decide (a ≤ b) || decide (b ≤ a)) = true := fun a b => by simp only [Bool.or_eq_true, decide_eq_true_eq]; exact List.le_total a b
  exact (List.pairwise_mergeSort tr to l).imp (fun h => of_decide_eq_true h)
theorem norm_ss (l : List S) : SS (norm l) := by
  unfold norm compact
  refine compactUpTo_ss _ (fun i j hij hj => ?_) _ (by simp)
  have h := List.pairwise_iff_getElem.1 (sort_le l) i j (by simp at hj ⊢; omega) (by simpa using hj) hij
  simpa [getElem!_pos, show i < l.length by simp at hj; omega, show j < l.length by simpa using hj] using h
theorem norm_mem (l : List S) (x : S) : x ∈ norm l ↔ x ∈ l := by
  unfold norm compact
  rw [compactUpTo_mem]
  have hp := List.mergeSort_perm l (fun x y => decide (x ≤ y))
  rw [← hp.mem_iff, List.mem_iff_getElem]
  constructor
  · rintro ⟨j, hj, e⟩
    refine ⟨j, hj, ?_⟩
    rw [← e]
    simp [List.getElem?_eq_getElem hj]
  · rintro ⟨j, hj, e⟩
    refine ⟨j, hj, ?_⟩
    rw [← e]
    simp [List.getElem?_eq_getElem hj]
theorem norm_ext {l m : List S} (h : ∀ x, x ∈ l ↔ x ∈ m) : norm l = norm m := ss_ext (norm_ss l) (norm_ss m) (fun x => by rw [norm_mem, norm_mem]; exact h x)
theorem norm_id {l : List S} (h : SS l) : norm l = l := ss_ext (norm_ss l) h (fun x => norm_mem l x)
theorem norm_nil : norm [] = [] := norm_id List.Pairwise.nil
/-- a text into a list, in its place -/
def ins (s : S) : List S → List S
  | [] => [s]
  | x :: l => if s ≤ x then s :: x :: l else x :: ins s l
theorem ins_mem (s : S) : ∀ (l : List S) (x : S), x ∈ ins s l ↔ x = s ∨ x ∈ l
  | [], x => by simp [ins]
  | y :: l, x => by
    unfold ins
    split
    · simp
    · rw [List.mem_cons, ins_mem s l, List.mem_cons]
      constructor
      · rintro (h | h | h)
        · exact .inr (.inl h)
        · exact .inl h
        · exact .inr (.inr h)
      · rintro (h | h | h)
        · exact .inr (.inl h)
        · exact .inl h
        · exact .inr (.inr h)
theorem ins_ss (s : S) : ∀ (l : List S), SS l → s ∉ l → SS (ins s l)
  | [], _, _ => by simp [ins, SS]
  | x :: l, h, hn => by
    have hx := List.pairwise_cons.1 h
    have hsx : s ≠ x := fun e => hn (by simp [e])
    unfold ins
    split
    · rename_i hle
      refine List.pairwise_cons.2 ⟨fun y hy => ?_, h⟩
      rcases List.mem_cons.1 hy with rfl | hy
      · exact ⟨hle, hsx⟩
      · exact lt'_trans ⟨hle, hsx⟩ (hx.1 y hy)
    · rename_i hle
      have hxs : lt' x s := by
        rcases List.le_total s x with h1 | h1
        · exact absurd h1 hle
        · exact ⟨h1, fun e => hsx e.symm⟩
      refine List.pairwise_cons.2 ⟨fun y hy => ?_, ins_ss s l hx.2 (fun c => hn (by simp [c]))⟩
      rcases (ins_mem s l y).1 hy with rfl | hy
      · exact hxs
      · exact hx.1 y hy
def put (l : List S) (s : S) : List S := if s ∈ l then l else ins s l
theorem put_mem (l : List S) (s x : S) : x ∈ put l s ↔ x = s ∨ x ∈ l := by
  unfold put
  split
  · rename_i h
    constructor
    · exact .inr
    · rintro (rfl | h2)
      · exact h
      · exact h2
  · exact ins_mem s l x
theorem put_ss {l : List S} (h : SS l) (s : S) : SS (put l s) := by
  unfold put
  split
  · exact h
  · rename_i hn
    exact ins_ss s l h hn
theorem puts_mem : ∀ (m l : List S) (x : S), x ∈ m.foldl put l ↔ x ∈ l ∨ x ∈ m
  | [], l, x => by simp
  | s :: m, l, x => by
    rw [List.foldl_cons, puts_mem m, put_mem, List.mem_cons]
    constructor
    · rintro ((h | h) | h)
      · exact .inr (.inl h)
      · exact .inl h
      · exact .inr (.inr h)
    · rintro (h | h | h)
      · exact .inl (.inr h)
      · exact .inl (.inl h)
      · exact .inr h
theorem puts_ss : ∀ (m l : List S), SS l → SS (m.foldl put l)
  | [], l, h => h
  | s :: m, l, h => puts_ss m _ (put_ss h s)
theorem puts_norm (m : List S) : m.foldl put [] = norm m := ss_ext (puts_ss m [] List.Pairwise.nil) (norm_ss m) (fun x => by rw [puts_mem, norm_mem]; simp)
end Go.Proofs.YtgeoibgohlpfjaaDoor.Py
