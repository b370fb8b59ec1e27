/- The reference's Put: what the printed walk computes, and its contract. -/
import Derived.Test.YtgeoibgohlpfjaaDoorPyPrPut
set_option linter.unusedVariables false
set_option linter.unusedSimpArgs false
namespace Go.Proofs.YtgeoibgohlpfjaaDoor.Py
open Go Go.RowKit Go.Maps Go.Proofs.YtgeoibgohlpfjaaDoorW.PrintWords Go.Proofs.YtgeoibgohlpfjaaDoorW.PrintLast Go.Proofs.YtgeoibgohlpfjaaDoorW.PrintMore Go.Proofs.YtgeoibgohlpfjaaDoor.PPut
theorem rd_mid (X Y : List ByteArray) (y : ByteArray) (n : Int) (h : n = X.length) : rdOf ByteArray.empty (X ++ y :: Y) n = y := by
  subst h
  unfold rdOf
  simp [List.getD, List.getElem?_append_right]
theorem set_mid (X Y : List ByteArray) (y z : ByteArray) (n : Nat) (h : n = X.length) : (X ++ y :: Y).set n z = X ++ z :: Y := by
  subst h
  rw [List.set_append_right _ _ (Nat.le_refl _), Nat.sub_self, List.set_cons_zero]
theorem wrap64_small {x : Int} (h0 : -1000000000 ≤ x) (h1 : x ≤ 1000000000) : wrap64 x = x := by
  unfold wrap64
  omega
theorem less_list : ∀ (x y : List UInt8), Op.bytesLess x y = true ↔ x < y
  | x, [] => by
    cases x <;> simp [Op.bytesLess]
  | [], b :: y => by simp [Op.bytesLess]
  | a :: x, b :: y => by
    rw [List.cons_lt_cons_iff, ← less_list x y]
    simp [Op.bytesLess]
theorem less_iff (a b : ByteArray) : Op.bytesLess a.toList b.toList = true ↔ tl a < tl b := by
  rw [less_list, ByteArray.toList_eq, ByteArray.toList_eq]
theorem lt'_of_lt {x y : S} (h : x < y) : lt' x y := ⟨List.le_of_lt h, fun e => by subst e; exact List.lt_irrefl _ h⟩
theorem lt'_of_not {x y : S} (h : ¬ x < y) (hn : x ≠ y) : lt' y x := ⟨List.not_lt.1 h, fun e => hn e.symm⟩
set_option maxRecDepth 100000 in
theorem put_loop : ∀ (n k : Nat) (A B : List ByteArray) (s : ByteArray), A.length = n → n < k → n + B.length ≤ 1000000 → SS ((A ++ B).map tl) → tl s ∉ (A ++ B).map tl → (∀ b ∈ B, lt' (tl s) (tl b)) →
    ∃ r, chirographref15_Put.l0 k (A ++ s :: B) (n : Int) = some r ∧ SS (r.map tl) ∧ ∀ x, x ∈ r.map tl ↔ x = tl s ∨ x ∈ (A ++ B).map tl
  | 0, k + 1, A, B, s, hA, hk, hl, hS, hn, hB => by
    obtain rfl := List.eq_nil_of_length_eq_zero hA
    refine ⟨s :: B, by simp [chirographref15_Put.l0], ?_, fun x => by simp⟩
    rw [List.map_cons]
    refine List.pairwise_cons.2 ⟨fun y hy => ?_, hS⟩
    obtain ⟨b, hb, rfl⟩ := List.mem_map.1 hy
    exact hB b hb
  | n + 1, k + 1, A, B, s, hA, hk, hl, hS, hn, hB => by
    obtain ⟨A', a, rfl⟩ : ∃ A' a, A = A' ++ [a] := ⟨A.dropLast, A.getLast (by intro e; subst e; simp at hA), (List.dropLast_concat_getLast _).symm⟩
    have hA' : A'.length = n := by simpa using hA
    have e1 : A' ++ [a] ++ s :: B = (A' ++ [a]) ++ s :: B := rfl
    have e2 : A' ++ [a] ++ s :: B = A' ++ a :: (s :: B) := by simp
    have r1 : rdOf ByteArray.empty (A' ++ [a] ++ s :: B) ((n + 1 : Nat) : Int) = s := rd_mid _ _ _ _ (by rw [hA])
    have r2 : rdOf ByteArray.empty (A' ++ [a] ++ s :: B) (n : Int) = a := by rw [e2]; exact rd_mid _ _ _ _ (by rw [hA'])
    have w1 : wrap64 (((n + 1 : Nat) : Int) - 1) = (n : Int) := by rw [wrap64_small (by omega) (by omega)]; omega
    have hlen : (((A' ++ [a] ++ s :: B).length : Nat) : Int) = n + 1 + (1 + B.length) := by simp; omega
    unfold chirographref15_Put.l0
    rw [if_pos (show ((n + 1 : Nat) : Int) > 0 by omega), if_pos (show (0 : Int) ≤ ((n + 1 : Nat) : Int) by omega), if_pos (by rw [hlen]; omega), w1, if_pos (show (0 : Int) ≤ (n : Int) by omega), if_pos (by rw [hlen]; omega), r1, r2]
    have hne : tl s ≠ tl a := fun e => hn (by rw [e]; simp)
    by_cases hlt : tl s < tl a
    · rw [if_pos ((less_iff s a).2 hlt)]
      have s1 : ((A' ++ [a] ++ s :: B).set ((n + 1 : Nat) : Int).toNat a).set (n : Int).toNat s = A' ++ s :: (a :: B) := by
        rw [Int.toNat_natCast, Int.toNat_natCast, set_mid (A' ++ [a]) B s a (n + 1) hA.symm]
        have e3 : A' ++ [a] ++ a :: B = A' ++ a :: (a :: B) := by simp
        rw [e3, set_mid A' (a :: B) a s n hA'.symm]
      rw [s1]
      have e4 : A' ++ [a] ++ B = A' ++ a :: B := by simp
      rw [e4] at hS hn ⊢
      refine put_loop n k A' (a :: B) s hA' (by omega) (by simp; omega) hS hn (fun b hb => ?_)
      rcases List.mem_cons.1 hb with rfl | hb
      · exact lt'_of_lt hlt
      · exact hB b hb
    · rw [if_neg (fun h => hlt ((less_iff s a).1 h))]
      refine ⟨_, rfl, ?_, fun x => ?_⟩
      · have hS2 := hS
        rw [List.map_append] at hS2
        have h3 := List.pairwise_append.1 hS2
        rw [List.map_append, List.map_cons]
        refine List.pairwise_append.2 ⟨h3.1, List.pairwise_cons.2 ⟨fun y hy => ?_, h3.2.1⟩, fun x hx y hy => ?_⟩
        · obtain ⟨b, hb, rfl⟩ := List.mem_map.1 hy
          exact hB b hb
        · rcases List.mem_cons.1 hy with rfl | hy
          · have has : lt' (tl a) (tl s) := lt'_of_not hlt hne
            rw [List.map_append, List.map_cons, List.map_nil] at hx
            rcases List.mem_append.1 hx with hx | hx
            · have h4 := h3.1
              rw [List.map_append] at h4
              exact lt'_trans ((List.pairwise_append.1 h4).2.2 x hx (tl a) (by simp)) has
            · simp at hx
              subst hx
              exact has
          · exact h3.2.2 x hx y hy
      · simp only [List.map_append, List.map_cons, List.mem_append, List.mem_cons]
        constructor
        · rintro (h | h | h)
          · exact .inr (.inl h)
          · exact .inl h
          · exact .inr (.inr h)
        · rintro (h | h | h)
          · exact .inr (.inl h)
          · exact .inl h
          · exact .inr (.inr h)
theorem in_loop (s : ByteArray) (l : List ByteArray) (hl : l.length ≤ 1000000) : ∀ (d k i : Nat), i + d = l.length → d < k → s ∉ l.take i → chirographref15_in.l0 k s l (i : Int) = some (memB s l)
  | 0, k + 1, i, hi, hk, hn => by
    have hi' : i = l.length := by omega
    unfold chirographref15_in.l0
    rw [if_neg (by omega)]
    subst hi'
    rw [List.take_length] at hn
    rw [memB_false hn]
  | d + 1, k + 1, i, hi, hk, hn => by
    have hlt : i < l.length := by omega
    unfold chirographref15_in.l0
    rw [if_pos (by omega), if_pos (by omega)]
    have hmem := rd_mem l i hlt
    have hno := fun h => not_in_snoc hlt hn h
    by_cases ht : rdOf ByteArray.empty l i = s
    · rw [if_pos (by rw [ht])]
      rw [ht] at hmem
      rw [memB_true hmem]
    · rw [if_neg (toList_ne ht), wrap64_small (by omega) (by omega)]
      exact in_loop s l hl d k (i + 1) (by omega) (by omega) (hno ht)
theorem put_f (l : List ByteArray) (s : ByteArray) (hl : l.length ≤ 900000) (hS : SS (l.map tl)) : ∃ r, chirographref15_Put.f 1000002 l s = some r ∧ r.map tl = put (l.map tl) (tl s) := by
  have hin : chirographref15_in.f 1000002 s l = some (memB s l) := in_loop s l (by omega) l.length 1000002 0 (by omega) (by omega) (by simp)
  unfold chirographref15_Put.f
  rw [hin, Option.bind_some]
  by_cases hm : s ∈ l
  · rw [memB_true hm, if_pos rfl]
    refine ⟨l, rfl, ?_⟩
    unfold put
    rw [if_pos (List.mem_map.2 ⟨s, hm, rfl⟩)]
  · rw [memB_false hm, if_neg (by decide), Option.bind_some, if_pos (by simp only [List.length_nil]; omega), Option.bind_some, List.nil_append, if_pos (by omega), Option.bind_some]
    have hn : tl s ∉ l.map tl := fun h => by
      obtain ⟨b, hb, e⟩ := List.mem_map.1 h
      rw [tl_inj e] at hb
      exact hm hb
    have e : wrap64 ((((l ++ [s]).length : Nat) : Int) - 1) = (l.length : Int) := by
      rw [List.length_append, List.length_singleton, wrap64_small (by omega) (by omega)]
      omega
    rw [e]
    obtain ⟨r, h1, h2, h3⟩ := put_loop l.length 1000002 l [] s rfl (by omega) (by simp only [List.length_nil]; omega) (by rw [List.append_nil]; exact hS) (by rw [List.append_nil]; exact hn) (fun b hb => by simp at hb)
    rw [List.append_nil] at h3
    exact ⟨r, h1, ss_ext h2 (put_ss hS _) (fun x => by rw [h3, put_mem])⟩
/-- a text put into a list of the call's own -/
theorem put_walk {w0 w : World} {v : Value} {l : List ByteArray} {s : ByteArray} (hB : Below w0.heap.size w0 w) (h : Kd.R Kd.string 9 w w0.heap.size (fun _ => True) v l) (hl : l.length ≤ 900000) (hS : SS (l.map tl)) :
    Calls Tryd.prog 27 #[v, .string s] w fun e w' => ∃ v', e = .returned v' ∧ Kd.R Kd.string 9 w' w0.heap.size (fun _ => True) v' ((put (l.map tl) (tl s)).map bs) ∧ Below w0.heap.size w0 w' := by
  obtain ⟨r, hr, he⟩ := put_f l s hl hS
  refine (chirographref15_Put.calls 1000002 (fun _ => True) v l s r w0 w hB h hr).mono fun e w' ⟨v', h1, h2, h3, _⟩ => ⟨v', h1, ?_, h3⟩
  have : r = (put (l.map tl) (tl s)).map bs := by
    rw [← he, List.map_map]
    exact (List.map_id'' (fun x => bs_tl x) r).symm
  rw [← this]
  exact Kd.R_mono h2 (fun _ _ => trivial)
end Go.Proofs.YtgeoibgohlpfjaaDoor.Py
