/- The document's Same, where both are the same; huge, walked. -/
import Derived.Test.YtgeoibgohlpfjaaDoorPyStart
set_option linter.unusedVariables false
set_option linter.unusedSimpArgs false
namespace Go.Proofs.YtgeoibgohlpfjaaDoor.Py
open Go Go.RowKit Go.Proofs.YtgeoibgohlpfjaaDoorW.PrintWords Go.Proofs.YtgeoibgohlpfjaaDoorW.PrintLast Go.Proofs.YtgeoibgohlpfjaaDoorW.PrintMore
theorem same_texts {w : World} {A B : Option Addr} {n c d : Nat} {ss : List ByteArray} (hn : ss.length = n) (hs : Strs w (.slice A n c) ss) (ht : Strs w (.slice B n d) ss) (hl : n < 4611686018427387904) (o1 o2 : Obj) :
    Calls Tryd.prog 20 #[.slice A n c, .slice B n d] ((w.alloc o1).alloc o2) fun e w' => e = .returned (.bool true) ∧ Below ((w.alloc o1).alloc o2).heap.size ((w.alloc o1).alloc o2) w' := by
  have hb : Below w.heap.size w ((w.alloc o1).alloc o2) := below_alloc (below_alloc (Below.refl _ _) _) _
  have h := texts_walk _ _ ss ss _ (hs.below hb) (ht.below hb) (by omega) (by omega)
  rw [decide_eq_true rfl] at h
  exact h
theorem Strs.open_ {w : World} {v : Value} {l : List S} (h : Strs w v (l.map bs)) : ∃ A c, v = .slice A l.length c ∧ l.length ≤ c ∧ l.length ≤ 9223372036854775807 := by
  obtain ⟨A, c, e, hc, hr⟩ := h
  rw [List.length_map] at e hc
  exact ⟨A, c, e, hc, by have := hr.2.1; simpa using this⟩
set_option maxHeartbeats 4000000 in
set_option maxRecDepth 100000 in
theorem same_walk (v u : Value) (p : Pl) (w : World) (hv : PolIs w v p) (hu : PolIs w u p) (hl : p.set.length < 4611686018427387904) :
    Calls Tryd.prog 10 #[v, u] w fun e w' => e = .returned (.bool true) ∧ Below w.heap.size w w' := by
  obtain ⟨sv, rfl, hs⟩ := hv
  obtain ⟨su, rfl, ht⟩ := hu
  obtain ⟨A, c, rfl, hc, hn⟩ := hs.open_
  obtain ⟨B, d, rfl, hd, _⟩ := ht.open_
  have HS := Aside0.mk (And.intro (And.intro hs ht) (show (p.set.map bs).length = p.set.length from List.length_map ..))
  clear hs ht hc hd
  generalize p.set.map bs = ss at HS
  generalize p.set.length = n at HS hl hn
  obtain ⟨_, pe, pa⟩ := p
  simp only
  go_enter Tryd.func10, Tryd.ntmps10
  go_wp2_with
   (go_at_call 20; (with_reducible refine (same_texts HS.out.2 HS.out.1.1 HS.out.1.2 hl _ _).mono ?_)
    rintro e w1 ⟨rfl, hb⟩
    have B1 := blk_below (blk_alloc (blk_new w _) _) hb
    have B2 := blk_below (blk_new (w.alloc _) _) hb
    rw [World.size_alloc] at B2
    have e1 : w1.cell? ⟨w.heap.size, 1, none⟩ = some (.int .i64 pe) := by rw [cell_of_row w1 w.heap.size 1 _ _ _ B1]; rfl
    have e2 : w1.cell? ⟨w.heap.size, 2, none⟩ = some (.int .i64 pa) := by rw [cell_of_row w1 w.heap.size 2 _ _ _ B1]; rfl
    have e3 : w1.cell? ⟨w.heap.size + 1, 1, none⟩ = some (.int .i64 pe) := by rw [cell_of_row w1 (w.heap.size + 1) 1 _ _ _ B2]; rfl
    have e4 : w1.cell? ⟨w.heap.size + 1, 2, none⟩ = some (.int .i64 pa) := by rw [cell_of_row w1 (w.heap.size + 1) 2 _ _ _ B2]; rfl
    have HX := Aside0.mk (below_step (below_alloc (below_alloc (Below.refl w.heap.size w) _) _) hb)
    clear B1 B2 hb)
  go_ret
  exact ⟨rfl, HX.out⟩
/-- the cells of one: at an address -/
def BitAt (w : World) (a : Addr) (b : Cb) : Prop := ∃ pv, w.cell? a = some pv ∧ w.cell? ⟨a.block, a.off + 1, none⟩ = some (.int .i64 b.req) ∧ w.cell? ⟨a.block, a.off + 2, none⟩ = some (.int .i64 b.inh) ∧ w.cell? ⟨a.block, a.off + 3, none⟩ = some (.bool b.own) ∧ Strs w pv (b.pol.map bs)
theorem cell_below {w w' : World} {a : Addr} {x : Value} (hb : Below w.heap.size w w') (h : w.cell? a = some x) : w'.cell? a = some x := by
  have hlt : a.block < w.heap.size := by
    rcases Nat.lt_or_ge a.block w.heap.size with h1 | h1
    · exact h1
    · simp [World.cell?, Array.getElem?_eq_none h1] at h
  rw [hb.cell (p := a) hlt]
  exact h
theorem BitAt.below {w w' : World} {a : Addr} {b : Cb} (h : BitAt w a b) (hb : Below w.heap.size w w') : BitAt w' a b := by
  obtain ⟨pv, h0, h1, h2, h3, h4⟩ := h
  exact ⟨pv, cell_below hb h0, cell_below hb h1, cell_below hb h2, cell_below hb h3, h4.below hb⟩
def Bits (w : World) (v : Value) (l : List Cb) : Prop := ∃ A c, v = .slice A l.length c ∧ l.length ≤ c ∧ l.length ≤ 9223372036854775807 ∧ (0 < l.length → ∃ a, A = some a ∧ ∀ k b, l[k]? = some b → BitAt w (a.add (k * 4)) b)
theorem Bits.below {w w' : World} {v : Value} {l : List Cb} (h : Bits w v l) (hb : Below w.heap.size w w') : Bits w' v l := by
  obtain ⟨A, c, e, h1, h2, h3⟩ := h
  refine ⟨A, c, e, h1, h2, fun h0 => ?_⟩
  obtain ⟨a, e, h4⟩ := h3 h0
  exact ⟨a, e, fun k b hk => (h4 k b hk).below hb⟩
def FitS (l : List S) : Prop := ∀ s ∈ l, s.length ≤ maxLen
def hugeB (l : List Cb) (user : List S) : Bool := decide (30 < l.length) || decide (200 < user.length) || l.any fun b => decide (200 < b.pol.length)
set_option maxHeartbeats 4000000 in
set_option maxRecDepth 100000 in
theorem huge_walk (v u : Value) (l : List Cb) (user : List S) (w : World) (hv : Bits w v l) (hu : Strs w u (user.map bs)) (hul : user.length ≤ 9223372036854775807) :
    Calls Tryd.prog 14 #[v, u] w fun e w' => e = .returned (.bool (hugeB l user)) ∧ w' = w := by
  obtain ⟨A, c, rfl, hc, hl, hr⟩ := hv
  obtain ⟨B, d, rfl, hd, hq⟩ := hu
  rw [List.length_map]
  clear hq hd
  by_cases h1 : 30 < l.length
  · have HH : Aside0 (hugeB l user = true) := ⟨by simp [hugeB, h1]⟩
    have p1 : (30 : Int) < (l.length : Int) := by omega
    go_enter Tryd.func14, Tryd.ntmps14
    go_wp2
    go_ret
    exact ⟨by rw [HH.out]; rfl, rfl⟩
  by_cases h2 : 200 < user.length
  · have HH : Aside0 (hugeB l user = true) := ⟨by simp [hugeB, h2]⟩
    have p1 : ¬ (30 : Int) < (l.length : Int) := by omega
    have p2 : (200 : Int) < (user.length : Int) := by omega
    go_enter Tryd.func14, Tryd.ntmps14
    go_wp2
    go_ret
    exact ⟨by rw [HH.out]; rfl, rfl⟩
  have p1 : ¬ (30 : Int) < (l.length : Int) := by omega
  have p2 : ¬ (200 : Int) < (user.length : Int) := by omega
  have HU := Aside0.mk (And.intro h1 h2)
  go_enter Tryd.func14, Tryd.ntmps14
  go_wp2
  clear h2
  go_loop [5] (fun i => ∃ k : Nat, k ≤ l.length ∧ i = .int .i64 k ∧ ∀ b ∈ l.take k, ¬ 200 < b.pol.length) (fun i => l.length - (intOf i).toNat)
  case atStart => exact ⟨0, Nat.zero_le _, rfl, by simp⟩
  case round =>
    obtain ⟨k, hk, rfl, hni⟩ := hrel
    by_cases hlt : k < l.length
    · obtain ⟨a, rfl, hat⟩ := hr (by omega)
      have hb := hat k l[k] (List.getElem?_eq_getElem hlt)
      have HM := Aside0.mk (List.getElem_mem hlt)
      have HT := Aside0.mk (show l.take (k + 1) = l.take k ++ [l[k]] by rw [List.take_add_one, List.getElem?_eq_getElem hlt]; rfl)
      generalize l[k] = b at hb HM HT
      have HN := Aside0.mk hni
      obtain ⟨pv, hc0, hc1, hc2, hc3, hst⟩ := hb
      obtain ⟨P, pc, rfl, hpc, hpr⟩ := hst
      have q1 : ((k : Int) < (l.length : Int)) = True := by simpa using hlt
      have q2 : (0 ≤ (k : Int)) = True := by simp
      rw [List.length_map] at hc0
      have hpl : b.pol.length ≤ 9223372036854775807 := by have := hpr.2.1; simpa using this
      clear hpc hpr hni hc1 hc2 hc3 hat hr
      by_cases hbig : 200 < b.pol.length
      · have q3 : (200 : Int) < (b.pol.length : Int) := by omega
        have HH : Aside0 (hugeB l user = true) := ⟨by unfold hugeB; rw [Bool.or_eq_true]; exact .inr (List.any_eq_true.2 ⟨b, HM.out, by simpa using hbig⟩)⟩
        clear hbig
        go_wp2
        go_ret
        exact ⟨by rw [HH.out]; rfl, rfl⟩
      · have q3 : ¬ (200 : Int) < (b.pol.length : Int) := by omega
        have HR : Aside0 (∀ b ∈ l.take (k + 1), ¬ 200 < b.pol.length) := ⟨by
          rw [HT.out]
          intro x hx
          rcases List.mem_append.1 hx with h | h
          · exact HN.out x h
          · simp at h
            subst h
            exact hbig⟩
        clear hbig
        go_wp2
        go_round
        case rel => exact ⟨k + 1, by omega, by go_num, HR.out⟩
        case measure => simp [intOf]; omega
    · have e : k = l.length := by omega
      subst e
      rw [List.take_length] at hni
      have HH : Aside0 (hugeB l user = false) := ⟨by
        unfold hugeB
        rw [Bool.or_eq_false_iff, Bool.or_eq_false_iff]
        refine ⟨⟨decide_eq_false HU.out.1, decide_eq_false HU.out.2⟩, ?_⟩
        rw [List.any_eq_false]
        intro b hb
        simpa using hni b hb⟩
      clear hni
      go_wp2
      go_ret
      exact ⟨by rw [HH.out]; rfl, rfl⟩
end Go.Proofs.YtgeoibgohlpfjaaDoor.Py
