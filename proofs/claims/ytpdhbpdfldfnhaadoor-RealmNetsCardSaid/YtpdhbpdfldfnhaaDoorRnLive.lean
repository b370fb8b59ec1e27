/- The page's examples of the realm, walked. -/
import Derived.Test.YtpdhbpdfldfnhaaDoorRnLaws
set_option linter.unusedVariables false
set_option linter.unusedSimpArgs false
namespace Go.Proofs.YtpdhbpdfldfnhaaDoor.Rn
open Go Go.RowKit Go.Proofs.YtpdhbpdfldfnhaaDoorW.PrintWords Go.Proofs.YtpdhbpdfldfnhaaDoorW.PrintLast Go.Proofs.YtpdhbpdfldfnhaaDoorW.PrintMore Go.Proofs.YtpdhbpdfldfnhaaDoor.Rm
abbrev nilS : Value := .slice none 0 0
abbrev genC (k : Int) (s : ByteArray) : Array Value := #[.int .i64 k, .string s, nilS, nilS]
abbrev sa : ByteArray := ⟨#[97]⟩
abbrev sb : ByteArray := ⟨#[98]⟩
theorem host_ab (w : World) : Calls Tryd.prog 7 #[.string sa, .string sb] w fun e w' => e = .returned (.bool false) ∧ Below w.heap.size w w' := realm_Host.calls 10 sa sb false w (by kernel_rfl)
set_option maxHeartbeats 4000000 in
set_option maxRecDepth 100000 in
theorem match_ab (w : World) : Calls Tryd.prog 23 #[.agg (genC 2 sa), .agg (genC 2 sb)] w fun e w' => e = .returned (.bool false) ∧ Below w.heap.size w w' := by
  have HB := Aside0.mk (below_alloc (below_alloc (Below.refl w.heap.size w) (.cells (genC 2 sa) 27)) (.cells (genC 2 sb) 27))
  go_enter Tryd.func23, Tryd.ntmps23
  go_wp2_with (go_at_call 7; refine (host_ab _).mono ?_; rintro e w1 ⟨rfl, hb⟩; have HZ := Aside0.mk (below_step HB.out hb); clear hb)
  go_ret
  exact ⟨rfl, HZ.out⟩
theorem gen_cell {w : World} {g : Nat} {k : Int} {s : ByteArray} (h : w.heap[g]? = some (.cells (genC k s) 27 (0, 0))) :
    w.cell? ⟨g, 0, none⟩ = some (.int .i64 k) ∧ w.cell? ⟨g, 1, none⟩ = some (.string s) ∧ w.cell? ⟨g, 2, none⟩ = some nilS ∧ w.cell? ⟨g, 3, none⟩ = some nilS := ⟨(blk_cell h 0).trans rfl, (blk_cell h 1).trans rfl, (blk_cell h 2).trans rfl, (blk_cell h 3).trans rfl⟩
set_option maxHeartbeats 4000000 in
set_option maxRecDepth 100000 in
theorem kind_walk (w : World) (g8 : Nat) (k : Int) (s s8 : ByteArray) (h8 : w.heap[g8]? = some (.cells (genC 2 s8) 27 (0, 0))) : Calls Tryd.prog 18 #[.agg (genC k s), .pointer (some ⟨g8, 0, none⟩)] w fun e w' => e = .returned (.bool (k == 2)) ∧ Below w.heap.size w w' := by
  have c8 : ∀ o, (w.alloc o).cell? ⟨g8, 0, none⟩ = some (.int .i64 2) := fun o => (gen_cell (blk_alloc h8 o)).1
  have HB := Aside0.mk (below_alloc (Below.refl w.heap.size w) (.cells (genC k s) 27))
  clear h8
  go_enter Tryd.func18, Tryd.ntmps18
  go_wp2
  go_ret
  exact ⟨rfl, HB.out⟩
/-- the function value that holds one of a kind against a base -/
abbrev dnsF : Value := .func (.func 23) #[] #[]
set_option maxHeartbeats 4000000 in
set_option maxRecDepth 100000 in
theorem hit_walk (w : World) (g8 g9 : Nat) (h8 : w.heap[g8]? = some (.cells (genC 2 sa) 27 (0, 0))) (h9 : w.heap[g9]? = some (.cells #[dnsF] 36 (0, 0))) :
    Calls Tryd.prog 16 #[.agg (genC 2 sb), .pointer (some ⟨g8, 0, none⟩), .pointer (some ⟨g9, 0, none⟩)] w fun e w' => e = .returned (.bool false) ∧ Below w.heap.size w w' := by
  have c8 : ∀ o, (w.alloc o).cell? ⟨g8, 0, none⟩ = some (.int .i64 2) := fun o => (gen_cell (blk_alloc h8 o)).1
  have c81 : ∀ o, (w.alloc o).cell? ⟨g8, 1, none⟩ = some (.string sa) := fun o => (gen_cell (blk_alloc h8 o)).2.1
  have c82 : ∀ o, (w.alloc o).cell? ⟨g8, 2, none⟩ = some nilS := fun o => (gen_cell (blk_alloc h8 o)).2.2.1
  have c83 : ∀ o, (w.alloc o).cell? ⟨g8, 3, none⟩ = some nilS := fun o => (gen_cell (blk_alloc h8 o)).2.2.2
  have c9 : ∀ o, (w.alloc o).cell? ⟨g9, 0, none⟩ = some dnsF := fun o => (blk_cell (blk_alloc h9 o) 0).trans rfl
  have HB := Aside0.mk (below_alloc (Below.refl w.heap.size w) (.cells (genC 2 sb) 27))
  clear h8 h9
  go_enter Tryd.func16, Tryd.ntmps16
  go_wp2_with (go_at_call 23; refine (match_ab _).mono ?_; rintro e w1 ⟨rfl, hb⟩; have HZ := Aside0.mk (below_step HB.out hb); clear hb)
  go_ret
  exact ⟨rfl, HZ.out⟩
/-- one gen in a row: is there one of which the function says so? -/
def GenAt (w : World) (gb : Nat) (k : Int) (s : ByteArray) : Prop := w.heap[gb]? = some (.cells (genC k s) 27 (0, 0))
set_option maxHeartbeats 4000000 in
set_option maxRecDepth 100000 in
theorem index_no (w : World) (gb g8 g9 : Nat) (hb : GenAt w gb 1 sb) (h8 : GenAt w g8 2 sa) :
    Calls Tryd.prog 27 #[.slice (some ⟨gb, 0, none⟩) 1 1, .func (.func 18) #[] #[.pointer (some ⟨g8, 0, none⟩)]] w fun e w' => e = .returned (.int .i64 (-1)) ∧ Below w.heap.size w w' := by
  obtain ⟨b0, b1, b2, b3⟩ := gen_cell hb
  have H8 := Aside0.mk h8
  clear hb
  go_enter Tryd.func27, Tryd.ntmps27
  go_wp2
  go_loopw [8] (fun i wr => (i = .int .i64 0 ∧ wr = w) ∨ (i = .int .i64 1 ∧ Aside0 (Below w.heap.size w wr))) (fun i _ => 1 - (intOf i).toNat)
  case atStart => exact .inl ⟨rfl, rfl⟩
  case round =>
    rcases hrel with ⟨rfl, rfl⟩ | ⟨rfl, HW⟩
    · go_wp2_with (go_at_call 18; refine (kind_walk wr g8 1 sb sa H8.out).mono ?_; rintro e w1 ⟨rfl, hb⟩; have HZ := Aside0.mk hb; clear hb)
      go_roundw
      case rel => exact .inr ⟨rfl, ⟨HZ.out⟩⟩
      case measure => simp [intOf]
    · go_wp2
      go_ret
      exact ⟨rfl, HW.out⟩
set_option maxHeartbeats 4000000 in
set_option maxRecDepth 100000 in
theorem index_hit (w : World) (gb g8 g9 : Nat) (hb : GenAt w gb 2 sb) (h8 : GenAt w g8 2 sa) (h9 : w.heap[g9]? = some (.cells #[dnsF] 36 (0, 0))) :
    Calls Tryd.prog 27 #[.slice (some ⟨gb, 0, none⟩) 1 1, .func (.func 16) #[] #[.pointer (some ⟨g8, 0, none⟩), .pointer (some ⟨g9, 0, none⟩)]] w fun e w' => e = .returned (.int .i64 (-1)) ∧ Below w.heap.size w w' := by
  obtain ⟨b0, b1, b2, b3⟩ := gen_cell hb
  have H8 := Aside0.mk (And.intro h8 h9)
  clear hb
  go_enter Tryd.func27, Tryd.ntmps27
  go_wp2
  go_loopw [8] (fun i wr => (i = .int .i64 0 ∧ wr = w) ∨ (i = .int .i64 1 ∧ Aside0 (Below w.heap.size w wr))) (fun i _ => 1 - (intOf i).toNat)
  case atStart => exact .inl ⟨rfl, rfl⟩
  case round =>
    rcases hrel with ⟨rfl, rfl⟩ | ⟨rfl, HW⟩
    · go_wp2_with (go_at_call 16; refine (hit_walk wr g8 g9 H8.out.1 H8.out.2).mono ?_; rintro e w1 ⟨rfl, hb⟩; have HZ := Aside0.mk hb; clear hb)
      go_roundw
      case rel => exact .inr ⟨rfl, ⟨HZ.out⟩⟩
      case measure => simp [intOf]
    · go_wp2
      go_ret
      exact ⟨rfl, HW.out⟩
set_option maxHeartbeats 4000000 in
set_option maxRecDepth 100000 in
theorem index_yes (w : World) (gb g8 g9 : Nat) (hb : GenAt w gb 2 sb) (h8 : GenAt w g8 2 sa) :
    Calls Tryd.prog 27 #[.slice (some ⟨gb, 0, none⟩) 1 1, .func (.func 18) #[] #[.pointer (some ⟨g8, 0, none⟩)]] w fun e w' => e = .returned (.int .i64 (0)) ∧ Below w.heap.size w w' := by
  obtain ⟨b0, b1, b2, b3⟩ := gen_cell hb
  have H8 := Aside0.mk h8
  clear hb
  go_enter Tryd.func27, Tryd.ntmps27
  go_wp2
  go_loopw [8] (fun i wr => i = .int .i64 0 ∧ wr = w) (fun i _ => 1 - (intOf i).toNat)
  case atStart => exact ⟨rfl, rfl⟩
  case round =>
    obtain ⟨rfl, rfl⟩ := hrel
    · go_wp2_with (go_at_call 18; refine (kind_walk wr g8 2 sb sa H8.out).mono ?_; rintro e w1 ⟨rfl, hb⟩; have HZ := Aside0.mk hb; clear hb)
      go_ret
      exact ⟨rfl, HZ.out⟩
set_option maxHeartbeats 4000000 in
set_option maxRecDepth 100000 in
theorem index_nil (f : Value) (w : World) : Calls Tryd.prog 27 #[nilS, f] w fun e w' => e = .returned (.int .i64 (-1)) ∧ Below w.heap.size w w' := by
  have HB := Aside0.mk (Below.refl w.heap.size w)
  go_enter Tryd.func27, Tryd.ntmps27
  go_wp2
  go_loopw [8] (fun i wr => i = .int .i64 0 ∧ wr = w) (fun i _ => 1 - (intOf i).toNat)
  case atStart => exact ⟨rfl, rfl⟩
  case round =>
    obtain ⟨rfl, rfl⟩ := hrel
    go_wp2
    go_ret
    exact ⟨rfl, HB.out⟩
theorem contains_of {v f : Value} {w : World} {x : Int} {b : Bool} (hx : b = decide (0 ≤ x)) (h : Calls Tryd.prog 27 #[v, f] w fun e w' => e = .returned (.int .i64 x) ∧ Below w.heap.size w w') :
    Calls Tryd.prog 17 #[v, f] w fun e w' => e = .returned (.bool b) ∧ Below w.heap.size w w' := by
  have HX := Aside0.mk hx
  go_enter Tryd.func17, Tryd.ntmps17
  go_wp2_with (go_at_call 27; refine h.mono ?_; rintro e w1 ⟨rfl, hb⟩; have HZ := Aside0.mk hb; clear hb)
  go_ret
  exact ⟨by rw [HX.out]; rfl, HZ.out⟩
set_option maxHeartbeats 4000000 in
set_option maxRecDepth 100000 in
theorem of_dns (w : World) : Calls Tryd.prog 15 #[.int .i64 2] w fun e w' => e = .returned (.tuple #[.agg #[dnsF], .bool true]) ∧ Below w.heap.size w w' := by
  go_enter Tryd.func15, Tryd.ntmps15
  go_wp2_with (first
    | ((with_reducible refine gate_dst (N := 2) rfl ?_); refine law_new ?hg (N := 2) ?hd (ob := .cells #[.nilFunc] 36 (0, 0)) (V := fun g => .pointer (some ⟨g, 0, none⟩)) ?hr ?_; (case hd => rfl); (case hg => rfl); (case hr => first | (go_simp; done) | (go_simp; rfl))
       intro g2 hg2 w2 b2 hb2
       have B2 := Aside0.mk b2
       have HB := Aside0.mk hb2
       have HG := Aside0.mk (Nat.le_of_eq hg2.symm)
       clear b2 hb2 hg2)
    | (have h0_ := B2.out; refine law_store ?q1 36 (.tmp 2) (.tmp 10) ?q2 g2 #[dnsF] ?q3 ?q4 h0_ ?q5 ?q6 ?q7 ?_; (case q1 => rfl); (case q2 => rfl); (case q3 => rfl); (case q4 => rfl); (case q5 => rfl); (case q6 => kernel_rfl); (case q7 => first | rfl | (simp [Value.oneCell']) | kernel_rfl)
       intro w3 b3 hg3 hs3
       have HE := Aside0.mk (And.intro b3 (HB.out.grown hg3 HB.out.size (fun j hj => by cases hj; exact HG.out)))
       clear b3 hg3 hs3 h0_ B2))
  refine bodyPost_ret (results_cell_tmp rfl _ _ g2 36 _ (0, 0) _ _ rfl rfl HE.out.1 Tryd.underlying36 rfl (by kernel_rfl)) rfl ?_
  exact ⟨rfl, HE.out.2⟩
set_option maxHeartbeats 4000000 in
set_option maxRecDepth 100000 in
/-- the page's question: one name, another one permitted -/
theorem allowed_no (w : World) (ga gb : Nat) (ha : GenAt w ga 2 sa) (hb : GenAt w gb 2 sb) :
    Calls Tryd.prog 9 #[.slice (some ⟨ga, 0, none⟩) 1 1, .slice (some ⟨gb, 0, none⟩) 1 1, nilS] w fun e w' => e = .returned (.bool false) ∧ Below w.heap.size w w' := by
  obtain ⟨a0, a1, a2, a3⟩ := gen_cell ha
  have HB0 := Aside0.mk hb
  clear ha hb
  go_enter Tryd.func9, Tryd.ntmps9
  go_wp2
  go_loopw [14] (fun i wr => i = .int .i64 0 ∧ wr = w) (fun i _ => 1 - (intOf i).toNat)
  case atStart => exact ⟨rfl, rfl⟩
  case round =>
    obtain ⟨rfl, rfl⟩ := hrel
    go_wp2_with (first
      | ((with_reducible refine gate_dst (N := 8) rfl ?_); refine law_new ?hg (N := 8) ?hd (ob := .cells (genC 0 ⟨#[]⟩) 27 (0, 0)) (V := fun g => .pointer (some ⟨g, 0, none⟩)) ?hr ?_; (case hd => rfl); (case hg => rfl); (case hr => first | (go_simp; done) | (go_simp; rfl))
         intro g8 hg8 w1 b8 hb8
         have B8 := Aside0.mk b8
         have HBx := Aside0.mk hb8
         have HG8 := Aside0.mk (Nat.le_of_eq hg8.symm)
         clear b8 hb8 hg8)
      | (have h0_ := B8.out; refine law_store ?q1 27 (.tmp 8) (.tmp 17) ?q2 g8 (genC 2 sa) ?q3 ?q4 h0_ ?q5 ?q6 ?q7 ?_; (case q1 => rfl); (case q2 => rfl); (case q3 => rfl); (case q4 => rfl); (case q5 => rfl); (case q6 => kernel_rfl); (case q7 => first | rfl | (simp [Value.oneCell']) | kernel_rfl)
         intro w2 b8 hg2 hs2
         have B8x := Aside0.mk b8
         have HB := Aside0.mk (HBx.out.grown hg2 HBx.out.size (fun j hj => by cases hj; exact HG8.out))
         clear b8 hg2 hs2 h0_ B8 HBx)
      | ((with_reducible refine gate_dst (N := 20) rfl ?_); refine law_load1 rfl 3 _ rfl g8 0 rfl B8x.out (.int .i64 2) rfl _ Tryd.underlying3 rfl ?_)
      | (go_at_call 15; refine (of_dns _).mono ?_; rintro e w3 ⟨rfl, hb⟩
         have B8y := Aside0.mk (blk_below B8x.out hb)
         have HBy := Aside0.mk (below_step HB.out hb)
         clear hb B8x HB)
      | ((with_reducible refine gate_dst (N := 9) rfl ?_); refine law_new ?hg (N := 9) ?hd (ob := .cells #[.nilFunc] 36 (0, 0)) (V := fun g => .pointer (some ⟨g, 0, none⟩)) ?hr ?_; (case hd => rfl); (case hg => rfl); (case hr => first | (go_simp; done) | (go_simp; rfl))
         intro g9 hg9 w4 b9 hb9
         have B9 := Aside0.mk b9
         have B8z := Aside0.mk (blk_below B8y.out hb9)
         have HNE := Aside0.mk (show g8 < g9 by rw [hg9]; exact blk_lt B8y.out)
         have HBz := Aside0.mk (below_step HBy.out hb9)
         have HG9 := Aside0.mk (show wr.heap.size ≤ g9 by rw [hg9]; exact HBy.out.size)
         clear b9 hb9 hg9 B8y HBy)
      | (have h0_ := B9.out; refine law_store ?q1 36 (.tmp 9) (.tmp 22) ?q2 g9 #[dnsF] ?q3 ?q4 h0_ ?q5 ?q6 ?q7 ?_; (case q1 => rfl); (case q2 => rfl); (case q3 => rfl); (case q4 => rfl); (case q5 => rfl); (case q6 => kernel_rfl); (case q7 => first | rfl | (simp [Value.oneCell']) | kernel_rfl)
         intro w5 b9 hg5 hs5
         have B9x := Aside0.mk b9
         have B8w := Aside0.mk (blk_grown B8z.out hg5 (fun e => by have h1 := Option.some.inj e; have h2 := HNE.out; omega))
         have HBw := Aside0.mk (HBz.out.grown hg5 HBz.out.size (fun j hj => by cases hj; exact HG9.out))
         clear b9 hg5 hs5 h0_ B9 B8z HBz)
      | (go_at_call 17; have h0_ := B9x.out; refine (contains_of (b := false) rfl (index_nil _ _)).mono ?_; rintro e w6 ⟨rfl, hb⟩
         have HC6 := Aside0.mk (And.intro (blk_below B8w.out hb) (And.intro (blk_below h0_ hb) (below_step HBw.out hb)))
         clear hb h0_ B9x B8w HBw)
      | (go_at_call 17; have h0_ := HC6.out; refine (contains_of (b := true) rfl (index_yes _ gb g8 g8 (blk_below HB0.out h0_.2.2) h0_.1)).mono ?_; rintro e w7 ⟨rfl, hb⟩
         have HC7 := Aside0.mk (And.intro (blk_below h0_.1 hb) (And.intro (blk_below h0_.2.1 hb) (below_step h0_.2.2 hb)))
         clear hb h0_ HC6)
      | (go_at_call 17; have h0_ := HC7.out; refine (contains_of (b := false) rfl (index_hit _ gb g8 g9 (blk_below HB0.out h0_.2.2) h0_.1 h0_.2.1)).mono ?_; rintro e w8 ⟨rfl, hb⟩
         have HZ := Aside0.mk (below_step h0_.2.2 hb)
         clear hb h0_ HC7))
    go_ret
    exact ⟨rfl, HZ.out⟩
end Go.Proofs.YtpdhbpdfldfnhaaDoor.Rn
