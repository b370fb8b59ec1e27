/- A name against a base, by both: the law's walk; its arguments opened (joined by assemble.py). -/
import Derived.Test.YtpdhbpdfldfnhaaGreatDoorZi
import Derived.Test.YtpdhbpdfldfnhaaGreatDoorZc
import Derived.Deep.Slices
import Derived.Deep.Fields
import Derived.ChangeSame
import Derived.Lib.SmallJoins
import Derived.SliceStrings
set_option linter.unusedVariables false
set_option linter.unusedSimpArgs false
/- of RgMatch -/
/- A name against a base, by kinds: the program's Match and the document's, walked (written by matchgen.py). -/
namespace Go.Proofs.YtpdhbpdfldfnhaaGreatDoor.Rk
open Go Go.RowKit Go.Proofs.YtpdhbpdfldfnhaaGreatDoorW.PrintWords Go.Proofs.YtpdhbpdfldfnhaaGreatDoorW.PrintLast Go.Proofs.YtpdhbpdfldfnhaaGreatDoorW.PrintMore Go.Proofs.YtpdhbpdfldfnhaaGreatDoor.Rn Go.Proofs.YtpdhbpdfldfnhaaGreatDoor.Nm
abbrev gv (k : Int) (t : ByteArray) (A2 : Option Addr) (n2 c2 : Nat) (A3 : Option Addr) (n3 c3 : Nat) : Value := .agg #[.int .i64 k, .string t, .slice A2 n2 c2, .slice A3 n3 c3]
abbrev fv (K : Nat) : Value := .func (.func K) #[] #[]
/-- what a function says at values, from a world on -/
def Says (w : World) (K : Nat) (args : Array Value) (r : Bool) : Prop := ∀ W, Below w.heap.size w W → Calls Tryz.prog K args W fun e w' => e = .returned (.bool r) ∧ Below W.heap.size W w'
set_option maxHeartbeats 4000000 in
set_option maxRecDepth 100000 in
theorem clo_26 (k : Int) (t : ByteArray) (A2 : Option Addr) (n2 c2 : Nat) (A3 : Option Addr) (n3 c3 : Nat) (k' : Int) (t' : ByteArray) (B2 : Option Addr) (m2 d2 : Nat) (B3 : Option Addr) (m3 d3 : Nat) (r : Bool) (w : World) (h : Says w 10 #[.string t, .string t'] r) : Says w 26 #[gv k t A2 n2 c2 A3 n3 c3, gv k' t' B2 m2 d2 B3 m3 d3] r := by
  intro W hW
  have HS := Aside0.mk h
  have HW := Aside0.mk hW
  have HZ := Aside0.mk (below_alloc (below_alloc (Below.refl W.heap.size W) (.cells #[.int .i64 k, .string t, .slice A2 n2 c2, .slice A3 n3 c3] 25)) (.cells #[.int .i64 k', .string t', .slice B2 m2 d2, .slice B3 m3 d3] 25))
  clear h hW
  go_enter Tryz.func26, Tryz.ntmps26
  go_wp2_with (go_at_call 10; refine (HS.out _ (below_alloc (below_alloc HW.out _) _)).mono ?_; rintro e w1 ⟨rfl, hb⟩; have HB := Aside0.mk hb; clear hb)
  go_ret
  exact ⟨rfl, below_step HZ.out HB.out⟩
set_option maxHeartbeats 4000000 in
set_option maxRecDepth 100000 in
theorem clo_27 (k : Int) (t : ByteArray) (A2 : Option Addr) (n2 c2 : Nat) (A3 : Option Addr) (n3 c3 : Nat) (k' : Int) (t' : ByteArray) (B2 : Option Addr) (m2 d2 : Nat) (B3 : Option Addr) (m3 d3 : Nat) (r : Bool) (w : World) (h : Says w 9 #[.string t, .string t'] r) : Says w 27 #[gv k t A2 n2 c2 A3 n3 c3, gv k' t' B2 m2 d2 B3 m3 d3] r := by
  intro W hW
  have HS := Aside0.mk h
  have HW := Aside0.mk hW
  have HZ := Aside0.mk (below_alloc (below_alloc (Below.refl W.heap.size W) (.cells #[.int .i64 k, .string t, .slice A2 n2 c2, .slice A3 n3 c3] 25)) (.cells #[.int .i64 k', .string t', .slice B2 m2 d2, .slice B3 m3 d3] 25))
  clear h hW
  go_enter Tryz.func27, Tryz.ntmps27
  go_wp2_with (go_at_call 9; refine (HS.out _ (below_alloc (below_alloc HW.out _) _)).mono ?_; rintro e w1 ⟨rfl, hb⟩; have HB := Aside0.mk hb; clear hb)
  go_ret
  exact ⟨rfl, below_step HZ.out HB.out⟩
set_option maxHeartbeats 4000000 in
set_option maxRecDepth 100000 in
theorem clo_28 (k : Int) (t : ByteArray) (A2 : Option Addr) (n2 c2 : Nat) (A3 : Option Addr) (n3 c3 : Nat) (k' : Int) (t' : ByteArray) (B2 : Option Addr) (m2 d2 : Nat) (B3 : Option Addr) (m3 d3 : Nat) (r : Bool) (w : World) (h : Says w 29 #[.slice A3 n3 c3, .slice B3 m3 d3] r) : Says w 28 #[gv k t A2 n2 c2 A3 n3 c3, gv k' t' B2 m2 d2 B3 m3 d3] r := by
  intro W hW
  have HS := Aside0.mk h
  have HW := Aside0.mk hW
  have HZ := Aside0.mk (below_alloc (below_alloc (Below.refl W.heap.size W) (.cells #[.int .i64 k, .string t, .slice A2 n2 c2, .slice A3 n3 c3] 25)) (.cells #[.int .i64 k', .string t', .slice B2 m2 d2, .slice B3 m3 d3] 25))
  clear h hW
  go_enter Tryz.func28, Tryz.ntmps28
  go_wp2_with (go_at_call 29; refine (HS.out _ (below_alloc (below_alloc HW.out _) _)).mono ?_; rintro e w1 ⟨rfl, hb⟩; have HB := Aside0.mk hb; clear hb)
  go_ret
  exact ⟨rfl, below_step HZ.out HB.out⟩
set_option maxHeartbeats 4000000 in
set_option maxRecDepth 100000 in
theorem clo_30 (k : Int) (t : ByteArray) (A2 : Option Addr) (n2 c2 : Nat) (A3 : Option Addr) (n3 c3 : Nat) (k' : Int) (t' : ByteArray) (B2 : Option Addr) (m2 d2 : Nat) (B3 : Option Addr) (m3 d3 : Nat) (r : Bool) (w : World) (h : Says w 11 #[.slice A2 n2 c2, .slice B2 m2 d2] r) : Says w 30 #[gv k t A2 n2 c2 A3 n3 c3, gv k' t' B2 m2 d2 B3 m3 d3] r := by
  intro W hW
  have HS := Aside0.mk h
  have HW := Aside0.mk hW
  have HZ := Aside0.mk (below_alloc (below_alloc (Below.refl W.heap.size W) (.cells #[.int .i64 k, .string t, .slice A2 n2 c2, .slice A3 n3 c3] 25)) (.cells #[.int .i64 k', .string t', .slice B2 m2 d2, .slice B3 m3 d3] 25))
  clear h hW
  go_enter Tryz.func30, Tryz.ntmps30
  go_wp2_with (go_at_call 11; refine (HS.out _ (below_alloc (below_alloc HW.out _) _)).mono ?_; rintro e w1 ⟨rfl, hb⟩; have HB := Aside0.mk hb; clear hb)
  go_ret
  exact ⟨rfl, below_step HZ.out HB.out⟩
set_option maxHeartbeats 4000000 in
set_option maxRecDepth 100000 in
theorem of_1 (w : World) : Calls Tryz.prog 13 #[.int .i64 1] w fun e w' => e = .returned (.tuple #[.agg #[fv 26], .bool true]) ∧ Below w.heap.size w w' := by
  go_enter Tryz.func13, Tryz.ntmps13
  go_wp2_with (first
    | ((with_reducible refine gate_dst (N := 2) rfl ?_); refine law_new ?hg (N := 2) ?hd (ob := .cells #[.nilFunc] 35 (0, 0)) (V := fun g => .pointer (some ⟨g, 0, none⟩)) ?hr ?_; (case hd => rfl); (case hg => rfl); (case hr => first | (go_simp; done) | (go_simp; rfl))
       intro g2 hg2 w2 b2 hb2
       have B2 := Aside0.mk b2
       have HB := Aside0.mk hb2
       have HG := Aside0.mk (Nat.le_of_eq hg2.symm)
       clear b2 hb2 hg2)
    | (have h0_ := B2.out; refine law_store ?q1 35 (.tmp 2) (.tmp 7) ?q2 g2 #[fv 26] ?q3 ?q4 h0_ ?q5 ?q6 ?q7 ?_; (case q1 => rfl); (case q2 => rfl); (case q3 => rfl); (case q4 => rfl); (case q5 => rfl); (case q6 => kernel_rfl); (case q7 => first | rfl | (simp [Value.oneCell']) | kernel_rfl)
       intro w3 b3 hg3 hs3
       have HE := Aside0.mk (And.intro b3 (HB.out.grown hg3 HB.out.size (fun j hj => by cases hj; exact HG.out)))
       clear b3 hg3 hs3 h0_ B2))
  refine bodyPost_ret (Go.Proofs.YtpdhbpdfldfnhaaGreatDoor.Rn.results_cell_tmp rfl _ _ g2 35 _ (0, 0) _ _ rfl rfl HE.out.1 Tryz.underlying35 rfl (by kernel_rfl)) rfl ?_
  exact ⟨rfl, HE.out.2⟩
set_option maxHeartbeats 4000000 in
set_option maxRecDepth 100000 in
theorem of_2 (w : World) : Calls Tryz.prog 13 #[.int .i64 2] w fun e w' => e = .returned (.tuple #[.agg #[fv 27], .bool true]) ∧ Below w.heap.size w w' := by
  go_enter Tryz.func13, Tryz.ntmps13
  go_wp2_with (first
    | ((with_reducible refine gate_dst (N := 2) rfl ?_); refine law_new ?hg (N := 2) ?hd (ob := .cells #[.nilFunc] 35 (0, 0)) (V := fun g => .pointer (some ⟨g, 0, none⟩)) ?hr ?_; (case hd => rfl); (case hg => rfl); (case hr => first | (go_simp; done) | (go_simp; rfl))
       intro g2 hg2 w2 b2 hb2
       have B2 := Aside0.mk b2
       have HB := Aside0.mk hb2
       have HG := Aside0.mk (Nat.le_of_eq hg2.symm)
       clear b2 hb2 hg2)
    | (have h0_ := B2.out; refine law_store ?q1 35 (.tmp 2) (.tmp 10) ?q2 g2 #[fv 27] ?q3 ?q4 h0_ ?q5 ?q6 ?q7 ?_; (case q1 => rfl); (case q2 => rfl); (case q3 => rfl); (case q4 => rfl); (case q5 => rfl); (case q6 => kernel_rfl); (case q7 => first | rfl | (simp [Value.oneCell']) | kernel_rfl)
       intro w3 b3 hg3 hs3
       have HE := Aside0.mk (And.intro b3 (HB.out.grown hg3 HB.out.size (fun j hj => by cases hj; exact HG.out)))
       clear b3 hg3 hs3 h0_ B2))
  refine bodyPost_ret (Go.Proofs.YtpdhbpdfldfnhaaGreatDoor.Rn.results_cell_tmp rfl _ _ g2 35 _ (0, 0) _ _ rfl rfl HE.out.1 Tryz.underlying35 rfl (by kernel_rfl)) rfl ?_
  exact ⟨rfl, HE.out.2⟩
set_option maxHeartbeats 4000000 in
set_option maxRecDepth 100000 in
theorem of_4 (w : World) : Calls Tryz.prog 13 #[.int .i64 4] w fun e w' => e = .returned (.tuple #[.agg #[fv 28], .bool true]) ∧ Below w.heap.size w w' := by
  go_enter Tryz.func13, Tryz.ntmps13
  go_wp2_with (first
    | ((with_reducible refine gate_dst (N := 2) rfl ?_); refine law_new ?hg (N := 2) ?hd (ob := .cells #[.nilFunc] 35 (0, 0)) (V := fun g => .pointer (some ⟨g, 0, none⟩)) ?hr ?_; (case hd => rfl); (case hg => rfl); (case hr => first | (go_simp; done) | (go_simp; rfl))
       intro g2 hg2 w2 b2 hb2
       have B2 := Aside0.mk b2
       have HB := Aside0.mk hb2
       have HG := Aside0.mk (Nat.le_of_eq hg2.symm)
       clear b2 hb2 hg2)
    | (have h0_ := B2.out; refine law_store ?q1 35 (.tmp 2) (.tmp 13) ?q2 g2 #[fv 28] ?q3 ?q4 h0_ ?q5 ?q6 ?q7 ?_; (case q1 => rfl); (case q2 => rfl); (case q3 => rfl); (case q4 => rfl); (case q5 => rfl); (case q6 => kernel_rfl); (case q7 => first | rfl | (simp [Value.oneCell']) | kernel_rfl)
       intro w3 b3 hg3 hs3
       have HE := Aside0.mk (And.intro b3 (HB.out.grown hg3 HB.out.size (fun j hj => by cases hj; exact HG.out)))
       clear b3 hg3 hs3 h0_ B2))
  refine bodyPost_ret (Go.Proofs.YtpdhbpdfldfnhaaGreatDoor.Rn.results_cell_tmp rfl _ _ g2 35 _ (0, 0) _ _ rfl rfl HE.out.1 Tryz.underlying35 rfl (by kernel_rfl)) rfl ?_
  exact ⟨rfl, HE.out.2⟩
set_option maxHeartbeats 4000000 in
set_option maxRecDepth 100000 in
theorem of_7 (w : World) : Calls Tryz.prog 13 #[.int .i64 7] w fun e w' => e = .returned (.tuple #[.agg #[fv 30], .bool true]) ∧ Below w.heap.size w w' := by
  go_enter Tryz.func13, Tryz.ntmps13
  go_wp2_with (first
    | ((with_reducible refine gate_dst (N := 2) rfl ?_); refine law_new ?hg (N := 2) ?hd (ob := .cells #[.nilFunc] 35 (0, 0)) (V := fun g => .pointer (some ⟨g, 0, none⟩)) ?hr ?_; (case hd => rfl); (case hg => rfl); (case hr => first | (go_simp; done) | (go_simp; rfl))
       intro g2 hg2 w2 b2 hb2
       have B2 := Aside0.mk b2
       have HB := Aside0.mk hb2
       have HG := Aside0.mk (Nat.le_of_eq hg2.symm)
       clear b2 hb2 hg2)
    | (have h0_ := B2.out; refine law_store ?q1 35 (.tmp 2) (.tmp 16) ?q2 g2 #[fv 30] ?q3 ?q4 h0_ ?q5 ?q6 ?q7 ?_; (case q1 => rfl); (case q2 => rfl); (case q3 => rfl); (case q4 => rfl); (case q5 => rfl); (case q6 => kernel_rfl); (case q7 => first | rfl | (simp [Value.oneCell']) | kernel_rfl)
       intro w3 b3 hg3 hs3
       have HE := Aside0.mk (And.intro b3 (HB.out.grown hg3 HB.out.size (fun j hj => by cases hj; exact HG.out)))
       clear b3 hg3 hs3 h0_ B2))
  refine bodyPost_ret (Go.Proofs.YtpdhbpdfldfnhaaGreatDoor.Rn.results_cell_tmp rfl _ _ g2 35 _ (0, 0) _ _ rfl rfl HE.out.1 Tryz.underlying35 rfl (by kernel_rfl)) rfl ?_
  exact ⟨rfl, HE.out.2⟩
set_option maxHeartbeats 4000000 in
set_option maxRecDepth 100000 in
theorem of_no (k : Int) (h1 : (k == 1) = false) (h2 : (k == 2) = false) (h4 : (k == 4) = false) (h7 : (k == 7) = false) (w : World) : Calls Tryz.prog 13 #[.int .i64 k] w fun e w' => e = .returned (.tuple #[.agg #[.nilFunc], .bool false]) ∧ Below w.heap.size w w' := by
  go_enter Tryz.func13, Tryz.ntmps13
  go_wp2_with (first
    | ((with_reducible refine gate_dst (N := 2) rfl ?_); refine law_new ?hg (N := 2) ?hd (ob := .cells #[.nilFunc] 35 (0, 0)) (V := fun g => .pointer (some ⟨g, 0, none⟩)) ?hr ?_; (case hd => rfl); (case hg => rfl); (case hr => first | (go_simp; done) | (go_simp; rfl))
       intro g2 hg2 w2 b2 hb2
       have B2 := Aside0.mk b2
       have HB := Aside0.mk hb2
       have HG := Aside0.mk (Nat.le_of_eq hg2.symm)
       clear b2 hb2 hg2)
    | (have h0_ := B2.out; refine law_store ?q1 35 (.tmp 2) (.tmp 17) ?q2 g2 #[.nilFunc] ?q3 ?q4 h0_ ?q5 ?q6 ?q7 ?_; (case q1 => rfl); (case q2 => rfl); (case q3 => rfl); (case q4 => rfl); (case q5 => rfl); (case q6 => kernel_rfl); (case q7 => first | rfl | (simp [Value.oneCell']) | kernel_rfl)
       intro w3 b3 hg3 hs3
       have HE := Aside0.mk (And.intro b3 (HB.out.grown hg3 HB.out.size (fun j hj => by cases hj; exact HG.out)))
       clear b3 hg3 hs3 h0_ B2))
  refine bodyPost_ret (Go.Proofs.YtpdhbpdfldfnhaaGreatDoor.Rn.results_cell_tmp rfl _ _ g2 35 _ (0, 0) _ _ rfl rfl HE.out.1 Tryz.underlying35 rfl (by kernel_rfl)) rfl ?_
  exact ⟨rfl, HE.out.2⟩
set_option maxHeartbeats 4000000 in
set_option maxRecDepth 100000 in
theorem match_1  (t : ByteArray) (A2 : Option Addr) (n2 c2 : Nat) (A3 : Option Addr) (n3 c3 : Nat) (t' : ByteArray) (B2 : Option Addr) (m2 d2 : Nat) (B3 : Option Addr) (m3 d3 : Nat) (r : Bool) (w : World) (h : Says w 26 #[gv 1 t A2 n2 c2 A3 n3 c3, gv 1 t' B2 m2 d2 B3 m3 d3] r) : Calls Tryz.prog 6 #[gv 1 t A2 n2 c2 A3 n3 c3, gv 1 t' B2 m2 d2 B3 m3 d3] w fun e w' => e = .returned (.bool r) ∧ Below w.heap.size w w' := by
  have HS := Aside0.mk h
  have HOF := Aside0.mk of_1
  clear h
  go_enter Tryz.func6, Tryz.ntmps6
  go_wp2_with (first
    | ((with_reducible refine gate_dst (N := 2) rfl ?_); refine law_new ?hg (N := 2) ?hd (ob := .cells #[.int .i64 1, .string t, .slice A2 n2 c2, .slice A3 n3 c3] 25 (0, 0)) (V := fun g => .pointer (some ⟨g, 0, none⟩)) ?hr ?_; (case hd => rfl); (case hg => rfl); (case hr => first | (go_simp; done) | (go_simp; rfl))
       intro gA hgA w1 bA hbA
       have BA1 := Aside0.mk bA
       have HW1 := Aside0.mk hbA
       clear bA hbA hgA)
    | ((with_reducible refine gate_dst (N := 3) rfl ?_); refine law_new ?hg (N := 3) ?hd (ob := .cells #[.int .i64 1, .string t', .slice B2 m2 d2, .slice B3 m3 d3] 25 (0, 0)) (V := fun g => .pointer (some ⟨g, 0, none⟩)) ?hr ?_; (case hd => rfl); (case hg => rfl); (case hr => first | (go_simp; done) | (go_simp; rfl))
       intro gB hgB w2 bB hbB
       have BA2 := Aside0.mk (blk_below BA1.out hbB)
       have BB2 := Aside0.mk bB
       have HW2 := Aside0.mk (below_step HW1.out hbB)
       have cA := (blk_cell BA2.out 0).trans rfl
       have cB := (blk_cell BB2.out 0).trans rfl
       clear bB hbB hgB BA1 HW1)
    | (go_at_call 13; refine (HOF.out _).mono ?_; rintro e w3 ⟨rfl, hb⟩
       have BA3 := Aside0.mk (blk_below BA2.out hb)
       have BB3 := Aside0.mk (blk_below BB2.out hb)
       have HW3 := Aside0.mk (below_step HW2.out hb)
       clear hb cA cB BA2 BB2 HW2)
    | ((with_reducible refine gate_dst (N := 5) rfl ?_); refine law_new ?hg (N := 5) ?hd (ob := .cells #[.nilFunc] 35 (0, 0)) (V := fun g => .pointer (some ⟨g, 0, none⟩)) ?hr ?_; (case hd => rfl); (case hg => rfl); (case hr => first | (go_simp; done) | (go_simp; rfl))
       intro g5 hg5 w4 b5 hb5
       have B5 := Aside0.mk b5
       have BA4 := Aside0.mk (blk_below BA3.out hb5)
       have BB4 := Aside0.mk (blk_below BB3.out hb5)
       have HW4 := Aside0.mk (below_step HW3.out hb5)
       have HG5 := Aside0.mk (show w.heap.size ≤ g5 by rw [hg5]; exact HW3.out.size)
       have HNE := Aside0.mk (And.intro (show gA < g5 by rw [hg5]; exact blk_lt BA3.out) (show gB < g5 by rw [hg5]; exact blk_lt BB3.out))
       clear b5 hb5 hg5 BA3 BB3 HW3)
    | (have h0_ := B5.out; refine law_store ?q1 35 (.tmp 5) (.tmp 11) ?q2 g5 #[fv 26] ?q3 ?q4 h0_ ?q5 ?q6 ?q7 ?_; (case q1 => rfl); (case q2 => rfl); (case q3 => rfl); (case q4 => rfl); (case q5 => rfl); (case q6 => kernel_rfl); (case q7 => first | rfl | (simp [Value.oneCell']) | (simp [HF1.out]) | kernel_rfl)
       intro w5 b5 hg5 hs5
       have BA5 := blk_grown BA4.out hg5 (fun e => by have h1 := Option.some.inj e; have h2 := HNE.out.1; omega)
       have BB5 := blk_grown BB4.out hg5 (fun e => by have h1 := Option.some.inj e; have h2 := HNE.out.2; omega)
       have HW5 := Aside0.mk (HW4.out.grown hg5 HW4.out.size (fun j hj => by cases hj; exact HG5.out))
       have cA0 := (blk_cell BA5 0).trans rfl
       have cA1 := (blk_cell BA5 1).trans rfl
       have cA2 := (blk_cell BA5 2).trans rfl
       have cA3 := (blk_cell BA5 3).trans rfl
       have cB0 := (blk_cell BB5 0).trans rfl
       have cB1 := (blk_cell BB5 1).trans rfl
       have cB2 := (blk_cell BB5 2).trans rfl
       have cB3 := (blk_cell BB5 3).trans rfl
       have c5 := (blk_cell b5 0).trans rfl
       clear b5 hg5 hs5 h0_ B5 BA4 BB4 HW4 BA5 BB5)
    | (go_at_call 26; refine (HS.out _ HW5.out).mono ?_; rintro e w6 ⟨rfl, hb⟩
       have HZ := Aside0.mk (below_step HW5.out hb)
       clear hb))
  go_ret
  exact ⟨rfl, HZ.out⟩
set_option maxHeartbeats 4000000 in
set_option maxRecDepth 100000 in
theorem match_2  (t : ByteArray) (A2 : Option Addr) (n2 c2 : Nat) (A3 : Option Addr) (n3 c3 : Nat) (t' : ByteArray) (B2 : Option Addr) (m2 d2 : Nat) (B3 : Option Addr) (m3 d3 : Nat) (r : Bool) (w : World) (h : Says w 27 #[gv 2 t A2 n2 c2 A3 n3 c3, gv 2 t' B2 m2 d2 B3 m3 d3] r) : Calls Tryz.prog 6 #[gv 2 t A2 n2 c2 A3 n3 c3, gv 2 t' B2 m2 d2 B3 m3 d3] w fun e w' => e = .returned (.bool r) ∧ Below w.heap.size w w' := by
  have HS := Aside0.mk h
  have HOF := Aside0.mk of_2
  clear h
  go_enter Tryz.func6, Tryz.ntmps6
  go_wp2_with (first
    | ((with_reducible refine gate_dst (N := 2) rfl ?_); refine law_new ?hg (N := 2) ?hd (ob := .cells #[.int .i64 2, .string t, .slice A2 n2 c2, .slice A3 n3 c3] 25 (0, 0)) (V := fun g => .pointer (some ⟨g, 0, none⟩)) ?hr ?_; (case hd => rfl); (case hg => rfl); (case hr => first | (go_simp; done) | (go_simp; rfl))
       intro gA hgA w1 bA hbA
       have BA1 := Aside0.mk bA
       have HW1 := Aside0.mk hbA
       clear bA hbA hgA)
    | ((with_reducible refine gate_dst (N := 3) rfl ?_); refine law_new ?hg (N := 3) ?hd (ob := .cells #[.int .i64 2, .string t', .slice B2 m2 d2, .slice B3 m3 d3] 25 (0, 0)) (V := fun g => .pointer (some ⟨g, 0, none⟩)) ?hr ?_; (case hd => rfl); (case hg => rfl); (case hr => first | (go_simp; done) | (go_simp; rfl))
       intro gB hgB w2 bB hbB
       have BA2 := Aside0.mk (blk_below BA1.out hbB)
       have BB2 := Aside0.mk bB
       have HW2 := Aside0.mk (below_step HW1.out hbB)
       have cA := (blk_cell BA2.out 0).trans rfl
       have cB := (blk_cell BB2.out 0).trans rfl
       clear bB hbB hgB BA1 HW1)
    | (go_at_call 13; refine (HOF.out _).mono ?_; rintro e w3 ⟨rfl, hb⟩
       have BA3 := Aside0.mk (blk_below BA2.out hb)
       have BB3 := Aside0.mk (blk_below BB2.out hb)
       have HW3 := Aside0.mk (below_step HW2.out hb)
       clear hb cA cB BA2 BB2 HW2)
    | ((with_reducible refine gate_dst (N := 5) rfl ?_); refine law_new ?hg (N := 5) ?hd (ob := .cells #[.nilFunc] 35 (0, 0)) (V := fun g => .pointer (some ⟨g, 0, none⟩)) ?hr ?_; (case hd => rfl); (case hg => rfl); (case hr => first | (go_simp; done) | (go_simp; rfl))
       intro g5 hg5 w4 b5 hb5
       have B5 := Aside0.mk b5
       have BA4 := Aside0.mk (blk_below BA3.out hb5)
       have BB4 := Aside0.mk (blk_below BB3.out hb5)
       have HW4 := Aside0.mk (below_step HW3.out hb5)
       have HG5 := Aside0.mk (show w.heap.size ≤ g5 by rw [hg5]; exact HW3.out.size)
       have HNE := Aside0.mk (And.intro (show gA < g5 by rw [hg5]; exact blk_lt BA3.out) (show gB < g5 by rw [hg5]; exact blk_lt BB3.out))
       clear b5 hb5 hg5 BA3 BB3 HW3)
    | (have h0_ := B5.out; refine law_store ?q1 35 (.tmp 5) (.tmp 11) ?q2 g5 #[fv 27] ?q3 ?q4 h0_ ?q5 ?q6 ?q7 ?_; (case q1 => rfl); (case q2 => rfl); (case q3 => rfl); (case q4 => rfl); (case q5 => rfl); (case q6 => kernel_rfl); (case q7 => first | rfl | (simp [Value.oneCell']) | (simp [HF1.out]) | kernel_rfl)
       intro w5 b5 hg5 hs5
       have BA5 := blk_grown BA4.out hg5 (fun e => by have h1 := Option.some.inj e; have h2 := HNE.out.1; omega)
       have BB5 := blk_grown BB4.out hg5 (fun e => by have h1 := Option.some.inj e; have h2 := HNE.out.2; omega)
       have HW5 := Aside0.mk (HW4.out.grown hg5 HW4.out.size (fun j hj => by cases hj; exact HG5.out))
       have cA0 := (blk_cell BA5 0).trans rfl
       have cA1 := (blk_cell BA5 1).trans rfl
       have cA2 := (blk_cell BA5 2).trans rfl
       have cA3 := (blk_cell BA5 3).trans rfl
       have cB0 := (blk_cell BB5 0).trans rfl
       have cB1 := (blk_cell BB5 1).trans rfl
       have cB2 := (blk_cell BB5 2).trans rfl
       have cB3 := (blk_cell BB5 3).trans rfl
       have c5 := (blk_cell b5 0).trans rfl
       clear b5 hg5 hs5 h0_ B5 BA4 BB4 HW4 BA5 BB5)
    | (go_at_call 27; refine (HS.out _ HW5.out).mono ?_; rintro e w6 ⟨rfl, hb⟩
       have HZ := Aside0.mk (below_step HW5.out hb)
       clear hb))
  go_ret
  exact ⟨rfl, HZ.out⟩
set_option maxHeartbeats 4000000 in
set_option maxRecDepth 100000 in
theorem match_4  (t : ByteArray) (A2 : Option Addr) (n2 c2 : Nat) (A3 : Option Addr) (n3 c3 : Nat) (t' : ByteArray) (B2 : Option Addr) (m2 d2 : Nat) (B3 : Option Addr) (m3 d3 : Nat) (r : Bool) (w : World) (h : Says w 28 #[gv 4 t A2 n2 c2 A3 n3 c3, gv 4 t' B2 m2 d2 B3 m3 d3] r) : Calls Tryz.prog 6 #[gv 4 t A2 n2 c2 A3 n3 c3, gv 4 t' B2 m2 d2 B3 m3 d3] w fun e w' => e = .returned (.bool r) ∧ Below w.heap.size w w' := by
  have HS := Aside0.mk h
  have HOF := Aside0.mk of_4
  clear h
  go_enter Tryz.func6, Tryz.ntmps6
  go_wp2_with (first
    | ((with_reducible refine gate_dst (N := 2) rfl ?_); refine law_new ?hg (N := 2) ?hd (ob := .cells #[.int .i64 4, .string t, .slice A2 n2 c2, .slice A3 n3 c3] 25 (0, 0)) (V := fun g => .pointer (some ⟨g, 0, none⟩)) ?hr ?_; (case hd => rfl); (case hg => rfl); (case hr => first | (go_simp; done) | (go_simp; rfl))
       intro gA hgA w1 bA hbA
       have BA1 := Aside0.mk bA
       have HW1 := Aside0.mk hbA
       clear bA hbA hgA)
    | ((with_reducible refine gate_dst (N := 3) rfl ?_); refine law_new ?hg (N := 3) ?hd (ob := .cells #[.int .i64 4, .string t', .slice B2 m2 d2, .slice B3 m3 d3] 25 (0, 0)) (V := fun g => .pointer (some ⟨g, 0, none⟩)) ?hr ?_; (case hd => rfl); (case hg => rfl); (case hr => first | (go_simp; done) | (go_simp; rfl))
       intro gB hgB w2 bB hbB
       have BA2 := Aside0.mk (blk_below BA1.out hbB)
       have BB2 := Aside0.mk bB
       have HW2 := Aside0.mk (below_step HW1.out hbB)
       have cA := (blk_cell BA2.out 0).trans rfl
       have cB := (blk_cell BB2.out 0).trans rfl
       clear bB hbB hgB BA1 HW1)
    | (go_at_call 13; refine (HOF.out _).mono ?_; rintro e w3 ⟨rfl, hb⟩
       have BA3 := Aside0.mk (blk_below BA2.out hb)
       have BB3 := Aside0.mk (blk_below BB2.out hb)
       have HW3 := Aside0.mk (below_step HW2.out hb)
       clear hb cA cB BA2 BB2 HW2)
    | ((with_reducible refine gate_dst (N := 5) rfl ?_); refine law_new ?hg (N := 5) ?hd (ob := .cells #[.nilFunc] 35 (0, 0)) (V := fun g => .pointer (some ⟨g, 0, none⟩)) ?hr ?_; (case hd => rfl); (case hg => rfl); (case hr => first | (go_simp; done) | (go_simp; rfl))
       intro g5 hg5 w4 b5 hb5
       have B5 := Aside0.mk b5
       have BA4 := Aside0.mk (blk_below BA3.out hb5)
       have BB4 := Aside0.mk (blk_below BB3.out hb5)
       have HW4 := Aside0.mk (below_step HW3.out hb5)
       have HG5 := Aside0.mk (show w.heap.size ≤ g5 by rw [hg5]; exact HW3.out.size)
       have HNE := Aside0.mk (And.intro (show gA < g5 by rw [hg5]; exact blk_lt BA3.out) (show gB < g5 by rw [hg5]; exact blk_lt BB3.out))
       clear b5 hb5 hg5 BA3 BB3 HW3)
    | (have h0_ := B5.out; refine law_store ?q1 35 (.tmp 5) (.tmp 11) ?q2 g5 #[fv 28] ?q3 ?q4 h0_ ?q5 ?q6 ?q7 ?_; (case q1 => rfl); (case q2 => rfl); (case q3 => rfl); (case q4 => rfl); (case q5 => rfl); (case q6 => kernel_rfl); (case q7 => first | rfl | (simp [Value.oneCell']) | (simp [HF1.out]) | kernel_rfl)
       intro w5 b5 hg5 hs5
       have BA5 := blk_grown BA4.out hg5 (fun e => by have h1 := Option.some.inj e; have h2 := HNE.out.1; omega)
       have BB5 := blk_grown BB4.out hg5 (fun e => by have h1 := Option.some.inj e; have h2 := HNE.out.2; omega)
       have HW5 := Aside0.mk (HW4.out.grown hg5 HW4.out.size (fun j hj => by cases hj; exact HG5.out))
       have cA0 := (blk_cell BA5 0).trans rfl
       have cA1 := (blk_cell BA5 1).trans rfl
       have cA2 := (blk_cell BA5 2).trans rfl
       have cA3 := (blk_cell BA5 3).trans rfl
       have cB0 := (blk_cell BB5 0).trans rfl
       have cB1 := (blk_cell BB5 1).trans rfl
       have cB2 := (blk_cell BB5 2).trans rfl
       have cB3 := (blk_cell BB5 3).trans rfl
       have c5 := (blk_cell b5 0).trans rfl
       clear b5 hg5 hs5 h0_ B5 BA4 BB4 HW4 BA5 BB5)
    | (go_at_call 28; refine (HS.out _ HW5.out).mono ?_; rintro e w6 ⟨rfl, hb⟩
       have HZ := Aside0.mk (below_step HW5.out hb)
       clear hb))
  go_ret
  exact ⟨rfl, HZ.out⟩
set_option maxHeartbeats 4000000 in
set_option maxRecDepth 100000 in
theorem match_7  (t : ByteArray) (A2 : Option Addr) (n2 c2 : Nat) (A3 : Option Addr) (n3 c3 : Nat) (t' : ByteArray) (B2 : Option Addr) (m2 d2 : Nat) (B3 : Option Addr) (m3 d3 : Nat) (r : Bool) (w : World) (h : Says w 30 #[gv 7 t A2 n2 c2 A3 n3 c3, gv 7 t' B2 m2 d2 B3 m3 d3] r) : Calls Tryz.prog 6 #[gv 7 t A2 n2 c2 A3 n3 c3, gv 7 t' B2 m2 d2 B3 m3 d3] w fun e w' => e = .returned (.bool r) ∧ Below w.heap.size w w' := by
  have HS := Aside0.mk h
  have HOF := Aside0.mk of_7
  clear h
  go_enter Tryz.func6, Tryz.ntmps6
  go_wp2_with (first
    | ((with_reducible refine gate_dst (N := 2) rfl ?_); refine law_new ?hg (N := 2) ?hd (ob := .cells #[.int .i64 7, .string t, .slice A2 n2 c2, .slice A3 n3 c3] 25 (0, 0)) (V := fun g => .pointer (some ⟨g, 0, none⟩)) ?hr ?_; (case hd => rfl); (case hg => rfl); (case hr => first | (go_simp; done) | (go_simp; rfl))
       intro gA hgA w1 bA hbA
       have BA1 := Aside0.mk bA
       have HW1 := Aside0.mk hbA
       clear bA hbA hgA)
    | ((with_reducible refine gate_dst (N := 3) rfl ?_); refine law_new ?hg (N := 3) ?hd (ob := .cells #[.int .i64 7, .string t', .slice B2 m2 d2, .slice B3 m3 d3] 25 (0, 0)) (V := fun g => .pointer (some ⟨g, 0, none⟩)) ?hr ?_; (case hd => rfl); (case hg => rfl); (case hr => first | (go_simp; done) | (go_simp; rfl))
       intro gB hgB w2 bB hbB
       have BA2 := Aside0.mk (blk_below BA1.out hbB)
       have BB2 := Aside0.mk bB
       have HW2 := Aside0.mk (below_step HW1.out hbB)
       have cA := (blk_cell BA2.out 0).trans rfl
       have cB := (blk_cell BB2.out 0).trans rfl
       clear bB hbB hgB BA1 HW1)
    | (go_at_call 13; refine (HOF.out _).mono ?_; rintro e w3 ⟨rfl, hb⟩
       have BA3 := Aside0.mk (blk_below BA2.out hb)
       have BB3 := Aside0.mk (blk_below BB2.out hb)
       have HW3 := Aside0.mk (below_step HW2.out hb)
       clear hb cA cB BA2 BB2 HW2)
    | ((with_reducible refine gate_dst (N := 5) rfl ?_); refine law_new ?hg (N := 5) ?hd (ob := .cells #[.nilFunc] 35 (0, 0)) (V := fun g => .pointer (some ⟨g, 0, none⟩)) ?hr ?_; (case hd => rfl); (case hg => rfl); (case hr => first | (go_simp; done) | (go_simp; rfl))
       intro g5 hg5 w4 b5 hb5
       have B5 := Aside0.mk b5
       have BA4 := Aside0.mk (blk_below BA3.out hb5)
       have BB4 := Aside0.mk (blk_below BB3.out hb5)
       have HW4 := Aside0.mk (below_step HW3.out hb5)
       have HG5 := Aside0.mk (show w.heap.size ≤ g5 by rw [hg5]; exact HW3.out.size)
       have HNE := Aside0.mk (And.intro (show gA < g5 by rw [hg5]; exact blk_lt BA3.out) (show gB < g5 by rw [hg5]; exact blk_lt BB3.out))
       clear b5 hb5 hg5 BA3 BB3 HW3)
    | (have h0_ := B5.out; refine law_store ?q1 35 (.tmp 5) (.tmp 11) ?q2 g5 #[fv 30] ?q3 ?q4 h0_ ?q5 ?q6 ?q7 ?_; (case q1 => rfl); (case q2 => rfl); (case q3 => rfl); (case q4 => rfl); (case q5 => rfl); (case q6 => kernel_rfl); (case q7 => first | rfl | (simp [Value.oneCell']) | (simp [HF1.out]) | kernel_rfl)
       intro w5 b5 hg5 hs5
       have BA5 := blk_grown BA4.out hg5 (fun e => by have h1 := Option.some.inj e; have h2 := HNE.out.1; omega)
       have BB5 := blk_grown BB4.out hg5 (fun e => by have h1 := Option.some.inj e; have h2 := HNE.out.2; omega)
       have HW5 := Aside0.mk (HW4.out.grown hg5 HW4.out.size (fun j hj => by cases hj; exact HG5.out))
       have cA0 := (blk_cell BA5 0).trans rfl
       have cA1 := (blk_cell BA5 1).trans rfl
       have cA2 := (blk_cell BA5 2).trans rfl
       have cA3 := (blk_cell BA5 3).trans rfl
       have cB0 := (blk_cell BB5 0).trans rfl
       have cB1 := (blk_cell BB5 1).trans rfl
       have cB2 := (blk_cell BB5 2).trans rfl
       have cB3 := (blk_cell BB5 3).trans rfl
       have c5 := (blk_cell b5 0).trans rfl
       clear b5 hg5 hs5 h0_ B5 BA4 BB4 HW4 BA5 BB5)
    | (go_at_call 30; refine (HS.out _ HW5.out).mono ?_; rintro e w6 ⟨rfl, hb⟩
       have HZ := Aside0.mk (below_step HW5.out hb)
       clear hb))
  go_ret
  exact ⟨rfl, HZ.out⟩
set_option maxHeartbeats 4000000 in
set_option maxRecDepth 100000 in
theorem match_off (k : Int) (t : ByteArray) (A2 : Option Addr) (n2 c2 : Nat) (A3 : Option Addr) (n3 c3 : Nat) (k' : Int) (t' : ByteArray) (B2 : Option Addr) (m2 d2 : Nat) (B3 : Option Addr) (m3 d3 : Nat) (w : World) (h1 : (k == 1) = false) (h2 : (k == 2) = false) (h4 : (k == 4) = false) (h7 : (k == 7) = false) : Calls Tryz.prog 6 #[gv k t A2 n2 c2 A3 n3 c3, gv k' t' B2 m2 d2 B3 m3 d3] w fun e w' => e = .returned (.bool false) ∧ Below w.heap.size w w' := by
  have HOF := Aside0.mk (of_no k h1 h2 h4 h7)
  clear h1 h2 h4 h7
  go_enter Tryz.func6, Tryz.ntmps6
  go_wp2_with (first
    | ((with_reducible refine gate_dst (N := 2) rfl ?_); refine law_new ?hg (N := 2) ?hd (ob := .cells #[.int .i64 k, .string t, .slice A2 n2 c2, .slice A3 n3 c3] 25 (0, 0)) (V := fun g => .pointer (some ⟨g, 0, none⟩)) ?hr ?_; (case hd => rfl); (case hg => rfl); (case hr => first | (go_simp; done) | (go_simp; rfl))
       intro gA hgA w1 bA hbA
       have BA1 := Aside0.mk bA
       have HW1 := Aside0.mk hbA
       clear bA hbA hgA)
    | ((with_reducible refine gate_dst (N := 3) rfl ?_); refine law_new ?hg (N := 3) ?hd (ob := .cells #[.int .i64 k', .string t', .slice B2 m2 d2, .slice B3 m3 d3] 25 (0, 0)) (V := fun g => .pointer (some ⟨g, 0, none⟩)) ?hr ?_; (case hd => rfl); (case hg => rfl); (case hr => first | (go_simp; done) | (go_simp; rfl))
       intro gB hgB w2 bB hbB
       have BA2 := Aside0.mk (blk_below BA1.out hbB)
       have BB2 := Aside0.mk bB
       have HW2 := Aside0.mk (below_step HW1.out hbB)
       have cA := (blk_cell BA2.out 0).trans rfl
       have cB := (blk_cell BB2.out 0).trans rfl
       clear bB hbB hgB BA1 HW1)
    | (go_at_call 13; refine (HOF.out _).mono ?_; rintro e w3 ⟨rfl, hb⟩
       have BA3 := Aside0.mk (blk_below BA2.out hb)
       have BB3 := Aside0.mk (blk_below BB2.out hb)
       have HW3 := Aside0.mk (below_step HW2.out hb)
       clear hb cA cB BA2 BB2 HW2)
    | ((with_reducible refine gate_dst (N := 5) rfl ?_); refine law_new ?hg (N := 5) ?hd (ob := .cells #[.nilFunc] 35 (0, 0)) (V := fun g => .pointer (some ⟨g, 0, none⟩)) ?hr ?_; (case hd => rfl); (case hg => rfl); (case hr => first | (go_simp; done) | (go_simp; rfl))
       intro g5 hg5 w4 b5 hb5
       have B5 := Aside0.mk b5
       have BA4 := Aside0.mk (blk_below BA3.out hb5)
       have BB4 := Aside0.mk (blk_below BB3.out hb5)
       have HW4 := Aside0.mk (below_step HW3.out hb5)
       have HG5 := Aside0.mk (show w.heap.size ≤ g5 by rw [hg5]; exact HW3.out.size)
       have HNE := Aside0.mk (And.intro (show gA < g5 by rw [hg5]; exact blk_lt BA3.out) (show gB < g5 by rw [hg5]; exact blk_lt BB3.out))
       clear b5 hb5 hg5 BA3 BB3 HW3)
    | (have h0_ := B5.out; refine law_store ?q1 35 (.tmp 5) (.tmp 11) ?q2 g5 #[.nilFunc] ?q3 ?q4 h0_ ?q5 ?q6 ?q7 ?_; (case q1 => rfl); (case q2 => rfl); (case q3 => rfl); (case q4 => rfl); (case q5 => rfl); (case q6 => kernel_rfl); (case q7 => first | rfl | (simp [Value.oneCell']) | (simp [HF1.out]) | kernel_rfl)
       intro w5 b5 hg5 hs5
       have BA5 := blk_grown BA4.out hg5 (fun e => by have h1 := Option.some.inj e; have h2 := HNE.out.1; omega)
       have BB5 := blk_grown BB4.out hg5 (fun e => by have h1 := Option.some.inj e; have h2 := HNE.out.2; omega)
       have HW5 := Aside0.mk (HW4.out.grown hg5 HW4.out.size (fun j hj => by cases hj; exact HG5.out))
       have cA0 := (blk_cell BA5 0).trans rfl
       have cA1 := (blk_cell BA5 1).trans rfl
       have cA2 := (blk_cell BA5 2).trans rfl
       have cA3 := (blk_cell BA5 3).trans rfl
       have cB0 := (blk_cell BB5 0).trans rfl
       have cB1 := (blk_cell BB5 1).trans rfl
       have cB2 := (blk_cell BB5 2).trans rfl
       have cB3 := (blk_cell BB5 3).trans rfl
       have c5 := (blk_cell b5 0).trans rfl
       clear b5 hg5 hs5 h0_ B5 BA4 BB4 HW4 BA5 BB5))
  go_ret
  exact ⟨rfl, HW5.out⟩
set_option maxHeartbeats 4000000 in
set_option maxRecDepth 100000 in
theorem match_ne1  (t : ByteArray) (A2 : Option Addr) (n2 c2 : Nat) (A3 : Option Addr) (n3 c3 : Nat) (k' : Int) (t' : ByteArray) (B2 : Option Addr) (m2 d2 : Nat) (B3 : Option Addr) (m3 d3 : Nat) (hk : ((1 : Int) == k') = false) (w : World) : Calls Tryz.prog 6 #[gv 1 t A2 n2 c2 A3 n3 c3, gv k' t' B2 m2 d2 B3 m3 d3] w fun e w' => e = .returned (.bool false) ∧ Below w.heap.size w w' := by
  have HOF := Aside0.mk of_1
  go_enter Tryz.func6, Tryz.ntmps6
  go_wp2_with (first
    | ((with_reducible refine gate_dst (N := 2) rfl ?_); refine law_new ?hg (N := 2) ?hd (ob := .cells #[.int .i64 1, .string t, .slice A2 n2 c2, .slice A3 n3 c3] 25 (0, 0)) (V := fun g => .pointer (some ⟨g, 0, none⟩)) ?hr ?_; (case hd => rfl); (case hg => rfl); (case hr => first | (go_simp; done) | (go_simp; rfl))
       intro gA hgA w1 bA hbA
       have BA1 := Aside0.mk bA
       have HW1 := Aside0.mk hbA
       clear bA hbA hgA)
    | ((with_reducible refine gate_dst (N := 3) rfl ?_); refine law_new ?hg (N := 3) ?hd (ob := .cells #[.int .i64 k', .string t', .slice B2 m2 d2, .slice B3 m3 d3] 25 (0, 0)) (V := fun g => .pointer (some ⟨g, 0, none⟩)) ?hr ?_; (case hd => rfl); (case hg => rfl); (case hr => first | (go_simp; done) | (go_simp; rfl))
       intro gB hgB w2 bB hbB
       have BA2 := Aside0.mk (blk_below BA1.out hbB)
       have BB2 := Aside0.mk bB
       have HW2 := Aside0.mk (below_step HW1.out hbB)
       have cA := (blk_cell BA2.out 0).trans rfl
       have cB := (blk_cell BB2.out 0).trans rfl
       clear bB hbB hgB BA1 HW1)
    | (go_at_call 13; refine (HOF.out _).mono ?_; rintro e w3 ⟨rfl, hb⟩
       have BA3 := Aside0.mk (blk_below BA2.out hb)
       have BB3 := Aside0.mk (blk_below BB2.out hb)
       have HW3 := Aside0.mk (below_step HW2.out hb)
       clear hb cA cB BA2 BB2 HW2)
    | ((with_reducible refine gate_dst (N := 5) rfl ?_); refine law_new ?hg (N := 5) ?hd (ob := .cells #[.nilFunc] 35 (0, 0)) (V := fun g => .pointer (some ⟨g, 0, none⟩)) ?hr ?_; (case hd => rfl); (case hg => rfl); (case hr => first | (go_simp; done) | (go_simp; rfl))
       intro g5 hg5 w4 b5 hb5
       have B5 := Aside0.mk b5
       have BA4 := Aside0.mk (blk_below BA3.out hb5)
       have BB4 := Aside0.mk (blk_below BB3.out hb5)
       have HW4 := Aside0.mk (below_step HW3.out hb5)
       have HG5 := Aside0.mk (show w.heap.size ≤ g5 by rw [hg5]; exact HW3.out.size)
       have HNE := Aside0.mk (And.intro (show gA < g5 by rw [hg5]; exact blk_lt BA3.out) (show gB < g5 by rw [hg5]; exact blk_lt BB3.out))
       clear b5 hb5 hg5 BA3 BB3 HW3)
    | (have h0_ := B5.out; refine law_store ?q1 35 (.tmp 5) (.tmp 11) ?q2 g5 #[fv 26] ?q3 ?q4 h0_ ?q5 ?q6 ?q7 ?_; (case q1 => rfl); (case q2 => rfl); (case q3 => rfl); (case q4 => rfl); (case q5 => rfl); (case q6 => kernel_rfl); (case q7 => first | rfl | (simp [Value.oneCell']) | (simp [HF1.out]) | kernel_rfl)
       intro w5 b5 hg5 hs5
       have BA5 := blk_grown BA4.out hg5 (fun e => by have h1 := Option.some.inj e; have h2 := HNE.out.1; omega)
       have BB5 := blk_grown BB4.out hg5 (fun e => by have h1 := Option.some.inj e; have h2 := HNE.out.2; omega)
       have HW5 := Aside0.mk (HW4.out.grown hg5 HW4.out.size (fun j hj => by cases hj; exact HG5.out))
       have cA0 := (blk_cell BA5 0).trans rfl
       have cA1 := (blk_cell BA5 1).trans rfl
       have cA2 := (blk_cell BA5 2).trans rfl
       have cA3 := (blk_cell BA5 3).trans rfl
       have cB0 := (blk_cell BB5 0).trans rfl
       have cB1 := (blk_cell BB5 1).trans rfl
       have cB2 := (blk_cell BB5 2).trans rfl
       have cB3 := (blk_cell BB5 3).trans rfl
       have c5 := (blk_cell b5 0).trans rfl
       clear b5 hg5 hs5 h0_ B5 BA4 BB4 HW4 BA5 BB5))
  go_ret
  exact ⟨rfl, HW5.out⟩
set_option maxHeartbeats 4000000 in
set_option maxRecDepth 100000 in
theorem match_ne2  (t : ByteArray) (A2 : Option Addr) (n2 c2 : Nat) (A3 : Option Addr) (n3 c3 : Nat) (k' : Int) (t' : ByteArray) (B2 : Option Addr) (m2 d2 : Nat) (B3 : Option Addr) (m3 d3 : Nat) (hk : ((2 : Int) == k') = false) (w : World) : Calls Tryz.prog 6 #[gv 2 t A2 n2 c2 A3 n3 c3, gv k' t' B2 m2 d2 B3 m3 d3] w fun e w' => e = .returned (.bool false) ∧ Below w.heap.size w w' := by
  have HOF := Aside0.mk of_2
  go_enter Tryz.func6, Tryz.ntmps6
  go_wp2_with (first
    | ((with_reducible refine gate_dst (N := 2) rfl ?_); refine law_new ?hg (N := 2) ?hd (ob := .cells #[.int .i64 2, .string t, .slice A2 n2 c2, .slice A3 n3 c3] 25 (0, 0)) (V := fun g => .pointer (some ⟨g, 0, none⟩)) ?hr ?_; (case hd => rfl); (case hg => rfl); (case hr => first | (go_simp; done) | (go_simp; rfl))
       intro gA hgA w1 bA hbA
       have BA1 := Aside0.mk bA
       have HW1 := Aside0.mk hbA
       clear bA hbA hgA)
    | ((with_reducible refine gate_dst (N := 3) rfl ?_); refine law_new ?hg (N := 3) ?hd (ob := .cells #[.int .i64 k', .string t', .slice B2 m2 d2, .slice B3 m3 d3] 25 (0, 0)) (V := fun g => .pointer (some ⟨g, 0, none⟩)) ?hr ?_; (case hd => rfl); (case hg => rfl); (case hr => first | (go_simp; done) | (go_simp; rfl))
       intro gB hgB w2 bB hbB
       have BA2 := Aside0.mk (blk_below BA1.out hbB)
       have BB2 := Aside0.mk bB
       have HW2 := Aside0.mk (below_step HW1.out hbB)
       have cA := (blk_cell BA2.out 0).trans rfl
       have cB := (blk_cell BB2.out 0).trans rfl
       clear bB hbB hgB BA1 HW1)
    | (go_at_call 13; refine (HOF.out _).mono ?_; rintro e w3 ⟨rfl, hb⟩
       have BA3 := Aside0.mk (blk_below BA2.out hb)
       have BB3 := Aside0.mk (blk_below BB2.out hb)
       have HW3 := Aside0.mk (below_step HW2.out hb)
       clear hb cA cB BA2 BB2 HW2)
    | ((with_reducible refine gate_dst (N := 5) rfl ?_); refine law_new ?hg (N := 5) ?hd (ob := .cells #[.nilFunc] 35 (0, 0)) (V := fun g => .pointer (some ⟨g, 0, none⟩)) ?hr ?_; (case hd => rfl); (case hg => rfl); (case hr => first | (go_simp; done) | (go_simp; rfl))
       intro g5 hg5 w4 b5 hb5
       have B5 := Aside0.mk b5
       have BA4 := Aside0.mk (blk_below BA3.out hb5)
       have BB4 := Aside0.mk (blk_below BB3.out hb5)
       have HW4 := Aside0.mk (below_step HW3.out hb5)
       have HG5 := Aside0.mk (show w.heap.size ≤ g5 by rw [hg5]; exact HW3.out.size)
       have HNE := Aside0.mk (And.intro (show gA < g5 by rw [hg5]; exact blk_lt BA3.out) (show gB < g5 by rw [hg5]; exact blk_lt BB3.out))
       clear b5 hb5 hg5 BA3 BB3 HW3)
    | (have h0_ := B5.out; refine law_store ?q1 35 (.tmp 5) (.tmp 11) ?q2 g5 #[fv 27] ?q3 ?q4 h0_ ?q5 ?q6 ?q7 ?_; (case q1 => rfl); (case q2 => rfl); (case q3 => rfl); (case q4 => rfl); (case q5 => rfl); (case q6 => kernel_rfl); (case q7 => first | rfl | (simp [Value.oneCell']) | (simp [HF1.out]) | kernel_rfl)
       intro w5 b5 hg5 hs5
       have BA5 := blk_grown BA4.out hg5 (fun e => by have h1 := Option.some.inj e; have h2 := HNE.out.1; omega)
       have BB5 := blk_grown BB4.out hg5 (fun e => by have h1 := Option.some.inj e; have h2 := HNE.out.2; omega)
       have HW5 := Aside0.mk (HW4.out.grown hg5 HW4.out.size (fun j hj => by cases hj; exact HG5.out))
       have cA0 := (blk_cell BA5 0).trans rfl
       have cA1 := (blk_cell BA5 1).trans rfl
       have cA2 := (blk_cell BA5 2).trans rfl
       have cA3 := (blk_cell BA5 3).trans rfl
       have cB0 := (blk_cell BB5 0).trans rfl
       have cB1 := (blk_cell BB5 1).trans rfl
       have cB2 := (blk_cell BB5 2).trans rfl
       have cB3 := (blk_cell BB5 3).trans rfl
       have c5 := (blk_cell b5 0).trans rfl
       clear b5 hg5 hs5 h0_ B5 BA4 BB4 HW4 BA5 BB5))
  go_ret
  exact ⟨rfl, HW5.out⟩
set_option maxHeartbeats 4000000 in
set_option maxRecDepth 100000 in
theorem match_ne4  (t : ByteArray) (A2 : Option Addr) (n2 c2 : Nat) (A3 : Option Addr) (n3 c3 : Nat) (k' : Int) (t' : ByteArray) (B2 : Option Addr) (m2 d2 : Nat) (B3 : Option Addr) (m3 d3 : Nat) (hk : ((4 : Int) == k') = false) (w : World) : Calls Tryz.prog 6 #[gv 4 t A2 n2 c2 A3 n3 c3, gv k' t' B2 m2 d2 B3 m3 d3] w fun e w' => e = .returned (.bool false) ∧ Below w.heap.size w w' := by
  have HOF := Aside0.mk of_4
  go_enter Tryz.func6, Tryz.ntmps6
  go_wp2_with (first
    | ((with_reducible refine gate_dst (N := 2) rfl ?_); refine law_new ?hg (N := 2) ?hd (ob := .cells #[.int .i64 4, .string t, .slice A2 n2 c2, .slice A3 n3 c3] 25 (0, 0)) (V := fun g => .pointer (some ⟨g, 0, none⟩)) ?hr ?_; (case hd => rfl); (case hg => rfl); (case hr => first | (go_simp; done) | (go_simp; rfl))
       intro gA hgA w1 bA hbA
       have BA1 := Aside0.mk bA
       have HW1 := Aside0.mk hbA
       clear bA hbA hgA)
    | ((with_reducible refine gate_dst (N := 3) rfl ?_); refine law_new ?hg (N := 3) ?hd (ob := .cells #[.int .i64 k', .string t', .slice B2 m2 d2, .slice B3 m3 d3] 25 (0, 0)) (V := fun g => .pointer (some ⟨g, 0, none⟩)) ?hr ?_; (case hd => rfl); (case hg => rfl); (case hr => first | (go_simp; done) | (go_simp; rfl))
       intro gB hgB w2 bB hbB
       have BA2 := Aside0.mk (blk_below BA1.out hbB)
       have BB2 := Aside0.mk bB
       have HW2 := Aside0.mk (below_step HW1.out hbB)
       have cA := (blk_cell BA2.out 0).trans rfl
       have cB := (blk_cell BB2.out 0).trans rfl
       clear bB hbB hgB BA1 HW1)
    | (go_at_call 13; refine (HOF.out _).mono ?_; rintro e w3 ⟨rfl, hb⟩
       have BA3 := Aside0.mk (blk_below BA2.out hb)
       have BB3 := Aside0.mk (blk_below BB2.out hb)
       have HW3 := Aside0.mk (below_step HW2.out hb)
       clear hb cA cB BA2 BB2 HW2)
    | ((with_reducible refine gate_dst (N := 5) rfl ?_); refine law_new ?hg (N := 5) ?hd (ob := .cells #[.nilFunc] 35 (0, 0)) (V := fun g => .pointer (some ⟨g, 0, none⟩)) ?hr ?_; (case hd => rfl); (case hg => rfl); (case hr => first | (go_simp; done) | (go_simp; rfl))
       intro g5 hg5 w4 b5 hb5
       have B5 := Aside0.mk b5
       have BA4 := Aside0.mk (blk_below BA3.out hb5)
       have BB4 := Aside0.mk (blk_below BB3.out hb5)
       have HW4 := Aside0.mk (below_step HW3.out hb5)
       have HG5 := Aside0.mk (show w.heap.size ≤ g5 by rw [hg5]; exact HW3.out.size)
       have HNE := Aside0.mk (And.intro (show gA < g5 by rw [hg5]; exact blk_lt BA3.out) (show gB < g5 by rw [hg5]; exact blk_lt BB3.out))
       clear b5 hb5 hg5 BA3 BB3 HW3)
    | (have h0_ := B5.out; refine law_store ?q1 35 (.tmp 5) (.tmp 11) ?q2 g5 #[fv 28] ?q3 ?q4 h0_ ?q5 ?q6 ?q7 ?_; (case q1 => rfl); (case q2 => rfl); (case q3 => rfl); (case q4 => rfl); (case q5 => rfl); (case q6 => kernel_rfl); (case q7 => first | rfl | (simp [Value.oneCell']) | (simp [HF1.out]) | kernel_rfl)
       intro w5 b5 hg5 hs5
       have BA5 := blk_grown BA4.out hg5 (fun e => by have h1 := Option.some.inj e; have h2 := HNE.out.1; omega)
       have BB5 := blk_grown BB4.out hg5 (fun e => by have h1 := Option.some.inj e; have h2 := HNE.out.2; omega)
       have HW5 := Aside0.mk (HW4.out.grown hg5 HW4.out.size (fun j hj => by cases hj; exact HG5.out))
       have cA0 := (blk_cell BA5 0).trans rfl
       have cA1 := (blk_cell BA5 1).trans rfl
       have cA2 := (blk_cell BA5 2).trans rfl
       have cA3 := (blk_cell BA5 3).trans rfl
       have cB0 := (blk_cell BB5 0).trans rfl
       have cB1 := (blk_cell BB5 1).trans rfl
       have cB2 := (blk_cell BB5 2).trans rfl
       have cB3 := (blk_cell BB5 3).trans rfl
       have c5 := (blk_cell b5 0).trans rfl
       clear b5 hg5 hs5 h0_ B5 BA4 BB4 HW4 BA5 BB5))
  go_ret
  exact ⟨rfl, HW5.out⟩
set_option maxHeartbeats 4000000 in
set_option maxRecDepth 100000 in
theorem match_ne7  (t : ByteArray) (A2 : Option Addr) (n2 c2 : Nat) (A3 : Option Addr) (n3 c3 : Nat) (k' : Int) (t' : ByteArray) (B2 : Option Addr) (m2 d2 : Nat) (B3 : Option Addr) (m3 d3 : Nat) (hk : ((7 : Int) == k') = false) (w : World) : Calls Tryz.prog 6 #[gv 7 t A2 n2 c2 A3 n3 c3, gv k' t' B2 m2 d2 B3 m3 d3] w fun e w' => e = .returned (.bool false) ∧ Below w.heap.size w w' := by
  have HOF := Aside0.mk of_7
  go_enter Tryz.func6, Tryz.ntmps6
  go_wp2_with (first
    | ((with_reducible refine gate_dst (N := 2) rfl ?_); refine law_new ?hg (N := 2) ?hd (ob := .cells #[.int .i64 7, .string t, .slice A2 n2 c2, .slice A3 n3 c3] 25 (0, 0)) (V := fun g => .pointer (some ⟨g, 0, none⟩)) ?hr ?_; (case hd => rfl); (case hg => rfl); (case hr => first | (go_simp; done) | (go_simp; rfl))
       intro gA hgA w1 bA hbA
       have BA1 := Aside0.mk bA
       have HW1 := Aside0.mk hbA
       clear bA hbA hgA)
    | ((with_reducible refine gate_dst (N := 3) rfl ?_); refine law_new ?hg (N := 3) ?hd (ob := .cells #[.int .i64 k', .string t', .slice B2 m2 d2, .slice B3 m3 d3] 25 (0, 0)) (V := fun g => .pointer (some ⟨g, 0, none⟩)) ?hr ?_; (case hd => rfl); (case hg => rfl); (case hr => first | (go_simp; done) | (go_simp; rfl))
       intro gB hgB w2 bB hbB
       have BA2 := Aside0.mk (blk_below BA1.out hbB)
       have BB2 := Aside0.mk bB
       have HW2 := Aside0.mk (below_step HW1.out hbB)
       have cA := (blk_cell BA2.out 0).trans rfl
       have cB := (blk_cell BB2.out 0).trans rfl
       clear bB hbB hgB BA1 HW1)
    | (go_at_call 13; refine (HOF.out _).mono ?_; rintro e w3 ⟨rfl, hb⟩
       have BA3 := Aside0.mk (blk_below BA2.out hb)
       have BB3 := Aside0.mk (blk_below BB2.out hb)
       have HW3 := Aside0.mk (below_step HW2.out hb)
       clear hb cA cB BA2 BB2 HW2)
    | ((with_reducible refine gate_dst (N := 5) rfl ?_); refine law_new ?hg (N := 5) ?hd (ob := .cells #[.nilFunc] 35 (0, 0)) (V := fun g => .pointer (some ⟨g, 0, none⟩)) ?hr ?_; (case hd => rfl); (case hg => rfl); (case hr => first | (go_simp; done) | (go_simp; rfl))
       intro g5 hg5 w4 b5 hb5
       have B5 := Aside0.mk b5
       have BA4 := Aside0.mk (blk_below BA3.out hb5)
       have BB4 := Aside0.mk (blk_below BB3.out hb5)
       have HW4 := Aside0.mk (below_step HW3.out hb5)
       have HG5 := Aside0.mk (show w.heap.size ≤ g5 by rw [hg5]; exact HW3.out.size)
       have HNE := Aside0.mk (And.intro (show gA < g5 by rw [hg5]; exact blk_lt BA3.out) (show gB < g5 by rw [hg5]; exact blk_lt BB3.out))
       clear b5 hb5 hg5 BA3 BB3 HW3)
    | (have h0_ := B5.out; refine law_store ?q1 35 (.tmp 5) (.tmp 11) ?q2 g5 #[fv 30] ?q3 ?q4 h0_ ?q5 ?q6 ?q7 ?_; (case q1 => rfl); (case q2 => rfl); (case q3 => rfl); (case q4 => rfl); (case q5 => rfl); (case q6 => kernel_rfl); (case q7 => first | rfl | (simp [Value.oneCell']) | (simp [HF1.out]) | kernel_rfl)
       intro w5 b5 hg5 hs5
       have BA5 := blk_grown BA4.out hg5 (fun e => by have h1 := Option.some.inj e; have h2 := HNE.out.1; omega)
       have BB5 := blk_grown BB4.out hg5 (fun e => by have h1 := Option.some.inj e; have h2 := HNE.out.2; omega)
       have HW5 := Aside0.mk (HW4.out.grown hg5 HW4.out.size (fun j hj => by cases hj; exact HG5.out))
       have cA0 := (blk_cell BA5 0).trans rfl
       have cA1 := (blk_cell BA5 1).trans rfl
       have cA2 := (blk_cell BA5 2).trans rfl
       have cA3 := (blk_cell BA5 3).trans rfl
       have cB0 := (blk_cell BB5 0).trans rfl
       have cB1 := (blk_cell BB5 1).trans rfl
       have cB2 := (blk_cell BB5 2).trans rfl
       have cB3 := (blk_cell BB5 3).trans rfl
       have c5 := (blk_cell b5 0).trans rfl
       clear b5 hg5 hs5 h0_ B5 BA4 BB4 HW4 BA5 BB5))
  go_ret
  exact ⟨rfl, HW5.out⟩
set_option maxHeartbeats 4000000 in
set_option maxRecDepth 100000 in
theorem nmatch_1  (t : ByteArray) (A2 : Option Addr) (n2 c2 : Nat) (A3 : Option Addr) (n3 c3 : Nat) (t' : ByteArray) (B2 : Option Addr) (m2 d2 : Nat) (B3 : Option Addr) (m3 d3 : Nat) (r : Bool) (w : World) (h : Says w 14 #[.string t, .string t'] r) : Calls Tryz.prog 7 #[gv 1 t A2 n2 c2 A3 n3 c3, gv 1 t' B2 m2 d2 B3 m3 d3] w fun e w' => e = .returned (.bool r) ∧ Below w.heap.size w w' := by
  have HS := Aside0.mk h
  clear h
  have HZ := Aside0.mk (below_alloc (below_alloc (Below.refl w.heap.size w) (.cells #[.int .i64 1, .string t, .slice A2 n2 c2, .slice A3 n3 c3] 25)) (.cells #[.int .i64 1, .string t', .slice B2 m2 d2, .slice B3 m3 d3] 25))
  go_enter Tryz.func7, Tryz.ntmps7
  go_wp2_with (go_at_call 14; refine (HS.out _ HZ.out).mono ?_; rintro e w1 ⟨rfl, hb⟩; have HB := Aside0.mk hb; clear hb)
  go_ret
  exact ⟨rfl, below_step HZ.out HB.out⟩
set_option maxHeartbeats 4000000 in
set_option maxRecDepth 100000 in
theorem nmatch_2  (t : ByteArray) (A2 : Option Addr) (n2 c2 : Nat) (A3 : Option Addr) (n3 c3 : Nat) (t' : ByteArray) (B2 : Option Addr) (m2 d2 : Nat) (B3 : Option Addr) (m3 d3 : Nat) (r : Bool) (w : World) (h : Says w 15 #[.string t, .string t'] r) : Calls Tryz.prog 7 #[gv 2 t A2 n2 c2 A3 n3 c3, gv 2 t' B2 m2 d2 B3 m3 d3] w fun e w' => e = .returned (.bool r) ∧ Below w.heap.size w w' := by
  have HS := Aside0.mk h
  clear h
  have HZ := Aside0.mk (below_alloc (below_alloc (Below.refl w.heap.size w) (.cells #[.int .i64 2, .string t, .slice A2 n2 c2, .slice A3 n3 c3] 25)) (.cells #[.int .i64 2, .string t', .slice B2 m2 d2, .slice B3 m3 d3] 25))
  go_enter Tryz.func7, Tryz.ntmps7
  go_wp2_with (go_at_call 15; refine (HS.out _ HZ.out).mono ?_; rintro e w1 ⟨rfl, hb⟩; have HB := Aside0.mk hb; clear hb)
  go_ret
  exact ⟨rfl, below_step HZ.out HB.out⟩
set_option maxHeartbeats 4000000 in
set_option maxRecDepth 100000 in
theorem nmatch_4  (t : ByteArray) (A2 : Option Addr) (n2 c2 : Nat) (A3 : Option Addr) (n3 c3 : Nat) (t' : ByteArray) (B2 : Option Addr) (m2 d2 : Nat) (B3 : Option Addr) (m3 d3 : Nat) (r : Bool) (w : World) (h : Says w 16 #[.slice A3 n3 c3, .slice B3 m3 d3] r) : Calls Tryz.prog 7 #[gv 4 t A2 n2 c2 A3 n3 c3, gv 4 t' B2 m2 d2 B3 m3 d3] w fun e w' => e = .returned (.bool r) ∧ Below w.heap.size w w' := by
  have HS := Aside0.mk h
  clear h
  have HZ := Aside0.mk (below_alloc (below_alloc (Below.refl w.heap.size w) (.cells #[.int .i64 4, .string t, .slice A2 n2 c2, .slice A3 n3 c3] 25)) (.cells #[.int .i64 4, .string t', .slice B2 m2 d2, .slice B3 m3 d3] 25))
  go_enter Tryz.func7, Tryz.ntmps7
  go_wp2_with (go_at_call 16; refine (HS.out _ HZ.out).mono ?_; rintro e w1 ⟨rfl, hb⟩; have HB := Aside0.mk hb; clear hb)
  go_ret
  exact ⟨rfl, below_step HZ.out HB.out⟩
set_option maxHeartbeats 4000000 in
set_option maxRecDepth 100000 in
theorem nmatch_7  (t : ByteArray) (A2 : Option Addr) (n2 c2 : Nat) (A3 : Option Addr) (n3 c3 : Nat) (t' : ByteArray) (B2 : Option Addr) (m2 d2 : Nat) (B3 : Option Addr) (m3 d3 : Nat) (r : Bool) (w : World) (h : Says w 17 #[.slice A2 n2 c2, .slice B2 m2 d2] r) : Calls Tryz.prog 7 #[gv 7 t A2 n2 c2 A3 n3 c3, gv 7 t' B2 m2 d2 B3 m3 d3] w fun e w' => e = .returned (.bool r) ∧ Below w.heap.size w w' := by
  have HS := Aside0.mk h
  clear h
  have HZ := Aside0.mk (below_alloc (below_alloc (Below.refl w.heap.size w) (.cells #[.int .i64 7, .string t, .slice A2 n2 c2, .slice A3 n3 c3] 25)) (.cells #[.int .i64 7, .string t', .slice B2 m2 d2, .slice B3 m3 d3] 25))
  go_enter Tryz.func7, Tryz.ntmps7
  go_wp2_with (go_at_call 17; refine (HS.out _ HZ.out).mono ?_; rintro e w1 ⟨rfl, hb⟩; have HB := Aside0.mk hb; clear hb)
  go_ret
  exact ⟨rfl, below_step HZ.out HB.out⟩
set_option maxHeartbeats 4000000 in
set_option maxRecDepth 100000 in
theorem nmatch_off  (k : Int) (t : ByteArray) (A2 : Option Addr) (n2 c2 : Nat) (A3 : Option Addr) (n3 c3 : Nat) (t' : ByteArray) (B2 : Option Addr) (m2 d2 : Nat) (B3 : Option Addr) (m3 d3 : Nat) (h1 : (k == 1) = false) (h2 : (k == 2) = false) (h4 : (k == 4) = false) (h7 : (k == 7) = false) (w : World) : Calls Tryz.prog 7 #[gv k t A2 n2 c2 A3 n3 c3, gv k t' B2 m2 d2 B3 m3 d3] w fun e w' => e = .returned (.bool false) ∧ Below w.heap.size w w' := by
  have HZ := Aside0.mk (below_alloc (below_alloc (Below.refl w.heap.size w) (.cells #[.int .i64 k, .string t, .slice A2 n2 c2, .slice A3 n3 c3] 25)) (.cells #[.int .i64 k, .string t', .slice B2 m2 d2, .slice B3 m3 d3] 25))
  go_enter Tryz.func7, Tryz.ntmps7
  go_wp2
  go_ret
  exact ⟨rfl, HZ.out⟩
set_option maxHeartbeats 4000000 in
set_option maxRecDepth 100000 in
theorem nmatch_ne (k : Int) (t : ByteArray) (A2 : Option Addr) (n2 c2 : Nat) (A3 : Option Addr) (n3 c3 : Nat) (k' : Int) (t' : ByteArray) (B2 : Option Addr) (m2 d2 : Nat) (B3 : Option Addr) (m3 d3 : Nat) (hk : (k == k') = false) (w : World) : Calls Tryz.prog 7 #[gv k t A2 n2 c2 A3 n3 c3, gv k' t' B2 m2 d2 B3 m3 d3] w fun e w' => e = .returned (.bool false) ∧ Below w.heap.size w w' := by
  have hk2 : (k != k') = true := by rw [bne, hk]; rfl
  have HZ := Aside0.mk (below_alloc (below_alloc (Below.refl w.heap.size w) (.cells #[.int .i64 k, .string t, .slice A2 n2 c2, .slice A3 n3 c3] 25)) (.cells #[.int .i64 k', .string t', .slice B2 m2 d2, .slice B3 m3 d3] 25))
  go_enter Tryz.func7, Tryz.ntmps7
  go_wp2
  go_ret
  exact ⟨rfl, HZ.out⟩
end Go.Proofs.YtpdhbpdfldfnhaaGreatDoor.Rk
/- of RgPHuge -/
/- Plain Lean over the printed functions: which names are asked of, and what is known of them then. -/
namespace Go.Proofs.YtpdhbpdfldfnhaaGreatDoor.Rk
open Go.RowKit Go.Lib Go.Proofs.YtpdhbpdfldfnhaaGreatDoorW.PrintWords Go.Proofs.YtpdhbpdfldfnhaaGreatDoor.Nm Go.Proofs.YtpdhbpdfldfnhaaGreatDoor.Tx
/-- a part is small in length -/
def Thin (x : At) : Prop := x.f0.size ≤ 2000 ∧ x.f2.length ≤ 2000
theorem huge_l1 (l : List (List At)) (i : Nat) (hi : i < l.length) (hi2 : i ≤ 200) (s : List At) (hs : l[i]? = some s) (hsl : s.length ≤ 200) (next : Int → Prop)
    (hn : ∀ sum : Int, 0 ≤ sum → sum ≤ 2000 → ∃ r, Ev (fun k => chirographref07_Huge.l0 k l 2000 sum ((i + 1 : Nat) : Int)) r ∧ (r = false → next 0)) :
    ∀ (d q : Nat), q + d = s.length → ∀ sum : Int, 0 ≤ sum → sum ≤ 2000 → ∃ r, Ev (fun k => chirographref07_Huge.l1 k l 2000 sum (i : Int) (q : Int)) r ∧ (r = false → next 0 ∧ ∀ x ∈ s.drop q, Thin x) := by
  have er : rd_L5 l (i : Int) = s := by
    unfold rd_L5
    rw [Int.toNat_natCast, List.getD, hs]
    rfl
  intro d
  induction d with
  | zero =>
    intro q hq sum h0 h1
    obtain ⟨r, ⟨K, hK⟩, hr⟩ := hn sum h0 h1
    refine ⟨r, ⟨K + 1, fun k hk => ?_⟩, fun hf => ⟨hr hf, by rw [List.drop_of_length_le (by omega)]; simp⟩⟩
    obtain ⟨k, rfl⟩ : ∃ k', k = k' + 1 := ⟨k - 1, by omega⟩
    have := hK k (by omega)
    simp only [chirographref07_Huge.l1]
    rw [er, if_pos (by omega), if_pos (by omega), if_neg (by omega), wrap_next (by omega)]
    exact this
  | succ d ih =>
    intro q hq sum h0 h1
    have hlt : q < s.length := by omega
    have ex : rd_T41 s (q : Int) = s[q] := rdT_get s q hlt
    have w1 : wrap64 (2000 - sum) = 2000 - sum := wrap_id (by omega) (by omega)
    by_cases hd : ((s[q].f2).length : Int) > 2000 - sum
    · refine ⟨true, ⟨1, fun k hk => ?_⟩, fun hf => by cases hf⟩
      obtain ⟨k, rfl⟩ : ∃ k', k = k' + 1 := ⟨k - 1, by omega⟩
      simp only [chirographref07_Huge.l1]
      rw [er, ex, if_pos (by omega), if_pos (by omega), if_pos (by omega), if_pos (by omega), w1, if_pos hd]
    · have w2 : wrap64 (sum + ((s[q].f2).length : Int)) = sum + ((s[q].f2).length : Int) := wrap_id (by omega) (by omega)
      have w3 : wrap64 (2000 - (sum + ((s[q].f2).length : Int))) = 2000 - (sum + ((s[q].f2).length : Int)) := wrap_id (by omega) (by omega)
      by_cases ht : ((s[q].f0).size : Int) > 2000 - (sum + ((s[q].f2).length : Int))
      · refine ⟨true, ⟨1, fun k hk => ?_⟩, fun hf => by cases hf⟩
        obtain ⟨k, rfl⟩ : ∃ k', k = k' + 1 := ⟨k - 1, by omega⟩
        simp only [chirographref07_Huge.l1]
        rw [er, ex, if_pos (by omega), if_pos (by omega), if_pos (by omega), if_pos (by omega), w1, if_neg hd, w2, w3, if_pos ht]
      · have w4 : wrap64 (sum + ((s[q].f2).length : Int) + ((s[q].f0).size : Int)) = sum + ((s[q].f2).length : Int) + ((s[q].f0).size : Int) := wrap_id (by omega) (by omega)
        obtain ⟨r, ⟨K, hK⟩, hr⟩ := ih (q + 1) (by omega) (sum + ((s[q].f2).length : Int) + ((s[q].f0).size : Int)) (by omega) (by omega)
        refine ⟨r, ⟨K + 1, fun k hk => ?_⟩, fun hf => ⟨(hr hf).1, fun x hx => ?_⟩⟩
        · obtain ⟨k, rfl⟩ : ∃ k', k = k' + 1 := ⟨k - 1, by omega⟩
          have := hK k (by omega)
          simp only [chirographref07_Huge.l1]
          rw [er, ex, if_pos (by omega), if_pos (by omega), if_pos (by omega), if_pos (by omega), w1, if_neg hd, w2, w3, if_neg ht, w4, wrap_next (by omega)]
          exact this
        · rw [List.drop_eq_getElem_cons hlt] at hx
          rcases List.mem_cons.1 hx with rfl | hx
          · exact ⟨by omega, by omega⟩
          · exact (hr hf).2 x hx
def ThinSet (s : List At) : Prop := s.length ≤ 200 ∧ ∀ x ∈ s, Thin x
theorem huge_l0 (l : List (List At)) (hl : l.length ≤ 200) : ∀ (d i : Nat), i + d = l.length → ∀ sum : Int, 0 ≤ sum → sum ≤ 2000 → ∃ r, Ev (fun k => chirographref07_Huge.l0 k l 2000 sum (i : Int)) r ∧ (r = false → ∀ s ∈ l.drop i, ThinSet s) := by
  intro d
  induction d with
  | zero =>
    intro i hi sum h0 h1
    refine ⟨false, ⟨1, fun k hk => ?_⟩, fun _ => by rw [List.drop_of_length_le (by omega)]; simp⟩
    obtain ⟨k, rfl⟩ : ∃ k', k = k' + 1 := ⟨k - 1, by omega⟩
    simp only [chirographref07_Huge.l0]
    rw [if_neg (by omega)]
  | succ d ih =>
    intro i hi sum h0 h1
    have hlt : i < l.length := by omega
    have er : rd_L5 l (i : Int) = l[i] := by
      unfold rd_L5
      rw [Int.toNat_natCast]
      simp [List.getD, List.getElem?_eq_getElem hlt]
    by_cases hg : ((l[i]).length : Int) > 200
    · refine ⟨true, ⟨1, fun k hk => ?_⟩, fun hf => by cases hf⟩
      obtain ⟨k, rfl⟩ : ∃ k', k = k' + 1 := ⟨k - 1, by omega⟩
      simp only [chirographref07_Huge.l0]
      rw [er, if_pos (by omega), if_pos (by omega), if_pos hg]
    · obtain ⟨r, ⟨K, hK⟩, hr⟩ := huge_l1 l i hlt (by omega) l[i] (List.getElem?_eq_getElem hlt) (by omega) (fun _ => ∀ s ∈ l.drop (i + 1), ThinSet s) (fun sum' a b => ih (i + 1) (by omega) sum' a b) (l[i]).length 0 (by omega) sum h0 h1
      refine ⟨r, ⟨K + 1, fun k hk => ?_⟩, fun hf s hs => ?_⟩
      · obtain ⟨k, rfl⟩ : ∃ k', k = k' + 1 := ⟨k - 1, by omega⟩
        have := hK k (by omega)
        simp only [chirographref07_Huge.l0]
        rw [er, if_pos (by omega), if_pos (by omega), if_neg hg]
        exact this
      · rw [List.drop_eq_getElem_cons hlt] at hs
        rcases List.mem_cons.1 hs with rfl | hs
        · exact ⟨by omega, fun x hx => (hr hf).2 x (by simpa using hx)⟩
        · exact (hr hf).1 s hs
theorem hugeN_ev (l : List (List At)) : ∃ r, Ev (fun k => chirographref07_Huge.f k l 2000) r ∧ (r = false → l.length ≤ 200 ∧ ∀ s ∈ l, ThinSet s) := by
  by_cases h : (l.length : Int) > 200
  · refine ⟨true, ⟨0, fun k _ => ?_⟩, fun hf => by cases hf⟩
    simp only [chirographref07_Huge.f]
    rw [if_pos h]
  · obtain ⟨r, ⟨K, hK⟩, hr⟩ := huge_l0 l (by omega) l.length 0 (by omega) 0 (by omega) (by omega)
    refine ⟨r, ⟨K, fun k hk => ?_⟩, fun hf => ⟨by omega, fun s hs => hr hf s (by simpa using hs)⟩⟩
    simp only [chirographref07_Huge.f]
    rw [if_neg h]
    exact hK k hk
abbrev Gn := Go.Proofs.YtpdhbpdfldfnhaaGreatDoor.Nm.S25
def ThinGen (g : Gn) : Prop := g.f1.size ≤ 2000 ∧ g.f2.length ≤ 2000 ∧ g.f3.length ≤ 200 ∧ ∀ s ∈ g.f3, ThinSet s
theorem hugeG_l0 (l : List Gn) (hl : l.length ≤ 2) : ∀ (d i : Nat), i + d = l.length → ∃ r, Ev (fun k => chirographref14_Huge.l0 k l 2000 (i : Int)) r ∧ (r = false → ∀ g ∈ l.drop i, ThinGen g) := by
  intro d
  induction d with
  | zero =>
    intro i hi
    refine ⟨false, ⟨1, fun k hk => ?_⟩, fun _ => by rw [List.drop_of_length_le (by omega)]; simp⟩
    obtain ⟨k, rfl⟩ : ∃ k', k = k' + 1 := ⟨k - 1, by omega⟩
    simp only [chirographref14_Huge.l0]
    rw [if_neg (by omega)]
  | succ d ih =>
    intro i hi
    have hlt : i < l.length := by omega
    have er : rd_T25 l (i : Int) = l[i] := by
      unfold rd_T25
      rw [Int.toNat_natCast]
      simp [List.getD, List.getElem?_eq_getElem hlt]
    by_cases h1 : ((l[i].f1).size : Int) > 2000
    · refine ⟨true, ⟨1, fun k hk => ?_⟩, fun hf => by cases hf⟩
      obtain ⟨k, rfl⟩ : ∃ k', k = k' + 1 := ⟨k - 1, by omega⟩
      simp only [chirographref14_Huge.l0]
      rw [er, if_pos (by omega), if_pos (by omega), if_pos h1]
    · by_cases h2 : ((l[i].f2).length : Int) > 2000
      · refine ⟨true, ⟨1, fun k hk => ?_⟩, fun hf => by cases hf⟩
        obtain ⟨k, rfl⟩ : ∃ k', k = k' + 1 := ⟨k - 1, by omega⟩
        simp only [chirographref14_Huge.l0]
        rw [er, if_pos (by omega), if_pos (by omega), if_neg h1, if_pos h2]
      · obtain ⟨r1, ⟨K1, hK1⟩, hr1⟩ := hugeN_ev l[i].f3
        obtain ⟨r2, ⟨K2, hK2⟩, hr2⟩ := ih (i + 1) (by omega)
        cases r1 with
        | true =>
          refine ⟨true, ⟨K1 + 1, fun k hk => ?_⟩, fun hf => by cases hf⟩
          obtain ⟨k, rfl⟩ : ∃ k', k = k' + 1 := ⟨k - 1, by omega⟩
          have q1 : chirographref07_Huge.f k l[i].f3 2000 = some true := hK1 k (by omega)
          simp only [chirographref14_Huge.l0]
          rw [er, if_pos (by omega), if_pos (by omega), if_neg h1, if_neg h2, q1, Option.bind_some, if_pos rfl]
        | false =>
          refine ⟨r2, ⟨K1 + K2 + 1, fun k hk => ?_⟩, fun hf g hg => ?_⟩
          · obtain ⟨k, rfl⟩ : ∃ k', k = k' + 1 := ⟨k - 1, by omega⟩
            have q1 : chirographref07_Huge.f k l[i].f3 2000 = some false := hK1 k (by omega)
            have q2 : chirographref14_Huge.l0 k l 2000 ((i + 1 : Nat) : Int) = some r2 := hK2 k (by omega)
            simp only [chirographref14_Huge.l0]
            rw [er, if_pos (by omega), if_pos (by omega), if_neg h1, if_neg h2, q1, Option.bind_some, if_neg (by decide), wrap_next (by omega), q2]
          · rw [List.drop_eq_getElem_cons hlt] at hg
            rcases List.mem_cons.1 hg with rfl | hg
            · exact ⟨by omega, by omega, (hr1 rfl).1, (hr1 rfl).2⟩
            · exact hr2 hf g hg
theorem hugeG_ev (g b : Gn) : ∃ k r, chirographref14_Huge.f k [g, b] 2 2000 = some r ∧ (r = false → ThinGen g ∧ ThinGen b) := by
  obtain ⟨r, hE, hr⟩ := hugeG_l0 [g, b] (by simp) 2 0 rfl
  obtain ⟨k, hk⟩ := hE.rounds
  refine ⟨k, r, ?_, fun hf => ⟨hr hf g (by simp), hr hf b (by simp)⟩⟩
  simp only [chirographref14_Huge.f]
  rw [if_neg (by simp)]
  exact hk
end Go.Proofs.YtpdhbpdfldfnhaaGreatDoor.Rk
/- of RgBoth -/
/- A name against a base: the program and the document say the same. -/
namespace Go.Proofs.YtpdhbpdfldfnhaaGreatDoor.Rk
open Go Go.RowKit Go.Proofs.YtpdhbpdfldfnhaaGreatDoorW.PrintWords Go.Proofs.YtpdhbpdfldfnhaaGreatDoorW.PrintLast Go.Proofs.YtpdhbpdfldfnhaaGreatDoorW.PrintMore Go.Proofs.YtpdhbpdfldfnhaaGreatDoor.Rn Go.Proofs.YtpdhbpdfldfnhaaGreatDoor.Nm
theorem Says.below {w w1 : World} {K : Nat} {a : Array Value} {r : Bool} (h : Says w K a r) (hb : Below w.heap.size w w1) : Says w1 K a r := fun W hW => h W (below_step hb hW)
/-- a value that is a name of some kind -/
def GenIs (w : World) (v : Value) (g : Gn) : Prop := ∃ A2 c2 A3 c3, v = gv g.f0 g.f1 A2 g.f2.length c2 A3 g.f3.length c3 ∧ g.f2.length ≤ c2 ∧ Kd.C (Kd.int .u8) w A2 g.f2.length g.f2 ∧ g.f3.length ≤ c3 ∧ Kd.C (Kd.slice 41 k41) w A3 g.f3.length g.f3
theorem GenIs.below {w w1 : World} {v : Value} {g : Gn} (h : GenIs w v g) (hb : Below w.heap.size w w1) : GenIs w1 v g := by
  obtain ⟨A2, c2, A3, c3, e, h2, hC2, h3, hC3⟩ := h
  exact ⟨A2, c2, A3, c3, e, h2, Kd.C_below hC2 hb, h3, Kd.C_below hC3 hb⟩
/-- what every value of the types meets -/
def GenOk (g : Gn) : Prop := Rn.Bytes g.f2 ∧ ∀ s ∈ g.f3, ∀ x ∈ s, Tx.Bytes x.f2 ∧ (-9223372036854775808 ≤ x.f1 ∧ x.f1 ≤ 9223372036854775807)
theorem small_of {g : Gn} (h : ThinGen g) (ho : GenOk g) : SmallName g.f3 := ⟨h.2.2.1, fun s hs => ⟨(h.2.2.2 s hs).1, fun x hx => ⟨((h.2.2.2 s hs).2 x hx).1, ((h.2.2.2 s hs).2 x hx).2, (ho.2 s hs x hx).1, (ho.2 s hs x hx).2⟩⟩⟩
theorem both (g b : Gn) (vg vb : Value) (w : World) (hg : GenIs w vg g) (hb : GenIs w vb b) (tg : ThinGen g) (tb : ThinGen b) (og : GenOk g) (ob : GenOk b) (hT : Tabs w) : ∃ r, Says w 6 #[vg, vb] r ∧ Says w 7 #[vg, vb] r := by
  obtain ⟨A2, c2, A3, c3, rfl, h2, hC2, h3, hC3⟩ := hg
  obtain ⟨B2, d2, B3, d3, rfl, e2, eC2, e3, eC3⟩ := hb
  by_cases hk : g.f0 = b.f0
  · rw [← hk]
    by_cases k1 : g.f0 = 1
    · rw [k1]
      obtain ⟨k, r, f1, f2⟩ := mail_eq g.f1 b.f1 (by have := tg.1; omega) (by have := tb.1; omega)
      have s1 : Says w 10 #[.string g.f1, .string b.f1] r := fun W hW => Rm.realm_Mail.calls k _ _ r W f1
      have s2 : Says w 14 #[.string g.f1, .string b.f1] r := fun W hW => Rm.chirographref14_Mail.calls k _ _ r W f2
      exact ⟨r, fun W hW => match_1 _ _ _ _ _ _ _ _ _ _ _ _ _ _ r W (clo_26 _ _ _ _ _ _ _ _ _ _ _ _ _ _ _ _ r W (s1.below hW)), fun W hW => nmatch_1 _ _ _ _ _ _ _ _ _ _ _ _ _ _ r W (s2.below hW)⟩
    by_cases k2 : g.f0 = 2
    · rw [k2]
      obtain ⟨k, r, f1, f2⟩ := host_eq g.f1 b.f1 (by have := tg.1; omega) (by have := tb.1; omega)
      have s1 : Says w 9 #[.string g.f1, .string b.f1] r := fun W hW => Rm.realm_Host.calls k _ _ r W f1
      have s2 : Says w 15 #[.string g.f1, .string b.f1] r := fun W hW => Rm.chirographref14_Host.calls k _ _ r W f2
      exact ⟨r, fun W hW => match_2 _ _ _ _ _ _ _ _ _ _ _ _ _ _ r W (clo_27 _ _ _ _ _ _ _ _ _ _ _ _ _ _ _ _ r W (s1.below hW)), fun W hW => nmatch_2 _ _ _ _ _ _ _ _ _ _ _ _ _ _ r W (s2.below hW)⟩
    by_cases k4 : g.f0 = 4
    · rw [k4]
      have ng : NameIs w (.slice A3 g.f3.length c3) g.f3 := ⟨small_of tg og, A3, c3, rfl, h3, hC3⟩
      have nb : NameIs w (.slice B3 b.f3.length d3) b.f3 := ⟨small_of tb ob, B3, d3, rfl, e3, eC3⟩
      have s1 : Says w 29 #[.slice A3 g.f3.length c3, .slice B3 b.f3.length d3] (withinB g.f3 b.f3) := fun W hW => within_walk _ _ _ _ W (ng.below hW) (nb.below hW) (hT.below hW)
      have s2 : Says w 16 #[.slice A3 g.f3.length c3, .slice B3 b.f3.length d3] (withinB g.f3 b.f3) := fun W hW => nwithin_walk _ _ _ _ W (ng.below hW) (nb.below hW)
      exact ⟨_, fun W hW => match_4 _ _ _ _ _ _ _ _ _ _ _ _ _ _ _ W (clo_28 _ _ _ _ _ _ _ _ _ _ _ _ _ _ _ _ _ W (s1.below hW)), fun W hW => nmatch_4 _ _ _ _ _ _ _ _ _ _ _ _ _ _ _ W (s2.below hW)⟩
    by_cases k7 : g.f0 = 7
    · rw [k7]
      obtain ⟨k, r, f1, f2⟩ := net_eq g.f2 b.f2 tg.2.1 tb.2.1 og.1 ob.1
      have s1 : Says w 11 #[.slice A2 g.f2.length c2, .slice B2 b.f2.length d2] r := fun W hW => (Rm.realm_Net.calls k A2 c2 g.f2 B2 d2 b.f2 r W (Kd.C_below hC2 hW) h2 (Kd.C_below eC2 hW) e2 f1).mono fun e w' h => ⟨h.1, h.2.below⟩
      have s2 : Says w 17 #[.slice A2 g.f2.length c2, .slice B2 b.f2.length d2] r := fun W hW => (Rm.chirographref14_Net.calls k A2 c2 g.f2 B2 d2 b.f2 r W (Kd.C_below hC2 hW) h2 (Kd.C_below eC2 hW) e2 f2).mono fun e w' h => ⟨h.1, h.2.below⟩
      exact ⟨r, fun W hW => match_7 _ _ _ _ _ _ _ _ _ _ _ _ _ _ r W (clo_30 _ _ _ _ _ _ _ _ _ _ _ _ _ _ _ _ r W (s1.below hW)), fun W hW => nmatch_7 _ _ _ _ _ _ _ _ _ _ _ _ _ _ r W (s2.below hW)⟩
    have q1 : (g.f0 == 1) = false := by simpa using k1
    have q2 : (g.f0 == 2) = false := by simpa using k2
    have q4 : (g.f0 == 4) = false := by simpa using k4
    have q7 : (g.f0 == 7) = false := by simpa using k7
    exact ⟨false, fun W hW => match_off _ _ _ _ _ _ _ _ _ _ _ _ _ _ _ _ W q1 q2 q4 q7, fun W hW => nmatch_off _ _ _ _ _ _ _ _ _ _ _ _ _ _ _ q1 q2 q4 q7 W⟩
  · have hk2 : (g.f0 == b.f0) = false := by simpa using hk
    refine ⟨false, fun W hW => ?_, fun W hW => nmatch_ne _ _ _ _ _ _ _ _ _ _ _ _ _ _ _ _ hk2 W⟩
    by_cases k1 : g.f0 = 1
    · rw [k1] at hk2 ⊢
      exact match_ne1 _ _ _ _ _ _ _ _ _ _ _ _ _ _ _ hk2 W
    by_cases k2 : g.f0 = 2
    · rw [k2] at hk2 ⊢
      exact match_ne2 _ _ _ _ _ _ _ _ _ _ _ _ _ _ _ hk2 W
    by_cases k4 : g.f0 = 4
    · rw [k4] at hk2 ⊢
      exact match_ne4 _ _ _ _ _ _ _ _ _ _ _ _ _ _ _ hk2 W
    by_cases k7 : g.f0 = 7
    · rw [k7] at hk2 ⊢
      exact match_ne7 _ _ _ _ _ _ _ _ _ _ _ _ _ _ _ hk2 W
    have q1 : (g.f0 == 1) = false := by simpa using k1
    have q2 : (g.f0 == 2) = false := by simpa using k2
    have q4 : (g.f0 == 4) = false := by simpa using k4
    have q7 : (g.f0 == 7) = false := by simpa using k7
    exact match_off _ _ _ _ _ _ _ _ _ _ _ _ _ _ _ _ W q1 q2 q4 q7
end Go.Proofs.YtpdhbpdfldfnhaaGreatDoor.Rk
/- of RgLaw -/
/- The law RealmMatches: whatever the name and the base, the program and the document say the same: its walk (written by lawgen.py). -/
namespace Go.Proofs.YtpdhbpdfldfnhaaGreatDoor.Rk
open Go Go.RowKit Go.Proofs.YtpdhbpdfldfnhaaGreatDoorW.PrintWords Go.Proofs.YtpdhbpdfldfnhaaGreatDoorW.PrintLast Go.Proofs.YtpdhbpdfldfnhaaGreatDoorW.PrintMore Go.Proofs.YtpdhbpdfldfnhaaGreatDoor.Rn Go.Proofs.YtpdhbpdfldfnhaaGreatDoor.Nm
theorem range_blk {w : World} {g : Nat} {cs : Array Value} {t : TypeId} {fr : Nat × Nat} (h : w.heap[g]? = some (.cells cs t fr)) : w.rangeAt g 0 cs.toList := fun j v hv => by
  rw [Nat.zero_add, cell_of_row w g j cs t fr h]
  simpa using hv
theorem two_C {w : World} {g b : Gn} {n : Nat} {A2 A3 B2 B3 : Option Addr} {c2 c3 d2 d3 : Nat} {fr : Nat × Nat} (hb : w.heap[n]? = some (.cells #[.int .i64 g.f0, .string g.f1, .slice A2 g.f2.length c2, .slice A3 g.f3.length c3, .int .i64 b.f0, .string b.f1, .slice B2 b.f2.length d2, .slice B3 b.f3.length d3] 25 fr))
    (h2 : g.f2.length ≤ c2) (hC2 : Kd.C (Kd.int .u8) w A2 g.f2.length g.f2) (h3 : g.f3.length ≤ c3) (hC3 : Kd.C (Kd.slice 41 k41) w A3 g.f3.length g.f3)
    (e2 : b.f2.length ≤ d2) (eC2 : Kd.C (Kd.int .u8) w B2 b.f2.length b.f2) (e3 : b.f3.length ≤ d3) (eC3 : Kd.C (Kd.slice 41 k41) w B3 b.f3.length b.f3) : Kd.C k25 w (some ⟨n, 0, none⟩) 2 [g, b] := by
  refine ⟨rfl, by omega, fun _ => ⟨_, rfl, fun j p hj => ?_⟩⟩
  have hj2 : j < 2 := (List.getElem?_eq_some_iff.1 hj).1
  rcases (show j = 0 ∨ j = 1 by omega) with rfl | rfl
  · cases hj
    refine ⟨[.int .i64 g.f0, .string g.f1, .slice A2 g.f2.length c2, .slice A3 g.f3.length c3], rfl, k25_mk w g h2 hC2 h3 hC3, fun i u hu => ?_⟩
    have hi : i < 4 := (List.getElem?_eq_some_iff.1 hu).1
    have e : (⟨n, 0, none⟩ : Addr).add (0 * k25.sz + i) = ⟨n, i, none⟩ := by rw [add_plain]; exact congrArg (fun x => (⟨n, x, none⟩ : Addr)) (show 0 * 4 + i = i by omega)
    rw [e, cell_of_row w n i _ 25 fr hb]
    rcases (show i = 0 ∨ i = 1 ∨ i = 2 ∨ i = 3 by omega) with rfl | rfl | rfl | rfl <;> exact hu
  · cases hj
    refine ⟨[.int .i64 b.f0, .string b.f1, .slice B2 b.f2.length d2, .slice B3 b.f3.length d3], rfl, k25_mk w b e2 eC2 e3 eC3, fun i u hu => ?_⟩
    have hi : i < 4 := (List.getElem?_eq_some_iff.1 hu).1
    have e : (⟨n, 0, none⟩ : Addr).add (1 * k25.sz + i) = ⟨n, 4 + i, none⟩ := by rw [add_plain]; exact congrArg (fun x => (⟨n, x, none⟩ : Addr)) (show 1 * 4 + i = 4 + i by omega)
    rw [e, cell_of_row w n (4 + i) _ 25 fr hb]
    rcases (show i = 0 ∨ i = 1 ∨ i = 2 ∨ i = 3 by omega) with rfl | rfl | rfl | rfl <;> exact hu
set_option maxHeartbeats 4000000 in
set_option maxRecDepth 100000 in
theorem law_big (k : Int) (t : ByteArray) (A2 : Option Addr) (n2 c2 : Nat) (A3 : Option Addr) (n3 c3 : Nat) (k' : Int) (t' : ByteArray) (B2 : Option Addr) (m2 d2 : Nat) (B3 : Option Addr) (m3 d3 : Nat) (w : World) (h : ∀ W : World, Below w.heap.size w W → Calls Tryz.prog 4 #[.slice (some ⟨W.heap.size, 0, none⟩) 2 2, .int .i64 2, .int .i64 2000] (W.alloc (.cells #[.int .i64 k, .string t, .slice A2 n2 c2, .slice A3 n3 c3, .int .i64 k', .string t', .slice B2 m2 d2, .slice B3 m3 d3] 25)) fun e w' => e = .returned (.bool true) ∧ Below W.heap.size W w') : Calls Tryz.prog 3 #[gv k t A2 n2 c2 A3 n3 c3, gv k' t' B2 m2 d2 B3 m3 d3] w fun e w' => e = .returned (.bool true) ∧ Below w.heap.size w w' := by
  have HH := Aside0.mk h
  clear h
  go_enter Tryz.func3, Tryz.ntmps3
  go_wp2_with (first
    | ((with_reducible refine gate_dst (N := 2) rfl ?_); refine law_new ?hg (N := 2) ?hd (ob := .cells #[.int .i64 k, .string t, .slice A2 n2 c2, .slice A3 n3 c3] 25 (0, 0)) (V := fun g => .pointer (some ⟨g, 0, none⟩)) ?hr ?_; (case hd => rfl); (case hg => rfl); (case hr => first | (go_simp; done) | (go_simp; rfl))
       intro gA hgA w1 bA hbA
       have BA1 := Aside0.mk bA
       have HW1 := Aside0.mk hbA
       clear bA hbA hgA)
    | ((with_reducible refine gate_dst (N := 3) rfl ?_); refine law_new ?hg (N := 3) ?hd (ob := .cells #[.int .i64 k', .string t', .slice B2 m2 d2, .slice B3 m3 d3] 25 (0, 0)) (V := fun g => .pointer (some ⟨g, 0, none⟩)) ?hr ?_; (case hd => rfl); (case hg => rfl); (case hr => first | (go_simp; done) | (go_simp; rfl))
       intro gB hgB w2 bB hbB
       have BA2 := Aside0.mk (blk_below BA1.out hbB)
       have BB2 := Aside0.mk bB
       have HW2 := Aside0.mk (below_step HW1.out hbB)
       clear bB hbB hgB BA1 HW1)
    | ((with_reducible refine gate_dst (N := 5) rfl ?_); refine law_load rfl 25 _ rfl gA rfl BA2.out _ Tryz.underlying25 rfl (by kernel_rfl) ?_)
    | ((with_reducible refine gate_dst (N := 6) rfl ?_); refine law_load rfl 25 _ rfl gB rfl BB2.out _ Tryz.underlying25 rfl (by kernel_rfl) ?_)
    | (go_at_call 4; refine (HH.out w2 HW2.out).mono ?_; rintro e w4 ⟨rfl, hb⟩
       have BA := Aside0.mk (blk_below BA2.out hb)
       have BB := Aside0.mk (blk_below BB2.out hb)
       have HB := Aside0.mk (below_step HW2.out hb)
       clear hb BA2 BB2 HW2)
    | (go_at_call 5; refine (live_walk w4).mono ?_; rintro e w5 ⟨rfl, hb⟩; have HZ := Aside0.mk (below_step HB.out hb); clear hb))
  go_ret
  exact ⟨rfl, HZ.out⟩
set_option maxHeartbeats 4000000 in
set_option maxRecDepth 100000 in
theorem law_small (k : Int) (t : ByteArray) (A2 : Option Addr) (n2 c2 : Nat) (A3 : Option Addr) (n3 c3 : Nat) (k' : Int) (t' : ByteArray) (B2 : Option Addr) (m2 d2 : Nat) (B3 : Option Addr) (m3 d3 : Nat) (w : World) (r : Bool) (h : ∀ W : World, Below w.heap.size w W → Calls Tryz.prog 4 #[.slice (some ⟨W.heap.size, 0, none⟩) 2 2, .int .i64 2, .int .i64 2000] (W.alloc (.cells #[.int .i64 k, .string t, .slice A2 n2 c2, .slice A3 n3 c3, .int .i64 k', .string t', .slice B2 m2 d2, .slice B3 m3 d3] 25)) fun e w' => e = .returned (.bool false) ∧ Below W.heap.size W w') (hs : Says w 6 #[gv k t A2 n2 c2 A3 n3 c3, gv k' t' B2 m2 d2 B3 m3 d3] r ∧ Says w 7 #[gv k t A2 n2 c2 A3 n3 c3, gv k' t' B2 m2 d2 B3 m3 d3] r) : Calls Tryz.prog 3 #[gv k t A2 n2 c2 A3 n3 c3, gv k' t' B2 m2 d2 B3 m3 d3] w fun e w' => e = .returned (.bool true) ∧ Below w.heap.size w w' := by
  have HH := Aside0.mk h
  have HS := Aside0.mk hs
  clear h hs
  go_enter Tryz.func3, Tryz.ntmps3
  go_wp2_with (first
    | ((with_reducible refine gate_dst (N := 2) rfl ?_); refine law_new ?hg (N := 2) ?hd (ob := .cells #[.int .i64 k, .string t, .slice A2 n2 c2, .slice A3 n3 c3] 25 (0, 0)) (V := fun g => .pointer (some ⟨g, 0, none⟩)) ?hr ?_; (case hd => rfl); (case hg => rfl); (case hr => first | (go_simp; done) | (go_simp; rfl))
       intro gA hgA w1 bA hbA
       have BA1 := Aside0.mk bA
       have HW1 := Aside0.mk hbA
       clear bA hbA hgA)
    | ((with_reducible refine gate_dst (N := 3) rfl ?_); refine law_new ?hg (N := 3) ?hd (ob := .cells #[.int .i64 k', .string t', .slice B2 m2 d2, .slice B3 m3 d3] 25 (0, 0)) (V := fun g => .pointer (some ⟨g, 0, none⟩)) ?hr ?_; (case hd => rfl); (case hg => rfl); (case hr => first | (go_simp; done) | (go_simp; rfl))
       intro gB hgB w2 bB hbB
       have BA2 := Aside0.mk (blk_below BA1.out hbB)
       have BB2 := Aside0.mk bB
       have HW2 := Aside0.mk (below_step HW1.out hbB)
       clear bB hbB hgB BA1 HW1)
    | ((with_reducible refine gate_dst (N := 5) rfl ?_); refine law_load rfl 25 _ rfl gA rfl BA2.out _ Tryz.underlying25 rfl (by kernel_rfl) ?_)
    | ((with_reducible refine gate_dst (N := 6) rfl ?_); refine law_load rfl 25 _ rfl gB rfl BB2.out _ Tryz.underlying25 rfl (by kernel_rfl) ?_)
    | (go_at_call 4; refine (HH.out w2 HW2.out).mono ?_; rintro e w4 ⟨rfl, hb⟩
       have BA := Aside0.mk (blk_below BA2.out hb)
       have BB := Aside0.mk (blk_below BB2.out hb)
       have HB := Aside0.mk (below_step HW2.out hb)
       clear hb BA2 BB2 HW2))
  have n0_ := Aside0.mk (blk_drew BA.out)
  have n1_ := Aside0.mk (blk_drew BB.out)
  have n2_ := Aside0.mk (below_drew1 HB.out)
  clear BA BB HB
  have BA := n0_
  have BB := n1_
  have HB := n2_
  clear n0_ n1_ n2_
  refine start_ (n := 11) (S := fun w' => w'.rangeAt gA 0 [.int .i64 k, .string t, .slice A2 n2 c2, .slice A3 n3 c3] ∧ w'.rangeAt gB 0 [.int .i64 k', .string t', .slice B2 m2 d2, .slice B3 m3 d3]) (ds := []) #[false, false, false, false, false, false, false, false, false, false, false] (by kernel_rfl) rfl rfl ⟨range_blk BA.out, range_blk BB.out⟩ (fun hHeld => ?_)
  generalize w4.drew = w10 at BA BB HB hHeld ⊢
  refine take_ (i := 0) (N := some 10) (v := .agg #[.int .i64 k, .string t, .slice A2 n2 c2, .slice A3 n3 c3]) (a' := ?_) #[true, false, false, false, false, false, false, false, false, false, false] rfl rfl (by kernel_rfl) (fun _ _ _ h => h) (yieldsIf_load_mid (by rfl) 25 (.tmp 2) rfl gA 0 rfl [.int .i64 k, .string t, .slice A2 n2 c2, .slice A3 n3 c3] _ (fun _ h => h.1) Tryz.underlying25 rfl (by kernel_rfl)) hHeld ?_ ?_
  rotate_left
  · simp only [Act.put, List.setIfInBounds_toArray, List.set_cons_zero, List.set_cons_succ, i64_w, i32_w]
    rfl
  refine take_ (i := 1) (N := some 11) (v := .agg #[.int .i64 k', .string t', .slice B2 m2 d2, .slice B3 m3 d3]) (a' := ?_) #[true, true, false, false, false, false, false, false, false, false, false] rfl rfl (by kernel_rfl) (fun _ _ _ h => h) (yieldsIf_load_mid (by rfl) 25 (.tmp 3) rfl gB 0 rfl [.int .i64 k', .string t', .slice B2 m2 d2, .slice B3 m3 d3] _ (fun _ h => h.2) Tryz.underlying25 rfl (by kernel_rfl)) hHeld ?_ ?_
  rotate_left
  · simp only [Act.put, List.setIfInBounds_toArray, List.set_cons_zero, List.set_cons_succ, i64_w, i32_w]
    rfl
  refine take_ (i := 3) (N := some 13) (v := .agg #[.int .i64 k, .string t, .slice A2 n2 c2, .slice A3 n3 c3]) (a' := ?_) #[true, true, false, true, false, false, false, false, false, false, false] rfl rfl (by kernel_rfl) (fun _ _ _ h => h) (yieldsIf_load_mid (by rfl) 25 (.tmp 2) rfl gA 0 rfl [.int .i64 k, .string t, .slice A2 n2 c2, .slice A3 n3 c3] _ (fun _ h => h.1) Tryz.underlying25 rfl (by kernel_rfl)) hHeld ?_ ?_
  rotate_left
  · simp only [Act.put, List.setIfInBounds_toArray, List.set_cons_zero, List.set_cons_succ, i64_w, i32_w]
    rfl
  refine take_ (i := 4) (N := some 14) (v := .agg #[.int .i64 k', .string t', .slice B2 m2 d2, .slice B3 m3 d3]) (a' := ?_) #[true, true, false, true, true, false, false, false, false, false, false] rfl rfl (by kernel_rfl) (fun _ _ _ h => h) (yieldsIf_load_mid (by rfl) 25 (.tmp 3) rfl gB 0 rfl [.int .i64 k', .string t', .slice B2 m2 d2, .slice B3 m3 d3] _ (fun _ h => h.2) Tryz.underlying25 rfl (by kernel_rfl)) hHeld ?_ ?_
  rotate_left
  · simp only [Act.put, List.setIfInBounds_toArray, List.set_cons_zero, List.set_cons_succ, i64_w, i32_w]
    rfl
  refine one_ (i := 2) (N := some 12) #[true, true, true, true, true, false, false, false, false, false, false] rfl rfl (by kernel_rfl) (by decide) (fun K hK => ?_)
  refine goes_ Tryz.func6 (by kernel_rfl) rfl #[.agg #[.int .i64 k, .string t, .slice A2 n2 c2, .slice A3 n3 c3], .agg #[.int .i64 k', .string t', .slice B2 m2 d2, .slice B3 m3 d3]] (by rfl) rfl rfl (by (try simp only [List.map_toArray, List.map_cons, List.map_nil]); first | done | rfl) ?_
  refine (HS.out.1 _ HB.out).mono ?_
  rintro e w20 ⟨rfl, hb⟩
  refine ⟨_, rfl, ?_⟩
  have n0_ := Aside0.mk (blk_below BA.out hb)
  have n1_ := Aside0.mk (blk_below BB.out hb)
  have n2_ := Aside0.mk (below_step HB.out hb)
  clear BA BB HB
  have BA := n0_
  have BB := n1_
  have HB := n2_
  clear n0_ n1_ n2_
  clear hb
  clear hHeld
  refine hK.out _ _ ⟨range_blk BA.out, range_blk BB.out⟩ (fun hHeld => ?_)
  clear hK K
  refine norm_ (a' := ?_) ?_ ?_
  rotate_left
  · show Act.put _ (some 12) _ = _
    simp only [Act.put, List.setIfInBounds_toArray, List.set_cons_zero, List.set_cons_succ, i64_w, i32_w]
    rfl
  refine one_ (i := 5) (N := some 15) #[true, true, true, true, true, true, false, false, false, false, false] rfl rfl (by kernel_rfl) (by decide) (fun K hK => ?_)
  refine goes_ Tryz.func7 (by kernel_rfl) rfl #[.agg #[.int .i64 k, .string t, .slice A2 n2 c2, .slice A3 n3 c3], .agg #[.int .i64 k', .string t', .slice B2 m2 d2, .slice B3 m3 d3]] (by rfl) rfl rfl (by (try simp only [List.map_toArray, List.map_cons, List.map_nil]); first | done | rfl) ?_
  refine (HS.out.2 _ HB.out).mono ?_
  rintro e w30 ⟨rfl, hb⟩
  refine ⟨_, rfl, ?_⟩
  have n0_ := Aside0.mk (blk_below BA.out hb)
  have n1_ := Aside0.mk (blk_below BB.out hb)
  have n2_ := Aside0.mk (below_step HB.out hb)
  clear BA BB HB
  have BA := n0_
  have BB := n1_
  have HB := n2_
  clear n0_ n1_ n2_
  clear hb
  clear hHeld
  refine hK.out _ _ ⟨range_blk BA.out, range_blk BB.out⟩ (fun hHeld => ?_)
  clear hK K
  refine norm_ (a' := ?_) ?_ ?_
  rotate_left
  · show Act.put _ (some 15) _ = _
    simp only [Act.put, List.setIfInBounds_toArray, List.set_cons_zero, List.set_cons_succ, i64_w, i32_w]
    rfl
  refine pure_ (i := 6) (N := some 16) (v := ?_) (a' := ?_) #[true, true, true, true, true, true, true, false, false, false, false] rfl rfl (by kernel_rfl) (fun _ _ _ h => h) (Or.inl ⟨by rfl, ?_⟩) ?_ ?_
  rotate_left
  · intro w'
    go_simp
    with_reducible rfl
  rotate_left
  · simp only [Act.put, List.setIfInBounds_toArray, List.set_cons_zero, List.set_cons_succ, i64_w, i32_w]
    rfl
  refine pure_ (i := 7) (N := some 17) (v := ?_) (a' := ?_) #[true, true, true, true, true, true, true, true, false, false, false] rfl rfl (by kernel_rfl) (fun _ _ _ h => h) (Or.inl ⟨by rfl, ?_⟩) ?_ ?_
  rotate_left
  · intro w'
    go_simp
    with_reducible rfl
  rotate_left
  · simp only [Act.put, List.setIfInBounds_toArray, List.set_cons_zero, List.set_cons_succ, i64_w, i32_w]
    rfl
  refine one_ (i := 8) (N := some 18) #[true, true, true, true, true, true, true, true, true, false, false] rfl rfl (by kernel_rfl) (by decide) (fun K hK => ?_)
  refine goes_ Tryz.func5 (by kernel_rfl) rfl #[] (by rfl) rfl rfl (by (try simp only [List.map_toArray, List.map_cons, List.map_nil]); first | done | rfl) ?_
  refine (live_walk _).mono ?_
  rintro e w40 ⟨rfl, hb⟩
  refine ⟨_, rfl, ?_⟩
  have n0_ := Aside0.mk (blk_below BA.out hb)
  have n1_ := Aside0.mk (blk_below BB.out hb)
  have n2_ := Aside0.mk (below_step HB.out hb)
  clear BA BB HB
  have BA := n0_
  have BB := n1_
  have HB := n2_
  clear n0_ n1_ n2_
  clear hb
  clear hHeld
  refine hK.out _ _ ⟨range_blk BA.out, range_blk BB.out⟩ (fun hHeld => ?_)
  clear hK K
  refine norm_ (a' := ?_) ?_ ?_
  rotate_left
  · show Act.put _ (some 18) _ = _
    simp only [Act.put, List.setIfInBounds_toArray, List.set_cons_zero, List.set_cons_succ, i64_w, i32_w]
    rfl
  refine pure_ (i := 9) (N := some 19) (v := ?_) (a' := ?_) #[true, true, true, true, true, true, true, true, true, true, false] rfl rfl (by kernel_rfl) (fun _ _ _ h => h) (Or.inl ⟨by rfl, ?_⟩) ?_ ?_
  rotate_left
  · intro w'
    go_simp
    with_reducible rfl
  rotate_left
  · simp only [Act.put, List.setIfInBounds_toArray, List.set_cons_zero, List.set_cons_succ, i64_w, i32_w]
    rfl
  refine pure_ (i := 10) (N := some 4) (v := ?_) (a' := ?_) #[true, true, true, true, true, true, true, true, true, true, true] rfl rfl (by kernel_rfl) (fun _ _ _ h => h) (Or.inl ⟨by rfl, ?_⟩) ?_ ?_
  rotate_left
  · intro w'
    go_simp
    with_reducible rfl
  rotate_left
  · simp only [Act.put, List.setIfInBounds_toArray, List.set_cons_zero, List.set_cons_succ, i64_w, i32_w]
    rfl
  refine done_ (by kernel_rfl) ?_
  go_wp2
  go_ret
  exact ⟨rfl, HB.out⟩
theorem law_walk (vg vb : Value) (g b : Gn) (w : World) (hg : GenIs w vg g) (hb : GenIs w vb b) (og : GenOk g) (ob : GenOk b) (hT : Tabs w) : Calls Tryz.prog 3 #[vg, vb] w fun e w' => e = .returned (.bool true) ∧ Below w.heap.size w w' := by
  obtain ⟨k, hr, hk, hth⟩ := hugeG_ev g b
  have hg2 := hg
  have hb2 := hb
  obtain ⟨A2, c2, A3, c3, rfl, h2, hC2, h3, hC3⟩ := hg
  obtain ⟨B2, d2, B3, d3, rfl, e2, eC2, e3, eC3⟩ := hb
  have hh : ∀ W : World, Below w.heap.size w W → Calls Tryz.prog 4 #[.slice (some ⟨W.heap.size, 0, none⟩) 2 2, .int .i64 2, .int .i64 2000] (W.alloc (.cells #[.int .i64 g.f0, .string g.f1, .slice A2 g.f2.length c2, .slice A3 g.f3.length c3, .int .i64 b.f0, .string b.f1, .slice B2 b.f2.length d2, .slice B3 b.f3.length d3] 25)) fun e w' => e = .returned (.bool hr) ∧ Below W.heap.size W w' := fun W hW => by
    have hX := below_alloc hW (.cells #[.int .i64 g.f0, .string g.f1, .slice A2 g.f2.length c2, .slice A3 g.f3.length c3, .int .i64 b.f0, .string b.f1, .slice B2 b.f2.length d2, .slice B3 b.f3.length d3] 25)
    have hC := two_C (blk_new W _) h2 (Kd.C_below hC2 hX) h3 (Kd.C_below hC3 hX) e2 (Kd.C_below eC2 hX) e3 (Kd.C_below eC3 hX)
    refine (chirographref14_Huge.calls k (some ⟨W.heap.size, 0, none⟩) 2 [g, b] 2 2000 hr _ hC (Nat.le_refl _) hk).mono fun e w' h => ⟨h.1, ?_⟩
    exact below_step (below_alloc (Below.refl W.heap.size W) _) h.2.below
  cases hr with
  | true => exact law_big _ _ _ _ _ _ _ _ _ _ _ _ _ _ _ _ w hh
  | false =>
    obtain ⟨tg, tb⟩ := hth rfl
    obtain ⟨r, hs⟩ := both g b _ _ w hg2 hb2 tg tb og ob hT
    exact law_small _ _ _ _ _ _ _ _ _ _ _ _ _ _ _ _ w r hh hs
end Go.Proofs.YtpdhbpdfldfnhaaGreatDoor.Rk
/- of RgOpen -/
/- The law's arguments, opened: names of some kind; and the law's row's walk. -/
namespace Go.Proofs.YtpdhbpdfldfnhaaGreatDoor.Rk
open Go Go.RowKit Go.ChangeShapes Go.WideShapes Go.Deep Go.Proofs.YtpdhbpdfldfnhaaGreatDoorW.PrintWords Go.Proofs.YtpdhbpdfldfnhaaGreatDoorW.PrintLast Go.Proofs.YtpdhbpdfldfnhaaGreatDoorW.PrintMore Go.Proofs.YtpdhbpdfldfnhaaGreatDoor.Rn Go.Proofs.YtpdhbpdfldfnhaaGreatDoor.Nm
theorem list_of {α : Type} (len : Nat) (P : Nat → α → Prop) (h : ∀ i, i < len → ∃ x, P i x) : ∃ l : List α, l.length = len ∧ ∀ (i : Nat) x, l[i]? = some x → P i x := by
  have : ∀ m, m ≤ len → ∃ l : List α, l.length = m ∧ ∀ (i : Nat) x, l[i]? = some x → P i x := by
    intro m
    induction m with
    | zero => exact fun _ => ⟨[], rfl, fun i x hx => by simp at hx⟩
    | succ m ih =>
      intro hm
      obtain ⟨l, h1, h2⟩ := ih (by omega)
      obtain ⟨y, hy⟩ := h m (by omega)
      refine ⟨l ++ [y], by simp [h1], fun i x hx => ?_⟩
      rcases Nat.lt_or_ge i l.length with hlt | hge
      · rw [List.getElem?_append_left hlt] at hx
        exact h2 i x hx
      · rw [List.getElem?_append_right hge] at hx
        have hi := (List.getElem?_eq_some_iff.1 hx).1
        have h0 : i - l.length = 0 := by simpa using hi
        rw [h0] at hx
        cases hx
        have : i = m := by omega
        subst this
        exact hy
  exact this len (Nat.le_refl _)
section
variable {H : Type} {enc : TypeId × Value → H} {w : World} {base : Nat} {held : Bool}
theorem open_slice_fields {P : Program} {spare : Nat → Bool} {t e : TypeId} {fs : Array Field} {fuel : Nat} {cs : List Value} {x : DataW H × List MemPlace} (ht : P.underlying t = some (.slice e)) (he : P.underlying e = some (.struct fs))
    (hone : oneCellFields P fs = true) (hC : P.cellsOf e = fs.size) (h : DataW.trod enc P w base spare held fuel t cs = some x) :
    (cs = [.slice none 0 0] ∧ x = (.nil, [])) ∨
    ∃ (a : Addr) (len cap m : Nat), cs = [.slice (some a) len cap] ∧ len ≤ cap ∧ cap ≤ maxLen ∧ m = (if spare a.block then cap else len) ∧
      ∀ i, i < m → ∃ (n : Nat), ∀ (j : Nat) (f : Field), fs[j]? = some f → ∃ (v : Value) (y : DataW H × List MemPlace), w.cell? (a.add (i * fs.size + j)) = some v ∧ DataW.trod enc P w base spare held n f.type [v] = some y := by
  rcases open_slice ht h with h0 | ⟨a, len, cap, m, n, D, Pl, hcs, hb, hl, hm, hmm, hx, hi⟩
  · exact .inl h0
  · refine .inr ⟨a, len, cap, m, hcs, hl, hm, hmm, fun i him => ?_⟩
    obtain ⟨cs', hc, ht'⟩ := hi i him
    rw [hC] at hc
    obtain ⟨ys, n', hn', hy, hlen, hyl, hf⟩ := DataW.trod_struct he ht'
    obtain ⟨_, hcl, hat⟩ := World.cells?_some hc
    refine ⟨n', fun j f hj => ?_⟩
    obtain ⟨ho, hk⟩ := hone_of hone j f hj
    have hjl : j < fs.size := (Array.getElem?_eq_some_iff.1 hj).1
    have hcell := hat j hjl
    have hv : cs'[j]? = some (cs'[j]'(by omega)) := List.getElem?_eq_getElem (by omega)
    have h1 := hf j f hj
    rw [ho, hk] at h1
    have hone' : (cs'.drop j).take 1 = [cs'[j]'(by omega)] := by
      rw [List.drop_eq_getElem_cons (by omega)]
      rfl
    rw [hone'] at h1
    have hys : ys[j]? = some (ys[j]'(by omega)) := List.getElem?_eq_getElem (by omega)
    refine ⟨_, _, ?_, h1.trans hys⟩
    rw [← Go.Deep.add_add, hcell, hv]
theorem bytes_r_of {l : List Int} (h : ∀ x ∈ l, (Lit.int .u8 x).wf = true) : Rn.Bytes l := bytes_of_wf h
set_option maxRecDepth 100000 in
theorem open_bytes {fuel : Nat} {v : Value} {x : DataW H × List MemPlace} (h : DataW.trod enc Tryz.prog w base (fun _ => true) held fuel 22 [v] = some x) : ∃ (l : List Int) (A : Option Addr) (c : Nat), v = .slice A l.length c ∧ l.length ≤ c ∧ Kd.C (Kd.int .u8) w A l.length l ∧ (∀ x ∈ l, (Lit.int .u8 x).wf = true) := by
  rcases open_ints Tryz.underlying22 Tryz.underlying5 (by kernel_rfl) h with ⟨hcs, _⟩ | ⟨a, len, cap, zs, hcs, _, hl, hm, hz, _, hcell, hwz⟩
  · simp at hcs
    subst hcs
    exact ⟨[], none, 0, rfl, Nat.le_refl _, ⟨rfl, by simp, fun h => by simp at h⟩, by simp⟩
  · simp at hcs
    subst hcs
    obtain ⟨l, e, h1, h2, h3, h4⟩ := ReadsInt.ofRowC (k := .u8) (w := w) (a := some a) (len := len) (cap := cap) (zs := zs) (.inr ⟨a, rfl, hl, hm, by simpa using hz, hcell, hwz⟩)
    exact ⟨l, some a, cap, by rw [e], h4, Kd.C_of_reads (d := (0 : Int)) (h1 := fun _ => rfl) h1, h3⟩
def AtOk (x : At) : Prop := Tx.Bytes x.f2 ∧ (-9223372036854775808 ≤ x.f1 ∧ x.f1 ≤ 9223372036854775807)
set_option maxRecDepth 100000 in
theorem open_set {fuel : Nat} {v : Value} {x : DataW H × List MemPlace} (h : DataW.trod enc Tryz.prog w base (fun _ => true) held fuel 39 [v] = some x) : ∃ (l : List At) (A : Option Addr) (c : Nat), v = .slice A l.length c ∧ l.length ≤ c ∧ Kd.C k41 w A l.length l ∧ (∀ x ∈ l, AtOk x) := by
  rcases open_slice_fields Tryz.underlying39 Tryz.underlying41 (by kernel_rfl) (by kernel_rfl) h with ⟨hcs, _⟩ | ⟨a, len, cap, m, hcs, hl, hm, hmm, hi⟩
  · simp at hcs
    subst hcs
    exact ⟨[], none, 0, rfl, Nat.le_refl _, ⟨rfl, by simp, fun h => by simp at h⟩, by simp⟩
  · simp at hcs
    subst hcs
    have hm' : m = cap := by simpa using hmm
    obtain ⟨l, hll, hP⟩ := list_of len (fun i (y : At) => AtOk y ∧ ∃ A2 c2, w.cell? (a.add (i * 3 + 0)) = some (.string y.f0) ∧ w.cell? (a.add (i * 3 + 1)) = some (.int .i64 y.f1) ∧ w.cell? (a.add (i * 3 + 2)) = some (.slice A2 y.f2.length c2) ∧ y.f2.length ≤ c2 ∧ Kd.C (Kd.int .u8) w A2 y.f2.length y.f2) (fun i hil => by
      obtain ⟨n, hn⟩ := hi i (by omega)
      obtain ⟨v0, y0, c0, t0⟩ := hn 0 _ rfl
      obtain ⟨v1, y1, c1, t1⟩ := hn 1 _ rfl
      obtain ⟨v2, y2, c2, t2⟩ := hn 2 _ rfl
      obtain ⟨s, e0, _, _⟩ := DataW.trod_string Tryz.underlying9 t0
      obtain ⟨x1, e1, _, w1⟩ := DataW.trod_int Tryz.underlying3 t1
      obtain ⟨b, A2, cc, e2, hb1, hb2, hb3⟩ := open_bytes t2
      simp at e0 e1
      subst e0 e1 e2
      exact ⟨⟨s, x1, b⟩, ⟨Tx.bytes_of_wf hb3, Tx.int_of_wf w1⟩, A2, cc, c0, c1, c2, hb1, hb2⟩)
    refine ⟨l, some a, cap, by rw [hll], by omega, ⟨rfl, by unfold maxLen at hm; omega, fun _ => ⟨a, rfl, fun j p hj => ?_⟩⟩, fun x hx => ?_⟩
    · obtain ⟨_, A2, c2, q0, q1, q2, q3, q4⟩ := hP j p hj
      refine ⟨[.string p.f0, .int .i64 p.f1, .slice A2 p.f2.length c2], rfl, k41_mk w p q3 q4, fun i u hu => ?_⟩
      have hi3 : i < 3 := (List.getElem?_eq_some_iff.1 hu).1
      show w.cell? (a.add (j * 3 + i)) = some u
      rcases (show i = 0 ∨ i = 1 ∨ i = 2 by omega) with rfl | rfl | rfl
      · cases hu
        exact q0
      · cases hu
        exact q1
      · cases hu
        exact q2
    · obtain ⟨j, hj, rfl⟩ := List.mem_iff_getElem.1 hx
      exact (hP j _ (List.getElem?_eq_getElem hj)).1
set_option maxRecDepth 100000 in
theorem open_name {fuel : Nat} {v : Value} {x : DataW H × List MemPlace} (h : DataW.trod enc Tryz.prog w base (fun _ => true) held fuel 23 [v] = some x) : ∃ (l : List (List At)) (A : Option Addr) (c : Nat), v = .slice A l.length c ∧ l.length ≤ c ∧ Kd.C (Kd.slice 41 k41) w A l.length l ∧ (∀ s ∈ l, ∀ x ∈ s, AtOk x) := by
  rcases open_slice Tryz.underlying23 h with ⟨hcs, _⟩ | ⟨a, len, cap, m, n, D, Pl, hcs, _, hl, hm, hmm, _, hi⟩
  · simp at hcs
    subst hcs
    exact ⟨[], none, 0, rfl, Nat.le_refl _, ⟨rfl, by simp, fun h => by simp at h⟩, by simp⟩
  · simp at hcs
    subst hcs
    have hm' : m = cap := by simpa using hmm
    have h1 : Tryz.prog.cellsOf 39 = 1 := by kernel_rfl
    obtain ⟨l, hll, hP⟩ := list_of len (fun i (y : List At) => (∀ x ∈ y, AtOk x) ∧ ∃ A2 c2, w.cell? (a.add (i * 1 + 0)) = some (.slice A2 y.length c2) ∧ y.length ≤ c2 ∧ Kd.C k41 w A2 y.length y) (fun i hil => by
      obtain ⟨cs', hc, ht'⟩ := hi i (by omega)
      rw [h1] at hc
      obtain ⟨_, hcl, hat⟩ := World.cells?_some hc
      have h0 := hat 0 (by omega)
      obtain ⟨u, rfl⟩ : ∃ u, cs' = [u] := by
        match cs', hcl with
        | [u], _ => exact ⟨u, rfl⟩
      obtain ⟨s, A2, c2, e, q1, q2, q3⟩ := open_set ht'
      subst e
      refine ⟨s, q3, A2, c2, ?_, q1, q2⟩
      rw [← Go.Deep.add_add, h0]
      rfl)
    refine ⟨l, some a, cap, by rw [hll], by omega, ⟨rfl, by unfold maxLen at hm; omega, fun _ => ⟨a, rfl, fun j p hj => ?_⟩⟩, fun x hx => ?_⟩
    · obtain ⟨_, A2, c2, q0, q3, q4⟩ := hP j p hj
      refine ⟨[.slice A2 p.length c2], rfl, ⟨A2, c2, rfl, q3, q4⟩, fun i u hu => ?_⟩
      have hi3 : i < 1 := (List.getElem?_eq_some_iff.1 hu).1
      obtain rfl : i = 0 := by omega
      cases hu
      exact q0
    · obtain ⟨j, hj, rfl⟩ := List.mem_iff_getElem.1 hx
      exact (hP j _ (List.getElem?_eq_getElem hj)).1
set_option maxRecDepth 100000 in
theorem open_gen {r : Reach} {b0 : Nat} {v : Value} {d : DataW H} {p : List MemPlace} (hv : Value.okWide Tryz.prog w r b0 25 v) (h : DataW.Trod enc Tryz.prog w base (fun _ => true) held 25 v d p) :
    ∃ g : Gn, GenIs w v g ∧ GenOk g := by
  obtain ⟨v0, v1, v2, v3, y0, y1, y2, y3, n, rfl, _, _, h0, h1, h2, h3⟩ := Joins.open_agg4 Tryz.underlying25 (by kernel_rfl) (by kernel_rfl) hv h
  obtain ⟨x0, e0, _, w0⟩ := DataW.trod_int Tryz.underlying3 h0
  obtain ⟨s, e1, _, _⟩ := DataW.trod_string Tryz.underlying9 h1
  obtain ⟨b, A2, c2, e2, hb1, hb2, hb3⟩ := open_bytes h2
  obtain ⟨l, A3, c3, e3, hl1, hl2, hl3⟩ := open_name h3
  simp at e0 e1
  subst e0 e1 e2 e3
  exact ⟨⟨x0, s, b, l⟩, ⟨A2, c2, A3, c3, rfl, hb1, hb2, hl1, hl2⟩, bytes_r_of hb3, hl3⟩
end
theorem matches_row (v0 : Value) (g0 : Gn) (v1 : Value) (g1 : Gn) (w : World) (h0 : GenIs w v0 g0 ∧ GenOk g0) (h1 : GenIs w v1 g1 ∧ GenOk g1) (hT : Tabs w) : Calls Tryz.prog 3 #[v0, v1] w fun e w' => e = .returned (.bool true) ∧ Below w.heap.size w w' :=
  law_walk v0 v1 g0 g1 w h0.1 h1.1 h0.2 h1.2 hT
end Go.Proofs.YtpdhbpdfldfnhaaGreatDoor.Rk
