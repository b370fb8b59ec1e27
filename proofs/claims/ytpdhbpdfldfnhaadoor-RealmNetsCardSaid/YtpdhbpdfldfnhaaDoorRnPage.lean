/- The page's examples of the realm, walked: the law's live. -/
import Derived.Test.YtpdhbpdfldfnhaaDoorRnLive
set_option linter.unusedVariables false
set_option linter.unusedSimpArgs false
namespace Go.Proofs.YtpdhbpdfldfnhaaDoor.Rn
open Go Go.RowKit Go.Proofs.YtpdhbpdfldfnhaaDoorW.PrintWords Go.Proofs.YtpdhbpdfldfnhaaDoorW.PrintLast Go.Proofs.YtpdhbpdfldfnhaaDoorW.PrintMore Go.Proofs.YtpdhbpdfldfnhaaDoor.Rm
theorem bytes_block {w : World} {b : Nat} {l : List Int} {fr : Nat × Nat} (h : w.heap[b]? = some (.cells (l.map (Value.int .u8)).toArray 5 fr)) (hl : l.length ≤ 9223372036854775807) : Kd.C (Kd.int .u8) w (some ⟨b, 0, none⟩) l.length l := by
  refine ⟨rfl, hl, fun _ => ⟨_, rfl, fun j p hp => ⟨[.int .u8 p], rfl, rfl, fun i u hu => ?_⟩⟩⟩
  have hi : i = 0 := by
    have := (List.getElem?_eq_some_iff.1 hu).1
    simp at this
    omega
  subst hi
  cases hu
  show w.cell? ((⟨b, 0, none⟩ : Addr).add (j * (Kd.int .u8).sz + 0)) = _
  have e2 : (⟨b, 0, none⟩ : Addr).add (j * (Kd.int .u8).sz + 0) = ⟨b, j, none⟩ := by
    show (⟨b, 0, none⟩ : Addr).add (j * 1 + 0) = _
    simp [Addr.add]
    omega
  rw [e2, cell_of_row w b j _ _ _ h]
  simp [hp]
set_option maxHeartbeats 4000000 in
set_option maxRecDepth 100000 in
/-- the page's other question: one of another kind permitted -/
theorem allowed_yes (w : World) (ga gb : Nat) (ha : GenAt w ga 2 sa) (hb : GenAt w gb 1 sb) :
    Calls Tryd.prog 9 #[.slice (some ⟨ga, 0, none⟩) 1 1, .slice (some ⟨gb, 0, none⟩) 1 1, nilS] w fun e w' => e = .returned (.bool true) ∧ Below w.heap.size w w' := by
  obtain ⟨a0, a1, a2, a3⟩ := gen_cell ha
  have HB0 := Aside0.mk hb
  clear ha hb
  go_enter Tryd.func9, Tryd.ntmps9
  go_wp2
  go_loopw [14] (fun i wr => (i = .int .i64 0 ∧ wr = w) ∨ (i = .int .i64 1 ∧ Aside0 (Below w.heap.size w wr))) (fun i _ => 1 - (intOf i).toNat)
  case atStart => exact .inl ⟨rfl, rfl⟩
  case round =>
    rcases hrel with ⟨rfl, rfl⟩ | ⟨rfl, HW⟩
    case inr =>
      go_wp2
      go_ret
      exact ⟨rfl, HW.out⟩
    go_wp2_with (first
      | ((with_reducible refine gate_dst (N := 8) rfl ?_); refine law_new ?hg (N := 8) ?hd (ob := .cells (genC 0 ⟨#[]⟩) 27 (0, 0)) (V := fun g => .pointer (some ⟨g, 0, none⟩)) ?hr ?_; (case hd => rfl); (case hg => rfl); (case hr => first | (go_simp; done) | (go_simp; rfl))
         intro g8 hg8 w1 b8 hb8
         have B8 := Aside0.mk b8
         have HBx := Aside0.mk hb8
         have HG8 := Aside0.mk (Nat.le_of_eq hg8.symm)
         clear b8 hb8 hg8)
      | (have h0_ := B8.out; refine law_store ?q1 27 (.tmp 8) (.tmp 17) ?q2 g8 (genC 2 sa) ?q3 ?q4 h0_ ?q5 ?q6 ?q7 ?_; (case q1 => rfl); (case q2 => rfl); (case q3 => rfl); (case q4 => rfl); (case q5 => rfl); (case q6 => kernel_rfl); (case q7 => first | rfl | (simp [Value.oneCell']) | kernel_rfl)
         intro w2 b8 hg2 hs2
         have B8x := Aside0.mk b8
         have HB := Aside0.mk (HBx.out.grown hg2 HBx.out.size (fun j hj => by cases hj; exact HG8.out))
         clear b8 hg2 hs2 h0_ B8 HBx)
      | ((with_reducible refine gate_dst (N := 20) rfl ?_); refine law_load1 rfl 3 _ rfl g8 0 rfl B8x.out (.int .i64 2) rfl _ Tryd.underlying3 rfl ?_)
      | (go_at_call 15; refine (of_dns _).mono ?_; rintro e w3 ⟨rfl, hb⟩
         have B8y := Aside0.mk (blk_below B8x.out hb)
         have HBy := Aside0.mk (below_step HB.out hb)
         clear hb B8x HB)
      | ((with_reducible refine gate_dst (N := 9) rfl ?_); refine law_new ?hg (N := 9) ?hd (ob := .cells #[.nilFunc] 36 (0, 0)) (V := fun g => .pointer (some ⟨g, 0, none⟩)) ?hr ?_; (case hd => rfl); (case hg => rfl); (case hr => first | (go_simp; done) | (go_simp; rfl))
         intro g9 hg9 w4 b9 hb9
         have B9 := Aside0.mk b9
         have B8z := Aside0.mk (blk_below B8y.out hb9)
         have HNE := Aside0.mk (show g8 < g9 by rw [hg9]; exact blk_lt B8y.out)
         have HBz := Aside0.mk (below_step HBy.out hb9)
         have HG9 := Aside0.mk (show wr.heap.size ≤ g9 by rw [hg9]; exact HBy.out.size)
         clear b9 hb9 hg9 B8y HBy)
      | (have h0_ := B9.out; refine law_store ?q1 36 (.tmp 9) (.tmp 22) ?q2 g9 #[dnsF] ?q3 ?q4 h0_ ?q5 ?q6 ?q7 ?_; (case q1 => rfl); (case q2 => rfl); (case q3 => rfl); (case q4 => rfl); (case q5 => rfl); (case q6 => kernel_rfl); (case q7 => first | rfl | (simp [Value.oneCell']) | kernel_rfl)
         intro w5 b9 hg5 hs5
         have B9x := Aside0.mk b9
         have B8w := Aside0.mk (blk_grown B8z.out hg5 (fun e => by have h1 := Option.some.inj e; have h2 := HNE.out; omega))
         have HBw := Aside0.mk (HBz.out.grown hg5 HBz.out.size (fun j hj => by cases hj; exact HG9.out))
         clear b9 hg5 hs5 h0_ B9 B8z HBz)
      | (go_at_call 17; have h0_ := B9x.out; refine (contains_of (b := false) rfl (index_nil _ _)).mono ?_; rintro e w6 ⟨rfl, hb⟩
         have HC6 := Aside0.mk (And.intro (blk_below B8w.out hb) (And.intro (blk_below h0_ hb) (below_step HBw.out hb)))
         clear hb h0_ B9x B8w HBw)
      | (go_at_call 17; have h0_ := HC6.out; refine (contains_of (b := false) rfl (index_no _ gb g8 g8 (blk_below HB0.out h0_.2.2) h0_.1)).mono ?_; rintro e w7 ⟨rfl, hb⟩
         have HZ := Aside0.mk (below_step h0_.2.2 hb)
         clear hb h0_ HC6))
    go_roundw
    case rel => exact .inr ⟨rfl, ⟨HZ.out⟩⟩
    case measure => simp [intOf]
abbrev cells4 : Array Value := #[.int .u8 10, .int .u8 1, .int .u8 2, .int .u8 3]
abbrev cells8 : Array Value := #[.int .u8 10, .int .u8 1, .int .u8 0, .int .u8 0, .int .u8 255, .int .u8 255, .int .u8 0, .int .u8 0]
theorem net_page (w : World) : Calls Tryd.prog 5 #[.slice (some ⟨w.heap.size, 0, none⟩) 4 4, .slice (some ⟨w.heap.size + 1, 0, none⟩) 8 8] ((w.alloc (.cells cells4 5)).alloc (.cells cells8 5)) fun e w' => e = .returned (.bool true) ∧ Below w.heap.size w w' := by
  have h4 : ((w.alloc (.cells cells4 5)).alloc (.cells cells8 5)).heap[w.heap.size]? = some (.cells cells4 5 (0, 0)) := blk_alloc (blk_new w _) _
  have h8 : ((w.alloc (.cells cells4 5)).alloc (.cells cells8 5)).heap[w.heap.size + 1]? = some (.cells cells8 5 (0, 0)) := by
    have h := blk_new (w.alloc (.cells cells4 5)) (.cells cells8 5)
    rw [World.size_alloc] at h
    exact h
  have hb : Below w.heap.size w ((w.alloc (.cells cells4 5)).alloc (.cells cells8 5)) := below_alloc (below_alloc (Below.refl _ _) _) _
  refine (realm_Net.calls 20 (some ⟨w.heap.size, 0, none⟩) 4 [10, 1, 2, 3] (some ⟨w.heap.size + 1, 0, none⟩) 8 [10, 1, 0, 0, 255, 255, 0, 0] true _ (bytes_block (l := [10, 1, 2, 3]) h4 (by decide)) (by decide) (bytes_block (l := [10, 1, 0, 0, 255, 255, 0, 0]) h8 (by decide)) (by decide) (by kernel_rfl)).mono fun e w' h => ⟨h.1, ?_⟩
  obtain ⟨nd, rfl⟩ := h.2
  exact pw_below_drewN hb nd
theorem host_at (a b : ByteArray) (r : Bool) (h : realm_Host.f 10 a b = some r) (w : World) : Calls Tryd.prog 7 #[.string a, .string b] w fun e w' => e = .returned (.bool r) ∧ Below w.heap.size w w' := realm_Host.calls 10 a b r w h
theorem mail_at (a b : ByteArray) (r : Bool) (h : realm_Mail.f 40 a b = some r) (w : World) : Calls Tryd.prog 8 #[.string a, .string b] w fun e w' => e = .returned (.bool r) ∧ Below w.heap.size w w' := realm_Mail.calls 40 a b r w h
set_option maxHeartbeats 8000000 in
set_option maxRecDepth 100000 in
theorem live_walk (w : World) : Calls Tryd.prog 4 #[] w fun e w' => e = .returned (.bool true) ∧ Below w.heap.size w w' := by
  go_enter Tryd.func4, Tryd.ntmps4
  go_wp2_with (first
    | ((with_reducible refine gate_dst (N := 4) rfl ?_); refine law_new ?hg (N := 4) ?hd (ob := .cells (genC 2 sa) 27 (0, 0)) (V := fun g => .slice (some ⟨g, 0, none⟩) 1 1) ?hr ?_; (case hd => rfl); (case hg => rfl); (case hr => first | (go_simp; done) | (go_simp; rfl))
       intro ga hga w1 b1 hb1
       have A1 := Aside0.mk (And.intro b1 hb1)
       clear b1 hb1 hga)
    | ((with_reducible refine gate_dst (N := 6) rfl ?_); refine law_new ?hg (N := 6) ?hd (ob := .cells (genC 2 sb) 27 (0, 0)) (V := fun g => .slice (some ⟨g, 0, none⟩) 1 1) ?hr ?_; (case hd => rfl); (case hg => rfl); (case hr => first | (go_simp; done) | (go_simp; rfl))
       intro gb hgb w2 b2 hb2
       have A2 := Aside0.mk (And.intro (blk_below A1.out.1 hb2) (And.intro b2 (below_step A1.out.2 hb2)))
       clear b2 hb2 hgb A1)
    | (go_at_call 7; have h0_ := A2.out; refine (host_at _ _ true (by kernel_rfl) _).mono ?_; rintro e w3 ⟨rfl, hb⟩
       have A3 := Aside0.mk (And.intro (blk_below h0_.1 hb) (And.intro (blk_below h0_.2.1 hb) (below_step h0_.2.2 hb)))
       clear hb h0_ A2)
    | (go_at_call 7; have h0_ := A3.out; refine (host_at _ _ false (by kernel_rfl) _).mono ?_; rintro e w4 ⟨rfl, hb⟩
       have A4 := Aside0.mk (And.intro (blk_below h0_.1 hb) (And.intro (blk_below h0_.2.1 hb) (below_step h0_.2.2 hb)))
       clear hb h0_ A3)
    | (go_at_call 7; have h0_ := A4.out; refine (host_at _ _ false (by kernel_rfl) _).mono ?_; rintro e w5 ⟨rfl, hb⟩
       have A5 := Aside0.mk (And.intro (blk_below h0_.1 hb) (And.intro (blk_below h0_.2.1 hb) (below_step h0_.2.2 hb)))
       clear hb h0_ A4)
    | (go_at_call 8; have h0_ := A5.out; refine (mail_at _ _ true (by kernel_rfl) _).mono ?_; rintro e w6 ⟨rfl, hb⟩
       have A6 := Aside0.mk (And.intro (blk_below h0_.1 hb) (And.intro (blk_below h0_.2.1 hb) (below_step h0_.2.2 hb)))
       clear hb h0_ A5)
    | (go_at_call 8; have h0_ := A6.out; refine (mail_at _ _ false (by kernel_rfl) _).mono ?_; rintro e w7 ⟨rfl, hb⟩
       have A7 := Aside0.mk (And.intro (blk_below h0_.1 hb) (And.intro (blk_below h0_.2.1 hb) (below_step h0_.2.2 hb)))
       clear hb h0_ A6)
    | (go_at_call 5; have h0_ := A7.out; refine (net_page w7).mono ?_; rintro e w8 ⟨rfl, hb⟩
       have A8 := Aside0.mk (And.intro (blk_below h0_.1 hb) (And.intro (blk_below h0_.2.1 hb) (below_step h0_.2.2 hb)))
       clear hb h0_ A7)
    | (go_at_call 9; have h0_ := A8.out; refine (allowed_no _ ga gb h0_.1 h0_.2.1).mono ?_; rintro e w9 ⟨rfl, hb⟩
       have A9 := Aside0.mk (And.intro (blk_below h0_.1 hb) (below_step h0_.2.2 hb))
       clear hb h0_ A8)
    | (go_at_call 9; have h0_ := A9.out; refine (allowed_yes _ ga w9.heap.size (blk_alloc h0_.1 _) (blk_new w9 _)).mono ?_; rintro e w10 ⟨rfl, hb⟩
       have HZ := Aside0.mk (below_step (below_alloc h0_.2 _) hb)
       clear hb h0_ A9))
  go_ret
  exact ⟨rfl, HZ.out⟩
end Go.Proofs.YtpdhbpdfldfnhaaDoor.Rn
