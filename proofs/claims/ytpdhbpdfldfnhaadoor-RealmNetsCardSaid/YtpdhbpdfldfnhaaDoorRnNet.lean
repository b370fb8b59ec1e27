/- The law RealmNets: the two answers are one, and its walk. -/
import Derived.Test.YtpdhbpdfldfnhaaDoorRnPage
import Derived.Laws.BitsAllLaws
set_option linter.unusedVariables false
set_option linter.unusedSimpArgs false
namespace Go.Proofs.YtpdhbpdfldfnhaaDoor.Rn
open Go Go.RowKit Go.Proofs.YtpdhbpdfldfnhaaDoorW.PrintWords Go.Proofs.YtpdhbpdfldfnhaaDoorW.PrintLast Go.Proofs.YtpdhbpdfldfnhaaDoorW.PrintMore Go.Proofs.YtpdhbpdfldfnhaaDoor.Rm
theorem xor_zero (a b : Nat) : a ^^^ b = 0 ↔ a = b := by
  constructor
  · intro h
    apply Nat.eq_of_testBit_eq
    intro i
    have h1 : (a ^^^ b).testBit i = false := by rw [h, Nat.zero_testBit]
    rw [Nat.testBit_xor] at h1
    revert h1
    cases a.testBit i <;> cases b.testBit i <;> simp
  · rintro rfl
    exact Nat.xor_self a
theorem mask_nat (a b m : Nat) : (a ^^^ b) &&& m = 0 ↔ a &&& m = b &&& m := by
  rw [← xor_zero (a &&& m) (b &&& m)]
  have : (a ^^^ b) &&& m = (a &&& m) ^^^ (b &&& m) := by
    apply Nat.eq_of_testBit_eq
    intro i
    simp only [Nat.testBit_and, Nat.testBit_xor]
    cases a.testBit i <;> cases b.testBit i <;> cases m.testBit i <;> rfl
  rw [this]
theorem mask_iff {a b m : Int} (ha : 0 ≤ a ∧ a ≤ 255) (hb : 0 ≤ b ∧ b ≤ 255) (hm : 0 ≤ m ∧ m ≤ 255) : Go.bits .and .u8 (Go.bits .xor .u8 a b) m = 0 ↔ Go.bits .and .u8 a m = Go.bits .and .u8 b m := by
  obtain ⟨x, rfl⟩ : ∃ x : Nat, (x : Int) = a := ⟨a.toNat, by omega⟩
  obtain ⟨y, rfl⟩ : ∃ x : Nat, (x : Int) = b := ⟨b.toNat, by omega⟩
  obtain ⟨z, rfl⟩ : ∃ x : Nat, (x : Int) = m := ⟨m.toNat, by omega⟩
  have hx : x < 256 := by omega
  have hy : y < 256 := by omega
  have hz : z < 256 := by omega
  have hxy : x ^^^ y < 256 := Nat.xor_lt_two_pow (n := 8) hx hy
  rw [u8_xor_nat x y hx hy, u8_and_nat _ z hxy hz, u8_and_nat x z hx hz, u8_and_nat y z hy hz]
  have h := mask_nat x y z
  constructor
  · intro e
    have := h.1 (by exact_mod_cast e)
    rw [this]
  · intro e
    have := h.2 (by exact_mod_cast e)
    rw [this]
    rfl
def Bytes (xs : List Int) : Prop := ∀ x ∈ xs, 0 ≤ x ∧ x ≤ 255
theorem rd_byte {xs : List Int} (h : Bytes xs) (i : Int) : 0 ≤ rd xs i ∧ rd xs i ≤ 255 := by
  unfold rd
  rw [List.getD]
  cases hq : xs[i.toNat]? with
  | none => simp
  | some x => exact h x (List.mem_of_getElem? hq)
theorem wrap64_low {x : Int} (h0 : 0 ≤ x) (h1 : x ≤ 1000000) : wrap64 x = x := by
  unfold wrap64
  omega
theorem net_loop (x0 x1 : List Int) (n : Nat) (hn : x0.length = n) (h1 : x1.length = 2 * n) (hn2 : n ≤ 2000) (hb0 : Bytes x0) (hb1 : Bytes x1) : ∀ (d i : Nat), i + d = n →
    ∃ r, realm_Net.l0 (d + 1) x0 x1 (n : Int) (n : Int) (i : Int) = some r ∧ chirographref14_Net.l0 (d + 1) x0 x1 (i : Int) = some r
  | 0, i, h => by
    refine ⟨true, ?_, ?_⟩
    · unfold realm_Net.l0
      rw [if_neg (by omega)]
    · unfold chirographref14_Net.l0
      rw [if_neg (by omega)]
  | d + 1, i, h => by
    obtain ⟨r, hr1, hr2⟩ := net_loop x0 x1 n hn h1 hn2 hb0 hb1 d (i + 1) (by omega)
    have w1 : wrap64 ((n : Int) + (i : Int)) = ((n + i : Nat) : Int) := by rw [wrap64_low (by omega) (by omega)]; omega
    have w2 : wrap64 ((i : Int) + 1) = ((i + 1 : Nat) : Int) := by rw [wrap64_low (by omega) (by omega)]; omega
    have hm := mask_iff (rd_byte hb0 (i : Int)) (rd_byte hb1 (i : Int)) (rd_byte hb1 ((n + i : Nat) : Int))
    unfold realm_Net.l0 chirographref14_Net.l0
    rw [hn, h1, w1, w2, if_pos (show (i : Int) < (n : Int) by omega), if_pos (show (0 : Int) ≤ (i : Int) by omega), if_pos (show (i : Int) < (n : Int) by omega), if_pos (show (i : Int) < ((2 * n : Nat) : Int) by omega), if_pos (show (0 : Int) ≤ ((n + i : Nat) : Int) by omega), if_pos (show ((n + i : Nat) : Int) < ((2 * n : Nat) : Int) by omega)]
    by_cases hq : Go.bits .and .u8 (rd x0 (i : Int)) (rd x1 ((n + i : Nat) : Int)) = Go.bits .and .u8 (rd x1 (i : Int)) (rd x1 ((n + i : Nat) : Int))
    · refine ⟨r, ?_, ?_⟩
      · rw [if_pos (hm.2 hq)]
        exact hr1
      · simp only [if_pos hq, show (i : Int) < (n : Int) by omega, show (0 : Int) ≤ (i : Int) by omega, show (0 : Int) ≤ ((n + i : Nat) : Int) by omega, show ((n + i : Nat) : Int) < ((2 * n : Nat) : Int) by omega, show (i : Int) < ((2 * n : Nat) : Int) by omega, if_true]
        exact hr2
    · refine ⟨false, ?_, ?_⟩
      · rw [if_neg (fun h => hq (hm.1 h))]
      · simp only [if_neg hq, show (i : Int) < (n : Int) by omega, show (0 : Int) ≤ (i : Int) by omega, show (0 : Int) ≤ ((n + i : Nat) : Int) by omega, show ((n + i : Nat) : Int) < ((2 * n : Nat) : Int) by omega, show (i : Int) < ((2 * n : Nat) : Int) by omega, if_true]
theorem jA (k : Nat) (x0 x1 : List Int) (x5 : Int) : realm_Net.j0 (k + 2) x0 x1 x5 true = some false := by simp [realm_Net.j0]
theorem jB (k : Nat) (x0 x1 : List Int) (x5 : Int) : realm_Net.j0 (k + 2) x0 x1 x5 false = realm_Net.l0 (k + 1) x0 x1 x5 x5 0 := by simp [realm_Net.j0]
theorem jC (k : Nat) (x0 x1 : List Int) : chirographref14_Net.j0 (k + 2) x0 x1 true = some false := by simp [chirographref14_Net.j0]
theorem jD (k : Nat) (x0 x1 : List Int) : chirographref14_Net.j0 (k + 2) x0 x1 false = chirographref14_Net.l0 (k + 1) x0 x1 0 := by simp [chirographref14_Net.j0]
theorem net_eq (x0 x1 : List Int) (h0 : x0.length ≤ 2000) (h1 : x1.length ≤ 2000) (hb0 : Bytes x0) (hb1 : Bytes x1) : ∃ k r, realm_Net.f k x0 x1 = some r ∧ chirographref14_Net.f k x0 x1 = some r := by
  obtain ⟨n, hn⟩ : ∃ n, x0.length = n := ⟨_, rfl⟩
  obtain ⟨m, hm⟩ : ∃ m, x1.length = m := ⟨_, rfl⟩
  rw [hn] at h0
  rw [hm] at h1
  have w1 : wrap64 (2 * (n : Int)) = 2 * (n : Int) := wrap64_low (by omega) (by omega)
  have w2 : wrap64 ((m : Int) / 2) = (m : Int) / 2 := wrap64_low (by omega) (by omega)
  refine ⟨n + 2, ?_⟩
  unfold realm_Net.f chirographref14_Net.f
  rw [hn, hm, w1, w2]
  by_cases hz : (n : Int) = 0
  · refine ⟨false, ?_, ?_⟩
    · rw [if_pos hz]
      exact jA _ _ _ _
    · rw [if_pos hz]
      exact jC _ _ _
  rw [if_neg hz, if_neg hz]
  by_cases he : m = 2 * n
  · obtain ⟨r, hr1, hr2⟩ := net_loop x0 x1 n hn (by rw [hm, he]) h0 hb0 hb1 n 0 (by omega)
    refine ⟨r, ?_, ?_⟩
    · have : ((m : Int) != 2 * (n : Int)) = false := by rw [bne_eq_false_iff_eq]; omega
      rw [this]
      rw [jB]
      exact hr1
    · have : ((m : Int) / 2 != (n : Int)) = false := by rw [bne_eq_false_iff_eq]; omega
      rw [if_neg (by omega), this]
      rw [jD]
      exact hr2
  · refine ⟨false, ?_, ?_⟩
    · have : ((m : Int) != 2 * (n : Int)) = true := by rw [bne_iff_ne]; omega
      rw [this]
      exact jA _ _ _ _
    · by_cases ho : (m : Int) % 2 = 1
      · rw [if_pos ho]
        exact jC _ _ _
      · have : ((m : Int) / 2 != (n : Int)) = true := by rw [bne_iff_ne]; omega
        rw [if_neg ho, this]
        exact jC _ _ _
theorem bytes_of_wf {xs : List Int} (h : ∀ x ∈ xs, (Lit.int .u8 x).wf = true) : Bytes xs := fun x hx => by
  have h2 : IntKind.u8.min ≤ x ∧ x ≤ IntKind.u8.max := by simpa [Lit.wf] using h x hx
  exact h2
set_option maxHeartbeats 4000000 in
set_option maxRecDepth 100000 in
theorem nets_big (A0 : Option Addr) (n0 c0 : Nat) (A1 : Option Addr) (n1 c1 : Nat) (w : World) (hbig : 2000 < n0 ∨ 2000 < n1) : Calls Tryd.prog 3 #[.slice A0 n0 c0, .slice A1 n1 c1] w fun e w' => e = .returned (.bool true) ∧ Below w.heap.size w w' := by
  by_cases h0 : 2000 < n0
  · have p0 : (2000 < (n0 : Int)) = True := by simp; omega
    go_enter Tryd.func3, Tryd.ntmps3
    go_wp2_with (go_at_call 4; refine (live_walk w).mono ?_; rintro e w1 ⟨rfl, hb⟩; have HZ := Aside0.mk hb; clear hb)
    go_ret
    exact ⟨rfl, HZ.out⟩
  · have p0 : (2000 < (n0 : Int)) = False := by simp; omega
    have p1 : (2000 < (n1 : Int)) = True := by simp; omega
    go_enter Tryd.func3, Tryd.ntmps3
    go_wp2_with (go_at_call 4; refine (live_walk w).mono ?_; rintro e w1 ⟨rfl, hb⟩; have HZ := Aside0.mk hb; clear hb)
    go_ret
    exact ⟨rfl, HZ.out⟩
set_option maxHeartbeats 4000000 in
set_option maxRecDepth 100000 in
theorem nets_main (A0 : Option Addr) (n0 c0 : Nat) (A1 : Option Addr) (n1 c1 : Nat) (l0 l1 : List Int) (k : Nat) (r : Bool) (w : World) (h0 : ¬ 2000 < n0) (h1 : ¬ 2000 < n1) (hr0 : Kd.C (Kd.int .u8) w A0 n0 l0) (hn0 : l0.length = n0) (hc0 : n0 ≤ c0) (hr1 : Kd.C (Kd.int .u8) w A1 n1 l1) (hn1 : l1.length = n1) (hc1 : n1 ≤ c1)
    (hk1 : realm_Net.f k l0 l1 = some r) (hk2 : chirographref14_Net.f k l0 l1 = some r) : Calls Tryd.prog 3 #[.slice A0 n0 c0, .slice A1 n1 c1] w fun e w' => e = .returned (.bool true) ∧ Below w.heap.size w w' := by
  have p0 : (2000 < (n0 : Int)) = False := by simp; omega
  have p1 : (2000 < (n1 : Int)) = False := by simp; omega
  have net1 : ∀ W, Below w.heap.size w W → Calls Tryd.prog 5 #[.slice A0 n0 c0, .slice A1 n1 c1] W fun e w' => e = .returned (.bool r) ∧ Below w.heap.size w w' := fun W hW => by
    subst hn0 hn1
    refine (realm_Net.calls k A0 c0 l0 A1 c1 l1 r W (Kd.C_below hr0 hW) hc0 (Kd.C_below hr1 hW) hc1 hk1).mono fun e w' h => ⟨h.1, ?_⟩
    obtain ⟨nd, rfl⟩ := h.2
    exact pw_below_drewN hW nd
  have net2 : ∀ W, Below w.heap.size w W → Calls Tryd.prog 6 #[.slice A0 n0 c0, .slice A1 n1 c1] W fun e w' => e = .returned (.bool r) ∧ Below w.heap.size w w' := fun W hW => by
    subst hn0 hn1
    refine (chirographref14_Net.calls k A0 c0 l0 A1 c1 l1 r W (Kd.C_below hr0 hW) hc0 (Kd.C_below hr1 hW) hc1 hk2).mono fun e w' h => ⟨h.1, ?_⟩
    obtain ⟨nd, rfl⟩ := h.2
    exact pw_below_drewN hW nd
  have HN := Aside0.mk (And.intro net1 net2)
  clear net1 net2 hr0 hr1 hk1 hk2 hc0 hc1 hn0 hn1
  go_enter Tryd.func3, Tryd.ntmps3
  go_wp2_with (first
    | (go_at_call 5; refine (HN.out.1 w (Below.refl _ _)).mono ?_; rintro e w1 ⟨rfl, hb⟩; have H1 := Aside0.mk hb; clear hb)
    | (go_at_call 6; refine (HN.out.2 w1 H1.out).mono ?_; rintro e w2 ⟨rfl, hb⟩; have H2 := Aside0.mk hb; clear hb)
    | (go_at_call 4; refine (live_walk w2).mono ?_; rintro e w3 ⟨rfl, hb⟩; have HZ := Aside0.mk (below_step H2.out hb); clear hb))
  go_ret
  exact ⟨rfl, HZ.out⟩
theorem nets_row (a0 : Option Addr) (len0 cap0 : Nat) (z0 : List Int) (a1 : Option Addr) (len1 cap1 : Nat) (z1 : List Int) (w : World) (w0 : (a0 = none ∧ len0 = 0 ∧ cap0 = 0 ∧ z0 = []) ∨ ∃ x, a0 = some x ∧ len0 ≤ cap0 ∧ cap0 ≤ maxLen ∧ z0.length = cap0 ∧ (∀ i, i < z0.length → w.cell? (x.add i) = some (.int .u8 (z0.getD i 0))) ∧ ∀ n ∈ z0, (Lit.int .u8 n).wf = true) (y0 : len0 * 1 ≤ 140737488351232) (w1 : (a1 = none ∧ len1 = 0 ∧ cap1 = 0 ∧ z1 = []) ∨ ∃ x, a1 = some x ∧ len1 ≤ cap1 ∧ cap1 ≤ maxLen ∧ z1.length = cap1 ∧ (∀ i, i < z1.length → w.cell? (x.add i) = some (.int .u8 (z1.getD i 0))) ∧ ∀ n ∈ z1, (Lit.int .u8 n).wf = true) (y1 : len1 * 1 ≤ 140737488351232) :
    Calls Tryd.prog 3 #[.slice a0 len0 cap0, .slice a1 len1 cap1] w fun e w' => e = .returned (.bool true) ∧ Below w.heap.size w w' := by
  obtain ⟨l0, hl0, hr0, hm0, hw0, hc0⟩ := ReadsInt.ofRowC w0
  obtain ⟨l1, hl1, hr1, hm1, hw1, hc1⟩ := ReadsInt.ofRowC w1
  subst hl0
  subst hl1
  by_cases h0 : 2000 < l0.length
  · exact nets_big _ _ _ _ _ _ w (.inl h0)
  by_cases h1 : 2000 < l1.length
  · exact nets_big _ _ _ _ _ _ w (.inr h1)
  obtain ⟨k, r, hk1, hk2⟩ := net_eq l0 l1 (by omega) (by omega) (bytes_of_wf hw0) (bytes_of_wf hw1)
  exact nets_main a0 _ cap0 a1 _ cap1 l0 l1 k r w h0 h1 (Kd.C_of_reads (d := (0 : Int)) (h1 := fun _ => rfl) hr0) rfl hc0 (Kd.C_of_reads (d := (0 : Int)) (h1 := fun _ => rfl) hr1) rfl hc1 hk1 hk2
end Go.Proofs.YtpdhbpdfldfnhaaDoor.Rn
