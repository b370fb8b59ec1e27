/- The law PolicyPlain, walked. -/
import Derived.Test.YtgeoibgohlpfjaaDoorPyPut
set_option linter.unusedVariables false
set_option linter.unusedSimpArgs false
namespace Go.Proofs.YtgeoibgohlpfjaaDoor.Py
open Go Go.RowKit Go.Maps Go.Proofs.YtgeoibgohlpfjaaDoorW.PrintWords Go.Proofs.YtgeoibgohlpfjaaDoorW.PrintLast Go.Proofs.YtgeoibgohlpfjaaDoorW.PrintMore
def pA : Cb := ⟨[], -1, -1, false⟩
def pB : Cb := ⟨[anyP], -1, -1, false⟩
theorem gather_A (set : List S) (any : Int) (last : Bool) : gather set any pA.pol pA.own last = [] := by simp [gather, pA]
theorem gather_B (any : Int) (last : Bool) (h : 0 < any) : gather [anyP] any pB.pol pB.own last = [anyP] := by
  simp [gather, pB, h]
theorem down_one {n : Int} (h : 0 < n) : down n (-1) true = n - 1 := by simp [down, h]
theorem step_A {p : Pl} (last : Bool) (h : 0 < p.ex) : ∃ a, stepV p pA last = some ⟨[], if last = true then p.ex else p.ex - 1, a⟩ := by
  refine ⟨if last = true then p.any else down p.any pA.inh (!pA.own), ?_⟩
  unfold stepV
  rw [gather_A, if_neg (by omega), norm_nil]
  have e : down p.ex pA.req (!pA.own) = p.ex - 1 := down_one h
  rw [e]
theorem step_B {p : Pl} (last : Bool) (hs : p.set = [anyP]) (h : 0 < p.any) : ∃ x, stepV p pB last = some ⟨[anyP], x, if last = true then p.any else p.any - 1⟩ := by
  refine ⟨if last = true then p.ex else down p.ex pB.req (!pB.own), ?_⟩
  unfold stepV
  rw [hs, gather_B p.any last h, if_neg (by simp), norm_id (by simp [SS])]
  have e : down p.any pB.inh (!pB.own) = p.any - 1 := down_one h
  rw [e]
theorem run_A : ∀ (j : Nat) (p : Pl), (j : Int) + 2 ≤ p.ex → runFrom [] p (List.replicate (j + 1) pA) = some []
  | 0, p, h => by
    show (stepV p pA true).bind (fun q => endV q pA []) = _
    obtain ⟨a, ha⟩ := step_A (p := p) true (by omega)
    rw [ha, Option.bind_some]
    have e : asked [] [] = ([] : List S) := by simp [asked]
    unfold endV
    simp only [if_true]
    have e2 : endX p.ex pA.req = p.ex - 1 := by
      unfold endX
      rw [if_neg (by decide), down_one (by omega)]
    rw [e, e2, if_neg (by omega), norm_nil]
  | j + 1, p, h => by
    show (stepV p pA false).bind (fun q => runFrom [] q (List.replicate (j + 1) pA)) = _
    obtain ⟨a, ha⟩ := step_A (p := p) false (by omega)
    rw [ha, Option.bind_some]
    exact run_A j _ (by simp; omega)
theorem asked_any (user : List S) : asked [anyP] user ≠ [] := by
  unfold asked
  split
  · rename_i h
    rw [if_pos (by simp)]
    exact h.1
  · simp
theorem run_B (user : List S) : ∀ (j : Nat) (p : Pl), p.set = [anyP] → (j : Int) + 2 ≤ p.any → runFrom user p (List.replicate (j + 1) pB) = some (norm (asked [anyP] user))
  | 0, p, hs, h => by
    show (stepV p pB true).bind (fun q => endV q pB user) = _
    obtain ⟨x, ha⟩ := step_B (p := p) true hs (by omega)
    rw [ha, Option.bind_some]
    unfold endV
    rw [if_neg (fun h => asked_any user h.1)]
  | j + 1, p, hs, h => by
    show (stepV p pB false).bind (fun q => runFrom user q (List.replicate (j + 1) pB)) = _
    obtain ⟨x, ha⟩ := step_B (p := p) false hs (by omega)
    rw [ha, Option.bind_some]
    exact run_B user j _ rfl (by simp; omega)
theorem plain_A (k : Nat) (h1 : 1 ≤ k) (h8 : k ≤ 8) : runV (List.replicate k pA) [] false false = some [] := by
  obtain ⟨j, rfl⟩ : ∃ j, k = j + 1 := ⟨k - 1, by omega⟩
  refine run_A j _ ?_
  simp only [startV, List.length_replicate]
  simp
  omega
theorem plain_B (k : Nat) (h1 : 1 ≤ k) (h8 : k ≤ 8) (user : List S) : runV (List.replicate k pB) user true false = some (norm (asked [anyP] user)) := by
  obtain ⟨j, rfl⟩ : ∃ j, k = j + 1 := ⟨k - 1, by omega⟩
  refine run_B user j _ rfl ?_
  simp only [startV, List.length_replicate]
  simp
  omega
theorem plain_want (user : List S) (h : user ≠ []) (ha : anyP ∉ user) : norm (asked [anyP] user) = user.foldl put [] := by
  unfold asked
  rw [if_pos ⟨h, ha⟩, if_pos (by simp), puts_norm]
theorem plain_any (user : List S) (h : user = [] ∨ anyP ∈ user) : norm (asked [anyP] user) = [anyP] := by
  unfold asked
  rw [if_neg (by rintro ⟨h1, h2⟩; rcases h with h | h; exact h1 h; exact h2 h), norm_id (by simp [SS])]
/-- two rows of the call's own that are not one -/
def Dist (a b : Value) : Prop := ∀ k, a.ownBlock = some k → b.ownBlock ≠ some k
theorem RowB.lt {w : World} {base : Nat} {v : Value} {l : List Cb} (h : RowB w base v l) (k : Nat) (hk : v.ownBlock = some k) : k < w.heap.size := by
  obtain ⟨inner, ho, _⟩ := h
  rcases ho.2 with ⟨rfl, h0⟩ | ⟨g', cap, cur, rfl, hgb, hh, _⟩
  · simp [Value.ownBlock] at hk
  · have := blk_lt hh
    have e : g' = k := by simpa [Value.ownBlock] using hk
    omega
theorem RowB.far {w w' : World} {base : Nat} {a v : Value} {l m : List Cb} (h : RowB w base v l) (ho : RowB w base a m) (hg : w.grownBy w' a.ownBlock) (hd : Dist a v) : RowB w' base v l := by
  refine (h.imp_ (BitRow.grown ho hg)).other hg ?_
  cases hv : v.ownBlock with
  | none => exact .inl rfl
  | some k => exact .inr fun e => hd k e.symm hv
theorem Dist.next {w : World} {base : Nat} {a b a' : Value} {m : List Cb} (hd : Dist a b) (hb : RowB w base b m) (h : a'.ownBlock = a.ownBlock ∨ ∃ k, a'.ownBlock = some k ∧ w.heap.size ≤ k) : Dist a' b := by
  intro k hk hbk
  rcases h with h | ⟨j, h, hj⟩
  · exact hd k (by rw [← h]; exact hk) hbk
  · have := hb.lt k hbk
    rw [h] at hk
    cases hk
    omega
theorem Dist.symm {a b : Value} (h : Dist a b) : Dist b a := fun k h1 h2 => h k h2 h1


theorem any_in {l : List S} : memB bAny (l.map bs) = true ↔ anyP ∈ l := (memB_iff _ _).trans (by rw [← bs_any]; exact mem_bs anyP l)
theorem rd_Cs {w : World} {A : Option Addr} {n c : Nat} {ss : List ByteArray} (h : Strs w (.slice A n c) ss) : Kd.C Kd.string w A n ss := by
  obtain ⟨A', c', e, _, hr⟩ := h
  injection e with e1 e2 e3
  subst e1 e2 e3
  exact hr
theorem rd_map (l : List S) (k : Nat) (hk : k < l.length) : rdOf ByteArray.empty (l.map bs) k = bs l[k] := by
  simp [rdOf, List.getD, List.getElem?_eq_getElem hk]
theorem take_s (l : List S) (k : Nat) (hk : k < l.length) : l.take (k + 1) = l.take k ++ [l[k]] := by
  rw [List.take_add_one, List.getElem?_eq_getElem hk]
  rfl
theorem ins_len (s : S) : ∀ l : List S, (ins s l).length ≤ l.length + 1
  | [] => by simp [ins]
  | x :: l => by
    have := ins_len s l
    unfold ins
    split <;> simp <;> omega
theorem put_len (l : List S) (s : S) : (put l s).length ≤ l.length + 1 := by
  unfold put
  split
  · omega
  · exact ins_len s l
theorem foldl_put_len : ∀ (u l : List S), (u.foldl put l).length ≤ l.length + u.length
  | [], l => by simp
  | x :: u, l => by
    have h := foldl_put_len u (put l x)
    have h2 := put_len l x
    simp only [List.foldl_cons, List.length_cons]
    omega
theorem foldl_put_ss : ∀ (u l : List S), SS l → SS (u.foldl put l)
  | [], l, h => h
  | x :: u, l, h => foldl_put_ss u _ (put_ss h x)
theorem map_tl_bs (l : List S) : (l.map bs).map tl = l := by
  rw [List.map_map]
  exact List.map_id'' (fun x => tl_bs x) l
theorem put_at {w0 w : World} {v : Value} {L : List S} {x : ByteArray} (hB : Below w0.heap.size w0 w) (h : Kd.R Kd.string 9 w w0.heap.size (fun _ => True) v (L.map bs)) (hl : L.length ≤ 900000) (hS : SS L) :
    Calls Tryd.prog 27 #[v, .string x] w fun e w' => ∃ v', e = .returned v' ∧ Kd.R Kd.string 9 w' w0.heap.size (fun _ => True) v' ((put L (tl x)).map bs) ∧ Below w0.heap.size w0 w' := by
  have h2 := put_walk (s := x) hB h (by rw [List.length_map]; exact hl) (by rw [map_tl_bs]; exact hS)
  rw [map_tl_bs] at h2
  exact h2
theorem pol_rep_A (k : Nat) : ∀ c ∈ List.replicate k pA, c.pol.length ≤ 1000 ∧ FitS c.pol := by
  intro c hc
  obtain ⟨_, rfl⟩ := List.mem_replicate.1 hc
  exact ⟨by simp [pA], fun s hs => by simp [pA] at hs⟩
theorem pol_rep_B (k : Nat) : ∀ c ∈ List.replicate k pB, c.pol.length ≤ 1000 ∧ FitS c.pol := by
  intro c hc
  obtain ⟨_, rfl⟩ := List.mem_replicate.1 hc
  exact ⟨by simp [pB], fun s hs => by
    simp [pB] at hs
    subst hs
    decide⟩
theorem plain_runA {w : World} {v : Value} {K : Nat} (h1 : 1 ≤ K) (h8 : K ≤ 8) (hv : Certs w v (List.replicate K pA)) :
    Calls Tryd.prog 21 #[v, .slice none 0 0, .bool false, .bool false] w fun e w' => ∃ A c, e = .returned (.tuple #[.slice A 0 c, .bool true]) ∧ Below w.heap.size w w' :=
  (run_at (plain_A K h1 h8) hv (Strs.nil _) (by rw [List.length_replicate]; omega) (pol_rep_A K) (Nat.zero_le _) (fun s hs => by simp at hs)).mono fun e w' ⟨⟨v', he, hs⟩, hb⟩ => by
    obtain ⟨A, c, rfl, _, _⟩ := hs.open_
    exact ⟨A, c, he, hb⟩
theorem plain_runB {w : World} {v uv : Value} {K : Nat} {user : List S} (h1 : 1 ≤ K) (h8 : K ≤ 8) (hv : Certs w v (List.replicate K pB)) (hu : Strs w uv (user.map bs)) (hul : user.length ≤ 200) (fu : FitS user) :
    Calls Tryd.prog 21 #[v, uv, .bool true, .bool false] w fun e w' => ∃ A n c, e = .returned (.tuple #[.slice A n c, .bool true]) ∧ Strs w' (.slice A n c) ((norm (asked [anyP] user)).map bs) ∧ Below w.heap.size w w' :=
  (run_at (plain_B K h1 h8 user) hv hu (by rw [List.length_replicate]; omega) (pol_rep_B K) (by omega) fu).mono fun e w' ⟨⟨v', he, hs⟩, hb⟩ => by
    obtain ⟨A, c, rfl, _, _⟩ := hs.open_
    exact ⟨A, _, c, he, hs, hb⟩
theorem asked_any_len (user : List S) : (norm (asked [anyP] user)).length ≤ 1 + user.length := Nat.le_trans (norm_length _) (asked_length _ _)
set_option maxHeartbeats 8000000 in
set_option maxRecDepth 100000 in
theorem plain_big (n : Int) (U : Option Addr) (cU nu : Nat) (w : World) (hn : 0 ≤ n ∧ n ≤ 255) (hbig : 200 < nu) :
    Calls Tryd.prog 9 #[.int .u8 n, .slice U nu cU] w fun e w' => e = .returned (.bool true) ∧ Below w.heap.size w w' := by
  have p0 : (200 < (nu : Int)) = True := by simp; omega
  go_enter Tryd.func9, Tryd.ntmps9
  go_wp2_with (go_at_call 13; (with_reducible refine (live_walk w).mono ?_); rintro e w1 ⟨rfl, hb1⟩; have HA := Aside0.mk hb1; clear hb1)
  go_ret
  exact ⟨rfl, HA.out⟩
set_option maxHeartbeats 8000000 in
set_option maxRecDepth 100000 in
theorem plain_main (n : Int) (U : Option Addr) (cU nu : Nat) (user : List S) (w : World) (hn : 0 ≤ n ∧ n ≤ 255) (hu : Strs w (.slice U nu cU) (user.map bs)) (fu : FitS user) (hnu : user.length = nu) (hbig : ¬ 200 < nu) :
    Calls Tryd.prog 9 #[.int .u8 n, .slice U nu cU] w fun e w' => e = .returned (.bool true) ∧ Below w.heap.size w w' := by
  have HU := Aside0.mk hu
  have HF := Aside0.mk (And.intro fu hnu)
  clear hu fu hnu
  have p0 : (200 < (nu : Int)) = False := by simp; omega
  obtain ⟨K, hK, hK1, hK8⟩ : ∃ K : Nat, (K : Int) = 1 + n % 8 ∧ 1 ≤ K ∧ K ≤ 8 := ⟨(1 + n % 8).toNat, by omega, by omega, by omega⟩
  go_enter Tryd.func9, Tryd.ntmps9
  go_wp2
  rw [← hK]
  go_loopw [6, 7, 8] (fun a b i wr => ∃ (k : Nat), k ≤ K ∧ i = .int .i64 k ∧ Aside0 (RowB wr w.heap.size a (List.replicate k pA)) ∧ Aside0 (RowB wr w.heap.size b (List.replicate k pB)) ∧ Aside0 (Dist a b) ∧ Aside0 (Below w.heap.size w wr)) (fun _ _ i _ => K - (intOf i).toNat)
  case atStart => exact ⟨0, Nat.zero_le _, rfl, ⟨OwnRow.none_ _ _ _ _ _⟩, ⟨OwnRow.none_ _ _ _ _ _⟩, ⟨fun k hk => by simp [Value.ownBlock] at hk⟩, ⟨Below.refl _ _⟩⟩
  case round =>
    obtain ⟨k, hk, rfl, HA, HB, HD, HW⟩ := hrel
    by_cases hlt : k < K
    · have p1 : ((k : Int) < (K : Int)) = True := by simpa using hlt
      have HLA := Aside0.mk (show (List.replicate k pA).length = k from List.length_replicate)
      have HLB := Aside0.mk (show (List.replicate k pB).length = k from List.length_replicate)
      have HSA := Aside0.mk (show List.replicate (k + 1) pA = List.replicate k pA ++ [pA] from List.replicate_succ')
      have HSB := Aside0.mk (show List.replicate (k + 1) pB = List.replicate k pB ++ [pB] from List.replicate_succ')
      generalize List.replicate k pA = lA at HA HLA HSA
      generalize List.replicate k pB = lB at HB HLB HSB
      have HCA := Aside0.mk (show BitRow wr w.heap.size pA [.slice none 0 0, .int .i64 (-1), .int .i64 (-1), .bool false] from ⟨_, rfl, own_str (ok := fun _ => True) (Kd.R_nil _ _ _ _ _)⟩)
      clear hK hn p0
      go_wp2_with (first
        | (at_builtin; refine OwnRow.append (w0 := w) w.heap.size rfl (.tmp 28) (.tmp 30) 32 30 (.agg #[nilS, .int .i64 0, .int .i64 0, .bool false]) 4 48 rfl Tryd.underlying32 info30 rfl (by decide) (by decide) _ lA pA [.slice none 0 0, .int .i64 (-1), .int .i64 (-1), .bool false] rfl rfl HCA.out rfl (bit_cells_one _ _ _ _ _ _) HA.out HW.out HW.out.size (by rw [HLA.out]; omega) ?_
           intro v1 w1 hown hbl hgrow hat
           have HA1 := Aside0.mk (show RowB w1 w.heap.size v1 (lA ++ [pA]) from hown.imp_ (BitRow.grown HA.out hgrow))
           have HB1 := Aside0.mk (RowB.far HB.out HA.out hgrow HD.out)
           have HD1 := Aside0.mk (Dist.symm (Dist.next HD.out HB.out hat))
           have HW1 := Aside0.mk hbl
           clear hown hbl hgrow hat HA HB HD HW HCA)
        | ((with_reducible refine gate_dst (N := 33) rfl ?_); refine Kd.R_lit Kd.string (w0 := w) w.heap.size 9 ?hg (N := 33) ?hd (xs := [bAny]) (inner := [.string bAny]) (ok := fun _ => True) (okp := fun _ => True) ?hr ?hp (fun _ hk => hk) trivial HW1.out HW1.out.size (by simp) ?_; (case hd => rfl); (case hg => rfl); (case hr => first | (go_simp; done) | (go_simp; rfl)); (case hp => exact Kd.reps_scalar [bAny])
           intro v2 w2 hR_ hB_ hg_ hnew_
           obtain ⟨A2, c2, rfl⟩ : ∃ A c, v2 = .slice A 1 c := Kd.R_slice hR_
           have hb2 : Below w1.heap.size w1 w2 := (Below.refl _ _).grown hg_ (Nat.le_refl _) (by simp)
           have HA2 := Aside0.mk (HA1.out.below hb2)
           have HB2 := Aside0.mk (HB1.out.below hb2)
           have HW2 := Aside0.mk hB_
           have HCB := Aside0.mk (show BitRow w2 w.heap.size pB [.slice A2 1 c2, .int .i64 (-1), .int .i64 (-1), .bool false] from ⟨_, rfl, own_str hR_⟩)
           clear hR_ hB_ hg_ hnew_ hb2 HA1 HB1 HW1)
        | (at_builtin; refine OwnRow.append (w0 := w) w.heap.size rfl (.tmp 32) (.tmp 35) 32 30 (.agg #[nilS, .int .i64 0, .int .i64 0, .bool false]) 4 48 rfl Tryd.underlying32 info30 rfl (by decide) (by decide) _ lB pB [.slice A2 1 c2, .int .i64 (-1), .int .i64 (-1), .bool false] rfl rfl HCB.out rfl (bit_cells_one _ _ _ _ _ _) HB2.out HW2.out HW2.out.size (by rw [HLB.out]; omega) ?_
           intro v3 w3 hown hbl hgrow hat
           have HB3 := Aside0.mk (show RowB w3 w.heap.size v3 (lB ++ [pB]) from hown.imp_ (BitRow.grown HB2.out hgrow))
           have HA3 := Aside0.mk (RowB.far HA2.out HB2.out hgrow HD1.out)
           have HD3 := Aside0.mk (Dist.symm (Dist.next HD1.out HA2.out hat))
           have HW3 := Aside0.mk hbl
           clear hown hbl hgrow hat HA2 HB2 HD1 HW2 HCB))
      go_roundw
      case rel => exact ⟨k + 1, by omega, by go_num, ⟨by rw [HSA.out]; exact HA3.out⟩, ⟨by rw [HSB.out]; exact HB3.out⟩, ⟨HD3.out⟩, ⟨HW3.out⟩⟩
      case measure => simp [intOf]; omega
    · have e : k = K := by omega
      subst e
      have HBB := Aside0.mk (And.intro (bits_of_own HA.out (by rw [List.length_replicate]; omega)) (bits_of_own HB.out (by rw [List.length_replicate]; omega)))
      have HAL := Aside0.mk (show (norm (asked [anyP] user)).length ≤ 1000 by have := asked_any_len user; have := HF.out.2; omega)
      clear HA HB HD hK hn
      by_cases hnu0 : nu = 0
      · have HE := Aside0.mk (show (norm (asked [anyP] user)).map bs = [bAny] by rw [plain_any user (.inl (List.eq_nil_of_length_eq_zero (by rw [HF.out.2]; exact hnu0)))]; rfl)
        subst hnu0
        go_wp2_with (first
          | (go_at_call 22; (with_reducible refine (chain_walk _ _ wr HBB.out.1 (by rw [List.length_replicate]; omega)).mono ?_); rintro e w1 ⟨v1, rfl, hv_, hb_⟩; have HC1 := Aside0.mk (And.intro hv_ (And.intro (HBB.out.2.below hb_) (below_step HW.out hb_))); clear hv_ hb_)
          | (go_at_call 21; (with_reducible refine (plain_runA hK1 hK8 HC1.out.1).mono ?_); rintro e w2 ⟨A2, c2, rfl, hb_⟩; have HR2 := Aside0.mk (And.intro (HC1.out.2.1.below hb_) (below_step HC1.out.2.2 hb_)); clear hb_)
          | (go_at_call 22; (with_reducible refine (chain_walk _ _ w2 HR2.out.1 (by rw [List.length_replicate]; omega)).mono ?_); rintro e w3 ⟨v3, rfl, hv_, hb_⟩; have HC3 := Aside0.mk (And.intro hv_ (below_step HR2.out.2 hb_)); clear hv_ hb_)
          | (go_at_call 21; (with_reducible refine (plain_runB hK1 hK8 HC3.out.1 (HU.out.below HC3.out.2) (by have := HF.out.2; omega) HF.out.1).mono ?_); rintro e w4 ⟨A4, n4, c4, rfl, hs_, hb_⟩; have HR4 := Aside0.mk (And.intro hs_ (below_step HC3.out.2 hb_)); clear hs_ hb_)
          | ((with_reducible refine gate_dst (N := 50) rfl ?_); refine Kd.R_lit Kd.string w4.heap.size 9 ?hg (N := 50) ?hd (xs := [bAny]) (inner := [.string bAny]) (ok := fun _ => True) (okp := fun _ => True) ?hr ?hp (fun _ hk => hk) trivial (Below.refl _ _) (Nat.le_refl _) (by simp) ?_; (case hd => rfl); (case hg => rfl); (case hr => first | (go_simp; done) | (go_simp; rfl)); (case hp => exact Kd.reps_scalar [bAny]); intro v5 w5 hR_ hB_ hg_ hnew_
             obtain ⟨A5, c5, rfl⟩ : ∃ A c, v5 = .slice A 1 c := Kd.R_slice hR_
             have HL5 := Aside0.mk (And.intro (HR4.out.1.below hB_) (And.intro (strs_of_R hR_) (below_step HR4.out.2 hB_))); clear hR_ hB_ hg_ hnew_)
          | (go_at_call 20; refine (texts_walk _ _ _ _ w5 HL5.out.1 HL5.out.2.1 (by rw [List.length_map]; have := HAL.out; omega) (by simp)).mono ?_; rintro e w7 ⟨rfl, hb_⟩; rw [decide_eq_true HE.out]; have HL7 := Aside0.mk (below_step HL5.out.2.2 hb_); clear hb_)
          | (go_at_call 13; (with_reducible refine (live_walk w7).mono ?_); rintro e w8 ⟨rfl, hb_⟩; have HZ := Aside0.mk (below_step HL7.out hb_); clear hb_))
        go_ret
        exact ⟨rfl, HZ.out⟩
      · have p2 : (0 < (nu : Int)) = True := by simp; omega
        by_cases hany : anyP ∈ user
        · have HM := Aside0.mk (show memB bAny (user.map bs) = true from any_in.2 hany)
          have HE := Aside0.mk (show (norm (asked [anyP] user)).map bs = [bAny] by rw [plain_any user (.inr hany)]; rfl)
          clear hany
          go_wp2_with (first
            | (go_at_call 22; (with_reducible refine (chain_walk _ _ wr HBB.out.1 (by rw [List.length_replicate]; omega)).mono ?_); rintro e w1 ⟨v1, rfl, hv_, hb_⟩; have HC1 := Aside0.mk (And.intro hv_ (And.intro (HBB.out.2.below hb_) (below_step HW.out hb_))); clear hv_ hb_)
            | (go_at_call 21; (with_reducible refine (plain_runA hK1 hK8 HC1.out.1).mono ?_); rintro e w2 ⟨A2, c2, rfl, hb_⟩; have HR2 := Aside0.mk (And.intro (HC1.out.2.1.below hb_) (below_step HC1.out.2.2 hb_)); clear hb_)
            | (go_at_call 22; (with_reducible refine (chain_walk _ _ w2 HR2.out.1 (by rw [List.length_replicate]; omega)).mono ?_); rintro e w3 ⟨v3, rfl, hv_, hb_⟩; have HC3 := Aside0.mk (And.intro hv_ (below_step HR2.out.2 hb_)); clear hv_ hb_)
            | (go_at_call 21; (with_reducible refine (plain_runB hK1 hK8 HC3.out.1 (HU.out.below HC3.out.2) (by have := HF.out.2; omega) HF.out.1).mono ?_); rintro e w4 ⟨A4, n4, c4, rfl, hs_, hb_⟩; have HR4 := Aside0.mk (And.intro hs_ (below_step HC3.out.2 hb_)); clear hs_ hb_)
            | ((with_reducible refine gate_dst (N := 50) rfl ?_); refine Kd.R_lit Kd.string w4.heap.size 9 ?hg (N := 50) ?hd (xs := [bAny]) (inner := [.string bAny]) (ok := fun _ => True) (okp := fun _ => True) ?hr ?hp (fun _ hk => hk) trivial (Below.refl _ _) (Nat.le_refl _) (by simp) ?_; (case hd => rfl); (case hg => rfl); (case hr => first | (go_simp; done) | (go_simp; rfl)); (case hp => exact Kd.reps_scalar [bAny]); intro v5 w5 hR_ hB_ hg_ hnew_
               obtain ⟨A5, c5, rfl⟩ : ∃ A c, v5 = .slice A 1 c := Kd.R_slice hR_
               have HL5 := Aside0.mk (And.intro (HR4.out.1.below hB_) (And.intro (strs_of_R hR_) (below_step HR4.out.2 hB_))); clear hR_ hB_ hg_ hnew_)
            | (go_at_call 25; refine (has_walk bAny _ _ w5 (HU.out.below HL5.out.2.2) (by rw [List.length_map]; have := HF.out.2; omega)).mono ?_; rintro e w6 ⟨rfl, hb_⟩; rw [HM.out]; have HL6 := Aside0.mk (And.intro (HL5.out.1.below hb_) (And.intro (HL5.out.2.1.below hb_) (below_step HL5.out.2.2 hb_))); clear hb_)
            | (go_at_call 20; refine (texts_walk _ _ _ _ w6 HL6.out.1 HL6.out.2.1 (by rw [List.length_map]; have := HAL.out; omega) (by simp)).mono ?_; rintro e w7 ⟨rfl, hb_⟩; rw [decide_eq_true HE.out]; have HL7 := Aside0.mk (below_step HL6.out.2.2 hb_); clear hb_)
            | (go_at_call 13; (with_reducible refine (live_walk w7).mono ?_); rintro e w8 ⟨rfl, hb_⟩; have HZ := Aside0.mk (below_step HL7.out hb_); clear hb_))
          go_ret
          exact ⟨rfl, HZ.out⟩
        · have HM := Aside0.mk (show memB bAny (user.map bs) = false by rw [← Bool.not_eq_true]; exact fun h => hany (any_in.1 h))
          have HE := Aside0.mk (plain_want user (fun h => hnu0 (by rw [← HF.out.2, h]; rfl)) hany)
          clear hany
          go_wp2_with (first
            | (go_at_call 22; (with_reducible refine (chain_walk _ _ wr HBB.out.1 (by rw [List.length_replicate]; omega)).mono ?_); rintro e w1 ⟨v1, rfl, hv_, hb_⟩; have HC1 := Aside0.mk (And.intro hv_ (And.intro (HBB.out.2.below hb_) (below_step HW.out hb_))); clear hv_ hb_)
            | (go_at_call 21; (with_reducible refine (plain_runA hK1 hK8 HC1.out.1).mono ?_); rintro e w2 ⟨A2, c2, rfl, hb_⟩; have HR2 := Aside0.mk (And.intro (HC1.out.2.1.below hb_) (below_step HC1.out.2.2 hb_)); clear hb_)
            | (go_at_call 22; (with_reducible refine (chain_walk _ _ w2 HR2.out.1 (by rw [List.length_replicate]; omega)).mono ?_); rintro e w3 ⟨v3, rfl, hv_, hb_⟩; have HC3 := Aside0.mk (And.intro hv_ (below_step HR2.out.2 hb_)); clear hv_ hb_)
            | (go_at_call 21; (with_reducible refine (plain_runB hK1 hK8 HC3.out.1 (HU.out.below HC3.out.2) (by have := HF.out.2; omega) HF.out.1).mono ?_); rintro e w4 ⟨A4, n4, c4, rfl, hs_, hb_⟩; have HR4 := Aside0.mk (And.intro hs_ (below_step HC3.out.2 hb_)); clear hs_ hb_)
            | ((with_reducible refine gate_dst (N := 50) rfl ?_); refine Kd.R_lit Kd.string w4.heap.size 9 ?hg (N := 50) ?hd (xs := [bAny]) (inner := [.string bAny]) (ok := fun _ => True) (okp := fun _ => True) ?hr ?hp (fun _ hk => hk) trivial (Below.refl _ _) (Nat.le_refl _) (by simp) ?_; (case hd => rfl); (case hg => rfl); (case hr => first | (go_simp; done) | (go_simp; rfl)); (case hp => exact Kd.reps_scalar [bAny]); intro v5 w5 hR_ hB_ hg_ hnew_
               obtain ⟨A5, c5, rfl⟩ : ∃ A c, v5 = .slice A 1 c := Kd.R_slice hR_
               have HL5 := Aside0.mk (And.intro (HR4.out.1.below hB_) (And.intro (strs_of_R hR_) (below_step HR4.out.2 hB_))); clear hR_ hB_ hg_ hnew_)
            | (go_at_call 25; refine (has_walk bAny _ _ w5 (HU.out.below HL5.out.2.2) (by rw [List.length_map]; have := HF.out.2; omega)).mono ?_; rintro e w6 ⟨rfl, hb_⟩; rw [HM.out]; have HL6 := Aside0.mk (And.intro (HL5.out.1.below hb_) (And.intro (HL5.out.2.1.below hb_) (below_step HL5.out.2.2 hb_))); clear hb_))
          have HX := Aside0.mk (And.intro HL6.out.1 HL6.out.2.2)
          clear HL5 HL6 HR2 HR4 HC1 HC3 HBB HW
          go_loopw [13, 14] (fun v i wr => ∃ (q : Nat), q ≤ nu ∧ i = .int .i64 q ∧ Aside0 (Kd.R Kd.string 9 wr w6.heap.size (fun _ => True) v (((user.take q).foldl put []).map bs)) ∧ Aside0 (Below w6.heap.size w6 wr)) (fun _ i _ => nu - (intOf i).toNat)
          case atStart => exact ⟨0, Nat.zero_le _, rfl, ⟨Kd.R_nil _ _ _ _ _⟩, ⟨Below.refl _ _⟩⟩
          case round =>
            obtain ⟨q, hq, rfl, HK, HV⟩ := hrel
            have HU2 := Aside0.mk (HU.out.below (below_step HX.out.2 HV.out))
            by_cases hqlt : q < nu
            · have hqu : q < user.length := by rw [HF.out.2]; exact hqlt
              obtain ⟨ad, hU, hcx⟩ := Kd.at_string (rd_Cs HU2.out) q (by omega) (by exact_mod_cast hqlt)
              subst hU
              rw [rd_map user q hqu] at hcx
              have HTQ := Aside0.mk (show (user.take (q + 1)).foldl put [] = put ((user.take q).foldl put []) (tl (bs user[q])) by rw [take_s user q hqu, List.foldl_append, tl_bs]; rfl)
              have HPL := Aside0.mk (And.intro (puts_ss (user.take q) [] List.Pairwise.nil) (show ((user.take q).foldl put []).length ≤ 1000 by have := foldl_put_len (user.take q) []; rw [List.length_take, List.length_nil] at this; omega))
              simp only [Int.toNat_natCast] at hcx
              generalize bs user[q] = x at hcx HTQ
              generalize (user.take q).foldl put [] = acc at HK HTQ HPL
              have p3 : ((q : Int) < (nu : Int)) = True := by simpa using hqlt
              have p4 : (0 ≤ (q : Int)) = True := by simp
              clear hqu
              go_wp2_with (go_at_call 27; refine (put_at HV.out HK.out (by have := HPL.out.2; omega) HPL.out.1).mono ?_; rintro e w9 ⟨v9, rfl, hr_, hb_⟩; have HP9 := Aside0.mk (And.intro hr_ hb_); clear hr_ hb_)
              go_roundw
              case rel => exact ⟨q + 1, by omega, by go_num, ⟨by rw [HTQ.out]; exact HP9.out.1⟩, ⟨HP9.out.2⟩⟩
              case measure => simp [intOf]; omega
            · have e : q = nu := by omega
              subst e
              have HL9 := Aside0.mk (show Strs wr u13 ((user.foldl put []).map bs) from by have h := strs_of_R HK.out; rw [← HF.out.2, List.take_length] at h; exact h)
              have HY := Aside0.mk (And.intro (HX.out.1.below HV.out) (And.intro HL9.out (below_step HX.out.2 HV.out)))
              have HPL := Aside0.mk (show (user.foldl put []).length ≤ 1000 by have := foldl_put_len user []; rw [HF.out.2, List.length_nil] at this; omega)
              have HEm := Aside0.mk (congrArg (List.map bs) HE.out)
              clear HK HE
              have HE := HEm
              clear HEm
              go_wp2_with (first
                | (go_at_call 20; refine (texts_walk _ _ _ _ wr HY.out.1 HY.out.2.1 (by rw [List.length_map]; have := HAL.out; omega) (by rw [List.length_map]; have := HPL.out; omega)).mono ?_; rintro e w7 ⟨rfl, hb_⟩; rw [decide_eq_true HE.out]; have HL7 := Aside0.mk (below_step HY.out.2.2 hb_); clear hb_)
                | (go_at_call 13; (with_reducible refine (live_walk w7).mono ?_); rintro e w8 ⟨rfl, hb_⟩; have HZ := Aside0.mk (below_step HL7.out hb_); clear hb_))
              go_ret
              exact ⟨rfl, HZ.out⟩
theorem plain_row (n : Int) (uv : Value) (user : List S) (w : World) (hn : (Lit.int .u8 n).wf = true) (hu : Strs w uv (user.map bs) ∧ FitS user) :
    Calls Tryd.prog 9 #[.int .u8 n, uv] w fun e w' => e = .returned (.bool true) ∧ Below w.heap.size w w' := by
  obtain ⟨hu, fu⟩ := hu
  obtain ⟨U, cU, rfl, hcU, hnU⟩ := hu.open_
  have hn2 : IntKind.u8.min ≤ n ∧ n ≤ IntKind.u8.max := by simpa [Lit.wf] using hn
  by_cases hbig : 200 < user.length
  · exact plain_big n U cU _ w hn2 hbig
  · exact plain_main n U cU _ user w hn2 hu fu rfl hbig
end Go.Proofs.YtgeoibgohlpfjaaDoor.Py
