/- The law PolicyAsks, walked (written by asksgen.py). -/
import Derived.Test.YtgeoibgohlpfjaaDoorPyAmong
set_option linter.unusedVariables false
set_option linter.unusedSimpArgs false
namespace Go.Proofs.YtgeoibgohlpfjaaDoor.Py
open Go Go.RowKit Go.Maps Go.Proofs.YtgeoibgohlpfjaaDoorW.PrintWords Go.Proofs.YtgeoibgohlpfjaaDoorW.PrintLast Go.Proofs.YtgeoibgohlpfjaaDoorW.PrintMore
theorem run_res {w : World} {v uv : Value} {l : List Cb} {user : List S} {ex inh b : Bool} (hr : (runV l user ex inh).isSome = b) (hv : Certs w v l) (hu : Strs w uv (user.map bs)) (hl : l.length ≤ 30) (hpol : ∀ c ∈ l, c.pol.length ≤ 1000 ∧ FitS c.pol) (hul : user.length ≤ 1000000) (fu : FitS user) :
    Calls Tryd.prog 21 #[v, uv, .bool ex, .bool inh] w fun e w' => ∃ A n c, e = .returned (.tuple #[.slice A n c, .bool b]) ∧ Strs w' (.slice A n c) (((runV l user ex inh).getD []).map bs) ∧ Below w.heap.size w w' := by
  subst hr
  exact run_vals rfl hv hu hl hpol hul fu
theorem run_no {w : World} {v uv : Value} {l : List Cb} {user : List S} {ex inh : Bool} (hr : runV l user ex inh = none) (hv : Certs w v l) (hu : Strs w uv (user.map bs)) (hl : l.length ≤ 30) (hpol : ∀ c ∈ l, c.pol.length ≤ 1000 ∧ FitS c.pol) (hul : user.length ≤ 1000000) (fu : FitS user) :
    Calls Tryd.prog 21 #[v, uv, .bool ex, .bool inh] w fun e w' => e = .returned (.tuple #[.slice none 0 0, .bool false]) ∧ Below w.heap.size w w' :=
  (run_at hr hv hu hl hpol hul fu).mono fun e w' ⟨h, hb⟩ => ⟨h, hb⟩
theorem len_tl (s : ByteArray) : (tl s).length = s.size := by
  show s.data.toList.length = s.data.size
  exact Array.length_toList
theorem run_nil {w : World} {v : Value} {l : List Cb} {ex inh b : Bool} (hr : (runV l [] ex inh).isSome = b) (hv : Certs w v l) (hl : l.length ≤ 30) (hpol : ∀ c ∈ l, c.pol.length ≤ 1000 ∧ FitS c.pol) :
    Calls Tryd.prog 21 #[v, .slice none 0 0, .bool ex, .bool inh] w fun e w' => ∃ A n c, e = .returned (.tuple #[.slice A n c, .bool b]) ∧ Below w.heap.size w w' :=
  (run_res hr hv (Strs.nil _) hl hpol (Nat.zero_le _) (fun s hs => by simp at hs)).mono fun e w' ⟨A, n, c, he, _, hb⟩ => ⟨A, n, c, he, hb⟩
theorem isSome_of {α : Type} {o : Option α} (h : o ≠ none) : o.isSome = true := by
  cases o with
  | none => exact absurd rfl h
  | some _ => rfl
theorem more_refl (p : Pl) : More p p := ⟨fun _ h => h, Int.le_refl _, Int.le_refl _⟩
theorem asks_free {l : List Cb} {user : List S} {ex inh : Bool} (h : runV l user ex inh ≠ none) : (runV l user false inh).isSome = true := isSome_of (runFrom_mono (wider_refl user) l _ _ (start_explicit _ _ _) h)
theorem asks_loose {l : List Cb} {user : List S} {ex inh : Bool} (h : runV l user ex inh ≠ none) : (runV l user ex false).isSome = true := isSome_of (runFrom_mono (wider_refl user) l _ _ (start_inhibit _ _ _) h)
theorem asks_wide {l : List Cb} {user : List S} {ex inh : Bool} (m : S) (hu : user ≠ []) (h : runV l user ex inh ≠ none) : (runV l (user ++ [m]) ex inh).isSome = true := isSome_of (runFrom_mono (wider_more user m hu) l _ _ (more_refl _) h)
theorem asks_all {l : List Cb} {user : List S} {ex inh : Bool} (h : runV l user ex inh ≠ none) : (runV l [] ex inh).isSome = true := isSome_of (runFrom_mono (wider_nil user) l _ _ (more_refl _) h)
/-- what the walk knows of the input -/
structure AskIn (l : List Cb) (user : List S) (more : ByteArray) : Prop where
  len : l.length ≤ 30
  ulen : user.length ≤ 1000000
  pol : ∀ c ∈ l, c.pol.length ≤ 1000 ∧ FitS c.pol
  fit : FitS user
  wlen : (user ++ [tl more]).length ≤ 1000000
  wfit : FitS (user ++ [tl more])
  wmap : (user ++ [tl more]).map bs = user.map bs ++ [more]
theorem AskIn.mk_ {l : List Cb} {user : List S} {more : ByteArray} (h : hugeB l user = false) (hok : ∀ b ∈ l, BitOk b) (fu : FitS user) (hm : more.size ≤ 140737488351232) : AskIn l user more := by
  obtain ⟨h1, h2, h3⟩ := not_huge h
  have e : (tl more).length = more.size := len_tl more
  refine ⟨h1, by omega, fun c hc => ⟨by have := h3 c hc; omega, (hok c hc).1⟩, fu, by rw [List.length_append, List.length_singleton]; omega, fun s hs => ?_, by rw [List.map_append, List.map_singleton, bs_tl]⟩
  rcases List.mem_append.1 hs with h | h
  · exact fu s h
  · simp at h
    subst h
    rw [e]
    unfold maxLen
    omega
theorem not_nil_of_len {α : Type} {l : List α} {n : Nat} (h : l.length = n) (hn : 0 < n) : l ≠ [] := fun e => by
  subst e
  simp at h
  omega
set_option maxHeartbeats 8000000 in
set_option maxRecDepth 100000 in
theorem asks_huge (v uv : Value) (l : List Cb) (user : List S) (more : ByteArray) (ex inh : Bool) (w : World) (hv : Bits w v l) (hu : Strs w uv (user.map bs)) (hnu : user.length ≤ 9223372036854775807) (hug : hugeB l user = true) :
    Calls Tryd.prog 8 #[v, uv, .string more, .bool ex, .bool inh] w fun e w' => e = .returned (.bool true) ∧ Below w.heap.size w w' := by
  have HV0 := Aside0.mk (And.intro hv hu)
  clear hv hu
  go_enter Tryd.func8, Tryd.ntmps8
  go_wp2_with (first
    | (go_at_call 14; refine (huge_walk _ _ l user w HV0.out.1 HV0.out.2 hnu).mono ?_; rintro e w_ ⟨rfl, hs_⟩; subst w_; rw [hug])
    | (go_at_call 13; (with_reducible refine (live_walk w).mono ?_); rintro e w1 ⟨rfl, hb1⟩; have HA := Aside0.mk hb1; clear hb1))
  go_ret
  exact ⟨rfl, HA.out⟩
set_option maxHeartbeats 16000000 in
set_option maxRecDepth 100000 in
theorem asks_none (v : Value) (U : Option Addr) (cU nu : Nat) (l : List Cb) (user : List S) (more : ByteArray) (ex inh b1 b2 b3 b4 : Bool) (w : World) (hv : Bits w v l) (hu : Strs w (.slice U nu cU) (user.map bs)) (hn : user.length = nu) (hp : nu = 0) (hug : hugeB l user = false) (hi : AskIn l user more) (hq : (runV l user ex inh = none ∧ (runV l user false inh).isSome = b1 ∧ (runV l user ex false).isSome = b2 ∧ (runV l (user ++ [tl more]) ex inh).isSome = b3 ∧ (runV l [] ex inh).isSome = b4)) :
    Calls Tryd.prog 8 #[v, .slice U nu cU, .string more, .bool ex, .bool inh] w fun e w' => e = .returned (.bool true) ∧ Below w.heap.size w w' := by
  have HV0 := Aside0.mk (And.intro hv hu)
  have HN := Aside0.mk hn
  have HH := Aside0.mk hug
  have HI := Aside0.mk hi
  have HQ := Aside0.mk hq
  clear hv hu hn hug hi hq
  subst hp
  go_enter Tryd.func8, Tryd.ntmps8
  go_wp2_with (first
    | (go_at_call 14; refine (huge_walk _ _ l user w HV0.out.1 HV0.out.2 (by have := HI.out.ulen; omega)).mono ?_; rintro e w_ ⟨rfl, hs_⟩; subst w_; rw [HH.out])
    | (go_at_call 22; (with_reducible refine (chain_walk _ l w (HV0.out.1.below (Below.refl w.heap.size w)) HI.out.len).mono ?_); rintro e w1 ⟨v1, rfl, hv_, hb_⟩; have HC1 := Aside0.mk (And.intro hv_ (below_step (Below.refl w.heap.size w) hb_)); clear hv_ hb_)
    | (go_at_call 21; (with_reducible refine (run_no HQ.out.1 HC1.out.1 (HV0.out.2.below HC1.out.2) HI.out.len HI.out.pol HI.out.ulen HI.out.fit).mono ?_); rintro e w2 ⟨rfl, hb_⟩; have HR2 := Aside0.mk (And.intro (Strs.nil w2) (below_step HC1.out.2 hb_)); have HX2 := Aside0.mk (Below.refl w2.heap.size w2); clear hb_)
    | (go_at_call 22; (with_reducible refine (chain_walk _ l w2 (HV0.out.1.below HR2.out.2) HI.out.len).mono ?_); rintro e w3 ⟨v3, rfl, hv_, hb_⟩; have HC3 := Aside0.mk (And.intro hv_ (below_step HR2.out.2 hb_)); have HX3 := Aside0.mk (below_step HX2.out hb_); clear hv_ hb_)
    | (go_at_call 21; (with_reducible refine (run_res HQ.out.2.1 HC3.out.1 (HV0.out.2.below HC3.out.2) HI.out.len HI.out.pol HI.out.ulen HI.out.fit).mono ?_); rintro e w4 ⟨A4, n4, c4, rfl, hs_, hb_⟩; have HR4 := Aside0.mk (And.intro hs_ (below_step HC3.out.2 hb_)); have HX4 := Aside0.mk (below_step HX3.out hb_); clear hs_ hb_)
    | (go_at_call 22; (with_reducible refine (chain_walk _ l w4 (HV0.out.1.below HR4.out.2) HI.out.len).mono ?_); rintro e w5 ⟨v5, rfl, hv_, hb_⟩; have HC5 := Aside0.mk (And.intro hv_ (below_step HR4.out.2 hb_)); have HX5 := Aside0.mk (below_step HX4.out hb_); clear hv_ hb_)
    | (go_at_call 21; (with_reducible refine (run_res HQ.out.2.2.1 HC5.out.1 (HV0.out.2.below HC5.out.2) HI.out.len HI.out.pol HI.out.ulen HI.out.fit).mono ?_); rintro e w6 ⟨A6, n6, c6, rfl, hs_, hb_⟩; have HR6 := Aside0.mk (And.intro hs_ (below_step HC5.out.2 hb_)); have HX6 := Aside0.mk (below_step HX5.out hb_); clear hs_ hb_)
    | (go_at_call 13; (with_reducible refine (live_walk w6).mono ?_); rintro e wL ⟨rfl, hb_⟩; have HZ := Aside0.mk (below_step HR6.out.2 hb_); clear hb_))
  go_ret
  exact ⟨rfl, HZ.out⟩
set_option maxHeartbeats 16000000 in
set_option maxRecDepth 100000 in
theorem asks_none_any (v : Value) (U : Option Addr) (cU nu : Nat) (l : List Cb) (user : List S) (more : ByteArray) (ex inh b1 b2 b3 b4 : Bool) (w : World) (hv : Bits w v l) (hu : Strs w (.slice U nu cU) (user.map bs)) (hn : user.length = nu) (hp : 0 < nu) (hug : hugeB l user = false) (hi : AskIn l user more) (hq : (runV l user ex inh = none ∧ (runV l user false inh).isSome = b1 ∧ (runV l user ex false).isSome = b2 ∧ (runV l (user ++ [tl more]) ex inh).isSome = b3 ∧ (runV l [] ex inh).isSome = b4)) (hm : memB bAny (user.map bs) = true ∧ True) :
    Calls Tryd.prog 8 #[v, .slice U nu cU, .string more, .bool ex, .bool inh] w fun e w' => e = .returned (.bool true) ∧ Below w.heap.size w w' := by
  have HV0 := Aside0.mk (And.intro hv hu)
  have HN := Aside0.mk hn
  have HH := Aside0.mk hug
  have HI := Aside0.mk hi
  have HQ := Aside0.mk hq
  have HM := Aside0.mk hm
  clear hm
  clear hv hu hn hug hi hq
  have p1 : (0 < (nu : Int)) = True := by simpa using hp
  go_enter Tryd.func8, Tryd.ntmps8
  go_wp2_with (first
    | (go_at_call 14; refine (huge_walk _ _ l user w HV0.out.1 HV0.out.2 (by have := HI.out.ulen; omega)).mono ?_; rintro e w_ ⟨rfl, hs_⟩; subst w_; rw [HH.out])
    | (go_at_call 22; (with_reducible refine (chain_walk _ l w (HV0.out.1.below (Below.refl w.heap.size w)) HI.out.len).mono ?_); rintro e w1 ⟨v1, rfl, hv_, hb_⟩; have HC1 := Aside0.mk (And.intro hv_ (below_step (Below.refl w.heap.size w) hb_)); clear hv_ hb_)
    | (go_at_call 21; (with_reducible refine (run_no HQ.out.1 HC1.out.1 (HV0.out.2.below HC1.out.2) HI.out.len HI.out.pol HI.out.ulen HI.out.fit).mono ?_); rintro e w2 ⟨rfl, hb_⟩; have HR2 := Aside0.mk (And.intro (Strs.nil w2) (below_step HC1.out.2 hb_)); have HX2 := Aside0.mk (Below.refl w2.heap.size w2); clear hb_)
    | (go_at_call 22; (with_reducible refine (chain_walk _ l w2 (HV0.out.1.below HR2.out.2) HI.out.len).mono ?_); rintro e w3 ⟨v3, rfl, hv_, hb_⟩; have HC3 := Aside0.mk (And.intro hv_ (below_step HR2.out.2 hb_)); have HX3 := Aside0.mk (below_step HX2.out hb_); clear hv_ hb_)
    | (go_at_call 21; (with_reducible refine (run_res HQ.out.2.1 HC3.out.1 (HV0.out.2.below HC3.out.2) HI.out.len HI.out.pol HI.out.ulen HI.out.fit).mono ?_); rintro e w4 ⟨A4, n4, c4, rfl, hs_, hb_⟩; have HR4 := Aside0.mk (And.intro hs_ (below_step HC3.out.2 hb_)); have HX4 := Aside0.mk (below_step HX3.out hb_); clear hs_ hb_)
    | (go_at_call 22; (with_reducible refine (chain_walk _ l w4 (HV0.out.1.below HR4.out.2) HI.out.len).mono ?_); rintro e w5 ⟨v5, rfl, hv_, hb_⟩; have HC5 := Aside0.mk (And.intro hv_ (below_step HR4.out.2 hb_)); have HX5 := Aside0.mk (below_step HX4.out hb_); clear hv_ hb_)
    | (go_at_call 21; (with_reducible refine (run_res HQ.out.2.2.1 HC5.out.1 (HV0.out.2.below HC5.out.2) HI.out.len HI.out.pol HI.out.ulen HI.out.fit).mono ?_); rintro e w6 ⟨A6, n6, c6, rfl, hs_, hb_⟩; have HR6 := Aside0.mk (And.intro hs_ (below_step HC5.out.2 hb_)); have HX6 := Aside0.mk (below_step HX5.out hb_); clear hs_ hb_)
    | (go_at_call 22; (with_reducible refine (chain_walk _ l w6 (HV0.out.1.below HR6.out.2) HI.out.len).mono ?_); rintro e w7 ⟨v7, rfl, hv_, hb_⟩; have HC7 := Aside0.mk (And.intro hv_ (below_step HR6.out.2 hb_)); have HX7 := Aside0.mk (below_step HX6.out hb_); clear hv_ hb_)
    | ((with_reducible refine gate_dst (N := 65) rfl ?_); refine Kd.R_lit Kd.string w7.heap.size 9 ?hg (N := 65) ?hd (xs := ([] : List ByteArray)) (inner := []) (ok := fun _ => True) (okp := fun _ => True) ?hr ?hp (fun _ hk => hk) trivial (Below.refl _ _) (Nat.le_refl _) (by simp) ?_; (case hd => rfl); (case hg => rfl); (case hr => first | (go_simp; done) | (go_simp; rfl)); (case hp => exact (Reps.none _ _)); intro v8 w8 hR_ hB_ hg_ hnew_; have HL8 := Aside0.mk (And.intro hR_ hB_); clear hR_ hB_ hg_ hnew_)
    | (at_builtin; refine Kd.R_append_rows Kd.string (w0 := w7) w7.heap.size rfl (.tmp 65) (.tmp 66) 23 9 (.string ⟨#[]⟩) 16 rfl Tryd.underlying23 info9 rfl (by decide) (by decide) _ ([] : List ByteArray) (user.map bs) U nu cU (fun _ => True) (fun _ => False) rfl rfl HL8.out.1 (row_of (HV0.out.2.below (below_step HC7.out.2 HL8.out.2))) (fun _ _ h => h) (fun _ h => h.elim) (fun _ _ => trivial) HL8.out.2 HL8.out.2.size (by have := HN.out; have := HI.out.ulen; simp only [List.length_nil]; omega) ?_; intro v9 w9 hR_ hB_ hg_ hat_; have HL9 := Aside0.mk (And.intro (show Kd.R Kd.string 9 w9 w7.heap.size (fun _ => True) v9 (user.map bs) from hR_) hB_); clear hR_ hB_ hg_ hat_)
    | (at_builtin; refine Kd.R_append Kd.string (w0 := w7) w7.heap.size rfl (.tmp 67) (.tmp 69) 23 9 (.string ⟨#[]⟩) 16 rfl Tryd.underlying23 info9 rfl (by decide) (by decide) _ (user.map bs) more [.string more] (fun _ => True) (fun _ => False) rfl rfl rfl (fun _ h => h.elim) (fun _ _ => trivial) HL9.out.1 HL9.out.2 HL9.out.2.size (by rw [List.length_map]; have := HI.out.ulen; omega) ?_; intro v10 w10 hR_ hB_ hg_ hat_; have HL10 := Aside0.mk (And.intro (show Strs w10 v10 ((user ++ [tl more]).map bs) by rw [HI.out.wmap]; exact strs_of_R hR_) (And.intro (HC7.out.1.below hB_) (below_step HC7.out.2 hB_))); have HX10 := Aside0.mk (below_step HX7.out hB_); clear hR_ hB_ hg_ hat_)
    | (go_at_call 21; (with_reducible refine (run_res HQ.out.2.2.2.1 HL10.out.2.1 HL10.out.1 HI.out.len HI.out.pol HI.out.wlen HI.out.wfit).mono ?_); rintro e w11 ⟨A11, n11, c11, rfl, hs_, hb_⟩; have HR11 := Aside0.mk (below_step HL10.out.2.2 hb_); have HX11 := Aside0.mk (below_step HX10.out hb_); clear hs_ hb_)
    | (go_at_call 22; (with_reducible refine (chain_walk _ l w11 (HV0.out.1.below HR11.out) HI.out.len).mono ?_); rintro e w12 ⟨v12, rfl, hv_, hb_⟩; have HC12 := Aside0.mk (And.intro hv_ (below_step HR11.out hb_)); have HX12 := Aside0.mk (below_step HX11.out hb_); clear hv_ hb_)
    | (go_at_call 21; (with_reducible refine (run_nil HQ.out.2.2.2.2 HC12.out.1 HI.out.len HI.out.pol).mono ?_); rintro e w13 ⟨A13, n13, c13, rfl, hb_⟩; have HR13 := Aside0.mk (below_step HC12.out.2 hb_); have HX13 := Aside0.mk (below_step HX12.out hb_); clear hb_)
    | (go_at_call 25; refine (has_walk bAny _ _ w13 (HV0.out.2.below HR13.out) (by rw [List.length_map]; have := HI.out.ulen; omega)).mono ?_; rintro e w14 ⟨rfl, hb_⟩; rw [HM.out.1]; have HR14 := Aside0.mk (below_step HR13.out hb_); have HX14 := Aside0.mk (below_step HX13.out hb_); clear hb_)
    | (go_at_call 13; (with_reducible refine (live_walk w14).mono ?_); rintro e wL ⟨rfl, hb_⟩; have HZ := Aside0.mk (below_step HR14.out hb_); clear hb_))
  go_ret
  exact ⟨rfl, HZ.out⟩
set_option maxHeartbeats 16000000 in
set_option maxRecDepth 100000 in
theorem asks_none_not (v : Value) (U : Option Addr) (cU nu : Nat) (l : List Cb) (user : List S) (more : ByteArray) (ex inh b1 b2 b3 b4 : Bool) (w : World) (hv : Bits w v l) (hu : Strs w (.slice U nu cU) (user.map bs)) (hn : user.length = nu) (hp : 0 < nu) (hug : hugeB l user = false) (hi : AskIn l user more) (hq : (runV l user ex inh = none ∧ (runV l user false inh).isSome = b1 ∧ (runV l user ex false).isSome = b2 ∧ (runV l (user ++ [tl more]) ex inh).isSome = b3 ∧ (runV l [] ex inh).isSome = b4)) (hm : memB bAny (user.map bs) = false ∧ ([] : List ByteArray).length < 4611686018427387904 ∧ (user.map bs).length < 4611686018427387904 ∧ ∀ x ∈ ([] : List ByteArray), x ∈ user.map bs) :
    Calls Tryd.prog 8 #[v, .slice U nu cU, .string more, .bool ex, .bool inh] w fun e w' => e = .returned (.bool true) ∧ Below w.heap.size w w' := by
  have HV0 := Aside0.mk (And.intro hv hu)
  have HN := Aside0.mk hn
  have HH := Aside0.mk hug
  have HI := Aside0.mk hi
  have HQ := Aside0.mk hq
  have HM := Aside0.mk hm
  clear hm
  clear hv hu hn hug hi hq
  have p1 : (0 < (nu : Int)) = True := by simpa using hp
  go_enter Tryd.func8, Tryd.ntmps8
  go_wp2_with (first
    | (go_at_call 14; refine (huge_walk _ _ l user w HV0.out.1 HV0.out.2 (by have := HI.out.ulen; omega)).mono ?_; rintro e w_ ⟨rfl, hs_⟩; subst w_; rw [HH.out])
    | (go_at_call 22; (with_reducible refine (chain_walk _ l w (HV0.out.1.below (Below.refl w.heap.size w)) HI.out.len).mono ?_); rintro e w1 ⟨v1, rfl, hv_, hb_⟩; have HC1 := Aside0.mk (And.intro hv_ (below_step (Below.refl w.heap.size w) hb_)); clear hv_ hb_)
    | (go_at_call 21; (with_reducible refine (run_no HQ.out.1 HC1.out.1 (HV0.out.2.below HC1.out.2) HI.out.len HI.out.pol HI.out.ulen HI.out.fit).mono ?_); rintro e w2 ⟨rfl, hb_⟩; have HR2 := Aside0.mk (And.intro (Strs.nil w2) (below_step HC1.out.2 hb_)); have HX2 := Aside0.mk (Below.refl w2.heap.size w2); clear hb_)
    | (go_at_call 22; (with_reducible refine (chain_walk _ l w2 (HV0.out.1.below HR2.out.2) HI.out.len).mono ?_); rintro e w3 ⟨v3, rfl, hv_, hb_⟩; have HC3 := Aside0.mk (And.intro hv_ (below_step HR2.out.2 hb_)); have HX3 := Aside0.mk (below_step HX2.out hb_); clear hv_ hb_)
    | (go_at_call 21; (with_reducible refine (run_res HQ.out.2.1 HC3.out.1 (HV0.out.2.below HC3.out.2) HI.out.len HI.out.pol HI.out.ulen HI.out.fit).mono ?_); rintro e w4 ⟨A4, n4, c4, rfl, hs_, hb_⟩; have HR4 := Aside0.mk (And.intro hs_ (below_step HC3.out.2 hb_)); have HX4 := Aside0.mk (below_step HX3.out hb_); clear hs_ hb_)
    | (go_at_call 22; (with_reducible refine (chain_walk _ l w4 (HV0.out.1.below HR4.out.2) HI.out.len).mono ?_); rintro e w5 ⟨v5, rfl, hv_, hb_⟩; have HC5 := Aside0.mk (And.intro hv_ (below_step HR4.out.2 hb_)); have HX5 := Aside0.mk (below_step HX4.out hb_); clear hv_ hb_)
    | (go_at_call 21; (with_reducible refine (run_res HQ.out.2.2.1 HC5.out.1 (HV0.out.2.below HC5.out.2) HI.out.len HI.out.pol HI.out.ulen HI.out.fit).mono ?_); rintro e w6 ⟨A6, n6, c6, rfl, hs_, hb_⟩; have HR6 := Aside0.mk (And.intro hs_ (below_step HC5.out.2 hb_)); have HX6 := Aside0.mk (below_step HX5.out hb_); clear hs_ hb_)
    | (go_at_call 22; (with_reducible refine (chain_walk _ l w6 (HV0.out.1.below HR6.out.2) HI.out.len).mono ?_); rintro e w7 ⟨v7, rfl, hv_, hb_⟩; have HC7 := Aside0.mk (And.intro hv_ (below_step HR6.out.2 hb_)); have HX7 := Aside0.mk (below_step HX6.out hb_); clear hv_ hb_)
    | ((with_reducible refine gate_dst (N := 65) rfl ?_); refine Kd.R_lit Kd.string w7.heap.size 9 ?hg (N := 65) ?hd (xs := ([] : List ByteArray)) (inner := []) (ok := fun _ => True) (okp := fun _ => True) ?hr ?hp (fun _ hk => hk) trivial (Below.refl _ _) (Nat.le_refl _) (by simp) ?_; (case hd => rfl); (case hg => rfl); (case hr => first | (go_simp; done) | (go_simp; rfl)); (case hp => exact (Reps.none _ _)); intro v8 w8 hR_ hB_ hg_ hnew_; have HL8 := Aside0.mk (And.intro hR_ hB_); clear hR_ hB_ hg_ hnew_)
    | (at_builtin; refine Kd.R_append_rows Kd.string (w0 := w7) w7.heap.size rfl (.tmp 65) (.tmp 66) 23 9 (.string ⟨#[]⟩) 16 rfl Tryd.underlying23 info9 rfl (by decide) (by decide) _ ([] : List ByteArray) (user.map bs) U nu cU (fun _ => True) (fun _ => False) rfl rfl HL8.out.1 (row_of (HV0.out.2.below (below_step HC7.out.2 HL8.out.2))) (fun _ _ h => h) (fun _ h => h.elim) (fun _ _ => trivial) HL8.out.2 HL8.out.2.size (by have := HN.out; have := HI.out.ulen; simp only [List.length_nil]; omega) ?_; intro v9 w9 hR_ hB_ hg_ hat_; have HL9 := Aside0.mk (And.intro (show Kd.R Kd.string 9 w9 w7.heap.size (fun _ => True) v9 (user.map bs) from hR_) hB_); clear hR_ hB_ hg_ hat_)
    | (at_builtin; refine Kd.R_append Kd.string (w0 := w7) w7.heap.size rfl (.tmp 67) (.tmp 69) 23 9 (.string ⟨#[]⟩) 16 rfl Tryd.underlying23 info9 rfl (by decide) (by decide) _ (user.map bs) more [.string more] (fun _ => True) (fun _ => False) rfl rfl rfl (fun _ h => h.elim) (fun _ _ => trivial) HL9.out.1 HL9.out.2 HL9.out.2.size (by rw [List.length_map]; have := HI.out.ulen; omega) ?_; intro v10 w10 hR_ hB_ hg_ hat_; have HL10 := Aside0.mk (And.intro (show Strs w10 v10 ((user ++ [tl more]).map bs) by rw [HI.out.wmap]; exact strs_of_R hR_) (And.intro (HC7.out.1.below hB_) (below_step HC7.out.2 hB_))); have HX10 := Aside0.mk (below_step HX7.out hB_); clear hR_ hB_ hg_ hat_)
    | (go_at_call 21; (with_reducible refine (run_res HQ.out.2.2.2.1 HL10.out.2.1 HL10.out.1 HI.out.len HI.out.pol HI.out.wlen HI.out.wfit).mono ?_); rintro e w11 ⟨A11, n11, c11, rfl, hs_, hb_⟩; have HR11 := Aside0.mk (below_step HL10.out.2.2 hb_); have HX11 := Aside0.mk (below_step HX10.out hb_); clear hs_ hb_)
    | (go_at_call 22; (with_reducible refine (chain_walk _ l w11 (HV0.out.1.below HR11.out) HI.out.len).mono ?_); rintro e w12 ⟨v12, rfl, hv_, hb_⟩; have HC12 := Aside0.mk (And.intro hv_ (below_step HR11.out hb_)); have HX12 := Aside0.mk (below_step HX11.out hb_); clear hv_ hb_)
    | (go_at_call 21; (with_reducible refine (run_nil HQ.out.2.2.2.2 HC12.out.1 HI.out.len HI.out.pol).mono ?_); rintro e w13 ⟨A13, n13, c13, rfl, hb_⟩; have HR13 := Aside0.mk (below_step HC12.out.2 hb_); have HX13 := Aside0.mk (below_step HX12.out hb_); clear hb_)
    | (go_at_call 25; refine (has_walk bAny _ _ w13 (HV0.out.2.below HR13.out) (by rw [List.length_map]; have := HI.out.ulen; omega)).mono ?_; rintro e w14 ⟨rfl, hb_⟩; rw [HM.out.1]; have HR14 := Aside0.mk (below_step HR13.out hb_); have HX14 := Aside0.mk (below_step HX13.out hb_); clear hb_)
    | (go_at_call 26; (with_reducible refine (among_walk _ _ ([] : List ByteArray) (user.map bs) w14 (HR2.out.1.below HX14.out) (HV0.out.2.below HR14.out) HM.out.2.1 HM.out.2.2.1 HM.out.2.2.2).mono ?_); rintro e w15 ⟨rfl, hb_⟩; have HR15 := Aside0.mk (below_step HR14.out hb_); clear hb_)
    | (go_at_call 13; (with_reducible refine (live_walk w15).mono ?_); rintro e wL ⟨rfl, hb_⟩; have HZ := Aside0.mk (below_step HR15.out hb_); clear hb_))
  go_ret
  exact ⟨rfl, HZ.out⟩
set_option maxHeartbeats 16000000 in
set_option maxRecDepth 100000 in
theorem asks_some (v : Value) (U : Option Addr) (cU nu : Nat) (l : List Cb) (user : List S) (more : ByteArray) (ex inh b0 : Bool) (w : World) (hv : Bits w v l) (hu : Strs w (.slice U nu cU) (user.map bs)) (hn : user.length = nu) (hp : nu = 0) (hug : hugeB l user = false) (hi : AskIn l user more) (hq : ((runV l user ex inh).isSome = true ∧ (runV l user false inh).isSome = true ∧ (runV l user ex false).isSome = true ∧ (runV l (user ++ [tl more]) ex inh).isSome = b0 ∧ (runV l [] ex inh).isSome = true)) :
    Calls Tryd.prog 8 #[v, .slice U nu cU, .string more, .bool ex, .bool inh] w fun e w' => e = .returned (.bool true) ∧ Below w.heap.size w w' := by
  have HV0 := Aside0.mk (And.intro hv hu)
  have HN := Aside0.mk hn
  have HH := Aside0.mk hug
  have HI := Aside0.mk hi
  have HQ := Aside0.mk hq
  clear hv hu hn hug hi hq
  subst hp
  go_enter Tryd.func8, Tryd.ntmps8
  go_wp2_with (first
    | (go_at_call 14; refine (huge_walk _ _ l user w HV0.out.1 HV0.out.2 (by have := HI.out.ulen; omega)).mono ?_; rintro e w_ ⟨rfl, hs_⟩; subst w_; rw [HH.out])
    | (go_at_call 22; (with_reducible refine (chain_walk _ l w (HV0.out.1.below (Below.refl w.heap.size w)) HI.out.len).mono ?_); rintro e w1 ⟨v1, rfl, hv_, hb_⟩; have HC1 := Aside0.mk (And.intro hv_ (below_step (Below.refl w.heap.size w) hb_)); clear hv_ hb_)
    | (go_at_call 21; (with_reducible refine (run_res HQ.out.1 HC1.out.1 (HV0.out.2.below HC1.out.2) HI.out.len HI.out.pol HI.out.ulen HI.out.fit).mono ?_); rintro e w2 ⟨A2, n2, c2, rfl, hs_, hb_⟩; have HR2 := Aside0.mk (And.intro hs_ (below_step HC1.out.2 hb_)); have HX2 := Aside0.mk (Below.refl w2.heap.size w2); clear hs_ hb_)
    | (go_at_call 22; (with_reducible refine (chain_walk _ l w2 (HV0.out.1.below HR2.out.2) HI.out.len).mono ?_); rintro e w3 ⟨v3, rfl, hv_, hb_⟩; have HC3 := Aside0.mk (And.intro hv_ (below_step HR2.out.2 hb_)); have HX3 := Aside0.mk (below_step HX2.out hb_); clear hv_ hb_)
    | (go_at_call 21; (with_reducible refine (run_res HQ.out.2.1 HC3.out.1 (HV0.out.2.below HC3.out.2) HI.out.len HI.out.pol HI.out.ulen HI.out.fit).mono ?_); rintro e w4 ⟨A4, n4, c4, rfl, hs_, hb_⟩; have HR4 := Aside0.mk (And.intro hs_ (below_step HC3.out.2 hb_)); have HX4 := Aside0.mk (below_step HX3.out hb_); clear hs_ hb_)
    | (go_at_call 22; (with_reducible refine (chain_walk _ l w4 (HV0.out.1.below HR4.out.2) HI.out.len).mono ?_); rintro e w5 ⟨v5, rfl, hv_, hb_⟩; have HC5 := Aside0.mk (And.intro hv_ (below_step HR4.out.2 hb_)); have HX5 := Aside0.mk (below_step HX4.out hb_); clear hv_ hb_)
    | (go_at_call 21; (with_reducible refine (run_res HQ.out.2.2.1 HC5.out.1 (HV0.out.2.below HC5.out.2) HI.out.len HI.out.pol HI.out.ulen HI.out.fit).mono ?_); rintro e w6 ⟨A6, n6, c6, rfl, hs_, hb_⟩; have HR6 := Aside0.mk (And.intro hs_ (below_step HC5.out.2 hb_)); have HX6 := Aside0.mk (below_step HX5.out hb_); clear hs_ hb_)
    | (go_at_call 13; (with_reducible refine (live_walk w6).mono ?_); rintro e wL ⟨rfl, hb_⟩; have HZ := Aside0.mk (below_step HR6.out.2 hb_); clear hb_))
  go_ret
  exact ⟨rfl, HZ.out⟩
set_option maxHeartbeats 16000000 in
set_option maxRecDepth 100000 in
theorem asks_some_any (v : Value) (U : Option Addr) (cU nu : Nat) (l : List Cb) (user : List S) (more : ByteArray) (ex inh b0 : Bool) (w : World) (hv : Bits w v l) (hu : Strs w (.slice U nu cU) (user.map bs)) (hn : user.length = nu) (hp : 0 < nu) (hug : hugeB l user = false) (hi : AskIn l user more) (hq : ((runV l user ex inh).isSome = true ∧ (runV l user false inh).isSome = true ∧ (runV l user ex false).isSome = true ∧ (runV l (user ++ [tl more]) ex inh).isSome = true ∧ (runV l [] ex inh).isSome = true)) (hm : memB bAny (user.map bs) = true ∧ True) :
    Calls Tryd.prog 8 #[v, .slice U nu cU, .string more, .bool ex, .bool inh] w fun e w' => e = .returned (.bool true) ∧ Below w.heap.size w w' := by
  have HV0 := Aside0.mk (And.intro hv hu)
  have HN := Aside0.mk hn
  have HH := Aside0.mk hug
  have HI := Aside0.mk hi
  have HQ := Aside0.mk hq
  have HM := Aside0.mk hm
  clear hm
  clear hv hu hn hug hi hq
  have p1 : (0 < (nu : Int)) = True := by simpa using hp
  go_enter Tryd.func8, Tryd.ntmps8
  go_wp2_with (first
    | (go_at_call 14; refine (huge_walk _ _ l user w HV0.out.1 HV0.out.2 (by have := HI.out.ulen; omega)).mono ?_; rintro e w_ ⟨rfl, hs_⟩; subst w_; rw [HH.out])
    | (go_at_call 22; (with_reducible refine (chain_walk _ l w (HV0.out.1.below (Below.refl w.heap.size w)) HI.out.len).mono ?_); rintro e w1 ⟨v1, rfl, hv_, hb_⟩; have HC1 := Aside0.mk (And.intro hv_ (below_step (Below.refl w.heap.size w) hb_)); clear hv_ hb_)
    | (go_at_call 21; (with_reducible refine (run_res HQ.out.1 HC1.out.1 (HV0.out.2.below HC1.out.2) HI.out.len HI.out.pol HI.out.ulen HI.out.fit).mono ?_); rintro e w2 ⟨A2, n2, c2, rfl, hs_, hb_⟩; have HR2 := Aside0.mk (And.intro hs_ (below_step HC1.out.2 hb_)); have HX2 := Aside0.mk (Below.refl w2.heap.size w2); clear hs_ hb_)
    | (go_at_call 22; (with_reducible refine (chain_walk _ l w2 (HV0.out.1.below HR2.out.2) HI.out.len).mono ?_); rintro e w3 ⟨v3, rfl, hv_, hb_⟩; have HC3 := Aside0.mk (And.intro hv_ (below_step HR2.out.2 hb_)); have HX3 := Aside0.mk (below_step HX2.out hb_); clear hv_ hb_)
    | (go_at_call 21; (with_reducible refine (run_res HQ.out.2.1 HC3.out.1 (HV0.out.2.below HC3.out.2) HI.out.len HI.out.pol HI.out.ulen HI.out.fit).mono ?_); rintro e w4 ⟨A4, n4, c4, rfl, hs_, hb_⟩; have HR4 := Aside0.mk (And.intro hs_ (below_step HC3.out.2 hb_)); have HX4 := Aside0.mk (below_step HX3.out hb_); clear hs_ hb_)
    | (go_at_call 22; (with_reducible refine (chain_walk _ l w4 (HV0.out.1.below HR4.out.2) HI.out.len).mono ?_); rintro e w5 ⟨v5, rfl, hv_, hb_⟩; have HC5 := Aside0.mk (And.intro hv_ (below_step HR4.out.2 hb_)); have HX5 := Aside0.mk (below_step HX4.out hb_); clear hv_ hb_)
    | (go_at_call 21; (with_reducible refine (run_res HQ.out.2.2.1 HC5.out.1 (HV0.out.2.below HC5.out.2) HI.out.len HI.out.pol HI.out.ulen HI.out.fit).mono ?_); rintro e w6 ⟨A6, n6, c6, rfl, hs_, hb_⟩; have HR6 := Aside0.mk (And.intro hs_ (below_step HC5.out.2 hb_)); have HX6 := Aside0.mk (below_step HX5.out hb_); clear hs_ hb_)
    | (go_at_call 22; (with_reducible refine (chain_walk _ l w6 (HV0.out.1.below HR6.out.2) HI.out.len).mono ?_); rintro e w7 ⟨v7, rfl, hv_, hb_⟩; have HC7 := Aside0.mk (And.intro hv_ (below_step HR6.out.2 hb_)); have HX7 := Aside0.mk (below_step HX6.out hb_); clear hv_ hb_)
    | ((with_reducible refine gate_dst (N := 65) rfl ?_); refine Kd.R_lit Kd.string w7.heap.size 9 ?hg (N := 65) ?hd (xs := ([] : List ByteArray)) (inner := []) (ok := fun _ => True) (okp := fun _ => True) ?hr ?hp (fun _ hk => hk) trivial (Below.refl _ _) (Nat.le_refl _) (by simp) ?_; (case hd => rfl); (case hg => rfl); (case hr => first | (go_simp; done) | (go_simp; rfl)); (case hp => exact (Reps.none _ _)); intro v8 w8 hR_ hB_ hg_ hnew_; have HL8 := Aside0.mk (And.intro hR_ hB_); clear hR_ hB_ hg_ hnew_)
    | (at_builtin; refine Kd.R_append_rows Kd.string (w0 := w7) w7.heap.size rfl (.tmp 65) (.tmp 66) 23 9 (.string ⟨#[]⟩) 16 rfl Tryd.underlying23 info9 rfl (by decide) (by decide) _ ([] : List ByteArray) (user.map bs) U nu cU (fun _ => True) (fun _ => False) rfl rfl HL8.out.1 (row_of (HV0.out.2.below (below_step HC7.out.2 HL8.out.2))) (fun _ _ h => h) (fun _ h => h.elim) (fun _ _ => trivial) HL8.out.2 HL8.out.2.size (by have := HN.out; have := HI.out.ulen; simp only [List.length_nil]; omega) ?_; intro v9 w9 hR_ hB_ hg_ hat_; have HL9 := Aside0.mk (And.intro (show Kd.R Kd.string 9 w9 w7.heap.size (fun _ => True) v9 (user.map bs) from hR_) hB_); clear hR_ hB_ hg_ hat_)
    | (at_builtin; refine Kd.R_append Kd.string (w0 := w7) w7.heap.size rfl (.tmp 67) (.tmp 69) 23 9 (.string ⟨#[]⟩) 16 rfl Tryd.underlying23 info9 rfl (by decide) (by decide) _ (user.map bs) more [.string more] (fun _ => True) (fun _ => False) rfl rfl rfl (fun _ h => h.elim) (fun _ _ => trivial) HL9.out.1 HL9.out.2 HL9.out.2.size (by rw [List.length_map]; have := HI.out.ulen; omega) ?_; intro v10 w10 hR_ hB_ hg_ hat_; have HL10 := Aside0.mk (And.intro (show Strs w10 v10 ((user ++ [tl more]).map bs) by rw [HI.out.wmap]; exact strs_of_R hR_) (And.intro (HC7.out.1.below hB_) (below_step HC7.out.2 hB_))); have HX10 := Aside0.mk (below_step HX7.out hB_); clear hR_ hB_ hg_ hat_)
    | (go_at_call 21; (with_reducible refine (run_res HQ.out.2.2.2.1 HL10.out.2.1 HL10.out.1 HI.out.len HI.out.pol HI.out.wlen HI.out.wfit).mono ?_); rintro e w11 ⟨A11, n11, c11, rfl, hs_, hb_⟩; have HR11 := Aside0.mk (below_step HL10.out.2.2 hb_); have HX11 := Aside0.mk (below_step HX10.out hb_); clear hs_ hb_)
    | (go_at_call 22; (with_reducible refine (chain_walk _ l w11 (HV0.out.1.below HR11.out) HI.out.len).mono ?_); rintro e w12 ⟨v12, rfl, hv_, hb_⟩; have HC12 := Aside0.mk (And.intro hv_ (below_step HR11.out hb_)); have HX12 := Aside0.mk (below_step HX11.out hb_); clear hv_ hb_)
    | (go_at_call 21; (with_reducible refine (run_nil HQ.out.2.2.2.2 HC12.out.1 HI.out.len HI.out.pol).mono ?_); rintro e w13 ⟨A13, n13, c13, rfl, hb_⟩; have HR13 := Aside0.mk (below_step HC12.out.2 hb_); have HX13 := Aside0.mk (below_step HX12.out hb_); clear hb_)
    | (go_at_call 25; refine (has_walk bAny _ _ w13 (HV0.out.2.below HR13.out) (by rw [List.length_map]; have := HI.out.ulen; omega)).mono ?_; rintro e w14 ⟨rfl, hb_⟩; rw [HM.out.1]; have HR14 := Aside0.mk (below_step HR13.out hb_); have HX14 := Aside0.mk (below_step HX13.out hb_); clear hb_)
    | (go_at_call 13; (with_reducible refine (live_walk w14).mono ?_); rintro e wL ⟨rfl, hb_⟩; have HZ := Aside0.mk (below_step HR14.out hb_); clear hb_))
  go_ret
  exact ⟨rfl, HZ.out⟩
set_option maxHeartbeats 16000000 in
set_option maxRecDepth 100000 in
theorem asks_some_not (v : Value) (U : Option Addr) (cU nu : Nat) (l : List Cb) (user : List S) (more : ByteArray) (ex inh b0 : Bool) (w : World) (hv : Bits w v l) (hu : Strs w (.slice U nu cU) (user.map bs)) (hn : user.length = nu) (hp : 0 < nu) (hug : hugeB l user = false) (hi : AskIn l user more) (hq : ((runV l user ex inh).isSome = true ∧ (runV l user false inh).isSome = true ∧ (runV l user ex false).isSome = true ∧ (runV l (user ++ [tl more]) ex inh).isSome = true ∧ (runV l [] ex inh).isSome = true)) (hm : memB bAny (user.map bs) = false ∧ (((runV l user ex inh).getD []).map bs).length < 4611686018427387904 ∧ (user.map bs).length < 4611686018427387904 ∧ ∀ x ∈ (((runV l user ex inh).getD []).map bs), x ∈ user.map bs) :
    Calls Tryd.prog 8 #[v, .slice U nu cU, .string more, .bool ex, .bool inh] w fun e w' => e = .returned (.bool true) ∧ Below w.heap.size w w' := by
  have HV0 := Aside0.mk (And.intro hv hu)
  have HN := Aside0.mk hn
  have HH := Aside0.mk hug
  have HI := Aside0.mk hi
  have HQ := Aside0.mk hq
  have HM := Aside0.mk hm
  clear hm
  clear hv hu hn hug hi hq
  have p1 : (0 < (nu : Int)) = True := by simpa using hp
  go_enter Tryd.func8, Tryd.ntmps8
  go_wp2_with (first
    | (go_at_call 14; refine (huge_walk _ _ l user w HV0.out.1 HV0.out.2 (by have := HI.out.ulen; omega)).mono ?_; rintro e w_ ⟨rfl, hs_⟩; subst w_; rw [HH.out])
    | (go_at_call 22; (with_reducible refine (chain_walk _ l w (HV0.out.1.below (Below.refl w.heap.size w)) HI.out.len).mono ?_); rintro e w1 ⟨v1, rfl, hv_, hb_⟩; have HC1 := Aside0.mk (And.intro hv_ (below_step (Below.refl w.heap.size w) hb_)); clear hv_ hb_)
    | (go_at_call 21; (with_reducible refine (run_res HQ.out.1 HC1.out.1 (HV0.out.2.below HC1.out.2) HI.out.len HI.out.pol HI.out.ulen HI.out.fit).mono ?_); rintro e w2 ⟨A2, n2, c2, rfl, hs_, hb_⟩; have HR2 := Aside0.mk (And.intro hs_ (below_step HC1.out.2 hb_)); have HX2 := Aside0.mk (Below.refl w2.heap.size w2); clear hs_ hb_)
    | (go_at_call 22; (with_reducible refine (chain_walk _ l w2 (HV0.out.1.below HR2.out.2) HI.out.len).mono ?_); rintro e w3 ⟨v3, rfl, hv_, hb_⟩; have HC3 := Aside0.mk (And.intro hv_ (below_step HR2.out.2 hb_)); have HX3 := Aside0.mk (below_step HX2.out hb_); clear hv_ hb_)
    | (go_at_call 21; (with_reducible refine (run_res HQ.out.2.1 HC3.out.1 (HV0.out.2.below HC3.out.2) HI.out.len HI.out.pol HI.out.ulen HI.out.fit).mono ?_); rintro e w4 ⟨A4, n4, c4, rfl, hs_, hb_⟩; have HR4 := Aside0.mk (And.intro hs_ (below_step HC3.out.2 hb_)); have HX4 := Aside0.mk (below_step HX3.out hb_); clear hs_ hb_)
    | (go_at_call 22; (with_reducible refine (chain_walk _ l w4 (HV0.out.1.below HR4.out.2) HI.out.len).mono ?_); rintro e w5 ⟨v5, rfl, hv_, hb_⟩; have HC5 := Aside0.mk (And.intro hv_ (below_step HR4.out.2 hb_)); have HX5 := Aside0.mk (below_step HX4.out hb_); clear hv_ hb_)
    | (go_at_call 21; (with_reducible refine (run_res HQ.out.2.2.1 HC5.out.1 (HV0.out.2.below HC5.out.2) HI.out.len HI.out.pol HI.out.ulen HI.out.fit).mono ?_); rintro e w6 ⟨A6, n6, c6, rfl, hs_, hb_⟩; have HR6 := Aside0.mk (And.intro hs_ (below_step HC5.out.2 hb_)); have HX6 := Aside0.mk (below_step HX5.out hb_); clear hs_ hb_)
    | (go_at_call 22; (with_reducible refine (chain_walk _ l w6 (HV0.out.1.below HR6.out.2) HI.out.len).mono ?_); rintro e w7 ⟨v7, rfl, hv_, hb_⟩; have HC7 := Aside0.mk (And.intro hv_ (below_step HR6.out.2 hb_)); have HX7 := Aside0.mk (below_step HX6.out hb_); clear hv_ hb_)
    | ((with_reducible refine gate_dst (N := 65) rfl ?_); refine Kd.R_lit Kd.string w7.heap.size 9 ?hg (N := 65) ?hd (xs := ([] : List ByteArray)) (inner := []) (ok := fun _ => True) (okp := fun _ => True) ?hr ?hp (fun _ hk => hk) trivial (Below.refl _ _) (Nat.le_refl _) (by simp) ?_; (case hd => rfl); (case hg => rfl); (case hr => first | (go_simp; done) | (go_simp; rfl)); (case hp => exact (Reps.none _ _)); intro v8 w8 hR_ hB_ hg_ hnew_; have HL8 := Aside0.mk (And.intro hR_ hB_); clear hR_ hB_ hg_ hnew_)
    | (at_builtin; refine Kd.R_append_rows Kd.string (w0 := w7) w7.heap.size rfl (.tmp 65) (.tmp 66) 23 9 (.string ⟨#[]⟩) 16 rfl Tryd.underlying23 info9 rfl (by decide) (by decide) _ ([] : List ByteArray) (user.map bs) U nu cU (fun _ => True) (fun _ => False) rfl rfl HL8.out.1 (row_of (HV0.out.2.below (below_step HC7.out.2 HL8.out.2))) (fun _ _ h => h) (fun _ h => h.elim) (fun _ _ => trivial) HL8.out.2 HL8.out.2.size (by have := HN.out; have := HI.out.ulen; simp only [List.length_nil]; omega) ?_; intro v9 w9 hR_ hB_ hg_ hat_; have HL9 := Aside0.mk (And.intro (show Kd.R Kd.string 9 w9 w7.heap.size (fun _ => True) v9 (user.map bs) from hR_) hB_); clear hR_ hB_ hg_ hat_)
    | (at_builtin; refine Kd.R_append Kd.string (w0 := w7) w7.heap.size rfl (.tmp 67) (.tmp 69) 23 9 (.string ⟨#[]⟩) 16 rfl Tryd.underlying23 info9 rfl (by decide) (by decide) _ (user.map bs) more [.string more] (fun _ => True) (fun _ => False) rfl rfl rfl (fun _ h => h.elim) (fun _ _ => trivial) HL9.out.1 HL9.out.2 HL9.out.2.size (by rw [List.length_map]; have := HI.out.ulen; omega) ?_; intro v10 w10 hR_ hB_ hg_ hat_; have HL10 := Aside0.mk (And.intro (show Strs w10 v10 ((user ++ [tl more]).map bs) by rw [HI.out.wmap]; exact strs_of_R hR_) (And.intro (HC7.out.1.below hB_) (below_step HC7.out.2 hB_))); have HX10 := Aside0.mk (below_step HX7.out hB_); clear hR_ hB_ hg_ hat_)
    | (go_at_call 21; (with_reducible refine (run_res HQ.out.2.2.2.1 HL10.out.2.1 HL10.out.1 HI.out.len HI.out.pol HI.out.wlen HI.out.wfit).mono ?_); rintro e w11 ⟨A11, n11, c11, rfl, hs_, hb_⟩; have HR11 := Aside0.mk (below_step HL10.out.2.2 hb_); have HX11 := Aside0.mk (below_step HX10.out hb_); clear hs_ hb_)
    | (go_at_call 22; (with_reducible refine (chain_walk _ l w11 (HV0.out.1.below HR11.out) HI.out.len).mono ?_); rintro e w12 ⟨v12, rfl, hv_, hb_⟩; have HC12 := Aside0.mk (And.intro hv_ (below_step HR11.out hb_)); have HX12 := Aside0.mk (below_step HX11.out hb_); clear hv_ hb_)
    | (go_at_call 21; (with_reducible refine (run_nil HQ.out.2.2.2.2 HC12.out.1 HI.out.len HI.out.pol).mono ?_); rintro e w13 ⟨A13, n13, c13, rfl, hb_⟩; have HR13 := Aside0.mk (below_step HC12.out.2 hb_); have HX13 := Aside0.mk (below_step HX12.out hb_); clear hb_)
    | (go_at_call 25; refine (has_walk bAny _ _ w13 (HV0.out.2.below HR13.out) (by rw [List.length_map]; have := HI.out.ulen; omega)).mono ?_; rintro e w14 ⟨rfl, hb_⟩; rw [HM.out.1]; have HR14 := Aside0.mk (below_step HR13.out hb_); have HX14 := Aside0.mk (below_step HX13.out hb_); clear hb_)
    | (go_at_call 26; (with_reducible refine (among_walk _ _ (((runV l user ex inh).getD []).map bs) (user.map bs) w14 (HR2.out.1.below HX14.out) (HV0.out.2.below HR14.out) HM.out.2.1 HM.out.2.2.1 HM.out.2.2.2).mono ?_); rintro e w15 ⟨rfl, hb_⟩; have HR15 := Aside0.mk (below_step HR14.out hb_); clear hb_)
    | (go_at_call 13; (with_reducible refine (live_walk w15).mono ?_); rintro e wL ⟨rfl, hb_⟩; have HZ := Aside0.mk (below_step HR15.out hb_); clear hb_))
  go_ret
  exact ⟨rfl, HZ.out⟩
theorem asks_among {l : List Cb} {user : List S} {ex inh : Bool} (hu : user ≠ []) (ha : bAny ∉ user.map bs) : ∀ x ∈ ((runV l user ex inh).getD []).map bs, x ∈ user.map bs := by
  intro x hx
  obtain ⟨s, hs, rfl⟩ := List.mem_map.1 hx
  have hna : anyP ∉ user := fun h => ha (by rw [← bs_any]; exact (mem_bs anyP user).2 h)
  cases hr : runV l user ex inh with
  | none => simp [hr] at hs
  | some lf =>
    rw [hr] at hs
    exact List.mem_map.2 ⟨s, run_among user hu hna l _ lf hr s hs, rfl⟩
theorem asks_len {l : List Cb} {user : List S} {more : ByteArray} {ex inh : Bool} (hi : AskIn l user more) : (((runV l user ex inh).getD []).map bs).length < 4611686018427387904 := by
  rw [List.length_map]
  cases hr : runV l user ex inh with
  | none => simp
  | some lf =>
    have := runV_length hi.len hi.pol hi.ulen hr
    simp only [Option.getD_some]
    omega
theorem asks_row (v : Value) (l : List Cb) (uv : Value) (user : List S) (more : ByteArray) (ex inh : Bool) (w : World) (hv : Bits w v l ∧ ∀ b ∈ l, BitOk b) (hu : Strs w uv (user.map bs) ∧ FitS user) (hm : more.size ≤ 140737488351232) :
    Calls Tryd.prog 8 #[v, uv, .string more, .bool ex, .bool inh] w fun e w' => e = .returned (.bool true) ∧ Below w.heap.size w w' := by
  obtain ⟨hv, hok⟩ := hv
  obtain ⟨hu, fu⟩ := hu
  obtain ⟨U, cU, rfl, hcU, hnU⟩ := hu.open_
  by_cases hug : hugeB l user = true
  · exact asks_huge _ _ l user more ex inh w hv hu hnU hug
  rw [Bool.not_eq_true] at hug
  have hi := AskIn.mk_ hug hok fu hm
  have hul : (user.map bs).length < 4611686018427387904 := by
    rw [List.length_map]
    have := hi.ulen
    omega
  by_cases hr : runV l user ex inh = none
  · by_cases hn : user.length = 0
    · exact asks_none v U cU _ l user more ex inh _ _ _ _ w hv hu rfl hn hug hi ⟨hr, rfl, rfl, rfl, rfl⟩
    · by_cases ha : bAny ∈ user.map bs
      · exact asks_none_any v U cU _ l user more ex inh _ _ _ _ w hv hu rfl (by omega) hug hi ⟨hr, rfl, rfl, rfl, rfl⟩ ⟨memB_true ha, trivial⟩
      · exact asks_none_not v U cU _ l user more ex inh _ _ _ _ w hv hu rfl (by omega) hug hi ⟨hr, rfl, rfl, rfl, rfl⟩ ⟨memB_false ha, by decide, hul, fun x hx => by simp at hx⟩
  · by_cases hn : user.length = 0
    · exact asks_some v U cU _ l user more ex inh _ w hv hu rfl hn hug hi ⟨isSome_of hr, asks_free hr, asks_loose hr, rfl, asks_all hr⟩
    · have hne : user ≠ [] := fun e => hn (by rw [e]; rfl)
      by_cases ha : bAny ∈ user.map bs
      · exact asks_some_any v U cU _ l user more ex inh true w hv hu rfl (by omega) hug hi ⟨isSome_of hr, asks_free hr, asks_loose hr, asks_wide _ hne hr, asks_all hr⟩ ⟨memB_true ha, trivial⟩
      · exact asks_some_not v U cU _ l user more ex inh true w hv hu rfl (by omega) hug hi ⟨isSome_of hr, asks_free hr, asks_loose hr, asks_wide _ hne hr, asks_all hr⟩ ⟨memB_false ha, asks_len hi, hul, asks_among hne ha⟩
end Go.Proofs.YtgeoibgohlpfjaaDoor.Py
