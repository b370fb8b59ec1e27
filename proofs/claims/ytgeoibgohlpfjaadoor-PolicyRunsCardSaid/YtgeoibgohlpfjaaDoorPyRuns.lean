/- The law PolicyRuns, walked. -/
import Derived.Test.YtgeoibgohlpfjaaDoorPyRefRun
set_option linter.unusedVariables false
set_option linter.unusedSimpArgs false
namespace Go.Proofs.YtgeoibgohlpfjaaDoor.Py
open Go Go.RowKit Go.Maps Go.Proofs.YtgeoibgohlpfjaaDoorW.PrintWords Go.Proofs.YtgeoibgohlpfjaaDoorW.PrintLast Go.Proofs.YtgeoibgohlpfjaaDoorW.PrintMore
/-- what the reference's Run gives, in one form -/
theorem runR_vals {w : World} {v uv : Value} {l : List Cb} {user : List S} {ex inh : Bool} {r : Option (List S)} (hr : runV l user ex inh = r) (hv : Certs w v l) (hu : Strs w uv (user.map bs)) (hl : l.length ≤ 30) (hpol : ∀ c ∈ l, c.pol.length ≤ 1000 ∧ FitS c.pol) (hul : user.length ≤ 400000) :
    Calls Tryd.prog 23 #[v, uv, .bool ex, .bool inh] w fun e w' => ∃ A n c, e = .returned (.tuple #[.slice A n c, .bool r.isSome]) ∧ Strs w' (.slice A n c) ((r.getD []).map bs) ∧ Below w.heap.size w w' := by
  subst hr
  exact (runR_walk _ _ l user ex inh w hv hu hl hpol hul).mono fun e w' h => by
    obtain ⟨A, n, c, he, _, hs, hb⟩ := h.vals2
    exact ⟨A, n, c, he, hs, hb⟩
set_option maxHeartbeats 8000000 in
set_option maxRecDepth 100000 in
theorem runs_walk (v uv : Value) (l : List Cb) (user : List S) (ex inh : Bool) (w : World) (hv : Bits w v l) (hok : ∀ b ∈ l, BitOk b) (hu : Strs w uv (user.map bs)) (fu : FitS user) :
    Calls Tryd.prog 6 #[v, uv, .bool ex, .bool inh] w fun e w' => e = .returned (.bool true) ∧ Below w.heap.size w w' := by
  obtain ⟨U, cU, rfl, hcU, hnU⟩ := hu.open_
  have HV0 := Aside0.mk (And.intro hv hu)
  clear hv hu
  by_cases hug : hugeB l user = true
  · clear hok fu
    go_enter Tryd.func6, Tryd.ntmps6
    go_wp2_with (first
      | (go_at_call 14; refine (huge_walk _ _ l user w HV0.out.1 HV0.out.2 hnU).mono ?_; rintro e w_ ⟨rfl, hs_⟩; subst w_; rw [hug])
      | (go_at_call 13; (with_reducible refine (live_walk w).mono ?_); rintro e w1 ⟨rfl, hb1⟩; have HA := Aside0.mk hb1; clear hb1))
    go_ret
    exact ⟨rfl, HA.out⟩
  rw [Bool.not_eq_true] at hug
  obtain ⟨hl, hul, hpl⟩ := not_huge hug
  have hp1 : ∀ c ∈ l, c.pol.length ≤ 1000 ∧ FitS c.pol := fun c hc => ⟨by have := hpl c hc; omega, (hok c hc).1⟩
  generalize hr : runV l user ex inh = r
  have hrl : (r.getD []).length ≤ 1100000 := by
    cases r with
    | none => simp
    | some lf => exact runV_length hl hp1 (by omega) hr
  have HQ := Aside0.mk (And.intro hp1 (And.intro fu (And.intro hl (And.intro hul (And.intro hr (And.intro hrl (And.intro hug hnU)))))))
  clear hp1 fu hl hul hr hrl hug hpl hok hnU hcU
  obtain ⟨nu, hnu⟩ : ∃ n, user.length = n := ⟨_, rfl⟩
  rw [hnu] at HV0 ⊢
  clear hnu
  go_enter Tryd.func6, Tryd.ntmps6
  go_wp2_with (first
    | (go_at_call 14; refine (huge_walk _ _ l user w HV0.out.1 HV0.out.2 HQ.out.2.2.2.2.2.2.2).mono ?_; rintro e w_ ⟨rfl, hs_⟩; subst w_; rw [HQ.out.2.2.2.2.2.2.1])
    | (go_at_call 22; (with_reducible refine (chain_walk _ l w HV0.out.1 HQ.out.2.2.1).mono ?_); rintro e w1 ⟨v1, rfl, hv1, hb1⟩
       have HA := Aside0.mk (And.intro hv1 hb1); clear hv1 hb1)
    | (go_at_call 21; (with_reducible refine (run_vals HQ.out.2.2.2.2.1 HA.out.1 (HV0.out.2.below HA.out.2) HQ.out.2.2.1 HQ.out.1 (by have := HQ.out.2.2.2.1; omega) HQ.out.2.1).mono ?_); rintro e w2 ⟨A2, n2, c2, rfl, hs2, hb2⟩
       have HB := Aside0.mk (And.intro hs2 (below_step HA.out.2 hb2)); clear hs2 hb2)
    | (go_at_call 22; (with_reducible refine (chain_walk _ l w2 (HV0.out.1.below HB.out.2) HQ.out.2.2.1).mono ?_); rintro e w3 ⟨v3, rfl, hv3, hb3⟩
       have HC := Aside0.mk (And.intro hv3 (And.intro (HB.out.1.below hb3) (below_step HB.out.2 hb3))); clear hv3 hb3)
    | (go_at_call 23; (with_reducible refine (runR_vals HQ.out.2.2.2.2.1 HC.out.1 (HV0.out.2.below HC.out.2.2) HQ.out.2.2.1 HQ.out.1 (by have := HQ.out.2.2.2.1; omega)).mono ?_); rintro e w4 ⟨A4, n4, c4, rfl, hs4, hb4⟩
       have HD := Aside0.mk (And.intro hs4 (And.intro (HC.out.2.1.below hb4) (below_step HC.out.2.2 hb4))); clear hs4 hb4)
    | (go_at_call 20; refine (texts_walk _ _ _ _ w4 HD.out.2.1 HD.out.1 (by rw [List.length_map]; have := HQ.out.2.2.2.2.2.1; omega) (by rw [List.length_map]; have := HQ.out.2.2.2.2.2.1; omega)).mono ?_; rintro e w7 ⟨rfl, hb7⟩; rw [decide_eq_true rfl]
       have HG := Aside0.mk (below_step HD.out.2.2 hb7); clear hb7)
    | (go_at_call 13; (with_reducible refine (live_walk w7).mono ?_); rintro e w8 ⟨rfl, hb8⟩; have HI := Aside0.mk (below_step HG.out hb8); clear hb8))
  go_ret
  exact ⟨rfl, HI.out⟩
theorem runs_row (v : Value) (l : List Cb) (uv : Value) (user : List S) (ex inh : Bool) (w : World) (hv : Bits w v l ∧ ∀ b ∈ l, BitOk b) (hu : Strs w uv (user.map bs) ∧ FitS user) :
    Calls Tryd.prog 6 #[v, uv, .bool ex, .bool inh] w fun e w' => e = .returned (.bool true) ∧ Below w.heap.size w w' := runs_walk v uv l user ex inh w hv.1 hv.2 hu.1 hu.2
end Go.Proofs.YtgeoibgohlpfjaaDoor.Py
